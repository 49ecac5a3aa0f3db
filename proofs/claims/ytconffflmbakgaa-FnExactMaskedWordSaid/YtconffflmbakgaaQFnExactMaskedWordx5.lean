/- Go functions as Lean functions, and their contracts. Own text: written by wip/gen/pr.py (a turned copy of the print). -/
import Derived.Test.YtconffflmbakgaaQFnExactMaskedWordx0
import Derived.Test.YtconffflmbakgaaQFnExactMaskedWordx1
import Derived.Test.YtconffflmbakgaaQFnExactMaskedWordx3
import Derived.Test.YtconffflmbakgaaQFnExactMaskedWordx4
namespace Go.Proofs.Ytconffflmbakgaa.QFnExactMaskedWord
open Go.RowKit Go.Proofs.YtconffflmbakgaaW.PrintWords Go.Proofs.YtconffflmbakgaaW.PrintLast Go.Proofs.YtconffflmbakgaaW.PrintMore
attribute [local go_sem] max2_int min2_int max_two min_two max_three min_three max_four min_four   -- for this text's walks alone
open Go.Proofs.YtconffflmbakgaaW.PrintWords renaming below_alloc → ba, pw_below_drewN → bn, below_drew1 → be, below_set → bs, blk_drewN → kn, blk_drew → ke, blk_alloc → ka, blk_below → kb, blk_frozen → kf, blk_cell → kc, below_step → bq, below_size → bz, blk_lt → kl, blk_put → kp
open Go.Proofs.YtconffflmbakgaaW.PrintWords.Kd renaming R_alloc → ra, R_drewN → rn, R_drew → re, C_alloc → ca, C_drewN → cn, C_drew → ce, R_below → rb, C_below → cb
open Go.Proofs.YtconffflmbakgaaW.PrintWords.Aside0 renaming mk → Am
set_option linter.unusedVariables false
set_option linter.unusedSimpArgs false

theorem cl5 {w w2 : World} {a : Addr} {v : Value} (h : Aside0 (Below w.heap.size w w2)) (e : w.cell? a = some v) : w2.cell? a = some v := (h.out.cell (World.block_lt_of_cell? w _ e)).trans e
def o5b0 (p0 : Int) (p1 : Int) (p2 : Int) (p3 : Int) : Obj := .cells #[.int .i64 p0, .int .i64 p1, .int .i64 p2, .int .i64 p3] 29 (0, 0)
def o5b1 (p0 : ByteArray) (p1 : Option Addr) (p2 p3 : Nat) : Obj := .cells #[.string p0, .slice p1 p2 p3] 33 (0, 0)
def o5b2 (p0 : ByteArray) (p1 : Option Addr) (p2 p3 : Nat) : Obj := .cells #[.string p0, .slice p1 p2 p3] 26 (0, 0)
def o5b3 (p0 : Int) (p1 : Int) (p2 : Int) (p3 : Int) : Obj := .cells #[.int .i64 p0, .int .i64 p1, .int .i64 p2, .int .i64 p3] 23 (0, 0)
def o5b4 (p0 : Int) (p1 : ByteArray) (p2 : Bool) : Obj := .cells #[.int .i64 p0, .string p1, .bool p2] 149 (0, 0)
/-! ### spec_MaskedWord: function 11 -/
def spec_MaskedWord.j0 : Nat → Int → Int → Bool → Int → Int → Int → Int → ByteArray → List (S155) → Option (ByteArray)
 | 0, _, _, _, _, _, _, _, _, _ => none
 | k + 1, x1, x8, x30, x164000, x164001, x164002, x164003, x165000, x165001 => if x30 = true then (some (⟨#[]⟩ : ByteArray)) else ((spec_l26Kept.f x165000 x165001 x1).bind fun t170 => (if x8 = 1 then (if 0 ≤ 1 then (if 1 ≤ (t170.size : Int) then ((spec_WordText.f k (t170.extract 0 1)).bind fun t171 => (some t171)) else (none)) else (none)) else (if x8 = 5 then ((spec_l26Rec.f k x164000 x164001 x164002 x164003 x1).bind fun t172 => (if t172 = true then ((spec_MaskRec.f k t170).bind fun t173 => (some t173)) else (some t170))) else (if x8 = 6 then ((spec_l26All.f k t170 0).bind fun t174 => (if t174 = true then (some t170) else ((spec_l01Long.f k 8 255).bind fun t175 => (some t175)))) else (if x8 = 3 then ((spec_PartWords.f x164000 x164001 x164002 x164003).bind fun t176 => (if t176 = 0 then (none) else (if (Int.tmod (Int.tmod x1 t176) 2) = 1 then ((spec_l26Kept.f x165000 x165001 (wrap64 (x1 - 1))).bind fun t177 => ((spec_ReadAddress.f k t177).bind fun bt178 => (if bt178.2 = true then ((spec_l26Rec.f k x164000 x164001 x164002 x164003 bt178.1).bind fun t180 => (if t180 = true then ((spec_MaskRec.f k t170).bind fun t181 => (some t181)) else (some t170))) else (some t170)))) else (some t170)))) else (some t170))))))
def spec_MaskedWord.f (k : Nat) (a0_0 : Int) (a0_1 : Int) (a0_2 : Int) (a0_3 : Int) (a1 : Int) (a2_0 : ByteArray) (l2_1 : List (S155)) : Option (ByteArray) := (spec_PartAt.f k a0_0 a0_1 a0_2 a0_3 a1).bind fun bt165 => ((spec_l19Has.f k a2_0 l2_1 a0_0 a0_1 a0_2 a0_3).bind fun t167 => (if t167 = true then ((spec_LinesIn.f a0_0 a0_1 a0_2 a0_3).bind fun t168 => ((spec_l01In.f a1 0 (wrap64 ((wrap64 (2 * t168)) - 1))).bind fun t169 => (spec_MaskedWord.j0 k a1 bt165.2 (!t169) a0_0 a0_1 a0_2 a0_3 a2_0 l2_1))) else (spec_MaskedWord.j0 k a1 bt165.2 true a0_0 a0_1 a0_2 a0_3 a2_0 l2_1)))
theorem spec_MaskedWord.mono_l : ∀ k, (∀ y0 y1 y2 y3 y4 y5 y6 y7 y8, LeO (spec_MaskedWord.j0 k y0 y1 y2 y3 y4 y5 y6 y7 y8) (spec_MaskedWord.j0 (k + 1) y0 y1 y2 y3 y4 y5 y6 y7 y8))
 | 0 => fun _ _ _ _ _ _ _ _ _ r h => by simp [spec_MaskedWord.j0] at h
 | k + 1 => by
  have ih0 := spec_MaskedWord.mono_l k
  ·intro y0 y1 y2 y3 y4 y5 y6 y7 y8
   unfold spec_MaskedWord.j0
   repeat' first
   | (with_reducible exact ih0 _ _ _ _ _ _ _ _ _)
   | (with_reducible exact spec_MaskRec.mono _ _)
   | (with_reducible exact spec_PartAt.mono _ _ _ _ _ _)
   | (with_reducible exact spec_ReadAddress.mono _ _)
   | (with_reducible exact spec_WordText.mono _ _)
   | (with_reducible exact spec_l01Long.mono _ _ _)
   | (with_reducible exact spec_l19Has.mono _ _ _ _ _ _ _)
   | (with_reducible exact spec_l26All.mono _ _ _)
   | (with_reducible exact spec_l26Rec.mono _ _ _ _ _ _)
   | (with_reducible exact LeO.refl _)
   | (with_reducible exact LeO.none _)
   | (with_reducible refine LeO.ite ?_ ?_)
   | (with_reducible refine LeO.bind ?_ (fun _ => ?_))
   | exact ih0 _ _ _ _ _ _ _ _ _
   | exact spec_MaskRec.mono _ _
   | exact spec_PartAt.mono _ _ _ _ _ _
   | exact spec_ReadAddress.mono _ _
   | exact spec_WordText.mono _ _
   | exact spec_l01Long.mono _ _ _
   | exact spec_l19Has.mono _ _ _ _ _ _ _
   | exact spec_l26All.mono _ _ _
   | exact spec_l26Rec.mono _ _ _ _ _ _
   | exact LeO.none _
   | refine LeO.ite ?_ ?_
   | refine LeO.bind ?_ (fun _ => ?_)
theorem spec_MaskedWord.mono : ∀ a0 a1 a2 a3 a4 a5 a6 k, LeO (spec_MaskedWord.f k a0 a1 a2 a3 a4 a5 a6) (spec_MaskedWord.f (k + 1) a0 a1 a2 a3 a4 a5 a6) := by
 intro a0 a1 a2 a3 a4 a5 a6 k
 have ih0 := spec_MaskedWord.mono_l k
 unfold spec_MaskedWord.f
 repeat' first
   | (with_reducible exact ih0 _ _ _ _ _ _ _ _ _)
   | (with_reducible exact spec_MaskRec.mono _ _)
   | (with_reducible exact spec_PartAt.mono _ _ _ _ _ _)
   | (with_reducible exact spec_ReadAddress.mono _ _)
   | (with_reducible exact spec_WordText.mono _ _)
   | (with_reducible exact spec_l01Long.mono _ _ _)
   | (with_reducible exact spec_l19Has.mono _ _ _ _ _ _ _)
   | (with_reducible exact spec_l26All.mono _ _ _)
   | (with_reducible exact spec_l26Rec.mono _ _ _ _ _ _)
   | (with_reducible exact LeO.refl _)
   | (with_reducible exact LeO.none _)
   | (with_reducible refine LeO.ite ?_ ?_)
   | (with_reducible refine LeO.bind ?_ (fun _ => ?_))
   | exact ih0 _ _ _ _ _ _ _ _ _
   | exact spec_MaskRec.mono _ _
   | exact spec_PartAt.mono _ _ _ _ _ _
   | exact spec_ReadAddress.mono _ _
   | exact spec_WordText.mono _ _
   | exact spec_l01Long.mono _ _ _
   | exact spec_l19Has.mono _ _ _ _ _ _ _
   | exact spec_l26All.mono _ _ _
   | exact spec_l26Rec.mono _ _ _ _ _ _
   | exact LeO.none _
   | refine LeO.ite ?_ ?_
   | refine LeO.bind ?_ (fun _ => ?_)
set_option maxHeartbeats 8000000 in
set_option maxRecDepth 100000 in
theorem spec_MaskedWord.calls (k : Nat) (a0_0 : Int) (a0_1 : Int) (a0_2 : Int) (a0_3 : Int) (a1 : Int) (a2_0 : ByteArray) (A2_1 : Option Addr) (c2_1 : Nat) (l2_1 : List (S155)) (r : ByteArray) (w : World) (hr2_1 : Kd.C k155 w A2_1 l2_1.length l2_1) (hc2_1 : l2_1.length ≤ c2_1) (h : spec_MaskedWord.f k a0_0 a0_1 a0_2 a0_3 a1 a2_0 l2_1 = some r) :
  Calls Try.prog 11 #[.agg #[.int .i64 a0_0, .int .i64 a0_1, .int .i64 a0_2, .int .i64 a0_3], .int .i64 a1, .agg #[.string a2_0, .slice A2_1 l2_1.length c2_1]] w fun e w' => e = .returned (.string r) ∧ Below w.heap.size w w' := by
 have hu29 := Try.underlying29
 have hu33 := Try.underlying33
 have HR2_1 := Am hr2_1
 have HC2_1 := Am hc2_1
 clear hr2_1 hc2_1
 have HB := Am (Below.refl w.heap.size w)
 have H : ((spec_PartAt.f k a0_0 a0_1 a0_2 a0_3 a1).bind fun bt165 => ((spec_l19Has.f k a2_0 l2_1 a0_0 a0_1 a0_2 a0_3).bind fun t167 => (if t167 = true then ((spec_LinesIn.f a0_0 a0_1 a0_2 a0_3).bind fun t168 => ((spec_l01In.f a1 0 (wrap64 ((wrap64 (2 * t168)) - 1))).bind fun t169 => (spec_MaskedWord.j0 k a1 bt165.2 (!t169) a0_0 a0_1 a0_2 a0_3 a2_0 l2_1))) else (spec_MaskedWord.j0 k a1 bt165.2 true a0_0 a0_1 a0_2 a0_3 a2_0 l2_1)))) = some r := h
 clear h
 replace H := Option.bind_eq_some_iff.mp H
 obtain ⟨⟨t165, t166⟩, A40, H⟩ := H
 replace H : ((spec_l19Has.f k a2_0 l2_1 a0_0 a0_1 a0_2 a0_3).bind fun t167 => (if t167 = true then ((spec_LinesIn.f a0_0 a0_1 a0_2 a0_3).bind fun t168 => ((spec_l01In.f a1 0 (wrap64 ((wrap64 (2 * t168)) - 1))).bind fun t169 => (spec_MaskedWord.j0 k a1 t166 (!t169) a0_0 a0_1 a0_2 a0_3 a2_0 l2_1))) else (spec_MaskedWord.j0 k a1 t166 true a0_0 a0_1 a0_2 a0_3 a2_0 l2_1))) = some r := H
 have A4 := Am A40
 clear A40
 have HC5 := Am H
 clear H
 go_enter Try.func11, Try.ntmps11
 go_upto_region 2 with (first | ((with_reducible refine gate_dst (N := 3) rfl ?_); refine box_event ?hg (N := 3) ?hd (cs := #[.int .i64 a0_0, .int .i64 a0_1, .int .i64 a0_2, .int .i64 a0_3]) (t := 29) ?hr ?_; (case hd => rfl); (case hg => rfl); (case hr => first | (go_simp; done) | (go_simp; rfl)); intro gb163 hg w6 hbox hb; have BK163 := Am (hbox); have GW163 := Am ((by rw [hg]; exact (bz (by repeat (first | (with_reducible first | exact HB.out | apply ba | apply bn | apply be) | exact HB.out))) : w.heap.size ≤ gb163)); have GE163 := Am ((by rw [hg]; exact (bz (by repeat (first | (with_reducible first | exact HB.out | apply ba | apply bn | apply be) | exact HB.out))) : w.heap.size ≤ gb163)); replace HB := Am (bq (by repeat (first | (with_reducible first | exact HB.out | apply ba | apply bn | apply be) | exact HB.out)) hb); clear hb hbox hg) | ((with_reducible refine gate_dst (N := 5) rfl ?_); refine box_event ?hg (N := 5) ?hd (cs := #[.string a2_0, .slice A2_1 l2_1.length c2_1]) (t := 33) ?hr ?_; (case hd => rfl); (case hg => rfl); (case hr => first | (go_simp; done) | (go_simp; rfl)); intro gb164 hg w7 hbox hb; have n0_ := Am (kb (g := gb163) (o := o5b0 a0_0 a0_1 a0_2 a0_3) (by (with_reducible repeat (first | refine kn ?_ _ | refine ke ?_ | refine ka ?_ _)); exact BK163.out) hb); have n1_ := Am (bq (by repeat (first | (with_reducible first | exact HB.out | apply ba | apply bn | apply be | refine bs ?_ GE163.out) | exact HB.out)) hb); have n2_ := Am (hbox); have n3_ := Am ((by rw [hg]; exact (bz (by repeat (first | (with_reducible first | exact HB.out | apply ba | apply bn | apply be | refine bs ?_ GE163.out) | exact HB.out))) : w.heap.size ≤ gb164)); have n4_ := Am ((by rw [hg]; exact (bz (by repeat (first | (with_reducible first | exact HB.out | apply ba | apply bn | apply be | refine bs ?_ GE163.out) | exact HB.out))) : w.heap.size ≤ gb164)); have n5_ := Am ((by rw [hg]; exact Nat.ne_of_lt (kl (g := gb163) (o := o5b0 a0_0 a0_1 a0_2 a0_3) (by (with_reducible repeat (first | refine kn ?_ _ | refine ke ?_ | refine ka ?_ _)); exact BK163.out)) : gb163 ≠ gb164)); have n6_ := Am ((by rw [hg]; exact Nat.ne_of_gt (kl (g := gb163) (o := o5b0 a0_0 a0_1 a0_2 a0_3) (by (with_reducible repeat (first | refine kn ?_ _ | refine ke ?_ | refine ka ?_ _)); exact BK163.out)) : gb164 ≠ gb163)); clear BK163; clear HB; have BK163 := n0_; have HB := n1_; have BK164 := n2_; have GW164 := n3_; have GE164 := n4_; have NB163_164 := n5_; have NB164_163 := n6_; clear n0_ n1_ n2_ n3_ n4_ n5_ n6_; clear hb hbox hg; have hnb8 := NB163_164.out; have hnc8 := NB164_163.out; have hcz9_0 : w7.cell? ⟨gb163, 0, none⟩ = some (.int .i64 a0_0) := (kc BK163.out 0).trans rfl; have hcz9_1 : w7.cell? ⟨gb163, 1, none⟩ = some (.int .i64 a0_1) := (kc BK163.out 1).trans rfl; have hcz9_2 : w7.cell? ⟨gb163, 2, none⟩ = some (.int .i64 a0_2) := (kc BK163.out 2).trans rfl; have hcz9_3 : w7.cell? ⟨gb163, 3, none⟩ = some (.int .i64 a0_3) := (kc BK163.out 3).trans rfl; have hfz9_0 := kf BK163.out 0; have hfz9_1 := kf BK163.out 1; have hfz9_2 := kf BK163.out 2; have hfz9_3 := kf BK163.out 3) | ((with_reducible refine gate_callee (f := 45) rfl ?_); refine goesL_ (some 15) rfl rfl Try.func45 (by kernel_rfl) rfl #[.agg #[.int .i64 a0_0, .int .i64 a0_1, .int .i64 a0_2, .int .i64 a0_3], .int .i64 a1] rfl (by (try simp only [List.map_toArray, List.map_cons, List.map_nil]); first | done | rfl | (simp only [List.length_drop, List.length_take]; rfl)) ?_; (with_reducible refine (spec_PartAt.calls k a0_0 a0_1 a0_2 a0_3 a1 t165 t166 _ A4.out).mono ?_); rintro e w10 ⟨rfl, hb⟩; refine ⟨_, rfl, ?_⟩; have n0_ := Am (kb (g := gb163) (o := o5b0 a0_0 a0_1 a0_2 a0_3) (by (with_reducible repeat (first | refine kn ?_ _ | refine ke ?_ | refine ka ?_ _)); exact BK163.out) hb); have n1_ := Am (kb (g := gb164) (o := o5b1 a2_0 A2_1 l2_1.length c2_1) (by (with_reducible repeat (first | refine kn ?_ _ | refine ke ?_ | refine ka ?_ _)); exact BK164.out) hb); have n2_ := Am (bq (by repeat (first | (with_reducible first | exact HB.out | apply ba | apply bn | apply be | refine bs ?_ GE163.out | refine bs ?_ GE164.out) | exact HB.out)) hb); clear BK163; clear BK164; clear HB; have BK163 := n0_; have BK164 := n1_; have HB := n2_; clear n0_ n1_ n2_; (try clear hb)))
 (try simp only [Act.put, List.setIfInBounds_toArray, List.set_cons_zero, List.set_cons_succ])
 go_cut [30] (fun v30 wc => ∃ (kq : Nat) (x30_4 : Bool), v30 = .bool x30_4 ∧ Aside0 (spec_MaskedWord.j0 kq a1 t166 x30_4 a0_0 a0_1 a0_2 a0_3 a2_0 l2_1 = some r) ∧ Aside0 (kq ≤ k) ∧ Aside0 (wc.heap[gb163]? = some (.cells #[.int .i64 a0_0, .int .i64 a0_1, .int .i64 a0_2, .int .i64 a0_3] 29 (0, 0))) ∧ Aside0 (wc.heap[gb164]? = some (.cells #[.string a2_0, (.slice A2_1 l2_1.length c2_1)] 33 (0, 0))) ∧ Aside0 (Below w.heap.size w wc))
 case first =>
  have H := HC5.out
  clear HC5
  replace H := Option.bind_eq_some_iff.mp H
  obtain ⟨t167, A110, H⟩ := H
  replace H : (if t167 = true then ((spec_LinesIn.f a0_0 a0_1 a0_2 a0_3).bind fun t168 => ((spec_l01In.f a1 0 (wrap64 ((wrap64 (2 * t168)) - 1))).bind fun t169 => (spec_MaskedWord.j0 k a1 t166 (!t169) a0_0 a0_1 a0_2 a0_3 a2_0 l2_1))) else (spec_MaskedWord.j0 k a1 t166 true a0_0 a0_1 a0_2 a0_3 a2_0 l2_1)) = some r := H
  have A11 := Am A110
  clear A110
  by_cases c12 : t167 = true
  ·subst c12
   have H1 : ((spec_LinesIn.f a0_0 a0_1 a0_2 a0_3).bind fun t168 => ((spec_l01In.f a1 0 (wrap64 ((wrap64 (2 * t168)) - 1))).bind fun t169 => (spec_MaskedWord.j0 k a1 t166 (!t169) a0_0 a0_1 a0_2 a0_3 a2_0 l2_1))) = some r := by rw [if_pos rfl] at H; exact H
   clear H
   have H := H1
   clear H1
   replace H := Option.bind_eq_some_iff.mp H
   obtain ⟨t168, A130, H⟩ := H
   replace H : ((spec_l01In.f a1 0 (wrap64 ((wrap64 (2 * t168)) - 1))).bind fun t169 => (spec_MaskedWord.j0 k a1 t166 (!t169) a0_0 a0_1 a0_2 a0_3 a2_0 l2_1)) = some r := H
   have A13 := Am A130
   clear A130
   replace H := Option.bind_eq_some_iff.mp H
   obtain ⟨t169, A140, H⟩ := H
   replace H : (spec_MaskedWord.j0 k a1 t166 (!t169) a0_0 a0_1 a0_2 a0_3 a2_0 l2_1) = some r := H
   have A14 := Am A140
   clear A140
   have H' := Am H
   clear H
   have hnb15 := NB164_163.out
   have hnc15 := NB163_164.out
   have hcz16_0 : w10.cell? ⟨gb164, 0, none⟩ = some (.string a2_0) := (kc BK164.out 0).trans rfl
   have hcz16_1 : w10.cell? ⟨gb164, 1, none⟩ = some (.slice A2_1 l2_1.length c2_1) := (kc BK164.out 1).trans rfl
   have hfz16_0 := kf BK164.out 0
   have hfz16_1 := kf BK164.out 1
   have hcz17_0 : w10.cell? ⟨gb163, 0, none⟩ = some (.int .i64 a0_0) := (kc BK163.out 0).trans rfl
   have hcz17_1 : w10.cell? ⟨gb163, 1, none⟩ = some (.int .i64 a0_1) := (kc BK163.out 1).trans rfl
   have hcz17_2 : w10.cell? ⟨gb163, 2, none⟩ = some (.int .i64 a0_2) := (kc BK163.out 2).trans rfl
   have hcz17_3 : w10.cell? ⟨gb163, 3, none⟩ = some (.int .i64 a0_3) := (kc BK163.out 3).trans rfl
   have hfz17_0 := kf BK163.out 0
   have hfz17_1 := kf BK163.out 1
   have hfz17_2 := kf BK163.out 2
   have hfz17_3 := kf BK163.out 3
   go_wp2_with (first | ((with_reducible refine gate_callee (f := 46) rfl ?_); refine goesL_ (some 20) rfl rfl Try.func46 (by kernel_rfl) rfl #[.agg #[.string a2_0, .slice A2_1 l2_1.length c2_1], .agg #[.int .i64 a0_0, .int .i64 a0_1, .int .i64 a0_2, .int .i64 a0_3]] rfl (by (try simp only [List.map_toArray, List.map_cons, List.map_nil]); first | done | rfl | (simp only [List.length_drop, List.length_take]; rfl)) ?_; (with_reducible refine (spec_l19Has.calls k a2_0 _ _ l2_1 a0_0 a0_1 a0_2 a0_3 true _ ?side1 ?side2 A11.out).mono ?_); (case side1 => repeat (first | exact (cb HR2_1.out HB.out) | (with_reducible first | refine ca ?_ _ | refine cn ?_ _ | refine ce ?_))); (case side2 => exact HC2_1.out); rintro e w18 ⟨rfl, hb⟩; refine ⟨_, rfl, ?_⟩; have n0_ := Am (kb (g := gb163) (o := o5b0 a0_0 a0_1 a0_2 a0_3) (by (with_reducible repeat (first | refine kn ?_ _ | refine ke ?_ | refine ka ?_ _)); exact BK163.out) hb); have n1_ := Am (kb (g := gb164) (o := o5b1 a2_0 A2_1 l2_1.length c2_1) (by (with_reducible repeat (first | refine kn ?_ _ | refine ke ?_ | refine ka ?_ _)); exact BK164.out) hb); have n2_ := Am (bq (by repeat (first | (with_reducible first | exact HB.out | apply ba | apply bn | apply be | refine bs ?_ GE163.out | refine bs ?_ GE164.out) | exact HB.out)) hb); clear BK163; clear BK164; clear HB; have BK163 := n0_; have BK164 := n1_; have HB := n2_; clear n0_ n1_ n2_; (try clear hb); have hcz19_0 : w18.cell? ⟨gb163, 0, none⟩ = some (.int .i64 a0_0) := (kc BK163.out 0).trans rfl; have hcz19_1 : w18.cell? ⟨gb163, 1, none⟩ = some (.int .i64 a0_1) := (kc BK163.out 1).trans rfl; have hcz19_2 : w18.cell? ⟨gb163, 2, none⟩ = some (.int .i64 a0_2) := (kc BK163.out 2).trans rfl; have hcz19_3 : w18.cell? ⟨gb163, 3, none⟩ = some (.int .i64 a0_3) := (kc BK163.out 3).trans rfl; have hfz19_0 := kf BK163.out 0; have hfz19_1 := kf BK163.out 1; have hfz19_2 := kf BK163.out 2; have hfz19_3 := kf BK163.out 3) | (go_at_call 48; (with_reducible refine (spec_LinesIn.calls a0_0 a0_1 a0_2 a0_3 t168 _ A13.out).mono ?_); rintro e w20 ⟨rfl, hb⟩; have n0_ := Am (kb (g := gb163) (o := o5b0 a0_0 a0_1 a0_2 a0_3) (by (with_reducible repeat (first | refine kn ?_ _ | refine ke ?_ | refine ka ?_ _)); exact BK163.out) hb); have n1_ := Am (kb (g := gb164) (o := o5b1 a2_0 A2_1 l2_1.length c2_1) (by (with_reducible repeat (first | refine kn ?_ _ | refine ke ?_ | refine ka ?_ _)); exact BK164.out) hb); have n2_ := Am (bq (by repeat (first | (with_reducible first | exact HB.out | apply ba | apply bn | apply be | refine bs ?_ GE163.out | refine bs ?_ GE164.out) | exact HB.out)) hb); clear BK163; clear BK164; clear HB; have BK163 := n0_; have BK164 := n1_; have HB := n2_; clear n0_ n1_ n2_; (try clear hb)) | (go_at_call 47; (with_reducible refine (spec_l01In.calls a1 0 (wrap64 ((wrap64 (2 * t168)) - 1)) t169 _ A14.out).mono ?_); rintro e w' ⟨rfl, ⟨nd, rfl⟩⟩))
   go_meet
   case rel => exact ⟨_, (!t169), (by first | rfl | (simp; done) | (simp [*]; done)), H', ⟨by first | omega | exact Nat.le_refl _⟩, ⟨by (with_reducible repeat (first | refine kn ?_ _ | refine ke ?_ | refine ka ?_ _)); exact BK163.out⟩, ⟨by (with_reducible repeat (first | refine kn ?_ _ | refine ke ?_ | refine ka ?_ _)); exact BK164.out⟩, ⟨by repeat (first | (with_reducible first | exact HB.out | apply ba | apply bn | apply be | refine bs ?_ GE163.out | refine bs ?_ GE164.out) | exact HB.out)⟩⟩
  ·replace c12 := Bool.eq_false_iff.mpr c12
   subst c12
   have H1 : (spec_MaskedWord.j0 k a1 t166 true a0_0 a0_1 a0_2 a0_3 a2_0 l2_1) = some r := by rw [if_neg (show ¬ (false = true) by decide)] at H; exact H
   clear H
   have H := H1
   clear H1
   have H' := Am H
   clear H
   have hnb21 := NB164_163.out
   have hnc21 := NB163_164.out
   have hcz22_0 : w10.cell? ⟨gb164, 0, none⟩ = some (.string a2_0) := (kc BK164.out 0).trans rfl
   have hcz22_1 : w10.cell? ⟨gb164, 1, none⟩ = some (.slice A2_1 l2_1.length c2_1) := (kc BK164.out 1).trans rfl
   have hfz22_0 := kf BK164.out 0
   have hfz22_1 := kf BK164.out 1
   have hcz23_0 : w10.cell? ⟨gb163, 0, none⟩ = some (.int .i64 a0_0) := (kc BK163.out 0).trans rfl
   have hcz23_1 : w10.cell? ⟨gb163, 1, none⟩ = some (.int .i64 a0_1) := (kc BK163.out 1).trans rfl
   have hcz23_2 : w10.cell? ⟨gb163, 2, none⟩ = some (.int .i64 a0_2) := (kc BK163.out 2).trans rfl
   have hcz23_3 : w10.cell? ⟨gb163, 3, none⟩ = some (.int .i64 a0_3) := (kc BK163.out 3).trans rfl
   have hfz23_0 := kf BK163.out 0
   have hfz23_1 := kf BK163.out 1
   have hfz23_2 := kf BK163.out 2
   have hfz23_3 := kf BK163.out 3
   go_wp2_with (first | ((with_reducible refine gate_callee (f := 46) rfl ?_); refine goesL_ (some 20) rfl rfl Try.func46 (by kernel_rfl) rfl #[.agg #[.string a2_0, .slice A2_1 l2_1.length c2_1], .agg #[.int .i64 a0_0, .int .i64 a0_1, .int .i64 a0_2, .int .i64 a0_3]] rfl (by (try simp only [List.map_toArray, List.map_cons, List.map_nil]); first | done | rfl | (simp only [List.length_drop, List.length_take]; rfl)) ?_; (with_reducible refine (spec_l19Has.calls k a2_0 _ _ l2_1 a0_0 a0_1 a0_2 a0_3 false _ ?side1 ?side2 A11.out).mono ?_); (case side1 => repeat (first | exact (cb HR2_1.out HB.out) | (with_reducible first | refine ca ?_ _ | refine cn ?_ _ | refine ce ?_))); (case side2 => exact HC2_1.out); rintro e w24 ⟨rfl, hb⟩; refine ⟨_, rfl, ?_⟩; have n0_ := Am (kb (g := gb163) (o := o5b0 a0_0 a0_1 a0_2 a0_3) (by (with_reducible repeat (first | refine kn ?_ _ | refine ke ?_ | refine ka ?_ _)); exact BK163.out) hb); have n1_ := Am (kb (g := gb164) (o := o5b1 a2_0 A2_1 l2_1.length c2_1) (by (with_reducible repeat (first | refine kn ?_ _ | refine ke ?_ | refine ka ?_ _)); exact BK164.out) hb); have n2_ := Am (bq (by repeat (first | (with_reducible first | exact HB.out | apply ba | apply bn | apply be | refine bs ?_ GE163.out | refine bs ?_ GE164.out) | exact HB.out)) hb); clear BK163; clear BK164; clear HB; have BK163 := n0_; have BK164 := n1_; have HB := n2_; clear n0_ n1_ n2_; (try clear hb)))
   go_meet
   case rel => exact ⟨_, (true), (by first | rfl | (simp; done) | (simp [*]; done)), H', ⟨by first | omega | exact Nat.le_refl _⟩, ⟨by (with_reducible repeat (first | refine kn ?_ _ | refine ke ?_ | refine ka ?_ _)); exact BK163.out⟩, ⟨by (with_reducible repeat (first | refine kn ?_ _ | refine ke ?_ | refine ka ?_ _)); exact BK164.out⟩, ⟨by repeat (first | (with_reducible first | exact HB.out | apply ba | apply bn | apply be | refine bs ?_ GE163.out | refine bs ?_ GE164.out) | exact HB.out)⟩⟩
 case rest =>
  clear HC5
  try clear c1
  try clear c2
  try clear p2
  try clear c4
  try clear p6
  try clear c8
  try clear c11
  try clear c12
  try clear c15
  try clear c21
  try clear hcz16_0
  try clear hcz16_1
  try clear hcz17_0
  try clear hcz17_1
  try clear hcz17_2
  try clear hcz17_3
  try clear hcz19_0
  try clear hcz19_1
  try clear hcz19_2
  try clear hcz19_3
  try clear hcz22_0
  try clear hcz22_1
  try clear hcz23_0
  try clear hcz23_1
  try clear hcz23_2
  try clear hcz23_3
  try clear hcz9_0
  try clear hcz9_1
  try clear hcz9_2
  try clear hcz9_3
  try clear hfz16_0
  try clear hfz16_1
  try clear hfz17_0
  try clear hfz17_1
  try clear hfz17_2
  try clear hfz17_3
  try clear hfz19_0
  try clear hfz19_1
  try clear hfz19_2
  try clear hfz19_3
  try clear hfz22_0
  try clear hfz22_1
  try clear hfz23_0
  try clear hfz23_1
  try clear hfz23_2
  try clear hfz23_3
  try clear hfz9_0
  try clear hfz9_1
  try clear hfz9_2
  try clear hfz9_3
  obtain ⟨kq, x30_4, rfl, HA, HJ4, BK163, BK164, HB⟩ := hcut
  cases kq with
  | zero => exact absurd HA.out (by simp [spec_MaskedWord.j0])
  | succ kj4 =>
   have H := HA.out
   clear HA
   simp only [spec_MaskedWord.j0] at H
   by_cases c25 : x30_4 = true
   ·subst c25
    have H1 : (some (⟨#[]⟩ : ByteArray)) = some r := by rw [if_pos rfl] at H; exact H
    clear H
    have H := H1
    clear H1
    obtain rfl := Option.some.inj H
    go_wp2
    go_ret
    exact ⟨by first | rfl | (simp [errW_none, errW_some] <;> rfl) | (simp [*, errW_none, errW_some] <;> rfl), by repeat (first | (with_reducible first | exact HB.out | apply ba | apply bn | apply be | refine bs ?_ GE163.out | refine bs ?_ GE164.out) | exact HB.out)⟩
   ·replace c25 := Bool.eq_false_iff.mpr c25
    subst c25
    have H1 : ((spec_l26Kept.f a2_0 l2_1 a1).bind fun t170 => (if t166 = 1 then (if 0 ≤ 1 then (if 1 ≤ (t170.size : Int) then ((spec_WordText.f kj4 (t170.extract 0 1)).bind fun t171 => (some t171)) else (none)) else (none)) else (if t166 = 5 then ((spec_l26Rec.f kj4 a0_0 a0_1 a0_2 a0_3 a1).bind fun t172 => (if t172 = true then ((spec_MaskRec.f kj4 t170).bind fun t173 => (some t173)) else (some t170))) else (if t166 = 6 then ((spec_l26All.f kj4 t170 0).bind fun t174 => (if t174 = true then (some t170) else ((spec_l01Long.f kj4 8 255).bind fun t175 => (some t175)))) else (if t166 = 3 then ((spec_PartWords.f a0_0 a0_1 a0_2 a0_3).bind fun t176 => (if t176 = 0 then (none) else (if (Int.tmod (Int.tmod a1 t176) 2) = 1 then ((spec_l26Kept.f a2_0 l2_1 (wrap64 (a1 - 1))).bind fun t177 => ((spec_ReadAddress.f kj4 t177).bind fun bt178 => (if bt178.2 = true then ((spec_l26Rec.f kj4 a0_0 a0_1 a0_2 a0_3 bt178.1).bind fun t180 => (if t180 = true then ((spec_MaskRec.f kj4 t170).bind fun t181 => (some t181)) else (some t170))) else (some t170)))) else (some t170)))) else (some t170)))))) = some r := by rw [if_neg (show ¬ (false = true) by decide)] at H; exact H
    clear H
    have H := H1
    clear H1
    replace H := Option.bind_eq_some_iff.mp H
    obtain ⟨t170, A260, H⟩ := H
    replace H : (if t166 = 1 then (if 0 ≤ 1 then (if 1 ≤ (t170.size : Int) then ((spec_WordText.f kj4 (t170.extract 0 1)).bind fun t171 => (some t171)) else (none)) else (none)) else (if t166 = 5 then ((spec_l26Rec.f kj4 a0_0 a0_1 a0_2 a0_3 a1).bind fun t172 => (if t172 = true then ((spec_MaskRec.f kj4 t170).bind fun t173 => (some t173)) else (some t170))) else (if t166 = 6 then ((spec_l26All.f kj4 t170 0).bind fun t174 => (if t174 = true then (some t170) else ((spec_l01Long.f kj4 8 255).bind fun t175 => (some t175)))) else (if t166 = 3 then ((spec_PartWords.f a0_0 a0_1 a0_2 a0_3).bind fun t176 => (if t176 = 0 then (none) else (if (Int.tmod (Int.tmod a1 t176) 2) = 1 then ((spec_l26Kept.f a2_0 l2_1 (wrap64 (a1 - 1))).bind fun t177 => ((spec_ReadAddress.f kj4 t177).bind fun bt178 => (if bt178.2 = true then ((spec_l26Rec.f kj4 a0_0 a0_1 a0_2 a0_3 bt178.1).bind fun t180 => (if t180 = true then ((spec_MaskRec.f kj4 t170).bind fun t181 => (some t181)) else (some t170))) else (some t170)))) else (some t170)))) else (some t170))))) = some r := H
    have A26 := Am A260
    clear A260
    by_cases c27 : t166 = 1
    ·rw [if_pos c27] at H
     have c27b0 : (t166 == 1) = true := beq_iff_eq.mpr c27
     have c27b1 : (t166 != 1) = false := bne_eq_false_iff_eq.mpr c27
     clear c27
     by_cases c28 : 0 ≤ 1
     ·rw [if_pos c28] at H
      have c28b0 := eq_true c28
      have c28b1 : decide (0 ≤ 1) = true := decide_eq_true c28
      clear c28
      by_cases c29 : 1 ≤ (t170.size : Int)
      ·rw [if_pos c29] at H
       have c29b0 := eq_true c29
       have c29b1 : decide (1 ≤ (t170.size : Int)) = true := decide_eq_true c29
       clear c29
       replace H := Option.bind_eq_some_iff.mp H
       obtain ⟨t171, A300, H⟩ := H
       replace H : (some t171) = some r := H
       have A30 := Am A300
       clear A300
       obtain rfl := Option.some.inj H
       have hnb31 := NB164_163.out
       have hnc31 := NB163_164.out
       have hcz32_0 : wc.cell? ⟨gb164, 0, none⟩ = some (.string a2_0) := (kc BK164.out 0).trans rfl
       have hcz32_1 : wc.cell? ⟨gb164, 1, none⟩ = some (.slice A2_1 l2_1.length c2_1) := (kc BK164.out 1).trans rfl
       have hfz32_0 := kf BK164.out 0
       have hfz32_1 := kf BK164.out 1
       go_wp2_with (first | ((with_reducible refine gate_callee (f := 49) rfl ?_); refine goesL_ (some 33) rfl rfl Try.func49 (by kernel_rfl) rfl #[.agg #[.string a2_0, .slice A2_1 l2_1.length c2_1], .int .i64 a1] rfl (by (try simp only [List.map_toArray, List.map_cons, List.map_nil]); first | done | rfl | (simp only [List.length_drop, List.length_take]; rfl)) ?_; (with_reducible refine (spec_l26Kept.calls a2_0 _ _ l2_1 a1 t170 _ ?side1 ?side2 A26.out).mono ?_); (case side1 => repeat (first | exact (cb HR2_1.out HB.out) | (with_reducible first | refine ca ?_ _ | refine cn ?_ _ | refine ce ?_))); (case side2 => exact HC2_1.out); rintro e w33 ⟨rfl, hb⟩; refine ⟨_, rfl, ?_⟩; have n0_ := Am (kb (g := gb163) (o := o5b0 a0_0 a0_1 a0_2 a0_3) (by (with_reducible repeat (first | refine kn ?_ _ | refine ke ?_ | refine ka ?_ _)); exact BK163.out) hb); have n1_ := Am (kb (g := gb164) (o := o5b1 a2_0 A2_1 l2_1.length c2_1) (by (with_reducible repeat (first | refine kn ?_ _ | refine ke ?_ | refine ka ?_ _)); exact BK164.out) hb); have n2_ := Am (bq (by repeat (first | (with_reducible first | exact HB.out | apply ba | apply bn | apply be | refine bs ?_ GE163.out | refine bs ?_ GE164.out) | exact HB.out)) hb); clear BK163; clear BK164; clear HB; have BK163 := n0_; have BK164 := n1_; have HB := n2_; clear n0_ n1_ n2_; (try clear hb)) | ((with_reducible refine gate_callee (f := 50) rfl ?_); refine goesL_ (some 39) rfl rfl Try.func50 (by kernel_rfl) rfl #[.string (t170.extract 0 1)] rfl (by (try simp only [List.map_toArray, List.map_cons, List.map_nil]); first | done | rfl | (simp only [List.length_drop, List.length_take]; rfl)) ?_; (with_reducible refine (spec_WordText.calls kj4 (t170.extract 0 1) t171 _ A30.out).mono ?_); rintro e w34 ⟨rfl, hb⟩; refine ⟨_, rfl, ?_⟩; have n0_ := Am (kb (g := gb163) (o := o5b0 a0_0 a0_1 a0_2 a0_3) (by (with_reducible repeat (first | refine kn ?_ _ | refine ke ?_ | refine ka ?_ _)); exact BK163.out) hb); have n1_ := Am (kb (g := gb164) (o := o5b1 a2_0 A2_1 l2_1.length c2_1) (by (with_reducible repeat (first | refine kn ?_ _ | refine ke ?_ | refine ka ?_ _)); exact BK164.out) hb); have n2_ := Am (bq (by repeat (first | (with_reducible first | exact HB.out | apply ba | apply bn | apply be | refine bs ?_ GE163.out | refine bs ?_ GE164.out) | exact HB.out)) hb); clear BK163; clear BK164; clear HB; have BK163 := n0_; have BK164 := n1_; have HB := n2_; clear n0_ n1_ n2_; (try clear hb)))
       go_ret
       exact ⟨by first | rfl | (simp [errW_none, errW_some] <;> rfl) | (simp [*, errW_none, errW_some] <;> rfl), by repeat (first | (with_reducible first | exact HB.out | apply ba | apply bn | apply be | refine bs ?_ GE163.out | refine bs ?_ GE164.out) | exact HB.out)⟩
      ·rw [if_neg c29] at H
       exact absurd H (by simp)
     ·rw [if_neg c28] at H
      exact absurd H (by simp)
    ·rw [if_neg c27] at H
     have c27b0 : (t166 == 1) = false := beq_eq_false_iff_ne.mpr c27
     have c27b1 : (t166 != 1) = true := bne_iff_ne.mpr c27
     by_cases c35 : t166 = 5
     ·rw [if_pos c35] at H
      have c35b0 : (t166 == 5) = true := beq_iff_eq.mpr c35
      have c35b1 : (t166 != 5) = false := bne_eq_false_iff_eq.mpr c35
      clear c35
      replace H := Option.bind_eq_some_iff.mp H
      obtain ⟨t172, A360, H⟩ := H
      replace H : (if t172 = true then ((spec_MaskRec.f kj4 t170).bind fun t173 => (some t173)) else (some t170)) = some r := H
      have A36 := Am A360
      clear A360
      by_cases c37 : t172 = true
      ·subst c37
       have H1 : ((spec_MaskRec.f kj4 t170).bind fun t173 => (some t173)) = some r := by rw [if_pos rfl] at H; exact H
       clear H
       have H := H1
       clear H1
       replace H := Option.bind_eq_some_iff.mp H
       obtain ⟨t173, A380, H⟩ := H
       replace H : (some t173) = some r := H
       have A38 := Am A380
       clear A380
       obtain rfl := Option.some.inj H
       have hnb39 := NB164_163.out
       have hnc39 := NB163_164.out
       have hcz40_0 : wc.cell? ⟨gb164, 0, none⟩ = some (.string a2_0) := (kc BK164.out 0).trans rfl
       have hcz40_1 : wc.cell? ⟨gb164, 1, none⟩ = some (.slice A2_1 l2_1.length c2_1) := (kc BK164.out 1).trans rfl
       have hfz40_0 := kf BK164.out 0
       have hfz40_1 := kf BK164.out 1
       go_wp2_with (first | ((with_reducible refine gate_callee (f := 49) rfl ?_); refine goesL_ (some 33) rfl rfl Try.func49 (by kernel_rfl) rfl #[.agg #[.string a2_0, .slice A2_1 l2_1.length c2_1], .int .i64 a1] rfl (by (try simp only [List.map_toArray, List.map_cons, List.map_nil]); first | done | rfl | (simp only [List.length_drop, List.length_take]; rfl)) ?_; (with_reducible refine (spec_l26Kept.calls a2_0 _ _ l2_1 a1 t170 _ ?side1 ?side2 A26.out).mono ?_); (case side1 => repeat (first | exact (cb HR2_1.out HB.out) | (with_reducible first | refine ca ?_ _ | refine cn ?_ _ | refine ce ?_))); (case side2 => exact HC2_1.out); rintro e w41 ⟨rfl, hb⟩; refine ⟨_, rfl, ?_⟩; have n0_ := Am (kb (g := gb163) (o := o5b0 a0_0 a0_1 a0_2 a0_3) (by (with_reducible repeat (first | refine kn ?_ _ | refine ke ?_ | refine ka ?_ _)); exact BK163.out) hb); have n1_ := Am (kb (g := gb164) (o := o5b1 a2_0 A2_1 l2_1.length c2_1) (by (with_reducible repeat (first | refine kn ?_ _ | refine ke ?_ | refine ka ?_ _)); exact BK164.out) hb); have n2_ := Am (bq (by repeat (first | (with_reducible first | exact HB.out | apply ba | apply bn | apply be | refine bs ?_ GE163.out | refine bs ?_ GE164.out) | exact HB.out)) hb); clear BK163; clear BK164; clear HB; have BK163 := n0_; have BK164 := n1_; have HB := n2_; clear n0_ n1_ n2_; (try clear hb); have hcz42_0 : w41.cell? ⟨gb163, 0, none⟩ = some (.int .i64 a0_0) := (kc BK163.out 0).trans rfl; have hcz42_1 : w41.cell? ⟨gb163, 1, none⟩ = some (.int .i64 a0_1) := (kc BK163.out 1).trans rfl; have hcz42_2 : w41.cell? ⟨gb163, 2, none⟩ = some (.int .i64 a0_2) := (kc BK163.out 2).trans rfl; have hcz42_3 : w41.cell? ⟨gb163, 3, none⟩ = some (.int .i64 a0_3) := (kc BK163.out 3).trans rfl; have hfz42_0 := kf BK163.out 0; have hfz42_1 := kf BK163.out 1; have hfz42_2 := kf BK163.out 2; have hfz42_3 := kf BK163.out 3) | ((with_reducible refine gate_callee (f := 51) rfl ?_); refine goesL_ (some 44) rfl rfl Try.func51 (by kernel_rfl) rfl #[.agg #[.int .i64 a0_0, .int .i64 a0_1, .int .i64 a0_2, .int .i64 a0_3], .int .i64 a1] rfl (by (try simp only [List.map_toArray, List.map_cons, List.map_nil]); first | done | rfl | (simp only [List.length_drop, List.length_take]; rfl)) ?_; (with_reducible refine (spec_l26Rec.calls kj4 a0_0 a0_1 a0_2 a0_3 a1 true _ A36.out).mono ?_); rintro e w43 ⟨rfl, hb⟩; refine ⟨_, rfl, ?_⟩; have n0_ := Am (kb (g := gb163) (o := o5b0 a0_0 a0_1 a0_2 a0_3) (by (with_reducible repeat (first | refine kn ?_ _ | refine ke ?_ | refine ka ?_ _)); exact BK163.out) hb); have n1_ := Am (kb (g := gb164) (o := o5b1 a2_0 A2_1 l2_1.length c2_1) (by (with_reducible repeat (first | refine kn ?_ _ | refine ke ?_ | refine ka ?_ _)); exact BK164.out) hb); have n2_ := Am (bq (by repeat (first | (with_reducible first | exact HB.out | apply ba | apply bn | apply be | refine bs ?_ GE163.out | refine bs ?_ GE164.out) | exact HB.out)) hb); clear BK163; clear BK164; clear HB; have BK163 := n0_; have BK164 := n1_; have HB := n2_; clear n0_ n1_ n2_; (try clear hb)) | ((with_reducible refine gate_callee (f := 52) rfl ?_); refine goesL_ (some 46) rfl rfl Try.func52 (by kernel_rfl) rfl #[.string t170] rfl (by (try simp only [List.map_toArray, List.map_cons, List.map_nil]); first | done | rfl | (simp only [List.length_drop, List.length_take]; rfl)) ?_; (with_reducible refine (spec_MaskRec.calls kj4 t170 t173 _ A38.out).mono ?_); rintro e w44 ⟨rfl, hb⟩; refine ⟨_, rfl, ?_⟩; have n0_ := Am (kb (g := gb163) (o := o5b0 a0_0 a0_1 a0_2 a0_3) (by (with_reducible repeat (first | refine kn ?_ _ | refine ke ?_ | refine ka ?_ _)); exact BK163.out) hb); have n1_ := Am (kb (g := gb164) (o := o5b1 a2_0 A2_1 l2_1.length c2_1) (by (with_reducible repeat (first | refine kn ?_ _ | refine ke ?_ | refine ka ?_ _)); exact BK164.out) hb); have n2_ := Am (bq (by repeat (first | (with_reducible first | exact HB.out | apply ba | apply bn | apply be | refine bs ?_ GE163.out | refine bs ?_ GE164.out) | exact HB.out)) hb); clear BK163; clear BK164; clear HB; have BK163 := n0_; have BK164 := n1_; have HB := n2_; clear n0_ n1_ n2_; (try clear hb)))
       go_ret
       exact ⟨by first | rfl | (simp [errW_none, errW_some] <;> rfl) | (simp [*, errW_none, errW_some] <;> rfl), by repeat (first | (with_reducible first | exact HB.out | apply ba | apply bn | apply be | refine bs ?_ GE163.out | refine bs ?_ GE164.out) | exact HB.out)⟩
      ·replace c37 := Bool.eq_false_iff.mpr c37
       subst c37
       have H1 : (some t170) = some r := by rw [if_neg (show ¬ (false = true) by decide)] at H; exact H
       clear H
       have H := H1
       clear H1
       obtain rfl := Option.some.inj H
       have hnb45 := NB164_163.out
       have hnc45 := NB163_164.out
       have hcz46_0 : wc.cell? ⟨gb164, 0, none⟩ = some (.string a2_0) := (kc BK164.out 0).trans rfl
       have hcz46_1 : wc.cell? ⟨gb164, 1, none⟩ = some (.slice A2_1 l2_1.length c2_1) := (kc BK164.out 1).trans rfl
       have hfz46_0 := kf BK164.out 0
       have hfz46_1 := kf BK164.out 1
       go_wp2_with (first | ((with_reducible refine gate_callee (f := 49) rfl ?_); refine goesL_ (some 33) rfl rfl Try.func49 (by kernel_rfl) rfl #[.agg #[.string a2_0, .slice A2_1 l2_1.length c2_1], .int .i64 a1] rfl (by (try simp only [List.map_toArray, List.map_cons, List.map_nil]); first | done | rfl | (simp only [List.length_drop, List.length_take]; rfl)) ?_; (with_reducible refine (spec_l26Kept.calls a2_0 _ _ l2_1 a1 t170 _ ?side1 ?side2 A26.out).mono ?_); (case side1 => repeat (first | exact (cb HR2_1.out HB.out) | (with_reducible first | refine ca ?_ _ | refine cn ?_ _ | refine ce ?_))); (case side2 => exact HC2_1.out); rintro e w47 ⟨rfl, hb⟩; refine ⟨_, rfl, ?_⟩; have n0_ := Am (kb (g := gb163) (o := o5b0 a0_0 a0_1 a0_2 a0_3) (by (with_reducible repeat (first | refine kn ?_ _ | refine ke ?_ | refine ka ?_ _)); exact BK163.out) hb); have n1_ := Am (kb (g := gb164) (o := o5b1 a2_0 A2_1 l2_1.length c2_1) (by (with_reducible repeat (first | refine kn ?_ _ | refine ke ?_ | refine ka ?_ _)); exact BK164.out) hb); have n2_ := Am (bq (by repeat (first | (with_reducible first | exact HB.out | apply ba | apply bn | apply be | refine bs ?_ GE163.out | refine bs ?_ GE164.out) | exact HB.out)) hb); clear BK163; clear BK164; clear HB; have BK163 := n0_; have BK164 := n1_; have HB := n2_; clear n0_ n1_ n2_; (try clear hb); have hcz48_0 : w47.cell? ⟨gb163, 0, none⟩ = some (.int .i64 a0_0) := (kc BK163.out 0).trans rfl; have hcz48_1 : w47.cell? ⟨gb163, 1, none⟩ = some (.int .i64 a0_1) := (kc BK163.out 1).trans rfl; have hcz48_2 : w47.cell? ⟨gb163, 2, none⟩ = some (.int .i64 a0_2) := (kc BK163.out 2).trans rfl; have hcz48_3 : w47.cell? ⟨gb163, 3, none⟩ = some (.int .i64 a0_3) := (kc BK163.out 3).trans rfl; have hfz48_0 := kf BK163.out 0; have hfz48_1 := kf BK163.out 1; have hfz48_2 := kf BK163.out 2; have hfz48_3 := kf BK163.out 3) | ((with_reducible refine gate_callee (f := 51) rfl ?_); refine goesL_ (some 44) rfl rfl Try.func51 (by kernel_rfl) rfl #[.agg #[.int .i64 a0_0, .int .i64 a0_1, .int .i64 a0_2, .int .i64 a0_3], .int .i64 a1] rfl (by (try simp only [List.map_toArray, List.map_cons, List.map_nil]); first | done | rfl | (simp only [List.length_drop, List.length_take]; rfl)) ?_; (with_reducible refine (spec_l26Rec.calls kj4 a0_0 a0_1 a0_2 a0_3 a1 false _ A36.out).mono ?_); rintro e w49 ⟨rfl, hb⟩; refine ⟨_, rfl, ?_⟩; have n0_ := Am (kb (g := gb163) (o := o5b0 a0_0 a0_1 a0_2 a0_3) (by (with_reducible repeat (first | refine kn ?_ _ | refine ke ?_ | refine ka ?_ _)); exact BK163.out) hb); have n1_ := Am (kb (g := gb164) (o := o5b1 a2_0 A2_1 l2_1.length c2_1) (by (with_reducible repeat (first | refine kn ?_ _ | refine ke ?_ | refine ka ?_ _)); exact BK164.out) hb); have n2_ := Am (bq (by repeat (first | (with_reducible first | exact HB.out | apply ba | apply bn | apply be | refine bs ?_ GE163.out | refine bs ?_ GE164.out) | exact HB.out)) hb); clear BK163; clear BK164; clear HB; have BK163 := n0_; have BK164 := n1_; have HB := n2_; clear n0_ n1_ n2_; (try clear hb)))
       go_ret
       exact ⟨by first | rfl | (simp [errW_none, errW_some] <;> rfl) | (simp [*, errW_none, errW_some] <;> rfl), by repeat (first | (with_reducible first | exact HB.out | apply ba | apply bn | apply be | refine bs ?_ GE163.out | refine bs ?_ GE164.out) | exact HB.out)⟩
     ·rw [if_neg c35] at H
      have c35b0 : (t166 == 5) = false := beq_eq_false_iff_ne.mpr c35
      have c35b1 : (t166 != 5) = true := bne_iff_ne.mpr c35
      by_cases c50 : t166 = 6
      ·rw [if_pos c50] at H
       have c50b0 : (t166 == 6) = true := beq_iff_eq.mpr c50
       have c50b1 : (t166 != 6) = false := bne_eq_false_iff_eq.mpr c50
       clear c50
       replace H := Option.bind_eq_some_iff.mp H
       obtain ⟨t174, A510, H⟩ := H
       replace H : (if t174 = true then (some t170) else ((spec_l01Long.f kj4 8 255).bind fun t175 => (some t175))) = some r := H
       have A51 := Am A510
       clear A510
       by_cases c52 : t174 = true
       ·subst c52
        have H1 : (some t170) = some r := by rw [if_pos rfl] at H; exact H
        clear H
        have H := H1
        clear H1
        obtain rfl := Option.some.inj H
        have hnb53 := NB164_163.out
        have hnc53 := NB163_164.out
        have hcz54_0 : wc.cell? ⟨gb164, 0, none⟩ = some (.string a2_0) := (kc BK164.out 0).trans rfl
        have hcz54_1 : wc.cell? ⟨gb164, 1, none⟩ = some (.slice A2_1 l2_1.length c2_1) := (kc BK164.out 1).trans rfl
        have hfz54_0 := kf BK164.out 0
        have hfz54_1 := kf BK164.out 1
        go_wp2_with (first | ((with_reducible refine gate_callee (f := 49) rfl ?_); refine goesL_ (some 33) rfl rfl Try.func49 (by kernel_rfl) rfl #[.agg #[.string a2_0, .slice A2_1 l2_1.length c2_1], .int .i64 a1] rfl (by (try simp only [List.map_toArray, List.map_cons, List.map_nil]); first | done | rfl | (simp only [List.length_drop, List.length_take]; rfl)) ?_; (with_reducible refine (spec_l26Kept.calls a2_0 _ _ l2_1 a1 t170 _ ?side1 ?side2 A26.out).mono ?_); (case side1 => repeat (first | exact (cb HR2_1.out HB.out) | (with_reducible first | refine ca ?_ _ | refine cn ?_ _ | refine ce ?_))); (case side2 => exact HC2_1.out); rintro e w55 ⟨rfl, hb⟩; refine ⟨_, rfl, ?_⟩; have n0_ := Am (kb (g := gb163) (o := o5b0 a0_0 a0_1 a0_2 a0_3) (by (with_reducible repeat (first | refine kn ?_ _ | refine ke ?_ | refine ka ?_ _)); exact BK163.out) hb); have n1_ := Am (kb (g := gb164) (o := o5b1 a2_0 A2_1 l2_1.length c2_1) (by (with_reducible repeat (first | refine kn ?_ _ | refine ke ?_ | refine ka ?_ _)); exact BK164.out) hb); have n2_ := Am (bq (by repeat (first | (with_reducible first | exact HB.out | apply ba | apply bn | apply be | refine bs ?_ GE163.out | refine bs ?_ GE164.out) | exact HB.out)) hb); clear BK163; clear BK164; clear HB; have BK163 := n0_; have BK164 := n1_; have HB := n2_; clear n0_ n1_ n2_; (try clear hb)) | ((with_reducible refine gate_callee (f := 53) rfl ?_); refine goesL_ (some 50) rfl rfl Try.func53 (by kernel_rfl) rfl #[.string t170, .int .u8 0] rfl (by (try simp only [List.map_toArray, List.map_cons, List.map_nil]); first | done | rfl | (simp only [List.length_drop, List.length_take]; rfl)) ?_; (with_reducible refine (spec_l26All.calls kj4 t170 0 true _ A51.out).mono ?_); rintro e w' ⟨rfl, ⟨nd, rfl⟩⟩; refine ⟨_, rfl, ?_⟩))
        go_ret
        exact ⟨by first | rfl | (simp [errW_none, errW_some] <;> rfl) | (simp [*, errW_none, errW_some] <;> rfl), by repeat (first | (with_reducible first | exact HB.out | apply ba | apply bn | apply be | refine bs ?_ GE163.out | refine bs ?_ GE164.out) | exact HB.out)⟩
       ·replace c52 := Bool.eq_false_iff.mpr c52
        subst c52
        have H1 : ((spec_l01Long.f kj4 8 255).bind fun t175 => (some t175)) = some r := by rw [if_neg (show ¬ (false = true) by decide)] at H; exact H
        clear H
        have H := H1
        clear H1
        replace H := Option.bind_eq_some_iff.mp H
        obtain ⟨t175, A560, H⟩ := H
        replace H : (some t175) = some r := H
        have A56 := Am A560
        clear A560
        obtain rfl := Option.some.inj H
        have hnb57 := NB164_163.out
        have hnc57 := NB163_164.out
        have hcz58_0 : wc.cell? ⟨gb164, 0, none⟩ = some (.string a2_0) := (kc BK164.out 0).trans rfl
        have hcz58_1 : wc.cell? ⟨gb164, 1, none⟩ = some (.slice A2_1 l2_1.length c2_1) := (kc BK164.out 1).trans rfl
        have hfz58_0 := kf BK164.out 0
        have hfz58_1 := kf BK164.out 1
        go_wp2_with (first | ((with_reducible refine gate_callee (f := 49) rfl ?_); refine goesL_ (some 33) rfl rfl Try.func49 (by kernel_rfl) rfl #[.agg #[.string a2_0, .slice A2_1 l2_1.length c2_1], .int .i64 a1] rfl (by (try simp only [List.map_toArray, List.map_cons, List.map_nil]); first | done | rfl | (simp only [List.length_drop, List.length_take]; rfl)) ?_; (with_reducible refine (spec_l26Kept.calls a2_0 _ _ l2_1 a1 t170 _ ?side1 ?side2 A26.out).mono ?_); (case side1 => repeat (first | exact (cb HR2_1.out HB.out) | (with_reducible first | refine ca ?_ _ | refine cn ?_ _ | refine ce ?_))); (case side2 => exact HC2_1.out); rintro e w59 ⟨rfl, hb⟩; refine ⟨_, rfl, ?_⟩; have n0_ := Am (kb (g := gb163) (o := o5b0 a0_0 a0_1 a0_2 a0_3) (by (with_reducible repeat (first | refine kn ?_ _ | refine ke ?_ | refine ka ?_ _)); exact BK163.out) hb); have n1_ := Am (kb (g := gb164) (o := o5b1 a2_0 A2_1 l2_1.length c2_1) (by (with_reducible repeat (first | refine kn ?_ _ | refine ke ?_ | refine ka ?_ _)); exact BK164.out) hb); have n2_ := Am (bq (by repeat (first | (with_reducible first | exact HB.out | apply ba | apply bn | apply be | refine bs ?_ GE163.out | refine bs ?_ GE164.out) | exact HB.out)) hb); clear BK163; clear BK164; clear HB; have BK163 := n0_; have BK164 := n1_; have HB := n2_; clear n0_ n1_ n2_; (try clear hb)) | ((with_reducible refine gate_callee (f := 53) rfl ?_); refine goesL_ (some 50) rfl rfl Try.func53 (by kernel_rfl) rfl #[.string t170, .int .u8 0] rfl (by (try simp only [List.map_toArray, List.map_cons, List.map_nil]); first | done | rfl | (simp only [List.length_drop, List.length_take]; rfl)) ?_; (with_reducible refine (spec_l26All.calls kj4 t170 0 false _ A51.out).mono ?_); rintro e w' ⟨rfl, ⟨nd, rfl⟩⟩; refine ⟨_, rfl, ?_⟩) | ((with_reducible refine gate_callee (f := 54) rfl ?_); refine goesL_ (some 52) rfl rfl Try.func54 (by kernel_rfl) rfl #[.int .i64 8, .int .u8 255] rfl (by (try simp only [List.map_toArray, List.map_cons, List.map_nil]); first | done | rfl | (simp only [List.length_drop, List.length_take]; rfl)) ?_; (with_reducible refine (spec_l01Long.calls kj4 8 255 t175 _ A56.out).mono ?_); rintro e w60 ⟨rfl, hb⟩; refine ⟨_, rfl, ?_⟩; have n0_ := Am (kb (g := gb163) (o := o5b0 a0_0 a0_1 a0_2 a0_3) (by (with_reducible repeat (first | refine kn ?_ _ | refine ke ?_ | refine ka ?_ _)); exact BK163.out) hb); have n1_ := Am (kb (g := gb164) (o := o5b1 a2_0 A2_1 l2_1.length c2_1) (by (with_reducible repeat (first | refine kn ?_ _ | refine ke ?_ | refine ka ?_ _)); exact BK164.out) hb); have n2_ := Am (bq (by repeat (first | (with_reducible first | exact HB.out | apply ba | apply bn | apply be | refine bs ?_ GE163.out | refine bs ?_ GE164.out) | exact HB.out)) hb); clear BK163; clear BK164; clear HB; have BK163 := n0_; have BK164 := n1_; have HB := n2_; clear n0_ n1_ n2_; (try clear hb)))
        go_ret
        exact ⟨by first | rfl | (simp [errW_none, errW_some] <;> rfl) | (simp [*, errW_none, errW_some] <;> rfl), by repeat (first | (with_reducible first | exact HB.out | apply ba | apply bn | apply be | refine bs ?_ GE163.out | refine bs ?_ GE164.out) | exact HB.out)⟩
      ·rw [if_neg c50] at H
       have c50b0 : (t166 == 6) = false := beq_eq_false_iff_ne.mpr c50
       have c50b1 : (t166 != 6) = true := bne_iff_ne.mpr c50
       by_cases c61 : t166 = 3
       ·rw [if_pos c61] at H
        have c61b0 : (t166 == 3) = true := beq_iff_eq.mpr c61
        have c61b1 : (t166 != 3) = false := bne_eq_false_iff_eq.mpr c61
        clear c61
        replace H := Option.bind_eq_some_iff.mp H
        obtain ⟨t176, A620, H⟩ := H
        replace H : (if t176 = 0 then (none) else (if (Int.tmod (Int.tmod a1 t176) 2) = 1 then ((spec_l26Kept.f a2_0 l2_1 (wrap64 (a1 - 1))).bind fun t177 => ((spec_ReadAddress.f kj4 t177).bind fun bt178 => (if bt178.2 = true then ((spec_l26Rec.f kj4 a0_0 a0_1 a0_2 a0_3 bt178.1).bind fun t180 => (if t180 = true then ((spec_MaskRec.f kj4 t170).bind fun t181 => (some t181)) else (some t170))) else (some t170)))) else (some t170))) = some r := H
        have A62 := Am A620
        clear A620
        by_cases c63 : t176 = 0
        ·rw [if_pos c63] at H
         exact absurd H (by simp)
        ·rw [if_neg c63] at H
         have c63b0 : (t176 == 0) = false := beq_eq_false_iff_ne.mpr c63
         have c63b1 : (t176 != 0) = true := bne_iff_ne.mpr c63
         by_cases c64 : (Int.tmod (Int.tmod a1 t176) 2) = 1
         ·rw [if_pos c64] at H
          have c64b0 : ((Int.tmod (Int.tmod a1 t176) 2) == 1) = true := beq_iff_eq.mpr c64
          have c64b1 : ((Int.tmod (Int.tmod a1 t176) 2) != 1) = false := bne_eq_false_iff_eq.mpr c64
          clear c64
          replace H := Option.bind_eq_some_iff.mp H
          obtain ⟨t177, A650, H⟩ := H
          replace H : ((spec_ReadAddress.f kj4 t177).bind fun bt178 => (if bt178.2 = true then ((spec_l26Rec.f kj4 a0_0 a0_1 a0_2 a0_3 bt178.1).bind fun t180 => (if t180 = true then ((spec_MaskRec.f kj4 t170).bind fun t181 => (some t181)) else (some t170))) else (some t170))) = some r := H
          have A65 := Am A650
          clear A650
          replace H := Option.bind_eq_some_iff.mp H
          obtain ⟨⟨t178, t179⟩, A660, H⟩ := H
          replace H : (if t179 = true then ((spec_l26Rec.f kj4 a0_0 a0_1 a0_2 a0_3 t178).bind fun t180 => (if t180 = true then ((spec_MaskRec.f kj4 t170).bind fun t181 => (some t181)) else (some t170))) else (some t170)) = some r := H
          have A66 := Am A660
          clear A660
          by_cases c67 : t179 = true
          ·subst c67
           have H1 : ((spec_l26Rec.f kj4 a0_0 a0_1 a0_2 a0_3 t178).bind fun t180 => (if t180 = true then ((spec_MaskRec.f kj4 t170).bind fun t181 => (some t181)) else (some t170))) = some r := by rw [if_pos rfl] at H; exact H
           clear H
           have H := H1
           clear H1
           replace H := Option.bind_eq_some_iff.mp H
           obtain ⟨t180, A680, H⟩ := H
           replace H : (if t180 = true then ((spec_MaskRec.f kj4 t170).bind fun t181 => (some t181)) else (some t170)) = some r := H
           have A68 := Am A680
           clear A680
           by_cases c69 : t180 = true
           ·subst c69
            have H1 : ((spec_MaskRec.f kj4 t170).bind fun t181 => (some t181)) = some r := by rw [if_pos rfl] at H; exact H
            clear H
            have H := H1
            clear H1
            replace H := Option.bind_eq_some_iff.mp H
            obtain ⟨t181, A700, H⟩ := H
            replace H : (some t181) = some r := H
            have A70 := Am A700
            clear A700
            obtain rfl := Option.some.inj H
            have hnb71 := NB164_163.out
            have hnc71 := NB163_164.out
            have hcz72_0 : wc.cell? ⟨gb164, 0, none⟩ = some (.string a2_0) := (kc BK164.out 0).trans rfl
            have hcz72_1 : wc.cell? ⟨gb164, 1, none⟩ = some (.slice A2_1 l2_1.length c2_1) := (kc BK164.out 1).trans rfl
            have hfz72_0 := kf BK164.out 0
            have hfz72_1 := kf BK164.out 1
            go_wp2_with (first | ((with_reducible refine gate_callee (f := 49) rfl ?_); refine goesL_ (some 33) rfl rfl Try.func49 (by kernel_rfl) rfl #[.agg #[.string a2_0, .slice A2_1 l2_1.length c2_1], .int .i64 a1] rfl (by (try simp only [List.map_toArray, List.map_cons, List.map_nil]); first | done | rfl | (simp only [List.length_drop, List.length_take]; rfl)) ?_; (with_reducible refine (spec_l26Kept.calls a2_0 _ _ l2_1 a1 t170 _ ?side1 ?side2 A26.out).mono ?_); (case side1 => repeat (first | exact (cb HR2_1.out HB.out) | (with_reducible first | refine ca ?_ _ | refine cn ?_ _ | refine ce ?_))); (case side2 => exact HC2_1.out); rintro e w73 ⟨rfl, hb⟩; refine ⟨_, rfl, ?_⟩; have n0_ := Am (kb (g := gb163) (o := o5b0 a0_0 a0_1 a0_2 a0_3) (by (with_reducible repeat (first | refine kn ?_ _ | refine ke ?_ | refine ka ?_ _)); exact BK163.out) hb); have n1_ := Am (kb (g := gb164) (o := o5b1 a2_0 A2_1 l2_1.length c2_1) (by (with_reducible repeat (first | refine kn ?_ _ | refine ke ?_ | refine ka ?_ _)); exact BK164.out) hb); have n2_ := Am (bq (by repeat (first | (with_reducible first | exact HB.out | apply ba | apply bn | apply be | refine bs ?_ GE163.out | refine bs ?_ GE164.out) | exact HB.out)) hb); clear BK163; clear BK164; clear HB; have BK163 := n0_; have BK164 := n1_; have HB := n2_; clear n0_ n1_ n2_; (try clear hb); have hcz74_0 : w73.cell? ⟨gb163, 0, none⟩ = some (.int .i64 a0_0) := (kc BK163.out 0).trans rfl; have hcz74_1 : w73.cell? ⟨gb163, 1, none⟩ = some (.int .i64 a0_1) := (kc BK163.out 1).trans rfl; have hcz74_2 : w73.cell? ⟨gb163, 2, none⟩ = some (.int .i64 a0_2) := (kc BK163.out 2).trans rfl; have hcz74_3 : w73.cell? ⟨gb163, 3, none⟩ = some (.int .i64 a0_3) := (kc BK163.out 3).trans rfl; have hfz74_0 := kf BK163.out 0; have hfz74_1 := kf BK163.out 1; have hfz74_2 := kf BK163.out 2; have hfz74_3 := kf BK163.out 3) | ((with_reducible refine gate_callee (f := 55) rfl ?_); refine goesL_ (some 57) rfl rfl Try.func55 (by kernel_rfl) rfl #[.agg #[.int .i64 a0_0, .int .i64 a0_1, .int .i64 a0_2, .int .i64 a0_3]] rfl (by (try simp only [List.map_toArray, List.map_cons, List.map_nil]); first | done | rfl | (simp only [List.length_drop, List.length_take]; rfl)) ?_; (with_reducible refine (spec_PartWords.calls a0_0 a0_1 a0_2 a0_3 t176 _ A62.out).mono ?_); rintro e w75 ⟨rfl, hb⟩; refine ⟨_, rfl, ?_⟩; have n0_ := Am (kb (g := gb163) (o := o5b0 a0_0 a0_1 a0_2 a0_3) (by (with_reducible repeat (first | refine kn ?_ _ | refine ke ?_ | refine ka ?_ _)); exact BK163.out) hb); have n1_ := Am (kb (g := gb164) (o := o5b1 a2_0 A2_1 l2_1.length c2_1) (by (with_reducible repeat (first | refine kn ?_ _ | refine ke ?_ | refine ka ?_ _)); exact BK164.out) hb); have n2_ := Am (bq (by repeat (first | (with_reducible first | exact HB.out | apply ba | apply bn | apply be | refine bs ?_ GE163.out | refine bs ?_ GE164.out) | exact HB.out)) hb); clear BK163; clear BK164; clear HB; have BK163 := n0_; have BK164 := n1_; have HB := n2_; clear n0_ n1_ n2_; (try clear hb); have hcz76_0 : w75.cell? ⟨gb164, 0, none⟩ = some (.string a2_0) := (kc BK164.out 0).trans rfl; have hcz76_1 : w75.cell? ⟨gb164, 1, none⟩ = some (.slice A2_1 l2_1.length c2_1) := (kc BK164.out 1).trans rfl; have hfz76_0 := kf BK164.out 0; have hfz76_1 := kf BK164.out 1) | ((with_reducible refine gate_callee (f := 49) rfl ?_); refine goesL_ (some 65) rfl rfl Try.func49 (by kernel_rfl) rfl #[.agg #[.string a2_0, .slice A2_1 l2_1.length c2_1], .int .i64 (wrap64 (a1 - 1))] rfl (by (try simp only [List.map_toArray, List.map_cons, List.map_nil]); first | done | rfl | (simp only [List.length_drop, List.length_take]; rfl)) ?_; (with_reducible refine (spec_l26Kept.calls a2_0 _ _ l2_1 (wrap64 (a1 - 1)) t177 _ ?side1 ?side2 A65.out).mono ?_); (case side1 => repeat (first | exact (cb HR2_1.out HB.out) | (with_reducible first | refine ca ?_ _ | refine cn ?_ _ | refine ce ?_))); (case side2 => exact HC2_1.out); rintro e w77 ⟨rfl, hb⟩; refine ⟨_, rfl, ?_⟩; have n0_ := Am (kb (g := gb163) (o := o5b0 a0_0 a0_1 a0_2 a0_3) (by (with_reducible repeat (first | refine kn ?_ _ | refine ke ?_ | refine ka ?_ _)); exact BK163.out) hb); have n1_ := Am (kb (g := gb164) (o := o5b1 a2_0 A2_1 l2_1.length c2_1) (by (with_reducible repeat (first | refine kn ?_ _ | refine ke ?_ | refine ka ?_ _)); exact BK164.out) hb); have n2_ := Am (bq (by repeat (first | (with_reducible first | exact HB.out | apply ba | apply bn | apply be | refine bs ?_ GE163.out | refine bs ?_ GE164.out) | exact HB.out)) hb); clear BK163; clear BK164; clear HB; have BK163 := n0_; have BK164 := n1_; have HB := n2_; clear n0_ n1_ n2_; (try clear hb)) | ((with_reducible refine gate_callee (f := 56) rfl ?_); refine goesL_ (some 66) rfl rfl Try.func56 (by kernel_rfl) rfl #[.string t177] rfl (by (try simp only [List.map_toArray, List.map_cons, List.map_nil]); first | done | rfl | (simp only [List.length_drop, List.length_take]; rfl)) ?_; (with_reducible refine (spec_ReadAddress.calls kj4 t177 t178 true _ A66.out).mono ?_); rintro e w78 ⟨rfl, hb⟩; refine ⟨_, rfl, ?_⟩; have n0_ := Am (kb (g := gb163) (o := o5b0 a0_0 a0_1 a0_2 a0_3) (by (with_reducible repeat (first | refine kn ?_ _ | refine ke ?_ | refine ka ?_ _)); exact BK163.out) hb); have n1_ := Am (kb (g := gb164) (o := o5b1 a2_0 A2_1 l2_1.length c2_1) (by (with_reducible repeat (first | refine kn ?_ _ | refine ke ?_ | refine ka ?_ _)); exact BK164.out) hb); have n2_ := Am (bq (by repeat (first | (with_reducible first | exact HB.out | apply ba | apply bn | apply be | refine bs ?_ GE163.out | refine bs ?_ GE164.out) | exact HB.out)) hb); clear BK163; clear BK164; clear HB; have BK163 := n0_; have BK164 := n1_; have HB := n2_; clear n0_ n1_ n2_; (try clear hb); have hcz79_0 : w78.cell? ⟨gb163, 0, none⟩ = some (.int .i64 a0_0) := (kc BK163.out 0).trans rfl; have hcz79_1 : w78.cell? ⟨gb163, 1, none⟩ = some (.int .i64 a0_1) := (kc BK163.out 1).trans rfl; have hcz79_2 : w78.cell? ⟨gb163, 2, none⟩ = some (.int .i64 a0_2) := (kc BK163.out 2).trans rfl; have hcz79_3 : w78.cell? ⟨gb163, 3, none⟩ = some (.int .i64 a0_3) := (kc BK163.out 3).trans rfl; have hfz79_0 := kf BK163.out 0; have hfz79_1 := kf BK163.out 1; have hfz79_2 := kf BK163.out 2; have hfz79_3 := kf BK163.out 3) | (go_at_call 51; (with_reducible refine (spec_l26Rec.calls kj4 a0_0 a0_1 a0_2 a0_3 t178 true _ A68.out).mono ?_); rintro e w80 ⟨rfl, hb⟩; have n0_ := Am (kb (g := gb163) (o := o5b0 a0_0 a0_1 a0_2 a0_3) (by (with_reducible repeat (first | refine kn ?_ _ | refine ke ?_ | refine ka ?_ _)); exact BK163.out) hb); have n1_ := Am (kb (g := gb164) (o := o5b1 a2_0 A2_1 l2_1.length c2_1) (by (with_reducible repeat (first | refine kn ?_ _ | refine ke ?_ | refine ka ?_ _)); exact BK164.out) hb); have n2_ := Am (bq (by repeat (first | (with_reducible first | exact HB.out | apply ba | apply bn | apply be | refine bs ?_ GE163.out | refine bs ?_ GE164.out) | exact HB.out)) hb); clear BK163; clear BK164; clear HB; have BK163 := n0_; have BK164 := n1_; have HB := n2_; clear n0_ n1_ n2_; (try clear hb)) | ((with_reducible refine gate_callee (f := 52) rfl ?_); refine goesL_ (some 76) rfl rfl Try.func52 (by kernel_rfl) rfl #[.string t170] rfl (by (try simp only [List.map_toArray, List.map_cons, List.map_nil]); first | done | rfl | (simp only [List.length_drop, List.length_take]; rfl)) ?_; (with_reducible refine (spec_MaskRec.calls kj4 t170 t181 _ A70.out).mono ?_); rintro e w81 ⟨rfl, hb⟩; refine ⟨_, rfl, ?_⟩; have n0_ := Am (kb (g := gb163) (o := o5b0 a0_0 a0_1 a0_2 a0_3) (by (with_reducible repeat (first | refine kn ?_ _ | refine ke ?_ | refine ka ?_ _)); exact BK163.out) hb); have n1_ := Am (kb (g := gb164) (o := o5b1 a2_0 A2_1 l2_1.length c2_1) (by (with_reducible repeat (first | refine kn ?_ _ | refine ke ?_ | refine ka ?_ _)); exact BK164.out) hb); have n2_ := Am (bq (by repeat (first | (with_reducible first | exact HB.out | apply ba | apply bn | apply be | refine bs ?_ GE163.out | refine bs ?_ GE164.out) | exact HB.out)) hb); clear BK163; clear BK164; clear HB; have BK163 := n0_; have BK164 := n1_; have HB := n2_; clear n0_ n1_ n2_; (try clear hb)))
            go_ret
            exact ⟨by first | rfl | (simp [errW_none, errW_some] <;> rfl) | (simp [*, errW_none, errW_some] <;> rfl), by repeat (first | (with_reducible first | exact HB.out | apply ba | apply bn | apply be | refine bs ?_ GE163.out | refine bs ?_ GE164.out) | exact HB.out)⟩
           ·replace c69 := Bool.eq_false_iff.mpr c69
            subst c69
            have H1 : (some t170) = some r := by rw [if_neg (show ¬ (false = true) by decide)] at H; exact H
            clear H
            have H := H1
            clear H1
            obtain rfl := Option.some.inj H
            have hnb82 := NB164_163.out
            have hnc82 := NB163_164.out
            have hcz83_0 : wc.cell? ⟨gb164, 0, none⟩ = some (.string a2_0) := (kc BK164.out 0).trans rfl
            have hcz83_1 : wc.cell? ⟨gb164, 1, none⟩ = some (.slice A2_1 l2_1.length c2_1) := (kc BK164.out 1).trans rfl
            have hfz83_0 := kf BK164.out 0
            have hfz83_1 := kf BK164.out 1
            go_wp2_with (first | ((with_reducible refine gate_callee (f := 49) rfl ?_); refine goesL_ (some 33) rfl rfl Try.func49 (by kernel_rfl) rfl #[.agg #[.string a2_0, .slice A2_1 l2_1.length c2_1], .int .i64 a1] rfl (by (try simp only [List.map_toArray, List.map_cons, List.map_nil]); first | done | rfl | (simp only [List.length_drop, List.length_take]; rfl)) ?_; (with_reducible refine (spec_l26Kept.calls a2_0 _ _ l2_1 a1 t170 _ ?side1 ?side2 A26.out).mono ?_); (case side1 => repeat (first | exact (cb HR2_1.out HB.out) | (with_reducible first | refine ca ?_ _ | refine cn ?_ _ | refine ce ?_))); (case side2 => exact HC2_1.out); rintro e w84 ⟨rfl, hb⟩; refine ⟨_, rfl, ?_⟩; have n0_ := Am (kb (g := gb163) (o := o5b0 a0_0 a0_1 a0_2 a0_3) (by (with_reducible repeat (first | refine kn ?_ _ | refine ke ?_ | refine ka ?_ _)); exact BK163.out) hb); have n1_ := Am (kb (g := gb164) (o := o5b1 a2_0 A2_1 l2_1.length c2_1) (by (with_reducible repeat (first | refine kn ?_ _ | refine ke ?_ | refine ka ?_ _)); exact BK164.out) hb); have n2_ := Am (bq (by repeat (first | (with_reducible first | exact HB.out | apply ba | apply bn | apply be | refine bs ?_ GE163.out | refine bs ?_ GE164.out) | exact HB.out)) hb); clear BK163; clear BK164; clear HB; have BK163 := n0_; have BK164 := n1_; have HB := n2_; clear n0_ n1_ n2_; (try clear hb); have hcz85_0 : w84.cell? ⟨gb163, 0, none⟩ = some (.int .i64 a0_0) := (kc BK163.out 0).trans rfl; have hcz85_1 : w84.cell? ⟨gb163, 1, none⟩ = some (.int .i64 a0_1) := (kc BK163.out 1).trans rfl; have hcz85_2 : w84.cell? ⟨gb163, 2, none⟩ = some (.int .i64 a0_2) := (kc BK163.out 2).trans rfl; have hcz85_3 : w84.cell? ⟨gb163, 3, none⟩ = some (.int .i64 a0_3) := (kc BK163.out 3).trans rfl; have hfz85_0 := kf BK163.out 0; have hfz85_1 := kf BK163.out 1; have hfz85_2 := kf BK163.out 2; have hfz85_3 := kf BK163.out 3) | ((with_reducible refine gate_callee (f := 55) rfl ?_); refine goesL_ (some 57) rfl rfl Try.func55 (by kernel_rfl) rfl #[.agg #[.int .i64 a0_0, .int .i64 a0_1, .int .i64 a0_2, .int .i64 a0_3]] rfl (by (try simp only [List.map_toArray, List.map_cons, List.map_nil]); first | done | rfl | (simp only [List.length_drop, List.length_take]; rfl)) ?_; (with_reducible refine (spec_PartWords.calls a0_0 a0_1 a0_2 a0_3 t176 _ A62.out).mono ?_); rintro e w86 ⟨rfl, hb⟩; refine ⟨_, rfl, ?_⟩; have n0_ := Am (kb (g := gb163) (o := o5b0 a0_0 a0_1 a0_2 a0_3) (by (with_reducible repeat (first | refine kn ?_ _ | refine ke ?_ | refine ka ?_ _)); exact BK163.out) hb); have n1_ := Am (kb (g := gb164) (o := o5b1 a2_0 A2_1 l2_1.length c2_1) (by (with_reducible repeat (first | refine kn ?_ _ | refine ke ?_ | refine ka ?_ _)); exact BK164.out) hb); have n2_ := Am (bq (by repeat (first | (with_reducible first | exact HB.out | apply ba | apply bn | apply be | refine bs ?_ GE163.out | refine bs ?_ GE164.out) | exact HB.out)) hb); clear BK163; clear BK164; clear HB; have BK163 := n0_; have BK164 := n1_; have HB := n2_; clear n0_ n1_ n2_; (try clear hb); have hcz87_0 : w86.cell? ⟨gb164, 0, none⟩ = some (.string a2_0) := (kc BK164.out 0).trans rfl; have hcz87_1 : w86.cell? ⟨gb164, 1, none⟩ = some (.slice A2_1 l2_1.length c2_1) := (kc BK164.out 1).trans rfl; have hfz87_0 := kf BK164.out 0; have hfz87_1 := kf BK164.out 1) | ((with_reducible refine gate_callee (f := 49) rfl ?_); refine goesL_ (some 65) rfl rfl Try.func49 (by kernel_rfl) rfl #[.agg #[.string a2_0, .slice A2_1 l2_1.length c2_1], .int .i64 (wrap64 (a1 - 1))] rfl (by (try simp only [List.map_toArray, List.map_cons, List.map_nil]); first | done | rfl | (simp only [List.length_drop, List.length_take]; rfl)) ?_; (with_reducible refine (spec_l26Kept.calls a2_0 _ _ l2_1 (wrap64 (a1 - 1)) t177 _ ?side1 ?side2 A65.out).mono ?_); (case side1 => repeat (first | exact (cb HR2_1.out HB.out) | (with_reducible first | refine ca ?_ _ | refine cn ?_ _ | refine ce ?_))); (case side2 => exact HC2_1.out); rintro e w88 ⟨rfl, hb⟩; refine ⟨_, rfl, ?_⟩; have n0_ := Am (kb (g := gb163) (o := o5b0 a0_0 a0_1 a0_2 a0_3) (by (with_reducible repeat (first | refine kn ?_ _ | refine ke ?_ | refine ka ?_ _)); exact BK163.out) hb); have n1_ := Am (kb (g := gb164) (o := o5b1 a2_0 A2_1 l2_1.length c2_1) (by (with_reducible repeat (first | refine kn ?_ _ | refine ke ?_ | refine ka ?_ _)); exact BK164.out) hb); have n2_ := Am (bq (by repeat (first | (with_reducible first | exact HB.out | apply ba | apply bn | apply be | refine bs ?_ GE163.out | refine bs ?_ GE164.out) | exact HB.out)) hb); clear BK163; clear BK164; clear HB; have BK163 := n0_; have BK164 := n1_; have HB := n2_; clear n0_ n1_ n2_; (try clear hb)) | ((with_reducible refine gate_callee (f := 56) rfl ?_); refine goesL_ (some 66) rfl rfl Try.func56 (by kernel_rfl) rfl #[.string t177] rfl (by (try simp only [List.map_toArray, List.map_cons, List.map_nil]); first | done | rfl | (simp only [List.length_drop, List.length_take]; rfl)) ?_; (with_reducible refine (spec_ReadAddress.calls kj4 t177 t178 true _ A66.out).mono ?_); rintro e w89 ⟨rfl, hb⟩; refine ⟨_, rfl, ?_⟩; have n0_ := Am (kb (g := gb163) (o := o5b0 a0_0 a0_1 a0_2 a0_3) (by (with_reducible repeat (first | refine kn ?_ _ | refine ke ?_ | refine ka ?_ _)); exact BK163.out) hb); have n1_ := Am (kb (g := gb164) (o := o5b1 a2_0 A2_1 l2_1.length c2_1) (by (with_reducible repeat (first | refine kn ?_ _ | refine ke ?_ | refine ka ?_ _)); exact BK164.out) hb); have n2_ := Am (bq (by repeat (first | (with_reducible first | exact HB.out | apply ba | apply bn | apply be | refine bs ?_ GE163.out | refine bs ?_ GE164.out) | exact HB.out)) hb); clear BK163; clear BK164; clear HB; have BK163 := n0_; have BK164 := n1_; have HB := n2_; clear n0_ n1_ n2_; (try clear hb); have hcz90_0 : w89.cell? ⟨gb163, 0, none⟩ = some (.int .i64 a0_0) := (kc BK163.out 0).trans rfl; have hcz90_1 : w89.cell? ⟨gb163, 1, none⟩ = some (.int .i64 a0_1) := (kc BK163.out 1).trans rfl; have hcz90_2 : w89.cell? ⟨gb163, 2, none⟩ = some (.int .i64 a0_2) := (kc BK163.out 2).trans rfl; have hcz90_3 : w89.cell? ⟨gb163, 3, none⟩ = some (.int .i64 a0_3) := (kc BK163.out 3).trans rfl; have hfz90_0 := kf BK163.out 0; have hfz90_1 := kf BK163.out 1; have hfz90_2 := kf BK163.out 2; have hfz90_3 := kf BK163.out 3) | (go_at_call 51; (with_reducible refine (spec_l26Rec.calls kj4 a0_0 a0_1 a0_2 a0_3 t178 false _ A68.out).mono ?_); rintro e w91 ⟨rfl, hb⟩; have n0_ := Am (kb (g := gb163) (o := o5b0 a0_0 a0_1 a0_2 a0_3) (by (with_reducible repeat (first | refine kn ?_ _ | refine ke ?_ | refine ka ?_ _)); exact BK163.out) hb); have n1_ := Am (kb (g := gb164) (o := o5b1 a2_0 A2_1 l2_1.length c2_1) (by (with_reducible repeat (first | refine kn ?_ _ | refine ke ?_ | refine ka ?_ _)); exact BK164.out) hb); have n2_ := Am (bq (by repeat (first | (with_reducible first | exact HB.out | apply ba | apply bn | apply be | refine bs ?_ GE163.out | refine bs ?_ GE164.out) | exact HB.out)) hb); clear BK163; clear BK164; clear HB; have BK163 := n0_; have BK164 := n1_; have HB := n2_; clear n0_ n1_ n2_; (try clear hb)))
            go_ret
            exact ⟨by first | rfl | (simp [errW_none, errW_some] <;> rfl) | (simp [*, errW_none, errW_some] <;> rfl), by repeat (first | (with_reducible first | exact HB.out | apply ba | apply bn | apply be | refine bs ?_ GE163.out | refine bs ?_ GE164.out) | exact HB.out)⟩
          ·replace c67 := Bool.eq_false_iff.mpr c67
           subst c67
           have H1 : (some t170) = some r := by rw [if_neg (show ¬ (false = true) by decide)] at H; exact H
           clear H
           have H := H1
           clear H1
           obtain rfl := Option.some.inj H
           have hnb92 := NB164_163.out
           have hnc92 := NB163_164.out
           have hcz93_0 : wc.cell? ⟨gb164, 0, none⟩ = some (.string a2_0) := (kc BK164.out 0).trans rfl
           have hcz93_1 : wc.cell? ⟨gb164, 1, none⟩ = some (.slice A2_1 l2_1.length c2_1) := (kc BK164.out 1).trans rfl
           have hfz93_0 := kf BK164.out 0
           have hfz93_1 := kf BK164.out 1
           go_wp2_with (first | ((with_reducible refine gate_callee (f := 49) rfl ?_); refine goesL_ (some 33) rfl rfl Try.func49 (by kernel_rfl) rfl #[.agg #[.string a2_0, .slice A2_1 l2_1.length c2_1], .int .i64 a1] rfl (by (try simp only [List.map_toArray, List.map_cons, List.map_nil]); first | done | rfl | (simp only [List.length_drop, List.length_take]; rfl)) ?_; (with_reducible refine (spec_l26Kept.calls a2_0 _ _ l2_1 a1 t170 _ ?side1 ?side2 A26.out).mono ?_); (case side1 => repeat (first | exact (cb HR2_1.out HB.out) | (with_reducible first | refine ca ?_ _ | refine cn ?_ _ | refine ce ?_))); (case side2 => exact HC2_1.out); rintro e w94 ⟨rfl, hb⟩; refine ⟨_, rfl, ?_⟩; have n0_ := Am (kb (g := gb163) (o := o5b0 a0_0 a0_1 a0_2 a0_3) (by (with_reducible repeat (first | refine kn ?_ _ | refine ke ?_ | refine ka ?_ _)); exact BK163.out) hb); have n1_ := Am (kb (g := gb164) (o := o5b1 a2_0 A2_1 l2_1.length c2_1) (by (with_reducible repeat (first | refine kn ?_ _ | refine ke ?_ | refine ka ?_ _)); exact BK164.out) hb); have n2_ := Am (bq (by repeat (first | (with_reducible first | exact HB.out | apply ba | apply bn | apply be | refine bs ?_ GE163.out | refine bs ?_ GE164.out) | exact HB.out)) hb); clear BK163; clear BK164; clear HB; have BK163 := n0_; have BK164 := n1_; have HB := n2_; clear n0_ n1_ n2_; (try clear hb); have hcz95_0 : w94.cell? ⟨gb163, 0, none⟩ = some (.int .i64 a0_0) := (kc BK163.out 0).trans rfl; have hcz95_1 : w94.cell? ⟨gb163, 1, none⟩ = some (.int .i64 a0_1) := (kc BK163.out 1).trans rfl; have hcz95_2 : w94.cell? ⟨gb163, 2, none⟩ = some (.int .i64 a0_2) := (kc BK163.out 2).trans rfl; have hcz95_3 : w94.cell? ⟨gb163, 3, none⟩ = some (.int .i64 a0_3) := (kc BK163.out 3).trans rfl; have hfz95_0 := kf BK163.out 0; have hfz95_1 := kf BK163.out 1; have hfz95_2 := kf BK163.out 2; have hfz95_3 := kf BK163.out 3) | ((with_reducible refine gate_callee (f := 55) rfl ?_); refine goesL_ (some 57) rfl rfl Try.func55 (by kernel_rfl) rfl #[.agg #[.int .i64 a0_0, .int .i64 a0_1, .int .i64 a0_2, .int .i64 a0_3]] rfl (by (try simp only [List.map_toArray, List.map_cons, List.map_nil]); first | done | rfl | (simp only [List.length_drop, List.length_take]; rfl)) ?_; (with_reducible refine (spec_PartWords.calls a0_0 a0_1 a0_2 a0_3 t176 _ A62.out).mono ?_); rintro e w96 ⟨rfl, hb⟩; refine ⟨_, rfl, ?_⟩; have n0_ := Am (kb (g := gb163) (o := o5b0 a0_0 a0_1 a0_2 a0_3) (by (with_reducible repeat (first | refine kn ?_ _ | refine ke ?_ | refine ka ?_ _)); exact BK163.out) hb); have n1_ := Am (kb (g := gb164) (o := o5b1 a2_0 A2_1 l2_1.length c2_1) (by (with_reducible repeat (first | refine kn ?_ _ | refine ke ?_ | refine ka ?_ _)); exact BK164.out) hb); have n2_ := Am (bq (by repeat (first | (with_reducible first | exact HB.out | apply ba | apply bn | apply be | refine bs ?_ GE163.out | refine bs ?_ GE164.out) | exact HB.out)) hb); clear BK163; clear BK164; clear HB; have BK163 := n0_; have BK164 := n1_; have HB := n2_; clear n0_ n1_ n2_; (try clear hb); have hcz97_0 : w96.cell? ⟨gb164, 0, none⟩ = some (.string a2_0) := (kc BK164.out 0).trans rfl; have hcz97_1 : w96.cell? ⟨gb164, 1, none⟩ = some (.slice A2_1 l2_1.length c2_1) := (kc BK164.out 1).trans rfl; have hfz97_0 := kf BK164.out 0; have hfz97_1 := kf BK164.out 1) | ((with_reducible refine gate_callee (f := 49) rfl ?_); refine goesL_ (some 65) rfl rfl Try.func49 (by kernel_rfl) rfl #[.agg #[.string a2_0, .slice A2_1 l2_1.length c2_1], .int .i64 (wrap64 (a1 - 1))] rfl (by (try simp only [List.map_toArray, List.map_cons, List.map_nil]); first | done | rfl | (simp only [List.length_drop, List.length_take]; rfl)) ?_; (with_reducible refine (spec_l26Kept.calls a2_0 _ _ l2_1 (wrap64 (a1 - 1)) t177 _ ?side1 ?side2 A65.out).mono ?_); (case side1 => repeat (first | exact (cb HR2_1.out HB.out) | (with_reducible first | refine ca ?_ _ | refine cn ?_ _ | refine ce ?_))); (case side2 => exact HC2_1.out); rintro e w98 ⟨rfl, hb⟩; refine ⟨_, rfl, ?_⟩; have n0_ := Am (kb (g := gb163) (o := o5b0 a0_0 a0_1 a0_2 a0_3) (by (with_reducible repeat (first | refine kn ?_ _ | refine ke ?_ | refine ka ?_ _)); exact BK163.out) hb); have n1_ := Am (kb (g := gb164) (o := o5b1 a2_0 A2_1 l2_1.length c2_1) (by (with_reducible repeat (first | refine kn ?_ _ | refine ke ?_ | refine ka ?_ _)); exact BK164.out) hb); have n2_ := Am (bq (by repeat (first | (with_reducible first | exact HB.out | apply ba | apply bn | apply be | refine bs ?_ GE163.out | refine bs ?_ GE164.out) | exact HB.out)) hb); clear BK163; clear BK164; clear HB; have BK163 := n0_; have BK164 := n1_; have HB := n2_; clear n0_ n1_ n2_; (try clear hb)) | ((with_reducible refine gate_callee (f := 56) rfl ?_); refine goesL_ (some 66) rfl rfl Try.func56 (by kernel_rfl) rfl #[.string t177] rfl (by (try simp only [List.map_toArray, List.map_cons, List.map_nil]); first | done | rfl | (simp only [List.length_drop, List.length_take]; rfl)) ?_; (with_reducible refine (spec_ReadAddress.calls kj4 t177 t178 false _ A66.out).mono ?_); rintro e w99 ⟨rfl, hb⟩; refine ⟨_, rfl, ?_⟩; have n0_ := Am (kb (g := gb163) (o := o5b0 a0_0 a0_1 a0_2 a0_3) (by (with_reducible repeat (first | refine kn ?_ _ | refine ke ?_ | refine ka ?_ _)); exact BK163.out) hb); have n1_ := Am (kb (g := gb164) (o := o5b1 a2_0 A2_1 l2_1.length c2_1) (by (with_reducible repeat (first | refine kn ?_ _ | refine ke ?_ | refine ka ?_ _)); exact BK164.out) hb); have n2_ := Am (bq (by repeat (first | (with_reducible first | exact HB.out | apply ba | apply bn | apply be | refine bs ?_ GE163.out | refine bs ?_ GE164.out) | exact HB.out)) hb); clear BK163; clear BK164; clear HB; have BK163 := n0_; have BK164 := n1_; have HB := n2_; clear n0_ n1_ n2_; (try clear hb)))
           go_ret
           exact ⟨by first | rfl | (simp [errW_none, errW_some] <;> rfl) | (simp [*, errW_none, errW_some] <;> rfl), by repeat (first | (with_reducible first | exact HB.out | apply ba | apply bn | apply be | refine bs ?_ GE163.out | refine bs ?_ GE164.out) | exact HB.out)⟩
         ·rw [if_neg c64] at H
          have c64b0 : ((Int.tmod (Int.tmod a1 t176) 2) == 1) = false := beq_eq_false_iff_ne.mpr c64
          have c64b1 : ((Int.tmod (Int.tmod a1 t176) 2) != 1) = true := bne_iff_ne.mpr c64
          obtain rfl := Option.some.inj H
          have hnb100 := NB164_163.out
          have hnc100 := NB163_164.out
          have hcz101_0 : wc.cell? ⟨gb164, 0, none⟩ = some (.string a2_0) := (kc BK164.out 0).trans rfl
          have hcz101_1 : wc.cell? ⟨gb164, 1, none⟩ = some (.slice A2_1 l2_1.length c2_1) := (kc BK164.out 1).trans rfl
          have hfz101_0 := kf BK164.out 0
          have hfz101_1 := kf BK164.out 1
          go_wp2_with (first | ((with_reducible refine gate_callee (f := 49) rfl ?_); refine goesL_ (some 33) rfl rfl Try.func49 (by kernel_rfl) rfl #[.agg #[.string a2_0, .slice A2_1 l2_1.length c2_1], .int .i64 a1] rfl (by (try simp only [List.map_toArray, List.map_cons, List.map_nil]); first | done | rfl | (simp only [List.length_drop, List.length_take]; rfl)) ?_; (with_reducible refine (spec_l26Kept.calls a2_0 _ _ l2_1 a1 t170 _ ?side1 ?side2 A26.out).mono ?_); (case side1 => repeat (first | exact (cb HR2_1.out HB.out) | (with_reducible first | refine ca ?_ _ | refine cn ?_ _ | refine ce ?_))); (case side2 => exact HC2_1.out); rintro e w102 ⟨rfl, hb⟩; refine ⟨_, rfl, ?_⟩; have n0_ := Am (kb (g := gb163) (o := o5b0 a0_0 a0_1 a0_2 a0_3) (by (with_reducible repeat (first | refine kn ?_ _ | refine ke ?_ | refine ka ?_ _)); exact BK163.out) hb); have n1_ := Am (kb (g := gb164) (o := o5b1 a2_0 A2_1 l2_1.length c2_1) (by (with_reducible repeat (first | refine kn ?_ _ | refine ke ?_ | refine ka ?_ _)); exact BK164.out) hb); have n2_ := Am (bq (by repeat (first | (with_reducible first | exact HB.out | apply ba | apply bn | apply be | refine bs ?_ GE163.out | refine bs ?_ GE164.out) | exact HB.out)) hb); clear BK163; clear BK164; clear HB; have BK163 := n0_; have BK164 := n1_; have HB := n2_; clear n0_ n1_ n2_; (try clear hb); have hcz103_0 : w102.cell? ⟨gb163, 0, none⟩ = some (.int .i64 a0_0) := (kc BK163.out 0).trans rfl; have hcz103_1 : w102.cell? ⟨gb163, 1, none⟩ = some (.int .i64 a0_1) := (kc BK163.out 1).trans rfl; have hcz103_2 : w102.cell? ⟨gb163, 2, none⟩ = some (.int .i64 a0_2) := (kc BK163.out 2).trans rfl; have hcz103_3 : w102.cell? ⟨gb163, 3, none⟩ = some (.int .i64 a0_3) := (kc BK163.out 3).trans rfl; have hfz103_0 := kf BK163.out 0; have hfz103_1 := kf BK163.out 1; have hfz103_2 := kf BK163.out 2; have hfz103_3 := kf BK163.out 3) | ((with_reducible refine gate_callee (f := 55) rfl ?_); refine goesL_ (some 57) rfl rfl Try.func55 (by kernel_rfl) rfl #[.agg #[.int .i64 a0_0, .int .i64 a0_1, .int .i64 a0_2, .int .i64 a0_3]] rfl (by (try simp only [List.map_toArray, List.map_cons, List.map_nil]); first | done | rfl | (simp only [List.length_drop, List.length_take]; rfl)) ?_; (with_reducible refine (spec_PartWords.calls a0_0 a0_1 a0_2 a0_3 t176 _ A62.out).mono ?_); rintro e w104 ⟨rfl, hb⟩; refine ⟨_, rfl, ?_⟩; have n0_ := Am (kb (g := gb163) (o := o5b0 a0_0 a0_1 a0_2 a0_3) (by (with_reducible repeat (first | refine kn ?_ _ | refine ke ?_ | refine ka ?_ _)); exact BK163.out) hb); have n1_ := Am (kb (g := gb164) (o := o5b1 a2_0 A2_1 l2_1.length c2_1) (by (with_reducible repeat (first | refine kn ?_ _ | refine ke ?_ | refine ka ?_ _)); exact BK164.out) hb); have n2_ := Am (bq (by repeat (first | (with_reducible first | exact HB.out | apply ba | apply bn | apply be | refine bs ?_ GE163.out | refine bs ?_ GE164.out) | exact HB.out)) hb); clear BK163; clear BK164; clear HB; have BK163 := n0_; have BK164 := n1_; have HB := n2_; clear n0_ n1_ n2_; (try clear hb)))
          go_ret
          exact ⟨by first | rfl | (simp [errW_none, errW_some] <;> rfl) | (simp [*, errW_none, errW_some] <;> rfl), by repeat (first | (with_reducible first | exact HB.out | apply ba | apply bn | apply be | refine bs ?_ GE163.out | refine bs ?_ GE164.out) | exact HB.out)⟩
       ·rw [if_neg c61] at H
        have c61b0 : (t166 == 3) = false := beq_eq_false_iff_ne.mpr c61
        have c61b1 : (t166 != 3) = true := bne_iff_ne.mpr c61
        obtain rfl := Option.some.inj H
        have hnb105 := NB164_163.out
        have hnc105 := NB163_164.out
        have hcz106_0 : wc.cell? ⟨gb164, 0, none⟩ = some (.string a2_0) := (kc BK164.out 0).trans rfl
        have hcz106_1 : wc.cell? ⟨gb164, 1, none⟩ = some (.slice A2_1 l2_1.length c2_1) := (kc BK164.out 1).trans rfl
        have hfz106_0 := kf BK164.out 0
        have hfz106_1 := kf BK164.out 1
        go_wp2_with (first | ((with_reducible refine gate_callee (f := 49) rfl ?_); refine goesL_ (some 33) rfl rfl Try.func49 (by kernel_rfl) rfl #[.agg #[.string a2_0, .slice A2_1 l2_1.length c2_1], .int .i64 a1] rfl (by (try simp only [List.map_toArray, List.map_cons, List.map_nil]); first | done | rfl | (simp only [List.length_drop, List.length_take]; rfl)) ?_; (with_reducible refine (spec_l26Kept.calls a2_0 _ _ l2_1 a1 t170 _ ?side1 ?side2 A26.out).mono ?_); (case side1 => repeat (first | exact (cb HR2_1.out HB.out) | (with_reducible first | refine ca ?_ _ | refine cn ?_ _ | refine ce ?_))); (case side2 => exact HC2_1.out); rintro e w107 ⟨rfl, hb⟩; refine ⟨_, rfl, ?_⟩; have n0_ := Am (kb (g := gb163) (o := o5b0 a0_0 a0_1 a0_2 a0_3) (by (with_reducible repeat (first | refine kn ?_ _ | refine ke ?_ | refine ka ?_ _)); exact BK163.out) hb); have n1_ := Am (kb (g := gb164) (o := o5b1 a2_0 A2_1 l2_1.length c2_1) (by (with_reducible repeat (first | refine kn ?_ _ | refine ke ?_ | refine ka ?_ _)); exact BK164.out) hb); have n2_ := Am (bq (by repeat (first | (with_reducible first | exact HB.out | apply ba | apply bn | apply be | refine bs ?_ GE163.out | refine bs ?_ GE164.out) | exact HB.out)) hb); clear BK163; clear BK164; clear HB; have BK163 := n0_; have BK164 := n1_; have HB := n2_; clear n0_ n1_ n2_; (try clear hb)))
        go_ret
        exact ⟨by first | rfl | (simp [errW_none, errW_some] <;> rfl) | (simp [*, errW_none, errW_some] <;> rfl), by repeat (first | (with_reducible first | exact HB.out | apply ba | apply bn | apply be | refine bs ?_ GE163.out | refine bs ?_ GE164.out) | exact HB.out)⟩

/-! ### laws_toGeo: function 12 -/
def laws_toGeo.f (a0_0 : Int) (a0_1 : Int) (a0_2 : Int) (a0_3 : Int) : Option (Int × Int × Int × Int) := some (a0_0, a0_1, a0_2, a0_3)
set_option maxHeartbeats 8000000 in
set_option maxRecDepth 100000 in
theorem laws_toGeo.calls (a0_0 : Int) (a0_1 : Int) (a0_2 : Int) (a0_3 : Int) (r1 : Int) (r2 : Int) (r3 : Int) (r4 : Int) (w : World) (h : laws_toGeo.f a0_0 a0_1 a0_2 a0_3 = some (r1, r2, r3, r4)) :
  Calls Try.prog 12 #[.agg #[.int .i64 a0_0, .int .i64 a0_1, .int .i64 a0_2, .int .i64 a0_3]] w fun e w' => e = .returned (.agg #[.int .i64 r1, .int .i64 r2, .int .i64 r3, .int .i64 r4]) ∧ Below w.heap.size w w' := by
 have hu23 := Try.underlying23
 have hu29 := Try.underlying29
 have HB := Am (Below.refl w.heap.size w)
 have H : (some (a0_0, a0_1, a0_2, a0_3)) = some (r1, r2, r3, r4) := h
 clear h
 simp only [Option.some.injEq, Prod.mk.injEq] at H
 obtain ⟨rfl, rfl, rfl, rfl⟩ := H
 go_enter Try.func12, Try.ntmps12
 go_wp2_with (first | ((with_reducible refine gate_dst (N := 1) rfl ?_); refine box_event ?hg (N := 1) ?hd (cs := #[.int .i64 a0_0, .int .i64 a0_1, .int .i64 a0_2, .int .i64 a0_3]) (t := 23) ?hr ?_; (case hd => rfl); (case hg => rfl); (case hr => first | (go_simp; done) | (go_simp; rfl)); intro gb182 hg w2 hbox hb; have BK182 := Am (hbox); have GW182 := Am ((by rw [hg]; exact (bz (by repeat (first | (with_reducible first | exact HB.out | apply ba | apply bn | apply be) | exact HB.out))) : w.heap.size ≤ gb182)); have GE182 := Am ((by rw [hg]; exact (bz (by repeat (first | (with_reducible first | exact HB.out | apply ba | apply bn | apply be) | exact HB.out))) : w.heap.size ≤ gb182)); replace HB := Am (bq (by repeat (first | (with_reducible first | exact HB.out | apply ba | apply bn | apply be) | exact HB.out)) hb); clear hb hbox hg) | ((with_reducible refine gate_dst (N := 2) rfl ?_); refine box_event ?hg (N := 2) ?hd (cs := #[.int .i64 0, .int .i64 0, .int .i64 0, .int .i64 0]) (t := 29) ?hr ?_; (case hd => rfl); (case hg => rfl); (case hr => first | (go_simp; done) | (go_simp; rfl)); intro gb183 hg w3 hbox hb; have n0_ := Am (kb (g := gb182) (o := o5b3 a0_0 a0_1 a0_2 a0_3) (by (with_reducible repeat (first | refine kn ?_ _ | refine ke ?_ | refine ka ?_ _)); exact BK182.out) hb); have n1_ := Am (bq (by repeat (first | (with_reducible first | exact HB.out | apply ba | apply bn | apply be | refine bs ?_ GE182.out) | exact HB.out)) hb); have n2_ := Am (hbox); have n3_ := Am ((by rw [hg]; exact (bz (by repeat (first | (with_reducible first | exact HB.out | apply ba | apply bn | apply be | refine bs ?_ GE182.out) | exact HB.out))) : w.heap.size ≤ gb183)); have n4_ := Am ((by rw [hg]; exact (bz (by repeat (first | (with_reducible first | exact HB.out | apply ba | apply bn | apply be | refine bs ?_ GE182.out) | exact HB.out))) : w.heap.size ≤ gb183)); have n5_ := Am ((by rw [hg]; exact Nat.ne_of_lt (kl (g := gb182) (o := o5b3 a0_0 a0_1 a0_2 a0_3) (by (with_reducible repeat (first | refine kn ?_ _ | refine ke ?_ | refine ka ?_ _)); exact BK182.out)) : gb182 ≠ gb183)); have n6_ := Am ((by rw [hg]; exact Nat.ne_of_gt (kl (g := gb182) (o := o5b3 a0_0 a0_1 a0_2 a0_3) (by (with_reducible repeat (first | refine kn ?_ _ | refine ke ?_ | refine ka ?_ _)); exact BK182.out)) : gb183 ≠ gb182)); clear BK182; clear HB; have BK182 := n0_; have HB := n1_; have BK183 := n2_; have GW183 := n3_; have GE183 := n4_; have NB182_183 := n5_; have NB183_182 := n6_; clear n0_ n1_ n2_ n3_ n4_ n5_ n6_; clear hb hbox hg) | ((with_reducible refine gate_dst (N := 3) rfl ?_); refine box_event ?hg (N := 3) ?hd (cs := #[.int .i64 0, .int .i64 0, .int .i64 0, .int .i64 0]) (t := 29) ?hr ?_; (case hd => rfl); (case hg => rfl); (case hr => first | (go_simp; done) | (go_simp; rfl)); intro gb184 hg w4 hbox hb; have n0_ := Am (kb (g := gb182) (o := o5b3 a0_0 a0_1 a0_2 a0_3) (by (with_reducible repeat (first | refine kn ?_ _ | refine ke ?_ | refine ka ?_ _)); exact BK182.out) hb); have n1_ := Am (kb (g := gb183) (o := .cells #[.int .i64 0, .int .i64 0, .int .i64 0, .int .i64 0] 29 (0, 0)) (by (with_reducible repeat (first | refine kn ?_ _ | refine ke ?_ | refine ka ?_ _)); exact BK183.out) hb); have n2_ := Am (bq (by repeat (first | (with_reducible first | exact HB.out | apply ba | apply bn | apply be | refine bs ?_ GE182.out | refine bs ?_ GE183.out) | exact HB.out)) hb); have n3_ := Am (hbox); have n4_ := Am ((by rw [hg]; exact (bz (by repeat (first | (with_reducible first | exact HB.out | apply ba | apply bn | apply be | refine bs ?_ GE182.out | refine bs ?_ GE183.out) | exact HB.out))) : w.heap.size ≤ gb184)); have n5_ := Am ((by rw [hg]; exact (bz (by repeat (first | (with_reducible first | exact HB.out | apply ba | apply bn | apply be | refine bs ?_ GE182.out | refine bs ?_ GE183.out) | exact HB.out))) : w.heap.size ≤ gb184)); have n6_ := Am ((by rw [hg]; exact Nat.ne_of_lt (kl (g := gb182) (o := o5b3 a0_0 a0_1 a0_2 a0_3) (by (with_reducible repeat (first | refine kn ?_ _ | refine ke ?_ | refine ka ?_ _)); exact BK182.out)) : gb182 ≠ gb184)); have n7_ := Am ((by rw [hg]; exact Nat.ne_of_gt (kl (g := gb182) (o := o5b3 a0_0 a0_1 a0_2 a0_3) (by (with_reducible repeat (first | refine kn ?_ _ | refine ke ?_ | refine ka ?_ _)); exact BK182.out)) : gb184 ≠ gb182)); have n8_ := Am ((by rw [hg]; exact Nat.ne_of_lt (kl (g := gb183) (o := .cells #[.int .i64 0, .int .i64 0, .int .i64 0, .int .i64 0] 29 (0, 0)) (by (with_reducible repeat (first | refine kn ?_ _ | refine ke ?_ | refine ka ?_ _)); exact BK183.out)) : gb183 ≠ gb184)); have n9_ := Am ((by rw [hg]; exact Nat.ne_of_gt (kl (g := gb183) (o := .cells #[.int .i64 0, .int .i64 0, .int .i64 0, .int .i64 0] 29 (0, 0)) (by (with_reducible repeat (first | refine kn ?_ _ | refine ke ?_ | refine ka ?_ _)); exact BK183.out)) : gb184 ≠ gb183)); clear BK182; clear BK183; clear HB; have BK182 := n0_; have BK183 := n1_; have HB := n2_; have BK184 := n3_; have GW184 := n4_; have GE184 := n5_; have NB182_184 := n6_; have NB184_182 := n7_; have NB183_184 := n8_; have NB184_183 := n9_; clear n0_ n1_ n2_ n3_ n4_ n5_ n6_ n7_ n8_ n9_; clear hb hbox hg; have hnb5 := NB182_183.out; have hnc5 := NB183_182.out; have hnb6 := NB182_184.out; have hnc6 := NB184_182.out; have hcz7_0 : w4.cell? ⟨gb182, 0, none⟩ = some (.int .i64 a0_0) := (kc BK182.out 0).trans rfl; have hcz7_1 : w4.cell? ⟨gb182, 1, none⟩ = some (.int .i64 a0_1) := (kc BK182.out 1).trans rfl; have hcz7_2 : w4.cell? ⟨gb182, 2, none⟩ = some (.int .i64 a0_2) := (kc BK182.out 2).trans rfl; have hcz7_3 : w4.cell? ⟨gb182, 3, none⟩ = some (.int .i64 a0_3) := (kc BK182.out 3).trans rfl; have hfz7_0 := kf BK182.out 0; have hfz7_1 := kf BK182.out 1; have hfz7_2 := kf BK182.out 2; have hfz7_3 := kf BK182.out 3; have hnb8 := NB184_183.out; have hnc8 := NB183_184.out; have hcz9_0 : w4.cell? ⟨gb184, 0, none⟩ = some (.int .i64 0) := (kc BK184.out 0).trans rfl; have hcz9_1 : w4.cell? ⟨gb184, 1, none⟩ = some (.int .i64 0) := (kc BK184.out 1).trans rfl; have hcz9_2 : w4.cell? ⟨gb184, 2, none⟩ = some (.int .i64 0) := (kc BK184.out 2).trans rfl; have hcz9_3 : w4.cell? ⟨gb184, 3, none⟩ = some (.int .i64 0) := (kc BK184.out 3).trans rfl; have hfz9_0 := kf BK184.out 0; have hfz9_1 := kf BK184.out 1; have hfz9_2 := kf BK184.out 2; have hfz9_3 := kf BK184.out 3; have hcz10_0 : w4.cell? ⟨gb183, 0, none⟩ = some (.int .i64 0) := (kc BK183.out 0).trans rfl; have hcz10_1 : w4.cell? ⟨gb183, 1, none⟩ = some (.int .i64 0) := (kc BK183.out 1).trans rfl; have hcz10_2 : w4.cell? ⟨gb183, 2, none⟩ = some (.int .i64 0) := (kc BK183.out 2).trans rfl; have hcz10_3 : w4.cell? ⟨gb183, 3, none⟩ = some (.int .i64 0) := (kc BK183.out 3).trans rfl; have hfz10_0 := kf BK183.out 0; have hfz10_1 := kf BK183.out 1; have hfz10_2 := kf BK183.out 2; have hfz10_3 := kf BK183.out 3))
 refine bodyPost_ret (results_cell_row rfl _ _ gb183 29 #[.int .i64 a0_0, .int .i64 a0_1, .int .i64 a0_2, .int .i64 a0_3] (0, 0) _ rfl (by (with_reducible repeat (first | refine kn ?_ _ | refine ke ?_ | refine ka ?_ _)); refine kp (cs := #[.int .i64 a0_0, .int .i64 a0_1, .int .i64 a0_2, .int .i64 0]) ?_ 3 _ rfl; (with_reducible repeat (first | refine kn ?_ _ | refine ke ?_ | refine ka ?_ _)); refine kp (cs := #[.int .i64 a0_0, .int .i64 a0_1, .int .i64 0, .int .i64 0]) ?_ 2 _ rfl; (with_reducible repeat (first | refine kn ?_ _ | refine ke ?_ | refine ka ?_ _)); refine kp (cs := #[.int .i64 a0_0, .int .i64 0, .int .i64 0, .int .i64 0]) ?_ 1 _ rfl; (with_reducible repeat (first | refine kn ?_ _ | refine ke ?_ | refine ka ?_ _)); refine kp (cs := #[.int .i64 0, .int .i64 0, .int .i64 0, .int .i64 0]) ?_ 0 _ rfl; (with_reducible repeat (first | refine kn ?_ _ | refine ke ?_ | refine ka ?_ _)); refine blk_far ?_ NB183_184.out _; (with_reducible repeat (first | refine kn ?_ _ | refine ke ?_ | refine ka ?_ _)); refine blk_far ?_ NB183_184.out _; (with_reducible repeat (first | refine kn ?_ _ | refine ke ?_ | refine ka ?_ _)); refine blk_far ?_ NB183_184.out _; (with_reducible repeat (first | refine kn ?_ _ | refine ke ?_ | refine ka ?_ _)); refine blk_far ?_ NB183_184.out _; (with_reducible repeat (first | refine kn ?_ _ | refine ke ?_ | refine ka ?_ _)); exact BK183.out) Try.underlying29 rfl (by kernel_rfl)) rfl ?_
 exact ⟨by first | rfl | (simp [errW_none, errW_some] <;> rfl) | (simp [*, errW_none, errW_some] <;> rfl), by repeat (first | (with_reducible first | exact HB.out | apply ba | apply bn | apply be | refine bs ?_ GE182.out | refine bs ?_ GE183.out | refine bs ?_ GE184.out) | exact HB.out)⟩

/-! ### laws_toCell: function 102 -/
def laws_toCell.f (a0_0 : Int) (a0_1 : ByteArray) (a0_2 : Bool) : Option (Int × ByteArray × Bool) := some (a0_0, a0_1, a0_2)
set_option maxHeartbeats 8000000 in
set_option maxRecDepth 100000 in
theorem laws_toCell.calls (a0_0 : Int) (a0_1 : ByteArray) (a0_2 : Bool) (r1 : Int) (r2 : ByteArray) (r3 : Bool) (w : World) (h : laws_toCell.f a0_0 a0_1 a0_2 = some (r1, r2, r3)) :
  Calls Try.prog 102 #[.agg #[.int .i64 a0_0, .string a0_1, .bool a0_2]] w fun e w' => e = .returned (.agg #[.int .i64 r1, .string r2, .bool r3]) ∧ Below w.heap.size w w' := by
 have hu149 := Try.underlying149
 have hu155 := Try.underlying155
 have HB := Am (Below.refl w.heap.size w)
 have H : (some (a0_0, a0_1, a0_2)) = some (r1, r2, r3) := h
 clear h
 simp only [Option.some.injEq, Prod.mk.injEq] at H
 obtain ⟨rfl, rfl, rfl⟩ := H
 go_enter Try.func102, Try.ntmps102
 go_wp2_with (first | ((with_reducible refine gate_dst (N := 1) rfl ?_); refine box_event ?hg (N := 1) ?hd (cs := #[.int .i64 a0_0, .string a0_1, .bool a0_2]) (t := 149) ?hr ?_; (case hd => rfl); (case hg => rfl); (case hr => first | (go_simp; done) | (go_simp; rfl)); intro gb185 hg w2 hbox hb; have BK185 := Am (hbox); have GW185 := Am ((by rw [hg]; exact (bz (by repeat (first | (with_reducible first | exact HB.out | apply ba | apply bn | apply be) | exact HB.out))) : w.heap.size ≤ gb185)); have GE185 := Am ((by rw [hg]; exact (bz (by repeat (first | (with_reducible first | exact HB.out | apply ba | apply bn | apply be) | exact HB.out))) : w.heap.size ≤ gb185)); replace HB := Am (bq (by repeat (first | (with_reducible first | exact HB.out | apply ba | apply bn | apply be) | exact HB.out)) hb); clear hb hbox hg) | ((with_reducible refine gate_dst (N := 2) rfl ?_); refine box_event ?hg (N := 2) ?hd (cs := #[.int .i64 0, .string (⟨#[]⟩ : ByteArray), .bool false]) (t := 155) ?hr ?_; (case hd => rfl); (case hg => rfl); (case hr => first | (go_simp; done) | (go_simp; rfl)); intro gb186 hg w3 hbox hb; have n0_ := Am (kb (g := gb185) (o := o5b4 a0_0 a0_1 a0_2) (by (with_reducible repeat (first | refine kn ?_ _ | refine ke ?_ | refine ka ?_ _)); exact BK185.out) hb); have n1_ := Am (bq (by repeat (first | (with_reducible first | exact HB.out | apply ba | apply bn | apply be | refine bs ?_ GE185.out) | exact HB.out)) hb); have n2_ := Am (hbox); have n3_ := Am ((by rw [hg]; exact (bz (by repeat (first | (with_reducible first | exact HB.out | apply ba | apply bn | apply be | refine bs ?_ GE185.out) | exact HB.out))) : w.heap.size ≤ gb186)); have n4_ := Am ((by rw [hg]; exact (bz (by repeat (first | (with_reducible first | exact HB.out | apply ba | apply bn | apply be | refine bs ?_ GE185.out) | exact HB.out))) : w.heap.size ≤ gb186)); have n5_ := Am ((by rw [hg]; exact Nat.ne_of_lt (kl (g := gb185) (o := o5b4 a0_0 a0_1 a0_2) (by (with_reducible repeat (first | refine kn ?_ _ | refine ke ?_ | refine ka ?_ _)); exact BK185.out)) : gb185 ≠ gb186)); have n6_ := Am ((by rw [hg]; exact Nat.ne_of_gt (kl (g := gb185) (o := o5b4 a0_0 a0_1 a0_2) (by (with_reducible repeat (first | refine kn ?_ _ | refine ke ?_ | refine ka ?_ _)); exact BK185.out)) : gb186 ≠ gb185)); clear BK185; clear HB; have BK185 := n0_; have HB := n1_; have BK186 := n2_; have GW186 := n3_; have GE186 := n4_; have NB185_186 := n5_; have NB186_185 := n6_; clear n0_ n1_ n2_ n3_ n4_ n5_ n6_; clear hb hbox hg) | ((with_reducible refine gate_dst (N := 3) rfl ?_); refine box_event ?hg (N := 3) ?hd (cs := #[.int .i64 0, .string (⟨#[]⟩ : ByteArray), .bool false]) (t := 155) ?hr ?_; (case hd => rfl); (case hg => rfl); (case hr => first | (go_simp; done) | (go_simp; rfl)); intro gb187 hg w4 hbox hb; have n0_ := Am (kb (g := gb185) (o := o5b4 a0_0 a0_1 a0_2) (by (with_reducible repeat (first | refine kn ?_ _ | refine ke ?_ | refine ka ?_ _)); exact BK185.out) hb); have n1_ := Am (kb (g := gb186) (o := .cells #[.int .i64 0, .string (⟨#[]⟩ : ByteArray), .bool false] 155 (0, 0)) (by (with_reducible repeat (first | refine kn ?_ _ | refine ke ?_ | refine ka ?_ _)); exact BK186.out) hb); have n2_ := Am (bq (by repeat (first | (with_reducible first | exact HB.out | apply ba | apply bn | apply be | refine bs ?_ GE185.out | refine bs ?_ GE186.out) | exact HB.out)) hb); have n3_ := Am (hbox); have n4_ := Am ((by rw [hg]; exact (bz (by repeat (first | (with_reducible first | exact HB.out | apply ba | apply bn | apply be | refine bs ?_ GE185.out | refine bs ?_ GE186.out) | exact HB.out))) : w.heap.size ≤ gb187)); have n5_ := Am ((by rw [hg]; exact (bz (by repeat (first | (with_reducible first | exact HB.out | apply ba | apply bn | apply be | refine bs ?_ GE185.out | refine bs ?_ GE186.out) | exact HB.out))) : w.heap.size ≤ gb187)); have n6_ := Am ((by rw [hg]; exact Nat.ne_of_lt (kl (g := gb185) (o := o5b4 a0_0 a0_1 a0_2) (by (with_reducible repeat (first | refine kn ?_ _ | refine ke ?_ | refine ka ?_ _)); exact BK185.out)) : gb185 ≠ gb187)); have n7_ := Am ((by rw [hg]; exact Nat.ne_of_gt (kl (g := gb185) (o := o5b4 a0_0 a0_1 a0_2) (by (with_reducible repeat (first | refine kn ?_ _ | refine ke ?_ | refine ka ?_ _)); exact BK185.out)) : gb187 ≠ gb185)); have n8_ := Am ((by rw [hg]; exact Nat.ne_of_lt (kl (g := gb186) (o := .cells #[.int .i64 0, .string (⟨#[]⟩ : ByteArray), .bool false] 155 (0, 0)) (by (with_reducible repeat (first | refine kn ?_ _ | refine ke ?_ | refine ka ?_ _)); exact BK186.out)) : gb186 ≠ gb187)); have n9_ := Am ((by rw [hg]; exact Nat.ne_of_gt (kl (g := gb186) (o := .cells #[.int .i64 0, .string (⟨#[]⟩ : ByteArray), .bool false] 155 (0, 0)) (by (with_reducible repeat (first | refine kn ?_ _ | refine ke ?_ | refine ka ?_ _)); exact BK186.out)) : gb187 ≠ gb186)); clear BK185; clear BK186; clear HB; have BK185 := n0_; have BK186 := n1_; have HB := n2_; have BK187 := n3_; have GW187 := n4_; have GE187 := n5_; have NB185_187 := n6_; have NB187_185 := n7_; have NB186_187 := n8_; have NB187_186 := n9_; clear n0_ n1_ n2_ n3_ n4_ n5_ n6_ n7_ n8_ n9_; clear hb hbox hg; have hnb5 := NB185_186.out; have hnc5 := NB186_185.out; have hnb6 := NB185_187.out; have hnc6 := NB187_185.out; have hcz7_0 : w4.cell? ⟨gb185, 0, none⟩ = some (.int .i64 a0_0) := (kc BK185.out 0).trans rfl; have hcz7_1 : w4.cell? ⟨gb185, 1, none⟩ = some (.string a0_1) := (kc BK185.out 1).trans rfl; have hcz7_2 : w4.cell? ⟨gb185, 2, none⟩ = some (.bool a0_2) := (kc BK185.out 2).trans rfl; have hfz7_0 := kf BK185.out 0; have hfz7_1 := kf BK185.out 1; have hfz7_2 := kf BK185.out 2; have hnb8 := NB187_186.out; have hnc8 := NB186_187.out; have hcz9_0 : w4.cell? ⟨gb187, 0, none⟩ = some (.int .i64 0) := (kc BK187.out 0).trans rfl; have hcz9_1 : w4.cell? ⟨gb187, 1, none⟩ = some (.string (⟨#[]⟩ : ByteArray)) := (kc BK187.out 1).trans rfl; have hcz9_2 : w4.cell? ⟨gb187, 2, none⟩ = some (.bool false) := (kc BK187.out 2).trans rfl; have hfz9_0 := kf BK187.out 0; have hfz9_1 := kf BK187.out 1; have hfz9_2 := kf BK187.out 2; have hcz10_0 : w4.cell? ⟨gb186, 0, none⟩ = some (.int .i64 0) := (kc BK186.out 0).trans rfl; have hcz10_1 : w4.cell? ⟨gb186, 1, none⟩ = some (.string (⟨#[]⟩ : ByteArray)) := (kc BK186.out 1).trans rfl; have hcz10_2 : w4.cell? ⟨gb186, 2, none⟩ = some (.bool false) := (kc BK186.out 2).trans rfl; have hfz10_0 := kf BK186.out 0; have hfz10_1 := kf BK186.out 1; have hfz10_2 := kf BK186.out 2))
 refine bodyPost_ret (results_cell_row rfl _ _ gb186 155 #[.int .i64 a0_0, .string a0_1, .bool a0_2] (0, 0) _ rfl (by (with_reducible repeat (first | refine kn ?_ _ | refine ke ?_ | refine ka ?_ _)); refine kp (cs := #[.int .i64 a0_0, .string a0_1, .bool false]) ?_ 2 _ rfl; (with_reducible repeat (first | refine kn ?_ _ | refine ke ?_ | refine ka ?_ _)); refine kp (cs := #[.int .i64 a0_0, .string (⟨#[]⟩ : ByteArray), .bool false]) ?_ 1 _ rfl; (with_reducible repeat (first | refine kn ?_ _ | refine ke ?_ | refine ka ?_ _)); refine kp (cs := #[.int .i64 0, .string (⟨#[]⟩ : ByteArray), .bool false]) ?_ 0 _ rfl; (with_reducible repeat (first | refine kn ?_ _ | refine ke ?_ | refine ka ?_ _)); refine blk_far ?_ NB186_187.out _; (with_reducible repeat (first | refine kn ?_ _ | refine ke ?_ | refine ka ?_ _)); refine blk_far ?_ NB186_187.out _; (with_reducible repeat (first | refine kn ?_ _ | refine ke ?_ | refine ka ?_ _)); refine blk_far ?_ NB186_187.out _; (with_reducible repeat (first | refine kn ?_ _ | refine ke ?_ | refine ka ?_ _)); exact BK186.out) Try.underlying155 rfl (by kernel_rfl)) rfl ?_
 exact ⟨by first | rfl | (simp [errW_none, errW_some] <;> rfl) | (simp [*, errW_none, errW_some] <;> rfl), by repeat (first | (with_reducible first | exact HB.out | apply ba | apply bn | apply be | refine bs ?_ GE185.out | refine bs ?_ GE186.out | refine bs ?_ GE187.out) | exact HB.out)⟩

/-! ### laws_toCellS: function 57 -/
def laws_toCellS.l0 : Nat → List (S149) → List (S155) → Int → Option ((List (S155)))
 | 0, _, _, _ => none
 | k + 1, x0, x3, x4 => if x4 < (x0.length : Int) then (if 0 ≤ x4 then ((laws_toCell.f ((rd_T149 x0 x4).f0) ((rd_T149 x0 x4).f1) ((rd_T149 x0 x4).f2)).bind fun bt192 => (if x4 < (x3.length : Int) then (laws_toCellS.l0 k x0 (x3.set (x4 : Int).toNat (⟨bt192.1, bt192.2.1, bt192.2.2⟩ : S155)) (wrap64 (x4 + 1))) else (none))) else (none)) else (some x3)
def laws_toCellS.f (k : Nat) (l0 : List (S149)) : Option ((List (S155))) := if 0 ≤ (l0.length : Int) then (if ((l0.length : Int) : Int).toNat ≤ 8796093022208 then (laws_toCellS.l0 k l0 (List.replicate ((l0.length : Int) : Int).toNat z155) 0) else (none)) else (none)
theorem laws_toCellS.mono_l : ∀ k, (∀ y0 y1 y2, LeO (laws_toCellS.l0 k y0 y1 y2) (laws_toCellS.l0 (k + 1) y0 y1 y2))
 | 0 => fun _ _ _ r h => by simp [laws_toCellS.l0] at h
 | k + 1 => by
  have ih0 := laws_toCellS.mono_l k
  ·intro y0 y1 y2
   unfold laws_toCellS.l0
   repeat' first
   | (with_reducible exact ih0 _ _ _)
   | (with_reducible exact LeO.refl _)
   | (with_reducible exact LeO.none _)
   | (with_reducible refine LeO.ite ?_ ?_)
   | (with_reducible refine LeO.bind ?_ (fun _ => ?_))
   | exact ih0 _ _ _
   | exact LeO.none _
   | refine LeO.ite ?_ ?_
   | refine LeO.bind ?_ (fun _ => ?_)
theorem laws_toCellS.mono : ∀ a0 k, LeO (laws_toCellS.f k a0) (laws_toCellS.f (k + 1) a0) := by
 intro a0 k
 have ih0 := laws_toCellS.mono_l k
 unfold laws_toCellS.f
 repeat' first
   | (with_reducible exact ih0 _ _ _)
   | (with_reducible exact LeO.refl _)
   | (with_reducible exact LeO.none _)
   | (with_reducible refine LeO.ite ?_ ?_)
   | (with_reducible refine LeO.bind ?_ (fun _ => ?_))
   | exact ih0 _ _ _
   | exact LeO.none _
   | refine LeO.ite ?_ ?_
   | refine LeO.bind ?_ (fun _ => ?_)
set_option maxHeartbeats 8000000 in
set_option maxRecDepth 100000 in
theorem laws_toCellS.calls (k : Nat) (A0 : Option Addr) (c0 : Nat) (l0 : List (S149)) (r : List (S155)) (w : World) (hr0 : Kd.C k149 w A0 l0.length l0) (hc0 : l0.length ≤ c0) (h : laws_toCellS.f k l0 = some r) :
  Calls Try.prog 57 #[.slice A0 l0.length c0] w fun e w' => ∃ v0_ : Value, e = .returned (v0_) ∧ Kd.R k155 155 w' w.heap.size (fun _ => True) v0_ r ∧ Below w.heap.size w w' := by
 have hu149 := Try.underlying149
 have hu155 := Try.underlying155
 have HR0 := Am hr0
 have HC0 := Am hc0
 clear hr0 hc0
 have HB := Am (Below.refl w.heap.size w)
 have H : (if 0 ≤ (l0.length : Int) then (if ((l0.length : Int) : Int).toNat ≤ 8796093022208 then (laws_toCellS.l0 k l0 (List.replicate ((l0.length : Int) : Int).toNat z155) 0) else (none)) else (none)) = some r := h
 clear h
 by_cases c2 : 0 ≤ (l0.length : Int)
 ·rw [if_pos c2] at H
  have c2b0 := eq_true c2
  have c2b1 : decide (0 ≤ (l0.length : Int)) = true := decide_eq_true c2
  clear c2
  by_cases c3 : ((l0.length : Int) : Int).toNat ≤ 8796093022208
  ·rw [if_pos c3] at H
   have c3b0 := eq_true c3
   have c3b1 : decide (((l0.length : Int) : Int).toNat ≤ 8796093022208) = true := decide_eq_true c3
   clear c3
   obtain ⟨y188, hy188⟩ : ∃ y_ : List (S155), y_ = (List.replicate ((l0.length : Int) : Int).toNat z155) := ⟨_, rfl⟩
   replace H : (laws_toCellS.l0 k l0 y188 0) = some r := by first | (rw [hy188]; with_reducible exact H) | (have H2_ := (Option.bind_some _ _).symm.trans H; rw [hy188]; with_reducible exact H2_) | (have H2_ := (Option.bind_some _ _).symm.trans H; with_reducible exact H2_) | with_reducible exact H | (rw [hy188]; exact H) | exact H
   have Ny188 := Am hy188
   clear hy188
   have H' := Am H
   clear H
   go_enter Try.func57, Try.ntmps57
   go_wp2_with (first | ((with_reducible refine gate_dst (N := 7) rfl ?_); refine Kd.R_make k155 _ 155 rfl (N := 7) rfl 31 _ _ rfl (l0.length : Int) rfl rfl Try.underlying31 (.agg #[(.int .i64 0), (.string ⟨#[]⟩), (.bool false)]) 32 info155 rfl (by decide) (by omega) z155 (ok := fun _ => True) (okp := fun _ => True) (k155_mkM _ _ _ z155 ) (fun _ hk => hk) trivial (of_decide_eq_true (by first | (with_reducible assumption) | assumption)) (Nat.le_trans (Nat.mul_le_mul_right _ (of_decide_eq_true (by first | (with_reducible assumption) | assumption) : (l0.length : Int).toNat ≤ 8796093022208)) (by omega)) (Below.refl _ _) (Nat.le_refl _) ?_; intro v189 w4 ho5 hb hg_ hnew_; clear hg_ hnew_; (first | rw [← Ny188.out] at ho5 | (simp only [Int.reduceToNat] at ho5; rw [← Ny188.out] at ho5)); have HO190 := Am (Kd.R_lower ho5 (bz (by repeat (first | (with_reducible first | exact HB.out | apply ba | apply bn | apply be) | exact HB.out)))); replace HB := Am (bq (by repeat (first | (with_reducible first | exact HB.out | apply ba | apply bn | apply be) | exact HB.out)) hb); clear hb ho5))
   go_loopg [4] k (fun kq v4 w' => ∃ (x3_1 : List (S155)) (x4_1 : Int), v4 = .int .i64 x4_1 ∧ Aside0 (laws_toCellS.l0 kq l0 x3_1 x4_1 = some r) ∧ Aside0 (kq ≤ k) ∧ Aside0 (Kd.R k155 155 w' w.heap.size (fun _ => True) v189 x3_1) ∧ Aside0 (Below w.heap.size w w'))
   case atStart => exact ⟨(y188), (0), (by first | rfl | (simp; done) | (simp [*]; done)), H', ⟨Nat.le_refl _⟩, ⟨by (with_reducible repeat (first | apply ra | apply rn | apply re)); exact HO190.out⟩, ⟨by repeat (first | (with_reducible first | exact HB.out | apply ba | apply bn | apply be) | exact HB.out)⟩⟩
   case round =>
    clear H'
    try clear c2
    try clear c2b0
    try clear c2b1
    try clear p2
    try clear c3
    try clear c3b0
    try clear c3b1
    try clear c5
    obtain ⟨x3_1, x4_1, rfl, HA, HK1, HO_3, HB⟩ := hrel
    cases gk with
    | zero => exact absurd HA.out (by simp [laws_toCellS.l0])
    | succ k1 =>
     have H := HA.out
     clear HA
     simp only [laws_toCellS.l0] at H
     by_cases c6 : x4_1 < (l0.length : Int)
     ·rw [if_pos c6] at H
      have c6b0 : decide (x4_1 < (l0.length : Int)) = true := decide_eq_true c6
      clear c6
      by_cases c7 : 0 ≤ x4_1
      ·rw [if_pos c7] at H
       have c7b0 : decide (0 ≤ x4_1) = true := decide_eq_true c7
       clear c7
       replace H := Option.bind_eq_some_iff.mp H
       obtain ⟨⟨t192, t193, t194⟩, A80, H⟩ := H
       replace H : (if x4_1 < (x3_1.length : Int) then (laws_toCellS.l0 k1 l0 (x3_1.set (x4_1 : Int).toNat (⟨t192, t193, t194⟩ : S155)) (wrap64 (x4_1 + 1))) else (none)) = some r := H
       have A8 := Am A80
       clear A80
       by_cases c9 : x4_1 < (x3_1.length : Int)
       ·rw [if_pos c9] at H
        have c9b0 : decide (x4_1 < (x3_1.length : Int)) = true := decide_eq_true c9
        clear c9
        obtain ⟨y195, hy195⟩ : ∃ y_ : List (S155), y_ = (x3_1.set (x4_1 : Int).toNat (⟨t192, t193, t194⟩ : S155)) := ⟨_, rfl⟩
        replace H : (laws_toCellS.l0 k1 l0 y195 (wrap64 (x4_1 + 1))) = some r := by first | (rw [hy195]; with_reducible exact H) | (have H2_ := (Option.bind_some _ _).symm.trans H; rw [hy195]; with_reducible exact H2_) | (have H2_ := (Option.bind_some _ _).symm.trans H; with_reducible exact H2_) | with_reducible exact H | (rw [hy195]; exact H) | exact H
        have Ny195 := Am hy195
        clear hy195
        have H' := Am H
        clear H
        have p191 : 0 ≤ (x4_1 : Int) := of_decide_eq_true (by first | (with_reducible assumption) | assumption)
        have q191 : x4_1 < (l0.length : Int) := of_decide_eq_true (by first | (with_reducible assumption) | assumption)
        obtain ⟨ad191, e191, hx191_0, hx191_1, hx191_2⟩ := at_T149 HR0.out x4_1 p191 q191
        cases e191
        replace hx191_0 := cl5 HB hx191_0
        replace hx191_1 := cl5 HB hx191_1
        replace hx191_2 := cl5 HB hx191_2
        replace p191 := eq_true p191
        replace q191 := eq_true q191
        go_wp2_with (first | ((with_reducible refine gate_callee (f := 102) rfl ?_); refine goesL_ (some 20) rfl rfl Try.func102 (by kernel_rfl) rfl #[.agg #[.int .i64 ((rd_T149 l0 x4_1).f0), .string ((rd_T149 l0 x4_1).f1), .bool ((rd_T149 l0 x4_1).f2)]] rfl (by (try simp only [List.map_toArray, List.map_cons, List.map_nil]); first | done | rfl | (simp only [List.length_drop, List.length_take]; rfl)) ?_; (with_reducible refine (laws_toCell.calls ((rd_T149 l0 x4_1).f0) ((rd_T149 l0 x4_1).f1) ((rd_T149 l0 x4_1).f2) t192 t193 t194 _ A8.out).mono ?_); rintro e w11 ⟨rfl, hb⟩; refine ⟨_, rfl, ?_⟩; replace HO_3 := Am (rb (by (with_reducible repeat (first | apply ra | apply rn | apply re)); exact HO_3.out) hb); replace HB := Am (bq (by repeat (first | (with_reducible first | exact HB.out | apply ba | apply bn | apply be) | exact HB.out)) hb); (try clear hb); have p10 : 0 ≤ (x4_1 : Int) := of_decide_eq_true (by first | (with_reducible assumption) | assumption); have q10 : (x4_1 : Int) < ((x3_1.length : Int) : Int) := of_decide_eq_true (by first | (with_reducible assumption) | assumption); obtain ⟨go10, co10, eo10, gb10, gl10, cl10, HG10⟩ := Kd.R_form HO_3.out (by omega); (first | cases eo10 | (injection eo10 with ea_ en_ ec_; (first | subst ea_ | (injection ea_ with ea_; subst ea_)); subst ec_; clear en_)); have GB10 := Am gb10; have GG10 := Am HG10; clear gb10 gl10 HG10; obtain ⟨ce10, hcl10, hM10, hcc10, hfr10⟩ := Kd.R_elem HO_3.out z155 (x4_1 : Int) p10 q10; obtain rfl := k155_openM hM10; have hx10_0 : w11.cell? ⟨go10, (x4_1 : Int).toNat * 3, none⟩ = some (.int .i64 ((rd_T155 x3_1 x4_1).f0)) := hcc10 0 _ rfl; have hx10_1 : w11.cell? ⟨go10, (x4_1 : Int).toNat * 3 + 1, none⟩ = some (.string ((rd_T155 x3_1 x4_1).f1)) := hcc10 1 _ rfl; have hx10_2 : w11.cell? ⟨go10, (x4_1 : Int).toNat * 3 + 2, none⟩ = some (.bool ((rd_T155 x3_1 x4_1).f2)) := hcc10 2 _ rfl; have hf10_0 : w11.frozen? ⟨go10, (x4_1 : Int).toNat * 3, none⟩ = false := hfr10 0; have hf10_1 : w11.frozen? ⟨go10, (x4_1 : Int).toNat * 3 + 1, none⟩ = false := hfr10 1; have hf10_2 : w11.frozen? ⟨go10, (x4_1 : Int).toNat * 3 + 2, none⟩ = false := hfr10 2; clear hcl10 hcc10 hfr10 hM10; replace p10 := eq_true p10; replace q10 := eq_true q10; have HX12 := Am (show Kd.R k155 155 w11 w.heap.size (fun _ => True) (.slice (some ⟨go10, 0, none⟩) x3_1.length co10) x3_1 from (by (with_reducible repeat (first | apply ra | apply rn | apply re)); exact HO_3.out)); obtain ⟨ce12, hcl12, hM12, hcc12, hfr12⟩ := Kd.R_elem HX12.out z155 (x4_1 : Int) (of_decide_eq_true (by first | (with_reducible assumption) | assumption)) (by have h_ : (x4_1 : Int) < ((x3_1.length : Int) : Int) := of_decide_eq_true (by first | (with_reducible assumption) | assumption); first | exact h_ | (have e_ := (Kd.R_reads' HO_3.out).1; omega) | simpa using h_); obtain rfl := k155_openM hM12; have HP12 := Kd.R_seg HX12.out (x4_1 : Int) (of_decide_eq_true (by first | (with_reducible assumption) | assumption)) (by have h_ : (x4_1 : Int) < ((x3_1.length : Int) : Int) := of_decide_eq_true (by first | (with_reducible assumption) | assumption); first | exact h_ | (have e_ := (Kd.R_reads' HO_3.out).1; omega) | simpa using h_) (seg := [.int .i64 t192, .string t193, .bool t194]) (j := 0) hcl12 hcc12 (show 3 ≤ 3 from by decide) (x' := (⟨t192, t193, t194⟩ : S155)) (k155_mkM _ _ _ (⟨t192, t193, t194⟩ : S155) ) (fun _ hk => hk); have hx12_0 := hcc12 0 _ rfl; (try simp only [show (k155).sz = 3 from rfl, Nat.mul_one, Nat.add_zero] at hx12_0); have hf12_0 := hfr12 0; (try simp only [show (k155).sz = 3 from rfl, Nat.mul_one, Nat.add_zero] at hf12_0); have hx12_1 := hcc12 1 _ rfl; (try simp only [show (k155).sz = 3 from rfl, Nat.mul_one, Nat.add_zero] at hx12_1); have hf12_1 := hfr12 1; (try simp only [show (k155).sz = 3 from rfl, Nat.mul_one, Nat.add_zero] at hf12_1); have hx12_2 := hcc12 2 _ rfl; (try simp only [show (k155).sz = 3 from rfl, Nat.mul_one, Nat.add_zero] at hx12_2); have hf12_2 := hfr12 2; (try simp only [show (k155).sz = 3 from rfl, Nat.mul_one, Nat.add_zero] at hf12_2); clear hcl12 hcc12 hfr12 hM12) | ((with_reducible refine gate_store (t := 155) (p := 21) rfl ?_); refine store_event (t := 155) (p := 21) (v := ?vo_w13) (w1 := (((w11.setCell ⟨go10, (x4_1 : Int).toNat * 3, none⟩ (.int .i64 t192)).setCell ⟨go10, (x4_1 : Int).toNat * 3 + 1, none⟩ (.string t193)).setCell ⟨go10, (x4_1 : Int).toNat * 3 + 2, none⟩ (.bool t194))) ?hg ?ho ?hn ?hr ?_; (case ho => rfl); (case hg => rfl); (case hn => rfl); (case hr => first | (go_simp; done) | (go_simp; rfl)); intro w13 hw; have hg : w11.grownBy w13 (some go10) := (by rw [hw]; exact HP12.2); have hp_ : Kd.R k155 155 w13 w.heap.size (fun _ => True) (.slice (some ⟨go10, 0, none⟩) x3_1.length co10) y195 := (by rw [hw, Ny195.out]; exact HP12.1); clear HP12; replace HO_3 := Am (hp_); replace HB := Am ((by rw [hw]; exact bs (bs (bs (HB.out) GB10.out) GB10.out) GB10.out : Below w.heap.size w w13)); clear hg hw hp_))
        go_roundg k1
        case measure => have := HK1.out; omega
        case rel => exact ⟨(y195), (wrap64 (x4_1 + 1)), (by first | rfl | (simp; done) | (simp [*]; done)), H', ⟨by have := HK1.out; omega⟩, ⟨by (with_reducible repeat (first | apply ra | apply rn | apply re)); exact HO_3.out⟩, ⟨by repeat (first | (with_reducible first | exact HB.out | apply ba | apply bn | apply be) | exact HB.out)⟩⟩
       ·rw [if_neg c9] at H
        exact absurd H (by simp)
      ·rw [if_neg c7] at H
       exact absurd H (by simp)
     ·rw [if_neg c6] at H
      have c6b0 : decide (x4_1 < (l0.length : Int)) = false := decide_eq_false c6
      clear c6
      obtain rfl := Option.some.inj H
      go_wp2
      go_ret
      exact ⟨_, by first | rfl | (simp [errW_none, errW_some] <;> rfl) | (simp [*, errW_none, errW_some] <;> rfl), by (with_reducible repeat (first | apply ra | apply rn | apply re)); exact HO_3.out, by repeat (first | (with_reducible first | exact HB.out | apply ba | apply bn | apply be) | exact HB.out)⟩
  ·rw [if_neg c3] at H
   exact absurd H (by simp)
 ·rw [if_neg c2] at H
  exact absurd H (by simp)

/-! ### laws_toMemory: function 13 -/
def laws_toMemory.f (k : Nat) (a0_0 : ByteArray) (l0_1 : List (S149)) : Option (ByteArray × (List (S155))) := (laws_toCellS.f k l0_1).bind fun t199 => (some (a0_0, t199))
theorem laws_toMemory.mono : ∀ a0 a1 k, LeO (laws_toMemory.f k a0 a1) (laws_toMemory.f (k + 1) a0 a1) := by
 intro a0 a1 k
 unfold laws_toMemory.f
 repeat' first
   | (with_reducible exact laws_toCellS.mono _ _)
   | (with_reducible exact LeO.refl _)
   | (with_reducible exact LeO.none _)
   | (with_reducible refine LeO.ite ?_ ?_)
   | (with_reducible refine LeO.bind ?_ (fun _ => ?_))
   | exact laws_toCellS.mono _ _
   | exact LeO.none _
   | refine LeO.ite ?_ ?_
   | refine LeO.bind ?_ (fun _ => ?_)
set_option maxHeartbeats 8000000 in
set_option maxRecDepth 100000 in
theorem laws_toMemory.calls (k : Nat) (a0_0 : ByteArray) (A0_1 : Option Addr) (c0_1 : Nat) (l0_1 : List (S149)) (r1 : ByteArray) (r2 : List (S155)) (w : World) (hr0_1 : Kd.C k149 w A0_1 l0_1.length l0_1) (hc0_1 : l0_1.length ≤ c0_1) (h : laws_toMemory.f k a0_0 l0_1 = some (r1, r2)) :
  Calls Try.prog 13 #[.agg #[.string a0_0, .slice A0_1 l0_1.length c0_1]] w fun e w' => ∃ v1_ : Value, e = .returned (.agg #[.string r1, v1_]) ∧ Kd.R k155 155 w' w.heap.size (fun _ => True) v1_ r2 ∧ Below w.heap.size w w' := by
 have hu26 := Try.underlying26
 have hu33 := Try.underlying33
 have HR0_1 := Am hr0_1
 have HC0_1 := Am hc0_1
 clear hr0_1 hc0_1
 have HB := Am (Below.refl w.heap.size w)
 have H : ((laws_toCellS.f k l0_1).bind fun t199 => (some (a0_0, t199))) = some (r1, r2) := h
 clear h
 replace H := Option.bind_eq_some_iff.mp H
 obtain ⟨t199, A20, H⟩ := H
 replace H : (some (a0_0, t199)) = some (r1, r2) := H
 have A2 := Am A20
 clear A20
 simp only [Option.some.injEq, Prod.mk.injEq] at H
 obtain ⟨rfl, rfl⟩ := H
 go_enter Try.func13, Try.ntmps13
 go_wp2_with (first | ((with_reducible refine gate_dst (N := 1) rfl ?_); refine box_event ?hg (N := 1) ?hd (cs := #[.string a0_0, .slice A0_1 l0_1.length c0_1]) (t := 26) ?hr ?_; (case hd => rfl); (case hg => rfl); (case hr => first | (go_simp; done) | (go_simp; rfl)); intro gb196 hg w3 hbox hb; have BK196 := Am (hbox); have GW196 := Am ((by rw [hg]; exact (bz (by repeat (first | (with_reducible first | exact HB.out | apply ba | apply bn | apply be) | exact HB.out))) : w.heap.size ≤ gb196)); have GE196 := Am ((by rw [hg]; exact (bz (by repeat (first | (with_reducible first | exact HB.out | apply ba | apply bn | apply be) | exact HB.out))) : w.heap.size ≤ gb196)); replace HB := Am (bq (by repeat (first | (with_reducible first | exact HB.out | apply ba | apply bn | apply be) | exact HB.out)) hb); clear hb hbox hg) | ((with_reducible refine gate_dst (N := 2) rfl ?_); refine box_event ?hg (N := 2) ?hd (cs := #[.string (⟨#[]⟩ : ByteArray), .slice none 0 0]) (t := 33) ?hr ?_; (case hd => rfl); (case hg => rfl); (case hr => first | (go_simp; done) | (go_simp; rfl)); intro gb197 hg w4 hbox hb; have n0_ := Am (kb (g := gb196) (o := o5b2 a0_0 A0_1 l0_1.length c0_1) (by (with_reducible repeat (first | refine kn ?_ _ | refine ke ?_ | refine ka ?_ _)); exact BK196.out) hb); have n1_ := Am (bq (by repeat (first | (with_reducible first | exact HB.out | apply ba | apply bn | apply be | refine bs ?_ GE196.out) | exact HB.out)) hb); have n2_ := Am (hbox); have n3_ := Am ((by rw [hg]; exact (bz (by repeat (first | (with_reducible first | exact HB.out | apply ba | apply bn | apply be | refine bs ?_ GE196.out) | exact HB.out))) : w.heap.size ≤ gb197)); have n4_ := Am ((by rw [hg]; exact (bz (by repeat (first | (with_reducible first | exact HB.out | apply ba | apply bn | apply be | refine bs ?_ GE196.out) | exact HB.out))) : w.heap.size ≤ gb197)); have n5_ := Am ((by rw [hg]; exact Nat.ne_of_lt (kl (g := gb196) (o := o5b2 a0_0 A0_1 l0_1.length c0_1) (by (with_reducible repeat (first | refine kn ?_ _ | refine ke ?_ | refine ka ?_ _)); exact BK196.out)) : gb196 ≠ gb197)); have n6_ := Am ((by rw [hg]; exact Nat.ne_of_gt (kl (g := gb196) (o := o5b2 a0_0 A0_1 l0_1.length c0_1) (by (with_reducible repeat (first | refine kn ?_ _ | refine ke ?_ | refine ka ?_ _)); exact BK196.out)) : gb197 ≠ gb196)); clear BK196; clear HB; have BK196 := n0_; have HB := n1_; have BK197 := n2_; have GW197 := n3_; have GE197 := n4_; have NB196_197 := n5_; have NB197_196 := n6_; clear n0_ n1_ n2_ n3_ n4_ n5_ n6_; clear hb hbox hg) | ((with_reducible refine gate_dst (N := 3) rfl ?_); refine box_event ?hg (N := 3) ?hd (cs := #[.string (⟨#[]⟩ : ByteArray), .slice none 0 0]) (t := 33) ?hr ?_; (case hd => rfl); (case hg => rfl); (case hr => first | (go_simp; done) | (go_simp; rfl)); intro gb198 hg w5 hbox hb; have n0_ := Am (kb (g := gb196) (o := o5b2 a0_0 A0_1 l0_1.length c0_1) (by (with_reducible repeat (first | refine kn ?_ _ | refine ke ?_ | refine ka ?_ _)); exact BK196.out) hb); have n1_ := Am (kb (g := gb197) (o := .cells #[.string (⟨#[]⟩ : ByteArray), .slice none 0 0] 33 (0, 0)) (by (with_reducible repeat (first | refine kn ?_ _ | refine ke ?_ | refine ka ?_ _)); exact BK197.out) hb); have n2_ := Am (bq (by repeat (first | (with_reducible first | exact HB.out | apply ba | apply bn | apply be | refine bs ?_ GE196.out | refine bs ?_ GE197.out) | exact HB.out)) hb); have n3_ := Am (hbox); have n4_ := Am ((by rw [hg]; exact (bz (by repeat (first | (with_reducible first | exact HB.out | apply ba | apply bn | apply be | refine bs ?_ GE196.out | refine bs ?_ GE197.out) | exact HB.out))) : w.heap.size ≤ gb198)); have n5_ := Am ((by rw [hg]; exact (bz (by repeat (first | (with_reducible first | exact HB.out | apply ba | apply bn | apply be | refine bs ?_ GE196.out | refine bs ?_ GE197.out) | exact HB.out))) : w.heap.size ≤ gb198)); have n6_ := Am ((by rw [hg]; exact Nat.ne_of_lt (kl (g := gb196) (o := o5b2 a0_0 A0_1 l0_1.length c0_1) (by (with_reducible repeat (first | refine kn ?_ _ | refine ke ?_ | refine ka ?_ _)); exact BK196.out)) : gb196 ≠ gb198)); have n7_ := Am ((by rw [hg]; exact Nat.ne_of_gt (kl (g := gb196) (o := o5b2 a0_0 A0_1 l0_1.length c0_1) (by (with_reducible repeat (first | refine kn ?_ _ | refine ke ?_ | refine ka ?_ _)); exact BK196.out)) : gb198 ≠ gb196)); have n8_ := Am ((by rw [hg]; exact Nat.ne_of_lt (kl (g := gb197) (o := .cells #[.string (⟨#[]⟩ : ByteArray), .slice none 0 0] 33 (0, 0)) (by (with_reducible repeat (first | refine kn ?_ _ | refine ke ?_ | refine ka ?_ _)); exact BK197.out)) : gb197 ≠ gb198)); have n9_ := Am ((by rw [hg]; exact Nat.ne_of_gt (kl (g := gb197) (o := .cells #[.string (⟨#[]⟩ : ByteArray), .slice none 0 0] 33 (0, 0)) (by (with_reducible repeat (first | refine kn ?_ _ | refine ke ?_ | refine ka ?_ _)); exact BK197.out)) : gb198 ≠ gb197)); clear BK196; clear BK197; clear HB; have BK196 := n0_; have BK197 := n1_; have HB := n2_; have BK198 := n3_; have GW198 := n4_; have GE198 := n5_; have NB196_198 := n6_; have NB198_196 := n7_; have NB197_198 := n8_; have NB198_197 := n9_; clear n0_ n1_ n2_ n3_ n4_ n5_ n6_ n7_ n8_ n9_; clear hb hbox hg; have hnb6 := NB196_197.out; have hnc6 := NB197_196.out; have hnb7 := NB196_198.out; have hnc7 := NB198_196.out; have hcz8_0 : w5.cell? ⟨gb196, 0, none⟩ = some (.string a0_0) := (kc BK196.out 0).trans rfl; have hcz8_1 : w5.cell? ⟨gb196, 1, none⟩ = some (.slice A0_1 l0_1.length c0_1) := (kc BK196.out 1).trans rfl; have hfz8_0 := kf BK196.out 0; have hfz8_1 := kf BK196.out 1; have hnb9 := NB198_197.out; have hnc9 := NB197_198.out; have hcz10_0 : w5.cell? ⟨gb198, 0, none⟩ = some (.string (⟨#[]⟩ : ByteArray)) := (kc BK198.out 0).trans rfl; have hcz10_1 : w5.cell? ⟨gb198, 1, none⟩ = some (.slice none 0 0) := (kc BK198.out 1).trans rfl; have hfz10_0 := kf BK198.out 0; have hfz10_1 := kf BK198.out 1) | ((with_reducible refine gate_callee (f := 57) rfl ?_); refine goesL_ (some 9) rfl rfl Try.func57 (by kernel_rfl) rfl #[.slice A0_1 l0_1.length c0_1] rfl (by (try simp only [List.map_toArray, List.map_cons, List.map_nil]); first | done | rfl | (simp only [List.length_drop, List.length_take]; rfl)) ?_; (with_reducible refine (laws_toCellS.calls k _ _ l0_1 t199 _ ?side1 ?side2 A2.out).mono ?_); (case side1 => exact cb HR0_1.out (by repeat (first | (with_reducible first | exact HB.out | apply ba | apply bn | apply be | refine bs ?_ GE196.out | refine bs ?_ GE197.out | refine bs ?_ GE198.out) | exact HB.out))); (case side2 => exact HC0_1.out); rintro e w11 ⟨v200, rfl, ho0, hb⟩; refine ⟨_, rfl, ?_⟩; have n0_ := Am (Kd.R_lower ho0 (bz (by repeat (first | (with_reducible first | exact HB.out | apply ba | apply bn | apply be | refine bs ?_ GE196.out | refine bs ?_ GE197.out | refine bs ?_ GE198.out) | exact HB.out)))); have n1_ := Am (kb (g := gb196) (o := o5b2 a0_0 A0_1 l0_1.length c0_1) (by (with_reducible repeat (first | refine kn ?_ _ | refine ke ?_ | refine ka ?_ _)); refine blk_far ?_ NB196_198.out _; (with_reducible repeat (first | refine kn ?_ _ | refine ke ?_ | refine ka ?_ _)); exact BK196.out) hb); have n2_ := Am (kb (g := gb197) (o := .cells #[.string (⟨#[]⟩ : ByteArray), .slice none 0 0] 33 (0, 0)) (by (with_reducible repeat (first | refine kn ?_ _ | refine ke ?_ | refine ka ?_ _)); refine blk_far ?_ NB197_198.out _; (with_reducible repeat (first | refine kn ?_ _ | refine ke ?_ | refine ka ?_ _)); exact BK197.out) hb); have n3_ := Am (kb (g := gb198) (o := .cells #[.string a0_0, .slice none 0 0] 33 (0, 0)) (by (with_reducible repeat (first | refine kn ?_ _ | refine ke ?_ | refine ka ?_ _)); refine kp (cs := #[.string (⟨#[]⟩ : ByteArray), .slice none 0 0]) ?_ 0 _ rfl; (with_reducible repeat (first | refine kn ?_ _ | refine ke ?_ | refine ka ?_ _)); exact BK198.out) hb); have n4_ := Am (bq (by repeat (first | (with_reducible first | exact HB.out | apply ba | apply bn | apply be | refine bs ?_ GE196.out | refine bs ?_ GE197.out | refine bs ?_ GE198.out) | exact HB.out)) hb); clear BK196; clear BK197; clear BK198; clear HB; have HO201 := n0_; have BK196 := n1_; have BK197 := n2_; have BK198 := n3_; have HB := n4_; clear n0_ n1_ n2_ n3_ n4_; (try clear hb ho0); obtain ⟨Ao12, co12, eo12⟩ := Kd.R_slice HO201.out; subst eo12; have hcz13_0 : w11.cell? ⟨gb198, 0, none⟩ = some (.string a0_0) := (kc BK198.out 0).trans rfl; have hcz13_1 : w11.cell? ⟨gb198, 1, none⟩ = some (.slice none 0 0) := (kc BK198.out 1).trans rfl; have hfz13_0 := kf BK198.out 0; have hfz13_1 := kf BK198.out 1; have hcz14_0 : w11.cell? ⟨gb197, 0, none⟩ = some (.string (⟨#[]⟩ : ByteArray)) := (kc BK197.out 0).trans rfl; have hcz14_1 : w11.cell? ⟨gb197, 1, none⟩ = some (.slice none 0 0) := (kc BK197.out 1).trans rfl; have hfz14_0 := kf BK197.out 0; have hfz14_1 := kf BK197.out 1))
 refine bodyPost_ret (results_cell_row rfl _ _ gb197 33 #[.string a0_0, .slice Ao12 t199.length co12] (0, 0) _ rfl (by (with_reducible repeat (first | refine kn ?_ _ | refine ke ?_ | refine ka ?_ _)); refine kp (cs := #[.string a0_0, .slice none 0 0]) ?_ 1 _ rfl; (with_reducible repeat (first | refine kn ?_ _ | refine ke ?_ | refine ka ?_ _)); refine kp (cs := #[.string (⟨#[]⟩ : ByteArray), .slice none 0 0]) ?_ 0 _ rfl; (with_reducible repeat (first | refine kn ?_ _ | refine ke ?_ | refine ka ?_ _)); refine blk_far ?_ NB197_198.out _; (with_reducible repeat (first | refine kn ?_ _ | refine ke ?_ | refine ka ?_ _)); exact BK197.out) Try.underlying33 rfl (by kernel_rfl)) rfl ?_
 exact ⟨_, by first | rfl | (simp [errW_none, errW_some] <;> rfl) | (simp [*, errW_none, errW_some] <;> rfl), by (with_reducible repeat (first | apply ra | apply rn | apply re)); exact Kd.R_mono (Kd.R_far (p := ⟨gb197, 1, none⟩) (Kd.R_far (p := ⟨gb197, 0, none⟩) (Kd.R_far (p := ⟨gb198, 1, none⟩) (Kd.R_types (Kd.R_types HO201.out BK198.out (by decide)) BK197.out (by decide)) (fun _ hk => hk.1.2) (.slice Ao12 t199.length co12)) (fun _ hk => hk.2) (.string a0_0)) (fun _ hk => hk.2) (.slice Ao12 t199.length co12)) (fun _ hk => trivial), by repeat (first | (with_reducible first | exact HB.out | apply ba | apply bn | apply be | refine bs ?_ GE196.out | refine bs ?_ GE197.out | refine bs ?_ GE198.out) | exact HB.out)⟩

/-! ### impl_within: function 59 -/
def impl_within.f (a0 : Int) (a1 : Int) (a2 : Int) : Option (Bool) := if a0 ≥ a1 then (some (decide (a0 ≤ a2))) else (some false)
set_option maxHeartbeats 8000000 in
set_option maxRecDepth 100000 in
theorem impl_within.calls (a0 : Int) (a1 : Int) (a2 : Int) (r : Bool) (w : World) (h : impl_within.f a0 a1 a2 = some r) :
  Calls Try.prog 59 #[.int .i64 a0, .int .i64 a1, .int .i64 a2] w fun e w' => e = .returned (.bool r) ∧ Drawn0 w w' := by
 have H : (if a0 ≥ a1 then (some (decide (a0 ≤ a2))) else (some false)) = some r := h
 clear h
 by_cases c4 : a0 ≥ a1
 ·rw [if_pos c4] at H
  have c4b0 : decide (a1 ≤ a0) = true := decide_eq_true c4
  clear c4
  obtain rfl := Option.some.inj H
  go_enter Try.func59, Try.ntmps59
  go_wp2
  go_ret
  exact ⟨by first | rfl | (simp; done) | (simp [*]; done), by repeat (first | exact Drawn0.refl _ | apply Drawn0.step)⟩
 ·rw [if_neg c4] at H
  have c4b0 : decide (a1 ≤ a0) = false := decide_eq_false c4
  clear c4
  obtain rfl := Option.some.inj H
  go_enter Try.func59, Try.ntmps59
  go_wp2
  go_ret
  exact ⟨by first | rfl | (simp; done) | (simp [*]; done), by repeat (first | exact Drawn0.refl _ | apply Drawn0.step)⟩

end Go.Proofs.Ytconffflmbakgaa.QFnExactMaskedWord
