/- Go functions as Lean functions, and their contracts. Own text: written by wip/gen/pr.py (a turned copy of the print). -/
import Derived.Test.YtnmkcognggeioaaQFnUnsurex0
import Derived.Test.YtnmkcognggeioaaQFnUnsurex1
import Derived.Test.YtnmkcognggeioaaQFnUnsurex5
import Derived.Test.YtnmkcognggeioaaQFnUnsurex7
import Derived.Test.YtnmkcognggeioaaQFnUnsurex11
namespace Go.Proofs.Ytnmkcognggeioaa.QFnUnsure
open Go.RowKit Go.Proofs.YtnmkcognggeioaaW.PrintWords Go.Proofs.YtnmkcognggeioaaW.PrintLast Go.Proofs.YtnmkcognggeioaaW.PrintMore
attribute [local go_sem] max2_int min2_int max_two min_two max_three min_three max_four min_four   -- for this text's walks alone
open Go.Proofs.YtnmkcognggeioaaW.PrintWords renaming below_alloc → ba, pw_below_drewN → bn, below_drew1 → be, below_set → bs, blk_drewN → kn, blk_drew → ke, blk_alloc → ka, blk_below → kb, blk_frozen → kf, blk_cell → kc, below_step → bq, below_size → bz, blk_lt → kl, blk_grown → kg, blk_put → kp
open Go.Proofs.YtnmkcognggeioaaW.PrintWords.Kd renaming R_alloc → ra, R_drewN → rn, R_drew → re, C_alloc → ca, C_drewN → cn, C_drew → ce, R_below → rb, C_below → cb
open Go.Proofs.YtnmkcognggeioaaW.PrintWords.Aside0 renaming mk → Am
set_option linter.unusedVariables false
set_option linter.unusedSimpArgs false

attribute [local go_sem high] eqA49
def o12b0 (p0 : ByteArray) (p1 : Option Addr) (p2 p3 : Nat) : Obj := .cells #[.string p0, .slice p1 p2 p3] 28 (0, 0)
def o12b1 (p0 : ByteArray) (p1 : Option Addr) (p2 p3 : Nat) : Obj := .cells #[.string p0, .slice p1 p2 p3] 28 (0, 0)
/-! ### spec_l10Any: function 32 -/
def spec_l10Any.f (k : Nat) (s0_0 : List Int) (s0_1 : Int) (s0_2 : Int) : Option (ByteArray × (List (S49)) × Int × Int) := (spec_l10Memory.f k s0_0 s0_1 s0_2).bind fun bt294 => ((spec_l01Below.f s0_0 bt294.2.2.1 bt294.2.2.2 14).bind fun bt301 => (if bt301.1 = 0 then (if bt294.1.size + 1 ≤ 9223372036854775807 then (some (bt294.1 ++ (⟨#[120]⟩ : ByteArray), bt294.2.1, bt301.2.1, bt301.2.2)) else (none)) else (if bt301.1 = 1 then ((spec_l01PickInt.f s0_0 bt301.2.1 bt301.2.2 (([0, 4, 5, (-1), 100] : List Int))).bind fun bt307 => ((spec_l01Long.f k 16 7).bind fun t310 => (if bt294.2.1.length < 4398046511104 then (some (bt294.1, (bt294.2.1 ++ [(⟨bt307.1, t310, false⟩ : S49)]), bt307.2.1, bt307.2.2)) else (none)))) else (if bt301.1 = 2 then ((some (([] : List (S49)) : List (S49))).bind fun y314 => (if y314.length < 4398046511104 then (some (bt294.1, (y314 ++ [(⟨0, (⟨#[115, 104, 111, 114, 116]⟩ : ByteArray), false⟩ : S49)]), bt301.2.1, bt301.2.2)) else (none))) else (some (bt294.1, bt294.2.1, bt301.2.1, bt301.2.2))))))
theorem spec_l10Any.mono : ∀ a0 a1 a2 k, LeO (spec_l10Any.f k a0 a1 a2) (spec_l10Any.f (k + 1) a0 a1 a2) := by
 intro a0 a1 a2 k
 unfold spec_l10Any.f
 repeat' first
   | (with_reducible exact spec_l01Long.mono _ _ _)
   | (with_reducible exact spec_l10Memory.mono _ _ _ _)
   | (with_reducible exact LeO.refl _)
   | (with_reducible exact LeO.none _)
   | (with_reducible refine LeO.ite ?_ ?_)
   | (with_reducible refine LeO.bind ?_ (fun _ => ?_))
   | exact spec_l01Long.mono _ _ _
   | exact spec_l10Memory.mono _ _ _ _
   | exact LeO.none _
   | refine LeO.ite ?_ ?_
   | refine LeO.bind ?_ (fun _ => ?_)
def spec_l10Any.T6 : Bool × List (List Nat × List Nat) := (true, [([], []), ([0], [0]), ([], []), ([], []), ([2, 3], [2, 3]), ([4], []), ([4, 5], [4, 5]), ([6], [6]), ([1, 7, 5], [1, 7]), ([0, 1, 2, 3, 4, 5, 6, 7, 8], []), ([9, 8, 8, 0, 1, 2, 3, 4, 5, 6, 7, 8], [8, 9])])
def spec_l10Any.B6 : List Nat := [0, 1, 0, 0, 12, 28, 60, 124, 255, 511, 1023]
theorem spec_l10Any.tab6 : rtab .any (opsOf Try.f32 6) = spec_l10Any.T6 := by kernel_rfl
theorem spec_l10Any.bits6 : waitsOk spec_l10Any.T6.2 spec_l10Any.B6 = true := by kernel_rfl
set_option maxHeartbeats 8000000 in
set_option maxRecDepth 100000 in
theorem spec_l10Any.calls (k : Nat) (g : Nat) (s0_0 : List Int) (s0_1 : Int) (s0_2 : Int) (r1 : ByteArray) (r2 : List (S49)) (r3 : Int) (r4 : Int) (w0 w : World) (hI : IsS72 w0 w g s0_0 s0_1 s0_2) (hB : Below w0.heap.size w0 w) (h : spec_l10Any.f k s0_0 s0_1 s0_2 = some (r1, r2, r3, r4)) :
  Calls Try.prog 32 #[.pointer (some ⟨g, 0, none⟩)] w fun e w' => ∃ v1_ : Value, e = .returned (.agg #[.string r1, v1_]) ∧ Kd.R k49 49 w' w.heap.size (fun _ => True) v1_ r2 ∧ IsS72 w0 w' g s0_0 r3 r4 ∧ Below w0.heap.size w0 w' ∧ KeepBut w w' g none := by
 have hu28 := Try.underlying28
 have hu49 := Try.underlying49
 have HI0 := Am hI
 have HK := Am (KeepBut.refl w g none)
 have HL := Am hB.size
 clear hI
 have HW0 := Am hB.size
 have HB := Am hB
 clear hB
 have H : ((spec_l10Memory.f k s0_0 s0_1 s0_2).bind fun bt294 => ((spec_l01Below.f s0_0 bt294.2.2.1 bt294.2.2.2 14).bind fun bt301 => (if bt301.1 = 0 then (if bt294.1.size + 1 ≤ 9223372036854775807 then (some (bt294.1 ++ (⟨#[120]⟩ : ByteArray), bt294.2.1, bt301.2.1, bt301.2.2)) else (none)) else (if bt301.1 = 1 then ((spec_l01PickInt.f s0_0 bt301.2.1 bt301.2.2 (([0, 4, 5, (-1), 100] : List Int))).bind fun bt307 => ((spec_l01Long.f k 16 7).bind fun t310 => (if bt294.2.1.length < 4398046511104 then (some (bt294.1, (bt294.2.1 ++ [(⟨bt307.1, t310, false⟩ : S49)]), bt307.2.1, bt307.2.2)) else (none)))) else (if bt301.1 = 2 then ((some (([] : List (S49)) : List (S49))).bind fun y314 => (if y314.length < 4398046511104 then (some (bt294.1, (y314 ++ [(⟨0, (⟨#[115, 104, 111, 114, 116]⟩ : ByteArray), false⟩ : S49)]), bt301.2.1, bt301.2.2)) else (none))) else (some (bt294.1, bt294.2.1, bt301.2.1, bt301.2.2))))))) = some (r1, r2, r3, r4) := h
 clear h
 replace H := Option.bind_eq_some_iff.mp H
 obtain ⟨⟨t294, t295, t298, t299⟩, A20, H⟩ := H
 replace H : ((spec_l01Below.f s0_0 t298 t299 14).bind fun bt301 => (if bt301.1 = 0 then (if t294.size + 1 ≤ 9223372036854775807 then (some (t294 ++ (⟨#[120]⟩ : ByteArray), t295, bt301.2.1, bt301.2.2)) else (none)) else (if bt301.1 = 1 then ((spec_l01PickInt.f s0_0 bt301.2.1 bt301.2.2 (([0, 4, 5, (-1), 100] : List Int))).bind fun bt307 => ((spec_l01Long.f k 16 7).bind fun t310 => (if t295.length < 4398046511104 then (some (t294, (t295 ++ [(⟨bt307.1, t310, false⟩ : S49)]), bt307.2.1, bt307.2.2)) else (none)))) else (if bt301.1 = 2 then ((some (([] : List (S49)) : List (S49))).bind fun y314 => (if y314.length < 4398046511104 then (some (t294, (y314 ++ [(⟨0, (⟨#[115, 104, 111, 114, 116]⟩ : ByteArray), false⟩ : S49)]), bt301.2.1, bt301.2.2)) else (none))) else (some (t294, t295, bt301.2.1, bt301.2.2)))))) = some (r1, r2, r3, r4) := H
 have A2 := Am A20
 clear A20
 replace H := Option.bind_eq_some_iff.mp H
 obtain ⟨⟨t301, t302, t303⟩, A30, H⟩ := H
 replace H : (if t301 = 0 then (if t294.size + 1 ≤ 9223372036854775807 then (some (t294 ++ (⟨#[120]⟩ : ByteArray), t295, t302, t303)) else (none)) else (if t301 = 1 then ((spec_l01PickInt.f s0_0 t302 t303 (([0, 4, 5, (-1), 100] : List Int))).bind fun bt307 => ((spec_l01Long.f k 16 7).bind fun t310 => (if t295.length < 4398046511104 then (some (t294, (t295 ++ [(⟨bt307.1, t310, false⟩ : S49)]), bt307.2.1, bt307.2.2)) else (none)))) else (if t301 = 2 then ((some (([] : List (S49)) : List (S49))).bind fun y314 => (if y314.length < 4398046511104 then (some (t294, (y314 ++ [(⟨0, (⟨#[115, 104, 111, 114, 116]⟩ : ByteArray), false⟩ : S49)]), t302, t303)) else (none))) else (some (t294, t295, t302, t303))))) = some (r1, r2, r3, r4) := H
 have A3 := Am A30
 clear A30
 by_cases c4 : t301 = 0
 ·rw [if_pos c4] at H
  have c4b0 : (t301 == 0) = true := beq_iff_eq.mpr c4
  have c4b1 : (t301 != 0) = false := bne_eq_false_iff_eq.mpr c4
  clear c4
  by_cases c5 : t294.size + 1 ≤ 9223372036854775807
  ·rw [if_pos c5] at H
   have c5b0 := eq_true c5
   have c5b1 : decide (t294.size + 1 ≤ 9223372036854775807) = true := decide_eq_true c5
   try have c5b2 : (9223372036854775807 < t294.size + 1) = False := eq_false (Nat.not_lt.2 c5)
   try (have c5b3 := c5b2; simp only [ByteArray.size_extract, Nat.sub_zero] at c5b3)
   try clear c5
   simp only [Option.some.injEq, Prod.mk.injEq] at H
   obtain ⟨rfl, rfl, rfl, rfl⟩ := H
   go_enter Try.func32, Try.ntmps32
   go_wp2_with (first | ((with_reducible refine gate_dst (N := 2) rfl ?_); refine box_event ?hg (N := 2) ?hd (cs := #[.string (⟨#[]⟩ : ByteArray), .slice none 0 0]) (t := 28) ?hr ?_; (case hd => rfl); (case hg => rfl); (case hr => first | (go_simp; done) | (go_simp; rfl)); intro gb293 hg w6 hbox hb; replace HB := Am (bq (by repeat (first | (with_reducible first | exact HB.out | apply ba | apply bn | apply be | refine bs ?_ (IsS72.ge HI0.out)) | exact HB.out)) hb); have BK293 := Am (hbox); have GW293 := Am ((by rw [hg]; exact (keep_size (w := w) (g := g) (row := none) (by repeat (first | (with_reducible first | exact HK.out | apply KeepBut.set_ | apply keep_drewN | apply keep_drew | apply keep_alloc) | exact HK.out))) : w.heap.size ≤ gb293)); have GE293 := Am ((Nat.le_trans HW0.out (by rw [hg]; exact (keep_size (w := w) (g := g) (row := none) (by repeat (first | (with_reducible first | exact HK.out | apply KeepBut.set_ | apply keep_drewN | apply keep_drew | apply keep_alloc) | exact HK.out))) : w.heap.size ≤ gb293) : w0.heap.size ≤ gb293)); replace HK := Am (KeepBut.trans (by repeat (first | (with_reducible first | exact HK.out | apply KeepBut.set_ | apply keep_drewN | apply keep_drew | apply keep_alloc) | exact HK.out)) (KeepBut.of_below hb g none) (.inl rfl)); have NB0_293 := Am ((by rw [hg]; exact Nat.ne_of_lt (IsS72.lt (show IsS72 w0 _ g s0_0 s0_1 s0_2 from by repeat (first | (with_reducible first | exact HI0.out | apply IsS72.alloc | apply IsS72.drewN | apply IsS72.drew | apply IsS72.set_1 | apply IsS72.set_2) | exact HI0.out))) : g ≠ gb293)); have NB293_0 := Am ((by rw [hg]; exact Nat.ne_of_gt (IsS72.lt (show IsS72 w0 _ g s0_0 s0_1 s0_2 from by repeat (first | (with_reducible first | exact HI0.out | apply IsS72.alloc | apply IsS72.drewN | apply IsS72.drew | apply IsS72.set_1 | apply IsS72.set_2) | exact HI0.out))) : gb293 ≠ g)); replace HI0 := Am (IsS72.below (by repeat (first | (with_reducible first | exact HI0.out | apply IsS72.alloc | apply IsS72.drewN | apply IsS72.drew | apply IsS72.set_1 | apply IsS72.set_2) | exact HI0.out)) hb); clear hb hbox hg) | ((with_reducible refine gate_callee (f := 48) rfl ?_); refine zC (some 5) rfl rfl Try.func48 rfl #[.pointer (some ⟨g, 0, none⟩)] rfl ?_; (with_reducible refine (spec_l10Memory.calls k g s0_0 s0_1 s0_2 t294 t295 t298 t299 w0 _ ?side1 ?side2 A2.out).mono ?_); (case side1 => repeat (first | (with_reducible first | exact HI0.out | apply IsS72.alloc | apply IsS72.drewN | apply IsS72.drew | apply IsS72.set_1 | apply IsS72.set_2 | apply IsS72.far (hne := NB0_293.out)) | exact HI0.out)); (case side2 => repeat (first | (with_reducible first | exact HB.out | apply ba | apply bn | apply be | refine bs ?_ (IsS72.ge HI0.out) | refine bs ?_ GE293.out) | exact HB.out)); rintro e w7 ⟨v296, rfl, ho0, hi, hb, hk⟩; refine ⟨_, rfl, ?_⟩; have n0_ := Am (KeepBut.blk hk (g' := gb293) (o := .cells #[.string (⟨#[]⟩ : ByteArray), .slice none 0 0] 28 (0, 0)) (by (with_reducible repeat (first | refine kn ?_ _ | refine ke ?_ | refine ka ?_ _)); exact BK293.out) NB293_0.out (by simp)); have n1_ := Am (Kd.R_lower ho0 (keep_size (w := w) (g := g) (row := none) (by repeat (first | (with_reducible first | exact HK.out | apply KeepBut.set_ | apply keep_drewN | apply keep_drew | apply keep_alloc | refine keep_far ?_ GW293.out _) | exact HK.out)))); have n2_ := Am (KeepBut.trans (by repeat (first | (with_reducible first | exact HK.out | apply KeepBut.set_ | apply keep_drewN | apply keep_drew | apply keep_alloc | refine keep_far ?_ GW293.out _) | exact HK.out)) hk (.inl rfl)); have n3_ := Am (hb); have n4_ := Am (hi); clear BK293; clear HK; clear HB; clear HI0; have BK293 := n0_; have HO297 := n1_; have HK := n2_; have HB := n3_; have HI0 := n4_; clear n0_ n1_ n2_ n3_ n4_; (try clear hb hk hi ho0)) | ((with_reducible refine gate_dst (N := 3) rfl ?_); refine box_event ?hg (N := 3) ?hd (cs := #[.string (⟨#[]⟩ : ByteArray), .slice none 0 0]) (t := 28) ?hr ?_; (case hd => rfl); (case hg => rfl); (case hr => first | (go_simp; done) | (go_simp; rfl)); intro gb300 hg w8 hbox hb; have n0_ := Am (rb (by (with_reducible repeat (first | apply ra | apply rn | apply re)); exact HO297.out) hb); have n1_ := Am (IsS72.below (by repeat (first | (with_reducible first | exact HI0.out | apply IsS72.alloc | apply IsS72.drewN | apply IsS72.drew | apply IsS72.set_1 | apply IsS72.set_2 | apply IsS72.far (hne := NB0_293.out)) | exact HI0.out)) hb); have n2_ := Am (zK BK293 hb); have n3_ := Am (KeepBut.trans (by repeat (first | (with_reducible first | exact HK.out | apply KeepBut.set_ | apply keep_drewN | apply keep_drew | apply keep_alloc | refine keep_far ?_ GW293.out _) | exact HK.out)) (KeepBut.of_below hb g none) (.inl rfl)); have n4_ := Am (bq (by repeat (first | (with_reducible first | exact HB.out | apply ba | apply bn | apply be | refine bs ?_ (IsS72.ge HI0.out) | refine bs ?_ GE293.out) | exact HB.out)) hb); have n5_ := Am (hbox); have n6_ := Am ((by rw [hg]; exact (keep_size (w := w) (g := g) (row := none) (by repeat (first | (with_reducible first | exact HK.out | apply KeepBut.set_ | apply keep_drewN | apply keep_drew | apply keep_alloc | refine keep_far ?_ GW293.out _) | exact HK.out))) : w.heap.size ≤ gb300)); have n7_ := Am ((Nat.le_trans HW0.out (by rw [hg]; exact (keep_size (w := w) (g := g) (row := none) (by repeat (first | (with_reducible first | exact HK.out | apply KeepBut.set_ | apply keep_drewN | apply keep_drew | apply keep_alloc | refine keep_far ?_ GW293.out _) | exact HK.out))) : w.heap.size ≤ gb300) : w0.heap.size ≤ gb300)); have n8_ := Am ((by rw [hg]; exact Nat.ne_of_lt (zL BK293) : gb293 ≠ gb300)); have n9_ := Am ((by rw [hg]; exact Nat.ne_of_gt (zL BK293) : gb300 ≠ gb293)); have n10_ := Am ((by rw [hg]; exact Nat.ne_of_lt (IsS72.lt (show IsS72 w0 _ g s0_0 t298 t299 from by repeat (first | (with_reducible first | exact HI0.out | apply IsS72.alloc | apply IsS72.drewN | apply IsS72.drew | apply IsS72.set_1 | apply IsS72.set_2 | apply IsS72.far (hne := NB0_293.out)) | exact HI0.out))) : g ≠ gb300)); have n11_ := Am ((by rw [hg]; exact Nat.ne_of_gt (IsS72.lt (show IsS72 w0 _ g s0_0 t298 t299 from by repeat (first | (with_reducible first | exact HI0.out | apply IsS72.alloc | apply IsS72.drewN | apply IsS72.drew | apply IsS72.set_1 | apply IsS72.set_2 | apply IsS72.far (hne := NB0_293.out)) | exact HI0.out))) : gb300 ≠ g)); clear HO297; clear HI0; clear BK293; clear HK; clear HB; have HO297 := n0_; have HI0 := n1_; have BK293 := n2_; have HK := n3_; have HB := n4_; have BK300 := n5_; have GW300 := n6_; have GE300 := n7_; have NB293_300 := n8_; have NB300_293 := n9_; have NB0_300 := n10_; have NB300_0 := n11_; clear n0_ n1_ n2_ n3_ n4_ n5_ n6_ n7_ n8_ n9_ n10_ n11_; clear hb hbox hg; have hnb9 := NB300_293.out; have hnc9 := NB293_300.out; have hnb10 := NB300_0.out; have hnc10 := NB0_300.out; obtain ⟨hcz11_0, hcz11_1⟩ := kc2 (w := w8) BK300.out; have hfz11_0 := kf BK300.out; obtain ⟨Ao12, co12, eo12⟩ := Kd.R_slice HO297.out; subst eo12) | ((with_reducible refine gate_callee (f := 49) rfl ?_); refine zC (some 7) rfl rfl Try.func49 rfl #[.pointer (some ⟨g, 0, none⟩), .int .i64 14] rfl ?_; (with_reducible refine (spec_l01Below.calls g s0_0 t298 t299 14 t301 t302 t303 w0 _ ?side1 ?side2 A3.out).mono ?_); (case side1 => repeat (first | (with_reducible first | exact HI0.out | apply IsS72.alloc | apply IsS72.drewN | apply IsS72.drew | apply IsS72.set_1 | apply IsS72.set_2 | apply IsS72.far (hne := NB0_293.out) | apply IsS72.far (hne := NB0_300.out)) | exact HI0.out)); (case side2 => repeat (first | (with_reducible first | exact HB.out | apply ba | apply bn | apply be | refine bs ?_ (IsS72.ge HI0.out) | refine bs ?_ GE293.out | refine bs ?_ GE300.out) | exact HB.out)); rintro e w13 ⟨rfl, hi, hb, hk⟩; refine ⟨_, rfl, ?_⟩; have n0_ := Am (KeepBut.blk hk (g' := gb293) (o := .cells #[.string (⟨#[]⟩ : ByteArray), .slice none 0 0] 28 (0, 0)) (by (with_reducible repeat (first | refine kn ?_ _ | refine ke ?_ | refine ka ?_ _)); refine blk_far ?_ NB293_300.out _; (with_reducible repeat (first | refine kn ?_ _ | refine ke ?_ | refine ka ?_ _)); refine blk_far ?_ NB293_300.out _; (with_reducible repeat (first | refine kn ?_ _ | refine ke ?_ | refine ka ?_ _)); exact BK293.out) NB293_0.out (by simp)); have n1_ := Am (Kd.R_mono (Kd.R_keep (IsS72.apart (show IsS72 w0 _ g s0_0 t298 t299 from by repeat (first | (with_reducible first | exact HI0.out | apply IsS72.alloc | apply IsS72.drewN | apply IsS72.drew | apply IsS72.set_1 | apply IsS72.set_2 | apply IsS72.far (hne := NB0_293.out) | apply IsS72.far (hne := NB0_300.out)) | exact HI0.out)) (by (with_reducible repeat (first | apply ra | apply rn | apply re)); exact (Kd.R_mono (Kd.R_far (p := ⟨gb300, 1, none⟩) (Kd.R_far (p := ⟨gb300, 0, none⟩) (Kd.R_types HO297.out BK300.out (by decide)) (fun _ hk => hk.2) (.string t294)) (fun _ hk => hk.2) (.slice Ao12 t295.length co12)) (fun _ h_ => h_.1))) (by decide)) hk (fun _ h => h.2)) (fun _ h => h.1)); have n2_ := Am (KeepBut.blk hk (g' := gb300) (o := .cells #[.string t294, .slice Ao12 t295.length co12] 28 (0, 0)) (by (with_reducible repeat (first | refine kn ?_ _ | refine ke ?_ | refine ka ?_ _)); refine kp (cs := #[.string t294, .slice none 0 0]) ?_ 1 _ rfl; (with_reducible repeat (first | refine kn ?_ _ | refine ke ?_ | refine ka ?_ _)); refine kp (cs := #[.string (⟨#[]⟩ : ByteArray), .slice none 0 0]) ?_ 0 _ rfl; (with_reducible repeat (first | refine kn ?_ _ | refine ke ?_ | refine ka ?_ _)); exact BK300.out) NB300_0.out (by simp)); have n3_ := Am (KeepBut.trans (by repeat (first | (with_reducible first | exact HK.out | apply KeepBut.set_ | apply keep_drewN | apply keep_drew | apply keep_alloc | refine keep_far ?_ GW293.out _ | refine keep_far ?_ GW300.out _) | exact HK.out)) hk (.inl rfl)); have n4_ := Am (hb); have n5_ := Am (hi); clear BK293; clear HO297; clear BK300; clear HK; clear HB; clear HI0; have BK293 := n0_; have HO297 := n1_; have BK300 := n2_; have HK := n3_; have HB := n4_; have HI0 := n5_; clear n0_ n1_ n2_ n3_ n4_ n5_; (try clear hb hk hi); obtain ⟨hcz14_0, hcz14_1⟩ := kc2 (w := w13) BK300.out; have hfz14_0 := kf BK300.out; have hnb15 := NB293_0.out; have hnc15 := NB0_293.out; obtain ⟨hcz16_0, hcz16_1⟩ := kc2 (w := w13) BK293.out; have hfz16_0 := kf BK293.out))
   refine bodyPost_ret (results_cell_row rfl _ _ gb293 28 #[.string (t294 ++ (⟨#[120]⟩ : ByteArray)), .slice Ao12 t295.length co12] (0, 0) _ rfl (by (with_reducible repeat (first | refine kn ?_ _ | refine ke ?_ | refine ka ?_ _)); refine kp (cs := #[.string (t294 ++ (⟨#[120]⟩ : ByteArray)), .slice none 0 0]) ?_ 1 _ rfl; (with_reducible repeat (first | refine kn ?_ _ | refine ke ?_ | refine ka ?_ _)); refine kp (cs := #[.string (⟨#[]⟩ : ByteArray), .slice none 0 0]) ?_ 0 _ rfl; (with_reducible repeat (first | refine kn ?_ _ | refine ke ?_ | refine ka ?_ _)); refine blk_far ?_ NB293_300.out _; (with_reducible repeat (first | refine kn ?_ _ | refine ke ?_ | refine ka ?_ _)); exact BK293.out) Try.underlying28 rfl (by kernel_rfl)) rfl ?_
   exact ⟨_, zR, by (with_reducible repeat (first | apply ra | apply rn | apply re)); exact Kd.R_mono (Kd.R_far (p := ⟨gb293, 1, none⟩) (Kd.R_far (p := ⟨gb293, 0, none⟩) (Kd.R_far (p := ⟨gb300, 0, none⟩) (Kd.R_types (Kd.R_types HO297.out BK300.out (by decide)) BK293.out (by decide)) (fun _ hk => hk.1.2) (.string (t294 ++ (⟨#[120]⟩ : ByteArray)))) (fun _ hk => hk.2) (.string (t294 ++ (⟨#[120]⟩ : ByteArray)))) (fun _ hk => hk.2) (.slice Ao12 t295.length co12)) (fun _ hk => trivial), by repeat (first | (with_reducible first | exact HI0.out | apply IsS72.alloc | apply IsS72.drewN | apply IsS72.drew | apply IsS72.set_1 | apply IsS72.set_2 | apply IsS72.far (hne := NB0_293.out) | apply IsS72.far (hne := NB0_300.out)) | exact HI0.out), by repeat (first | (with_reducible first | exact HB.out | apply ba | apply bn | apply be | refine bs ?_ (IsS72.ge HI0.out) | refine bs ?_ GE293.out | refine bs ?_ GE300.out) | exact HB.out), by repeat (first | (with_reducible first | exact HK.out | apply KeepBut.set_ | apply keep_drewN | apply keep_drew | apply keep_alloc | refine keep_far ?_ GW293.out _ | refine keep_far ?_ GW300.out _) | exact HK.out)⟩
  ·rw [if_neg c5] at H
   exact absurd H (by simp)
 ·rw [if_neg c4] at H
  have c4b0 : (t301 == 0) = false := beq_eq_false_iff_ne.mpr c4
  have c4b1 : (t301 != 0) = true := bne_iff_ne.mpr c4
  by_cases c17 : t301 = 1
  ·rw [if_pos c17] at H
   have c17b0 : (t301 == 1) = true := beq_iff_eq.mpr c17
   have c17b1 : (t301 != 1) = false := bne_eq_false_iff_eq.mpr c17
   clear c17
   obtain ⟨y304, hy304⟩ : ∃ y_ : List Int, y_ = (([0, 4, 5, (-1), 100] : List Int)) := ⟨_, rfl⟩
   replace H : ((spec_l01PickInt.f s0_0 t302 t303 y304).bind fun bt307 => ((spec_l01Long.f k 16 7).bind fun t310 => (if t295.length < 4398046511104 then (some (t294, (t295 ++ [(⟨bt307.1, t310, false⟩ : S49)]), bt307.2.1, bt307.2.2)) else (none)))) = some (r1, r2, r3, r4) := by first | (rw [hy304]; with_reducible exact H) | (have H2_ := (Option.bind_some _ _).symm.trans H; rw [hy304]; with_reducible exact H2_) | (have H2_ := (Option.bind_some _ _).symm.trans H; with_reducible exact H2_) | with_reducible exact H | (rw [hy304]; exact H) | exact H
   have Ny304 := Am hy304
   clear hy304
   replace H := Option.bind_eq_some_iff.mp H
   obtain ⟨⟨t307, t308, t309⟩, A180, H⟩ := H
   replace H : ((spec_l01Long.f k 16 7).bind fun t310 => (if t295.length < 4398046511104 then (some (t294, (t295 ++ [(⟨t307, t310, false⟩ : S49)]), t308, t309)) else (none))) = some (r1, r2, r3, r4) := H
   have A18 := Am A180
   clear A180
   replace H := Option.bind_eq_some_iff.mp H
   obtain ⟨t310, A190, H⟩ := H
   replace H : (if t295.length < 4398046511104 then (some (t294, (t295 ++ [(⟨t307, t310, false⟩ : S49)]), t308, t309)) else (none)) = some (r1, r2, r3, r4) := H
   have A19 := Am A190
   clear A190
   by_cases c20 : t295.length < 4398046511104
   ·rw [if_pos c20] at H
    have LMc20 := Am c20
    clear c20
    obtain ⟨y311, hy311⟩ : ∃ y_ : List (S49), y_ = (t295 ++ [(⟨t307, t310, false⟩ : S49)]) := ⟨_, rfl⟩
    replace H : (some (t294, y311, t308, t309)) = some (r1, r2, r3, r4) := by first | (rw [hy311]; with_reducible exact H) | (have H2_ := (Option.bind_some _ _).symm.trans H; rw [hy311]; with_reducible exact H2_) | (have H2_ := (Option.bind_some _ _).symm.trans H; with_reducible exact H2_) | with_reducible exact H | (rw [hy311]; exact H) | exact H
    have Ny311 := Am hy311
    clear hy311
    simp only [Option.some.injEq, Prod.mk.injEq] at H
    obtain ⟨rfl, rfl, rfl, rfl⟩ := H
    go_enter Try.func32, Try.ntmps32
    try go_wp2_with (first | ((with_reducible refine gate_dst (N := 2) rfl ?_); refine box_event ?hg (N := 2) ?hd (cs := #[.string (⟨#[]⟩ : ByteArray), .slice none 0 0]) (t := 28) ?hr ?_; (case hd => rfl); (case hg => rfl); (case hr => first | (go_simp; done) | (go_simp; rfl)); intro gb293 hg w21 hbox hb; replace HB := Am (bq (by repeat (first | (with_reducible first | exact HB.out | apply ba | apply bn | apply be | refine bs ?_ (IsS72.ge HI0.out)) | exact HB.out)) hb); have BK293 := Am (hbox); have GW293 := Am ((by rw [hg]; exact (keep_size (w := w) (g := g) (row := none) (by repeat (first | (with_reducible first | exact HK.out | apply KeepBut.set_ | apply keep_drewN | apply keep_drew | apply keep_alloc) | exact HK.out))) : w.heap.size ≤ gb293)); have GE293 := Am ((Nat.le_trans HW0.out (by rw [hg]; exact (keep_size (w := w) (g := g) (row := none) (by repeat (first | (with_reducible first | exact HK.out | apply KeepBut.set_ | apply keep_drewN | apply keep_drew | apply keep_alloc) | exact HK.out))) : w.heap.size ≤ gb293) : w0.heap.size ≤ gb293)); replace HK := Am (KeepBut.trans (by repeat (first | (with_reducible first | exact HK.out | apply KeepBut.set_ | apply keep_drewN | apply keep_drew | apply keep_alloc) | exact HK.out)) (KeepBut.of_below hb g none) (.inl rfl)); have NB0_293 := Am ((by rw [hg]; exact Nat.ne_of_lt (IsS72.lt (show IsS72 w0 _ g s0_0 s0_1 s0_2 from by repeat (first | (with_reducible first | exact HI0.out | apply IsS72.alloc | apply IsS72.drewN | apply IsS72.drew | apply IsS72.set_1 | apply IsS72.set_2) | exact HI0.out))) : g ≠ gb293)); have NB293_0 := Am ((by rw [hg]; exact Nat.ne_of_gt (IsS72.lt (show IsS72 w0 _ g s0_0 s0_1 s0_2 from by repeat (first | (with_reducible first | exact HI0.out | apply IsS72.alloc | apply IsS72.drewN | apply IsS72.drew | apply IsS72.set_1 | apply IsS72.set_2) | exact HI0.out))) : gb293 ≠ g)); replace HI0 := Am (IsS72.below (by repeat (first | (with_reducible first | exact HI0.out | apply IsS72.alloc | apply IsS72.drewN | apply IsS72.drew | apply IsS72.set_1 | apply IsS72.set_2) | exact HI0.out)) hb); clear hb hbox hg) | ((with_reducible refine gate_callee (f := 48) rfl ?_); refine zC (some 5) rfl rfl Try.func48 rfl #[.pointer (some ⟨g, 0, none⟩)] rfl ?_; (with_reducible refine (spec_l10Memory.calls k g s0_0 s0_1 s0_2 t294 t295 t298 t299 w0 _ ?side1 ?side2 A2.out).mono ?_); (case side1 => repeat (first | (with_reducible first | exact HI0.out | apply IsS72.alloc | apply IsS72.drewN | apply IsS72.drew | apply IsS72.set_1 | apply IsS72.set_2 | apply IsS72.far (hne := NB0_293.out)) | exact HI0.out)); (case side2 => repeat (first | (with_reducible first | exact HB.out | apply ba | apply bn | apply be | refine bs ?_ (IsS72.ge HI0.out) | refine bs ?_ GE293.out) | exact HB.out)); rintro e w22 ⟨v296, rfl, ho0, hi, hb, hk⟩; refine ⟨_, rfl, ?_⟩; have n0_ := Am (KeepBut.blk hk (g' := gb293) (o := .cells #[.string (⟨#[]⟩ : ByteArray), .slice none 0 0] 28 (0, 0)) (by (with_reducible repeat (first | refine kn ?_ _ | refine ke ?_ | refine ka ?_ _)); exact BK293.out) NB293_0.out (by simp)); have n1_ := Am (Kd.R_lower ho0 (keep_size (w := w) (g := g) (row := none) (by repeat (first | (with_reducible first | exact HK.out | apply KeepBut.set_ | apply keep_drewN | apply keep_drew | apply keep_alloc | refine keep_far ?_ GW293.out _) | exact HK.out)))); have n2_ := Am (KeepBut.trans (by repeat (first | (with_reducible first | exact HK.out | apply KeepBut.set_ | apply keep_drewN | apply keep_drew | apply keep_alloc | refine keep_far ?_ GW293.out _) | exact HK.out)) hk (.inl rfl)); have n3_ := Am (hb); have n4_ := Am (hi); clear BK293; clear HK; clear HB; clear HI0; have BK293 := n0_; have HO297 := n1_; have HK := n2_; have HB := n3_; have HI0 := n4_; clear n0_ n1_ n2_ n3_ n4_; (try clear hb hk hi ho0)) | ((with_reducible refine gate_dst (N := 3) rfl ?_); refine box_event ?hg (N := 3) ?hd (cs := #[.string (⟨#[]⟩ : ByteArray), .slice none 0 0]) (t := 28) ?hr ?_; (case hd => rfl); (case hg => rfl); (case hr => first | (go_simp; done) | (go_simp; rfl)); intro gb300 hg w23 hbox hb; have n0_ := Am (rb (by (with_reducible repeat (first | apply ra | apply rn | apply re)); exact HO297.out) hb); have n1_ := Am (IsS72.below (by repeat (first | (with_reducible first | exact HI0.out | apply IsS72.alloc | apply IsS72.drewN | apply IsS72.drew | apply IsS72.set_1 | apply IsS72.set_2 | apply IsS72.far (hne := NB0_293.out)) | exact HI0.out)) hb); have n2_ := Am (zK BK293 hb); have n3_ := Am (KeepBut.trans (by repeat (first | (with_reducible first | exact HK.out | apply KeepBut.set_ | apply keep_drewN | apply keep_drew | apply keep_alloc | refine keep_far ?_ GW293.out _) | exact HK.out)) (KeepBut.of_below hb g none) (.inl rfl)); have n4_ := Am (bq (by repeat (first | (with_reducible first | exact HB.out | apply ba | apply bn | apply be | refine bs ?_ (IsS72.ge HI0.out) | refine bs ?_ GE293.out) | exact HB.out)) hb); have n5_ := Am (hbox); have n6_ := Am ((by rw [hg]; exact (keep_size (w := w) (g := g) (row := none) (by repeat (first | (with_reducible first | exact HK.out | apply KeepBut.set_ | apply keep_drewN | apply keep_drew | apply keep_alloc | refine keep_far ?_ GW293.out _) | exact HK.out))) : w.heap.size ≤ gb300)); have n7_ := Am ((Nat.le_trans HW0.out (by rw [hg]; exact (keep_size (w := w) (g := g) (row := none) (by repeat (first | (with_reducible first | exact HK.out | apply KeepBut.set_ | apply keep_drewN | apply keep_drew | apply keep_alloc | refine keep_far ?_ GW293.out _) | exact HK.out))) : w.heap.size ≤ gb300) : w0.heap.size ≤ gb300)); have n8_ := Am ((by rw [hg]; exact Nat.ne_of_lt (zL BK293) : gb293 ≠ gb300)); have n9_ := Am ((by rw [hg]; exact Nat.ne_of_gt (zL BK293) : gb300 ≠ gb293)); have n10_ := Am ((by rw [hg]; exact Nat.ne_of_lt (IsS72.lt (show IsS72 w0 _ g s0_0 t298 t299 from by repeat (first | (with_reducible first | exact HI0.out | apply IsS72.alloc | apply IsS72.drewN | apply IsS72.drew | apply IsS72.set_1 | apply IsS72.set_2 | apply IsS72.far (hne := NB0_293.out)) | exact HI0.out))) : g ≠ gb300)); have n11_ := Am ((by rw [hg]; exact Nat.ne_of_gt (IsS72.lt (show IsS72 w0 _ g s0_0 t298 t299 from by repeat (first | (with_reducible first | exact HI0.out | apply IsS72.alloc | apply IsS72.drewN | apply IsS72.drew | apply IsS72.set_1 | apply IsS72.set_2 | apply IsS72.far (hne := NB0_293.out)) | exact HI0.out))) : gb300 ≠ g)); clear HO297; clear HI0; clear BK293; clear HK; clear HB; have HO297 := n0_; have HI0 := n1_; have BK293 := n2_; have HK := n3_; have HB := n4_; have BK300 := n5_; have GW300 := n6_; have GE300 := n7_; have NB293_300 := n8_; have NB300_293 := n9_; have NB0_300 := n10_; have NB300_0 := n11_; clear n0_ n1_ n2_ n3_ n4_ n5_ n6_ n7_ n8_ n9_ n10_ n11_; clear hb hbox hg; have hnb24 := NB300_293.out; have hnc24 := NB293_300.out; have hnb25 := NB300_0.out; have hnc25 := NB0_300.out; obtain ⟨hcz26_0, hcz26_1⟩ := kc2 (w := w23) BK300.out; have hfz26_0 := kf BK300.out; obtain ⟨Ao27, co27, eo27⟩ := Kd.R_slice HO297.out; subst eo27) | ((with_reducible refine gate_callee (f := 49) rfl ?_); refine zC (some 7) rfl rfl Try.func49 rfl #[.pointer (some ⟨g, 0, none⟩), .int .i64 14] rfl ?_; (with_reducible refine (spec_l01Below.calls g s0_0 t298 t299 14 t301 t302 t303 w0 _ ?side1 ?side2 A3.out).mono ?_); (case side1 => repeat (first | (with_reducible first | exact HI0.out | apply IsS72.alloc | apply IsS72.drewN | apply IsS72.drew | apply IsS72.set_1 | apply IsS72.set_2 | apply IsS72.far (hne := NB0_293.out) | apply IsS72.far (hne := NB0_300.out)) | exact HI0.out)); (case side2 => repeat (first | (with_reducible first | exact HB.out | apply ba | apply bn | apply be | refine bs ?_ (IsS72.ge HI0.out) | refine bs ?_ GE293.out | refine bs ?_ GE300.out) | exact HB.out)); rintro e w28 ⟨rfl, hi, hb, hk⟩; refine ⟨_, rfl, ?_⟩; have n0_ := Am (KeepBut.blk hk (g' := gb293) (o := .cells #[.string (⟨#[]⟩ : ByteArray), .slice none 0 0] 28 (0, 0)) (by (with_reducible repeat (first | refine kn ?_ _ | refine ke ?_ | refine ka ?_ _)); refine blk_far ?_ NB293_300.out _; (with_reducible repeat (first | refine kn ?_ _ | refine ke ?_ | refine ka ?_ _)); refine blk_far ?_ NB293_300.out _; (with_reducible repeat (first | refine kn ?_ _ | refine ke ?_ | refine ka ?_ _)); exact BK293.out) NB293_0.out (by simp)); have n1_ := Am (Kd.R_mono (Kd.R_keep (IsS72.apart (show IsS72 w0 _ g s0_0 t298 t299 from by repeat (first | (with_reducible first | exact HI0.out | apply IsS72.alloc | apply IsS72.drewN | apply IsS72.drew | apply IsS72.set_1 | apply IsS72.set_2 | apply IsS72.far (hne := NB0_293.out) | apply IsS72.far (hne := NB0_300.out)) | exact HI0.out)) (by (with_reducible repeat (first | apply ra | apply rn | apply re)); exact (Kd.R_mono (Kd.R_far (p := ⟨gb300, 1, none⟩) (Kd.R_far (p := ⟨gb300, 0, none⟩) (Kd.R_types HO297.out BK300.out (by decide)) (fun _ hk => hk.2) (.string t294)) (fun _ hk => hk.2) (.slice Ao27 t295.length co27)) (fun _ h_ => h_.1))) (by decide)) hk (fun _ h => h.2)) (fun _ h => h.1)); have n2_ := Am (KeepBut.blk hk (g' := gb300) (o := o12b1 t294 Ao27 t295.length co27) (by (with_reducible repeat (first | refine kn ?_ _ | refine ke ?_ | refine ka ?_ _)); refine kp (cs := #[.string t294, .slice none 0 0]) ?_ 1 _ rfl; (with_reducible repeat (first | refine kn ?_ _ | refine ke ?_ | refine ka ?_ _)); refine kp (cs := #[.string (⟨#[]⟩ : ByteArray), .slice none 0 0]) ?_ 0 _ rfl; (with_reducible repeat (first | refine kn ?_ _ | refine ke ?_ | refine ka ?_ _)); exact BK300.out) NB300_0.out (by simp)); have n3_ := Am (KeepBut.trans (by repeat (first | (with_reducible first | exact HK.out | apply KeepBut.set_ | apply keep_drewN | apply keep_drew | apply keep_alloc | refine keep_far ?_ GW293.out _ | refine keep_far ?_ GW300.out _) | exact HK.out)) hk (.inl rfl)); have n4_ := Am (hb); have n5_ := Am (hi); clear BK293; clear HO297; clear BK300; clear HK; clear HB; clear HI0; have BK293 := n0_; have HO297 := n1_; have BK300 := n2_; have HK := n3_; have HB := n4_; have HI0 := n5_; clear n0_ n1_ n2_ n3_ n4_ n5_; (try clear hb hk hi)))
    have n0_ := Am (re HO297.out)
    have n1_ := Am (ke BK293.out)
    have n2_ := Am (ke BK300.out)
    have n3_ := Am (IsS72.drew HI0.out)
    have n4_ := Am (keep_drew HK.out)
    have n5_ := Am (be HB.out)
    clear HO297
    clear BK293
    clear BK300
    clear HI0
    clear HK
    clear HB
    have HO297 := n0_
    have BK293 := n1_
    have BK300 := n2_
    have HI0 := n3_
    have HK := n4_
    have HB := n5_
    clear n0_ n1_ n2_ n3_ n4_ n5_
    refine start_ (n := 11) (S := fun w' => w'.cell? ⟨gb300, 0, none⟩ = some (.string t294) ∧ w'.cell? ⟨gb300, 1, none⟩ = some (.slice Ao27 t295.length co27)) (ds := [10]) #[false, false, false, false, false, false, false, false, false, false, false] (by kernel_rfl) rfl rfl ⟨(kc BK300.out 0).trans rfl, (kc BK300.out 1).trans rfl⟩ (fun hHeld => ?_); refine with_tabW spec_l10Any.tab6 spec_l10Any.bits6 (fun HT_ HW_ => ?_)
    generalize w28.drew = w29 at HO297 BK293 BK300 HI0 HK HB hHeld ⊢
    refine zA 0 (some 16) HT_.out rfl rfl ?_
    refine zA 2 (some 18) HT_.out rfl rfl ?_
    refine zT 1 (some 17) HT_.out HW_.out rfl rfl hHeld ?_
    refine zO 3 (some 19) HT_.out rfl rfl (fun K hK => ?_)
    refine Kd.R_lit_step (Kd.int .i64) _ 3 ?hg (N := 19) ?hd (xs := ([0, 4, 5, (-1), 100] : List Int)) (inner := [.int .i64 0, .int .i64 4, .int .i64 5, .int .i64 (-1), .int .i64 100]) (ok := fun _ => True) (okp := fun _ => True) ?hr ?hp (fun _ hk => hk) trivial (Below.refl _ _) (Nat.le_refl _) (by simp) ?_; (case hd => rfl); (case hg => rfl); (case hr => first | (go_simp; done) | (go_simp; rfl)); (case hp => exact (Reps.one (show Kd.M (Kd.int .i64) _ _ _ 0 [.int .i64 0] from rfl) (Reps.one (show Kd.M (Kd.int .i64) _ _ _ 4 [.int .i64 4] from rfl) (Reps.one (show Kd.M (Kd.int .i64) _ _ _ 5 [.int .i64 5] from rfl) (Reps.one (show Kd.M (Kd.int .i64) _ _ _ (-1) [.int .i64 (-1)] from rfl) (Reps.one (show Kd.M (Kd.int .i64) _ _ _ 100 [.int .i64 100] from rfl) (Reps.none _ _)))))))
    intro v305 w30 ho31 hb hg_ hnew_
    clear hg_ hnew_
    (first | rw [← Ny304.out] at ho31 | (simp only [Int.reduceToNat] at ho31; rw [← Ny304.out] at ho31))
    have n0_ := Am (rb (by (with_reducible repeat (first | apply ra | apply rn | apply re)); exact HO297.out) hb)
    have n1_ := Am (Kd.R_lower ho31 (keep_size (w := w) (g := g) (row := none) (by repeat (first | (with_reducible first | exact HK.out | apply KeepBut.set_ | apply keep_drewN | apply keep_drew | apply keep_alloc | refine keep_far ?_ GW293.out _ | refine keep_far ?_ GW300.out _) | exact HK.out))))
    have n2_ := Am (IsS72.below (by repeat (first | (with_reducible first | exact HI0.out | apply IsS72.alloc | apply IsS72.drewN | apply IsS72.drew | apply IsS72.set_1 | apply IsS72.set_2 | apply IsS72.far (hne := NB0_293.out) | apply IsS72.far (hne := NB0_300.out)) | exact HI0.out)) hb)
    have n3_ := Am (zK BK293 hb)
    have n4_ := Am (zK BK300 hb)
    have n5_ := Am (KeepBut.trans (by repeat (first | (with_reducible first | exact HK.out | apply KeepBut.set_ | apply keep_drewN | apply keep_drew | apply keep_alloc | refine keep_far ?_ GW293.out _ | refine keep_far ?_ GW300.out _) | exact HK.out)) (KeepBut.of_below hb g none) (.inl rfl))
    have n6_ := Am (bq (by repeat (first | (with_reducible first | exact HB.out | apply ba | apply bn | apply be | refine bs ?_ (IsS72.ge HI0.out) | refine bs ?_ GE293.out | refine bs ?_ GE300.out) | exact HB.out)) hb)
    clear HO297
    clear HI0
    clear BK293
    clear BK300
    clear HK
    clear HB
    have HO297 := n0_
    have HO306 := n1_
    have HI0 := n2_
    have BK293 := n3_
    have BK300 := n4_
    have HK := n5_
    have HB := n6_
    clear n0_ n1_ n2_ n3_ n4_ n5_ n6_
    clear hb ho31
    obtain ⟨Ao32, co32, eo32⟩ := Kd.R_slice HO306.out
    (first | subst eo32 | (injection eo32 with f1_ f2_ f3_; have f4_ := f1_.symm; have f5_ := f3_.symm; clear f1_ f2_ f3_; subst f4_; subst f5_))
    refine hK.out _ _ ⟨(kc BK300.out 0).trans rfl, (kc BK300.out 1).trans rfl⟩ (fun hHeld => ?_)
    clear hK K
    refine zN (some 19) ?_
    refine zO 4 (some 20) HT_.out rfl rfl (fun K hK => ?_)
    refine goes_ Try.func33 (by kernel_rfl) rfl #[.pointer (some ⟨g, 0, none⟩), .slice Ao32 y304.length co32] (by rfl) rfl rfl (by (try simp only [List.map_toArray, List.map_cons, List.map_nil]); first | done | rfl | (simp only [List.length_drop, List.length_take]; rfl)) ?_
    with_reducible refine (spec_l01PickInt.calls g s0_0 t302 t303 _ _ y304 t307 t308 t309 w0 _ ?side1 ?side2 ?side3 ?side4 ?side5 A18.out).mono ?_
    (case side1 => repeat (first | (with_reducible first | exact HI0.out | apply IsS72.alloc | apply IsS72.drewN | apply IsS72.drew | apply IsS72.set_1 | apply IsS72.set_2 | apply IsS72.far (hne := NB0_293.out) | apply IsS72.far (hne := NB0_300.out)) | exact HI0.out))
    (case side2 => repeat (first | (with_reducible first | exact HB.out | apply ba | apply bn | apply be | refine bs ?_ (IsS72.ge HI0.out) | refine bs ?_ GE293.out | refine bs ?_ GE300.out) | exact HB.out))
    (case side3 => repeat (first | exact (Kd.R_reads' HO306.out).2.2 | (with_reducible first | refine ca ?_ _ | refine cn ?_ _ | refine ce ?_)))
    (case side4 => exact (Kd.R_reads' HO306.out).2.1)
    (case side5 => exact far_slice (IsS72.own_ne HI0.out HO306.out (by decide)))
    rintro e w33 ⟨rfl, hi, hb, hk⟩
    refine ⟨_, rfl, ?_⟩
    have n0_ := Am (KeepBut.blk hk (g' := gb293) (o := .cells #[.string (⟨#[]⟩ : ByteArray), .slice none 0 0] 28 (0, 0)) (by (with_reducible repeat (first | refine kn ?_ _ | refine ke ?_ | refine ka ?_ _)); exact BK293.out) NB293_0.out (by simp))
    have n1_ := Am (Kd.R_mono (Kd.R_keep (IsS72.apart (show IsS72 w0 _ g s0_0 t302 t303 from by repeat (first | (with_reducible first | exact HI0.out | apply IsS72.alloc | apply IsS72.drewN | apply IsS72.drew | apply IsS72.set_1 | apply IsS72.set_2 | apply IsS72.far (hne := NB0_293.out) | apply IsS72.far (hne := NB0_300.out)) | exact HI0.out)) (by (with_reducible repeat (first | apply ra | apply rn | apply re)); exact HO297.out) (by decide)) hk (fun _ h => h.2)) (fun _ h => h.1))
    have n2_ := Am (KeepBut.blk hk (g' := gb300) (o := o12b1 t294 Ao27 t295.length co27) (by (with_reducible repeat (first | refine kn ?_ _ | refine ke ?_ | refine ka ?_ _)); exact BK300.out) NB300_0.out (by simp))
    have n3_ := Am (Kd.R_mono (Kd.R_keep (IsS72.apart (show IsS72 w0 _ g s0_0 t302 t303 from by repeat (first | (with_reducible first | exact HI0.out | apply IsS72.alloc | apply IsS72.drewN | apply IsS72.drew | apply IsS72.set_1 | apply IsS72.set_2 | apply IsS72.far (hne := NB0_293.out) | apply IsS72.far (hne := NB0_300.out)) | exact HI0.out)) (by (with_reducible repeat (first | apply ra | apply rn | apply re)); exact HO306.out) (by decide)) hk (fun _ h => h.2)) (fun _ h => h.1))
    have n4_ := Am (KeepBut.trans (by repeat (first | (with_reducible first | exact HK.out | apply KeepBut.set_ | apply keep_drewN | apply keep_drew | apply keep_alloc | refine keep_far ?_ GW293.out _ | refine keep_far ?_ GW300.out _) | exact HK.out)) hk (.inl rfl))
    have n5_ := Am (hb)
    have n6_ := Am (hi)
    clear BK293
    clear HO297
    clear BK300
    clear HO306
    clear HK
    clear HB
    clear HI0
    have BK293 := n0_
    have HO297 := n1_
    have BK300 := n2_
    have HO306 := n3_
    have HK := n4_
    have HB := n5_
    have HI0 := n6_
    clear n0_ n1_ n2_ n3_ n4_ n5_ n6_
    (try clear hb)
    (try clear hb2)
    (try clear hk)
    (try clear hi)
    refine hK.out _ _ ⟨(kc BK300.out 0).trans rfl, (kc BK300.out 1).trans rfl⟩ (fun hHeld => ?_)
    clear hK K
    refine zN (some 20) ?_
    refine zO 5 (some 21) HT_.out rfl rfl (fun K hK => ?_)
    refine goes_ Try.func50 (by kernel_rfl) rfl #[.int .i64 16, .int .u8 7] (by rfl) rfl rfl (by (try simp only [List.map_toArray, List.map_cons, List.map_nil]); first | done | rfl | (simp only [List.length_drop, List.length_take]; rfl)) ?_
    with_reducible refine (spec_l01Long.calls k 16 7 t310 _ A19.out).mono ?_
    rintro e w34 ⟨rfl, hb⟩
    refine ⟨_, rfl, ?_⟩
    have n0_ := Am (rb (by (with_reducible repeat (first | apply ra | apply rn | apply re)); exact HO297.out) hb)
    have n1_ := Am (rb (by (with_reducible repeat (first | apply ra | apply rn | apply re)); exact HO306.out) hb)
    have n2_ := Am (IsS72.below (by repeat (first | (with_reducible first | exact HI0.out | apply IsS72.alloc | apply IsS72.drewN | apply IsS72.drew | apply IsS72.set_1 | apply IsS72.set_2 | apply IsS72.far (hne := NB0_293.out) | apply IsS72.far (hne := NB0_300.out)) | exact HI0.out)) hb)
    have n3_ := Am (zK BK293 hb)
    have n4_ := Am (zK BK300 hb)
    have n5_ := Am (KeepBut.trans (by repeat (first | (with_reducible first | exact HK.out | apply KeepBut.set_ | apply keep_drewN | apply keep_drew | apply keep_alloc | refine keep_far ?_ GW293.out _ | refine keep_far ?_ GW300.out _) | exact HK.out)) (KeepBut.of_below hb g none) (.inl rfl))
    have n6_ := Am (bq (by repeat (first | (with_reducible first | exact HB.out | apply ba | apply bn | apply be | refine bs ?_ (IsS72.ge HI0.out) | refine bs ?_ GE293.out | refine bs ?_ GE300.out) | exact HB.out)) hb)
    clear HO297
    clear HO306
    clear HI0
    clear BK293
    clear BK300
    clear HK
    clear HB
    have HO297 := n0_
    have HO306 := n1_
    have HI0 := n2_
    have BK293 := n3_
    have BK300 := n4_
    have HK := n5_
    have HB := n6_
    clear n0_ n1_ n2_ n3_ n4_ n5_ n6_
    (try clear hb)
    (try clear hb2)
    (try clear hk)
    (try clear hi)
    refine hK.out _ _ ⟨(kc BK300.out 0).trans rfl, (kc BK300.out 1).trans rfl⟩ (fun hHeld => ?_)
    clear hK K
    refine zN (some 21) ?_
    refine zA 6 (some 22) HT_.out rfl rfl ?_
    refine zO 7 (some 23) HT_.out rfl rfl (fun K hK => ?_)
    refine value_ (w1 := ?_) (v := ?_) (by rfl) rfl ?_ ?_
    rotate_left 2
    ·go_simp
     constructor
     ·rfl
     ·rfl
    refine hK.out _ _ ⟨(kc (ka BK300.out _) 0).trans rfl, (kc (ka BK300.out _) 1).trans rfl⟩ (fun hHeld => ?_)
    clear hK K
    refine zN (some 23) ?_
    refine zO 8 (some 24) HT_.out rfl rfl (fun K hK => ?_)
    refine Kd.R_append_step k49 w.heap.size (by rfl) (.tmp 17) (.tmp 23) 26 49 (.agg #[(.int .i64 0), (.string ⟨#[]⟩), (.bool false)]) 32 rfl Try.underlying26 info49 rfl (by decide) (by omega) (.slice Ao27 t295.length co27) t295 (⟨t307, t310, false⟩ : S49) [.int .i64 t307, .string t310, .bool false] (fun _ => True) (fun _ => False) rfl rfl ?aP (fun _ hk => hk.elim) ?aF ?aO (Below.refl _ _) ?aS ?aL ?_
    (case aP => exact k49_mkM _ _ _ (⟨t307, t310, false⟩ : S49))
    (case aF => exact (fun _ _ => trivial))
    (case aO => exact (by (with_reducible repeat (first | apply ra | apply rn | apply re)); exact HO297.out))
    (case aS => exact (keep_size (w := w) (g := g) (row := none) (by repeat (first | (with_reducible first | exact HK.out | apply KeepBut.set_ | apply keep_drewN | apply keep_drew | apply keep_alloc | refine keep_far ?_ GW293.out _ | refine keep_far ?_ GW300.out _) | exact HK.out))))
    (case aL => have := LMc20.out; omega)
    intro v312 w35 ho hb hg hat
    rw [← Ny311.out] at ho
    have n0_ := Am (IsS72.grown (by repeat (first | (with_reducible first | exact HI0.out | apply IsS72.alloc | apply IsS72.drewN | apply IsS72.drew | apply IsS72.set_1 | apply IsS72.set_2 | apply IsS72.far (hne := NB0_293.out) | apply IsS72.far (hne := NB0_300.out)) | exact HI0.out)) hg (IsS72.own_ne HI0.out HO297.out (by decide)))
    have n1_ := Am (kg (g := gb293) (o := .cells #[.string (⟨#[]⟩ : ByteArray), .slice none 0 0] 28 (0, 0)) (by (with_reducible repeat (first | refine kn ?_ _ | refine ke ?_ | refine ka ?_ _)); exact BK293.out) hg (Kd.R_ne HO297.out BK293.out (by decide)))
    have n2_ := Am (kg (g := gb300) (o := o12b1 t294 Ao27 t295.length co27) (by (with_reducible repeat (first | refine kn ?_ _ | refine ke ?_ | refine ka ?_ _)); exact BK300.out) hg (Kd.R_ne HO297.out BK300.out (by decide)))
    have n3_ := Am (Kd.R_over' (by (with_reducible repeat (first | apply ra | apply rn | apply re)); exact HO306.out) (Kd.R_typed (by (with_reducible repeat (first | apply ra | apply rn | apply re)); exact HO297.out)) (by decide) hg)
    have n4_ := Am (below_weaken (by repeat (first | (with_reducible first | exact HB.out | apply ba | apply bn | apply be | refine bs ?_ (IsS72.ge HI0.out) | refine bs ?_ GE293.out | refine bs ?_ GE300.out) | exact HB.out)) HL.out hb)
    have n5_ := Am (KeepBut.trans (by repeat (first | (with_reducible first | exact HK.out | apply KeepBut.set_ | apply keep_drewN | apply keep_drew | apply keep_alloc | refine keep_far ?_ GW293.out _ | refine keep_far ?_ GW300.out _) | exact HK.out)) (KeepBut.of_grown hg g) (Kd.R_base2 HO297.out))
    have n6_ := Am (ho)
    clear HI0
    clear BK293
    clear BK300
    clear HO306
    clear HB
    clear HK
    clear HO297
    have HI0 := n0_
    have BK293 := n1_
    have BK300 := n2_
    have HO306 := n3_
    have HB := n4_
    have HK := n5_
    have HO313 := n6_
    clear n0_ n1_ n2_ n3_ n4_ n5_ n6_
    clear ho hb hg hat
    obtain ⟨Ao36, co36, eo36⟩ := Kd.R_slice HO313.out
    (first | subst eo36 | (injection eo36 with f1_ f2_ f3_; have f4_ := f1_.symm; have f5_ := f3_.symm; clear f1_ f2_ f3_; subst f4_; subst f5_))
    refine hK.out _ _ ⟨(kc BK300.out 0).trans rfl, (kc BK300.out 1).trans rfl⟩ (fun hHeld => ?_)
    clear hK K
    refine zN (some 24) ?_
    refine zA 9 (some 25) HT_.out rfl rfl ?_
    refine last_ (i := 10) (N := none) #[true, true, true, true, true, true, true, true, true, true, true] rfl rfl (one_of HT_.out (by kernel_rfl)) (by decide) (fun K hK => ?_)
    have hs37 : w35.cell? ⟨gb300, 1, none⟩ = some (.slice Ao27 t295.length co27) := (kc BK300.out 1).trans rfl
    have hfs37 := kf BK300.out 1
    have hns37_0 := NB293_300.out
    have hms37_0 := NB300_293.out
    refine skip_ (w1 := ?_) (by rfl) rfl ?_ ?_
    rotate_left
    ·go_simp
     rfl
    refine hK.out _ _ ?_
    clear hK K
    refine done_ (done_of HT_.out (by kernel_rfl)) ?_
    obtain ⟨hcz38_0, hcz38_1⟩ := kc2 (w := w35) BK300.out
    have hfz38_0 := kf BK300.out
    have hnb39 := NB293_0.out
    have hnc39 := NB0_293.out
    obtain ⟨hcz40_0, hcz40_1⟩ := kc2 (w := w35) BK293.out
    have hfz40_0 := kf BK293.out
    try go_wp2
    refine bodyPost_ret (results_cell_row rfl _ _ gb293 28 #[.string t294, .slice Ao36 y311.length co36] (0, 0) _ rfl (by (with_reducible repeat (first | refine kn ?_ _ | refine ke ?_ | refine ka ?_ _)); refine kp (cs := #[.string t294, .slice none 0 0]) ?_ 1 _ rfl; (with_reducible repeat (first | refine kn ?_ _ | refine ke ?_ | refine ka ?_ _)); refine kp (cs := #[.string (⟨#[]⟩ : ByteArray), .slice none 0 0]) ?_ 0 _ rfl; (with_reducible repeat (first | refine kn ?_ _ | refine ke ?_ | refine ka ?_ _)); refine blk_far ?_ NB293_300.out _; (with_reducible repeat (first | refine kn ?_ _ | refine ke ?_ | refine ka ?_ _)); exact BK293.out) Try.underlying28 rfl (by kernel_rfl)) rfl ?_
    exact ⟨_, zR, by (with_reducible repeat (first | apply ra | apply rn | apply re)); exact Kd.R_mono (Kd.R_far (p := ⟨gb293, 1, none⟩) (Kd.R_far (p := ⟨gb293, 0, none⟩) (Kd.R_far (p := ⟨gb300, 1, none⟩) (Kd.R_types (Kd.R_types HO313.out BK300.out (by decide)) BK293.out (by decide)) (fun _ hk => hk.1.2) (.slice Ao36 y311.length co36)) (fun _ hk => hk.2) (.string t294)) (fun _ hk => hk.2) (.slice Ao36 y311.length co36)) (fun _ hk => trivial), by repeat (first | (with_reducible first | exact HI0.out | apply IsS72.alloc | apply IsS72.drewN | apply IsS72.drew | apply IsS72.set_1 | apply IsS72.set_2 | apply IsS72.far (hne := NB0_293.out) | apply IsS72.far (hne := NB0_300.out)) | exact HI0.out), by repeat (first | (with_reducible first | exact HB.out | apply ba | apply bn | apply be | refine bs ?_ (IsS72.ge HI0.out) | refine bs ?_ GE293.out | refine bs ?_ GE300.out) | exact HB.out), by repeat (first | (with_reducible first | exact HK.out | apply KeepBut.set_ | apply keep_drewN | apply keep_drew | apply keep_alloc | refine keep_far ?_ GW293.out _ | refine keep_far ?_ GW300.out _) | exact HK.out)⟩
   ·rw [if_neg c20] at H
    exact absurd H (by simp)
  ·rw [if_neg c17] at H
   have c17b0 : (t301 == 1) = false := beq_eq_false_iff_ne.mpr c17
   have c17b1 : (t301 != 1) = true := bne_iff_ne.mpr c17
   by_cases c41 : t301 = 2
   ·rw [if_pos c41] at H
    have c41b0 : (t301 == 2) = true := beq_iff_eq.mpr c41
    have c41b1 : (t301 != 2) = false := bne_eq_false_iff_eq.mpr c41
    clear c41
    obtain ⟨y314, hy314⟩ : ∃ y_ : List (S49), y_ = (([] : List (S49))) := ⟨_, rfl⟩
    replace H : (if y314.length < 4398046511104 then (some (t294, (y314 ++ [(⟨0, (⟨#[115, 104, 111, 114, 116]⟩ : ByteArray), false⟩ : S49)]), t302, t303)) else (none)) = some (r1, r2, r3, r4) := by first | (rw [hy314]; with_reducible exact H) | (have H2_ := (Option.bind_some _ _).symm.trans H; rw [hy314]; with_reducible exact H2_) | (have H2_ := (Option.bind_some _ _).symm.trans H; with_reducible exact H2_) | with_reducible exact H | (rw [hy314]; exact H) | exact H
    have Ny314 := Am hy314
    clear hy314
    by_cases c42 : y314.length < 4398046511104
    ·rw [if_pos c42] at H
     have LMc42 := Am c42
     clear c42
     obtain ⟨y317, hy317⟩ : ∃ y_ : List (S49), y_ = (y314 ++ [(⟨0, (⟨#[115, 104, 111, 114, 116]⟩ : ByteArray), false⟩ : S49)]) := ⟨_, rfl⟩
     replace H : (some (t294, y317, t302, t303)) = some (r1, r2, r3, r4) := by first | (rw [hy317]; with_reducible exact H) | (have H2_ := (Option.bind_some _ _).symm.trans H; rw [hy317]; with_reducible exact H2_) | (have H2_ := (Option.bind_some _ _).symm.trans H; with_reducible exact H2_) | with_reducible exact H | (rw [hy317]; exact H) | exact H
     have Ny317 := Am hy317
     clear hy317
     simp only [Option.some.injEq, Prod.mk.injEq] at H
     obtain ⟨rfl, rfl, rfl, rfl⟩ := H
     go_enter Try.func32, Try.ntmps32
     go_wp2_with (first | ((with_reducible refine gate_dst (N := 2) rfl ?_); refine box_event ?hg (N := 2) ?hd (cs := #[.string (⟨#[]⟩ : ByteArray), .slice none 0 0]) (t := 28) ?hr ?_; (case hd => rfl); (case hg => rfl); (case hr => first | (go_simp; done) | (go_simp; rfl)); intro gb293 hg w43 hbox hb; replace HB := Am (bq (by repeat (first | (with_reducible first | exact HB.out | apply ba | apply bn | apply be | refine bs ?_ (IsS72.ge HI0.out)) | exact HB.out)) hb); have BK293 := Am (hbox); have GW293 := Am ((by rw [hg]; exact (keep_size (w := w) (g := g) (row := none) (by repeat (first | (with_reducible first | exact HK.out | apply KeepBut.set_ | apply keep_drewN | apply keep_drew | apply keep_alloc) | exact HK.out))) : w.heap.size ≤ gb293)); have GE293 := Am ((Nat.le_trans HW0.out (by rw [hg]; exact (keep_size (w := w) (g := g) (row := none) (by repeat (first | (with_reducible first | exact HK.out | apply KeepBut.set_ | apply keep_drewN | apply keep_drew | apply keep_alloc) | exact HK.out))) : w.heap.size ≤ gb293) : w0.heap.size ≤ gb293)); replace HK := Am (KeepBut.trans (by repeat (first | (with_reducible first | exact HK.out | apply KeepBut.set_ | apply keep_drewN | apply keep_drew | apply keep_alloc) | exact HK.out)) (KeepBut.of_below hb g none) (.inl rfl)); have NB0_293 := Am ((by rw [hg]; exact Nat.ne_of_lt (IsS72.lt (show IsS72 w0 _ g s0_0 s0_1 s0_2 from by repeat (first | (with_reducible first | exact HI0.out | apply IsS72.alloc | apply IsS72.drewN | apply IsS72.drew | apply IsS72.set_1 | apply IsS72.set_2) | exact HI0.out))) : g ≠ gb293)); have NB293_0 := Am ((by rw [hg]; exact Nat.ne_of_gt (IsS72.lt (show IsS72 w0 _ g s0_0 s0_1 s0_2 from by repeat (first | (with_reducible first | exact HI0.out | apply IsS72.alloc | apply IsS72.drewN | apply IsS72.drew | apply IsS72.set_1 | apply IsS72.set_2) | exact HI0.out))) : gb293 ≠ g)); replace HI0 := Am (IsS72.below (by repeat (first | (with_reducible first | exact HI0.out | apply IsS72.alloc | apply IsS72.drewN | apply IsS72.drew | apply IsS72.set_1 | apply IsS72.set_2) | exact HI0.out)) hb); clear hb hbox hg) | ((with_reducible refine gate_callee (f := 48) rfl ?_); refine zC (some 5) rfl rfl Try.func48 rfl #[.pointer (some ⟨g, 0, none⟩)] rfl ?_; (with_reducible refine (spec_l10Memory.calls k g s0_0 s0_1 s0_2 t294 t295 t298 t299 w0 _ ?side1 ?side2 A2.out).mono ?_); (case side1 => repeat (first | (with_reducible first | exact HI0.out | apply IsS72.alloc | apply IsS72.drewN | apply IsS72.drew | apply IsS72.set_1 | apply IsS72.set_2 | apply IsS72.far (hne := NB0_293.out)) | exact HI0.out)); (case side2 => repeat (first | (with_reducible first | exact HB.out | apply ba | apply bn | apply be | refine bs ?_ (IsS72.ge HI0.out) | refine bs ?_ GE293.out) | exact HB.out)); rintro e w44 ⟨v296, rfl, ho0, hi, hb, hk⟩; refine ⟨_, rfl, ?_⟩; have n0_ := Am (KeepBut.blk hk (g' := gb293) (o := .cells #[.string (⟨#[]⟩ : ByteArray), .slice none 0 0] 28 (0, 0)) (by (with_reducible repeat (first | refine kn ?_ _ | refine ke ?_ | refine ka ?_ _)); exact BK293.out) NB293_0.out (by simp)); have n1_ := Am (Kd.R_lower ho0 (keep_size (w := w) (g := g) (row := none) (by repeat (first | (with_reducible first | exact HK.out | apply KeepBut.set_ | apply keep_drewN | apply keep_drew | apply keep_alloc | refine keep_far ?_ GW293.out _) | exact HK.out)))); have n2_ := Am (KeepBut.trans (by repeat (first | (with_reducible first | exact HK.out | apply KeepBut.set_ | apply keep_drewN | apply keep_drew | apply keep_alloc | refine keep_far ?_ GW293.out _) | exact HK.out)) hk (.inl rfl)); have n3_ := Am (hb); have n4_ := Am (hi); clear BK293; clear HK; clear HB; clear HI0; have BK293 := n0_; have HO297 := n1_; have HK := n2_; have HB := n3_; have HI0 := n4_; clear n0_ n1_ n2_ n3_ n4_; (try clear hb hk hi ho0)) | ((with_reducible refine gate_dst (N := 3) rfl ?_); refine box_event ?hg (N := 3) ?hd (cs := #[.string (⟨#[]⟩ : ByteArray), .slice none 0 0]) (t := 28) ?hr ?_; (case hd => rfl); (case hg => rfl); (case hr => first | (go_simp; done) | (go_simp; rfl)); intro gb300 hg w45 hbox hb; have n0_ := Am (rb (by (with_reducible repeat (first | apply ra | apply rn | apply re)); exact HO297.out) hb); have n1_ := Am (IsS72.below (by repeat (first | (with_reducible first | exact HI0.out | apply IsS72.alloc | apply IsS72.drewN | apply IsS72.drew | apply IsS72.set_1 | apply IsS72.set_2 | apply IsS72.far (hne := NB0_293.out)) | exact HI0.out)) hb); have n2_ := Am (zK BK293 hb); have n3_ := Am (KeepBut.trans (by repeat (first | (with_reducible first | exact HK.out | apply KeepBut.set_ | apply keep_drewN | apply keep_drew | apply keep_alloc | refine keep_far ?_ GW293.out _) | exact HK.out)) (KeepBut.of_below hb g none) (.inl rfl)); have n4_ := Am (bq (by repeat (first | (with_reducible first | exact HB.out | apply ba | apply bn | apply be | refine bs ?_ (IsS72.ge HI0.out) | refine bs ?_ GE293.out) | exact HB.out)) hb); have n5_ := Am (hbox); have n6_ := Am ((by rw [hg]; exact (keep_size (w := w) (g := g) (row := none) (by repeat (first | (with_reducible first | exact HK.out | apply KeepBut.set_ | apply keep_drewN | apply keep_drew | apply keep_alloc | refine keep_far ?_ GW293.out _) | exact HK.out))) : w.heap.size ≤ gb300)); have n7_ := Am ((Nat.le_trans HW0.out (by rw [hg]; exact (keep_size (w := w) (g := g) (row := none) (by repeat (first | (with_reducible first | exact HK.out | apply KeepBut.set_ | apply keep_drewN | apply keep_drew | apply keep_alloc | refine keep_far ?_ GW293.out _) | exact HK.out))) : w.heap.size ≤ gb300) : w0.heap.size ≤ gb300)); have n8_ := Am ((by rw [hg]; exact Nat.ne_of_lt (zL BK293) : gb293 ≠ gb300)); have n9_ := Am ((by rw [hg]; exact Nat.ne_of_gt (zL BK293) : gb300 ≠ gb293)); have n10_ := Am ((by rw [hg]; exact Nat.ne_of_lt (IsS72.lt (show IsS72 w0 _ g s0_0 t298 t299 from by repeat (first | (with_reducible first | exact HI0.out | apply IsS72.alloc | apply IsS72.drewN | apply IsS72.drew | apply IsS72.set_1 | apply IsS72.set_2 | apply IsS72.far (hne := NB0_293.out)) | exact HI0.out))) : g ≠ gb300)); have n11_ := Am ((by rw [hg]; exact Nat.ne_of_gt (IsS72.lt (show IsS72 w0 _ g s0_0 t298 t299 from by repeat (first | (with_reducible first | exact HI0.out | apply IsS72.alloc | apply IsS72.drewN | apply IsS72.drew | apply IsS72.set_1 | apply IsS72.set_2 | apply IsS72.far (hne := NB0_293.out)) | exact HI0.out))) : gb300 ≠ g)); clear HO297; clear HI0; clear BK293; clear HK; clear HB; have HO297 := n0_; have HI0 := n1_; have BK293 := n2_; have HK := n3_; have HB := n4_; have BK300 := n5_; have GW300 := n6_; have GE300 := n7_; have NB293_300 := n8_; have NB300_293 := n9_; have NB0_300 := n10_; have NB300_0 := n11_; clear n0_ n1_ n2_ n3_ n4_ n5_ n6_ n7_ n8_ n9_ n10_ n11_; clear hb hbox hg; have hnb46 := NB300_293.out; have hnc46 := NB293_300.out; have hnb47 := NB300_0.out; have hnc47 := NB0_300.out; obtain ⟨hcz48_0, hcz48_1⟩ := kc2 (w := w45) BK300.out; have hfz48_0 := kf BK300.out; obtain ⟨Ao49, co49, eo49⟩ := Kd.R_slice HO297.out; subst eo49) | ((with_reducible refine gate_callee (f := 49) rfl ?_); refine zC (some 7) rfl rfl Try.func49 rfl #[.pointer (some ⟨g, 0, none⟩), .int .i64 14] rfl ?_; (with_reducible refine (spec_l01Below.calls g s0_0 t298 t299 14 t301 t302 t303 w0 _ ?side1 ?side2 A3.out).mono ?_); (case side1 => repeat (first | (with_reducible first | exact HI0.out | apply IsS72.alloc | apply IsS72.drewN | apply IsS72.drew | apply IsS72.set_1 | apply IsS72.set_2 | apply IsS72.far (hne := NB0_293.out) | apply IsS72.far (hne := NB0_300.out)) | exact HI0.out)); (case side2 => repeat (first | (with_reducible first | exact HB.out | apply ba | apply bn | apply be | refine bs ?_ (IsS72.ge HI0.out) | refine bs ?_ GE293.out | refine bs ?_ GE300.out) | exact HB.out)); rintro e w50 ⟨rfl, hi, hb, hk⟩; refine ⟨_, rfl, ?_⟩; have n0_ := Am (KeepBut.blk hk (g' := gb293) (o := .cells #[.string (⟨#[]⟩ : ByteArray), .slice none 0 0] 28 (0, 0)) (by (with_reducible repeat (first | refine kn ?_ _ | refine ke ?_ | refine ka ?_ _)); refine blk_far ?_ NB293_300.out _; (with_reducible repeat (first | refine kn ?_ _ | refine ke ?_ | refine ka ?_ _)); refine blk_far ?_ NB293_300.out _; (with_reducible repeat (first | refine kn ?_ _ | refine ke ?_ | refine ka ?_ _)); exact BK293.out) NB293_0.out (by simp)); have n1_ := Am (Kd.R_mono (Kd.R_keep (IsS72.apart (show IsS72 w0 _ g s0_0 t298 t299 from by repeat (first | (with_reducible first | exact HI0.out | apply IsS72.alloc | apply IsS72.drewN | apply IsS72.drew | apply IsS72.set_1 | apply IsS72.set_2 | apply IsS72.far (hne := NB0_293.out) | apply IsS72.far (hne := NB0_300.out)) | exact HI0.out)) (by (with_reducible repeat (first | apply ra | apply rn | apply re)); exact (Kd.R_mono (Kd.R_far (p := ⟨gb300, 1, none⟩) (Kd.R_far (p := ⟨gb300, 0, none⟩) (Kd.R_types HO297.out BK300.out (by decide)) (fun _ hk => hk.2) (.string t294)) (fun _ hk => hk.2) (.slice Ao49 t295.length co49)) (fun _ h_ => h_.1))) (by decide)) hk (fun _ h => h.2)) (fun _ h => h.1)); have n2_ := Am (KeepBut.blk hk (g' := gb300) (o := .cells #[.string t294, .slice Ao49 t295.length co49] 28 (0, 0)) (by (with_reducible repeat (first | refine kn ?_ _ | refine ke ?_ | refine ka ?_ _)); refine kp (cs := #[.string t294, .slice none 0 0]) ?_ 1 _ rfl; (with_reducible repeat (first | refine kn ?_ _ | refine ke ?_ | refine ka ?_ _)); refine kp (cs := #[.string (⟨#[]⟩ : ByteArray), .slice none 0 0]) ?_ 0 _ rfl; (with_reducible repeat (first | refine kn ?_ _ | refine ke ?_ | refine ka ?_ _)); exact BK300.out) NB300_0.out (by simp)); have n3_ := Am (KeepBut.trans (by repeat (first | (with_reducible first | exact HK.out | apply KeepBut.set_ | apply keep_drewN | apply keep_drew | apply keep_alloc | refine keep_far ?_ GW293.out _ | refine keep_far ?_ GW300.out _) | exact HK.out)) hk (.inl rfl)); have n4_ := Am (hb); have n5_ := Am (hi); clear BK293; clear HO297; clear BK300; clear HK; clear HB; clear HI0; have BK293 := n0_; have HO297 := n1_; have BK300 := n2_; have HK := n3_; have HB := n4_; have HI0 := n5_; clear n0_ n1_ n2_ n3_ n4_ n5_; (try clear hb hk hi)) | ((with_reducible refine gate_dst (N := 28) rfl ?_); refine Kd.R_lit k49 _ 49 ?hg (N := 28) ?hd (xs := ([] : List (S49))) (inner := []) (ok := fun _ => True) (okp := fun _ => True) ?hr ?hp (fun _ hk => hk) trivial (Below.refl _ _) (Nat.le_refl _) (by simp) ?_; (case hd => rfl); (case hg => rfl); (case hr => first | (go_simp; done) | (go_simp; rfl)); (case hp => exact (Reps.none _ _)); intro v315 w51 ho52 hb hg_ hnew_; clear hg_ hnew_; (first | rw [← Ny314.out] at ho52 | (simp only [Int.reduceToNat] at ho52; rw [← Ny314.out] at ho52)); have n0_ := Am (Kd.R_elder' (by (with_reducible repeat (first | apply ra | apply rn | apply re)); exact HO297.out) (Kd.R_base ho52) hb); have n1_ := Am (Kd.R_lower (Kd.R_new' ho52 (Kd.R_lt (by (with_reducible repeat (first | apply ra | apply rn | apply re)); exact HO297.out))) (keep_size (w := w) (g := g) (row := none) (by repeat (first | (with_reducible first | exact HK.out | apply KeepBut.set_ | apply keep_drewN | apply keep_drew | apply keep_alloc | refine keep_far ?_ GW293.out _ | refine keep_far ?_ GW300.out _) | exact HK.out)))); have n2_ := Am (IsS72.below (by repeat (first | (with_reducible first | exact HI0.out | apply IsS72.alloc | apply IsS72.drewN | apply IsS72.drew | apply IsS72.set_1 | apply IsS72.set_2 | apply IsS72.far (hne := NB0_293.out) | apply IsS72.far (hne := NB0_300.out)) | exact HI0.out)) hb); have n3_ := Am (zK BK293 hb); have n4_ := Am (zK BK300 hb); have n5_ := Am (KeepBut.trans (by repeat (first | (with_reducible first | exact HK.out | apply KeepBut.set_ | apply keep_drewN | apply keep_drew | apply keep_alloc | refine keep_far ?_ GW293.out _ | refine keep_far ?_ GW300.out _) | exact HK.out)) (KeepBut.of_below hb g none) (.inl rfl)); have n6_ := Am (bq (by repeat (first | (with_reducible first | exact HB.out | apply ba | apply bn | apply be | refine bs ?_ (IsS72.ge HI0.out) | refine bs ?_ GE293.out | refine bs ?_ GE300.out) | exact HB.out)) hb); clear HO297; clear HI0; clear BK293; clear BK300; clear HK; clear HB; have HO297 := n0_; have HO316 := n1_; have HI0 := n2_; have BK293 := n3_; have BK300 := n4_; have HK := n5_; have HB := n6_; clear n0_ n1_ n2_ n3_ n4_ n5_ n6_; clear hb ho52) | ((with_reducible refine gate_builtin (b := .append) (xs := #[.tmp 28, .tmp 30]) rfl ?_); at_builtin; refine Kd.R_append k49 w.heap.size rfl (.tmp 28) (.tmp 30) 26 49 (.agg #[(.int .i64 0), (.string ⟨#[]⟩), (.bool false)]) 32 rfl Try.underlying26 info49 rfl (by decide) (by omega) v315 y314 (⟨0, (⟨#[115, 104, 111, 114, 116]⟩ : ByteArray), false⟩ : S49) [.int .i64 0, .string (⟨#[115, 104, 111, 114, 116]⟩ : ByteArray), .bool false] (fun k_ => some k_ ≠ (.slice Ao49 t295.length co49 : Value).ownBlock) (fun _ => False) rfl rfl ?aP (fun _ hk => hk.elim) ?aF ?aO (Below.refl _ _) ?aS ?aL ?_; (case aP => exact k49_mkM _ _ _ (⟨0, (⟨#[115, 104, 111, 114, 116]⟩ : ByteArray), false⟩ : S49)); (case aF => exact (fun k_ hk => Kd.fresh' (Kd.R_lt (by (with_reducible repeat (first | apply ra | apply rn | apply re)); exact HO297.out)) k_ hk)); (case aO => exact (by (with_reducible repeat (first | apply ra | apply rn | apply re)); exact Kd.R_mono HO316.out (fun _ hk => hk.2))); (case aS => exact (keep_size (w := w) (g := g) (row := none) (by repeat (first | (with_reducible first | exact HK.out | apply KeepBut.set_ | apply keep_drewN | apply keep_drew | apply keep_alloc | refine keep_far ?_ GW293.out _ | refine keep_far ?_ GW300.out _) | exact HK.out)))); (case aL => have := LMc42.out; omega); intro v318 w53 ho hb hg hat; rw [← Ny317.out] at ho; have n0_ := Am (IsS72.grown (by repeat (first | (with_reducible first | exact HI0.out | apply IsS72.alloc | apply IsS72.drewN | apply IsS72.drew | apply IsS72.set_1 | apply IsS72.set_2 | apply IsS72.far (hne := NB0_293.out) | apply IsS72.far (hne := NB0_300.out)) | exact HI0.out)) hg (IsS72.own_ne HI0.out HO316.out (by decide))); have n1_ := Am (kg (g := gb293) (o := .cells #[.string (⟨#[]⟩ : ByteArray), .slice none 0 0] 28 (0, 0)) (by (with_reducible repeat (first | refine kn ?_ _ | refine ke ?_ | refine ka ?_ _)); exact BK293.out) hg (Kd.R_ne HO316.out BK293.out (by decide))); have n2_ := Am (Kd.R_after (ok := (fun _ => True)) (by (with_reducible repeat (first | apply ra | apply rn | apply re)); exact HO297.out) hg hat); have n3_ := Am (kg (g := gb300) (o := .cells #[.string t294, .slice Ao49 t295.length co49] 28 (0, 0)) (by (with_reducible repeat (first | refine kn ?_ _ | refine ke ?_ | refine ka ?_ _)); exact BK300.out) hg (Kd.R_ne HO316.out BK300.out (by decide))); have n4_ := Am (below_weaken (by repeat (first | (with_reducible first | exact HB.out | apply ba | apply bn | apply be | refine bs ?_ (IsS72.ge HI0.out) | refine bs ?_ GE293.out | refine bs ?_ GE300.out) | exact HB.out)) HL.out hb); have n5_ := Am (KeepBut.trans (by repeat (first | (with_reducible first | exact HK.out | apply KeepBut.set_ | apply keep_drewN | apply keep_drew | apply keep_alloc | refine keep_far ?_ GW293.out _ | refine keep_far ?_ GW300.out _) | exact HK.out)) (KeepBut.of_grown hg g) (Kd.R_base2 HO316.out)); have n6_ := Am (ho); clear HI0; clear BK293; clear HO297; clear BK300; clear HB; clear HK; clear HO316; have HI0 := n0_; have BK293 := n1_; have HO297 := n2_; have BK300 := n3_; have HB := n4_; have HK := n5_; have HO319 := n6_; clear n0_ n1_ n2_ n3_ n4_ n5_ n6_; clear ho hb hg hat; obtain ⟨Ao54, co54, eo54⟩ := Kd.R_slice HO319.out; subst eo54; obtain ⟨hcz55_0, hcz55_1⟩ := kc2 (w := w53) BK300.out; have hfz55_0 := kf BK300.out; have hnb56 := NB293_0.out; have hnc56 := NB0_293.out; obtain ⟨hcz57_0, hcz57_1⟩ := kc2 (w := w53) BK293.out; have hfz57_0 := kf BK293.out))
     refine bodyPost_ret (results_cell_row rfl _ _ gb293 28 #[.string t294, .slice Ao54 y317.length co54] (0, 0) _ rfl (by (with_reducible repeat (first | refine kn ?_ _ | refine ke ?_ | refine ka ?_ _)); refine kp (cs := #[.string t294, .slice none 0 0]) ?_ 1 _ rfl; (with_reducible repeat (first | refine kn ?_ _ | refine ke ?_ | refine ka ?_ _)); refine kp (cs := #[.string (⟨#[]⟩ : ByteArray), .slice none 0 0]) ?_ 0 _ rfl; (with_reducible repeat (first | refine kn ?_ _ | refine ke ?_ | refine ka ?_ _)); refine blk_far ?_ NB293_300.out _; (with_reducible repeat (first | refine kn ?_ _ | refine ke ?_ | refine ka ?_ _)); exact BK293.out) Try.underlying28 rfl (by kernel_rfl)) rfl ?_
     exact ⟨_, zR, by (with_reducible repeat (first | apply ra | apply rn | apply re)); exact Kd.R_mono (Kd.R_far (p := ⟨gb293, 1, none⟩) (Kd.R_far (p := ⟨gb293, 0, none⟩) (Kd.R_far (p := ⟨gb300, 1, none⟩) (Kd.R_types (Kd.R_types HO319.out BK300.out (by decide)) BK293.out (by decide)) (fun _ hk => hk.1.2) (.slice Ao54 y317.length co54)) (fun _ hk => hk.2) (.string t294)) (fun _ hk => hk.2) (.slice Ao54 y317.length co54)) (fun _ hk => trivial), by repeat (first | (with_reducible first | exact HI0.out | apply IsS72.alloc | apply IsS72.drewN | apply IsS72.drew | apply IsS72.set_1 | apply IsS72.set_2 | apply IsS72.far (hne := NB0_293.out) | apply IsS72.far (hne := NB0_300.out)) | exact HI0.out), by repeat (first | (with_reducible first | exact HB.out | apply ba | apply bn | apply be | refine bs ?_ (IsS72.ge HI0.out) | refine bs ?_ GE293.out | refine bs ?_ GE300.out) | exact HB.out), by repeat (first | (with_reducible first | exact HK.out | apply KeepBut.set_ | apply keep_drewN | apply keep_drew | apply keep_alloc | refine keep_far ?_ GW293.out _ | refine keep_far ?_ GW300.out _) | exact HK.out)⟩
    ·rw [if_neg c42] at H
     exact absurd H (by simp)
   ·rw [if_neg c41] at H
    have c41b0 : (t301 == 2) = false := beq_eq_false_iff_ne.mpr c41
    have c41b1 : (t301 != 2) = true := bne_iff_ne.mpr c41
    simp only [Option.some.injEq, Prod.mk.injEq] at H
    obtain ⟨rfl, rfl, rfl, rfl⟩ := H
    go_enter Try.func32, Try.ntmps32
    go_wp2_with (first | ((with_reducible refine gate_dst (N := 2) rfl ?_); refine box_event ?hg (N := 2) ?hd (cs := #[.string (⟨#[]⟩ : ByteArray), .slice none 0 0]) (t := 28) ?hr ?_; (case hd => rfl); (case hg => rfl); (case hr => first | (go_simp; done) | (go_simp; rfl)); intro gb293 hg w58 hbox hb; replace HB := Am (bq (by repeat (first | (with_reducible first | exact HB.out | apply ba | apply bn | apply be | refine bs ?_ (IsS72.ge HI0.out)) | exact HB.out)) hb); have BK293 := Am (hbox); have GW293 := Am ((by rw [hg]; exact (keep_size (w := w) (g := g) (row := none) (by repeat (first | (with_reducible first | exact HK.out | apply KeepBut.set_ | apply keep_drewN | apply keep_drew | apply keep_alloc) | exact HK.out))) : w.heap.size ≤ gb293)); have GE293 := Am ((Nat.le_trans HW0.out (by rw [hg]; exact (keep_size (w := w) (g := g) (row := none) (by repeat (first | (with_reducible first | exact HK.out | apply KeepBut.set_ | apply keep_drewN | apply keep_drew | apply keep_alloc) | exact HK.out))) : w.heap.size ≤ gb293) : w0.heap.size ≤ gb293)); replace HK := Am (KeepBut.trans (by repeat (first | (with_reducible first | exact HK.out | apply KeepBut.set_ | apply keep_drewN | apply keep_drew | apply keep_alloc) | exact HK.out)) (KeepBut.of_below hb g none) (.inl rfl)); have NB0_293 := Am ((by rw [hg]; exact Nat.ne_of_lt (IsS72.lt (show IsS72 w0 _ g s0_0 s0_1 s0_2 from by repeat (first | (with_reducible first | exact HI0.out | apply IsS72.alloc | apply IsS72.drewN | apply IsS72.drew | apply IsS72.set_1 | apply IsS72.set_2) | exact HI0.out))) : g ≠ gb293)); have NB293_0 := Am ((by rw [hg]; exact Nat.ne_of_gt (IsS72.lt (show IsS72 w0 _ g s0_0 s0_1 s0_2 from by repeat (first | (with_reducible first | exact HI0.out | apply IsS72.alloc | apply IsS72.drewN | apply IsS72.drew | apply IsS72.set_1 | apply IsS72.set_2) | exact HI0.out))) : gb293 ≠ g)); replace HI0 := Am (IsS72.below (by repeat (first | (with_reducible first | exact HI0.out | apply IsS72.alloc | apply IsS72.drewN | apply IsS72.drew | apply IsS72.set_1 | apply IsS72.set_2) | exact HI0.out)) hb); clear hb hbox hg) | ((with_reducible refine gate_callee (f := 48) rfl ?_); refine zC (some 5) rfl rfl Try.func48 rfl #[.pointer (some ⟨g, 0, none⟩)] rfl ?_; (with_reducible refine (spec_l10Memory.calls k g s0_0 s0_1 s0_2 t294 t295 t298 t299 w0 _ ?side1 ?side2 A2.out).mono ?_); (case side1 => repeat (first | (with_reducible first | exact HI0.out | apply IsS72.alloc | apply IsS72.drewN | apply IsS72.drew | apply IsS72.set_1 | apply IsS72.set_2 | apply IsS72.far (hne := NB0_293.out)) | exact HI0.out)); (case side2 => repeat (first | (with_reducible first | exact HB.out | apply ba | apply bn | apply be | refine bs ?_ (IsS72.ge HI0.out) | refine bs ?_ GE293.out) | exact HB.out)); rintro e w59 ⟨v296, rfl, ho0, hi, hb, hk⟩; refine ⟨_, rfl, ?_⟩; have n0_ := Am (KeepBut.blk hk (g' := gb293) (o := .cells #[.string (⟨#[]⟩ : ByteArray), .slice none 0 0] 28 (0, 0)) (by (with_reducible repeat (first | refine kn ?_ _ | refine ke ?_ | refine ka ?_ _)); exact BK293.out) NB293_0.out (by simp)); have n1_ := Am (Kd.R_lower ho0 (keep_size (w := w) (g := g) (row := none) (by repeat (first | (with_reducible first | exact HK.out | apply KeepBut.set_ | apply keep_drewN | apply keep_drew | apply keep_alloc | refine keep_far ?_ GW293.out _) | exact HK.out)))); have n2_ := Am (KeepBut.trans (by repeat (first | (with_reducible first | exact HK.out | apply KeepBut.set_ | apply keep_drewN | apply keep_drew | apply keep_alloc | refine keep_far ?_ GW293.out _) | exact HK.out)) hk (.inl rfl)); have n3_ := Am (hb); have n4_ := Am (hi); clear BK293; clear HK; clear HB; clear HI0; have BK293 := n0_; have HO297 := n1_; have HK := n2_; have HB := n3_; have HI0 := n4_; clear n0_ n1_ n2_ n3_ n4_; (try clear hb hk hi ho0)) | ((with_reducible refine gate_dst (N := 3) rfl ?_); refine box_event ?hg (N := 3) ?hd (cs := #[.string (⟨#[]⟩ : ByteArray), .slice none 0 0]) (t := 28) ?hr ?_; (case hd => rfl); (case hg => rfl); (case hr => first | (go_simp; done) | (go_simp; rfl)); intro gb300 hg w60 hbox hb; have n0_ := Am (rb (by (with_reducible repeat (first | apply ra | apply rn | apply re)); exact HO297.out) hb); have n1_ := Am (IsS72.below (by repeat (first | (with_reducible first | exact HI0.out | apply IsS72.alloc | apply IsS72.drewN | apply IsS72.drew | apply IsS72.set_1 | apply IsS72.set_2 | apply IsS72.far (hne := NB0_293.out)) | exact HI0.out)) hb); have n2_ := Am (zK BK293 hb); have n3_ := Am (KeepBut.trans (by repeat (first | (with_reducible first | exact HK.out | apply KeepBut.set_ | apply keep_drewN | apply keep_drew | apply keep_alloc | refine keep_far ?_ GW293.out _) | exact HK.out)) (KeepBut.of_below hb g none) (.inl rfl)); have n4_ := Am (bq (by repeat (first | (with_reducible first | exact HB.out | apply ba | apply bn | apply be | refine bs ?_ (IsS72.ge HI0.out) | refine bs ?_ GE293.out) | exact HB.out)) hb); have n5_ := Am (hbox); have n6_ := Am ((by rw [hg]; exact (keep_size (w := w) (g := g) (row := none) (by repeat (first | (with_reducible first | exact HK.out | apply KeepBut.set_ | apply keep_drewN | apply keep_drew | apply keep_alloc | refine keep_far ?_ GW293.out _) | exact HK.out))) : w.heap.size ≤ gb300)); have n7_ := Am ((Nat.le_trans HW0.out (by rw [hg]; exact (keep_size (w := w) (g := g) (row := none) (by repeat (first | (with_reducible first | exact HK.out | apply KeepBut.set_ | apply keep_drewN | apply keep_drew | apply keep_alloc | refine keep_far ?_ GW293.out _) | exact HK.out))) : w.heap.size ≤ gb300) : w0.heap.size ≤ gb300)); have n8_ := Am ((by rw [hg]; exact Nat.ne_of_lt (zL BK293) : gb293 ≠ gb300)); have n9_ := Am ((by rw [hg]; exact Nat.ne_of_gt (zL BK293) : gb300 ≠ gb293)); have n10_ := Am ((by rw [hg]; exact Nat.ne_of_lt (IsS72.lt (show IsS72 w0 _ g s0_0 t298 t299 from by repeat (first | (with_reducible first | exact HI0.out | apply IsS72.alloc | apply IsS72.drewN | apply IsS72.drew | apply IsS72.set_1 | apply IsS72.set_2 | apply IsS72.far (hne := NB0_293.out)) | exact HI0.out))) : g ≠ gb300)); have n11_ := Am ((by rw [hg]; exact Nat.ne_of_gt (IsS72.lt (show IsS72 w0 _ g s0_0 t298 t299 from by repeat (first | (with_reducible first | exact HI0.out | apply IsS72.alloc | apply IsS72.drewN | apply IsS72.drew | apply IsS72.set_1 | apply IsS72.set_2 | apply IsS72.far (hne := NB0_293.out)) | exact HI0.out))) : gb300 ≠ g)); clear HO297; clear HI0; clear BK293; clear HK; clear HB; have HO297 := n0_; have HI0 := n1_; have BK293 := n2_; have HK := n3_; have HB := n4_; have BK300 := n5_; have GW300 := n6_; have GE300 := n7_; have NB293_300 := n8_; have NB300_293 := n9_; have NB0_300 := n10_; have NB300_0 := n11_; clear n0_ n1_ n2_ n3_ n4_ n5_ n6_ n7_ n8_ n9_ n10_ n11_; clear hb hbox hg; have hnb61 := NB300_293.out; have hnc61 := NB293_300.out; have hnb62 := NB300_0.out; have hnc62 := NB0_300.out; obtain ⟨hcz63_0, hcz63_1⟩ := kc2 (w := w60) BK300.out; have hfz63_0 := kf BK300.out; obtain ⟨Ao64, co64, eo64⟩ := Kd.R_slice HO297.out; subst eo64) | ((with_reducible refine gate_callee (f := 49) rfl ?_); refine zC (some 7) rfl rfl Try.func49 rfl #[.pointer (some ⟨g, 0, none⟩), .int .i64 14] rfl ?_; (with_reducible refine (spec_l01Below.calls g s0_0 t298 t299 14 t301 t302 t303 w0 _ ?side1 ?side2 A3.out).mono ?_); (case side1 => repeat (first | (with_reducible first | exact HI0.out | apply IsS72.alloc | apply IsS72.drewN | apply IsS72.drew | apply IsS72.set_1 | apply IsS72.set_2 | apply IsS72.far (hne := NB0_293.out) | apply IsS72.far (hne := NB0_300.out)) | exact HI0.out)); (case side2 => repeat (first | (with_reducible first | exact HB.out | apply ba | apply bn | apply be | refine bs ?_ (IsS72.ge HI0.out) | refine bs ?_ GE293.out | refine bs ?_ GE300.out) | exact HB.out)); rintro e w65 ⟨rfl, hi, hb, hk⟩; refine ⟨_, rfl, ?_⟩; have n0_ := Am (KeepBut.blk hk (g' := gb293) (o := .cells #[.string (⟨#[]⟩ : ByteArray), .slice none 0 0] 28 (0, 0)) (by (with_reducible repeat (first | refine kn ?_ _ | refine ke ?_ | refine ka ?_ _)); refine blk_far ?_ NB293_300.out _; (with_reducible repeat (first | refine kn ?_ _ | refine ke ?_ | refine ka ?_ _)); refine blk_far ?_ NB293_300.out _; (with_reducible repeat (first | refine kn ?_ _ | refine ke ?_ | refine ka ?_ _)); exact BK293.out) NB293_0.out (by simp)); have n1_ := Am (Kd.R_mono (Kd.R_keep (IsS72.apart (show IsS72 w0 _ g s0_0 t298 t299 from by repeat (first | (with_reducible first | exact HI0.out | apply IsS72.alloc | apply IsS72.drewN | apply IsS72.drew | apply IsS72.set_1 | apply IsS72.set_2 | apply IsS72.far (hne := NB0_293.out) | apply IsS72.far (hne := NB0_300.out)) | exact HI0.out)) (by (with_reducible repeat (first | apply ra | apply rn | apply re)); exact (Kd.R_mono (Kd.R_far (p := ⟨gb300, 1, none⟩) (Kd.R_far (p := ⟨gb300, 0, none⟩) (Kd.R_types HO297.out BK300.out (by decide)) (fun _ hk => hk.2) (.string t294)) (fun _ hk => hk.2) (.slice Ao64 t295.length co64)) (fun _ h_ => h_.1))) (by decide)) hk (fun _ h => h.2)) (fun _ h => h.1)); have n2_ := Am (KeepBut.blk hk (g' := gb300) (o := .cells #[.string t294, .slice Ao64 t295.length co64] 28 (0, 0)) (by (with_reducible repeat (first | refine kn ?_ _ | refine ke ?_ | refine ka ?_ _)); refine kp (cs := #[.string t294, .slice none 0 0]) ?_ 1 _ rfl; (with_reducible repeat (first | refine kn ?_ _ | refine ke ?_ | refine ka ?_ _)); refine kp (cs := #[.string (⟨#[]⟩ : ByteArray), .slice none 0 0]) ?_ 0 _ rfl; (with_reducible repeat (first | refine kn ?_ _ | refine ke ?_ | refine ka ?_ _)); exact BK300.out) NB300_0.out (by simp)); have n3_ := Am (KeepBut.trans (by repeat (first | (with_reducible first | exact HK.out | apply KeepBut.set_ | apply keep_drewN | apply keep_drew | apply keep_alloc | refine keep_far ?_ GW293.out _ | refine keep_far ?_ GW300.out _) | exact HK.out)) hk (.inl rfl)); have n4_ := Am (hb); have n5_ := Am (hi); clear BK293; clear HO297; clear BK300; clear HK; clear HB; clear HI0; have BK293 := n0_; have HO297 := n1_; have BK300 := n2_; have HK := n3_; have HB := n4_; have HI0 := n5_; clear n0_ n1_ n2_ n3_ n4_ n5_; (try clear hb hk hi); obtain ⟨hcz66_0, hcz66_1⟩ := kc2 (w := w65) BK300.out; have hfz66_0 := kf BK300.out; have hnb67 := NB293_0.out; have hnc67 := NB0_293.out; obtain ⟨hcz68_0, hcz68_1⟩ := kc2 (w := w65) BK293.out; have hfz68_0 := kf BK293.out))
    refine bodyPost_ret (results_cell_row rfl _ _ gb293 28 #[.string t294, .slice Ao64 t295.length co64] (0, 0) _ rfl (by (with_reducible repeat (first | refine kn ?_ _ | refine ke ?_ | refine ka ?_ _)); refine kp (cs := #[.string t294, .slice none 0 0]) ?_ 1 _ rfl; (with_reducible repeat (first | refine kn ?_ _ | refine ke ?_ | refine ka ?_ _)); refine kp (cs := #[.string (⟨#[]⟩ : ByteArray), .slice none 0 0]) ?_ 0 _ rfl; (with_reducible repeat (first | refine kn ?_ _ | refine ke ?_ | refine ka ?_ _)); exact BK293.out) Try.underlying28 rfl (by kernel_rfl)) rfl ?_
    exact ⟨_, zR, by (with_reducible repeat (first | apply ra | apply rn | apply re)); exact Kd.R_mono (Kd.R_far (p := ⟨gb293, 1, none⟩) (Kd.R_far (p := ⟨gb293, 0, none⟩) (Kd.R_types HO297.out BK293.out (by decide)) (fun _ hk => hk.2) (.string t294)) (fun _ hk => hk.2) (.slice Ao64 t295.length co64)) (fun _ hk => trivial), by repeat (first | (with_reducible first | exact HI0.out | apply IsS72.alloc | apply IsS72.drewN | apply IsS72.drew | apply IsS72.set_1 | apply IsS72.set_2 | apply IsS72.far (hne := NB0_293.out) | apply IsS72.far (hne := NB0_300.out)) | exact HI0.out), by repeat (first | (with_reducible first | exact HB.out | apply ba | apply bn | apply be | refine bs ?_ (IsS72.ge HI0.out) | refine bs ?_ GE293.out | refine bs ?_ GE300.out) | exact HB.out), by repeat (first | (with_reducible first | exact HK.out | apply KeepBut.set_ | apply keep_drewN | apply keep_drew | apply keep_alloc | refine keep_far ?_ GW293.out _ | refine keep_far ?_ GW300.out _) | exact HK.out)⟩

/-! ### spec_DrawFallenMemory: function 13 -/
def spec_DrawFallenMemory.f (k : Nat) (l0 : List Int) : Option (ByteArray × (List (S49)) × Int) := (spec_l01New.f k l0).bind fun bt321 => ((spec_l10Any.f k bt321.1 bt321.2.1 bt321.2.2).bind fun bt325 => ((spec_l01PickInt.f bt321.1 bt325.2.2.1 bt325.2.2.2 (([0, 1, 2, 5, 10, 255, 9223372036854775807, (-1)] : List Int))).bind fun bt335 => (some (bt325.1, bt325.2.1, bt335.1))))
theorem spec_DrawFallenMemory.mono : ∀ a0 k, LeO (spec_DrawFallenMemory.f k a0) (spec_DrawFallenMemory.f (k + 1) a0) := by
 intro a0 k
 unfold spec_DrawFallenMemory.f
 repeat' first
   | (with_reducible exact spec_l01New.mono _ _)
   | (with_reducible exact spec_l10Any.mono _ _ _ _)
   | (with_reducible exact LeO.refl _)
   | (with_reducible exact LeO.none _)
   | (with_reducible refine LeO.ite ?_ ?_)
   | (with_reducible refine LeO.bind ?_ (fun _ => ?_))
   | exact spec_l01New.mono _ _
   | exact spec_l10Any.mono _ _ _ _
   | exact LeO.none _
   | refine LeO.ite ?_ ?_
   | refine LeO.bind ?_ (fun _ => ?_)
set_option maxHeartbeats 8000000 in
set_option maxRecDepth 100000 in
theorem spec_DrawFallenMemory.calls (k : Nat) (A0 : Option Addr) (c0 : Nat) (l0 : List Int) (r1 : ByteArray) (r2 : List (S49)) (r3 : Int) (w : World) (hr0 : Kd.C (Kd.int .u8) w A0 l0.length l0) (hc0 : l0.length ≤ c0) (h : spec_DrawFallenMemory.f k l0 = some (r1, r2, r3)) :
  Calls Try.prog 13 #[.slice A0 l0.length c0] w fun e w' => ∃ v1_ : Value, e = .returned (.tuple #[.agg #[.string r1, v1_], .int .i64 r3]) ∧ Kd.R k49 49 w' w.heap.size (fun _ => True) v1_ r2 ∧ Below w.heap.size w w' := by
 have hu28 := Try.underlying28
 have HR0 := Am hr0
 have HC0 := Am hc0
 clear hr0 hc0
 have HB := Am (Below.refl w.heap.size w)
 have H : ((spec_l01New.f k l0).bind fun bt321 => ((spec_l10Any.f k bt321.1 bt321.2.1 bt321.2.2).bind fun bt325 => ((spec_l01PickInt.f bt321.1 bt325.2.2.1 bt325.2.2.2 (([0, 1, 2, 5, 10, 255, 9223372036854775807, (-1)] : List Int))).bind fun bt335 => (some (bt325.1, bt325.2.1, bt335.1))))) = some (r1, r2, r3) := h
 clear h
 replace H := Option.bind_eq_some_iff.mp H
 obtain ⟨⟨t321, t322, t323⟩, A20, H⟩ := H
 replace H : ((spec_l10Any.f k t321 t322 t323).bind fun bt325 => ((spec_l01PickInt.f t321 bt325.2.2.1 bt325.2.2.2 (([0, 1, 2, 5, 10, 255, 9223372036854775807, (-1)] : List Int))).bind fun bt335 => (some (bt325.1, bt325.2.1, bt335.1)))) = some (r1, r2, r3) := H
 have A2 := Am A20
 clear A20
 replace H := Option.bind_eq_some_iff.mp H
 obtain ⟨⟨t325, t326, t329, t330⟩, A30, H⟩ := H
 replace H : ((spec_l01PickInt.f t321 t329 t330 (([0, 1, 2, 5, 10, 255, 9223372036854775807, (-1)] : List Int))).bind fun bt335 => (some (t325, t326, bt335.1))) = some (r1, r2, r3) := H
 have A3 := Am A30
 clear A30
 obtain ⟨y332, hy332⟩ : ∃ y_ : List Int, y_ = (([0, 1, 2, 5, 10, 255, 9223372036854775807, (-1)] : List Int)) := ⟨_, rfl⟩
 replace H : ((spec_l01PickInt.f t321 t329 t330 y332).bind fun bt335 => (some (t325, t326, bt335.1))) = some (r1, r2, r3) := by first | (rw [hy332]; with_reducible exact H) | (have H2_ := (Option.bind_some _ _).symm.trans H; rw [hy332]; with_reducible exact H2_) | (have H2_ := (Option.bind_some _ _).symm.trans H; with_reducible exact H2_) | with_reducible exact H | (rw [hy332]; exact H) | exact H
 have Ny332 := Am hy332
 clear hy332
 replace H := Option.bind_eq_some_iff.mp H
 obtain ⟨⟨t335, t336, t337⟩, A40, H⟩ := H
 replace H : (some (t325, t326, t335)) = some (r1, r2, r3) := H
 have A4 := Am A40
 clear A40
 simp only [Option.some.injEq, Prod.mk.injEq] at H
 obtain ⟨rfl, rfl, rfl⟩ := H
 go_enter Try.func13, Try.ntmps13
 try go_wp2_with (first | ((with_reducible refine gate_dst (N := 2) rfl ?_); refine box_event ?hg (N := 2) ?hd (cs := #[.string (⟨#[]⟩ : ByteArray), .slice none 0 0]) (t := 28) ?hr ?_; (case hd => rfl); (case hg => rfl); (case hr => first | (go_simp; done) | (go_simp; rfl)); intro gb320 hg w5 hbox hb; have BK320 := Am (hbox); have GW320 := Am ((by rw [hg]; exact (bz zB) : w.heap.size ≤ gb320)); have GE320 := Am ((by rw [hg]; exact (bz zB) : w.heap.size ≤ gb320)); replace HB := Am (bq zB hb); clear hb hbox hg) | ((with_reducible refine gate_callee (f := 31) rfl ?_); refine zC (some 7) rfl rfl Try.func31 rfl #[.slice A0 l0.length c0] rfl ?_; (with_reducible refine (spec_l01New.calls k _ _ l0 t321 t322 t323 w _ ?side1 ?side2 ?side3 A2.out).mono ?_); (case side1 => repeat (first | (with_reducible first | exact HB.out | apply ba | apply bn | apply be | refine bs ?_ GE320.out) | exact HB.out)); (case side2 => exact HR0.out); (case side3 => exact HC0.out); rintro e w6 ⟨g324, rfl, hi, hb, hb2⟩; refine ⟨_, rfl, ?_⟩; have n0_ := Am (zK BK320 hb2); have n1_ := Am (hb); have n2_ := Am (hi); have n3_ := Am (IsS72.ne_blk hi (zK BK320 hb2) (by decide)); have n4_ := Am (Ne.symm (IsS72.ne_blk hi (zK BK320 hb2) (by decide))); clear BK320; clear HB; have BK320 := n0_; have HB := n1_; have HI324 := n2_; have NB324_320 := n3_; have NB320_324 := n4_; clear n0_ n1_ n2_ n3_ n4_; (try clear hb hb2 hi)) | ((with_reducible refine gate_callee (f := 32) rfl ?_); refine zC (some 9) rfl rfl Try.func32 rfl #[.pointer (some ⟨g324, 0, none⟩)] rfl ?_; (with_reducible refine (spec_l10Any.calls k g324 t321 t322 t323 t325 t326 t329 t330 w _ ?side1 ?side2 A3.out).mono ?_); (case side1 => repeat (first | (with_reducible first | exact HI324.out | apply IsS72.alloc | apply IsS72.drewN | apply IsS72.drew | apply IsS72.set_1 | apply IsS72.set_2 | apply IsS72.far (hne := NB324_320.out)) | exact HI324.out)); (case side2 => repeat (first | (with_reducible first | exact HB.out | apply ba | apply bn | apply be | refine bs ?_ (IsS72.ge HI324.out) | refine bs ?_ GE320.out) | exact HB.out)); rintro e w7 ⟨v327, rfl, ho0, hi, hb, hk⟩; refine ⟨_, rfl, ?_⟩; have n0_ := Am (KeepBut.blk hk (g' := gb320) (o := .cells #[.string (⟨#[]⟩ : ByteArray), .slice none 0 0] 28 (0, 0)) (by (with_reducible repeat (first | refine kn ?_ _ | refine ke ?_ | refine ka ?_ _)); exact BK320.out) NB320_324.out (by simp)); have n1_ := Am (Kd.R_lower ho0 (bz (by repeat (first | (with_reducible first | exact HB.out | apply ba | apply bn | apply be | refine bs ?_ (IsS72.ge HI324.out) | refine bs ?_ GE320.out) | exact HB.out)))); have n2_ := Am (hb); have n3_ := Am (hi); clear BK320; clear HB; clear HI324; have BK320 := n0_; have HO328 := n1_; have HB := n2_; have HI324 := n3_; clear n0_ n1_ n2_ n3_; (try clear hb hk hi ho0)) | ((with_reducible refine gate_dst (N := 5) rfl ?_); refine box_event ?hg (N := 5) ?hd (cs := #[.string (⟨#[]⟩ : ByteArray), .slice none 0 0]) (t := 28) ?hr ?_; (case hd => rfl); (case hg => rfl); (case hr => first | (go_simp; done) | (go_simp; rfl)); intro gb331 hg w8 hbox hb; have n0_ := Am (rb (by (with_reducible repeat (first | apply ra | apply rn | apply re)); exact HO328.out) hb); have n1_ := Am (zK BK320 hb); have n2_ := Am (IsS72.below (by repeat (first | (with_reducible first | exact HI324.out | apply IsS72.alloc | apply IsS72.drewN | apply IsS72.drew | apply IsS72.set_1 | apply IsS72.set_2 | apply IsS72.far (hne := NB324_320.out)) | exact HI324.out)) hb); have n3_ := Am (bq (by repeat (first | (with_reducible first | exact HB.out | apply ba | apply bn | apply be | refine bs ?_ (IsS72.ge HI324.out) | refine bs ?_ GE320.out) | exact HB.out)) hb); have n4_ := Am (hbox); have n5_ := Am ((by rw [hg]; exact (bz (by repeat (first | (with_reducible first | exact HB.out | apply ba | apply bn | apply be | refine bs ?_ (IsS72.ge HI324.out) | refine bs ?_ GE320.out) | exact HB.out))) : w.heap.size ≤ gb331)); have n6_ := Am ((by rw [hg]; exact (bz (by repeat (first | (with_reducible first | exact HB.out | apply ba | apply bn | apply be | refine bs ?_ (IsS72.ge HI324.out) | refine bs ?_ GE320.out) | exact HB.out))) : w.heap.size ≤ gb331)); have n7_ := Am ((by rw [hg]; exact Nat.ne_of_lt (zL BK320) : gb320 ≠ gb331)); have n8_ := Am ((by rw [hg]; exact Nat.ne_of_gt (zL BK320) : gb331 ≠ gb320)); have n9_ := Am ((by rw [hg]; exact Nat.ne_of_lt (IsS72.lt (show IsS72 w _ g324 t321 t329 t330 from by repeat (first | (with_reducible first | exact HI324.out | apply IsS72.alloc | apply IsS72.drewN | apply IsS72.drew | apply IsS72.set_1 | apply IsS72.set_2 | apply IsS72.far (hne := NB324_320.out)) | exact HI324.out))) : g324 ≠ gb331)); have n10_ := Am ((by rw [hg]; exact Nat.ne_of_gt (IsS72.lt (show IsS72 w _ g324 t321 t329 t330 from by repeat (first | (with_reducible first | exact HI324.out | apply IsS72.alloc | apply IsS72.drewN | apply IsS72.drew | apply IsS72.set_1 | apply IsS72.set_2 | apply IsS72.far (hne := NB324_320.out)) | exact HI324.out))) : gb331 ≠ g324)); clear HO328; clear BK320; clear HI324; clear HB; have HO328 := n0_; have BK320 := n1_; have HI324 := n2_; have HB := n3_; have BK331 := n4_; have GW331 := n5_; have GE331 := n6_; have NB320_331 := n7_; have NB331_320 := n8_; have NB324_331 := n9_; have NB331_324 := n10_; clear n0_ n1_ n2_ n3_ n4_ n5_ n6_ n7_ n8_ n9_ n10_; clear hb hbox hg; have hnb9 := NB331_320.out; have hnc9 := NB320_331.out; have hnb10 := NB331_324.out; have hnc10 := NB324_331.out; obtain ⟨hcz11_0, hcz11_1⟩ := kc2 (w := w8) BK331.out; have hfz11_0 := kf BK331.out; obtain ⟨Ao12, co12, eo12⟩ := Kd.R_slice HO328.out; subst eo12))
 have n0_ : Aside0 (Kd.R k49 49 ((w8.setCell ⟨gb331, 0, none⟩ (.string t325)).setCell ⟨gb331, 1, none⟩ (.slice Ao12 t326.length co12)) w.heap.size (fun _ => True) (.slice Ao12 t326.length co12) t326) := ⟨by (with_reducible repeat (first | apply ra | apply rn | apply re)); exact Kd.R_mono (Kd.R_far (p := ⟨gb331, 1, none⟩) (Kd.R_far (p := ⟨gb331, 0, none⟩) (Kd.R_types HO328.out BK331.out (by decide)) (fun _ hk => hk.2) (.string t325)) (fun _ hk => hk.2) (.slice Ao12 t326.length co12)) (fun _ hk => trivial)⟩
 have n1_ : Aside0 (((w8.setCell ⟨gb331, 0, none⟩ (.string t325)).setCell ⟨gb331, 1, none⟩ (.slice Ao12 t326.length co12)).heap[gb320]? = some (.cells #[.string (⟨#[]⟩ : ByteArray), .slice none 0 0] 28 (0, 0))) := ⟨by (with_reducible repeat (first | refine kn ?_ _ | refine ke ?_ | refine ka ?_ _)); refine blk_far ?_ NB320_331.out _; (with_reducible repeat (first | refine kn ?_ _ | refine ke ?_ | refine ka ?_ _)); refine blk_far ?_ NB320_331.out _; (with_reducible repeat (first | refine kn ?_ _ | refine ke ?_ | refine ka ?_ _)); exact BK320.out⟩
 have n2_ : Aside0 (((w8.setCell ⟨gb331, 0, none⟩ (.string t325)).setCell ⟨gb331, 1, none⟩ (.slice Ao12 t326.length co12)).heap[gb331]? = some (.cells #[.string t325, .slice Ao12 t326.length co12] 28 (0, 0))) := ⟨by (with_reducible repeat (first | refine kn ?_ _ | refine ke ?_ | refine ka ?_ _)); refine kp (cs := #[.string t325, .slice none 0 0]) ?_ 1 _ rfl; (with_reducible repeat (first | refine kn ?_ _ | refine ke ?_ | refine ka ?_ _)); refine kp (cs := #[.string (⟨#[]⟩ : ByteArray), .slice none 0 0]) ?_ 0 _ rfl; (with_reducible repeat (first | refine kn ?_ _ | refine ke ?_ | refine ka ?_ _)); exact BK331.out⟩
 have n3_ : Aside0 (IsS72 w ((w8.setCell ⟨gb331, 0, none⟩ (.string t325)).setCell ⟨gb331, 1, none⟩ (.slice Ao12 t326.length co12)) g324 t321 t329 t330) := ⟨by repeat (first | (with_reducible first | exact HI324.out | apply IsS72.alloc | apply IsS72.drewN | apply IsS72.drew | apply IsS72.set_1 | apply IsS72.set_2 | apply IsS72.far (hne := NB324_320.out) | apply IsS72.far (hne := NB324_331.out)) | exact HI324.out)⟩
 have n4_ : Aside0 (Below w.heap.size w ((w8.setCell ⟨gb331, 0, none⟩ (.string t325)).setCell ⟨gb331, 1, none⟩ (.slice Ao12 t326.length co12))) := ⟨by repeat (first | (with_reducible first | exact HB.out | apply ba | apply bn | apply be | refine bs ?_ (IsS72.ge HI324.out) | refine bs ?_ GE320.out | refine bs ?_ GE331.out) | exact HB.out)⟩
 (try clear HO328)
 (try clear BK320)
 (try clear BK331)
 (try clear HI324)
 (try clear HB)
 generalize ((w8.setCell ⟨gb331, 0, none⟩ (.string t325)).setCell ⟨gb331, 1, none⟩ (.slice Ao12 t326.length co12)) = w13 at n0_ n1_ n2_ n3_ n4_ ⊢
 have HO328 := n0_
 have BK320 := n1_
 have BK331 := n2_
 have HI324 := n3_
 have HB := n4_
 clear n0_ n1_ n2_ n3_ n4_
 have n0_ := Am (re HO328.out)
 have n1_ := Am (ke BK320.out)
 have n2_ := Am (ke BK331.out)
 have n3_ := Am (IsS72.drew HI324.out)
 have n4_ := Am (be HB.out)
 clear HO328
 clear BK320
 clear BK331
 clear HI324
 clear HB
 have HO328 := n0_
 have BK320 := n1_
 have BK331 := n2_
 have HI324 := n3_
 have HB := n4_
 clear n0_ n1_ n2_ n3_ n4_
 refine start_ (n := 6) (S := fun w' => w'.cell? ⟨gb331, 0, none⟩ = some (.string t325) ∧ w'.cell? ⟨gb331, 1, none⟩ = some (.slice Ao12 t326.length co12)) (ds := []) #[false, false, false, false, false, false] (by kernel_rfl) rfl rfl ⟨(kc BK331.out 0).trans rfl, (kc BK331.out 1).trans rfl⟩ (fun hHeld => ?_)
 generalize w13.drew = w14 at HO328 BK320 BK331 HI324 HB hHeld ⊢
 refine yA 1 (some 11) rfl rfl ?_
 refine yT 0 (some 10) rfl rfl hHeld ?_
 refine yO 2 (some 12) rfl rfl (fun K hK => ?_)
 refine Kd.R_lit_step (Kd.int .i64) _ 3 ?hg (N := 12) ?hd (xs := ([0, 1, 2, 5, 10, 255, 9223372036854775807, (-1)] : List Int)) (inner := [.int .i64 0, .int .i64 1, .int .i64 2, .int .i64 5, .int .i64 10, .int .i64 255, .int .i64 9223372036854775807, .int .i64 (-1)]) (ok := fun _ => True) (okp := fun _ => True) ?hr ?hp (fun _ hk => hk) trivial (Below.refl _ _) (Nat.le_refl _) (by simp) ?_; (case hd => rfl); (case hg => rfl); (case hr => first | (go_simp; done) | (go_simp; rfl)); (case hp => exact (Reps.one (show Kd.M (Kd.int .i64) _ _ _ 0 [.int .i64 0] from rfl) (Reps.one (show Kd.M (Kd.int .i64) _ _ _ 1 [.int .i64 1] from rfl) (Reps.one (show Kd.M (Kd.int .i64) _ _ _ 2 [.int .i64 2] from rfl) (Reps.one (show Kd.M (Kd.int .i64) _ _ _ 5 [.int .i64 5] from rfl) (Reps.one (show Kd.M (Kd.int .i64) _ _ _ 10 [.int .i64 10] from rfl) (Reps.one (show Kd.M (Kd.int .i64) _ _ _ 255 [.int .i64 255] from rfl) (Reps.one (show Kd.M (Kd.int .i64) _ _ _ 9223372036854775807 [.int .i64 9223372036854775807] from rfl) (Reps.one (show Kd.M (Kd.int .i64) _ _ _ (-1) [.int .i64 (-1)] from rfl) (Reps.none _ _))))))))))
 intro v333 w15 ho16 hb hg_ hnew_
 clear hg_ hnew_
 (first | rw [← Ny332.out] at ho16 | (simp only [Int.reduceToNat] at ho16; rw [← Ny332.out] at ho16))
 have n0_ := Am (rb (by (with_reducible repeat (first | apply ra | apply rn | apply re)); exact HO328.out) hb)
 have n1_ := Am (Kd.R_lower ho16 (bz (by repeat (first | (with_reducible first | exact HB.out | apply ba | apply bn | apply be | refine bs ?_ (IsS72.ge HI324.out) | refine bs ?_ GE320.out | refine bs ?_ GE331.out) | exact HB.out))))
 have n2_ := Am (zK BK320 hb)
 have n3_ := Am (IsS72.below (by repeat (first | (with_reducible first | exact HI324.out | apply IsS72.alloc | apply IsS72.drewN | apply IsS72.drew | apply IsS72.set_1 | apply IsS72.set_2 | apply IsS72.far (hne := NB324_320.out) | apply IsS72.far (hne := NB324_331.out)) | exact HI324.out)) hb)
 have n4_ := Am (zK BK331 hb)
 have n5_ := Am (bq (by repeat (first | (with_reducible first | exact HB.out | apply ba | apply bn | apply be | refine bs ?_ (IsS72.ge HI324.out) | refine bs ?_ GE320.out | refine bs ?_ GE331.out) | exact HB.out)) hb)
 clear HO328
 clear BK320
 clear HI324
 clear BK331
 clear HB
 have HO328 := n0_
 have HO334 := n1_
 have BK320 := n2_
 have HI324 := n3_
 have BK331 := n4_
 have HB := n5_
 clear n0_ n1_ n2_ n3_ n4_ n5_
 clear hb ho16
 obtain ⟨Ao17, co17, eo17⟩ := Kd.R_slice HO334.out
 (first | subst eo17 | (injection eo17 with f1_ f2_ f3_; have f4_ := f1_.symm; have f5_ := f3_.symm; clear f1_ f2_ f3_; subst f4_; subst f5_))
 refine hK.out _ _ ⟨(kc BK331.out 0).trans rfl, (kc BK331.out 1).trans rfl⟩ (fun hHeld => ?_)
 clear hK K
 refine zN (some 12) ?_
 refine yO 3 (some 13) rfl rfl (fun K hK => ?_)
 refine goes_ Try.func33 (by kernel_rfl) rfl #[.pointer (some ⟨g324, 0, none⟩), .slice Ao17 y332.length co17] (by rfl) rfl rfl (by (try simp only [List.map_toArray, List.map_cons, List.map_nil]); first | done | rfl | (simp only [List.length_drop, List.length_take]; rfl)) ?_
 with_reducible refine (spec_l01PickInt.calls g324 t321 t329 t330 _ _ y332 t335 t336 t337 w _ ?side1 ?side2 ?side3 ?side4 ?side5 A4.out).mono ?_
 (case side1 => repeat (first | (with_reducible first | exact HI324.out | apply IsS72.alloc | apply IsS72.drewN | apply IsS72.drew | apply IsS72.set_1 | apply IsS72.set_2 | apply IsS72.far (hne := NB324_320.out) | apply IsS72.far (hne := NB324_331.out)) | exact HI324.out))
 (case side2 => repeat (first | (with_reducible first | exact HB.out | apply ba | apply bn | apply be | refine bs ?_ (IsS72.ge HI324.out) | refine bs ?_ GE320.out | refine bs ?_ GE331.out) | exact HB.out))
 (case side3 => repeat (first | exact (Kd.R_reads' HO334.out).2.2 | (with_reducible first | refine ca ?_ _ | refine cn ?_ _ | refine ce ?_)))
 (case side4 => exact (Kd.R_reads' HO334.out).2.1)
 (case side5 => exact far_slice (IsS72.own_ne HI324.out HO334.out (by decide)))
 rintro e w18 ⟨rfl, hi, hb, hk⟩
 refine ⟨_, rfl, ?_⟩
 have n0_ := Am (KeepBut.blk hk (g' := gb320) (o := .cells #[.string (⟨#[]⟩ : ByteArray), .slice none 0 0] 28 (0, 0)) (by (with_reducible repeat (first | refine kn ?_ _ | refine ke ?_ | refine ka ?_ _)); exact BK320.out) NB320_324.out (by simp))
 have n1_ := Am (Kd.R_mono (Kd.R_keep (IsS72.apart (show IsS72 w _ g324 t321 t329 t330 from by repeat (first | (with_reducible first | exact HI324.out | apply IsS72.alloc | apply IsS72.drewN | apply IsS72.drew | apply IsS72.set_1 | apply IsS72.set_2 | apply IsS72.far (hne := NB324_320.out) | apply IsS72.far (hne := NB324_331.out)) | exact HI324.out)) (by (with_reducible repeat (first | apply ra | apply rn | apply re)); exact HO328.out) (by decide)) hk (fun _ h => h.2)) (fun _ h => h.1))
 have n2_ := Am (KeepBut.blk hk (g' := gb331) (o := .cells #[.string t325, .slice Ao12 t326.length co12] 28 (0, 0)) (by (with_reducible repeat (first | refine kn ?_ _ | refine ke ?_ | refine ka ?_ _)); exact BK331.out) NB331_324.out (by simp))
 have n3_ := Am (Kd.R_mono (Kd.R_keep (IsS72.apart (show IsS72 w _ g324 t321 t329 t330 from by repeat (first | (with_reducible first | exact HI324.out | apply IsS72.alloc | apply IsS72.drewN | apply IsS72.drew | apply IsS72.set_1 | apply IsS72.set_2 | apply IsS72.far (hne := NB324_320.out) | apply IsS72.far (hne := NB324_331.out)) | exact HI324.out)) (by (with_reducible repeat (first | apply ra | apply rn | apply re)); exact HO334.out) (by decide)) hk (fun _ h => h.2)) (fun _ h => h.1))
 have n4_ := Am (hb)
 have n5_ := Am (hi)
 clear BK320
 clear HO328
 clear BK331
 clear HO334
 clear HB
 clear HI324
 have BK320 := n0_
 have HO328 := n1_
 have BK331 := n2_
 have HO334 := n3_
 have HB := n4_
 have HI324 := n5_
 clear n0_ n1_ n2_ n3_ n4_ n5_
 (try clear hb)
 (try clear hb2)
 (try clear hk)
 (try clear hi)
 refine hK.out _ _ ⟨(kc BK331.out 0).trans rfl, (kc BK331.out 1).trans rfl⟩ (fun hHeld => ?_)
 clear hK K
 refine zN (some 13) ?_
 refine yO 4 none rfl rfl (fun K hK => ?_)
 have hs19 : w18.cell? ⟨gb320, 0, none⟩ = some (.string (⟨#[]⟩ : ByteArray)) := (kc BK320.out 0).trans rfl
 have hfs19 := kf BK320.out 0
 have hns19_1 := NB331_320.out
 have hms19_1 := NB320_331.out
 have hs20 : w18.cell? ⟨gb320, 1, none⟩ = some (.slice none 0 0) := (kc BK320.out 1).trans rfl
 have hfs20 := kf BK320.out 1
 have hns20_1 := NB331_320.out
 have hms20_1 := NB320_331.out
 refine skip_ (w1 := ?_) (by rfl) rfl ?_ ?_
 rotate_left
 ·go_simp
  rfl
 refine hK.out _ _ ⟨((cell_far (p := ⟨gb320, _, none⟩) NB331_320.out _).trans (((cell_far (p := ⟨gb320, _, none⟩) NB331_320.out _).trans (hHeld.1)))), ((cell_far (p := ⟨gb320, _, none⟩) NB331_320.out _).trans (((cell_far (p := ⟨gb320, _, none⟩) NB331_320.out _).trans (hHeld.2))))⟩ (fun hHeld => ?_)
 clear hK K
 refine yA 5 (some 3) rfl rfl ?_
 refine done_ (by kernel_rfl) ?_
 try go_wp2
 refine bodyPost_ret (results_ct rfl _ _ gb320 28 #[.string t325, .slice Ao12 t326.length co12] (0, 0) _ rfl (by (with_reducible repeat (first | refine kn ?_ _ | refine ke ?_ | refine ka ?_ _)); refine kp (cs := #[.string t325, .slice none 0 0]) ?_ 1 _ rfl; (with_reducible repeat (first | refine kn ?_ _ | refine ke ?_ | refine ka ?_ _)); refine kp (cs := #[.string (⟨#[]⟩ : ByteArray), .slice none 0 0]) ?_ 0 _ rfl; (with_reducible repeat (first | refine kn ?_ _ | refine ke ?_ | refine ka ?_ _)); exact BK320.out) Try.underlying28 rfl (by kernel_rfl)) rfl ?_
 exact ⟨_, zR, by (with_reducible repeat (first | apply ra | apply rn | apply re)); exact Kd.R_mono (Kd.R_far (p := ⟨gb320, 1, none⟩) (Kd.R_far (p := ⟨gb320, 0, none⟩) (Kd.R_types HO328.out BK320.out (by decide)) (fun _ hk => hk.2) (.string t325)) (fun _ hk => hk.2) (.slice Ao12 t326.length co12)) (fun _ hk => trivial), by repeat (first | (with_reducible first | exact HB.out | apply ba | apply bn | apply be | refine bs ?_ (IsS72.ge HI324.out) | refine bs ?_ GE320.out | refine bs ?_ GE331.out) | exact HB.out)⟩

/-! ### laws_sameCells: function 34 -/
def laws_sameCells.l0 : Nat → List (S49) → List (S49) → Int → Option (Bool)
 | 0, _, _, _ => none
 | k + 1, x0, x1, x5 => if x5 < (x0.length : Int) then (if 0 ≤ x5 then (if x5 < (x1.length : Int) then (if (!(((rd_T49 x0 x5).f0) == ((rd_T49 x1 x5).f0)) || (!((((rd_T49 x0 x5).f1).toList) == (((rd_T49 x1 x5).f1).toList)) || (!(((rd_T49 x0 x5).f2) == ((rd_T49 x1 x5).f2))))) = true then (some false) else (laws_sameCells.l0 k x0 x1 (wrap64 (x5 + 1)))) else (none)) else (none)) else (some true)
def laws_sameCells.f (k : Nat) (l0 : List (S49)) (l1 : List (S49)) : Option (Bool) := if (l0.length : Int) = (l1.length : Int) then (laws_sameCells.l0 k l0 l1 0) else (some false)
theorem laws_sameCells.mono_l : ∀ k, (∀ y0 y1 y2, LeO (laws_sameCells.l0 k y0 y1 y2) (laws_sameCells.l0 (k + 1) y0 y1 y2))
 | 0 => fun _ _ _ r h => by simp [laws_sameCells.l0] at h
 | k + 1 => by
  have ih0 := laws_sameCells.mono_l k
  ·intro y0 y1 y2
   unfold laws_sameCells.l0
   repeat' first
   | (with_reducible exact ih0 _ _ _)
   | (with_reducible exact LeO.refl _)
   | (with_reducible exact LeO.none _)
   | (with_reducible refine LeO.ite ?_ ?_)
   | (with_reducible refine LeO.bind ?_ (fun _ => ?_))
   | exact ih0 _ _ _
   | exact LeO.none _
   | refine LeO.ite ?_ ?_
   | refine LeO.bind ?_ (fun _ => ?_)
theorem laws_sameCells.mono : ∀ a0 a1 k, LeO (laws_sameCells.f k a0 a1) (laws_sameCells.f (k + 1) a0 a1) := by
 intro a0 a1 k
 have ih0 := laws_sameCells.mono_l k
 unfold laws_sameCells.f
 repeat' first
   | (with_reducible exact ih0 _ _ _)
   | (with_reducible exact LeO.refl _)
   | (with_reducible exact LeO.none _)
   | (with_reducible refine LeO.ite ?_ ?_)
   | (with_reducible refine LeO.bind ?_ (fun _ => ?_))
   | exact ih0 _ _ _
   | exact LeO.none _
   | refine LeO.ite ?_ ?_
   | refine LeO.bind ?_ (fun _ => ?_)
set_option maxHeartbeats 8000000 in
set_option maxRecDepth 100000 in
theorem laws_sameCells.calls (k : Nat) (A0 : Option Addr) (c0 : Nat) (l0 : List (S49)) (A1 : Option Addr) (c1 : Nat) (l1 : List (S49)) (r : Bool) (w : World) (hr0 : Kd.C k49 w A0 l0.length l0) (hc0 : l0.length ≤ c0) (hr1 : Kd.C k49 w A1 l1.length l1) (hc1 : l1.length ≤ c1) (h : laws_sameCells.f k l0 l1 = some r) :
  Calls Try.prog 34 #[.slice A0 l0.length c0, .slice A1 l1.length c1] w fun e w' => e = .returned (.bool r) ∧ Drawn0 w w' := by
 have hu49 := Try.underlying49
 have HR0 := Am hr0
 have HC0 := Am hc0
 clear hr0 hc0
 have HR1 := Am hr1
 have HC1 := Am hc1
 clear hr1 hc1
 have H : (if (l0.length : Int) = (l1.length : Int) then (laws_sameCells.l0 k l0 l1 0) else (some false)) = some r := h
 clear h
 by_cases c3 : (l0.length : Int) = (l1.length : Int)
 ·rw [if_pos c3] at H
  have c3b0 : ((l0.length : Int) == (l1.length : Int)) = true := beq_iff_eq.mpr c3
  have c3b1 : ((l0.length : Int) != (l1.length : Int)) = false := bne_eq_false_iff_eq.mpr c3
  have c3b2 : (l0.length == l1.length) = true := by first | simpa using c3 | (simp at c3 ⊢; omega)
  clear c3
  have H' := Am H
  clear H
  go_enter Try.func34, Try.ntmps34
  go_wp2
  repeat (go_quiet (fail); try go_wp2)
  go_loopg [5] k (fun kq v5 w' => ∃ (x5_1 : Int), v5 = .int .i64 x5_1 ∧ Aside0 (laws_sameCells.l0 kq l0 l1 x5_1 = some r) ∧ Aside0 (kq ≤ k) ∧ Drawn0 w w')
  case atStart => exact ⟨(0), (by first | rfl | (simp; done) | (simp [*]; done)), H', ⟨Nat.le_refl _⟩, by repeat (first | exact Drawn0.refl _ | apply Drawn0.step)⟩
  case round =>
   clear H'
   try clear c1; try clear p2; try clear c3; try clear c3b0; try clear c3b1; try clear c3b2
   obtain ⟨x5_1, rfl, HA, HK1, ⟨m1, rfl⟩⟩ := hrel
   cases gk with
   | zero => exact absurd HA.out (by simp [laws_sameCells.l0])
   | succ k1 =>
    have H := HA.out
    clear HA
    simp only [laws_sameCells.l0] at H
    by_cases c4 : x5_1 < (l0.length : Int)
    ·rw [if_pos c4] at H
     have c4b0 : decide (x5_1 < (l0.length : Int)) = true := decide_eq_true c4
     clear c4
     by_cases c5 : 0 ≤ x5_1
     ·rw [if_pos c5] at H
      have c5b0 : decide (0 ≤ x5_1) = true := decide_eq_true c5
      clear c5
      by_cases c6 : x5_1 < (l1.length : Int)
      ·rw [if_pos c6] at H
       have c6b0 : decide (x5_1 < (l1.length : Int)) = true := decide_eq_true c6
       clear c6
       by_cases c7 : (!(((rd_T49 l0 x5_1).f0) == ((rd_T49 l1 x5_1).f0)) || (!((((rd_T49 l0 x5_1).f1).toList) == (((rd_T49 l1 x5_1).f1).toList)) || (!(((rd_T49 l0 x5_1).f2) == ((rd_T49 l1 x5_1).f2))))) = true
       ·rw [if_pos c7] at H
        have c7b0 : (!(((rd_T49 l0 x5_1).f0) == ((rd_T49 l1 x5_1).f0)) || (!((((rd_T49 l0 x5_1).f1).toList) == (((rd_T49 l1 x5_1).f1).toList)) || (!(((rd_T49 l0 x5_1).f2) == ((rd_T49 l1 x5_1).f2))))) = true := c7
        clear c7
        obtain rfl := Option.some.inj H
        have p338 : 0 ≤ (x5_1 : Int) := of_decide_eq_true (by first | (with_reducible assumption) | assumption)
        have q338 : x5_1 < (l0.length : Int) := of_decide_eq_true (by first | (with_reducible assumption) | assumption)
        obtain ⟨ad338, e338, hx338_0, hx338_1, hx338_2⟩ := at_T49 HR0.out x5_1 p338 q338
        cases e338
        replace p338 := eq_true p338
        replace q338 := eq_true q338
        have p339 : 0 ≤ (x5_1 : Int) := of_decide_eq_true (by first | (with_reducible assumption) | assumption)
        have q339 : x5_1 < (l1.length : Int) := of_decide_eq_true (by first | (with_reducible assumption) | assumption)
        obtain ⟨ad339, e339, hx339_0, hx339_1, hx339_2⟩ := at_T49 HR1.out x5_1 p339 q339
        cases e339
        replace p339 := eq_true p339
        replace q339 := eq_true q339
        go_wp2
        repeat (go_quiet (fail); try go_wp2)
        go_ret
        exact ⟨by first | rfl | (simp; done) | (simp [*]; done), by repeat (first | exact Drawn0.refl _ | apply Drawn0.step)⟩
       ·rw [if_neg c7] at H
        have c7b0 : (!(((rd_T49 l0 x5_1).f0) == ((rd_T49 l1 x5_1).f0)) || (!((((rd_T49 l0 x5_1).f1).toList) == (((rd_T49 l1 x5_1).f1).toList)) || (!(((rd_T49 l0 x5_1).f2) == ((rd_T49 l1 x5_1).f2))))) = false := by simpa using c7
        clear c7
        have H' := Am H
        clear H
        have p338 : 0 ≤ (x5_1 : Int) := of_decide_eq_true (by first | (with_reducible assumption) | assumption)
        have q338 : x5_1 < (l0.length : Int) := of_decide_eq_true (by first | (with_reducible assumption) | assumption)
        obtain ⟨ad338, e338, hx338_0, hx338_1, hx338_2⟩ := at_T49 HR0.out x5_1 p338 q338
        cases e338
        replace p338 := eq_true p338
        replace q338 := eq_true q338
        have p339 : 0 ≤ (x5_1 : Int) := of_decide_eq_true (by first | (with_reducible assumption) | assumption)
        have q339 : x5_1 < (l1.length : Int) := of_decide_eq_true (by first | (with_reducible assumption) | assumption)
        obtain ⟨ad339, e339, hx339_0, hx339_1, hx339_2⟩ := at_T49 HR1.out x5_1 p339 q339
        cases e339
        replace p339 := eq_true p339
        replace q339 := eq_true q339
        go_wp2
        repeat (go_quiet (fail); try go_wp2)
        go_roundg k1
        case measure => have := HK1.out; omega
        case rel => exact ⟨(wrap64 (x5_1 + 1)), (by first | rfl | (simp; done) | (simp [*]; done)), H', ⟨by have := HK1.out; omega⟩, by repeat (first | exact Drawn0.refl _ | apply Drawn0.step)⟩
      ·rw [if_neg c6] at H
       exact absurd H (by simp)
     ·rw [if_neg c5] at H
      exact absurd H (by simp)
    ·rw [if_neg c4] at H
     have c4b0 : decide (x5_1 < (l0.length : Int)) = false := decide_eq_false c4
     clear c4
     obtain rfl := Option.some.inj H
     go_wp2
     repeat (go_quiet (fail); try go_wp2)
     go_ret
     exact ⟨by first | rfl | (simp; done) | (simp [*]; done), by repeat (first | exact Drawn0.refl _ | apply Drawn0.step)⟩
 ·rw [if_neg c3] at H
  have c3b0 : ((l0.length : Int) == (l1.length : Int)) = false := beq_eq_false_iff_ne.mpr c3
  have c3b1 : ((l0.length : Int) != (l1.length : Int)) = true := bne_iff_ne.mpr c3
  have c3b2 : (l0.length == l1.length) = false := by first | simpa using c3 | (simp at c3 ⊢; omega)
  obtain rfl := Option.some.inj H
  go_enter Try.func34, Try.ntmps34
  go_wp2
  repeat (go_quiet (fail); try go_wp2)
  go_ret
  exact ⟨by first | rfl | (simp; done) | (simp [*]; done), by repeat (first | exact Drawn0.refl _ | apply Drawn0.step)⟩

/-! ### laws_sameMemory: function 14 -/
def laws_sameMemory.f (k : Nat) (a0_0 : ByteArray) (l0_1 : List (S49)) (a1_0 : ByteArray) (l1_1 : List (S49)) : Option (Bool) := if a0_0.toList = a1_0.toList then ((laws_sameCells.f k l0_1 l1_1).bind fun t342 => (some t342)) else (some false)
theorem laws_sameMemory.mono : ∀ a0 a1 a2 a3 k, LeO (laws_sameMemory.f k a0 a1 a2 a3) (laws_sameMemory.f (k + 1) a0 a1 a2 a3) := by
 intro a0 a1 a2 a3 k
 unfold laws_sameMemory.f
 repeat' first
   | (with_reducible exact laws_sameCells.mono _ _ _)
   | (with_reducible exact LeO.refl _)
   | (with_reducible exact LeO.none _)
   | (with_reducible refine LeO.ite ?_ ?_)
   | (with_reducible refine LeO.bind ?_ (fun _ => ?_))
   | exact laws_sameCells.mono _ _ _
   | exact LeO.none _
   | refine LeO.ite ?_ ?_
   | refine LeO.bind ?_ (fun _ => ?_)
set_option maxHeartbeats 8000000 in
set_option maxRecDepth 100000 in
theorem laws_sameMemory.calls (k : Nat) (a0_0 : ByteArray) (A0_1 : Option Addr) (c0_1 : Nat) (l0_1 : List (S49)) (a1_0 : ByteArray) (A1_1 : Option Addr) (c1_1 : Nat) (l1_1 : List (S49)) (r : Bool) (w : World) (hr0_1 : Kd.C k49 w A0_1 l0_1.length l0_1) (hc0_1 : l0_1.length ≤ c0_1) (hr1_1 : Kd.C k49 w A1_1 l1_1.length l1_1) (hc1_1 : l1_1.length ≤ c1_1) (h : laws_sameMemory.f k a0_0 l0_1 a1_0 l1_1 = some r) :
  Calls Try.prog 14 #[.agg #[.string a0_0, .slice A0_1 l0_1.length c0_1], .agg #[.string a1_0, .slice A1_1 l1_1.length c1_1]] w fun e w' => e = .returned (.bool r) ∧ Below w.heap.size w w' := by
 have hu28 := Try.underlying28
 have HR0_1 := Am hr0_1
 have HC0_1 := Am hc0_1
 clear hr0_1 hc0_1
 have HR1_1 := Am hr1_1
 have HC1_1 := Am hc1_1
 clear hr1_1 hc1_1
 have HB := Am (Below.refl w.heap.size w)
 have H : (if a0_0.toList = a1_0.toList then ((laws_sameCells.f k l0_1 l1_1).bind fun t342 => (some t342)) else (some false)) = some r := h
 clear h
 by_cases c3 : a0_0.toList = a1_0.toList
 ·rw [if_pos c3] at H
  have c3b0 : (a0_0.toList == a1_0.toList) = true := beq_iff_eq.mpr c3
  have c3b1 : (a0_0.toList != a1_0.toList) = false := bne_eq_false_iff_eq.mpr c3
  clear c3
  replace H := Option.bind_eq_some_iff.mp H
  obtain ⟨t342, A40, H⟩ := H
  replace H : (some t342) = some r := H
  have A4 := Am A40
  clear A40
  obtain rfl := Option.some.inj H
  go_enter Try.func14, Try.ntmps14
  go_wp2_with (first | ((with_reducible refine gate_dst (N := 2) rfl ?_); refine box_event ?hg (N := 2) ?hd (cs := #[.string a0_0, .slice A0_1 l0_1.length c0_1]) (t := 28) ?hr ?_; (case hd => rfl); (case hg => rfl); (case hr => first | (go_simp; done) | (go_simp; rfl)); intro gb340 hg w5 hbox hb; have BK340 := Am (hbox); have GW340 := Am ((by rw [hg]; exact (bz zB) : w.heap.size ≤ gb340)); have GE340 := Am ((by rw [hg]; exact (bz zB) : w.heap.size ≤ gb340)); replace HB := Am (bq zB hb); clear hb hbox hg) | ((with_reducible refine gate_dst (N := 3) rfl ?_); refine box_event ?hg (N := 3) ?hd (cs := #[.string a1_0, .slice A1_1 l1_1.length c1_1]) (t := 28) ?hr ?_; (case hd => rfl); (case hg => rfl); (case hr => first | (go_simp; done) | (go_simp; rfl)); intro gb341 hg w6 hbox hb; have n0_ := Am (zK BK340 hb); have n1_ := Am (bq zG hb); have n2_ := Am (hbox); have n3_ := Am ((by rw [hg]; exact (bz zG) : w.heap.size ≤ gb341)); have n4_ := Am ((by rw [hg]; exact (bz zG) : w.heap.size ≤ gb341)); have n5_ := Am ((by rw [hg]; exact Nat.ne_of_lt (zL BK340) : gb340 ≠ gb341)); have n6_ := Am ((by rw [hg]; exact Nat.ne_of_gt (zL BK340) : gb341 ≠ gb340)); clear BK340; clear HB; have BK340 := n0_; have HB := n1_; have BK341 := n2_; have GW341 := n3_; have GE341 := n4_; have NB340_341 := n5_; have NB341_340 := n6_; clear n0_ n1_ n2_ n3_ n4_ n5_ n6_; clear hb hbox hg; have hnb7 := NB340_341.out; have hnc7 := NB341_340.out; obtain ⟨hcz8_0, hcz8_1⟩ := kc2 (w := w6) BK340.out; have hfz8_0 := kf BK340.out; obtain ⟨hcz9_0, hcz9_1⟩ := kc2 (w := w6) BK341.out; have hfz9_0 := kf BK341.out) | (go_at_call 34; (with_reducible refine (laws_sameCells.calls k _ _ l0_1 _ _ l1_1 t342 _ ?side1 ?side2 ?side3 ?side4 A4.out).mono ?_); (case side1 => repeat (first | exact (cb HR0_1.out HB.out) | (with_reducible first | refine ca ?_ _ | refine cn ?_ _ | refine ce ?_))); (case side2 => exact HC0_1.out); (case side3 => repeat (first | exact (cb HR1_1.out HB.out) | (with_reducible first | refine ca ?_ _ | refine cn ?_ _ | refine ce ?_))); (case side4 => exact HC1_1.out); rintro e w' ⟨rfl, ⟨nd, rfl⟩⟩))
  go_ret
  exact ⟨zR, zG⟩
 ·rw [if_neg c3] at H
  have c3b0 : (a0_0.toList == a1_0.toList) = false := beq_eq_false_iff_ne.mpr c3
  have c3b1 : (a0_0.toList != a1_0.toList) = true := bne_iff_ne.mpr c3
  obtain rfl := Option.some.inj H
  go_enter Try.func14, Try.ntmps14
  go_wp2_with (first | ((with_reducible refine gate_dst (N := 2) rfl ?_); refine box_event ?hg (N := 2) ?hd (cs := #[.string a0_0, .slice A0_1 l0_1.length c0_1]) (t := 28) ?hr ?_; (case hd => rfl); (case hg => rfl); (case hr => first | (go_simp; done) | (go_simp; rfl)); intro gb340 hg w10 hbox hb; have BK340 := Am (hbox); have GW340 := Am ((by rw [hg]; exact (bz zB) : w.heap.size ≤ gb340)); have GE340 := Am ((by rw [hg]; exact (bz zB) : w.heap.size ≤ gb340)); replace HB := Am (bq zB hb); clear hb hbox hg) | ((with_reducible refine gate_dst (N := 3) rfl ?_); refine box_event ?hg (N := 3) ?hd (cs := #[.string a1_0, .slice A1_1 l1_1.length c1_1]) (t := 28) ?hr ?_; (case hd => rfl); (case hg => rfl); (case hr => first | (go_simp; done) | (go_simp; rfl)); intro gb341 hg w11 hbox hb; have n0_ := Am (zK BK340 hb); have n1_ := Am (bq zG hb); have n2_ := Am (hbox); have n3_ := Am ((by rw [hg]; exact (bz zG) : w.heap.size ≤ gb341)); have n4_ := Am ((by rw [hg]; exact (bz zG) : w.heap.size ≤ gb341)); have n5_ := Am ((by rw [hg]; exact Nat.ne_of_lt (zL BK340) : gb340 ≠ gb341)); have n6_ := Am ((by rw [hg]; exact Nat.ne_of_gt (zL BK340) : gb341 ≠ gb340)); clear BK340; clear HB; have BK340 := n0_; have HB := n1_; have BK341 := n2_; have GW341 := n3_; have GE341 := n4_; have NB340_341 := n5_; have NB341_340 := n6_; clear n0_ n1_ n2_ n3_ n4_ n5_ n6_; clear hb hbox hg; have hnb12 := NB340_341.out; have hnc12 := NB341_340.out; obtain ⟨hcz13_0, hcz13_1⟩ := kc2 (w := w11) BK340.out; have hfz13_0 := kf BK340.out; obtain ⟨hcz14_0, hcz14_1⟩ := kc2 (w := w11) BK341.out; have hfz14_0 := kf BK341.out))
  go_ret
  exact ⟨zR, zG⟩

/-! ### impl_padded: function 38 (own text) -/
def zeros (n : Nat) : ByteArray := ⟨(List.replicate n (0 : UInt8)).toArray⟩
theorem repeat_zeros (n : Nat) : (⟨(Lib.repeatL (⟨#[0]⟩ : ByteArray).data.toList n).toArray⟩ : ByteArray) = zeros n := by
 unfold zeros
 congr 2
 induction n with
 | zero => rfl
 | succ n ih => simp [Lib.repeatL, List.replicate_succ, ih]
theorem zeros_size (n : Nat) : (zeros n).size = n := by simp [zeros, ByteArray.size]
theorem zeros_call (n : Nat) (w : World) (h : n ≤ 2147483648) : Aside0 (Calls Try.prog 51 #[.string (⟨#[0]⟩ : ByteArray), .int .i64 n] w fun e w' => e = .returned (.string (zeros n)) ∧ Below w.heap.size w w') := by
 have := Go.Proofs.Try.strings_Repeat (⟨#[0]⟩ : ByteArray) n w (by omega) (by show 1 * n ≤ _; omega)
 rw [repeat_zeros] at this
 exact ⟨this⟩
def impl_padded.f (a0 : ByteArray) (a1 : Int) : Option (ByteArray) := if a0.size ≤ 1073741824 ∧ -1073741824 ≤ a1 ∧ a1 ≤ 1073741824 then some (a0 ++ zeros (a1 - (a0.size : Int)).toNat) else none
set_option maxHeartbeats 8000000 in
set_option maxRecDepth 100000 in
theorem impl_padded.calls (a0 : ByteArray) (a1 : Int) (r : ByteArray) (w : World) (h : impl_padded.f a0 a1 = some r) :
  Calls Try.prog 38 #[.string a0, .int .i64 a1] w fun e w' => e = .returned (.string r) ∧ Below w.heap.size w w' := by
 unfold impl_padded.f at h
 split at h
 ·rename_i hb
  obtain ⟨h1, h2, h3⟩ := hb
  obtain rfl := Option.some.inj h
  clear h
  have e1 : wrap64 (a1 - (a0.size : Int)) = a1 - (a0.size : Int) := by unfold wrap64; omega
  have hs : ¬ 9223372036854775807 < a0.size + (zeros (a1 - (a0.size : Int)).toNat).size := by rw [zeros_size]; omega
  have HC := zeros_call (a1 - (a0.size : Int)).toNat w (by omega)
  by_cases hp : 0 < wrap64 (a1 - (a0.size : Int))
  ·have hm : (((a1 - (a0.size : Int)).toNat : Nat) : Int) = wrap64 (a1 - (a0.size : Int)) := by omega
   rw [hm] at HC
   generalize zeros (a1 - (a0.size : Int)).toNat = z at HC hs ⊢
   clear e1 hm h1 h2 h3
   go_enter Try.func38, Try.ntmps38
   go_wp2_with (first | (go_at_call 51; refine (HC.out).mono ?_; rintro e w' ⟨rfl, hb⟩))
   go_ret
   exact ⟨rfl, hb⟩
  ·have hm : (((a1 - (a0.size : Int)).toNat : Nat) : Int) = 0 := by omega
   rw [hm] at HC
   generalize zeros (a1 - (a0.size : Int)).toNat = z at HC hs ⊢
   clear e1 hm h1 h2 h3
   go_enter Try.func38, Try.ntmps38
   go_wp2_with (first | (go_at_call 51; refine (HC.out).mono ?_; rintro e w' ⟨rfl, hb⟩))
   go_ret
   exact ⟨rfl, hb⟩
 ·exact absurd h (by simp)

/-! ### impl_MemoryNew: function 16 -/
def impl_MemoryNew.f (a0 : Int) : Option (ByteArray × (List (S49))) := (impl_within.f a0 0 1000).bind fun t344 => (if t344 = true then ((impl_padded.f (⟨#[]⟩ : ByteArray) (wrap64 (a0 * 16))).bind fun t345 => (some (t345, ([] : List (S49))))) else (some ((⟨#[]⟩ : ByteArray), ([] : List (S49)))))
set_option maxHeartbeats 8000000 in
set_option maxRecDepth 100000 in
theorem impl_MemoryNew.calls (a0 : Int) (r1 : ByteArray) (r2 : List (S49)) (w : World) (h : impl_MemoryNew.f a0 = some (r1, r2)) :
  Calls Try.prog 16 #[.int .i64 a0] w fun e w' => ∃ v1_ : Value, e = .returned (.agg #[.string r1, v1_]) ∧ Kd.R k49 49 w' w.heap.size (fun _ => True) v1_ r2 ∧ Below w.heap.size w w' := by
 have hu28 := Try.underlying28
 have HB := Am (Below.refl w.heap.size w)
 have H : ((impl_within.f a0 0 1000).bind fun t344 => (if t344 = true then ((impl_padded.f (⟨#[]⟩ : ByteArray) (wrap64 (a0 * 16))).bind fun t345 => (some (t345, ([] : List (S49))))) else (some ((⟨#[]⟩ : ByteArray), ([] : List (S49)))))) = some (r1, r2) := h
 clear h
 replace H := Option.bind_eq_some_iff.mp H
 obtain ⟨t344, A20, H⟩ := H
 replace H : (if t344 = true then ((impl_padded.f (⟨#[]⟩ : ByteArray) (wrap64 (a0 * 16))).bind fun t345 => (some (t345, ([] : List (S49))))) else (some ((⟨#[]⟩ : ByteArray), ([] : List (S49))))) = some (r1, r2) := H
 have A2 := Am A20
 clear A20
 by_cases c3 : t344 = true
 ·subst c3
  have H1 : ((impl_padded.f (⟨#[]⟩ : ByteArray) (wrap64 (a0 * 16))).bind fun t345 => (some (t345, ([] : List (S49))))) = some (r1, r2) := by rw [if_pos rfl] at H; exact H
  clear H
  have H := H1
  clear H1
  replace H := Option.bind_eq_some_iff.mp H
  obtain ⟨t345, A40, H⟩ := H
  replace H : (some (t345, ([] : List (S49)))) = some (r1, r2) := H
  have A4 := Am A40
  clear A40
  simp only [Option.some.injEq, Prod.mk.injEq] at H
  obtain ⟨rfl, rfl⟩ := H
  go_enter Try.func16, Try.ntmps16
  go_wp2_with (first | ((with_reducible refine gate_dst (N := 2) rfl ?_); refine box_event ?hg (N := 2) ?hd (cs := #[.string (⟨#[]⟩ : ByteArray), .slice none 0 0]) (t := 28) ?hr ?_; (case hd => rfl); (case hg => rfl); (case hr => first | (go_simp; done) | (go_simp; rfl)); intro gb343 hg w5 hbox hb; have BK343 := Am (hbox); have GW343 := Am ((by rw [hg]; exact (bz zB) : w.heap.size ≤ gb343)); have GE343 := Am ((by rw [hg]; exact (bz zB) : w.heap.size ≤ gb343)); replace HB := Am (bq zB hb); clear hb hbox hg) | ((with_reducible refine gate_callee (f := 37) rfl ?_); refine zC (some 4) rfl rfl Try.func37 rfl #[.int .i64 a0, .int .i64 0, .int .i64 1000] rfl ?_; (with_reducible refine (impl_within.calls a0 0 1000 true _ A2.out).mono ?_); rintro e w' ⟨rfl, ⟨nd, rfl⟩⟩; refine ⟨_, rfl, ?_⟩; (try (rw [drewN_self w5]; generalize hq_ : World.drewN w5 _ = w5; have n0_ : Aside0 (w5.heap[gb343]? = some (.cells #[.string (⟨#[]⟩ : ByteArray), .slice none 0 0] 28 (0, 0))) := ⟨by rw [← hq_]; exact (by (with_reducible repeat (first | refine kn ?_ _ | refine ke ?_ | refine ka ?_ _)); exact BK343.out)⟩; have n1_ : Aside0 (Below w.heap.size w w5) := ⟨by rw [← hq_]; exact zG⟩; clear BK343 HB hq_; have BK343 := n0_; have HB := n1_; clear n0_ n1_))) | ((with_reducible refine gate_callee (f := 38) rfl ?_); refine zC (some 9) rfl rfl Try.func38 rfl #[.string (⟨#[]⟩ : ByteArray), .int .i64 (wrap64 (a0 * 16))] rfl ?_; (with_reducible refine (impl_padded.calls (⟨#[]⟩ : ByteArray) (wrap64 (a0 * 16)) t345 _ A4.out).mono ?_); rintro e w6 ⟨rfl, hb⟩; refine ⟨_, rfl, ?_⟩; have n0_ := Am (zK BK343 hb); have n1_ := Am (bq zG hb); clear BK343; clear HB; have BK343 := n0_; have HB := n1_; clear n0_ n1_; (try clear hb); obtain ⟨hcz7_0, hcz7_1⟩ := kc2 (w := w6) BK343.out; have hfz7_0 := kf BK343.out))
  refine bodyPost_ret (results_cell_row rfl _ _ gb343 28 #[.string t345, .slice none 0 0] (0, 0) _ rfl (by (with_reducible repeat (first | refine kn ?_ _ | refine ke ?_ | refine ka ?_ _)); refine kp (cs := #[.string t345, .slice none 0 0]) ?_ 1 _ rfl; (with_reducible repeat (first | refine kn ?_ _ | refine ke ?_ | refine ka ?_ _)); refine kp (cs := #[.string (⟨#[]⟩ : ByteArray), .slice none 0 0]) ?_ 0 _ rfl; (with_reducible repeat (first | refine kn ?_ _ | refine ke ?_ | refine ka ?_ _)); exact BK343.out) Try.underlying28 rfl (by kernel_rfl)) rfl ?_
  exact ⟨_, zR, by first | exact Kd.R_nil _ _ _ _ _ | exact Kd.N_nil _ _ _ _ _ | exact Kd.V_nil _ _ _ _ _ | exact Kd.Q_nil _ _ _ _ _ | exact Kd.S_nil _ _ _ _ _, zG⟩
 ·replace c3 := Bool.eq_false_iff.mpr c3
  subst c3
  have H1 : (some ((⟨#[]⟩ : ByteArray), ([] : List (S49)))) = some (r1, r2) := by rw [if_neg (show ¬ (false = true) by decide)] at H; exact H
  clear H
  have H := H1
  clear H1
  simp only [Option.some.injEq, Prod.mk.injEq] at H
  obtain ⟨rfl, rfl⟩ := H
  go_enter Try.func16, Try.ntmps16
  go_wp2_with (first | ((with_reducible refine gate_dst (N := 2) rfl ?_); refine box_event ?hg (N := 2) ?hd (cs := #[.string (⟨#[]⟩ : ByteArray), .slice none 0 0]) (t := 28) ?hr ?_; (case hd => rfl); (case hg => rfl); (case hr => first | (go_simp; done) | (go_simp; rfl)); intro gb343 hg w8 hbox hb; have BK343 := Am (hbox); have GW343 := Am ((by rw [hg]; exact (bz zB) : w.heap.size ≤ gb343)); have GE343 := Am ((by rw [hg]; exact (bz zB) : w.heap.size ≤ gb343)); replace HB := Am (bq zB hb); clear hb hbox hg) | ((with_reducible refine gate_callee (f := 37) rfl ?_); refine zC (some 4) rfl rfl Try.func37 rfl #[.int .i64 a0, .int .i64 0, .int .i64 1000] rfl ?_; (with_reducible refine (impl_within.calls a0 0 1000 false _ A2.out).mono ?_); rintro e w' ⟨rfl, ⟨nd, rfl⟩⟩; refine ⟨_, rfl, ?_⟩; (try (rw [drewN_self w8]; generalize hq_ : World.drewN w8 _ = w8; have n0_ : Aside0 (w8.heap[gb343]? = some (.cells #[.string (⟨#[]⟩ : ByteArray), .slice none 0 0] 28 (0, 0))) := ⟨by rw [← hq_]; exact (by (with_reducible repeat (first | refine kn ?_ _ | refine ke ?_ | refine ka ?_ _)); exact BK343.out)⟩; have n1_ : Aside0 (Below w.heap.size w w8) := ⟨by rw [← hq_]; exact zG⟩; clear BK343 HB hq_; have BK343 := n0_; have HB := n1_; clear n0_ n1_)); obtain ⟨hcz9_0, hcz9_1⟩ := kc2 (w := w8) BK343.out; have hfz9_0 := kf BK343.out))
  refine bodyPost_ret (results_cell_row rfl _ _ gb343 28 #[.string (⟨#[]⟩ : ByteArray), .slice none 0 0] (0, 0) _ rfl (by (with_reducible repeat (first | refine kn ?_ _ | refine ke ?_ | refine ka ?_ _)); refine kp (cs := #[.string (⟨#[]⟩ : ByteArray), .slice none 0 0]) ?_ 1 _ rfl; (with_reducible repeat (first | refine kn ?_ _ | refine ke ?_ | refine ka ?_ _)); refine kp (cs := #[.string (⟨#[]⟩ : ByteArray), .slice none 0 0]) ?_ 0 _ rfl; (with_reducible repeat (first | refine kn ?_ _ | refine ke ?_ | refine ka ?_ _)); exact BK343.out) Try.underlying28 rfl (by kernel_rfl)) rfl ?_
  exact ⟨_, zR, by first | exact Kd.R_nil _ _ _ _ _ | exact Kd.N_nil _ _ _ _ _ | exact Kd.V_nil _ _ _ _ _ | exact Kd.Q_nil _ _ _ _ _ | exact Kd.S_nil _ _ _ _ _, zG⟩

end Go.Proofs.Ytnmkcognggeioaa.QFnUnsure
