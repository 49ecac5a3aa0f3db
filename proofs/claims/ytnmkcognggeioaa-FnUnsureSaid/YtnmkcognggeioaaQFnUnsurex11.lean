/- Go functions as Lean functions, and their contracts. Own text: written by wip/gen/pr.py (a turned copy of the print). -/
import Derived.Test.YtnmkcognggeioaaQFnUnsurex0
import Derived.Test.YtnmkcognggeioaaQFnUnsurex2
import Derived.Test.YtnmkcognggeioaaQFnUnsurex3
import Derived.Test.YtnmkcognggeioaaQFnUnsurex4
import Derived.Test.YtnmkcognggeioaaQFnUnsurex7
import Derived.Test.YtnmkcognggeioaaQFnUnsurex8
import Derived.Test.YtnmkcognggeioaaQFnUnsurex10
namespace Go.Proofs.Ytnmkcognggeioaa.QFnUnsure
open Go.RowKit Go.Proofs.YtnmkcognggeioaaW.PrintWords Go.Proofs.YtnmkcognggeioaaW.PrintLast Go.Proofs.YtnmkcognggeioaaW.PrintMore
attribute [local go_sem] max2_int min2_int max_two min_two max_three min_three max_four min_four   -- for this text's walks alone
open Go.Proofs.YtnmkcognggeioaaW.PrintWords renaming below_alloc → ba, pw_below_drewN → bn, below_drew1 → be, below_set → bs, blk_drewN → kn, blk_drew → ke, blk_alloc → ka, blk_below → kb, blk_frozen → kf, blk_cell → kc, below_step → bq, below_size → bz, blk_lt → kl, blk_put → kp
open Go.Proofs.YtnmkcognggeioaaW.PrintWords.Kd renaming R_alloc → ra, R_drewN → rn, R_drew → re, C_alloc → ca, C_drewN → cn, C_drew → ce, R_below → rb, C_below → cb
open Go.Proofs.YtnmkcognggeioaaW.PrintWords.Aside0 renaming mk → Am
set_option linter.unusedVariables false
set_option linter.unusedSimpArgs false

def o11b1 (p0 : ByteArray) (p1 : Option Addr) (p2 p3 : Nat) : Obj := .cells #[.string p0, .slice p1 p2 p3] 28 (0, 0)
/-! ### spec_StoreWord: function 56 -/
def spec_StoreWord.j0 : Nat → Int → ByteArray → Bool → ByteArray → List (S49) → Option (ByteArray × (List (S49)))
 | 0, _, _, _, _, _ => none
 | k + 1, x1, x2, x22, x236000, x236001 => if x22 = true then ((spec_l10Copy.f x236000 x236001).bind fun bt240 => (some (bt240.1, bt240.2))) else ((spec_l10Store.f k x236000 x236001 x1 x2).bind fun bt244 => (some (bt244.1, bt244.2)))
def spec_StoreWord.f (k : Nat) (a0_0 : ByteArray) (l0_1 : List (S49)) (a1 : Int) (a2 : ByteArray) : Option (ByteArray × (List (S49))) := (spec_MemoryOk.f k a0_0 l0_1).bind fun t237 => (if t237 = true then (if (a2.size : Int) = 8 then ((spec_l10Words.f a0_0 l0_1).bind fun t238 => ((spec_l01In.f a1 0 (wrap64 (t238 - 1))).bind fun t239 => (spec_StoreWord.j0 k a1 a2 (!t239) a0_0 l0_1))) else (spec_StoreWord.j0 k a1 a2 true a0_0 l0_1)) else (spec_StoreWord.j0 k a1 a2 true a0_0 l0_1))
theorem spec_StoreWord.mono_l : ∀ k, (∀ y0 y1 y2 y3 y4, LeO (spec_StoreWord.j0 k y0 y1 y2 y3 y4) (spec_StoreWord.j0 (k + 1) y0 y1 y2 y3 y4))
 | 0 => fun _ _ _ _ _ r h => by simp [spec_StoreWord.j0] at h
 | k + 1 => by
  have ih0 := spec_StoreWord.mono_l k
  ·intro y0 y1 y2 y3 y4
   unfold spec_StoreWord.j0
   repeat' first
   | (with_reducible exact ih0 _ _ _ _ _)
   | (with_reducible exact spec_MemoryOk.mono _ _ _)
   | (with_reducible exact spec_l10Store.mono _ _ _ _ _)
   | (with_reducible exact LeO.refl _)
   | (with_reducible exact LeO.none _)
   | (with_reducible refine LeO.ite ?_ ?_)
   | (with_reducible refine LeO.bind ?_ (fun _ => ?_))
   | exact ih0 _ _ _ _ _
   | exact spec_MemoryOk.mono _ _ _
   | exact spec_l10Store.mono _ _ _ _ _
   | exact LeO.none _
   | refine LeO.ite ?_ ?_
   | refine LeO.bind ?_ (fun _ => ?_)
theorem spec_StoreWord.mono : ∀ a0 a1 a2 a3 k, LeO (spec_StoreWord.f k a0 a1 a2 a3) (spec_StoreWord.f (k + 1) a0 a1 a2 a3) := by
 intro a0 a1 a2 a3 k
 have ih0 := spec_StoreWord.mono_l k
 unfold spec_StoreWord.f
 repeat' first
   | (with_reducible exact ih0 _ _ _ _ _)
   | (with_reducible exact spec_MemoryOk.mono _ _ _)
   | (with_reducible exact spec_l10Store.mono _ _ _ _ _)
   | (with_reducible exact LeO.refl _)
   | (with_reducible exact LeO.none _)
   | (with_reducible refine LeO.ite ?_ ?_)
   | (with_reducible refine LeO.bind ?_ (fun _ => ?_))
   | exact ih0 _ _ _ _ _
   | exact spec_MemoryOk.mono _ _ _
   | exact spec_l10Store.mono _ _ _ _ _
   | exact LeO.none _
   | refine LeO.ite ?_ ?_
   | refine LeO.bind ?_ (fun _ => ?_)
set_option maxHeartbeats 8000000 in
set_option maxRecDepth 100000 in
theorem spec_StoreWord.calls (k : Nat) (a0_0 : ByteArray) (A0_1 : Option Addr) (c0_1 : Nat) (l0_1 : List (S49)) (a1 : Int) (a2 : ByteArray) (r1 : ByteArray) (r2 : List (S49)) (w : World) (hr0_1 : Kd.C k49 w A0_1 l0_1.length l0_1) (hc0_1 : l0_1.length ≤ c0_1) (h : spec_StoreWord.f k a0_0 l0_1 a1 a2 = some (r1, r2)) :
  Calls Try.prog 56 #[.agg #[.string a0_0, .slice A0_1 l0_1.length c0_1], .int .i64 a1, .string a2] w fun e w' => ∃ v1_ : Value, e = .returned (.agg #[.string r1, v1_]) ∧ Kd.R k49 49 w' w.heap.size (fun _ => True) v1_ r2 ∧ Below w.heap.size w w' := by
 have hu28 := Try.underlying28
 have HR0_1 := Am hr0_1
 have HC0_1 := Am hc0_1
 clear hr0_1 hc0_1
 have HB := Am (Below.refl w.heap.size w)
 have H : ((spec_MemoryOk.f k a0_0 l0_1).bind fun t237 => (if t237 = true then (if (a2.size : Int) = 8 then ((spec_l10Words.f a0_0 l0_1).bind fun t238 => ((spec_l01In.f a1 0 (wrap64 (t238 - 1))).bind fun t239 => (spec_StoreWord.j0 k a1 a2 (!t239) a0_0 l0_1))) else (spec_StoreWord.j0 k a1 a2 true a0_0 l0_1)) else (spec_StoreWord.j0 k a1 a2 true a0_0 l0_1))) = some (r1, r2) := h
 clear h
 have HC4 := Am H
 clear H
 go_enter Try.func56, Try.ntmps56
 go_upto_region 1 with (first | ((with_reducible refine gate_dst (N := 3) rfl ?_); (try (refine gate_guard (by rfl) ?_; dsimp only)); refine box_event ?hg (N := 3) ?hd (cs := #[.string a0_0, .slice A0_1 l0_1.length c0_1]) (t := 28) ?hr ?_; (case hd => rfl); (case hg => rfl); (case hr => first | (go_simp; done) | (go_simp; rfl)); intro gb235 hg w5 hbox hb; have BK235 := Am (hbox); have GW235 := Am ((by rw [hg]; exact (bz zB) : w.heap.size ≤ gb235)); have GE235 := Am ((by rw [hg]; exact (bz zB) : w.heap.size ≤ gb235)); replace HB := Am (bq zB hb); clear hb hbox hg) | ((with_reducible refine gate_dst (N := 6) rfl ?_); (try (refine gate_guard (by rfl) ?_; dsimp only)); refine box_event ?hg (N := 6) ?hd (cs := #[.string (⟨#[]⟩ : ByteArray), .slice none 0 0]) (t := 28) ?hr ?_; (case hd => rfl); (case hg => rfl); (case hr => first | (go_simp; done) | (go_simp; rfl)); intro gb236 hg w6 hbox hb; have n0_ := Am (zK BK235 hb); have n1_ := Am (bq zG hb); have n2_ := Am (hbox); have n3_ := Am ((by rw [hg]; exact (bz zG) : w.heap.size ≤ gb236)); have n4_ := Am ((by rw [hg]; exact (bz zG) : w.heap.size ≤ gb236)); have n5_ := Am ((by rw [hg]; exact Nat.ne_of_lt (zL BK235) : gb235 ≠ gb236)); have n6_ := Am ((by rw [hg]; exact Nat.ne_of_gt (zL BK235) : gb236 ≠ gb235)); clear BK235; clear HB; have BK235 := n0_; have HB := n1_; have BK236 := n2_; have GW236 := n3_; have GE236 := n4_; have NB235_236 := n5_; have NB236_235 := n6_; clear n0_ n1_ n2_ n3_ n4_ n5_ n6_; clear hb hbox hg))
 (try simp only [Act.put, List.setIfInBounds_toArray, List.set_cons_zero, List.set_cons_succ])
 go_cut [22] (fun v22 wc => ∃ (kq : Nat) (x22_3 : Bool), v22 = .bool x22_3 ∧ Aside0 (spec_StoreWord.j0 kq a1 a2 x22_3 a0_0 l0_1 = some (r1, r2)) ∧ Aside0 (kq ≤ k) ∧ Aside0 (wc.heap[gb235]? = some (.cells #[.string a0_0, (.slice A0_1 l0_1.length c0_1)] 28 (0, 0))) ∧ Aside0 (wc.heap[gb236]? = some (.cells #[.string (⟨#[]⟩ : ByteArray), (.slice none 0 0)] 28 (0, 0))) ∧ Aside0 (Below w.heap.size w wc))
 case first =>
  have H := HC4.out
  clear HC4
  replace H := Option.bind_eq_some_iff.mp H
  obtain ⟨t237, A70, H⟩ := H
  replace H : (if t237 = true then (if (a2.size : Int) = 8 then ((spec_l10Words.f a0_0 l0_1).bind fun t238 => ((spec_l01In.f a1 0 (wrap64 (t238 - 1))).bind fun t239 => (spec_StoreWord.j0 k a1 a2 (!t239) a0_0 l0_1))) else (spec_StoreWord.j0 k a1 a2 true a0_0 l0_1)) else (spec_StoreWord.j0 k a1 a2 true a0_0 l0_1)) = some (r1, r2) := H
  have A7 := Am A70
  clear A70
  by_cases c8 : t237 = true
  ·subst c8
   have H1 : (if (a2.size : Int) = 8 then ((spec_l10Words.f a0_0 l0_1).bind fun t238 => ((spec_l01In.f a1 0 (wrap64 (t238 - 1))).bind fun t239 => (spec_StoreWord.j0 k a1 a2 (!t239) a0_0 l0_1))) else (spec_StoreWord.j0 k a1 a2 true a0_0 l0_1)) = some (r1, r2) := by rw [if_pos rfl] at H; exact H
   clear H
   have H := H1
   clear H1
   by_cases c9 : (a2.size : Int) = 8
   ·rw [if_pos c9] at H
    have c9b0 : ((a2.size : Int) == 8) = true := beq_iff_eq.mpr c9
    have c9b1 : ((a2.size : Int) != 8) = false := bne_eq_false_iff_eq.mpr c9
    clear c9
    (first | rw [c9b0] | (simp only [i64_w, i32_w]; rw [c9b0]) | skip)
    replace H := Option.bind_eq_some_iff.mp H
    obtain ⟨t238, A100, H⟩ := H
    replace H : ((spec_l01In.f a1 0 (wrap64 (t238 - 1))).bind fun t239 => (spec_StoreWord.j0 k a1 a2 (!t239) a0_0 l0_1)) = some (r1, r2) := H
    have A10 := Am A100
    clear A100
    replace H := Option.bind_eq_some_iff.mp H
    obtain ⟨t239, A110, H⟩ := H
    replace H : (spec_StoreWord.j0 k a1 a2 (!t239) a0_0 l0_1) = some (r1, r2) := H
    have A11 := Am A110
    clear A110
    have H' := Am H
    clear H
    have hnb12 := NB235_236.out
    have hnc12 := NB236_235.out
    obtain ⟨hcz13_0, hcz13_1⟩ := kc2 (w := w6) BK235.out
    have hfz13_0 := kf BK235.out
    go_wp2_with (first | ((with_reducible refine gate_callee (f := 15) rfl ?_); refine zC (some 8) rfl rfl Try.func15 rfl #[.agg #[.string a0_0, .slice A0_1 l0_1.length c0_1]] rfl ?_; (with_reducible refine (spec_MemoryOk.calls k a0_0 _ _ l0_1 true _ ?side1 ?side2 A7.out).mono ?_); (case side1 => repeat (first | exact (cb HR0_1.out HB.out) | (with_reducible first | refine ca ?_ _ | refine cn ?_ _ | refine ce ?_))); (case side2 => exact HC0_1.out); rintro e w14 ⟨rfl, hb⟩; refine ⟨_, rfl, ?_⟩; have n0_ := Am (zK BK235 hb); have n1_ := Am (zK BK236 hb); have n2_ := Am (bq zG hb); clear BK235; clear BK236; clear HB; have BK235 := n0_; have BK236 := n1_; have HB := n2_; clear n0_ n1_ n2_; (try clear hb); obtain ⟨hcz15_0, hcz15_1⟩ := kc2 (w := w14) BK235.out; have hfz15_0 := kf BK235.out) | (go_at_call 39; (with_reducible refine (spec_l10Words.calls a0_0 _ _ l0_1 t238 _ ?side1 ?side2 A10.out).mono ?_); (case side1 => repeat (first | exact (cb HR0_1.out HB.out) | (with_reducible first | refine ca ?_ _ | refine cn ?_ _ | refine ce ?_))); (case side2 => exact HC0_1.out); rintro e w16 ⟨rfl, hb⟩; have n0_ := Am (zK BK235 hb); have n1_ := Am (zK BK236 hb); have n2_ := Am (bq zG hb); clear BK235; clear BK236; clear HB; have BK235 := n0_; have BK236 := n1_; have HB := n2_; clear n0_ n1_ n2_; (try clear hb)) | (go_at_call 36; (with_reducible refine (spec_l01In.calls a1 0 (wrap64 (t238 - 1)) t239 _ A11.out).mono ?_); rintro e w' ⟨rfl, ⟨nd, rfl⟩⟩))
    go_meet
    case rel => exact ⟨_, (!t239), (by first | rfl | (simp; done) | (simp [*]; done)), H', ⟨by first | omega | exact Nat.le_refl _⟩, ⟨by (with_reducible repeat (first | refine kn ?_ _ | refine ke ?_ | refine ka ?_ _)); exact BK235.out⟩, ⟨by (with_reducible repeat (first | refine kn ?_ _ | refine ke ?_ | refine ka ?_ _)); exact BK236.out⟩, ⟨zG⟩⟩
   ·rw [if_neg c9] at H
    have c9b0 : ((a2.size : Int) == 8) = false := beq_eq_false_iff_ne.mpr c9
    have c9b1 : ((a2.size : Int) != 8) = true := bne_iff_ne.mpr c9
    (first | rw [c9b0] | (simp only [i64_w, i32_w]; rw [c9b0]) | skip)
    have H' := Am H
    clear H
    have hnb17 := NB235_236.out
    have hnc17 := NB236_235.out
    obtain ⟨hcz18_0, hcz18_1⟩ := kc2 (w := w6) BK235.out
    have hfz18_0 := kf BK235.out
    go_wp2_with (first | ((with_reducible refine gate_callee (f := 15) rfl ?_); refine zC (some 8) rfl rfl Try.func15 rfl #[.agg #[.string a0_0, .slice A0_1 l0_1.length c0_1]] rfl ?_; (with_reducible refine (spec_MemoryOk.calls k a0_0 _ _ l0_1 true _ ?side1 ?side2 A7.out).mono ?_); (case side1 => repeat (first | exact (cb HR0_1.out HB.out) | (with_reducible first | refine ca ?_ _ | refine cn ?_ _ | refine ce ?_))); (case side2 => exact HC0_1.out); rintro e w19 ⟨rfl, hb⟩; refine ⟨_, rfl, ?_⟩; have n0_ := Am (zK BK235 hb); have n1_ := Am (zK BK236 hb); have n2_ := Am (bq zG hb); clear BK235; clear BK236; clear HB; have BK235 := n0_; have BK236 := n1_; have HB := n2_; clear n0_ n1_ n2_; (try clear hb)))
    go_meet
    case rel => exact ⟨_, (true), (by first | rfl | (simp; done) | (simp [*]; done)), H', ⟨by first | omega | exact Nat.le_refl _⟩, ⟨by (with_reducible repeat (first | refine kn ?_ _ | refine ke ?_ | refine ka ?_ _)); exact BK235.out⟩, ⟨by (with_reducible repeat (first | refine kn ?_ _ | refine ke ?_ | refine ka ?_ _)); exact BK236.out⟩, ⟨zG⟩⟩
  ·replace c8 := Bool.eq_false_iff.mpr c8
   subst c8
   have H1 : (spec_StoreWord.j0 k a1 a2 true a0_0 l0_1) = some (r1, r2) := by rw [if_neg (show ¬ (false = true) by decide)] at H; exact H
   clear H
   have H := H1
   clear H1
   have H' := Am H
   clear H
   have hnb20 := NB235_236.out
   have hnc20 := NB236_235.out
   obtain ⟨hcz21_0, hcz21_1⟩ := kc2 (w := w6) BK235.out
   have hfz21_0 := kf BK235.out
   go_wp2_with (first | ((with_reducible refine gate_callee (f := 15) rfl ?_); refine zC (some 8) rfl rfl Try.func15 rfl #[.agg #[.string a0_0, .slice A0_1 l0_1.length c0_1]] rfl ?_; (with_reducible refine (spec_MemoryOk.calls k a0_0 _ _ l0_1 false _ ?side1 ?side2 A7.out).mono ?_); (case side1 => repeat (first | exact (cb HR0_1.out HB.out) | (with_reducible first | refine ca ?_ _ | refine cn ?_ _ | refine ce ?_))); (case side2 => exact HC0_1.out); rintro e w22 ⟨rfl, hb⟩; refine ⟨_, rfl, ?_⟩; have n0_ := Am (zK BK235 hb); have n1_ := Am (zK BK236 hb); have n2_ := Am (bq zG hb); clear BK235; clear BK236; clear HB; have BK235 := n0_; have BK236 := n1_; have HB := n2_; clear n0_ n1_ n2_; (try clear hb)))
   go_meet
   case rel => exact ⟨_, (true), (by first | rfl | (simp; done) | (simp [*]; done)), H', ⟨by first | omega | exact Nat.le_refl _⟩, ⟨by (with_reducible repeat (first | refine kn ?_ _ | refine ke ?_ | refine ka ?_ _)); exact BK235.out⟩, ⟨by (with_reducible repeat (first | refine kn ?_ _ | refine ke ?_ | refine ka ?_ _)); exact BK236.out⟩, ⟨zG⟩⟩
 case rest =>
  clear HC4
  try clear c1; try clear c2; try clear p2; try clear c5; try clear p6; try clear c8; try clear c9; try clear c9b0; try clear c9b1; try clear c12; try clear c15; try clear c17; try clear c20; try clear hcz13_0; try clear hcz13_1; try clear hcz15_0; try clear hcz15_1; try clear hcz18_0; try clear hcz18_1; try clear hcz21_0; try clear hcz21_1; try clear hfz13_0; try clear hfz13_1; try clear hfz15_0; try clear hfz15_1; try clear hfz18_0; try clear hfz18_1; try clear hfz21_0; try clear hfz21_1
  obtain ⟨kq, x22_3, rfl, HA, HJ3, BK235, BK236, HB⟩ := hcut
  cases kq with
  | zero => exact absurd HA.out (by simp [spec_StoreWord.j0])
  | succ kj3 =>
   have H := HA.out
   clear HA
   simp only [spec_StoreWord.j0] at H
   by_cases c23 : x22_3 = true
   ·subst c23
    have H1 : ((spec_l10Copy.f a0_0 l0_1).bind fun bt240 => (some (bt240.1, bt240.2))) = some (r1, r2) := by rw [if_pos rfl] at H; exact H
    clear H
    have H := H1
    clear H1
    replace H := Option.bind_eq_some_iff.mp H
    obtain ⟨⟨t240, t241⟩, A240, H⟩ := H
    replace H : (some (t240, t241)) = some (r1, r2) := H
    have A24 := Am A240
    clear A240
    simp only [Option.some.injEq, Prod.mk.injEq] at H
    obtain ⟨rfl, rfl⟩ := H
    have hnb25 := NB235_236.out
    have hnc25 := NB236_235.out
    obtain ⟨hcz26_0, hcz26_1⟩ := kc2 (w := wc) BK235.out
    have hfz26_0 := kf BK235.out
    go_wp2_with (first | ((with_reducible refine gate_callee (f := 22) rfl ?_); refine zC (some 24) rfl rfl Try.func22 rfl #[.agg #[.string a0_0, .slice A0_1 l0_1.length c0_1]] rfl ?_; (with_reducible refine (spec_l10Copy.calls a0_0 _ _ l0_1 t240 t241 _ ?side1 ?side2 A24.out).mono ?_); (case side1 => repeat (first | exact (cb HR0_1.out HB.out) | (with_reducible first | refine ca ?_ _ | refine cn ?_ _ | refine ce ?_))); (case side2 => exact HC0_1.out); rintro e w27 ⟨v242, rfl, ho0, hb⟩; refine ⟨_, rfl, ?_⟩; have n0_ := Am (Kd.R_lower ho0 (bz zG)); have n1_ := Am (zK BK235 hb); have n2_ := Am (zK BK236 hb); have n3_ := Am (bq zG hb); clear BK235; clear BK236; clear HB; have HO243 := n0_; have BK235 := n1_; have BK236 := n2_; have HB := n3_; clear n0_ n1_ n2_ n3_; (try clear hb ho0); obtain ⟨hcz28_0, hcz28_1⟩ := kc2 (w := w27) BK236.out; have hfz28_0 := kf BK236.out; obtain ⟨Ao29, co29, eo29⟩ := Kd.R_slice HO243.out; subst eo29))
    refine bodyPost_ret (results_cell_row rfl _ _ gb236 28 #[.string t240, .slice Ao29 t241.length co29] (0, 0) _ rfl (by (with_reducible repeat (first | refine kn ?_ _ | refine ke ?_ | refine ka ?_ _)); refine kp (cs := #[.string t240, .slice none 0 0]) ?_ 1 _ rfl; (with_reducible repeat (first | refine kn ?_ _ | refine ke ?_ | refine ka ?_ _)); refine kp (cs := #[.string (⟨#[]⟩ : ByteArray), .slice none 0 0]) ?_ 0 _ rfl; (with_reducible repeat (first | refine kn ?_ _ | refine ke ?_ | refine ka ?_ _)); exact BK236.out) Try.underlying28 rfl (by kernel_rfl)) rfl ?_
    exact ⟨_, zR, by (with_reducible repeat (first | apply ra | apply rn | apply re)); exact Kd.R_mono (Kd.R_far (p := ⟨gb236, 1, none⟩) (Kd.R_far (p := ⟨gb236, 0, none⟩) (Kd.R_types HO243.out BK236.out (by decide)) (fun _ hk => hk.2) (.string t240)) (fun _ hk => hk.2) (.slice Ao29 t241.length co29)) (fun _ hk => trivial), zG⟩
   ·replace c23 := Bool.eq_false_iff.mpr c23
    subst c23
    have H1 : ((spec_l10Store.f kj3 a0_0 l0_1 a1 a2).bind fun bt244 => (some (bt244.1, bt244.2))) = some (r1, r2) := by rw [if_neg (show ¬ (false = true) by decide)] at H; exact H
    clear H
    have H := H1
    clear H1
    replace H := Option.bind_eq_some_iff.mp H
    obtain ⟨⟨t244, t245⟩, A300, H⟩ := H
    replace H : (some (t244, t245)) = some (r1, r2) := H
    have A30 := Am A300
    clear A300
    simp only [Option.some.injEq, Prod.mk.injEq] at H
    obtain ⟨rfl, rfl⟩ := H
    have hnb31 := NB235_236.out
    have hnc31 := NB236_235.out
    obtain ⟨hcz32_0, hcz32_1⟩ := kc2 (w := wc) BK235.out
    have hfz32_0 := kf BK235.out
    go_wp2_with (first | ((with_reducible refine gate_callee (f := 67) rfl ?_); refine zC (some 28) rfl rfl Try.func67 rfl #[.agg #[.string a0_0, .slice A0_1 l0_1.length c0_1], .int .i64 a1, .string a2] rfl ?_; (with_reducible refine (spec_l10Store.calls kj3 a0_0 _ _ l0_1 a1 a2 t244 t245 _ ?side1 ?side2 A30.out).mono ?_); (case side1 => repeat (first | exact (cb HR0_1.out HB.out) | (with_reducible first | refine ca ?_ _ | refine cn ?_ _ | refine ce ?_))); (case side2 => exact HC0_1.out); rintro e w33 ⟨v246, rfl, ho0, hb⟩; refine ⟨_, rfl, ?_⟩; have n0_ := Am (Kd.R_lower ho0 (bz zG)); have n1_ := Am (zK BK235 hb); have n2_ := Am (zK BK236 hb); have n3_ := Am (bq zG hb); clear BK235; clear BK236; clear HB; have HO247 := n0_; have BK235 := n1_; have BK236 := n2_; have HB := n3_; clear n0_ n1_ n2_ n3_; (try clear hb ho0); obtain ⟨hcz34_0, hcz34_1⟩ := kc2 (w := w33) BK236.out; have hfz34_0 := kf BK236.out; obtain ⟨Ao35, co35, eo35⟩ := Kd.R_slice HO247.out; subst eo35))
    refine bodyPost_ret (results_cell_row rfl _ _ gb236 28 #[.string t244, .slice Ao35 t245.length co35] (0, 0) _ rfl (by (with_reducible repeat (first | refine kn ?_ _ | refine ke ?_ | refine ka ?_ _)); refine kp (cs := #[.string t244, .slice none 0 0]) ?_ 1 _ rfl; (with_reducible repeat (first | refine kn ?_ _ | refine ke ?_ | refine ka ?_ _)); refine kp (cs := #[.string (⟨#[]⟩ : ByteArray), .slice none 0 0]) ?_ 0 _ rfl; (with_reducible repeat (first | refine kn ?_ _ | refine ke ?_ | refine ka ?_ _)); exact BK236.out) Try.underlying28 rfl (by kernel_rfl)) rfl ?_
    exact ⟨_, zR, by (with_reducible repeat (first | apply ra | apply rn | apply re)); exact Kd.R_mono (Kd.R_far (p := ⟨gb236, 1, none⟩) (Kd.R_far (p := ⟨gb236, 0, none⟩) (Kd.R_types HO247.out BK236.out (by decide)) (fun _ hk => hk.2) (.string t244)) (fun _ hk => hk.2) (.slice Ao35 t245.length co35)) (fun _ hk => trivial), zG⟩

/-! ### spec_l01Text: function 57 -/
mutual
def spec_l01Text.j0 : Nat → Int → List Int → Int → Int → Option (ByteArray × Int × Int)
 | 0, _, _, _, _ => none
 | k + 1, x1, x1000, x1001, x1002 => spec_l01Text.l0 k x1 (([] : List Int)) 0 x1000 x1001 x1002
def spec_l01Text.l0 : Nat → Int → List Int → Int → List Int → Int → Int → Option (ByteArray × Int × Int)
 | 0, _, _, _, _, _, _ => none
 | k + 1, x1, x5, x6, x1000, x1001, x1002 => if x6 < x1 then ((spec_l01Byte.f x1000 x1001 x1002).bind fun bt251 => (if x5.length < 140737488355328 then (spec_l01Text.l0 k x1 (x5 ++ [(bt251.1) % 256]) (wrap64 (x6 + 1)) x1000 bt251.2.1 bt251.2.2) else (none))) else (some (strOfNums x5, x1001, x1002))
end
def spec_l01Text.f (k : Nat) (s0_0 : List Int) (s0_1 : Int) (s0_2 : Int) (a1 : Int) : Option (ByteArray × Int × Int) := if a1 > 5000 then (spec_l01Text.j0 k 5000 s0_0 s0_1 s0_2) else (spec_l01Text.j0 k a1 s0_0 s0_1 s0_2)
theorem spec_l01Text.mono_l : ∀ k, (∀ y0 y1 y2 y3, LeO (spec_l01Text.j0 k y0 y1 y2 y3) (spec_l01Text.j0 (k + 1) y0 y1 y2 y3)) ∧ (∀ y0 y1 y2 y3 y4 y5, LeO (spec_l01Text.l0 k y0 y1 y2 y3 y4 y5) (spec_l01Text.l0 (k + 1) y0 y1 y2 y3 y4 y5))
 | 0 => ⟨fun _ _ _ _ r h => by simp [spec_l01Text.j0] at h, fun _ _ _ _ _ _ r h => by simp [spec_l01Text.l0] at h⟩
 | k + 1 => by
  obtain ⟨ih0, ih1⟩ := spec_l01Text.mono_l k
  refine ⟨?_, ?_⟩
  ·intro y0 y1 y2 y3
   unfold spec_l01Text.j0
   repeat' first
   | (with_reducible exact ih0 _ _ _ _)
   | (with_reducible exact ih1 _ _ _ _ _ _)
   | (with_reducible exact LeO.refl _)
   | (with_reducible exact LeO.none _)
   | (with_reducible refine LeO.ite ?_ ?_)
   | (with_reducible refine LeO.bind ?_ (fun _ => ?_))
   | exact ih0 _ _ _ _
   | exact ih1 _ _ _ _ _ _
   | exact LeO.none _
   | refine LeO.ite ?_ ?_
   | refine LeO.bind ?_ (fun _ => ?_)
  ·intro y0 y1 y2 y3 y4 y5
   unfold spec_l01Text.l0
   repeat' first
   | (with_reducible exact ih0 _ _ _ _)
   | (with_reducible exact ih1 _ _ _ _ _ _)
   | (with_reducible exact LeO.refl _)
   | (with_reducible exact LeO.none _)
   | (with_reducible refine LeO.ite ?_ ?_)
   | (with_reducible refine LeO.bind ?_ (fun _ => ?_))
   | exact ih0 _ _ _ _
   | exact ih1 _ _ _ _ _ _
   | exact LeO.none _
   | refine LeO.ite ?_ ?_
   | refine LeO.bind ?_ (fun _ => ?_)
theorem spec_l01Text.mono : ∀ a0 a1 a2 a3 k, LeO (spec_l01Text.f k a0 a1 a2 a3) (spec_l01Text.f (k + 1) a0 a1 a2 a3) := by
 intro a0 a1 a2 a3 k
 obtain ⟨ih0, ih1⟩ := spec_l01Text.mono_l k
 unfold spec_l01Text.f
 repeat' first
   | (with_reducible exact ih0 _ _ _ _)
   | (with_reducible exact ih1 _ _ _ _ _ _)
   | (with_reducible exact LeO.refl _)
   | (with_reducible exact LeO.none _)
   | (with_reducible refine LeO.ite ?_ ?_)
   | (with_reducible refine LeO.bind ?_ (fun _ => ?_))
   | exact ih0 _ _ _ _
   | exact ih1 _ _ _ _ _ _
   | exact LeO.none _
   | refine LeO.ite ?_ ?_
   | refine LeO.bind ?_ (fun _ => ?_)
set_option maxHeartbeats 8000000 in
set_option maxRecDepth 100000 in
theorem spec_l01Text.calls (k : Nat) (g : Nat) (s0_0 : List Int) (s0_1 : Int) (s0_2 : Int) (a1 : Int) (r1 : ByteArray) (r2 : Int) (r3 : Int) (w0 w : World) (hI : IsS72 w0 w g s0_0 s0_1 s0_2) (hB : Below w0.heap.size w0 w) (h : spec_l01Text.f k s0_0 s0_1 s0_2 a1 = some (r1, r2, r3)) :
  Calls Try.prog 57 #[.pointer (some ⟨g, 0, none⟩), .int .i64 a1] w fun e w' => e = .returned (.string r1) ∧ IsS72 w0 w' g s0_0 r2 r3 ∧ Below w0.heap.size w0 w' ∧ KeepBut w w' g none := by
 have HI0 := Am hI
 have HK := Am (KeepBut.refl w g none)
 have HL := Am hB.size
 clear hI
 have HW0 := Am hB.size
 have HB := Am hB
 clear hB
 have H : (if a1 > 5000 then (spec_l01Text.j0 k 5000 s0_0 s0_1 s0_2) else (spec_l01Text.j0 k a1 s0_0 s0_1 s0_2)) = some (r1, r2, r3) := h
 clear h
 have HC3 := Am H
 clear H
 go_enter Try.func57, Try.ntmps57
 go_upto_if 8 with (fail)
 go_cut [1] (fun v1 wc => ∃ (kq : Nat) (x1_2 : Int), v1 = .int .i64 x1_2 ∧ Aside0 (spec_l01Text.j0 kq x1_2 s0_0 s0_1 s0_2 = some (r1, r2, r3)) ∧ Aside0 (kq ≤ k) ∧ Aside0 (IsS72 w0 wc g s0_0 s0_1 s0_2) ∧ Aside0 (KeepBut w wc g none) ∧ Aside0 (Below w0.heap.size w0 wc))
 case first =>
  have H := HC3.out
  clear HC3
  by_cases c4 : a1 > 5000
  ·rw [if_pos c4] at H
   have c4b0 : decide (5000 < a1) = true := decide_eq_true c4
   clear c4
   (first | rw [c4b0] | (simp only [i64_w, i32_w]; rw [c4b0]) | skip)
   have H' := Am H
   clear H
   go_wp2
   go_meet
   case rel => exact ⟨_, (5000), (by first | rfl | (simp; done) | (simp [*]; done)), H', ⟨by first | omega | exact Nat.le_refl _⟩, ⟨by repeat (first | (with_reducible first | exact HI0.out | apply IsS72.alloc | apply IsS72.drewN | apply IsS72.drew | apply IsS72.set_1 | apply IsS72.set_2) | exact HI0.out)⟩, ⟨by repeat (first | (with_reducible first | exact HK.out | apply KeepBut.set_ | apply keep_drewN | apply keep_drew | apply keep_alloc) | exact HK.out)⟩, ⟨by repeat (first | (with_reducible first | exact HB.out | apply ba | apply bn | apply be | refine bs ?_ (IsS72.ge HI0.out)) | exact HB.out)⟩⟩
  ·rw [if_neg c4] at H
   have c4b0 : decide (5000 < a1) = false := decide_eq_false c4
   clear c4
   (first | rw [c4b0] | (simp only [i64_w, i32_w]; rw [c4b0]) | skip)
   have H' := Am H
   clear H
   go_wp2
   go_meet
   case rel => exact ⟨_, (a1), (by first | rfl | (simp; done) | (simp [*]; done)), H', ⟨by first | omega | exact Nat.le_refl _⟩, ⟨by repeat (first | (with_reducible first | exact HI0.out | apply IsS72.alloc | apply IsS72.drewN | apply IsS72.drew | apply IsS72.set_1 | apply IsS72.set_2) | exact HI0.out)⟩, ⟨by repeat (first | (with_reducible first | exact HK.out | apply KeepBut.set_ | apply keep_drewN | apply keep_drew | apply keep_alloc) | exact HK.out)⟩, ⟨by repeat (first | (with_reducible first | exact HB.out | apply ba | apply bn | apply be | refine bs ?_ (IsS72.ge HI0.out)) | exact HB.out)⟩⟩
 case rest =>
  clear HC3
  try clear p2; try clear c4; try clear c4b0
  obtain ⟨kq, x1_2, rfl, HA, HJ2, HI0, HK, HB⟩ := hcut
  cases kq with
  | zero => exact absurd HA.out (by simp [spec_l01Text.j0])
  | succ kj2 =>
   have H := HA.out
   clear HA
   simp only [spec_l01Text.j0] at H
   obtain ⟨y248, hy248⟩ : ∃ y_ : List Int, y_ = (([] : List Int)) := ⟨_, rfl⟩
   replace H : (spec_l01Text.l0 kj2 x1_2 y248 0 s0_0 s0_1 s0_2) = some (r1, r2, r3) := by first | (rw [hy248]; with_reducible exact H) | (have H2_ := (Option.bind_some _ _).symm.trans H; rw [hy248]; with_reducible exact H2_) | (have H2_ := (Option.bind_some _ _).symm.trans H; with_reducible exact H2_) | with_reducible exact H | (rw [hy248]; exact H) | exact H
   have Ny248 := Am hy248
   clear hy248
   have H' := Am H
   clear H
   go_wp2_with (first | ((with_reducible refine gate_dst (N := 9) rfl ?_); refine Kd.R_lit (Kd.int .u8) _ 5 ?hg (N := 9) ?hd (xs := ([] : List Int)) (inner := []) (ok := fun _ => True) (okp := fun _ => True) ?hr ?hp (fun _ hk => hk) trivial (Below.refl _ _) (Nat.le_refl _) (by simp) ?_; (case hd => rfl); (case hg => rfl); (case hr => first | (go_simp; done) | (go_simp; rfl)); (case hp => exact (Reps.none _ _)); intro v249 w5 ho6 hb hg_ hnew_; clear hg_ hnew_; (first | rw [← Ny248.out] at ho6 | (simp only [Int.reduceToNat] at ho6; rw [← Ny248.out] at ho6)); have HO250 := Am (Kd.R_lower ho6 (keep_size (w := w) (g := g) (row := none) (by repeat (first | (with_reducible first | exact HK.out | apply KeepBut.set_ | apply keep_drewN | apply keep_drew | apply keep_alloc) | exact HK.out)))); replace HK := Am (KeepBut.trans (by repeat (first | (with_reducible first | exact HK.out | apply KeepBut.set_ | apply keep_drewN | apply keep_drew | apply keep_alloc) | exact HK.out)) (KeepBut.of_below hb g none) (.inl rfl)); replace HB := Am (bq (by repeat (first | (with_reducible first | exact HB.out | apply ba | apply bn | apply be | refine bs ?_ (IsS72.ge HI0.out)) | exact HB.out)) hb); replace HI0 := Am (IsS72.below (by repeat (first | (with_reducible first | exact HI0.out | apply IsS72.alloc | apply IsS72.drewN | apply IsS72.drew | apply IsS72.set_1 | apply IsS72.set_2) | exact HI0.out)) hb); clear hb ho6))
   go_loopg [5, 6] kj2 (fun kq v5 v6 w' => ∃ (x5_2 : List Int) (x6_2 : Int) (x1001_2 : Int) (x1002_2 : Int), v6 = .int .i64 x6_2 ∧ Aside0 (spec_l01Text.l0 kq x1_2 x5_2 x6_2 s0_0 x1001_2 x1002_2 = some (r1, r2, r3)) ∧ Aside0 (kq ≤ kj2) ∧ Aside0 (Kd.R (Kd.int .u8) 5 w' w.heap.size (fun _ => True) v5 x5_2) ∧ Aside0 (IsS72 w0 w' g s0_0 x1001_2 x1002_2) ∧ Aside0 (KeepBut w w' g none) ∧ Aside0 (Below w0.heap.size w0 w'))
   case atStart => exact ⟨(y248), (0), (s0_1), (s0_2), (by first | rfl | (simp; done) | (simp [*]; done)), H', ⟨Nat.le_refl _⟩, ⟨by (with_reducible repeat (first | apply ra | apply rn | apply re)); exact HO250.out⟩, ⟨by repeat (first | (with_reducible first | exact HI0.out | apply IsS72.alloc | apply IsS72.drewN | apply IsS72.drew | apply IsS72.set_1 | apply IsS72.set_2) | exact HI0.out)⟩, ⟨by repeat (first | (with_reducible first | exact HK.out | apply KeepBut.set_ | apply keep_drewN | apply keep_drew | apply keep_alloc) | exact HK.out)⟩, ⟨by repeat (first | (with_reducible first | exact HB.out | apply ba | apply bn | apply be | refine bs ?_ (IsS72.ge HI0.out)) | exact HB.out)⟩⟩
   case round =>
    clear H'
    try clear p2; try clear c4; try clear c4b0; try clear c5; try clear p2
    obtain ⟨x5_2, x6_2, x1001_2, x1002_2, rfl, HA, HK2, HO_5, HI0, HK, HB⟩ := hrel
    cases gk with
    | zero => exact absurd HA.out (by simp [spec_l01Text.l0])
    | succ k2 =>
     have H := HA.out
     clear HA
     simp only [spec_l01Text.l0] at H
     by_cases c7 : x6_2 < x1_2
     ·rw [if_pos c7] at H
      have c7b0 : decide (x6_2 < x1_2) = true := decide_eq_true c7
      clear c7
      replace H := Option.bind_eq_some_iff.mp H
      obtain ⟨⟨t251, t252, t253⟩, A80, H⟩ := H
      replace H : (if x5_2.length < 140737488355328 then (spec_l01Text.l0 k2 x1_2 (x5_2 ++ [(t251) % 256]) (wrap64 (x6_2 + 1)) s0_0 t252 t253) else (none)) = some (r1, r2, r3) := H
      have A8 := Am A80
      clear A80
      by_cases c9 : x5_2.length < 140737488355328
      ·rw [if_pos c9] at H
       have LMc9 := Am c9
       clear c9
       obtain ⟨y254, hy254⟩ : ∃ y_ : List Int, y_ = (x5_2 ++ [(t251) % 256]) := ⟨_, rfl⟩
       replace H : (spec_l01Text.l0 k2 x1_2 y254 (wrap64 (x6_2 + 1)) s0_0 t252 t253) = some (r1, r2, r3) := by first | (rw [hy254]; with_reducible exact H) | (have H2_ := (Option.bind_some _ _).symm.trans H; rw [hy254]; with_reducible exact H2_) | (have H2_ := (Option.bind_some _ _).symm.trans H; with_reducible exact H2_) | with_reducible exact H | (rw [hy254]; exact H) | exact H
       have Ny254 := Am hy254
       clear hy254
       have H' := Am H
       clear H
       go_wp2_with (first | ((with_reducible refine gate_callee (f := 58) rfl ?_); refine zC (some 17) rfl rfl Try.func58 rfl #[.pointer (some ⟨g, 0, none⟩)] rfl ?_; (with_reducible refine (spec_l01Byte.calls g s0_0 x1001_2 x1002_2 t251 t252 t253 w0 _ ?side1 ?side2 A8.out).mono ?_); (case side1 => repeat (first | (with_reducible first | exact HI0.out | apply IsS72.alloc | apply IsS72.drewN | apply IsS72.drew | apply IsS72.set_1 | apply IsS72.set_2) | exact HI0.out)); (case side2 => repeat (first | (with_reducible first | exact HB.out | apply ba | apply bn | apply be | refine bs ?_ (IsS72.ge HI0.out)) | exact HB.out)); rintro e w10 ⟨rfl, hi, hb, hk⟩; refine ⟨_, rfl, ?_⟩; replace HO_5 := Am (Kd.R_mono (Kd.R_keep (IsS72.apart (show IsS72 w0 _ g s0_0 x1001_2 x1002_2 from by repeat (first | (with_reducible first | exact HI0.out | apply IsS72.alloc | apply IsS72.drewN | apply IsS72.drew | apply IsS72.set_1 | apply IsS72.set_2) | exact HI0.out)) (by (with_reducible repeat (first | apply ra | apply rn | apply re)); exact HO_5.out) (by decide)) hk (fun _ h => h.2)) (fun _ h => h.1)); replace HK := Am (KeepBut.trans (by repeat (first | (with_reducible first | exact HK.out | apply KeepBut.set_ | apply keep_drewN | apply keep_drew | apply keep_alloc) | exact HK.out)) hk (.inl rfl)); replace HB := Am (hb); replace HI0 := Am (hi); (try clear hb hk hi)) | ((with_reducible refine gate_builtin (b := .append) (xs := #[.tmp 15, .tmp 19]) rfl ?_); at_builtin; refine Kd.R_append (Kd.int .u8) w.heap.size rfl (.tmp 15) (.tmp 19) 34 5 (.int .u8 0) 1 rfl Try.underlying34 info5 rfl (by decide) (by omega) u5 x5_2 ((t251) % 256) [.int .u8 ((t251) % 256)] (fun _ => True) (fun _ => False) rfl rfl ?aP (fun _ hk => hk.elim) ?aF ?aO (Below.refl _ _) ?aS ?aL ?_; (case aP => exact rfl); (case aF => exact (fun _ _ => trivial)); (case aO => exact (by (with_reducible repeat (first | apply ra | apply rn | apply re)); exact HO_5.out)); (case aS => exact (keep_size (w := w) (g := g) (row := none) (by repeat (first | (with_reducible first | exact HK.out | apply KeepBut.set_ | apply keep_drewN | apply keep_drew | apply keep_alloc) | exact HK.out)))); (case aL => have := LMc9.out; omega); intro v255 w11 ho hb hg hat; rw [← Ny254.out] at ho; have n0_ := Am (IsS72.grown (by repeat (first | (with_reducible first | exact HI0.out | apply IsS72.alloc | apply IsS72.drewN | apply IsS72.drew | apply IsS72.set_1 | apply IsS72.set_2) | exact HI0.out)) hg (IsS72.own_ne HI0.out HO_5.out (by decide))); have n1_ := Am (below_weaken (by repeat (first | (with_reducible first | exact HB.out | apply ba | apply bn | apply be | refine bs ?_ (IsS72.ge HI0.out)) | exact HB.out)) HL.out hb); have n2_ := Am (KeepBut.trans (by repeat (first | (with_reducible first | exact HK.out | apply KeepBut.set_ | apply keep_drewN | apply keep_drew | apply keep_alloc) | exact HK.out)) (KeepBut.of_grown hg g) (Kd.R_base2 HO_5.out)); have n3_ := Am (ho); clear HI0; clear HB; clear HK; clear HO_5; have HI0 := n0_; have HB := n1_; have HK := n2_; have HO256 := n3_; clear n0_ n1_ n2_ n3_; clear ho hb hg hat))
       go_roundg k2
       case measure => have := HJ2.out; have := HK2.out; omega
       case rel => exact ⟨(y254), (wrap64 (x6_2 + 1)), (t252), (t253), (by first | rfl | (simp; done) | (simp [*]; done)), H', ⟨by have := HJ2.out; have := HK2.out; omega⟩, ⟨by (with_reducible repeat (first | apply ra | apply rn | apply re)); exact HO256.out⟩, ⟨by repeat (first | (with_reducible first | exact HI0.out | apply IsS72.alloc | apply IsS72.drewN | apply IsS72.drew | apply IsS72.set_1 | apply IsS72.set_2) | exact HI0.out)⟩, ⟨by repeat (first | (with_reducible first | exact HK.out | apply KeepBut.set_ | apply keep_drewN | apply keep_drew | apply keep_alloc) | exact HK.out)⟩, ⟨by repeat (first | (with_reducible first | exact HB.out | apply ba | apply bn | apply be | refine bs ?_ (IsS72.ge HI0.out)) | exact HB.out)⟩⟩
      ·rw [if_neg c9] at H
       exact absurd H (by simp)
     ·rw [if_neg c7] at H
      have c7b0 : decide (x6_2 < x1_2) = false := decide_eq_false c7
      clear c7
      simp only [Option.some.injEq, Prod.mk.injEq] at H
      obtain ⟨rfl, rfl, rfl⟩ := H
      have hcv12 := own_string (P := Try.prog) Try.underlying34 Try.underlying5 Try.underlying9 (Kd.own_of_R HO_5.out)
      go_wp2
      go_ret
      exact ⟨zR, by repeat (first | (with_reducible first | exact HI0.out | apply IsS72.alloc | apply IsS72.drewN | apply IsS72.drew | apply IsS72.set_1 | apply IsS72.set_2) | exact HI0.out), by repeat (first | (with_reducible first | exact HB.out | apply ba | apply bn | apply be | refine bs ?_ (IsS72.ge HI0.out)) | exact HB.out), by repeat (first | (with_reducible first | exact HK.out | apply KeepBut.set_ | apply keep_drewN | apply keep_drew | apply keep_alloc) | exact HK.out)⟩

/-! ### spec_l10Memory: function 48 -/
def spec_l10Memory.l0 : Nat → Int → List Int → Int → Int → ByteArray → List (S49) → Option (ByteArray × (List (S49)) × Int × Int)
 | 0, _, _, _, _, _, _ => none
 | k + 1, x4, x1000, x1001, x1002, x266000, x266001 => (spec_l01Below.f x1000 x1001 x1002 12).bind fun bt266 => (if x4 < bt266.1 then ((spec_l01Below.f x1000 bt266.2.1 bt266.2.2 5).bind fun bt269 => (if bt269.1 = 0 then ((spec_Fence.f k x266000 x266001).bind fun bt272 => (spec_l10Memory.l0 k (wrap64 (x4 + 1)) x1000 bt269.2.1 bt269.2.2 bt272.1 bt272.2)) else (if bt269.1 = 1 then ((spec_l01Below.f x1000 bt269.2.1 bt269.2.2 5).bind fun bt276 => ((spec_FlushLine.f k x266000 x266001 bt276.1).bind fun bt279 => (spec_l10Memory.l0 k (wrap64 (x4 + 1)) x1000 bt276.2.1 bt276.2.2 bt279.1 bt279.2))) else ((spec_l01Below.f x1000 bt269.2.1 bt269.2.2 10).bind fun bt283 => ((spec_l01Text.f k x1000 bt283.2.1 bt283.2.2 8).bind fun bt286 => ((spec_StoreWord.f k x266000 x266001 bt283.1 bt286.1).bind fun bt289 => (spec_l10Memory.l0 k (wrap64 (x4 + 1)) x1000 bt286.2.1 bt286.2.2 bt289.1 bt289.2))))))) else (some (x266000, x266001, bt266.2.1, bt266.2.2)))
def spec_l10Memory.f (k : Nat) (s0_0 : List Int) (s0_1 : Int) (s0_2 : Int) : Option (ByteArray × (List (S49)) × Int × Int) := (spec_l01Below.f s0_0 s0_1 s0_2 5).bind fun bt258 => ((spec_MemoryNew.f k (wrap64 (1 + bt258.1))).bind fun bt261 => (spec_l10Memory.l0 k 0 s0_0 bt258.2.1 bt258.2.2 bt261.1 bt261.2))
theorem spec_l10Memory.mono_l : ∀ k, (∀ y0 y1 y2 y3 y4 y5, LeO (spec_l10Memory.l0 k y0 y1 y2 y3 y4 y5) (spec_l10Memory.l0 (k + 1) y0 y1 y2 y3 y4 y5))
 | 0 => fun _ _ _ _ _ _ r h => by simp [spec_l10Memory.l0] at h
 | k + 1 => by
  have ih0 := spec_l10Memory.mono_l k
  ·intro y0 y1 y2 y3 y4 y5
   unfold spec_l10Memory.l0
   repeat' first
   | (with_reducible exact ih0 _ _ _ _ _ _)
   | (with_reducible exact spec_Fence.mono _ _ _)
   | (with_reducible exact spec_FlushLine.mono _ _ _ _)
   | (with_reducible exact spec_MemoryNew.mono _ _)
   | (with_reducible exact spec_StoreWord.mono _ _ _ _ _)
   | (with_reducible exact spec_l01Text.mono _ _ _ _ _)
   | (with_reducible exact LeO.refl _)
   | (with_reducible exact LeO.none _)
   | (with_reducible refine LeO.ite ?_ ?_)
   | (with_reducible refine LeO.bind ?_ (fun _ => ?_))
   | exact ih0 _ _ _ _ _ _
   | exact spec_Fence.mono _ _ _
   | exact spec_FlushLine.mono _ _ _ _
   | exact spec_MemoryNew.mono _ _
   | exact spec_StoreWord.mono _ _ _ _ _
   | exact spec_l01Text.mono _ _ _ _ _
   | exact LeO.none _
   | refine LeO.ite ?_ ?_
   | refine LeO.bind ?_ (fun _ => ?_)
theorem spec_l10Memory.mono : ∀ a0 a1 a2 k, LeO (spec_l10Memory.f k a0 a1 a2) (spec_l10Memory.f (k + 1) a0 a1 a2) := by
 intro a0 a1 a2 k
 have ih0 := spec_l10Memory.mono_l k
 unfold spec_l10Memory.f
 repeat' first
   | (with_reducible exact ih0 _ _ _ _ _ _)
   | (with_reducible exact spec_Fence.mono _ _ _)
   | (with_reducible exact spec_FlushLine.mono _ _ _ _)
   | (with_reducible exact spec_MemoryNew.mono _ _)
   | (with_reducible exact spec_StoreWord.mono _ _ _ _ _)
   | (with_reducible exact spec_l01Text.mono _ _ _ _ _)
   | (with_reducible exact LeO.refl _)
   | (with_reducible exact LeO.none _)
   | (with_reducible refine LeO.ite ?_ ?_)
   | (with_reducible refine LeO.bind ?_ (fun _ => ?_))
   | exact ih0 _ _ _ _ _ _
   | exact spec_Fence.mono _ _ _
   | exact spec_FlushLine.mono _ _ _ _
   | exact spec_MemoryNew.mono _ _
   | exact spec_StoreWord.mono _ _ _ _ _
   | exact spec_l01Text.mono _ _ _ _ _
   | exact LeO.none _
   | refine LeO.ite ?_ ?_
   | refine LeO.bind ?_ (fun _ => ?_)
set_option maxHeartbeats 8000000 in
set_option maxRecDepth 100000 in
theorem spec_l10Memory.calls (k : Nat) (g : Nat) (s0_0 : List Int) (s0_1 : Int) (s0_2 : Int) (r1 : ByteArray) (r2 : List (S49)) (r3 : Int) (r4 : Int) (w0 w : World) (hI : IsS72 w0 w g s0_0 s0_1 s0_2) (hB : Below w0.heap.size w0 w) (h : spec_l10Memory.f k s0_0 s0_1 s0_2 = some (r1, r2, r3, r4)) :
  Calls Try.prog 48 #[.pointer (some ⟨g, 0, none⟩)] w fun e w' => ∃ v1_ : Value, e = .returned (.agg #[.string r1, v1_]) ∧ Kd.R k49 49 w' w.heap.size (fun _ => True) v1_ r2 ∧ IsS72 w0 w' g s0_0 r3 r4 ∧ Below w0.heap.size w0 w' ∧ KeepBut w w' g none := by
 have hu28 := Try.underlying28
 have HI0 := Am hI
 have HK := Am (KeepBut.refl w g none)
 have HL := Am hB.size
 clear hI
 have HW0 := Am hB.size
 have HB := Am hB
 clear hB
 have H : ((spec_l01Below.f s0_0 s0_1 s0_2 5).bind fun bt258 => ((spec_MemoryNew.f k (wrap64 (1 + bt258.1))).bind fun bt261 => (spec_l10Memory.l0 k 0 s0_0 bt258.2.1 bt258.2.2 bt261.1 bt261.2))) = some (r1, r2, r3, r4) := h
 clear h
 replace H := Option.bind_eq_some_iff.mp H
 obtain ⟨⟨t258, t259, t260⟩, A20, H⟩ := H
 replace H : ((spec_MemoryNew.f k (wrap64 (1 + t258))).bind fun bt261 => (spec_l10Memory.l0 k 0 s0_0 t259 t260 bt261.1 bt261.2)) = some (r1, r2, r3, r4) := H
 have A2 := Am A20
 clear A20
 replace H := Option.bind_eq_some_iff.mp H
 obtain ⟨⟨t261, t262⟩, A30, H⟩ := H
 replace H : (spec_l10Memory.l0 k 0 s0_0 t259 t260 t261 t262) = some (r1, r2, r3, r4) := H
 have A3 := Am A30
 clear A30
 have H' := Am H
 clear H
 go_enter Try.func48, Try.ntmps48
 go_wp2_with (first | ((with_reducible refine gate_dst (N := 2) rfl ?_); refine box_event ?hg (N := 2) ?hd (cs := #[.string (⟨#[]⟩ : ByteArray), .slice none 0 0]) (t := 28) ?hr ?_; (case hd => rfl); (case hg => rfl); (case hr => first | (go_simp; done) | (go_simp; rfl)); intro gb257 hg w4 hbox hb; replace HB := Am (bq (by repeat (first | (with_reducible first | exact HB.out | apply ba | apply bn | apply be | refine bs ?_ (IsS72.ge HI0.out)) | exact HB.out)) hb); have BK257 := Am (hbox); have GW257 := Am ((by rw [hg]; exact (keep_size (w := w) (g := g) (row := none) (by repeat (first | (with_reducible first | exact HK.out | apply KeepBut.set_ | apply keep_drewN | apply keep_drew | apply keep_alloc) | exact HK.out))) : w.heap.size ≤ gb257)); have GE257 := Am ((Nat.le_trans HW0.out (by rw [hg]; exact (keep_size (w := w) (g := g) (row := none) (by repeat (first | (with_reducible first | exact HK.out | apply KeepBut.set_ | apply keep_drewN | apply keep_drew | apply keep_alloc) | exact HK.out))) : w.heap.size ≤ gb257) : w0.heap.size ≤ gb257)); replace HK := Am (KeepBut.trans (by repeat (first | (with_reducible first | exact HK.out | apply KeepBut.set_ | apply keep_drewN | apply keep_drew | apply keep_alloc) | exact HK.out)) (KeepBut.of_below hb g none) (.inl rfl)); have NB0_257 := Am ((by rw [hg]; exact Nat.ne_of_lt (IsS72.lt (show IsS72 w0 _ g s0_0 s0_1 s0_2 from by repeat (first | (with_reducible first | exact HI0.out | apply IsS72.alloc | apply IsS72.drewN | apply IsS72.drew | apply IsS72.set_1 | apply IsS72.set_2) | exact HI0.out))) : g ≠ gb257)); have NB257_0 := Am ((by rw [hg]; exact Nat.ne_of_gt (IsS72.lt (show IsS72 w0 _ g s0_0 s0_1 s0_2 from by repeat (first | (with_reducible first | exact HI0.out | apply IsS72.alloc | apply IsS72.drewN | apply IsS72.drew | apply IsS72.set_1 | apply IsS72.set_2) | exact HI0.out))) : gb257 ≠ g)); replace HI0 := Am (IsS72.below (by repeat (first | (with_reducible first | exact HI0.out | apply IsS72.alloc | apply IsS72.drewN | apply IsS72.drew | apply IsS72.set_1 | apply IsS72.set_2) | exact HI0.out)) hb); clear hb hbox hg) | ((with_reducible refine gate_callee (f := 49) rfl ?_); refine zC (some 6) rfl rfl Try.func49 rfl #[.pointer (some ⟨g, 0, none⟩), .int .i64 5] rfl ?_; (with_reducible refine (spec_l01Below.calls g s0_0 s0_1 s0_2 5 t258 t259 t260 w0 _ ?side1 ?side2 A2.out).mono ?_); (case side1 => repeat (first | (with_reducible first | exact HI0.out | apply IsS72.alloc | apply IsS72.drewN | apply IsS72.drew | apply IsS72.set_1 | apply IsS72.set_2 | apply IsS72.far (hne := NB0_257.out)) | exact HI0.out)); (case side2 => repeat (first | (with_reducible first | exact HB.out | apply ba | apply bn | apply be | refine bs ?_ (IsS72.ge HI0.out) | refine bs ?_ GE257.out) | exact HB.out)); rintro e w5 ⟨rfl, hi, hb, hk⟩; refine ⟨_, rfl, ?_⟩; have n0_ := Am (KeepBut.blk hk (g' := gb257) (o := .cells #[.string (⟨#[]⟩ : ByteArray), .slice none 0 0] 28 (0, 0)) (by (with_reducible repeat (first | refine kn ?_ _ | refine ke ?_ | refine ka ?_ _)); exact BK257.out) NB257_0.out (by simp)); have n1_ := Am (KeepBut.trans (by repeat (first | (with_reducible first | exact HK.out | apply KeepBut.set_ | apply keep_drewN | apply keep_drew | apply keep_alloc | refine keep_far ?_ GW257.out _) | exact HK.out)) hk (.inl rfl)); have n2_ := Am (hb); have n3_ := Am (hi); clear BK257; clear HK; clear HB; clear HI0; have BK257 := n0_; have HK := n1_; have HB := n2_; have HI0 := n3_; clear n0_ n1_ n2_ n3_; (try clear hb hk hi)) | ((with_reducible refine gate_callee (f := 53) rfl ?_); refine zC (some 8) rfl rfl Try.func53 rfl #[.int .i64 (wrap64 (1 + t258))] rfl ?_; (with_reducible refine (spec_MemoryNew.calls k (wrap64 (1 + t258)) t261 t262 _ A3.out).mono ?_); rintro e w6 ⟨v263, rfl, ho0, hb⟩; refine ⟨_, rfl, ?_⟩; have n0_ := Am (Kd.R_lower ho0 (keep_size (w := w) (g := g) (row := none) (by repeat (first | (with_reducible first | exact HK.out | apply KeepBut.set_ | apply keep_drewN | apply keep_drew | apply keep_alloc | refine keep_far ?_ GW257.out _) | exact HK.out)))); have n1_ := Am (IsS72.below (by repeat (first | (with_reducible first | exact HI0.out | apply IsS72.alloc | apply IsS72.drewN | apply IsS72.drew | apply IsS72.set_1 | apply IsS72.set_2 | apply IsS72.far (hne := NB0_257.out)) | exact HI0.out)) hb); have n2_ := Am (zK BK257 hb); have n3_ := Am (KeepBut.trans (by repeat (first | (with_reducible first | exact HK.out | apply KeepBut.set_ | apply keep_drewN | apply keep_drew | apply keep_alloc | refine keep_far ?_ GW257.out _) | exact HK.out)) (KeepBut.of_below hb g none) (.inl rfl)); have n4_ := Am (bq (by repeat (first | (with_reducible first | exact HB.out | apply ba | apply bn | apply be | refine bs ?_ (IsS72.ge HI0.out) | refine bs ?_ GE257.out) | exact HB.out)) hb); clear HI0; clear BK257; clear HK; clear HB; have HO264 := n0_; have HI0 := n1_; have BK257 := n2_; have HK := n3_; have HB := n4_; clear n0_ n1_ n2_ n3_ n4_; (try clear hb ho0)) | ((with_reducible refine gate_dst (N := 3) rfl ?_); refine box_event ?hg (N := 3) ?hd (cs := #[.string (⟨#[]⟩ : ByteArray), .slice none 0 0]) (t := 28) ?hr ?_; (case hd => rfl); (case hg => rfl); (case hr => first | (go_simp; done) | (go_simp; rfl)); intro gb265 hg w7 hbox hb; have n0_ := Am (rb (by (with_reducible repeat (first | apply ra | apply rn | apply re)); exact HO264.out) hb); have n1_ := Am (IsS72.below (by repeat (first | (with_reducible first | exact HI0.out | apply IsS72.alloc | apply IsS72.drewN | apply IsS72.drew | apply IsS72.set_1 | apply IsS72.set_2 | apply IsS72.far (hne := NB0_257.out)) | exact HI0.out)) hb); have n2_ := Am (zK BK257 hb); have n3_ := Am (KeepBut.trans (by repeat (first | (with_reducible first | exact HK.out | apply KeepBut.set_ | apply keep_drewN | apply keep_drew | apply keep_alloc | refine keep_far ?_ GW257.out _) | exact HK.out)) (KeepBut.of_below hb g none) (.inl rfl)); have n4_ := Am (bq (by repeat (first | (with_reducible first | exact HB.out | apply ba | apply bn | apply be | refine bs ?_ (IsS72.ge HI0.out) | refine bs ?_ GE257.out) | exact HB.out)) hb); have n5_ := Am (hbox); have n6_ := Am ((by rw [hg]; exact (keep_size (w := w) (g := g) (row := none) (by repeat (first | (with_reducible first | exact HK.out | apply KeepBut.set_ | apply keep_drewN | apply keep_drew | apply keep_alloc | refine keep_far ?_ GW257.out _) | exact HK.out))) : w.heap.size ≤ gb265)); have n7_ := Am ((Nat.le_trans HW0.out (by rw [hg]; exact (keep_size (w := w) (g := g) (row := none) (by repeat (first | (with_reducible first | exact HK.out | apply KeepBut.set_ | apply keep_drewN | apply keep_drew | apply keep_alloc | refine keep_far ?_ GW257.out _) | exact HK.out))) : w.heap.size ≤ gb265) : w0.heap.size ≤ gb265)); have n8_ := Am ((by rw [hg]; exact Nat.ne_of_lt (zL BK257) : gb257 ≠ gb265)); have n9_ := Am ((by rw [hg]; exact Nat.ne_of_gt (zL BK257) : gb265 ≠ gb257)); have n10_ := Am ((by rw [hg]; exact Nat.ne_of_lt (IsS72.lt (show IsS72 w0 _ g s0_0 t259 t260 from by repeat (first | (with_reducible first | exact HI0.out | apply IsS72.alloc | apply IsS72.drewN | apply IsS72.drew | apply IsS72.set_1 | apply IsS72.set_2 | apply IsS72.far (hne := NB0_257.out)) | exact HI0.out))) : g ≠ gb265)); have n11_ := Am ((by rw [hg]; exact Nat.ne_of_gt (IsS72.lt (show IsS72 w0 _ g s0_0 t259 t260 from by repeat (first | (with_reducible first | exact HI0.out | apply IsS72.alloc | apply IsS72.drewN | apply IsS72.drew | apply IsS72.set_1 | apply IsS72.set_2 | apply IsS72.far (hne := NB0_257.out)) | exact HI0.out))) : gb265 ≠ g)); clear HO264; clear HI0; clear BK257; clear HK; clear HB; have HO264 := n0_; have HI0 := n1_; have BK257 := n2_; have HK := n3_; have HB := n4_; have BK265 := n5_; have GW265 := n6_; have GE265 := n7_; have NB257_265 := n8_; have NB265_257 := n9_; have NB0_265 := n10_; have NB265_0 := n11_; clear n0_ n1_ n2_ n3_ n4_ n5_ n6_ n7_ n8_ n9_ n10_ n11_; clear hb hbox hg; have hnb8 := NB265_257.out; have hnc8 := NB257_265.out; have hnb9 := NB265_0.out; have hnc9 := NB0_265.out; obtain ⟨hcz10_0, hcz10_1⟩ := kc2 (w := w7) BK265.out; have hfz10_0 := kf BK265.out; obtain ⟨Ao11, co11, eo11⟩ := Kd.R_slice HO264.out; subst eo11))
 go_loopg [4] k (fun kq v4 w' => ∃ (x4_1 : Int) (x1001_1 : Int) (x1002_1 : Int) (x266000_1 : ByteArray) (x266001_1 : List (S49)) (u266001 : Value), v4 = .int .i64 x4_1 ∧ Aside0 (spec_l10Memory.l0 kq x4_1 s0_0 x1001_1 x1002_1 x266000_1 x266001_1 = some (r1, r2, r3, r4)) ∧ Aside0 (kq ≤ k) ∧ Aside0 (Kd.R k49 49 w' w.heap.size (fun _ => True) u266001 x266001_1) ∧ Aside0 (w'.heap[gb257]? = some (.cells #[.string (⟨#[]⟩ : ByteArray), (.slice none 0 0)] 28 (0, 0))) ∧ Aside0 (w'.heap[gb265]? = some (.cells #[.string x266000_1, u266001] 28 (0, 0))) ∧ Aside0 (IsS72 w0 w' g s0_0 x1001_1 x1002_1) ∧ Aside0 (KeepBut w w' g none) ∧ Aside0 (Below w0.heap.size w0 w'))
 case atStart => exact ⟨(0), (t259), (t260), (t261), (t262), (.slice Ao11 t262.length co11), (by first | rfl | (simp; done) | (simp [*]; done)), H', ⟨Nat.le_refl _⟩, ⟨by (with_reducible repeat (first | apply ra | apply rn | apply re)); exact Kd.R_mono (Kd.R_far (p := ⟨gb265, 1, none⟩) (Kd.R_far (p := ⟨gb265, 0, none⟩) (Kd.R_types HO264.out BK265.out (by decide)) (fun _ hk => hk.2) (.string t261)) (fun _ hk => hk.2) (.slice Ao11 t262.length co11)) (fun _ hk => trivial)⟩, ⟨by (with_reducible repeat (first | refine kn ?_ _ | refine ke ?_ | refine ka ?_ _)); refine blk_far ?_ NB257_265.out _; (with_reducible repeat (first | refine kn ?_ _ | refine ke ?_ | refine ka ?_ _)); refine blk_far ?_ NB257_265.out _; (with_reducible repeat (first | refine kn ?_ _ | refine ke ?_ | refine ka ?_ _)); exact BK257.out⟩, ⟨by (with_reducible repeat (first | refine kn ?_ _ | refine ke ?_ | refine ka ?_ _)); refine kp (cs := #[.string t261, .slice none 0 0]) ?_ 1 _ rfl; (with_reducible repeat (first | refine kn ?_ _ | refine ke ?_ | refine ka ?_ _)); refine kp (cs := #[.string (⟨#[]⟩ : ByteArray), .slice none 0 0]) ?_ 0 _ rfl; (with_reducible repeat (first | refine kn ?_ _ | refine ke ?_ | refine ka ?_ _)); exact BK265.out⟩, ⟨by repeat (first | (with_reducible first | exact HI0.out | apply IsS72.alloc | apply IsS72.drewN | apply IsS72.drew | apply IsS72.set_1 | apply IsS72.set_2 | apply IsS72.far (hne := NB0_257.out) | apply IsS72.far (hne := NB0_265.out)) | exact HI0.out)⟩, ⟨by repeat (first | (with_reducible first | exact HK.out | apply KeepBut.set_ | apply keep_drewN | apply keep_drew | apply keep_alloc | refine keep_far ?_ GW257.out _ | refine keep_far ?_ GW265.out _) | exact HK.out)⟩, ⟨by repeat (first | (with_reducible first | exact HB.out | apply ba | apply bn | apply be | refine bs ?_ (IsS72.ge HI0.out) | refine bs ?_ GE257.out | refine bs ?_ GE265.out) | exact HB.out)⟩⟩
 case round =>
  clear H'
  try clear p2; try clear c4; try clear c5; try clear p6; try clear c8; try clear c9; try clear hcz10_0; try clear hcz10_1; try clear hfz10_0; try clear hfz10_1
  obtain ⟨x4_1, x1001_1, x1002_1, x266000_1, x266001_1, u266001, rfl, HA, HK1, HO_266001, BK257, BK265, HI0, HK, HB⟩ := hrel
  cases gk with
  | zero => exact absurd HA.out (by simp [spec_l10Memory.l0])
  | succ k1 =>
   have H := HA.out
   clear HA
   simp only [spec_l10Memory.l0] at H
   replace H := Option.bind_eq_some_iff.mp H
   obtain ⟨⟨t266, t267, t268⟩, A120, H⟩ := H
   replace H : (if x4_1 < t266 then ((spec_l01Below.f s0_0 t267 t268 5).bind fun bt269 => (if bt269.1 = 0 then ((spec_Fence.f k1 x266000_1 x266001_1).bind fun bt272 => (spec_l10Memory.l0 k1 (wrap64 (x4_1 + 1)) s0_0 bt269.2.1 bt269.2.2 bt272.1 bt272.2)) else (if bt269.1 = 1 then ((spec_l01Below.f s0_0 bt269.2.1 bt269.2.2 5).bind fun bt276 => ((spec_FlushLine.f k1 x266000_1 x266001_1 bt276.1).bind fun bt279 => (spec_l10Memory.l0 k1 (wrap64 (x4_1 + 1)) s0_0 bt276.2.1 bt276.2.2 bt279.1 bt279.2))) else ((spec_l01Below.f s0_0 bt269.2.1 bt269.2.2 10).bind fun bt283 => ((spec_l01Text.f k1 s0_0 bt283.2.1 bt283.2.2 8).bind fun bt286 => ((spec_StoreWord.f k1 x266000_1 x266001_1 bt283.1 bt286.1).bind fun bt289 => (spec_l10Memory.l0 k1 (wrap64 (x4_1 + 1)) s0_0 bt286.2.1 bt286.2.2 bt289.1 bt289.2))))))) else (some (x266000_1, x266001_1, t267, t268))) = some (r1, r2, r3, r4) := H
   have A12 := Am A120
   clear A120
   by_cases c13 : x4_1 < t266
   ·rw [if_pos c13] at H
    have c13b0 : decide (x4_1 < t266) = true := decide_eq_true c13
    clear c13
    replace H := Option.bind_eq_some_iff.mp H
    obtain ⟨⟨t269, t270, t271⟩, A140, H⟩ := H
    replace H : (if t269 = 0 then ((spec_Fence.f k1 x266000_1 x266001_1).bind fun bt272 => (spec_l10Memory.l0 k1 (wrap64 (x4_1 + 1)) s0_0 t270 t271 bt272.1 bt272.2)) else (if t269 = 1 then ((spec_l01Below.f s0_0 t270 t271 5).bind fun bt276 => ((spec_FlushLine.f k1 x266000_1 x266001_1 bt276.1).bind fun bt279 => (spec_l10Memory.l0 k1 (wrap64 (x4_1 + 1)) s0_0 bt276.2.1 bt276.2.2 bt279.1 bt279.2))) else ((spec_l01Below.f s0_0 t270 t271 10).bind fun bt283 => ((spec_l01Text.f k1 s0_0 bt283.2.1 bt283.2.2 8).bind fun bt286 => ((spec_StoreWord.f k1 x266000_1 x266001_1 bt283.1 bt286.1).bind fun bt289 => (spec_l10Memory.l0 k1 (wrap64 (x4_1 + 1)) s0_0 bt286.2.1 bt286.2.2 bt289.1 bt289.2)))))) = some (r1, r2, r3, r4) := H
    have A14 := Am A140
    clear A140
    by_cases c15 : t269 = 0
    ·rw [if_pos c15] at H
     have c15b0 : (t269 == 0) = true := beq_iff_eq.mpr c15
     have c15b1 : (t269 != 0) = false := bne_eq_false_iff_eq.mpr c15
     clear c15
     replace H := Option.bind_eq_some_iff.mp H
     obtain ⟨⟨t272, t273⟩, A160, H⟩ := H
     replace H : (spec_l10Memory.l0 k1 (wrap64 (x4_1 + 1)) s0_0 t270 t271 t272 t273) = some (r1, r2, r3, r4) := H
     have A16 := Am A160
     clear A160
     have H' := Am H
     clear H
     go_wp2_with (first | ((with_reducible refine gate_callee (f := 49) rfl ?_); refine zC (some 11) rfl rfl Try.func49 rfl #[.pointer (some ⟨g, 0, none⟩), .int .i64 12] rfl ?_; (with_reducible refine (spec_l01Below.calls g s0_0 x1001_1 x1002_1 12 t266 t267 t268 w0 _ ?side1 ?side2 A12.out).mono ?_); (case side1 => repeat (first | (with_reducible first | exact HI0.out | apply IsS72.alloc | apply IsS72.drewN | apply IsS72.drew | apply IsS72.set_1 | apply IsS72.set_2 | apply IsS72.far (hne := NB0_257.out) | apply IsS72.far (hne := NB0_265.out)) | exact HI0.out)); (case side2 => repeat (first | (with_reducible first | exact HB.out | apply ba | apply bn | apply be | refine bs ?_ (IsS72.ge HI0.out) | refine bs ?_ GE257.out | refine bs ?_ GE265.out) | exact HB.out)); rintro e w17 ⟨rfl, hi, hb, hk⟩; refine ⟨_, rfl, ?_⟩; have n0_ := Am (Kd.R_mono (Kd.R_keep (IsS72.apart (show IsS72 w0 _ g s0_0 x1001_1 x1002_1 from by repeat (first | (with_reducible first | exact HI0.out | apply IsS72.alloc | apply IsS72.drewN | apply IsS72.drew | apply IsS72.set_1 | apply IsS72.set_2 | apply IsS72.far (hne := NB0_257.out) | apply IsS72.far (hne := NB0_265.out)) | exact HI0.out)) (by (with_reducible repeat (first | apply ra | apply rn | apply re)); exact HO_266001.out) (by decide)) hk (fun _ h => h.2)) (fun _ h => h.1)); have n1_ := Am (KeepBut.blk hk (g' := gb257) (o := .cells #[.string (⟨#[]⟩ : ByteArray), .slice none 0 0] 28 (0, 0)) (by (with_reducible repeat (first | refine kn ?_ _ | refine ke ?_ | refine ka ?_ _)); exact BK257.out) NB257_0.out (by simp)); have n2_ := Am (KeepBut.blk hk (g' := gb265) (o := .cells #[.string x266000_1, u266001] 28 (0, 0)) (by (with_reducible repeat (first | refine kn ?_ _ | refine ke ?_ | refine ka ?_ _)); exact BK265.out) NB265_0.out (by simp)); have n3_ := Am (KeepBut.trans (by repeat (first | (with_reducible first | exact HK.out | apply KeepBut.set_ | apply keep_drewN | apply keep_drew | apply keep_alloc | refine keep_far ?_ GW257.out _ | refine keep_far ?_ GW265.out _) | exact HK.out)) hk (.inl rfl)); have n4_ := Am (hb); have n5_ := Am (hi); clear HO_266001; clear BK257; clear BK265; clear HK; clear HB; clear HI0; have HO_266001 := n0_; have BK257 := n1_; have BK265 := n2_; have HK := n3_; have HB := n4_; have HI0 := n5_; clear n0_ n1_ n2_ n3_ n4_ n5_; (try clear hb hk hi)) | ((with_reducible refine gate_callee (f := 49) rfl ?_); refine zC (some 16) rfl rfl Try.func49 rfl #[.pointer (some ⟨g, 0, none⟩), .int .i64 5] rfl ?_; (with_reducible refine (spec_l01Below.calls g s0_0 t267 t268 5 t269 t270 t271 w0 _ ?side1 ?side2 A14.out).mono ?_); (case side1 => repeat (first | (with_reducible first | exact HI0.out | apply IsS72.alloc | apply IsS72.drewN | apply IsS72.drew | apply IsS72.set_1 | apply IsS72.set_2 | apply IsS72.far (hne := NB0_257.out) | apply IsS72.far (hne := NB0_265.out)) | exact HI0.out)); (case side2 => repeat (first | (with_reducible first | exact HB.out | apply ba | apply bn | apply be | refine bs ?_ (IsS72.ge HI0.out) | refine bs ?_ GE257.out | refine bs ?_ GE265.out) | exact HB.out)); rintro e w18 ⟨rfl, hi, hb, hk⟩; refine ⟨_, rfl, ?_⟩; have n0_ := Am (Kd.R_mono (Kd.R_keep (IsS72.apart (show IsS72 w0 _ g s0_0 t267 t268 from by repeat (first | (with_reducible first | exact HI0.out | apply IsS72.alloc | apply IsS72.drewN | apply IsS72.drew | apply IsS72.set_1 | apply IsS72.set_2 | apply IsS72.far (hne := NB0_257.out) | apply IsS72.far (hne := NB0_265.out)) | exact HI0.out)) (by (with_reducible repeat (first | apply ra | apply rn | apply re)); exact HO_266001.out) (by decide)) hk (fun _ h => h.2)) (fun _ h => h.1)); have n1_ := Am (KeepBut.blk hk (g' := gb257) (o := .cells #[.string (⟨#[]⟩ : ByteArray), .slice none 0 0] 28 (0, 0)) (by (with_reducible repeat (first | refine kn ?_ _ | refine ke ?_ | refine ka ?_ _)); exact BK257.out) NB257_0.out (by simp)); have n2_ := Am (KeepBut.blk hk (g' := gb265) (o := .cells #[.string x266000_1, u266001] 28 (0, 0)) (by (with_reducible repeat (first | refine kn ?_ _ | refine ke ?_ | refine ka ?_ _)); exact BK265.out) NB265_0.out (by simp)); have n3_ := Am (KeepBut.trans (by repeat (first | (with_reducible first | exact HK.out | apply KeepBut.set_ | apply keep_drewN | apply keep_drew | apply keep_alloc | refine keep_far ?_ GW257.out _ | refine keep_far ?_ GW265.out _) | exact HK.out)) hk (.inl rfl)); have n4_ := Am (hb); have n5_ := Am (hi); clear HO_266001; clear BK257; clear BK265; clear HK; clear HB; clear HI0; have HO_266001 := n0_; have BK257 := n1_; have BK265 := n2_; have HK := n3_; have HB := n4_; have HI0 := n5_; clear n0_ n1_ n2_ n3_ n4_ n5_; (try clear hb hk hi); have hnb19 := NB265_257.out; have hnc19 := NB257_265.out; have hnb20 := NB265_0.out; have hnc20 := NB0_265.out; obtain ⟨hcz21_0, hcz21_1⟩ := kc2 (w := w18) BK265.out; have hfz21_0 := kf BK265.out; obtain ⟨Ao22, co22, eo22⟩ := Kd.R_slice HO_266001.out; subst eo22) | ((with_reducible refine gate_callee (f := 54) rfl ?_); refine zC (some 26) rfl rfl Try.func54 rfl #[.agg #[.string x266000_1, .slice Ao22 x266001_1.length co22]] rfl ?_; (with_reducible refine (spec_Fence.calls k1 x266000_1 _ _ x266001_1 t272 t273 _ ?side1 ?side2 A16.out).mono ?_); (case side1 => repeat (first | exact (Kd.R_reads' HO_266001.out).2.2 | (with_reducible first | refine ca ?_ _ | refine cn ?_ _ | refine ce ?_))); (case side2 => exact (Kd.R_reads' HO_266001.out).2.1); rintro e w23 ⟨v274, rfl, ho0, hb⟩; refine ⟨_, rfl, ?_⟩; have n0_ := Am (Kd.R_elder' (by (with_reducible repeat (first | apply ra | apply rn | apply re)); exact HO_266001.out) (Kd.R_base ho0) hb); have n1_ := Am (Kd.R_lower (Kd.R_new' ho0 (Kd.R_lt (by (with_reducible repeat (first | apply ra | apply rn | apply re)); exact HO_266001.out))) (keep_size (w := w) (g := g) (row := none) (by repeat (first | (with_reducible first | exact HK.out | apply KeepBut.set_ | apply keep_drewN | apply keep_drew | apply keep_alloc | refine keep_far ?_ GW257.out _ | refine keep_far ?_ GW265.out _) | exact HK.out)))); have n2_ := Am (zK BK257 hb); have n3_ := Am (zK BK265 hb); have n4_ := Am (IsS72.below (by repeat (first | (with_reducible first | exact HI0.out | apply IsS72.alloc | apply IsS72.drewN | apply IsS72.drew | apply IsS72.set_1 | apply IsS72.set_2 | apply IsS72.far (hne := NB0_257.out) | apply IsS72.far (hne := NB0_265.out)) | exact HI0.out)) hb); have n5_ := Am (KeepBut.trans (by repeat (first | (with_reducible first | exact HK.out | apply KeepBut.set_ | apply keep_drewN | apply keep_drew | apply keep_alloc | refine keep_far ?_ GW257.out _ | refine keep_far ?_ GW265.out _) | exact HK.out)) (KeepBut.of_below hb g none) (.inl rfl)); have n6_ := Am (bq (by repeat (first | (with_reducible first | exact HB.out | apply ba | apply bn | apply be | refine bs ?_ (IsS72.ge HI0.out) | refine bs ?_ GE257.out | refine bs ?_ GE265.out) | exact HB.out)) hb); clear HO_266001; clear BK257; clear BK265; clear HI0; clear HK; clear HB; have HO_266001 := n0_; have HO275 := n1_; have BK257 := n2_; have BK265 := n3_; have HI0 := n4_; have HK := n5_; have HB := n6_; clear n0_ n1_ n2_ n3_ n4_ n5_ n6_; (try clear hb ho0); obtain ⟨hcz24_0, hcz24_1⟩ := kc2 (w := w23) BK265.out; have hfz24_0 := kf BK265.out; obtain ⟨Ao25, co25, eo25⟩ := Kd.R_slice HO275.out; subst eo25))
     go_roundg k1
     case measure => have := HK1.out; omega
     case rel => exact ⟨(wrap64 (x4_1 + 1)), (t270), (t271), (t272), (t273), (.slice Ao25 t273.length co25), (by first | rfl | (simp; done) | (simp [*]; done)), H', ⟨by have := HK1.out; omega⟩, ⟨by (with_reducible repeat (first | apply ra | apply rn | apply re)); exact Kd.R_mono (Kd.R_far (p := ⟨gb265, 1, none⟩) (Kd.R_far (p := ⟨gb265, 0, none⟩) (Kd.R_types HO275.out BK265.out (by decide)) (fun _ hk => (by first | exact hk.2 | exact hk | exact hk.1 | exact hk.1.1 | exact hk.1.2 | exact hk.2.1 | exact hk.2.2 | exact hk.1.1.1 | exact hk.1.1.2 | exact hk.1.2.1 | exact hk.1.2.2 | exact hk.2.1.1 | exact hk.2.1.2 | exact hk.2.2.1 | exact hk.2.2.2)) (.string t272)) (fun _ hk => (by first | exact hk.2 | exact hk | exact hk.1 | exact hk.1.1 | exact hk.1.2 | exact hk.2.1 | exact hk.2.2 | exact hk.1.1.1 | exact hk.1.1.2 | exact hk.1.2.1 | exact hk.1.2.2 | exact hk.2.1.1 | exact hk.2.1.2 | exact hk.2.2.1 | exact hk.2.2.2)) (.slice Ao25 t273.length co25)) (fun _ hk => trivial)⟩, ⟨by (with_reducible repeat (first | refine kn ?_ _ | refine ke ?_ | refine ka ?_ _)); refine blk_far ?_ NB257_265.out _; (with_reducible repeat (first | refine kn ?_ _ | refine ke ?_ | refine ka ?_ _)); refine blk_far ?_ NB257_265.out _; (with_reducible repeat (first | refine kn ?_ _ | refine ke ?_ | refine ka ?_ _)); exact BK257.out⟩, ⟨by (with_reducible repeat (first | refine kn ?_ _ | refine ke ?_ | refine ka ?_ _)); refine kp (cs := #[.string t272, .slice Ao22 x266001_1.length co22]) ?_ 1 _ rfl; (with_reducible repeat (first | refine kn ?_ _ | refine ke ?_ | refine ka ?_ _)); refine kp (cs := #[.string x266000_1, .slice Ao22 x266001_1.length co22]) ?_ 0 _ rfl; (with_reducible repeat (first | refine kn ?_ _ | refine ke ?_ | refine ka ?_ _)); exact BK265.out⟩, ⟨by repeat (first | (with_reducible first | exact HI0.out | apply IsS72.alloc | apply IsS72.drewN | apply IsS72.drew | apply IsS72.set_1 | apply IsS72.set_2 | apply IsS72.far (hne := NB0_257.out) | apply IsS72.far (hne := NB0_265.out)) | exact HI0.out)⟩, ⟨by repeat (first | (with_reducible first | exact HK.out | apply KeepBut.set_ | apply keep_drewN | apply keep_drew | apply keep_alloc | refine keep_far ?_ GW257.out _ | refine keep_far ?_ GW265.out _) | exact HK.out)⟩, ⟨by repeat (first | (with_reducible first | exact HB.out | apply ba | apply bn | apply be | refine bs ?_ (IsS72.ge HI0.out) | refine bs ?_ GE257.out | refine bs ?_ GE265.out) | exact HB.out)⟩⟩
    ·rw [if_neg c15] at H
     have c15b0 : (t269 == 0) = false := beq_eq_false_iff_ne.mpr c15
     have c15b1 : (t269 != 0) = true := bne_iff_ne.mpr c15
     by_cases c26 : t269 = 1
     ·rw [if_pos c26] at H
      have c26b0 : (t269 == 1) = true := beq_iff_eq.mpr c26
      have c26b1 : (t269 != 1) = false := bne_eq_false_iff_eq.mpr c26
      clear c26
      replace H := Option.bind_eq_some_iff.mp H
      obtain ⟨⟨t276, t277, t278⟩, A270, H⟩ := H
      replace H : ((spec_FlushLine.f k1 x266000_1 x266001_1 t276).bind fun bt279 => (spec_l10Memory.l0 k1 (wrap64 (x4_1 + 1)) s0_0 t277 t278 bt279.1 bt279.2)) = some (r1, r2, r3, r4) := H
      have A27 := Am A270
      clear A270
      replace H := Option.bind_eq_some_iff.mp H
      obtain ⟨⟨t279, t280⟩, A280, H⟩ := H
      replace H : (spec_l10Memory.l0 k1 (wrap64 (x4_1 + 1)) s0_0 t277 t278 t279 t280) = some (r1, r2, r3, r4) := H
      have A28 := Am A280
      clear A280
      have H' := Am H
      clear H
      try go_wp2_with (first | ((with_reducible refine gate_callee (f := 49) rfl ?_); refine zC (some 11) rfl rfl Try.func49 rfl #[.pointer (some ⟨g, 0, none⟩), .int .i64 12] rfl ?_; (with_reducible refine (spec_l01Below.calls g s0_0 x1001_1 x1002_1 12 t266 t267 t268 w0 _ ?side1 ?side2 A12.out).mono ?_); (case side1 => repeat (first | (with_reducible first | exact HI0.out | apply IsS72.alloc | apply IsS72.drewN | apply IsS72.drew | apply IsS72.set_1 | apply IsS72.set_2 | apply IsS72.far (hne := NB0_257.out) | apply IsS72.far (hne := NB0_265.out)) | exact HI0.out)); (case side2 => repeat (first | (with_reducible first | exact HB.out | apply ba | apply bn | apply be | refine bs ?_ (IsS72.ge HI0.out) | refine bs ?_ GE257.out | refine bs ?_ GE265.out) | exact HB.out)); rintro e w29 ⟨rfl, hi, hb, hk⟩; refine ⟨_, rfl, ?_⟩; have n0_ := Am (Kd.R_mono (Kd.R_keep (IsS72.apart (show IsS72 w0 _ g s0_0 x1001_1 x1002_1 from by repeat (first | (with_reducible first | exact HI0.out | apply IsS72.alloc | apply IsS72.drewN | apply IsS72.drew | apply IsS72.set_1 | apply IsS72.set_2 | apply IsS72.far (hne := NB0_257.out) | apply IsS72.far (hne := NB0_265.out)) | exact HI0.out)) (by (with_reducible repeat (first | apply ra | apply rn | apply re)); exact HO_266001.out) (by decide)) hk (fun _ h => h.2)) (fun _ h => h.1)); have n1_ := Am (KeepBut.blk hk (g' := gb257) (o := .cells #[.string (⟨#[]⟩ : ByteArray), .slice none 0 0] 28 (0, 0)) (by (with_reducible repeat (first | refine kn ?_ _ | refine ke ?_ | refine ka ?_ _)); exact BK257.out) NB257_0.out (by simp)); have n2_ := Am (KeepBut.blk hk (g' := gb265) (o := .cells #[.string x266000_1, u266001] 28 (0, 0)) (by (with_reducible repeat (first | refine kn ?_ _ | refine ke ?_ | refine ka ?_ _)); exact BK265.out) NB265_0.out (by simp)); have n3_ := Am (KeepBut.trans (by repeat (first | (with_reducible first | exact HK.out | apply KeepBut.set_ | apply keep_drewN | apply keep_drew | apply keep_alloc | refine keep_far ?_ GW257.out _ | refine keep_far ?_ GW265.out _) | exact HK.out)) hk (.inl rfl)); have n4_ := Am (hb); have n5_ := Am (hi); clear HO_266001; clear BK257; clear BK265; clear HK; clear HB; clear HI0; have HO_266001 := n0_; have BK257 := n1_; have BK265 := n2_; have HK := n3_; have HB := n4_; have HI0 := n5_; clear n0_ n1_ n2_ n3_ n4_ n5_; (try clear hb hk hi)) | ((with_reducible refine gate_callee (f := 49) rfl ?_); refine zC (some 16) rfl rfl Try.func49 rfl #[.pointer (some ⟨g, 0, none⟩), .int .i64 5] rfl ?_; (with_reducible refine (spec_l01Below.calls g s0_0 t267 t268 5 t269 t270 t271 w0 _ ?side1 ?side2 A14.out).mono ?_); (case side1 => repeat (first | (with_reducible first | exact HI0.out | apply IsS72.alloc | apply IsS72.drewN | apply IsS72.drew | apply IsS72.set_1 | apply IsS72.set_2 | apply IsS72.far (hne := NB0_257.out) | apply IsS72.far (hne := NB0_265.out)) | exact HI0.out)); (case side2 => repeat (first | (with_reducible first | exact HB.out | apply ba | apply bn | apply be | refine bs ?_ (IsS72.ge HI0.out) | refine bs ?_ GE257.out | refine bs ?_ GE265.out) | exact HB.out)); rintro e w30 ⟨rfl, hi, hb, hk⟩; refine ⟨_, rfl, ?_⟩; have n0_ := Am (Kd.R_mono (Kd.R_keep (IsS72.apart (show IsS72 w0 _ g s0_0 t267 t268 from by repeat (first | (with_reducible first | exact HI0.out | apply IsS72.alloc | apply IsS72.drewN | apply IsS72.drew | apply IsS72.set_1 | apply IsS72.set_2 | apply IsS72.far (hne := NB0_257.out) | apply IsS72.far (hne := NB0_265.out)) | exact HI0.out)) (by (with_reducible repeat (first | apply ra | apply rn | apply re)); exact HO_266001.out) (by decide)) hk (fun _ h => h.2)) (fun _ h => h.1)); have n1_ := Am (KeepBut.blk hk (g' := gb257) (o := .cells #[.string (⟨#[]⟩ : ByteArray), .slice none 0 0] 28 (0, 0)) (by (with_reducible repeat (first | refine kn ?_ _ | refine ke ?_ | refine ka ?_ _)); exact BK257.out) NB257_0.out (by simp)); have n2_ := Am (KeepBut.blk hk (g' := gb265) (o := .cells #[.string x266000_1, u266001] 28 (0, 0)) (by (with_reducible repeat (first | refine kn ?_ _ | refine ke ?_ | refine ka ?_ _)); exact BK265.out) NB265_0.out (by simp)); have n3_ := Am (KeepBut.trans (by repeat (first | (with_reducible first | exact HK.out | apply KeepBut.set_ | apply keep_drewN | apply keep_drew | apply keep_alloc | refine keep_far ?_ GW257.out _ | refine keep_far ?_ GW265.out _) | exact HK.out)) hk (.inl rfl)); have n4_ := Am (hb); have n5_ := Am (hi); clear HO_266001; clear BK257; clear BK265; clear HK; clear HB; clear HI0; have HO_266001 := n0_; have BK257 := n1_; have BK265 := n2_; have HK := n3_; have HB := n4_; have HI0 := n5_; clear n0_ n1_ n2_ n3_ n4_ n5_; (try clear hb hk hi)))
      have n0_ := Am (re HO_266001.out)
      have n1_ := Am (ke BK257.out)
      have n2_ := Am (ke BK265.out)
      have n3_ := Am (IsS72.drew HI0.out)
      have n4_ := Am (keep_drew HK.out)
      have n5_ := Am (be HB.out)
      clear HO_266001
      clear BK257
      clear BK265
      clear HI0
      clear HK
      clear HB
      have HO_266001 := n0_
      have BK257 := n1_
      have BK265 := n2_
      have HI0 := n3_
      have HK := n4_
      have HB := n5_
      clear n0_ n1_ n2_ n3_ n4_ n5_
      refine start_ (n := 5) (S := fun w' => w'.cell? ⟨gb265, 0, none⟩ = some (.string x266000_1) ∧ w'.cell? ⟨gb265, 1, none⟩ = some (u266001)) (ds := [4]) #[false, false, false, false, false] (by kernel_rfl) rfl rfl ⟨(kc BK265.out 0).trans rfl, (kc BK265.out 1).trans rfl⟩ (fun hHeld => ?_)
      generalize w30.drew = w31 at HO_266001 BK257 BK265 HI0 HK HB hHeld ⊢
      refine yA 1 (some 30) rfl rfl ?_
      refine yT 0 (some 29) rfl rfl hHeld ?_
      refine yO 2 (some 31) rfl rfl (fun K hK => ?_)
      refine goes_ Try.func49 (by kernel_rfl) rfl #[.pointer (some ⟨g, 0, none⟩), .int .i64 5] (by rfl) rfl rfl (by (try simp only [List.map_toArray, List.map_cons, List.map_nil]); first | done | rfl | (simp only [List.length_drop, List.length_take]; rfl)) ?_
      with_reducible refine (spec_l01Below.calls g s0_0 t270 t271 5 t276 t277 t278 w0 _ ?side1 ?side2 A27.out).mono ?_
      (case side1 => repeat (first | (with_reducible first | exact HI0.out | apply IsS72.alloc | apply IsS72.drewN | apply IsS72.drew | apply IsS72.set_1 | apply IsS72.set_2 | apply IsS72.far (hne := NB0_257.out) | apply IsS72.far (hne := NB0_265.out)) | exact HI0.out))
      (case side2 => repeat (first | (with_reducible first | exact HB.out | apply ba | apply bn | apply be | refine bs ?_ (IsS72.ge HI0.out) | refine bs ?_ GE257.out | refine bs ?_ GE265.out) | exact HB.out))
      rintro e w32 ⟨rfl, hi, hb, hk⟩
      refine ⟨_, rfl, ?_⟩
      have n0_ := Am (Kd.R_mono (Kd.R_keep (IsS72.apart (show IsS72 w0 _ g s0_0 t270 t271 from by repeat (first | (with_reducible first | exact HI0.out | apply IsS72.alloc | apply IsS72.drewN | apply IsS72.drew | apply IsS72.set_1 | apply IsS72.set_2 | apply IsS72.far (hne := NB0_257.out) | apply IsS72.far (hne := NB0_265.out)) | exact HI0.out)) (by (with_reducible repeat (first | apply ra | apply rn | apply re)); exact HO_266001.out) (by decide)) hk (fun _ h => h.2)) (fun _ h => h.1))
      have n1_ := Am (KeepBut.blk hk (g' := gb257) (o := .cells #[.string (⟨#[]⟩ : ByteArray), .slice none 0 0] 28 (0, 0)) (by (with_reducible repeat (first | refine kn ?_ _ | refine ke ?_ | refine ka ?_ _)); exact BK257.out) NB257_0.out (by simp))
      have n2_ := Am (KeepBut.blk hk (g' := gb265) (o := .cells #[.string x266000_1, u266001] 28 (0, 0)) (by (with_reducible repeat (first | refine kn ?_ _ | refine ke ?_ | refine ka ?_ _)); exact BK265.out) NB265_0.out (by simp))
      have n3_ := Am (KeepBut.trans (by repeat (first | (with_reducible first | exact HK.out | apply KeepBut.set_ | apply keep_drewN | apply keep_drew | apply keep_alloc | refine keep_far ?_ GW257.out _ | refine keep_far ?_ GW265.out _) | exact HK.out)) hk (.inl rfl))
      have n4_ := Am (hb)
      have n5_ := Am (hi)
      clear HO_266001
      clear BK257
      clear BK265
      clear HK
      clear HB
      clear HI0
      have HO_266001 := n0_
      have BK257 := n1_
      have BK265 := n2_
      have HK := n3_
      have HB := n4_
      have HI0 := n5_
      clear n0_ n1_ n2_ n3_ n4_ n5_
      (try clear hb)
      (try clear hb2)
      (try clear hk)
      (try clear hi)
      obtain ⟨Ao33, co33, eo33⟩ := Kd.R_slice HO_266001.out
      (first | subst eo33 | (injection eo33 with f1_ f2_ f3_; have f4_ := f1_.symm; have f5_ := f3_.symm; clear f1_ f2_ f3_; subst f4_; subst f5_))
      refine hK.out _ _ ⟨(kc BK265.out 0).trans rfl, (kc BK265.out 1).trans rfl⟩ (fun hHeld => ?_)
      clear hK K
      refine zN (some 31) ?_
      refine yO 3 (some 32) rfl rfl (fun K hK => ?_)
      refine goes_ Try.func55 (by kernel_rfl) rfl #[.agg #[.string x266000_1, .slice Ao33 x266001_1.length co33], .int .i64 t276] (by rfl) rfl rfl (by (try simp only [List.map_toArray, List.map_cons, List.map_nil]); first | done | rfl | (simp only [List.length_drop, List.length_take]; rfl)) ?_
      with_reducible refine (spec_FlushLine.calls k1 x266000_1 _ _ x266001_1 t276 t279 t280 _ ?side1 ?side2 A28.out).mono ?_
      (case side1 => repeat (first | exact (Kd.R_reads' HO_266001.out).2.2 | (with_reducible first | refine ca ?_ _ | refine cn ?_ _ | refine ce ?_)))
      (case side2 => exact (Kd.R_reads' HO_266001.out).2.1)
      rintro e w34 ⟨v281, rfl, ho0, hb⟩
      refine ⟨_, rfl, ?_⟩
      have n0_ := Am (Kd.R_elder' (by (with_reducible repeat (first | apply ra | apply rn | apply re)); exact HO_266001.out) (Kd.R_base ho0) hb)
      have n1_ := Am (Kd.R_lower (Kd.R_new' ho0 (Kd.R_lt (by (with_reducible repeat (first | apply ra | apply rn | apply re)); exact HO_266001.out))) (keep_size (w := w) (g := g) (row := none) (by repeat (first | (with_reducible first | exact HK.out | apply KeepBut.set_ | apply keep_drewN | apply keep_drew | apply keep_alloc | refine keep_far ?_ GW257.out _ | refine keep_far ?_ GW265.out _) | exact HK.out))))
      have n2_ := Am (zK BK257 hb)
      have n3_ := Am (zK BK265 hb)
      have n4_ := Am (IsS72.below (by repeat (first | (with_reducible first | exact HI0.out | apply IsS72.alloc | apply IsS72.drewN | apply IsS72.drew | apply IsS72.set_1 | apply IsS72.set_2 | apply IsS72.far (hne := NB0_257.out) | apply IsS72.far (hne := NB0_265.out)) | exact HI0.out)) hb)
      have n5_ := Am (KeepBut.trans (by repeat (first | (with_reducible first | exact HK.out | apply KeepBut.set_ | apply keep_drewN | apply keep_drew | apply keep_alloc | refine keep_far ?_ GW257.out _ | refine keep_far ?_ GW265.out _) | exact HK.out)) (KeepBut.of_below hb g none) (.inl rfl))
      have n6_ := Am (bq (by repeat (first | (with_reducible first | exact HB.out | apply ba | apply bn | apply be | refine bs ?_ (IsS72.ge HI0.out) | refine bs ?_ GE257.out | refine bs ?_ GE265.out) | exact HB.out)) hb)
      clear HO_266001
      clear BK257
      clear BK265
      clear HI0
      clear HK
      clear HB
      have HO_266001 := n0_
      have HO282 := n1_
      have BK257 := n2_
      have BK265 := n3_
      have HI0 := n4_
      have HK := n5_
      have HB := n6_
      clear n0_ n1_ n2_ n3_ n4_ n5_ n6_
      (try clear hb)
      (try clear hb2)
      (try clear hk)
      (try clear hi)
      (try clear ho0)
      obtain ⟨Ao36, co36, eo36⟩ := Kd.R_slice HO282.out
      (first | subst eo36 | (injection eo36 with f1_ f2_ f3_; have f4_ := f1_.symm; have f5_ := f3_.symm; clear f1_ f2_ f3_; subst f4_; subst f5_))
      refine hK.out _ _ ⟨(kc BK265.out 0).trans rfl, (kc BK265.out 1).trans rfl⟩ (fun hHeld => ?_)
      clear hK K
      refine zN (some 32) ?_
      refine last_ (i := 4) (N := none) #[true, true, true, true, true] rfl rfl (by kernel_rfl) (by decide) (fun K hK => ?_)
      have hs35 : w34.cell? ⟨gb265, 0, none⟩ = some (.string x266000_1) := (kc BK265.out 0).trans rfl
      have hfs35 := kf BK265.out 0
      have hns35_0 := NB257_265.out
      have hms35_0 := NB265_257.out
      have hs37 : w34.cell? ⟨gb265, 1, none⟩ = some (.slice Ao33 x266001_1.length co33) := (kc BK265.out 1).trans rfl
      have hfs37 := kf BK265.out 1
      have hns37_0 := NB257_265.out
      have hms37_0 := NB265_257.out
      refine skip_ (w1 := ?_) (by rfl) rfl ?_ ?_
      rotate_left
      ·go_simp
       rfl
      refine hK.out _ _ ?_
      clear hK K
      refine done_ (by kernel_rfl) ?_
      try go_wp2
      go_roundg k1
      case measure => have := HK1.out; omega
      case rel => exact ⟨(wrap64 (x4_1 + 1)), (t277), (t278), (t279), (t280), (.slice Ao36 t280.length co36), (by first | rfl | (simp; done) | (simp [*]; done)), H', ⟨by have := HK1.out; omega⟩, ⟨by (with_reducible repeat (first | apply ra | apply rn | apply re)); exact Kd.R_mono (Kd.R_far (p := ⟨gb265, 1, none⟩) (Kd.R_far (p := ⟨gb265, 0, none⟩) (Kd.R_types HO282.out BK265.out (by decide)) (fun _ hk => (by first | exact hk.2 | exact hk | exact hk.1 | exact hk.1.1 | exact hk.1.2 | exact hk.2.1 | exact hk.2.2 | exact hk.1.1.1 | exact hk.1.1.2 | exact hk.1.2.1 | exact hk.1.2.2 | exact hk.2.1.1 | exact hk.2.1.2 | exact hk.2.2.1 | exact hk.2.2.2)) (.string t279)) (fun _ hk => (by first | exact hk.2 | exact hk | exact hk.1 | exact hk.1.1 | exact hk.1.2 | exact hk.2.1 | exact hk.2.2 | exact hk.1.1.1 | exact hk.1.1.2 | exact hk.1.2.1 | exact hk.1.2.2 | exact hk.2.1.1 | exact hk.2.1.2 | exact hk.2.2.1 | exact hk.2.2.2)) (.slice Ao36 t280.length co36)) (fun _ hk => trivial)⟩, ⟨by (with_reducible repeat (first | refine kn ?_ _ | refine ke ?_ | refine ka ?_ _)); refine blk_far ?_ NB257_265.out _; (with_reducible repeat (first | refine kn ?_ _ | refine ke ?_ | refine ka ?_ _)); refine blk_far ?_ NB257_265.out _; (with_reducible repeat (first | refine kn ?_ _ | refine ke ?_ | refine ka ?_ _)); exact BK257.out⟩, ⟨by (with_reducible repeat (first | refine kn ?_ _ | refine ke ?_ | refine ka ?_ _)); refine kp (cs := #[.string t279, .slice Ao33 x266001_1.length co33]) ?_ 1 _ rfl; (with_reducible repeat (first | refine kn ?_ _ | refine ke ?_ | refine ka ?_ _)); refine kp (cs := #[.string x266000_1, .slice Ao33 x266001_1.length co33]) ?_ 0 _ rfl; (with_reducible repeat (first | refine kn ?_ _ | refine ke ?_ | refine ka ?_ _)); exact BK265.out⟩, ⟨by repeat (first | (with_reducible first | exact HI0.out | apply IsS72.alloc | apply IsS72.drewN | apply IsS72.drew | apply IsS72.set_1 | apply IsS72.set_2 | apply IsS72.far (hne := NB0_257.out) | apply IsS72.far (hne := NB0_265.out)) | exact HI0.out)⟩, ⟨by repeat (first | (with_reducible first | exact HK.out | apply KeepBut.set_ | apply keep_drewN | apply keep_drew | apply keep_alloc | refine keep_far ?_ GW257.out _ | refine keep_far ?_ GW265.out _) | exact HK.out)⟩, ⟨by repeat (first | (with_reducible first | exact HB.out | apply ba | apply bn | apply be | refine bs ?_ (IsS72.ge HI0.out) | refine bs ?_ GE257.out | refine bs ?_ GE265.out) | exact HB.out)⟩⟩
     ·rw [if_neg c26] at H
      have c26b0 : (t269 == 1) = false := beq_eq_false_iff_ne.mpr c26
      have c26b1 : (t269 != 1) = true := bne_iff_ne.mpr c26
      replace H := Option.bind_eq_some_iff.mp H
      obtain ⟨⟨t283, t284, t285⟩, A380, H⟩ := H
      replace H : ((spec_l01Text.f k1 s0_0 t284 t285 8).bind fun bt286 => ((spec_StoreWord.f k1 x266000_1 x266001_1 t283 bt286.1).bind fun bt289 => (spec_l10Memory.l0 k1 (wrap64 (x4_1 + 1)) s0_0 bt286.2.1 bt286.2.2 bt289.1 bt289.2))) = some (r1, r2, r3, r4) := H
      have A38 := Am A380
      clear A380
      replace H := Option.bind_eq_some_iff.mp H
      obtain ⟨⟨t286, t287, t288⟩, A390, H⟩ := H
      replace H : ((spec_StoreWord.f k1 x266000_1 x266001_1 t283 t286).bind fun bt289 => (spec_l10Memory.l0 k1 (wrap64 (x4_1 + 1)) s0_0 t287 t288 bt289.1 bt289.2)) = some (r1, r2, r3, r4) := H
      have A39 := Am A390
      clear A390
      replace H := Option.bind_eq_some_iff.mp H
      obtain ⟨⟨t289, t290⟩, A400, H⟩ := H
      replace H : (spec_l10Memory.l0 k1 (wrap64 (x4_1 + 1)) s0_0 t287 t288 t289 t290) = some (r1, r2, r3, r4) := H
      have A40 := Am A400
      clear A400
      have H' := Am H
      clear H
      try go_wp2_with (first | ((with_reducible refine gate_callee (f := 49) rfl ?_); refine zC (some 11) rfl rfl Try.func49 rfl #[.pointer (some ⟨g, 0, none⟩), .int .i64 12] rfl ?_; (with_reducible refine (spec_l01Below.calls g s0_0 x1001_1 x1002_1 12 t266 t267 t268 w0 _ ?side1 ?side2 A12.out).mono ?_); (case side1 => repeat (first | (with_reducible first | exact HI0.out | apply IsS72.alloc | apply IsS72.drewN | apply IsS72.drew | apply IsS72.set_1 | apply IsS72.set_2 | apply IsS72.far (hne := NB0_257.out) | apply IsS72.far (hne := NB0_265.out)) | exact HI0.out)); (case side2 => repeat (first | (with_reducible first | exact HB.out | apply ba | apply bn | apply be | refine bs ?_ (IsS72.ge HI0.out) | refine bs ?_ GE257.out | refine bs ?_ GE265.out) | exact HB.out)); rintro e w41 ⟨rfl, hi, hb, hk⟩; refine ⟨_, rfl, ?_⟩; have n0_ := Am (Kd.R_mono (Kd.R_keep (IsS72.apart (show IsS72 w0 _ g s0_0 x1001_1 x1002_1 from by repeat (first | (with_reducible first | exact HI0.out | apply IsS72.alloc | apply IsS72.drewN | apply IsS72.drew | apply IsS72.set_1 | apply IsS72.set_2 | apply IsS72.far (hne := NB0_257.out) | apply IsS72.far (hne := NB0_265.out)) | exact HI0.out)) (by (with_reducible repeat (first | apply ra | apply rn | apply re)); exact HO_266001.out) (by decide)) hk (fun _ h => h.2)) (fun _ h => h.1)); have n1_ := Am (KeepBut.blk hk (g' := gb257) (o := .cells #[.string (⟨#[]⟩ : ByteArray), .slice none 0 0] 28 (0, 0)) (by (with_reducible repeat (first | refine kn ?_ _ | refine ke ?_ | refine ka ?_ _)); exact BK257.out) NB257_0.out (by simp)); have n2_ := Am (KeepBut.blk hk (g' := gb265) (o := .cells #[.string x266000_1, u266001] 28 (0, 0)) (by (with_reducible repeat (first | refine kn ?_ _ | refine ke ?_ | refine ka ?_ _)); exact BK265.out) NB265_0.out (by simp)); have n3_ := Am (KeepBut.trans (by repeat (first | (with_reducible first | exact HK.out | apply KeepBut.set_ | apply keep_drewN | apply keep_drew | apply keep_alloc | refine keep_far ?_ GW257.out _ | refine keep_far ?_ GW265.out _) | exact HK.out)) hk (.inl rfl)); have n4_ := Am (hb); have n5_ := Am (hi); clear HO_266001; clear BK257; clear BK265; clear HK; clear HB; clear HI0; have HO_266001 := n0_; have BK257 := n1_; have BK265 := n2_; have HK := n3_; have HB := n4_; have HI0 := n5_; clear n0_ n1_ n2_ n3_ n4_ n5_; (try clear hb hk hi)) | ((with_reducible refine gate_callee (f := 49) rfl ?_); refine zC (some 16) rfl rfl Try.func49 rfl #[.pointer (some ⟨g, 0, none⟩), .int .i64 5] rfl ?_; (with_reducible refine (spec_l01Below.calls g s0_0 t267 t268 5 t269 t270 t271 w0 _ ?side1 ?side2 A14.out).mono ?_); (case side1 => repeat (first | (with_reducible first | exact HI0.out | apply IsS72.alloc | apply IsS72.drewN | apply IsS72.drew | apply IsS72.set_1 | apply IsS72.set_2 | apply IsS72.far (hne := NB0_257.out) | apply IsS72.far (hne := NB0_265.out)) | exact HI0.out)); (case side2 => repeat (first | (with_reducible first | exact HB.out | apply ba | apply bn | apply be | refine bs ?_ (IsS72.ge HI0.out) | refine bs ?_ GE257.out | refine bs ?_ GE265.out) | exact HB.out)); rintro e w42 ⟨rfl, hi, hb, hk⟩; refine ⟨_, rfl, ?_⟩; have n0_ := Am (Kd.R_mono (Kd.R_keep (IsS72.apart (show IsS72 w0 _ g s0_0 t267 t268 from by repeat (first | (with_reducible first | exact HI0.out | apply IsS72.alloc | apply IsS72.drewN | apply IsS72.drew | apply IsS72.set_1 | apply IsS72.set_2 | apply IsS72.far (hne := NB0_257.out) | apply IsS72.far (hne := NB0_265.out)) | exact HI0.out)) (by (with_reducible repeat (first | apply ra | apply rn | apply re)); exact HO_266001.out) (by decide)) hk (fun _ h => h.2)) (fun _ h => h.1)); have n1_ := Am (KeepBut.blk hk (g' := gb257) (o := .cells #[.string (⟨#[]⟩ : ByteArray), .slice none 0 0] 28 (0, 0)) (by (with_reducible repeat (first | refine kn ?_ _ | refine ke ?_ | refine ka ?_ _)); exact BK257.out) NB257_0.out (by simp)); have n2_ := Am (KeepBut.blk hk (g' := gb265) (o := .cells #[.string x266000_1, u266001] 28 (0, 0)) (by (with_reducible repeat (first | refine kn ?_ _ | refine ke ?_ | refine ka ?_ _)); exact BK265.out) NB265_0.out (by simp)); have n3_ := Am (KeepBut.trans (by repeat (first | (with_reducible first | exact HK.out | apply KeepBut.set_ | apply keep_drewN | apply keep_drew | apply keep_alloc | refine keep_far ?_ GW257.out _ | refine keep_far ?_ GW265.out _) | exact HK.out)) hk (.inl rfl)); have n4_ := Am (hb); have n5_ := Am (hi); clear HO_266001; clear BK257; clear BK265; clear HK; clear HB; clear HI0; have HO_266001 := n0_; have BK257 := n1_; have BK265 := n2_; have HK := n3_; have HB := n4_; have HI0 := n5_; clear n0_ n1_ n2_ n3_ n4_ n5_; (try clear hb hk hi)))
      have n0_ := Am (re HO_266001.out)
      have n1_ := Am (ke BK257.out)
      have n2_ := Am (ke BK265.out)
      have n3_ := Am (IsS72.drew HI0.out)
      have n4_ := Am (keep_drew HK.out)
      have n5_ := Am (be HB.out)
      clear HO_266001
      clear BK257
      clear BK265
      clear HI0
      clear HK
      clear HB
      have HO_266001 := n0_
      have BK257 := n1_
      have BK265 := n2_
      have HI0 := n3_
      have HK := n4_
      have HB := n5_
      clear n0_ n1_ n2_ n3_ n4_ n5_
      refine start_ (n := 7) (S := fun w' => w'.cell? ⟨gb265, 0, none⟩ = some (.string x266000_1) ∧ w'.cell? ⟨gb265, 1, none⟩ = some (u266001)) (ds := [6]) #[false, false, false, false, false, false, false] (by kernel_rfl) rfl rfl ⟨(kc BK265.out 0).trans rfl, (kc BK265.out 1).trans rfl⟩ (fun hHeld => ?_)
      generalize w42.drew = w43 at HO_266001 BK257 BK265 HI0 HK HB hHeld ⊢
      refine yA 1 (some 18) rfl rfl ?_
      refine yA 3 (some 20) rfl rfl ?_
      refine yT 0 (some 17) rfl rfl hHeld ?_
      refine yO 2 (some 19) rfl rfl (fun K hK => ?_)
      refine goes_ Try.func49 (by kernel_rfl) rfl #[.pointer (some ⟨g, 0, none⟩), .int .i64 10] (by rfl) rfl rfl (by (try simp only [List.map_toArray, List.map_cons, List.map_nil]); first | done | rfl | (simp only [List.length_drop, List.length_take]; rfl)) ?_
      with_reducible refine (spec_l01Below.calls g s0_0 t270 t271 10 t283 t284 t285 w0 _ ?side1 ?side2 A38.out).mono ?_
      (case side1 => repeat (first | (with_reducible first | exact HI0.out | apply IsS72.alloc | apply IsS72.drewN | apply IsS72.drew | apply IsS72.set_1 | apply IsS72.set_2 | apply IsS72.far (hne := NB0_257.out) | apply IsS72.far (hne := NB0_265.out)) | exact HI0.out))
      (case side2 => repeat (first | (with_reducible first | exact HB.out | apply ba | apply bn | apply be | refine bs ?_ (IsS72.ge HI0.out) | refine bs ?_ GE257.out | refine bs ?_ GE265.out) | exact HB.out))
      rintro e w44 ⟨rfl, hi, hb, hk⟩
      refine ⟨_, rfl, ?_⟩
      have n0_ := Am (Kd.R_mono (Kd.R_keep (IsS72.apart (show IsS72 w0 _ g s0_0 t270 t271 from by repeat (first | (with_reducible first | exact HI0.out | apply IsS72.alloc | apply IsS72.drewN | apply IsS72.drew | apply IsS72.set_1 | apply IsS72.set_2 | apply IsS72.far (hne := NB0_257.out) | apply IsS72.far (hne := NB0_265.out)) | exact HI0.out)) (by (with_reducible repeat (first | apply ra | apply rn | apply re)); exact HO_266001.out) (by decide)) hk (fun _ h => h.2)) (fun _ h => h.1))
      have n1_ := Am (KeepBut.blk hk (g' := gb257) (o := .cells #[.string (⟨#[]⟩ : ByteArray), .slice none 0 0] 28 (0, 0)) (by (with_reducible repeat (first | refine kn ?_ _ | refine ke ?_ | refine ka ?_ _)); exact BK257.out) NB257_0.out (by simp))
      have n2_ := Am (KeepBut.blk hk (g' := gb265) (o := .cells #[.string x266000_1, u266001] 28 (0, 0)) (by (with_reducible repeat (first | refine kn ?_ _ | refine ke ?_ | refine ka ?_ _)); exact BK265.out) NB265_0.out (by simp))
      have n3_ := Am (KeepBut.trans (by repeat (first | (with_reducible first | exact HK.out | apply KeepBut.set_ | apply keep_drewN | apply keep_drew | apply keep_alloc | refine keep_far ?_ GW257.out _ | refine keep_far ?_ GW265.out _) | exact HK.out)) hk (.inl rfl))
      have n4_ := Am (hb)
      have n5_ := Am (hi)
      clear HO_266001
      clear BK257
      clear BK265
      clear HK
      clear HB
      clear HI0
      have HO_266001 := n0_
      have BK257 := n1_
      have BK265 := n2_
      have HK := n3_
      have HB := n4_
      have HI0 := n5_
      clear n0_ n1_ n2_ n3_ n4_ n5_
      (try clear hb)
      (try clear hb2)
      (try clear hk)
      (try clear hi)
      refine hK.out _ _ ⟨(kc BK265.out 0).trans rfl, (kc BK265.out 1).trans rfl⟩ (fun hHeld => ?_)
      clear hK K
      refine zN (some 19) ?_
      refine yO 4 (some 21) rfl rfl (fun K hK => ?_)
      refine goes_ Try.func57 (by kernel_rfl) rfl #[.pointer (some ⟨g, 0, none⟩), .int .i64 8] (by rfl) rfl rfl (by (try simp only [List.map_toArray, List.map_cons, List.map_nil]); first | done | rfl | (simp only [List.length_drop, List.length_take]; rfl)) ?_
      with_reducible refine (spec_l01Text.calls k1 g s0_0 t284 t285 8 t286 t287 t288 w0 _ ?side1 ?side2 A39.out).mono ?_
      (case side1 => repeat (first | (with_reducible first | exact HI0.out | apply IsS72.alloc | apply IsS72.drewN | apply IsS72.drew | apply IsS72.set_1 | apply IsS72.set_2 | apply IsS72.far (hne := NB0_257.out) | apply IsS72.far (hne := NB0_265.out)) | exact HI0.out))
      (case side2 => repeat (first | (with_reducible first | exact HB.out | apply ba | apply bn | apply be | refine bs ?_ (IsS72.ge HI0.out) | refine bs ?_ GE257.out | refine bs ?_ GE265.out) | exact HB.out))
      rintro e w45 ⟨rfl, hi, hb, hk⟩
      refine ⟨_, rfl, ?_⟩
      have n0_ := Am (Kd.R_mono (Kd.R_keep (IsS72.apart (show IsS72 w0 _ g s0_0 t284 t285 from by repeat (first | (with_reducible first | exact HI0.out | apply IsS72.alloc | apply IsS72.drewN | apply IsS72.drew | apply IsS72.set_1 | apply IsS72.set_2 | apply IsS72.far (hne := NB0_257.out) | apply IsS72.far (hne := NB0_265.out)) | exact HI0.out)) (by (with_reducible repeat (first | apply ra | apply rn | apply re)); exact HO_266001.out) (by decide)) hk (fun _ h => h.2)) (fun _ h => h.1))
      have n1_ := Am (KeepBut.blk hk (g' := gb257) (o := .cells #[.string (⟨#[]⟩ : ByteArray), .slice none 0 0] 28 (0, 0)) (by (with_reducible repeat (first | refine kn ?_ _ | refine ke ?_ | refine ka ?_ _)); exact BK257.out) NB257_0.out (by simp))
      have n2_ := Am (KeepBut.blk hk (g' := gb265) (o := .cells #[.string x266000_1, u266001] 28 (0, 0)) (by (with_reducible repeat (first | refine kn ?_ _ | refine ke ?_ | refine ka ?_ _)); exact BK265.out) NB265_0.out (by simp))
      have n3_ := Am (KeepBut.trans (by repeat (first | (with_reducible first | exact HK.out | apply KeepBut.set_ | apply keep_drewN | apply keep_drew | apply keep_alloc | refine keep_far ?_ GW257.out _ | refine keep_far ?_ GW265.out _) | exact HK.out)) hk (.inl rfl))
      have n4_ := Am (hb)
      have n5_ := Am (hi)
      clear HO_266001
      clear BK257
      clear BK265
      clear HK
      clear HB
      clear HI0
      have HO_266001 := n0_
      have BK257 := n1_
      have BK265 := n2_
      have HK := n3_
      have HB := n4_
      have HI0 := n5_
      clear n0_ n1_ n2_ n3_ n4_ n5_
      (try clear hb)
      (try clear hb2)
      (try clear hk)
      (try clear hi)
      obtain ⟨Ao46, co46, eo46⟩ := Kd.R_slice HO_266001.out
      (first | subst eo46 | (injection eo46 with f1_ f2_ f3_; have f4_ := f1_.symm; have f5_ := f3_.symm; clear f1_ f2_ f3_; subst f4_; subst f5_))
      refine hK.out _ _ ⟨(kc BK265.out 0).trans rfl, (kc BK265.out 1).trans rfl⟩ (fun hHeld => ?_)
      clear hK K
      refine zN (some 21) ?_
      refine yO 5 (some 22) rfl rfl (fun K hK => ?_)
      refine goes_ Try.func56 (by kernel_rfl) rfl #[.agg #[.string x266000_1, .slice Ao46 x266001_1.length co46], .int .i64 t283, .string t286] (by rfl) rfl rfl (by (try simp only [List.map_toArray, List.map_cons, List.map_nil]); first | done | rfl | (simp only [List.length_drop, List.length_take]; rfl)) ?_
      with_reducible refine (spec_StoreWord.calls k1 x266000_1 _ _ x266001_1 t283 t286 t289 t290 _ ?side1 ?side2 A40.out).mono ?_
      (case side1 => repeat (first | exact (Kd.R_reads' HO_266001.out).2.2 | (with_reducible first | refine ca ?_ _ | refine cn ?_ _ | refine ce ?_)))
      (case side2 => exact (Kd.R_reads' HO_266001.out).2.1)
      rintro e w47 ⟨v291, rfl, ho0, hb⟩
      refine ⟨_, rfl, ?_⟩
      have n0_ := Am (Kd.R_elder' (by (with_reducible repeat (first | apply ra | apply rn | apply re)); exact HO_266001.out) (Kd.R_base ho0) hb)
      have n1_ := Am (Kd.R_lower (Kd.R_new' ho0 (Kd.R_lt (by (with_reducible repeat (first | apply ra | apply rn | apply re)); exact HO_266001.out))) (keep_size (w := w) (g := g) (row := none) (by repeat (first | (with_reducible first | exact HK.out | apply KeepBut.set_ | apply keep_drewN | apply keep_drew | apply keep_alloc | refine keep_far ?_ GW257.out _ | refine keep_far ?_ GW265.out _) | exact HK.out))))
      have n2_ := Am (zK BK257 hb)
      have n3_ := Am (zK BK265 hb)
      have n4_ := Am (IsS72.below (by repeat (first | (with_reducible first | exact HI0.out | apply IsS72.alloc | apply IsS72.drewN | apply IsS72.drew | apply IsS72.set_1 | apply IsS72.set_2 | apply IsS72.far (hne := NB0_257.out) | apply IsS72.far (hne := NB0_265.out)) | exact HI0.out)) hb)
      have n5_ := Am (KeepBut.trans (by repeat (first | (with_reducible first | exact HK.out | apply KeepBut.set_ | apply keep_drewN | apply keep_drew | apply keep_alloc | refine keep_far ?_ GW257.out _ | refine keep_far ?_ GW265.out _) | exact HK.out)) (KeepBut.of_below hb g none) (.inl rfl))
      have n6_ := Am (bq (by repeat (first | (with_reducible first | exact HB.out | apply ba | apply bn | apply be | refine bs ?_ (IsS72.ge HI0.out) | refine bs ?_ GE257.out | refine bs ?_ GE265.out) | exact HB.out)) hb)
      clear HO_266001
      clear BK257
      clear BK265
      clear HI0
      clear HK
      clear HB
      have HO_266001 := n0_
      have HO292 := n1_
      have BK257 := n2_
      have BK265 := n3_
      have HI0 := n4_
      have HK := n5_
      have HB := n6_
      clear n0_ n1_ n2_ n3_ n4_ n5_ n6_
      (try clear hb)
      (try clear hb2)
      (try clear hk)
      (try clear hi)
      (try clear ho0)
      obtain ⟨Ao49, co49, eo49⟩ := Kd.R_slice HO292.out
      (first | subst eo49 | (injection eo49 with f1_ f2_ f3_; have f4_ := f1_.symm; have f5_ := f3_.symm; clear f1_ f2_ f3_; subst f4_; subst f5_))
      refine hK.out _ _ ⟨(kc BK265.out 0).trans rfl, (kc BK265.out 1).trans rfl⟩ (fun hHeld => ?_)
      clear hK K
      refine zN (some 22) ?_
      refine last_ (i := 6) (N := none) #[true, true, true, true, true, true, true] rfl rfl (by kernel_rfl) (by decide) (fun K hK => ?_)
      have hs48 : w47.cell? ⟨gb265, 0, none⟩ = some (.string x266000_1) := (kc BK265.out 0).trans rfl
      have hfs48 := kf BK265.out 0
      have hns48_0 := NB257_265.out
      have hms48_0 := NB265_257.out
      have hs50 : w47.cell? ⟨gb265, 1, none⟩ = some (.slice Ao46 x266001_1.length co46) := (kc BK265.out 1).trans rfl
      have hfs50 := kf BK265.out 1
      have hns50_0 := NB257_265.out
      have hms50_0 := NB265_257.out
      refine skip_ (w1 := ?_) (by rfl) rfl ?_ ?_
      rotate_left
      ·go_simp
       rfl
      refine hK.out _ _ ?_
      clear hK K
      refine done_ (by kernel_rfl) ?_
      try go_wp2
      go_roundg k1
      case measure => have := HK1.out; omega
      case rel => exact ⟨(wrap64 (x4_1 + 1)), (t287), (t288), (t289), (t290), (.slice Ao49 t290.length co49), (by first | rfl | (simp; done) | (simp [*]; done)), H', ⟨by have := HK1.out; omega⟩, ⟨by (with_reducible repeat (first | apply ra | apply rn | apply re)); exact Kd.R_mono (Kd.R_far (p := ⟨gb265, 1, none⟩) (Kd.R_far (p := ⟨gb265, 0, none⟩) (Kd.R_types HO292.out BK265.out (by decide)) (fun _ hk => (by first | exact hk.2 | exact hk | exact hk.1 | exact hk.1.1 | exact hk.1.2 | exact hk.2.1 | exact hk.2.2 | exact hk.1.1.1 | exact hk.1.1.2 | exact hk.1.2.1 | exact hk.1.2.2 | exact hk.2.1.1 | exact hk.2.1.2 | exact hk.2.2.1 | exact hk.2.2.2)) (.string t289)) (fun _ hk => (by first | exact hk.2 | exact hk | exact hk.1 | exact hk.1.1 | exact hk.1.2 | exact hk.2.1 | exact hk.2.2 | exact hk.1.1.1 | exact hk.1.1.2 | exact hk.1.2.1 | exact hk.1.2.2 | exact hk.2.1.1 | exact hk.2.1.2 | exact hk.2.2.1 | exact hk.2.2.2)) (.slice Ao49 t290.length co49)) (fun _ hk => trivial)⟩, ⟨by (with_reducible repeat (first | refine kn ?_ _ | refine ke ?_ | refine ka ?_ _)); refine blk_far ?_ NB257_265.out _; (with_reducible repeat (first | refine kn ?_ _ | refine ke ?_ | refine ka ?_ _)); refine blk_far ?_ NB257_265.out _; (with_reducible repeat (first | refine kn ?_ _ | refine ke ?_ | refine ka ?_ _)); exact BK257.out⟩, ⟨by (with_reducible repeat (first | refine kn ?_ _ | refine ke ?_ | refine ka ?_ _)); refine kp (cs := #[.string t289, .slice Ao46 x266001_1.length co46]) ?_ 1 _ rfl; (with_reducible repeat (first | refine kn ?_ _ | refine ke ?_ | refine ka ?_ _)); refine kp (cs := #[.string x266000_1, .slice Ao46 x266001_1.length co46]) ?_ 0 _ rfl; (with_reducible repeat (first | refine kn ?_ _ | refine ke ?_ | refine ka ?_ _)); exact BK265.out⟩, ⟨by repeat (first | (with_reducible first | exact HI0.out | apply IsS72.alloc | apply IsS72.drewN | apply IsS72.drew | apply IsS72.set_1 | apply IsS72.set_2 | apply IsS72.far (hne := NB0_257.out) | apply IsS72.far (hne := NB0_265.out)) | exact HI0.out)⟩, ⟨by repeat (first | (with_reducible first | exact HK.out | apply KeepBut.set_ | apply keep_drewN | apply keep_drew | apply keep_alloc | refine keep_far ?_ GW257.out _ | refine keep_far ?_ GW265.out _) | exact HK.out)⟩, ⟨by repeat (first | (with_reducible first | exact HB.out | apply ba | apply bn | apply be | refine bs ?_ (IsS72.ge HI0.out) | refine bs ?_ GE257.out | refine bs ?_ GE265.out) | exact HB.out)⟩⟩
   ·rw [if_neg c13] at H
    have c13b0 : decide (x4_1 < t266) = false := decide_eq_false c13
    clear c13
    simp only [Option.some.injEq, Prod.mk.injEq] at H
    obtain ⟨rfl, rfl, rfl, rfl⟩ := H
    go_wp2_with (first | ((with_reducible refine gate_callee (f := 49) rfl ?_); refine zC (some 11) rfl rfl Try.func49 rfl #[.pointer (some ⟨g, 0, none⟩), .int .i64 12] rfl ?_; (with_reducible refine (spec_l01Below.calls g s0_0 x1001_1 x1002_1 12 t266 t267 t268 w0 _ ?side1 ?side2 A12.out).mono ?_); (case side1 => repeat (first | (with_reducible first | exact HI0.out | apply IsS72.alloc | apply IsS72.drewN | apply IsS72.drew | apply IsS72.set_1 | apply IsS72.set_2 | apply IsS72.far (hne := NB0_257.out) | apply IsS72.far (hne := NB0_265.out)) | exact HI0.out)); (case side2 => repeat (first | (with_reducible first | exact HB.out | apply ba | apply bn | apply be | refine bs ?_ (IsS72.ge HI0.out) | refine bs ?_ GE257.out | refine bs ?_ GE265.out) | exact HB.out)); rintro e w51 ⟨rfl, hi, hb, hk⟩; refine ⟨_, rfl, ?_⟩; have n0_ := Am (Kd.R_mono (Kd.R_keep (IsS72.apart (show IsS72 w0 _ g s0_0 x1001_1 x1002_1 from by repeat (first | (with_reducible first | exact HI0.out | apply IsS72.alloc | apply IsS72.drewN | apply IsS72.drew | apply IsS72.set_1 | apply IsS72.set_2 | apply IsS72.far (hne := NB0_257.out) | apply IsS72.far (hne := NB0_265.out)) | exact HI0.out)) (by (with_reducible repeat (first | apply ra | apply rn | apply re)); exact HO_266001.out) (by decide)) hk (fun _ h => h.2)) (fun _ h => h.1)); have n1_ := Am (KeepBut.blk hk (g' := gb257) (o := .cells #[.string (⟨#[]⟩ : ByteArray), .slice none 0 0] 28 (0, 0)) (by (with_reducible repeat (first | refine kn ?_ _ | refine ke ?_ | refine ka ?_ _)); exact BK257.out) NB257_0.out (by simp)); have n2_ := Am (KeepBut.blk hk (g' := gb265) (o := .cells #[.string x266000_1, u266001] 28 (0, 0)) (by (with_reducible repeat (first | refine kn ?_ _ | refine ke ?_ | refine ka ?_ _)); exact BK265.out) NB265_0.out (by simp)); have n3_ := Am (KeepBut.trans (by repeat (first | (with_reducible first | exact HK.out | apply KeepBut.set_ | apply keep_drewN | apply keep_drew | apply keep_alloc | refine keep_far ?_ GW257.out _ | refine keep_far ?_ GW265.out _) | exact HK.out)) hk (.inl rfl)); have n4_ := Am (hb); have n5_ := Am (hi); clear HO_266001; clear BK257; clear BK265; clear HK; clear HB; clear HI0; have HO_266001 := n0_; have BK257 := n1_; have BK265 := n2_; have HK := n3_; have HB := n4_; have HI0 := n5_; clear n0_ n1_ n2_ n3_ n4_ n5_; (try clear hb hk hi); have hnb52 := NB265_257.out; have hnc52 := NB257_265.out; have hnb53 := NB265_0.out; have hnc53 := NB0_265.out; obtain ⟨hcz54_0, hcz54_1⟩ := kc2 (w := w51) BK265.out; have hfz54_0 := kf BK265.out; have hnb55 := NB257_0.out; have hnc55 := NB0_257.out; obtain ⟨hcz56_0, hcz56_1⟩ := kc2 (w := w51) BK257.out; have hfz56_0 := kf BK257.out; obtain ⟨Ao57, co57, eo57⟩ := Kd.R_slice HO_266001.out; subst eo57))
    refine bodyPost_ret (results_cell_row rfl _ _ gb257 28 #[.string x266000_1, .slice Ao57 x266001_1.length co57] (0, 0) _ rfl (by (with_reducible repeat (first | refine kn ?_ _ | refine ke ?_ | refine ka ?_ _)); refine kp (cs := #[.string x266000_1, .slice none 0 0]) ?_ 1 _ rfl; (with_reducible repeat (first | refine kn ?_ _ | refine ke ?_ | refine ka ?_ _)); refine kp (cs := #[.string (⟨#[]⟩ : ByteArray), .slice none 0 0]) ?_ 0 _ rfl; (with_reducible repeat (first | refine kn ?_ _ | refine ke ?_ | refine ka ?_ _)); exact BK257.out) Try.underlying28 rfl (by kernel_rfl)) rfl ?_
    exact ⟨_, zR, by (with_reducible repeat (first | apply ra | apply rn | apply re)); exact Kd.R_mono (Kd.R_far (p := ⟨gb257, 1, none⟩) (Kd.R_far (p := ⟨gb257, 0, none⟩) (Kd.R_types HO_266001.out BK257.out (by decide)) (fun _ hk => hk.2) (.string x266000_1)) (fun _ hk => hk.2) (.slice Ao57 x266001_1.length co57)) (fun _ hk => trivial), by repeat (first | (with_reducible first | exact HI0.out | apply IsS72.alloc | apply IsS72.drewN | apply IsS72.drew | apply IsS72.set_1 | apply IsS72.set_2 | apply IsS72.far (hne := NB0_257.out) | apply IsS72.far (hne := NB0_265.out)) | exact HI0.out), by repeat (first | (with_reducible first | exact HB.out | apply ba | apply bn | apply be | refine bs ?_ (IsS72.ge HI0.out) | refine bs ?_ GE257.out | refine bs ?_ GE265.out) | exact HB.out), by repeat (first | (with_reducible first | exact HK.out | apply KeepBut.set_ | apply keep_drewN | apply keep_drew | apply keep_alloc | refine keep_far ?_ GW257.out _ | refine keep_far ?_ GW265.out _) | exact HK.out)⟩

end Go.Proofs.Ytnmkcognggeioaa.QFnUnsure
