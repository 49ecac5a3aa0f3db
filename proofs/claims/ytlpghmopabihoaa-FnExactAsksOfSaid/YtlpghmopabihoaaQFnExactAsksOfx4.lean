/- Go functions as Lean functions, and their contracts. Own text: written by wip/gen/pr.py (a turned copy of the print). -/
import Derived.Test.YtlpghmopabihoaaQFnExactAsksOfx0
namespace Go.Proofs.Ytlpghmopabihoaa.QFnExactAsksOf
open Go.RowKit Go.Proofs.YtlpghmopabihoaaW.PrintWords Go.Proofs.YtlpghmopabihoaaW.PrintLast Go.Proofs.YtlpghmopabihoaaW.PrintMore
attribute [local go_sem] max2_int min2_int max_two min_two max_three min_three max_four min_four   -- for this text's walks alone
open Go.Proofs.YtlpghmopabihoaaW.PrintWords renaming below_alloc → ba, pw_below_drewN → bn, below_drew1 → be, below_set → bs, blk_drewN → kn, blk_drew → ke, blk_alloc → ka, blk_below → kb, blk_frozen → kf, blk_cell → kc, below_step → bq, below_size → bz, blk_lt → kl, blk_grown → kg, blk_put → kp
open Go.Proofs.YtlpghmopabihoaaW.PrintWords.Kd renaming R_alloc → ra, R_drewN → rn, R_drew → re, R_below → rb
open Go.Proofs.YtlpghmopabihoaaW.PrintWords.Aside0 renaming mk → Am
set_option linter.unusedVariables false
set_option linter.unusedSimpArgs false

theorem cl4 {w w2 : World} {a : Addr} {v : Value} (h : Aside0 (Below w.heap.size w w2)) (e : w.cell? a = some v) : w2.cell? a = some v := (h.out.cell (World.block_lt_of_cell? w _ e)).trans e
def o4b0 (p0 : Int) (p1 : ByteArray) (p2 : ByteArray) (p3 : Int) (p4 : Int) (p5 : ByteArray) : Obj := .cells #[.int .i64 p0, .string p1, .string p2, .int .i64 p3, .int .i64 p4, .string p5] 42 (0, 0)
/-! ### impl_AsksOf: function 16 -/
mutual
def impl_AsksOf.l0 : Nat → List (S125) → Int → List (S42) → List (S123) → Int → Int → Int → ByteArray → ByteArray → Int → Int → ByteArray → Option ((List (S42)))
 | 0, _, _, _, _, _, _, _, _, _, _, _, _ => none
 | k + 1, x1, x2, x8, x18, x19, x20, x194000, x194001, x194002, x194003, x194004, x194005 => if x20 < x19 then (if 0 ≤ x20 then (if x20 < (x18.length : Int) then (if ((rd_T123 x18 x20).f0) = 1 then (if ((rd_T123 x18 x20).f1) = x2 then (if x20 < (x1.length : Int) then (impl_AsksOf.j1 k x1 x2 x8 x20 x18 x19 x20 (((rd_T125 x1 x20).f0) == 0) x194000 x194001 x194002 x194003 x194004 x194005 ((rd_T123 x18 x20).f0) ((rd_T123 x18 x20).f1) ((rd_T123 x18 x20).f2.f0) ((rd_T123 x18 x20).f2.f1) ((rd_T123 x18 x20).f2.f2) ((rd_T123 x18 x20).f2.f3) ((rd_T123 x18 x20).f2.f4) ((rd_T123 x18 x20).f2.f5) ((rd_T123 x18 x20).f3)) else (none)) else (impl_AsksOf.j1 k x1 x2 x8 x20 x18 x19 x20 false x194000 x194001 x194002 x194003 x194004 x194005 ((rd_T123 x18 x20).f0) ((rd_T123 x18 x20).f1) ((rd_T123 x18 x20).f2.f0) ((rd_T123 x18 x20).f2.f1) ((rd_T123 x18 x20).f2.f2) ((rd_T123 x18 x20).f2.f3) ((rd_T123 x18 x20).f2.f4) ((rd_T123 x18 x20).f2.f5) ((rd_T123 x18 x20).f3))) else (impl_AsksOf.j1 k x1 x2 x8 x20 x18 x19 x20 false x194000 x194001 x194002 x194003 x194004 x194005 ((rd_T123 x18 x20).f0) ((rd_T123 x18 x20).f1) ((rd_T123 x18 x20).f2.f0) ((rd_T123 x18 x20).f2.f1) ((rd_T123 x18 x20).f2.f2) ((rd_T123 x18 x20).f2.f3) ((rd_T123 x18 x20).f2.f4) ((rd_T123 x18 x20).f2.f5) ((rd_T123 x18 x20).f3))) else (none)) else (none)) else (some x8)
def impl_AsksOf.j1 : Nat → List (S125) → Int → List (S42) → Int → List (S123) → Int → Int → Bool → Int → ByteArray → ByteArray → Int → Int → ByteArray → Int → Int → Int → ByteArray → ByteArray → Int → Int → ByteArray → Int → Option ((List (S42)))
 | 0, _, _, _, _, _, _, _, _, _, _, _, _, _, _, _, _, _, _, _, _, _, _, _ => none
 | k + 1, x1, x2, x8, x9, x18, x19, x20, x41, x194000, x194001, x194002, x194003, x194004, x194005, x199000, x199001, x199002, x199003, x199004, x199005, x199006, x199007, x199008 => if x41 = true then (if 0 ≤ x9 then (if x9 < (x1.length : Int) then (if (rd_T125 x1 x9).f2 = true then (if ((rd_T125 x1 x9).f1) = x2 then (if x8.length < 1954687338268 then (impl_AsksOf.l0 k x1 x2 (x8 ++ [(⟨x199002, x199003, x199004, x199005, x199006, x199007⟩ : S42)]) x18 x19 (wrap64 (x20 + 1)) x199002 x199003 x199004 x199005 x199006 x199007) else (none)) else (impl_AsksOf.l0 k x1 x2 x8 x18 x19 (wrap64 (x20 + 1)) x199002 x199003 x199004 x199005 x199006 x199007)) else (impl_AsksOf.l0 k x1 x2 x8 x18 x19 (wrap64 (x20 + 1)) x199002 x199003 x199004 x199005 x199006 x199007)) else (none)) else (none)) else (if 0 ≤ x9 then (if x9 < (x1.length : Int) then (if (rd_T125 x1 x9).f2 = true then (if ((rd_T125 x1 x9).f1) = x2 then (if x8.length < 1954687338268 then (impl_AsksOf.l0 k x1 x2 (x8 ++ [(⟨x194000, x194001, x194002, x194003, x194004, x194005⟩ : S42)]) x18 x19 (wrap64 (x20 + 1)) x194000 x194001 x194002 x194003 x194004 x194005) else (none)) else (impl_AsksOf.l0 k x1 x2 x8 x18 x19 (wrap64 (x20 + 1)) x194000 x194001 x194002 x194003 x194004 x194005)) else (impl_AsksOf.l0 k x1 x2 x8 x18 x19 (wrap64 (x20 + 1)) x194000 x194001 x194002 x194003 x194004 x194005)) else (none)) else (none))
end
def impl_AsksOf.f (k : Nat) (l0 : List (S123)) (l1 : List (S125)) (a2 : Int) : Option ((List (S42))) := if (l0.length : Int) = (l1.length : Int) then (impl_AsksOf.l0 k l1 a2 (([] : List (S42))) l0 (l0.length : Int) 0 0 (⟨#[]⟩ : ByteArray) (⟨#[]⟩ : ByteArray) 0 0 (⟨#[]⟩ : ByteArray)) else (some ([] : List (S42)))
theorem impl_AsksOf.mono_l : ∀ k, (∀ y0 y1 y2 y3 y4 y5 y6 y7 y8 y9 y10 y11, LeO (impl_AsksOf.l0 k y0 y1 y2 y3 y4 y5 y6 y7 y8 y9 y10 y11) (impl_AsksOf.l0 (k + 1) y0 y1 y2 y3 y4 y5 y6 y7 y8 y9 y10 y11)) ∧ (∀ y0 y1 y2 y3 y4 y5 y6 y7 y8 y9 y10 y11 y12 y13 y14 y15 y16 y17 y18 y19 y20 y21 y22, LeO (impl_AsksOf.j1 k y0 y1 y2 y3 y4 y5 y6 y7 y8 y9 y10 y11 y12 y13 y14 y15 y16 y17 y18 y19 y20 y21 y22) (impl_AsksOf.j1 (k + 1) y0 y1 y2 y3 y4 y5 y6 y7 y8 y9 y10 y11 y12 y13 y14 y15 y16 y17 y18 y19 y20 y21 y22))
 | 0 => ⟨fun _ _ _ _ _ _ _ _ _ _ _ _ r h => by simp [impl_AsksOf.l0] at h, fun _ _ _ _ _ _ _ _ _ _ _ _ _ _ _ _ _ _ _ _ _ _ _ r h => by simp [impl_AsksOf.j1] at h⟩
 | k + 1 => by
  obtain ⟨ih0, ih1⟩ := impl_AsksOf.mono_l k
  refine ⟨?_, ?_⟩
  ·intro y0 y1 y2 y3 y4 y5 y6 y7 y8 y9 y10 y11
   unfold impl_AsksOf.l0
   repeat' first
   | (with_reducible exact ih0 _ _ _ _ _ _ _ _ _ _ _ _)
   | (with_reducible exact ih1 _ _ _ _ _ _ _ _ _ _ _ _ _ _ _ _ _ _ _ _ _ _ _)
   | (with_reducible exact LeO.refl _)
   | (with_reducible exact LeO.none _)
   | (with_reducible refine LeO.ite ?_ ?_)
   | (with_reducible refine LeO.bind ?_ (fun _ => ?_))
   | exact ih0 _ _ _ _ _ _ _ _ _ _ _ _
   | exact ih1 _ _ _ _ _ _ _ _ _ _ _ _ _ _ _ _ _ _ _ _ _ _ _
   | exact LeO.none _
   | refine LeO.ite ?_ ?_
   | refine LeO.bind ?_ (fun _ => ?_)
  ·intro y0 y1 y2 y3 y4 y5 y6 y7 y8 y9 y10 y11 y12 y13 y14 y15 y16 y17 y18 y19 y20 y21 y22
   unfold impl_AsksOf.j1
   repeat' first
   | (with_reducible exact ih0 _ _ _ _ _ _ _ _ _ _ _ _)
   | (with_reducible exact ih1 _ _ _ _ _ _ _ _ _ _ _ _ _ _ _ _ _ _ _ _ _ _ _)
   | (with_reducible exact LeO.refl _)
   | (with_reducible exact LeO.none _)
   | (with_reducible refine LeO.ite ?_ ?_)
   | (with_reducible refine LeO.bind ?_ (fun _ => ?_))
   | exact ih0 _ _ _ _ _ _ _ _ _ _ _ _
   | exact ih1 _ _ _ _ _ _ _ _ _ _ _ _ _ _ _ _ _ _ _ _ _ _ _
   | exact LeO.none _
   | refine LeO.ite ?_ ?_
   | refine LeO.bind ?_ (fun _ => ?_)
theorem impl_AsksOf.mono : ∀ a0 a1 a2 k, LeO (impl_AsksOf.f k a0 a1 a2) (impl_AsksOf.f (k + 1) a0 a1 a2) := by
 intro a0 a1 a2 k
 obtain ⟨ih0, ih1⟩ := impl_AsksOf.mono_l k
 unfold impl_AsksOf.f
 repeat' first
   | (with_reducible exact ih0 _ _ _ _ _ _ _ _ _ _ _ _)
   | (with_reducible exact ih1 _ _ _ _ _ _ _ _ _ _ _ _ _ _ _ _ _ _ _ _ _ _ _)
   | (with_reducible exact LeO.refl _)
   | (with_reducible exact LeO.none _)
   | (with_reducible refine LeO.ite ?_ ?_)
   | (with_reducible refine LeO.bind ?_ (fun _ => ?_))
   | exact ih0 _ _ _ _ _ _ _ _ _ _ _ _
   | exact ih1 _ _ _ _ _ _ _ _ _ _ _ _ _ _ _ _ _ _ _ _ _ _ _
   | exact LeO.none _
   | refine LeO.ite ?_ ?_
   | refine LeO.bind ?_ (fun _ => ?_)
set_option maxHeartbeats 8000000 in
set_option maxRecDepth 100000 in
theorem impl_AsksOf.calls (k : Nat) (A0 : Option Addr) (c0 : Nat) (l0 : List (S123)) (A1 : Option Addr) (c1 : Nat) (l1 : List (S125)) (a2 : Int) (r : List (S42)) (w : World) (hr0 : Kd.C k123 w A0 l0.length l0) (hc0 : l0.length ≤ c0) (hr1 : Kd.C k125 w A1 l1.length l1) (hc1 : l1.length ≤ c1) (h : impl_AsksOf.f k l0 l1 a2 = some r) :
  Calls Try.prog 16 #[.slice A0 l0.length c0, .slice A1 l1.length c1, .int .i64 a2] w fun e w' => ∃ v0_ : Value, e = .returned (v0_) ∧ Kd.R k42 42 w' w.heap.size (fun _ => True) v0_ r ∧ Below w.heap.size w w' := by
 have hu42 := Try.underlying42
 have hu123 := Try.underlying123
 have HR0 := Am hr0
 have HC0 := Am hc0
 clear hr0 hc0
 have HR1 := Am hr1
 have HC1 := Am hc1
 clear hr1 hc1
 have HB := Am (Below.refl w.heap.size w)
 have H : (if (l0.length : Int) = (l1.length : Int) then (impl_AsksOf.l0 k l1 a2 (([] : List (S42))) l0 (l0.length : Int) 0 0 (⟨#[]⟩ : ByteArray) (⟨#[]⟩ : ByteArray) 0 0 (⟨#[]⟩ : ByteArray)) else (some ([] : List (S42)))) = some r := h
 clear h
 by_cases c4 : (l0.length : Int) = (l1.length : Int)
 ·rw [if_pos c4] at H
  have c4b0 : ((l0.length : Int) == (l1.length : Int)) = true := beq_iff_eq.mpr c4
  have c4b1 : ((l0.length : Int) != (l1.length : Int)) = false := bne_eq_false_iff_eq.mpr c4
  have c4b2 : (l0.length == l1.length) = true := by first | simpa using c4 | (simp at c4 ⊢; omega)
  clear c4
  obtain ⟨y194, hy194⟩ : ∃ y_ : List (S42), y_ = (([] : List (S42))) := ⟨_, rfl⟩
  replace H : (impl_AsksOf.l0 k l1 a2 y194 l0 (l0.length : Int) 0 0 (⟨#[]⟩ : ByteArray) (⟨#[]⟩ : ByteArray) 0 0 (⟨#[]⟩ : ByteArray)) = some r := by first | (rw [hy194]; with_reducible exact H) | (have H2_ := (Option.bind_some _ _).symm.trans H; rw [hy194]; with_reducible exact H2_) | (have H2_ := (Option.bind_some _ _).symm.trans H; with_reducible exact H2_) | with_reducible exact H | (rw [hy194]; exact H) | exact H
  have Ny194 := Am hy194
  clear hy194
  have H' := Am H
  clear H
  go_enter Try.func16, Try.ntmps16
  go_wp2_with (first | ((with_reducible refine gate_dst (N := 7) rfl ?_); refine box_event ?hg (N := 7) ?hd (cs := #[.int .i64 0, .string (⟨#[]⟩ : ByteArray), .string (⟨#[]⟩ : ByteArray), .int .i64 0, .int .i64 0, .string (⟨#[]⟩ : ByteArray)]) (t := 42) ?hr ?_; (case hd => rfl); (case hg => rfl); (case hr => first | (go_simp; done) | (go_simp; rfl)); intro gb193 hg w5 hbox hb; have BK193 := Am (hbox); have GW193 := Am ((by rw [hg]; exact (bz (by repeat (first | (with_reducible first | exact HB.out | apply ba | apply bn | apply be) | exact HB.out))) : w.heap.size ≤ gb193)); have GE193 := Am ((by rw [hg]; exact (bz (by repeat (first | (with_reducible first | exact HB.out | apply ba | apply bn | apply be) | exact HB.out))) : w.heap.size ≤ gb193)); replace HB := Am (bq (by repeat (first | (with_reducible first | exact HB.out | apply ba | apply bn | apply be) | exact HB.out)) hb); clear hb hbox hg; have hcz6_0 : w5.cell? ⟨gb193, 0, none⟩ = some (.int .i64 0) := (kc BK193.out 0).trans rfl; have hcz6_1 : w5.cell? ⟨gb193, 1, none⟩ = some (.string (⟨#[]⟩ : ByteArray)) := (kc BK193.out 1).trans rfl; have hcz6_2 : w5.cell? ⟨gb193, 2, none⟩ = some (.string (⟨#[]⟩ : ByteArray)) := (kc BK193.out 2).trans rfl; have hcz6_3 : w5.cell? ⟨gb193, 3, none⟩ = some (.int .i64 0) := (kc BK193.out 3).trans rfl; have hcz6_4 : w5.cell? ⟨gb193, 4, none⟩ = some (.int .i64 0) := (kc BK193.out 4).trans rfl; have hcz6_5 : w5.cell? ⟨gb193, 5, none⟩ = some (.string (⟨#[]⟩ : ByteArray)) := (kc BK193.out 5).trans rfl; have hfz6_0 := kf BK193.out 0; have hfz6_1 := kf BK193.out 1; have hfz6_2 := kf BK193.out 2; have hfz6_3 := kf BK193.out 3; have hfz6_4 := kf BK193.out 4; have hfz6_5 := kf BK193.out 5) | ((with_reducible refine gate_dst (N := 17) rfl ?_); refine Kd.R_lit k42 _ 42 ?hg (N := 17) ?hd (xs := ([] : List (S42))) (inner := []) (ok := fun _ => True) (okp := fun _ => True) ?hr ?hp (fun _ hk => hk) trivial (Below.refl _ _) (Nat.le_refl _) (by simp) ?_; (case hd => rfl); (case hg => rfl); (case hr => first | (go_simp; done) | (go_simp; rfl)); (case hp => exact (Reps.none _ _)); intro v195 w7 ho8 hb hg_ hnew_; clear hg_ hnew_; (first | rw [← Ny194.out] at ho8 | (simp only [Int.reduceToNat] at ho8; rw [← Ny194.out] at ho8)); have n0_ := Am (Kd.R_lower (Kd.R_newB ho8 (g := gb193) (o := .cells #[.int .i64 0, .string (⟨#[]⟩ : ByteArray), .string (⟨#[]⟩ : ByteArray), .int .i64 0, .int .i64 0, .string (⟨#[]⟩ : ByteArray)] 42 (0, 0)) (by (with_reducible repeat (first | refine kn ?_ _ | refine ke ?_ | refine ka ?_ _)); refine kp (cs := #[.int .i64 0, .string (⟨#[]⟩ : ByteArray), .string (⟨#[]⟩ : ByteArray), .int .i64 0, .int .i64 0, .string (⟨#[]⟩ : ByteArray)]) ?_ 5 _ rfl; (with_reducible repeat (first | refine kn ?_ _ | refine ke ?_ | refine ka ?_ _)); refine kp (cs := #[.int .i64 0, .string (⟨#[]⟩ : ByteArray), .string (⟨#[]⟩ : ByteArray), .int .i64 0, .int .i64 0, .string (⟨#[]⟩ : ByteArray)]) ?_ 4 _ rfl; (with_reducible repeat (first | refine kn ?_ _ | refine ke ?_ | refine ka ?_ _)); refine kp (cs := #[.int .i64 0, .string (⟨#[]⟩ : ByteArray), .string (⟨#[]⟩ : ByteArray), .int .i64 0, .int .i64 0, .string (⟨#[]⟩ : ByteArray)]) ?_ 3 _ rfl; (with_reducible repeat (first | refine kn ?_ _ | refine ke ?_ | refine ka ?_ _)); refine kp (cs := #[.int .i64 0, .string (⟨#[]⟩ : ByteArray), .string (⟨#[]⟩ : ByteArray), .int .i64 0, .int .i64 0, .string (⟨#[]⟩ : ByteArray)]) ?_ 2 _ rfl; (with_reducible repeat (first | refine kn ?_ _ | refine ke ?_ | refine ka ?_ _)); refine kp (cs := #[.int .i64 0, .string (⟨#[]⟩ : ByteArray), .string (⟨#[]⟩ : ByteArray), .int .i64 0, .int .i64 0, .string (⟨#[]⟩ : ByteArray)]) ?_ 1 _ rfl; (with_reducible repeat (first | refine kn ?_ _ | refine ke ?_ | refine ka ?_ _)); refine kp (cs := #[.int .i64 0, .string (⟨#[]⟩ : ByteArray), .string (⟨#[]⟩ : ByteArray), .int .i64 0, .int .i64 0, .string (⟨#[]⟩ : ByteArray)]) ?_ 0 _ rfl; (with_reducible repeat (first | refine kn ?_ _ | refine ke ?_ | refine ka ?_ _)); exact BK193.out)) (bz (by repeat (first | (with_reducible first | exact HB.out | apply ba | apply bn | apply be | refine bs ?_ GE193.out) | exact HB.out)))); have n1_ := Am (kb (g := gb193) (o := .cells #[.int .i64 0, .string (⟨#[]⟩ : ByteArray), .string (⟨#[]⟩ : ByteArray), .int .i64 0, .int .i64 0, .string (⟨#[]⟩ : ByteArray)] 42 (0, 0)) (by (with_reducible repeat (first | refine kn ?_ _ | refine ke ?_ | refine ka ?_ _)); refine kp (cs := #[.int .i64 0, .string (⟨#[]⟩ : ByteArray), .string (⟨#[]⟩ : ByteArray), .int .i64 0, .int .i64 0, .string (⟨#[]⟩ : ByteArray)]) ?_ 5 _ rfl; (with_reducible repeat (first | refine kn ?_ _ | refine ke ?_ | refine ka ?_ _)); refine kp (cs := #[.int .i64 0, .string (⟨#[]⟩ : ByteArray), .string (⟨#[]⟩ : ByteArray), .int .i64 0, .int .i64 0, .string (⟨#[]⟩ : ByteArray)]) ?_ 4 _ rfl; (with_reducible repeat (first | refine kn ?_ _ | refine ke ?_ | refine ka ?_ _)); refine kp (cs := #[.int .i64 0, .string (⟨#[]⟩ : ByteArray), .string (⟨#[]⟩ : ByteArray), .int .i64 0, .int .i64 0, .string (⟨#[]⟩ : ByteArray)]) ?_ 3 _ rfl; (with_reducible repeat (first | refine kn ?_ _ | refine ke ?_ | refine ka ?_ _)); refine kp (cs := #[.int .i64 0, .string (⟨#[]⟩ : ByteArray), .string (⟨#[]⟩ : ByteArray), .int .i64 0, .int .i64 0, .string (⟨#[]⟩ : ByteArray)]) ?_ 2 _ rfl; (with_reducible repeat (first | refine kn ?_ _ | refine ke ?_ | refine ka ?_ _)); refine kp (cs := #[.int .i64 0, .string (⟨#[]⟩ : ByteArray), .string (⟨#[]⟩ : ByteArray), .int .i64 0, .int .i64 0, .string (⟨#[]⟩ : ByteArray)]) ?_ 1 _ rfl; (with_reducible repeat (first | refine kn ?_ _ | refine ke ?_ | refine ka ?_ _)); refine kp (cs := #[.int .i64 0, .string (⟨#[]⟩ : ByteArray), .string (⟨#[]⟩ : ByteArray), .int .i64 0, .int .i64 0, .string (⟨#[]⟩ : ByteArray)]) ?_ 0 _ rfl; (with_reducible repeat (first | refine kn ?_ _ | refine ke ?_ | refine ka ?_ _)); exact BK193.out) hb); have n2_ := Am (bq (by repeat (first | (with_reducible first | exact HB.out | apply ba | apply bn | apply be | refine bs ?_ GE193.out) | exact HB.out)) hb); clear BK193; clear HB; have HO196 := n0_; have BK193 := n1_; have HB := n2_; clear n0_ n1_ n2_; clear hb ho8))
  go_loopg [8, 20] k (fun kq v8 v20 w' => ∃ (x8_1 : List (S42)) (x20_1 : Int) (x194000_1 : Int) (x194001_1 : ByteArray) (x194002_1 : ByteArray) (x194003_1 : Int) (x194004_1 : Int) (x194005_1 : ByteArray), v20 = .int .i64 x20_1 ∧ Aside0 (impl_AsksOf.l0 kq l1 a2 x8_1 l0 (l0.length : Int) x20_1 x194000_1 x194001_1 x194002_1 x194003_1 x194004_1 x194005_1 = some r) ∧ Aside0 (kq ≤ k) ∧ Aside0 (Kd.R k42 42 w' w.heap.size (fun k_ => k_ ≠ gb193) v8 x8_1) ∧ Aside0 (w'.heap[gb193]? = some (.cells #[.int .i64 x194000_1, .string x194001_1, .string x194002_1, .int .i64 x194003_1, .int .i64 x194004_1, .string x194005_1] 42 (0, 0))) ∧ Aside0 (Below w.heap.size w w'))
  case atStart => exact ⟨(y194), (0), (0), ((⟨#[]⟩ : ByteArray)), ((⟨#[]⟩ : ByteArray)), (0), (0), ((⟨#[]⟩ : ByteArray)), (by first | rfl | (simp; done) | (simp [*]; done)), H', ⟨Nat.le_refl _⟩, ⟨by (with_reducible repeat (first | apply ra | apply rn | apply re)); exact Kd.R_mono HO196.out (fun _ hk => hk.2)⟩, ⟨by (with_reducible repeat (first | refine kn ?_ _ | refine ke ?_ | refine ka ?_ _)); exact BK193.out⟩, ⟨by repeat (first | (with_reducible first | exact HB.out | apply ba | apply bn | apply be | refine bs ?_ GE193.out) | exact HB.out)⟩⟩
  case round =>
   clear H'
   try clear c1
   try clear p2
   try clear c4
   try clear c4b0
   try clear c4b1
   try clear c4b2
   try clear hcz6_0
   try clear hcz6_1
   try clear hcz6_2
   try clear hcz6_3
   try clear hcz6_4
   try clear hcz6_5
   try clear hfz6_0
   try clear hfz6_1
   try clear hfz6_2
   try clear hfz6_3
   try clear hfz6_4
   try clear hfz6_5
   obtain ⟨x8_1, x20_1, x194000_1, x194001_1, x194002_1, x194003_1, x194004_1, x194005_1, rfl, HA, HK1, HO_8, BK193, HB⟩ := hrel
   cases gk with
   | zero => exact absurd HA.out (by simp [impl_AsksOf.l0])
   | succ k1 =>
    have H := HA.out
    clear HA
    simp only [impl_AsksOf.l0] at H
    by_cases c9 : x20_1 < (l0.length : Int)
    ·rw [if_pos c9] at H
     have c9b0 : decide (x20_1 < (l0.length : Int)) = true := decide_eq_true c9
     clear c9
     by_cases c10 : 0 ≤ x20_1
     ·rw [if_pos c10] at H
      have c10b0 : decide (0 ≤ x20_1) = true := decide_eq_true c10
      clear c10
      by_cases c11 : x20_1 < (l0.length : Int)
      ·rw [if_pos c11] at H
       have c11b0 : decide (x20_1 < (l0.length : Int)) = true := decide_eq_true c11
       clear c11
       have HC12 := Am H
       clear H
       have p197 : 0 ≤ (x20_1 : Int) := of_decide_eq_true (by first | (with_reducible assumption) | assumption)
       have q197 : x20_1 < (l0.length : Int) := of_decide_eq_true (by first | (with_reducible assumption) | assumption)
       obtain ⟨ad197, e197, hx197_0, hx197_1, hx197_2, hx197_3, hx197_4, hx197_5, hx197_6, hx197_7, hx197_8⟩ := at_T123 HR0.out x20_1 p197 q197
       cases e197
       replace hx197_0 := cl4 HB hx197_0
       replace hx197_1 := cl4 HB hx197_1
       replace hx197_2 := cl4 HB hx197_2
       replace hx197_3 := cl4 HB hx197_3
       replace hx197_4 := cl4 HB hx197_4
       replace hx197_5 := cl4 HB hx197_5
       replace hx197_6 := cl4 HB hx197_6
       replace hx197_7 := cl4 HB hx197_7
       replace hx197_8 := cl4 HB hx197_8
       replace p197 := eq_true p197
       replace q197 := eq_true q197
       go_upto_region 8 with (first | ((with_reducible refine gate_dst (N := 10) rfl ?_); refine box_event ?hg (N := 10) ?hd (cs := #[.int .i64 0, .int .i64 0, .int .i64 0, .string (⟨#[]⟩ : ByteArray), .string (⟨#[]⟩ : ByteArray), .int .i64 0, .int .i64 0, .string (⟨#[]⟩ : ByteArray), .int .i64 0]) (t := 123) ?hr ?_; (case hd => rfl); (case hg => rfl); (case hr => first | (go_simp; done) | (go_simp; rfl)); intro gb198 hg w13 hbox hb; have n0_ := Am (rb (by (with_reducible repeat (first | apply ra | apply rn | apply re)); exact HO_8.out) hb); have n1_ := Am (kb (g := gb193) (o := o4b0 x194000_1 x194001_1 x194002_1 x194003_1 x194004_1 x194005_1) (by (with_reducible repeat (first | refine kn ?_ _ | refine ke ?_ | refine ka ?_ _)); exact BK193.out) hb); have n2_ := Am (bq (by repeat (first | (with_reducible first | exact HB.out | apply ba | apply bn | apply be | refine bs ?_ GE193.out) | exact HB.out)) hb); have n3_ := Am (hbox); have n4_ := Am ((by rw [hg]; exact (bz (by repeat (first | (with_reducible first | exact HB.out | apply ba | apply bn | apply be | refine bs ?_ GE193.out) | exact HB.out))) : w.heap.size ≤ gb198)); have n5_ := Am ((by rw [hg]; exact (bz (by repeat (first | (with_reducible first | exact HB.out | apply ba | apply bn | apply be | refine bs ?_ GE193.out) | exact HB.out))) : w.heap.size ≤ gb198)); have n6_ := Am ((by rw [hg]; exact Nat.ne_of_lt (kl (g := gb193) (o := o4b0 x194000_1 x194001_1 x194002_1 x194003_1 x194004_1 x194005_1) (by (with_reducible repeat (first | refine kn ?_ _ | refine ke ?_ | refine ka ?_ _)); exact BK193.out)) : gb193 ≠ gb198)); have n7_ := Am ((by rw [hg]; exact Nat.ne_of_gt (kl (g := gb193) (o := o4b0 x194000_1 x194001_1 x194002_1 x194003_1 x194004_1 x194005_1) (by (with_reducible repeat (first | refine kn ?_ _ | refine ke ?_ | refine ka ?_ _)); exact BK193.out)) : gb198 ≠ gb193)); clear HO_8; clear BK193; clear HB; have HO_8 := n0_; have BK193 := n1_; have HB := n2_; have BK198 := n3_; have GW198 := n4_; have GE198 := n5_; have NB193_198 := n6_; have NB198_193 := n7_; clear n0_ n1_ n2_ n3_ n4_ n5_ n6_ n7_; clear hb hbox hg; have hnb14 := NB198_193.out; have hnc14 := NB193_198.out; have hcz15_0 : w13.cell? ⟨gb198, 0, none⟩ = some (.int .i64 0) := (kc BK198.out 0).trans rfl; have hcz15_1 : w13.cell? ⟨gb198, 1, none⟩ = some (.int .i64 0) := (kc BK198.out 1).trans rfl; have hcz15_2 : w13.cell? ⟨gb198, 2, none⟩ = some (.int .i64 0) := (kc BK198.out 2).trans rfl; have hcz15_3 : w13.cell? ⟨gb198, 3, none⟩ = some (.string (⟨#[]⟩ : ByteArray)) := (kc BK198.out 3).trans rfl; have hcz15_4 : w13.cell? ⟨gb198, 4, none⟩ = some (.string (⟨#[]⟩ : ByteArray)) := (kc BK198.out 4).trans rfl; have hcz15_5 : w13.cell? ⟨gb198, 5, none⟩ = some (.int .i64 0) := (kc BK198.out 5).trans rfl; have hcz15_6 : w13.cell? ⟨gb198, 6, none⟩ = some (.int .i64 0) := (kc BK198.out 6).trans rfl; have hcz15_7 : w13.cell? ⟨gb198, 7, none⟩ = some (.string (⟨#[]⟩ : ByteArray)) := (kc BK198.out 7).trans rfl; have hcz15_8 : w13.cell? ⟨gb198, 8, none⟩ = some (.int .i64 0) := (kc BK198.out 8).trans rfl; have hfz15_0 := kf BK198.out 0; have hfz15_1 := kf BK198.out 1; have hfz15_2 := kf BK198.out 2; have hfz15_3 := kf BK198.out 3; have hfz15_4 := kf BK198.out 4; have hfz15_5 := kf BK198.out 5; have hfz15_6 := kf BK198.out 6; have hfz15_7 := kf BK198.out 7; have hfz15_8 := kf BK198.out 8))
       (try simp only [Act.put, List.setIfInBounds_toArray, List.set_cons_zero, List.set_cons_succ])
       go_cut [41] (fun v41 wc => ∃ (kq : Nat) (x41_11 : Bool), v41 = .bool x41_11 ∧ Aside0 (impl_AsksOf.j1 kq l1 a2 x8_1 x20_1 l0 (l0.length : Int) x20_1 x41_11 x194000_1 x194001_1 x194002_1 x194003_1 x194004_1 x194005_1 ((rd_T123 l0 x20_1).f0) ((rd_T123 l0 x20_1).f1) ((rd_T123 l0 x20_1).f2.f0) ((rd_T123 l0 x20_1).f2.f1) ((rd_T123 l0 x20_1).f2.f2) ((rd_T123 l0 x20_1).f2.f3) ((rd_T123 l0 x20_1).f2.f4) ((rd_T123 l0 x20_1).f2.f5) ((rd_T123 l0 x20_1).f3) = some r) ∧ Aside0 (kq ≤ k1) ∧ Aside0 (Kd.R k42 42 wc w.heap.size (fun k_ => k_ ≠ gb193) u8 x8_1) ∧ Aside0 (wc.heap[gb193]? = some (.cells #[.int .i64 x194000_1, .string x194001_1, .string x194002_1, .int .i64 x194003_1, .int .i64 x194004_1, .string x194005_1] 42 (0, 0))) ∧ Aside0 (wc.heap[gb198]? = some (.cells #[.int .i64 ((rd_T123 l0 x20_1).f0), .int .i64 ((rd_T123 l0 x20_1).f1), .int .i64 ((rd_T123 l0 x20_1).f2.f0), .string ((rd_T123 l0 x20_1).f2.f1), .string ((rd_T123 l0 x20_1).f2.f2), .int .i64 ((rd_T123 l0 x20_1).f2.f3), .int .i64 ((rd_T123 l0 x20_1).f2.f4), .string ((rd_T123 l0 x20_1).f2.f5), .int .i64 ((rd_T123 l0 x20_1).f3)] 123 (0, 0))) ∧ Aside0 (Below w.heap.size w wc))
       case first =>
        have H := HC12.out
        clear HC12
        by_cases c16 : ((rd_T123 l0 x20_1).f0) = 1
        ·rw [if_pos c16] at H
         have c16b0 : (((rd_T123 l0 x20_1).f0) == 1) = true := beq_iff_eq.mpr c16
         have c16b1 : (((rd_T123 l0 x20_1).f0) != 1) = false := bne_eq_false_iff_eq.mpr c16
         clear c16
         (first | rw [c16b0] | (simp only [i64_w, i32_w]; rw [c16b0]) | skip)
         by_cases c17 : ((rd_T123 l0 x20_1).f1) = a2
         ·rw [if_pos c17] at H
          have c17b0 : (((rd_T123 l0 x20_1).f1) == a2) = true := beq_iff_eq.mpr c17
          have c17b1 : (((rd_T123 l0 x20_1).f1) != a2) = false := bne_eq_false_iff_eq.mpr c17
          clear c17
          by_cases c18 : x20_1 < (l1.length : Int)
          ·rw [if_pos c18] at H
           have c18b0 : decide (x20_1 < (l1.length : Int)) = true := decide_eq_true c18
           clear c18
           have H' := Am H
           clear H
           have hnb19 := NB198_193.out
           have hnc19 := NB193_198.out
           have hcz20_0 : w13.cell? ⟨gb198, 0, none⟩ = some (.int .i64 0) := (kc BK198.out 0).trans rfl
           have hcz20_1 : w13.cell? ⟨gb198, 1, none⟩ = some (.int .i64 0) := (kc BK198.out 1).trans rfl
           have hcz20_2 : w13.cell? ⟨gb198, 2, none⟩ = some (.int .i64 0) := (kc BK198.out 2).trans rfl
           have hcz20_3 : w13.cell? ⟨gb198, 3, none⟩ = some (.string (⟨#[]⟩ : ByteArray)) := (kc BK198.out 3).trans rfl
           have hcz20_4 : w13.cell? ⟨gb198, 4, none⟩ = some (.string (⟨#[]⟩ : ByteArray)) := (kc BK198.out 4).trans rfl
           have hcz20_5 : w13.cell? ⟨gb198, 5, none⟩ = some (.int .i64 0) := (kc BK198.out 5).trans rfl
           have hcz20_6 : w13.cell? ⟨gb198, 6, none⟩ = some (.int .i64 0) := (kc BK198.out 6).trans rfl
           have hcz20_7 : w13.cell? ⟨gb198, 7, none⟩ = some (.string (⟨#[]⟩ : ByteArray)) := (kc BK198.out 7).trans rfl
           have hcz20_8 : w13.cell? ⟨gb198, 8, none⟩ = some (.int .i64 0) := (kc BK198.out 8).trans rfl
           have hfz20_0 := kf BK198.out 0
           have hfz20_1 := kf BK198.out 1
           have hfz20_2 := kf BK198.out 2
           have hfz20_3 := kf BK198.out 3
           have hfz20_4 := kf BK198.out 4
           have hfz20_5 := kf BK198.out 5
           have hfz20_6 := kf BK198.out 6
           have hfz20_7 := kf BK198.out 7
           have hfz20_8 := kf BK198.out 8
           have p199 : 0 ≤ (x20_1 : Int) := of_decide_eq_true (by first | (with_reducible assumption) | assumption)
           have q199 : x20_1 < (l1.length : Int) := of_decide_eq_true (by first | (with_reducible assumption) | assumption)
           obtain ⟨ad199, A199_7, c199_7, e199, hx199_0, hx199_1, hx199_2, hx199_3, hx199_4, hx199_5, hx199_6, hx199_7, hl199_7, hi199_7⟩ := at_T125 HR1.out x20_1 p199 q199
           cases e199
           have hn199_0 : ad199.block ≠ gb198 := Nat.ne_of_lt (Nat.lt_of_lt_of_le (by have := World.block_lt_of_cell? _ _ hx199_0; first | rwa [add_block] at this | exact this) GW198.out)
           have hn199_1 : ad199.block ≠ gb198 := Nat.ne_of_lt (Nat.lt_of_lt_of_le (by have := World.block_lt_of_cell? _ _ hx199_0; first | rwa [add_block] at this | exact this) GW198.out)
           have hn199_2 : ad199.block ≠ gb198 := Nat.ne_of_lt (Nat.lt_of_lt_of_le (by have := World.block_lt_of_cell? _ _ hx199_0; first | rwa [add_block] at this | exact this) GW198.out)
           have hn199_3 : ad199.block ≠ gb198 := Nat.ne_of_lt (Nat.lt_of_lt_of_le (by have := World.block_lt_of_cell? _ _ hx199_0; first | rwa [add_block] at this | exact this) GW198.out)
           have hn199_4 : ad199.block ≠ gb198 := Nat.ne_of_lt (Nat.lt_of_lt_of_le (by have := World.block_lt_of_cell? _ _ hx199_0; first | rwa [add_block] at this | exact this) GW198.out)
           have hn199_5 : ad199.block ≠ gb198 := Nat.ne_of_lt (Nat.lt_of_lt_of_le (by have := World.block_lt_of_cell? _ _ hx199_0; first | rwa [add_block] at this | exact this) GW198.out)
           have hn199_6 : ad199.block ≠ gb198 := Nat.ne_of_lt (Nat.lt_of_lt_of_le (by have := World.block_lt_of_cell? _ _ hx199_0; first | rwa [add_block] at this | exact this) GW198.out)
           have hn199_7 : ad199.block ≠ gb198 := Nat.ne_of_lt (Nat.lt_of_lt_of_le (by have := World.block_lt_of_cell? _ _ hx199_0; first | rwa [add_block] at this | exact this) GW198.out)
           have hn199_8 : ad199.block ≠ gb198 := Nat.ne_of_lt (Nat.lt_of_lt_of_le (by have := World.block_lt_of_cell? _ _ hx199_0; first | rwa [add_block] at this | exact this) GW198.out)
           replace hx199_0 := cl4 HB hx199_0
           replace hx199_1 := cl4 HB hx199_1
           replace hx199_2 := cl4 HB hx199_2
           replace hx199_3 := cl4 HB hx199_3
           replace hx199_4 := cl4 HB hx199_4
           replace hx199_5 := cl4 HB hx199_5
           replace hx199_6 := cl4 HB hx199_6
           replace hx199_7 := cl4 HB hx199_7
           have HR199_7 := Am hi199_7
           have HC199_7 := Am hl199_7
           clear hi199_7 hl199_7
           replace hx199_0 := cfx (p := ⟨gb198, 0, none⟩) (.int .i64 ((rd_T123 l0 x20_1).f0)) hx199_0 hn199_0
           replace hx199_1 := cfy (p := ⟨gb198, 0, none⟩) (.int .i64 ((rd_T123 l0 x20_1).f0)) hx199_1 hn199_0
           replace hx199_2 := cfy (p := ⟨gb198, 0, none⟩) (.int .i64 ((rd_T123 l0 x20_1).f0)) hx199_2 hn199_0
           replace hx199_3 := cfy (p := ⟨gb198, 0, none⟩) (.int .i64 ((rd_T123 l0 x20_1).f0)) hx199_3 hn199_0
           replace hx199_4 := cfy (p := ⟨gb198, 0, none⟩) (.int .i64 ((rd_T123 l0 x20_1).f0)) hx199_4 hn199_0
           replace hx199_5 := cfy (p := ⟨gb198, 0, none⟩) (.int .i64 ((rd_T123 l0 x20_1).f0)) hx199_5 hn199_0
           replace hx199_6 := cfy (p := ⟨gb198, 0, none⟩) (.int .i64 ((rd_T123 l0 x20_1).f0)) hx199_6 hn199_0
           replace hx199_7 := cfy (p := ⟨gb198, 0, none⟩) (.int .i64 ((rd_T123 l0 x20_1).f0)) hx199_7 hn199_0
           replace hx199_0 := cfx (p := ⟨gb198, 1, none⟩) (.int .i64 ((rd_T123 l0 x20_1).f1)) hx199_0 hn199_1
           replace hx199_1 := cfy (p := ⟨gb198, 1, none⟩) (.int .i64 ((rd_T123 l0 x20_1).f1)) hx199_1 hn199_1
           replace hx199_2 := cfy (p := ⟨gb198, 1, none⟩) (.int .i64 ((rd_T123 l0 x20_1).f1)) hx199_2 hn199_1
           replace hx199_3 := cfy (p := ⟨gb198, 1, none⟩) (.int .i64 ((rd_T123 l0 x20_1).f1)) hx199_3 hn199_1
           replace hx199_4 := cfy (p := ⟨gb198, 1, none⟩) (.int .i64 ((rd_T123 l0 x20_1).f1)) hx199_4 hn199_1
           replace hx199_5 := cfy (p := ⟨gb198, 1, none⟩) (.int .i64 ((rd_T123 l0 x20_1).f1)) hx199_5 hn199_1
           replace hx199_6 := cfy (p := ⟨gb198, 1, none⟩) (.int .i64 ((rd_T123 l0 x20_1).f1)) hx199_6 hn199_1
           replace hx199_7 := cfy (p := ⟨gb198, 1, none⟩) (.int .i64 ((rd_T123 l0 x20_1).f1)) hx199_7 hn199_1
           replace hx199_0 := cfx (p := ⟨gb198, 2, none⟩) (.int .i64 ((rd_T123 l0 x20_1).f2.f0)) hx199_0 hn199_2
           replace hx199_1 := cfy (p := ⟨gb198, 2, none⟩) (.int .i64 ((rd_T123 l0 x20_1).f2.f0)) hx199_1 hn199_2
           replace hx199_2 := cfy (p := ⟨gb198, 2, none⟩) (.int .i64 ((rd_T123 l0 x20_1).f2.f0)) hx199_2 hn199_2
           replace hx199_3 := cfy (p := ⟨gb198, 2, none⟩) (.int .i64 ((rd_T123 l0 x20_1).f2.f0)) hx199_3 hn199_2
           replace hx199_4 := cfy (p := ⟨gb198, 2, none⟩) (.int .i64 ((rd_T123 l0 x20_1).f2.f0)) hx199_4 hn199_2
           replace hx199_5 := cfy (p := ⟨gb198, 2, none⟩) (.int .i64 ((rd_T123 l0 x20_1).f2.f0)) hx199_5 hn199_2
           replace hx199_6 := cfy (p := ⟨gb198, 2, none⟩) (.int .i64 ((rd_T123 l0 x20_1).f2.f0)) hx199_6 hn199_2
           replace hx199_7 := cfy (p := ⟨gb198, 2, none⟩) (.int .i64 ((rd_T123 l0 x20_1).f2.f0)) hx199_7 hn199_2
           replace hx199_0 := cfx (p := ⟨gb198, 3, none⟩) (.string ((rd_T123 l0 x20_1).f2.f1)) hx199_0 hn199_3
           replace hx199_1 := cfy (p := ⟨gb198, 3, none⟩) (.string ((rd_T123 l0 x20_1).f2.f1)) hx199_1 hn199_3
           replace hx199_2 := cfy (p := ⟨gb198, 3, none⟩) (.string ((rd_T123 l0 x20_1).f2.f1)) hx199_2 hn199_3
           replace hx199_3 := cfy (p := ⟨gb198, 3, none⟩) (.string ((rd_T123 l0 x20_1).f2.f1)) hx199_3 hn199_3
           replace hx199_4 := cfy (p := ⟨gb198, 3, none⟩) (.string ((rd_T123 l0 x20_1).f2.f1)) hx199_4 hn199_3
           replace hx199_5 := cfy (p := ⟨gb198, 3, none⟩) (.string ((rd_T123 l0 x20_1).f2.f1)) hx199_5 hn199_3
           replace hx199_6 := cfy (p := ⟨gb198, 3, none⟩) (.string ((rd_T123 l0 x20_1).f2.f1)) hx199_6 hn199_3
           replace hx199_7 := cfy (p := ⟨gb198, 3, none⟩) (.string ((rd_T123 l0 x20_1).f2.f1)) hx199_7 hn199_3
           replace hx199_0 := cfx (p := ⟨gb198, 4, none⟩) (.string ((rd_T123 l0 x20_1).f2.f2)) hx199_0 hn199_4
           replace hx199_1 := cfy (p := ⟨gb198, 4, none⟩) (.string ((rd_T123 l0 x20_1).f2.f2)) hx199_1 hn199_4
           replace hx199_2 := cfy (p := ⟨gb198, 4, none⟩) (.string ((rd_T123 l0 x20_1).f2.f2)) hx199_2 hn199_4
           replace hx199_3 := cfy (p := ⟨gb198, 4, none⟩) (.string ((rd_T123 l0 x20_1).f2.f2)) hx199_3 hn199_4
           replace hx199_4 := cfy (p := ⟨gb198, 4, none⟩) (.string ((rd_T123 l0 x20_1).f2.f2)) hx199_4 hn199_4
           replace hx199_5 := cfy (p := ⟨gb198, 4, none⟩) (.string ((rd_T123 l0 x20_1).f2.f2)) hx199_5 hn199_4
           replace hx199_6 := cfy (p := ⟨gb198, 4, none⟩) (.string ((rd_T123 l0 x20_1).f2.f2)) hx199_6 hn199_4
           replace hx199_7 := cfy (p := ⟨gb198, 4, none⟩) (.string ((rd_T123 l0 x20_1).f2.f2)) hx199_7 hn199_4
           replace hx199_0 := cfx (p := ⟨gb198, 5, none⟩) (.int .i64 ((rd_T123 l0 x20_1).f2.f3)) hx199_0 hn199_5
           replace hx199_1 := cfy (p := ⟨gb198, 5, none⟩) (.int .i64 ((rd_T123 l0 x20_1).f2.f3)) hx199_1 hn199_5
           replace hx199_2 := cfy (p := ⟨gb198, 5, none⟩) (.int .i64 ((rd_T123 l0 x20_1).f2.f3)) hx199_2 hn199_5
           replace hx199_3 := cfy (p := ⟨gb198, 5, none⟩) (.int .i64 ((rd_T123 l0 x20_1).f2.f3)) hx199_3 hn199_5
           replace hx199_4 := cfy (p := ⟨gb198, 5, none⟩) (.int .i64 ((rd_T123 l0 x20_1).f2.f3)) hx199_4 hn199_5
           replace hx199_5 := cfy (p := ⟨gb198, 5, none⟩) (.int .i64 ((rd_T123 l0 x20_1).f2.f3)) hx199_5 hn199_5
           replace hx199_6 := cfy (p := ⟨gb198, 5, none⟩) (.int .i64 ((rd_T123 l0 x20_1).f2.f3)) hx199_6 hn199_5
           replace hx199_7 := cfy (p := ⟨gb198, 5, none⟩) (.int .i64 ((rd_T123 l0 x20_1).f2.f3)) hx199_7 hn199_5
           replace hx199_0 := cfx (p := ⟨gb198, 6, none⟩) (.int .i64 ((rd_T123 l0 x20_1).f2.f4)) hx199_0 hn199_6
           replace hx199_1 := cfy (p := ⟨gb198, 6, none⟩) (.int .i64 ((rd_T123 l0 x20_1).f2.f4)) hx199_1 hn199_6
           replace hx199_2 := cfy (p := ⟨gb198, 6, none⟩) (.int .i64 ((rd_T123 l0 x20_1).f2.f4)) hx199_2 hn199_6
           replace hx199_3 := cfy (p := ⟨gb198, 6, none⟩) (.int .i64 ((rd_T123 l0 x20_1).f2.f4)) hx199_3 hn199_6
           replace hx199_4 := cfy (p := ⟨gb198, 6, none⟩) (.int .i64 ((rd_T123 l0 x20_1).f2.f4)) hx199_4 hn199_6
           replace hx199_5 := cfy (p := ⟨gb198, 6, none⟩) (.int .i64 ((rd_T123 l0 x20_1).f2.f4)) hx199_5 hn199_6
           replace hx199_6 := cfy (p := ⟨gb198, 6, none⟩) (.int .i64 ((rd_T123 l0 x20_1).f2.f4)) hx199_6 hn199_6
           replace hx199_7 := cfy (p := ⟨gb198, 6, none⟩) (.int .i64 ((rd_T123 l0 x20_1).f2.f4)) hx199_7 hn199_6
           replace hx199_0 := cfx (p := ⟨gb198, 7, none⟩) (.string ((rd_T123 l0 x20_1).f2.f5)) hx199_0 hn199_7
           replace hx199_1 := cfy (p := ⟨gb198, 7, none⟩) (.string ((rd_T123 l0 x20_1).f2.f5)) hx199_1 hn199_7
           replace hx199_2 := cfy (p := ⟨gb198, 7, none⟩) (.string ((rd_T123 l0 x20_1).f2.f5)) hx199_2 hn199_7
           replace hx199_3 := cfy (p := ⟨gb198, 7, none⟩) (.string ((rd_T123 l0 x20_1).f2.f5)) hx199_3 hn199_7
           replace hx199_4 := cfy (p := ⟨gb198, 7, none⟩) (.string ((rd_T123 l0 x20_1).f2.f5)) hx199_4 hn199_7
           replace hx199_5 := cfy (p := ⟨gb198, 7, none⟩) (.string ((rd_T123 l0 x20_1).f2.f5)) hx199_5 hn199_7
           replace hx199_6 := cfy (p := ⟨gb198, 7, none⟩) (.string ((rd_T123 l0 x20_1).f2.f5)) hx199_6 hn199_7
           replace hx199_7 := cfy (p := ⟨gb198, 7, none⟩) (.string ((rd_T123 l0 x20_1).f2.f5)) hx199_7 hn199_7
           replace hx199_0 := cfx (p := ⟨gb198, 8, none⟩) (.int .i64 ((rd_T123 l0 x20_1).f3)) hx199_0 hn199_8
           replace hx199_1 := cfy (p := ⟨gb198, 8, none⟩) (.int .i64 ((rd_T123 l0 x20_1).f3)) hx199_1 hn199_8
           replace hx199_2 := cfy (p := ⟨gb198, 8, none⟩) (.int .i64 ((rd_T123 l0 x20_1).f3)) hx199_2 hn199_8
           replace hx199_3 := cfy (p := ⟨gb198, 8, none⟩) (.int .i64 ((rd_T123 l0 x20_1).f3)) hx199_3 hn199_8
           replace hx199_4 := cfy (p := ⟨gb198, 8, none⟩) (.int .i64 ((rd_T123 l0 x20_1).f3)) hx199_4 hn199_8
           replace hx199_5 := cfy (p := ⟨gb198, 8, none⟩) (.int .i64 ((rd_T123 l0 x20_1).f3)) hx199_5 hn199_8
           replace hx199_6 := cfy (p := ⟨gb198, 8, none⟩) (.int .i64 ((rd_T123 l0 x20_1).f3)) hx199_6 hn199_8
           replace hx199_7 := cfy (p := ⟨gb198, 8, none⟩) (.int .i64 ((rd_T123 l0 x20_1).f3)) hx199_7 hn199_8
           clear hn199_0
           clear hn199_1
           clear hn199_2
           clear hn199_3
           clear hn199_4
           clear hn199_5
           clear hn199_6
           clear hn199_7
           clear hn199_8
           replace p199 := eq_true p199
           replace q199 := eq_true q199
           go_wp2
           go_meet
           case rel => exact ⟨_, ((((rd_T125 l1 x20_1).f0) == 0)), (by first | rfl | (simp; done) | (simp [*]; done)), H', ⟨by have := HK1.out; first | omega | exact Nat.le_refl _⟩, ⟨by (with_reducible repeat (first | apply ra | apply rn | apply re)); exact Kd.R_mono (Kd.R_far (p := ⟨gb198, 8, none⟩) (Kd.R_far (p := ⟨gb198, 7, none⟩) (Kd.R_far (p := ⟨gb198, 6, none⟩) (Kd.R_far (p := ⟨gb198, 5, none⟩) (Kd.R_far (p := ⟨gb198, 4, none⟩) (Kd.R_far (p := ⟨gb198, 3, none⟩) (Kd.R_far (p := ⟨gb198, 2, none⟩) (Kd.R_far (p := ⟨gb198, 1, none⟩) (Kd.R_far (p := ⟨gb198, 0, none⟩) (Kd.R_types HO_8.out BK198.out (by decide)) (fun _ hk => (by first | exact hk.2 | exact hk | exact hk.1 | exact hk.1.1 | exact hk.1.2 | exact hk.2.1 | exact hk.2.2 | exact hk.1.1.1 | exact hk.1.1.2 | exact hk.1.2.1 | exact hk.1.2.2 | exact hk.2.1.1 | exact hk.2.1.2 | exact hk.2.2.1 | exact hk.2.2.2)) (.int .i64 ((rd_T123 l0 x20_1).f0))) (fun _ hk => (by first | exact hk.2 | exact hk | exact hk.1 | exact hk.1.1 | exact hk.1.2 | exact hk.2.1 | exact hk.2.2 | exact hk.1.1.1 | exact hk.1.1.2 | exact hk.1.2.1 | exact hk.1.2.2 | exact hk.2.1.1 | exact hk.2.1.2 | exact hk.2.2.1 | exact hk.2.2.2)) (.int .i64 ((rd_T123 l0 x20_1).f1))) (fun _ hk => (by first | exact hk.2 | exact hk | exact hk.1 | exact hk.1.1 | exact hk.1.2 | exact hk.2.1 | exact hk.2.2 | exact hk.1.1.1 | exact hk.1.1.2 | exact hk.1.2.1 | exact hk.1.2.2 | exact hk.2.1.1 | exact hk.2.1.2 | exact hk.2.2.1 | exact hk.2.2.2)) (.int .i64 ((rd_T123 l0 x20_1).f2.f0))) (fun _ hk => (by first | exact hk.2 | exact hk | exact hk.1 | exact hk.1.1 | exact hk.1.2 | exact hk.2.1 | exact hk.2.2 | exact hk.1.1.1 | exact hk.1.1.2 | exact hk.1.2.1 | exact hk.1.2.2 | exact hk.2.1.1 | exact hk.2.1.2 | exact hk.2.2.1 | exact hk.2.2.2)) (.string ((rd_T123 l0 x20_1).f2.f1))) (fun _ hk => (by first | exact hk.2 | exact hk | exact hk.1 | exact hk.1.1 | exact hk.1.2 | exact hk.2.1 | exact hk.2.2 | exact hk.1.1.1 | exact hk.1.1.2 | exact hk.1.2.1 | exact hk.1.2.2 | exact hk.2.1.1 | exact hk.2.1.2 | exact hk.2.2.1 | exact hk.2.2.2)) (.string ((rd_T123 l0 x20_1).f2.f2))) (fun _ hk => (by first | exact hk.2 | exact hk | exact hk.1 | exact hk.1.1 | exact hk.1.2 | exact hk.2.1 | exact hk.2.2 | exact hk.1.1.1 | exact hk.1.1.2 | exact hk.1.2.1 | exact hk.1.2.2 | exact hk.2.1.1 | exact hk.2.1.2 | exact hk.2.2.1 | exact hk.2.2.2)) (.int .i64 ((rd_T123 l0 x20_1).f2.f3))) (fun _ hk => (by first | exact hk.2 | exact hk | exact hk.1 | exact hk.1.1 | exact hk.1.2 | exact hk.2.1 | exact hk.2.2 | exact hk.1.1.1 | exact hk.1.1.2 | exact hk.1.2.1 | exact hk.1.2.2 | exact hk.2.1.1 | exact hk.2.1.2 | exact hk.2.2.1 | exact hk.2.2.2)) (.int .i64 ((rd_T123 l0 x20_1).f2.f4))) (fun _ hk => (by first | exact hk.2 | exact hk | exact hk.1 | exact hk.1.1 | exact hk.1.2 | exact hk.2.1 | exact hk.2.2 | exact hk.1.1.1 | exact hk.1.1.2 | exact hk.1.2.1 | exact hk.1.2.2 | exact hk.2.1.1 | exact hk.2.1.2 | exact hk.2.2.1 | exact hk.2.2.2)) (.string ((rd_T123 l0 x20_1).f2.f5))) (fun _ hk => (by first | exact hk.2 | exact hk | exact hk.1 | exact hk.1.1 | exact hk.1.2 | exact hk.2.1 | exact hk.2.2 | exact hk.1.1.1 | exact hk.1.1.2 | exact hk.1.2.1 | exact hk.1.2.2 | exact hk.2.1.1 | exact hk.2.1.2 | exact hk.2.2.1 | exact hk.2.2.2)) (.int .i64 ((rd_T123 l0 x20_1).f3))) (fun _ hk => (by first | exact hk.1 | exact hk | exact hk.2 | exact hk.1.1 | exact hk.1.2 | exact hk.2.1 | exact hk.2.2 | exact hk.1.1.1 | exact hk.1.1.2 | exact hk.1.2.1 | exact hk.1.2.2 | exact hk.2.1.1 | exact hk.2.1.2 | exact hk.2.2.1 | exact hk.2.2.2))⟩, ⟨by (with_reducible repeat (first | refine kn ?_ _ | refine ke ?_ | refine ka ?_ _)); refine blk_far ?_ NB193_198.out _; (with_reducible repeat (first | refine kn ?_ _ | refine ke ?_ | refine ka ?_ _)); refine blk_far ?_ NB193_198.out _; (with_reducible repeat (first | refine kn ?_ _ | refine ke ?_ | refine ka ?_ _)); refine blk_far ?_ NB193_198.out _; (with_reducible repeat (first | refine kn ?_ _ | refine ke ?_ | refine ka ?_ _)); refine blk_far ?_ NB193_198.out _; (with_reducible repeat (first | refine kn ?_ _ | refine ke ?_ | refine ka ?_ _)); refine blk_far ?_ NB193_198.out _; (with_reducible repeat (first | refine kn ?_ _ | refine ke ?_ | refine ka ?_ _)); refine blk_far ?_ NB193_198.out _; (with_reducible repeat (first | refine kn ?_ _ | refine ke ?_ | refine ka ?_ _)); refine blk_far ?_ NB193_198.out _; (with_reducible repeat (first | refine kn ?_ _ | refine ke ?_ | refine ka ?_ _)); refine blk_far ?_ NB193_198.out _; (with_reducible repeat (first | refine kn ?_ _ | refine ke ?_ | refine ka ?_ _)); refine blk_far ?_ NB193_198.out _; (with_reducible repeat (first | refine kn ?_ _ | refine ke ?_ | refine ka ?_ _)); exact BK193.out⟩, ⟨by (with_reducible repeat (first | refine kn ?_ _ | refine ke ?_ | refine ka ?_ _)); refine kp (cs := #[.int .i64 ((rd_T123 l0 x20_1).f0), .int .i64 ((rd_T123 l0 x20_1).f1), .int .i64 ((rd_T123 l0 x20_1).f2.f0), .string ((rd_T123 l0 x20_1).f2.f1), .string ((rd_T123 l0 x20_1).f2.f2), .int .i64 ((rd_T123 l0 x20_1).f2.f3), .int .i64 ((rd_T123 l0 x20_1).f2.f4), .string ((rd_T123 l0 x20_1).f2.f5), .int .i64 0]) ?_ 8 _ rfl; (with_reducible repeat (first | refine kn ?_ _ | refine ke ?_ | refine ka ?_ _)); refine kp (cs := #[.int .i64 ((rd_T123 l0 x20_1).f0), .int .i64 ((rd_T123 l0 x20_1).f1), .int .i64 ((rd_T123 l0 x20_1).f2.f0), .string ((rd_T123 l0 x20_1).f2.f1), .string ((rd_T123 l0 x20_1).f2.f2), .int .i64 ((rd_T123 l0 x20_1).f2.f3), .int .i64 ((rd_T123 l0 x20_1).f2.f4), .string (⟨#[]⟩ : ByteArray), .int .i64 0]) ?_ 7 _ rfl; (with_reducible repeat (first | refine kn ?_ _ | refine ke ?_ | refine ka ?_ _)); refine kp (cs := #[.int .i64 ((rd_T123 l0 x20_1).f0), .int .i64 ((rd_T123 l0 x20_1).f1), .int .i64 ((rd_T123 l0 x20_1).f2.f0), .string ((rd_T123 l0 x20_1).f2.f1), .string ((rd_T123 l0 x20_1).f2.f2), .int .i64 ((rd_T123 l0 x20_1).f2.f3), .int .i64 0, .string (⟨#[]⟩ : ByteArray), .int .i64 0]) ?_ 6 _ rfl; (with_reducible repeat (first | refine kn ?_ _ | refine ke ?_ | refine ka ?_ _)); refine kp (cs := #[.int .i64 ((rd_T123 l0 x20_1).f0), .int .i64 ((rd_T123 l0 x20_1).f1), .int .i64 ((rd_T123 l0 x20_1).f2.f0), .string ((rd_T123 l0 x20_1).f2.f1), .string ((rd_T123 l0 x20_1).f2.f2), .int .i64 0, .int .i64 0, .string (⟨#[]⟩ : ByteArray), .int .i64 0]) ?_ 5 _ rfl; (with_reducible repeat (first | refine kn ?_ _ | refine ke ?_ | refine ka ?_ _)); refine kp (cs := #[.int .i64 ((rd_T123 l0 x20_1).f0), .int .i64 ((rd_T123 l0 x20_1).f1), .int .i64 ((rd_T123 l0 x20_1).f2.f0), .string ((rd_T123 l0 x20_1).f2.f1), .string (⟨#[]⟩ : ByteArray), .int .i64 0, .int .i64 0, .string (⟨#[]⟩ : ByteArray), .int .i64 0]) ?_ 4 _ rfl; (with_reducible repeat (first | refine kn ?_ _ | refine ke ?_ | refine ka ?_ _)); refine kp (cs := #[.int .i64 ((rd_T123 l0 x20_1).f0), .int .i64 ((rd_T123 l0 x20_1).f1), .int .i64 ((rd_T123 l0 x20_1).f2.f0), .string (⟨#[]⟩ : ByteArray), .string (⟨#[]⟩ : ByteArray), .int .i64 0, .int .i64 0, .string (⟨#[]⟩ : ByteArray), .int .i64 0]) ?_ 3 _ rfl; (with_reducible repeat (first | refine kn ?_ _ | refine ke ?_ | refine ka ?_ _)); refine kp (cs := #[.int .i64 ((rd_T123 l0 x20_1).f0), .int .i64 ((rd_T123 l0 x20_1).f1), .int .i64 0, .string (⟨#[]⟩ : ByteArray), .string (⟨#[]⟩ : ByteArray), .int .i64 0, .int .i64 0, .string (⟨#[]⟩ : ByteArray), .int .i64 0]) ?_ 2 _ rfl; (with_reducible repeat (first | refine kn ?_ _ | refine ke ?_ | refine ka ?_ _)); refine kp (cs := #[.int .i64 ((rd_T123 l0 x20_1).f0), .int .i64 0, .int .i64 0, .string (⟨#[]⟩ : ByteArray), .string (⟨#[]⟩ : ByteArray), .int .i64 0, .int .i64 0, .string (⟨#[]⟩ : ByteArray), .int .i64 0]) ?_ 1 _ rfl; (with_reducible repeat (first | refine kn ?_ _ | refine ke ?_ | refine ka ?_ _)); refine kp (cs := #[.int .i64 0, .int .i64 0, .int .i64 0, .string (⟨#[]⟩ : ByteArray), .string (⟨#[]⟩ : ByteArray), .int .i64 0, .int .i64 0, .string (⟨#[]⟩ : ByteArray), .int .i64 0]) ?_ 0 _ rfl; (with_reducible repeat (first | refine kn ?_ _ | refine ke ?_ | refine ka ?_ _)); exact BK198.out⟩, ⟨by repeat (first | (with_reducible first | exact HB.out | apply ba | apply bn | apply be | refine bs ?_ GE193.out | refine bs ?_ GE198.out) | exact HB.out)⟩⟩
          ·rw [if_neg c18] at H
           exact absurd H (by simp)
         ·rw [if_neg c17] at H
          have c17b0 : (((rd_T123 l0 x20_1).f1) == a2) = false := beq_eq_false_iff_ne.mpr c17
          have c17b1 : (((rd_T123 l0 x20_1).f1) != a2) = true := bne_iff_ne.mpr c17
          have H' := Am H
          clear H
          have hnb21 := NB198_193.out
          have hnc21 := NB193_198.out
          have hcz22_0 : w13.cell? ⟨gb198, 0, none⟩ = some (.int .i64 0) := (kc BK198.out 0).trans rfl
          have hcz22_1 : w13.cell? ⟨gb198, 1, none⟩ = some (.int .i64 0) := (kc BK198.out 1).trans rfl
          have hcz22_2 : w13.cell? ⟨gb198, 2, none⟩ = some (.int .i64 0) := (kc BK198.out 2).trans rfl
          have hcz22_3 : w13.cell? ⟨gb198, 3, none⟩ = some (.string (⟨#[]⟩ : ByteArray)) := (kc BK198.out 3).trans rfl
          have hcz22_4 : w13.cell? ⟨gb198, 4, none⟩ = some (.string (⟨#[]⟩ : ByteArray)) := (kc BK198.out 4).trans rfl
          have hcz22_5 : w13.cell? ⟨gb198, 5, none⟩ = some (.int .i64 0) := (kc BK198.out 5).trans rfl
          have hcz22_6 : w13.cell? ⟨gb198, 6, none⟩ = some (.int .i64 0) := (kc BK198.out 6).trans rfl
          have hcz22_7 : w13.cell? ⟨gb198, 7, none⟩ = some (.string (⟨#[]⟩ : ByteArray)) := (kc BK198.out 7).trans rfl
          have hcz22_8 : w13.cell? ⟨gb198, 8, none⟩ = some (.int .i64 0) := (kc BK198.out 8).trans rfl
          have hfz22_0 := kf BK198.out 0
          have hfz22_1 := kf BK198.out 1
          have hfz22_2 := kf BK198.out 2
          have hfz22_3 := kf BK198.out 3
          have hfz22_4 := kf BK198.out 4
          have hfz22_5 := kf BK198.out 5
          have hfz22_6 := kf BK198.out 6
          have hfz22_7 := kf BK198.out 7
          have hfz22_8 := kf BK198.out 8
          go_wp2
          go_meet
          case rel => exact ⟨_, (false), (by first | rfl | (simp; done) | (simp [*]; done)), H', ⟨by have := HK1.out; first | omega | exact Nat.le_refl _⟩, ⟨by (with_reducible repeat (first | apply ra | apply rn | apply re)); exact Kd.R_mono (Kd.R_far (p := ⟨gb198, 8, none⟩) (Kd.R_far (p := ⟨gb198, 7, none⟩) (Kd.R_far (p := ⟨gb198, 6, none⟩) (Kd.R_far (p := ⟨gb198, 5, none⟩) (Kd.R_far (p := ⟨gb198, 4, none⟩) (Kd.R_far (p := ⟨gb198, 3, none⟩) (Kd.R_far (p := ⟨gb198, 2, none⟩) (Kd.R_far (p := ⟨gb198, 1, none⟩) (Kd.R_far (p := ⟨gb198, 0, none⟩) (Kd.R_types HO_8.out BK198.out (by decide)) (fun _ hk => (by first | exact hk.2 | exact hk | exact hk.1 | exact hk.1.1 | exact hk.1.2 | exact hk.2.1 | exact hk.2.2 | exact hk.1.1.1 | exact hk.1.1.2 | exact hk.1.2.1 | exact hk.1.2.2 | exact hk.2.1.1 | exact hk.2.1.2 | exact hk.2.2.1 | exact hk.2.2.2)) (.int .i64 ((rd_T123 l0 x20_1).f0))) (fun _ hk => (by first | exact hk.2 | exact hk | exact hk.1 | exact hk.1.1 | exact hk.1.2 | exact hk.2.1 | exact hk.2.2 | exact hk.1.1.1 | exact hk.1.1.2 | exact hk.1.2.1 | exact hk.1.2.2 | exact hk.2.1.1 | exact hk.2.1.2 | exact hk.2.2.1 | exact hk.2.2.2)) (.int .i64 ((rd_T123 l0 x20_1).f1))) (fun _ hk => (by first | exact hk.2 | exact hk | exact hk.1 | exact hk.1.1 | exact hk.1.2 | exact hk.2.1 | exact hk.2.2 | exact hk.1.1.1 | exact hk.1.1.2 | exact hk.1.2.1 | exact hk.1.2.2 | exact hk.2.1.1 | exact hk.2.1.2 | exact hk.2.2.1 | exact hk.2.2.2)) (.int .i64 ((rd_T123 l0 x20_1).f2.f0))) (fun _ hk => (by first | exact hk.2 | exact hk | exact hk.1 | exact hk.1.1 | exact hk.1.2 | exact hk.2.1 | exact hk.2.2 | exact hk.1.1.1 | exact hk.1.1.2 | exact hk.1.2.1 | exact hk.1.2.2 | exact hk.2.1.1 | exact hk.2.1.2 | exact hk.2.2.1 | exact hk.2.2.2)) (.string ((rd_T123 l0 x20_1).f2.f1))) (fun _ hk => (by first | exact hk.2 | exact hk | exact hk.1 | exact hk.1.1 | exact hk.1.2 | exact hk.2.1 | exact hk.2.2 | exact hk.1.1.1 | exact hk.1.1.2 | exact hk.1.2.1 | exact hk.1.2.2 | exact hk.2.1.1 | exact hk.2.1.2 | exact hk.2.2.1 | exact hk.2.2.2)) (.string ((rd_T123 l0 x20_1).f2.f2))) (fun _ hk => (by first | exact hk.2 | exact hk | exact hk.1 | exact hk.1.1 | exact hk.1.2 | exact hk.2.1 | exact hk.2.2 | exact hk.1.1.1 | exact hk.1.1.2 | exact hk.1.2.1 | exact hk.1.2.2 | exact hk.2.1.1 | exact hk.2.1.2 | exact hk.2.2.1 | exact hk.2.2.2)) (.int .i64 ((rd_T123 l0 x20_1).f2.f3))) (fun _ hk => (by first | exact hk.2 | exact hk | exact hk.1 | exact hk.1.1 | exact hk.1.2 | exact hk.2.1 | exact hk.2.2 | exact hk.1.1.1 | exact hk.1.1.2 | exact hk.1.2.1 | exact hk.1.2.2 | exact hk.2.1.1 | exact hk.2.1.2 | exact hk.2.2.1 | exact hk.2.2.2)) (.int .i64 ((rd_T123 l0 x20_1).f2.f4))) (fun _ hk => (by first | exact hk.2 | exact hk | exact hk.1 | exact hk.1.1 | exact hk.1.2 | exact hk.2.1 | exact hk.2.2 | exact hk.1.1.1 | exact hk.1.1.2 | exact hk.1.2.1 | exact hk.1.2.2 | exact hk.2.1.1 | exact hk.2.1.2 | exact hk.2.2.1 | exact hk.2.2.2)) (.string ((rd_T123 l0 x20_1).f2.f5))) (fun _ hk => (by first | exact hk.2 | exact hk | exact hk.1 | exact hk.1.1 | exact hk.1.2 | exact hk.2.1 | exact hk.2.2 | exact hk.1.1.1 | exact hk.1.1.2 | exact hk.1.2.1 | exact hk.1.2.2 | exact hk.2.1.1 | exact hk.2.1.2 | exact hk.2.2.1 | exact hk.2.2.2)) (.int .i64 ((rd_T123 l0 x20_1).f3))) (fun _ hk => (by first | exact hk.1 | exact hk | exact hk.2 | exact hk.1.1 | exact hk.1.2 | exact hk.2.1 | exact hk.2.2 | exact hk.1.1.1 | exact hk.1.1.2 | exact hk.1.2.1 | exact hk.1.2.2 | exact hk.2.1.1 | exact hk.2.1.2 | exact hk.2.2.1 | exact hk.2.2.2))⟩, ⟨by (with_reducible repeat (first | refine kn ?_ _ | refine ke ?_ | refine ka ?_ _)); refine blk_far ?_ NB193_198.out _; (with_reducible repeat (first | refine kn ?_ _ | refine ke ?_ | refine ka ?_ _)); refine blk_far ?_ NB193_198.out _; (with_reducible repeat (first | refine kn ?_ _ | refine ke ?_ | refine ka ?_ _)); refine blk_far ?_ NB193_198.out _; (with_reducible repeat (first | refine kn ?_ _ | refine ke ?_ | refine ka ?_ _)); refine blk_far ?_ NB193_198.out _; (with_reducible repeat (first | refine kn ?_ _ | refine ke ?_ | refine ka ?_ _)); refine blk_far ?_ NB193_198.out _; (with_reducible repeat (first | refine kn ?_ _ | refine ke ?_ | refine ka ?_ _)); refine blk_far ?_ NB193_198.out _; (with_reducible repeat (first | refine kn ?_ _ | refine ke ?_ | refine ka ?_ _)); refine blk_far ?_ NB193_198.out _; (with_reducible repeat (first | refine kn ?_ _ | refine ke ?_ | refine ka ?_ _)); refine blk_far ?_ NB193_198.out _; (with_reducible repeat (first | refine kn ?_ _ | refine ke ?_ | refine ka ?_ _)); refine blk_far ?_ NB193_198.out _; (with_reducible repeat (first | refine kn ?_ _ | refine ke ?_ | refine ka ?_ _)); exact BK193.out⟩, ⟨by (with_reducible repeat (first | refine kn ?_ _ | refine ke ?_ | refine ka ?_ _)); refine kp (cs := #[.int .i64 ((rd_T123 l0 x20_1).f0), .int .i64 ((rd_T123 l0 x20_1).f1), .int .i64 ((rd_T123 l0 x20_1).f2.f0), .string ((rd_T123 l0 x20_1).f2.f1), .string ((rd_T123 l0 x20_1).f2.f2), .int .i64 ((rd_T123 l0 x20_1).f2.f3), .int .i64 ((rd_T123 l0 x20_1).f2.f4), .string ((rd_T123 l0 x20_1).f2.f5), .int .i64 0]) ?_ 8 _ rfl; (with_reducible repeat (first | refine kn ?_ _ | refine ke ?_ | refine ka ?_ _)); refine kp (cs := #[.int .i64 ((rd_T123 l0 x20_1).f0), .int .i64 ((rd_T123 l0 x20_1).f1), .int .i64 ((rd_T123 l0 x20_1).f2.f0), .string ((rd_T123 l0 x20_1).f2.f1), .string ((rd_T123 l0 x20_1).f2.f2), .int .i64 ((rd_T123 l0 x20_1).f2.f3), .int .i64 ((rd_T123 l0 x20_1).f2.f4), .string (⟨#[]⟩ : ByteArray), .int .i64 0]) ?_ 7 _ rfl; (with_reducible repeat (first | refine kn ?_ _ | refine ke ?_ | refine ka ?_ _)); refine kp (cs := #[.int .i64 ((rd_T123 l0 x20_1).f0), .int .i64 ((rd_T123 l0 x20_1).f1), .int .i64 ((rd_T123 l0 x20_1).f2.f0), .string ((rd_T123 l0 x20_1).f2.f1), .string ((rd_T123 l0 x20_1).f2.f2), .int .i64 ((rd_T123 l0 x20_1).f2.f3), .int .i64 0, .string (⟨#[]⟩ : ByteArray), .int .i64 0]) ?_ 6 _ rfl; (with_reducible repeat (first | refine kn ?_ _ | refine ke ?_ | refine ka ?_ _)); refine kp (cs := #[.int .i64 ((rd_T123 l0 x20_1).f0), .int .i64 ((rd_T123 l0 x20_1).f1), .int .i64 ((rd_T123 l0 x20_1).f2.f0), .string ((rd_T123 l0 x20_1).f2.f1), .string ((rd_T123 l0 x20_1).f2.f2), .int .i64 0, .int .i64 0, .string (⟨#[]⟩ : ByteArray), .int .i64 0]) ?_ 5 _ rfl; (with_reducible repeat (first | refine kn ?_ _ | refine ke ?_ | refine ka ?_ _)); refine kp (cs := #[.int .i64 ((rd_T123 l0 x20_1).f0), .int .i64 ((rd_T123 l0 x20_1).f1), .int .i64 ((rd_T123 l0 x20_1).f2.f0), .string ((rd_T123 l0 x20_1).f2.f1), .string (⟨#[]⟩ : ByteArray), .int .i64 0, .int .i64 0, .string (⟨#[]⟩ : ByteArray), .int .i64 0]) ?_ 4 _ rfl; (with_reducible repeat (first | refine kn ?_ _ | refine ke ?_ | refine ka ?_ _)); refine kp (cs := #[.int .i64 ((rd_T123 l0 x20_1).f0), .int .i64 ((rd_T123 l0 x20_1).f1), .int .i64 ((rd_T123 l0 x20_1).f2.f0), .string (⟨#[]⟩ : ByteArray), .string (⟨#[]⟩ : ByteArray), .int .i64 0, .int .i64 0, .string (⟨#[]⟩ : ByteArray), .int .i64 0]) ?_ 3 _ rfl; (with_reducible repeat (first | refine kn ?_ _ | refine ke ?_ | refine ka ?_ _)); refine kp (cs := #[.int .i64 ((rd_T123 l0 x20_1).f0), .int .i64 ((rd_T123 l0 x20_1).f1), .int .i64 0, .string (⟨#[]⟩ : ByteArray), .string (⟨#[]⟩ : ByteArray), .int .i64 0, .int .i64 0, .string (⟨#[]⟩ : ByteArray), .int .i64 0]) ?_ 2 _ rfl; (with_reducible repeat (first | refine kn ?_ _ | refine ke ?_ | refine ka ?_ _)); refine kp (cs := #[.int .i64 ((rd_T123 l0 x20_1).f0), .int .i64 0, .int .i64 0, .string (⟨#[]⟩ : ByteArray), .string (⟨#[]⟩ : ByteArray), .int .i64 0, .int .i64 0, .string (⟨#[]⟩ : ByteArray), .int .i64 0]) ?_ 1 _ rfl; (with_reducible repeat (first | refine kn ?_ _ | refine ke ?_ | refine ka ?_ _)); refine kp (cs := #[.int .i64 0, .int .i64 0, .int .i64 0, .string (⟨#[]⟩ : ByteArray), .string (⟨#[]⟩ : ByteArray), .int .i64 0, .int .i64 0, .string (⟨#[]⟩ : ByteArray), .int .i64 0]) ?_ 0 _ rfl; (with_reducible repeat (first | refine kn ?_ _ | refine ke ?_ | refine ka ?_ _)); exact BK198.out⟩, ⟨by repeat (first | (with_reducible first | exact HB.out | apply ba | apply bn | apply be | refine bs ?_ GE193.out | refine bs ?_ GE198.out) | exact HB.out)⟩⟩
        ·rw [if_neg c16] at H
         have c16b0 : (((rd_T123 l0 x20_1).f0) == 1) = false := beq_eq_false_iff_ne.mpr c16
         have c16b1 : (((rd_T123 l0 x20_1).f0) != 1) = true := bne_iff_ne.mpr c16
         (first | rw [c16b0] | (simp only [i64_w, i32_w]; rw [c16b0]) | skip)
         have H' := Am H
         clear H
         have hnb23 := NB198_193.out
         have hnc23 := NB193_198.out
         have hcz24_0 : w13.cell? ⟨gb198, 0, none⟩ = some (.int .i64 0) := (kc BK198.out 0).trans rfl
         have hcz24_1 : w13.cell? ⟨gb198, 1, none⟩ = some (.int .i64 0) := (kc BK198.out 1).trans rfl
         have hcz24_2 : w13.cell? ⟨gb198, 2, none⟩ = some (.int .i64 0) := (kc BK198.out 2).trans rfl
         have hcz24_3 : w13.cell? ⟨gb198, 3, none⟩ = some (.string (⟨#[]⟩ : ByteArray)) := (kc BK198.out 3).trans rfl
         have hcz24_4 : w13.cell? ⟨gb198, 4, none⟩ = some (.string (⟨#[]⟩ : ByteArray)) := (kc BK198.out 4).trans rfl
         have hcz24_5 : w13.cell? ⟨gb198, 5, none⟩ = some (.int .i64 0) := (kc BK198.out 5).trans rfl
         have hcz24_6 : w13.cell? ⟨gb198, 6, none⟩ = some (.int .i64 0) := (kc BK198.out 6).trans rfl
         have hcz24_7 : w13.cell? ⟨gb198, 7, none⟩ = some (.string (⟨#[]⟩ : ByteArray)) := (kc BK198.out 7).trans rfl
         have hcz24_8 : w13.cell? ⟨gb198, 8, none⟩ = some (.int .i64 0) := (kc BK198.out 8).trans rfl
         have hfz24_0 := kf BK198.out 0
         have hfz24_1 := kf BK198.out 1
         have hfz24_2 := kf BK198.out 2
         have hfz24_3 := kf BK198.out 3
         have hfz24_4 := kf BK198.out 4
         have hfz24_5 := kf BK198.out 5
         have hfz24_6 := kf BK198.out 6
         have hfz24_7 := kf BK198.out 7
         have hfz24_8 := kf BK198.out 8
         go_wp2
         go_meet
         case rel => exact ⟨_, (false), (by first | rfl | (simp; done) | (simp [*]; done)), H', ⟨by have := HK1.out; first | omega | exact Nat.le_refl _⟩, ⟨by (with_reducible repeat (first | apply ra | apply rn | apply re)); exact Kd.R_mono (Kd.R_far (p := ⟨gb198, 8, none⟩) (Kd.R_far (p := ⟨gb198, 7, none⟩) (Kd.R_far (p := ⟨gb198, 6, none⟩) (Kd.R_far (p := ⟨gb198, 5, none⟩) (Kd.R_far (p := ⟨gb198, 4, none⟩) (Kd.R_far (p := ⟨gb198, 3, none⟩) (Kd.R_far (p := ⟨gb198, 2, none⟩) (Kd.R_far (p := ⟨gb198, 1, none⟩) (Kd.R_far (p := ⟨gb198, 0, none⟩) (Kd.R_types HO_8.out BK198.out (by decide)) (fun _ hk => (by first | exact hk.2 | exact hk | exact hk.1 | exact hk.1.1 | exact hk.1.2 | exact hk.2.1 | exact hk.2.2 | exact hk.1.1.1 | exact hk.1.1.2 | exact hk.1.2.1 | exact hk.1.2.2 | exact hk.2.1.1 | exact hk.2.1.2 | exact hk.2.2.1 | exact hk.2.2.2)) (.int .i64 ((rd_T123 l0 x20_1).f0))) (fun _ hk => (by first | exact hk.2 | exact hk | exact hk.1 | exact hk.1.1 | exact hk.1.2 | exact hk.2.1 | exact hk.2.2 | exact hk.1.1.1 | exact hk.1.1.2 | exact hk.1.2.1 | exact hk.1.2.2 | exact hk.2.1.1 | exact hk.2.1.2 | exact hk.2.2.1 | exact hk.2.2.2)) (.int .i64 ((rd_T123 l0 x20_1).f1))) (fun _ hk => (by first | exact hk.2 | exact hk | exact hk.1 | exact hk.1.1 | exact hk.1.2 | exact hk.2.1 | exact hk.2.2 | exact hk.1.1.1 | exact hk.1.1.2 | exact hk.1.2.1 | exact hk.1.2.2 | exact hk.2.1.1 | exact hk.2.1.2 | exact hk.2.2.1 | exact hk.2.2.2)) (.int .i64 ((rd_T123 l0 x20_1).f2.f0))) (fun _ hk => (by first | exact hk.2 | exact hk | exact hk.1 | exact hk.1.1 | exact hk.1.2 | exact hk.2.1 | exact hk.2.2 | exact hk.1.1.1 | exact hk.1.1.2 | exact hk.1.2.1 | exact hk.1.2.2 | exact hk.2.1.1 | exact hk.2.1.2 | exact hk.2.2.1 | exact hk.2.2.2)) (.string ((rd_T123 l0 x20_1).f2.f1))) (fun _ hk => (by first | exact hk.2 | exact hk | exact hk.1 | exact hk.1.1 | exact hk.1.2 | exact hk.2.1 | exact hk.2.2 | exact hk.1.1.1 | exact hk.1.1.2 | exact hk.1.2.1 | exact hk.1.2.2 | exact hk.2.1.1 | exact hk.2.1.2 | exact hk.2.2.1 | exact hk.2.2.2)) (.string ((rd_T123 l0 x20_1).f2.f2))) (fun _ hk => (by first | exact hk.2 | exact hk | exact hk.1 | exact hk.1.1 | exact hk.1.2 | exact hk.2.1 | exact hk.2.2 | exact hk.1.1.1 | exact hk.1.1.2 | exact hk.1.2.1 | exact hk.1.2.2 | exact hk.2.1.1 | exact hk.2.1.2 | exact hk.2.2.1 | exact hk.2.2.2)) (.int .i64 ((rd_T123 l0 x20_1).f2.f3))) (fun _ hk => (by first | exact hk.2 | exact hk | exact hk.1 | exact hk.1.1 | exact hk.1.2 | exact hk.2.1 | exact hk.2.2 | exact hk.1.1.1 | exact hk.1.1.2 | exact hk.1.2.1 | exact hk.1.2.2 | exact hk.2.1.1 | exact hk.2.1.2 | exact hk.2.2.1 | exact hk.2.2.2)) (.int .i64 ((rd_T123 l0 x20_1).f2.f4))) (fun _ hk => (by first | exact hk.2 | exact hk | exact hk.1 | exact hk.1.1 | exact hk.1.2 | exact hk.2.1 | exact hk.2.2 | exact hk.1.1.1 | exact hk.1.1.2 | exact hk.1.2.1 | exact hk.1.2.2 | exact hk.2.1.1 | exact hk.2.1.2 | exact hk.2.2.1 | exact hk.2.2.2)) (.string ((rd_T123 l0 x20_1).f2.f5))) (fun _ hk => (by first | exact hk.2 | exact hk | exact hk.1 | exact hk.1.1 | exact hk.1.2 | exact hk.2.1 | exact hk.2.2 | exact hk.1.1.1 | exact hk.1.1.2 | exact hk.1.2.1 | exact hk.1.2.2 | exact hk.2.1.1 | exact hk.2.1.2 | exact hk.2.2.1 | exact hk.2.2.2)) (.int .i64 ((rd_T123 l0 x20_1).f3))) (fun _ hk => (by first | exact hk.1 | exact hk | exact hk.2 | exact hk.1.1 | exact hk.1.2 | exact hk.2.1 | exact hk.2.2 | exact hk.1.1.1 | exact hk.1.1.2 | exact hk.1.2.1 | exact hk.1.2.2 | exact hk.2.1.1 | exact hk.2.1.2 | exact hk.2.2.1 | exact hk.2.2.2))⟩, ⟨by (with_reducible repeat (first | refine kn ?_ _ | refine ke ?_ | refine ka ?_ _)); refine blk_far ?_ NB193_198.out _; (with_reducible repeat (first | refine kn ?_ _ | refine ke ?_ | refine ka ?_ _)); refine blk_far ?_ NB193_198.out _; (with_reducible repeat (first | refine kn ?_ _ | refine ke ?_ | refine ka ?_ _)); refine blk_far ?_ NB193_198.out _; (with_reducible repeat (first | refine kn ?_ _ | refine ke ?_ | refine ka ?_ _)); refine blk_far ?_ NB193_198.out _; (with_reducible repeat (first | refine kn ?_ _ | refine ke ?_ | refine ka ?_ _)); refine blk_far ?_ NB193_198.out _; (with_reducible repeat (first | refine kn ?_ _ | refine ke ?_ | refine ka ?_ _)); refine blk_far ?_ NB193_198.out _; (with_reducible repeat (first | refine kn ?_ _ | refine ke ?_ | refine ka ?_ _)); refine blk_far ?_ NB193_198.out _; (with_reducible repeat (first | refine kn ?_ _ | refine ke ?_ | refine ka ?_ _)); refine blk_far ?_ NB193_198.out _; (with_reducible repeat (first | refine kn ?_ _ | refine ke ?_ | refine ka ?_ _)); refine blk_far ?_ NB193_198.out _; (with_reducible repeat (first | refine kn ?_ _ | refine ke ?_ | refine ka ?_ _)); exact BK193.out⟩, ⟨by (with_reducible repeat (first | refine kn ?_ _ | refine ke ?_ | refine ka ?_ _)); refine kp (cs := #[.int .i64 ((rd_T123 l0 x20_1).f0), .int .i64 ((rd_T123 l0 x20_1).f1), .int .i64 ((rd_T123 l0 x20_1).f2.f0), .string ((rd_T123 l0 x20_1).f2.f1), .string ((rd_T123 l0 x20_1).f2.f2), .int .i64 ((rd_T123 l0 x20_1).f2.f3), .int .i64 ((rd_T123 l0 x20_1).f2.f4), .string ((rd_T123 l0 x20_1).f2.f5), .int .i64 0]) ?_ 8 _ rfl; (with_reducible repeat (first | refine kn ?_ _ | refine ke ?_ | refine ka ?_ _)); refine kp (cs := #[.int .i64 ((rd_T123 l0 x20_1).f0), .int .i64 ((rd_T123 l0 x20_1).f1), .int .i64 ((rd_T123 l0 x20_1).f2.f0), .string ((rd_T123 l0 x20_1).f2.f1), .string ((rd_T123 l0 x20_1).f2.f2), .int .i64 ((rd_T123 l0 x20_1).f2.f3), .int .i64 ((rd_T123 l0 x20_1).f2.f4), .string (⟨#[]⟩ : ByteArray), .int .i64 0]) ?_ 7 _ rfl; (with_reducible repeat (first | refine kn ?_ _ | refine ke ?_ | refine ka ?_ _)); refine kp (cs := #[.int .i64 ((rd_T123 l0 x20_1).f0), .int .i64 ((rd_T123 l0 x20_1).f1), .int .i64 ((rd_T123 l0 x20_1).f2.f0), .string ((rd_T123 l0 x20_1).f2.f1), .string ((rd_T123 l0 x20_1).f2.f2), .int .i64 ((rd_T123 l0 x20_1).f2.f3), .int .i64 0, .string (⟨#[]⟩ : ByteArray), .int .i64 0]) ?_ 6 _ rfl; (with_reducible repeat (first | refine kn ?_ _ | refine ke ?_ | refine ka ?_ _)); refine kp (cs := #[.int .i64 ((rd_T123 l0 x20_1).f0), .int .i64 ((rd_T123 l0 x20_1).f1), .int .i64 ((rd_T123 l0 x20_1).f2.f0), .string ((rd_T123 l0 x20_1).f2.f1), .string ((rd_T123 l0 x20_1).f2.f2), .int .i64 0, .int .i64 0, .string (⟨#[]⟩ : ByteArray), .int .i64 0]) ?_ 5 _ rfl; (with_reducible repeat (first | refine kn ?_ _ | refine ke ?_ | refine ka ?_ _)); refine kp (cs := #[.int .i64 ((rd_T123 l0 x20_1).f0), .int .i64 ((rd_T123 l0 x20_1).f1), .int .i64 ((rd_T123 l0 x20_1).f2.f0), .string ((rd_T123 l0 x20_1).f2.f1), .string (⟨#[]⟩ : ByteArray), .int .i64 0, .int .i64 0, .string (⟨#[]⟩ : ByteArray), .int .i64 0]) ?_ 4 _ rfl; (with_reducible repeat (first | refine kn ?_ _ | refine ke ?_ | refine ka ?_ _)); refine kp (cs := #[.int .i64 ((rd_T123 l0 x20_1).f0), .int .i64 ((rd_T123 l0 x20_1).f1), .int .i64 ((rd_T123 l0 x20_1).f2.f0), .string (⟨#[]⟩ : ByteArray), .string (⟨#[]⟩ : ByteArray), .int .i64 0, .int .i64 0, .string (⟨#[]⟩ : ByteArray), .int .i64 0]) ?_ 3 _ rfl; (with_reducible repeat (first | refine kn ?_ _ | refine ke ?_ | refine ka ?_ _)); refine kp (cs := #[.int .i64 ((rd_T123 l0 x20_1).f0), .int .i64 ((rd_T123 l0 x20_1).f1), .int .i64 0, .string (⟨#[]⟩ : ByteArray), .string (⟨#[]⟩ : ByteArray), .int .i64 0, .int .i64 0, .string (⟨#[]⟩ : ByteArray), .int .i64 0]) ?_ 2 _ rfl; (with_reducible repeat (first | refine kn ?_ _ | refine ke ?_ | refine ka ?_ _)); refine kp (cs := #[.int .i64 ((rd_T123 l0 x20_1).f0), .int .i64 0, .int .i64 0, .string (⟨#[]⟩ : ByteArray), .string (⟨#[]⟩ : ByteArray), .int .i64 0, .int .i64 0, .string (⟨#[]⟩ : ByteArray), .int .i64 0]) ?_ 1 _ rfl; (with_reducible repeat (first | refine kn ?_ _ | refine ke ?_ | refine ka ?_ _)); refine kp (cs := #[.int .i64 0, .int .i64 0, .int .i64 0, .string (⟨#[]⟩ : ByteArray), .string (⟨#[]⟩ : ByteArray), .int .i64 0, .int .i64 0, .string (⟨#[]⟩ : ByteArray), .int .i64 0]) ?_ 0 _ rfl; (with_reducible repeat (first | refine kn ?_ _ | refine ke ?_ | refine ka ?_ _)); exact BK198.out⟩, ⟨by repeat (first | (with_reducible first | exact HB.out | apply ba | apply bn | apply be | refine bs ?_ GE193.out | refine bs ?_ GE198.out) | exact HB.out)⟩⟩
       case rest =>
        clear HC12
        try clear c1
        try clear p1
        try clear q1
        try clear hx1
        try clear c2
        try clear p2
        try clear c4
        try clear c4b0
        try clear c4b1
        try clear c4b2
        try clear c9
        try clear c9b0
        try clear c10
        try clear c10b0
        try clear c11
        try clear c11b0
        try clear c14
        try clear c16
        try clear c16b0
        try clear c16b1
        try clear c17
        try clear c17b0
        try clear c17b1
        try clear c18
        try clear c18b0
        try clear c19
        try clear p19
        try clear q19
        try clear hx19
        try clear c21
        try clear c23
        try clear hcz15_0
        try clear hcz15_1
        try clear hcz15_2
        try clear hcz15_3
        try clear hcz15_4
        try clear hcz15_5
        try clear hcz15_6
        try clear hcz15_7
        try clear hcz15_8
        try clear hcz20_0
        try clear hcz20_1
        try clear hcz20_2
        try clear hcz20_3
        try clear hcz20_4
        try clear hcz20_5
        try clear hcz20_6
        try clear hcz20_7
        try clear hcz20_8
        try clear hcz22_0
        try clear hcz22_1
        try clear hcz22_2
        try clear hcz22_3
        try clear hcz22_4
        try clear hcz22_5
        try clear hcz22_6
        try clear hcz22_7
        try clear hcz22_8
        try clear hcz24_0
        try clear hcz24_1
        try clear hcz24_2
        try clear hcz24_3
        try clear hcz24_4
        try clear hcz24_5
        try clear hcz24_6
        try clear hcz24_7
        try clear hcz24_8
        try clear hcz6_0
        try clear hcz6_1
        try clear hcz6_2
        try clear hcz6_3
        try clear hcz6_4
        try clear hcz6_5
        try clear hfz15_0
        try clear hfz15_1
        try clear hfz15_2
        try clear hfz15_3
        try clear hfz15_4
        try clear hfz15_5
        try clear hfz15_6
        try clear hfz15_7
        try clear hfz15_8
        try clear hfz20_0
        try clear hfz20_1
        try clear hfz20_2
        try clear hfz20_3
        try clear hfz20_4
        try clear hfz20_5
        try clear hfz20_6
        try clear hfz20_7
        try clear hfz20_8
        try clear hfz22_0
        try clear hfz22_1
        try clear hfz22_2
        try clear hfz22_3
        try clear hfz22_4
        try clear hfz22_5
        try clear hfz22_6
        try clear hfz22_7
        try clear hfz22_8
        try clear hfz24_0
        try clear hfz24_1
        try clear hfz24_2
        try clear hfz24_3
        try clear hfz24_4
        try clear hfz24_5
        try clear hfz24_6
        try clear hfz24_7
        try clear hfz24_8
        try clear hfz6_0
        try clear hfz6_1
        try clear hfz6_2
        try clear hfz6_3
        try clear hfz6_4
        try clear hfz6_5
        try clear hx197_0
        try clear hx197_1
        try clear hx197_2
        try clear hx197_3
        try clear hx197_4
        try clear hx197_5
        try clear hx197_6
        try clear hx197_7
        try clear hx197_8
        try clear hx199_0
        try clear hx199_1
        try clear hx199_2
        try clear hx199_3
        try clear hx199_4
        try clear hx199_5
        try clear hx199_6
        try clear hx199_7
        try clear p197
        try clear p199
        try clear p2
        try clear q197
        try clear q199
        obtain ⟨kq, x41_11, rfl, HA, HJ11, HO_8, BK193, BK198, HB⟩ := hcut
        cases kq with
        | zero => exact absurd HA.out (by simp [impl_AsksOf.j1])
        | succ kj11 =>
         have H := HA.out
         clear HA
         simp only [impl_AsksOf.j1] at H
         by_cases c25 : x41_11 = true
         ·subst c25
          have H1 : (if 0 ≤ x20_1 then (if x20_1 < (l1.length : Int) then (if (rd_T125 l1 x20_1).f2 = true then (if ((rd_T125 l1 x20_1).f1) = a2 then (if x8_1.length < 1954687338268 then (impl_AsksOf.l0 kj11 l1 a2 (x8_1 ++ [(⟨((rd_T123 l0 x20_1).f2.f0), ((rd_T123 l0 x20_1).f2.f1), ((rd_T123 l0 x20_1).f2.f2), ((rd_T123 l0 x20_1).f2.f3), ((rd_T123 l0 x20_1).f2.f4), ((rd_T123 l0 x20_1).f2.f5)⟩ : S42)]) l0 (l0.length : Int) (wrap64 (x20_1 + 1)) ((rd_T123 l0 x20_1).f2.f0) ((rd_T123 l0 x20_1).f2.f1) ((rd_T123 l0 x20_1).f2.f2) ((rd_T123 l0 x20_1).f2.f3) ((rd_T123 l0 x20_1).f2.f4) ((rd_T123 l0 x20_1).f2.f5)) else (none)) else (impl_AsksOf.l0 kj11 l1 a2 x8_1 l0 (l0.length : Int) (wrap64 (x20_1 + 1)) ((rd_T123 l0 x20_1).f2.f0) ((rd_T123 l0 x20_1).f2.f1) ((rd_T123 l0 x20_1).f2.f2) ((rd_T123 l0 x20_1).f2.f3) ((rd_T123 l0 x20_1).f2.f4) ((rd_T123 l0 x20_1).f2.f5))) else (impl_AsksOf.l0 kj11 l1 a2 x8_1 l0 (l0.length : Int) (wrap64 (x20_1 + 1)) ((rd_T123 l0 x20_1).f2.f0) ((rd_T123 l0 x20_1).f2.f1) ((rd_T123 l0 x20_1).f2.f2) ((rd_T123 l0 x20_1).f2.f3) ((rd_T123 l0 x20_1).f2.f4) ((rd_T123 l0 x20_1).f2.f5))) else (none)) else (none)) = some r := by rw [if_pos rfl] at H; exact H
          clear H
          have H := H1
          clear H1
          by_cases c26 : 0 ≤ x20_1
          ·rw [if_pos c26] at H
           have c26b0 : decide (0 ≤ x20_1) = true := decide_eq_true c26
           clear c26
           by_cases c27 : x20_1 < (l1.length : Int)
           ·rw [if_pos c27] at H
            have c27b0 : decide (x20_1 < (l1.length : Int)) = true := decide_eq_true c27
            clear c27
            obtain ⟨bq28, hbq28⟩ : ∃ b_ : Bool, b_ = ((rd_T125 l1 x20_1).f2) := ⟨_, rfl⟩
            replace H : (if bq28 = true then (if ((rd_T125 l1 x20_1).f1) = a2 then (if x8_1.length < 1954687338268 then (impl_AsksOf.l0 kj11 l1 a2 (x8_1 ++ [(⟨((rd_T123 l0 x20_1).f2.f0), ((rd_T123 l0 x20_1).f2.f1), ((rd_T123 l0 x20_1).f2.f2), ((rd_T123 l0 x20_1).f2.f3), ((rd_T123 l0 x20_1).f2.f4), ((rd_T123 l0 x20_1).f2.f5)⟩ : S42)]) l0 (l0.length : Int) (wrap64 (x20_1 + 1)) ((rd_T123 l0 x20_1).f2.f0) ((rd_T123 l0 x20_1).f2.f1) ((rd_T123 l0 x20_1).f2.f2) ((rd_T123 l0 x20_1).f2.f3) ((rd_T123 l0 x20_1).f2.f4) ((rd_T123 l0 x20_1).f2.f5)) else (none)) else (impl_AsksOf.l0 kj11 l1 a2 x8_1 l0 (l0.length : Int) (wrap64 (x20_1 + 1)) ((rd_T123 l0 x20_1).f2.f0) ((rd_T123 l0 x20_1).f2.f1) ((rd_T123 l0 x20_1).f2.f2) ((rd_T123 l0 x20_1).f2.f3) ((rd_T123 l0 x20_1).f2.f4) ((rd_T123 l0 x20_1).f2.f5))) else (impl_AsksOf.l0 kj11 l1 a2 x8_1 l0 (l0.length : Int) (wrap64 (x20_1 + 1)) ((rd_T123 l0 x20_1).f2.f0) ((rd_T123 l0 x20_1).f2.f1) ((rd_T123 l0 x20_1).f2.f2) ((rd_T123 l0 x20_1).f2.f3) ((rd_T123 l0 x20_1).f2.f4) ((rd_T123 l0 x20_1).f2.f5))) = some r := by rw [← hbq28] at H; exact H
            have Nbq28 := Am hbq28
            clear hbq28
            by_cases c29 : bq28 = true
            ·subst c29
             have H1 : (if ((rd_T125 l1 x20_1).f1) = a2 then (if x8_1.length < 1954687338268 then (impl_AsksOf.l0 kj11 l1 a2 (x8_1 ++ [(⟨((rd_T123 l0 x20_1).f2.f0), ((rd_T123 l0 x20_1).f2.f1), ((rd_T123 l0 x20_1).f2.f2), ((rd_T123 l0 x20_1).f2.f3), ((rd_T123 l0 x20_1).f2.f4), ((rd_T123 l0 x20_1).f2.f5)⟩ : S42)]) l0 (l0.length : Int) (wrap64 (x20_1 + 1)) ((rd_T123 l0 x20_1).f2.f0) ((rd_T123 l0 x20_1).f2.f1) ((rd_T123 l0 x20_1).f2.f2) ((rd_T123 l0 x20_1).f2.f3) ((rd_T123 l0 x20_1).f2.f4) ((rd_T123 l0 x20_1).f2.f5)) else (none)) else (impl_AsksOf.l0 kj11 l1 a2 x8_1 l0 (l0.length : Int) (wrap64 (x20_1 + 1)) ((rd_T123 l0 x20_1).f2.f0) ((rd_T123 l0 x20_1).f2.f1) ((rd_T123 l0 x20_1).f2.f2) ((rd_T123 l0 x20_1).f2.f3) ((rd_T123 l0 x20_1).f2.f4) ((rd_T123 l0 x20_1).f2.f5))) = some r := by rw [if_pos rfl] at H; exact H
             clear H
             have H := H1
             clear H1
             by_cases c30 : ((rd_T125 l1 x20_1).f1) = a2
             ·rw [if_pos c30] at H
              have c30b0 : (((rd_T125 l1 x20_1).f1) == a2) = true := beq_iff_eq.mpr c30
              have c30b1 : (((rd_T125 l1 x20_1).f1) != a2) = false := bne_eq_false_iff_eq.mpr c30
              clear c30
              by_cases c31 : x8_1.length < 1954687338268
              ·rw [if_pos c31] at H
               have LMc31 := Am c31
               clear c31
               obtain ⟨y202, hy202⟩ : ∃ y_ : List (S42), y_ = (x8_1 ++ [(⟨((rd_T123 l0 x20_1).f2.f0), ((rd_T123 l0 x20_1).f2.f1), ((rd_T123 l0 x20_1).f2.f2), ((rd_T123 l0 x20_1).f2.f3), ((rd_T123 l0 x20_1).f2.f4), ((rd_T123 l0 x20_1).f2.f5)⟩ : S42)]) := ⟨_, rfl⟩
               replace H : (impl_AsksOf.l0 kj11 l1 a2 y202 l0 (l0.length : Int) (wrap64 (x20_1 + 1)) ((rd_T123 l0 x20_1).f2.f0) ((rd_T123 l0 x20_1).f2.f1) ((rd_T123 l0 x20_1).f2.f2) ((rd_T123 l0 x20_1).f2.f3) ((rd_T123 l0 x20_1).f2.f4) ((rd_T123 l0 x20_1).f2.f5)) = some r := by first | (rw [hy202]; with_reducible exact H) | (have H2_ := (Option.bind_some _ _).symm.trans H; rw [hy202]; with_reducible exact H2_) | (have H2_ := (Option.bind_some _ _).symm.trans H; with_reducible exact H2_) | with_reducible exact H | (rw [hy202]; exact H) | exact H
               have Ny202 := Am hy202
               clear hy202
               have H' := Am H
               clear H
               have hnb32 := NB198_193.out
               have hnc32 := NB193_198.out
               have hcz33_0 : wc.cell? ⟨gb198, 0, none⟩ = some (.int .i64 ((rd_T123 l0 x20_1).f0)) := (kc BK198.out 0).trans rfl
               have hcz33_1 : wc.cell? ⟨gb198, 1, none⟩ = some (.int .i64 ((rd_T123 l0 x20_1).f1)) := (kc BK198.out 1).trans rfl
               have hcz33_2 : wc.cell? ⟨gb198, 2, none⟩ = some (.int .i64 ((rd_T123 l0 x20_1).f2.f0)) := (kc BK198.out 2).trans rfl
               have hcz33_3 : wc.cell? ⟨gb198, 3, none⟩ = some (.string ((rd_T123 l0 x20_1).f2.f1)) := (kc BK198.out 3).trans rfl
               have hcz33_4 : wc.cell? ⟨gb198, 4, none⟩ = some (.string ((rd_T123 l0 x20_1).f2.f2)) := (kc BK198.out 4).trans rfl
               have hcz33_5 : wc.cell? ⟨gb198, 5, none⟩ = some (.int .i64 ((rd_T123 l0 x20_1).f2.f3)) := (kc BK198.out 5).trans rfl
               have hcz33_6 : wc.cell? ⟨gb198, 6, none⟩ = some (.int .i64 ((rd_T123 l0 x20_1).f2.f4)) := (kc BK198.out 6).trans rfl
               have hcz33_7 : wc.cell? ⟨gb198, 7, none⟩ = some (.string ((rd_T123 l0 x20_1).f2.f5)) := (kc BK198.out 7).trans rfl
               have hcz33_8 : wc.cell? ⟨gb198, 8, none⟩ = some (.int .i64 ((rd_T123 l0 x20_1).f3)) := (kc BK198.out 8).trans rfl
               have hfz33_0 := kf BK198.out 0
               have hfz33_1 := kf BK198.out 1
               have hfz33_2 := kf BK198.out 2
               have hfz33_3 := kf BK198.out 3
               have hfz33_4 := kf BK198.out 4
               have hfz33_5 := kf BK198.out 5
               have hfz33_6 := kf BK198.out 6
               have hfz33_7 := kf BK198.out 7
               have hfz33_8 := kf BK198.out 8
               have hcz34_0 : wc.cell? ⟨gb193, 0, none⟩ = some (.int .i64 x194000_1) := (kc BK193.out 0).trans rfl
               have hcz34_1 : wc.cell? ⟨gb193, 1, none⟩ = some (.string x194001_1) := (kc BK193.out 1).trans rfl
               have hcz34_2 : wc.cell? ⟨gb193, 2, none⟩ = some (.string x194002_1) := (kc BK193.out 2).trans rfl
               have hcz34_3 : wc.cell? ⟨gb193, 3, none⟩ = some (.int .i64 x194003_1) := (kc BK193.out 3).trans rfl
               have hcz34_4 : wc.cell? ⟨gb193, 4, none⟩ = some (.int .i64 x194004_1) := (kc BK193.out 4).trans rfl
               have hcz34_5 : wc.cell? ⟨gb193, 5, none⟩ = some (.string x194005_1) := (kc BK193.out 5).trans rfl
               have hfz34_0 := kf BK193.out 0
               have hfz34_1 := kf BK193.out 1
               have hfz34_2 := kf BK193.out 2
               have hfz34_3 := kf BK193.out 3
               have hfz34_4 := kf BK193.out 4
               have hfz34_5 := kf BK193.out 5
               have p200 : 0 ≤ (x20_1 : Int) := of_decide_eq_true (by first | (with_reducible assumption) | assumption)
               have q200 : x20_1 < (l1.length : Int) := of_decide_eq_true (by first | (with_reducible assumption) | assumption)
               obtain ⟨ad200, A200_7, c200_7, e200, hx200_0, hx200_1, hx200_2, hx200_3, hx200_4, hx200_5, hx200_6, hx200_7, hl200_7, hi200_7⟩ := at_T125 HR1.out x20_1 p200 q200
               (try rw [← Nbq28.out] at hx200_2)
               (try rw [← Nbq28.out] at hx200_6)
               cases e200
               have hn200_0 : ad200.block ≠ gb193 := Nat.ne_of_lt (Nat.lt_of_lt_of_le (by have := World.block_lt_of_cell? _ _ hx200_0; first | rwa [add_block] at this | exact this) GW193.out)
               have hn200_1 : ad200.block ≠ gb193 := Nat.ne_of_lt (Nat.lt_of_lt_of_le (by have := World.block_lt_of_cell? _ _ hx200_0; first | rwa [add_block] at this | exact this) GW193.out)
               have hn200_2 : ad200.block ≠ gb193 := Nat.ne_of_lt (Nat.lt_of_lt_of_le (by have := World.block_lt_of_cell? _ _ hx200_0; first | rwa [add_block] at this | exact this) GW193.out)
               have hn200_3 : ad200.block ≠ gb193 := Nat.ne_of_lt (Nat.lt_of_lt_of_le (by have := World.block_lt_of_cell? _ _ hx200_0; first | rwa [add_block] at this | exact this) GW193.out)
               have hn200_4 : ad200.block ≠ gb193 := Nat.ne_of_lt (Nat.lt_of_lt_of_le (by have := World.block_lt_of_cell? _ _ hx200_0; first | rwa [add_block] at this | exact this) GW193.out)
               have hn200_5 : ad200.block ≠ gb193 := Nat.ne_of_lt (Nat.lt_of_lt_of_le (by have := World.block_lt_of_cell? _ _ hx200_0; first | rwa [add_block] at this | exact this) GW193.out)
               replace hx200_0 := cl4 HB hx200_0
               replace hx200_1 := cl4 HB hx200_1
               replace hx200_2 := cl4 HB hx200_2
               replace hx200_3 := cl4 HB hx200_3
               replace hx200_4 := cl4 HB hx200_4
               replace hx200_5 := cl4 HB hx200_5
               replace hx200_6 := cl4 HB hx200_6
               replace hx200_7 := cl4 HB hx200_7
               have HR200_7 := Am hi200_7
               have HC200_7 := Am hl200_7
               clear hi200_7 hl200_7
               replace hx200_0 := cfx (p := ⟨gb193, 0, none⟩) (.int .i64 ((rd_T123 l0 x20_1).f2.f0)) hx200_0 hn200_0
               replace hx200_1 := cfy (p := ⟨gb193, 0, none⟩) (.int .i64 ((rd_T123 l0 x20_1).f2.f0)) hx200_1 hn200_0
               replace hx200_2 := cfy (p := ⟨gb193, 0, none⟩) (.int .i64 ((rd_T123 l0 x20_1).f2.f0)) hx200_2 hn200_0
               replace hx200_3 := cfy (p := ⟨gb193, 0, none⟩) (.int .i64 ((rd_T123 l0 x20_1).f2.f0)) hx200_3 hn200_0
               replace hx200_4 := cfy (p := ⟨gb193, 0, none⟩) (.int .i64 ((rd_T123 l0 x20_1).f2.f0)) hx200_4 hn200_0
               replace hx200_5 := cfy (p := ⟨gb193, 0, none⟩) (.int .i64 ((rd_T123 l0 x20_1).f2.f0)) hx200_5 hn200_0
               replace hx200_6 := cfy (p := ⟨gb193, 0, none⟩) (.int .i64 ((rd_T123 l0 x20_1).f2.f0)) hx200_6 hn200_0
               replace hx200_7 := cfy (p := ⟨gb193, 0, none⟩) (.int .i64 ((rd_T123 l0 x20_1).f2.f0)) hx200_7 hn200_0
               replace hx200_0 := cfx (p := ⟨gb193, 1, none⟩) (.string ((rd_T123 l0 x20_1).f2.f1)) hx200_0 hn200_1
               replace hx200_1 := cfy (p := ⟨gb193, 1, none⟩) (.string ((rd_T123 l0 x20_1).f2.f1)) hx200_1 hn200_1
               replace hx200_2 := cfy (p := ⟨gb193, 1, none⟩) (.string ((rd_T123 l0 x20_1).f2.f1)) hx200_2 hn200_1
               replace hx200_3 := cfy (p := ⟨gb193, 1, none⟩) (.string ((rd_T123 l0 x20_1).f2.f1)) hx200_3 hn200_1
               replace hx200_4 := cfy (p := ⟨gb193, 1, none⟩) (.string ((rd_T123 l0 x20_1).f2.f1)) hx200_4 hn200_1
               replace hx200_5 := cfy (p := ⟨gb193, 1, none⟩) (.string ((rd_T123 l0 x20_1).f2.f1)) hx200_5 hn200_1
               replace hx200_6 := cfy (p := ⟨gb193, 1, none⟩) (.string ((rd_T123 l0 x20_1).f2.f1)) hx200_6 hn200_1
               replace hx200_7 := cfy (p := ⟨gb193, 1, none⟩) (.string ((rd_T123 l0 x20_1).f2.f1)) hx200_7 hn200_1
               replace hx200_0 := cfx (p := ⟨gb193, 2, none⟩) (.string ((rd_T123 l0 x20_1).f2.f2)) hx200_0 hn200_2
               replace hx200_1 := cfy (p := ⟨gb193, 2, none⟩) (.string ((rd_T123 l0 x20_1).f2.f2)) hx200_1 hn200_2
               replace hx200_2 := cfy (p := ⟨gb193, 2, none⟩) (.string ((rd_T123 l0 x20_1).f2.f2)) hx200_2 hn200_2
               replace hx200_3 := cfy (p := ⟨gb193, 2, none⟩) (.string ((rd_T123 l0 x20_1).f2.f2)) hx200_3 hn200_2
               replace hx200_4 := cfy (p := ⟨gb193, 2, none⟩) (.string ((rd_T123 l0 x20_1).f2.f2)) hx200_4 hn200_2
               replace hx200_5 := cfy (p := ⟨gb193, 2, none⟩) (.string ((rd_T123 l0 x20_1).f2.f2)) hx200_5 hn200_2
               replace hx200_6 := cfy (p := ⟨gb193, 2, none⟩) (.string ((rd_T123 l0 x20_1).f2.f2)) hx200_6 hn200_2
               replace hx200_7 := cfy (p := ⟨gb193, 2, none⟩) (.string ((rd_T123 l0 x20_1).f2.f2)) hx200_7 hn200_2
               replace hx200_0 := cfx (p := ⟨gb193, 3, none⟩) (.int .i64 ((rd_T123 l0 x20_1).f2.f3)) hx200_0 hn200_3
               replace hx200_1 := cfy (p := ⟨gb193, 3, none⟩) (.int .i64 ((rd_T123 l0 x20_1).f2.f3)) hx200_1 hn200_3
               replace hx200_2 := cfy (p := ⟨gb193, 3, none⟩) (.int .i64 ((rd_T123 l0 x20_1).f2.f3)) hx200_2 hn200_3
               replace hx200_3 := cfy (p := ⟨gb193, 3, none⟩) (.int .i64 ((rd_T123 l0 x20_1).f2.f3)) hx200_3 hn200_3
               replace hx200_4 := cfy (p := ⟨gb193, 3, none⟩) (.int .i64 ((rd_T123 l0 x20_1).f2.f3)) hx200_4 hn200_3
               replace hx200_5 := cfy (p := ⟨gb193, 3, none⟩) (.int .i64 ((rd_T123 l0 x20_1).f2.f3)) hx200_5 hn200_3
               replace hx200_6 := cfy (p := ⟨gb193, 3, none⟩) (.int .i64 ((rd_T123 l0 x20_1).f2.f3)) hx200_6 hn200_3
               replace hx200_7 := cfy (p := ⟨gb193, 3, none⟩) (.int .i64 ((rd_T123 l0 x20_1).f2.f3)) hx200_7 hn200_3
               replace hx200_0 := cfx (p := ⟨gb193, 4, none⟩) (.int .i64 ((rd_T123 l0 x20_1).f2.f4)) hx200_0 hn200_4
               replace hx200_1 := cfy (p := ⟨gb193, 4, none⟩) (.int .i64 ((rd_T123 l0 x20_1).f2.f4)) hx200_1 hn200_4
               replace hx200_2 := cfy (p := ⟨gb193, 4, none⟩) (.int .i64 ((rd_T123 l0 x20_1).f2.f4)) hx200_2 hn200_4
               replace hx200_3 := cfy (p := ⟨gb193, 4, none⟩) (.int .i64 ((rd_T123 l0 x20_1).f2.f4)) hx200_3 hn200_4
               replace hx200_4 := cfy (p := ⟨gb193, 4, none⟩) (.int .i64 ((rd_T123 l0 x20_1).f2.f4)) hx200_4 hn200_4
               replace hx200_5 := cfy (p := ⟨gb193, 4, none⟩) (.int .i64 ((rd_T123 l0 x20_1).f2.f4)) hx200_5 hn200_4
               replace hx200_6 := cfy (p := ⟨gb193, 4, none⟩) (.int .i64 ((rd_T123 l0 x20_1).f2.f4)) hx200_6 hn200_4
               replace hx200_7 := cfy (p := ⟨gb193, 4, none⟩) (.int .i64 ((rd_T123 l0 x20_1).f2.f4)) hx200_7 hn200_4
               replace hx200_0 := cfx (p := ⟨gb193, 5, none⟩) (.string ((rd_T123 l0 x20_1).f2.f5)) hx200_0 hn200_5
               replace hx200_1 := cfy (p := ⟨gb193, 5, none⟩) (.string ((rd_T123 l0 x20_1).f2.f5)) hx200_1 hn200_5
               replace hx200_2 := cfy (p := ⟨gb193, 5, none⟩) (.string ((rd_T123 l0 x20_1).f2.f5)) hx200_2 hn200_5
               replace hx200_3 := cfy (p := ⟨gb193, 5, none⟩) (.string ((rd_T123 l0 x20_1).f2.f5)) hx200_3 hn200_5
               replace hx200_4 := cfy (p := ⟨gb193, 5, none⟩) (.string ((rd_T123 l0 x20_1).f2.f5)) hx200_4 hn200_5
               replace hx200_5 := cfy (p := ⟨gb193, 5, none⟩) (.string ((rd_T123 l0 x20_1).f2.f5)) hx200_5 hn200_5
               replace hx200_6 := cfy (p := ⟨gb193, 5, none⟩) (.string ((rd_T123 l0 x20_1).f2.f5)) hx200_6 hn200_5
               replace hx200_7 := cfy (p := ⟨gb193, 5, none⟩) (.string ((rd_T123 l0 x20_1).f2.f5)) hx200_7 hn200_5
               clear hn200_0
               clear hn200_1
               clear hn200_2
               clear hn200_3
               clear hn200_4
               clear hn200_5
               replace p200 := eq_true p200
               replace q200 := eq_true q200
               have p201 : 0 ≤ (x20_1 : Int) := of_decide_eq_true (by first | (with_reducible assumption) | assumption)
               have q201 : x20_1 < (l1.length : Int) := of_decide_eq_true (by first | (with_reducible assumption) | assumption)
               obtain ⟨ad201, A201_7, c201_7, e201, hx201_0, hx201_1, hx201_2, hx201_3, hx201_4, hx201_5, hx201_6, hx201_7, hl201_7, hi201_7⟩ := at_T125 HR1.out x20_1 p201 q201
               (try rw [← Nbq28.out] at hx201_2)
               (try rw [← Nbq28.out] at hx201_6)
               obtain rfl : ad200 = ad201 := (by injection e201)
               have hn201_0 : ad200.block ≠ gb193 := Nat.ne_of_lt (Nat.lt_of_lt_of_le (by have := World.block_lt_of_cell? _ _ hx201_0; first | rwa [add_block] at this | exact this) GW193.out)
               have hn201_1 : ad200.block ≠ gb193 := Nat.ne_of_lt (Nat.lt_of_lt_of_le (by have := World.block_lt_of_cell? _ _ hx201_0; first | rwa [add_block] at this | exact this) GW193.out)
               have hn201_2 : ad200.block ≠ gb193 := Nat.ne_of_lt (Nat.lt_of_lt_of_le (by have := World.block_lt_of_cell? _ _ hx201_0; first | rwa [add_block] at this | exact this) GW193.out)
               have hn201_3 : ad200.block ≠ gb193 := Nat.ne_of_lt (Nat.lt_of_lt_of_le (by have := World.block_lt_of_cell? _ _ hx201_0; first | rwa [add_block] at this | exact this) GW193.out)
               have hn201_4 : ad200.block ≠ gb193 := Nat.ne_of_lt (Nat.lt_of_lt_of_le (by have := World.block_lt_of_cell? _ _ hx201_0; first | rwa [add_block] at this | exact this) GW193.out)
               have hn201_5 : ad200.block ≠ gb193 := Nat.ne_of_lt (Nat.lt_of_lt_of_le (by have := World.block_lt_of_cell? _ _ hx201_0; first | rwa [add_block] at this | exact this) GW193.out)
               replace hx201_0 := cl4 HB hx201_0
               replace hx201_1 := cl4 HB hx201_1
               replace hx201_2 := cl4 HB hx201_2
               replace hx201_3 := cl4 HB hx201_3
               replace hx201_4 := cl4 HB hx201_4
               replace hx201_5 := cl4 HB hx201_5
               replace hx201_6 := cl4 HB hx201_6
               replace hx201_7 := cl4 HB hx201_7
               have HR201_7 := Am hi201_7
               have HC201_7 := Am hl201_7
               clear hi201_7 hl201_7
               replace hx201_0 := cfx (p := ⟨gb193, 0, none⟩) (.int .i64 ((rd_T123 l0 x20_1).f2.f0)) hx201_0 hn201_0
               replace hx201_1 := cfy (p := ⟨gb193, 0, none⟩) (.int .i64 ((rd_T123 l0 x20_1).f2.f0)) hx201_1 hn201_0
               replace hx201_2 := cfy (p := ⟨gb193, 0, none⟩) (.int .i64 ((rd_T123 l0 x20_1).f2.f0)) hx201_2 hn201_0
               replace hx201_3 := cfy (p := ⟨gb193, 0, none⟩) (.int .i64 ((rd_T123 l0 x20_1).f2.f0)) hx201_3 hn201_0
               replace hx201_4 := cfy (p := ⟨gb193, 0, none⟩) (.int .i64 ((rd_T123 l0 x20_1).f2.f0)) hx201_4 hn201_0
               replace hx201_5 := cfy (p := ⟨gb193, 0, none⟩) (.int .i64 ((rd_T123 l0 x20_1).f2.f0)) hx201_5 hn201_0
               replace hx201_6 := cfy (p := ⟨gb193, 0, none⟩) (.int .i64 ((rd_T123 l0 x20_1).f2.f0)) hx201_6 hn201_0
               replace hx201_7 := cfy (p := ⟨gb193, 0, none⟩) (.int .i64 ((rd_T123 l0 x20_1).f2.f0)) hx201_7 hn201_0
               replace hx201_0 := cfx (p := ⟨gb193, 1, none⟩) (.string ((rd_T123 l0 x20_1).f2.f1)) hx201_0 hn201_1
               replace hx201_1 := cfy (p := ⟨gb193, 1, none⟩) (.string ((rd_T123 l0 x20_1).f2.f1)) hx201_1 hn201_1
               replace hx201_2 := cfy (p := ⟨gb193, 1, none⟩) (.string ((rd_T123 l0 x20_1).f2.f1)) hx201_2 hn201_1
               replace hx201_3 := cfy (p := ⟨gb193, 1, none⟩) (.string ((rd_T123 l0 x20_1).f2.f1)) hx201_3 hn201_1
               replace hx201_4 := cfy (p := ⟨gb193, 1, none⟩) (.string ((rd_T123 l0 x20_1).f2.f1)) hx201_4 hn201_1
               replace hx201_5 := cfy (p := ⟨gb193, 1, none⟩) (.string ((rd_T123 l0 x20_1).f2.f1)) hx201_5 hn201_1
               replace hx201_6 := cfy (p := ⟨gb193, 1, none⟩) (.string ((rd_T123 l0 x20_1).f2.f1)) hx201_6 hn201_1
               replace hx201_7 := cfy (p := ⟨gb193, 1, none⟩) (.string ((rd_T123 l0 x20_1).f2.f1)) hx201_7 hn201_1
               replace hx201_0 := cfx (p := ⟨gb193, 2, none⟩) (.string ((rd_T123 l0 x20_1).f2.f2)) hx201_0 hn201_2
               replace hx201_1 := cfy (p := ⟨gb193, 2, none⟩) (.string ((rd_T123 l0 x20_1).f2.f2)) hx201_1 hn201_2
               replace hx201_2 := cfy (p := ⟨gb193, 2, none⟩) (.string ((rd_T123 l0 x20_1).f2.f2)) hx201_2 hn201_2
               replace hx201_3 := cfy (p := ⟨gb193, 2, none⟩) (.string ((rd_T123 l0 x20_1).f2.f2)) hx201_3 hn201_2
               replace hx201_4 := cfy (p := ⟨gb193, 2, none⟩) (.string ((rd_T123 l0 x20_1).f2.f2)) hx201_4 hn201_2
               replace hx201_5 := cfy (p := ⟨gb193, 2, none⟩) (.string ((rd_T123 l0 x20_1).f2.f2)) hx201_5 hn201_2
               replace hx201_6 := cfy (p := ⟨gb193, 2, none⟩) (.string ((rd_T123 l0 x20_1).f2.f2)) hx201_6 hn201_2
               replace hx201_7 := cfy (p := ⟨gb193, 2, none⟩) (.string ((rd_T123 l0 x20_1).f2.f2)) hx201_7 hn201_2
               replace hx201_0 := cfx (p := ⟨gb193, 3, none⟩) (.int .i64 ((rd_T123 l0 x20_1).f2.f3)) hx201_0 hn201_3
               replace hx201_1 := cfy (p := ⟨gb193, 3, none⟩) (.int .i64 ((rd_T123 l0 x20_1).f2.f3)) hx201_1 hn201_3
               replace hx201_2 := cfy (p := ⟨gb193, 3, none⟩) (.int .i64 ((rd_T123 l0 x20_1).f2.f3)) hx201_2 hn201_3
               replace hx201_3 := cfy (p := ⟨gb193, 3, none⟩) (.int .i64 ((rd_T123 l0 x20_1).f2.f3)) hx201_3 hn201_3
               replace hx201_4 := cfy (p := ⟨gb193, 3, none⟩) (.int .i64 ((rd_T123 l0 x20_1).f2.f3)) hx201_4 hn201_3
               replace hx201_5 := cfy (p := ⟨gb193, 3, none⟩) (.int .i64 ((rd_T123 l0 x20_1).f2.f3)) hx201_5 hn201_3
               replace hx201_6 := cfy (p := ⟨gb193, 3, none⟩) (.int .i64 ((rd_T123 l0 x20_1).f2.f3)) hx201_6 hn201_3
               replace hx201_7 := cfy (p := ⟨gb193, 3, none⟩) (.int .i64 ((rd_T123 l0 x20_1).f2.f3)) hx201_7 hn201_3
               replace hx201_0 := cfx (p := ⟨gb193, 4, none⟩) (.int .i64 ((rd_T123 l0 x20_1).f2.f4)) hx201_0 hn201_4
               replace hx201_1 := cfy (p := ⟨gb193, 4, none⟩) (.int .i64 ((rd_T123 l0 x20_1).f2.f4)) hx201_1 hn201_4
               replace hx201_2 := cfy (p := ⟨gb193, 4, none⟩) (.int .i64 ((rd_T123 l0 x20_1).f2.f4)) hx201_2 hn201_4
               replace hx201_3 := cfy (p := ⟨gb193, 4, none⟩) (.int .i64 ((rd_T123 l0 x20_1).f2.f4)) hx201_3 hn201_4
               replace hx201_4 := cfy (p := ⟨gb193, 4, none⟩) (.int .i64 ((rd_T123 l0 x20_1).f2.f4)) hx201_4 hn201_4
               replace hx201_5 := cfy (p := ⟨gb193, 4, none⟩) (.int .i64 ((rd_T123 l0 x20_1).f2.f4)) hx201_5 hn201_4
               replace hx201_6 := cfy (p := ⟨gb193, 4, none⟩) (.int .i64 ((rd_T123 l0 x20_1).f2.f4)) hx201_6 hn201_4
               replace hx201_7 := cfy (p := ⟨gb193, 4, none⟩) (.int .i64 ((rd_T123 l0 x20_1).f2.f4)) hx201_7 hn201_4
               replace hx201_0 := cfx (p := ⟨gb193, 5, none⟩) (.string ((rd_T123 l0 x20_1).f2.f5)) hx201_0 hn201_5
               replace hx201_1 := cfy (p := ⟨gb193, 5, none⟩) (.string ((rd_T123 l0 x20_1).f2.f5)) hx201_1 hn201_5
               replace hx201_2 := cfy (p := ⟨gb193, 5, none⟩) (.string ((rd_T123 l0 x20_1).f2.f5)) hx201_2 hn201_5
               replace hx201_3 := cfy (p := ⟨gb193, 5, none⟩) (.string ((rd_T123 l0 x20_1).f2.f5)) hx201_3 hn201_5
               replace hx201_4 := cfy (p := ⟨gb193, 5, none⟩) (.string ((rd_T123 l0 x20_1).f2.f5)) hx201_4 hn201_5
               replace hx201_5 := cfy (p := ⟨gb193, 5, none⟩) (.string ((rd_T123 l0 x20_1).f2.f5)) hx201_5 hn201_5
               replace hx201_6 := cfy (p := ⟨gb193, 5, none⟩) (.string ((rd_T123 l0 x20_1).f2.f5)) hx201_6 hn201_5
               replace hx201_7 := cfy (p := ⟨gb193, 5, none⟩) (.string ((rd_T123 l0 x20_1).f2.f5)) hx201_7 hn201_5
               clear hn201_0
               clear hn201_1
               clear hn201_2
               clear hn201_3
               clear hn201_4
               clear hn201_5
               replace p201 := eq_true p201
               replace q201 := eq_true q201
               go_wp2_with (first | ((with_reducible refine gate_builtin (b := .append) (xs := #[.tmp 58, .tmp 60]) rfl ?_); at_builtin; refine Kd.R_append k42 (w0 := w) w.heap.size rfl (.tmp 58) (.tmp 60) 26 42 (.agg #[(.int .i64 0), (.string ⟨#[]⟩), (.string ⟨#[]⟩), (.int .i64 0), (.int .i64 0), (.string ⟨#[]⟩)]) 72 rfl Try.underlying26 info42 rfl (by decide) (by omega) u8 x8_1 (⟨((rd_T123 l0 x20_1).f2.f0), ((rd_T123 l0 x20_1).f2.f1), ((rd_T123 l0 x20_1).f2.f2), ((rd_T123 l0 x20_1).f2.f3), ((rd_T123 l0 x20_1).f2.f4), ((rd_T123 l0 x20_1).f2.f5)⟩ : S42) [.int .i64 ((rd_T123 l0 x20_1).f2.f0), .string ((rd_T123 l0 x20_1).f2.f1), .string ((rd_T123 l0 x20_1).f2.f2), .int .i64 ((rd_T123 l0 x20_1).f2.f3), .int .i64 ((rd_T123 l0 x20_1).f2.f4), .string ((rd_T123 l0 x20_1).f2.f5)] (fun k_ => k_ ≠ gb193) (fun _ => False) rfl (by first | (go_simp; done) | (go_simp; rfl)) ?aP (fun _ hk => hk.elim) ?aF ?aO ?aB ?aS ?aL ?_; (case aP => exact k42_mkM _ _ _ (⟨((rd_T123 l0 x20_1).f2.f0), ((rd_T123 l0 x20_1).f2.f1), ((rd_T123 l0 x20_1).f2.f2), ((rd_T123 l0 x20_1).f2.f3), ((rd_T123 l0 x20_1).f2.f4), ((rd_T123 l0 x20_1).f2.f5)⟩ : S42)); (case aB => exact (by repeat (first | (with_reducible first | exact HB.out | apply ba | apply bn | apply be | refine bs ?_ GE193.out | refine bs ?_ GE198.out) | exact HB.out))); (case aF => exact (fun k_ hk => Kd.freshB (g := gb193) (o := .cells #[.int .i64 ((rd_T123 l0 x20_1).f2.f0), .string ((rd_T123 l0 x20_1).f2.f1), .string ((rd_T123 l0 x20_1).f2.f2), .int .i64 ((rd_T123 l0 x20_1).f2.f3), .int .i64 ((rd_T123 l0 x20_1).f2.f4), .string ((rd_T123 l0 x20_1).f2.f5)] 42 (0, 0)) (by (with_reducible repeat (first | refine kn ?_ _ | refine ke ?_ | refine ka ?_ _)); refine kp (cs := #[.int .i64 ((rd_T123 l0 x20_1).f2.f0), .string ((rd_T123 l0 x20_1).f2.f1), .string ((rd_T123 l0 x20_1).f2.f2), .int .i64 ((rd_T123 l0 x20_1).f2.f3), .int .i64 ((rd_T123 l0 x20_1).f2.f4), .string x194005_1]) ?_ 5 _ rfl; (with_reducible repeat (first | refine kn ?_ _ | refine ke ?_ | refine ka ?_ _)); refine kp (cs := #[.int .i64 ((rd_T123 l0 x20_1).f2.f0), .string ((rd_T123 l0 x20_1).f2.f1), .string ((rd_T123 l0 x20_1).f2.f2), .int .i64 ((rd_T123 l0 x20_1).f2.f3), .int .i64 x194004_1, .string x194005_1]) ?_ 4 _ rfl; (with_reducible repeat (first | refine kn ?_ _ | refine ke ?_ | refine ka ?_ _)); refine kp (cs := #[.int .i64 ((rd_T123 l0 x20_1).f2.f0), .string ((rd_T123 l0 x20_1).f2.f1), .string ((rd_T123 l0 x20_1).f2.f2), .int .i64 x194003_1, .int .i64 x194004_1, .string x194005_1]) ?_ 3 _ rfl; (with_reducible repeat (first | refine kn ?_ _ | refine ke ?_ | refine ka ?_ _)); refine kp (cs := #[.int .i64 ((rd_T123 l0 x20_1).f2.f0), .string ((rd_T123 l0 x20_1).f2.f1), .string x194002_1, .int .i64 x194003_1, .int .i64 x194004_1, .string x194005_1]) ?_ 2 _ rfl; (with_reducible repeat (first | refine kn ?_ _ | refine ke ?_ | refine ka ?_ _)); refine kp (cs := #[.int .i64 ((rd_T123 l0 x20_1).f2.f0), .string x194001_1, .string x194002_1, .int .i64 x194003_1, .int .i64 x194004_1, .string x194005_1]) ?_ 1 _ rfl; (with_reducible repeat (first | refine kn ?_ _ | refine ke ?_ | refine ka ?_ _)); refine kp (cs := #[.int .i64 x194000_1, .string x194001_1, .string x194002_1, .int .i64 x194003_1, .int .i64 x194004_1, .string x194005_1]) ?_ 0 _ rfl; (with_reducible repeat (first | refine kn ?_ _ | refine ke ?_ | refine ka ?_ _)); exact BK193.out) k_ hk)); (case aO => exact (by (with_reducible repeat (first | apply ra | apply rn | apply re)); exact Kd.R_mono (Kd.R_far (p := ⟨gb193, 5, none⟩) (Kd.R_far (p := ⟨gb193, 4, none⟩) (Kd.R_far (p := ⟨gb193, 3, none⟩) (Kd.R_far (p := ⟨gb193, 2, none⟩) (Kd.R_far (p := ⟨gb193, 1, none⟩) (Kd.R_far (p := ⟨gb193, 0, none⟩) (Kd.R_mono HO_8.out (fun k_ hk => (⟨hk, hk⟩ : _ ∧ k_ ≠ gb193))) (fun _ hk => hk.2) (.int .i64 ((rd_T123 l0 x20_1).f2.f0))) (fun _ hk => hk.2) (.string ((rd_T123 l0 x20_1).f2.f1))) (fun _ hk => hk.2) (.string ((rd_T123 l0 x20_1).f2.f2))) (fun _ hk => hk.2) (.int .i64 ((rd_T123 l0 x20_1).f2.f3))) (fun _ hk => hk.2) (.int .i64 ((rd_T123 l0 x20_1).f2.f4))) (fun _ hk => hk.2) (.string ((rd_T123 l0 x20_1).f2.f5))) (fun _ hk => hk.1))); (case aS => exact (bz (by repeat (first | (with_reducible first | exact HB.out | apply ba | apply bn | apply be | refine bs ?_ GE193.out | refine bs ?_ GE198.out) | exact HB.out)))); (case aL => have := LMc31.out; omega); intro v203 w35 ho hb hg hat; rw [← Ny202.out] at ho; have n0_ := Am (kg (g := gb193) (o := .cells #[.int .i64 ((rd_T123 l0 x20_1).f2.f0), .string ((rd_T123 l0 x20_1).f2.f1), .string ((rd_T123 l0 x20_1).f2.f2), .int .i64 ((rd_T123 l0 x20_1).f2.f3), .int .i64 ((rd_T123 l0 x20_1).f2.f4), .string ((rd_T123 l0 x20_1).f2.f5)] 42 (0, 0)) (by (with_reducible repeat (first | refine kn ?_ _ | refine ke ?_ | refine ka ?_ _)); refine kp (cs := #[.int .i64 ((rd_T123 l0 x20_1).f2.f0), .string ((rd_T123 l0 x20_1).f2.f1), .string ((rd_T123 l0 x20_1).f2.f2), .int .i64 ((rd_T123 l0 x20_1).f2.f3), .int .i64 ((rd_T123 l0 x20_1).f2.f4), .string x194005_1]) ?_ 5 _ rfl; (with_reducible repeat (first | refine kn ?_ _ | refine ke ?_ | refine ka ?_ _)); refine kp (cs := #[.int .i64 ((rd_T123 l0 x20_1).f2.f0), .string ((rd_T123 l0 x20_1).f2.f1), .string ((rd_T123 l0 x20_1).f2.f2), .int .i64 ((rd_T123 l0 x20_1).f2.f3), .int .i64 x194004_1, .string x194005_1]) ?_ 4 _ rfl; (with_reducible repeat (first | refine kn ?_ _ | refine ke ?_ | refine ka ?_ _)); refine kp (cs := #[.int .i64 ((rd_T123 l0 x20_1).f2.f0), .string ((rd_T123 l0 x20_1).f2.f1), .string ((rd_T123 l0 x20_1).f2.f2), .int .i64 x194003_1, .int .i64 x194004_1, .string x194005_1]) ?_ 3 _ rfl; (with_reducible repeat (first | refine kn ?_ _ | refine ke ?_ | refine ka ?_ _)); refine kp (cs := #[.int .i64 ((rd_T123 l0 x20_1).f2.f0), .string ((rd_T123 l0 x20_1).f2.f1), .string x194002_1, .int .i64 x194003_1, .int .i64 x194004_1, .string x194005_1]) ?_ 2 _ rfl; (with_reducible repeat (first | refine kn ?_ _ | refine ke ?_ | refine ka ?_ _)); refine kp (cs := #[.int .i64 ((rd_T123 l0 x20_1).f2.f0), .string x194001_1, .string x194002_1, .int .i64 x194003_1, .int .i64 x194004_1, .string x194005_1]) ?_ 1 _ rfl; (with_reducible repeat (first | refine kn ?_ _ | refine ke ?_ | refine ka ?_ _)); refine kp (cs := #[.int .i64 x194000_1, .string x194001_1, .string x194002_1, .int .i64 x194003_1, .int .i64 x194004_1, .string x194005_1]) ?_ 0 _ rfl; (with_reducible repeat (first | refine kn ?_ _ | refine ke ?_ | refine ka ?_ _)); exact BK193.out) hg (Kd.R_away HO_8.out (fun _ hk => hk))); have n1_ := Am (kg (g := gb198) (o := .cells #[.int .i64 ((rd_T123 l0 x20_1).f0), .int .i64 ((rd_T123 l0 x20_1).f1), .int .i64 ((rd_T123 l0 x20_1).f2.f0), .string ((rd_T123 l0 x20_1).f2.f1), .string ((rd_T123 l0 x20_1).f2.f2), .int .i64 ((rd_T123 l0 x20_1).f2.f3), .int .i64 ((rd_T123 l0 x20_1).f2.f4), .string ((rd_T123 l0 x20_1).f2.f5), .int .i64 ((rd_T123 l0 x20_1).f3)] 123 (0, 0)) (by (with_reducible repeat (first | refine kn ?_ _ | refine ke ?_ | refine ka ?_ _)); refine blk_far ?_ NB198_193.out _; (with_reducible repeat (first | refine kn ?_ _ | refine ke ?_ | refine ka ?_ _)); refine blk_far ?_ NB198_193.out _; (with_reducible repeat (first | refine kn ?_ _ | refine ke ?_ | refine ka ?_ _)); refine blk_far ?_ NB198_193.out _; (with_reducible repeat (first | refine kn ?_ _ | refine ke ?_ | refine ka ?_ _)); refine blk_far ?_ NB198_193.out _; (with_reducible repeat (first | refine kn ?_ _ | refine ke ?_ | refine ka ?_ _)); refine blk_far ?_ NB198_193.out _; (with_reducible repeat (first | refine kn ?_ _ | refine ke ?_ | refine ka ?_ _)); refine blk_far ?_ NB198_193.out _; (with_reducible repeat (first | refine kn ?_ _ | refine ke ?_ | refine ka ?_ _)); exact BK198.out) hg (Kd.R_ne HO_8.out BK198.out (by decide))); have n2_ := Am (hb); have n3_ := Am (ho); clear BK193; clear BK198; clear HB; clear HO_8; have BK193 := n0_; have BK198 := n1_; have HB := n2_; have HO204 := n3_; clear n0_ n1_ n2_ n3_; clear ho hb hg hat))
               go_roundg kj11
               case measure => have := HK1.out; have := HJ11.out; omega
               case rel => exact ⟨(y202), (wrap64 (x20_1 + 1)), (((rd_T123 l0 x20_1).f2.f0)), (((rd_T123 l0 x20_1).f2.f1)), (((rd_T123 l0 x20_1).f2.f2)), (((rd_T123 l0 x20_1).f2.f3)), (((rd_T123 l0 x20_1).f2.f4)), (((rd_T123 l0 x20_1).f2.f5)), (by first | rfl | (simp; done) | (simp [*]; done)), H', ⟨by have := HK1.out; have := HJ11.out; omega⟩, ⟨by (with_reducible repeat (first | apply ra | apply rn | apply re)); exact HO204.out⟩, ⟨by (with_reducible repeat (first | refine kn ?_ _ | refine ke ?_ | refine ka ?_ _)); exact BK193.out⟩, ⟨by repeat (first | (with_reducible first | exact HB.out | apply ba | apply bn | apply be | refine bs ?_ GE193.out | refine bs ?_ GE198.out) | exact HB.out)⟩⟩
              ·rw [if_neg c31] at H
               exact absurd H (by simp)
             ·rw [if_neg c30] at H
              have c30b0 : (((rd_T125 l1 x20_1).f1) == a2) = false := beq_eq_false_iff_ne.mpr c30
              have c30b1 : (((rd_T125 l1 x20_1).f1) != a2) = true := bne_iff_ne.mpr c30
              have H' := Am H
              clear H
              have hnb36 := NB198_193.out
              have hnc36 := NB193_198.out
              have hcz37_0 : wc.cell? ⟨gb198, 0, none⟩ = some (.int .i64 ((rd_T123 l0 x20_1).f0)) := (kc BK198.out 0).trans rfl
              have hcz37_1 : wc.cell? ⟨gb198, 1, none⟩ = some (.int .i64 ((rd_T123 l0 x20_1).f1)) := (kc BK198.out 1).trans rfl
              have hcz37_2 : wc.cell? ⟨gb198, 2, none⟩ = some (.int .i64 ((rd_T123 l0 x20_1).f2.f0)) := (kc BK198.out 2).trans rfl
              have hcz37_3 : wc.cell? ⟨gb198, 3, none⟩ = some (.string ((rd_T123 l0 x20_1).f2.f1)) := (kc BK198.out 3).trans rfl
              have hcz37_4 : wc.cell? ⟨gb198, 4, none⟩ = some (.string ((rd_T123 l0 x20_1).f2.f2)) := (kc BK198.out 4).trans rfl
              have hcz37_5 : wc.cell? ⟨gb198, 5, none⟩ = some (.int .i64 ((rd_T123 l0 x20_1).f2.f3)) := (kc BK198.out 5).trans rfl
              have hcz37_6 : wc.cell? ⟨gb198, 6, none⟩ = some (.int .i64 ((rd_T123 l0 x20_1).f2.f4)) := (kc BK198.out 6).trans rfl
              have hcz37_7 : wc.cell? ⟨gb198, 7, none⟩ = some (.string ((rd_T123 l0 x20_1).f2.f5)) := (kc BK198.out 7).trans rfl
              have hcz37_8 : wc.cell? ⟨gb198, 8, none⟩ = some (.int .i64 ((rd_T123 l0 x20_1).f3)) := (kc BK198.out 8).trans rfl
              have hfz37_0 := kf BK198.out 0
              have hfz37_1 := kf BK198.out 1
              have hfz37_2 := kf BK198.out 2
              have hfz37_3 := kf BK198.out 3
              have hfz37_4 := kf BK198.out 4
              have hfz37_5 := kf BK198.out 5
              have hfz37_6 := kf BK198.out 6
              have hfz37_7 := kf BK198.out 7
              have hfz37_8 := kf BK198.out 8
              have hcz38_0 : wc.cell? ⟨gb193, 0, none⟩ = some (.int .i64 x194000_1) := (kc BK193.out 0).trans rfl
              have hcz38_1 : wc.cell? ⟨gb193, 1, none⟩ = some (.string x194001_1) := (kc BK193.out 1).trans rfl
              have hcz38_2 : wc.cell? ⟨gb193, 2, none⟩ = some (.string x194002_1) := (kc BK193.out 2).trans rfl
              have hcz38_3 : wc.cell? ⟨gb193, 3, none⟩ = some (.int .i64 x194003_1) := (kc BK193.out 3).trans rfl
              have hcz38_4 : wc.cell? ⟨gb193, 4, none⟩ = some (.int .i64 x194004_1) := (kc BK193.out 4).trans rfl
              have hcz38_5 : wc.cell? ⟨gb193, 5, none⟩ = some (.string x194005_1) := (kc BK193.out 5).trans rfl
              have hfz38_0 := kf BK193.out 0
              have hfz38_1 := kf BK193.out 1
              have hfz38_2 := kf BK193.out 2
              have hfz38_3 := kf BK193.out 3
              have hfz38_4 := kf BK193.out 4
              have hfz38_5 := kf BK193.out 5
              have p200 : 0 ≤ (x20_1 : Int) := of_decide_eq_true (by first | (with_reducible assumption) | assumption)
              have q200 : x20_1 < (l1.length : Int) := of_decide_eq_true (by first | (with_reducible assumption) | assumption)
              obtain ⟨ad200, A200_7, c200_7, e200, hx200_0, hx200_1, hx200_2, hx200_3, hx200_4, hx200_5, hx200_6, hx200_7, hl200_7, hi200_7⟩ := at_T125 HR1.out x20_1 p200 q200
              (try rw [← Nbq28.out] at hx200_2)
              (try rw [← Nbq28.out] at hx200_6)
              cases e200
              have hn200_0 : ad200.block ≠ gb193 := Nat.ne_of_lt (Nat.lt_of_lt_of_le (by have := World.block_lt_of_cell? _ _ hx200_0; first | rwa [add_block] at this | exact this) GW193.out)
              have hn200_1 : ad200.block ≠ gb193 := Nat.ne_of_lt (Nat.lt_of_lt_of_le (by have := World.block_lt_of_cell? _ _ hx200_0; first | rwa [add_block] at this | exact this) GW193.out)
              have hn200_2 : ad200.block ≠ gb193 := Nat.ne_of_lt (Nat.lt_of_lt_of_le (by have := World.block_lt_of_cell? _ _ hx200_0; first | rwa [add_block] at this | exact this) GW193.out)
              have hn200_3 : ad200.block ≠ gb193 := Nat.ne_of_lt (Nat.lt_of_lt_of_le (by have := World.block_lt_of_cell? _ _ hx200_0; first | rwa [add_block] at this | exact this) GW193.out)
              have hn200_4 : ad200.block ≠ gb193 := Nat.ne_of_lt (Nat.lt_of_lt_of_le (by have := World.block_lt_of_cell? _ _ hx200_0; first | rwa [add_block] at this | exact this) GW193.out)
              have hn200_5 : ad200.block ≠ gb193 := Nat.ne_of_lt (Nat.lt_of_lt_of_le (by have := World.block_lt_of_cell? _ _ hx200_0; first | rwa [add_block] at this | exact this) GW193.out)
              replace hx200_0 := cl4 HB hx200_0
              replace hx200_1 := cl4 HB hx200_1
              replace hx200_2 := cl4 HB hx200_2
              replace hx200_3 := cl4 HB hx200_3
              replace hx200_4 := cl4 HB hx200_4
              replace hx200_5 := cl4 HB hx200_5
              replace hx200_6 := cl4 HB hx200_6
              replace hx200_7 := cl4 HB hx200_7
              have HR200_7 := Am hi200_7
              have HC200_7 := Am hl200_7
              clear hi200_7 hl200_7
              replace hx200_0 := cfx (p := ⟨gb193, 0, none⟩) (.int .i64 ((rd_T123 l0 x20_1).f2.f0)) hx200_0 hn200_0
              replace hx200_1 := cfy (p := ⟨gb193, 0, none⟩) (.int .i64 ((rd_T123 l0 x20_1).f2.f0)) hx200_1 hn200_0
              replace hx200_2 := cfy (p := ⟨gb193, 0, none⟩) (.int .i64 ((rd_T123 l0 x20_1).f2.f0)) hx200_2 hn200_0
              replace hx200_3 := cfy (p := ⟨gb193, 0, none⟩) (.int .i64 ((rd_T123 l0 x20_1).f2.f0)) hx200_3 hn200_0
              replace hx200_4 := cfy (p := ⟨gb193, 0, none⟩) (.int .i64 ((rd_T123 l0 x20_1).f2.f0)) hx200_4 hn200_0
              replace hx200_5 := cfy (p := ⟨gb193, 0, none⟩) (.int .i64 ((rd_T123 l0 x20_1).f2.f0)) hx200_5 hn200_0
              replace hx200_6 := cfy (p := ⟨gb193, 0, none⟩) (.int .i64 ((rd_T123 l0 x20_1).f2.f0)) hx200_6 hn200_0
              replace hx200_7 := cfy (p := ⟨gb193, 0, none⟩) (.int .i64 ((rd_T123 l0 x20_1).f2.f0)) hx200_7 hn200_0
              replace hx200_0 := cfx (p := ⟨gb193, 1, none⟩) (.string ((rd_T123 l0 x20_1).f2.f1)) hx200_0 hn200_1
              replace hx200_1 := cfy (p := ⟨gb193, 1, none⟩) (.string ((rd_T123 l0 x20_1).f2.f1)) hx200_1 hn200_1
              replace hx200_2 := cfy (p := ⟨gb193, 1, none⟩) (.string ((rd_T123 l0 x20_1).f2.f1)) hx200_2 hn200_1
              replace hx200_3 := cfy (p := ⟨gb193, 1, none⟩) (.string ((rd_T123 l0 x20_1).f2.f1)) hx200_3 hn200_1
              replace hx200_4 := cfy (p := ⟨gb193, 1, none⟩) (.string ((rd_T123 l0 x20_1).f2.f1)) hx200_4 hn200_1
              replace hx200_5 := cfy (p := ⟨gb193, 1, none⟩) (.string ((rd_T123 l0 x20_1).f2.f1)) hx200_5 hn200_1
              replace hx200_6 := cfy (p := ⟨gb193, 1, none⟩) (.string ((rd_T123 l0 x20_1).f2.f1)) hx200_6 hn200_1
              replace hx200_7 := cfy (p := ⟨gb193, 1, none⟩) (.string ((rd_T123 l0 x20_1).f2.f1)) hx200_7 hn200_1
              replace hx200_0 := cfx (p := ⟨gb193, 2, none⟩) (.string ((rd_T123 l0 x20_1).f2.f2)) hx200_0 hn200_2
              replace hx200_1 := cfy (p := ⟨gb193, 2, none⟩) (.string ((rd_T123 l0 x20_1).f2.f2)) hx200_1 hn200_2
              replace hx200_2 := cfy (p := ⟨gb193, 2, none⟩) (.string ((rd_T123 l0 x20_1).f2.f2)) hx200_2 hn200_2
              replace hx200_3 := cfy (p := ⟨gb193, 2, none⟩) (.string ((rd_T123 l0 x20_1).f2.f2)) hx200_3 hn200_2
              replace hx200_4 := cfy (p := ⟨gb193, 2, none⟩) (.string ((rd_T123 l0 x20_1).f2.f2)) hx200_4 hn200_2
              replace hx200_5 := cfy (p := ⟨gb193, 2, none⟩) (.string ((rd_T123 l0 x20_1).f2.f2)) hx200_5 hn200_2
              replace hx200_6 := cfy (p := ⟨gb193, 2, none⟩) (.string ((rd_T123 l0 x20_1).f2.f2)) hx200_6 hn200_2
              replace hx200_7 := cfy (p := ⟨gb193, 2, none⟩) (.string ((rd_T123 l0 x20_1).f2.f2)) hx200_7 hn200_2
              replace hx200_0 := cfx (p := ⟨gb193, 3, none⟩) (.int .i64 ((rd_T123 l0 x20_1).f2.f3)) hx200_0 hn200_3
              replace hx200_1 := cfy (p := ⟨gb193, 3, none⟩) (.int .i64 ((rd_T123 l0 x20_1).f2.f3)) hx200_1 hn200_3
              replace hx200_2 := cfy (p := ⟨gb193, 3, none⟩) (.int .i64 ((rd_T123 l0 x20_1).f2.f3)) hx200_2 hn200_3
              replace hx200_3 := cfy (p := ⟨gb193, 3, none⟩) (.int .i64 ((rd_T123 l0 x20_1).f2.f3)) hx200_3 hn200_3
              replace hx200_4 := cfy (p := ⟨gb193, 3, none⟩) (.int .i64 ((rd_T123 l0 x20_1).f2.f3)) hx200_4 hn200_3
              replace hx200_5 := cfy (p := ⟨gb193, 3, none⟩) (.int .i64 ((rd_T123 l0 x20_1).f2.f3)) hx200_5 hn200_3
              replace hx200_6 := cfy (p := ⟨gb193, 3, none⟩) (.int .i64 ((rd_T123 l0 x20_1).f2.f3)) hx200_6 hn200_3
              replace hx200_7 := cfy (p := ⟨gb193, 3, none⟩) (.int .i64 ((rd_T123 l0 x20_1).f2.f3)) hx200_7 hn200_3
              replace hx200_0 := cfx (p := ⟨gb193, 4, none⟩) (.int .i64 ((rd_T123 l0 x20_1).f2.f4)) hx200_0 hn200_4
              replace hx200_1 := cfy (p := ⟨gb193, 4, none⟩) (.int .i64 ((rd_T123 l0 x20_1).f2.f4)) hx200_1 hn200_4
              replace hx200_2 := cfy (p := ⟨gb193, 4, none⟩) (.int .i64 ((rd_T123 l0 x20_1).f2.f4)) hx200_2 hn200_4
              replace hx200_3 := cfy (p := ⟨gb193, 4, none⟩) (.int .i64 ((rd_T123 l0 x20_1).f2.f4)) hx200_3 hn200_4
              replace hx200_4 := cfy (p := ⟨gb193, 4, none⟩) (.int .i64 ((rd_T123 l0 x20_1).f2.f4)) hx200_4 hn200_4
              replace hx200_5 := cfy (p := ⟨gb193, 4, none⟩) (.int .i64 ((rd_T123 l0 x20_1).f2.f4)) hx200_5 hn200_4
              replace hx200_6 := cfy (p := ⟨gb193, 4, none⟩) (.int .i64 ((rd_T123 l0 x20_1).f2.f4)) hx200_6 hn200_4
              replace hx200_7 := cfy (p := ⟨gb193, 4, none⟩) (.int .i64 ((rd_T123 l0 x20_1).f2.f4)) hx200_7 hn200_4
              replace hx200_0 := cfx (p := ⟨gb193, 5, none⟩) (.string ((rd_T123 l0 x20_1).f2.f5)) hx200_0 hn200_5
              replace hx200_1 := cfy (p := ⟨gb193, 5, none⟩) (.string ((rd_T123 l0 x20_1).f2.f5)) hx200_1 hn200_5
              replace hx200_2 := cfy (p := ⟨gb193, 5, none⟩) (.string ((rd_T123 l0 x20_1).f2.f5)) hx200_2 hn200_5
              replace hx200_3 := cfy (p := ⟨gb193, 5, none⟩) (.string ((rd_T123 l0 x20_1).f2.f5)) hx200_3 hn200_5
              replace hx200_4 := cfy (p := ⟨gb193, 5, none⟩) (.string ((rd_T123 l0 x20_1).f2.f5)) hx200_4 hn200_5
              replace hx200_5 := cfy (p := ⟨gb193, 5, none⟩) (.string ((rd_T123 l0 x20_1).f2.f5)) hx200_5 hn200_5
              replace hx200_6 := cfy (p := ⟨gb193, 5, none⟩) (.string ((rd_T123 l0 x20_1).f2.f5)) hx200_6 hn200_5
              replace hx200_7 := cfy (p := ⟨gb193, 5, none⟩) (.string ((rd_T123 l0 x20_1).f2.f5)) hx200_7 hn200_5
              clear hn200_0
              clear hn200_1
              clear hn200_2
              clear hn200_3
              clear hn200_4
              clear hn200_5
              replace p200 := eq_true p200
              replace q200 := eq_true q200
              have p201 : 0 ≤ (x20_1 : Int) := of_decide_eq_true (by first | (with_reducible assumption) | assumption)
              have q201 : x20_1 < (l1.length : Int) := of_decide_eq_true (by first | (with_reducible assumption) | assumption)
              obtain ⟨ad201, A201_7, c201_7, e201, hx201_0, hx201_1, hx201_2, hx201_3, hx201_4, hx201_5, hx201_6, hx201_7, hl201_7, hi201_7⟩ := at_T125 HR1.out x20_1 p201 q201
              (try rw [← Nbq28.out] at hx201_2)
              (try rw [← Nbq28.out] at hx201_6)
              obtain rfl : ad200 = ad201 := (by injection e201)
              have hn201_0 : ad200.block ≠ gb193 := Nat.ne_of_lt (Nat.lt_of_lt_of_le (by have := World.block_lt_of_cell? _ _ hx201_0; first | rwa [add_block] at this | exact this) GW193.out)
              have hn201_1 : ad200.block ≠ gb193 := Nat.ne_of_lt (Nat.lt_of_lt_of_le (by have := World.block_lt_of_cell? _ _ hx201_0; first | rwa [add_block] at this | exact this) GW193.out)
              have hn201_2 : ad200.block ≠ gb193 := Nat.ne_of_lt (Nat.lt_of_lt_of_le (by have := World.block_lt_of_cell? _ _ hx201_0; first | rwa [add_block] at this | exact this) GW193.out)
              have hn201_3 : ad200.block ≠ gb193 := Nat.ne_of_lt (Nat.lt_of_lt_of_le (by have := World.block_lt_of_cell? _ _ hx201_0; first | rwa [add_block] at this | exact this) GW193.out)
              have hn201_4 : ad200.block ≠ gb193 := Nat.ne_of_lt (Nat.lt_of_lt_of_le (by have := World.block_lt_of_cell? _ _ hx201_0; first | rwa [add_block] at this | exact this) GW193.out)
              have hn201_5 : ad200.block ≠ gb193 := Nat.ne_of_lt (Nat.lt_of_lt_of_le (by have := World.block_lt_of_cell? _ _ hx201_0; first | rwa [add_block] at this | exact this) GW193.out)
              replace hx201_0 := cl4 HB hx201_0
              replace hx201_1 := cl4 HB hx201_1
              replace hx201_2 := cl4 HB hx201_2
              replace hx201_3 := cl4 HB hx201_3
              replace hx201_4 := cl4 HB hx201_4
              replace hx201_5 := cl4 HB hx201_5
              replace hx201_6 := cl4 HB hx201_6
              replace hx201_7 := cl4 HB hx201_7
              have HR201_7 := Am hi201_7
              have HC201_7 := Am hl201_7
              clear hi201_7 hl201_7
              replace hx201_0 := cfx (p := ⟨gb193, 0, none⟩) (.int .i64 ((rd_T123 l0 x20_1).f2.f0)) hx201_0 hn201_0
              replace hx201_1 := cfy (p := ⟨gb193, 0, none⟩) (.int .i64 ((rd_T123 l0 x20_1).f2.f0)) hx201_1 hn201_0
              replace hx201_2 := cfy (p := ⟨gb193, 0, none⟩) (.int .i64 ((rd_T123 l0 x20_1).f2.f0)) hx201_2 hn201_0
              replace hx201_3 := cfy (p := ⟨gb193, 0, none⟩) (.int .i64 ((rd_T123 l0 x20_1).f2.f0)) hx201_3 hn201_0
              replace hx201_4 := cfy (p := ⟨gb193, 0, none⟩) (.int .i64 ((rd_T123 l0 x20_1).f2.f0)) hx201_4 hn201_0
              replace hx201_5 := cfy (p := ⟨gb193, 0, none⟩) (.int .i64 ((rd_T123 l0 x20_1).f2.f0)) hx201_5 hn201_0
              replace hx201_6 := cfy (p := ⟨gb193, 0, none⟩) (.int .i64 ((rd_T123 l0 x20_1).f2.f0)) hx201_6 hn201_0
              replace hx201_7 := cfy (p := ⟨gb193, 0, none⟩) (.int .i64 ((rd_T123 l0 x20_1).f2.f0)) hx201_7 hn201_0
              replace hx201_0 := cfx (p := ⟨gb193, 1, none⟩) (.string ((rd_T123 l0 x20_1).f2.f1)) hx201_0 hn201_1
              replace hx201_1 := cfy (p := ⟨gb193, 1, none⟩) (.string ((rd_T123 l0 x20_1).f2.f1)) hx201_1 hn201_1
              replace hx201_2 := cfy (p := ⟨gb193, 1, none⟩) (.string ((rd_T123 l0 x20_1).f2.f1)) hx201_2 hn201_1
              replace hx201_3 := cfy (p := ⟨gb193, 1, none⟩) (.string ((rd_T123 l0 x20_1).f2.f1)) hx201_3 hn201_1
              replace hx201_4 := cfy (p := ⟨gb193, 1, none⟩) (.string ((rd_T123 l0 x20_1).f2.f1)) hx201_4 hn201_1
              replace hx201_5 := cfy (p := ⟨gb193, 1, none⟩) (.string ((rd_T123 l0 x20_1).f2.f1)) hx201_5 hn201_1
              replace hx201_6 := cfy (p := ⟨gb193, 1, none⟩) (.string ((rd_T123 l0 x20_1).f2.f1)) hx201_6 hn201_1
              replace hx201_7 := cfy (p := ⟨gb193, 1, none⟩) (.string ((rd_T123 l0 x20_1).f2.f1)) hx201_7 hn201_1
              replace hx201_0 := cfx (p := ⟨gb193, 2, none⟩) (.string ((rd_T123 l0 x20_1).f2.f2)) hx201_0 hn201_2
              replace hx201_1 := cfy (p := ⟨gb193, 2, none⟩) (.string ((rd_T123 l0 x20_1).f2.f2)) hx201_1 hn201_2
              replace hx201_2 := cfy (p := ⟨gb193, 2, none⟩) (.string ((rd_T123 l0 x20_1).f2.f2)) hx201_2 hn201_2
              replace hx201_3 := cfy (p := ⟨gb193, 2, none⟩) (.string ((rd_T123 l0 x20_1).f2.f2)) hx201_3 hn201_2
              replace hx201_4 := cfy (p := ⟨gb193, 2, none⟩) (.string ((rd_T123 l0 x20_1).f2.f2)) hx201_4 hn201_2
              replace hx201_5 := cfy (p := ⟨gb193, 2, none⟩) (.string ((rd_T123 l0 x20_1).f2.f2)) hx201_5 hn201_2
              replace hx201_6 := cfy (p := ⟨gb193, 2, none⟩) (.string ((rd_T123 l0 x20_1).f2.f2)) hx201_6 hn201_2
              replace hx201_7 := cfy (p := ⟨gb193, 2, none⟩) (.string ((rd_T123 l0 x20_1).f2.f2)) hx201_7 hn201_2
              replace hx201_0 := cfx (p := ⟨gb193, 3, none⟩) (.int .i64 ((rd_T123 l0 x20_1).f2.f3)) hx201_0 hn201_3
              replace hx201_1 := cfy (p := ⟨gb193, 3, none⟩) (.int .i64 ((rd_T123 l0 x20_1).f2.f3)) hx201_1 hn201_3
              replace hx201_2 := cfy (p := ⟨gb193, 3, none⟩) (.int .i64 ((rd_T123 l0 x20_1).f2.f3)) hx201_2 hn201_3
              replace hx201_3 := cfy (p := ⟨gb193, 3, none⟩) (.int .i64 ((rd_T123 l0 x20_1).f2.f3)) hx201_3 hn201_3
              replace hx201_4 := cfy (p := ⟨gb193, 3, none⟩) (.int .i64 ((rd_T123 l0 x20_1).f2.f3)) hx201_4 hn201_3
              replace hx201_5 := cfy (p := ⟨gb193, 3, none⟩) (.int .i64 ((rd_T123 l0 x20_1).f2.f3)) hx201_5 hn201_3
              replace hx201_6 := cfy (p := ⟨gb193, 3, none⟩) (.int .i64 ((rd_T123 l0 x20_1).f2.f3)) hx201_6 hn201_3
              replace hx201_7 := cfy (p := ⟨gb193, 3, none⟩) (.int .i64 ((rd_T123 l0 x20_1).f2.f3)) hx201_7 hn201_3
              replace hx201_0 := cfx (p := ⟨gb193, 4, none⟩) (.int .i64 ((rd_T123 l0 x20_1).f2.f4)) hx201_0 hn201_4
              replace hx201_1 := cfy (p := ⟨gb193, 4, none⟩) (.int .i64 ((rd_T123 l0 x20_1).f2.f4)) hx201_1 hn201_4
              replace hx201_2 := cfy (p := ⟨gb193, 4, none⟩) (.int .i64 ((rd_T123 l0 x20_1).f2.f4)) hx201_2 hn201_4
              replace hx201_3 := cfy (p := ⟨gb193, 4, none⟩) (.int .i64 ((rd_T123 l0 x20_1).f2.f4)) hx201_3 hn201_4
              replace hx201_4 := cfy (p := ⟨gb193, 4, none⟩) (.int .i64 ((rd_T123 l0 x20_1).f2.f4)) hx201_4 hn201_4
              replace hx201_5 := cfy (p := ⟨gb193, 4, none⟩) (.int .i64 ((rd_T123 l0 x20_1).f2.f4)) hx201_5 hn201_4
              replace hx201_6 := cfy (p := ⟨gb193, 4, none⟩) (.int .i64 ((rd_T123 l0 x20_1).f2.f4)) hx201_6 hn201_4
              replace hx201_7 := cfy (p := ⟨gb193, 4, none⟩) (.int .i64 ((rd_T123 l0 x20_1).f2.f4)) hx201_7 hn201_4
              replace hx201_0 := cfx (p := ⟨gb193, 5, none⟩) (.string ((rd_T123 l0 x20_1).f2.f5)) hx201_0 hn201_5
              replace hx201_1 := cfy (p := ⟨gb193, 5, none⟩) (.string ((rd_T123 l0 x20_1).f2.f5)) hx201_1 hn201_5
              replace hx201_2 := cfy (p := ⟨gb193, 5, none⟩) (.string ((rd_T123 l0 x20_1).f2.f5)) hx201_2 hn201_5
              replace hx201_3 := cfy (p := ⟨gb193, 5, none⟩) (.string ((rd_T123 l0 x20_1).f2.f5)) hx201_3 hn201_5
              replace hx201_4 := cfy (p := ⟨gb193, 5, none⟩) (.string ((rd_T123 l0 x20_1).f2.f5)) hx201_4 hn201_5
              replace hx201_5 := cfy (p := ⟨gb193, 5, none⟩) (.string ((rd_T123 l0 x20_1).f2.f5)) hx201_5 hn201_5
              replace hx201_6 := cfy (p := ⟨gb193, 5, none⟩) (.string ((rd_T123 l0 x20_1).f2.f5)) hx201_6 hn201_5
              replace hx201_7 := cfy (p := ⟨gb193, 5, none⟩) (.string ((rd_T123 l0 x20_1).f2.f5)) hx201_7 hn201_5
              clear hn201_0
              clear hn201_1
              clear hn201_2
              clear hn201_3
              clear hn201_4
              clear hn201_5
              replace p201 := eq_true p201
              replace q201 := eq_true q201
              go_wp2
              go_roundg kj11
              case measure => have := HK1.out; have := HJ11.out; omega
              case rel => exact ⟨(x8_1), (wrap64 (x20_1 + 1)), (((rd_T123 l0 x20_1).f2.f0)), (((rd_T123 l0 x20_1).f2.f1)), (((rd_T123 l0 x20_1).f2.f2)), (((rd_T123 l0 x20_1).f2.f3)), (((rd_T123 l0 x20_1).f2.f4)), (((rd_T123 l0 x20_1).f2.f5)), (by first | rfl | (simp; done) | (simp [*]; done)), H', ⟨by have := HK1.out; have := HJ11.out; omega⟩, ⟨by (with_reducible repeat (first | apply ra | apply rn | apply re)); exact Kd.R_mono (Kd.R_far (p := ⟨gb193, 5, none⟩) (Kd.R_far (p := ⟨gb193, 4, none⟩) (Kd.R_far (p := ⟨gb193, 3, none⟩) (Kd.R_far (p := ⟨gb193, 2, none⟩) (Kd.R_far (p := ⟨gb193, 1, none⟩) (Kd.R_far (p := ⟨gb193, 0, none⟩) (Kd.R_mono HO_8.out (fun k_ hk => (⟨hk, hk⟩ : _ ∧ k_ ≠ gb193))) (fun _ hk => (by first | exact hk.2 | exact hk | exact hk.1 | exact hk.1.1 | exact hk.1.2 | exact hk.2.1 | exact hk.2.2 | exact hk.1.1.1 | exact hk.1.1.2 | exact hk.1.2.1 | exact hk.1.2.2 | exact hk.2.1.1 | exact hk.2.1.2 | exact hk.2.2.1 | exact hk.2.2.2)) (.int .i64 ((rd_T123 l0 x20_1).f2.f0))) (fun _ hk => (by first | exact hk.2 | exact hk | exact hk.1 | exact hk.1.1 | exact hk.1.2 | exact hk.2.1 | exact hk.2.2 | exact hk.1.1.1 | exact hk.1.1.2 | exact hk.1.2.1 | exact hk.1.2.2 | exact hk.2.1.1 | exact hk.2.1.2 | exact hk.2.2.1 | exact hk.2.2.2)) (.string ((rd_T123 l0 x20_1).f2.f1))) (fun _ hk => (by first | exact hk.2 | exact hk | exact hk.1 | exact hk.1.1 | exact hk.1.2 | exact hk.2.1 | exact hk.2.2 | exact hk.1.1.1 | exact hk.1.1.2 | exact hk.1.2.1 | exact hk.1.2.2 | exact hk.2.1.1 | exact hk.2.1.2 | exact hk.2.2.1 | exact hk.2.2.2)) (.string ((rd_T123 l0 x20_1).f2.f2))) (fun _ hk => (by first | exact hk.2 | exact hk | exact hk.1 | exact hk.1.1 | exact hk.1.2 | exact hk.2.1 | exact hk.2.2 | exact hk.1.1.1 | exact hk.1.1.2 | exact hk.1.2.1 | exact hk.1.2.2 | exact hk.2.1.1 | exact hk.2.1.2 | exact hk.2.2.1 | exact hk.2.2.2)) (.int .i64 ((rd_T123 l0 x20_1).f2.f3))) (fun _ hk => (by first | exact hk.2 | exact hk | exact hk.1 | exact hk.1.1 | exact hk.1.2 | exact hk.2.1 | exact hk.2.2 | exact hk.1.1.1 | exact hk.1.1.2 | exact hk.1.2.1 | exact hk.1.2.2 | exact hk.2.1.1 | exact hk.2.1.2 | exact hk.2.2.1 | exact hk.2.2.2)) (.int .i64 ((rd_T123 l0 x20_1).f2.f4))) (fun _ hk => (by first | exact hk.2 | exact hk | exact hk.1 | exact hk.1.1 | exact hk.1.2 | exact hk.2.1 | exact hk.2.2 | exact hk.1.1.1 | exact hk.1.1.2 | exact hk.1.2.1 | exact hk.1.2.2 | exact hk.2.1.1 | exact hk.2.1.2 | exact hk.2.2.1 | exact hk.2.2.2)) (.string ((rd_T123 l0 x20_1).f2.f5))) (fun _ hk => (by first | exact hk.1 | exact hk | exact hk.2 | exact hk.1.1 | exact hk.1.2 | exact hk.2.1 | exact hk.2.2 | exact hk.1.1.1 | exact hk.1.1.2 | exact hk.1.2.1 | exact hk.1.2.2 | exact hk.2.1.1 | exact hk.2.1.2 | exact hk.2.2.1 | exact hk.2.2.2))⟩, ⟨by (with_reducible repeat (first | refine kn ?_ _ | refine ke ?_ | refine ka ?_ _)); refine kp (cs := #[.int .i64 ((rd_T123 l0 x20_1).f2.f0), .string ((rd_T123 l0 x20_1).f2.f1), .string ((rd_T123 l0 x20_1).f2.f2), .int .i64 ((rd_T123 l0 x20_1).f2.f3), .int .i64 ((rd_T123 l0 x20_1).f2.f4), .string x194005_1]) ?_ 5 _ rfl; (with_reducible repeat (first | refine kn ?_ _ | refine ke ?_ | refine ka ?_ _)); refine kp (cs := #[.int .i64 ((rd_T123 l0 x20_1).f2.f0), .string ((rd_T123 l0 x20_1).f2.f1), .string ((rd_T123 l0 x20_1).f2.f2), .int .i64 ((rd_T123 l0 x20_1).f2.f3), .int .i64 x194004_1, .string x194005_1]) ?_ 4 _ rfl; (with_reducible repeat (first | refine kn ?_ _ | refine ke ?_ | refine ka ?_ _)); refine kp (cs := #[.int .i64 ((rd_T123 l0 x20_1).f2.f0), .string ((rd_T123 l0 x20_1).f2.f1), .string ((rd_T123 l0 x20_1).f2.f2), .int .i64 x194003_1, .int .i64 x194004_1, .string x194005_1]) ?_ 3 _ rfl; (with_reducible repeat (first | refine kn ?_ _ | refine ke ?_ | refine ka ?_ _)); refine kp (cs := #[.int .i64 ((rd_T123 l0 x20_1).f2.f0), .string ((rd_T123 l0 x20_1).f2.f1), .string x194002_1, .int .i64 x194003_1, .int .i64 x194004_1, .string x194005_1]) ?_ 2 _ rfl; (with_reducible repeat (first | refine kn ?_ _ | refine ke ?_ | refine ka ?_ _)); refine kp (cs := #[.int .i64 ((rd_T123 l0 x20_1).f2.f0), .string x194001_1, .string x194002_1, .int .i64 x194003_1, .int .i64 x194004_1, .string x194005_1]) ?_ 1 _ rfl; (with_reducible repeat (first | refine kn ?_ _ | refine ke ?_ | refine ka ?_ _)); refine kp (cs := #[.int .i64 x194000_1, .string x194001_1, .string x194002_1, .int .i64 x194003_1, .int .i64 x194004_1, .string x194005_1]) ?_ 0 _ rfl; (with_reducible repeat (first | refine kn ?_ _ | refine ke ?_ | refine ka ?_ _)); exact BK193.out⟩, ⟨by repeat (first | (with_reducible first | exact HB.out | apply ba | apply bn | apply be | refine bs ?_ GE193.out | refine bs ?_ GE198.out) | exact HB.out)⟩⟩
            ·replace c29 := Bool.eq_false_iff.mpr c29
             subst c29
             have H1 : (impl_AsksOf.l0 kj11 l1 a2 x8_1 l0 (l0.length : Int) (wrap64 (x20_1 + 1)) ((rd_T123 l0 x20_1).f2.f0) ((rd_T123 l0 x20_1).f2.f1) ((rd_T123 l0 x20_1).f2.f2) ((rd_T123 l0 x20_1).f2.f3) ((rd_T123 l0 x20_1).f2.f4) ((rd_T123 l0 x20_1).f2.f5)) = some r := by rw [if_neg (show ¬ (false = true) by decide)] at H; exact H
             clear H
             have H := H1
             clear H1
             have H' := Am H
             clear H
             have hnb39 := NB198_193.out
             have hnc39 := NB193_198.out
             have hcz40_0 : wc.cell? ⟨gb198, 0, none⟩ = some (.int .i64 ((rd_T123 l0 x20_1).f0)) := (kc BK198.out 0).trans rfl
             have hcz40_1 : wc.cell? ⟨gb198, 1, none⟩ = some (.int .i64 ((rd_T123 l0 x20_1).f1)) := (kc BK198.out 1).trans rfl
             have hcz40_2 : wc.cell? ⟨gb198, 2, none⟩ = some (.int .i64 ((rd_T123 l0 x20_1).f2.f0)) := (kc BK198.out 2).trans rfl
             have hcz40_3 : wc.cell? ⟨gb198, 3, none⟩ = some (.string ((rd_T123 l0 x20_1).f2.f1)) := (kc BK198.out 3).trans rfl
             have hcz40_4 : wc.cell? ⟨gb198, 4, none⟩ = some (.string ((rd_T123 l0 x20_1).f2.f2)) := (kc BK198.out 4).trans rfl
             have hcz40_5 : wc.cell? ⟨gb198, 5, none⟩ = some (.int .i64 ((rd_T123 l0 x20_1).f2.f3)) := (kc BK198.out 5).trans rfl
             have hcz40_6 : wc.cell? ⟨gb198, 6, none⟩ = some (.int .i64 ((rd_T123 l0 x20_1).f2.f4)) := (kc BK198.out 6).trans rfl
             have hcz40_7 : wc.cell? ⟨gb198, 7, none⟩ = some (.string ((rd_T123 l0 x20_1).f2.f5)) := (kc BK198.out 7).trans rfl
             have hcz40_8 : wc.cell? ⟨gb198, 8, none⟩ = some (.int .i64 ((rd_T123 l0 x20_1).f3)) := (kc BK198.out 8).trans rfl
             have hfz40_0 := kf BK198.out 0
             have hfz40_1 := kf BK198.out 1
             have hfz40_2 := kf BK198.out 2
             have hfz40_3 := kf BK198.out 3
             have hfz40_4 := kf BK198.out 4
             have hfz40_5 := kf BK198.out 5
             have hfz40_6 := kf BK198.out 6
             have hfz40_7 := kf BK198.out 7
             have hfz40_8 := kf BK198.out 8
             have hcz41_0 : wc.cell? ⟨gb193, 0, none⟩ = some (.int .i64 x194000_1) := (kc BK193.out 0).trans rfl
             have hcz41_1 : wc.cell? ⟨gb193, 1, none⟩ = some (.string x194001_1) := (kc BK193.out 1).trans rfl
             have hcz41_2 : wc.cell? ⟨gb193, 2, none⟩ = some (.string x194002_1) := (kc BK193.out 2).trans rfl
             have hcz41_3 : wc.cell? ⟨gb193, 3, none⟩ = some (.int .i64 x194003_1) := (kc BK193.out 3).trans rfl
             have hcz41_4 : wc.cell? ⟨gb193, 4, none⟩ = some (.int .i64 x194004_1) := (kc BK193.out 4).trans rfl
             have hcz41_5 : wc.cell? ⟨gb193, 5, none⟩ = some (.string x194005_1) := (kc BK193.out 5).trans rfl
             have hfz41_0 := kf BK193.out 0
             have hfz41_1 := kf BK193.out 1
             have hfz41_2 := kf BK193.out 2
             have hfz41_3 := kf BK193.out 3
             have hfz41_4 := kf BK193.out 4
             have hfz41_5 := kf BK193.out 5
             have p200 : 0 ≤ (x20_1 : Int) := of_decide_eq_true (by first | (with_reducible assumption) | assumption)
             have q200 : x20_1 < (l1.length : Int) := of_decide_eq_true (by first | (with_reducible assumption) | assumption)
             obtain ⟨ad200, A200_7, c200_7, e200, hx200_0, hx200_1, hx200_2, hx200_3, hx200_4, hx200_5, hx200_6, hx200_7, hl200_7, hi200_7⟩ := at_T125 HR1.out x20_1 p200 q200
             (try rw [← Nbq28.out] at hx200_2)
             (try rw [← Nbq28.out] at hx200_6)
             cases e200
             have hn200_0 : ad200.block ≠ gb193 := Nat.ne_of_lt (Nat.lt_of_lt_of_le (by have := World.block_lt_of_cell? _ _ hx200_0; first | rwa [add_block] at this | exact this) GW193.out)
             have hn200_1 : ad200.block ≠ gb193 := Nat.ne_of_lt (Nat.lt_of_lt_of_le (by have := World.block_lt_of_cell? _ _ hx200_0; first | rwa [add_block] at this | exact this) GW193.out)
             have hn200_2 : ad200.block ≠ gb193 := Nat.ne_of_lt (Nat.lt_of_lt_of_le (by have := World.block_lt_of_cell? _ _ hx200_0; first | rwa [add_block] at this | exact this) GW193.out)
             have hn200_3 : ad200.block ≠ gb193 := Nat.ne_of_lt (Nat.lt_of_lt_of_le (by have := World.block_lt_of_cell? _ _ hx200_0; first | rwa [add_block] at this | exact this) GW193.out)
             have hn200_4 : ad200.block ≠ gb193 := Nat.ne_of_lt (Nat.lt_of_lt_of_le (by have := World.block_lt_of_cell? _ _ hx200_0; first | rwa [add_block] at this | exact this) GW193.out)
             have hn200_5 : ad200.block ≠ gb193 := Nat.ne_of_lt (Nat.lt_of_lt_of_le (by have := World.block_lt_of_cell? _ _ hx200_0; first | rwa [add_block] at this | exact this) GW193.out)
             replace hx200_0 := cl4 HB hx200_0
             replace hx200_1 := cl4 HB hx200_1
             replace hx200_2 := cl4 HB hx200_2
             replace hx200_3 := cl4 HB hx200_3
             replace hx200_4 := cl4 HB hx200_4
             replace hx200_5 := cl4 HB hx200_5
             replace hx200_6 := cl4 HB hx200_6
             replace hx200_7 := cl4 HB hx200_7
             have HR200_7 := Am hi200_7
             have HC200_7 := Am hl200_7
             clear hi200_7 hl200_7
             replace hx200_0 := cfx (p := ⟨gb193, 0, none⟩) (.int .i64 ((rd_T123 l0 x20_1).f2.f0)) hx200_0 hn200_0
             replace hx200_1 := cfy (p := ⟨gb193, 0, none⟩) (.int .i64 ((rd_T123 l0 x20_1).f2.f0)) hx200_1 hn200_0
             replace hx200_2 := cfy (p := ⟨gb193, 0, none⟩) (.int .i64 ((rd_T123 l0 x20_1).f2.f0)) hx200_2 hn200_0
             replace hx200_3 := cfy (p := ⟨gb193, 0, none⟩) (.int .i64 ((rd_T123 l0 x20_1).f2.f0)) hx200_3 hn200_0
             replace hx200_4 := cfy (p := ⟨gb193, 0, none⟩) (.int .i64 ((rd_T123 l0 x20_1).f2.f0)) hx200_4 hn200_0
             replace hx200_5 := cfy (p := ⟨gb193, 0, none⟩) (.int .i64 ((rd_T123 l0 x20_1).f2.f0)) hx200_5 hn200_0
             replace hx200_6 := cfy (p := ⟨gb193, 0, none⟩) (.int .i64 ((rd_T123 l0 x20_1).f2.f0)) hx200_6 hn200_0
             replace hx200_7 := cfy (p := ⟨gb193, 0, none⟩) (.int .i64 ((rd_T123 l0 x20_1).f2.f0)) hx200_7 hn200_0
             replace hx200_0 := cfx (p := ⟨gb193, 1, none⟩) (.string ((rd_T123 l0 x20_1).f2.f1)) hx200_0 hn200_1
             replace hx200_1 := cfy (p := ⟨gb193, 1, none⟩) (.string ((rd_T123 l0 x20_1).f2.f1)) hx200_1 hn200_1
             replace hx200_2 := cfy (p := ⟨gb193, 1, none⟩) (.string ((rd_T123 l0 x20_1).f2.f1)) hx200_2 hn200_1
             replace hx200_3 := cfy (p := ⟨gb193, 1, none⟩) (.string ((rd_T123 l0 x20_1).f2.f1)) hx200_3 hn200_1
             replace hx200_4 := cfy (p := ⟨gb193, 1, none⟩) (.string ((rd_T123 l0 x20_1).f2.f1)) hx200_4 hn200_1
             replace hx200_5 := cfy (p := ⟨gb193, 1, none⟩) (.string ((rd_T123 l0 x20_1).f2.f1)) hx200_5 hn200_1
             replace hx200_6 := cfy (p := ⟨gb193, 1, none⟩) (.string ((rd_T123 l0 x20_1).f2.f1)) hx200_6 hn200_1
             replace hx200_7 := cfy (p := ⟨gb193, 1, none⟩) (.string ((rd_T123 l0 x20_1).f2.f1)) hx200_7 hn200_1
             replace hx200_0 := cfx (p := ⟨gb193, 2, none⟩) (.string ((rd_T123 l0 x20_1).f2.f2)) hx200_0 hn200_2
             replace hx200_1 := cfy (p := ⟨gb193, 2, none⟩) (.string ((rd_T123 l0 x20_1).f2.f2)) hx200_1 hn200_2
             replace hx200_2 := cfy (p := ⟨gb193, 2, none⟩) (.string ((rd_T123 l0 x20_1).f2.f2)) hx200_2 hn200_2
             replace hx200_3 := cfy (p := ⟨gb193, 2, none⟩) (.string ((rd_T123 l0 x20_1).f2.f2)) hx200_3 hn200_2
             replace hx200_4 := cfy (p := ⟨gb193, 2, none⟩) (.string ((rd_T123 l0 x20_1).f2.f2)) hx200_4 hn200_2
             replace hx200_5 := cfy (p := ⟨gb193, 2, none⟩) (.string ((rd_T123 l0 x20_1).f2.f2)) hx200_5 hn200_2
             replace hx200_6 := cfy (p := ⟨gb193, 2, none⟩) (.string ((rd_T123 l0 x20_1).f2.f2)) hx200_6 hn200_2
             replace hx200_7 := cfy (p := ⟨gb193, 2, none⟩) (.string ((rd_T123 l0 x20_1).f2.f2)) hx200_7 hn200_2
             replace hx200_0 := cfx (p := ⟨gb193, 3, none⟩) (.int .i64 ((rd_T123 l0 x20_1).f2.f3)) hx200_0 hn200_3
             replace hx200_1 := cfy (p := ⟨gb193, 3, none⟩) (.int .i64 ((rd_T123 l0 x20_1).f2.f3)) hx200_1 hn200_3
             replace hx200_2 := cfy (p := ⟨gb193, 3, none⟩) (.int .i64 ((rd_T123 l0 x20_1).f2.f3)) hx200_2 hn200_3
             replace hx200_3 := cfy (p := ⟨gb193, 3, none⟩) (.int .i64 ((rd_T123 l0 x20_1).f2.f3)) hx200_3 hn200_3
             replace hx200_4 := cfy (p := ⟨gb193, 3, none⟩) (.int .i64 ((rd_T123 l0 x20_1).f2.f3)) hx200_4 hn200_3
             replace hx200_5 := cfy (p := ⟨gb193, 3, none⟩) (.int .i64 ((rd_T123 l0 x20_1).f2.f3)) hx200_5 hn200_3
             replace hx200_6 := cfy (p := ⟨gb193, 3, none⟩) (.int .i64 ((rd_T123 l0 x20_1).f2.f3)) hx200_6 hn200_3
             replace hx200_7 := cfy (p := ⟨gb193, 3, none⟩) (.int .i64 ((rd_T123 l0 x20_1).f2.f3)) hx200_7 hn200_3
             replace hx200_0 := cfx (p := ⟨gb193, 4, none⟩) (.int .i64 ((rd_T123 l0 x20_1).f2.f4)) hx200_0 hn200_4
             replace hx200_1 := cfy (p := ⟨gb193, 4, none⟩) (.int .i64 ((rd_T123 l0 x20_1).f2.f4)) hx200_1 hn200_4
             replace hx200_2 := cfy (p := ⟨gb193, 4, none⟩) (.int .i64 ((rd_T123 l0 x20_1).f2.f4)) hx200_2 hn200_4
             replace hx200_3 := cfy (p := ⟨gb193, 4, none⟩) (.int .i64 ((rd_T123 l0 x20_1).f2.f4)) hx200_3 hn200_4
             replace hx200_4 := cfy (p := ⟨gb193, 4, none⟩) (.int .i64 ((rd_T123 l0 x20_1).f2.f4)) hx200_4 hn200_4
             replace hx200_5 := cfy (p := ⟨gb193, 4, none⟩) (.int .i64 ((rd_T123 l0 x20_1).f2.f4)) hx200_5 hn200_4
             replace hx200_6 := cfy (p := ⟨gb193, 4, none⟩) (.int .i64 ((rd_T123 l0 x20_1).f2.f4)) hx200_6 hn200_4
             replace hx200_7 := cfy (p := ⟨gb193, 4, none⟩) (.int .i64 ((rd_T123 l0 x20_1).f2.f4)) hx200_7 hn200_4
             replace hx200_0 := cfx (p := ⟨gb193, 5, none⟩) (.string ((rd_T123 l0 x20_1).f2.f5)) hx200_0 hn200_5
             replace hx200_1 := cfy (p := ⟨gb193, 5, none⟩) (.string ((rd_T123 l0 x20_1).f2.f5)) hx200_1 hn200_5
             replace hx200_2 := cfy (p := ⟨gb193, 5, none⟩) (.string ((rd_T123 l0 x20_1).f2.f5)) hx200_2 hn200_5
             replace hx200_3 := cfy (p := ⟨gb193, 5, none⟩) (.string ((rd_T123 l0 x20_1).f2.f5)) hx200_3 hn200_5
             replace hx200_4 := cfy (p := ⟨gb193, 5, none⟩) (.string ((rd_T123 l0 x20_1).f2.f5)) hx200_4 hn200_5
             replace hx200_5 := cfy (p := ⟨gb193, 5, none⟩) (.string ((rd_T123 l0 x20_1).f2.f5)) hx200_5 hn200_5
             replace hx200_6 := cfy (p := ⟨gb193, 5, none⟩) (.string ((rd_T123 l0 x20_1).f2.f5)) hx200_6 hn200_5
             replace hx200_7 := cfy (p := ⟨gb193, 5, none⟩) (.string ((rd_T123 l0 x20_1).f2.f5)) hx200_7 hn200_5
             clear hn200_0
             clear hn200_1
             clear hn200_2
             clear hn200_3
             clear hn200_4
             clear hn200_5
             replace p200 := eq_true p200
             replace q200 := eq_true q200
             go_wp2
             go_roundg kj11
             case measure => have := HK1.out; have := HJ11.out; omega
             case rel => exact ⟨(x8_1), (wrap64 (x20_1 + 1)), (((rd_T123 l0 x20_1).f2.f0)), (((rd_T123 l0 x20_1).f2.f1)), (((rd_T123 l0 x20_1).f2.f2)), (((rd_T123 l0 x20_1).f2.f3)), (((rd_T123 l0 x20_1).f2.f4)), (((rd_T123 l0 x20_1).f2.f5)), (by first | rfl | (simp; done) | (simp [*]; done)), H', ⟨by have := HK1.out; have := HJ11.out; omega⟩, ⟨by (with_reducible repeat (first | apply ra | apply rn | apply re)); exact Kd.R_mono (Kd.R_far (p := ⟨gb193, 5, none⟩) (Kd.R_far (p := ⟨gb193, 4, none⟩) (Kd.R_far (p := ⟨gb193, 3, none⟩) (Kd.R_far (p := ⟨gb193, 2, none⟩) (Kd.R_far (p := ⟨gb193, 1, none⟩) (Kd.R_far (p := ⟨gb193, 0, none⟩) (Kd.R_mono HO_8.out (fun k_ hk => (⟨hk, hk⟩ : _ ∧ k_ ≠ gb193))) (fun _ hk => (by first | exact hk.2 | exact hk | exact hk.1 | exact hk.1.1 | exact hk.1.2 | exact hk.2.1 | exact hk.2.2 | exact hk.1.1.1 | exact hk.1.1.2 | exact hk.1.2.1 | exact hk.1.2.2 | exact hk.2.1.1 | exact hk.2.1.2 | exact hk.2.2.1 | exact hk.2.2.2)) (.int .i64 ((rd_T123 l0 x20_1).f2.f0))) (fun _ hk => (by first | exact hk.2 | exact hk | exact hk.1 | exact hk.1.1 | exact hk.1.2 | exact hk.2.1 | exact hk.2.2 | exact hk.1.1.1 | exact hk.1.1.2 | exact hk.1.2.1 | exact hk.1.2.2 | exact hk.2.1.1 | exact hk.2.1.2 | exact hk.2.2.1 | exact hk.2.2.2)) (.string ((rd_T123 l0 x20_1).f2.f1))) (fun _ hk => (by first | exact hk.2 | exact hk | exact hk.1 | exact hk.1.1 | exact hk.1.2 | exact hk.2.1 | exact hk.2.2 | exact hk.1.1.1 | exact hk.1.1.2 | exact hk.1.2.1 | exact hk.1.2.2 | exact hk.2.1.1 | exact hk.2.1.2 | exact hk.2.2.1 | exact hk.2.2.2)) (.string ((rd_T123 l0 x20_1).f2.f2))) (fun _ hk => (by first | exact hk.2 | exact hk | exact hk.1 | exact hk.1.1 | exact hk.1.2 | exact hk.2.1 | exact hk.2.2 | exact hk.1.1.1 | exact hk.1.1.2 | exact hk.1.2.1 | exact hk.1.2.2 | exact hk.2.1.1 | exact hk.2.1.2 | exact hk.2.2.1 | exact hk.2.2.2)) (.int .i64 ((rd_T123 l0 x20_1).f2.f3))) (fun _ hk => (by first | exact hk.2 | exact hk | exact hk.1 | exact hk.1.1 | exact hk.1.2 | exact hk.2.1 | exact hk.2.2 | exact hk.1.1.1 | exact hk.1.1.2 | exact hk.1.2.1 | exact hk.1.2.2 | exact hk.2.1.1 | exact hk.2.1.2 | exact hk.2.2.1 | exact hk.2.2.2)) (.int .i64 ((rd_T123 l0 x20_1).f2.f4))) (fun _ hk => (by first | exact hk.2 | exact hk | exact hk.1 | exact hk.1.1 | exact hk.1.2 | exact hk.2.1 | exact hk.2.2 | exact hk.1.1.1 | exact hk.1.1.2 | exact hk.1.2.1 | exact hk.1.2.2 | exact hk.2.1.1 | exact hk.2.1.2 | exact hk.2.2.1 | exact hk.2.2.2)) (.string ((rd_T123 l0 x20_1).f2.f5))) (fun _ hk => (by first | exact hk.1 | exact hk | exact hk.2 | exact hk.1.1 | exact hk.1.2 | exact hk.2.1 | exact hk.2.2 | exact hk.1.1.1 | exact hk.1.1.2 | exact hk.1.2.1 | exact hk.1.2.2 | exact hk.2.1.1 | exact hk.2.1.2 | exact hk.2.2.1 | exact hk.2.2.2))⟩, ⟨by (with_reducible repeat (first | refine kn ?_ _ | refine ke ?_ | refine ka ?_ _)); refine kp (cs := #[.int .i64 ((rd_T123 l0 x20_1).f2.f0), .string ((rd_T123 l0 x20_1).f2.f1), .string ((rd_T123 l0 x20_1).f2.f2), .int .i64 ((rd_T123 l0 x20_1).f2.f3), .int .i64 ((rd_T123 l0 x20_1).f2.f4), .string x194005_1]) ?_ 5 _ rfl; (with_reducible repeat (first | refine kn ?_ _ | refine ke ?_ | refine ka ?_ _)); refine kp (cs := #[.int .i64 ((rd_T123 l0 x20_1).f2.f0), .string ((rd_T123 l0 x20_1).f2.f1), .string ((rd_T123 l0 x20_1).f2.f2), .int .i64 ((rd_T123 l0 x20_1).f2.f3), .int .i64 x194004_1, .string x194005_1]) ?_ 4 _ rfl; (with_reducible repeat (first | refine kn ?_ _ | refine ke ?_ | refine ka ?_ _)); refine kp (cs := #[.int .i64 ((rd_T123 l0 x20_1).f2.f0), .string ((rd_T123 l0 x20_1).f2.f1), .string ((rd_T123 l0 x20_1).f2.f2), .int .i64 x194003_1, .int .i64 x194004_1, .string x194005_1]) ?_ 3 _ rfl; (with_reducible repeat (first | refine kn ?_ _ | refine ke ?_ | refine ka ?_ _)); refine kp (cs := #[.int .i64 ((rd_T123 l0 x20_1).f2.f0), .string ((rd_T123 l0 x20_1).f2.f1), .string x194002_1, .int .i64 x194003_1, .int .i64 x194004_1, .string x194005_1]) ?_ 2 _ rfl; (with_reducible repeat (first | refine kn ?_ _ | refine ke ?_ | refine ka ?_ _)); refine kp (cs := #[.int .i64 ((rd_T123 l0 x20_1).f2.f0), .string x194001_1, .string x194002_1, .int .i64 x194003_1, .int .i64 x194004_1, .string x194005_1]) ?_ 1 _ rfl; (with_reducible repeat (first | refine kn ?_ _ | refine ke ?_ | refine ka ?_ _)); refine kp (cs := #[.int .i64 x194000_1, .string x194001_1, .string x194002_1, .int .i64 x194003_1, .int .i64 x194004_1, .string x194005_1]) ?_ 0 _ rfl; (with_reducible repeat (first | refine kn ?_ _ | refine ke ?_ | refine ka ?_ _)); exact BK193.out⟩, ⟨by repeat (first | (with_reducible first | exact HB.out | apply ba | apply bn | apply be | refine bs ?_ GE193.out | refine bs ?_ GE198.out) | exact HB.out)⟩⟩
           ·rw [if_neg c27] at H
            exact absurd H (by simp)
          ·rw [if_neg c26] at H
           exact absurd H (by simp)
         ·replace c25 := Bool.eq_false_iff.mpr c25
          subst c25
          have H1 : (if 0 ≤ x20_1 then (if x20_1 < (l1.length : Int) then (if (rd_T125 l1 x20_1).f2 = true then (if ((rd_T125 l1 x20_1).f1) = a2 then (if x8_1.length < 1954687338268 then (impl_AsksOf.l0 kj11 l1 a2 (x8_1 ++ [(⟨x194000_1, x194001_1, x194002_1, x194003_1, x194004_1, x194005_1⟩ : S42)]) l0 (l0.length : Int) (wrap64 (x20_1 + 1)) x194000_1 x194001_1 x194002_1 x194003_1 x194004_1 x194005_1) else (none)) else (impl_AsksOf.l0 kj11 l1 a2 x8_1 l0 (l0.length : Int) (wrap64 (x20_1 + 1)) x194000_1 x194001_1 x194002_1 x194003_1 x194004_1 x194005_1)) else (impl_AsksOf.l0 kj11 l1 a2 x8_1 l0 (l0.length : Int) (wrap64 (x20_1 + 1)) x194000_1 x194001_1 x194002_1 x194003_1 x194004_1 x194005_1)) else (none)) else (none)) = some r := by rw [if_neg (show ¬ (false = true) by decide)] at H; exact H
          clear H
          have H := H1
          clear H1
          by_cases c42 : 0 ≤ x20_1
          ·rw [if_pos c42] at H
           have c42b0 : decide (0 ≤ x20_1) = true := decide_eq_true c42
           clear c42
           by_cases c43 : x20_1 < (l1.length : Int)
           ·rw [if_pos c43] at H
            have c43b0 : decide (x20_1 < (l1.length : Int)) = true := decide_eq_true c43
            clear c43
            obtain ⟨bq44, hbq44⟩ : ∃ b_ : Bool, b_ = ((rd_T125 l1 x20_1).f2) := ⟨_, rfl⟩
            replace H : (if bq44 = true then (if ((rd_T125 l1 x20_1).f1) = a2 then (if x8_1.length < 1954687338268 then (impl_AsksOf.l0 kj11 l1 a2 (x8_1 ++ [(⟨x194000_1, x194001_1, x194002_1, x194003_1, x194004_1, x194005_1⟩ : S42)]) l0 (l0.length : Int) (wrap64 (x20_1 + 1)) x194000_1 x194001_1 x194002_1 x194003_1 x194004_1 x194005_1) else (none)) else (impl_AsksOf.l0 kj11 l1 a2 x8_1 l0 (l0.length : Int) (wrap64 (x20_1 + 1)) x194000_1 x194001_1 x194002_1 x194003_1 x194004_1 x194005_1)) else (impl_AsksOf.l0 kj11 l1 a2 x8_1 l0 (l0.length : Int) (wrap64 (x20_1 + 1)) x194000_1 x194001_1 x194002_1 x194003_1 x194004_1 x194005_1)) = some r := by rw [← hbq44] at H; exact H
            have Nbq44 := Am hbq44
            clear hbq44
            by_cases c45 : bq44 = true
            ·subst c45
             have H1 : (if ((rd_T125 l1 x20_1).f1) = a2 then (if x8_1.length < 1954687338268 then (impl_AsksOf.l0 kj11 l1 a2 (x8_1 ++ [(⟨x194000_1, x194001_1, x194002_1, x194003_1, x194004_1, x194005_1⟩ : S42)]) l0 (l0.length : Int) (wrap64 (x20_1 + 1)) x194000_1 x194001_1 x194002_1 x194003_1 x194004_1 x194005_1) else (none)) else (impl_AsksOf.l0 kj11 l1 a2 x8_1 l0 (l0.length : Int) (wrap64 (x20_1 + 1)) x194000_1 x194001_1 x194002_1 x194003_1 x194004_1 x194005_1)) = some r := by rw [if_pos rfl] at H; exact H
             clear H
             have H := H1
             clear H1
             by_cases c46 : ((rd_T125 l1 x20_1).f1) = a2
             ·rw [if_pos c46] at H
              have c46b0 : (((rd_T125 l1 x20_1).f1) == a2) = true := beq_iff_eq.mpr c46
              have c46b1 : (((rd_T125 l1 x20_1).f1) != a2) = false := bne_eq_false_iff_eq.mpr c46
              clear c46
              by_cases c47 : x8_1.length < 1954687338268
              ·rw [if_pos c47] at H
               have LMc47 := Am c47
               clear c47
               obtain ⟨y207, hy207⟩ : ∃ y_ : List (S42), y_ = (x8_1 ++ [(⟨x194000_1, x194001_1, x194002_1, x194003_1, x194004_1, x194005_1⟩ : S42)]) := ⟨_, rfl⟩
               replace H : (impl_AsksOf.l0 kj11 l1 a2 y207 l0 (l0.length : Int) (wrap64 (x20_1 + 1)) x194000_1 x194001_1 x194002_1 x194003_1 x194004_1 x194005_1) = some r := by first | (rw [hy207]; with_reducible exact H) | (have H2_ := (Option.bind_some _ _).symm.trans H; rw [hy207]; with_reducible exact H2_) | (have H2_ := (Option.bind_some _ _).symm.trans H; with_reducible exact H2_) | with_reducible exact H | (rw [hy207]; exact H) | exact H
               have Ny207 := Am hy207
               clear hy207
               have H' := Am H
               clear H
               have p205 : 0 ≤ (x20_1 : Int) := of_decide_eq_true (by first | (with_reducible assumption) | assumption)
               have q205 : x20_1 < (l1.length : Int) := of_decide_eq_true (by first | (with_reducible assumption) | assumption)
               obtain ⟨ad205, A205_7, c205_7, e205, hx205_0, hx205_1, hx205_2, hx205_3, hx205_4, hx205_5, hx205_6, hx205_7, hl205_7, hi205_7⟩ := at_T125 HR1.out x20_1 p205 q205
               (try rw [← Nbq44.out] at hx205_2)
               (try rw [← Nbq44.out] at hx205_6)
               cases e205
               replace hx205_0 := cl4 HB hx205_0
               replace hx205_1 := cl4 HB hx205_1
               replace hx205_2 := cl4 HB hx205_2
               replace hx205_3 := cl4 HB hx205_3
               replace hx205_4 := cl4 HB hx205_4
               replace hx205_5 := cl4 HB hx205_5
               replace hx205_6 := cl4 HB hx205_6
               replace hx205_7 := cl4 HB hx205_7
               have HR205_7 := Am hi205_7
               have HC205_7 := Am hl205_7
               clear hi205_7 hl205_7
               replace p205 := eq_true p205
               replace q205 := eq_true q205
               have p206 : 0 ≤ (x20_1 : Int) := of_decide_eq_true (by first | (with_reducible assumption) | assumption)
               have q206 : x20_1 < (l1.length : Int) := of_decide_eq_true (by first | (with_reducible assumption) | assumption)
               obtain ⟨ad206, A206_7, c206_7, e206, hx206_0, hx206_1, hx206_2, hx206_3, hx206_4, hx206_5, hx206_6, hx206_7, hl206_7, hi206_7⟩ := at_T125 HR1.out x20_1 p206 q206
               (try rw [← Nbq44.out] at hx206_2)
               (try rw [← Nbq44.out] at hx206_6)
               obtain rfl : ad205 = ad206 := (by injection e206)
               replace hx206_0 := cl4 HB hx206_0
               replace hx206_1 := cl4 HB hx206_1
               replace hx206_2 := cl4 HB hx206_2
               replace hx206_3 := cl4 HB hx206_3
               replace hx206_4 := cl4 HB hx206_4
               replace hx206_5 := cl4 HB hx206_5
               replace hx206_6 := cl4 HB hx206_6
               replace hx206_7 := cl4 HB hx206_7
               have HR206_7 := Am hi206_7
               have HC206_7 := Am hl206_7
               clear hi206_7 hl206_7
               replace p206 := eq_true p206
               replace q206 := eq_true q206
               have ea_ := Option.some.inj (hx205_7.symm.trans hx206_7)
               injection ea_ with ea_ en_ ec_
               subst ea_
               subst ec_
               clear en_
               have hnb48 := NB193_198.out
               have hnc48 := NB198_193.out
               have hcz49_0 : wc.cell? ⟨gb193, 0, none⟩ = some (.int .i64 x194000_1) := (kc BK193.out 0).trans rfl
               have hcz49_1 : wc.cell? ⟨gb193, 1, none⟩ = some (.string x194001_1) := (kc BK193.out 1).trans rfl
               have hcz49_2 : wc.cell? ⟨gb193, 2, none⟩ = some (.string x194002_1) := (kc BK193.out 2).trans rfl
               have hcz49_3 : wc.cell? ⟨gb193, 3, none⟩ = some (.int .i64 x194003_1) := (kc BK193.out 3).trans rfl
               have hcz49_4 : wc.cell? ⟨gb193, 4, none⟩ = some (.int .i64 x194004_1) := (kc BK193.out 4).trans rfl
               have hcz49_5 : wc.cell? ⟨gb193, 5, none⟩ = some (.string x194005_1) := (kc BK193.out 5).trans rfl
               have hfz49_0 := kf BK193.out 0
               have hfz49_1 := kf BK193.out 1
               have hfz49_2 := kf BK193.out 2
               have hfz49_3 := kf BK193.out 3
               have hfz49_4 := kf BK193.out 4
               have hfz49_5 := kf BK193.out 5
               go_wp2_with (first | ((with_reducible refine gate_builtin (b := .append) (xs := #[.tmp 58, .tmp 60]) rfl ?_); at_builtin; refine Kd.R_append k42 (w0 := w) w.heap.size rfl (.tmp 58) (.tmp 60) 26 42 (.agg #[(.int .i64 0), (.string ⟨#[]⟩), (.string ⟨#[]⟩), (.int .i64 0), (.int .i64 0), (.string ⟨#[]⟩)]) 72 rfl Try.underlying26 info42 rfl (by decide) (by omega) u8 x8_1 (⟨x194000_1, x194001_1, x194002_1, x194003_1, x194004_1, x194005_1⟩ : S42) [.int .i64 x194000_1, .string x194001_1, .string x194002_1, .int .i64 x194003_1, .int .i64 x194004_1, .string x194005_1] (fun k_ => k_ ≠ gb193) (fun _ => False) rfl rfl ?aP (fun _ hk => hk.elim) ?aF ?aO ?aB ?aS ?aL ?_; (case aP => exact k42_mkM _ _ _ (⟨x194000_1, x194001_1, x194002_1, x194003_1, x194004_1, x194005_1⟩ : S42)); (case aB => exact (by repeat (first | (with_reducible first | exact HB.out | apply ba | apply bn | apply be | refine bs ?_ GE193.out | refine bs ?_ GE198.out) | exact HB.out))); (case aF => exact (fun k_ hk => Kd.freshB (g := gb193) (o := o4b0 x194000_1 x194001_1 x194002_1 x194003_1 x194004_1 x194005_1) (by (with_reducible repeat (first | refine kn ?_ _ | refine ke ?_ | refine ka ?_ _)); exact BK193.out) k_ hk)); (case aO => exact (by (with_reducible repeat (first | apply ra | apply rn | apply re)); exact HO_8.out)); (case aS => exact (bz (by repeat (first | (with_reducible first | exact HB.out | apply ba | apply bn | apply be | refine bs ?_ GE193.out | refine bs ?_ GE198.out) | exact HB.out)))); (case aL => have := LMc47.out; omega); intro v208 w50 ho hb hg hat; rw [← Ny207.out] at ho; have n0_ := Am (kg (g := gb193) (o := o4b0 x194000_1 x194001_1 x194002_1 x194003_1 x194004_1 x194005_1) (by (with_reducible repeat (first | refine kn ?_ _ | refine ke ?_ | refine ka ?_ _)); exact BK193.out) hg (Kd.R_away HO_8.out (fun _ hk => hk))); have n1_ := Am (kg (g := gb198) (o := .cells #[.int .i64 ((rd_T123 l0 x20_1).f0), .int .i64 ((rd_T123 l0 x20_1).f1), .int .i64 ((rd_T123 l0 x20_1).f2.f0), .string ((rd_T123 l0 x20_1).f2.f1), .string ((rd_T123 l0 x20_1).f2.f2), .int .i64 ((rd_T123 l0 x20_1).f2.f3), .int .i64 ((rd_T123 l0 x20_1).f2.f4), .string ((rd_T123 l0 x20_1).f2.f5), .int .i64 ((rd_T123 l0 x20_1).f3)] 123 (0, 0)) (by (with_reducible repeat (first | refine kn ?_ _ | refine ke ?_ | refine ka ?_ _)); exact BK198.out) hg (Kd.R_ne HO_8.out BK198.out (by decide))); have n2_ := Am (hb); have n3_ := Am (ho); clear BK193; clear BK198; clear HB; clear HO_8; have BK193 := n0_; have BK198 := n1_; have HB := n2_; have HO209 := n3_; clear n0_ n1_ n2_ n3_; clear ho hb hg hat))
               go_roundg kj11
               case measure => have := HK1.out; have := HJ11.out; omega
               case rel => exact ⟨(y207), (wrap64 (x20_1 + 1)), (x194000_1), (x194001_1), (x194002_1), (x194003_1), (x194004_1), (x194005_1), (by first | rfl | (simp; done) | (simp [*]; done)), H', ⟨by have := HK1.out; have := HJ11.out; omega⟩, ⟨by (with_reducible repeat (first | apply ra | apply rn | apply re)); exact HO209.out⟩, ⟨by (with_reducible repeat (first | refine kn ?_ _ | refine ke ?_ | refine ka ?_ _)); exact BK193.out⟩, ⟨by repeat (first | (with_reducible first | exact HB.out | apply ba | apply bn | apply be | refine bs ?_ GE193.out | refine bs ?_ GE198.out) | exact HB.out)⟩⟩
              ·rw [if_neg c47] at H
               exact absurd H (by simp)
             ·rw [if_neg c46] at H
              have c46b0 : (((rd_T125 l1 x20_1).f1) == a2) = false := beq_eq_false_iff_ne.mpr c46
              have c46b1 : (((rd_T125 l1 x20_1).f1) != a2) = true := bne_iff_ne.mpr c46
              have H' := Am H
              clear H
              have p205 : 0 ≤ (x20_1 : Int) := of_decide_eq_true (by first | (with_reducible assumption) | assumption)
              have q205 : x20_1 < (l1.length : Int) := of_decide_eq_true (by first | (with_reducible assumption) | assumption)
              obtain ⟨ad205, A205_7, c205_7, e205, hx205_0, hx205_1, hx205_2, hx205_3, hx205_4, hx205_5, hx205_6, hx205_7, hl205_7, hi205_7⟩ := at_T125 HR1.out x20_1 p205 q205
              (try rw [← Nbq44.out] at hx205_2)
              (try rw [← Nbq44.out] at hx205_6)
              cases e205
              replace hx205_0 := cl4 HB hx205_0
              replace hx205_1 := cl4 HB hx205_1
              replace hx205_2 := cl4 HB hx205_2
              replace hx205_3 := cl4 HB hx205_3
              replace hx205_4 := cl4 HB hx205_4
              replace hx205_5 := cl4 HB hx205_5
              replace hx205_6 := cl4 HB hx205_6
              replace hx205_7 := cl4 HB hx205_7
              have HR205_7 := Am hi205_7
              have HC205_7 := Am hl205_7
              clear hi205_7 hl205_7
              replace p205 := eq_true p205
              replace q205 := eq_true q205
              have p206 : 0 ≤ (x20_1 : Int) := of_decide_eq_true (by first | (with_reducible assumption) | assumption)
              have q206 : x20_1 < (l1.length : Int) := of_decide_eq_true (by first | (with_reducible assumption) | assumption)
              obtain ⟨ad206, A206_7, c206_7, e206, hx206_0, hx206_1, hx206_2, hx206_3, hx206_4, hx206_5, hx206_6, hx206_7, hl206_7, hi206_7⟩ := at_T125 HR1.out x20_1 p206 q206
              (try rw [← Nbq44.out] at hx206_2)
              (try rw [← Nbq44.out] at hx206_6)
              obtain rfl : ad205 = ad206 := (by injection e206)
              replace hx206_0 := cl4 HB hx206_0
              replace hx206_1 := cl4 HB hx206_1
              replace hx206_2 := cl4 HB hx206_2
              replace hx206_3 := cl4 HB hx206_3
              replace hx206_4 := cl4 HB hx206_4
              replace hx206_5 := cl4 HB hx206_5
              replace hx206_6 := cl4 HB hx206_6
              replace hx206_7 := cl4 HB hx206_7
              have HR206_7 := Am hi206_7
              have HC206_7 := Am hl206_7
              clear hi206_7 hl206_7
              replace p206 := eq_true p206
              replace q206 := eq_true q206
              have ea_ := Option.some.inj (hx205_7.symm.trans hx206_7)
              injection ea_ with ea_ en_ ec_
              subst ea_
              subst ec_
              clear en_
              go_wp2
              go_roundg kj11
              case measure => have := HK1.out; have := HJ11.out; omega
              case rel => exact ⟨(x8_1), (wrap64 (x20_1 + 1)), (x194000_1), (x194001_1), (x194002_1), (x194003_1), (x194004_1), (x194005_1), (by first | rfl | (simp; done) | (simp [*]; done)), H', ⟨by have := HK1.out; have := HJ11.out; omega⟩, ⟨by (with_reducible repeat (first | apply ra | apply rn | apply re)); exact HO_8.out⟩, ⟨by (with_reducible repeat (first | refine kn ?_ _ | refine ke ?_ | refine ka ?_ _)); exact BK193.out⟩, ⟨by repeat (first | (with_reducible first | exact HB.out | apply ba | apply bn | apply be | refine bs ?_ GE193.out | refine bs ?_ GE198.out) | exact HB.out)⟩⟩
            ·replace c45 := Bool.eq_false_iff.mpr c45
             subst c45
             have H1 : (impl_AsksOf.l0 kj11 l1 a2 x8_1 l0 (l0.length : Int) (wrap64 (x20_1 + 1)) x194000_1 x194001_1 x194002_1 x194003_1 x194004_1 x194005_1) = some r := by rw [if_neg (show ¬ (false = true) by decide)] at H; exact H
             clear H
             have H := H1
             clear H1
             have H' := Am H
             clear H
             have p205 : 0 ≤ (x20_1 : Int) := of_decide_eq_true (by first | (with_reducible assumption) | assumption)
             have q205 : x20_1 < (l1.length : Int) := of_decide_eq_true (by first | (with_reducible assumption) | assumption)
             obtain ⟨ad205, A205_7, c205_7, e205, hx205_0, hx205_1, hx205_2, hx205_3, hx205_4, hx205_5, hx205_6, hx205_7, hl205_7, hi205_7⟩ := at_T125 HR1.out x20_1 p205 q205
             (try rw [← Nbq44.out] at hx205_2)
             (try rw [← Nbq44.out] at hx205_6)
             cases e205
             replace hx205_0 := cl4 HB hx205_0
             replace hx205_1 := cl4 HB hx205_1
             replace hx205_2 := cl4 HB hx205_2
             replace hx205_3 := cl4 HB hx205_3
             replace hx205_4 := cl4 HB hx205_4
             replace hx205_5 := cl4 HB hx205_5
             replace hx205_6 := cl4 HB hx205_6
             replace hx205_7 := cl4 HB hx205_7
             have HR205_7 := Am hi205_7
             have HC205_7 := Am hl205_7
             clear hi205_7 hl205_7
             replace p205 := eq_true p205
             replace q205 := eq_true q205
             go_wp2
             go_roundg kj11
             case measure => have := HK1.out; have := HJ11.out; omega
             case rel => exact ⟨(x8_1), (wrap64 (x20_1 + 1)), (x194000_1), (x194001_1), (x194002_1), (x194003_1), (x194004_1), (x194005_1), (by first | rfl | (simp; done) | (simp [*]; done)), H', ⟨by have := HK1.out; have := HJ11.out; omega⟩, ⟨by (with_reducible repeat (first | apply ra | apply rn | apply re)); exact HO_8.out⟩, ⟨by (with_reducible repeat (first | refine kn ?_ _ | refine ke ?_ | refine ka ?_ _)); exact BK193.out⟩, ⟨by repeat (first | (with_reducible first | exact HB.out | apply ba | apply bn | apply be | refine bs ?_ GE193.out | refine bs ?_ GE198.out) | exact HB.out)⟩⟩
           ·rw [if_neg c43] at H
            exact absurd H (by simp)
          ·rw [if_neg c42] at H
           exact absurd H (by simp)
      ·rw [if_neg c11] at H
       exact absurd H (by simp)
     ·rw [if_neg c10] at H
      exact absurd H (by simp)
    ·rw [if_neg c9] at H
     have c9b0 : decide (x20_1 < (l0.length : Int)) = false := decide_eq_false c9
     clear c9
     obtain rfl := Option.some.inj H
     go_wp2
     go_ret
     exact ⟨_, by first | rfl | (simp [errW_none, errW_some] <;> rfl) | (simp [*, errW_none, errW_some] <;> rfl), by (with_reducible repeat (first | apply ra | apply rn | apply re)); exact Kd.R_mono HO_8.out (fun _ hk => trivial), by repeat (first | (with_reducible first | exact HB.out | apply ba | apply bn | apply be | refine bs ?_ GE193.out) | exact HB.out)⟩
 ·rw [if_neg c4] at H
  have c4b0 : ((l0.length : Int) == (l1.length : Int)) = false := beq_eq_false_iff_ne.mpr c4
  have c4b1 : ((l0.length : Int) != (l1.length : Int)) = true := bne_iff_ne.mpr c4
  have c4b2 : (l0.length == l1.length) = false := by first | simpa using c4 | (simp at c4 ⊢; omega)
  obtain rfl := Option.some.inj H
  go_enter Try.func16, Try.ntmps16
  go_wp2
  go_ret
  exact ⟨_, by first | rfl | (simp [errW_none, errW_some] <;> rfl) | (simp [*, errW_none, errW_some] <;> rfl), by first | exact Kd.R_nil _ _ _ _ _ | exact Kd.N_nil _ _ _ _ _ | exact Kd.V_nil _ _ _ _ _ | exact Kd.Q_nil _ _ _ _ _ | exact Kd.S_nil _ _ _ _ _, by repeat (first | (with_reducible first | exact HB.out | apply ba | apply bn | apply be) | exact HB.out)⟩

end Go.Proofs.Ytlpghmopabihoaa.QFnExactAsksOf
