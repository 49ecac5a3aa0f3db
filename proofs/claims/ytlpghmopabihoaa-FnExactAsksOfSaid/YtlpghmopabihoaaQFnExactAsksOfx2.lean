/- Go functions as Lean functions, and their contracts. Own text: written by wip/gen/pr.py (a turned copy of the print). -/
import Derived.Test.YtlpghmopabihoaaQFnExactAsksOfx0
namespace Go.Proofs.Ytlpghmopabihoaa.QFnExactAsksOf
open Go.RowKit Go.Proofs.YtlpghmopabihoaaW.PrintWords Go.Proofs.YtlpghmopabihoaaW.PrintLast Go.Proofs.YtlpghmopabihoaaW.PrintMore
attribute [local go_sem] max2_int min2_int max_two min_two max_three min_three max_four min_four   -- for this text's walks alone
open Go.Proofs.YtlpghmopabihoaaW.PrintWords renaming below_alloc → ba, pw_below_drewN → bn, below_drew1 → be, below_set → bs, blk_drewN → kn, blk_drew → ke, blk_alloc → ka, blk_frozen → kf, blk_cell → kc, below_step → bq, below_size → bz, blk_grown → kg, blk_put → kp
open Go.Proofs.YtlpghmopabihoaaW.PrintWords.Kd renaming R_alloc → ra, R_drewN → rn, R_drew → re, R_below → rb
open Go.Proofs.YtlpghmopabihoaaW.PrintWords.Aside0 renaming mk → Am
set_option linter.unusedVariables false
set_option linter.unusedSimpArgs false

/-! ### spec_AsksOf: function 13 -/
theorem cl2 {w w2 : World} {a : Addr} {v : Value} (h : Aside0 (Below w.heap.size w w2)) (e : w.cell? a = some v) : w2.cell? a = some v := (h.out.cell (World.block_lt_of_cell? w _ e)).trans e
mutual
def spec_AsksOf.l0 : Nat → List (S123) → List (S125) → Int → List (S42) → Int → Int → ByteArray → ByteArray → Int → Int → ByteArray → Option ((List (S42)))
 | 0, _, _, _, _, _, _, _, _, _, _, _ => none
 | k + 1, x0, x1, x2, x7, x9, x117000, x117001, x117002, x117003, x117004, x117005 => if x9 < (x0.length : Int) then (if 0 ≤ x9 then (if ((rd_T123 x0 x9).f0) = 1 then (if ((rd_T123 x0 x9).f1) = x2 then (if x9 < (x1.length : Int) then (spec_AsksOf.j1 k x0 x1 x2 x7 x9 (((rd_T125 x1 x9).f0) == 0) x117000 x117001 x117002 x117003 x117004 x117005) else (none)) else (spec_AsksOf.j1 k x0 x1 x2 x7 x9 false x117000 x117001 x117002 x117003 x117004 x117005)) else (spec_AsksOf.j1 k x0 x1 x2 x7 x9 false x117000 x117001 x117002 x117003 x117004 x117005)) else (none)) else (some x7)
def spec_AsksOf.j1 : Nat → List (S123) → List (S125) → Int → List (S42) → Int → Bool → Int → ByteArray → ByteArray → Int → Int → ByteArray → Option ((List (S42)))
 | 0, _, _, _, _, _, _, _, _, _, _, _, _ => none
 | k + 1, x0, x1, x2, x7, x9, x46, x117000, x117001, x117002, x117003, x117004, x117005 => if x46 = true then (if 0 ≤ x9 then (if x9 < (x0.length : Int) then (if x9 < (x1.length : Int) then (if (rd_T125 x1 x9).f2 = true then (if ((rd_T125 x1 x9).f1) = x2 then (if x7.length < 1954687338268 then (spec_AsksOf.l0 k x0 x1 x2 (x7 ++ [(⟨(rd_T123 x0 x9).f2.f0, (rd_T123 x0 x9).f2.f1, (rd_T123 x0 x9).f2.f2, (rd_T123 x0 x9).f2.f3, (rd_T123 x0 x9).f2.f4, (rd_T123 x0 x9).f2.f5⟩ : S42)]) (wrap64 (x9 + 1)) ((rd_T123 x0 x9).f2.f0) ((rd_T123 x0 x9).f2.f1) ((rd_T123 x0 x9).f2.f2) ((rd_T123 x0 x9).f2.f3) ((rd_T123 x0 x9).f2.f4) ((rd_T123 x0 x9).f2.f5)) else (none)) else (spec_AsksOf.l0 k x0 x1 x2 x7 (wrap64 (x9 + 1)) ((rd_T123 x0 x9).f2.f0) ((rd_T123 x0 x9).f2.f1) ((rd_T123 x0 x9).f2.f2) ((rd_T123 x0 x9).f2.f3) ((rd_T123 x0 x9).f2.f4) ((rd_T123 x0 x9).f2.f5))) else (spec_AsksOf.l0 k x0 x1 x2 x7 (wrap64 (x9 + 1)) ((rd_T123 x0 x9).f2.f0) ((rd_T123 x0 x9).f2.f1) ((rd_T123 x0 x9).f2.f2) ((rd_T123 x0 x9).f2.f3) ((rd_T123 x0 x9).f2.f4) ((rd_T123 x0 x9).f2.f5))) else (none)) else (none)) else (none)) else (if 0 ≤ x9 then (if x9 < (x1.length : Int) then (if (rd_T125 x1 x9).f2 = true then (if ((rd_T125 x1 x9).f1) = x2 then (if x7.length < 1954687338268 then (spec_AsksOf.l0 k x0 x1 x2 (x7 ++ [(⟨x117000, x117001, x117002, x117003, x117004, x117005⟩ : S42)]) (wrap64 (x9 + 1)) x117000 x117001 x117002 x117003 x117004 x117005) else (none)) else (spec_AsksOf.l0 k x0 x1 x2 x7 (wrap64 (x9 + 1)) x117000 x117001 x117002 x117003 x117004 x117005)) else (spec_AsksOf.l0 k x0 x1 x2 x7 (wrap64 (x9 + 1)) x117000 x117001 x117002 x117003 x117004 x117005)) else (none)) else (none))
end
def spec_AsksOf.f (k : Nat) (l0 : List (S123)) (l1 : List (S125)) (a2 : Int) : Option ((List (S42))) := (some (([] : List (S42)) : List (S42))).bind fun y113 => (if (l0.length : Int) = (l1.length : Int) then (spec_AsksOf.l0 k l0 l1 a2 y113 0 0 (⟨#[]⟩ : ByteArray) (⟨#[]⟩ : ByteArray) 0 0 (⟨#[]⟩ : ByteArray)) else (some y113))
theorem spec_AsksOf.mono_l : ∀ k, (∀ y0 y1 y2 y3 y4 y5 y6 y7 y8 y9 y10, LeO (spec_AsksOf.l0 k y0 y1 y2 y3 y4 y5 y6 y7 y8 y9 y10) (spec_AsksOf.l0 (k + 1) y0 y1 y2 y3 y4 y5 y6 y7 y8 y9 y10)) ∧ (∀ y0 y1 y2 y3 y4 y5 y6 y7 y8 y9 y10 y11, LeO (spec_AsksOf.j1 k y0 y1 y2 y3 y4 y5 y6 y7 y8 y9 y10 y11) (spec_AsksOf.j1 (k + 1) y0 y1 y2 y3 y4 y5 y6 y7 y8 y9 y10 y11))
 | 0 => ⟨fun _ _ _ _ _ _ _ _ _ _ _ r h => by simp [spec_AsksOf.l0] at h, fun _ _ _ _ _ _ _ _ _ _ _ _ r h => by simp [spec_AsksOf.j1] at h⟩
 | k + 1 => by
  obtain ⟨ih0, ih1⟩ := spec_AsksOf.mono_l k
  refine ⟨?_, ?_⟩
  ·intro y0 y1 y2 y3 y4 y5 y6 y7 y8 y9 y10
   unfold spec_AsksOf.l0
   repeat' first
   | (with_reducible exact ih0 _ _ _ _ _ _ _ _ _ _ _)
   | (with_reducible exact ih1 _ _ _ _ _ _ _ _ _ _ _ _)
   | (with_reducible exact LeO.refl _)
   | (with_reducible exact LeO.none _)
   | (with_reducible refine LeO.ite ?_ ?_)
   | (with_reducible refine LeO.bind ?_ (fun _ => ?_))
   | exact ih0 _ _ _ _ _ _ _ _ _ _ _
   | exact ih1 _ _ _ _ _ _ _ _ _ _ _ _
   | exact LeO.none _
   | refine LeO.ite ?_ ?_
   | refine LeO.bind ?_ (fun _ => ?_)
  ·intro y0 y1 y2 y3 y4 y5 y6 y7 y8 y9 y10 y11
   unfold spec_AsksOf.j1
   repeat' first
   | (with_reducible exact ih0 _ _ _ _ _ _ _ _ _ _ _)
   | (with_reducible exact ih1 _ _ _ _ _ _ _ _ _ _ _ _)
   | (with_reducible exact LeO.refl _)
   | (with_reducible exact LeO.none _)
   | (with_reducible refine LeO.ite ?_ ?_)
   | (with_reducible refine LeO.bind ?_ (fun _ => ?_))
   | exact ih0 _ _ _ _ _ _ _ _ _ _ _
   | exact ih1 _ _ _ _ _ _ _ _ _ _ _ _
   | exact LeO.none _
   | refine LeO.ite ?_ ?_
   | refine LeO.bind ?_ (fun _ => ?_)
theorem spec_AsksOf.mono : ∀ a0 a1 a2 k, LeO (spec_AsksOf.f k a0 a1 a2) (spec_AsksOf.f (k + 1) a0 a1 a2) := by
 intro a0 a1 a2 k
 obtain ⟨ih0, ih1⟩ := spec_AsksOf.mono_l k
 unfold spec_AsksOf.f
 repeat' first
   | (with_reducible exact ih0 _ _ _ _ _ _ _ _ _ _ _)
   | (with_reducible exact ih1 _ _ _ _ _ _ _ _ _ _ _ _)
   | (with_reducible exact LeO.refl _)
   | (with_reducible exact LeO.none _)
   | (with_reducible refine LeO.ite ?_ ?_)
   | (with_reducible refine LeO.bind ?_ (fun _ => ?_))
   | exact ih0 _ _ _ _ _ _ _ _ _ _ _
   | exact ih1 _ _ _ _ _ _ _ _ _ _ _ _
   | exact LeO.none _
   | refine LeO.ite ?_ ?_
   | refine LeO.bind ?_ (fun _ => ?_)
set_option maxHeartbeats 8000000 in
set_option maxRecDepth 100000 in
theorem spec_AsksOf.calls (k : Nat) (A0 : Option Addr) (c0 : Nat) (l0 : List (S123)) (A1 : Option Addr) (c1 : Nat) (l1 : List (S125)) (a2 : Int) (r : List (S42)) (w : World) (hr0 : Kd.C k123 w A0 l0.length l0) (hc0 : l0.length ≤ c0) (hr1 : Kd.C k125 w A1 l1.length l1) (hc1 : l1.length ≤ c1) (h : spec_AsksOf.f k l0 l1 a2 = some r) :
  Calls Try.prog 13 #[.slice A0 l0.length c0, .slice A1 l1.length c1, .int .i64 a2] w fun e w' => ∃ v0_ : Value, e = .returned (v0_) ∧ Kd.R k42 42 w' w.heap.size (fun _ => True) v0_ r ∧ Below w.heap.size w w' := by
 have hu42 := Try.underlying42
 have HR0 := Am hr0
 have HC0 := Am hc0
 clear hr0 hc0
 have HR1 := Am hr1
 have HC1 := Am hc1
 clear hr1 hc1
 have HB := Am (Below.refl w.heap.size w)
 have H : ((some (([] : List (S42)) : List (S42))).bind fun y113 => (if (l0.length : Int) = (l1.length : Int) then (spec_AsksOf.l0 k l0 l1 a2 y113 0 0 (⟨#[]⟩ : ByteArray) (⟨#[]⟩ : ByteArray) 0 0 (⟨#[]⟩ : ByteArray)) else (some y113))) = some r := h
 clear h
 obtain ⟨y113, hy113⟩ : ∃ y_ : List (S42), y_ = (([] : List (S42))) := ⟨_, rfl⟩
 replace H : (if (l0.length : Int) = (l1.length : Int) then (spec_AsksOf.l0 k l0 l1 a2 y113 0 0 (⟨#[]⟩ : ByteArray) (⟨#[]⟩ : ByteArray) 0 0 (⟨#[]⟩ : ByteArray)) else (some y113)) = some r := by first | (rw [hy113]; with_reducible exact H) | (have H2_ := (Option.bind_some _ _).symm.trans H; rw [hy113]; with_reducible exact H2_) | (have H2_ := (Option.bind_some _ _).symm.trans H; with_reducible exact H2_) | with_reducible exact H | (rw [hy113]; exact H) | exact H
 have Ny113 := Am hy113
 clear hy113
 by_cases c4 : (l0.length : Int) = (l1.length : Int)
 ·rw [if_pos c4] at H
  have c4b0 : ((l0.length : Int) == (l1.length : Int)) = true := beq_iff_eq.mpr c4
  have c4b1 : ((l0.length : Int) != (l1.length : Int)) = false := bne_eq_false_iff_eq.mpr c4
  have c4b2 : (l0.length == l1.length) = true := by first | simpa using c4 | (simp at c4 ⊢; omega)
  clear c4
  have H' := Am H
  clear H
  go_enter Try.func13, Try.ntmps13
  go_wp2_with (first | ((with_reducible refine gate_dst (N := 10) rfl ?_); refine Kd.R_lit k42 _ 42 ?hg (N := 10) ?hd (xs := ([] : List (S42))) (inner := []) (ok := fun _ => True) (okp := fun _ => True) ?hr ?hp (fun _ hk => hk) trivial (Below.refl _ _) (Nat.le_refl _) (by simp) ?_; (case hd => rfl); (case hg => rfl); (case hr => first | (go_simp; done) | (go_simp; rfl)); (case hp => exact (Reps.none _ _)); intro v114 w5 ho6 hb hg_ hnew_; clear hg_ hnew_; (first | rw [← Ny113.out] at ho6 | (simp only [Int.reduceToNat] at ho6; rw [← Ny113.out] at ho6)); have HO115 := Am (Kd.R_lower ho6 (bz (by repeat (first | (with_reducible first | exact HB.out | apply ba | apply bn | apply be) | exact HB.out)))); replace HB := Am (bq (by repeat (first | (with_reducible first | exact HB.out | apply ba | apply bn | apply be) | exact HB.out)) hb); clear hb ho6) | ((with_reducible refine gate_dst (N := 8) rfl ?_); refine box_event ?hg (N := 8) ?hd (cs := #[.int .i64 0, .string (⟨#[]⟩ : ByteArray), .string (⟨#[]⟩ : ByteArray), .int .i64 0, .int .i64 0, .string (⟨#[]⟩ : ByteArray)]) (t := 42) ?hr ?_; (case hd => rfl); (case hg => rfl); (case hr => first | (go_simp; done) | (go_simp; rfl)); intro gb116 hg w7 hbox hb; replace HO115 := Am (rb (Kd.R_elderB (by (with_reducible repeat (first | apply ra | apply rn | apply re)); exact HO115.out) gb116 (Nat.le_of_eq hg.symm)) hb); have BK116 := Am (hbox); have GW116 := Am ((by rw [hg]; exact (bz (by repeat (first | (with_reducible first | exact HB.out | apply ba | apply bn | apply be) | exact HB.out))) : w.heap.size ≤ gb116)); have GE116 := Am ((by rw [hg]; exact (bz (by repeat (first | (with_reducible first | exact HB.out | apply ba | apply bn | apply be) | exact HB.out))) : w.heap.size ≤ gb116)); replace HB := Am (bq (by repeat (first | (with_reducible first | exact HB.out | apply ba | apply bn | apply be) | exact HB.out)) hb); clear hb hbox hg; have hcz8_0 : w7.cell? ⟨gb116, 0, none⟩ = some (.int .i64 0) := (kc BK116.out 0).trans rfl; have hcz8_1 : w7.cell? ⟨gb116, 1, none⟩ = some (.string (⟨#[]⟩ : ByteArray)) := (kc BK116.out 1).trans rfl; have hcz8_2 : w7.cell? ⟨gb116, 2, none⟩ = some (.string (⟨#[]⟩ : ByteArray)) := (kc BK116.out 2).trans rfl; have hcz8_3 : w7.cell? ⟨gb116, 3, none⟩ = some (.int .i64 0) := (kc BK116.out 3).trans rfl; have hcz8_4 : w7.cell? ⟨gb116, 4, none⟩ = some (.int .i64 0) := (kc BK116.out 4).trans rfl; have hcz8_5 : w7.cell? ⟨gb116, 5, none⟩ = some (.string (⟨#[]⟩ : ByteArray)) := (kc BK116.out 5).trans rfl; have hfz8_0 := kf BK116.out 0; have hfz8_1 := kf BK116.out 1; have hfz8_2 := kf BK116.out 2; have hfz8_3 := kf BK116.out 3; have hfz8_4 := kf BK116.out 4; have hfz8_5 := kf BK116.out 5))
  go_loopg [7, 9] k (fun kq v7 v9 w' => ∃ (x7_1 : List (S42)) (x9_1 : Int) (x117000_1 : Int) (x117001_1 : ByteArray) (x117002_1 : ByteArray) (x117003_1 : Int) (x117004_1 : Int) (x117005_1 : ByteArray), v9 = .int .i64 x9_1 ∧ Aside0 (spec_AsksOf.l0 kq l0 l1 a2 x7_1 x9_1 x117000_1 x117001_1 x117002_1 x117003_1 x117004_1 x117005_1 = some r) ∧ Aside0 (kq ≤ k) ∧ Aside0 (Kd.R k42 42 w' w.heap.size (fun k_ => k_ ≠ gb116) v7 x7_1) ∧ Aside0 (w'.heap[gb116]? = some (.cells #[.int .i64 x117000_1, .string x117001_1, .string x117002_1, .int .i64 x117003_1, .int .i64 x117004_1, .string x117005_1] 42 (0, 0))) ∧ Aside0 (Below w.heap.size w w'))
  case atStart => exact ⟨(y113), (0), (0), ((⟨#[]⟩ : ByteArray)), ((⟨#[]⟩ : ByteArray)), (0), (0), ((⟨#[]⟩ : ByteArray)), (by first | rfl | (simp; done) | (simp [*]; done)), H', ⟨Nat.le_refl _⟩, ⟨by (with_reducible repeat (first | apply ra | apply rn | apply re)); exact Kd.R_mono (Kd.R_far (p := ⟨gb116, 5, none⟩) (Kd.R_far (p := ⟨gb116, 4, none⟩) (Kd.R_far (p := ⟨gb116, 3, none⟩) (Kd.R_far (p := ⟨gb116, 2, none⟩) (Kd.R_far (p := ⟨gb116, 1, none⟩) (Kd.R_far (p := ⟨gb116, 0, none⟩) (Kd.R_mono HO115.out (fun k_ hk => (⟨hk, hk.2⟩ : _ ∧ k_ ≠ gb116))) (fun _ hk => hk.2) (.int .i64 0)) (fun _ hk => hk.2) (.string (⟨#[]⟩ : ByteArray))) (fun _ hk => hk.2) (.string (⟨#[]⟩ : ByteArray))) (fun _ hk => hk.2) (.int .i64 0)) (fun _ hk => hk.2) (.int .i64 0)) (fun _ hk => hk.2) (.string (⟨#[]⟩ : ByteArray))) (fun _ hk => hk.1.2)⟩, ⟨by (with_reducible repeat (first | refine kn ?_ _ | refine ke ?_ | refine ka ?_ _)); refine kp (cs := #[.int .i64 0, .string (⟨#[]⟩ : ByteArray), .string (⟨#[]⟩ : ByteArray), .int .i64 0, .int .i64 0, .string (⟨#[]⟩ : ByteArray)]) ?_ 5 _ rfl; (with_reducible repeat (first | refine kn ?_ _ | refine ke ?_ | refine ka ?_ _)); refine kp (cs := #[.int .i64 0, .string (⟨#[]⟩ : ByteArray), .string (⟨#[]⟩ : ByteArray), .int .i64 0, .int .i64 0, .string (⟨#[]⟩ : ByteArray)]) ?_ 4 _ rfl; (with_reducible repeat (first | refine kn ?_ _ | refine ke ?_ | refine ka ?_ _)); refine kp (cs := #[.int .i64 0, .string (⟨#[]⟩ : ByteArray), .string (⟨#[]⟩ : ByteArray), .int .i64 0, .int .i64 0, .string (⟨#[]⟩ : ByteArray)]) ?_ 3 _ rfl; (with_reducible repeat (first | refine kn ?_ _ | refine ke ?_ | refine ka ?_ _)); refine kp (cs := #[.int .i64 0, .string (⟨#[]⟩ : ByteArray), .string (⟨#[]⟩ : ByteArray), .int .i64 0, .int .i64 0, .string (⟨#[]⟩ : ByteArray)]) ?_ 2 _ rfl; (with_reducible repeat (first | refine kn ?_ _ | refine ke ?_ | refine ka ?_ _)); refine kp (cs := #[.int .i64 0, .string (⟨#[]⟩ : ByteArray), .string (⟨#[]⟩ : ByteArray), .int .i64 0, .int .i64 0, .string (⟨#[]⟩ : ByteArray)]) ?_ 1 _ rfl; (with_reducible repeat (first | refine kn ?_ _ | refine ke ?_ | refine ka ?_ _)); refine kp (cs := #[.int .i64 0, .string (⟨#[]⟩ : ByteArray), .string (⟨#[]⟩ : ByteArray), .int .i64 0, .int .i64 0, .string (⟨#[]⟩ : ByteArray)]) ?_ 0 _ rfl; (with_reducible repeat (first | refine kn ?_ _ | refine ke ?_ | refine ka ?_ _)); exact BK116.out⟩, ⟨by repeat (first | (with_reducible first | exact HB.out | apply ba | apply bn | apply be | refine bs ?_ GE116.out) | exact HB.out)⟩⟩
  case round =>
   clear H'
   try clear c1
   try clear p2
   try clear c4
   try clear c4b0
   try clear c4b1
   try clear c4b2
   try clear hcz8_0
   try clear hcz8_1
   try clear hcz8_2
   try clear hcz8_3
   try clear hcz8_4
   try clear hcz8_5
   try clear hfz8_0
   try clear hfz8_1
   try clear hfz8_2
   try clear hfz8_3
   try clear hfz8_4
   try clear hfz8_5
   obtain ⟨x7_1, x9_1, x117000_1, x117001_1, x117002_1, x117003_1, x117004_1, x117005_1, rfl, HA, HK1, HO_7, BK116, HB⟩ := hrel
   cases gk with
   | zero => exact absurd HA.out (by simp [spec_AsksOf.l0])
   | succ k1 =>
    have H := HA.out
    clear HA
    simp only [spec_AsksOf.l0] at H
    by_cases c9 : x9_1 < (l0.length : Int)
    ·rw [if_pos c9] at H
     have c9b0 : decide (x9_1 < (l0.length : Int)) = true := decide_eq_true c9
     clear c9
     have HC10 := Am H
     clear H
     go_upto_region 8 with (fail)
     go_cut [46] (fun v46 wc => ∃ (kq : Nat) (x46_9 : Bool), v46 = .bool x46_9 ∧ Aside0 (spec_AsksOf.j1 kq l0 l1 a2 x7_1 x9_1 x46_9 x117000_1 x117001_1 x117002_1 x117003_1 x117004_1 x117005_1 = some r) ∧ Aside0 (kq ≤ k1) ∧ Aside0 (Kd.R k42 42 wc w.heap.size (fun k_ => k_ ≠ gb116) u7 x7_1) ∧ Aside0 (wc.heap[gb116]? = some (.cells #[.int .i64 x117000_1, .string x117001_1, .string x117002_1, .int .i64 x117003_1, .int .i64 x117004_1, .string x117005_1] 42 (0, 0))) ∧ Aside0 (Below w.heap.size w wc))
     case first =>
      have H := HC10.out
      clear HC10
      by_cases c11 : 0 ≤ x9_1
      ·rw [if_pos c11] at H
       have c11b0 : decide (0 ≤ x9_1) = true := decide_eq_true c11
       clear c11
       (first | rw [c11b0] | (simp only [i64_w, i32_w]; rw [c11b0]) | skip)
       by_cases c12 : ((rd_T123 l0 x9_1).f0) = 1
       ·rw [if_pos c12] at H
        have c12b0 : (((rd_T123 l0 x9_1).f0) == 1) = true := beq_iff_eq.mpr c12
        have c12b1 : (((rd_T123 l0 x9_1).f0) != 1) = false := bne_eq_false_iff_eq.mpr c12
        clear c12
        by_cases c13 : ((rd_T123 l0 x9_1).f1) = a2
        ·rw [if_pos c13] at H
         have c13b0 : (((rd_T123 l0 x9_1).f1) == a2) = true := beq_iff_eq.mpr c13
         have c13b1 : (((rd_T123 l0 x9_1).f1) != a2) = false := bne_eq_false_iff_eq.mpr c13
         clear c13
         by_cases c14 : x9_1 < (l1.length : Int)
         ·rw [if_pos c14] at H
          have c14b0 : decide (x9_1 < (l1.length : Int)) = true := decide_eq_true c14
          clear c14
          have H' := Am H
          clear H
          have p117 : 0 ≤ (x9_1 : Int) := of_decide_eq_true (by first | (with_reducible assumption) | assumption)
          have q117 : x9_1 < (l0.length : Int) := of_decide_eq_true (by first | (with_reducible assumption) | assumption)
          obtain ⟨ad117, e117, hx117_0, hx117_1, hx117_2, hx117_3, hx117_4, hx117_5, hx117_6, hx117_7, hx117_8⟩ := at_T123 HR0.out x9_1 p117 q117
          cases e117
          replace hx117_0 := cl2 HB hx117_0
          replace hx117_1 := cl2 HB hx117_1
          replace hx117_2 := cl2 HB hx117_2
          replace hx117_3 := cl2 HB hx117_3
          replace hx117_4 := cl2 HB hx117_4
          replace hx117_5 := cl2 HB hx117_5
          replace hx117_6 := cl2 HB hx117_6
          replace hx117_7 := cl2 HB hx117_7
          replace hx117_8 := cl2 HB hx117_8
          replace p117 := eq_true p117
          replace q117 := eq_true q117
          have p118 : 0 ≤ (x9_1 : Int) := of_decide_eq_true (by first | (with_reducible assumption) | assumption)
          have q118 : x9_1 < (l0.length : Int) := of_decide_eq_true (by first | (with_reducible assumption) | assumption)
          obtain ⟨ad118, e118, hx118_0, hx118_1, hx118_2, hx118_3, hx118_4, hx118_5, hx118_6, hx118_7, hx118_8⟩ := at_T123 HR0.out x9_1 p118 q118
          obtain rfl : ad117 = ad118 := (by injection e118)
          replace hx118_0 := cl2 HB hx118_0
          replace hx118_1 := cl2 HB hx118_1
          replace hx118_2 := cl2 HB hx118_2
          replace hx118_3 := cl2 HB hx118_3
          replace hx118_4 := cl2 HB hx118_4
          replace hx118_5 := cl2 HB hx118_5
          replace hx118_6 := cl2 HB hx118_6
          replace hx118_7 := cl2 HB hx118_7
          replace hx118_8 := cl2 HB hx118_8
          replace p118 := eq_true p118
          replace q118 := eq_true q118
          have p119 : 0 ≤ (x9_1 : Int) := of_decide_eq_true (by first | (with_reducible assumption) | assumption)
          have q119 : x9_1 < (l1.length : Int) := of_decide_eq_true (by first | (with_reducible assumption) | assumption)
          obtain ⟨ad119, A119_7, c119_7, e119, hx119_0, hx119_1, hx119_2, hx119_3, hx119_4, hx119_5, hx119_6, hx119_7, hl119_7, hi119_7⟩ := at_T125 HR1.out x9_1 p119 q119
          cases e119
          replace hx119_0 := cl2 HB hx119_0
          replace hx119_1 := cl2 HB hx119_1
          replace hx119_2 := cl2 HB hx119_2
          replace hx119_3 := cl2 HB hx119_3
          replace hx119_4 := cl2 HB hx119_4
          replace hx119_5 := cl2 HB hx119_5
          replace hx119_6 := cl2 HB hx119_6
          replace hx119_7 := cl2 HB hx119_7
          have HR119_7 := Am hi119_7
          have HC119_7 := Am hl119_7
          clear hi119_7 hl119_7
          replace p119 := eq_true p119
          replace q119 := eq_true q119
          go_wp2
          go_meet
          case rel => exact ⟨_, ((((rd_T125 l1 x9_1).f0) == 0)), (by first | rfl | (simp; done) | (simp [*]; done)), H', ⟨by have := HK1.out; first | omega | exact Nat.le_refl _⟩, ⟨by (with_reducible repeat (first | apply ra | apply rn | apply re)); exact HO_7.out⟩, ⟨by (with_reducible repeat (first | refine kn ?_ _ | refine ke ?_ | refine ka ?_ _)); exact BK116.out⟩, ⟨by repeat (first | (with_reducible first | exact HB.out | apply ba | apply bn | apply be | refine bs ?_ GE116.out) | exact HB.out)⟩⟩
         ·rw [if_neg c14] at H
          exact absurd H (by simp)
        ·rw [if_neg c13] at H
         have c13b0 : (((rd_T123 l0 x9_1).f1) == a2) = false := beq_eq_false_iff_ne.mpr c13
         have c13b1 : (((rd_T123 l0 x9_1).f1) != a2) = true := bne_iff_ne.mpr c13
         have H' := Am H
         clear H
         have p117 : 0 ≤ (x9_1 : Int) := of_decide_eq_true (by first | (with_reducible assumption) | assumption)
         have q117 : x9_1 < (l0.length : Int) := of_decide_eq_true (by first | (with_reducible assumption) | assumption)
         obtain ⟨ad117, e117, hx117_0, hx117_1, hx117_2, hx117_3, hx117_4, hx117_5, hx117_6, hx117_7, hx117_8⟩ := at_T123 HR0.out x9_1 p117 q117
         cases e117
         replace hx117_0 := cl2 HB hx117_0
         replace hx117_1 := cl2 HB hx117_1
         replace hx117_2 := cl2 HB hx117_2
         replace hx117_3 := cl2 HB hx117_3
         replace hx117_4 := cl2 HB hx117_4
         replace hx117_5 := cl2 HB hx117_5
         replace hx117_6 := cl2 HB hx117_6
         replace hx117_7 := cl2 HB hx117_7
         replace hx117_8 := cl2 HB hx117_8
         replace p117 := eq_true p117
         replace q117 := eq_true q117
         have p118 : 0 ≤ (x9_1 : Int) := of_decide_eq_true (by first | (with_reducible assumption) | assumption)
         have q118 : x9_1 < (l0.length : Int) := of_decide_eq_true (by first | (with_reducible assumption) | assumption)
         obtain ⟨ad118, e118, hx118_0, hx118_1, hx118_2, hx118_3, hx118_4, hx118_5, hx118_6, hx118_7, hx118_8⟩ := at_T123 HR0.out x9_1 p118 q118
         obtain rfl : ad117 = ad118 := (by injection e118)
         replace hx118_0 := cl2 HB hx118_0
         replace hx118_1 := cl2 HB hx118_1
         replace hx118_2 := cl2 HB hx118_2
         replace hx118_3 := cl2 HB hx118_3
         replace hx118_4 := cl2 HB hx118_4
         replace hx118_5 := cl2 HB hx118_5
         replace hx118_6 := cl2 HB hx118_6
         replace hx118_7 := cl2 HB hx118_7
         replace hx118_8 := cl2 HB hx118_8
         replace p118 := eq_true p118
         replace q118 := eq_true q118
         go_wp2
         go_meet
         case rel => exact ⟨_, (false), (by first | rfl | (simp; done) | (simp [*]; done)), H', ⟨by have := HK1.out; first | omega | exact Nat.le_refl _⟩, ⟨by (with_reducible repeat (first | apply ra | apply rn | apply re)); exact HO_7.out⟩, ⟨by (with_reducible repeat (first | refine kn ?_ _ | refine ke ?_ | refine ka ?_ _)); exact BK116.out⟩, ⟨by repeat (first | (with_reducible first | exact HB.out | apply ba | apply bn | apply be | refine bs ?_ GE116.out) | exact HB.out)⟩⟩
       ·rw [if_neg c12] at H
        have c12b0 : (((rd_T123 l0 x9_1).f0) == 1) = false := beq_eq_false_iff_ne.mpr c12
        have c12b1 : (((rd_T123 l0 x9_1).f0) != 1) = true := bne_iff_ne.mpr c12
        have H' := Am H
        clear H
        have p117 : 0 ≤ (x9_1 : Int) := of_decide_eq_true (by first | (with_reducible assumption) | assumption)
        have q117 : x9_1 < (l0.length : Int) := of_decide_eq_true (by first | (with_reducible assumption) | assumption)
        obtain ⟨ad117, e117, hx117_0, hx117_1, hx117_2, hx117_3, hx117_4, hx117_5, hx117_6, hx117_7, hx117_8⟩ := at_T123 HR0.out x9_1 p117 q117
        cases e117
        replace hx117_0 := cl2 HB hx117_0
        replace hx117_1 := cl2 HB hx117_1
        replace hx117_2 := cl2 HB hx117_2
        replace hx117_3 := cl2 HB hx117_3
        replace hx117_4 := cl2 HB hx117_4
        replace hx117_5 := cl2 HB hx117_5
        replace hx117_6 := cl2 HB hx117_6
        replace hx117_7 := cl2 HB hx117_7
        replace hx117_8 := cl2 HB hx117_8
        replace p117 := eq_true p117
        replace q117 := eq_true q117
        go_wp2
        go_meet
        case rel => exact ⟨_, (false), (by first | rfl | (simp; done) | (simp [*]; done)), H', ⟨by have := HK1.out; first | omega | exact Nat.le_refl _⟩, ⟨by (with_reducible repeat (first | apply ra | apply rn | apply re)); exact HO_7.out⟩, ⟨by (with_reducible repeat (first | refine kn ?_ _ | refine ke ?_ | refine ka ?_ _)); exact BK116.out⟩, ⟨by repeat (first | (with_reducible first | exact HB.out | apply ba | apply bn | apply be | refine bs ?_ GE116.out) | exact HB.out)⟩⟩
      ·rw [if_neg c11] at H
       exact absurd H (by simp)
     case rest =>
      clear HC10
      try clear c1
      try clear p1
      try clear q1
      try clear hx1
      try clear p2
      try clear c4
      try clear c4b0
      try clear c4b1
      try clear c4b2
      try clear c9
      try clear c9b0
      try clear c11
      try clear c11b0
      try clear p11
      try clear q11
      try clear hx11
      try clear c12
      try clear c12b0
      try clear c12b1
      try clear c13
      try clear c13b0
      try clear c13b1
      try clear c14
      try clear c14b0
      try clear hcz8_0
      try clear hcz8_1
      try clear hcz8_2
      try clear hcz8_3
      try clear hcz8_4
      try clear hcz8_5
      try clear hfz8_0
      try clear hfz8_1
      try clear hfz8_2
      try clear hfz8_3
      try clear hfz8_4
      try clear hfz8_5
      try clear hx117_0
      try clear hx117_1
      try clear hx117_2
      try clear hx117_3
      try clear hx117_4
      try clear hx117_5
      try clear hx117_6
      try clear hx117_7
      try clear hx117_8
      try clear hx118_0
      try clear hx118_1
      try clear hx118_2
      try clear hx118_3
      try clear hx118_4
      try clear hx118_5
      try clear hx118_6
      try clear hx118_7
      try clear hx118_8
      try clear hx119_0
      try clear hx119_1
      try clear hx119_2
      try clear hx119_3
      try clear hx119_4
      try clear hx119_5
      try clear hx119_6
      try clear hx119_7
      try clear p117
      try clear p118
      try clear p119
      try clear p2
      try clear q117
      try clear q118
      try clear q119
      obtain ⟨kq, x46_9, rfl, HA, HJ9, HO_7, BK116, HB⟩ := hcut
      cases kq with
      | zero => exact absurd HA.out (by simp [spec_AsksOf.j1])
      | succ kj9 =>
       have H := HA.out
       clear HA
       simp only [spec_AsksOf.j1] at H
       by_cases c15 : x46_9 = true
       ·subst c15
        have H1 : (if 0 ≤ x9_1 then (if x9_1 < (l0.length : Int) then (if x9_1 < (l1.length : Int) then (if (rd_T125 l1 x9_1).f2 = true then (if ((rd_T125 l1 x9_1).f1) = a2 then (if x7_1.length < 1954687338268 then (spec_AsksOf.l0 kj9 l0 l1 a2 (x7_1 ++ [(⟨(rd_T123 l0 x9_1).f2.f0, (rd_T123 l0 x9_1).f2.f1, (rd_T123 l0 x9_1).f2.f2, (rd_T123 l0 x9_1).f2.f3, (rd_T123 l0 x9_1).f2.f4, (rd_T123 l0 x9_1).f2.f5⟩ : S42)]) (wrap64 (x9_1 + 1)) ((rd_T123 l0 x9_1).f2.f0) ((rd_T123 l0 x9_1).f2.f1) ((rd_T123 l0 x9_1).f2.f2) ((rd_T123 l0 x9_1).f2.f3) ((rd_T123 l0 x9_1).f2.f4) ((rd_T123 l0 x9_1).f2.f5)) else (none)) else (spec_AsksOf.l0 kj9 l0 l1 a2 x7_1 (wrap64 (x9_1 + 1)) ((rd_T123 l0 x9_1).f2.f0) ((rd_T123 l0 x9_1).f2.f1) ((rd_T123 l0 x9_1).f2.f2) ((rd_T123 l0 x9_1).f2.f3) ((rd_T123 l0 x9_1).f2.f4) ((rd_T123 l0 x9_1).f2.f5))) else (spec_AsksOf.l0 kj9 l0 l1 a2 x7_1 (wrap64 (x9_1 + 1)) ((rd_T123 l0 x9_1).f2.f0) ((rd_T123 l0 x9_1).f2.f1) ((rd_T123 l0 x9_1).f2.f2) ((rd_T123 l0 x9_1).f2.f3) ((rd_T123 l0 x9_1).f2.f4) ((rd_T123 l0 x9_1).f2.f5))) else (none)) else (none)) else (none)) = some r := by rw [if_pos rfl] at H; exact H
        clear H
        have H := H1
        clear H1
        by_cases c16 : 0 ≤ x9_1
        ·rw [if_pos c16] at H
         have c16b0 : decide (0 ≤ x9_1) = true := decide_eq_true c16
         clear c16
         by_cases c17 : x9_1 < (l0.length : Int)
         ·rw [if_pos c17] at H
          have c17b0 : decide (x9_1 < (l0.length : Int)) = true := decide_eq_true c17
          clear c17
          by_cases c18 : x9_1 < (l1.length : Int)
          ·rw [if_pos c18] at H
           have c18b0 : decide (x9_1 < (l1.length : Int)) = true := decide_eq_true c18
           clear c18
           obtain ⟨bq19, hbq19⟩ : ∃ b_ : Bool, b_ = ((rd_T125 l1 x9_1).f2) := ⟨_, rfl⟩
           replace H : (if bq19 = true then (if ((rd_T125 l1 x9_1).f1) = a2 then (if x7_1.length < 1954687338268 then (spec_AsksOf.l0 kj9 l0 l1 a2 (x7_1 ++ [(⟨(rd_T123 l0 x9_1).f2.f0, (rd_T123 l0 x9_1).f2.f1, (rd_T123 l0 x9_1).f2.f2, (rd_T123 l0 x9_1).f2.f3, (rd_T123 l0 x9_1).f2.f4, (rd_T123 l0 x9_1).f2.f5⟩ : S42)]) (wrap64 (x9_1 + 1)) ((rd_T123 l0 x9_1).f2.f0) ((rd_T123 l0 x9_1).f2.f1) ((rd_T123 l0 x9_1).f2.f2) ((rd_T123 l0 x9_1).f2.f3) ((rd_T123 l0 x9_1).f2.f4) ((rd_T123 l0 x9_1).f2.f5)) else (none)) else (spec_AsksOf.l0 kj9 l0 l1 a2 x7_1 (wrap64 (x9_1 + 1)) ((rd_T123 l0 x9_1).f2.f0) ((rd_T123 l0 x9_1).f2.f1) ((rd_T123 l0 x9_1).f2.f2) ((rd_T123 l0 x9_1).f2.f3) ((rd_T123 l0 x9_1).f2.f4) ((rd_T123 l0 x9_1).f2.f5))) else (spec_AsksOf.l0 kj9 l0 l1 a2 x7_1 (wrap64 (x9_1 + 1)) ((rd_T123 l0 x9_1).f2.f0) ((rd_T123 l0 x9_1).f2.f1) ((rd_T123 l0 x9_1).f2.f2) ((rd_T123 l0 x9_1).f2.f3) ((rd_T123 l0 x9_1).f2.f4) ((rd_T123 l0 x9_1).f2.f5))) = some r := by rw [← hbq19] at H; exact H
           have Nbq19 := Am hbq19
           clear hbq19
           by_cases c20 : bq19 = true
           ·subst c20
            have H1 : (if ((rd_T125 l1 x9_1).f1) = a2 then (if x7_1.length < 1954687338268 then (spec_AsksOf.l0 kj9 l0 l1 a2 (x7_1 ++ [(⟨(rd_T123 l0 x9_1).f2.f0, (rd_T123 l0 x9_1).f2.f1, (rd_T123 l0 x9_1).f2.f2, (rd_T123 l0 x9_1).f2.f3, (rd_T123 l0 x9_1).f2.f4, (rd_T123 l0 x9_1).f2.f5⟩ : S42)]) (wrap64 (x9_1 + 1)) ((rd_T123 l0 x9_1).f2.f0) ((rd_T123 l0 x9_1).f2.f1) ((rd_T123 l0 x9_1).f2.f2) ((rd_T123 l0 x9_1).f2.f3) ((rd_T123 l0 x9_1).f2.f4) ((rd_T123 l0 x9_1).f2.f5)) else (none)) else (spec_AsksOf.l0 kj9 l0 l1 a2 x7_1 (wrap64 (x9_1 + 1)) ((rd_T123 l0 x9_1).f2.f0) ((rd_T123 l0 x9_1).f2.f1) ((rd_T123 l0 x9_1).f2.f2) ((rd_T123 l0 x9_1).f2.f3) ((rd_T123 l0 x9_1).f2.f4) ((rd_T123 l0 x9_1).f2.f5))) = some r := by rw [if_pos rfl] at H; exact H
            clear H
            have H := H1
            clear H1
            by_cases c21 : ((rd_T125 l1 x9_1).f1) = a2
            ·rw [if_pos c21] at H
             have c21b0 : (((rd_T125 l1 x9_1).f1) == a2) = true := beq_iff_eq.mpr c21
             have c21b1 : (((rd_T125 l1 x9_1).f1) != a2) = false := bne_eq_false_iff_eq.mpr c21
             clear c21
             by_cases c22 : x7_1.length < 1954687338268
             ·rw [if_pos c22] at H
              have LMc22 := Am c22
              clear c22
              obtain ⟨y123, hy123⟩ : ∃ y_ : List (S42), y_ = (x7_1 ++ [(⟨(rd_T123 l0 x9_1).f2.f0, (rd_T123 l0 x9_1).f2.f1, (rd_T123 l0 x9_1).f2.f2, (rd_T123 l0 x9_1).f2.f3, (rd_T123 l0 x9_1).f2.f4, (rd_T123 l0 x9_1).f2.f5⟩ : S42)]) := ⟨_, rfl⟩
              replace H : (spec_AsksOf.l0 kj9 l0 l1 a2 y123 (wrap64 (x9_1 + 1)) ((rd_T123 l0 x9_1).f2.f0) ((rd_T123 l0 x9_1).f2.f1) ((rd_T123 l0 x9_1).f2.f2) ((rd_T123 l0 x9_1).f2.f3) ((rd_T123 l0 x9_1).f2.f4) ((rd_T123 l0 x9_1).f2.f5)) = some r := by first | (rw [hy123]; with_reducible exact H) | (have H2_ := (Option.bind_some _ _).symm.trans H; rw [hy123]; with_reducible exact H2_) | (have H2_ := (Option.bind_some _ _).symm.trans H; with_reducible exact H2_) | with_reducible exact H | (rw [hy123]; exact H) | exact H
              have Ny123 := Am hy123
              clear hy123
              have H' := Am H
              clear H
              have p120 : 0 ≤ (x9_1 : Int) := of_decide_eq_true (by first | (with_reducible assumption) | assumption)
              have q120 : x9_1 < (l0.length : Int) := of_decide_eq_true (by first | (with_reducible assumption) | assumption)
              obtain ⟨ad120, e120, hx120_0, hx120_1, hx120_2, hx120_3, hx120_4, hx120_5, hx120_6, hx120_7, hx120_8⟩ := at_T123 HR0.out x9_1 p120 q120
              cases e120
              replace hx120_0 := cl2 HB hx120_0
              replace hx120_1 := cl2 HB hx120_1
              replace hx120_2 := cl2 HB hx120_2
              replace hx120_3 := cl2 HB hx120_3
              replace hx120_4 := cl2 HB hx120_4
              replace hx120_5 := cl2 HB hx120_5
              replace hx120_6 := cl2 HB hx120_6
              replace hx120_7 := cl2 HB hx120_7
              replace hx120_8 := cl2 HB hx120_8
              replace p120 := eq_true p120
              replace q120 := eq_true q120
              have hcz23_0 : wc.cell? ⟨gb116, 0, none⟩ = some (.int .i64 x117000_1) := (kc BK116.out 0).trans rfl
              have hcz23_1 : wc.cell? ⟨gb116, 1, none⟩ = some (.string x117001_1) := (kc BK116.out 1).trans rfl
              have hcz23_2 : wc.cell? ⟨gb116, 2, none⟩ = some (.string x117002_1) := (kc BK116.out 2).trans rfl
              have hcz23_3 : wc.cell? ⟨gb116, 3, none⟩ = some (.int .i64 x117003_1) := (kc BK116.out 3).trans rfl
              have hcz23_4 : wc.cell? ⟨gb116, 4, none⟩ = some (.int .i64 x117004_1) := (kc BK116.out 4).trans rfl
              have hcz23_5 : wc.cell? ⟨gb116, 5, none⟩ = some (.string x117005_1) := (kc BK116.out 5).trans rfl
              have hfz23_0 := kf BK116.out 0
              have hfz23_1 := kf BK116.out 1
              have hfz23_2 := kf BK116.out 2
              have hfz23_3 := kf BK116.out 3
              have hfz23_4 := kf BK116.out 4
              have hfz23_5 := kf BK116.out 5
              have p121 : 0 ≤ (x9_1 : Int) := of_decide_eq_true (by first | (with_reducible assumption) | assumption)
              have q121 : x9_1 < (l1.length : Int) := of_decide_eq_true (by first | (with_reducible assumption) | assumption)
              obtain ⟨ad121, A121_7, c121_7, e121, hx121_0, hx121_1, hx121_2, hx121_3, hx121_4, hx121_5, hx121_6, hx121_7, hl121_7, hi121_7⟩ := at_T125 HR1.out x9_1 p121 q121
              (try rw [← Nbq19.out] at hx121_2)
              (try rw [← Nbq19.out] at hx121_6)
              cases e121
              have hn121_0 : ad121.block ≠ gb116 := Nat.ne_of_lt (Nat.lt_of_lt_of_le (by have := World.block_lt_of_cell? _ _ hx121_0; first | rwa [add_block] at this | exact this) GW116.out)
              have hn121_1 : ad121.block ≠ gb116 := Nat.ne_of_lt (Nat.lt_of_lt_of_le (by have := World.block_lt_of_cell? _ _ hx121_0; first | rwa [add_block] at this | exact this) GW116.out)
              have hn121_2 : ad121.block ≠ gb116 := Nat.ne_of_lt (Nat.lt_of_lt_of_le (by have := World.block_lt_of_cell? _ _ hx121_0; first | rwa [add_block] at this | exact this) GW116.out)
              have hn121_3 : ad121.block ≠ gb116 := Nat.ne_of_lt (Nat.lt_of_lt_of_le (by have := World.block_lt_of_cell? _ _ hx121_0; first | rwa [add_block] at this | exact this) GW116.out)
              have hn121_4 : ad121.block ≠ gb116 := Nat.ne_of_lt (Nat.lt_of_lt_of_le (by have := World.block_lt_of_cell? _ _ hx121_0; first | rwa [add_block] at this | exact this) GW116.out)
              have hn121_5 : ad121.block ≠ gb116 := Nat.ne_of_lt (Nat.lt_of_lt_of_le (by have := World.block_lt_of_cell? _ _ hx121_0; first | rwa [add_block] at this | exact this) GW116.out)
              replace hx121_0 := cl2 HB hx121_0
              replace hx121_1 := cl2 HB hx121_1
              replace hx121_2 := cl2 HB hx121_2
              replace hx121_3 := cl2 HB hx121_3
              replace hx121_4 := cl2 HB hx121_4
              replace hx121_5 := cl2 HB hx121_5
              replace hx121_6 := cl2 HB hx121_6
              replace hx121_7 := cl2 HB hx121_7
              have HR121_7 := Am hi121_7
              have HC121_7 := Am hl121_7
              clear hi121_7 hl121_7
              replace hx121_0 := cfx (p := ⟨gb116, 0, none⟩) (.int .i64 ((rd_T123 l0 x9_1).f2.f0)) hx121_0 hn121_0
              replace hx121_1 := cfy (p := ⟨gb116, 0, none⟩) (.int .i64 ((rd_T123 l0 x9_1).f2.f0)) hx121_1 hn121_0
              replace hx121_2 := cfy (p := ⟨gb116, 0, none⟩) (.int .i64 ((rd_T123 l0 x9_1).f2.f0)) hx121_2 hn121_0
              replace hx121_3 := cfy (p := ⟨gb116, 0, none⟩) (.int .i64 ((rd_T123 l0 x9_1).f2.f0)) hx121_3 hn121_0
              replace hx121_4 := cfy (p := ⟨gb116, 0, none⟩) (.int .i64 ((rd_T123 l0 x9_1).f2.f0)) hx121_4 hn121_0
              replace hx121_5 := cfy (p := ⟨gb116, 0, none⟩) (.int .i64 ((rd_T123 l0 x9_1).f2.f0)) hx121_5 hn121_0
              replace hx121_6 := cfy (p := ⟨gb116, 0, none⟩) (.int .i64 ((rd_T123 l0 x9_1).f2.f0)) hx121_6 hn121_0
              replace hx121_7 := cfy (p := ⟨gb116, 0, none⟩) (.int .i64 ((rd_T123 l0 x9_1).f2.f0)) hx121_7 hn121_0
              replace hx121_0 := cfx (p := ⟨gb116, 1, none⟩) (.string ((rd_T123 l0 x9_1).f2.f1)) hx121_0 hn121_1
              replace hx121_1 := cfy (p := ⟨gb116, 1, none⟩) (.string ((rd_T123 l0 x9_1).f2.f1)) hx121_1 hn121_1
              replace hx121_2 := cfy (p := ⟨gb116, 1, none⟩) (.string ((rd_T123 l0 x9_1).f2.f1)) hx121_2 hn121_1
              replace hx121_3 := cfy (p := ⟨gb116, 1, none⟩) (.string ((rd_T123 l0 x9_1).f2.f1)) hx121_3 hn121_1
              replace hx121_4 := cfy (p := ⟨gb116, 1, none⟩) (.string ((rd_T123 l0 x9_1).f2.f1)) hx121_4 hn121_1
              replace hx121_5 := cfy (p := ⟨gb116, 1, none⟩) (.string ((rd_T123 l0 x9_1).f2.f1)) hx121_5 hn121_1
              replace hx121_6 := cfy (p := ⟨gb116, 1, none⟩) (.string ((rd_T123 l0 x9_1).f2.f1)) hx121_6 hn121_1
              replace hx121_7 := cfy (p := ⟨gb116, 1, none⟩) (.string ((rd_T123 l0 x9_1).f2.f1)) hx121_7 hn121_1
              replace hx121_0 := cfx (p := ⟨gb116, 2, none⟩) (.string ((rd_T123 l0 x9_1).f2.f2)) hx121_0 hn121_2
              replace hx121_1 := cfy (p := ⟨gb116, 2, none⟩) (.string ((rd_T123 l0 x9_1).f2.f2)) hx121_1 hn121_2
              replace hx121_2 := cfy (p := ⟨gb116, 2, none⟩) (.string ((rd_T123 l0 x9_1).f2.f2)) hx121_2 hn121_2
              replace hx121_3 := cfy (p := ⟨gb116, 2, none⟩) (.string ((rd_T123 l0 x9_1).f2.f2)) hx121_3 hn121_2
              replace hx121_4 := cfy (p := ⟨gb116, 2, none⟩) (.string ((rd_T123 l0 x9_1).f2.f2)) hx121_4 hn121_2
              replace hx121_5 := cfy (p := ⟨gb116, 2, none⟩) (.string ((rd_T123 l0 x9_1).f2.f2)) hx121_5 hn121_2
              replace hx121_6 := cfy (p := ⟨gb116, 2, none⟩) (.string ((rd_T123 l0 x9_1).f2.f2)) hx121_6 hn121_2
              replace hx121_7 := cfy (p := ⟨gb116, 2, none⟩) (.string ((rd_T123 l0 x9_1).f2.f2)) hx121_7 hn121_2
              replace hx121_0 := cfx (p := ⟨gb116, 3, none⟩) (.int .i64 ((rd_T123 l0 x9_1).f2.f3)) hx121_0 hn121_3
              replace hx121_1 := cfy (p := ⟨gb116, 3, none⟩) (.int .i64 ((rd_T123 l0 x9_1).f2.f3)) hx121_1 hn121_3
              replace hx121_2 := cfy (p := ⟨gb116, 3, none⟩) (.int .i64 ((rd_T123 l0 x9_1).f2.f3)) hx121_2 hn121_3
              replace hx121_3 := cfy (p := ⟨gb116, 3, none⟩) (.int .i64 ((rd_T123 l0 x9_1).f2.f3)) hx121_3 hn121_3
              replace hx121_4 := cfy (p := ⟨gb116, 3, none⟩) (.int .i64 ((rd_T123 l0 x9_1).f2.f3)) hx121_4 hn121_3
              replace hx121_5 := cfy (p := ⟨gb116, 3, none⟩) (.int .i64 ((rd_T123 l0 x9_1).f2.f3)) hx121_5 hn121_3
              replace hx121_6 := cfy (p := ⟨gb116, 3, none⟩) (.int .i64 ((rd_T123 l0 x9_1).f2.f3)) hx121_6 hn121_3
              replace hx121_7 := cfy (p := ⟨gb116, 3, none⟩) (.int .i64 ((rd_T123 l0 x9_1).f2.f3)) hx121_7 hn121_3
              replace hx121_0 := cfx (p := ⟨gb116, 4, none⟩) (.int .i64 ((rd_T123 l0 x9_1).f2.f4)) hx121_0 hn121_4
              replace hx121_1 := cfy (p := ⟨gb116, 4, none⟩) (.int .i64 ((rd_T123 l0 x9_1).f2.f4)) hx121_1 hn121_4
              replace hx121_2 := cfy (p := ⟨gb116, 4, none⟩) (.int .i64 ((rd_T123 l0 x9_1).f2.f4)) hx121_2 hn121_4
              replace hx121_3 := cfy (p := ⟨gb116, 4, none⟩) (.int .i64 ((rd_T123 l0 x9_1).f2.f4)) hx121_3 hn121_4
              replace hx121_4 := cfy (p := ⟨gb116, 4, none⟩) (.int .i64 ((rd_T123 l0 x9_1).f2.f4)) hx121_4 hn121_4
              replace hx121_5 := cfy (p := ⟨gb116, 4, none⟩) (.int .i64 ((rd_T123 l0 x9_1).f2.f4)) hx121_5 hn121_4
              replace hx121_6 := cfy (p := ⟨gb116, 4, none⟩) (.int .i64 ((rd_T123 l0 x9_1).f2.f4)) hx121_6 hn121_4
              replace hx121_7 := cfy (p := ⟨gb116, 4, none⟩) (.int .i64 ((rd_T123 l0 x9_1).f2.f4)) hx121_7 hn121_4
              replace hx121_0 := cfx (p := ⟨gb116, 5, none⟩) (.string ((rd_T123 l0 x9_1).f2.f5)) hx121_0 hn121_5
              replace hx121_1 := cfy (p := ⟨gb116, 5, none⟩) (.string ((rd_T123 l0 x9_1).f2.f5)) hx121_1 hn121_5
              replace hx121_2 := cfy (p := ⟨gb116, 5, none⟩) (.string ((rd_T123 l0 x9_1).f2.f5)) hx121_2 hn121_5
              replace hx121_3 := cfy (p := ⟨gb116, 5, none⟩) (.string ((rd_T123 l0 x9_1).f2.f5)) hx121_3 hn121_5
              replace hx121_4 := cfy (p := ⟨gb116, 5, none⟩) (.string ((rd_T123 l0 x9_1).f2.f5)) hx121_4 hn121_5
              replace hx121_5 := cfy (p := ⟨gb116, 5, none⟩) (.string ((rd_T123 l0 x9_1).f2.f5)) hx121_5 hn121_5
              replace hx121_6 := cfy (p := ⟨gb116, 5, none⟩) (.string ((rd_T123 l0 x9_1).f2.f5)) hx121_6 hn121_5
              replace hx121_7 := cfy (p := ⟨gb116, 5, none⟩) (.string ((rd_T123 l0 x9_1).f2.f5)) hx121_7 hn121_5
              clear hn121_0
              clear hn121_1
              clear hn121_2
              clear hn121_3
              clear hn121_4
              clear hn121_5
              replace p121 := eq_true p121
              replace q121 := eq_true q121
              have p122 : 0 ≤ (x9_1 : Int) := of_decide_eq_true (by first | (with_reducible assumption) | assumption)
              have q122 : x9_1 < (l1.length : Int) := of_decide_eq_true (by first | (with_reducible assumption) | assumption)
              obtain ⟨ad122, A122_7, c122_7, e122, hx122_0, hx122_1, hx122_2, hx122_3, hx122_4, hx122_5, hx122_6, hx122_7, hl122_7, hi122_7⟩ := at_T125 HR1.out x9_1 p122 q122
              (try rw [← Nbq19.out] at hx122_2)
              (try rw [← Nbq19.out] at hx122_6)
              obtain rfl : ad121 = ad122 := (by injection e122)
              have hn122_0 : ad121.block ≠ gb116 := Nat.ne_of_lt (Nat.lt_of_lt_of_le (by have := World.block_lt_of_cell? _ _ hx122_0; first | rwa [add_block] at this | exact this) GW116.out)
              have hn122_1 : ad121.block ≠ gb116 := Nat.ne_of_lt (Nat.lt_of_lt_of_le (by have := World.block_lt_of_cell? _ _ hx122_0; first | rwa [add_block] at this | exact this) GW116.out)
              have hn122_2 : ad121.block ≠ gb116 := Nat.ne_of_lt (Nat.lt_of_lt_of_le (by have := World.block_lt_of_cell? _ _ hx122_0; first | rwa [add_block] at this | exact this) GW116.out)
              have hn122_3 : ad121.block ≠ gb116 := Nat.ne_of_lt (Nat.lt_of_lt_of_le (by have := World.block_lt_of_cell? _ _ hx122_0; first | rwa [add_block] at this | exact this) GW116.out)
              have hn122_4 : ad121.block ≠ gb116 := Nat.ne_of_lt (Nat.lt_of_lt_of_le (by have := World.block_lt_of_cell? _ _ hx122_0; first | rwa [add_block] at this | exact this) GW116.out)
              have hn122_5 : ad121.block ≠ gb116 := Nat.ne_of_lt (Nat.lt_of_lt_of_le (by have := World.block_lt_of_cell? _ _ hx122_0; first | rwa [add_block] at this | exact this) GW116.out)
              replace hx122_0 := cl2 HB hx122_0
              replace hx122_1 := cl2 HB hx122_1
              replace hx122_2 := cl2 HB hx122_2
              replace hx122_3 := cl2 HB hx122_3
              replace hx122_4 := cl2 HB hx122_4
              replace hx122_5 := cl2 HB hx122_5
              replace hx122_6 := cl2 HB hx122_6
              replace hx122_7 := cl2 HB hx122_7
              have HR122_7 := Am hi122_7
              have HC122_7 := Am hl122_7
              clear hi122_7 hl122_7
              replace hx122_0 := cfx (p := ⟨gb116, 0, none⟩) (.int .i64 ((rd_T123 l0 x9_1).f2.f0)) hx122_0 hn122_0
              replace hx122_1 := cfy (p := ⟨gb116, 0, none⟩) (.int .i64 ((rd_T123 l0 x9_1).f2.f0)) hx122_1 hn122_0
              replace hx122_2 := cfy (p := ⟨gb116, 0, none⟩) (.int .i64 ((rd_T123 l0 x9_1).f2.f0)) hx122_2 hn122_0
              replace hx122_3 := cfy (p := ⟨gb116, 0, none⟩) (.int .i64 ((rd_T123 l0 x9_1).f2.f0)) hx122_3 hn122_0
              replace hx122_4 := cfy (p := ⟨gb116, 0, none⟩) (.int .i64 ((rd_T123 l0 x9_1).f2.f0)) hx122_4 hn122_0
              replace hx122_5 := cfy (p := ⟨gb116, 0, none⟩) (.int .i64 ((rd_T123 l0 x9_1).f2.f0)) hx122_5 hn122_0
              replace hx122_6 := cfy (p := ⟨gb116, 0, none⟩) (.int .i64 ((rd_T123 l0 x9_1).f2.f0)) hx122_6 hn122_0
              replace hx122_7 := cfy (p := ⟨gb116, 0, none⟩) (.int .i64 ((rd_T123 l0 x9_1).f2.f0)) hx122_7 hn122_0
              replace hx122_0 := cfx (p := ⟨gb116, 1, none⟩) (.string ((rd_T123 l0 x9_1).f2.f1)) hx122_0 hn122_1
              replace hx122_1 := cfy (p := ⟨gb116, 1, none⟩) (.string ((rd_T123 l0 x9_1).f2.f1)) hx122_1 hn122_1
              replace hx122_2 := cfy (p := ⟨gb116, 1, none⟩) (.string ((rd_T123 l0 x9_1).f2.f1)) hx122_2 hn122_1
              replace hx122_3 := cfy (p := ⟨gb116, 1, none⟩) (.string ((rd_T123 l0 x9_1).f2.f1)) hx122_3 hn122_1
              replace hx122_4 := cfy (p := ⟨gb116, 1, none⟩) (.string ((rd_T123 l0 x9_1).f2.f1)) hx122_4 hn122_1
              replace hx122_5 := cfy (p := ⟨gb116, 1, none⟩) (.string ((rd_T123 l0 x9_1).f2.f1)) hx122_5 hn122_1
              replace hx122_6 := cfy (p := ⟨gb116, 1, none⟩) (.string ((rd_T123 l0 x9_1).f2.f1)) hx122_6 hn122_1
              replace hx122_7 := cfy (p := ⟨gb116, 1, none⟩) (.string ((rd_T123 l0 x9_1).f2.f1)) hx122_7 hn122_1
              replace hx122_0 := cfx (p := ⟨gb116, 2, none⟩) (.string ((rd_T123 l0 x9_1).f2.f2)) hx122_0 hn122_2
              replace hx122_1 := cfy (p := ⟨gb116, 2, none⟩) (.string ((rd_T123 l0 x9_1).f2.f2)) hx122_1 hn122_2
              replace hx122_2 := cfy (p := ⟨gb116, 2, none⟩) (.string ((rd_T123 l0 x9_1).f2.f2)) hx122_2 hn122_2
              replace hx122_3 := cfy (p := ⟨gb116, 2, none⟩) (.string ((rd_T123 l0 x9_1).f2.f2)) hx122_3 hn122_2
              replace hx122_4 := cfy (p := ⟨gb116, 2, none⟩) (.string ((rd_T123 l0 x9_1).f2.f2)) hx122_4 hn122_2
              replace hx122_5 := cfy (p := ⟨gb116, 2, none⟩) (.string ((rd_T123 l0 x9_1).f2.f2)) hx122_5 hn122_2
              replace hx122_6 := cfy (p := ⟨gb116, 2, none⟩) (.string ((rd_T123 l0 x9_1).f2.f2)) hx122_6 hn122_2
              replace hx122_7 := cfy (p := ⟨gb116, 2, none⟩) (.string ((rd_T123 l0 x9_1).f2.f2)) hx122_7 hn122_2
              replace hx122_0 := cfx (p := ⟨gb116, 3, none⟩) (.int .i64 ((rd_T123 l0 x9_1).f2.f3)) hx122_0 hn122_3
              replace hx122_1 := cfy (p := ⟨gb116, 3, none⟩) (.int .i64 ((rd_T123 l0 x9_1).f2.f3)) hx122_1 hn122_3
              replace hx122_2 := cfy (p := ⟨gb116, 3, none⟩) (.int .i64 ((rd_T123 l0 x9_1).f2.f3)) hx122_2 hn122_3
              replace hx122_3 := cfy (p := ⟨gb116, 3, none⟩) (.int .i64 ((rd_T123 l0 x9_1).f2.f3)) hx122_3 hn122_3
              replace hx122_4 := cfy (p := ⟨gb116, 3, none⟩) (.int .i64 ((rd_T123 l0 x9_1).f2.f3)) hx122_4 hn122_3
              replace hx122_5 := cfy (p := ⟨gb116, 3, none⟩) (.int .i64 ((rd_T123 l0 x9_1).f2.f3)) hx122_5 hn122_3
              replace hx122_6 := cfy (p := ⟨gb116, 3, none⟩) (.int .i64 ((rd_T123 l0 x9_1).f2.f3)) hx122_6 hn122_3
              replace hx122_7 := cfy (p := ⟨gb116, 3, none⟩) (.int .i64 ((rd_T123 l0 x9_1).f2.f3)) hx122_7 hn122_3
              replace hx122_0 := cfx (p := ⟨gb116, 4, none⟩) (.int .i64 ((rd_T123 l0 x9_1).f2.f4)) hx122_0 hn122_4
              replace hx122_1 := cfy (p := ⟨gb116, 4, none⟩) (.int .i64 ((rd_T123 l0 x9_1).f2.f4)) hx122_1 hn122_4
              replace hx122_2 := cfy (p := ⟨gb116, 4, none⟩) (.int .i64 ((rd_T123 l0 x9_1).f2.f4)) hx122_2 hn122_4
              replace hx122_3 := cfy (p := ⟨gb116, 4, none⟩) (.int .i64 ((rd_T123 l0 x9_1).f2.f4)) hx122_3 hn122_4
              replace hx122_4 := cfy (p := ⟨gb116, 4, none⟩) (.int .i64 ((rd_T123 l0 x9_1).f2.f4)) hx122_4 hn122_4
              replace hx122_5 := cfy (p := ⟨gb116, 4, none⟩) (.int .i64 ((rd_T123 l0 x9_1).f2.f4)) hx122_5 hn122_4
              replace hx122_6 := cfy (p := ⟨gb116, 4, none⟩) (.int .i64 ((rd_T123 l0 x9_1).f2.f4)) hx122_6 hn122_4
              replace hx122_7 := cfy (p := ⟨gb116, 4, none⟩) (.int .i64 ((rd_T123 l0 x9_1).f2.f4)) hx122_7 hn122_4
              replace hx122_0 := cfx (p := ⟨gb116, 5, none⟩) (.string ((rd_T123 l0 x9_1).f2.f5)) hx122_0 hn122_5
              replace hx122_1 := cfy (p := ⟨gb116, 5, none⟩) (.string ((rd_T123 l0 x9_1).f2.f5)) hx122_1 hn122_5
              replace hx122_2 := cfy (p := ⟨gb116, 5, none⟩) (.string ((rd_T123 l0 x9_1).f2.f5)) hx122_2 hn122_5
              replace hx122_3 := cfy (p := ⟨gb116, 5, none⟩) (.string ((rd_T123 l0 x9_1).f2.f5)) hx122_3 hn122_5
              replace hx122_4 := cfy (p := ⟨gb116, 5, none⟩) (.string ((rd_T123 l0 x9_1).f2.f5)) hx122_4 hn122_5
              replace hx122_5 := cfy (p := ⟨gb116, 5, none⟩) (.string ((rd_T123 l0 x9_1).f2.f5)) hx122_5 hn122_5
              replace hx122_6 := cfy (p := ⟨gb116, 5, none⟩) (.string ((rd_T123 l0 x9_1).f2.f5)) hx122_6 hn122_5
              replace hx122_7 := cfy (p := ⟨gb116, 5, none⟩) (.string ((rd_T123 l0 x9_1).f2.f5)) hx122_7 hn122_5
              clear hn122_0
              clear hn122_1
              clear hn122_2
              clear hn122_3
              clear hn122_4
              clear hn122_5
              replace p122 := eq_true p122
              replace q122 := eq_true q122
              go_wp2_with (first | ((with_reducible refine gate_builtin (b := .append) (xs := #[.tmp 66, .tmp 68]) rfl ?_); at_builtin; refine Kd.R_append k42 (w0 := w) w.heap.size rfl (.tmp 66) (.tmp 68) 26 42 (.agg #[(.int .i64 0), (.string ⟨#[]⟩), (.string ⟨#[]⟩), (.int .i64 0), (.int .i64 0), (.string ⟨#[]⟩)]) 72 rfl Try.underlying26 info42 rfl (by decide) (by omega) u7 x7_1 (⟨(rd_T123 l0 x9_1).f2.f0, (rd_T123 l0 x9_1).f2.f1, (rd_T123 l0 x9_1).f2.f2, (rd_T123 l0 x9_1).f2.f3, (rd_T123 l0 x9_1).f2.f4, (rd_T123 l0 x9_1).f2.f5⟩ : S42) [.int .i64 ((rd_T123 l0 x9_1).f2.f0), .string ((rd_T123 l0 x9_1).f2.f1), .string ((rd_T123 l0 x9_1).f2.f2), .int .i64 ((rd_T123 l0 x9_1).f2.f3), .int .i64 ((rd_T123 l0 x9_1).f2.f4), .string ((rd_T123 l0 x9_1).f2.f5)] (fun k_ => k_ ≠ gb116) (fun _ => False) rfl (by first | (go_simp; done) | (go_simp; rfl)) ?aP (fun _ hk => hk.elim) ?aF ?aO ?aB ?aS ?aL ?_; (case aP => exact k42_mkM _ _ _ (⟨(rd_T123 l0 x9_1).f2.f0, (rd_T123 l0 x9_1).f2.f1, (rd_T123 l0 x9_1).f2.f2, (rd_T123 l0 x9_1).f2.f3, (rd_T123 l0 x9_1).f2.f4, (rd_T123 l0 x9_1).f2.f5⟩ : S42)); (case aB => exact (by repeat (first | (with_reducible first | exact HB.out | apply ba | apply bn | apply be | refine bs ?_ GE116.out) | exact HB.out))); (case aF => exact (fun k_ hk => Kd.freshB (g := gb116) (o := .cells #[.int .i64 ((rd_T123 l0 x9_1).f2.f0), .string ((rd_T123 l0 x9_1).f2.f1), .string ((rd_T123 l0 x9_1).f2.f2), .int .i64 ((rd_T123 l0 x9_1).f2.f3), .int .i64 ((rd_T123 l0 x9_1).f2.f4), .string ((rd_T123 l0 x9_1).f2.f5)] 42 (0, 0)) (by (with_reducible repeat (first | refine kn ?_ _ | refine ke ?_ | refine ka ?_ _)); refine kp (cs := #[.int .i64 ((rd_T123 l0 x9_1).f2.f0), .string ((rd_T123 l0 x9_1).f2.f1), .string ((rd_T123 l0 x9_1).f2.f2), .int .i64 ((rd_T123 l0 x9_1).f2.f3), .int .i64 ((rd_T123 l0 x9_1).f2.f4), .string x117005_1]) ?_ 5 _ rfl; (with_reducible repeat (first | refine kn ?_ _ | refine ke ?_ | refine ka ?_ _)); refine kp (cs := #[.int .i64 ((rd_T123 l0 x9_1).f2.f0), .string ((rd_T123 l0 x9_1).f2.f1), .string ((rd_T123 l0 x9_1).f2.f2), .int .i64 ((rd_T123 l0 x9_1).f2.f3), .int .i64 x117004_1, .string x117005_1]) ?_ 4 _ rfl; (with_reducible repeat (first | refine kn ?_ _ | refine ke ?_ | refine ka ?_ _)); refine kp (cs := #[.int .i64 ((rd_T123 l0 x9_1).f2.f0), .string ((rd_T123 l0 x9_1).f2.f1), .string ((rd_T123 l0 x9_1).f2.f2), .int .i64 x117003_1, .int .i64 x117004_1, .string x117005_1]) ?_ 3 _ rfl; (with_reducible repeat (first | refine kn ?_ _ | refine ke ?_ | refine ka ?_ _)); refine kp (cs := #[.int .i64 ((rd_T123 l0 x9_1).f2.f0), .string ((rd_T123 l0 x9_1).f2.f1), .string x117002_1, .int .i64 x117003_1, .int .i64 x117004_1, .string x117005_1]) ?_ 2 _ rfl; (with_reducible repeat (first | refine kn ?_ _ | refine ke ?_ | refine ka ?_ _)); refine kp (cs := #[.int .i64 ((rd_T123 l0 x9_1).f2.f0), .string x117001_1, .string x117002_1, .int .i64 x117003_1, .int .i64 x117004_1, .string x117005_1]) ?_ 1 _ rfl; (with_reducible repeat (first | refine kn ?_ _ | refine ke ?_ | refine ka ?_ _)); refine kp (cs := #[.int .i64 x117000_1, .string x117001_1, .string x117002_1, .int .i64 x117003_1, .int .i64 x117004_1, .string x117005_1]) ?_ 0 _ rfl; (with_reducible repeat (first | refine kn ?_ _ | refine ke ?_ | refine ka ?_ _)); exact BK116.out) k_ hk)); (case aO => exact (by (with_reducible repeat (first | apply ra | apply rn | apply re)); exact Kd.R_mono (Kd.R_far (p := ⟨gb116, 5, none⟩) (Kd.R_far (p := ⟨gb116, 4, none⟩) (Kd.R_far (p := ⟨gb116, 3, none⟩) (Kd.R_far (p := ⟨gb116, 2, none⟩) (Kd.R_far (p := ⟨gb116, 1, none⟩) (Kd.R_far (p := ⟨gb116, 0, none⟩) (Kd.R_mono HO_7.out (fun k_ hk => (⟨hk, hk⟩ : _ ∧ k_ ≠ gb116))) (fun _ hk => hk.2) (.int .i64 ((rd_T123 l0 x9_1).f2.f0))) (fun _ hk => hk.2) (.string ((rd_T123 l0 x9_1).f2.f1))) (fun _ hk => hk.2) (.string ((rd_T123 l0 x9_1).f2.f2))) (fun _ hk => hk.2) (.int .i64 ((rd_T123 l0 x9_1).f2.f3))) (fun _ hk => hk.2) (.int .i64 ((rd_T123 l0 x9_1).f2.f4))) (fun _ hk => hk.2) (.string ((rd_T123 l0 x9_1).f2.f5))) (fun _ hk => hk.1))); (case aS => exact (bz (by repeat (first | (with_reducible first | exact HB.out | apply ba | apply bn | apply be | refine bs ?_ GE116.out) | exact HB.out)))); (case aL => have := LMc22.out; omega); intro v124 w24 ho hb hg hat; rw [← Ny123.out] at ho; have n0_ := Am (kg (g := gb116) (o := .cells #[.int .i64 ((rd_T123 l0 x9_1).f2.f0), .string ((rd_T123 l0 x9_1).f2.f1), .string ((rd_T123 l0 x9_1).f2.f2), .int .i64 ((rd_T123 l0 x9_1).f2.f3), .int .i64 ((rd_T123 l0 x9_1).f2.f4), .string ((rd_T123 l0 x9_1).f2.f5)] 42 (0, 0)) (by (with_reducible repeat (first | refine kn ?_ _ | refine ke ?_ | refine ka ?_ _)); refine kp (cs := #[.int .i64 ((rd_T123 l0 x9_1).f2.f0), .string ((rd_T123 l0 x9_1).f2.f1), .string ((rd_T123 l0 x9_1).f2.f2), .int .i64 ((rd_T123 l0 x9_1).f2.f3), .int .i64 ((rd_T123 l0 x9_1).f2.f4), .string x117005_1]) ?_ 5 _ rfl; (with_reducible repeat (first | refine kn ?_ _ | refine ke ?_ | refine ka ?_ _)); refine kp (cs := #[.int .i64 ((rd_T123 l0 x9_1).f2.f0), .string ((rd_T123 l0 x9_1).f2.f1), .string ((rd_T123 l0 x9_1).f2.f2), .int .i64 ((rd_T123 l0 x9_1).f2.f3), .int .i64 x117004_1, .string x117005_1]) ?_ 4 _ rfl; (with_reducible repeat (first | refine kn ?_ _ | refine ke ?_ | refine ka ?_ _)); refine kp (cs := #[.int .i64 ((rd_T123 l0 x9_1).f2.f0), .string ((rd_T123 l0 x9_1).f2.f1), .string ((rd_T123 l0 x9_1).f2.f2), .int .i64 x117003_1, .int .i64 x117004_1, .string x117005_1]) ?_ 3 _ rfl; (with_reducible repeat (first | refine kn ?_ _ | refine ke ?_ | refine ka ?_ _)); refine kp (cs := #[.int .i64 ((rd_T123 l0 x9_1).f2.f0), .string ((rd_T123 l0 x9_1).f2.f1), .string x117002_1, .int .i64 x117003_1, .int .i64 x117004_1, .string x117005_1]) ?_ 2 _ rfl; (with_reducible repeat (first | refine kn ?_ _ | refine ke ?_ | refine ka ?_ _)); refine kp (cs := #[.int .i64 ((rd_T123 l0 x9_1).f2.f0), .string x117001_1, .string x117002_1, .int .i64 x117003_1, .int .i64 x117004_1, .string x117005_1]) ?_ 1 _ rfl; (with_reducible repeat (first | refine kn ?_ _ | refine ke ?_ | refine ka ?_ _)); refine kp (cs := #[.int .i64 x117000_1, .string x117001_1, .string x117002_1, .int .i64 x117003_1, .int .i64 x117004_1, .string x117005_1]) ?_ 0 _ rfl; (with_reducible repeat (first | refine kn ?_ _ | refine ke ?_ | refine ka ?_ _)); exact BK116.out) hg (Kd.R_away HO_7.out (fun _ hk => hk))); have n1_ := Am (hb); have n2_ := Am (ho); clear BK116; clear HB; clear HO_7; have BK116 := n0_; have HB := n1_; have HO125 := n2_; clear n0_ n1_ n2_; clear ho hb hg hat))
              go_roundg kj9
              case measure => have := HK1.out; have := HJ9.out; omega
              case rel => exact ⟨(y123), (wrap64 (x9_1 + 1)), ((rd_T123 l0 x9_1).f2.f0), ((rd_T123 l0 x9_1).f2.f1), ((rd_T123 l0 x9_1).f2.f2), ((rd_T123 l0 x9_1).f2.f3), ((rd_T123 l0 x9_1).f2.f4), ((rd_T123 l0 x9_1).f2.f5), (by first | rfl | (simp; done) | (simp [*]; done)), H', ⟨by have := HK1.out; have := HJ9.out; omega⟩, ⟨by (with_reducible repeat (first | apply ra | apply rn | apply re)); exact HO125.out⟩, ⟨by (with_reducible repeat (first | refine kn ?_ _ | refine ke ?_ | refine ka ?_ _)); exact BK116.out⟩, ⟨by repeat (first | (with_reducible first | exact HB.out | apply ba | apply bn | apply be | refine bs ?_ GE116.out) | exact HB.out)⟩⟩
             ·rw [if_neg c22] at H
              exact absurd H (by simp)
            ·rw [if_neg c21] at H
             have c21b0 : (((rd_T125 l1 x9_1).f1) == a2) = false := beq_eq_false_iff_ne.mpr c21
             have c21b1 : (((rd_T125 l1 x9_1).f1) != a2) = true := bne_iff_ne.mpr c21
             have H' := Am H
             clear H
             have p120 : 0 ≤ (x9_1 : Int) := of_decide_eq_true (by first | (with_reducible assumption) | assumption)
             have q120 : x9_1 < (l0.length : Int) := of_decide_eq_true (by first | (with_reducible assumption) | assumption)
             obtain ⟨ad120, e120, hx120_0, hx120_1, hx120_2, hx120_3, hx120_4, hx120_5, hx120_6, hx120_7, hx120_8⟩ := at_T123 HR0.out x9_1 p120 q120
             cases e120
             replace hx120_0 := cl2 HB hx120_0
             replace hx120_1 := cl2 HB hx120_1
             replace hx120_2 := cl2 HB hx120_2
             replace hx120_3 := cl2 HB hx120_3
             replace hx120_4 := cl2 HB hx120_4
             replace hx120_5 := cl2 HB hx120_5
             replace hx120_6 := cl2 HB hx120_6
             replace hx120_7 := cl2 HB hx120_7
             replace hx120_8 := cl2 HB hx120_8
             replace p120 := eq_true p120
             replace q120 := eq_true q120
             have hcz25_0 : wc.cell? ⟨gb116, 0, none⟩ = some (.int .i64 x117000_1) := (kc BK116.out 0).trans rfl
             have hcz25_1 : wc.cell? ⟨gb116, 1, none⟩ = some (.string x117001_1) := (kc BK116.out 1).trans rfl
             have hcz25_2 : wc.cell? ⟨gb116, 2, none⟩ = some (.string x117002_1) := (kc BK116.out 2).trans rfl
             have hcz25_3 : wc.cell? ⟨gb116, 3, none⟩ = some (.int .i64 x117003_1) := (kc BK116.out 3).trans rfl
             have hcz25_4 : wc.cell? ⟨gb116, 4, none⟩ = some (.int .i64 x117004_1) := (kc BK116.out 4).trans rfl
             have hcz25_5 : wc.cell? ⟨gb116, 5, none⟩ = some (.string x117005_1) := (kc BK116.out 5).trans rfl
             have hfz25_0 := kf BK116.out 0
             have hfz25_1 := kf BK116.out 1
             have hfz25_2 := kf BK116.out 2
             have hfz25_3 := kf BK116.out 3
             have hfz25_4 := kf BK116.out 4
             have hfz25_5 := kf BK116.out 5
             have p121 : 0 ≤ (x9_1 : Int) := of_decide_eq_true (by first | (with_reducible assumption) | assumption)
             have q121 : x9_1 < (l1.length : Int) := of_decide_eq_true (by first | (with_reducible assumption) | assumption)
             obtain ⟨ad121, A121_7, c121_7, e121, hx121_0, hx121_1, hx121_2, hx121_3, hx121_4, hx121_5, hx121_6, hx121_7, hl121_7, hi121_7⟩ := at_T125 HR1.out x9_1 p121 q121
             (try rw [← Nbq19.out] at hx121_2)
             (try rw [← Nbq19.out] at hx121_6)
             cases e121
             have hn121_0 : ad121.block ≠ gb116 := Nat.ne_of_lt (Nat.lt_of_lt_of_le (by have := World.block_lt_of_cell? _ _ hx121_0; first | rwa [add_block] at this | exact this) GW116.out)
             have hn121_1 : ad121.block ≠ gb116 := Nat.ne_of_lt (Nat.lt_of_lt_of_le (by have := World.block_lt_of_cell? _ _ hx121_0; first | rwa [add_block] at this | exact this) GW116.out)
             have hn121_2 : ad121.block ≠ gb116 := Nat.ne_of_lt (Nat.lt_of_lt_of_le (by have := World.block_lt_of_cell? _ _ hx121_0; first | rwa [add_block] at this | exact this) GW116.out)
             have hn121_3 : ad121.block ≠ gb116 := Nat.ne_of_lt (Nat.lt_of_lt_of_le (by have := World.block_lt_of_cell? _ _ hx121_0; first | rwa [add_block] at this | exact this) GW116.out)
             have hn121_4 : ad121.block ≠ gb116 := Nat.ne_of_lt (Nat.lt_of_lt_of_le (by have := World.block_lt_of_cell? _ _ hx121_0; first | rwa [add_block] at this | exact this) GW116.out)
             have hn121_5 : ad121.block ≠ gb116 := Nat.ne_of_lt (Nat.lt_of_lt_of_le (by have := World.block_lt_of_cell? _ _ hx121_0; first | rwa [add_block] at this | exact this) GW116.out)
             replace hx121_0 := cl2 HB hx121_0
             replace hx121_1 := cl2 HB hx121_1
             replace hx121_2 := cl2 HB hx121_2
             replace hx121_3 := cl2 HB hx121_3
             replace hx121_4 := cl2 HB hx121_4
             replace hx121_5 := cl2 HB hx121_5
             replace hx121_6 := cl2 HB hx121_6
             replace hx121_7 := cl2 HB hx121_7
             have HR121_7 := Am hi121_7
             have HC121_7 := Am hl121_7
             clear hi121_7 hl121_7
             replace hx121_0 := cfx (p := ⟨gb116, 0, none⟩) (.int .i64 ((rd_T123 l0 x9_1).f2.f0)) hx121_0 hn121_0
             replace hx121_1 := cfy (p := ⟨gb116, 0, none⟩) (.int .i64 ((rd_T123 l0 x9_1).f2.f0)) hx121_1 hn121_0
             replace hx121_2 := cfy (p := ⟨gb116, 0, none⟩) (.int .i64 ((rd_T123 l0 x9_1).f2.f0)) hx121_2 hn121_0
             replace hx121_3 := cfy (p := ⟨gb116, 0, none⟩) (.int .i64 ((rd_T123 l0 x9_1).f2.f0)) hx121_3 hn121_0
             replace hx121_4 := cfy (p := ⟨gb116, 0, none⟩) (.int .i64 ((rd_T123 l0 x9_1).f2.f0)) hx121_4 hn121_0
             replace hx121_5 := cfy (p := ⟨gb116, 0, none⟩) (.int .i64 ((rd_T123 l0 x9_1).f2.f0)) hx121_5 hn121_0
             replace hx121_6 := cfy (p := ⟨gb116, 0, none⟩) (.int .i64 ((rd_T123 l0 x9_1).f2.f0)) hx121_6 hn121_0
             replace hx121_7 := cfy (p := ⟨gb116, 0, none⟩) (.int .i64 ((rd_T123 l0 x9_1).f2.f0)) hx121_7 hn121_0
             replace hx121_0 := cfx (p := ⟨gb116, 1, none⟩) (.string ((rd_T123 l0 x9_1).f2.f1)) hx121_0 hn121_1
             replace hx121_1 := cfy (p := ⟨gb116, 1, none⟩) (.string ((rd_T123 l0 x9_1).f2.f1)) hx121_1 hn121_1
             replace hx121_2 := cfy (p := ⟨gb116, 1, none⟩) (.string ((rd_T123 l0 x9_1).f2.f1)) hx121_2 hn121_1
             replace hx121_3 := cfy (p := ⟨gb116, 1, none⟩) (.string ((rd_T123 l0 x9_1).f2.f1)) hx121_3 hn121_1
             replace hx121_4 := cfy (p := ⟨gb116, 1, none⟩) (.string ((rd_T123 l0 x9_1).f2.f1)) hx121_4 hn121_1
             replace hx121_5 := cfy (p := ⟨gb116, 1, none⟩) (.string ((rd_T123 l0 x9_1).f2.f1)) hx121_5 hn121_1
             replace hx121_6 := cfy (p := ⟨gb116, 1, none⟩) (.string ((rd_T123 l0 x9_1).f2.f1)) hx121_6 hn121_1
             replace hx121_7 := cfy (p := ⟨gb116, 1, none⟩) (.string ((rd_T123 l0 x9_1).f2.f1)) hx121_7 hn121_1
             replace hx121_0 := cfx (p := ⟨gb116, 2, none⟩) (.string ((rd_T123 l0 x9_1).f2.f2)) hx121_0 hn121_2
             replace hx121_1 := cfy (p := ⟨gb116, 2, none⟩) (.string ((rd_T123 l0 x9_1).f2.f2)) hx121_1 hn121_2
             replace hx121_2 := cfy (p := ⟨gb116, 2, none⟩) (.string ((rd_T123 l0 x9_1).f2.f2)) hx121_2 hn121_2
             replace hx121_3 := cfy (p := ⟨gb116, 2, none⟩) (.string ((rd_T123 l0 x9_1).f2.f2)) hx121_3 hn121_2
             replace hx121_4 := cfy (p := ⟨gb116, 2, none⟩) (.string ((rd_T123 l0 x9_1).f2.f2)) hx121_4 hn121_2
             replace hx121_5 := cfy (p := ⟨gb116, 2, none⟩) (.string ((rd_T123 l0 x9_1).f2.f2)) hx121_5 hn121_2
             replace hx121_6 := cfy (p := ⟨gb116, 2, none⟩) (.string ((rd_T123 l0 x9_1).f2.f2)) hx121_6 hn121_2
             replace hx121_7 := cfy (p := ⟨gb116, 2, none⟩) (.string ((rd_T123 l0 x9_1).f2.f2)) hx121_7 hn121_2
             replace hx121_0 := cfx (p := ⟨gb116, 3, none⟩) (.int .i64 ((rd_T123 l0 x9_1).f2.f3)) hx121_0 hn121_3
             replace hx121_1 := cfy (p := ⟨gb116, 3, none⟩) (.int .i64 ((rd_T123 l0 x9_1).f2.f3)) hx121_1 hn121_3
             replace hx121_2 := cfy (p := ⟨gb116, 3, none⟩) (.int .i64 ((rd_T123 l0 x9_1).f2.f3)) hx121_2 hn121_3
             replace hx121_3 := cfy (p := ⟨gb116, 3, none⟩) (.int .i64 ((rd_T123 l0 x9_1).f2.f3)) hx121_3 hn121_3
             replace hx121_4 := cfy (p := ⟨gb116, 3, none⟩) (.int .i64 ((rd_T123 l0 x9_1).f2.f3)) hx121_4 hn121_3
             replace hx121_5 := cfy (p := ⟨gb116, 3, none⟩) (.int .i64 ((rd_T123 l0 x9_1).f2.f3)) hx121_5 hn121_3
             replace hx121_6 := cfy (p := ⟨gb116, 3, none⟩) (.int .i64 ((rd_T123 l0 x9_1).f2.f3)) hx121_6 hn121_3
             replace hx121_7 := cfy (p := ⟨gb116, 3, none⟩) (.int .i64 ((rd_T123 l0 x9_1).f2.f3)) hx121_7 hn121_3
             replace hx121_0 := cfx (p := ⟨gb116, 4, none⟩) (.int .i64 ((rd_T123 l0 x9_1).f2.f4)) hx121_0 hn121_4
             replace hx121_1 := cfy (p := ⟨gb116, 4, none⟩) (.int .i64 ((rd_T123 l0 x9_1).f2.f4)) hx121_1 hn121_4
             replace hx121_2 := cfy (p := ⟨gb116, 4, none⟩) (.int .i64 ((rd_T123 l0 x9_1).f2.f4)) hx121_2 hn121_4
             replace hx121_3 := cfy (p := ⟨gb116, 4, none⟩) (.int .i64 ((rd_T123 l0 x9_1).f2.f4)) hx121_3 hn121_4
             replace hx121_4 := cfy (p := ⟨gb116, 4, none⟩) (.int .i64 ((rd_T123 l0 x9_1).f2.f4)) hx121_4 hn121_4
             replace hx121_5 := cfy (p := ⟨gb116, 4, none⟩) (.int .i64 ((rd_T123 l0 x9_1).f2.f4)) hx121_5 hn121_4
             replace hx121_6 := cfy (p := ⟨gb116, 4, none⟩) (.int .i64 ((rd_T123 l0 x9_1).f2.f4)) hx121_6 hn121_4
             replace hx121_7 := cfy (p := ⟨gb116, 4, none⟩) (.int .i64 ((rd_T123 l0 x9_1).f2.f4)) hx121_7 hn121_4
             replace hx121_0 := cfx (p := ⟨gb116, 5, none⟩) (.string ((rd_T123 l0 x9_1).f2.f5)) hx121_0 hn121_5
             replace hx121_1 := cfy (p := ⟨gb116, 5, none⟩) (.string ((rd_T123 l0 x9_1).f2.f5)) hx121_1 hn121_5
             replace hx121_2 := cfy (p := ⟨gb116, 5, none⟩) (.string ((rd_T123 l0 x9_1).f2.f5)) hx121_2 hn121_5
             replace hx121_3 := cfy (p := ⟨gb116, 5, none⟩) (.string ((rd_T123 l0 x9_1).f2.f5)) hx121_3 hn121_5
             replace hx121_4 := cfy (p := ⟨gb116, 5, none⟩) (.string ((rd_T123 l0 x9_1).f2.f5)) hx121_4 hn121_5
             replace hx121_5 := cfy (p := ⟨gb116, 5, none⟩) (.string ((rd_T123 l0 x9_1).f2.f5)) hx121_5 hn121_5
             replace hx121_6 := cfy (p := ⟨gb116, 5, none⟩) (.string ((rd_T123 l0 x9_1).f2.f5)) hx121_6 hn121_5
             replace hx121_7 := cfy (p := ⟨gb116, 5, none⟩) (.string ((rd_T123 l0 x9_1).f2.f5)) hx121_7 hn121_5
             clear hn121_0
             clear hn121_1
             clear hn121_2
             clear hn121_3
             clear hn121_4
             clear hn121_5
             replace p121 := eq_true p121
             replace q121 := eq_true q121
             have p122 : 0 ≤ (x9_1 : Int) := of_decide_eq_true (by first | (with_reducible assumption) | assumption)
             have q122 : x9_1 < (l1.length : Int) := of_decide_eq_true (by first | (with_reducible assumption) | assumption)
             obtain ⟨ad122, A122_7, c122_7, e122, hx122_0, hx122_1, hx122_2, hx122_3, hx122_4, hx122_5, hx122_6, hx122_7, hl122_7, hi122_7⟩ := at_T125 HR1.out x9_1 p122 q122
             (try rw [← Nbq19.out] at hx122_2)
             (try rw [← Nbq19.out] at hx122_6)
             obtain rfl : ad121 = ad122 := (by injection e122)
             have hn122_0 : ad121.block ≠ gb116 := Nat.ne_of_lt (Nat.lt_of_lt_of_le (by have := World.block_lt_of_cell? _ _ hx122_0; first | rwa [add_block] at this | exact this) GW116.out)
             have hn122_1 : ad121.block ≠ gb116 := Nat.ne_of_lt (Nat.lt_of_lt_of_le (by have := World.block_lt_of_cell? _ _ hx122_0; first | rwa [add_block] at this | exact this) GW116.out)
             have hn122_2 : ad121.block ≠ gb116 := Nat.ne_of_lt (Nat.lt_of_lt_of_le (by have := World.block_lt_of_cell? _ _ hx122_0; first | rwa [add_block] at this | exact this) GW116.out)
             have hn122_3 : ad121.block ≠ gb116 := Nat.ne_of_lt (Nat.lt_of_lt_of_le (by have := World.block_lt_of_cell? _ _ hx122_0; first | rwa [add_block] at this | exact this) GW116.out)
             have hn122_4 : ad121.block ≠ gb116 := Nat.ne_of_lt (Nat.lt_of_lt_of_le (by have := World.block_lt_of_cell? _ _ hx122_0; first | rwa [add_block] at this | exact this) GW116.out)
             have hn122_5 : ad121.block ≠ gb116 := Nat.ne_of_lt (Nat.lt_of_lt_of_le (by have := World.block_lt_of_cell? _ _ hx122_0; first | rwa [add_block] at this | exact this) GW116.out)
             replace hx122_0 := cl2 HB hx122_0
             replace hx122_1 := cl2 HB hx122_1
             replace hx122_2 := cl2 HB hx122_2
             replace hx122_3 := cl2 HB hx122_3
             replace hx122_4 := cl2 HB hx122_4
             replace hx122_5 := cl2 HB hx122_5
             replace hx122_6 := cl2 HB hx122_6
             replace hx122_7 := cl2 HB hx122_7
             have HR122_7 := Am hi122_7
             have HC122_7 := Am hl122_7
             clear hi122_7 hl122_7
             replace hx122_0 := cfx (p := ⟨gb116, 0, none⟩) (.int .i64 ((rd_T123 l0 x9_1).f2.f0)) hx122_0 hn122_0
             replace hx122_1 := cfy (p := ⟨gb116, 0, none⟩) (.int .i64 ((rd_T123 l0 x9_1).f2.f0)) hx122_1 hn122_0
             replace hx122_2 := cfy (p := ⟨gb116, 0, none⟩) (.int .i64 ((rd_T123 l0 x9_1).f2.f0)) hx122_2 hn122_0
             replace hx122_3 := cfy (p := ⟨gb116, 0, none⟩) (.int .i64 ((rd_T123 l0 x9_1).f2.f0)) hx122_3 hn122_0
             replace hx122_4 := cfy (p := ⟨gb116, 0, none⟩) (.int .i64 ((rd_T123 l0 x9_1).f2.f0)) hx122_4 hn122_0
             replace hx122_5 := cfy (p := ⟨gb116, 0, none⟩) (.int .i64 ((rd_T123 l0 x9_1).f2.f0)) hx122_5 hn122_0
             replace hx122_6 := cfy (p := ⟨gb116, 0, none⟩) (.int .i64 ((rd_T123 l0 x9_1).f2.f0)) hx122_6 hn122_0
             replace hx122_7 := cfy (p := ⟨gb116, 0, none⟩) (.int .i64 ((rd_T123 l0 x9_1).f2.f0)) hx122_7 hn122_0
             replace hx122_0 := cfx (p := ⟨gb116, 1, none⟩) (.string ((rd_T123 l0 x9_1).f2.f1)) hx122_0 hn122_1
             replace hx122_1 := cfy (p := ⟨gb116, 1, none⟩) (.string ((rd_T123 l0 x9_1).f2.f1)) hx122_1 hn122_1
             replace hx122_2 := cfy (p := ⟨gb116, 1, none⟩) (.string ((rd_T123 l0 x9_1).f2.f1)) hx122_2 hn122_1
             replace hx122_3 := cfy (p := ⟨gb116, 1, none⟩) (.string ((rd_T123 l0 x9_1).f2.f1)) hx122_3 hn122_1
             replace hx122_4 := cfy (p := ⟨gb116, 1, none⟩) (.string ((rd_T123 l0 x9_1).f2.f1)) hx122_4 hn122_1
             replace hx122_5 := cfy (p := ⟨gb116, 1, none⟩) (.string ((rd_T123 l0 x9_1).f2.f1)) hx122_5 hn122_1
             replace hx122_6 := cfy (p := ⟨gb116, 1, none⟩) (.string ((rd_T123 l0 x9_1).f2.f1)) hx122_6 hn122_1
             replace hx122_7 := cfy (p := ⟨gb116, 1, none⟩) (.string ((rd_T123 l0 x9_1).f2.f1)) hx122_7 hn122_1
             replace hx122_0 := cfx (p := ⟨gb116, 2, none⟩) (.string ((rd_T123 l0 x9_1).f2.f2)) hx122_0 hn122_2
             replace hx122_1 := cfy (p := ⟨gb116, 2, none⟩) (.string ((rd_T123 l0 x9_1).f2.f2)) hx122_1 hn122_2
             replace hx122_2 := cfy (p := ⟨gb116, 2, none⟩) (.string ((rd_T123 l0 x9_1).f2.f2)) hx122_2 hn122_2
             replace hx122_3 := cfy (p := ⟨gb116, 2, none⟩) (.string ((rd_T123 l0 x9_1).f2.f2)) hx122_3 hn122_2
             replace hx122_4 := cfy (p := ⟨gb116, 2, none⟩) (.string ((rd_T123 l0 x9_1).f2.f2)) hx122_4 hn122_2
             replace hx122_5 := cfy (p := ⟨gb116, 2, none⟩) (.string ((rd_T123 l0 x9_1).f2.f2)) hx122_5 hn122_2
             replace hx122_6 := cfy (p := ⟨gb116, 2, none⟩) (.string ((rd_T123 l0 x9_1).f2.f2)) hx122_6 hn122_2
             replace hx122_7 := cfy (p := ⟨gb116, 2, none⟩) (.string ((rd_T123 l0 x9_1).f2.f2)) hx122_7 hn122_2
             replace hx122_0 := cfx (p := ⟨gb116, 3, none⟩) (.int .i64 ((rd_T123 l0 x9_1).f2.f3)) hx122_0 hn122_3
             replace hx122_1 := cfy (p := ⟨gb116, 3, none⟩) (.int .i64 ((rd_T123 l0 x9_1).f2.f3)) hx122_1 hn122_3
             replace hx122_2 := cfy (p := ⟨gb116, 3, none⟩) (.int .i64 ((rd_T123 l0 x9_1).f2.f3)) hx122_2 hn122_3
             replace hx122_3 := cfy (p := ⟨gb116, 3, none⟩) (.int .i64 ((rd_T123 l0 x9_1).f2.f3)) hx122_3 hn122_3
             replace hx122_4 := cfy (p := ⟨gb116, 3, none⟩) (.int .i64 ((rd_T123 l0 x9_1).f2.f3)) hx122_4 hn122_3
             replace hx122_5 := cfy (p := ⟨gb116, 3, none⟩) (.int .i64 ((rd_T123 l0 x9_1).f2.f3)) hx122_5 hn122_3
             replace hx122_6 := cfy (p := ⟨gb116, 3, none⟩) (.int .i64 ((rd_T123 l0 x9_1).f2.f3)) hx122_6 hn122_3
             replace hx122_7 := cfy (p := ⟨gb116, 3, none⟩) (.int .i64 ((rd_T123 l0 x9_1).f2.f3)) hx122_7 hn122_3
             replace hx122_0 := cfx (p := ⟨gb116, 4, none⟩) (.int .i64 ((rd_T123 l0 x9_1).f2.f4)) hx122_0 hn122_4
             replace hx122_1 := cfy (p := ⟨gb116, 4, none⟩) (.int .i64 ((rd_T123 l0 x9_1).f2.f4)) hx122_1 hn122_4
             replace hx122_2 := cfy (p := ⟨gb116, 4, none⟩) (.int .i64 ((rd_T123 l0 x9_1).f2.f4)) hx122_2 hn122_4
             replace hx122_3 := cfy (p := ⟨gb116, 4, none⟩) (.int .i64 ((rd_T123 l0 x9_1).f2.f4)) hx122_3 hn122_4
             replace hx122_4 := cfy (p := ⟨gb116, 4, none⟩) (.int .i64 ((rd_T123 l0 x9_1).f2.f4)) hx122_4 hn122_4
             replace hx122_5 := cfy (p := ⟨gb116, 4, none⟩) (.int .i64 ((rd_T123 l0 x9_1).f2.f4)) hx122_5 hn122_4
             replace hx122_6 := cfy (p := ⟨gb116, 4, none⟩) (.int .i64 ((rd_T123 l0 x9_1).f2.f4)) hx122_6 hn122_4
             replace hx122_7 := cfy (p := ⟨gb116, 4, none⟩) (.int .i64 ((rd_T123 l0 x9_1).f2.f4)) hx122_7 hn122_4
             replace hx122_0 := cfx (p := ⟨gb116, 5, none⟩) (.string ((rd_T123 l0 x9_1).f2.f5)) hx122_0 hn122_5
             replace hx122_1 := cfy (p := ⟨gb116, 5, none⟩) (.string ((rd_T123 l0 x9_1).f2.f5)) hx122_1 hn122_5
             replace hx122_2 := cfy (p := ⟨gb116, 5, none⟩) (.string ((rd_T123 l0 x9_1).f2.f5)) hx122_2 hn122_5
             replace hx122_3 := cfy (p := ⟨gb116, 5, none⟩) (.string ((rd_T123 l0 x9_1).f2.f5)) hx122_3 hn122_5
             replace hx122_4 := cfy (p := ⟨gb116, 5, none⟩) (.string ((rd_T123 l0 x9_1).f2.f5)) hx122_4 hn122_5
             replace hx122_5 := cfy (p := ⟨gb116, 5, none⟩) (.string ((rd_T123 l0 x9_1).f2.f5)) hx122_5 hn122_5
             replace hx122_6 := cfy (p := ⟨gb116, 5, none⟩) (.string ((rd_T123 l0 x9_1).f2.f5)) hx122_6 hn122_5
             replace hx122_7 := cfy (p := ⟨gb116, 5, none⟩) (.string ((rd_T123 l0 x9_1).f2.f5)) hx122_7 hn122_5
             clear hn122_0
             clear hn122_1
             clear hn122_2
             clear hn122_3
             clear hn122_4
             clear hn122_5
             replace p122 := eq_true p122
             replace q122 := eq_true q122
             go_wp2
             go_roundg kj9
             case measure => have := HK1.out; have := HJ9.out; omega
             case rel => exact ⟨(x7_1), (wrap64 (x9_1 + 1)), ((rd_T123 l0 x9_1).f2.f0), ((rd_T123 l0 x9_1).f2.f1), ((rd_T123 l0 x9_1).f2.f2), ((rd_T123 l0 x9_1).f2.f3), ((rd_T123 l0 x9_1).f2.f4), ((rd_T123 l0 x9_1).f2.f5), (by first | rfl | (simp; done) | (simp [*]; done)), H', ⟨by have := HK1.out; have := HJ9.out; omega⟩, ⟨by (with_reducible repeat (first | apply ra | apply rn | apply re)); exact Kd.R_mono (Kd.R_far (p := ⟨gb116, 5, none⟩) (Kd.R_far (p := ⟨gb116, 4, none⟩) (Kd.R_far (p := ⟨gb116, 3, none⟩) (Kd.R_far (p := ⟨gb116, 2, none⟩) (Kd.R_far (p := ⟨gb116, 1, none⟩) (Kd.R_far (p := ⟨gb116, 0, none⟩) (Kd.R_mono HO_7.out (fun k_ hk => (⟨hk, hk⟩ : _ ∧ k_ ≠ gb116))) (fun _ hk => (by first | exact hk.2 | exact hk | exact hk.1 | exact hk.1.1 | exact hk.1.2 | exact hk.2.1 | exact hk.2.2 | exact hk.1.1.1 | exact hk.1.1.2 | exact hk.1.2.1 | exact hk.1.2.2 | exact hk.2.1.1 | exact hk.2.1.2 | exact hk.2.2.1 | exact hk.2.2.2)) (.int .i64 ((rd_T123 l0 x9_1).f2.f0))) (fun _ hk => (by first | exact hk.2 | exact hk | exact hk.1 | exact hk.1.1 | exact hk.1.2 | exact hk.2.1 | exact hk.2.2 | exact hk.1.1.1 | exact hk.1.1.2 | exact hk.1.2.1 | exact hk.1.2.2 | exact hk.2.1.1 | exact hk.2.1.2 | exact hk.2.2.1 | exact hk.2.2.2)) (.string ((rd_T123 l0 x9_1).f2.f1))) (fun _ hk => (by first | exact hk.2 | exact hk | exact hk.1 | exact hk.1.1 | exact hk.1.2 | exact hk.2.1 | exact hk.2.2 | exact hk.1.1.1 | exact hk.1.1.2 | exact hk.1.2.1 | exact hk.1.2.2 | exact hk.2.1.1 | exact hk.2.1.2 | exact hk.2.2.1 | exact hk.2.2.2)) (.string ((rd_T123 l0 x9_1).f2.f2))) (fun _ hk => (by first | exact hk.2 | exact hk | exact hk.1 | exact hk.1.1 | exact hk.1.2 | exact hk.2.1 | exact hk.2.2 | exact hk.1.1.1 | exact hk.1.1.2 | exact hk.1.2.1 | exact hk.1.2.2 | exact hk.2.1.1 | exact hk.2.1.2 | exact hk.2.2.1 | exact hk.2.2.2)) (.int .i64 ((rd_T123 l0 x9_1).f2.f3))) (fun _ hk => (by first | exact hk.2 | exact hk | exact hk.1 | exact hk.1.1 | exact hk.1.2 | exact hk.2.1 | exact hk.2.2 | exact hk.1.1.1 | exact hk.1.1.2 | exact hk.1.2.1 | exact hk.1.2.2 | exact hk.2.1.1 | exact hk.2.1.2 | exact hk.2.2.1 | exact hk.2.2.2)) (.int .i64 ((rd_T123 l0 x9_1).f2.f4))) (fun _ hk => (by first | exact hk.2 | exact hk | exact hk.1 | exact hk.1.1 | exact hk.1.2 | exact hk.2.1 | exact hk.2.2 | exact hk.1.1.1 | exact hk.1.1.2 | exact hk.1.2.1 | exact hk.1.2.2 | exact hk.2.1.1 | exact hk.2.1.2 | exact hk.2.2.1 | exact hk.2.2.2)) (.string ((rd_T123 l0 x9_1).f2.f5))) (fun _ hk => (by first | exact hk.1 | exact hk | exact hk.2 | exact hk.1.1 | exact hk.1.2 | exact hk.2.1 | exact hk.2.2 | exact hk.1.1.1 | exact hk.1.1.2 | exact hk.1.2.1 | exact hk.1.2.2 | exact hk.2.1.1 | exact hk.2.1.2 | exact hk.2.2.1 | exact hk.2.2.2))⟩, ⟨by (with_reducible repeat (first | refine kn ?_ _ | refine ke ?_ | refine ka ?_ _)); refine kp (cs := #[.int .i64 ((rd_T123 l0 x9_1).f2.f0), .string ((rd_T123 l0 x9_1).f2.f1), .string ((rd_T123 l0 x9_1).f2.f2), .int .i64 ((rd_T123 l0 x9_1).f2.f3), .int .i64 ((rd_T123 l0 x9_1).f2.f4), .string x117005_1]) ?_ 5 _ rfl; (with_reducible repeat (first | refine kn ?_ _ | refine ke ?_ | refine ka ?_ _)); refine kp (cs := #[.int .i64 ((rd_T123 l0 x9_1).f2.f0), .string ((rd_T123 l0 x9_1).f2.f1), .string ((rd_T123 l0 x9_1).f2.f2), .int .i64 ((rd_T123 l0 x9_1).f2.f3), .int .i64 x117004_1, .string x117005_1]) ?_ 4 _ rfl; (with_reducible repeat (first | refine kn ?_ _ | refine ke ?_ | refine ka ?_ _)); refine kp (cs := #[.int .i64 ((rd_T123 l0 x9_1).f2.f0), .string ((rd_T123 l0 x9_1).f2.f1), .string ((rd_T123 l0 x9_1).f2.f2), .int .i64 x117003_1, .int .i64 x117004_1, .string x117005_1]) ?_ 3 _ rfl; (with_reducible repeat (first | refine kn ?_ _ | refine ke ?_ | refine ka ?_ _)); refine kp (cs := #[.int .i64 ((rd_T123 l0 x9_1).f2.f0), .string ((rd_T123 l0 x9_1).f2.f1), .string x117002_1, .int .i64 x117003_1, .int .i64 x117004_1, .string x117005_1]) ?_ 2 _ rfl; (with_reducible repeat (first | refine kn ?_ _ | refine ke ?_ | refine ka ?_ _)); refine kp (cs := #[.int .i64 ((rd_T123 l0 x9_1).f2.f0), .string x117001_1, .string x117002_1, .int .i64 x117003_1, .int .i64 x117004_1, .string x117005_1]) ?_ 1 _ rfl; (with_reducible repeat (first | refine kn ?_ _ | refine ke ?_ | refine ka ?_ _)); refine kp (cs := #[.int .i64 x117000_1, .string x117001_1, .string x117002_1, .int .i64 x117003_1, .int .i64 x117004_1, .string x117005_1]) ?_ 0 _ rfl; (with_reducible repeat (first | refine kn ?_ _ | refine ke ?_ | refine ka ?_ _)); exact BK116.out⟩, ⟨by repeat (first | (with_reducible first | exact HB.out | apply ba | apply bn | apply be | refine bs ?_ GE116.out) | exact HB.out)⟩⟩
           ·replace c20 := Bool.eq_false_iff.mpr c20
            subst c20
            have H1 : (spec_AsksOf.l0 kj9 l0 l1 a2 x7_1 (wrap64 (x9_1 + 1)) ((rd_T123 l0 x9_1).f2.f0) ((rd_T123 l0 x9_1).f2.f1) ((rd_T123 l0 x9_1).f2.f2) ((rd_T123 l0 x9_1).f2.f3) ((rd_T123 l0 x9_1).f2.f4) ((rd_T123 l0 x9_1).f2.f5)) = some r := by rw [if_neg (show ¬ (false = true) by decide)] at H; exact H
            clear H
            have H := H1
            clear H1
            have H' := Am H
            clear H
            have p120 : 0 ≤ (x9_1 : Int) := of_decide_eq_true (by first | (with_reducible assumption) | assumption)
            have q120 : x9_1 < (l0.length : Int) := of_decide_eq_true (by first | (with_reducible assumption) | assumption)
            obtain ⟨ad120, e120, hx120_0, hx120_1, hx120_2, hx120_3, hx120_4, hx120_5, hx120_6, hx120_7, hx120_8⟩ := at_T123 HR0.out x9_1 p120 q120
            cases e120
            replace hx120_0 := cl2 HB hx120_0
            replace hx120_1 := cl2 HB hx120_1
            replace hx120_2 := cl2 HB hx120_2
            replace hx120_3 := cl2 HB hx120_3
            replace hx120_4 := cl2 HB hx120_4
            replace hx120_5 := cl2 HB hx120_5
            replace hx120_6 := cl2 HB hx120_6
            replace hx120_7 := cl2 HB hx120_7
            replace hx120_8 := cl2 HB hx120_8
            replace p120 := eq_true p120
            replace q120 := eq_true q120
            have hcz26_0 : wc.cell? ⟨gb116, 0, none⟩ = some (.int .i64 x117000_1) := (kc BK116.out 0).trans rfl
            have hcz26_1 : wc.cell? ⟨gb116, 1, none⟩ = some (.string x117001_1) := (kc BK116.out 1).trans rfl
            have hcz26_2 : wc.cell? ⟨gb116, 2, none⟩ = some (.string x117002_1) := (kc BK116.out 2).trans rfl
            have hcz26_3 : wc.cell? ⟨gb116, 3, none⟩ = some (.int .i64 x117003_1) := (kc BK116.out 3).trans rfl
            have hcz26_4 : wc.cell? ⟨gb116, 4, none⟩ = some (.int .i64 x117004_1) := (kc BK116.out 4).trans rfl
            have hcz26_5 : wc.cell? ⟨gb116, 5, none⟩ = some (.string x117005_1) := (kc BK116.out 5).trans rfl
            have hfz26_0 := kf BK116.out 0
            have hfz26_1 := kf BK116.out 1
            have hfz26_2 := kf BK116.out 2
            have hfz26_3 := kf BK116.out 3
            have hfz26_4 := kf BK116.out 4
            have hfz26_5 := kf BK116.out 5
            have p121 : 0 ≤ (x9_1 : Int) := of_decide_eq_true (by first | (with_reducible assumption) | assumption)
            have q121 : x9_1 < (l1.length : Int) := of_decide_eq_true (by first | (with_reducible assumption) | assumption)
            obtain ⟨ad121, A121_7, c121_7, e121, hx121_0, hx121_1, hx121_2, hx121_3, hx121_4, hx121_5, hx121_6, hx121_7, hl121_7, hi121_7⟩ := at_T125 HR1.out x9_1 p121 q121
            (try rw [← Nbq19.out] at hx121_2)
            (try rw [← Nbq19.out] at hx121_6)
            cases e121
            have hn121_0 : ad121.block ≠ gb116 := Nat.ne_of_lt (Nat.lt_of_lt_of_le (by have := World.block_lt_of_cell? _ _ hx121_0; first | rwa [add_block] at this | exact this) GW116.out)
            have hn121_1 : ad121.block ≠ gb116 := Nat.ne_of_lt (Nat.lt_of_lt_of_le (by have := World.block_lt_of_cell? _ _ hx121_0; first | rwa [add_block] at this | exact this) GW116.out)
            have hn121_2 : ad121.block ≠ gb116 := Nat.ne_of_lt (Nat.lt_of_lt_of_le (by have := World.block_lt_of_cell? _ _ hx121_0; first | rwa [add_block] at this | exact this) GW116.out)
            have hn121_3 : ad121.block ≠ gb116 := Nat.ne_of_lt (Nat.lt_of_lt_of_le (by have := World.block_lt_of_cell? _ _ hx121_0; first | rwa [add_block] at this | exact this) GW116.out)
            have hn121_4 : ad121.block ≠ gb116 := Nat.ne_of_lt (Nat.lt_of_lt_of_le (by have := World.block_lt_of_cell? _ _ hx121_0; first | rwa [add_block] at this | exact this) GW116.out)
            have hn121_5 : ad121.block ≠ gb116 := Nat.ne_of_lt (Nat.lt_of_lt_of_le (by have := World.block_lt_of_cell? _ _ hx121_0; first | rwa [add_block] at this | exact this) GW116.out)
            replace hx121_0 := cl2 HB hx121_0
            replace hx121_1 := cl2 HB hx121_1
            replace hx121_2 := cl2 HB hx121_2
            replace hx121_3 := cl2 HB hx121_3
            replace hx121_4 := cl2 HB hx121_4
            replace hx121_5 := cl2 HB hx121_5
            replace hx121_6 := cl2 HB hx121_6
            replace hx121_7 := cl2 HB hx121_7
            have HR121_7 := Am hi121_7
            have HC121_7 := Am hl121_7
            clear hi121_7 hl121_7
            replace hx121_0 := cfx (p := ⟨gb116, 0, none⟩) (.int .i64 ((rd_T123 l0 x9_1).f2.f0)) hx121_0 hn121_0
            replace hx121_1 := cfy (p := ⟨gb116, 0, none⟩) (.int .i64 ((rd_T123 l0 x9_1).f2.f0)) hx121_1 hn121_0
            replace hx121_2 := cfy (p := ⟨gb116, 0, none⟩) (.int .i64 ((rd_T123 l0 x9_1).f2.f0)) hx121_2 hn121_0
            replace hx121_3 := cfy (p := ⟨gb116, 0, none⟩) (.int .i64 ((rd_T123 l0 x9_1).f2.f0)) hx121_3 hn121_0
            replace hx121_4 := cfy (p := ⟨gb116, 0, none⟩) (.int .i64 ((rd_T123 l0 x9_1).f2.f0)) hx121_4 hn121_0
            replace hx121_5 := cfy (p := ⟨gb116, 0, none⟩) (.int .i64 ((rd_T123 l0 x9_1).f2.f0)) hx121_5 hn121_0
            replace hx121_6 := cfy (p := ⟨gb116, 0, none⟩) (.int .i64 ((rd_T123 l0 x9_1).f2.f0)) hx121_6 hn121_0
            replace hx121_7 := cfy (p := ⟨gb116, 0, none⟩) (.int .i64 ((rd_T123 l0 x9_1).f2.f0)) hx121_7 hn121_0
            replace hx121_0 := cfx (p := ⟨gb116, 1, none⟩) (.string ((rd_T123 l0 x9_1).f2.f1)) hx121_0 hn121_1
            replace hx121_1 := cfy (p := ⟨gb116, 1, none⟩) (.string ((rd_T123 l0 x9_1).f2.f1)) hx121_1 hn121_1
            replace hx121_2 := cfy (p := ⟨gb116, 1, none⟩) (.string ((rd_T123 l0 x9_1).f2.f1)) hx121_2 hn121_1
            replace hx121_3 := cfy (p := ⟨gb116, 1, none⟩) (.string ((rd_T123 l0 x9_1).f2.f1)) hx121_3 hn121_1
            replace hx121_4 := cfy (p := ⟨gb116, 1, none⟩) (.string ((rd_T123 l0 x9_1).f2.f1)) hx121_4 hn121_1
            replace hx121_5 := cfy (p := ⟨gb116, 1, none⟩) (.string ((rd_T123 l0 x9_1).f2.f1)) hx121_5 hn121_1
            replace hx121_6 := cfy (p := ⟨gb116, 1, none⟩) (.string ((rd_T123 l0 x9_1).f2.f1)) hx121_6 hn121_1
            replace hx121_7 := cfy (p := ⟨gb116, 1, none⟩) (.string ((rd_T123 l0 x9_1).f2.f1)) hx121_7 hn121_1
            replace hx121_0 := cfx (p := ⟨gb116, 2, none⟩) (.string ((rd_T123 l0 x9_1).f2.f2)) hx121_0 hn121_2
            replace hx121_1 := cfy (p := ⟨gb116, 2, none⟩) (.string ((rd_T123 l0 x9_1).f2.f2)) hx121_1 hn121_2
            replace hx121_2 := cfy (p := ⟨gb116, 2, none⟩) (.string ((rd_T123 l0 x9_1).f2.f2)) hx121_2 hn121_2
            replace hx121_3 := cfy (p := ⟨gb116, 2, none⟩) (.string ((rd_T123 l0 x9_1).f2.f2)) hx121_3 hn121_2
            replace hx121_4 := cfy (p := ⟨gb116, 2, none⟩) (.string ((rd_T123 l0 x9_1).f2.f2)) hx121_4 hn121_2
            replace hx121_5 := cfy (p := ⟨gb116, 2, none⟩) (.string ((rd_T123 l0 x9_1).f2.f2)) hx121_5 hn121_2
            replace hx121_6 := cfy (p := ⟨gb116, 2, none⟩) (.string ((rd_T123 l0 x9_1).f2.f2)) hx121_6 hn121_2
            replace hx121_7 := cfy (p := ⟨gb116, 2, none⟩) (.string ((rd_T123 l0 x9_1).f2.f2)) hx121_7 hn121_2
            replace hx121_0 := cfx (p := ⟨gb116, 3, none⟩) (.int .i64 ((rd_T123 l0 x9_1).f2.f3)) hx121_0 hn121_3
            replace hx121_1 := cfy (p := ⟨gb116, 3, none⟩) (.int .i64 ((rd_T123 l0 x9_1).f2.f3)) hx121_1 hn121_3
            replace hx121_2 := cfy (p := ⟨gb116, 3, none⟩) (.int .i64 ((rd_T123 l0 x9_1).f2.f3)) hx121_2 hn121_3
            replace hx121_3 := cfy (p := ⟨gb116, 3, none⟩) (.int .i64 ((rd_T123 l0 x9_1).f2.f3)) hx121_3 hn121_3
            replace hx121_4 := cfy (p := ⟨gb116, 3, none⟩) (.int .i64 ((rd_T123 l0 x9_1).f2.f3)) hx121_4 hn121_3
            replace hx121_5 := cfy (p := ⟨gb116, 3, none⟩) (.int .i64 ((rd_T123 l0 x9_1).f2.f3)) hx121_5 hn121_3
            replace hx121_6 := cfy (p := ⟨gb116, 3, none⟩) (.int .i64 ((rd_T123 l0 x9_1).f2.f3)) hx121_6 hn121_3
            replace hx121_7 := cfy (p := ⟨gb116, 3, none⟩) (.int .i64 ((rd_T123 l0 x9_1).f2.f3)) hx121_7 hn121_3
            replace hx121_0 := cfx (p := ⟨gb116, 4, none⟩) (.int .i64 ((rd_T123 l0 x9_1).f2.f4)) hx121_0 hn121_4
            replace hx121_1 := cfy (p := ⟨gb116, 4, none⟩) (.int .i64 ((rd_T123 l0 x9_1).f2.f4)) hx121_1 hn121_4
            replace hx121_2 := cfy (p := ⟨gb116, 4, none⟩) (.int .i64 ((rd_T123 l0 x9_1).f2.f4)) hx121_2 hn121_4
            replace hx121_3 := cfy (p := ⟨gb116, 4, none⟩) (.int .i64 ((rd_T123 l0 x9_1).f2.f4)) hx121_3 hn121_4
            replace hx121_4 := cfy (p := ⟨gb116, 4, none⟩) (.int .i64 ((rd_T123 l0 x9_1).f2.f4)) hx121_4 hn121_4
            replace hx121_5 := cfy (p := ⟨gb116, 4, none⟩) (.int .i64 ((rd_T123 l0 x9_1).f2.f4)) hx121_5 hn121_4
            replace hx121_6 := cfy (p := ⟨gb116, 4, none⟩) (.int .i64 ((rd_T123 l0 x9_1).f2.f4)) hx121_6 hn121_4
            replace hx121_7 := cfy (p := ⟨gb116, 4, none⟩) (.int .i64 ((rd_T123 l0 x9_1).f2.f4)) hx121_7 hn121_4
            replace hx121_0 := cfx (p := ⟨gb116, 5, none⟩) (.string ((rd_T123 l0 x9_1).f2.f5)) hx121_0 hn121_5
            replace hx121_1 := cfy (p := ⟨gb116, 5, none⟩) (.string ((rd_T123 l0 x9_1).f2.f5)) hx121_1 hn121_5
            replace hx121_2 := cfy (p := ⟨gb116, 5, none⟩) (.string ((rd_T123 l0 x9_1).f2.f5)) hx121_2 hn121_5
            replace hx121_3 := cfy (p := ⟨gb116, 5, none⟩) (.string ((rd_T123 l0 x9_1).f2.f5)) hx121_3 hn121_5
            replace hx121_4 := cfy (p := ⟨gb116, 5, none⟩) (.string ((rd_T123 l0 x9_1).f2.f5)) hx121_4 hn121_5
            replace hx121_5 := cfy (p := ⟨gb116, 5, none⟩) (.string ((rd_T123 l0 x9_1).f2.f5)) hx121_5 hn121_5
            replace hx121_6 := cfy (p := ⟨gb116, 5, none⟩) (.string ((rd_T123 l0 x9_1).f2.f5)) hx121_6 hn121_5
            replace hx121_7 := cfy (p := ⟨gb116, 5, none⟩) (.string ((rd_T123 l0 x9_1).f2.f5)) hx121_7 hn121_5
            clear hn121_0
            clear hn121_1
            clear hn121_2
            clear hn121_3
            clear hn121_4
            clear hn121_5
            replace p121 := eq_true p121
            replace q121 := eq_true q121
            go_wp2
            go_roundg kj9
            case measure => have := HK1.out; have := HJ9.out; omega
            case rel => exact ⟨(x7_1), (wrap64 (x9_1 + 1)), ((rd_T123 l0 x9_1).f2.f0), ((rd_T123 l0 x9_1).f2.f1), ((rd_T123 l0 x9_1).f2.f2), ((rd_T123 l0 x9_1).f2.f3), ((rd_T123 l0 x9_1).f2.f4), ((rd_T123 l0 x9_1).f2.f5), (by first | rfl | (simp; done) | (simp [*]; done)), H', ⟨by have := HK1.out; have := HJ9.out; omega⟩, ⟨by (with_reducible repeat (first | apply ra | apply rn | apply re)); exact Kd.R_mono (Kd.R_far (p := ⟨gb116, 5, none⟩) (Kd.R_far (p := ⟨gb116, 4, none⟩) (Kd.R_far (p := ⟨gb116, 3, none⟩) (Kd.R_far (p := ⟨gb116, 2, none⟩) (Kd.R_far (p := ⟨gb116, 1, none⟩) (Kd.R_far (p := ⟨gb116, 0, none⟩) (Kd.R_mono HO_7.out (fun k_ hk => (⟨hk, hk⟩ : _ ∧ k_ ≠ gb116))) (fun _ hk => (by first | exact hk.2 | exact hk | exact hk.1 | exact hk.1.1 | exact hk.1.2 | exact hk.2.1 | exact hk.2.2 | exact hk.1.1.1 | exact hk.1.1.2 | exact hk.1.2.1 | exact hk.1.2.2 | exact hk.2.1.1 | exact hk.2.1.2 | exact hk.2.2.1 | exact hk.2.2.2)) (.int .i64 ((rd_T123 l0 x9_1).f2.f0))) (fun _ hk => (by first | exact hk.2 | exact hk | exact hk.1 | exact hk.1.1 | exact hk.1.2 | exact hk.2.1 | exact hk.2.2 | exact hk.1.1.1 | exact hk.1.1.2 | exact hk.1.2.1 | exact hk.1.2.2 | exact hk.2.1.1 | exact hk.2.1.2 | exact hk.2.2.1 | exact hk.2.2.2)) (.string ((rd_T123 l0 x9_1).f2.f1))) (fun _ hk => (by first | exact hk.2 | exact hk | exact hk.1 | exact hk.1.1 | exact hk.1.2 | exact hk.2.1 | exact hk.2.2 | exact hk.1.1.1 | exact hk.1.1.2 | exact hk.1.2.1 | exact hk.1.2.2 | exact hk.2.1.1 | exact hk.2.1.2 | exact hk.2.2.1 | exact hk.2.2.2)) (.string ((rd_T123 l0 x9_1).f2.f2))) (fun _ hk => (by first | exact hk.2 | exact hk | exact hk.1 | exact hk.1.1 | exact hk.1.2 | exact hk.2.1 | exact hk.2.2 | exact hk.1.1.1 | exact hk.1.1.2 | exact hk.1.2.1 | exact hk.1.2.2 | exact hk.2.1.1 | exact hk.2.1.2 | exact hk.2.2.1 | exact hk.2.2.2)) (.int .i64 ((rd_T123 l0 x9_1).f2.f3))) (fun _ hk => (by first | exact hk.2 | exact hk | exact hk.1 | exact hk.1.1 | exact hk.1.2 | exact hk.2.1 | exact hk.2.2 | exact hk.1.1.1 | exact hk.1.1.2 | exact hk.1.2.1 | exact hk.1.2.2 | exact hk.2.1.1 | exact hk.2.1.2 | exact hk.2.2.1 | exact hk.2.2.2)) (.int .i64 ((rd_T123 l0 x9_1).f2.f4))) (fun _ hk => (by first | exact hk.2 | exact hk | exact hk.1 | exact hk.1.1 | exact hk.1.2 | exact hk.2.1 | exact hk.2.2 | exact hk.1.1.1 | exact hk.1.1.2 | exact hk.1.2.1 | exact hk.1.2.2 | exact hk.2.1.1 | exact hk.2.1.2 | exact hk.2.2.1 | exact hk.2.2.2)) (.string ((rd_T123 l0 x9_1).f2.f5))) (fun _ hk => (by first | exact hk.1 | exact hk | exact hk.2 | exact hk.1.1 | exact hk.1.2 | exact hk.2.1 | exact hk.2.2 | exact hk.1.1.1 | exact hk.1.1.2 | exact hk.1.2.1 | exact hk.1.2.2 | exact hk.2.1.1 | exact hk.2.1.2 | exact hk.2.2.1 | exact hk.2.2.2))⟩, ⟨by (with_reducible repeat (first | refine kn ?_ _ | refine ke ?_ | refine ka ?_ _)); refine kp (cs := #[.int .i64 ((rd_T123 l0 x9_1).f2.f0), .string ((rd_T123 l0 x9_1).f2.f1), .string ((rd_T123 l0 x9_1).f2.f2), .int .i64 ((rd_T123 l0 x9_1).f2.f3), .int .i64 ((rd_T123 l0 x9_1).f2.f4), .string x117005_1]) ?_ 5 _ rfl; (with_reducible repeat (first | refine kn ?_ _ | refine ke ?_ | refine ka ?_ _)); refine kp (cs := #[.int .i64 ((rd_T123 l0 x9_1).f2.f0), .string ((rd_T123 l0 x9_1).f2.f1), .string ((rd_T123 l0 x9_1).f2.f2), .int .i64 ((rd_T123 l0 x9_1).f2.f3), .int .i64 x117004_1, .string x117005_1]) ?_ 4 _ rfl; (with_reducible repeat (first | refine kn ?_ _ | refine ke ?_ | refine ka ?_ _)); refine kp (cs := #[.int .i64 ((rd_T123 l0 x9_1).f2.f0), .string ((rd_T123 l0 x9_1).f2.f1), .string ((rd_T123 l0 x9_1).f2.f2), .int .i64 x117003_1, .int .i64 x117004_1, .string x117005_1]) ?_ 3 _ rfl; (with_reducible repeat (first | refine kn ?_ _ | refine ke ?_ | refine ka ?_ _)); refine kp (cs := #[.int .i64 ((rd_T123 l0 x9_1).f2.f0), .string ((rd_T123 l0 x9_1).f2.f1), .string x117002_1, .int .i64 x117003_1, .int .i64 x117004_1, .string x117005_1]) ?_ 2 _ rfl; (with_reducible repeat (first | refine kn ?_ _ | refine ke ?_ | refine ka ?_ _)); refine kp (cs := #[.int .i64 ((rd_T123 l0 x9_1).f2.f0), .string x117001_1, .string x117002_1, .int .i64 x117003_1, .int .i64 x117004_1, .string x117005_1]) ?_ 1 _ rfl; (with_reducible repeat (first | refine kn ?_ _ | refine ke ?_ | refine ka ?_ _)); refine kp (cs := #[.int .i64 x117000_1, .string x117001_1, .string x117002_1, .int .i64 x117003_1, .int .i64 x117004_1, .string x117005_1]) ?_ 0 _ rfl; (with_reducible repeat (first | refine kn ?_ _ | refine ke ?_ | refine ka ?_ _)); exact BK116.out⟩, ⟨by repeat (first | (with_reducible first | exact HB.out | apply ba | apply bn | apply be | refine bs ?_ GE116.out) | exact HB.out)⟩⟩
          ·rw [if_neg c18] at H
           exact absurd H (by simp)
         ·rw [if_neg c17] at H
          exact absurd H (by simp)
        ·rw [if_neg c16] at H
         exact absurd H (by simp)
       ·replace c15 := Bool.eq_false_iff.mpr c15
        subst c15
        have H1 : (if 0 ≤ x9_1 then (if x9_1 < (l1.length : Int) then (if (rd_T125 l1 x9_1).f2 = true then (if ((rd_T125 l1 x9_1).f1) = a2 then (if x7_1.length < 1954687338268 then (spec_AsksOf.l0 kj9 l0 l1 a2 (x7_1 ++ [(⟨x117000_1, x117001_1, x117002_1, x117003_1, x117004_1, x117005_1⟩ : S42)]) (wrap64 (x9_1 + 1)) x117000_1 x117001_1 x117002_1 x117003_1 x117004_1 x117005_1) else (none)) else (spec_AsksOf.l0 kj9 l0 l1 a2 x7_1 (wrap64 (x9_1 + 1)) x117000_1 x117001_1 x117002_1 x117003_1 x117004_1 x117005_1)) else (spec_AsksOf.l0 kj9 l0 l1 a2 x7_1 (wrap64 (x9_1 + 1)) x117000_1 x117001_1 x117002_1 x117003_1 x117004_1 x117005_1)) else (none)) else (none)) = some r := by rw [if_neg (show ¬ (false = true) by decide)] at H; exact H
        clear H
        have H := H1
        clear H1
        by_cases c27 : 0 ≤ x9_1
        ·rw [if_pos c27] at H
         have c27b0 : decide (0 ≤ x9_1) = true := decide_eq_true c27
         clear c27
         by_cases c28 : x9_1 < (l1.length : Int)
         ·rw [if_pos c28] at H
          have c28b0 : decide (x9_1 < (l1.length : Int)) = true := decide_eq_true c28
          clear c28
          obtain ⟨bq29, hbq29⟩ : ∃ b_ : Bool, b_ = ((rd_T125 l1 x9_1).f2) := ⟨_, rfl⟩
          replace H : (if bq29 = true then (if ((rd_T125 l1 x9_1).f1) = a2 then (if x7_1.length < 1954687338268 then (spec_AsksOf.l0 kj9 l0 l1 a2 (x7_1 ++ [(⟨x117000_1, x117001_1, x117002_1, x117003_1, x117004_1, x117005_1⟩ : S42)]) (wrap64 (x9_1 + 1)) x117000_1 x117001_1 x117002_1 x117003_1 x117004_1 x117005_1) else (none)) else (spec_AsksOf.l0 kj9 l0 l1 a2 x7_1 (wrap64 (x9_1 + 1)) x117000_1 x117001_1 x117002_1 x117003_1 x117004_1 x117005_1)) else (spec_AsksOf.l0 kj9 l0 l1 a2 x7_1 (wrap64 (x9_1 + 1)) x117000_1 x117001_1 x117002_1 x117003_1 x117004_1 x117005_1)) = some r := by rw [← hbq29] at H; exact H
          have Nbq29 := Am hbq29
          clear hbq29
          by_cases c30 : bq29 = true
          ·subst c30
           have H1 : (if ((rd_T125 l1 x9_1).f1) = a2 then (if x7_1.length < 1954687338268 then (spec_AsksOf.l0 kj9 l0 l1 a2 (x7_1 ++ [(⟨x117000_1, x117001_1, x117002_1, x117003_1, x117004_1, x117005_1⟩ : S42)]) (wrap64 (x9_1 + 1)) x117000_1 x117001_1 x117002_1 x117003_1 x117004_1 x117005_1) else (none)) else (spec_AsksOf.l0 kj9 l0 l1 a2 x7_1 (wrap64 (x9_1 + 1)) x117000_1 x117001_1 x117002_1 x117003_1 x117004_1 x117005_1)) = some r := by rw [if_pos rfl] at H; exact H
           clear H
           have H := H1
           clear H1
           by_cases c31 : ((rd_T125 l1 x9_1).f1) = a2
           ·rw [if_pos c31] at H
            have c31b0 : (((rd_T125 l1 x9_1).f1) == a2) = true := beq_iff_eq.mpr c31
            have c31b1 : (((rd_T125 l1 x9_1).f1) != a2) = false := bne_eq_false_iff_eq.mpr c31
            clear c31
            by_cases c32 : x7_1.length < 1954687338268
            ·rw [if_pos c32] at H
             have LMc32 := Am c32
             clear c32
             obtain ⟨y128, hy128⟩ : ∃ y_ : List (S42), y_ = (x7_1 ++ [(⟨x117000_1, x117001_1, x117002_1, x117003_1, x117004_1, x117005_1⟩ : S42)]) := ⟨_, rfl⟩
             replace H : (spec_AsksOf.l0 kj9 l0 l1 a2 y128 (wrap64 (x9_1 + 1)) x117000_1 x117001_1 x117002_1 x117003_1 x117004_1 x117005_1) = some r := by first | (rw [hy128]; with_reducible exact H) | (have H2_ := (Option.bind_some _ _).symm.trans H; rw [hy128]; with_reducible exact H2_) | (have H2_ := (Option.bind_some _ _).symm.trans H; with_reducible exact H2_) | with_reducible exact H | (rw [hy128]; exact H) | exact H
             have Ny128 := Am hy128
             clear hy128
             have H' := Am H
             clear H
             have p126 : 0 ≤ (x9_1 : Int) := of_decide_eq_true (by first | (with_reducible assumption) | assumption)
             have q126 : x9_1 < (l1.length : Int) := of_decide_eq_true (by first | (with_reducible assumption) | assumption)
             obtain ⟨ad126, A126_7, c126_7, e126, hx126_0, hx126_1, hx126_2, hx126_3, hx126_4, hx126_5, hx126_6, hx126_7, hl126_7, hi126_7⟩ := at_T125 HR1.out x9_1 p126 q126
             (try rw [← Nbq29.out] at hx126_2)
             (try rw [← Nbq29.out] at hx126_6)
             cases e126
             replace hx126_0 := cl2 HB hx126_0
             replace hx126_1 := cl2 HB hx126_1
             replace hx126_2 := cl2 HB hx126_2
             replace hx126_3 := cl2 HB hx126_3
             replace hx126_4 := cl2 HB hx126_4
             replace hx126_5 := cl2 HB hx126_5
             replace hx126_6 := cl2 HB hx126_6
             replace hx126_7 := cl2 HB hx126_7
             have HR126_7 := Am hi126_7
             have HC126_7 := Am hl126_7
             clear hi126_7 hl126_7
             replace p126 := eq_true p126
             replace q126 := eq_true q126
             have p127 : 0 ≤ (x9_1 : Int) := of_decide_eq_true (by first | (with_reducible assumption) | assumption)
             have q127 : x9_1 < (l1.length : Int) := of_decide_eq_true (by first | (with_reducible assumption) | assumption)
             obtain ⟨ad127, A127_7, c127_7, e127, hx127_0, hx127_1, hx127_2, hx127_3, hx127_4, hx127_5, hx127_6, hx127_7, hl127_7, hi127_7⟩ := at_T125 HR1.out x9_1 p127 q127
             (try rw [← Nbq29.out] at hx127_2)
             (try rw [← Nbq29.out] at hx127_6)
             obtain rfl : ad126 = ad127 := (by injection e127)
             replace hx127_0 := cl2 HB hx127_0
             replace hx127_1 := cl2 HB hx127_1
             replace hx127_2 := cl2 HB hx127_2
             replace hx127_3 := cl2 HB hx127_3
             replace hx127_4 := cl2 HB hx127_4
             replace hx127_5 := cl2 HB hx127_5
             replace hx127_6 := cl2 HB hx127_6
             replace hx127_7 := cl2 HB hx127_7
             have HR127_7 := Am hi127_7
             have HC127_7 := Am hl127_7
             clear hi127_7 hl127_7
             replace p127 := eq_true p127
             replace q127 := eq_true q127
             have ea_ := Option.some.inj (hx126_7.symm.trans hx127_7)
             injection ea_ with ea_ en_ ec_
             subst ea_
             subst ec_
             clear en_
             have hcz33_0 : wc.cell? ⟨gb116, 0, none⟩ = some (.int .i64 x117000_1) := (kc BK116.out 0).trans rfl
             have hcz33_1 : wc.cell? ⟨gb116, 1, none⟩ = some (.string x117001_1) := (kc BK116.out 1).trans rfl
             have hcz33_2 : wc.cell? ⟨gb116, 2, none⟩ = some (.string x117002_1) := (kc BK116.out 2).trans rfl
             have hcz33_3 : wc.cell? ⟨gb116, 3, none⟩ = some (.int .i64 x117003_1) := (kc BK116.out 3).trans rfl
             have hcz33_4 : wc.cell? ⟨gb116, 4, none⟩ = some (.int .i64 x117004_1) := (kc BK116.out 4).trans rfl
             have hcz33_5 : wc.cell? ⟨gb116, 5, none⟩ = some (.string x117005_1) := (kc BK116.out 5).trans rfl
             have hfz33_0 := kf BK116.out 0
             have hfz33_1 := kf BK116.out 1
             have hfz33_2 := kf BK116.out 2
             have hfz33_3 := kf BK116.out 3
             have hfz33_4 := kf BK116.out 4
             have hfz33_5 := kf BK116.out 5
             go_wp2_with (first | ((with_reducible refine gate_builtin (b := .append) (xs := #[.tmp 66, .tmp 68]) rfl ?_); at_builtin; refine Kd.R_append k42 (w0 := w) w.heap.size rfl (.tmp 66) (.tmp 68) 26 42 (.agg #[(.int .i64 0), (.string ⟨#[]⟩), (.string ⟨#[]⟩), (.int .i64 0), (.int .i64 0), (.string ⟨#[]⟩)]) 72 rfl Try.underlying26 info42 rfl (by decide) (by omega) u7 x7_1 (⟨x117000_1, x117001_1, x117002_1, x117003_1, x117004_1, x117005_1⟩ : S42) [.int .i64 x117000_1, .string x117001_1, .string x117002_1, .int .i64 x117003_1, .int .i64 x117004_1, .string x117005_1] (fun k_ => k_ ≠ gb116) (fun _ => False) rfl rfl ?aP (fun _ hk => hk.elim) ?aF ?aO ?aB ?aS ?aL ?_; (case aP => exact k42_mkM _ _ _ (⟨x117000_1, x117001_1, x117002_1, x117003_1, x117004_1, x117005_1⟩ : S42)); (case aB => exact (by repeat (first | (with_reducible first | exact HB.out | apply ba | apply bn | apply be | refine bs ?_ GE116.out) | exact HB.out))); (case aF => exact (fun k_ hk => Kd.freshB (g := gb116) (o := .cells #[.int .i64 x117000_1, .string x117001_1, .string x117002_1, .int .i64 x117003_1, .int .i64 x117004_1, .string x117005_1] 42 (0, 0)) (by (with_reducible repeat (first | refine kn ?_ _ | refine ke ?_ | refine ka ?_ _)); exact BK116.out) k_ hk)); (case aO => exact (by (with_reducible repeat (first | apply ra | apply rn | apply re)); exact HO_7.out)); (case aS => exact (bz (by repeat (first | (with_reducible first | exact HB.out | apply ba | apply bn | apply be | refine bs ?_ GE116.out) | exact HB.out)))); (case aL => have := LMc32.out; omega); intro v129 w34 ho hb hg hat; rw [← Ny128.out] at ho; have n0_ := Am (kg (g := gb116) (o := .cells #[.int .i64 x117000_1, .string x117001_1, .string x117002_1, .int .i64 x117003_1, .int .i64 x117004_1, .string x117005_1] 42 (0, 0)) (by (with_reducible repeat (first | refine kn ?_ _ | refine ke ?_ | refine ka ?_ _)); exact BK116.out) hg (Kd.R_away HO_7.out (fun _ hk => hk))); have n1_ := Am (hb); have n2_ := Am (ho); clear BK116; clear HB; clear HO_7; have BK116 := n0_; have HB := n1_; have HO130 := n2_; clear n0_ n1_ n2_; clear ho hb hg hat))
             go_roundg kj9
             case measure => have := HK1.out; have := HJ9.out; omega
             case rel => exact ⟨(y128), (wrap64 (x9_1 + 1)), (x117000_1), (x117001_1), (x117002_1), (x117003_1), (x117004_1), (x117005_1), (by first | rfl | (simp; done) | (simp [*]; done)), H', ⟨by have := HK1.out; have := HJ9.out; omega⟩, ⟨by (with_reducible repeat (first | apply ra | apply rn | apply re)); exact HO130.out⟩, ⟨by (with_reducible repeat (first | refine kn ?_ _ | refine ke ?_ | refine ka ?_ _)); exact BK116.out⟩, ⟨by repeat (first | (with_reducible first | exact HB.out | apply ba | apply bn | apply be | refine bs ?_ GE116.out) | exact HB.out)⟩⟩
            ·rw [if_neg c32] at H
             exact absurd H (by simp)
           ·rw [if_neg c31] at H
            have c31b0 : (((rd_T125 l1 x9_1).f1) == a2) = false := beq_eq_false_iff_ne.mpr c31
            have c31b1 : (((rd_T125 l1 x9_1).f1) != a2) = true := bne_iff_ne.mpr c31
            have H' := Am H
            clear H
            have p126 : 0 ≤ (x9_1 : Int) := of_decide_eq_true (by first | (with_reducible assumption) | assumption)
            have q126 : x9_1 < (l1.length : Int) := of_decide_eq_true (by first | (with_reducible assumption) | assumption)
            obtain ⟨ad126, A126_7, c126_7, e126, hx126_0, hx126_1, hx126_2, hx126_3, hx126_4, hx126_5, hx126_6, hx126_7, hl126_7, hi126_7⟩ := at_T125 HR1.out x9_1 p126 q126
            (try rw [← Nbq29.out] at hx126_2)
            (try rw [← Nbq29.out] at hx126_6)
            cases e126
            replace hx126_0 := cl2 HB hx126_0
            replace hx126_1 := cl2 HB hx126_1
            replace hx126_2 := cl2 HB hx126_2
            replace hx126_3 := cl2 HB hx126_3
            replace hx126_4 := cl2 HB hx126_4
            replace hx126_5 := cl2 HB hx126_5
            replace hx126_6 := cl2 HB hx126_6
            replace hx126_7 := cl2 HB hx126_7
            have HR126_7 := Am hi126_7
            have HC126_7 := Am hl126_7
            clear hi126_7 hl126_7
            replace p126 := eq_true p126
            replace q126 := eq_true q126
            have p127 : 0 ≤ (x9_1 : Int) := of_decide_eq_true (by first | (with_reducible assumption) | assumption)
            have q127 : x9_1 < (l1.length : Int) := of_decide_eq_true (by first | (with_reducible assumption) | assumption)
            obtain ⟨ad127, A127_7, c127_7, e127, hx127_0, hx127_1, hx127_2, hx127_3, hx127_4, hx127_5, hx127_6, hx127_7, hl127_7, hi127_7⟩ := at_T125 HR1.out x9_1 p127 q127
            (try rw [← Nbq29.out] at hx127_2)
            (try rw [← Nbq29.out] at hx127_6)
            obtain rfl : ad126 = ad127 := (by injection e127)
            replace hx127_0 := cl2 HB hx127_0
            replace hx127_1 := cl2 HB hx127_1
            replace hx127_2 := cl2 HB hx127_2
            replace hx127_3 := cl2 HB hx127_3
            replace hx127_4 := cl2 HB hx127_4
            replace hx127_5 := cl2 HB hx127_5
            replace hx127_6 := cl2 HB hx127_6
            replace hx127_7 := cl2 HB hx127_7
            have HR127_7 := Am hi127_7
            have HC127_7 := Am hl127_7
            clear hi127_7 hl127_7
            replace p127 := eq_true p127
            replace q127 := eq_true q127
            have ea_ := Option.some.inj (hx126_7.symm.trans hx127_7)
            injection ea_ with ea_ en_ ec_
            subst ea_
            subst ec_
            clear en_
            go_wp2
            go_roundg kj9
            case measure => have := HK1.out; have := HJ9.out; omega
            case rel => exact ⟨(x7_1), (wrap64 (x9_1 + 1)), (x117000_1), (x117001_1), (x117002_1), (x117003_1), (x117004_1), (x117005_1), (by first | rfl | (simp; done) | (simp [*]; done)), H', ⟨by have := HK1.out; have := HJ9.out; omega⟩, ⟨by (with_reducible repeat (first | apply ra | apply rn | apply re)); exact HO_7.out⟩, ⟨by (with_reducible repeat (first | refine kn ?_ _ | refine ke ?_ | refine ka ?_ _)); exact BK116.out⟩, ⟨by repeat (first | (with_reducible first | exact HB.out | apply ba | apply bn | apply be | refine bs ?_ GE116.out) | exact HB.out)⟩⟩
          ·replace c30 := Bool.eq_false_iff.mpr c30
           subst c30
           have H1 : (spec_AsksOf.l0 kj9 l0 l1 a2 x7_1 (wrap64 (x9_1 + 1)) x117000_1 x117001_1 x117002_1 x117003_1 x117004_1 x117005_1) = some r := by rw [if_neg (show ¬ (false = true) by decide)] at H; exact H
           clear H
           have H := H1
           clear H1
           have H' := Am H
           clear H
           have p126 : 0 ≤ (x9_1 : Int) := of_decide_eq_true (by first | (with_reducible assumption) | assumption)
           have q126 : x9_1 < (l1.length : Int) := of_decide_eq_true (by first | (with_reducible assumption) | assumption)
           obtain ⟨ad126, A126_7, c126_7, e126, hx126_0, hx126_1, hx126_2, hx126_3, hx126_4, hx126_5, hx126_6, hx126_7, hl126_7, hi126_7⟩ := at_T125 HR1.out x9_1 p126 q126
           (try rw [← Nbq29.out] at hx126_2)
           (try rw [← Nbq29.out] at hx126_6)
           cases e126
           replace hx126_0 := cl2 HB hx126_0
           replace hx126_1 := cl2 HB hx126_1
           replace hx126_2 := cl2 HB hx126_2
           replace hx126_3 := cl2 HB hx126_3
           replace hx126_4 := cl2 HB hx126_4
           replace hx126_5 := cl2 HB hx126_5
           replace hx126_6 := cl2 HB hx126_6
           replace hx126_7 := cl2 HB hx126_7
           have HR126_7 := Am hi126_7
           have HC126_7 := Am hl126_7
           clear hi126_7 hl126_7
           replace p126 := eq_true p126
           replace q126 := eq_true q126
           go_wp2
           go_roundg kj9
           case measure => have := HK1.out; have := HJ9.out; omega
           case rel => exact ⟨(x7_1), (wrap64 (x9_1 + 1)), (x117000_1), (x117001_1), (x117002_1), (x117003_1), (x117004_1), (x117005_1), (by first | rfl | (simp; done) | (simp [*]; done)), H', ⟨by have := HK1.out; have := HJ9.out; omega⟩, ⟨by (with_reducible repeat (first | apply ra | apply rn | apply re)); exact HO_7.out⟩, ⟨by (with_reducible repeat (first | refine kn ?_ _ | refine ke ?_ | refine ka ?_ _)); exact BK116.out⟩, ⟨by repeat (first | (with_reducible first | exact HB.out | apply ba | apply bn | apply be | refine bs ?_ GE116.out) | exact HB.out)⟩⟩
         ·rw [if_neg c28] at H
          exact absurd H (by simp)
        ·rw [if_neg c27] at H
         exact absurd H (by simp)
    ·rw [if_neg c9] at H
     have c9b0 : decide (x9_1 < (l0.length : Int)) = false := decide_eq_false c9
     clear c9
     obtain rfl := Option.some.inj H
     go_wp2
     go_ret
     exact ⟨_, by first | rfl | (simp [errW_none, errW_some] <;> rfl) | (simp [*, errW_none, errW_some] <;> rfl), by (with_reducible repeat (first | apply ra | apply rn | apply re)); exact Kd.R_mono HO_7.out (fun _ hk => trivial), by repeat (first | (with_reducible first | exact HB.out | apply ba | apply bn | apply be | refine bs ?_ GE116.out) | exact HB.out)⟩
 ·rw [if_neg c4] at H
  have c4b0 : ((l0.length : Int) == (l1.length : Int)) = false := beq_eq_false_iff_ne.mpr c4
  have c4b1 : ((l0.length : Int) != (l1.length : Int)) = true := bne_iff_ne.mpr c4
  have c4b2 : (l0.length == l1.length) = false := by first | simpa using c4 | (simp at c4 ⊢; omega)
  obtain rfl := Option.some.inj H
  go_enter Try.func13, Try.ntmps13
  go_wp2_with (first | ((with_reducible refine gate_dst (N := 10) rfl ?_); refine Kd.R_lit k42 _ 42 ?hg (N := 10) ?hd (xs := ([] : List (S42))) (inner := []) (ok := fun _ => True) (okp := fun _ => True) ?hr ?hp (fun _ hk => hk) trivial (Below.refl _ _) (Nat.le_refl _) (by simp) ?_; (case hd => rfl); (case hg => rfl); (case hr => first | (go_simp; done) | (go_simp; rfl)); (case hp => exact (Reps.none _ _)); intro v114 w35 ho36 hb hg_ hnew_; clear hg_ hnew_; (first | rw [← Ny113.out] at ho36 | (simp only [Int.reduceToNat] at ho36; rw [← Ny113.out] at ho36)); have HO115 := Am (Kd.R_lower ho36 (bz (by repeat (first | (with_reducible first | exact HB.out | apply ba | apply bn | apply be) | exact HB.out)))); replace HB := Am (bq (by repeat (first | (with_reducible first | exact HB.out | apply ba | apply bn | apply be) | exact HB.out)) hb); clear hb ho36))
  go_ret
  exact ⟨_, by first | rfl | (simp [errW_none, errW_some] <;> rfl) | (simp [*, errW_none, errW_some] <;> rfl), by (with_reducible repeat (first | apply ra | apply rn | apply re)); exact HO115.out, by repeat (first | (with_reducible first | exact HB.out | apply ba | apply bn | apply be) | exact HB.out)⟩

end Go.Proofs.Ytlpghmopabihoaa.QFnExactAsksOf
