/- Go functions as Lean functions, and their contracts. Own text: written by wip/gen/pr.py (a turned copy of the print). -/
import Derived.Test.YtnmkcognggeioaaQFnUnsurex0
import Derived.Test.YtnmkcognggeioaaQFnUnsurex9
namespace Go.Proofs.Ytnmkcognggeioaa.QFnUnsure
open Go.RowKit Go.Proofs.YtnmkcognggeioaaW.PrintWords Go.Proofs.YtnmkcognggeioaaW.PrintLast Go.Proofs.YtnmkcognggeioaaW.PrintMore
attribute [local go_sem] max2_int min2_int max_two min_two max_three min_three max_four min_four   -- for this text's walks alone
open Go.Proofs.YtnmkcognggeioaaW.PrintWords renaming below_alloc → ba, pw_below_drewN → bn, below_drew1 → be, below_set → bs, blk_drewN → kn, blk_drew → ke, blk_alloc → ka, blk_below → kb, blk_frozen → kf, blk_cell → kc, below_step → bq, below_size → bz, blk_lt → kl, blk_grown → kg, blk_put → kp
open Go.Proofs.YtnmkcognggeioaaW.PrintWords.Kd renaming R_alloc → ra, R_drewN → rn, R_drew → re, C_alloc → ca, C_drewN → cn, C_drew → ce, C_below → cb
open Go.Proofs.YtnmkcognggeioaaW.PrintWords.Aside0 renaming mk → Am
set_option linter.unusedVariables false
set_option linter.unusedSimpArgs false

theorem cl10 {w w2 : World} {a : Addr} {v : Value} (h : Aside0 (Below w.heap.size w w2)) (e : w.cell? a = some v) : w2.cell? a = some v := (h.out.cell (World.block_lt_of_cell? w _ e)).trans e
def o10b0 (p0 : ByteArray) (p1 : Option Addr) (p2 p3 : Nat) : Obj := .cells #[.string p0, .slice p1 p2 p3] 28 (0, 0)
/-! ### spec_l10Store: function 67 -/
mutual
def spec_l10Store.l0 : Nat → Int → Bool → Int → ByteArray → List (S49) → Int → ByteArray → Bool → ByteArray → List (S49) → Option (ByteArray × (List (S49)))
 | 0, _, _, _, _, _, _, _, _, _, _ => none
 | k + 1, x7, x12, x13, x214000, x214001, x217000, x217001, x217002, x218000, x218001 => if x13 < (x214001.length : Int) then (if x12 = true then (spec_l10Store.j1 k x7 x12 x13 false x214000 x214001 x217000 x217001 x217002 x218000 x218001) else (if 0 ≤ x13 then (spec_l10Store.j1 k x7 x12 x13 (decide (((rd_T49 x214001 x13).f0) ≥ x7)) x214000 x214001 x217000 x217001 x217002 x218000 x218001) else (none))) else (if x12 = true then (some (x218000, x218001)) else (if x218001.length < 4398046511104 then (some (x218000, (x218001 ++ [(⟨x217000, x217001, x217002⟩ : S49)]))) else (none)))
def spec_l10Store.j1 : Nat → Int → Bool → Int → Bool → ByteArray → List (S49) → Int → ByteArray → Bool → ByteArray → List (S49) → Option (ByteArray × (List (S49)))
 | 0, _, _, _, _, _, _, _, _, _, _, _ => none
 | k + 1, x7, x12, x13, x55, x214000, x214001, x217000, x217001, x217002, x218000, x218001 => if x55 = true then (if x218001.length < 4398046511104 then ((some (x218001 ++ [(⟨x217000, x217001, x217002⟩ : S49)] : List (S49))).bind fun y222 => (if 0 ≤ x13 then (if x13 < (x214001.length : Int) then (if ((rd_T49 x214001 x13).f0) = x7 then (spec_l10Store.l0 k x7 true (wrap64 (x13 + 1)) x214000 x214001 x217000 x217001 x217002 x218000 y222) else (if y222.length < 4398046511104 then (spec_l10Store.l0 k x7 true (wrap64 (x13 + 1)) x214000 x214001 x217000 x217001 x217002 x218000 (y222 ++ [(⟨(rd_T49 x214001 x13).f0, (rd_T49 x214001 x13).f1, (rd_T49 x214001 x13).f2⟩ : S49)])) else (none))) else (none)) else (none))) else (none)) else (if 0 ≤ x13 then (if x13 < (x214001.length : Int) then (if ((rd_T49 x214001 x13).f0) = x7 then (spec_l10Store.l0 k x7 x12 (wrap64 (x13 + 1)) x214000 x214001 x217000 x217001 x217002 x218000 x218001) else (if x218001.length < 4398046511104 then (spec_l10Store.l0 k x7 x12 (wrap64 (x13 + 1)) x214000 x214001 x217000 x217001 x217002 x218000 (x218001 ++ [(⟨(rd_T49 x214001 x13).f0, (rd_T49 x214001 x13).f1, (rd_T49 x214001 x13).f2⟩ : S49)])) else (none))) else (none)) else (none))
end
def spec_l10Store.f (k : Nat) (a0_0 : ByteArray) (l0_1 : List (S49)) (a1 : Int) (a2 : ByteArray) : Option (ByteArray × (List (S49))) := (spec_l10Line.f k a0_0 l0_1 (wrap64 (Int.tdiv a1 2))).bind fun t215 => (if 0 ≤ (wrap64 ((Int.tmod a1 2) * 8)) then (if (wrap64 ((Int.tmod a1 2) * 8)) ≤ (t215.size : Int) then (if (t215.extract 0 ((wrap64 ((Int.tmod a1 2) * 8)) : Int).toNat).size + a2.size ≤ 9223372036854775807 then (if 0 ≤ (wrap64 ((wrap64 ((Int.tmod a1 2) * 8)) + 8)) then (if (wrap64 ((wrap64 ((Int.tmod a1 2) * 8)) + 8)) ≤ (t215.size : Int) then (if ((t215.extract 0 ((wrap64 ((Int.tmod a1 2) * 8)) : Int).toNat) ++ a2).size + (t215.extract ((wrap64 ((wrap64 ((Int.tmod a1 2) * 8)) + 8)) : Int).toNat t215.size).size ≤ 9223372036854775807 then (spec_l10Store.l0 k (wrap64 (Int.tdiv a1 2)) false 0 a0_0 l0_1 (wrap64 (Int.tdiv a1 2)) (((t215.extract 0 ((wrap64 ((Int.tmod a1 2) * 8)) : Int).toNat) ++ a2) ++ (t215.extract ((wrap64 ((wrap64 ((Int.tmod a1 2) * 8)) + 8)) : Int).toNat t215.size)) false a0_0 ([] : List (S49))) else (none)) else (none)) else (none)) else (none)) else (none)) else (none))
theorem spec_l10Store.mono_l : ∀ k, (∀ y0 y1 y2 y3 y4 y5 y6 y7 y8 y9, LeO (spec_l10Store.l0 k y0 y1 y2 y3 y4 y5 y6 y7 y8 y9) (spec_l10Store.l0 (k + 1) y0 y1 y2 y3 y4 y5 y6 y7 y8 y9)) ∧ (∀ y0 y1 y2 y3 y4 y5 y6 y7 y8 y9 y10, LeO (spec_l10Store.j1 k y0 y1 y2 y3 y4 y5 y6 y7 y8 y9 y10) (spec_l10Store.j1 (k + 1) y0 y1 y2 y3 y4 y5 y6 y7 y8 y9 y10))
 | 0 => ⟨fun _ _ _ _ _ _ _ _ _ _ r h => by simp [spec_l10Store.l0] at h, fun _ _ _ _ _ _ _ _ _ _ _ r h => by simp [spec_l10Store.j1] at h⟩
 | k + 1 => by
  obtain ⟨ih0, ih1⟩ := spec_l10Store.mono_l k
  refine ⟨?_, ?_⟩
  ·intro y0 y1 y2 y3 y4 y5 y6 y7 y8 y9
   unfold spec_l10Store.l0
   repeat' first
   | (with_reducible exact ih0 _ _ _ _ _ _ _ _ _ _)
   | (with_reducible exact ih1 _ _ _ _ _ _ _ _ _ _ _)
   | (with_reducible exact spec_l10Line.mono _ _ _ _)
   | (with_reducible exact LeO.refl _)
   | (with_reducible exact LeO.none _)
   | (with_reducible refine LeO.ite ?_ ?_)
   | (with_reducible refine LeO.bind ?_ (fun _ => ?_))
   | exact ih0 _ _ _ _ _ _ _ _ _ _
   | exact ih1 _ _ _ _ _ _ _ _ _ _ _
   | exact spec_l10Line.mono _ _ _ _
   | exact LeO.none _
   | refine LeO.ite ?_ ?_
   | refine LeO.bind ?_ (fun _ => ?_)
  ·intro y0 y1 y2 y3 y4 y5 y6 y7 y8 y9 y10
   unfold spec_l10Store.j1
   repeat' first
   | (with_reducible exact ih0 _ _ _ _ _ _ _ _ _ _)
   | (with_reducible exact ih1 _ _ _ _ _ _ _ _ _ _ _)
   | (with_reducible exact spec_l10Line.mono _ _ _ _)
   | (with_reducible exact LeO.refl _)
   | (with_reducible exact LeO.none _)
   | (with_reducible refine LeO.ite ?_ ?_)
   | (with_reducible refine LeO.bind ?_ (fun _ => ?_))
   | exact ih0 _ _ _ _ _ _ _ _ _ _
   | exact ih1 _ _ _ _ _ _ _ _ _ _ _
   | exact spec_l10Line.mono _ _ _ _
   | exact LeO.none _
   | refine LeO.ite ?_ ?_
   | refine LeO.bind ?_ (fun _ => ?_)
theorem spec_l10Store.mono : ∀ a0 a1 a2 a3 k, LeO (spec_l10Store.f k a0 a1 a2 a3) (spec_l10Store.f (k + 1) a0 a1 a2 a3) := by
 intro a0 a1 a2 a3 k
 obtain ⟨ih0, ih1⟩ := spec_l10Store.mono_l k
 unfold spec_l10Store.f
 repeat' first
   | (with_reducible exact ih0 _ _ _ _ _ _ _ _ _ _)
   | (with_reducible exact ih1 _ _ _ _ _ _ _ _ _ _ _)
   | (with_reducible exact spec_l10Line.mono _ _ _ _)
   | (with_reducible exact LeO.refl _)
   | (with_reducible exact LeO.none _)
   | (with_reducible refine LeO.ite ?_ ?_)
   | (with_reducible refine LeO.bind ?_ (fun _ => ?_))
   | exact ih0 _ _ _ _ _ _ _ _ _ _
   | exact ih1 _ _ _ _ _ _ _ _ _ _ _
   | exact spec_l10Line.mono _ _ _ _
   | exact LeO.none _
   | refine LeO.ite ?_ ?_
   | refine LeO.bind ?_ (fun _ => ?_)
def spec_l10Store.T4 : Bool × List (List Nat × List Nat) := (true, [([], []), ([], []), ([], []), ([1, 2], [1, 2]), ([], []), ([3, 4], [3, 4]), ([], []), ([], []), ([7], [7]), ([6, 8], [6, 8]), ([5, 9], [5, 9]), ([0, 10], [0, 10]), ([], []), ([12, 11, 0, 1, 2, 3, 4, 5, 6, 7, 8, 9, 10, 11, 12], [11, 12])])
def spec_l10Store.B4 : List Nat := [0, 0, 0, 6, 0, 30, 0, 0, 128, 448, 1022, 2047, 0, 8191]
theorem spec_l10Store.tab4 : rtab .any (opsOf Try.f67 4) = spec_l10Store.T4 := by kernel_rfl
theorem spec_l10Store.bits4 : waitsOk spec_l10Store.T4.2 spec_l10Store.B4 = true := by kernel_rfl
def spec_l10Store.T14 : Bool × List (List Nat × List Nat) := (true, [([], []), ([0], [0]), ([], []), ([2], [2]), ([], []), ([3, 4], [3, 4]), ([5], [5]), ([6], [6]), ([1, 7], [1, 7]), ([0, 1, 2, 3, 4, 5, 6, 7, 8], []), ([9, 8, 8, 0, 1, 2, 3, 4, 5, 6, 7, 8], [8, 9])])
def spec_l10Store.B14 : List Nat := [0, 1, 0, 4, 0, 28, 60, 124, 255, 511, 1023]
theorem spec_l10Store.tab14 : rtab .any (opsOf Try.f67 14) = spec_l10Store.T14 := by kernel_rfl
theorem spec_l10Store.bits14 : waitsOk spec_l10Store.T14.2 spec_l10Store.B14 = true := by kernel_rfl
set_option maxHeartbeats 8000000 in
set_option maxRecDepth 100000 in
theorem spec_l10Store.calls (k : Nat) (a0_0 : ByteArray) (A0_1 : Option Addr) (c0_1 : Nat) (l0_1 : List (S49)) (a1 : Int) (a2 : ByteArray) (r1 : ByteArray) (r2 : List (S49)) (w : World) (hr0_1 : Kd.C k49 w A0_1 l0_1.length l0_1) (hc0_1 : l0_1.length ≤ c0_1) (h : spec_l10Store.f k a0_0 l0_1 a1 a2 = some (r1, r2)) :
  Calls Try.prog 67 #[.agg #[.string a0_0, .slice A0_1 l0_1.length c0_1], .int .i64 a1, .string a2] w fun e w' => ∃ v1_ : Value, e = .returned (.agg #[.string r1, v1_]) ∧ Kd.R k49 49 w' w.heap.size (fun _ => True) v1_ r2 ∧ Below w.heap.size w w' := by
 have hu28 := Try.underlying28
 have hu49 := Try.underlying49
 have HR0_1 := Am hr0_1
 have HC0_1 := Am hc0_1
 clear hr0_1 hc0_1
 have HB := Am (Below.refl w.heap.size w)
 have H : ((spec_l10Line.f k a0_0 l0_1 (wrap64 (Int.tdiv a1 2))).bind fun t215 => (if 0 ≤ (wrap64 ((Int.tmod a1 2) * 8)) then (if (wrap64 ((Int.tmod a1 2) * 8)) ≤ (t215.size : Int) then (if (t215.extract 0 ((wrap64 ((Int.tmod a1 2) * 8)) : Int).toNat).size + a2.size ≤ 9223372036854775807 then (if 0 ≤ (wrap64 ((wrap64 ((Int.tmod a1 2) * 8)) + 8)) then (if (wrap64 ((wrap64 ((Int.tmod a1 2) * 8)) + 8)) ≤ (t215.size : Int) then (if ((t215.extract 0 ((wrap64 ((Int.tmod a1 2) * 8)) : Int).toNat) ++ a2).size + (t215.extract ((wrap64 ((wrap64 ((Int.tmod a1 2) * 8)) + 8)) : Int).toNat t215.size).size ≤ 9223372036854775807 then (spec_l10Store.l0 k (wrap64 (Int.tdiv a1 2)) false 0 a0_0 l0_1 (wrap64 (Int.tdiv a1 2)) (((t215.extract 0 ((wrap64 ((Int.tmod a1 2) * 8)) : Int).toNat) ++ a2) ++ (t215.extract ((wrap64 ((wrap64 ((Int.tmod a1 2) * 8)) + 8)) : Int).toNat t215.size)) false a0_0 ([] : List (S49))) else (none)) else (none)) else (none)) else (none)) else (none)) else (none))) = some (r1, r2) := h
 clear h
 replace H := Option.bind_eq_some_iff.mp H
 obtain ⟨t215, A40, H⟩ := H
 replace H : (if 0 ≤ (wrap64 ((Int.tmod a1 2) * 8)) then (if (wrap64 ((Int.tmod a1 2) * 8)) ≤ (t215.size : Int) then (if (t215.extract 0 ((wrap64 ((Int.tmod a1 2) * 8)) : Int).toNat).size + a2.size ≤ 9223372036854775807 then (if 0 ≤ (wrap64 ((wrap64 ((Int.tmod a1 2) * 8)) + 8)) then (if (wrap64 ((wrap64 ((Int.tmod a1 2) * 8)) + 8)) ≤ (t215.size : Int) then (if ((t215.extract 0 ((wrap64 ((Int.tmod a1 2) * 8)) : Int).toNat) ++ a2).size + (t215.extract ((wrap64 ((wrap64 ((Int.tmod a1 2) * 8)) + 8)) : Int).toNat t215.size).size ≤ 9223372036854775807 then (spec_l10Store.l0 k (wrap64 (Int.tdiv a1 2)) false 0 a0_0 l0_1 (wrap64 (Int.tdiv a1 2)) (((t215.extract 0 ((wrap64 ((Int.tmod a1 2) * 8)) : Int).toNat) ++ a2) ++ (t215.extract ((wrap64 ((wrap64 ((Int.tmod a1 2) * 8)) + 8)) : Int).toNat t215.size)) false a0_0 ([] : List (S49))) else (none)) else (none)) else (none)) else (none)) else (none)) else (none)) = some (r1, r2) := H
 have A4 := Am A40
 clear A40
 obtain ⟨ji5, hji5⟩ : ∃ j_ : Int, (wrap64 ((Int.tmod a1 2) * 8)) = j_ := ⟨_, rfl⟩
 replace H : (if 0 ≤ (ji5) then (if (ji5) ≤ (t215.size : Int) then (if (t215.extract 0 ((ji5) : Int).toNat).size + a2.size ≤ 9223372036854775807 then (if 0 ≤ (wrap64 ((ji5) + 8)) then (if (wrap64 ((ji5) + 8)) ≤ (t215.size : Int) then (if ((t215.extract 0 ((ji5) : Int).toNat) ++ a2).size + (t215.extract ((wrap64 ((ji5) + 8)) : Int).toNat t215.size).size ≤ 9223372036854775807 then (spec_l10Store.l0 k (wrap64 (Int.tdiv a1 2)) false 0 a0_0 l0_1 (wrap64 (Int.tdiv a1 2)) (((t215.extract 0 ((ji5) : Int).toNat) ++ a2) ++ (t215.extract ((wrap64 ((ji5) + 8)) : Int).toNat t215.size)) false a0_0 ([] : List (S49))) else (none)) else (none)) else (none)) else (none)) else (none)) else (none)) = some (r1, r2) := by first | (rw [hji5] at H; exact H) | (simp only [hji5] at H ⊢; exact H)
 (try rw [hji5] at A4)
 have hji5w : (IntKind.i64.wrap ((Int.tmod a1 2) * 8)) = ji5 := (i64_w _).trans hji5
 by_cases c6 : 0 ≤ (ji5)
 ·rw [if_pos c6] at H
  have c6b0 := eq_true c6
  have c6b1 : decide (0 ≤ (ji5)) = true := decide_eq_true c6
  clear c6
  by_cases c7 : (ji5) ≤ (t215.size : Int)
  ·rw [if_pos c7] at H
   have c7b0 := eq_true c7
   have c7b1 : decide ((ji5) ≤ (t215.size : Int)) = true := decide_eq_true c7
   clear c7
   by_cases c8 : (t215.extract 0 ((ji5) : Int).toNat).size + a2.size ≤ 9223372036854775807
   ·rw [if_pos c8] at H
    have c8b0 := eq_true c8
    have c8b1 : decide ((t215.extract 0 ((ji5) : Int).toNat).size + a2.size ≤ 9223372036854775807) = true := decide_eq_true c8
    try have c8b2 : (9223372036854775807 < (t215.extract 0 ((ji5) : Int).toNat).size + a2.size) = False := eq_false (Nat.not_lt.2 c8)
    try (have c8b3 := c8b2; simp only [ByteArray.size_extract, Nat.sub_zero] at c8b3)
    try have c8b5 : (9223372036854775807 < ji5.toNat + a2.size) = False := eq_false (by have h_ := c8b2; (try have q0_ := of_decide_eq_true c6b1); (try have q1_ := of_decide_eq_true c7b1); (try have q2_ := of_decide_eq_true c8b1); simp only [ByteArray.size_append, ByteArray.size_extract, eq_iff_iff, iff_false] at h_; (try clear hji5); (try clear hji5w); omega)
    try clear c8
    obtain ⟨ji9, hji9⟩ : ∃ j_ : Int, (wrap64 ((ji5) + 8)) = j_ := ⟨_, rfl⟩
    replace H : (if 0 ≤ (ji9) then (if (ji9) ≤ (t215.size : Int) then (if ((t215.extract 0 ((ji5) : Int).toNat) ++ a2).size + (t215.extract ((ji9) : Int).toNat t215.size).size ≤ 9223372036854775807 then (spec_l10Store.l0 k (wrap64 (Int.tdiv a1 2)) false 0 a0_0 l0_1 (wrap64 (Int.tdiv a1 2)) (((t215.extract 0 ((ji5) : Int).toNat) ++ a2) ++ (t215.extract ((ji9) : Int).toNat t215.size)) false a0_0 ([] : List (S49))) else (none)) else (none)) else (none)) = some (r1, r2) := by first | (rw [hji9] at H; exact H) | (simp only [hji9] at H ⊢; exact H)
    (try rw [hji9] at A4)
    have hji9w : (IntKind.i64.wrap ((ji5) + 8)) = ji9 := (i64_w _).trans hji9
    by_cases c10 : 0 ≤ (ji9)
    ·rw [if_pos c10] at H
     have c10b0 := eq_true c10
     have c10b1 : decide (0 ≤ (ji9)) = true := decide_eq_true c10
     clear c10
     by_cases c11 : (ji9) ≤ (t215.size : Int)
     ·rw [if_pos c11] at H
      have c11b0 := eq_true c11
      have c11b1 : decide ((ji9) ≤ (t215.size : Int)) = true := decide_eq_true c11
      clear c11
      by_cases c12 : ((t215.extract 0 ((ji5) : Int).toNat) ++ a2).size + (t215.extract ((ji9) : Int).toNat t215.size).size ≤ 9223372036854775807
      ·rw [if_pos c12] at H
       have c12b0 := eq_true c12
       have c12b1 : decide (((t215.extract 0 ((ji5) : Int).toNat) ++ a2).size + (t215.extract ((ji9) : Int).toNat t215.size).size ≤ 9223372036854775807) = true := decide_eq_true c12
       try have c12b2 : (9223372036854775807 < ((t215.extract 0 ((ji5) : Int).toNat) ++ a2).size + (t215.extract ((ji9) : Int).toNat t215.size).size) = False := eq_false (Nat.not_lt.2 c12)
       try (have c12b3 := c12b2; simp only [ByteArray.size_extract, Nat.sub_zero] at c12b3)
       try (have c12b4 := c12b2; simp only [ByteArray.size_append] at c12b4)
       try have c12b5 : (9223372036854775807 < ji5.toNat + a2.size + (t215.size - ji9.toNat)) = False := eq_false (by have h_ := c12b2; (try have q0_ := of_decide_eq_true c6b1); (try have q1_ := of_decide_eq_true c7b1); (try have q2_ := of_decide_eq_true c8b1); (try have q3_ := of_decide_eq_true c10b1); (try have q4_ := of_decide_eq_true c11b1); (try have q5_ := of_decide_eq_true c12b1); simp only [ByteArray.size_append, ByteArray.size_extract, eq_iff_iff, iff_false] at h_; (try clear hji5); (try clear hji5w); (try clear hji9); (try clear hji9w); omega)
       try clear c12
       have H' := Am H
       clear H
       go_enter Try.func67, Try.ntmps67
       try go_wp2_with (first | ((with_reducible refine gate_dst (N := 3) rfl ?_); refine box_event ?hg (N := 3) ?hd (cs := #[.string a0_0, .slice A0_1 l0_1.length c0_1]) (t := 28) ?hr ?_; (case hd => rfl); (case hg => rfl); (case hr => first | (go_simp; done) | (go_simp; rfl)); intro gb213 hg w13 hbox hb; have BK213 := Am (hbox); have GW213 := Am ((by rw [hg]; exact (bz zB) : w.heap.size ≤ gb213)); have GE213 := Am ((by rw [hg]; exact (bz zB) : w.heap.size ≤ gb213)); replace HB := Am (bq zB hb); clear hb hbox hg) | ((with_reducible refine gate_dst (N := 6) rfl ?_); refine box_event ?hg (N := 6) ?hd (cs := #[.string (⟨#[]⟩ : ByteArray), .slice none 0 0]) (t := 28) ?hr ?_; (case hd => rfl); (case hg => rfl); (case hr => first | (go_simp; done) | (go_simp; rfl)); intro gb214 hg w14 hbox hb; have n0_ := Am (zK BK213 hb); have n1_ := Am (bq zG hb); have n2_ := Am (hbox); have n3_ := Am ((by rw [hg]; exact (bz zG) : w.heap.size ≤ gb214)); have n4_ := Am ((by rw [hg]; exact (bz zG) : w.heap.size ≤ gb214)); have n5_ := Am ((by rw [hg]; exact Nat.ne_of_lt (zL BK213) : gb213 ≠ gb214)); have n6_ := Am ((by rw [hg]; exact Nat.ne_of_gt (zL BK213) : gb214 ≠ gb213)); clear BK213; clear HB; have BK213 := n0_; have HB := n1_; have BK214 := n2_; have GW214 := n3_; have GE214 := n4_; have NB213_214 := n5_; have NB214_213 := n6_; clear n0_ n1_ n2_ n3_ n4_ n5_ n6_; clear hb hbox hg; have hnb15 := NB213_214.out; have hnc15 := NB214_213.out; obtain ⟨hcz16_0, hcz16_1⟩ := kc2 (w := w14) BK213.out; have hfz16_0 := kf BK213.out) | ((with_reducible refine gate_callee (f := 52) rfl ?_); refine zC (some 21) rfl rfl Try.func52 rfl #[.agg #[.string a0_0, .slice A0_1 l0_1.length c0_1], .int .i64 (wrap64 (Int.tdiv a1 2))] rfl ?_; (with_reducible refine (spec_l10Line.calls k a0_0 _ _ l0_1 (wrap64 (Int.tdiv a1 2)) t215 _ ?side1 ?side2 A4.out).mono ?_); (case side1 => repeat (first | exact (cb HR0_1.out HB.out) | (with_reducible first | refine ca ?_ _ | refine cn ?_ _ | refine ce ?_))); (case side2 => exact HC0_1.out); rintro e w17 ⟨rfl, hb⟩; refine ⟨_, rfl, ?_⟩; have n0_ := Am (zK BK213 hb); have n1_ := Am (zK BK214 hb); have n2_ := Am (bq zG hb); clear BK213; clear BK214; clear HB; have BK213 := n0_; have BK214 := n1_; have HB := n2_; clear n0_ n1_ n2_; (try clear hb)))
       have n0_ := Am (ke BK213.out)
       have n1_ := Am (ke BK214.out)
       have n2_ := Am (be HB.out)
       clear BK213
       clear BK214
       clear HB
       have BK213 := n0_
       have BK214 := n1_
       have HB := n2_
       clear n0_ n1_ n2_
       refine start_ (n := 14) (S := fun w' => True) (ds := []) #[false, false, false, false, false, false, false, false, false, false, false, false, false, false] (by kernel_rfl) rfl rfl trivial (fun hHeld => ?_); refine with_tabW spec_l10Store.tab4 spec_l10Store.bits4 (fun HT_ HW_ => ?_)
       generalize w17.drew = w18 at BK213 BK214 HB hHeld ⊢
       refine zA 0 (some 22) HT_.out rfl rfl ?_
       refine zA 1 (some 23) HT_.out rfl rfl ?_
       refine zA 2 (some 24) HT_.out rfl rfl ?_
       refine zA 3 (some 25) HT_.out rfl rfl ?_
       refine zA 4 (some 26) HT_.out rfl rfl ?_
       refine zA 5 (some 27) HT_.out rfl rfl ?_
       refine zA 6 (some 28) HT_.out rfl rfl ?_
       refine zA 7 (some 29) HT_.out rfl rfl ?_
       refine zA 8 (some 30) HT_.out rfl rfl ?_
       refine zA 9 (some 31) HT_.out rfl rfl ?_
       refine zA 10 (some 32) HT_.out rfl rfl ?_
       refine zA 11 (some 33) HT_.out rfl rfl ?_
       refine zO 12 (some 10) HT_.out rfl rfl (fun K hK => ?_)
       refine box_step ?hg (N := 10) ?hd (cs := #[.int .i64 0, .string (⟨#[]⟩ : ByteArray), .bool false]) (t := 49) ?hr ?_; (case hd => rfl); (case hg => rfl); (case hr => first | (go_simp; done) | (go_simp; rfl))
       intro gb216 hg w19 hbox hb
       have n0_ := Am (zK BK213 hb)
       have n1_ := Am (zK BK214 hb)
       have n2_ := Am (bq zG hb)
       have n3_ := Am (hbox)
       have n4_ := Am ((by rw [hg]; exact (bz zG) : w.heap.size ≤ gb216))
       have n5_ := Am ((by rw [hg]; exact (bz zG) : w.heap.size ≤ gb216))
       have n6_ := Am ((by rw [hg]; exact Nat.ne_of_lt (zL BK213) : gb213 ≠ gb216))
       have n7_ := Am ((by rw [hg]; exact Nat.ne_of_gt (zL BK213) : gb216 ≠ gb213))
       have n8_ := Am ((by rw [hg]; exact Nat.ne_of_lt (zL BK214) : gb214 ≠ gb216))
       have n9_ := Am ((by rw [hg]; exact Nat.ne_of_gt (zL BK214) : gb216 ≠ gb214))
       clear BK213
       clear BK214
       clear HB
       have BK213 := n0_
       have BK214 := n1_
       have HB := n2_
       have BK216 := n3_
       have GW216 := n4_
       have GE216 := n5_
       have NB213_216 := n6_
       have NB216_213 := n7_
       have NB214_216 := n8_
       have NB216_214 := n9_
       clear n0_ n1_ n2_ n3_ n4_ n5_ n6_ n7_ n8_ n9_
       clear hb hbox hg
       refine hK.out _ _ trivial (fun hHeld => ?_)
       clear hK K
       refine zN (some 10) ?_
       refine zO 13 none HT_.out rfl rfl (fun K hK => ?_)
       have hs20 : w19.cell? ⟨gb216, 0, none⟩ = some (.int .i64 0) := (kc BK216.out 0).trans rfl
       have hfs20 := kf BK216.out 0
       have hns20_0 := NB213_216.out
       have hns20_1 := NB214_216.out
       have hms20_0 := NB216_213.out
       have hms20_1 := NB216_214.out
       have hs21 : w19.cell? ⟨gb216, 1, none⟩ = some (.string (⟨#[]⟩ : ByteArray)) := (kc BK216.out 1).trans rfl
       have hfs21 := kf BK216.out 1
       have hns21_0 := NB213_216.out
       have hns21_1 := NB214_216.out
       have hms21_0 := NB216_213.out
       have hms21_1 := NB216_214.out
       have hs22 : w19.cell? ⟨gb216, 2, none⟩ = some (.bool false) := (kc BK216.out 2).trans rfl
       have hfs22 := kf BK216.out 2
       have hns22_0 := NB213_216.out
       have hns22_1 := NB214_216.out
       have hms22_0 := NB216_213.out
       have hms22_1 := NB216_214.out
       refine skip_ (w1 := ?_) (by rfl) rfl ?_ ?_
       rotate_left
       ·go_simp
        rfl
       refine hK.out _ _ trivial (fun hHeld => ?_)
       clear hK K
       refine done_ (done_of HT_.out (by kernel_rfl)) ?_
       have hnb23 := NB213_216.out
       have hnc23 := NB216_213.out
       obtain ⟨hcz24_0, hcz24_1⟩ := kc2 (w := w19) BK213.out
       have hfz24_0 := kf BK213.out
       try go_wp2_with (first | ((with_reducible refine gate_dst (N := 11) rfl ?_); refine box_event ?hg (N := 11) ?hd (cs := #[.string (⟨#[]⟩ : ByteArray), .slice none 0 0]) (t := 28) ?hr ?_; (case hd => rfl); (case hg => rfl); (case hr => first | (go_simp; done) | (go_simp; rfl)); intro gb217 hg w25 hbox hb; have n0_ := Am (kb (g := gb213) (o := o10b0 a0_0 A0_1 l0_1.length c0_1) (by (with_reducible repeat (first | refine kn ?_ _ | refine ke ?_ | refine ka ?_ _)); refine blk_far ?_ NB213_216.out _; (with_reducible repeat (first | refine kn ?_ _ | refine ke ?_ | refine ka ?_ _)); refine blk_far ?_ NB213_216.out _; (with_reducible repeat (first | refine kn ?_ _ | refine ke ?_ | refine ka ?_ _)); refine blk_far ?_ NB213_216.out _; (with_reducible repeat (first | refine kn ?_ _ | refine ke ?_ | refine ka ?_ _)); exact BK213.out) hb); have n1_ := Am (kb (g := gb214) (o := .cells #[.string (⟨#[]⟩ : ByteArray), .slice none 0 0] 28 (0, 0)) (by (with_reducible repeat (first | refine kn ?_ _ | refine ke ?_ | refine ka ?_ _)); refine blk_far ?_ NB214_216.out _; (with_reducible repeat (first | refine kn ?_ _ | refine ke ?_ | refine ka ?_ _)); refine blk_far ?_ NB214_216.out _; (with_reducible repeat (first | refine kn ?_ _ | refine ke ?_ | refine ka ?_ _)); refine blk_far ?_ NB214_216.out _; (with_reducible repeat (first | refine kn ?_ _ | refine ke ?_ | refine ka ?_ _)); exact BK214.out) hb); have n2_ := Am (kb (g := gb216) (o := .cells #[.int .i64 (wrap64 (Int.tdiv a1 2)), .string (((t215.extract 0 ((ji5) : Int).toNat) ++ a2) ++ (t215.extract ((ji9) : Int).toNat t215.size)), .bool false] 49 (0, 0)) (by (with_reducible repeat (first | refine kn ?_ _ | refine ke ?_ | refine ka ?_ _)); refine kp (cs := #[.int .i64 (wrap64 (Int.tdiv a1 2)), .string (((t215.extract 0 ((ji5) : Int).toNat) ++ a2) ++ (t215.extract ((ji9) : Int).toNat t215.size)), .bool false]) ?_ 2 _ rfl; (with_reducible repeat (first | refine kn ?_ _ | refine ke ?_ | refine ka ?_ _)); refine kp (cs := #[.int .i64 (wrap64 (Int.tdiv a1 2)), .string (⟨#[]⟩ : ByteArray), .bool false]) ?_ 1 _ rfl; (with_reducible repeat (first | refine kn ?_ _ | refine ke ?_ | refine ka ?_ _)); refine kp (cs := #[.int .i64 0, .string (⟨#[]⟩ : ByteArray), .bool false]) ?_ 0 _ rfl; (with_reducible repeat (first | refine kn ?_ _ | refine ke ?_ | refine ka ?_ _)); exact BK216.out) hb); have n3_ := Am (bq zG hb); have n4_ := Am (hbox); have n5_ := Am ((by rw [hg]; exact (bz zG) : w.heap.size ≤ gb217)); have n6_ := Am ((by rw [hg]; exact (bz zG) : w.heap.size ≤ gb217)); have n7_ := Am ((by rw [hg]; exact Nat.ne_of_lt (kl (g := gb213) (o := o10b0 a0_0 A0_1 l0_1.length c0_1) (by (with_reducible repeat (first | refine kn ?_ _ | refine ke ?_ | refine ka ?_ _)); refine blk_far ?_ NB213_216.out _; (with_reducible repeat (first | refine kn ?_ _ | refine ke ?_ | refine ka ?_ _)); refine blk_far ?_ NB213_216.out _; (with_reducible repeat (first | refine kn ?_ _ | refine ke ?_ | refine ka ?_ _)); refine blk_far ?_ NB213_216.out _; (with_reducible repeat (first | refine kn ?_ _ | refine ke ?_ | refine ka ?_ _)); exact BK213.out)) : gb213 ≠ gb217)); have n8_ := Am ((by rw [hg]; exact Nat.ne_of_gt (kl (g := gb213) (o := o10b0 a0_0 A0_1 l0_1.length c0_1) (by (with_reducible repeat (first | refine kn ?_ _ | refine ke ?_ | refine ka ?_ _)); refine blk_far ?_ NB213_216.out _; (with_reducible repeat (first | refine kn ?_ _ | refine ke ?_ | refine ka ?_ _)); refine blk_far ?_ NB213_216.out _; (with_reducible repeat (first | refine kn ?_ _ | refine ke ?_ | refine ka ?_ _)); refine blk_far ?_ NB213_216.out _; (with_reducible repeat (first | refine kn ?_ _ | refine ke ?_ | refine ka ?_ _)); exact BK213.out)) : gb217 ≠ gb213)); have n9_ := Am ((by rw [hg]; exact Nat.ne_of_lt (kl (g := gb214) (o := .cells #[.string (⟨#[]⟩ : ByteArray), .slice none 0 0] 28 (0, 0)) (by (with_reducible repeat (first | refine kn ?_ _ | refine ke ?_ | refine ka ?_ _)); refine blk_far ?_ NB214_216.out _; (with_reducible repeat (first | refine kn ?_ _ | refine ke ?_ | refine ka ?_ _)); refine blk_far ?_ NB214_216.out _; (with_reducible repeat (first | refine kn ?_ _ | refine ke ?_ | refine ka ?_ _)); refine blk_far ?_ NB214_216.out _; (with_reducible repeat (first | refine kn ?_ _ | refine ke ?_ | refine ka ?_ _)); exact BK214.out)) : gb214 ≠ gb217)); have n10_ := Am ((by rw [hg]; exact Nat.ne_of_gt (kl (g := gb214) (o := .cells #[.string (⟨#[]⟩ : ByteArray), .slice none 0 0] 28 (0, 0)) (by (with_reducible repeat (first | refine kn ?_ _ | refine ke ?_ | refine ka ?_ _)); refine blk_far ?_ NB214_216.out _; (with_reducible repeat (first | refine kn ?_ _ | refine ke ?_ | refine ka ?_ _)); refine blk_far ?_ NB214_216.out _; (with_reducible repeat (first | refine kn ?_ _ | refine ke ?_ | refine ka ?_ _)); refine blk_far ?_ NB214_216.out _; (with_reducible repeat (first | refine kn ?_ _ | refine ke ?_ | refine ka ?_ _)); exact BK214.out)) : gb217 ≠ gb214)); have n11_ := Am ((by rw [hg]; exact Nat.ne_of_lt (kl (g := gb216) (o := .cells #[.int .i64 (wrap64 (Int.tdiv a1 2)), .string (((t215.extract 0 ((ji5) : Int).toNat) ++ a2) ++ (t215.extract ((ji9) : Int).toNat t215.size)), .bool false] 49 (0, 0)) (by (with_reducible repeat (first | refine kn ?_ _ | refine ke ?_ | refine ka ?_ _)); refine kp (cs := #[.int .i64 (wrap64 (Int.tdiv a1 2)), .string (((t215.extract 0 ((ji5) : Int).toNat) ++ a2) ++ (t215.extract ((ji9) : Int).toNat t215.size)), .bool false]) ?_ 2 _ rfl; (with_reducible repeat (first | refine kn ?_ _ | refine ke ?_ | refine ka ?_ _)); refine kp (cs := #[.int .i64 (wrap64 (Int.tdiv a1 2)), .string (⟨#[]⟩ : ByteArray), .bool false]) ?_ 1 _ rfl; (with_reducible repeat (first | refine kn ?_ _ | refine ke ?_ | refine ka ?_ _)); refine kp (cs := #[.int .i64 0, .string (⟨#[]⟩ : ByteArray), .bool false]) ?_ 0 _ rfl; (with_reducible repeat (first | refine kn ?_ _ | refine ke ?_ | refine ka ?_ _)); exact BK216.out)) : gb216 ≠ gb217)); have n12_ := Am ((by rw [hg]; exact Nat.ne_of_gt (kl (g := gb216) (o := .cells #[.int .i64 (wrap64 (Int.tdiv a1 2)), .string (((t215.extract 0 ((ji5) : Int).toNat) ++ a2) ++ (t215.extract ((ji9) : Int).toNat t215.size)), .bool false] 49 (0, 0)) (by (with_reducible repeat (first | refine kn ?_ _ | refine ke ?_ | refine ka ?_ _)); refine kp (cs := #[.int .i64 (wrap64 (Int.tdiv a1 2)), .string (((t215.extract 0 ((ji5) : Int).toNat) ++ a2) ++ (t215.extract ((ji9) : Int).toNat t215.size)), .bool false]) ?_ 2 _ rfl; (with_reducible repeat (first | refine kn ?_ _ | refine ke ?_ | refine ka ?_ _)); refine kp (cs := #[.int .i64 (wrap64 (Int.tdiv a1 2)), .string (⟨#[]⟩ : ByteArray), .bool false]) ?_ 1 _ rfl; (with_reducible repeat (first | refine kn ?_ _ | refine ke ?_ | refine ka ?_ _)); refine kp (cs := #[.int .i64 0, .string (⟨#[]⟩ : ByteArray), .bool false]) ?_ 0 _ rfl; (with_reducible repeat (first | refine kn ?_ _ | refine ke ?_ | refine ka ?_ _)); exact BK216.out)) : gb217 ≠ gb216)); clear BK213; clear BK214; clear BK216; clear HB; have BK213 := n0_; have BK214 := n1_; have BK216 := n2_; have HB := n3_; have BK217 := n4_; have GW217 := n5_; have GE217 := n6_; have NB213_217 := n7_; have NB217_213 := n8_; have NB214_217 := n9_; have NB217_214 := n10_; have NB216_217 := n11_; have NB217_216 := n12_; clear n0_ n1_ n2_ n3_ n4_ n5_ n6_ n7_ n8_ n9_ n10_ n11_ n12_; clear hb hbox hg; have hnb26 := NB217_213.out; have hnc26 := NB213_217.out; have hnb27 := NB217_214.out; have hnc27 := NB214_217.out; have hnb28 := NB217_216.out; have hnc28 := NB216_217.out; obtain ⟨hcz29_0, hcz29_1⟩ := kc2 (w := w25) BK217.out; have hfz29_0 := kf BK217.out))
       go_loopg [12, 13] k (fun kq v12 v13 w' => ∃ (x12_1 : Bool) (x13_1 : Int) (x218001_1 : List (S49)) (u218001 : Value), v12 = .bool x12_1 ∧ v13 = .int .i64 x13_1 ∧ Aside0 (spec_l10Store.l0 kq (wrap64 (Int.tdiv a1 2)) x12_1 x13_1 a0_0 l0_1 (wrap64 (Int.tdiv a1 2)) (((t215.extract 0 ((ji5) : Int).toNat) ++ a2) ++ (t215.extract ((ji9) : Int).toNat t215.size)) false a0_0 x218001_1 = some (r1, r2)) ∧ Aside0 (kq ≤ k) ∧ Aside0 (Kd.R k49 49 w' w.heap.size (fun k_ => k_ ≠ gb216) u218001 x218001_1) ∧ Aside0 (w'.heap[gb213]? = some (.cells #[.string a0_0, (.slice A0_1 l0_1.length c0_1)] 28 (0, 0))) ∧ Aside0 (w'.heap[gb214]? = some (.cells #[.string (⟨#[]⟩ : ByteArray), (.slice none 0 0)] 28 (0, 0))) ∧ Aside0 (w'.heap[gb216]? = some (.cells #[.int .i64 (wrap64 (Int.tdiv a1 2)), .string (((t215.extract 0 ((ji5) : Int).toNat) ++ a2) ++ (t215.extract ((ji9) : Int).toNat t215.size)), .bool false] 49 (0, 0))) ∧ Aside0 (w'.heap[gb217]? = some (.cells #[.string a0_0, u218001] 28 (0, 0))) ∧ Aside0 (Below w.heap.size w w'))
       case atStart => exact ⟨(false), (0), (([] : List (S49))), (.slice none 0 0), (by first | rfl | (simp; done) | (simp [*]; done)), (by first | rfl | (simp; done) | (simp [*]; done)), H', ⟨Nat.le_refl _⟩, ⟨by first | exact Kd.R_nil _ _ _ _ _ | exact Kd.N_nil _ _ _ _ _ | exact Kd.V_nil _ _ _ _ _ | exact Kd.Q_nil _ _ _ _ _ | exact Kd.S_nil _ _ _ _ _⟩, ⟨by (with_reducible repeat (first | refine kn ?_ _ | refine ke ?_ | refine ka ?_ _)); refine blk_far ?_ NB213_217.out _; (with_reducible repeat (first | refine kn ?_ _ | refine ke ?_ | refine ka ?_ _)); refine blk_far ?_ NB213_217.out _; (with_reducible repeat (first | refine kn ?_ _ | refine ke ?_ | refine ka ?_ _)); exact BK213.out⟩, ⟨by (with_reducible repeat (first | refine kn ?_ _ | refine ke ?_ | refine ka ?_ _)); refine blk_far ?_ NB214_217.out _; (with_reducible repeat (first | refine kn ?_ _ | refine ke ?_ | refine ka ?_ _)); refine blk_far ?_ NB214_217.out _; (with_reducible repeat (first | refine kn ?_ _ | refine ke ?_ | refine ka ?_ _)); exact BK214.out⟩, ⟨by (with_reducible repeat (first | refine kn ?_ _ | refine ke ?_ | refine ka ?_ _)); refine blk_far ?_ NB216_217.out _; (with_reducible repeat (first | refine kn ?_ _ | refine ke ?_ | refine ka ?_ _)); refine blk_far ?_ NB216_217.out _; (with_reducible repeat (first | refine kn ?_ _ | refine ke ?_ | refine ka ?_ _)); exact BK216.out⟩, ⟨by (with_reducible repeat (first | refine kn ?_ _ | refine ke ?_ | refine ka ?_ _)); refine kp (cs := #[.string a0_0, .slice none 0 0]) ?_ 1 _ rfl; (with_reducible repeat (first | refine kn ?_ _ | refine ke ?_ | refine ka ?_ _)); refine kp (cs := #[.string (⟨#[]⟩ : ByteArray), .slice none 0 0]) ?_ 0 _ rfl; (with_reducible repeat (first | refine kn ?_ _ | refine ke ?_ | refine ka ?_ _)); exact BK217.out⟩, ⟨zG⟩⟩
       case round =>
        clear H'
        try clear c1; try clear c2; try clear p2; try clear c5; try clear c6; try clear c6b0; try clear c6b1; try clear p6; try clear c7; try clear c7b0; try clear c7b1; try clear c8; try clear c8b0; try clear c8b1; try clear c8b2; try clear c10; try clear c10b0; try clear c10b1; try clear c11; try clear c11b0; try clear c11b1; try clear c12; try clear c12b0; try clear c12b1; try clear c12b2; try clear c15; try clear c23; try clear c26; try clear c27; try clear c28; try clear hcz16_0; try clear hcz16_1; try clear hcz24_0; try clear hcz24_1; try clear hcz29_0; try clear hcz29_1; try clear hfz16_0; try clear hfz16_1; try clear hfz24_0; try clear hfz24_1; try clear hfz29_0; try clear hfz29_1
        obtain ⟨x12_1, x13_1, x218001_1, u218001, rfl, rfl, HA, HK1, HO_218001, BK213, BK214, BK216, BK217, HB⟩ := hrel
        cases gk with
        | zero => exact absurd HA.out (by simp [spec_l10Store.l0])
        | succ k1 =>
         have H := HA.out
         clear HA
         simp only [spec_l10Store.l0] at H
         by_cases c30 : x13_1 < (l0_1.length : Int)
         ·rw [if_pos c30] at H
          have c30b0 : decide (x13_1 < (l0_1.length : Int)) = true := decide_eq_true c30
          clear c30
          have HC31 := Am H
          clear H
          have hnb32 := NB213_214.out
          have hnc32 := NB214_213.out
          have hnb33 := NB213_216.out
          have hnc33 := NB216_213.out
          have hnb34 := NB213_217.out
          have hnc34 := NB217_213.out
          obtain ⟨hcz35_0, hcz35_1⟩ := kc2 (w := wr) BK213.out
          have hfz35_0 := kf BK213.out
          go_upto_region 10 with (fail)
          go_cut [55] (fun v55 wc => ∃ (kq : Nat) (x55_30 : Bool), v55 = .bool x55_30 ∧ Aside0 (spec_l10Store.j1 kq (wrap64 (Int.tdiv a1 2)) x12_1 x13_1 x55_30 a0_0 l0_1 (wrap64 (Int.tdiv a1 2)) (((t215.extract 0 ((ji5) : Int).toNat) ++ a2) ++ (t215.extract ((ji9) : Int).toNat t215.size)) false a0_0 x218001_1 = some (r1, r2)) ∧ Aside0 (kq ≤ k1) ∧ Aside0 (Kd.R k49 49 wc w.heap.size (fun k_ => k_ ≠ gb216) u218001 x218001_1) ∧ Aside0 (wc.heap[gb213]? = some (.cells #[.string a0_0, (.slice A0_1 l0_1.length c0_1)] 28 (0, 0))) ∧ Aside0 (wc.heap[gb214]? = some (.cells #[.string (⟨#[]⟩ : ByteArray), (.slice none 0 0)] 28 (0, 0))) ∧ Aside0 (wc.heap[gb216]? = some (.cells #[.int .i64 (wrap64 (Int.tdiv a1 2)), .string (((t215.extract 0 ((ji5) : Int).toNat) ++ a2) ++ (t215.extract ((ji9) : Int).toNat t215.size)), .bool false] 49 (0, 0))) ∧ Aside0 (wc.heap[gb217]? = some (.cells #[.string a0_0, u218001] 28 (0, 0))) ∧ Aside0 (Below w.heap.size w wc))
          case first =>
           have H := HC31.out
           clear HC31
           by_cases c36 : x12_1 = true
           ·subst c36
            have H1 : (spec_l10Store.j1 k1 (wrap64 (Int.tdiv a1 2)) true x13_1 false a0_0 l0_1 (wrap64 (Int.tdiv a1 2)) (((t215.extract 0 ((ji5) : Int).toNat) ++ a2) ++ (t215.extract ((ji9) : Int).toNat t215.size)) false a0_0 x218001_1) = some (r1, r2) := by rw [if_pos rfl] at H; exact H
            clear H
            have H := H1
            clear H1
            have H' := Am H
            clear H
            go_wp2
            go_meet
            case rel => exact ⟨_, (false), (by first | rfl | (simp; done) | (simp [*]; done)), H', ⟨by have := HK1.out; first | omega | exact Nat.le_refl _⟩, ⟨by (with_reducible repeat (first | apply ra | apply rn | apply re)); exact HO_218001.out⟩, ⟨by (with_reducible repeat (first | refine kn ?_ _ | refine ke ?_ | refine ka ?_ _)); exact BK213.out⟩, ⟨by (with_reducible repeat (first | refine kn ?_ _ | refine ke ?_ | refine ka ?_ _)); exact BK214.out⟩, ⟨by (with_reducible repeat (first | refine kn ?_ _ | refine ke ?_ | refine ka ?_ _)); exact BK216.out⟩, ⟨by (with_reducible repeat (first | refine kn ?_ _ | refine ke ?_ | refine ka ?_ _)); exact BK217.out⟩, ⟨zG⟩⟩
           ·replace c36 := Bool.eq_false_iff.mpr c36
            subst c36
            have H1 : (if 0 ≤ x13_1 then (spec_l10Store.j1 k1 (wrap64 (Int.tdiv a1 2)) false x13_1 (decide (((rd_T49 l0_1 x13_1).f0) ≥ (wrap64 (Int.tdiv a1 2)))) a0_0 l0_1 (wrap64 (Int.tdiv a1 2)) (((t215.extract 0 ((ji5) : Int).toNat) ++ a2) ++ (t215.extract ((ji9) : Int).toNat t215.size)) false a0_0 x218001_1) else (none)) = some (r1, r2) := by rw [if_neg (show ¬ (false = true) by decide)] at H; exact H
            clear H
            have H := H1
            clear H1
            by_cases c37 : 0 ≤ x13_1
            ·rw [if_pos c37] at H
             have c37b0 : decide (0 ≤ x13_1) = true := decide_eq_true c37
             clear c37
             (first | rw [c37b0] | (simp only [i64_w, i32_w]; rw [c37b0]) | skip)
             have H' := Am H
             clear H
             have hnb38 := NB213_214.out
             have hnc38 := NB214_213.out
             have hnb39 := NB213_216.out
             have hnc39 := NB216_213.out
             have hnb40 := NB213_217.out
             have hnc40 := NB217_213.out
             obtain ⟨hcz41_0, hcz41_1⟩ := kc2 (w := wr) BK213.out
             have hfz41_0 := kf BK213.out
             have p221 : 0 ≤ (x13_1 : Int) := of_decide_eq_true (by first | (with_reducible assumption) | assumption)
             have q221 : x13_1 < (l0_1.length : Int) := of_decide_eq_true (by first | (with_reducible assumption) | assumption)
             obtain ⟨ad221, e221, hx221_0, hx221_1, hx221_2⟩ := at_T49 HR0_1.out x13_1 p221 q221
             cases e221
             replace hx221_0 := cl10 HB hx221_0
             replace hx221_1 := cl10 HB hx221_1
             replace hx221_2 := cl10 HB hx221_2
             replace p221 := eq_true p221
             replace q221 := eq_true q221
             go_wp2
             go_meet
             case rel => exact ⟨_, (decide (((rd_T49 l0_1 x13_1).f0) ≥ (wrap64 (Int.tdiv a1 2)))), (by first | rfl | (simp; done) | (simp [*]; done)), H', ⟨by have := HK1.out; first | omega | exact Nat.le_refl _⟩, ⟨by (with_reducible repeat (first | apply ra | apply rn | apply re)); exact HO_218001.out⟩, ⟨by (with_reducible repeat (first | refine kn ?_ _ | refine ke ?_ | refine ka ?_ _)); exact BK213.out⟩, ⟨by (with_reducible repeat (first | refine kn ?_ _ | refine ke ?_ | refine ka ?_ _)); exact BK214.out⟩, ⟨by (with_reducible repeat (first | refine kn ?_ _ | refine ke ?_ | refine ka ?_ _)); exact BK216.out⟩, ⟨by (with_reducible repeat (first | refine kn ?_ _ | refine ke ?_ | refine ka ?_ _)); exact BK217.out⟩, ⟨zG⟩⟩
            ·rw [if_neg c37] at H
             exact absurd H (by simp)
          case rest =>
           clear HC31
           try clear c1; try clear c2; try clear p2; try clear q2; try clear hx2; try clear c3; try clear c4; try clear c5; try clear c6; try clear c6b0; try clear c6b1; try clear p6; try clear c7; try clear c7b0; try clear c7b1; try clear c8; try clear c8b0; try clear c8b1; try clear c8b2; try clear c10; try clear c10b0; try clear c10b1; try clear c11; try clear c11b0; try clear c11b1; try clear c12; try clear c12b0; try clear c12b1; try clear c12b2; try clear c15; try clear p22; try clear q22; try clear hx22; try clear c23; try clear c26; try clear c27; try clear c28; try clear c30; try clear c30b0; try clear c32; try clear c33; try clear c34; try clear c36; try clear c37; try clear c37b0; try clear c38; try clear c39; try clear c40; try clear hcz16_0; try clear hcz16_1; try clear hcz24_0; try clear hcz24_1; try clear hcz29_0; try clear hcz29_1; try clear hcz35_0; try clear hcz35_1; try clear hcz41_0; try clear hcz41_1; try clear hfz16_0; try clear hfz16_1; try clear hfz24_0; try clear hfz24_1; try clear hfz29_0; try clear hfz29_1; try clear hfz35_0; try clear hfz35_1; try clear hfz41_0; try clear hfz41_1; try clear hx221_0; try clear hx221_1; try clear hx221_2; try clear p2; try clear p221; try clear p6; try clear q221
           obtain ⟨kq, x55_30, rfl, HA, HJ30, HO_218001, BK213, BK214, BK216, BK217, HB⟩ := hcut
           cases kq with
           | zero => exact absurd HA.out (by simp [spec_l10Store.j1])
           | succ kj30 =>
            have H := HA.out
            clear HA
            simp only [spec_l10Store.j1] at H
            by_cases c42 : x55_30 = true
            ·subst c42
             have H1 : (if x218001_1.length < 4398046511104 then ((some (x218001_1 ++ [(⟨(wrap64 (Int.tdiv a1 2)), (((t215.extract 0 ((ji5) : Int).toNat) ++ a2) ++ (t215.extract ((ji9) : Int).toNat t215.size)), false⟩ : S49)] : List (S49))).bind fun y222 => (if 0 ≤ x13_1 then (if x13_1 < (l0_1.length : Int) then (if ((rd_T49 l0_1 x13_1).f0) = (wrap64 (Int.tdiv a1 2)) then (spec_l10Store.l0 kj30 (wrap64 (Int.tdiv a1 2)) true (wrap64 (x13_1 + 1)) a0_0 l0_1 (wrap64 (Int.tdiv a1 2)) (((t215.extract 0 ((ji5) : Int).toNat) ++ a2) ++ (t215.extract ((ji9) : Int).toNat t215.size)) false a0_0 y222) else (if y222.length < 4398046511104 then (spec_l10Store.l0 kj30 (wrap64 (Int.tdiv a1 2)) true (wrap64 (x13_1 + 1)) a0_0 l0_1 (wrap64 (Int.tdiv a1 2)) (((t215.extract 0 ((ji5) : Int).toNat) ++ a2) ++ (t215.extract ((ji9) : Int).toNat t215.size)) false a0_0 (y222 ++ [(⟨(rd_T49 l0_1 x13_1).f0, (rd_T49 l0_1 x13_1).f1, (rd_T49 l0_1 x13_1).f2⟩ : S49)])) else (none))) else (none)) else (none))) else (none)) = some (r1, r2) := by rw [if_pos rfl] at H; exact H
             clear H
             have H := H1
             clear H1
             by_cases c43 : x218001_1.length < 4398046511104
             ·rw [if_pos c43] at H
              have LMc43 := Am c43
              clear c43
              obtain ⟨y222, hy222⟩ : ∃ y_ : List (S49), y_ = (x218001_1 ++ [(⟨(wrap64 (Int.tdiv a1 2)), (((t215.extract 0 ((ji5) : Int).toNat) ++ a2) ++ (t215.extract ((ji9) : Int).toNat t215.size)), false⟩ : S49)]) := ⟨_, rfl⟩
              replace H : (if 0 ≤ x13_1 then (if x13_1 < (l0_1.length : Int) then (if ((rd_T49 l0_1 x13_1).f0) = (wrap64 (Int.tdiv a1 2)) then (spec_l10Store.l0 kj30 (wrap64 (Int.tdiv a1 2)) true (wrap64 (x13_1 + 1)) a0_0 l0_1 (wrap64 (Int.tdiv a1 2)) (((t215.extract 0 ((ji5) : Int).toNat) ++ a2) ++ (t215.extract ((ji9) : Int).toNat t215.size)) false a0_0 y222) else (if y222.length < 4398046511104 then (spec_l10Store.l0 kj30 (wrap64 (Int.tdiv a1 2)) true (wrap64 (x13_1 + 1)) a0_0 l0_1 (wrap64 (Int.tdiv a1 2)) (((t215.extract 0 ((ji5) : Int).toNat) ++ a2) ++ (t215.extract ((ji9) : Int).toNat t215.size)) false a0_0 (y222 ++ [(⟨(rd_T49 l0_1 x13_1).f0, (rd_T49 l0_1 x13_1).f1, (rd_T49 l0_1 x13_1).f2⟩ : S49)])) else (none))) else (none)) else (none)) = some (r1, r2) := by first | (rw [hy222]; with_reducible exact H) | (have H2_ := (Option.bind_some _ _).symm.trans H; rw [hy222]; with_reducible exact H2_) | (have H2_ := (Option.bind_some _ _).symm.trans H; with_reducible exact H2_) | with_reducible exact H | (rw [hy222]; exact H) | exact H
              have Ny222 := Am hy222
              clear hy222
              by_cases c44 : 0 ≤ x13_1
              ·rw [if_pos c44] at H
               have c44b0 : decide (0 ≤ x13_1) = true := decide_eq_true c44
               clear c44
               by_cases c45 : x13_1 < (l0_1.length : Int)
               ·rw [if_pos c45] at H
                have c45b0 : decide (x13_1 < (l0_1.length : Int)) = true := decide_eq_true c45
                clear c45
                by_cases c46 : ((rd_T49 l0_1 x13_1).f0) = (wrap64 (Int.tdiv a1 2))
                ·rw [if_pos c46] at H
                 have c46b0 : (((rd_T49 l0_1 x13_1).f0) == (wrap64 (Int.tdiv a1 2))) = true := beq_iff_eq.mpr c46
                 have c46b1 : (((rd_T49 l0_1 x13_1).f0) != (wrap64 (Int.tdiv a1 2))) = false := bne_eq_false_iff_eq.mpr c46
                 clear c46
                 have H' := Am H
                 clear H
                 have hnb47 := NB217_213.out
                 have hnc47 := NB213_217.out
                 have hnb48 := NB217_214.out
                 have hnc48 := NB214_217.out
                 have hnb49 := NB217_216.out
                 have hnc49 := NB216_217.out
                 obtain ⟨hcz50_0, hcz50_1⟩ := kc2 (w := wc) BK217.out
                 have hfz50_0 := kf BK217.out
                 have hnb51 := NB216_213.out
                 have hnc51 := NB213_216.out
                 have hnb52 := NB216_214.out
                 have hnc52 := NB214_216.out
                 obtain ⟨hcz53_0, hcz53_1, hcz53_2⟩ := kc3 (w := wc) BK216.out
                 have hfz53_0 := kf BK216.out
                 go_wp2_with (first | ((with_reducible refine gate_builtin (b := .append) (xs := #[.tmp 57, .tmp 59]) rfl ?_); at_builtin; refine Kd.R_append k49 (w0 := w) w.heap.size rfl (.tmp 57) (.tmp 59) 26 49 (.agg #[(.int .i64 0), (.string ⟨#[]⟩), (.bool false)]) 32 rfl Try.underlying26 info49 rfl (by decide) (by omega) u218001 x218001_1 (⟨(wrap64 (Int.tdiv a1 2)), (((t215.extract 0 ((ji5) : Int).toNat) ++ a2) ++ (t215.extract ((ji9) : Int).toNat t215.size)), false⟩ : S49) [.int .i64 (wrap64 (Int.tdiv a1 2)), .string (((t215.extract 0 ((ji5) : Int).toNat) ++ a2) ++ (t215.extract ((ji9) : Int).toNat t215.size)), .bool false] (fun k_ => k_ ≠ gb216) (fun _ => False) rfl rfl ?aP (fun _ hk => hk.elim) ?aF ?aO ?aB ?aS ?aL ?_; (case aP => exact k49_mkM _ _ _ (⟨(wrap64 (Int.tdiv a1 2)), (((t215.extract 0 ((ji5) : Int).toNat) ++ a2) ++ (t215.extract ((ji9) : Int).toNat t215.size)), false⟩ : S49)); (case aB => exact zG); (case aF => exact (fun k_ hk => Kd.freshB (g := gb216) (o := .cells #[.int .i64 (wrap64 (Int.tdiv a1 2)), .string (((t215.extract 0 ((ji5) : Int).toNat) ++ a2) ++ (t215.extract ((ji9) : Int).toNat t215.size)), .bool false] 49 (0, 0)) (by (with_reducible repeat (first | refine kn ?_ _ | refine ke ?_ | refine ka ?_ _)); exact BK216.out) k_ hk)); (case aO => exact (by (with_reducible repeat (first | apply ra | apply rn | apply re)); exact HO_218001.out)); (case aS => exact (bz zG)); (case aL => have := LMc43.out; omega); intro v223 w54 ho hb hg hat; rw [← Ny222.out] at ho; have n0_ := Am (kg (g := gb213) (o := o10b0 a0_0 A0_1 l0_1.length c0_1) (by (with_reducible repeat (first | refine kn ?_ _ | refine ke ?_ | refine ka ?_ _)); exact BK213.out) hg (Kd.R_ne HO_218001.out BK213.out (by decide))); have n1_ := Am (kg (g := gb214) (o := .cells #[.string (⟨#[]⟩ : ByteArray), .slice none 0 0] 28 (0, 0)) (by (with_reducible repeat (first | refine kn ?_ _ | refine ke ?_ | refine ka ?_ _)); exact BK214.out) hg (Kd.R_ne HO_218001.out BK214.out (by decide))); have n2_ := Am (kg (g := gb216) (o := .cells #[.int .i64 (wrap64 (Int.tdiv a1 2)), .string (((t215.extract 0 ((ji5) : Int).toNat) ++ a2) ++ (t215.extract ((ji9) : Int).toNat t215.size)), .bool false] 49 (0, 0)) (by (with_reducible repeat (first | refine kn ?_ _ | refine ke ?_ | refine ka ?_ _)); exact BK216.out) hg (Kd.R_away HO_218001.out (fun _ hk => hk))); have n3_ := Am (kg (g := gb217) (o := .cells #[.string a0_0, u218001] 28 (0, 0)) (by (with_reducible repeat (first | refine kn ?_ _ | refine ke ?_ | refine ka ?_ _)); exact BK217.out) hg (Kd.R_ne HO_218001.out BK217.out (by decide))); have n4_ := Am (hb); have n5_ := Am (ho); clear BK213; clear BK214; clear BK216; clear BK217; clear HB; clear HO_218001; have BK213 := n0_; have BK214 := n1_; have BK216 := n2_; have BK217 := n3_; have HB := n4_; have HO224 := n5_; clear n0_ n1_ n2_ n3_ n4_ n5_; clear ho hb hg hat; obtain ⟨Ao55, co55, eo55⟩ := Kd.R_slice HO224.out; subst eo55; obtain ⟨hcz56_0, hcz56_1⟩ := kc2 (w := w54) BK217.out; have hfz56_0 := kf BK217.out; have hnb57 := NB213_214.out; have hnc57 := NB214_213.out; obtain ⟨hcz58_0, hcz58_1⟩ := kc2 (w := w54) BK213.out; have hfz58_0 := kf BK213.out; have p225 : 0 ≤ (x13_1 : Int) := of_decide_eq_true (by first | (with_reducible assumption) | assumption); have q225 : x13_1 < (l0_1.length : Int) := of_decide_eq_true (by first | (with_reducible assumption) | assumption); obtain ⟨ad225, e225, hx225_0, hx225_1, hx225_2⟩ := at_T49 HR0_1.out x13_1 p225 q225; cases e225; have hn225_0 : ad225.block ≠ gb217 := Nat.ne_of_lt (Nat.lt_of_lt_of_le (by have := World.block_lt_of_cell? _ _ hx225_0; first | rwa [add_block] at this | exact this) GW217.out); replace hx225_0 := cl10 HB hx225_0; replace hx225_1 := cl10 HB hx225_1; replace hx225_2 := cl10 HB hx225_2; replace hx225_0 := (cell_far (p := ⟨gb217, 1, none⟩) (by first | (rw [add_block]; exact hn225_0) | (show (Addr.add _ _).block ≠ _; rw [add_block]; exact hn225_0) | exact hn225_0) (.slice Ao55 y222.length co55)).trans hx225_0; replace hx225_1 := (cell_far (p := ⟨gb217, 1, none⟩) (by first | (rw [add_block]; exact hn225_0) | (show (Addr.add _ _).block ≠ _; rw [add_block]; exact hn225_0) | exact hn225_0) (.slice Ao55 y222.length co55)).trans hx225_1; replace hx225_2 := (cell_far (p := ⟨gb217, 1, none⟩) (by first | (rw [add_block]; exact hn225_0) | (show (Addr.add _ _).block ≠ _; rw [add_block]; exact hn225_0) | exact hn225_0) (.slice Ao55 y222.length co55)).trans hx225_2; clear hn225_0; replace p225 := eq_true p225; replace q225 := eq_true q225))
                 go_roundg kj30
                 case measure => have := HK1.out; have := HJ30.out; omega
                 case rel => exact ⟨(true), (wrap64 (x13_1 + 1)), (y222), (.slice Ao55 y222.length co55), (by first | rfl | (simp; done) | (simp [*]; done)), (by first | rfl | (simp; done) | (simp [*]; done)), H', ⟨by have := HK1.out; have := HJ30.out; omega⟩, ⟨by (with_reducible repeat (first | apply ra | apply rn | apply re)); exact Kd.R_mono (Kd.R_far (p := ⟨gb217, 1, none⟩) (Kd.R_types HO224.out BK217.out (by decide)) (fun _ hk => (by first | exact hk.2 | exact hk | exact hk.1 | exact hk.1.1 | exact hk.1.2 | exact hk.2.1 | exact hk.2.2 | exact hk.1.1.1 | exact hk.1.1.2 | exact hk.1.2.1 | exact hk.1.2.2 | exact hk.2.1.1 | exact hk.2.1.2 | exact hk.2.2.1 | exact hk.2.2.2)) (.slice Ao55 y222.length co55)) (fun _ hk => (by first | exact hk.1 | exact hk | exact hk.2 | exact hk.1.1 | exact hk.1.2 | exact hk.2.1 | exact hk.2.2 | exact hk.1.1.1 | exact hk.1.1.2 | exact hk.1.2.1 | exact hk.1.2.2 | exact hk.2.1.1 | exact hk.2.1.2 | exact hk.2.2.1 | exact hk.2.2.2))⟩, ⟨by (with_reducible repeat (first | refine kn ?_ _ | refine ke ?_ | refine ka ?_ _)); refine blk_far ?_ NB213_217.out _; (with_reducible repeat (first | refine kn ?_ _ | refine ke ?_ | refine ka ?_ _)); exact BK213.out⟩, ⟨by (with_reducible repeat (first | refine kn ?_ _ | refine ke ?_ | refine ka ?_ _)); refine blk_far ?_ NB214_217.out _; (with_reducible repeat (first | refine kn ?_ _ | refine ke ?_ | refine ka ?_ _)); exact BK214.out⟩, ⟨by (with_reducible repeat (first | refine kn ?_ _ | refine ke ?_ | refine ka ?_ _)); refine blk_far ?_ NB216_217.out _; (with_reducible repeat (first | refine kn ?_ _ | refine ke ?_ | refine ka ?_ _)); exact BK216.out⟩, ⟨by (with_reducible repeat (first | refine kn ?_ _ | refine ke ?_ | refine ka ?_ _)); refine kp (cs := #[.string a0_0, u218001]) ?_ 1 _ rfl; (with_reducible repeat (first | refine kn ?_ _ | refine ke ?_ | refine ka ?_ _)); exact BK217.out⟩, ⟨zG⟩⟩
                ·rw [if_neg c46] at H
                 have c46b0 : (((rd_T49 l0_1 x13_1).f0) == (wrap64 (Int.tdiv a1 2))) = false := beq_eq_false_iff_ne.mpr c46
                 have c46b1 : (((rd_T49 l0_1 x13_1).f0) != (wrap64 (Int.tdiv a1 2))) = true := bne_iff_ne.mpr c46
                 by_cases c59 : y222.length < 4398046511104
                 ·rw [if_pos c59] at H
                  have LMc59 := Am c59
                  clear c59
                  obtain ⟨y227, hy227⟩ : ∃ y_ : List (S49), y_ = (y222 ++ [(⟨(rd_T49 l0_1 x13_1).f0, (rd_T49 l0_1 x13_1).f1, (rd_T49 l0_1 x13_1).f2⟩ : S49)]) := ⟨_, rfl⟩
                  replace H : (spec_l10Store.l0 kj30 (wrap64 (Int.tdiv a1 2)) true (wrap64 (x13_1 + 1)) a0_0 l0_1 (wrap64 (Int.tdiv a1 2)) (((t215.extract 0 ((ji5) : Int).toNat) ++ a2) ++ (t215.extract ((ji9) : Int).toNat t215.size)) false a0_0 y227) = some (r1, r2) := by first | (rw [hy227]; with_reducible exact H) | (have H2_ := (Option.bind_some _ _).symm.trans H; rw [hy227]; with_reducible exact H2_) | (have H2_ := (Option.bind_some _ _).symm.trans H; with_reducible exact H2_) | with_reducible exact H | (rw [hy227]; exact H) | exact H
                  have Ny227 := Am hy227
                  clear hy227
                  have H' := Am H
                  clear H
                  have hnb60 := NB217_213.out
                  have hnc60 := NB213_217.out
                  have hnb61 := NB217_214.out
                  have hnc61 := NB214_217.out
                  have hnb62 := NB217_216.out
                  have hnc62 := NB216_217.out
                  obtain ⟨hcz63_0, hcz63_1⟩ := kc2 (w := wc) BK217.out
                  have hfz63_0 := kf BK217.out
                  have hnb64 := NB216_213.out
                  have hnc64 := NB213_216.out
                  have hnb65 := NB216_214.out
                  have hnc65 := NB214_216.out
                  obtain ⟨hcz66_0, hcz66_1, hcz66_2⟩ := kc3 (w := wc) BK216.out
                  have hfz66_0 := kf BK216.out
                  try go_wp2_with (first | ((with_reducible refine gate_builtin (b := .append) (xs := #[.tmp 57, .tmp 59]) rfl ?_); at_builtin; refine Kd.R_append k49 (w0 := w) w.heap.size rfl (.tmp 57) (.tmp 59) 26 49 (.agg #[(.int .i64 0), (.string ⟨#[]⟩), (.bool false)]) 32 rfl Try.underlying26 info49 rfl (by decide) (by omega) u218001 x218001_1 (⟨(wrap64 (Int.tdiv a1 2)), (((t215.extract 0 ((ji5) : Int).toNat) ++ a2) ++ (t215.extract ((ji9) : Int).toNat t215.size)), false⟩ : S49) [.int .i64 (wrap64 (Int.tdiv a1 2)), .string (((t215.extract 0 ((ji5) : Int).toNat) ++ a2) ++ (t215.extract ((ji9) : Int).toNat t215.size)), .bool false] (fun k_ => k_ ≠ gb216) (fun _ => False) rfl rfl ?aP (fun _ hk => hk.elim) ?aF ?aO ?aB ?aS ?aL ?_; (case aP => exact k49_mkM _ _ _ (⟨(wrap64 (Int.tdiv a1 2)), (((t215.extract 0 ((ji5) : Int).toNat) ++ a2) ++ (t215.extract ((ji9) : Int).toNat t215.size)), false⟩ : S49)); (case aB => exact zG); (case aF => exact (fun k_ hk => Kd.freshB (g := gb216) (o := .cells #[.int .i64 (wrap64 (Int.tdiv a1 2)), .string (((t215.extract 0 ((ji5) : Int).toNat) ++ a2) ++ (t215.extract ((ji9) : Int).toNat t215.size)), .bool false] 49 (0, 0)) (by (with_reducible repeat (first | refine kn ?_ _ | refine ke ?_ | refine ka ?_ _)); exact BK216.out) k_ hk)); (case aO => exact (by (with_reducible repeat (first | apply ra | apply rn | apply re)); exact HO_218001.out)); (case aS => exact (bz zG)); (case aL => have := LMc43.out; omega); intro v223 w67 ho hb hg hat; rw [← Ny222.out] at ho; have n0_ := Am (kg (g := gb213) (o := o10b0 a0_0 A0_1 l0_1.length c0_1) (by (with_reducible repeat (first | refine kn ?_ _ | refine ke ?_ | refine ka ?_ _)); exact BK213.out) hg (Kd.R_ne HO_218001.out BK213.out (by decide))); have n1_ := Am (kg (g := gb214) (o := .cells #[.string (⟨#[]⟩ : ByteArray), .slice none 0 0] 28 (0, 0)) (by (with_reducible repeat (first | refine kn ?_ _ | refine ke ?_ | refine ka ?_ _)); exact BK214.out) hg (Kd.R_ne HO_218001.out BK214.out (by decide))); have n2_ := Am (kg (g := gb216) (o := .cells #[.int .i64 (wrap64 (Int.tdiv a1 2)), .string (((t215.extract 0 ((ji5) : Int).toNat) ++ a2) ++ (t215.extract ((ji9) : Int).toNat t215.size)), .bool false] 49 (0, 0)) (by (with_reducible repeat (first | refine kn ?_ _ | refine ke ?_ | refine ka ?_ _)); exact BK216.out) hg (Kd.R_away HO_218001.out (fun _ hk => hk))); have n3_ := Am (kg (g := gb217) (o := .cells #[.string a0_0, u218001] 28 (0, 0)) (by (with_reducible repeat (first | refine kn ?_ _ | refine ke ?_ | refine ka ?_ _)); exact BK217.out) hg (Kd.R_ne HO_218001.out BK217.out (by decide))); have n4_ := Am (hb); have n5_ := Am (ho); clear BK213; clear BK214; clear BK216; clear BK217; clear HB; clear HO_218001; have BK213 := n0_; have BK214 := n1_; have BK216 := n2_; have BK217 := n3_; have HB := n4_; have HO224 := n5_; clear n0_ n1_ n2_ n3_ n4_ n5_; clear ho hb hg hat; obtain ⟨Ao68, co68, eo68⟩ := Kd.R_slice HO224.out; subst eo68; obtain ⟨hcz69_0, hcz69_1⟩ := kc2 (w := w67) BK217.out; have hfz69_0 := kf BK217.out; have hnb70 := NB213_214.out; have hnc70 := NB214_213.out; obtain ⟨hcz71_0, hcz71_1⟩ := kc2 (w := w67) BK213.out; have hfz71_0 := kf BK213.out; have p225 : 0 ≤ (x13_1 : Int) := of_decide_eq_true (by first | (with_reducible assumption) | assumption); have q225 : x13_1 < (l0_1.length : Int) := of_decide_eq_true (by first | (with_reducible assumption) | assumption); obtain ⟨ad225, e225, hx225_0, hx225_1, hx225_2⟩ := at_T49 HR0_1.out x13_1 p225 q225; cases e225; have hn225_0 : ad225.block ≠ gb217 := Nat.ne_of_lt (Nat.lt_of_lt_of_le (by have := World.block_lt_of_cell? _ _ hx225_0; first | rwa [add_block] at this | exact this) GW217.out); replace hx225_0 := cl10 HB hx225_0; replace hx225_1 := cl10 HB hx225_1; replace hx225_2 := cl10 HB hx225_2; replace hx225_0 := (cell_far (p := ⟨gb217, 1, none⟩) (by first | (rw [add_block]; exact hn225_0) | (show (Addr.add _ _).block ≠ _; rw [add_block]; exact hn225_0) | exact hn225_0) (.slice Ao68 y222.length co68)).trans hx225_0; replace hx225_1 := (cell_far (p := ⟨gb217, 1, none⟩) (by first | (rw [add_block]; exact hn225_0) | (show (Addr.add _ _).block ≠ _; rw [add_block]; exact hn225_0) | exact hn225_0) (.slice Ao68 y222.length co68)).trans hx225_1; replace hx225_2 := (cell_far (p := ⟨gb217, 1, none⟩) (by first | (rw [add_block]; exact hn225_0) | (show (Addr.add _ _).block ≠ _; rw [add_block]; exact hn225_0) | exact hn225_0) (.slice Ao68 y222.length co68)).trans hx225_2; clear hn225_0; replace p225 := eq_true p225; replace q225 := eq_true q225))
                  have n0_ : Aside0 (Kd.R k49 49 (w67.setCell ⟨gb217, 1, none⟩ (.slice Ao68 y222.length co68)) w.heap.size (fun k_ => k_ ≠ gb216) (.slice Ao68 y222.length co68) y222) := ⟨by (with_reducible repeat (first | apply ra | apply rn | apply re)); exact Kd.R_mono (Kd.R_far (p := ⟨gb217, 1, none⟩) (Kd.R_types HO224.out BK217.out (by decide)) (fun _ hk => hk.2) (.slice Ao68 y222.length co68)) (fun _ hk => hk.1)⟩
                  have n1_ : Aside0 ((w67.setCell ⟨gb217, 1, none⟩ (.slice Ao68 y222.length co68)).heap[gb213]? = some (.cells #[.string a0_0, .slice (some ad225) l0_1.length c0_1] 28 (0, 0))) := ⟨by (with_reducible repeat (first | refine kn ?_ _ | refine ke ?_ | refine ka ?_ _)); refine blk_far ?_ NB213_217.out _; (with_reducible repeat (first | refine kn ?_ _ | refine ke ?_ | refine ka ?_ _)); exact BK213.out⟩
                  have n2_ : Aside0 ((w67.setCell ⟨gb217, 1, none⟩ (.slice Ao68 y222.length co68)).heap[gb214]? = some (.cells #[.string (⟨#[]⟩ : ByteArray), .slice none 0 0] 28 (0, 0))) := ⟨by (with_reducible repeat (first | refine kn ?_ _ | refine ke ?_ | refine ka ?_ _)); refine blk_far ?_ NB214_217.out _; (with_reducible repeat (first | refine kn ?_ _ | refine ke ?_ | refine ka ?_ _)); exact BK214.out⟩
                  have n3_ : Aside0 ((w67.setCell ⟨gb217, 1, none⟩ (.slice Ao68 y222.length co68)).heap[gb216]? = some (.cells #[.int .i64 (wrap64 (Int.tdiv a1 2)), .string (((t215.extract 0 ((ji5) : Int).toNat) ++ a2) ++ (t215.extract ((ji9) : Int).toNat t215.size)), .bool false] 49 (0, 0))) := ⟨by (with_reducible repeat (first | refine kn ?_ _ | refine ke ?_ | refine ka ?_ _)); refine blk_far ?_ NB216_217.out _; (with_reducible repeat (first | refine kn ?_ _ | refine ke ?_ | refine ka ?_ _)); exact BK216.out⟩
                  have n4_ : Aside0 ((w67.setCell ⟨gb217, 1, none⟩ (.slice Ao68 y222.length co68)).heap[gb217]? = some (.cells #[.string a0_0, .slice Ao68 y222.length co68] 28 (0, 0))) := ⟨by (with_reducible repeat (first | refine kn ?_ _ | refine ke ?_ | refine ka ?_ _)); refine kp (cs := #[.string a0_0, u218001]) ?_ 1 _ rfl; (with_reducible repeat (first | refine kn ?_ _ | refine ke ?_ | refine ka ?_ _)); exact BK217.out⟩
                  have n5_ : Aside0 (Below w.heap.size w (w67.setCell ⟨gb217, 1, none⟩ (.slice Ao68 y222.length co68))) := ⟨zG⟩
                  (try clear HO224)
                  (try clear BK213)
                  (try clear BK214)
                  (try clear BK216)
                  (try clear BK217)
                  (try clear HB)
                  generalize (w67.setCell ⟨gb217, 1, none⟩ (.slice Ao68 y222.length co68)) = w72 at n0_ n1_ n2_ n3_ n4_ n5_ ⊢
                  have HO224 := n0_
                  have BK213 := n1_
                  have BK214 := n2_
                  have BK216 := n3_
                  have BK217 := n4_
                  have HB := n5_
                  clear n0_ n1_ n2_ n3_ n4_ n5_
                  have n0_ := Am (re HO224.out)
                  have n1_ := Am (ke BK213.out)
                  have n2_ := Am (ke BK214.out)
                  have n3_ := Am (ke BK216.out)
                  have n4_ := Am (ke BK217.out)
                  have n5_ := Am (be HB.out)
                  clear HO224
                  clear BK213
                  clear BK214
                  clear BK216
                  clear BK217
                  clear HB
                  have HO224 := n0_
                  have BK213 := n1_
                  have BK214 := n2_
                  have BK216 := n3_
                  have BK217 := n4_
                  have HB := n5_
                  clear n0_ n1_ n2_ n3_ n4_ n5_
                  have p226 : 0 ≤ (x13_1 : Int) := of_decide_eq_true (by first | (with_reducible assumption) | assumption)
                  have q226 : x13_1 < (l0_1.length : Int) := of_decide_eq_true (by first | (with_reducible assumption) | assumption)
                  obtain ⟨ad226, e226, hx226_0, hx226_1, hx226_2⟩ := at_T49 HR0_1.out x13_1 p226 q226
                  have hw226_2 := hx226_2
                  have hw226_1 := hx226_1
                  have hw226_0 := hx226_0
                  obtain rfl : ad225 = ad226 := (by injection e226)
                  replace hx226_0 := cl10 HB hx226_0
                  replace hx226_1 := cl10 HB hx226_1
                  replace hx226_2 := cl10 HB hx226_2
                  replace p226 := eq_true p226
                  replace q226 := eq_true q226
                  refine start_ (n := 11) (S := fun w' => w'.cell? ⟨gb217, 0, none⟩ = some (.string a0_0) ∧ w'.cell? ⟨gb217, 1, none⟩ = some (.slice Ao68 y222.length co68) ∧ w'.cell? ⟨gb213, 0, none⟩ = some (.string a0_0) ∧ w'.cell? ⟨gb213, 1, none⟩ = some (.slice (some ad225) l0_1.length c0_1) ∧ w'.cell? (ad225.add ((x13_1).toNat * 3)) = some (.int .i64 ((rd_T49 l0_1 x13_1).f0)) ∧ w'.cell? ⟨(ad225.add ((x13_1).toNat * 3)).block, (ad225.add ((x13_1).toNat * 3)).off + 1, none⟩ = some (.string ((rd_T49 l0_1 x13_1).f1)) ∧ w'.cell? ⟨(ad225.add ((x13_1).toNat * 3)).block, (ad225.add ((x13_1).toNat * 3)).off + 2, none⟩ = some (.bool ((rd_T49 l0_1 x13_1).f2))) (ds := [10]) #[false, false, false, false, false, false, false, false, false, false, false] (by kernel_rfl) rfl rfl ⟨(kc BK217.out 0).trans rfl, (kc BK217.out 1).trans rfl, (kc BK213.out 0).trans rfl, (kc BK213.out 1).trans rfl, (cl10 HB hw226_0), (cl10 HB hw226_1), (cl10 HB hw226_2)⟩ (fun hHeld => ?_); refine with_tabW spec_l10Store.tab14 spec_l10Store.bits14 (fun HT_ HW_ => ?_)
                  generalize w72.drew = w73 at HO224 BK213 BK214 BK216 BK217 HB hx226_0 hx226_1 hx226_2 hHeld ⊢
                  refine zA 0 (some 70) HT_.out rfl rfl ?_
                  refine zA 2 (some 72) HT_.out rfl rfl ?_
                  refine zA 4 (some 74) HT_.out rfl rfl ?_
                  refine zT 1 (some 71) HT_.out HW_.out rfl rfl hHeld ?_
                  refine zT 3 (some 73) HT_.out HW_.out rfl rfl hHeld ?_
                  refine zA 5 (some 75) HT_.out rfl rfl ?_
                  refine zT 6 (some 76) HT_.out HW_.out rfl rfl hHeld ?_
                  refine zO 7 (some 77) HT_.out rfl rfl (fun K hK => ?_)
                  refine value_ (w1 := ?_) (v := ?_) (by rfl) rfl ?_ ?_
                  rotate_left 2
                  ·go_simp
                   constructor
                   ·rfl
                   ·rfl
                  refine hK.out _ _ ⟨(kc (ka BK217.out _) 0).trans rfl, (kc (ka BK217.out _) 1).trans rfl, (kc (ka BK213.out _) 0).trans rfl, (kc (ka BK213.out _) 1).trans rfl, (World.cell?_alloc_lt _ _ _ (World.block_lt_of_cell? _ _ ((cl10 HB hw226_0 :)))).trans ((cl10 HB hw226_0 :)), (World.cell?_alloc_lt _ _ _ (World.block_lt_of_cell? _ _ ((cl10 HB hw226_1 :)))).trans ((cl10 HB hw226_1 :)), (World.cell?_alloc_lt _ _ _ (World.block_lt_of_cell? _ _ ((cl10 HB hw226_2 :)))).trans ((cl10 HB hw226_2 :))⟩ (fun hHeld => ?_)
                  clear hK K
                  refine zN (some 77) ?_
                  refine zO 8 (some 78) HT_.out rfl rfl (fun K hK => ?_)
                  refine Kd.R_append_step k49 (w0 := w) w.heap.size (by rfl) (.tmp 71) (.tmp 77) 26 49 (.agg #[(.int .i64 0), (.string ⟨#[]⟩), (.bool false)]) 32 rfl Try.underlying26 info49 rfl (by decide) (by omega) (.slice Ao68 y222.length co68) y222 (⟨(rd_T49 l0_1 x13_1).f0, (rd_T49 l0_1 x13_1).f1, (rd_T49 l0_1 x13_1).f2⟩ : S49) [.int .i64 ((rd_T49 l0_1 x13_1).f0), .string ((rd_T49 l0_1 x13_1).f1), .bool ((rd_T49 l0_1 x13_1).f2)] (fun k_ => k_ ≠ gb216) (fun _ => False) rfl rfl ?aP (fun _ hk => hk.elim) ?aF ?aO ?aB ?aS ?aL ?_
                  (case aP => exact k49_mkM _ _ _ (⟨(rd_T49 l0_1 x13_1).f0, (rd_T49 l0_1 x13_1).f1, (rd_T49 l0_1 x13_1).f2⟩ : S49))
                  (case aB => exact zG)
                  (case aF => exact (fun k_ hk => Kd.freshB (g := gb216) (o := .cells #[.int .i64 (wrap64 (Int.tdiv a1 2)), .string (((t215.extract 0 ((ji5) : Int).toNat) ++ a2) ++ (t215.extract ((ji9) : Int).toNat t215.size)), .bool false] 49 (0, 0)) (by (with_reducible repeat (first | refine kn ?_ _ | refine ke ?_ | refine ka ?_ _)); exact BK216.out) k_ hk))
                  (case aO => exact (by (with_reducible repeat (first | apply ra | apply rn | apply re)); exact HO224.out))
                  (case aS => exact (bz zG))
                  (case aL => have := LMc59.out; omega)
                  intro v228 w74 ho hb hg hat
                  rw [← Ny227.out] at ho
                  have n0_ := Am (kg (g := gb213) (o := .cells #[.string a0_0, .slice (some ad225) l0_1.length c0_1] 28 (0, 0)) (by (with_reducible repeat (first | refine kn ?_ _ | refine ke ?_ | refine ka ?_ _)); exact BK213.out) hg (Kd.R_ne HO224.out BK213.out (by decide)))
                  have n1_ := Am (kg (g := gb214) (o := .cells #[.string (⟨#[]⟩ : ByteArray), .slice none 0 0] 28 (0, 0)) (by (with_reducible repeat (first | refine kn ?_ _ | refine ke ?_ | refine ka ?_ _)); exact BK214.out) hg (Kd.R_ne HO224.out BK214.out (by decide)))
                  have n2_ := Am (kg (g := gb216) (o := .cells #[.int .i64 (wrap64 (Int.tdiv a1 2)), .string (((t215.extract 0 ((ji5) : Int).toNat) ++ a2) ++ (t215.extract ((ji9) : Int).toNat t215.size)), .bool false] 49 (0, 0)) (by (with_reducible repeat (first | refine kn ?_ _ | refine ke ?_ | refine ka ?_ _)); exact BK216.out) hg (Kd.R_away HO224.out (fun _ hk => hk)))
                  have n3_ := Am (kg (g := gb217) (o := .cells #[.string a0_0, .slice Ao68 y222.length co68] 28 (0, 0)) (by (with_reducible repeat (first | refine kn ?_ _ | refine ke ?_ | refine ka ?_ _)); exact BK217.out) hg (Kd.R_ne HO224.out BK217.out (by decide)))
                  have n4_ := Am (hb)
                  have n5_ := Am (ho)
                  clear BK213
                  clear BK214
                  clear BK216
                  clear BK217
                  clear HB
                  clear HO224
                  have BK213 := n0_
                  have BK214 := n1_
                  have BK216 := n2_
                  have BK217 := n3_
                  have HB := n4_
                  have HO229 := n5_
                  clear n0_ n1_ n2_ n3_ n4_ n5_
                  clear ho hb hg hat
                  obtain ⟨Ao75, co75, eo75⟩ := Kd.R_slice HO229.out
                  (first | subst eo75 | (injection eo75 with f1_ f2_ f3_; have f4_ := f1_.symm; have f5_ := f3_.symm; clear f1_ f2_ f3_; subst f4_; subst f5_))
                  refine hK.out _ _ ⟨(kc BK217.out 0).trans rfl, (kc BK217.out 1).trans rfl, (kc BK213.out 0).trans rfl, (kc BK213.out 1).trans rfl, (cl10 HB hw226_0 :), (cl10 HB hw226_1 :), (cl10 HB hw226_2 :)⟩ (fun hHeld => ?_)
                  clear hK K
                  refine zN (some 78) ?_
                  refine zA 9 (some 79) HT_.out rfl rfl ?_
                  refine last_ (i := 10) (N := none) #[true, true, true, true, true, true, true, true, true, true, true] rfl rfl (one_of HT_.out (by kernel_rfl)) (by decide) (fun K hK => ?_)
                  have hs76 : w74.cell? ⟨gb217, 1, none⟩ = some (.slice Ao68 y222.length co68) := (kc BK217.out 1).trans rfl
                  have hfs76 := kf BK217.out 1
                  have hns76_0 := NB213_217.out
                  have hns76_1 := NB214_217.out
                  have hns76_2 := NB216_217.out
                  have hms76_0 := NB217_213.out
                  have hms76_1 := NB217_214.out
                  have hms76_2 := NB217_216.out
                  refine skip_ (w1 := ?_) (by rfl) rfl ?_ ?_
                  rotate_left
                  ·go_simp
                   rfl
                  refine hK.out _ _ ?_
                  clear hK K
                  refine done_ (done_of HT_.out (by kernel_rfl)) ?_
                  try go_wp2
                  go_roundg kj30
                  case measure => have := HK1.out; have := HJ30.out; omega
                  case rel => exact ⟨(true), (wrap64 (x13_1 + 1)), (y227), (.slice Ao75 y227.length co75), (by first | rfl | (simp; done) | (simp [*]; done)), (by first | rfl | (simp; done) | (simp [*]; done)), H', ⟨by have := HK1.out; have := HJ30.out; omega⟩, ⟨by (with_reducible repeat (first | apply ra | apply rn | apply re)); exact Kd.R_mono (Kd.R_far (p := ⟨gb217, 1, none⟩) (Kd.R_types HO229.out BK217.out (by decide)) (fun _ hk => (by first | exact hk.2 | exact hk | exact hk.1 | exact hk.1.1 | exact hk.1.2 | exact hk.2.1 | exact hk.2.2 | exact hk.1.1.1 | exact hk.1.1.2 | exact hk.1.2.1 | exact hk.1.2.2 | exact hk.2.1.1 | exact hk.2.1.2 | exact hk.2.2.1 | exact hk.2.2.2)) (.slice Ao75 y227.length co75)) (fun _ hk => (by first | exact hk.1 | exact hk | exact hk.2 | exact hk.1.1 | exact hk.1.2 | exact hk.2.1 | exact hk.2.2 | exact hk.1.1.1 | exact hk.1.1.2 | exact hk.1.2.1 | exact hk.1.2.2 | exact hk.2.1.1 | exact hk.2.1.2 | exact hk.2.2.1 | exact hk.2.2.2))⟩, ⟨by (with_reducible repeat (first | refine kn ?_ _ | refine ke ?_ | refine ka ?_ _)); refine blk_far ?_ NB213_217.out _; (with_reducible repeat (first | refine kn ?_ _ | refine ke ?_ | refine ka ?_ _)); exact BK213.out⟩, ⟨by (with_reducible repeat (first | refine kn ?_ _ | refine ke ?_ | refine ka ?_ _)); refine blk_far ?_ NB214_217.out _; (with_reducible repeat (first | refine kn ?_ _ | refine ke ?_ | refine ka ?_ _)); exact BK214.out⟩, ⟨by (with_reducible repeat (first | refine kn ?_ _ | refine ke ?_ | refine ka ?_ _)); refine blk_far ?_ NB216_217.out _; (with_reducible repeat (first | refine kn ?_ _ | refine ke ?_ | refine ka ?_ _)); exact BK216.out⟩, ⟨by (with_reducible repeat (first | refine kn ?_ _ | refine ke ?_ | refine ka ?_ _)); refine kp (cs := #[.string a0_0, .slice Ao68 y222.length co68]) ?_ 1 _ rfl; (with_reducible repeat (first | refine kn ?_ _ | refine ke ?_ | refine ka ?_ _)); exact BK217.out⟩, ⟨zG⟩⟩
                 ·rw [if_neg c59] at H
                  exact absurd H (by simp)
               ·rw [if_neg c45] at H
                exact absurd H (by simp)
              ·rw [if_neg c44] at H
               exact absurd H (by simp)
             ·rw [if_neg c43] at H
              exact absurd H (by simp)
            ·replace c42 := Bool.eq_false_iff.mpr c42
             subst c42
             have H1 : (if 0 ≤ x13_1 then (if x13_1 < (l0_1.length : Int) then (if ((rd_T49 l0_1 x13_1).f0) = (wrap64 (Int.tdiv a1 2)) then (spec_l10Store.l0 kj30 (wrap64 (Int.tdiv a1 2)) x12_1 (wrap64 (x13_1 + 1)) a0_0 l0_1 (wrap64 (Int.tdiv a1 2)) (((t215.extract 0 ((ji5) : Int).toNat) ++ a2) ++ (t215.extract ((ji9) : Int).toNat t215.size)) false a0_0 x218001_1) else (if x218001_1.length < 4398046511104 then (spec_l10Store.l0 kj30 (wrap64 (Int.tdiv a1 2)) x12_1 (wrap64 (x13_1 + 1)) a0_0 l0_1 (wrap64 (Int.tdiv a1 2)) (((t215.extract 0 ((ji5) : Int).toNat) ++ a2) ++ (t215.extract ((ji9) : Int).toNat t215.size)) false a0_0 (x218001_1 ++ [(⟨(rd_T49 l0_1 x13_1).f0, (rd_T49 l0_1 x13_1).f1, (rd_T49 l0_1 x13_1).f2⟩ : S49)])) else (none))) else (none)) else (none)) = some (r1, r2) := by rw [if_neg (show ¬ (false = true) by decide)] at H; exact H
             clear H
             have H := H1
             clear H1
             by_cases c77 : 0 ≤ x13_1
             ·rw [if_pos c77] at H
              have c77b0 : decide (0 ≤ x13_1) = true := decide_eq_true c77
              clear c77
              by_cases c78 : x13_1 < (l0_1.length : Int)
              ·rw [if_pos c78] at H
               have c78b0 : decide (x13_1 < (l0_1.length : Int)) = true := decide_eq_true c78
               clear c78
               by_cases c79 : ((rd_T49 l0_1 x13_1).f0) = (wrap64 (Int.tdiv a1 2))
               ·rw [if_pos c79] at H
                have c79b0 : (((rd_T49 l0_1 x13_1).f0) == (wrap64 (Int.tdiv a1 2))) = true := beq_iff_eq.mpr c79
                have c79b1 : (((rd_T49 l0_1 x13_1).f0) != (wrap64 (Int.tdiv a1 2))) = false := bne_eq_false_iff_eq.mpr c79
                clear c79
                have H' := Am H
                clear H
                have hnb80 := NB213_214.out
                have hnc80 := NB214_213.out
                have hnb81 := NB213_216.out
                have hnc81 := NB216_213.out
                have hnb82 := NB213_217.out
                have hnc82 := NB217_213.out
                obtain ⟨hcz83_0, hcz83_1⟩ := kc2 (w := wc) BK213.out
                have hfz83_0 := kf BK213.out
                have p230 : 0 ≤ (x13_1 : Int) := of_decide_eq_true (by first | (with_reducible assumption) | assumption)
                have q230 : x13_1 < (l0_1.length : Int) := of_decide_eq_true (by first | (with_reducible assumption) | assumption)
                obtain ⟨ad230, e230, hx230_0, hx230_1, hx230_2⟩ := at_T49 HR0_1.out x13_1 p230 q230
                cases e230
                replace hx230_0 := cl10 HB hx230_0
                replace hx230_1 := cl10 HB hx230_1
                replace hx230_2 := cl10 HB hx230_2
                replace p230 := eq_true p230
                replace q230 := eq_true q230
                go_wp2
                go_roundg kj30
                case measure => have := HK1.out; have := HJ30.out; omega
                case rel => exact ⟨(x12_1), (wrap64 (x13_1 + 1)), (x218001_1), (u218001), (by first | rfl | (simp; done) | (simp [*]; done)), (by first | rfl | (simp; done) | (simp [*]; done)), H', ⟨by have := HK1.out; have := HJ30.out; omega⟩, ⟨by (with_reducible repeat (first | apply ra | apply rn | apply re)); exact HO_218001.out⟩, ⟨by (with_reducible repeat (first | refine kn ?_ _ | refine ke ?_ | refine ka ?_ _)); exact BK213.out⟩, ⟨by (with_reducible repeat (first | refine kn ?_ _ | refine ke ?_ | refine ka ?_ _)); exact BK214.out⟩, ⟨by (with_reducible repeat (first | refine kn ?_ _ | refine ke ?_ | refine ka ?_ _)); exact BK216.out⟩, ⟨by (with_reducible repeat (first | refine kn ?_ _ | refine ke ?_ | refine ka ?_ _)); exact BK217.out⟩, ⟨zG⟩⟩
               ·rw [if_neg c79] at H
                have c79b0 : (((rd_T49 l0_1 x13_1).f0) == (wrap64 (Int.tdiv a1 2))) = false := beq_eq_false_iff_ne.mpr c79
                have c79b1 : (((rd_T49 l0_1 x13_1).f0) != (wrap64 (Int.tdiv a1 2))) = true := bne_iff_ne.mpr c79
                by_cases c84 : x218001_1.length < 4398046511104
                ·rw [if_pos c84] at H
                 have LMc84 := Am c84
                 clear c84
                 obtain ⟨y232, hy232⟩ : ∃ y_ : List (S49), y_ = (x218001_1 ++ [(⟨(rd_T49 l0_1 x13_1).f0, (rd_T49 l0_1 x13_1).f1, (rd_T49 l0_1 x13_1).f2⟩ : S49)]) := ⟨_, rfl⟩
                 replace H : (spec_l10Store.l0 kj30 (wrap64 (Int.tdiv a1 2)) x12_1 (wrap64 (x13_1 + 1)) a0_0 l0_1 (wrap64 (Int.tdiv a1 2)) (((t215.extract 0 ((ji5) : Int).toNat) ++ a2) ++ (t215.extract ((ji9) : Int).toNat t215.size)) false a0_0 y232) = some (r1, r2) := by first | (rw [hy232]; with_reducible exact H) | (have H2_ := (Option.bind_some _ _).symm.trans H; rw [hy232]; with_reducible exact H2_) | (have H2_ := (Option.bind_some _ _).symm.trans H; with_reducible exact H2_) | with_reducible exact H | (rw [hy232]; exact H) | exact H
                 have Ny232 := Am hy232
                 clear hy232
                 have H' := Am H
                 clear H
                 have hnb85 := NB213_214.out
                 have hnc85 := NB214_213.out
                 have hnb86 := NB213_216.out
                 have hnc86 := NB216_213.out
                 have hnb87 := NB213_217.out
                 have hnc87 := NB217_213.out
                 obtain ⟨hcz88_0, hcz88_1⟩ := kc2 (w := wc) BK213.out
                 have hfz88_0 := kf BK213.out
                 have p230 : 0 ≤ (x13_1 : Int) := of_decide_eq_true (by first | (with_reducible assumption) | assumption)
                 have q230 : x13_1 < (l0_1.length : Int) := of_decide_eq_true (by first | (with_reducible assumption) | assumption)
                 obtain ⟨ad230, e230, hx230_0, hx230_1, hx230_2⟩ := at_T49 HR0_1.out x13_1 p230 q230
                 cases e230
                 replace hx230_0 := cl10 HB hx230_0
                 replace hx230_1 := cl10 HB hx230_1
                 replace hx230_2 := cl10 HB hx230_2
                 replace p230 := eq_true p230
                 replace q230 := eq_true q230
                 try go_wp2
                 have n0_ := Am (re HO_218001.out)
                 have n1_ := Am (ke BK213.out)
                 have n2_ := Am (ke BK214.out)
                 have n3_ := Am (ke BK216.out)
                 have n4_ := Am (ke BK217.out)
                 have n5_ := Am (be HB.out)
                 clear HO_218001
                 clear BK213
                 clear BK214
                 clear BK216
                 clear BK217
                 clear HB
                 have HO_218001 := n0_
                 have BK213 := n1_
                 have BK214 := n2_
                 have BK216 := n3_
                 have BK217 := n4_
                 have HB := n5_
                 clear n0_ n1_ n2_ n3_ n4_ n5_
                 have p231 : 0 ≤ (x13_1 : Int) := of_decide_eq_true (by first | (with_reducible assumption) | assumption)
                 have q231 : x13_1 < (l0_1.length : Int) := of_decide_eq_true (by first | (with_reducible assumption) | assumption)
                 obtain ⟨ad231, e231, hx231_0, hx231_1, hx231_2⟩ := at_T49 HR0_1.out x13_1 p231 q231
                 have hw231_2 := hx231_2
                 have hw231_1 := hx231_1
                 have hw231_0 := hx231_0
                 obtain rfl : ad230 = ad231 := (by injection e231)
                 replace hx231_0 := cl10 HB hx231_0
                 replace hx231_1 := cl10 HB hx231_1
                 replace hx231_2 := cl10 HB hx231_2
                 replace p231 := eq_true p231
                 replace q231 := eq_true q231
                 refine start_ (n := 11) (S := fun w' => w'.cell? ⟨gb217, 0, none⟩ = some (.string a0_0) ∧ w'.cell? ⟨gb217, 1, none⟩ = some (u218001) ∧ w'.cell? ⟨gb213, 0, none⟩ = some (.string a0_0) ∧ w'.cell? ⟨gb213, 1, none⟩ = some (.slice (some ad230) l0_1.length c0_1) ∧ w'.cell? (ad230.add ((x13_1).toNat * 3)) = some (.int .i64 ((rd_T49 l0_1 x13_1).f0)) ∧ w'.cell? ⟨(ad230.add ((x13_1).toNat * 3)).block, (ad230.add ((x13_1).toNat * 3)).off + 1, none⟩ = some (.string ((rd_T49 l0_1 x13_1).f1)) ∧ w'.cell? ⟨(ad230.add ((x13_1).toNat * 3)).block, (ad230.add ((x13_1).toNat * 3)).off + 2, none⟩ = some (.bool ((rd_T49 l0_1 x13_1).f2))) (ds := [10]) #[false, false, false, false, false, false, false, false, false, false, false] (by kernel_rfl) rfl rfl ⟨(kc BK217.out 0).trans rfl, (kc BK217.out 1).trans rfl, (kc BK213.out 0).trans rfl, (kc BK213.out 1).trans rfl, (cl10 HB hw231_0), (cl10 HB hw231_1), (cl10 HB hw231_2)⟩ (fun hHeld => ?_); refine with_tabW spec_l10Store.tab14 spec_l10Store.bits14 (fun HT_ HW_ => ?_)
                 generalize wc.drew = w89 at HO_218001 BK213 BK214 BK216 BK217 HB hx231_0 hx231_1 hx231_2 hHeld ⊢
                 refine zA 0 (some 70) HT_.out rfl rfl ?_
                 refine zA 2 (some 72) HT_.out rfl rfl ?_
                 refine zA 4 (some 74) HT_.out rfl rfl ?_
                 refine zT 1 (some 71) HT_.out HW_.out rfl rfl hHeld ?_
                 refine zT 3 (some 73) HT_.out HW_.out rfl rfl hHeld ?_
                 refine zA 5 (some 75) HT_.out rfl rfl ?_
                 refine zT 6 (some 76) HT_.out HW_.out rfl rfl hHeld ?_
                 refine zO 7 (some 77) HT_.out rfl rfl (fun K hK => ?_)
                 refine value_ (w1 := ?_) (v := ?_) (by rfl) rfl ?_ ?_
                 rotate_left 2
                 ·go_simp
                  constructor
                  ·rfl
                  ·rfl
                 refine hK.out _ _ ⟨(kc (ka BK217.out _) 0).trans rfl, (kc (ka BK217.out _) 1).trans rfl, (kc (ka BK213.out _) 0).trans rfl, (kc (ka BK213.out _) 1).trans rfl, (World.cell?_alloc_lt _ _ _ (World.block_lt_of_cell? _ _ ((cl10 HB hw231_0 :)))).trans ((cl10 HB hw231_0 :)), (World.cell?_alloc_lt _ _ _ (World.block_lt_of_cell? _ _ ((cl10 HB hw231_1 :)))).trans ((cl10 HB hw231_1 :)), (World.cell?_alloc_lt _ _ _ (World.block_lt_of_cell? _ _ ((cl10 HB hw231_2 :)))).trans ((cl10 HB hw231_2 :))⟩ (fun hHeld => ?_)
                 clear hK K
                 refine zN (some 77) ?_
                 refine zO 8 (some 78) HT_.out rfl rfl (fun K hK => ?_)
                 refine Kd.R_append_step k49 (w0 := w) w.heap.size (by rfl) (.tmp 71) (.tmp 77) 26 49 (.agg #[(.int .i64 0), (.string ⟨#[]⟩), (.bool false)]) 32 rfl Try.underlying26 info49 rfl (by decide) (by omega) u218001 x218001_1 (⟨(rd_T49 l0_1 x13_1).f0, (rd_T49 l0_1 x13_1).f1, (rd_T49 l0_1 x13_1).f2⟩ : S49) [.int .i64 ((rd_T49 l0_1 x13_1).f0), .string ((rd_T49 l0_1 x13_1).f1), .bool ((rd_T49 l0_1 x13_1).f2)] (fun k_ => k_ ≠ gb216) (fun _ => False) rfl rfl ?aP (fun _ hk => hk.elim) ?aF ?aO ?aB ?aS ?aL ?_
                 (case aP => exact k49_mkM _ _ _ (⟨(rd_T49 l0_1 x13_1).f0, (rd_T49 l0_1 x13_1).f1, (rd_T49 l0_1 x13_1).f2⟩ : S49))
                 (case aB => exact zG)
                 (case aF => exact (fun k_ hk => Kd.freshB (g := gb216) (o := .cells #[.int .i64 (wrap64 (Int.tdiv a1 2)), .string (((t215.extract 0 ((ji5) : Int).toNat) ++ a2) ++ (t215.extract ((ji9) : Int).toNat t215.size)), .bool false] 49 (0, 0)) (by (with_reducible repeat (first | refine kn ?_ _ | refine ke ?_ | refine ka ?_ _)); exact BK216.out) k_ hk))
                 (case aO => exact (by (with_reducible repeat (first | apply ra | apply rn | apply re)); exact HO_218001.out))
                 (case aS => exact (bz zG))
                 (case aL => have := LMc84.out; omega)
                 intro v233 w90 ho hb hg hat
                 rw [← Ny232.out] at ho
                 have n0_ := Am (kg (g := gb213) (o := .cells #[.string a0_0, .slice (some ad230) l0_1.length c0_1] 28 (0, 0)) (by (with_reducible repeat (first | refine kn ?_ _ | refine ke ?_ | refine ka ?_ _)); exact BK213.out) hg (Kd.R_ne HO_218001.out BK213.out (by decide)))
                 have n1_ := Am (kg (g := gb214) (o := .cells #[.string (⟨#[]⟩ : ByteArray), .slice none 0 0] 28 (0, 0)) (by (with_reducible repeat (first | refine kn ?_ _ | refine ke ?_ | refine ka ?_ _)); exact BK214.out) hg (Kd.R_ne HO_218001.out BK214.out (by decide)))
                 have n2_ := Am (kg (g := gb216) (o := .cells #[.int .i64 (wrap64 (Int.tdiv a1 2)), .string (((t215.extract 0 ((ji5) : Int).toNat) ++ a2) ++ (t215.extract ((ji9) : Int).toNat t215.size)), .bool false] 49 (0, 0)) (by (with_reducible repeat (first | refine kn ?_ _ | refine ke ?_ | refine ka ?_ _)); exact BK216.out) hg (Kd.R_away HO_218001.out (fun _ hk => hk)))
                 have n3_ := Am (kg (g := gb217) (o := .cells #[.string a0_0, u218001] 28 (0, 0)) (by (with_reducible repeat (first | refine kn ?_ _ | refine ke ?_ | refine ka ?_ _)); exact BK217.out) hg (Kd.R_ne HO_218001.out BK217.out (by decide)))
                 have n4_ := Am (hb)
                 have n5_ := Am (ho)
                 clear BK213
                 clear BK214
                 clear BK216
                 clear BK217
                 clear HB
                 clear HO_218001
                 have BK213 := n0_
                 have BK214 := n1_
                 have BK216 := n2_
                 have BK217 := n3_
                 have HB := n4_
                 have HO234 := n5_
                 clear n0_ n1_ n2_ n3_ n4_ n5_
                 clear ho hb hg hat
                 obtain ⟨Ao91, co91, eo91⟩ := Kd.R_slice HO234.out
                 (first | subst eo91 | (injection eo91 with f1_ f2_ f3_; have f4_ := f1_.symm; have f5_ := f3_.symm; clear f1_ f2_ f3_; subst f4_; subst f5_))
                 refine hK.out _ _ ⟨(kc BK217.out 0).trans rfl, (kc BK217.out 1).trans rfl, (kc BK213.out 0).trans rfl, (kc BK213.out 1).trans rfl, (cl10 HB hw231_0 :), (cl10 HB hw231_1 :), (cl10 HB hw231_2 :)⟩ (fun hHeld => ?_)
                 clear hK K
                 refine zN (some 78) ?_
                 refine zA 9 (some 79) HT_.out rfl rfl ?_
                 refine last_ (i := 10) (N := none) #[true, true, true, true, true, true, true, true, true, true, true] rfl rfl (one_of HT_.out (by kernel_rfl)) (by decide) (fun K hK => ?_)
                 have hs92 : w90.cell? ⟨gb217, 1, none⟩ = some (u218001) := (kc BK217.out 1).trans rfl
                 have hfs92 := kf BK217.out 1
                 have hns92_0 := NB213_217.out
                 have hns92_1 := NB214_217.out
                 have hns92_2 := NB216_217.out
                 have hms92_0 := NB217_213.out
                 have hms92_1 := NB217_214.out
                 have hms92_2 := NB217_216.out
                 refine skip_ (w1 := ?_) (by rfl) rfl ?_ ?_
                 rotate_left
                 ·go_simp
                  rfl
                 refine hK.out _ _ ?_
                 clear hK K
                 refine done_ (done_of HT_.out (by kernel_rfl)) ?_
                 try go_wp2
                 go_roundg kj30
                 case measure => have := HK1.out; have := HJ30.out; omega
                 case rel => exact ⟨(x12_1), (wrap64 (x13_1 + 1)), (y232), (.slice Ao91 y232.length co91), (by first | rfl | (simp; done) | (simp [*]; done)), (by first | rfl | (simp; done) | (simp [*]; done)), H', ⟨by have := HK1.out; have := HJ30.out; omega⟩, ⟨by (with_reducible repeat (first | apply ra | apply rn | apply re)); exact Kd.R_mono (Kd.R_far (p := ⟨gb217, 1, none⟩) (Kd.R_types HO234.out BK217.out (by decide)) (fun _ hk => (by first | exact hk.2 | exact hk | exact hk.1 | exact hk.1.1 | exact hk.1.2 | exact hk.2.1 | exact hk.2.2 | exact hk.1.1.1 | exact hk.1.1.2 | exact hk.1.2.1 | exact hk.1.2.2 | exact hk.2.1.1 | exact hk.2.1.2 | exact hk.2.2.1 | exact hk.2.2.2)) (.slice Ao91 y232.length co91)) (fun _ hk => (by first | exact hk.1 | exact hk | exact hk.2 | exact hk.1.1 | exact hk.1.2 | exact hk.2.1 | exact hk.2.2 | exact hk.1.1.1 | exact hk.1.1.2 | exact hk.1.2.1 | exact hk.1.2.2 | exact hk.2.1.1 | exact hk.2.1.2 | exact hk.2.2.1 | exact hk.2.2.2))⟩, ⟨by (with_reducible repeat (first | refine kn ?_ _ | refine ke ?_ | refine ka ?_ _)); refine blk_far ?_ NB213_217.out _; (with_reducible repeat (first | refine kn ?_ _ | refine ke ?_ | refine ka ?_ _)); exact BK213.out⟩, ⟨by (with_reducible repeat (first | refine kn ?_ _ | refine ke ?_ | refine ka ?_ _)); refine blk_far ?_ NB214_217.out _; (with_reducible repeat (first | refine kn ?_ _ | refine ke ?_ | refine ka ?_ _)); exact BK214.out⟩, ⟨by (with_reducible repeat (first | refine kn ?_ _ | refine ke ?_ | refine ka ?_ _)); refine blk_far ?_ NB216_217.out _; (with_reducible repeat (first | refine kn ?_ _ | refine ke ?_ | refine ka ?_ _)); exact BK216.out⟩, ⟨by (with_reducible repeat (first | refine kn ?_ _ | refine ke ?_ | refine ka ?_ _)); refine kp (cs := #[.string a0_0, u218001]) ?_ 1 _ rfl; (with_reducible repeat (first | refine kn ?_ _ | refine ke ?_ | refine ka ?_ _)); exact BK217.out⟩, ⟨zG⟩⟩
                ·rw [if_neg c84] at H
                 exact absurd H (by simp)
              ·rw [if_neg c78] at H
               exact absurd H (by simp)
             ·rw [if_neg c77] at H
              exact absurd H (by simp)
         ·rw [if_neg c30] at H
          have c30b0 : decide (x13_1 < (l0_1.length : Int)) = false := decide_eq_false c30
          clear c30
          by_cases c93 : x12_1 = true
          ·subst c93
           have H1 : (some (a0_0, x218001_1)) = some (r1, r2) := by rw [if_pos rfl] at H; exact H
           clear H
           have H := H1
           clear H1
           simp only [Option.some.injEq, Prod.mk.injEq] at H
           obtain ⟨rfl, rfl⟩ := H
           have hnb94 := NB213_214.out
           have hnc94 := NB214_213.out
           have hnb95 := NB213_216.out
           have hnc95 := NB216_213.out
           have hnb96 := NB213_217.out
           have hnc96 := NB217_213.out
           obtain ⟨hcz97_0, hcz97_1⟩ := kc2 (w := wr) BK213.out
           have hfz97_0 := kf BK213.out
           have hnb98 := NB217_214.out
           have hnc98 := NB214_217.out
           have hnb99 := NB217_216.out
           have hnc99 := NB216_217.out
           obtain ⟨hcz100_0, hcz100_1⟩ := kc2 (w := wr) BK217.out
           have hfz100_0 := kf BK217.out
           have hnb101 := NB214_216.out
           have hnc101 := NB216_214.out
           obtain ⟨hcz102_0, hcz102_1⟩ := kc2 (w := wr) BK214.out
           have hfz102_0 := kf BK214.out
           obtain ⟨Ao103, co103, eo103⟩ := Kd.R_slice HO_218001.out
           subst eo103
           go_wp2
           refine bodyPost_ret (results_cell_row rfl _ _ gb214 28 #[.string a0_0, .slice Ao103 x218001_1.length co103] (0, 0) _ rfl (by (with_reducible repeat (first | refine kn ?_ _ | refine ke ?_ | refine ka ?_ _)); refine kp (cs := #[.string a0_0, .slice none 0 0]) ?_ 1 _ rfl; (with_reducible repeat (first | refine kn ?_ _ | refine ke ?_ | refine ka ?_ _)); refine kp (cs := #[.string (⟨#[]⟩ : ByteArray), .slice none 0 0]) ?_ 0 _ rfl; (with_reducible repeat (first | refine kn ?_ _ | refine ke ?_ | refine ka ?_ _)); exact BK214.out) Try.underlying28 rfl (by kernel_rfl)) rfl ?_
           exact ⟨_, by first | rfl | (simp [errW_none, errW_some] <;> rfl) | (simp only [← hji5, ← hji9]; first | rfl | (simp [errW_none, errW_some] <;> rfl)) | (simp [*, errW_none, errW_some] <;> rfl), by (with_reducible repeat (first | apply ra | apply rn | apply re)); exact Kd.R_mono (Kd.R_far (p := ⟨gb214, 1, none⟩) (Kd.R_far (p := ⟨gb214, 0, none⟩) (Kd.R_types HO_218001.out BK214.out (by decide)) (fun _ hk => hk.2) (.string a0_0)) (fun _ hk => hk.2) (.slice Ao103 x218001_1.length co103)) (fun _ hk => trivial), zG⟩
          ·replace c93 := Bool.eq_false_iff.mpr c93
           subst c93
           have H1 : (if x218001_1.length < 4398046511104 then (some (a0_0, (x218001_1 ++ [(⟨(wrap64 (Int.tdiv a1 2)), (((t215.extract 0 ((ji5) : Int).toNat) ++ a2) ++ (t215.extract ((ji9) : Int).toNat t215.size)), false⟩ : S49)]))) else (none)) = some (r1, r2) := by rw [if_neg (show ¬ (false = true) by decide)] at H; exact H
           clear H
           have H := H1
           clear H1
           by_cases c104 : x218001_1.length < 4398046511104
           ·rw [if_pos c104] at H
            have LMc104 := Am c104
            clear c104
            obtain ⟨y218, hy218⟩ : ∃ y_ : List (S49), y_ = (x218001_1 ++ [(⟨(wrap64 (Int.tdiv a1 2)), (((t215.extract 0 ((ji5) : Int).toNat) ++ a2) ++ (t215.extract ((ji9) : Int).toNat t215.size)), false⟩ : S49)]) := ⟨_, rfl⟩
            replace H : (some (a0_0, y218)) = some (r1, r2) := by first | (rw [hy218]; with_reducible exact H) | (have H2_ := (Option.bind_some _ _).symm.trans H; rw [hy218]; with_reducible exact H2_) | (have H2_ := (Option.bind_some _ _).symm.trans H; with_reducible exact H2_) | with_reducible exact H | (rw [hy218]; exact H) | exact H
            have Ny218 := Am hy218
            clear hy218
            simp only [Option.some.injEq, Prod.mk.injEq] at H
            obtain ⟨rfl, rfl⟩ := H
            have hnb105 := NB213_214.out
            have hnc105 := NB214_213.out
            have hnb106 := NB213_216.out
            have hnc106 := NB216_213.out
            have hnb107 := NB213_217.out
            have hnc107 := NB217_213.out
            obtain ⟨hcz108_0, hcz108_1⟩ := kc2 (w := wr) BK213.out
            have hfz108_0 := kf BK213.out
            have hnb109 := NB217_214.out
            have hnc109 := NB214_217.out
            have hnb110 := NB217_216.out
            have hnc110 := NB216_217.out
            obtain ⟨hcz111_0, hcz111_1⟩ := kc2 (w := wr) BK217.out
            have hfz111_0 := kf BK217.out
            have hnb112 := NB216_214.out
            have hnc112 := NB214_216.out
            obtain ⟨hcz113_0, hcz113_1, hcz113_2⟩ := kc3 (w := wr) BK216.out
            have hfz113_0 := kf BK216.out
            go_wp2_with (first | ((with_reducible refine gate_builtin (b := .append) (xs := #[.tmp 83, .tmp 85]) rfl ?_); at_builtin; refine Kd.R_append k49 (w0 := w) w.heap.size rfl (.tmp 83) (.tmp 85) 26 49 (.agg #[(.int .i64 0), (.string ⟨#[]⟩), (.bool false)]) 32 rfl Try.underlying26 info49 rfl (by decide) (by omega) u218001 x218001_1 (⟨(wrap64 (Int.tdiv a1 2)), (((t215.extract 0 ((ji5) : Int).toNat) ++ a2) ++ (t215.extract ((ji9) : Int).toNat t215.size)), false⟩ : S49) [.int .i64 (wrap64 (Int.tdiv a1 2)), .string (((t215.extract 0 ((ji5) : Int).toNat) ++ a2) ++ (t215.extract ((ji9) : Int).toNat t215.size)), .bool false] (fun k_ => k_ ≠ gb216) (fun _ => False) rfl rfl ?aP (fun _ hk => hk.elim) ?aF ?aO ?aB ?aS ?aL ?_; (case aP => exact k49_mkM _ _ _ (⟨(wrap64 (Int.tdiv a1 2)), (((t215.extract 0 ((ji5) : Int).toNat) ++ a2) ++ (t215.extract ((ji9) : Int).toNat t215.size)), false⟩ : S49)); (case aB => exact zG); (case aF => exact (fun k_ hk => Kd.freshB (g := gb216) (o := .cells #[.int .i64 (wrap64 (Int.tdiv a1 2)), .string (((t215.extract 0 ((ji5) : Int).toNat) ++ a2) ++ (t215.extract ((ji9) : Int).toNat t215.size)), .bool false] 49 (0, 0)) (by (with_reducible repeat (first | refine kn ?_ _ | refine ke ?_ | refine ka ?_ _)); exact BK216.out) k_ hk)); (case aO => exact (by (with_reducible repeat (first | apply ra | apply rn | apply re)); exact HO_218001.out)); (case aS => exact (bz zG)); (case aL => have := LMc104.out; omega); intro v219 w114 ho hb hg hat; rw [← Ny218.out] at ho; have n0_ := Am (kg (g := gb213) (o := o10b0 a0_0 A0_1 l0_1.length c0_1) (by (with_reducible repeat (first | refine kn ?_ _ | refine ke ?_ | refine ka ?_ _)); exact BK213.out) hg (Kd.R_ne HO_218001.out BK213.out (by decide))); have n1_ := Am (kg (g := gb214) (o := .cells #[.string (⟨#[]⟩ : ByteArray), .slice none 0 0] 28 (0, 0)) (by (with_reducible repeat (first | refine kn ?_ _ | refine ke ?_ | refine ka ?_ _)); exact BK214.out) hg (Kd.R_ne HO_218001.out BK214.out (by decide))); have n2_ := Am (kg (g := gb216) (o := .cells #[.int .i64 (wrap64 (Int.tdiv a1 2)), .string (((t215.extract 0 ((ji5) : Int).toNat) ++ a2) ++ (t215.extract ((ji9) : Int).toNat t215.size)), .bool false] 49 (0, 0)) (by (with_reducible repeat (first | refine kn ?_ _ | refine ke ?_ | refine ka ?_ _)); exact BK216.out) hg (Kd.R_away HO_218001.out (fun _ hk => hk))); have n3_ := Am (kg (g := gb217) (o := .cells #[.string a0_0, u218001] 28 (0, 0)) (by (with_reducible repeat (first | refine kn ?_ _ | refine ke ?_ | refine ka ?_ _)); exact BK217.out) hg (Kd.R_ne HO_218001.out BK217.out (by decide))); have n4_ := Am (hb); have n5_ := Am (ho); clear BK213; clear BK214; clear BK216; clear BK217; clear HB; clear HO_218001; have BK213 := n0_; have BK214 := n1_; have BK216 := n2_; have BK217 := n3_; have HB := n4_; have HO220 := n5_; clear n0_ n1_ n2_ n3_ n4_ n5_; clear ho hb hg hat; obtain ⟨Ao115, co115, eo115⟩ := Kd.R_slice HO220.out; subst eo115; obtain ⟨hcz116_0, hcz116_1⟩ := kc2 (w := w114) BK217.out; have hfz116_0 := kf BK217.out; obtain ⟨hcz117_0, hcz117_1⟩ := kc2 (w := w114) BK214.out; have hfz117_0 := kf BK214.out))
            refine bodyPost_ret (results_cell_row rfl _ _ gb214 28 #[.string a0_0, .slice Ao115 y218.length co115] (0, 0) _ rfl (by (with_reducible repeat (first | refine kn ?_ _ | refine ke ?_ | refine ka ?_ _)); refine kp (cs := #[.string a0_0, .slice none 0 0]) ?_ 1 _ rfl; (with_reducible repeat (first | refine kn ?_ _ | refine ke ?_ | refine ka ?_ _)); refine kp (cs := #[.string (⟨#[]⟩ : ByteArray), .slice none 0 0]) ?_ 0 _ rfl; (with_reducible repeat (first | refine kn ?_ _ | refine ke ?_ | refine ka ?_ _)); refine blk_far ?_ NB214_217.out _; (with_reducible repeat (first | refine kn ?_ _ | refine ke ?_ | refine ka ?_ _)); exact BK214.out) Try.underlying28 rfl (by kernel_rfl)) rfl ?_
            exact ⟨_, by first | rfl | (simp [errW_none, errW_some] <;> rfl) | (simp only [← hji5, ← hji9]; first | rfl | (simp [errW_none, errW_some] <;> rfl)) | (simp [*, errW_none, errW_some] <;> rfl), by (with_reducible repeat (first | apply ra | apply rn | apply re)); exact Kd.R_mono (Kd.R_far (p := ⟨gb214, 1, none⟩) (Kd.R_far (p := ⟨gb214, 0, none⟩) (Kd.R_far (p := ⟨gb217, 1, none⟩) (Kd.R_types (Kd.R_types HO220.out BK217.out (by decide)) BK214.out (by decide)) (fun _ hk => hk.1.2) (.slice Ao115 y218.length co115)) (fun _ hk => hk.2) (.string a0_0)) (fun _ hk => hk.2) (.slice Ao115 y218.length co115)) (fun _ hk => trivial), zG⟩
           ·rw [if_neg c104] at H
            exact absurd H (by simp)
      ·rw [if_neg c12] at H
       exact absurd H (by simp)
     ·rw [if_neg c11] at H
      exact absurd H (by simp)
    ·rw [if_neg c10] at H
     exact absurd H (by simp)
   ·rw [if_neg c8] at H
    exact absurd H (by simp)
  ·rw [if_neg c7] at H
   exact absurd H (by simp)
 ·rw [if_neg c6] at H
  exact absurd H (by simp)

end Go.Proofs.Ytnmkcognggeioaa.QFnUnsure
