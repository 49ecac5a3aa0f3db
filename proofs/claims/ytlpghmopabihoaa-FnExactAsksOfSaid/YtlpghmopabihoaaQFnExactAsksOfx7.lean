/- Go functions as Lean functions, and their contracts. Own text: written by wip/gen/pr.py (a turned copy of the print). -/
import Derived.Test.YtlpghmopabihoaaQFnExactAsksOfx0
import Derived.Test.YtlpghmopabihoaaQFnExactAsksOfx6
namespace Go.Proofs.Ytlpghmopabihoaa.QFnExactAsksOf
open Go.RowKit Go.Proofs.YtlpghmopabihoaaW.PrintWords Go.Proofs.YtlpghmopabihoaaW.PrintLast Go.Proofs.YtlpghmopabihoaaW.PrintMore
attribute [local go_sem] max2_int min2_int max_two min_two max_three min_three max_four min_four   -- for this text's walks alone
open Go.Proofs.YtlpghmopabihoaaW.PrintWords renaming below_alloc → ba, pw_below_drewN → bn, below_drew1 → be, below_set → bs, below_step → bq, below_size → bz
open Go.Proofs.YtlpghmopabihoaaW.PrintWords.Kd renaming R_alloc → ra, R_drewN → rn, R_drew → re, C_alloc → ca, C_drewN → cn, C_drew → ce, R_below → rb, C_below → cb
open Go.Proofs.YtlpghmopabihoaaW.PrintWords.Aside0 renaming mk → Am
set_option linter.unusedVariables false
set_option linter.unusedSimpArgs false

/-! ### laws_eqToldS: function 19 -/
theorem cl7 {w w2 : World} {a : Addr} {v : Value} (h : Aside0 (Below w.heap.size w w2)) (e : w.cell? a = some v) : w2.cell? a = some v := (h.out.cell (World.block_lt_of_cell? w _ e)).trans e
def laws_eqToldS.l0 : Nat → List (S125) → List (S125) → Int → Option (Bool)
 | 0, _, _, _ => none
 | k + 1, x0, x1, x5 => if x5 < (x0.length : Int) then (if 0 ≤ x5 then (if x5 < (x1.length : Int) then ((laws_eqTold.f k ((rd_T125 x0 x5).f0) ((rd_T125 x0 x5).f1) ((rd_T125 x0 x5).f2) ((rd_T125 x0 x5).f3.f0) ((rd_T125 x0 x5).f3.f1) ((rd_T125 x0 x5).f3.f2) ((rd_T125 x0 x5).f3.f3) ((rd_T125 x0 x5).f3.f4) ((rd_T125 x1 x5).f0) ((rd_T125 x1 x5).f1) ((rd_T125 x1 x5).f2) ((rd_T125 x1 x5).f3.f0) ((rd_T125 x1 x5).f3.f1) ((rd_T125 x1 x5).f3.f2) ((rd_T125 x1 x5).f3.f3) ((rd_T125 x1 x5).f3.f4)).bind fun t231 => (if t231 = true then (laws_eqToldS.l0 k x0 x1 (wrap64 (x5 + 1))) else (some false))) else (none)) else (none)) else (some true)
def laws_eqToldS.f (k : Nat) (l0 : List (S125)) (l1 : List (S125)) : Option (Bool) := if (l0.length : Int) = (l1.length : Int) then (laws_eqToldS.l0 k l0 l1 0) else (some false)
theorem laws_eqToldS.mono_l : ∀ k, (∀ y0 y1 y2, LeO (laws_eqToldS.l0 k y0 y1 y2) (laws_eqToldS.l0 (k + 1) y0 y1 y2))
 | 0 => fun _ _ _ r h => by simp [laws_eqToldS.l0] at h
 | k + 1 => by
  have ih0 := laws_eqToldS.mono_l k
  ·intro y0 y1 y2
   unfold laws_eqToldS.l0
   repeat' first
   | (with_reducible exact ih0 _ _ _)
   | (with_reducible exact laws_eqTold.mono _ _ _ _ _ _ _ _ _ _ _ _ _ _ _ _ _)
   | (with_reducible exact LeO.refl _)
   | (with_reducible exact LeO.none _)
   | (with_reducible refine LeO.ite ?_ ?_)
   | (with_reducible refine LeO.bind ?_ (fun _ => ?_))
   | exact ih0 _ _ _
   | exact laws_eqTold.mono _ _ _ _ _ _ _ _ _ _ _ _ _ _ _ _ _
   | exact LeO.none _
   | refine LeO.ite ?_ ?_
   | refine LeO.bind ?_ (fun _ => ?_)
theorem laws_eqToldS.mono : ∀ a0 a1 k, LeO (laws_eqToldS.f k a0 a1) (laws_eqToldS.f (k + 1) a0 a1) := by
 intro a0 a1 k
 have ih0 := laws_eqToldS.mono_l k
 unfold laws_eqToldS.f
 repeat' first
   | (with_reducible exact ih0 _ _ _)
   | (with_reducible exact laws_eqTold.mono _ _ _ _ _ _ _ _ _ _ _ _ _ _ _ _ _)
   | (with_reducible exact LeO.refl _)
   | (with_reducible exact LeO.none _)
   | (with_reducible refine LeO.ite ?_ ?_)
   | (with_reducible refine LeO.bind ?_ (fun _ => ?_))
   | exact ih0 _ _ _
   | exact laws_eqTold.mono _ _ _ _ _ _ _ _ _ _ _ _ _ _ _ _ _
   | exact LeO.none _
   | refine LeO.ite ?_ ?_
   | refine LeO.bind ?_ (fun _ => ?_)
def laws_eqToldS.T6 : Bool × List (List Nat × List Nat) := (true, [([], []), ([], []), ([0, 1], [0, 1]), ([2], [2]), ([], []), ([], []), ([4, 5], [4, 5]), ([6], [6]), ([3, 7], [3, 7]), ([8], [8])])
def laws_eqToldS.B6 : List Nat := [0, 0, 3, 7, 0, 0, 48, 112, 255, 511]
theorem laws_eqToldS.tab6 : rtab .any (opsOf Try.f19 6) = laws_eqToldS.T6 := by kernel_rfl
theorem laws_eqToldS.bits6 : waitsOk laws_eqToldS.T6.2 laws_eqToldS.B6 = true := by kernel_rfl
set_option maxHeartbeats 8000000 in
set_option maxRecDepth 100000 in
theorem laws_eqToldS.calls (k : Nat) (A0 : Option Addr) (c0 : Nat) (l0 : List (S125)) (A1 : Option Addr) (c1 : Nat) (l1 : List (S125)) (r : Bool) (w : World) (hr0 : Kd.C k125 w A0 l0.length l0) (hc0 : l0.length ≤ c0) (hr1 : Kd.C k125 w A1 l1.length l1) (hc1 : l1.length ≤ c1) (h : laws_eqToldS.f k l0 l1 = some r) :
  Calls Try.prog 19 #[.slice A0 l0.length c0, .slice A1 l1.length c1] w fun e w' => e = .returned (.bool r) ∧ Below w.heap.size w w' := by
 have hu125 := Try.underlying125
 have HR0 := Am hr0
 have HC0 := Am hc0
 clear hr0 hc0
 have HR1 := Am hr1
 have HC1 := Am hc1
 clear hr1 hc1
 have HB := Am (Below.refl w.heap.size w)
 have H : (if (l0.length : Int) = (l1.length : Int) then (laws_eqToldS.l0 k l0 l1 0) else (some false)) = some r := h
 clear h
 by_cases c3 : (l0.length : Int) = (l1.length : Int)
 ·rw [if_pos c3] at H
  have c3b0 : ((l0.length : Int) == (l1.length : Int)) = true := beq_iff_eq.mpr c3
  have c3b1 : ((l0.length : Int) != (l1.length : Int)) = false := bne_eq_false_iff_eq.mpr c3
  have c3b2 : (l0.length == l1.length) = true := by first | simpa using c3 | (simp at c3 ⊢; omega)
  clear c3
  have H' := Am H
  clear H
  go_enter Try.func19, Try.ntmps19
  go_wp2
  go_loopg [5] k (fun kq v5 w' => ∃ (x5_1 : Int), v5 = .int .i64 x5_1 ∧ Aside0 (laws_eqToldS.l0 kq l0 l1 x5_1 = some r) ∧ Aside0 (kq ≤ k) ∧ Aside0 (Below w.heap.size w w'))
  case atStart => exact ⟨(0), (by first | rfl | (simp; done) | (simp [*]; done)), H', ⟨Nat.le_refl _⟩, ⟨by repeat (first | (with_reducible first | exact HB.out | apply ba | apply bn | apply be) | exact HB.out)⟩⟩
  case round =>
   clear H'
   try clear c1
   try clear p2
   try clear c3
   try clear c3b0
   try clear c3b1
   try clear c3b2
   obtain ⟨x5_1, rfl, HA, HK1, HB⟩ := hrel
   cases gk with
   | zero => exact absurd HA.out (by simp [laws_eqToldS.l0])
   | succ k1 =>
    have H := HA.out
    clear HA
    simp only [laws_eqToldS.l0] at H
    by_cases c4 : x5_1 < (l0.length : Int)
    ·rw [if_pos c4] at H
     have c4b0 : decide (x5_1 < (l0.length : Int)) = true := decide_eq_true c4
     clear c4
     by_cases c5 : 0 ≤ x5_1
     ·rw [if_pos c5] at H
      have c5b0 : decide (0 ≤ x5_1) = true := decide_eq_true c5
      clear c5
      by_cases c6 : x5_1 < (l1.length : Int)
      ·rw [if_pos c6] at H
       have c6b0 : decide (x5_1 < (l1.length : Int)) = true := decide_eq_true c6
       clear c6
       replace H := Option.bind_eq_some_iff.mp H
       obtain ⟨t231, A70, H⟩ := H
       replace H : (if t231 = true then (laws_eqToldS.l0 k1 l0 l1 (wrap64 (x5_1 + 1))) else (some false)) = some r := H
       have A7 := Am A70
       clear A70
       by_cases c8 : t231 = true
       ·subst c8
        have H1 : (laws_eqToldS.l0 k1 l0 l1 (wrap64 (x5_1 + 1))) = some r := by rw [if_pos rfl] at H; exact H
        clear H
        have H := H1
        clear H1
        have H' := Am H
        clear H
        try go_wp2
        have n0_ := Am (be HB.out)
        clear HB
        have HB := n0_
        clear n0_
        have p229 : 0 ≤ (x5_1 : Int) := of_decide_eq_true (by first | (with_reducible assumption) | assumption)
        have q229 : x5_1 < (l0.length : Int) := of_decide_eq_true (by first | (with_reducible assumption) | assumption)
        obtain ⟨ad229, A229_7, c229_7, e229, hx229_0, hx229_1, hx229_2, hx229_3, hx229_4, hx229_5, hx229_6, hx229_7, hl229_7, hi229_7⟩ := at_T125 HR0.out x5_1 p229 q229
        have hw229_7 := hx229_7
        have hw229_6 := hx229_6
        have hw229_5 := hx229_5
        have hw229_4 := hx229_4
        have hw229_3 := hx229_3
        have hw229_2 := hx229_2
        have hw229_1 := hx229_1
        have hw229_0 := hx229_0
        cases e229
        replace hx229_0 := cl7 HB hx229_0
        replace hx229_1 := cl7 HB hx229_1
        replace hx229_2 := cl7 HB hx229_2
        replace hx229_3 := cl7 HB hx229_3
        replace hx229_4 := cl7 HB hx229_4
        replace hx229_5 := cl7 HB hx229_5
        replace hx229_6 := cl7 HB hx229_6
        replace hx229_7 := cl7 HB hx229_7
        have HR229_7 := Am hi229_7
        have HC229_7 := Am hl229_7
        clear hi229_7 hl229_7
        replace p229 := eq_true p229
        replace q229 := eq_true q229
        have p230 : 0 ≤ (x5_1 : Int) := of_decide_eq_true (by first | (with_reducible assumption) | assumption)
        have q230 : x5_1 < (l1.length : Int) := of_decide_eq_true (by first | (with_reducible assumption) | assumption)
        obtain ⟨ad230, A230_7, c230_7, e230, hx230_0, hx230_1, hx230_2, hx230_3, hx230_4, hx230_5, hx230_6, hx230_7, hl230_7, hi230_7⟩ := at_T125 HR1.out x5_1 p230 q230
        have hw230_7 := hx230_7
        have hw230_6 := hx230_6
        have hw230_5 := hx230_5
        have hw230_4 := hx230_4
        have hw230_3 := hx230_3
        have hw230_2 := hx230_2
        have hw230_1 := hx230_1
        have hw230_0 := hx230_0
        cases e230
        replace hx230_0 := cl7 HB hx230_0
        replace hx230_1 := cl7 HB hx230_1
        replace hx230_2 := cl7 HB hx230_2
        replace hx230_3 := cl7 HB hx230_3
        replace hx230_4 := cl7 HB hx230_4
        replace hx230_5 := cl7 HB hx230_5
        replace hx230_6 := cl7 HB hx230_6
        replace hx230_7 := cl7 HB hx230_7
        have HR230_7 := Am hi230_7
        have HC230_7 := Am hl230_7
        clear hi230_7 hl230_7
        replace p230 := eq_true p230
        replace q230 := eq_true q230
        refine start_ (n := 10) (S := fun w' => w'.cell? (ad229.add ((x5_1).toNat * 8)) = some (.int .i64 ((rd_T125 l0 x5_1).f0)) ∧ w'.cell? ⟨(ad229.add ((x5_1).toNat * 8)).block, (ad229.add ((x5_1).toNat * 8)).off + 1, none⟩ = some (.int .i64 ((rd_T125 l0 x5_1).f1)) ∧ w'.cell? ⟨(ad229.add ((x5_1).toNat * 8)).block, (ad229.add ((x5_1).toNat * 8)).off + 2, none⟩ = some (.bool ((rd_T125 l0 x5_1).f2)) ∧ w'.cell? ⟨(ad229.add ((x5_1).toNat * 8)).block, (ad229.add ((x5_1).toNat * 8)).off + 3, none⟩ = some (.int .i64 ((rd_T125 l0 x5_1).f3.f0)) ∧ w'.cell? ⟨(ad229.add ((x5_1).toNat * 8)).block, (ad229.add ((x5_1).toNat * 8)).off + 4, none⟩ = some (.string ((rd_T125 l0 x5_1).f3.f1)) ∧ w'.cell? ⟨(ad229.add ((x5_1).toNat * 8)).block, (ad229.add ((x5_1).toNat * 8)).off + 5, none⟩ = some (.int .i64 ((rd_T125 l0 x5_1).f3.f2)) ∧ w'.cell? ⟨(ad229.add ((x5_1).toNat * 8)).block, (ad229.add ((x5_1).toNat * 8)).off + 6, none⟩ = some (.bool ((rd_T125 l0 x5_1).f3.f3)) ∧ w'.cell? ⟨(ad229.add ((x5_1).toNat * 8)).block, (ad229.add ((x5_1).toNat * 8)).off + 7, none⟩ = some (.slice A229_7 ((rd_T125 l0 x5_1).f3.f4).length c229_7) ∧ w'.cell? (ad230.add ((x5_1).toNat * 8)) = some (.int .i64 ((rd_T125 l1 x5_1).f0)) ∧ w'.cell? ⟨(ad230.add ((x5_1).toNat * 8)).block, (ad230.add ((x5_1).toNat * 8)).off + 1, none⟩ = some (.int .i64 ((rd_T125 l1 x5_1).f1)) ∧ w'.cell? ⟨(ad230.add ((x5_1).toNat * 8)).block, (ad230.add ((x5_1).toNat * 8)).off + 2, none⟩ = some (.bool ((rd_T125 l1 x5_1).f2)) ∧ w'.cell? ⟨(ad230.add ((x5_1).toNat * 8)).block, (ad230.add ((x5_1).toNat * 8)).off + 3, none⟩ = some (.int .i64 ((rd_T125 l1 x5_1).f3.f0)) ∧ w'.cell? ⟨(ad230.add ((x5_1).toNat * 8)).block, (ad230.add ((x5_1).toNat * 8)).off + 4, none⟩ = some (.string ((rd_T125 l1 x5_1).f3.f1)) ∧ w'.cell? ⟨(ad230.add ((x5_1).toNat * 8)).block, (ad230.add ((x5_1).toNat * 8)).off + 5, none⟩ = some (.int .i64 ((rd_T125 l1 x5_1).f3.f2)) ∧ w'.cell? ⟨(ad230.add ((x5_1).toNat * 8)).block, (ad230.add ((x5_1).toNat * 8)).off + 6, none⟩ = some (.bool ((rd_T125 l1 x5_1).f3.f3)) ∧ w'.cell? ⟨(ad230.add ((x5_1).toNat * 8)).block, (ad230.add ((x5_1).toNat * 8)).off + 7, none⟩ = some (.slice A230_7 ((rd_T125 l1 x5_1).f3.f4).length c230_7)) (ds := []) #[false, false, false, false, false, false, false, false, false, false] (by kernel_rfl) rfl rfl ⟨(cl7 HB hw229_0), (cl7 HB hw229_1), (cl7 HB hw229_2), (cl7 HB hw229_3), (cl7 HB hw229_4), (cl7 HB hw229_5), (cl7 HB hw229_6), (cl7 HB hw229_7), (cl7 HB hw230_0), (cl7 HB hw230_1), (cl7 HB hw230_2), (cl7 HB hw230_3), (cl7 HB hw230_4), (cl7 HB hw230_5), (cl7 HB hw230_6), (cl7 HB hw230_7)⟩ (fun hHeld => ?_); refine with_tabW laws_eqToldS.tab6 laws_eqToldS.bits6 (fun HT_ HW_ => ?_)
        generalize wr.drew = w9 at HB HR229_7 HR230_7 hx229_0 hx229_1 hx229_2 hx229_3 hx229_4 hx229_5 hx229_6 hx229_7 hx230_0 hx230_1 hx230_2 hx230_3 hx230_4 hx230_5 hx230_6 hx230_7 hHeld ⊢
        refine pure_ (i := 0) (N := some 17) (v := ?_) (a' := ?_) #[true, false, false, false, false, false, false, false, false, false] rfl rfl (any_of HT_.out (by kernel_rfl)) (fun _ _ _ h => h) (Or.inl ⟨by rfl, ?_⟩) ?_ ?_
        rotate_left
        ·intro w'
         go_simp
         with_reducible rfl
        rotate_left
        ·simp only [Act.put, List.setIfInBounds_toArray, List.set_cons_zero, List.set_cons_succ, i64_w, i32_w]
         rfl
        refine pure_ (i := 1) (N := some 18) (v := ?_) (a' := ?_) #[true, true, false, false, false, false, false, false, false, false] rfl rfl (any_of HT_.out (by kernel_rfl)) (fun _ _ _ h => h) (Or.inl ⟨by rfl, ?_⟩) ?_ ?_
        rotate_left
        ·intro w'
         go_simp
         with_reducible rfl
        rotate_left
        ·simp only [Act.put, List.setIfInBounds_toArray, List.set_cons_zero, List.set_cons_succ, i64_w, i32_w]
         rfl
        refine pure_ (i := 2) (N := some 19) (v := ?_) (a' := ?_) #[true, true, true, false, false, false, false, false, false, false] rfl rfl (any_of HT_.out (by kernel_rfl)) (fun _ _ _ h => h) (Or.inl ⟨by rfl, ?_⟩) ?_ ?_
        rotate_left
        ·intro w'
         go_simp
         with_reducible rfl
        rotate_left
        ·simp only [Act.put, List.setIfInBounds_toArray, List.set_cons_zero, List.set_cons_succ, i64_w, i32_w]
         rfl
        refine pure_ (i := 4) (N := some 21) (v := ?_) (a' := ?_) #[true, true, true, false, true, false, false, false, false, false] rfl rfl (any_of HT_.out (by kernel_rfl)) (fun _ _ _ h => h) (Or.inl ⟨by rfl, ?_⟩) ?_ ?_
        rotate_left
        ·intro w'
         go_simp
         with_reducible rfl
        rotate_left
        ·simp only [Act.put, List.setIfInBounds_toArray, List.set_cons_zero, List.set_cons_succ, i64_w, i32_w]
         rfl
        refine pure_ (i := 5) (N := some 22) (v := ?_) (a' := ?_) #[true, true, true, false, true, true, false, false, false, false] rfl rfl (any_of HT_.out (by kernel_rfl)) (fun _ _ _ h => h) (Or.inl ⟨by rfl, ?_⟩) ?_ ?_
        rotate_left
        ·intro w'
         go_simp
         with_reducible rfl
        rotate_left
        ·simp only [Act.put, List.setIfInBounds_toArray, List.set_cons_zero, List.set_cons_succ, i64_w, i32_w]
         rfl
        refine pure_ (i := 6) (N := some 23) (v := ?_) (a' := ?_) #[true, true, true, false, true, true, true, false, false, false] rfl rfl (any_of HT_.out (by kernel_rfl)) (fun _ _ _ h => h) (Or.inl ⟨by rfl, ?_⟩) ?_ ?_
        rotate_left
        ·intro w'
         go_simp
         with_reducible rfl
        rotate_left
        ·simp only [Act.put, List.setIfInBounds_toArray, List.set_cons_zero, List.set_cons_succ, i64_w, i32_w]
         rfl
        refine take_ (i := 3) (N := some 20) (v := ?_) (a' := ?_) #[true, true, true, true, true, true, true, false, false, false] rfl rfl (take_ofW HT_.out HW_.out (by kernel_rfl)) (fun _ _ _ h => h) (Or.inl ⟨by rfl, ?_⟩) hHeld ?_ ?_
        rotate_left
        ·rintro w' ⟨s0, s1, s2, s3, s4, s5, s6, s7, s8, s9, s10, s11, s12, s13, s14, s15⟩
         go_simp
         with_reducible rfl
        rotate_left
        ·simp only [Act.put, List.setIfInBounds_toArray, List.set_cons_zero, List.set_cons_succ, i64_w, i32_w]
         rfl
        refine take_ (i := 7) (N := some 24) (v := ?_) (a' := ?_) #[true, true, true, true, true, true, true, true, false, false] rfl rfl (take_ofW HT_.out HW_.out (by kernel_rfl)) (fun _ _ _ h => h) (Or.inl ⟨by rfl, ?_⟩) hHeld ?_ ?_
        rotate_left
        ·rintro w' ⟨s0, s1, s2, s3, s4, s5, s6, s7, s8, s9, s10, s11, s12, s13, s14, s15⟩
         go_simp
         with_reducible rfl
        rotate_left
        ·simp only [Act.put, List.setIfInBounds_toArray, List.set_cons_zero, List.set_cons_succ, i64_w, i32_w]
         rfl
        refine one_ (i := 8) (N := some 25) #[true, true, true, true, true, true, true, true, true, false] rfl rfl (one_of HT_.out (by kernel_rfl)) (by decide) (fun K hK => ?_)
        refine goes_ Try.func86 (by kernel_rfl) rfl #[.agg #[.int .i64 ((rd_T125 l0 x5_1).f0), .int .i64 ((rd_T125 l0 x5_1).f1), .bool ((rd_T125 l0 x5_1).f2), .int .i64 ((rd_T125 l0 x5_1).f3.f0), .string ((rd_T125 l0 x5_1).f3.f1), .int .i64 ((rd_T125 l0 x5_1).f3.f2), .bool ((rd_T125 l0 x5_1).f3.f3), .slice A229_7 ((rd_T125 l0 x5_1).f3.f4).length c229_7], .agg #[.int .i64 ((rd_T125 l1 x5_1).f0), .int .i64 ((rd_T125 l1 x5_1).f1), .bool ((rd_T125 l1 x5_1).f2), .int .i64 ((rd_T125 l1 x5_1).f3.f0), .string ((rd_T125 l1 x5_1).f3.f1), .int .i64 ((rd_T125 l1 x5_1).f3.f2), .bool ((rd_T125 l1 x5_1).f3.f3), .slice A230_7 ((rd_T125 l1 x5_1).f3.f4).length c230_7]] (by rfl) rfl rfl (by (try simp only [List.map_toArray, List.map_cons, List.map_nil]); first | done | rfl | (simp only [List.length_drop, List.length_take]; rfl)) ?_
        with_reducible refine (laws_eqTold.calls k1 ((rd_T125 l0 x5_1).f0) ((rd_T125 l0 x5_1).f1) ((rd_T125 l0 x5_1).f2) ((rd_T125 l0 x5_1).f3.f0) ((rd_T125 l0 x5_1).f3.f1) ((rd_T125 l0 x5_1).f3.f2) ((rd_T125 l0 x5_1).f3.f3) _ _ ((rd_T125 l0 x5_1).f3.f4) ((rd_T125 l1 x5_1).f0) ((rd_T125 l1 x5_1).f1) ((rd_T125 l1 x5_1).f2) ((rd_T125 l1 x5_1).f3.f0) ((rd_T125 l1 x5_1).f3.f1) ((rd_T125 l1 x5_1).f3.f2) ((rd_T125 l1 x5_1).f3.f3) _ _ ((rd_T125 l1 x5_1).f3.f4) true _ ?side1 ?side2 ?side3 ?side4 A7.out).mono ?_
        (case side1 => repeat (first | exact (cb HR229_7.out HB.out) | (with_reducible first | refine ca ?_ _ | refine cn ?_ _ | refine ce ?_)))
        (case side2 => exact HC229_7.out)
        (case side3 => repeat (first | exact (cb HR230_7.out HB.out) | (with_reducible first | refine ca ?_ _ | refine cn ?_ _ | refine ce ?_)))
        (case side4 => exact HC230_7.out)
        rintro e w10 ⟨rfl, hb⟩
        refine ⟨_, rfl, ?_⟩
        have n0_ := Am (bq (by repeat (first | (with_reducible first | exact HB.out | apply ba | apply bn | apply be) | exact HB.out)) hb)
        clear HB
        have HB := n0_
        clear n0_
        (try clear hb)
        (try clear hb2)
        (try clear hk)
        (try clear hi)
        refine hK.out _ _ ⟨(cl7 HB hw229_0), (cl7 HB hw229_1), (cl7 HB hw229_2), (cl7 HB hw229_3), (cl7 HB hw229_4), (cl7 HB hw229_5), (cl7 HB hw229_6), (cl7 HB hw229_7), (cl7 HB hw230_0), (cl7 HB hw230_1), (cl7 HB hw230_2), (cl7 HB hw230_3), (cl7 HB hw230_4), (cl7 HB hw230_5), (cl7 HB hw230_6), (cl7 HB hw230_7)⟩ (fun hHeld => ?_)
        clear hK K
        refine norm_ (a' := ?_) ?_ ?_
        rotate_left
        ·show Act.put _ (some 25) _ = _
         simp only [Act.put, List.setIfInBounds_toArray, List.set_cons_zero, List.set_cons_succ, i64_w, i32_w]
         rfl
        refine pure_ (i := 9) (N := some 26) (v := ?_) (a' := ?_) #[true, true, true, true, true, true, true, true, true, true] rfl rfl (any_of HT_.out (by kernel_rfl)) (fun _ _ _ h => h) (Or.inl ⟨by rfl, ?_⟩) ?_ ?_
        rotate_left
        ·intro w'
         go_simp
         with_reducible rfl
        rotate_left
        ·simp only [Act.put, List.setIfInBounds_toArray, List.set_cons_zero, List.set_cons_succ, i64_w, i32_w]
         rfl
        refine done_ (done_of HT_.out (by kernel_rfl)) ?_
        try go_wp2
        go_roundg k1
        case measure => have := HK1.out; omega
        case rel => exact ⟨(wrap64 (x5_1 + 1)), (by first | rfl | (simp; done) | (simp [*]; done)), H', ⟨by have := HK1.out; omega⟩, ⟨by repeat (first | (with_reducible first | exact HB.out | apply ba | apply bn | apply be) | exact HB.out)⟩⟩
       ·replace c8 := Bool.eq_false_iff.mpr c8
        subst c8
        have H1 : (some false) = some r := by rw [if_neg (show ¬ (false = true) by decide)] at H; exact H
        clear H
        have H := H1
        clear H1
        obtain rfl := Option.some.inj H
        try go_wp2
        have n0_ := Am (be HB.out)
        clear HB
        have HB := n0_
        clear n0_
        have p229 : 0 ≤ (x5_1 : Int) := of_decide_eq_true (by first | (with_reducible assumption) | assumption)
        have q229 : x5_1 < (l0.length : Int) := of_decide_eq_true (by first | (with_reducible assumption) | assumption)
        obtain ⟨ad229, A229_7, c229_7, e229, hx229_0, hx229_1, hx229_2, hx229_3, hx229_4, hx229_5, hx229_6, hx229_7, hl229_7, hi229_7⟩ := at_T125 HR0.out x5_1 p229 q229
        have hw229_7 := hx229_7
        have hw229_6 := hx229_6
        have hw229_5 := hx229_5
        have hw229_4 := hx229_4
        have hw229_3 := hx229_3
        have hw229_2 := hx229_2
        have hw229_1 := hx229_1
        have hw229_0 := hx229_0
        cases e229
        replace hx229_0 := cl7 HB hx229_0
        replace hx229_1 := cl7 HB hx229_1
        replace hx229_2 := cl7 HB hx229_2
        replace hx229_3 := cl7 HB hx229_3
        replace hx229_4 := cl7 HB hx229_4
        replace hx229_5 := cl7 HB hx229_5
        replace hx229_6 := cl7 HB hx229_6
        replace hx229_7 := cl7 HB hx229_7
        have HR229_7 := Am hi229_7
        have HC229_7 := Am hl229_7
        clear hi229_7 hl229_7
        replace p229 := eq_true p229
        replace q229 := eq_true q229
        have p230 : 0 ≤ (x5_1 : Int) := of_decide_eq_true (by first | (with_reducible assumption) | assumption)
        have q230 : x5_1 < (l1.length : Int) := of_decide_eq_true (by first | (with_reducible assumption) | assumption)
        obtain ⟨ad230, A230_7, c230_7, e230, hx230_0, hx230_1, hx230_2, hx230_3, hx230_4, hx230_5, hx230_6, hx230_7, hl230_7, hi230_7⟩ := at_T125 HR1.out x5_1 p230 q230
        have hw230_7 := hx230_7
        have hw230_6 := hx230_6
        have hw230_5 := hx230_5
        have hw230_4 := hx230_4
        have hw230_3 := hx230_3
        have hw230_2 := hx230_2
        have hw230_1 := hx230_1
        have hw230_0 := hx230_0
        cases e230
        replace hx230_0 := cl7 HB hx230_0
        replace hx230_1 := cl7 HB hx230_1
        replace hx230_2 := cl7 HB hx230_2
        replace hx230_3 := cl7 HB hx230_3
        replace hx230_4 := cl7 HB hx230_4
        replace hx230_5 := cl7 HB hx230_5
        replace hx230_6 := cl7 HB hx230_6
        replace hx230_7 := cl7 HB hx230_7
        have HR230_7 := Am hi230_7
        have HC230_7 := Am hl230_7
        clear hi230_7 hl230_7
        replace p230 := eq_true p230
        replace q230 := eq_true q230
        refine start_ (n := 10) (S := fun w' => w'.cell? (ad229.add ((x5_1).toNat * 8)) = some (.int .i64 ((rd_T125 l0 x5_1).f0)) ∧ w'.cell? ⟨(ad229.add ((x5_1).toNat * 8)).block, (ad229.add ((x5_1).toNat * 8)).off + 1, none⟩ = some (.int .i64 ((rd_T125 l0 x5_1).f1)) ∧ w'.cell? ⟨(ad229.add ((x5_1).toNat * 8)).block, (ad229.add ((x5_1).toNat * 8)).off + 2, none⟩ = some (.bool ((rd_T125 l0 x5_1).f2)) ∧ w'.cell? ⟨(ad229.add ((x5_1).toNat * 8)).block, (ad229.add ((x5_1).toNat * 8)).off + 3, none⟩ = some (.int .i64 ((rd_T125 l0 x5_1).f3.f0)) ∧ w'.cell? ⟨(ad229.add ((x5_1).toNat * 8)).block, (ad229.add ((x5_1).toNat * 8)).off + 4, none⟩ = some (.string ((rd_T125 l0 x5_1).f3.f1)) ∧ w'.cell? ⟨(ad229.add ((x5_1).toNat * 8)).block, (ad229.add ((x5_1).toNat * 8)).off + 5, none⟩ = some (.int .i64 ((rd_T125 l0 x5_1).f3.f2)) ∧ w'.cell? ⟨(ad229.add ((x5_1).toNat * 8)).block, (ad229.add ((x5_1).toNat * 8)).off + 6, none⟩ = some (.bool ((rd_T125 l0 x5_1).f3.f3)) ∧ w'.cell? ⟨(ad229.add ((x5_1).toNat * 8)).block, (ad229.add ((x5_1).toNat * 8)).off + 7, none⟩ = some (.slice A229_7 ((rd_T125 l0 x5_1).f3.f4).length c229_7) ∧ w'.cell? (ad230.add ((x5_1).toNat * 8)) = some (.int .i64 ((rd_T125 l1 x5_1).f0)) ∧ w'.cell? ⟨(ad230.add ((x5_1).toNat * 8)).block, (ad230.add ((x5_1).toNat * 8)).off + 1, none⟩ = some (.int .i64 ((rd_T125 l1 x5_1).f1)) ∧ w'.cell? ⟨(ad230.add ((x5_1).toNat * 8)).block, (ad230.add ((x5_1).toNat * 8)).off + 2, none⟩ = some (.bool ((rd_T125 l1 x5_1).f2)) ∧ w'.cell? ⟨(ad230.add ((x5_1).toNat * 8)).block, (ad230.add ((x5_1).toNat * 8)).off + 3, none⟩ = some (.int .i64 ((rd_T125 l1 x5_1).f3.f0)) ∧ w'.cell? ⟨(ad230.add ((x5_1).toNat * 8)).block, (ad230.add ((x5_1).toNat * 8)).off + 4, none⟩ = some (.string ((rd_T125 l1 x5_1).f3.f1)) ∧ w'.cell? ⟨(ad230.add ((x5_1).toNat * 8)).block, (ad230.add ((x5_1).toNat * 8)).off + 5, none⟩ = some (.int .i64 ((rd_T125 l1 x5_1).f3.f2)) ∧ w'.cell? ⟨(ad230.add ((x5_1).toNat * 8)).block, (ad230.add ((x5_1).toNat * 8)).off + 6, none⟩ = some (.bool ((rd_T125 l1 x5_1).f3.f3)) ∧ w'.cell? ⟨(ad230.add ((x5_1).toNat * 8)).block, (ad230.add ((x5_1).toNat * 8)).off + 7, none⟩ = some (.slice A230_7 ((rd_T125 l1 x5_1).f3.f4).length c230_7)) (ds := []) #[false, false, false, false, false, false, false, false, false, false] (by kernel_rfl) rfl rfl ⟨(cl7 HB hw229_0), (cl7 HB hw229_1), (cl7 HB hw229_2), (cl7 HB hw229_3), (cl7 HB hw229_4), (cl7 HB hw229_5), (cl7 HB hw229_6), (cl7 HB hw229_7), (cl7 HB hw230_0), (cl7 HB hw230_1), (cl7 HB hw230_2), (cl7 HB hw230_3), (cl7 HB hw230_4), (cl7 HB hw230_5), (cl7 HB hw230_6), (cl7 HB hw230_7)⟩ (fun hHeld => ?_); refine with_tabW laws_eqToldS.tab6 laws_eqToldS.bits6 (fun HT_ HW_ => ?_)
        generalize wr.drew = w11 at HB HR229_7 HR230_7 hx229_0 hx229_1 hx229_2 hx229_3 hx229_4 hx229_5 hx229_6 hx229_7 hx230_0 hx230_1 hx230_2 hx230_3 hx230_4 hx230_5 hx230_6 hx230_7 hHeld ⊢
        refine pure_ (i := 0) (N := some 17) (v := ?_) (a' := ?_) #[true, false, false, false, false, false, false, false, false, false] rfl rfl (any_of HT_.out (by kernel_rfl)) (fun _ _ _ h => h) (Or.inl ⟨by rfl, ?_⟩) ?_ ?_
        rotate_left
        ·intro w'
         go_simp
         with_reducible rfl
        rotate_left
        ·simp only [Act.put, List.setIfInBounds_toArray, List.set_cons_zero, List.set_cons_succ, i64_w, i32_w]
         rfl
        refine pure_ (i := 1) (N := some 18) (v := ?_) (a' := ?_) #[true, true, false, false, false, false, false, false, false, false] rfl rfl (any_of HT_.out (by kernel_rfl)) (fun _ _ _ h => h) (Or.inl ⟨by rfl, ?_⟩) ?_ ?_
        rotate_left
        ·intro w'
         go_simp
         with_reducible rfl
        rotate_left
        ·simp only [Act.put, List.setIfInBounds_toArray, List.set_cons_zero, List.set_cons_succ, i64_w, i32_w]
         rfl
        refine pure_ (i := 2) (N := some 19) (v := ?_) (a' := ?_) #[true, true, true, false, false, false, false, false, false, false] rfl rfl (any_of HT_.out (by kernel_rfl)) (fun _ _ _ h => h) (Or.inl ⟨by rfl, ?_⟩) ?_ ?_
        rotate_left
        ·intro w'
         go_simp
         with_reducible rfl
        rotate_left
        ·simp only [Act.put, List.setIfInBounds_toArray, List.set_cons_zero, List.set_cons_succ, i64_w, i32_w]
         rfl
        refine pure_ (i := 4) (N := some 21) (v := ?_) (a' := ?_) #[true, true, true, false, true, false, false, false, false, false] rfl rfl (any_of HT_.out (by kernel_rfl)) (fun _ _ _ h => h) (Or.inl ⟨by rfl, ?_⟩) ?_ ?_
        rotate_left
        ·intro w'
         go_simp
         with_reducible rfl
        rotate_left
        ·simp only [Act.put, List.setIfInBounds_toArray, List.set_cons_zero, List.set_cons_succ, i64_w, i32_w]
         rfl
        refine pure_ (i := 5) (N := some 22) (v := ?_) (a' := ?_) #[true, true, true, false, true, true, false, false, false, false] rfl rfl (any_of HT_.out (by kernel_rfl)) (fun _ _ _ h => h) (Or.inl ⟨by rfl, ?_⟩) ?_ ?_
        rotate_left
        ·intro w'
         go_simp
         with_reducible rfl
        rotate_left
        ·simp only [Act.put, List.setIfInBounds_toArray, List.set_cons_zero, List.set_cons_succ, i64_w, i32_w]
         rfl
        refine pure_ (i := 6) (N := some 23) (v := ?_) (a' := ?_) #[true, true, true, false, true, true, true, false, false, false] rfl rfl (any_of HT_.out (by kernel_rfl)) (fun _ _ _ h => h) (Or.inl ⟨by rfl, ?_⟩) ?_ ?_
        rotate_left
        ·intro w'
         go_simp
         with_reducible rfl
        rotate_left
        ·simp only [Act.put, List.setIfInBounds_toArray, List.set_cons_zero, List.set_cons_succ, i64_w, i32_w]
         rfl
        refine take_ (i := 3) (N := some 20) (v := ?_) (a' := ?_) #[true, true, true, true, true, true, true, false, false, false] rfl rfl (take_ofW HT_.out HW_.out (by kernel_rfl)) (fun _ _ _ h => h) (Or.inl ⟨by rfl, ?_⟩) hHeld ?_ ?_
        rotate_left
        ·rintro w' ⟨s0, s1, s2, s3, s4, s5, s6, s7, s8, s9, s10, s11, s12, s13, s14, s15⟩
         go_simp
         with_reducible rfl
        rotate_left
        ·simp only [Act.put, List.setIfInBounds_toArray, List.set_cons_zero, List.set_cons_succ, i64_w, i32_w]
         rfl
        refine take_ (i := 7) (N := some 24) (v := ?_) (a' := ?_) #[true, true, true, true, true, true, true, true, false, false] rfl rfl (take_ofW HT_.out HW_.out (by kernel_rfl)) (fun _ _ _ h => h) (Or.inl ⟨by rfl, ?_⟩) hHeld ?_ ?_
        rotate_left
        ·rintro w' ⟨s0, s1, s2, s3, s4, s5, s6, s7, s8, s9, s10, s11, s12, s13, s14, s15⟩
         go_simp
         with_reducible rfl
        rotate_left
        ·simp only [Act.put, List.setIfInBounds_toArray, List.set_cons_zero, List.set_cons_succ, i64_w, i32_w]
         rfl
        refine one_ (i := 8) (N := some 25) #[true, true, true, true, true, true, true, true, true, false] rfl rfl (one_of HT_.out (by kernel_rfl)) (by decide) (fun K hK => ?_)
        refine goes_ Try.func86 (by kernel_rfl) rfl #[.agg #[.int .i64 ((rd_T125 l0 x5_1).f0), .int .i64 ((rd_T125 l0 x5_1).f1), .bool ((rd_T125 l0 x5_1).f2), .int .i64 ((rd_T125 l0 x5_1).f3.f0), .string ((rd_T125 l0 x5_1).f3.f1), .int .i64 ((rd_T125 l0 x5_1).f3.f2), .bool ((rd_T125 l0 x5_1).f3.f3), .slice A229_7 ((rd_T125 l0 x5_1).f3.f4).length c229_7], .agg #[.int .i64 ((rd_T125 l1 x5_1).f0), .int .i64 ((rd_T125 l1 x5_1).f1), .bool ((rd_T125 l1 x5_1).f2), .int .i64 ((rd_T125 l1 x5_1).f3.f0), .string ((rd_T125 l1 x5_1).f3.f1), .int .i64 ((rd_T125 l1 x5_1).f3.f2), .bool ((rd_T125 l1 x5_1).f3.f3), .slice A230_7 ((rd_T125 l1 x5_1).f3.f4).length c230_7]] (by rfl) rfl rfl (by (try simp only [List.map_toArray, List.map_cons, List.map_nil]); first | done | rfl | (simp only [List.length_drop, List.length_take]; rfl)) ?_
        with_reducible refine (laws_eqTold.calls k1 ((rd_T125 l0 x5_1).f0) ((rd_T125 l0 x5_1).f1) ((rd_T125 l0 x5_1).f2) ((rd_T125 l0 x5_1).f3.f0) ((rd_T125 l0 x5_1).f3.f1) ((rd_T125 l0 x5_1).f3.f2) ((rd_T125 l0 x5_1).f3.f3) _ _ ((rd_T125 l0 x5_1).f3.f4) ((rd_T125 l1 x5_1).f0) ((rd_T125 l1 x5_1).f1) ((rd_T125 l1 x5_1).f2) ((rd_T125 l1 x5_1).f3.f0) ((rd_T125 l1 x5_1).f3.f1) ((rd_T125 l1 x5_1).f3.f2) ((rd_T125 l1 x5_1).f3.f3) _ _ ((rd_T125 l1 x5_1).f3.f4) false _ ?side1 ?side2 ?side3 ?side4 A7.out).mono ?_
        (case side1 => repeat (first | exact (cb HR229_7.out HB.out) | (with_reducible first | refine ca ?_ _ | refine cn ?_ _ | refine ce ?_)))
        (case side2 => exact HC229_7.out)
        (case side3 => repeat (first | exact (cb HR230_7.out HB.out) | (with_reducible first | refine ca ?_ _ | refine cn ?_ _ | refine ce ?_)))
        (case side4 => exact HC230_7.out)
        rintro e w12 ⟨rfl, hb⟩
        refine ⟨_, rfl, ?_⟩
        have n0_ := Am (bq (by repeat (first | (with_reducible first | exact HB.out | apply ba | apply bn | apply be) | exact HB.out)) hb)
        clear HB
        have HB := n0_
        clear n0_
        (try clear hb)
        (try clear hb2)
        (try clear hk)
        (try clear hi)
        refine hK.out _ _ ⟨(cl7 HB hw229_0), (cl7 HB hw229_1), (cl7 HB hw229_2), (cl7 HB hw229_3), (cl7 HB hw229_4), (cl7 HB hw229_5), (cl7 HB hw229_6), (cl7 HB hw229_7), (cl7 HB hw230_0), (cl7 HB hw230_1), (cl7 HB hw230_2), (cl7 HB hw230_3), (cl7 HB hw230_4), (cl7 HB hw230_5), (cl7 HB hw230_6), (cl7 HB hw230_7)⟩ (fun hHeld => ?_)
        clear hK K
        refine norm_ (a' := ?_) ?_ ?_
        rotate_left
        ·show Act.put _ (some 25) _ = _
         simp only [Act.put, List.setIfInBounds_toArray, List.set_cons_zero, List.set_cons_succ, i64_w, i32_w]
         rfl
        refine pure_ (i := 9) (N := some 26) (v := ?_) (a' := ?_) #[true, true, true, true, true, true, true, true, true, true] rfl rfl (any_of HT_.out (by kernel_rfl)) (fun _ _ _ h => h) (Or.inl ⟨by rfl, ?_⟩) ?_ ?_
        rotate_left
        ·intro w'
         go_simp
         with_reducible rfl
        rotate_left
        ·simp only [Act.put, List.setIfInBounds_toArray, List.set_cons_zero, List.set_cons_succ, i64_w, i32_w]
         rfl
        refine done_ (done_of HT_.out (by kernel_rfl)) ?_
        try go_wp2
        go_ret
        exact ⟨by first | rfl | (simp [errW_none, errW_some] <;> rfl) | (simp [*, errW_none, errW_some] <;> rfl), by repeat (first | (with_reducible first | exact HB.out | apply ba | apply bn | apply be) | exact HB.out)⟩
      ·rw [if_neg c6] at H
       exact absurd H (by simp)
     ·rw [if_neg c5] at H
      exact absurd H (by simp)
    ·rw [if_neg c4] at H
     have c4b0 : decide (x5_1 < (l0.length : Int)) = false := decide_eq_false c4
     clear c4
     obtain rfl := Option.some.inj H
     go_wp2
     go_ret
     exact ⟨by first | rfl | (simp [errW_none, errW_some] <;> rfl) | (simp [*, errW_none, errW_some] <;> rfl), by repeat (first | (with_reducible first | exact HB.out | apply ba | apply bn | apply be) | exact HB.out)⟩
 ·rw [if_neg c3] at H
  have c3b0 : ((l0.length : Int) == (l1.length : Int)) = false := beq_eq_false_iff_ne.mpr c3
  have c3b1 : ((l0.length : Int) != (l1.length : Int)) = true := bne_iff_ne.mpr c3
  have c3b2 : (l0.length == l1.length) = false := by first | simpa using c3 | (simp at c3 ⊢; omega)
  obtain rfl := Option.some.inj H
  go_enter Try.func19, Try.ntmps19
  go_wp2
  go_ret
  exact ⟨by first | rfl | (simp [errW_none, errW_some] <;> rfl) | (simp [*, errW_none, errW_some] <;> rfl), by repeat (first | (with_reducible first | exact HB.out | apply ba | apply bn | apply be) | exact HB.out)⟩

/-! ### laws_markText: function 87 -/
def laws_markText.l0 : Nat → Int → ByteArray → Option (ByteArray)
 | 0, _, _ => none
 | k + 1, x0, x3 => if x0 > 0 then ((some (([(wrap64 (48 + (Int.tmod x0 10))) % 256] : List Int) : List Int)).bind fun y232 => (if (strOfNums y232).size + x3.size ≤ 9223372036854775807 then (laws_markText.l0 k (wrap64 (Int.tdiv x0 10)) ((strOfNums y232) ++ x3)) else (none))) else (if 1 + x3.size ≤ 9223372036854775807 then (some ((⟨#[109]⟩ : ByteArray) ++ x3)) else (none))
def laws_markText.f (k : Nat) (a0 : Int) : Option (ByteArray) := if a0 ≤ 0 then (some (⟨#[109, 48]⟩ : ByteArray)) else (laws_markText.l0 k a0 (⟨#[]⟩ : ByteArray))
theorem laws_markText.mono_l : ∀ k, (∀ y0 y1, LeO (laws_markText.l0 k y0 y1) (laws_markText.l0 (k + 1) y0 y1))
 | 0 => fun _ _ r h => by simp [laws_markText.l0] at h
 | k + 1 => by
  have ih0 := laws_markText.mono_l k
  ·intro y0 y1
   unfold laws_markText.l0
   repeat' first
   | (with_reducible exact ih0 _ _)
   | (with_reducible exact LeO.refl _)
   | (with_reducible exact LeO.none _)
   | (with_reducible refine LeO.ite ?_ ?_)
   | (with_reducible refine LeO.bind ?_ (fun _ => ?_))
   | exact ih0 _ _
   | exact LeO.none _
   | refine LeO.ite ?_ ?_
   | refine LeO.bind ?_ (fun _ => ?_)
theorem laws_markText.mono : ∀ a0 k, LeO (laws_markText.f k a0) (laws_markText.f (k + 1) a0) := by
 intro a0 k
 have ih0 := laws_markText.mono_l k
 unfold laws_markText.f
 repeat' first
   | (with_reducible exact ih0 _ _)
   | (with_reducible exact LeO.refl _)
   | (with_reducible exact LeO.none _)
   | (with_reducible refine LeO.ite ?_ ?_)
   | (with_reducible refine LeO.bind ?_ (fun _ => ?_))
   | exact ih0 _ _
   | exact LeO.none _
   | refine LeO.ite ?_ ?_
   | refine LeO.bind ?_ (fun _ => ?_)
set_option maxHeartbeats 8000000 in
set_option maxRecDepth 100000 in
theorem laws_markText.calls (k : Nat) (a0 : Int) (r : ByteArray) (w : World) (h : laws_markText.f k a0 = some r) :
  Calls Try.prog 87 #[.int .i64 a0] w fun e w' => e = .returned (.string r) ∧ Below w.heap.size w w' := by
 have HB := Am (Below.refl w.heap.size w)
 have H : (if a0 ≤ 0 then (some (⟨#[109, 48]⟩ : ByteArray)) else (laws_markText.l0 k a0 (⟨#[]⟩ : ByteArray))) = some r := h
 clear h
 by_cases c2 : a0 ≤ 0
 ·rw [if_pos c2] at H
  have c2b0 : decide (a0 ≤ 0) = true := decide_eq_true c2
  clear c2
  obtain rfl := Option.some.inj H
  go_enter Try.func87, Try.ntmps87
  go_wp2
  go_ret
  exact ⟨by first | rfl | (simp [errW_none, errW_some] <;> rfl) | (simp [*, errW_none, errW_some] <;> rfl), by repeat (first | (with_reducible first | exact HB.out | apply ba | apply bn | apply be) | exact HB.out)⟩
 ·rw [if_neg c2] at H
  have c2b0 : decide (a0 ≤ 0) = false := decide_eq_false c2
  clear c2
  have H' := Am H
  clear H
  go_enter Try.func87, Try.ntmps87
  go_wp2
  go_loopg [0, 3] k (fun kq v0 v3 w' => ∃ (x0_1 : Int) (x3_1 : ByteArray), v0 = .int .i64 x0_1 ∧ v3 = .string x3_1 ∧ Aside0 (laws_markText.l0 kq x0_1 x3_1 = some r) ∧ Aside0 (kq ≤ k) ∧ Aside0 (Below w.heap.size w w'))
  case atStart => exact ⟨(a0), ((⟨#[]⟩ : ByteArray)), (by first | rfl | (simp; done) | (simp [*]; done)), (by first | rfl | (simp; done) | (simp [*]; done)), H', ⟨Nat.le_refl _⟩, ⟨by repeat (first | (with_reducible first | exact HB.out | apply ba | apply bn | apply be) | exact HB.out)⟩⟩
  case round =>
   clear H'
   try clear c2
   try clear c2b0
   try clear p2
   obtain ⟨x0_1, x3_1, rfl, rfl, HA, HK1, HB⟩ := hrel
   cases gk with
   | zero => exact absurd HA.out (by simp [laws_markText.l0])
   | succ k1 =>
    have H := HA.out
    clear HA
    simp only [laws_markText.l0] at H
    by_cases c3 : x0_1 > 0
    ·rw [if_pos c3] at H
     have c3b0 : decide (0 < x0_1) = true := decide_eq_true c3
     clear c3
     obtain ⟨y232, hy232⟩ : ∃ y_ : List Int, y_ = (([(wrap64 (48 + (Int.tmod x0_1 10))) % 256] : List Int)) := ⟨_, rfl⟩
     replace H : (if (strOfNums y232).size + x3_1.size ≤ 9223372036854775807 then (laws_markText.l0 k1 (wrap64 (Int.tdiv x0_1 10)) ((strOfNums y232) ++ x3_1)) else (none)) = some r := by first | (rw [hy232]; with_reducible exact H) | (have H2_ := (Option.bind_some _ _).symm.trans H; rw [hy232]; with_reducible exact H2_) | (have H2_ := (Option.bind_some _ _).symm.trans H; with_reducible exact H2_) | with_reducible exact H | (rw [hy232]; exact H) | exact H
     have Ny232 := Am hy232
     clear hy232
     by_cases c4 : (strOfNums y232).size + x3_1.size ≤ 9223372036854775807
     ·rw [if_pos c4] at H
      have c4b0 := eq_true c4
      have c4b1 : decide ((strOfNums y232).size + x3_1.size ≤ 9223372036854775807) = true := decide_eq_true c4
      try have c4b2 : (9223372036854775807 < (strOfNums y232).size + x3_1.size) = False := eq_false (Nat.not_lt.2 c4)
      try (have c4b3 := c4b2; simp only [ByteArray.size_extract, Nat.sub_zero] at c4b3)
      try clear c4
      have H' := Am H
      clear H
      go_wp2_with (first | ((with_reducible refine gate_dst (N := 12) rfl ?_); refine Kd.R_lit (Kd.int .u8) _ 5 ?hg (N := 12) ?hd (xs := ([(wrap64 (48 + (Int.tmod x0_1 10))) % 256] : List Int)) (inner := [.int .u8 ((wrap64 (48 + (Int.tmod x0_1 10))) % 256)]) (ok := fun _ => True) (okp := fun _ => True) ?hr ?hp (fun _ hk => hk) trivial (Below.refl _ _) (Nat.le_refl _) (by simp) ?_; (case hd => rfl); (case hg => rfl); (case hr => first | (go_simp; done) | (go_simp; rfl)); (case hp => exact (Reps.one (show Kd.M (Kd.int .u8) _ _ _ ((wrap64 (48 + (Int.tmod x0_1 10))) % 256) [.int .u8 ((wrap64 (48 + (Int.tmod x0_1 10))) % 256)] from rfl) (Reps.none _ _))); intro v233 w5 ho6 hb hg_ hnew_; clear hg_ hnew_; (first | rw [← Ny232.out] at ho6 | (simp only [Int.reduceToNat] at ho6; rw [← Ny232.out] at ho6)); have HO234 := Am (Kd.R_lower ho6 (bz (by repeat (first | (with_reducible first | exact HB.out | apply ba | apply bn | apply be) | exact HB.out)))); replace HB := Am (bq (by repeat (first | (with_reducible first | exact HB.out | apply ba | apply bn | apply be) | exact HB.out)) hb); clear hb ho6; have hcv7 := own_string (P := Try.prog) Try.underlying39 Try.underlying5 Try.underlying9 (Kd.own_of_R HO234.out)))
      go_roundg k1
      case measure => have := HK1.out; omega
      case rel => exact ⟨(wrap64 (Int.tdiv x0_1 10)), ((strOfNums y232) ++ x3_1), (by first | rfl | (simp; done) | (simp [*]; done)), (by first | rfl | (simp; done) | (simp [*]; done)), H', ⟨by have := HK1.out; omega⟩, ⟨by repeat (first | (with_reducible first | exact HB.out | apply ba | apply bn | apply be) | exact HB.out)⟩⟩
     ·rw [if_neg c4] at H
      exact absurd H (by simp)
    ·rw [if_neg c3] at H
     have c3b0 : decide (0 < x0_1) = false := decide_eq_false c3
     clear c3
     by_cases c8 : 1 + x3_1.size ≤ 9223372036854775807
     ·rw [if_pos c8] at H
      have c8b0 := eq_true c8
      have c8b1 : decide (1 + x3_1.size ≤ 9223372036854775807) = true := decide_eq_true c8
      try have c8b2 : (9223372036854775807 < 1 + x3_1.size) = False := eq_false (Nat.not_lt.2 c8)
      try (have c8b3 := c8b2; simp only [ByteArray.size_extract, Nat.sub_zero] at c8b3)
      try clear c8
      obtain rfl := Option.some.inj H
      go_wp2
      go_ret
      exact ⟨by first | rfl | (simp [errW_none, errW_some] <;> rfl) | (simp [*, errW_none, errW_some] <;> rfl), by repeat (first | (with_reducible first | exact HB.out | apply ba | apply bn | apply be) | exact HB.out)⟩
     ·rw [if_neg c8] at H
      exact absurd H (by simp)

/-! ### laws_markActS: function 20 -/
def laws_markActS.l0 : Nat → List (S123) → Int → Int → Option (Int × (List (S123)))
 | 0, _, _, _ => none
 | k + 1, x0, x1, x5 => if x5 < (x0.length : Int) then (if 0 ≤ x5 then ((some (x0.set (x5 : Int).toNat (⟨x1, (rd_T123 x0 x5).f1, (⟨(rd_T123 x0 x5).f2.f0, (rd_T123 x0 x5).f2.f1, (rd_T123 x0 x5).f2.f2, (rd_T123 x0 x5).f2.f3, (rd_T123 x0 x5).f2.f4, (rd_T123 x0 x5).f2.f5⟩ : S42), (rd_T123 x0 x5).f3⟩ : S123) : List (S123))).bind fun y235 => ((some (y235.set (x5 : Int).toNat (⟨(rd_T123 y235 x5).f0, wrap64 (x1 + 1), (⟨(rd_T123 y235 x5).f2.f0, (rd_T123 y235 x5).f2.f1, (rd_T123 y235 x5).f2.f2, (rd_T123 y235 x5).f2.f3, (rd_T123 y235 x5).f2.f4, (rd_T123 y235 x5).f2.f5⟩ : S42), (rd_T123 y235 x5).f3⟩ : S123) : List (S123))).bind fun y236 => ((some (y236.set (x5 : Int).toNat (⟨(rd_T123 y236 x5).f0, (rd_T123 y236 x5).f1, (⟨wrap64 ((wrap64 (x1 + 1)) + 1), (rd_T123 y236 x5).f2.f1, (rd_T123 y236 x5).f2.f2, (rd_T123 y236 x5).f2.f3, (rd_T123 y236 x5).f2.f4, (rd_T123 y236 x5).f2.f5⟩ : S42), (rd_T123 y236 x5).f3⟩ : S123) : List (S123))).bind fun y237 => ((laws_markText.f k (wrap64 ((wrap64 ((wrap64 (x1 + 1)) + 1)) + 1))).bind fun t238 => ((some (y237.set (x5 : Int).toNat (⟨(rd_T123 y237 x5).f0, (rd_T123 y237 x5).f1, (⟨(rd_T123 y237 x5).f2.f0, t238, (rd_T123 y237 x5).f2.f2, (rd_T123 y237 x5).f2.f3, (rd_T123 y237 x5).f2.f4, (rd_T123 y237 x5).f2.f5⟩ : S42), (rd_T123 y237 x5).f3⟩ : S123) : List (S123))).bind fun y239 => ((laws_markText.f k (wrap64 ((wrap64 ((wrap64 ((wrap64 (x1 + 1)) + 1)) + 1)) + 1))).bind fun t240 => ((some (y239.set (x5 : Int).toNat (⟨(rd_T123 y239 x5).f0, (rd_T123 y239 x5).f1, (⟨(rd_T123 y239 x5).f2.f0, (rd_T123 y239 x5).f2.f1, t240, (rd_T123 y239 x5).f2.f3, (rd_T123 y239 x5).f2.f4, (rd_T123 y239 x5).f2.f5⟩ : S42), (rd_T123 y239 x5).f3⟩ : S123) : List (S123))).bind fun y241 => ((some (y241.set (x5 : Int).toNat (⟨(rd_T123 y241 x5).f0, (rd_T123 y241 x5).f1, (⟨(rd_T123 y241 x5).f2.f0, (rd_T123 y241 x5).f2.f1, (rd_T123 y241 x5).f2.f2, wrap64 ((wrap64 ((wrap64 ((wrap64 ((wrap64 (x1 + 1)) + 1)) + 1)) + 1)) + 1), (rd_T123 y241 x5).f2.f4, (rd_T123 y241 x5).f2.f5⟩ : S42), (rd_T123 y241 x5).f3⟩ : S123) : List (S123))).bind fun y242 => ((some (y242.set (x5 : Int).toNat (⟨(rd_T123 y242 x5).f0, (rd_T123 y242 x5).f1, (⟨(rd_T123 y242 x5).f2.f0, (rd_T123 y242 x5).f2.f1, (rd_T123 y242 x5).f2.f2, (rd_T123 y242 x5).f2.f3, wrap64 ((wrap64 ((wrap64 ((wrap64 ((wrap64 ((wrap64 (x1 + 1)) + 1)) + 1)) + 1)) + 1)) + 1), (rd_T123 y242 x5).f2.f5⟩ : S42), (rd_T123 y242 x5).f3⟩ : S123) : List (S123))).bind fun y243 => ((laws_markText.f k (wrap64 ((wrap64 ((wrap64 ((wrap64 ((wrap64 ((wrap64 ((wrap64 (x1 + 1)) + 1)) + 1)) + 1)) + 1)) + 1)) + 1))).bind fun t244 => ((some (y243.set (x5 : Int).toNat (⟨(rd_T123 y243 x5).f0, (rd_T123 y243 x5).f1, (⟨(rd_T123 y243 x5).f2.f0, (rd_T123 y243 x5).f2.f1, (rd_T123 y243 x5).f2.f2, (rd_T123 y243 x5).f2.f3, (rd_T123 y243 x5).f2.f4, t244⟩ : S42), (rd_T123 y243 x5).f3⟩ : S123) : List (S123))).bind fun y245 => (laws_markActS.l0 k (y245.set (x5 : Int).toNat (⟨(rd_T123 y245 x5).f0, (rd_T123 y245 x5).f1, (⟨(rd_T123 y245 x5).f2.f0, (rd_T123 y245 x5).f2.f1, (rd_T123 y245 x5).f2.f2, (rd_T123 y245 x5).f2.f3, (rd_T123 y245 x5).f2.f4, (rd_T123 y245 x5).f2.f5⟩ : S42), wrap64 ((wrap64 ((wrap64 ((wrap64 ((wrap64 ((wrap64 ((wrap64 ((wrap64 (x1 + 1)) + 1)) + 1)) + 1)) + 1)) + 1)) + 1)) + 1)⟩ : S123)) (wrap64 ((wrap64 ((wrap64 ((wrap64 ((wrap64 ((wrap64 ((wrap64 ((wrap64 ((wrap64 (x1 + 1)) + 1)) + 1)) + 1)) + 1)) + 1)) + 1)) + 1)) + 1)) (wrap64 (x5 + 1)))))))))))))) else (none)) else (some (x1, x0))
def laws_markActS.f (k : Nat) (l0 : List (S123)) (a1 : Int) : Option (Int × (List (S123))) := laws_markActS.l0 k l0 a1 0
theorem laws_markActS.mono_l : ∀ k, (∀ y0 y1 y2, LeO (laws_markActS.l0 k y0 y1 y2) (laws_markActS.l0 (k + 1) y0 y1 y2))
 | 0 => fun _ _ _ r h => by simp [laws_markActS.l0] at h
 | k + 1 => by
  have ih0 := laws_markActS.mono_l k
  ·intro y0 y1 y2
   unfold laws_markActS.l0
   repeat' first
   | (with_reducible exact ih0 _ _ _)
   | (with_reducible exact laws_markText.mono _ _)
   | (with_reducible exact LeO.refl _)
   | (with_reducible exact LeO.none _)
   | (with_reducible refine LeO.ite ?_ ?_)
   | (with_reducible refine LeO.bind ?_ (fun _ => ?_))
   | exact ih0 _ _ _
   | exact laws_markText.mono _ _
   | exact LeO.none _
   | refine LeO.ite ?_ ?_
   | refine LeO.bind ?_ (fun _ => ?_)
theorem laws_markActS.mono : ∀ a0 a1 k, LeO (laws_markActS.f k a0 a1) (laws_markActS.f (k + 1) a0 a1) := by
 intro a0 a1 k
 have ih0 := laws_markActS.mono_l k
 unfold laws_markActS.f
 repeat' first
   | (with_reducible exact ih0 _ _ _)
   | (with_reducible exact laws_markText.mono _ _)
   | (with_reducible exact LeO.refl _)
   | (with_reducible exact LeO.none _)
   | (with_reducible refine LeO.ite ?_ ?_)
   | (with_reducible refine LeO.bind ?_ (fun _ => ?_))
   | exact ih0 _ _ _
   | exact laws_markText.mono _ _
   | exact LeO.none _
   | refine LeO.ite ?_ ?_
   | refine LeO.bind ?_ (fun _ => ?_)
set_option maxHeartbeats 8000000 in
set_option maxRecDepth 100000 in
theorem laws_markActS.calls (k : Nat) (P0_ : Nat → Prop) (u9000_ : Value) (l0 : List (S123)) (a1 : Int) (r1 : Int) (r2 : List (S123)) (w0 w : World) (hB : Below w0.heap.size w0 w) (ho0 : Kd.R k123 123 w w0.heap.size P0_ u9000_ l0) (h : laws_markActS.f k l0 a1 = some (r1, r2)) :
  Calls Try.prog 20 #[u9000_, .int .i64 a1] w fun e w' => e = .returned (.int .i64 r1) ∧ Kd.R k123 123 w' w0.heap.size (fun k_ => (P0_ k_ ∨ w.heap.size ≤ k_)) u9000_ r2 ∧ Below w0.heap.size w0 w' ∧ Kept w w' (fun k_ => P0_ k_) := by
 have HO0 := Am (show Kd.R k123 123 w w0.heap.size (fun k_ => (P0_ k_ ∨ w.heap.size ≤ k_)) u9000_ l0 from Kd.R_mono ho0 (fun k_ hk => (.inl hk)))
 have HK := Am (Kept.refl w (fun k_ => P0_ k_))
 have HW0 := Am hB.size
 have HB := Am hB
 clear hB
 have H : (laws_markActS.l0 k l0 a1 0) = some (r1, r2) := h
 clear h
 have H' := Am H
 clear H
 go_enter Try.func20, Try.ntmps20
 go_wp2
 go_loopg [1, 5] k (fun kq v1 v5 w' => ∃ (x0_1 : List (S123)) (x1_1 : Int) (x5_1 : Int), v1 = .int .i64 x1_1 ∧ v5 = .int .i64 x5_1 ∧ Aside0 (laws_markActS.l0 kq x0_1 x1_1 x5_1 = some (r1, r2)) ∧ Aside0 (kq ≤ k) ∧ Aside0 (Kd.R k123 123 w' w0.heap.size (fun k_ => (P0_ k_ ∨ w.heap.size ≤ k_)) u9000_ x0_1) ∧ Aside0 (Kept w w' (fun k_ => P0_ k_)) ∧ Aside0 (Below w0.heap.size w0 w'))
 case atStart => exact ⟨(l0), (a1), (0), (by first | rfl | (simp; done) | (simp [*]; done)), (by first | rfl | (simp; done) | (simp [*]; done)), H', ⟨Nat.le_refl _⟩, ⟨by (with_reducible repeat (first | apply ra | apply rn | apply re)); exact HO0.out⟩, ⟨by repeat (first | (with_reducible first | exact HK.out | apply Kept.alloc | apply Kept.drewN | apply Kept.drew) | exact HK.out)⟩, ⟨by repeat (first | (with_reducible first | exact HB.out | apply ba | apply bn | apply be) | exact HB.out)⟩⟩
 case round =>
  clear H'
  try clear c2
  try clear p2
  obtain ⟨x0_1, x1_1, x5_1, rfl, rfl, HA, HK1, HO_0, HK, HB⟩ := hrel
  cases gk with
  | zero => exact absurd HA.out (by simp [laws_markActS.l0])
  | succ k1 =>
   have H := HA.out
   clear HA
   simp only [laws_markActS.l0] at H
   by_cases c3 : x5_1 < (x0_1.length : Int)
   ·rw [if_pos c3] at H
    have c3b0 : decide (x5_1 < (x0_1.length : Int)) = true := decide_eq_true c3
    clear c3
    by_cases c4 : 0 ≤ x5_1
    ·rw [if_pos c4] at H
     have c4b0 : decide (0 ≤ x5_1) = true := decide_eq_true c4
     clear c4
     obtain ⟨y235, hy235⟩ : ∃ y_ : List (S123), y_ = (x0_1.set (x5_1 : Int).toNat (⟨x1_1, (rd_T123 x0_1 x5_1).f1, (⟨(rd_T123 x0_1 x5_1).f2.f0, (rd_T123 x0_1 x5_1).f2.f1, (rd_T123 x0_1 x5_1).f2.f2, (rd_T123 x0_1 x5_1).f2.f3, (rd_T123 x0_1 x5_1).f2.f4, (rd_T123 x0_1 x5_1).f2.f5⟩ : S42), (rd_T123 x0_1 x5_1).f3⟩ : S123)) := ⟨_, rfl⟩
     replace H : ((some (y235.set (x5_1 : Int).toNat (⟨(rd_T123 y235 x5_1).f0, wrap64 (x1_1 + 1), (⟨(rd_T123 y235 x5_1).f2.f0, (rd_T123 y235 x5_1).f2.f1, (rd_T123 y235 x5_1).f2.f2, (rd_T123 y235 x5_1).f2.f3, (rd_T123 y235 x5_1).f2.f4, (rd_T123 y235 x5_1).f2.f5⟩ : S42), (rd_T123 y235 x5_1).f3⟩ : S123) : List (S123))).bind fun y236 => ((some (y236.set (x5_1 : Int).toNat (⟨(rd_T123 y236 x5_1).f0, (rd_T123 y236 x5_1).f1, (⟨wrap64 ((wrap64 (x1_1 + 1)) + 1), (rd_T123 y236 x5_1).f2.f1, (rd_T123 y236 x5_1).f2.f2, (rd_T123 y236 x5_1).f2.f3, (rd_T123 y236 x5_1).f2.f4, (rd_T123 y236 x5_1).f2.f5⟩ : S42), (rd_T123 y236 x5_1).f3⟩ : S123) : List (S123))).bind fun y237 => ((laws_markText.f k1 (wrap64 ((wrap64 ((wrap64 (x1_1 + 1)) + 1)) + 1))).bind fun t238 => ((some (y237.set (x5_1 : Int).toNat (⟨(rd_T123 y237 x5_1).f0, (rd_T123 y237 x5_1).f1, (⟨(rd_T123 y237 x5_1).f2.f0, t238, (rd_T123 y237 x5_1).f2.f2, (rd_T123 y237 x5_1).f2.f3, (rd_T123 y237 x5_1).f2.f4, (rd_T123 y237 x5_1).f2.f5⟩ : S42), (rd_T123 y237 x5_1).f3⟩ : S123) : List (S123))).bind fun y239 => ((laws_markText.f k1 (wrap64 ((wrap64 ((wrap64 ((wrap64 (x1_1 + 1)) + 1)) + 1)) + 1))).bind fun t240 => ((some (y239.set (x5_1 : Int).toNat (⟨(rd_T123 y239 x5_1).f0, (rd_T123 y239 x5_1).f1, (⟨(rd_T123 y239 x5_1).f2.f0, (rd_T123 y239 x5_1).f2.f1, t240, (rd_T123 y239 x5_1).f2.f3, (rd_T123 y239 x5_1).f2.f4, (rd_T123 y239 x5_1).f2.f5⟩ : S42), (rd_T123 y239 x5_1).f3⟩ : S123) : List (S123))).bind fun y241 => ((some (y241.set (x5_1 : Int).toNat (⟨(rd_T123 y241 x5_1).f0, (rd_T123 y241 x5_1).f1, (⟨(rd_T123 y241 x5_1).f2.f0, (rd_T123 y241 x5_1).f2.f1, (rd_T123 y241 x5_1).f2.f2, wrap64 ((wrap64 ((wrap64 ((wrap64 ((wrap64 (x1_1 + 1)) + 1)) + 1)) + 1)) + 1), (rd_T123 y241 x5_1).f2.f4, (rd_T123 y241 x5_1).f2.f5⟩ : S42), (rd_T123 y241 x5_1).f3⟩ : S123) : List (S123))).bind fun y242 => ((some (y242.set (x5_1 : Int).toNat (⟨(rd_T123 y242 x5_1).f0, (rd_T123 y242 x5_1).f1, (⟨(rd_T123 y242 x5_1).f2.f0, (rd_T123 y242 x5_1).f2.f1, (rd_T123 y242 x5_1).f2.f2, (rd_T123 y242 x5_1).f2.f3, wrap64 ((wrap64 ((wrap64 ((wrap64 ((wrap64 ((wrap64 (x1_1 + 1)) + 1)) + 1)) + 1)) + 1)) + 1), (rd_T123 y242 x5_1).f2.f5⟩ : S42), (rd_T123 y242 x5_1).f3⟩ : S123) : List (S123))).bind fun y243 => ((laws_markText.f k1 (wrap64 ((wrap64 ((wrap64 ((wrap64 ((wrap64 ((wrap64 ((wrap64 (x1_1 + 1)) + 1)) + 1)) + 1)) + 1)) + 1)) + 1))).bind fun t244 => ((some (y243.set (x5_1 : Int).toNat (⟨(rd_T123 y243 x5_1).f0, (rd_T123 y243 x5_1).f1, (⟨(rd_T123 y243 x5_1).f2.f0, (rd_T123 y243 x5_1).f2.f1, (rd_T123 y243 x5_1).f2.f2, (rd_T123 y243 x5_1).f2.f3, (rd_T123 y243 x5_1).f2.f4, t244⟩ : S42), (rd_T123 y243 x5_1).f3⟩ : S123) : List (S123))).bind fun y245 => (laws_markActS.l0 k1 (y245.set (x5_1 : Int).toNat (⟨(rd_T123 y245 x5_1).f0, (rd_T123 y245 x5_1).f1, (⟨(rd_T123 y245 x5_1).f2.f0, (rd_T123 y245 x5_1).f2.f1, (rd_T123 y245 x5_1).f2.f2, (rd_T123 y245 x5_1).f2.f3, (rd_T123 y245 x5_1).f2.f4, (rd_T123 y245 x5_1).f2.f5⟩ : S42), wrap64 ((wrap64 ((wrap64 ((wrap64 ((wrap64 ((wrap64 ((wrap64 ((wrap64 (x1_1 + 1)) + 1)) + 1)) + 1)) + 1)) + 1)) + 1)) + 1)⟩ : S123)) (wrap64 ((wrap64 ((wrap64 ((wrap64 ((wrap64 ((wrap64 ((wrap64 ((wrap64 ((wrap64 (x1_1 + 1)) + 1)) + 1)) + 1)) + 1)) + 1)) + 1)) + 1)) + 1)) (wrap64 (x5_1 + 1))))))))))))) = some (r1, r2) := by first | (rw [hy235]; with_reducible exact H) | (have H2_ := (Option.bind_some _ _).symm.trans H; rw [hy235]; with_reducible exact H2_) | (have H2_ := (Option.bind_some _ _).symm.trans H; with_reducible exact H2_) | with_reducible exact H | (rw [hy235]; exact H) | exact H
     have Ny235 := Am hy235
     clear hy235
     obtain ⟨y236, hy236⟩ : ∃ y_ : List (S123), y_ = (y235.set (x5_1 : Int).toNat (⟨(rd_T123 y235 x5_1).f0, wrap64 (x1_1 + 1), (⟨(rd_T123 y235 x5_1).f2.f0, (rd_T123 y235 x5_1).f2.f1, (rd_T123 y235 x5_1).f2.f2, (rd_T123 y235 x5_1).f2.f3, (rd_T123 y235 x5_1).f2.f4, (rd_T123 y235 x5_1).f2.f5⟩ : S42), (rd_T123 y235 x5_1).f3⟩ : S123)) := ⟨_, rfl⟩
     replace H : ((some (y236.set (x5_1 : Int).toNat (⟨(rd_T123 y236 x5_1).f0, (rd_T123 y236 x5_1).f1, (⟨wrap64 ((wrap64 (x1_1 + 1)) + 1), (rd_T123 y236 x5_1).f2.f1, (rd_T123 y236 x5_1).f2.f2, (rd_T123 y236 x5_1).f2.f3, (rd_T123 y236 x5_1).f2.f4, (rd_T123 y236 x5_1).f2.f5⟩ : S42), (rd_T123 y236 x5_1).f3⟩ : S123) : List (S123))).bind fun y237 => ((laws_markText.f k1 (wrap64 ((wrap64 ((wrap64 (x1_1 + 1)) + 1)) + 1))).bind fun t238 => ((some (y237.set (x5_1 : Int).toNat (⟨(rd_T123 y237 x5_1).f0, (rd_T123 y237 x5_1).f1, (⟨(rd_T123 y237 x5_1).f2.f0, t238, (rd_T123 y237 x5_1).f2.f2, (rd_T123 y237 x5_1).f2.f3, (rd_T123 y237 x5_1).f2.f4, (rd_T123 y237 x5_1).f2.f5⟩ : S42), (rd_T123 y237 x5_1).f3⟩ : S123) : List (S123))).bind fun y239 => ((laws_markText.f k1 (wrap64 ((wrap64 ((wrap64 ((wrap64 (x1_1 + 1)) + 1)) + 1)) + 1))).bind fun t240 => ((some (y239.set (x5_1 : Int).toNat (⟨(rd_T123 y239 x5_1).f0, (rd_T123 y239 x5_1).f1, (⟨(rd_T123 y239 x5_1).f2.f0, (rd_T123 y239 x5_1).f2.f1, t240, (rd_T123 y239 x5_1).f2.f3, (rd_T123 y239 x5_1).f2.f4, (rd_T123 y239 x5_1).f2.f5⟩ : S42), (rd_T123 y239 x5_1).f3⟩ : S123) : List (S123))).bind fun y241 => ((some (y241.set (x5_1 : Int).toNat (⟨(rd_T123 y241 x5_1).f0, (rd_T123 y241 x5_1).f1, (⟨(rd_T123 y241 x5_1).f2.f0, (rd_T123 y241 x5_1).f2.f1, (rd_T123 y241 x5_1).f2.f2, wrap64 ((wrap64 ((wrap64 ((wrap64 ((wrap64 (x1_1 + 1)) + 1)) + 1)) + 1)) + 1), (rd_T123 y241 x5_1).f2.f4, (rd_T123 y241 x5_1).f2.f5⟩ : S42), (rd_T123 y241 x5_1).f3⟩ : S123) : List (S123))).bind fun y242 => ((some (y242.set (x5_1 : Int).toNat (⟨(rd_T123 y242 x5_1).f0, (rd_T123 y242 x5_1).f1, (⟨(rd_T123 y242 x5_1).f2.f0, (rd_T123 y242 x5_1).f2.f1, (rd_T123 y242 x5_1).f2.f2, (rd_T123 y242 x5_1).f2.f3, wrap64 ((wrap64 ((wrap64 ((wrap64 ((wrap64 ((wrap64 (x1_1 + 1)) + 1)) + 1)) + 1)) + 1)) + 1), (rd_T123 y242 x5_1).f2.f5⟩ : S42), (rd_T123 y242 x5_1).f3⟩ : S123) : List (S123))).bind fun y243 => ((laws_markText.f k1 (wrap64 ((wrap64 ((wrap64 ((wrap64 ((wrap64 ((wrap64 ((wrap64 (x1_1 + 1)) + 1)) + 1)) + 1)) + 1)) + 1)) + 1))).bind fun t244 => ((some (y243.set (x5_1 : Int).toNat (⟨(rd_T123 y243 x5_1).f0, (rd_T123 y243 x5_1).f1, (⟨(rd_T123 y243 x5_1).f2.f0, (rd_T123 y243 x5_1).f2.f1, (rd_T123 y243 x5_1).f2.f2, (rd_T123 y243 x5_1).f2.f3, (rd_T123 y243 x5_1).f2.f4, t244⟩ : S42), (rd_T123 y243 x5_1).f3⟩ : S123) : List (S123))).bind fun y245 => (laws_markActS.l0 k1 (y245.set (x5_1 : Int).toNat (⟨(rd_T123 y245 x5_1).f0, (rd_T123 y245 x5_1).f1, (⟨(rd_T123 y245 x5_1).f2.f0, (rd_T123 y245 x5_1).f2.f1, (rd_T123 y245 x5_1).f2.f2, (rd_T123 y245 x5_1).f2.f3, (rd_T123 y245 x5_1).f2.f4, (rd_T123 y245 x5_1).f2.f5⟩ : S42), wrap64 ((wrap64 ((wrap64 ((wrap64 ((wrap64 ((wrap64 ((wrap64 ((wrap64 (x1_1 + 1)) + 1)) + 1)) + 1)) + 1)) + 1)) + 1)) + 1)⟩ : S123)) (wrap64 ((wrap64 ((wrap64 ((wrap64 ((wrap64 ((wrap64 ((wrap64 ((wrap64 ((wrap64 (x1_1 + 1)) + 1)) + 1)) + 1)) + 1)) + 1)) + 1)) + 1)) + 1)) (wrap64 (x5_1 + 1)))))))))))) = some (r1, r2) := by first | (rw [hy236]; with_reducible exact H) | (have H2_ := (Option.bind_some _ _).symm.trans H; rw [hy236]; with_reducible exact H2_) | (have H2_ := (Option.bind_some _ _).symm.trans H; with_reducible exact H2_) | with_reducible exact H | (rw [hy236]; exact H) | exact H
     have Ny236 := Am hy236
     clear hy236
     obtain ⟨y237, hy237⟩ : ∃ y_ : List (S123), y_ = (y236.set (x5_1 : Int).toNat (⟨(rd_T123 y236 x5_1).f0, (rd_T123 y236 x5_1).f1, (⟨wrap64 ((wrap64 (x1_1 + 1)) + 1), (rd_T123 y236 x5_1).f2.f1, (rd_T123 y236 x5_1).f2.f2, (rd_T123 y236 x5_1).f2.f3, (rd_T123 y236 x5_1).f2.f4, (rd_T123 y236 x5_1).f2.f5⟩ : S42), (rd_T123 y236 x5_1).f3⟩ : S123)) := ⟨_, rfl⟩
     replace H : ((laws_markText.f k1 (wrap64 ((wrap64 ((wrap64 (x1_1 + 1)) + 1)) + 1))).bind fun t238 => ((some (y237.set (x5_1 : Int).toNat (⟨(rd_T123 y237 x5_1).f0, (rd_T123 y237 x5_1).f1, (⟨(rd_T123 y237 x5_1).f2.f0, t238, (rd_T123 y237 x5_1).f2.f2, (rd_T123 y237 x5_1).f2.f3, (rd_T123 y237 x5_1).f2.f4, (rd_T123 y237 x5_1).f2.f5⟩ : S42), (rd_T123 y237 x5_1).f3⟩ : S123) : List (S123))).bind fun y239 => ((laws_markText.f k1 (wrap64 ((wrap64 ((wrap64 ((wrap64 (x1_1 + 1)) + 1)) + 1)) + 1))).bind fun t240 => ((some (y239.set (x5_1 : Int).toNat (⟨(rd_T123 y239 x5_1).f0, (rd_T123 y239 x5_1).f1, (⟨(rd_T123 y239 x5_1).f2.f0, (rd_T123 y239 x5_1).f2.f1, t240, (rd_T123 y239 x5_1).f2.f3, (rd_T123 y239 x5_1).f2.f4, (rd_T123 y239 x5_1).f2.f5⟩ : S42), (rd_T123 y239 x5_1).f3⟩ : S123) : List (S123))).bind fun y241 => ((some (y241.set (x5_1 : Int).toNat (⟨(rd_T123 y241 x5_1).f0, (rd_T123 y241 x5_1).f1, (⟨(rd_T123 y241 x5_1).f2.f0, (rd_T123 y241 x5_1).f2.f1, (rd_T123 y241 x5_1).f2.f2, wrap64 ((wrap64 ((wrap64 ((wrap64 ((wrap64 (x1_1 + 1)) + 1)) + 1)) + 1)) + 1), (rd_T123 y241 x5_1).f2.f4, (rd_T123 y241 x5_1).f2.f5⟩ : S42), (rd_T123 y241 x5_1).f3⟩ : S123) : List (S123))).bind fun y242 => ((some (y242.set (x5_1 : Int).toNat (⟨(rd_T123 y242 x5_1).f0, (rd_T123 y242 x5_1).f1, (⟨(rd_T123 y242 x5_1).f2.f0, (rd_T123 y242 x5_1).f2.f1, (rd_T123 y242 x5_1).f2.f2, (rd_T123 y242 x5_1).f2.f3, wrap64 ((wrap64 ((wrap64 ((wrap64 ((wrap64 ((wrap64 (x1_1 + 1)) + 1)) + 1)) + 1)) + 1)) + 1), (rd_T123 y242 x5_1).f2.f5⟩ : S42), (rd_T123 y242 x5_1).f3⟩ : S123) : List (S123))).bind fun y243 => ((laws_markText.f k1 (wrap64 ((wrap64 ((wrap64 ((wrap64 ((wrap64 ((wrap64 ((wrap64 (x1_1 + 1)) + 1)) + 1)) + 1)) + 1)) + 1)) + 1))).bind fun t244 => ((some (y243.set (x5_1 : Int).toNat (⟨(rd_T123 y243 x5_1).f0, (rd_T123 y243 x5_1).f1, (⟨(rd_T123 y243 x5_1).f2.f0, (rd_T123 y243 x5_1).f2.f1, (rd_T123 y243 x5_1).f2.f2, (rd_T123 y243 x5_1).f2.f3, (rd_T123 y243 x5_1).f2.f4, t244⟩ : S42), (rd_T123 y243 x5_1).f3⟩ : S123) : List (S123))).bind fun y245 => (laws_markActS.l0 k1 (y245.set (x5_1 : Int).toNat (⟨(rd_T123 y245 x5_1).f0, (rd_T123 y245 x5_1).f1, (⟨(rd_T123 y245 x5_1).f2.f0, (rd_T123 y245 x5_1).f2.f1, (rd_T123 y245 x5_1).f2.f2, (rd_T123 y245 x5_1).f2.f3, (rd_T123 y245 x5_1).f2.f4, (rd_T123 y245 x5_1).f2.f5⟩ : S42), wrap64 ((wrap64 ((wrap64 ((wrap64 ((wrap64 ((wrap64 ((wrap64 ((wrap64 (x1_1 + 1)) + 1)) + 1)) + 1)) + 1)) + 1)) + 1)) + 1)⟩ : S123)) (wrap64 ((wrap64 ((wrap64 ((wrap64 ((wrap64 ((wrap64 ((wrap64 ((wrap64 ((wrap64 (x1_1 + 1)) + 1)) + 1)) + 1)) + 1)) + 1)) + 1)) + 1)) + 1)) (wrap64 (x5_1 + 1))))))))))) = some (r1, r2) := by first | (rw [hy237]; with_reducible exact H) | (have H2_ := (Option.bind_some _ _).symm.trans H; rw [hy237]; with_reducible exact H2_) | (have H2_ := (Option.bind_some _ _).symm.trans H; with_reducible exact H2_) | with_reducible exact H | (rw [hy237]; exact H) | exact H
     have Ny237 := Am hy237
     clear hy237
     replace H := Option.bind_eq_some_iff.mp H
     obtain ⟨t238, A80, H⟩ := H
     replace H : ((some (y237.set (x5_1 : Int).toNat (⟨(rd_T123 y237 x5_1).f0, (rd_T123 y237 x5_1).f1, (⟨(rd_T123 y237 x5_1).f2.f0, t238, (rd_T123 y237 x5_1).f2.f2, (rd_T123 y237 x5_1).f2.f3, (rd_T123 y237 x5_1).f2.f4, (rd_T123 y237 x5_1).f2.f5⟩ : S42), (rd_T123 y237 x5_1).f3⟩ : S123) : List (S123))).bind fun y239 => ((laws_markText.f k1 (wrap64 ((wrap64 ((wrap64 ((wrap64 (x1_1 + 1)) + 1)) + 1)) + 1))).bind fun t240 => ((some (y239.set (x5_1 : Int).toNat (⟨(rd_T123 y239 x5_1).f0, (rd_T123 y239 x5_1).f1, (⟨(rd_T123 y239 x5_1).f2.f0, (rd_T123 y239 x5_1).f2.f1, t240, (rd_T123 y239 x5_1).f2.f3, (rd_T123 y239 x5_1).f2.f4, (rd_T123 y239 x5_1).f2.f5⟩ : S42), (rd_T123 y239 x5_1).f3⟩ : S123) : List (S123))).bind fun y241 => ((some (y241.set (x5_1 : Int).toNat (⟨(rd_T123 y241 x5_1).f0, (rd_T123 y241 x5_1).f1, (⟨(rd_T123 y241 x5_1).f2.f0, (rd_T123 y241 x5_1).f2.f1, (rd_T123 y241 x5_1).f2.f2, wrap64 ((wrap64 ((wrap64 ((wrap64 ((wrap64 (x1_1 + 1)) + 1)) + 1)) + 1)) + 1), (rd_T123 y241 x5_1).f2.f4, (rd_T123 y241 x5_1).f2.f5⟩ : S42), (rd_T123 y241 x5_1).f3⟩ : S123) : List (S123))).bind fun y242 => ((some (y242.set (x5_1 : Int).toNat (⟨(rd_T123 y242 x5_1).f0, (rd_T123 y242 x5_1).f1, (⟨(rd_T123 y242 x5_1).f2.f0, (rd_T123 y242 x5_1).f2.f1, (rd_T123 y242 x5_1).f2.f2, (rd_T123 y242 x5_1).f2.f3, wrap64 ((wrap64 ((wrap64 ((wrap64 ((wrap64 ((wrap64 (x1_1 + 1)) + 1)) + 1)) + 1)) + 1)) + 1), (rd_T123 y242 x5_1).f2.f5⟩ : S42), (rd_T123 y242 x5_1).f3⟩ : S123) : List (S123))).bind fun y243 => ((laws_markText.f k1 (wrap64 ((wrap64 ((wrap64 ((wrap64 ((wrap64 ((wrap64 ((wrap64 (x1_1 + 1)) + 1)) + 1)) + 1)) + 1)) + 1)) + 1))).bind fun t244 => ((some (y243.set (x5_1 : Int).toNat (⟨(rd_T123 y243 x5_1).f0, (rd_T123 y243 x5_1).f1, (⟨(rd_T123 y243 x5_1).f2.f0, (rd_T123 y243 x5_1).f2.f1, (rd_T123 y243 x5_1).f2.f2, (rd_T123 y243 x5_1).f2.f3, (rd_T123 y243 x5_1).f2.f4, t244⟩ : S42), (rd_T123 y243 x5_1).f3⟩ : S123) : List (S123))).bind fun y245 => (laws_markActS.l0 k1 (y245.set (x5_1 : Int).toNat (⟨(rd_T123 y245 x5_1).f0, (rd_T123 y245 x5_1).f1, (⟨(rd_T123 y245 x5_1).f2.f0, (rd_T123 y245 x5_1).f2.f1, (rd_T123 y245 x5_1).f2.f2, (rd_T123 y245 x5_1).f2.f3, (rd_T123 y245 x5_1).f2.f4, (rd_T123 y245 x5_1).f2.f5⟩ : S42), wrap64 ((wrap64 ((wrap64 ((wrap64 ((wrap64 ((wrap64 ((wrap64 ((wrap64 (x1_1 + 1)) + 1)) + 1)) + 1)) + 1)) + 1)) + 1)) + 1)⟩ : S123)) (wrap64 ((wrap64 ((wrap64 ((wrap64 ((wrap64 ((wrap64 ((wrap64 ((wrap64 ((wrap64 (x1_1 + 1)) + 1)) + 1)) + 1)) + 1)) + 1)) + 1)) + 1)) + 1)) (wrap64 (x5_1 + 1)))))))))) = some (r1, r2) := H
     have A8 := Am A80
     clear A80
     obtain ⟨y239, hy239⟩ : ∃ y_ : List (S123), y_ = (y237.set (x5_1 : Int).toNat (⟨(rd_T123 y237 x5_1).f0, (rd_T123 y237 x5_1).f1, (⟨(rd_T123 y237 x5_1).f2.f0, t238, (rd_T123 y237 x5_1).f2.f2, (rd_T123 y237 x5_1).f2.f3, (rd_T123 y237 x5_1).f2.f4, (rd_T123 y237 x5_1).f2.f5⟩ : S42), (rd_T123 y237 x5_1).f3⟩ : S123)) := ⟨_, rfl⟩
     replace H : ((laws_markText.f k1 (wrap64 ((wrap64 ((wrap64 ((wrap64 (x1_1 + 1)) + 1)) + 1)) + 1))).bind fun t240 => ((some (y239.set (x5_1 : Int).toNat (⟨(rd_T123 y239 x5_1).f0, (rd_T123 y239 x5_1).f1, (⟨(rd_T123 y239 x5_1).f2.f0, (rd_T123 y239 x5_1).f2.f1, t240, (rd_T123 y239 x5_1).f2.f3, (rd_T123 y239 x5_1).f2.f4, (rd_T123 y239 x5_1).f2.f5⟩ : S42), (rd_T123 y239 x5_1).f3⟩ : S123) : List (S123))).bind fun y241 => ((some (y241.set (x5_1 : Int).toNat (⟨(rd_T123 y241 x5_1).f0, (rd_T123 y241 x5_1).f1, (⟨(rd_T123 y241 x5_1).f2.f0, (rd_T123 y241 x5_1).f2.f1, (rd_T123 y241 x5_1).f2.f2, wrap64 ((wrap64 ((wrap64 ((wrap64 ((wrap64 (x1_1 + 1)) + 1)) + 1)) + 1)) + 1), (rd_T123 y241 x5_1).f2.f4, (rd_T123 y241 x5_1).f2.f5⟩ : S42), (rd_T123 y241 x5_1).f3⟩ : S123) : List (S123))).bind fun y242 => ((some (y242.set (x5_1 : Int).toNat (⟨(rd_T123 y242 x5_1).f0, (rd_T123 y242 x5_1).f1, (⟨(rd_T123 y242 x5_1).f2.f0, (rd_T123 y242 x5_1).f2.f1, (rd_T123 y242 x5_1).f2.f2, (rd_T123 y242 x5_1).f2.f3, wrap64 ((wrap64 ((wrap64 ((wrap64 ((wrap64 ((wrap64 (x1_1 + 1)) + 1)) + 1)) + 1)) + 1)) + 1), (rd_T123 y242 x5_1).f2.f5⟩ : S42), (rd_T123 y242 x5_1).f3⟩ : S123) : List (S123))).bind fun y243 => ((laws_markText.f k1 (wrap64 ((wrap64 ((wrap64 ((wrap64 ((wrap64 ((wrap64 ((wrap64 (x1_1 + 1)) + 1)) + 1)) + 1)) + 1)) + 1)) + 1))).bind fun t244 => ((some (y243.set (x5_1 : Int).toNat (⟨(rd_T123 y243 x5_1).f0, (rd_T123 y243 x5_1).f1, (⟨(rd_T123 y243 x5_1).f2.f0, (rd_T123 y243 x5_1).f2.f1, (rd_T123 y243 x5_1).f2.f2, (rd_T123 y243 x5_1).f2.f3, (rd_T123 y243 x5_1).f2.f4, t244⟩ : S42), (rd_T123 y243 x5_1).f3⟩ : S123) : List (S123))).bind fun y245 => (laws_markActS.l0 k1 (y245.set (x5_1 : Int).toNat (⟨(rd_T123 y245 x5_1).f0, (rd_T123 y245 x5_1).f1, (⟨(rd_T123 y245 x5_1).f2.f0, (rd_T123 y245 x5_1).f2.f1, (rd_T123 y245 x5_1).f2.f2, (rd_T123 y245 x5_1).f2.f3, (rd_T123 y245 x5_1).f2.f4, (rd_T123 y245 x5_1).f2.f5⟩ : S42), wrap64 ((wrap64 ((wrap64 ((wrap64 ((wrap64 ((wrap64 ((wrap64 ((wrap64 (x1_1 + 1)) + 1)) + 1)) + 1)) + 1)) + 1)) + 1)) + 1)⟩ : S123)) (wrap64 ((wrap64 ((wrap64 ((wrap64 ((wrap64 ((wrap64 ((wrap64 ((wrap64 ((wrap64 (x1_1 + 1)) + 1)) + 1)) + 1)) + 1)) + 1)) + 1)) + 1)) + 1)) (wrap64 (x5_1 + 1))))))))) = some (r1, r2) := by first | (rw [hy239]; with_reducible exact H) | (have H2_ := (Option.bind_some _ _).symm.trans H; rw [hy239]; with_reducible exact H2_) | (have H2_ := (Option.bind_some _ _).symm.trans H; with_reducible exact H2_) | with_reducible exact H | (rw [hy239]; exact H) | exact H
     have Ny239 := Am hy239
     clear hy239
     replace H := Option.bind_eq_some_iff.mp H
     obtain ⟨t240, A100, H⟩ := H
     replace H : ((some (y239.set (x5_1 : Int).toNat (⟨(rd_T123 y239 x5_1).f0, (rd_T123 y239 x5_1).f1, (⟨(rd_T123 y239 x5_1).f2.f0, (rd_T123 y239 x5_1).f2.f1, t240, (rd_T123 y239 x5_1).f2.f3, (rd_T123 y239 x5_1).f2.f4, (rd_T123 y239 x5_1).f2.f5⟩ : S42), (rd_T123 y239 x5_1).f3⟩ : S123) : List (S123))).bind fun y241 => ((some (y241.set (x5_1 : Int).toNat (⟨(rd_T123 y241 x5_1).f0, (rd_T123 y241 x5_1).f1, (⟨(rd_T123 y241 x5_1).f2.f0, (rd_T123 y241 x5_1).f2.f1, (rd_T123 y241 x5_1).f2.f2, wrap64 ((wrap64 ((wrap64 ((wrap64 ((wrap64 (x1_1 + 1)) + 1)) + 1)) + 1)) + 1), (rd_T123 y241 x5_1).f2.f4, (rd_T123 y241 x5_1).f2.f5⟩ : S42), (rd_T123 y241 x5_1).f3⟩ : S123) : List (S123))).bind fun y242 => ((some (y242.set (x5_1 : Int).toNat (⟨(rd_T123 y242 x5_1).f0, (rd_T123 y242 x5_1).f1, (⟨(rd_T123 y242 x5_1).f2.f0, (rd_T123 y242 x5_1).f2.f1, (rd_T123 y242 x5_1).f2.f2, (rd_T123 y242 x5_1).f2.f3, wrap64 ((wrap64 ((wrap64 ((wrap64 ((wrap64 ((wrap64 (x1_1 + 1)) + 1)) + 1)) + 1)) + 1)) + 1), (rd_T123 y242 x5_1).f2.f5⟩ : S42), (rd_T123 y242 x5_1).f3⟩ : S123) : List (S123))).bind fun y243 => ((laws_markText.f k1 (wrap64 ((wrap64 ((wrap64 ((wrap64 ((wrap64 ((wrap64 ((wrap64 (x1_1 + 1)) + 1)) + 1)) + 1)) + 1)) + 1)) + 1))).bind fun t244 => ((some (y243.set (x5_1 : Int).toNat (⟨(rd_T123 y243 x5_1).f0, (rd_T123 y243 x5_1).f1, (⟨(rd_T123 y243 x5_1).f2.f0, (rd_T123 y243 x5_1).f2.f1, (rd_T123 y243 x5_1).f2.f2, (rd_T123 y243 x5_1).f2.f3, (rd_T123 y243 x5_1).f2.f4, t244⟩ : S42), (rd_T123 y243 x5_1).f3⟩ : S123) : List (S123))).bind fun y245 => (laws_markActS.l0 k1 (y245.set (x5_1 : Int).toNat (⟨(rd_T123 y245 x5_1).f0, (rd_T123 y245 x5_1).f1, (⟨(rd_T123 y245 x5_1).f2.f0, (rd_T123 y245 x5_1).f2.f1, (rd_T123 y245 x5_1).f2.f2, (rd_T123 y245 x5_1).f2.f3, (rd_T123 y245 x5_1).f2.f4, (rd_T123 y245 x5_1).f2.f5⟩ : S42), wrap64 ((wrap64 ((wrap64 ((wrap64 ((wrap64 ((wrap64 ((wrap64 ((wrap64 (x1_1 + 1)) + 1)) + 1)) + 1)) + 1)) + 1)) + 1)) + 1)⟩ : S123)) (wrap64 ((wrap64 ((wrap64 ((wrap64 ((wrap64 ((wrap64 ((wrap64 ((wrap64 ((wrap64 (x1_1 + 1)) + 1)) + 1)) + 1)) + 1)) + 1)) + 1)) + 1)) + 1)) (wrap64 (x5_1 + 1)))))))) = some (r1, r2) := H
     have A10 := Am A100
     clear A100
     obtain ⟨y241, hy241⟩ : ∃ y_ : List (S123), y_ = (y239.set (x5_1 : Int).toNat (⟨(rd_T123 y239 x5_1).f0, (rd_T123 y239 x5_1).f1, (⟨(rd_T123 y239 x5_1).f2.f0, (rd_T123 y239 x5_1).f2.f1, t240, (rd_T123 y239 x5_1).f2.f3, (rd_T123 y239 x5_1).f2.f4, (rd_T123 y239 x5_1).f2.f5⟩ : S42), (rd_T123 y239 x5_1).f3⟩ : S123)) := ⟨_, rfl⟩
     replace H : ((some (y241.set (x5_1 : Int).toNat (⟨(rd_T123 y241 x5_1).f0, (rd_T123 y241 x5_1).f1, (⟨(rd_T123 y241 x5_1).f2.f0, (rd_T123 y241 x5_1).f2.f1, (rd_T123 y241 x5_1).f2.f2, wrap64 ((wrap64 ((wrap64 ((wrap64 ((wrap64 (x1_1 + 1)) + 1)) + 1)) + 1)) + 1), (rd_T123 y241 x5_1).f2.f4, (rd_T123 y241 x5_1).f2.f5⟩ : S42), (rd_T123 y241 x5_1).f3⟩ : S123) : List (S123))).bind fun y242 => ((some (y242.set (x5_1 : Int).toNat (⟨(rd_T123 y242 x5_1).f0, (rd_T123 y242 x5_1).f1, (⟨(rd_T123 y242 x5_1).f2.f0, (rd_T123 y242 x5_1).f2.f1, (rd_T123 y242 x5_1).f2.f2, (rd_T123 y242 x5_1).f2.f3, wrap64 ((wrap64 ((wrap64 ((wrap64 ((wrap64 ((wrap64 (x1_1 + 1)) + 1)) + 1)) + 1)) + 1)) + 1), (rd_T123 y242 x5_1).f2.f5⟩ : S42), (rd_T123 y242 x5_1).f3⟩ : S123) : List (S123))).bind fun y243 => ((laws_markText.f k1 (wrap64 ((wrap64 ((wrap64 ((wrap64 ((wrap64 ((wrap64 ((wrap64 (x1_1 + 1)) + 1)) + 1)) + 1)) + 1)) + 1)) + 1))).bind fun t244 => ((some (y243.set (x5_1 : Int).toNat (⟨(rd_T123 y243 x5_1).f0, (rd_T123 y243 x5_1).f1, (⟨(rd_T123 y243 x5_1).f2.f0, (rd_T123 y243 x5_1).f2.f1, (rd_T123 y243 x5_1).f2.f2, (rd_T123 y243 x5_1).f2.f3, (rd_T123 y243 x5_1).f2.f4, t244⟩ : S42), (rd_T123 y243 x5_1).f3⟩ : S123) : List (S123))).bind fun y245 => (laws_markActS.l0 k1 (y245.set (x5_1 : Int).toNat (⟨(rd_T123 y245 x5_1).f0, (rd_T123 y245 x5_1).f1, (⟨(rd_T123 y245 x5_1).f2.f0, (rd_T123 y245 x5_1).f2.f1, (rd_T123 y245 x5_1).f2.f2, (rd_T123 y245 x5_1).f2.f3, (rd_T123 y245 x5_1).f2.f4, (rd_T123 y245 x5_1).f2.f5⟩ : S42), wrap64 ((wrap64 ((wrap64 ((wrap64 ((wrap64 ((wrap64 ((wrap64 ((wrap64 (x1_1 + 1)) + 1)) + 1)) + 1)) + 1)) + 1)) + 1)) + 1)⟩ : S123)) (wrap64 ((wrap64 ((wrap64 ((wrap64 ((wrap64 ((wrap64 ((wrap64 ((wrap64 ((wrap64 (x1_1 + 1)) + 1)) + 1)) + 1)) + 1)) + 1)) + 1)) + 1)) + 1)) (wrap64 (x5_1 + 1))))))) = some (r1, r2) := by first | (rw [hy241]; with_reducible exact H) | (have H2_ := (Option.bind_some _ _).symm.trans H; rw [hy241]; with_reducible exact H2_) | (have H2_ := (Option.bind_some _ _).symm.trans H; with_reducible exact H2_) | with_reducible exact H | (rw [hy241]; exact H) | exact H
     have Ny241 := Am hy241
     clear hy241
     obtain ⟨y242, hy242⟩ : ∃ y_ : List (S123), y_ = (y241.set (x5_1 : Int).toNat (⟨(rd_T123 y241 x5_1).f0, (rd_T123 y241 x5_1).f1, (⟨(rd_T123 y241 x5_1).f2.f0, (rd_T123 y241 x5_1).f2.f1, (rd_T123 y241 x5_1).f2.f2, wrap64 ((wrap64 ((wrap64 ((wrap64 ((wrap64 (x1_1 + 1)) + 1)) + 1)) + 1)) + 1), (rd_T123 y241 x5_1).f2.f4, (rd_T123 y241 x5_1).f2.f5⟩ : S42), (rd_T123 y241 x5_1).f3⟩ : S123)) := ⟨_, rfl⟩
     replace H : ((some (y242.set (x5_1 : Int).toNat (⟨(rd_T123 y242 x5_1).f0, (rd_T123 y242 x5_1).f1, (⟨(rd_T123 y242 x5_1).f2.f0, (rd_T123 y242 x5_1).f2.f1, (rd_T123 y242 x5_1).f2.f2, (rd_T123 y242 x5_1).f2.f3, wrap64 ((wrap64 ((wrap64 ((wrap64 ((wrap64 ((wrap64 (x1_1 + 1)) + 1)) + 1)) + 1)) + 1)) + 1), (rd_T123 y242 x5_1).f2.f5⟩ : S42), (rd_T123 y242 x5_1).f3⟩ : S123) : List (S123))).bind fun y243 => ((laws_markText.f k1 (wrap64 ((wrap64 ((wrap64 ((wrap64 ((wrap64 ((wrap64 ((wrap64 (x1_1 + 1)) + 1)) + 1)) + 1)) + 1)) + 1)) + 1))).bind fun t244 => ((some (y243.set (x5_1 : Int).toNat (⟨(rd_T123 y243 x5_1).f0, (rd_T123 y243 x5_1).f1, (⟨(rd_T123 y243 x5_1).f2.f0, (rd_T123 y243 x5_1).f2.f1, (rd_T123 y243 x5_1).f2.f2, (rd_T123 y243 x5_1).f2.f3, (rd_T123 y243 x5_1).f2.f4, t244⟩ : S42), (rd_T123 y243 x5_1).f3⟩ : S123) : List (S123))).bind fun y245 => (laws_markActS.l0 k1 (y245.set (x5_1 : Int).toNat (⟨(rd_T123 y245 x5_1).f0, (rd_T123 y245 x5_1).f1, (⟨(rd_T123 y245 x5_1).f2.f0, (rd_T123 y245 x5_1).f2.f1, (rd_T123 y245 x5_1).f2.f2, (rd_T123 y245 x5_1).f2.f3, (rd_T123 y245 x5_1).f2.f4, (rd_T123 y245 x5_1).f2.f5⟩ : S42), wrap64 ((wrap64 ((wrap64 ((wrap64 ((wrap64 ((wrap64 ((wrap64 ((wrap64 (x1_1 + 1)) + 1)) + 1)) + 1)) + 1)) + 1)) + 1)) + 1)⟩ : S123)) (wrap64 ((wrap64 ((wrap64 ((wrap64 ((wrap64 ((wrap64 ((wrap64 ((wrap64 ((wrap64 (x1_1 + 1)) + 1)) + 1)) + 1)) + 1)) + 1)) + 1)) + 1)) + 1)) (wrap64 (x5_1 + 1)))))) = some (r1, r2) := by first | (rw [hy242]; with_reducible exact H) | (have H2_ := (Option.bind_some _ _).symm.trans H; rw [hy242]; with_reducible exact H2_) | (have H2_ := (Option.bind_some _ _).symm.trans H; with_reducible exact H2_) | with_reducible exact H | (rw [hy242]; exact H) | exact H
     have Ny242 := Am hy242
     clear hy242
     obtain ⟨y243, hy243⟩ : ∃ y_ : List (S123), y_ = (y242.set (x5_1 : Int).toNat (⟨(rd_T123 y242 x5_1).f0, (rd_T123 y242 x5_1).f1, (⟨(rd_T123 y242 x5_1).f2.f0, (rd_T123 y242 x5_1).f2.f1, (rd_T123 y242 x5_1).f2.f2, (rd_T123 y242 x5_1).f2.f3, wrap64 ((wrap64 ((wrap64 ((wrap64 ((wrap64 ((wrap64 (x1_1 + 1)) + 1)) + 1)) + 1)) + 1)) + 1), (rd_T123 y242 x5_1).f2.f5⟩ : S42), (rd_T123 y242 x5_1).f3⟩ : S123)) := ⟨_, rfl⟩
     replace H : ((laws_markText.f k1 (wrap64 ((wrap64 ((wrap64 ((wrap64 ((wrap64 ((wrap64 ((wrap64 (x1_1 + 1)) + 1)) + 1)) + 1)) + 1)) + 1)) + 1))).bind fun t244 => ((some (y243.set (x5_1 : Int).toNat (⟨(rd_T123 y243 x5_1).f0, (rd_T123 y243 x5_1).f1, (⟨(rd_T123 y243 x5_1).f2.f0, (rd_T123 y243 x5_1).f2.f1, (rd_T123 y243 x5_1).f2.f2, (rd_T123 y243 x5_1).f2.f3, (rd_T123 y243 x5_1).f2.f4, t244⟩ : S42), (rd_T123 y243 x5_1).f3⟩ : S123) : List (S123))).bind fun y245 => (laws_markActS.l0 k1 (y245.set (x5_1 : Int).toNat (⟨(rd_T123 y245 x5_1).f0, (rd_T123 y245 x5_1).f1, (⟨(rd_T123 y245 x5_1).f2.f0, (rd_T123 y245 x5_1).f2.f1, (rd_T123 y245 x5_1).f2.f2, (rd_T123 y245 x5_1).f2.f3, (rd_T123 y245 x5_1).f2.f4, (rd_T123 y245 x5_1).f2.f5⟩ : S42), wrap64 ((wrap64 ((wrap64 ((wrap64 ((wrap64 ((wrap64 ((wrap64 ((wrap64 (x1_1 + 1)) + 1)) + 1)) + 1)) + 1)) + 1)) + 1)) + 1)⟩ : S123)) (wrap64 ((wrap64 ((wrap64 ((wrap64 ((wrap64 ((wrap64 ((wrap64 ((wrap64 ((wrap64 (x1_1 + 1)) + 1)) + 1)) + 1)) + 1)) + 1)) + 1)) + 1)) + 1)) (wrap64 (x5_1 + 1))))) = some (r1, r2) := by first | (rw [hy243]; with_reducible exact H) | (have H2_ := (Option.bind_some _ _).symm.trans H; rw [hy243]; with_reducible exact H2_) | (have H2_ := (Option.bind_some _ _).symm.trans H; with_reducible exact H2_) | with_reducible exact H | (rw [hy243]; exact H) | exact H
     have Ny243 := Am hy243
     clear hy243
     replace H := Option.bind_eq_some_iff.mp H
     obtain ⟨t244, A140, H⟩ := H
     replace H : ((some (y243.set (x5_1 : Int).toNat (⟨(rd_T123 y243 x5_1).f0, (rd_T123 y243 x5_1).f1, (⟨(rd_T123 y243 x5_1).f2.f0, (rd_T123 y243 x5_1).f2.f1, (rd_T123 y243 x5_1).f2.f2, (rd_T123 y243 x5_1).f2.f3, (rd_T123 y243 x5_1).f2.f4, t244⟩ : S42), (rd_T123 y243 x5_1).f3⟩ : S123) : List (S123))).bind fun y245 => (laws_markActS.l0 k1 (y245.set (x5_1 : Int).toNat (⟨(rd_T123 y245 x5_1).f0, (rd_T123 y245 x5_1).f1, (⟨(rd_T123 y245 x5_1).f2.f0, (rd_T123 y245 x5_1).f2.f1, (rd_T123 y245 x5_1).f2.f2, (rd_T123 y245 x5_1).f2.f3, (rd_T123 y245 x5_1).f2.f4, (rd_T123 y245 x5_1).f2.f5⟩ : S42), wrap64 ((wrap64 ((wrap64 ((wrap64 ((wrap64 ((wrap64 ((wrap64 ((wrap64 (x1_1 + 1)) + 1)) + 1)) + 1)) + 1)) + 1)) + 1)) + 1)⟩ : S123)) (wrap64 ((wrap64 ((wrap64 ((wrap64 ((wrap64 ((wrap64 ((wrap64 ((wrap64 ((wrap64 (x1_1 + 1)) + 1)) + 1)) + 1)) + 1)) + 1)) + 1)) + 1)) + 1)) (wrap64 (x5_1 + 1)))) = some (r1, r2) := H
     have A14 := Am A140
     clear A140
     obtain ⟨y245, hy245⟩ : ∃ y_ : List (S123), y_ = (y243.set (x5_1 : Int).toNat (⟨(rd_T123 y243 x5_1).f0, (rd_T123 y243 x5_1).f1, (⟨(rd_T123 y243 x5_1).f2.f0, (rd_T123 y243 x5_1).f2.f1, (rd_T123 y243 x5_1).f2.f2, (rd_T123 y243 x5_1).f2.f3, (rd_T123 y243 x5_1).f2.f4, t244⟩ : S42), (rd_T123 y243 x5_1).f3⟩ : S123)) := ⟨_, rfl⟩
     replace H : (laws_markActS.l0 k1 (y245.set (x5_1 : Int).toNat (⟨(rd_T123 y245 x5_1).f0, (rd_T123 y245 x5_1).f1, (⟨(rd_T123 y245 x5_1).f2.f0, (rd_T123 y245 x5_1).f2.f1, (rd_T123 y245 x5_1).f2.f2, (rd_T123 y245 x5_1).f2.f3, (rd_T123 y245 x5_1).f2.f4, (rd_T123 y245 x5_1).f2.f5⟩ : S42), wrap64 ((wrap64 ((wrap64 ((wrap64 ((wrap64 ((wrap64 ((wrap64 ((wrap64 (x1_1 + 1)) + 1)) + 1)) + 1)) + 1)) + 1)) + 1)) + 1)⟩ : S123)) (wrap64 ((wrap64 ((wrap64 ((wrap64 ((wrap64 ((wrap64 ((wrap64 ((wrap64 ((wrap64 (x1_1 + 1)) + 1)) + 1)) + 1)) + 1)) + 1)) + 1)) + 1)) + 1)) (wrap64 (x5_1 + 1))) = some (r1, r2) := by first | (rw [hy245]; with_reducible exact H) | (have H2_ := (Option.bind_some _ _).symm.trans H; rw [hy245]; with_reducible exact H2_) | (have H2_ := (Option.bind_some _ _).symm.trans H; with_reducible exact H2_) | with_reducible exact H | (rw [hy245]; exact H) | exact H
     have Ny245 := Am hy245
     clear hy245
     obtain ⟨y246, hy246⟩ : ∃ y_ : List (S123), y_ = (y245.set (x5_1 : Int).toNat (⟨(rd_T123 y245 x5_1).f0, (rd_T123 y245 x5_1).f1, (⟨(rd_T123 y245 x5_1).f2.f0, (rd_T123 y245 x5_1).f2.f1, (rd_T123 y245 x5_1).f2.f2, (rd_T123 y245 x5_1).f2.f3, (rd_T123 y245 x5_1).f2.f4, (rd_T123 y245 x5_1).f2.f5⟩ : S42), wrap64 ((wrap64 ((wrap64 ((wrap64 ((wrap64 ((wrap64 ((wrap64 ((wrap64 (x1_1 + 1)) + 1)) + 1)) + 1)) + 1)) + 1)) + 1)) + 1)⟩ : S123)) := ⟨_, rfl⟩
     replace H : (laws_markActS.l0 k1 y246 (wrap64 ((wrap64 ((wrap64 ((wrap64 ((wrap64 ((wrap64 ((wrap64 ((wrap64 ((wrap64 (x1_1 + 1)) + 1)) + 1)) + 1)) + 1)) + 1)) + 1)) + 1)) + 1)) (wrap64 (x5_1 + 1))) = some (r1, r2) := by first | (rw [hy246]; with_reducible exact H) | (have H2_ := (Option.bind_some _ _).symm.trans H; rw [hy246]; with_reducible exact H2_) | (have H2_ := (Option.bind_some _ _).symm.trans H; with_reducible exact H2_) | with_reducible exact H | (rw [hy246]; exact H) | exact H
     have Ny246 := Am hy246
     clear hy246
     have H' := Am H
     clear H
     obtain ⟨Ao17, co17, eo17⟩ := Kd.R_slice HO_0.out
     subst eo17
     have p5 : 0 ≤ (x5_1 : Int) := of_decide_eq_true (by first | (with_reducible assumption) | assumption)
     have q5 : (x5_1 : Int) < ((x0_1.length : Int) : Int) := of_decide_eq_true (by first | (with_reducible assumption) | assumption)
     obtain ⟨go5, co5, eo5, gb5, gl5, cl5, HG5⟩ := Kd.R_form HO_0.out (by omega)
     (first | cases eo5 | (injection eo5 with ea_ en_ ec_; (first | subst ea_ | (injection ea_ with ea_; subst ea_)); subst ec_; clear en_))
     have GB5 := Am gb5
     have GG5 := Am HG5
     clear gb5 gl5 HG5
     have HMgo5 := Am (show (P0_ go5 ∨ w.heap.size ≤ go5) from (HO_0.out.1 _ rfl))
     obtain ⟨ce5, hcl5, hM5, hcc5, hfr5⟩ := Kd.R_elem HO_0.out z123 (x5_1 : Int) p5 q5
     obtain rfl := k123_openM hM5
     have hx5_0 : wr.cell? ⟨go5, (x5_1 : Int).toNat * 9, none⟩ = some (.int .i64 ((rd_T123 x0_1 x5_1).f0)) := hcc5 0 _ rfl
     have hx5_1 : wr.cell? ⟨go5, (x5_1 : Int).toNat * 9 + 1, none⟩ = some (.int .i64 ((rd_T123 x0_1 x5_1).f1)) := hcc5 1 _ rfl
     have hx5_2 : wr.cell? ⟨go5, (x5_1 : Int).toNat * 9 + 2, none⟩ = some (.int .i64 ((rd_T123 x0_1 x5_1).f2.f0)) := hcc5 2 _ rfl
     have hx5_3 : wr.cell? ⟨go5, (x5_1 : Int).toNat * 9 + 3, none⟩ = some (.string ((rd_T123 x0_1 x5_1).f2.f1)) := hcc5 3 _ rfl
     have hx5_4 : wr.cell? ⟨go5, (x5_1 : Int).toNat * 9 + 4, none⟩ = some (.string ((rd_T123 x0_1 x5_1).f2.f2)) := hcc5 4 _ rfl
     have hx5_5 : wr.cell? ⟨go5, (x5_1 : Int).toNat * 9 + 5, none⟩ = some (.int .i64 ((rd_T123 x0_1 x5_1).f2.f3)) := hcc5 5 _ rfl
     have hx5_6 : wr.cell? ⟨go5, (x5_1 : Int).toNat * 9 + 6, none⟩ = some (.int .i64 ((rd_T123 x0_1 x5_1).f2.f4)) := hcc5 6 _ rfl
     have hx5_7 : wr.cell? ⟨go5, (x5_1 : Int).toNat * 9 + 7, none⟩ = some (.string ((rd_T123 x0_1 x5_1).f2.f5)) := hcc5 7 _ rfl
     have hx5_8 : wr.cell? ⟨go5, (x5_1 : Int).toNat * 9 + 8, none⟩ = some (.int .i64 ((rd_T123 x0_1 x5_1).f3)) := hcc5 8 _ rfl
     have hf5_0 : wr.frozen? ⟨go5, (x5_1 : Int).toNat * 9, none⟩ = false := hfr5 0
     have hf5_1 : wr.frozen? ⟨go5, (x5_1 : Int).toNat * 9 + 1, none⟩ = false := hfr5 1
     have hf5_2 : wr.frozen? ⟨go5, (x5_1 : Int).toNat * 9 + 2, none⟩ = false := hfr5 2
     have hf5_3 : wr.frozen? ⟨go5, (x5_1 : Int).toNat * 9 + 3, none⟩ = false := hfr5 3
     have hf5_4 : wr.frozen? ⟨go5, (x5_1 : Int).toNat * 9 + 4, none⟩ = false := hfr5 4
     have hf5_5 : wr.frozen? ⟨go5, (x5_1 : Int).toNat * 9 + 5, none⟩ = false := hfr5 5
     have hf5_6 : wr.frozen? ⟨go5, (x5_1 : Int).toNat * 9 + 6, none⟩ = false := hfr5 6
     have hf5_7 : wr.frozen? ⟨go5, (x5_1 : Int).toNat * 9 + 7, none⟩ = false := hfr5 7
     have hf5_8 : wr.frozen? ⟨go5, (x5_1 : Int).toNat * 9 + 8, none⟩ = false := hfr5 8
     clear hcl5 hcc5 hfr5 hM5
     replace p5 := eq_true p5
     replace q5 := eq_true q5
     have HX18 := Am (show Kd.R k123 123 wr w0.heap.size (fun k_ => (P0_ k_ ∨ w.heap.size ≤ k_)) (.slice (some ⟨go5, 0, none⟩) x0_1.length co17) x0_1 from (by (with_reducible repeat (first | apply ra | apply rn | apply re)); exact HO_0.out))
     obtain ⟨ce18, hcl18, hM18, hcc18, hfr18⟩ := Kd.R_elem HX18.out z123 (x5_1 : Int) (of_decide_eq_true (by first | (with_reducible assumption) | assumption)) (by have h_ : (x5_1 : Int) < ((x0_1.length : Int) : Int) := of_decide_eq_true (by first | (with_reducible assumption) | assumption); first | exact h_ | (have e_ := (Kd.R_reads' HO_0.out).1; omega) | simpa using h_)
     obtain rfl := k123_openM hM18
     have HP18 := Kd.R_seg HX18.out (x5_1 : Int) (of_decide_eq_true (by first | (with_reducible assumption) | assumption)) (by have h_ : (x5_1 : Int) < ((x0_1.length : Int) : Int) := of_decide_eq_true (by first | (with_reducible assumption) | assumption); first | exact h_ | (have e_ := (Kd.R_reads' HO_0.out).1; omega) | simpa using h_) (seg := [.int .i64 x1_1]) (j := 0) hcl18 hcc18 (show 1 ≤ 9 from by decide) (x' := (⟨x1_1, (rd_T123 x0_1 x5_1).f1, (⟨(rd_T123 x0_1 x5_1).f2.f0, (rd_T123 x0_1 x5_1).f2.f1, (rd_T123 x0_1 x5_1).f2.f2, (rd_T123 x0_1 x5_1).f2.f3, (rd_T123 x0_1 x5_1).f2.f4, (rd_T123 x0_1 x5_1).f2.f5⟩ : S42), (rd_T123 x0_1 x5_1).f3⟩ : S123)) (k123_mkM _ _ _ (⟨x1_1, (rd_T123 x0_1 x5_1).f1, (⟨(rd_T123 x0_1 x5_1).f2.f0, (rd_T123 x0_1 x5_1).f2.f1, (rd_T123 x0_1 x5_1).f2.f2, (rd_T123 x0_1 x5_1).f2.f3, (rd_T123 x0_1 x5_1).f2.f4, (rd_T123 x0_1 x5_1).f2.f5⟩ : S42), (rd_T123 x0_1 x5_1).f3⟩ : S123) ) (fun _ hk => hk)
     have hx18_0 := hcc18 0 _ rfl
     (try simp only [show (k123).sz = 9 from rfl, Nat.mul_one, Nat.add_zero] at hx18_0)
     have hf18_0 := hfr18 0
     (try simp only [show (k123).sz = 9 from rfl, Nat.mul_one, Nat.add_zero] at hf18_0)
     clear hcl18 hcc18 hfr18 hM18
     go_wp2_with (first | ((with_reducible refine gate_store (t := 3) (p := 16) rfl ?_); refine store_event (t := 3) (p := 16) (v := ?vo_w19) (w1 := (wr.setCell ⟨go5, (x5_1 : Int).toNat * 9, none⟩ (.int .i64 x1_1))) ?hg ?ho ?hn ?hr ?_; (case ho => rfl); (case hg => rfl); (case hn => rfl); (case hr => first | (go_simp; done) | (go_simp; rfl)); intro w19 hw; have hg : wr.grownBy w19 (some go5) := (by rw [hw]; exact HP18.2); have hp_ : Kd.R k123 123 w19 w0.heap.size (fun k_ => (P0_ k_ ∨ w.heap.size ≤ k_)) (.slice (some ⟨go5, 0, none⟩) x0_1.length co17) y235 := (by rw [hw, Ny235.out]; exact HP18.1); clear HP18; replace HB := Am ((by rw [hw]; exact bs (HB.out) GB5.out : Below w0.heap.size w0 w19)); replace HK := Am (Kept.of_grown (S := (fun k_ => P0_ k_)) hg (by repeat (first | (with_reducible first | exact HK.out | apply Kept.alloc | apply Kept.drewN | apply Kept.drew) | exact HK.out)) (fun k_ e_ => (HO_0.out.1 k_ e_))); replace HO_0 := Am (hp_); clear hg hw hp_; have p6 : 0 ≤ (x5_1 : Int) := of_decide_eq_true (by first | (with_reducible assumption) | assumption); have q6 : (x5_1 : Int) < ((x0_1.length : Int) : Int) := of_decide_eq_true (by first | (with_reducible assumption) | assumption); obtain ⟨ce6, hcl6, hM6, hcc6, hfr6⟩ := Kd.R_elem HO_0.out z123 (x5_1 : Int) p6 q6; obtain rfl := k123_openM hM6; have hx6_0 : w19.cell? ⟨go5, (x5_1 : Int).toNat * 9, none⟩ = some (.int .i64 ((rd_T123 y235 x5_1).f0)) := hcc6 0 _ rfl; have hx6_1 : w19.cell? ⟨go5, (x5_1 : Int).toNat * 9 + 1, none⟩ = some (.int .i64 ((rd_T123 y235 x5_1).f1)) := hcc6 1 _ rfl; have hx6_2 : w19.cell? ⟨go5, (x5_1 : Int).toNat * 9 + 2, none⟩ = some (.int .i64 ((rd_T123 y235 x5_1).f2.f0)) := hcc6 2 _ rfl; have hx6_3 : w19.cell? ⟨go5, (x5_1 : Int).toNat * 9 + 3, none⟩ = some (.string ((rd_T123 y235 x5_1).f2.f1)) := hcc6 3 _ rfl; have hx6_4 : w19.cell? ⟨go5, (x5_1 : Int).toNat * 9 + 4, none⟩ = some (.string ((rd_T123 y235 x5_1).f2.f2)) := hcc6 4 _ rfl; have hx6_5 : w19.cell? ⟨go5, (x5_1 : Int).toNat * 9 + 5, none⟩ = some (.int .i64 ((rd_T123 y235 x5_1).f2.f3)) := hcc6 5 _ rfl; have hx6_6 : w19.cell? ⟨go5, (x5_1 : Int).toNat * 9 + 6, none⟩ = some (.int .i64 ((rd_T123 y235 x5_1).f2.f4)) := hcc6 6 _ rfl; have hx6_7 : w19.cell? ⟨go5, (x5_1 : Int).toNat * 9 + 7, none⟩ = some (.string ((rd_T123 y235 x5_1).f2.f5)) := hcc6 7 _ rfl; have hx6_8 : w19.cell? ⟨go5, (x5_1 : Int).toNat * 9 + 8, none⟩ = some (.int .i64 ((rd_T123 y235 x5_1).f3)) := hcc6 8 _ rfl; have hf6_0 : w19.frozen? ⟨go5, (x5_1 : Int).toNat * 9, none⟩ = false := hfr6 0; have hf6_1 : w19.frozen? ⟨go5, (x5_1 : Int).toNat * 9 + 1, none⟩ = false := hfr6 1; have hf6_2 : w19.frozen? ⟨go5, (x5_1 : Int).toNat * 9 + 2, none⟩ = false := hfr6 2; have hf6_3 : w19.frozen? ⟨go5, (x5_1 : Int).toNat * 9 + 3, none⟩ = false := hfr6 3; have hf6_4 : w19.frozen? ⟨go5, (x5_1 : Int).toNat * 9 + 4, none⟩ = false := hfr6 4; have hf6_5 : w19.frozen? ⟨go5, (x5_1 : Int).toNat * 9 + 5, none⟩ = false := hfr6 5; have hf6_6 : w19.frozen? ⟨go5, (x5_1 : Int).toNat * 9 + 6, none⟩ = false := hfr6 6; have hf6_7 : w19.frozen? ⟨go5, (x5_1 : Int).toNat * 9 + 7, none⟩ = false := hfr6 7; have hf6_8 : w19.frozen? ⟨go5, (x5_1 : Int).toNat * 9 + 8, none⟩ = false := hfr6 8; clear hcl6 hcc6 hfr6 hM6; replace p6 := eq_true p6; replace q6 := eq_true q6; have HX20 := Am (show Kd.R k123 123 w19 w0.heap.size (fun k_ => (P0_ k_ ∨ w.heap.size ≤ k_)) (.slice (some ⟨go5, 0, none⟩) x0_1.length co17) y235 from (by (with_reducible repeat (first | apply ra | apply rn | apply re)); exact HO_0.out)); obtain ⟨ce20, hcl20, hM20, hcc20, hfr20⟩ := Kd.R_elem HX20.out z123 (x5_1 : Int) (of_decide_eq_true (by first | (with_reducible assumption) | assumption)) (by have h_ : (x5_1 : Int) < ((x0_1.length : Int) : Int) := of_decide_eq_true (by first | (with_reducible assumption) | assumption); first | exact h_ | (have e_ := (Kd.R_reads' HO_0.out).1; omega) | simpa using h_); obtain rfl := k123_openM hM20; have HP20 := Kd.R_seg HX20.out (x5_1 : Int) (of_decide_eq_true (by first | (with_reducible assumption) | assumption)) (by have h_ : (x5_1 : Int) < ((x0_1.length : Int) : Int) := of_decide_eq_true (by first | (with_reducible assumption) | assumption); first | exact h_ | (have e_ := (Kd.R_reads' HO_0.out).1; omega) | simpa using h_) (seg := [.int .i64 (wrap64 (x1_1 + 1))]) (j := 1) hcl20 hcc20 (show 2 ≤ 9 from by decide) (x' := (⟨(rd_T123 y235 x5_1).f0, wrap64 (x1_1 + 1), (⟨(rd_T123 y235 x5_1).f2.f0, (rd_T123 y235 x5_1).f2.f1, (rd_T123 y235 x5_1).f2.f2, (rd_T123 y235 x5_1).f2.f3, (rd_T123 y235 x5_1).f2.f4, (rd_T123 y235 x5_1).f2.f5⟩ : S42), (rd_T123 y235 x5_1).f3⟩ : S123)) (k123_mkM _ _ _ (⟨(rd_T123 y235 x5_1).f0, wrap64 (x1_1 + 1), (⟨(rd_T123 y235 x5_1).f2.f0, (rd_T123 y235 x5_1).f2.f1, (rd_T123 y235 x5_1).f2.f2, (rd_T123 y235 x5_1).f2.f3, (rd_T123 y235 x5_1).f2.f4, (rd_T123 y235 x5_1).f2.f5⟩ : S42), (rd_T123 y235 x5_1).f3⟩ : S123) ) (fun _ hk => hk); have hx20_1 := hcc20 1 _ rfl; (try simp only [show (k123).sz = 9 from rfl, Nat.mul_one, Nat.add_zero] at hx20_1); have hf20_1 := hfr20 1; (try simp only [show (k123).sz = 9 from rfl, Nat.mul_one, Nat.add_zero] at hf20_1); clear hcl20 hcc20 hfr20 hM20) | ((with_reducible refine gate_store (t := 3) (p := 23) rfl ?_); refine store_event (t := 3) (p := 23) (v := ?vo_w21) (w1 := (w19.setCell ⟨go5, (x5_1 : Int).toNat * 9 + 1, none⟩ (.int .i64 (wrap64 (x1_1 + 1))))) ?hg ?ho ?hn ?hr ?_; (case ho => rfl); (case hg => rfl); (case hn => rfl); (case hr => first | (go_simp; done) | (go_simp; rfl)); intro w21 hw; have hg : w19.grownBy w21 (some go5) := (by rw [hw]; exact HP20.2); have hp_ : Kd.R k123 123 w21 w0.heap.size (fun k_ => (P0_ k_ ∨ w.heap.size ≤ k_)) (.slice (some ⟨go5, 0, none⟩) x0_1.length co17) y236 := (by rw [hw, Ny236.out]; exact HP20.1); clear HP20; replace HB := Am ((by rw [hw]; exact bs (HB.out) GB5.out : Below w0.heap.size w0 w21)); replace HK := Am (Kept.of_grown (S := (fun k_ => P0_ k_)) hg (by repeat (first | (with_reducible first | exact HK.out | apply Kept.alloc | apply Kept.drewN | apply Kept.drew) | exact HK.out)) (fun k_ e_ => (HO_0.out.1 k_ e_))); replace HO_0 := Am (hp_); clear hg hw hp_; have p7 : 0 ≤ (x5_1 : Int) := of_decide_eq_true (by first | (with_reducible assumption) | assumption); have q7 : (x5_1 : Int) < ((x0_1.length : Int) : Int) := of_decide_eq_true (by first | (with_reducible assumption) | assumption); obtain ⟨ce7, hcl7, hM7, hcc7, hfr7⟩ := Kd.R_elem HO_0.out z123 (x5_1 : Int) p7 q7; obtain rfl := k123_openM hM7; have hx7_0 : w21.cell? ⟨go5, (x5_1 : Int).toNat * 9, none⟩ = some (.int .i64 ((rd_T123 y236 x5_1).f0)) := hcc7 0 _ rfl; have hx7_1 : w21.cell? ⟨go5, (x5_1 : Int).toNat * 9 + 1, none⟩ = some (.int .i64 ((rd_T123 y236 x5_1).f1)) := hcc7 1 _ rfl; have hx7_2 : w21.cell? ⟨go5, (x5_1 : Int).toNat * 9 + 2, none⟩ = some (.int .i64 ((rd_T123 y236 x5_1).f2.f0)) := hcc7 2 _ rfl; have hx7_3 : w21.cell? ⟨go5, (x5_1 : Int).toNat * 9 + 3, none⟩ = some (.string ((rd_T123 y236 x5_1).f2.f1)) := hcc7 3 _ rfl; have hx7_4 : w21.cell? ⟨go5, (x5_1 : Int).toNat * 9 + 4, none⟩ = some (.string ((rd_T123 y236 x5_1).f2.f2)) := hcc7 4 _ rfl; have hx7_5 : w21.cell? ⟨go5, (x5_1 : Int).toNat * 9 + 5, none⟩ = some (.int .i64 ((rd_T123 y236 x5_1).f2.f3)) := hcc7 5 _ rfl; have hx7_6 : w21.cell? ⟨go5, (x5_1 : Int).toNat * 9 + 6, none⟩ = some (.int .i64 ((rd_T123 y236 x5_1).f2.f4)) := hcc7 6 _ rfl; have hx7_7 : w21.cell? ⟨go5, (x5_1 : Int).toNat * 9 + 7, none⟩ = some (.string ((rd_T123 y236 x5_1).f2.f5)) := hcc7 7 _ rfl; have hx7_8 : w21.cell? ⟨go5, (x5_1 : Int).toNat * 9 + 8, none⟩ = some (.int .i64 ((rd_T123 y236 x5_1).f3)) := hcc7 8 _ rfl; have hf7_0 : w21.frozen? ⟨go5, (x5_1 : Int).toNat * 9, none⟩ = false := hfr7 0; have hf7_1 : w21.frozen? ⟨go5, (x5_1 : Int).toNat * 9 + 1, none⟩ = false := hfr7 1; have hf7_2 : w21.frozen? ⟨go5, (x5_1 : Int).toNat * 9 + 2, none⟩ = false := hfr7 2; have hf7_3 : w21.frozen? ⟨go5, (x5_1 : Int).toNat * 9 + 3, none⟩ = false := hfr7 3; have hf7_4 : w21.frozen? ⟨go5, (x5_1 : Int).toNat * 9 + 4, none⟩ = false := hfr7 4; have hf7_5 : w21.frozen? ⟨go5, (x5_1 : Int).toNat * 9 + 5, none⟩ = false := hfr7 5; have hf7_6 : w21.frozen? ⟨go5, (x5_1 : Int).toNat * 9 + 6, none⟩ = false := hfr7 6; have hf7_7 : w21.frozen? ⟨go5, (x5_1 : Int).toNat * 9 + 7, none⟩ = false := hfr7 7; have hf7_8 : w21.frozen? ⟨go5, (x5_1 : Int).toNat * 9 + 8, none⟩ = false := hfr7 8; clear hcl7 hcc7 hfr7 hM7; replace p7 := eq_true p7; replace q7 := eq_true q7; have HX22 := Am (show Kd.R k123 123 w21 w0.heap.size (fun k_ => (P0_ k_ ∨ w.heap.size ≤ k_)) (.slice (some ⟨go5, 0, none⟩) x0_1.length co17) y236 from (by (with_reducible repeat (first | apply ra | apply rn | apply re)); exact HO_0.out)); obtain ⟨ce22, hcl22, hM22, hcc22, hfr22⟩ := Kd.R_elem HX22.out z123 (x5_1 : Int) (of_decide_eq_true (by first | (with_reducible assumption) | assumption)) (by have h_ : (x5_1 : Int) < ((x0_1.length : Int) : Int) := of_decide_eq_true (by first | (with_reducible assumption) | assumption); first | exact h_ | (have e_ := (Kd.R_reads' HO_0.out).1; omega) | simpa using h_); obtain rfl := k123_openM hM22; have HP22 := Kd.R_seg HX22.out (x5_1 : Int) (of_decide_eq_true (by first | (with_reducible assumption) | assumption)) (by have h_ : (x5_1 : Int) < ((x0_1.length : Int) : Int) := of_decide_eq_true (by first | (with_reducible assumption) | assumption); first | exact h_ | (have e_ := (Kd.R_reads' HO_0.out).1; omega) | simpa using h_) (seg := [.int .i64 (wrap64 ((wrap64 (x1_1 + 1)) + 1))]) (j := 2) hcl22 hcc22 (show 3 ≤ 9 from by decide) (x' := (⟨(rd_T123 y236 x5_1).f0, (rd_T123 y236 x5_1).f1, (⟨wrap64 ((wrap64 (x1_1 + 1)) + 1), (rd_T123 y236 x5_1).f2.f1, (rd_T123 y236 x5_1).f2.f2, (rd_T123 y236 x5_1).f2.f3, (rd_T123 y236 x5_1).f2.f4, (rd_T123 y236 x5_1).f2.f5⟩ : S42), (rd_T123 y236 x5_1).f3⟩ : S123)) (k123_mkM _ _ _ (⟨(rd_T123 y236 x5_1).f0, (rd_T123 y236 x5_1).f1, (⟨wrap64 ((wrap64 (x1_1 + 1)) + 1), (rd_T123 y236 x5_1).f2.f1, (rd_T123 y236 x5_1).f2.f2, (rd_T123 y236 x5_1).f2.f3, (rd_T123 y236 x5_1).f2.f4, (rd_T123 y236 x5_1).f2.f5⟩ : S42), (rd_T123 y236 x5_1).f3⟩ : S123) ) (fun _ hk => hk); have hx22_2 := hcc22 2 _ rfl; (try simp only [show (k123).sz = 9 from rfl, Nat.mul_one, Nat.add_zero] at hx22_2); have hf22_2 := hfr22 2; (try simp only [show (k123).sz = 9 from rfl, Nat.mul_one, Nat.add_zero] at hf22_2); clear hcl22 hcc22 hfr22 hM22) | ((with_reducible refine gate_store (t := 3) (p := 31) rfl ?_); refine store_event (t := 3) (p := 31) (v := ?vo_w23) (w1 := (w21.setCell ⟨go5, (x5_1 : Int).toNat * 9 + 2, none⟩ (.int .i64 (wrap64 ((wrap64 (x1_1 + 1)) + 1))))) ?hg ?ho ?hn ?hr ?_; (case ho => rfl); (case hg => rfl); (case hn => rfl); (case hr => first | (go_simp; done) | (go_simp; rfl)); intro w23 hw; have hg : w21.grownBy w23 (some go5) := (by rw [hw]; exact HP22.2); have hp_ : Kd.R k123 123 w23 w0.heap.size (fun k_ => (P0_ k_ ∨ w.heap.size ≤ k_)) (.slice (some ⟨go5, 0, none⟩) x0_1.length co17) y237 := (by rw [hw, Ny237.out]; exact HP22.1); clear HP22; replace HB := Am ((by rw [hw]; exact bs (HB.out) GB5.out : Below w0.heap.size w0 w23)); replace HK := Am (Kept.of_grown (S := (fun k_ => P0_ k_)) hg (by repeat (first | (with_reducible first | exact HK.out | apply Kept.alloc | apply Kept.drewN | apply Kept.drew) | exact HK.out)) (fun k_ e_ => (HO_0.out.1 k_ e_))); replace HO_0 := Am (hp_); clear hg hw hp_) | ((with_reducible refine gate_callee (f := 87) rfl ?_); refine goesL_ (some 37) rfl rfl Try.func87 (by kernel_rfl) rfl #[.int .i64 (wrap64 ((wrap64 ((wrap64 (x1_1 + 1)) + 1)) + 1))] rfl (by (try simp only [List.map_toArray, List.map_cons, List.map_nil]); first | done | rfl | (simp only [List.length_drop, List.length_take]; rfl)) ?_; (with_reducible refine (laws_markText.calls k1 (wrap64 ((wrap64 ((wrap64 (x1_1 + 1)) + 1)) + 1)) t238 _ A8.out).mono ?_); rintro e w24 ⟨rfl, hb⟩; refine ⟨_, rfl, ?_⟩; replace HO_0 := Am (rb (by (with_reducible repeat (first | apply ra | apply rn | apply re)); exact HO_0.out) hb); replace HK := Am (Kept.below (S := (fun k_ => P0_ k_)) (by repeat (first | (with_reducible first | exact HK.out | apply Kept.alloc | apply Kept.drewN | apply Kept.drew) | exact HK.out)) hb); replace HB := Am (bq (by repeat (first | (with_reducible first | exact HB.out | apply ba | apply bn | apply be) | exact HB.out)) hb); (try clear hb); have p9 : 0 ≤ (x5_1 : Int) := of_decide_eq_true (by first | (with_reducible assumption) | assumption); have q9 : (x5_1 : Int) < ((x0_1.length : Int) : Int) := of_decide_eq_true (by first | (with_reducible assumption) | assumption); obtain ⟨ce9, hcl9, hM9, hcc9, hfr9⟩ := Kd.R_elem HO_0.out z123 (x5_1 : Int) p9 q9; obtain rfl := k123_openM hM9; have hx9_0 : w24.cell? ⟨go5, (x5_1 : Int).toNat * 9, none⟩ = some (.int .i64 ((rd_T123 y237 x5_1).f0)) := hcc9 0 _ rfl; have hx9_1 : w24.cell? ⟨go5, (x5_1 : Int).toNat * 9 + 1, none⟩ = some (.int .i64 ((rd_T123 y237 x5_1).f1)) := hcc9 1 _ rfl; have hx9_2 : w24.cell? ⟨go5, (x5_1 : Int).toNat * 9 + 2, none⟩ = some (.int .i64 ((rd_T123 y237 x5_1).f2.f0)) := hcc9 2 _ rfl; have hx9_3 : w24.cell? ⟨go5, (x5_1 : Int).toNat * 9 + 3, none⟩ = some (.string ((rd_T123 y237 x5_1).f2.f1)) := hcc9 3 _ rfl; have hx9_4 : w24.cell? ⟨go5, (x5_1 : Int).toNat * 9 + 4, none⟩ = some (.string ((rd_T123 y237 x5_1).f2.f2)) := hcc9 4 _ rfl; have hx9_5 : w24.cell? ⟨go5, (x5_1 : Int).toNat * 9 + 5, none⟩ = some (.int .i64 ((rd_T123 y237 x5_1).f2.f3)) := hcc9 5 _ rfl; have hx9_6 : w24.cell? ⟨go5, (x5_1 : Int).toNat * 9 + 6, none⟩ = some (.int .i64 ((rd_T123 y237 x5_1).f2.f4)) := hcc9 6 _ rfl; have hx9_7 : w24.cell? ⟨go5, (x5_1 : Int).toNat * 9 + 7, none⟩ = some (.string ((rd_T123 y237 x5_1).f2.f5)) := hcc9 7 _ rfl; have hx9_8 : w24.cell? ⟨go5, (x5_1 : Int).toNat * 9 + 8, none⟩ = some (.int .i64 ((rd_T123 y237 x5_1).f3)) := hcc9 8 _ rfl; have hf9_0 : w24.frozen? ⟨go5, (x5_1 : Int).toNat * 9, none⟩ = false := hfr9 0; have hf9_1 : w24.frozen? ⟨go5, (x5_1 : Int).toNat * 9 + 1, none⟩ = false := hfr9 1; have hf9_2 : w24.frozen? ⟨go5, (x5_1 : Int).toNat * 9 + 2, none⟩ = false := hfr9 2; have hf9_3 : w24.frozen? ⟨go5, (x5_1 : Int).toNat * 9 + 3, none⟩ = false := hfr9 3; have hf9_4 : w24.frozen? ⟨go5, (x5_1 : Int).toNat * 9 + 4, none⟩ = false := hfr9 4; have hf9_5 : w24.frozen? ⟨go5, (x5_1 : Int).toNat * 9 + 5, none⟩ = false := hfr9 5; have hf9_6 : w24.frozen? ⟨go5, (x5_1 : Int).toNat * 9 + 6, none⟩ = false := hfr9 6; have hf9_7 : w24.frozen? ⟨go5, (x5_1 : Int).toNat * 9 + 7, none⟩ = false := hfr9 7; have hf9_8 : w24.frozen? ⟨go5, (x5_1 : Int).toNat * 9 + 8, none⟩ = false := hfr9 8; clear hcl9 hcc9 hfr9 hM9; replace p9 := eq_true p9; replace q9 := eq_true q9; have HX25 := Am (show Kd.R k123 123 w24 w0.heap.size (fun k_ => (P0_ k_ ∨ w.heap.size ≤ k_)) (.slice (some ⟨go5, 0, none⟩) x0_1.length co17) y237 from (by (with_reducible repeat (first | apply ra | apply rn | apply re)); exact HO_0.out)); obtain ⟨ce25, hcl25, hM25, hcc25, hfr25⟩ := Kd.R_elem HX25.out z123 (x5_1 : Int) (of_decide_eq_true (by first | (with_reducible assumption) | assumption)) (by have h_ : (x5_1 : Int) < ((x0_1.length : Int) : Int) := of_decide_eq_true (by first | (with_reducible assumption) | assumption); first | exact h_ | (have e_ := (Kd.R_reads' HO_0.out).1; omega) | simpa using h_); obtain rfl := k123_openM hM25; have HP25 := Kd.R_seg HX25.out (x5_1 : Int) (of_decide_eq_true (by first | (with_reducible assumption) | assumption)) (by have h_ : (x5_1 : Int) < ((x0_1.length : Int) : Int) := of_decide_eq_true (by first | (with_reducible assumption) | assumption); first | exact h_ | (have e_ := (Kd.R_reads' HO_0.out).1; omega) | simpa using h_) (seg := [.string t238]) (j := 3) hcl25 hcc25 (show 4 ≤ 9 from by decide) (x' := (⟨(rd_T123 y237 x5_1).f0, (rd_T123 y237 x5_1).f1, (⟨(rd_T123 y237 x5_1).f2.f0, t238, (rd_T123 y237 x5_1).f2.f2, (rd_T123 y237 x5_1).f2.f3, (rd_T123 y237 x5_1).f2.f4, (rd_T123 y237 x5_1).f2.f5⟩ : S42), (rd_T123 y237 x5_1).f3⟩ : S123)) (k123_mkM _ _ _ (⟨(rd_T123 y237 x5_1).f0, (rd_T123 y237 x5_1).f1, (⟨(rd_T123 y237 x5_1).f2.f0, t238, (rd_T123 y237 x5_1).f2.f2, (rd_T123 y237 x5_1).f2.f3, (rd_T123 y237 x5_1).f2.f4, (rd_T123 y237 x5_1).f2.f5⟩ : S42), (rd_T123 y237 x5_1).f3⟩ : S123) ) (fun _ hk => hk); have hx25_3 := hcc25 3 _ rfl; (try simp only [show (k123).sz = 9 from rfl, Nat.mul_one, Nat.add_zero] at hx25_3); have hf25_3 := hfr25 3; (try simp only [show (k123).sz = 9 from rfl, Nat.mul_one, Nat.add_zero] at hf25_3); clear hcl25 hcc25 hfr25 hM25) | ((with_reducible refine gate_store (t := 9) (p := 40) rfl ?_); refine store_event (t := 9) (p := 40) (v := ?vo_w26) (w1 := (w24.setCell ⟨go5, (x5_1 : Int).toNat * 9 + 3, none⟩ (.string t238))) ?hg ?ho ?hn ?hr ?_; (case ho => rfl); (case hg => rfl); (case hn => rfl); (case hr => first | (go_simp; done) | (go_simp; rfl)); intro w26 hw; have hg : w24.grownBy w26 (some go5) := (by rw [hw]; exact HP25.2); have hp_ : Kd.R k123 123 w26 w0.heap.size (fun k_ => (P0_ k_ ∨ w.heap.size ≤ k_)) (.slice (some ⟨go5, 0, none⟩) x0_1.length co17) y239 := (by rw [hw, Ny239.out]; exact HP25.1); clear HP25; replace HB := Am ((by rw [hw]; exact bs (HB.out) GB5.out : Below w0.heap.size w0 w26)); replace HK := Am (Kept.of_grown (S := (fun k_ => P0_ k_)) hg (by repeat (first | (with_reducible first | exact HK.out | apply Kept.alloc | apply Kept.drewN | apply Kept.drew) | exact HK.out)) (fun k_ e_ => (HO_0.out.1 k_ e_))); replace HO_0 := Am (hp_); clear hg hw hp_) | ((with_reducible refine gate_callee (f := 87) rfl ?_); refine goesL_ (some 46) rfl rfl Try.func87 (by kernel_rfl) rfl #[.int .i64 (wrap64 ((wrap64 ((wrap64 ((wrap64 (x1_1 + 1)) + 1)) + 1)) + 1))] rfl (by (try simp only [List.map_toArray, List.map_cons, List.map_nil]); first | done | rfl | (simp only [List.length_drop, List.length_take]; rfl)) ?_; (with_reducible refine (laws_markText.calls k1 (wrap64 ((wrap64 ((wrap64 ((wrap64 (x1_1 + 1)) + 1)) + 1)) + 1)) t240 _ A10.out).mono ?_); rintro e w27 ⟨rfl, hb⟩; refine ⟨_, rfl, ?_⟩; replace HO_0 := Am (rb (by (with_reducible repeat (first | apply ra | apply rn | apply re)); exact HO_0.out) hb); replace HK := Am (Kept.below (S := (fun k_ => P0_ k_)) (by repeat (first | (with_reducible first | exact HK.out | apply Kept.alloc | apply Kept.drewN | apply Kept.drew) | exact HK.out)) hb); replace HB := Am (bq (by repeat (first | (with_reducible first | exact HB.out | apply ba | apply bn | apply be) | exact HB.out)) hb); (try clear hb); have p11 : 0 ≤ (x5_1 : Int) := of_decide_eq_true (by first | (with_reducible assumption) | assumption); have q11 : (x5_1 : Int) < ((x0_1.length : Int) : Int) := of_decide_eq_true (by first | (with_reducible assumption) | assumption); obtain ⟨ce11, hcl11, hM11, hcc11, hfr11⟩ := Kd.R_elem HO_0.out z123 (x5_1 : Int) p11 q11; obtain rfl := k123_openM hM11; have hx11_0 : w27.cell? ⟨go5, (x5_1 : Int).toNat * 9, none⟩ = some (.int .i64 ((rd_T123 y239 x5_1).f0)) := hcc11 0 _ rfl; have hx11_1 : w27.cell? ⟨go5, (x5_1 : Int).toNat * 9 + 1, none⟩ = some (.int .i64 ((rd_T123 y239 x5_1).f1)) := hcc11 1 _ rfl; have hx11_2 : w27.cell? ⟨go5, (x5_1 : Int).toNat * 9 + 2, none⟩ = some (.int .i64 ((rd_T123 y239 x5_1).f2.f0)) := hcc11 2 _ rfl; have hx11_3 : w27.cell? ⟨go5, (x5_1 : Int).toNat * 9 + 3, none⟩ = some (.string ((rd_T123 y239 x5_1).f2.f1)) := hcc11 3 _ rfl; have hx11_4 : w27.cell? ⟨go5, (x5_1 : Int).toNat * 9 + 4, none⟩ = some (.string ((rd_T123 y239 x5_1).f2.f2)) := hcc11 4 _ rfl; have hx11_5 : w27.cell? ⟨go5, (x5_1 : Int).toNat * 9 + 5, none⟩ = some (.int .i64 ((rd_T123 y239 x5_1).f2.f3)) := hcc11 5 _ rfl; have hx11_6 : w27.cell? ⟨go5, (x5_1 : Int).toNat * 9 + 6, none⟩ = some (.int .i64 ((rd_T123 y239 x5_1).f2.f4)) := hcc11 6 _ rfl; have hx11_7 : w27.cell? ⟨go5, (x5_1 : Int).toNat * 9 + 7, none⟩ = some (.string ((rd_T123 y239 x5_1).f2.f5)) := hcc11 7 _ rfl; have hx11_8 : w27.cell? ⟨go5, (x5_1 : Int).toNat * 9 + 8, none⟩ = some (.int .i64 ((rd_T123 y239 x5_1).f3)) := hcc11 8 _ rfl; have hf11_0 : w27.frozen? ⟨go5, (x5_1 : Int).toNat * 9, none⟩ = false := hfr11 0; have hf11_1 : w27.frozen? ⟨go5, (x5_1 : Int).toNat * 9 + 1, none⟩ = false := hfr11 1; have hf11_2 : w27.frozen? ⟨go5, (x5_1 : Int).toNat * 9 + 2, none⟩ = false := hfr11 2; have hf11_3 : w27.frozen? ⟨go5, (x5_1 : Int).toNat * 9 + 3, none⟩ = false := hfr11 3; have hf11_4 : w27.frozen? ⟨go5, (x5_1 : Int).toNat * 9 + 4, none⟩ = false := hfr11 4; have hf11_5 : w27.frozen? ⟨go5, (x5_1 : Int).toNat * 9 + 5, none⟩ = false := hfr11 5; have hf11_6 : w27.frozen? ⟨go5, (x5_1 : Int).toNat * 9 + 6, none⟩ = false := hfr11 6; have hf11_7 : w27.frozen? ⟨go5, (x5_1 : Int).toNat * 9 + 7, none⟩ = false := hfr11 7; have hf11_8 : w27.frozen? ⟨go5, (x5_1 : Int).toNat * 9 + 8, none⟩ = false := hfr11 8; clear hcl11 hcc11 hfr11 hM11; replace p11 := eq_true p11; replace q11 := eq_true q11; have HX28 := Am (show Kd.R k123 123 w27 w0.heap.size (fun k_ => (P0_ k_ ∨ w.heap.size ≤ k_)) (.slice (some ⟨go5, 0, none⟩) x0_1.length co17) y239 from (by (with_reducible repeat (first | apply ra | apply rn | apply re)); exact HO_0.out)); obtain ⟨ce28, hcl28, hM28, hcc28, hfr28⟩ := Kd.R_elem HX28.out z123 (x5_1 : Int) (of_decide_eq_true (by first | (with_reducible assumption) | assumption)) (by have h_ : (x5_1 : Int) < ((x0_1.length : Int) : Int) := of_decide_eq_true (by first | (with_reducible assumption) | assumption); first | exact h_ | (have e_ := (Kd.R_reads' HO_0.out).1; omega) | simpa using h_); obtain rfl := k123_openM hM28; have HP28 := Kd.R_seg HX28.out (x5_1 : Int) (of_decide_eq_true (by first | (with_reducible assumption) | assumption)) (by have h_ : (x5_1 : Int) < ((x0_1.length : Int) : Int) := of_decide_eq_true (by first | (with_reducible assumption) | assumption); first | exact h_ | (have e_ := (Kd.R_reads' HO_0.out).1; omega) | simpa using h_) (seg := [.string t240]) (j := 4) hcl28 hcc28 (show 5 ≤ 9 from by decide) (x' := (⟨(rd_T123 y239 x5_1).f0, (rd_T123 y239 x5_1).f1, (⟨(rd_T123 y239 x5_1).f2.f0, (rd_T123 y239 x5_1).f2.f1, t240, (rd_T123 y239 x5_1).f2.f3, (rd_T123 y239 x5_1).f2.f4, (rd_T123 y239 x5_1).f2.f5⟩ : S42), (rd_T123 y239 x5_1).f3⟩ : S123)) (k123_mkM _ _ _ (⟨(rd_T123 y239 x5_1).f0, (rd_T123 y239 x5_1).f1, (⟨(rd_T123 y239 x5_1).f2.f0, (rd_T123 y239 x5_1).f2.f1, t240, (rd_T123 y239 x5_1).f2.f3, (rd_T123 y239 x5_1).f2.f4, (rd_T123 y239 x5_1).f2.f5⟩ : S42), (rd_T123 y239 x5_1).f3⟩ : S123) ) (fun _ hk => hk); have hx28_4 := hcc28 4 _ rfl; (try simp only [show (k123).sz = 9 from rfl, Nat.mul_one, Nat.add_zero] at hx28_4); have hf28_4 := hfr28 4; (try simp only [show (k123).sz = 9 from rfl, Nat.mul_one, Nat.add_zero] at hf28_4); clear hcl28 hcc28 hfr28 hM28) | ((with_reducible refine gate_store (t := 9) (p := 49) rfl ?_); refine store_event (t := 9) (p := 49) (v := ?vo_w29) (w1 := (w27.setCell ⟨go5, (x5_1 : Int).toNat * 9 + 4, none⟩ (.string t240))) ?hg ?ho ?hn ?hr ?_; (case ho => rfl); (case hg => rfl); (case hn => rfl); (case hr => first | (go_simp; done) | (go_simp; rfl)); intro w29 hw; have hg : w27.grownBy w29 (some go5) := (by rw [hw]; exact HP28.2); have hp_ : Kd.R k123 123 w29 w0.heap.size (fun k_ => (P0_ k_ ∨ w.heap.size ≤ k_)) (.slice (some ⟨go5, 0, none⟩) x0_1.length co17) y241 := (by rw [hw, Ny241.out]; exact HP28.1); clear HP28; replace HB := Am ((by rw [hw]; exact bs (HB.out) GB5.out : Below w0.heap.size w0 w29)); replace HK := Am (Kept.of_grown (S := (fun k_ => P0_ k_)) hg (by repeat (first | (with_reducible first | exact HK.out | apply Kept.alloc | apply Kept.drewN | apply Kept.drew) | exact HK.out)) (fun k_ e_ => (HO_0.out.1 k_ e_))); replace HO_0 := Am (hp_); clear hg hw hp_; have p12 : 0 ≤ (x5_1 : Int) := of_decide_eq_true (by first | (with_reducible assumption) | assumption); have q12 : (x5_1 : Int) < ((x0_1.length : Int) : Int) := of_decide_eq_true (by first | (with_reducible assumption) | assumption); obtain ⟨ce12, hcl12, hM12, hcc12, hfr12⟩ := Kd.R_elem HO_0.out z123 (x5_1 : Int) p12 q12; obtain rfl := k123_openM hM12; have hx12_0 : w29.cell? ⟨go5, (x5_1 : Int).toNat * 9, none⟩ = some (.int .i64 ((rd_T123 y241 x5_1).f0)) := hcc12 0 _ rfl; have hx12_1 : w29.cell? ⟨go5, (x5_1 : Int).toNat * 9 + 1, none⟩ = some (.int .i64 ((rd_T123 y241 x5_1).f1)) := hcc12 1 _ rfl; have hx12_2 : w29.cell? ⟨go5, (x5_1 : Int).toNat * 9 + 2, none⟩ = some (.int .i64 ((rd_T123 y241 x5_1).f2.f0)) := hcc12 2 _ rfl; have hx12_3 : w29.cell? ⟨go5, (x5_1 : Int).toNat * 9 + 3, none⟩ = some (.string ((rd_T123 y241 x5_1).f2.f1)) := hcc12 3 _ rfl; have hx12_4 : w29.cell? ⟨go5, (x5_1 : Int).toNat * 9 + 4, none⟩ = some (.string ((rd_T123 y241 x5_1).f2.f2)) := hcc12 4 _ rfl; have hx12_5 : w29.cell? ⟨go5, (x5_1 : Int).toNat * 9 + 5, none⟩ = some (.int .i64 ((rd_T123 y241 x5_1).f2.f3)) := hcc12 5 _ rfl; have hx12_6 : w29.cell? ⟨go5, (x5_1 : Int).toNat * 9 + 6, none⟩ = some (.int .i64 ((rd_T123 y241 x5_1).f2.f4)) := hcc12 6 _ rfl; have hx12_7 : w29.cell? ⟨go5, (x5_1 : Int).toNat * 9 + 7, none⟩ = some (.string ((rd_T123 y241 x5_1).f2.f5)) := hcc12 7 _ rfl; have hx12_8 : w29.cell? ⟨go5, (x5_1 : Int).toNat * 9 + 8, none⟩ = some (.int .i64 ((rd_T123 y241 x5_1).f3)) := hcc12 8 _ rfl; have hf12_0 : w29.frozen? ⟨go5, (x5_1 : Int).toNat * 9, none⟩ = false := hfr12 0; have hf12_1 : w29.frozen? ⟨go5, (x5_1 : Int).toNat * 9 + 1, none⟩ = false := hfr12 1; have hf12_2 : w29.frozen? ⟨go5, (x5_1 : Int).toNat * 9 + 2, none⟩ = false := hfr12 2; have hf12_3 : w29.frozen? ⟨go5, (x5_1 : Int).toNat * 9 + 3, none⟩ = false := hfr12 3; have hf12_4 : w29.frozen? ⟨go5, (x5_1 : Int).toNat * 9 + 4, none⟩ = false := hfr12 4; have hf12_5 : w29.frozen? ⟨go5, (x5_1 : Int).toNat * 9 + 5, none⟩ = false := hfr12 5; have hf12_6 : w29.frozen? ⟨go5, (x5_1 : Int).toNat * 9 + 6, none⟩ = false := hfr12 6; have hf12_7 : w29.frozen? ⟨go5, (x5_1 : Int).toNat * 9 + 7, none⟩ = false := hfr12 7; have hf12_8 : w29.frozen? ⟨go5, (x5_1 : Int).toNat * 9 + 8, none⟩ = false := hfr12 8; clear hcl12 hcc12 hfr12 hM12; replace p12 := eq_true p12; replace q12 := eq_true q12; have HX30 := Am (show Kd.R k123 123 w29 w0.heap.size (fun k_ => (P0_ k_ ∨ w.heap.size ≤ k_)) (.slice (some ⟨go5, 0, none⟩) x0_1.length co17) y241 from (by (with_reducible repeat (first | apply ra | apply rn | apply re)); exact HO_0.out)); obtain ⟨ce30, hcl30, hM30, hcc30, hfr30⟩ := Kd.R_elem HX30.out z123 (x5_1 : Int) (of_decide_eq_true (by first | (with_reducible assumption) | assumption)) (by have h_ : (x5_1 : Int) < ((x0_1.length : Int) : Int) := of_decide_eq_true (by first | (with_reducible assumption) | assumption); first | exact h_ | (have e_ := (Kd.R_reads' HO_0.out).1; omega) | simpa using h_); obtain rfl := k123_openM hM30; have HP30 := Kd.R_seg HX30.out (x5_1 : Int) (of_decide_eq_true (by first | (with_reducible assumption) | assumption)) (by have h_ : (x5_1 : Int) < ((x0_1.length : Int) : Int) := of_decide_eq_true (by first | (with_reducible assumption) | assumption); first | exact h_ | (have e_ := (Kd.R_reads' HO_0.out).1; omega) | simpa using h_) (seg := [.int .i64 (wrap64 ((wrap64 ((wrap64 ((wrap64 ((wrap64 (x1_1 + 1)) + 1)) + 1)) + 1)) + 1))]) (j := 5) hcl30 hcc30 (show 6 ≤ 9 from by decide) (x' := (⟨(rd_T123 y241 x5_1).f0, (rd_T123 y241 x5_1).f1, (⟨(rd_T123 y241 x5_1).f2.f0, (rd_T123 y241 x5_1).f2.f1, (rd_T123 y241 x5_1).f2.f2, wrap64 ((wrap64 ((wrap64 ((wrap64 ((wrap64 (x1_1 + 1)) + 1)) + 1)) + 1)) + 1), (rd_T123 y241 x5_1).f2.f4, (rd_T123 y241 x5_1).f2.f5⟩ : S42), (rd_T123 y241 x5_1).f3⟩ : S123)) (k123_mkM _ _ _ (⟨(rd_T123 y241 x5_1).f0, (rd_T123 y241 x5_1).f1, (⟨(rd_T123 y241 x5_1).f2.f0, (rd_T123 y241 x5_1).f2.f1, (rd_T123 y241 x5_1).f2.f2, wrap64 ((wrap64 ((wrap64 ((wrap64 ((wrap64 (x1_1 + 1)) + 1)) + 1)) + 1)) + 1), (rd_T123 y241 x5_1).f2.f4, (rd_T123 y241 x5_1).f2.f5⟩ : S42), (rd_T123 y241 x5_1).f3⟩ : S123) ) (fun _ hk => hk); have hx30_5 := hcc30 5 _ rfl; (try simp only [show (k123).sz = 9 from rfl, Nat.mul_one, Nat.add_zero] at hx30_5); have hf30_5 := hfr30 5; (try simp only [show (k123).sz = 9 from rfl, Nat.mul_one, Nat.add_zero] at hf30_5); clear hcl30 hcc30 hfr30 hM30) | ((with_reducible refine gate_store (t := 3) (p := 57) rfl ?_); refine store_event (t := 3) (p := 57) (v := ?vo_w31) (w1 := (w29.setCell ⟨go5, (x5_1 : Int).toNat * 9 + 5, none⟩ (.int .i64 (wrap64 ((wrap64 ((wrap64 ((wrap64 ((wrap64 (x1_1 + 1)) + 1)) + 1)) + 1)) + 1))))) ?hg ?ho ?hn ?hr ?_; (case ho => rfl); (case hg => rfl); (case hn => rfl); (case hr => first | (go_simp; done) | (go_simp; rfl)); intro w31 hw; have hg : w29.grownBy w31 (some go5) := (by rw [hw]; exact HP30.2); have hp_ : Kd.R k123 123 w31 w0.heap.size (fun k_ => (P0_ k_ ∨ w.heap.size ≤ k_)) (.slice (some ⟨go5, 0, none⟩) x0_1.length co17) y242 := (by rw [hw, Ny242.out]; exact HP30.1); clear HP30; replace HB := Am ((by rw [hw]; exact bs (HB.out) GB5.out : Below w0.heap.size w0 w31)); replace HK := Am (Kept.of_grown (S := (fun k_ => P0_ k_)) hg (by repeat (first | (with_reducible first | exact HK.out | apply Kept.alloc | apply Kept.drewN | apply Kept.drew) | exact HK.out)) (fun k_ e_ => (HO_0.out.1 k_ e_))); replace HO_0 := Am (hp_); clear hg hw hp_; have p13 : 0 ≤ (x5_1 : Int) := of_decide_eq_true (by first | (with_reducible assumption) | assumption); have q13 : (x5_1 : Int) < ((x0_1.length : Int) : Int) := of_decide_eq_true (by first | (with_reducible assumption) | assumption); obtain ⟨ce13, hcl13, hM13, hcc13, hfr13⟩ := Kd.R_elem HO_0.out z123 (x5_1 : Int) p13 q13; obtain rfl := k123_openM hM13; have hx13_0 : w31.cell? ⟨go5, (x5_1 : Int).toNat * 9, none⟩ = some (.int .i64 ((rd_T123 y242 x5_1).f0)) := hcc13 0 _ rfl; have hx13_1 : w31.cell? ⟨go5, (x5_1 : Int).toNat * 9 + 1, none⟩ = some (.int .i64 ((rd_T123 y242 x5_1).f1)) := hcc13 1 _ rfl; have hx13_2 : w31.cell? ⟨go5, (x5_1 : Int).toNat * 9 + 2, none⟩ = some (.int .i64 ((rd_T123 y242 x5_1).f2.f0)) := hcc13 2 _ rfl; have hx13_3 : w31.cell? ⟨go5, (x5_1 : Int).toNat * 9 + 3, none⟩ = some (.string ((rd_T123 y242 x5_1).f2.f1)) := hcc13 3 _ rfl; have hx13_4 : w31.cell? ⟨go5, (x5_1 : Int).toNat * 9 + 4, none⟩ = some (.string ((rd_T123 y242 x5_1).f2.f2)) := hcc13 4 _ rfl; have hx13_5 : w31.cell? ⟨go5, (x5_1 : Int).toNat * 9 + 5, none⟩ = some (.int .i64 ((rd_T123 y242 x5_1).f2.f3)) := hcc13 5 _ rfl; have hx13_6 : w31.cell? ⟨go5, (x5_1 : Int).toNat * 9 + 6, none⟩ = some (.int .i64 ((rd_T123 y242 x5_1).f2.f4)) := hcc13 6 _ rfl; have hx13_7 : w31.cell? ⟨go5, (x5_1 : Int).toNat * 9 + 7, none⟩ = some (.string ((rd_T123 y242 x5_1).f2.f5)) := hcc13 7 _ rfl; have hx13_8 : w31.cell? ⟨go5, (x5_1 : Int).toNat * 9 + 8, none⟩ = some (.int .i64 ((rd_T123 y242 x5_1).f3)) := hcc13 8 _ rfl; have hf13_0 : w31.frozen? ⟨go5, (x5_1 : Int).toNat * 9, none⟩ = false := hfr13 0; have hf13_1 : w31.frozen? ⟨go5, (x5_1 : Int).toNat * 9 + 1, none⟩ = false := hfr13 1; have hf13_2 : w31.frozen? ⟨go5, (x5_1 : Int).toNat * 9 + 2, none⟩ = false := hfr13 2; have hf13_3 : w31.frozen? ⟨go5, (x5_1 : Int).toNat * 9 + 3, none⟩ = false := hfr13 3; have hf13_4 : w31.frozen? ⟨go5, (x5_1 : Int).toNat * 9 + 4, none⟩ = false := hfr13 4; have hf13_5 : w31.frozen? ⟨go5, (x5_1 : Int).toNat * 9 + 5, none⟩ = false := hfr13 5; have hf13_6 : w31.frozen? ⟨go5, (x5_1 : Int).toNat * 9 + 6, none⟩ = false := hfr13 6; have hf13_7 : w31.frozen? ⟨go5, (x5_1 : Int).toNat * 9 + 7, none⟩ = false := hfr13 7; have hf13_8 : w31.frozen? ⟨go5, (x5_1 : Int).toNat * 9 + 8, none⟩ = false := hfr13 8; clear hcl13 hcc13 hfr13 hM13; replace p13 := eq_true p13; replace q13 := eq_true q13; have HX32 := Am (show Kd.R k123 123 w31 w0.heap.size (fun k_ => (P0_ k_ ∨ w.heap.size ≤ k_)) (.slice (some ⟨go5, 0, none⟩) x0_1.length co17) y242 from (by (with_reducible repeat (first | apply ra | apply rn | apply re)); exact HO_0.out)); obtain ⟨ce32, hcl32, hM32, hcc32, hfr32⟩ := Kd.R_elem HX32.out z123 (x5_1 : Int) (of_decide_eq_true (by first | (with_reducible assumption) | assumption)) (by have h_ : (x5_1 : Int) < ((x0_1.length : Int) : Int) := of_decide_eq_true (by first | (with_reducible assumption) | assumption); first | exact h_ | (have e_ := (Kd.R_reads' HO_0.out).1; omega) | simpa using h_); obtain rfl := k123_openM hM32; have HP32 := Kd.R_seg HX32.out (x5_1 : Int) (of_decide_eq_true (by first | (with_reducible assumption) | assumption)) (by have h_ : (x5_1 : Int) < ((x0_1.length : Int) : Int) := of_decide_eq_true (by first | (with_reducible assumption) | assumption); first | exact h_ | (have e_ := (Kd.R_reads' HO_0.out).1; omega) | simpa using h_) (seg := [.int .i64 (wrap64 ((wrap64 ((wrap64 ((wrap64 ((wrap64 ((wrap64 (x1_1 + 1)) + 1)) + 1)) + 1)) + 1)) + 1))]) (j := 6) hcl32 hcc32 (show 7 ≤ 9 from by decide) (x' := (⟨(rd_T123 y242 x5_1).f0, (rd_T123 y242 x5_1).f1, (⟨(rd_T123 y242 x5_1).f2.f0, (rd_T123 y242 x5_1).f2.f1, (rd_T123 y242 x5_1).f2.f2, (rd_T123 y242 x5_1).f2.f3, wrap64 ((wrap64 ((wrap64 ((wrap64 ((wrap64 ((wrap64 (x1_1 + 1)) + 1)) + 1)) + 1)) + 1)) + 1), (rd_T123 y242 x5_1).f2.f5⟩ : S42), (rd_T123 y242 x5_1).f3⟩ : S123)) (k123_mkM _ _ _ (⟨(rd_T123 y242 x5_1).f0, (rd_T123 y242 x5_1).f1, (⟨(rd_T123 y242 x5_1).f2.f0, (rd_T123 y242 x5_1).f2.f1, (rd_T123 y242 x5_1).f2.f2, (rd_T123 y242 x5_1).f2.f3, wrap64 ((wrap64 ((wrap64 ((wrap64 ((wrap64 ((wrap64 (x1_1 + 1)) + 1)) + 1)) + 1)) + 1)) + 1), (rd_T123 y242 x5_1).f2.f5⟩ : S42), (rd_T123 y242 x5_1).f3⟩ : S123) ) (fun _ hk => hk); have hx32_6 := hcc32 6 _ rfl; (try simp only [show (k123).sz = 9 from rfl, Nat.mul_one, Nat.add_zero] at hx32_6); have hf32_6 := hfr32 6; (try simp only [show (k123).sz = 9 from rfl, Nat.mul_one, Nat.add_zero] at hf32_6); clear hcl32 hcc32 hfr32 hM32) | ((with_reducible refine gate_store (t := 3) (p := 65) rfl ?_); refine store_event (t := 3) (p := 65) (v := ?vo_w33) (w1 := (w31.setCell ⟨go5, (x5_1 : Int).toNat * 9 + 6, none⟩ (.int .i64 (wrap64 ((wrap64 ((wrap64 ((wrap64 ((wrap64 ((wrap64 (x1_1 + 1)) + 1)) + 1)) + 1)) + 1)) + 1))))) ?hg ?ho ?hn ?hr ?_; (case ho => rfl); (case hg => rfl); (case hn => rfl); (case hr => first | (go_simp; done) | (go_simp; rfl)); intro w33 hw; have hg : w31.grownBy w33 (some go5) := (by rw [hw]; exact HP32.2); have hp_ : Kd.R k123 123 w33 w0.heap.size (fun k_ => (P0_ k_ ∨ w.heap.size ≤ k_)) (.slice (some ⟨go5, 0, none⟩) x0_1.length co17) y243 := (by rw [hw, Ny243.out]; exact HP32.1); clear HP32; replace HB := Am ((by rw [hw]; exact bs (HB.out) GB5.out : Below w0.heap.size w0 w33)); replace HK := Am (Kept.of_grown (S := (fun k_ => P0_ k_)) hg (by repeat (first | (with_reducible first | exact HK.out | apply Kept.alloc | apply Kept.drewN | apply Kept.drew) | exact HK.out)) (fun k_ e_ => (HO_0.out.1 k_ e_))); replace HO_0 := Am (hp_); clear hg hw hp_) | ((with_reducible refine gate_callee (f := 87) rfl ?_); refine goesL_ (some 71) rfl rfl Try.func87 (by kernel_rfl) rfl #[.int .i64 (wrap64 ((wrap64 ((wrap64 ((wrap64 ((wrap64 ((wrap64 ((wrap64 (x1_1 + 1)) + 1)) + 1)) + 1)) + 1)) + 1)) + 1))] rfl (by (try simp only [List.map_toArray, List.map_cons, List.map_nil]); first | done | rfl | (simp only [List.length_drop, List.length_take]; rfl)) ?_; (with_reducible refine (laws_markText.calls k1 (wrap64 ((wrap64 ((wrap64 ((wrap64 ((wrap64 ((wrap64 ((wrap64 (x1_1 + 1)) + 1)) + 1)) + 1)) + 1)) + 1)) + 1)) t244 _ A14.out).mono ?_); rintro e w34 ⟨rfl, hb⟩; refine ⟨_, rfl, ?_⟩; replace HO_0 := Am (rb (by (with_reducible repeat (first | apply ra | apply rn | apply re)); exact HO_0.out) hb); replace HK := Am (Kept.below (S := (fun k_ => P0_ k_)) (by repeat (first | (with_reducible first | exact HK.out | apply Kept.alloc | apply Kept.drewN | apply Kept.drew) | exact HK.out)) hb); replace HB := Am (bq (by repeat (first | (with_reducible first | exact HB.out | apply ba | apply bn | apply be) | exact HB.out)) hb); (try clear hb); have p15 : 0 ≤ (x5_1 : Int) := of_decide_eq_true (by first | (with_reducible assumption) | assumption); have q15 : (x5_1 : Int) < ((x0_1.length : Int) : Int) := of_decide_eq_true (by first | (with_reducible assumption) | assumption); obtain ⟨ce15, hcl15, hM15, hcc15, hfr15⟩ := Kd.R_elem HO_0.out z123 (x5_1 : Int) p15 q15; obtain rfl := k123_openM hM15; have hx15_0 : w34.cell? ⟨go5, (x5_1 : Int).toNat * 9, none⟩ = some (.int .i64 ((rd_T123 y243 x5_1).f0)) := hcc15 0 _ rfl; have hx15_1 : w34.cell? ⟨go5, (x5_1 : Int).toNat * 9 + 1, none⟩ = some (.int .i64 ((rd_T123 y243 x5_1).f1)) := hcc15 1 _ rfl; have hx15_2 : w34.cell? ⟨go5, (x5_1 : Int).toNat * 9 + 2, none⟩ = some (.int .i64 ((rd_T123 y243 x5_1).f2.f0)) := hcc15 2 _ rfl; have hx15_3 : w34.cell? ⟨go5, (x5_1 : Int).toNat * 9 + 3, none⟩ = some (.string ((rd_T123 y243 x5_1).f2.f1)) := hcc15 3 _ rfl; have hx15_4 : w34.cell? ⟨go5, (x5_1 : Int).toNat * 9 + 4, none⟩ = some (.string ((rd_T123 y243 x5_1).f2.f2)) := hcc15 4 _ rfl; have hx15_5 : w34.cell? ⟨go5, (x5_1 : Int).toNat * 9 + 5, none⟩ = some (.int .i64 ((rd_T123 y243 x5_1).f2.f3)) := hcc15 5 _ rfl; have hx15_6 : w34.cell? ⟨go5, (x5_1 : Int).toNat * 9 + 6, none⟩ = some (.int .i64 ((rd_T123 y243 x5_1).f2.f4)) := hcc15 6 _ rfl; have hx15_7 : w34.cell? ⟨go5, (x5_1 : Int).toNat * 9 + 7, none⟩ = some (.string ((rd_T123 y243 x5_1).f2.f5)) := hcc15 7 _ rfl; have hx15_8 : w34.cell? ⟨go5, (x5_1 : Int).toNat * 9 + 8, none⟩ = some (.int .i64 ((rd_T123 y243 x5_1).f3)) := hcc15 8 _ rfl; have hf15_0 : w34.frozen? ⟨go5, (x5_1 : Int).toNat * 9, none⟩ = false := hfr15 0; have hf15_1 : w34.frozen? ⟨go5, (x5_1 : Int).toNat * 9 + 1, none⟩ = false := hfr15 1; have hf15_2 : w34.frozen? ⟨go5, (x5_1 : Int).toNat * 9 + 2, none⟩ = false := hfr15 2; have hf15_3 : w34.frozen? ⟨go5, (x5_1 : Int).toNat * 9 + 3, none⟩ = false := hfr15 3; have hf15_4 : w34.frozen? ⟨go5, (x5_1 : Int).toNat * 9 + 4, none⟩ = false := hfr15 4; have hf15_5 : w34.frozen? ⟨go5, (x5_1 : Int).toNat * 9 + 5, none⟩ = false := hfr15 5; have hf15_6 : w34.frozen? ⟨go5, (x5_1 : Int).toNat * 9 + 6, none⟩ = false := hfr15 6; have hf15_7 : w34.frozen? ⟨go5, (x5_1 : Int).toNat * 9 + 7, none⟩ = false := hfr15 7; have hf15_8 : w34.frozen? ⟨go5, (x5_1 : Int).toNat * 9 + 8, none⟩ = false := hfr15 8; clear hcl15 hcc15 hfr15 hM15; replace p15 := eq_true p15; replace q15 := eq_true q15; have HX35 := Am (show Kd.R k123 123 w34 w0.heap.size (fun k_ => (P0_ k_ ∨ w.heap.size ≤ k_)) (.slice (some ⟨go5, 0, none⟩) x0_1.length co17) y243 from (by (with_reducible repeat (first | apply ra | apply rn | apply re)); exact HO_0.out)); obtain ⟨ce35, hcl35, hM35, hcc35, hfr35⟩ := Kd.R_elem HX35.out z123 (x5_1 : Int) (of_decide_eq_true (by first | (with_reducible assumption) | assumption)) (by have h_ : (x5_1 : Int) < ((x0_1.length : Int) : Int) := of_decide_eq_true (by first | (with_reducible assumption) | assumption); first | exact h_ | (have e_ := (Kd.R_reads' HO_0.out).1; omega) | simpa using h_); obtain rfl := k123_openM hM35; have HP35 := Kd.R_seg HX35.out (x5_1 : Int) (of_decide_eq_true (by first | (with_reducible assumption) | assumption)) (by have h_ : (x5_1 : Int) < ((x0_1.length : Int) : Int) := of_decide_eq_true (by first | (with_reducible assumption) | assumption); first | exact h_ | (have e_ := (Kd.R_reads' HO_0.out).1; omega) | simpa using h_) (seg := [.string t244]) (j := 7) hcl35 hcc35 (show 8 ≤ 9 from by decide) (x' := (⟨(rd_T123 y243 x5_1).f0, (rd_T123 y243 x5_1).f1, (⟨(rd_T123 y243 x5_1).f2.f0, (rd_T123 y243 x5_1).f2.f1, (rd_T123 y243 x5_1).f2.f2, (rd_T123 y243 x5_1).f2.f3, (rd_T123 y243 x5_1).f2.f4, t244⟩ : S42), (rd_T123 y243 x5_1).f3⟩ : S123)) (k123_mkM _ _ _ (⟨(rd_T123 y243 x5_1).f0, (rd_T123 y243 x5_1).f1, (⟨(rd_T123 y243 x5_1).f2.f0, (rd_T123 y243 x5_1).f2.f1, (rd_T123 y243 x5_1).f2.f2, (rd_T123 y243 x5_1).f2.f3, (rd_T123 y243 x5_1).f2.f4, t244⟩ : S42), (rd_T123 y243 x5_1).f3⟩ : S123) ) (fun _ hk => hk); have hx35_7 := hcc35 7 _ rfl; (try simp only [show (k123).sz = 9 from rfl, Nat.mul_one, Nat.add_zero] at hx35_7); have hf35_7 := hfr35 7; (try simp only [show (k123).sz = 9 from rfl, Nat.mul_one, Nat.add_zero] at hf35_7); clear hcl35 hcc35 hfr35 hM35) | ((with_reducible refine gate_store (t := 9) (p := 74) rfl ?_); refine store_event (t := 9) (p := 74) (v := ?vo_w36) (w1 := (w34.setCell ⟨go5, (x5_1 : Int).toNat * 9 + 7, none⟩ (.string t244))) ?hg ?ho ?hn ?hr ?_; (case ho => rfl); (case hg => rfl); (case hn => rfl); (case hr => first | (go_simp; done) | (go_simp; rfl)); intro w36 hw; have hg : w34.grownBy w36 (some go5) := (by rw [hw]; exact HP35.2); have hp_ : Kd.R k123 123 w36 w0.heap.size (fun k_ => (P0_ k_ ∨ w.heap.size ≤ k_)) (.slice (some ⟨go5, 0, none⟩) x0_1.length co17) y245 := (by rw [hw, Ny245.out]; exact HP35.1); clear HP35; replace HB := Am ((by rw [hw]; exact bs (HB.out) GB5.out : Below w0.heap.size w0 w36)); replace HK := Am (Kept.of_grown (S := (fun k_ => P0_ k_)) hg (by repeat (first | (with_reducible first | exact HK.out | apply Kept.alloc | apply Kept.drewN | apply Kept.drew) | exact HK.out)) (fun k_ e_ => (HO_0.out.1 k_ e_))); replace HO_0 := Am (hp_); clear hg hw hp_; have p16 : 0 ≤ (x5_1 : Int) := of_decide_eq_true (by first | (with_reducible assumption) | assumption); have q16 : (x5_1 : Int) < ((x0_1.length : Int) : Int) := of_decide_eq_true (by first | (with_reducible assumption) | assumption); obtain ⟨ce16, hcl16, hM16, hcc16, hfr16⟩ := Kd.R_elem HO_0.out z123 (x5_1 : Int) p16 q16; obtain rfl := k123_openM hM16; have hx16_0 : w36.cell? ⟨go5, (x5_1 : Int).toNat * 9, none⟩ = some (.int .i64 ((rd_T123 y245 x5_1).f0)) := hcc16 0 _ rfl; have hx16_1 : w36.cell? ⟨go5, (x5_1 : Int).toNat * 9 + 1, none⟩ = some (.int .i64 ((rd_T123 y245 x5_1).f1)) := hcc16 1 _ rfl; have hx16_2 : w36.cell? ⟨go5, (x5_1 : Int).toNat * 9 + 2, none⟩ = some (.int .i64 ((rd_T123 y245 x5_1).f2.f0)) := hcc16 2 _ rfl; have hx16_3 : w36.cell? ⟨go5, (x5_1 : Int).toNat * 9 + 3, none⟩ = some (.string ((rd_T123 y245 x5_1).f2.f1)) := hcc16 3 _ rfl; have hx16_4 : w36.cell? ⟨go5, (x5_1 : Int).toNat * 9 + 4, none⟩ = some (.string ((rd_T123 y245 x5_1).f2.f2)) := hcc16 4 _ rfl; have hx16_5 : w36.cell? ⟨go5, (x5_1 : Int).toNat * 9 + 5, none⟩ = some (.int .i64 ((rd_T123 y245 x5_1).f2.f3)) := hcc16 5 _ rfl; have hx16_6 : w36.cell? ⟨go5, (x5_1 : Int).toNat * 9 + 6, none⟩ = some (.int .i64 ((rd_T123 y245 x5_1).f2.f4)) := hcc16 6 _ rfl; have hx16_7 : w36.cell? ⟨go5, (x5_1 : Int).toNat * 9 + 7, none⟩ = some (.string ((rd_T123 y245 x5_1).f2.f5)) := hcc16 7 _ rfl; have hx16_8 : w36.cell? ⟨go5, (x5_1 : Int).toNat * 9 + 8, none⟩ = some (.int .i64 ((rd_T123 y245 x5_1).f3)) := hcc16 8 _ rfl; have hf16_0 : w36.frozen? ⟨go5, (x5_1 : Int).toNat * 9, none⟩ = false := hfr16 0; have hf16_1 : w36.frozen? ⟨go5, (x5_1 : Int).toNat * 9 + 1, none⟩ = false := hfr16 1; have hf16_2 : w36.frozen? ⟨go5, (x5_1 : Int).toNat * 9 + 2, none⟩ = false := hfr16 2; have hf16_3 : w36.frozen? ⟨go5, (x5_1 : Int).toNat * 9 + 3, none⟩ = false := hfr16 3; have hf16_4 : w36.frozen? ⟨go5, (x5_1 : Int).toNat * 9 + 4, none⟩ = false := hfr16 4; have hf16_5 : w36.frozen? ⟨go5, (x5_1 : Int).toNat * 9 + 5, none⟩ = false := hfr16 5; have hf16_6 : w36.frozen? ⟨go5, (x5_1 : Int).toNat * 9 + 6, none⟩ = false := hfr16 6; have hf16_7 : w36.frozen? ⟨go5, (x5_1 : Int).toNat * 9 + 7, none⟩ = false := hfr16 7; have hf16_8 : w36.frozen? ⟨go5, (x5_1 : Int).toNat * 9 + 8, none⟩ = false := hfr16 8; clear hcl16 hcc16 hfr16 hM16; replace p16 := eq_true p16; replace q16 := eq_true q16; have HX37 := Am (show Kd.R k123 123 w36 w0.heap.size (fun k_ => (P0_ k_ ∨ w.heap.size ≤ k_)) (.slice (some ⟨go5, 0, none⟩) x0_1.length co17) y245 from (by (with_reducible repeat (first | apply ra | apply rn | apply re)); exact HO_0.out)); obtain ⟨ce37, hcl37, hM37, hcc37, hfr37⟩ := Kd.R_elem HX37.out z123 (x5_1 : Int) (of_decide_eq_true (by first | (with_reducible assumption) | assumption)) (by have h_ : (x5_1 : Int) < ((x0_1.length : Int) : Int) := of_decide_eq_true (by first | (with_reducible assumption) | assumption); first | exact h_ | (have e_ := (Kd.R_reads' HO_0.out).1; omega) | simpa using h_); obtain rfl := k123_openM hM37; have HP37 := Kd.R_seg HX37.out (x5_1 : Int) (of_decide_eq_true (by first | (with_reducible assumption) | assumption)) (by have h_ : (x5_1 : Int) < ((x0_1.length : Int) : Int) := of_decide_eq_true (by first | (with_reducible assumption) | assumption); first | exact h_ | (have e_ := (Kd.R_reads' HO_0.out).1; omega) | simpa using h_) (seg := [.int .i64 (wrap64 ((wrap64 ((wrap64 ((wrap64 ((wrap64 ((wrap64 ((wrap64 ((wrap64 (x1_1 + 1)) + 1)) + 1)) + 1)) + 1)) + 1)) + 1)) + 1))]) (j := 8) hcl37 hcc37 (show 9 ≤ 9 from by decide) (x' := (⟨(rd_T123 y245 x5_1).f0, (rd_T123 y245 x5_1).f1, (⟨(rd_T123 y245 x5_1).f2.f0, (rd_T123 y245 x5_1).f2.f1, (rd_T123 y245 x5_1).f2.f2, (rd_T123 y245 x5_1).f2.f3, (rd_T123 y245 x5_1).f2.f4, (rd_T123 y245 x5_1).f2.f5⟩ : S42), wrap64 ((wrap64 ((wrap64 ((wrap64 ((wrap64 ((wrap64 ((wrap64 ((wrap64 (x1_1 + 1)) + 1)) + 1)) + 1)) + 1)) + 1)) + 1)) + 1)⟩ : S123)) (k123_mkM _ _ _ (⟨(rd_T123 y245 x5_1).f0, (rd_T123 y245 x5_1).f1, (⟨(rd_T123 y245 x5_1).f2.f0, (rd_T123 y245 x5_1).f2.f1, (rd_T123 y245 x5_1).f2.f2, (rd_T123 y245 x5_1).f2.f3, (rd_T123 y245 x5_1).f2.f4, (rd_T123 y245 x5_1).f2.f5⟩ : S42), wrap64 ((wrap64 ((wrap64 ((wrap64 ((wrap64 ((wrap64 ((wrap64 ((wrap64 (x1_1 + 1)) + 1)) + 1)) + 1)) + 1)) + 1)) + 1)) + 1)⟩ : S123) ) (fun _ hk => hk); have hx37_8 := hcc37 8 _ rfl; (try simp only [show (k123).sz = 9 from rfl, Nat.mul_one, Nat.add_zero] at hx37_8); have hf37_8 := hfr37 8; (try simp only [show (k123).sz = 9 from rfl, Nat.mul_one, Nat.add_zero] at hf37_8); clear hcl37 hcc37 hfr37 hM37) | ((with_reducible refine gate_store (t := 3) (p := 81) rfl ?_); refine store_event (t := 3) (p := 81) (v := ?vo_w38) (w1 := (w36.setCell ⟨go5, (x5_1 : Int).toNat * 9 + 8, none⟩ (.int .i64 (wrap64 ((wrap64 ((wrap64 ((wrap64 ((wrap64 ((wrap64 ((wrap64 ((wrap64 (x1_1 + 1)) + 1)) + 1)) + 1)) + 1)) + 1)) + 1)) + 1))))) ?hg ?ho ?hn ?hr ?_; (case ho => rfl); (case hg => rfl); (case hn => rfl); (case hr => first | (go_simp; done) | (go_simp; rfl)); intro w38 hw; have hg : w36.grownBy w38 (some go5) := (by rw [hw]; exact HP37.2); have hp_ : Kd.R k123 123 w38 w0.heap.size (fun k_ => (P0_ k_ ∨ w.heap.size ≤ k_)) (.slice (some ⟨go5, 0, none⟩) x0_1.length co17) y246 := (by rw [hw, Ny246.out]; exact HP37.1); clear HP37; replace HB := Am ((by rw [hw]; exact bs (HB.out) GB5.out : Below w0.heap.size w0 w38)); replace HK := Am (Kept.of_grown (S := (fun k_ => P0_ k_)) hg (by repeat (first | (with_reducible first | exact HK.out | apply Kept.alloc | apply Kept.drewN | apply Kept.drew) | exact HK.out)) (fun k_ e_ => (HO_0.out.1 k_ e_))); replace HO_0 := Am (hp_); clear hg hw hp_))
     go_roundg k1
     case measure => have := HK1.out; omega
     case rel => exact ⟨(y246), (wrap64 ((wrap64 ((wrap64 ((wrap64 ((wrap64 ((wrap64 ((wrap64 ((wrap64 ((wrap64 (x1_1 + 1)) + 1)) + 1)) + 1)) + 1)) + 1)) + 1)) + 1)) + 1)), (wrap64 (x5_1 + 1)), (by first | rfl | (simp; done) | (simp [*]; done)), (by first | rfl | (simp; done) | (simp [*]; done)), H', ⟨by have := HK1.out; omega⟩, ⟨by (with_reducible repeat (first | apply ra | apply rn | apply re)); exact HO_0.out⟩, ⟨by repeat (first | (with_reducible first | exact HK.out | apply Kept.alloc | apply Kept.drewN | apply Kept.drew) | exact HK.out)⟩, ⟨by repeat (first | (with_reducible first | exact HB.out | apply ba | apply bn | apply be) | exact HB.out)⟩⟩
    ·rw [if_neg c4] at H
     exact absurd H (by simp)
   ·rw [if_neg c3] at H
    have c3b0 : decide (x5_1 < (x0_1.length : Int)) = false := decide_eq_false c3
    clear c3
    simp only [Option.some.injEq, Prod.mk.injEq] at H
    obtain ⟨rfl, rfl⟩ := H
    obtain ⟨Ao39, co39, eo39⟩ := Kd.R_slice HO_0.out
    subst eo39
    go_wp2
    go_ret
    exact ⟨by first | rfl | (simp [errW_none, errW_some] <;> rfl) | (simp [*, errW_none, errW_some] <;> rfl), by (with_reducible repeat (first | apply ra | apply rn | apply re)); exact HO_0.out, by repeat (first | (with_reducible first | exact HB.out | apply ba | apply bn | apply be) | exact HB.out), by repeat (first | (with_reducible first | exact HK.out | apply Kept.alloc | apply Kept.drewN | apply Kept.drew) | exact HK.out)⟩

end Go.Proofs.Ytlpghmopabihoaa.QFnExactAsksOf
