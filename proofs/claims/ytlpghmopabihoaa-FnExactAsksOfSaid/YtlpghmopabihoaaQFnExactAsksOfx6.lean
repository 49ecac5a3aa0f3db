/- Go functions as Lean functions, and their contracts. Own text: written by wip/gen/pr.py (a turned copy of the print). -/
import Derived.Test.YtlpghmopabihoaaQFnExactAsksOfx0
import Derived.Test.YtlpghmopabihoaaQFnExactAsksOfx5
namespace Go.Proofs.Ytlpghmopabihoaa.QFnExactAsksOf
open Go.RowKit Go.Proofs.YtlpghmopabihoaaW.PrintWords Go.Proofs.YtlpghmopabihoaaW.PrintLast Go.Proofs.YtlpghmopabihoaaW.PrintMore
attribute [local go_sem] max2_int min2_int max_two min_two max_three min_three max_four min_four   -- for this text's walks alone
open Go.Proofs.YtlpghmopabihoaaW.PrintWords renaming below_alloc → ba, pw_below_drewN → bn, below_drew1 → be, below_set → bs, blk_drewN → kn, blk_drew → ke, blk_alloc → ka, blk_below → kb, blk_frozen → kf, blk_cell → kc, below_step → bq, below_size → bz, blk_lt → kl
open Go.Proofs.YtlpghmopabihoaaW.PrintWords.Kd renaming C_alloc → ca, C_drewN → cn, C_drew → ce, C_below → cb
open Go.Proofs.YtlpghmopabihoaaW.PrintWords.Aside0 renaming mk → Am
set_option linter.unusedVariables false
set_option linter.unusedSimpArgs false

theorem cl6 {w w2 : World} {a : Addr} {v : Value} (h : Aside0 (Below w.heap.size w w2)) (e : w.cell? a = some v) : w2.cell? a = some v := (h.out.cell (World.block_lt_of_cell? w _ e)).trans e
def o6b0 (p0 : Int) (p1 : ByteArray) (p2 : Int) (p3 : Bool) (p4 : Option Addr) (p5 p6 : Nat) : Obj := .cells #[.int .i64 p0, .string p1, .int .i64 p2, .bool p3, .slice p4 p5 p6] 95 (0, 0)
def o6b1 (p0 : Int) (p1 : Int) (p2 : Bool) (p3 : Int) (p4 : ByteArray) (p5 : Int) (p6 : Bool) (p7 : Option Addr) (p8 p9 : Nat) : Obj := .cells #[.int .i64 p0, .int .i64 p1, .bool p2, .int .i64 p3, .string p4, .int .i64 p5, .bool p6, .slice p7 p8 p9] 125 (0, 0)
/-! ### laws_eqActS: function 18 -/
def laws_eqActS.l0 : Nat → List (S123) → List (S123) → Int → Option (Bool)
 | 0, _, _, _ => none
 | k + 1, x0, x1, x5 => if x5 < (x0.length : Int) then (if 0 ≤ x5 then (if x5 < (x1.length : Int) then ((laws_eqAct.f ((rd_T123 x0 x5).f0) ((rd_T123 x0 x5).f1) ((rd_T123 x0 x5).f2.f0) ((rd_T123 x0 x5).f2.f1) ((rd_T123 x0 x5).f2.f2) ((rd_T123 x0 x5).f2.f3) ((rd_T123 x0 x5).f2.f4) ((rd_T123 x0 x5).f2.f5) ((rd_T123 x0 x5).f3) ((rd_T123 x1 x5).f0) ((rd_T123 x1 x5).f1) ((rd_T123 x1 x5).f2.f0) ((rd_T123 x1 x5).f2.f1) ((rd_T123 x1 x5).f2.f2) ((rd_T123 x1 x5).f2.f3) ((rd_T123 x1 x5).f2.f4) ((rd_T123 x1 x5).f2.f5) ((rd_T123 x1 x5).f3)).bind fun t220 => (if t220 = true then (laws_eqActS.l0 k x0 x1 (wrap64 (x5 + 1))) else (some false))) else (none)) else (none)) else (some true)
def laws_eqActS.f (k : Nat) (l0 : List (S123)) (l1 : List (S123)) : Option (Bool) := if (l0.length : Int) = (l1.length : Int) then (laws_eqActS.l0 k l0 l1 0) else (some false)
theorem laws_eqActS.mono_l : ∀ k, (∀ y0 y1 y2, LeO (laws_eqActS.l0 k y0 y1 y2) (laws_eqActS.l0 (k + 1) y0 y1 y2))
 | 0 => fun _ _ _ r h => by simp [laws_eqActS.l0] at h
 | k + 1 => by
  have ih0 := laws_eqActS.mono_l k
  ·intro y0 y1 y2
   unfold laws_eqActS.l0
   repeat' first
   | (with_reducible exact ih0 _ _ _)
   | (with_reducible exact LeO.refl _)
   | (with_reducible exact LeO.none _)
   | (with_reducible refine LeO.ite ?_ ?_)
   | (with_reducible refine LeO.bind ?_ (fun _ => ?_))
   | exact ih0 _ _ _
   | exact LeO.none _
   | refine LeO.ite ?_ ?_
   | refine LeO.bind ?_ (fun _ => ?_)
theorem laws_eqActS.mono : ∀ a0 a1 k, LeO (laws_eqActS.f k a0 a1) (laws_eqActS.f (k + 1) a0 a1) := by
 intro a0 a1 k
 have ih0 := laws_eqActS.mono_l k
 unfold laws_eqActS.f
 repeat' first
   | (with_reducible exact ih0 _ _ _)
   | (with_reducible exact LeO.refl _)
   | (with_reducible exact LeO.none _)
   | (with_reducible refine LeO.ite ?_ ?_)
   | (with_reducible refine LeO.bind ?_ (fun _ => ?_))
   | exact ih0 _ _ _
   | exact LeO.none _
   | refine LeO.ite ?_ ?_
   | refine LeO.bind ?_ (fun _ => ?_)
def laws_eqActS.T6 : Bool × List (List Nat × List Nat) := (true, [([], []), ([], []), ([0, 1], [0, 1]), ([2], [2]), ([], []), ([], []), ([4, 5], [4, 5]), ([6], [6]), ([3, 7], [3, 7]), ([8], [8])])
def laws_eqActS.B6 : List Nat := [0, 0, 3, 7, 0, 0, 48, 112, 255, 511]
theorem laws_eqActS.tab6 : rtab .any (opsOf Try.f18 6) = laws_eqActS.T6 := by kernel_rfl
theorem laws_eqActS.bits6 : waitsOk laws_eqActS.T6.2 laws_eqActS.B6 = true := by kernel_rfl
set_option maxHeartbeats 8000000 in
set_option maxRecDepth 100000 in
theorem laws_eqActS.calls (k : Nat) (A0 : Option Addr) (c0 : Nat) (l0 : List (S123)) (A1 : Option Addr) (c1 : Nat) (l1 : List (S123)) (r : Bool) (w : World) (hr0 : Kd.C k123 w A0 l0.length l0) (hc0 : l0.length ≤ c0) (hr1 : Kd.C k123 w A1 l1.length l1) (hc1 : l1.length ≤ c1) (h : laws_eqActS.f k l0 l1 = some r) :
  Calls Try.prog 18 #[.slice A0 l0.length c0, .slice A1 l1.length c1] w fun e w' => e = .returned (.bool r) ∧ Below w.heap.size w w' := by
 have hu123 := Try.underlying123
 have HR0 := Am hr0
 have HC0 := Am hc0
 clear hr0 hc0
 have HR1 := Am hr1
 have HC1 := Am hc1
 clear hr1 hc1
 have HB := Am (Below.refl w.heap.size w)
 have H : (if (l0.length : Int) = (l1.length : Int) then (laws_eqActS.l0 k l0 l1 0) else (some false)) = some r := h
 clear h
 by_cases c3 : (l0.length : Int) = (l1.length : Int)
 ·rw [if_pos c3] at H
  have c3b0 : ((l0.length : Int) == (l1.length : Int)) = true := beq_iff_eq.mpr c3
  have c3b1 : ((l0.length : Int) != (l1.length : Int)) = false := bne_eq_false_iff_eq.mpr c3
  have c3b2 : (l0.length == l1.length) = true := by first | simpa using c3 | (simp at c3 ⊢; omega)
  clear c3
  have H' := Am H
  clear H
  go_enter Try.func18, Try.ntmps18
  go_wp2
  go_loopg [5] k (fun kq v5 w' => ∃ (x5_1 : Int), v5 = .int .i64 x5_1 ∧ Aside0 (laws_eqActS.l0 kq l0 l1 x5_1 = some r) ∧ Aside0 (kq ≤ k) ∧ Aside0 (Below w.heap.size w w'))
  case atStart => exact ⟨(0), (by first | rfl | (simp; done) | (simp [*]; done)), H', ⟨Nat.le_refl _⟩, ⟨by repeat (first | (with_reducible first | exact HB.out | apply ba | apply bn | apply be) | exact HB.out)⟩⟩
  case round =>
   clear H'
   try clear c1
   try clear p2
   try clear c3
   try clear c3b0
   try clear c3b1
   try clear c3b2
   obtain ⟨x5_1, rfl, HA, HK1, HB⟩ := hrel
   cases gk with
   | zero => exact absurd HA.out (by simp [laws_eqActS.l0])
   | succ k1 =>
    have H := HA.out
    clear HA
    simp only [laws_eqActS.l0] at H
    by_cases c4 : x5_1 < (l0.length : Int)
    ·rw [if_pos c4] at H
     have c4b0 : decide (x5_1 < (l0.length : Int)) = true := decide_eq_true c4
     clear c4
     by_cases c5 : 0 ≤ x5_1
     ·rw [if_pos c5] at H
      have c5b0 : decide (0 ≤ x5_1) = true := decide_eq_true c5
      clear c5
      by_cases c6 : x5_1 < (l1.length : Int)
      ·rw [if_pos c6] at H
       have c6b0 : decide (x5_1 < (l1.length : Int)) = true := decide_eq_true c6
       clear c6
       replace H := Option.bind_eq_some_iff.mp H
       obtain ⟨t220, A70, H⟩ := H
       replace H : (if t220 = true then (laws_eqActS.l0 k1 l0 l1 (wrap64 (x5_1 + 1))) else (some false)) = some r := H
       have A7 := Am A70
       clear A70
       by_cases c8 : t220 = true
       ·subst c8
        have H1 : (laws_eqActS.l0 k1 l0 l1 (wrap64 (x5_1 + 1))) = some r := by rw [if_pos rfl] at H; exact H
        clear H
        have H := H1
        clear H1
        have H' := Am H
        clear H
        try go_wp2
        have n0_ := Am (be HB.out)
        clear HB
        have HB := n0_
        clear n0_
        have p218 : 0 ≤ (x5_1 : Int) := of_decide_eq_true (by first | (with_reducible assumption) | assumption)
        have q218 : x5_1 < (l0.length : Int) := of_decide_eq_true (by first | (with_reducible assumption) | assumption)
        obtain ⟨ad218, e218, hx218_0, hx218_1, hx218_2, hx218_3, hx218_4, hx218_5, hx218_6, hx218_7, hx218_8⟩ := at_T123 HR0.out x5_1 p218 q218
        have hw218_8 := hx218_8
        have hw218_7 := hx218_7
        have hw218_6 := hx218_6
        have hw218_5 := hx218_5
        have hw218_4 := hx218_4
        have hw218_3 := hx218_3
        have hw218_2 := hx218_2
        have hw218_1 := hx218_1
        have hw218_0 := hx218_0
        cases e218
        replace hx218_0 := cl6 HB hx218_0
        replace hx218_1 := cl6 HB hx218_1
        replace hx218_2 := cl6 HB hx218_2
        replace hx218_3 := cl6 HB hx218_3
        replace hx218_4 := cl6 HB hx218_4
        replace hx218_5 := cl6 HB hx218_5
        replace hx218_6 := cl6 HB hx218_6
        replace hx218_7 := cl6 HB hx218_7
        replace hx218_8 := cl6 HB hx218_8
        replace p218 := eq_true p218
        replace q218 := eq_true q218
        have p219 : 0 ≤ (x5_1 : Int) := of_decide_eq_true (by first | (with_reducible assumption) | assumption)
        have q219 : x5_1 < (l1.length : Int) := of_decide_eq_true (by first | (with_reducible assumption) | assumption)
        obtain ⟨ad219, e219, hx219_0, hx219_1, hx219_2, hx219_3, hx219_4, hx219_5, hx219_6, hx219_7, hx219_8⟩ := at_T123 HR1.out x5_1 p219 q219
        have hw219_8 := hx219_8
        have hw219_7 := hx219_7
        have hw219_6 := hx219_6
        have hw219_5 := hx219_5
        have hw219_4 := hx219_4
        have hw219_3 := hx219_3
        have hw219_2 := hx219_2
        have hw219_1 := hx219_1
        have hw219_0 := hx219_0
        cases e219
        replace hx219_0 := cl6 HB hx219_0
        replace hx219_1 := cl6 HB hx219_1
        replace hx219_2 := cl6 HB hx219_2
        replace hx219_3 := cl6 HB hx219_3
        replace hx219_4 := cl6 HB hx219_4
        replace hx219_5 := cl6 HB hx219_5
        replace hx219_6 := cl6 HB hx219_6
        replace hx219_7 := cl6 HB hx219_7
        replace hx219_8 := cl6 HB hx219_8
        replace p219 := eq_true p219
        replace q219 := eq_true q219
        refine start_ (n := 10) (S := fun w' => w'.cell? (ad218.add ((x5_1).toNat * 9)) = some (.int .i64 ((rd_T123 l0 x5_1).f0)) ∧ w'.cell? ⟨(ad218.add ((x5_1).toNat * 9)).block, (ad218.add ((x5_1).toNat * 9)).off + 1, none⟩ = some (.int .i64 ((rd_T123 l0 x5_1).f1)) ∧ w'.cell? ⟨(ad218.add ((x5_1).toNat * 9)).block, (ad218.add ((x5_1).toNat * 9)).off + 2, none⟩ = some (.int .i64 ((rd_T123 l0 x5_1).f2.f0)) ∧ w'.cell? ⟨(ad218.add ((x5_1).toNat * 9)).block, (ad218.add ((x5_1).toNat * 9)).off + 3, none⟩ = some (.string ((rd_T123 l0 x5_1).f2.f1)) ∧ w'.cell? ⟨(ad218.add ((x5_1).toNat * 9)).block, (ad218.add ((x5_1).toNat * 9)).off + 4, none⟩ = some (.string ((rd_T123 l0 x5_1).f2.f2)) ∧ w'.cell? ⟨(ad218.add ((x5_1).toNat * 9)).block, (ad218.add ((x5_1).toNat * 9)).off + 5, none⟩ = some (.int .i64 ((rd_T123 l0 x5_1).f2.f3)) ∧ w'.cell? ⟨(ad218.add ((x5_1).toNat * 9)).block, (ad218.add ((x5_1).toNat * 9)).off + 6, none⟩ = some (.int .i64 ((rd_T123 l0 x5_1).f2.f4)) ∧ w'.cell? ⟨(ad218.add ((x5_1).toNat * 9)).block, (ad218.add ((x5_1).toNat * 9)).off + 7, none⟩ = some (.string ((rd_T123 l0 x5_1).f2.f5)) ∧ w'.cell? ⟨(ad218.add ((x5_1).toNat * 9)).block, (ad218.add ((x5_1).toNat * 9)).off + 8, none⟩ = some (.int .i64 ((rd_T123 l0 x5_1).f3)) ∧ w'.cell? (ad219.add ((x5_1).toNat * 9)) = some (.int .i64 ((rd_T123 l1 x5_1).f0)) ∧ w'.cell? ⟨(ad219.add ((x5_1).toNat * 9)).block, (ad219.add ((x5_1).toNat * 9)).off + 1, none⟩ = some (.int .i64 ((rd_T123 l1 x5_1).f1)) ∧ w'.cell? ⟨(ad219.add ((x5_1).toNat * 9)).block, (ad219.add ((x5_1).toNat * 9)).off + 2, none⟩ = some (.int .i64 ((rd_T123 l1 x5_1).f2.f0)) ∧ w'.cell? ⟨(ad219.add ((x5_1).toNat * 9)).block, (ad219.add ((x5_1).toNat * 9)).off + 3, none⟩ = some (.string ((rd_T123 l1 x5_1).f2.f1)) ∧ w'.cell? ⟨(ad219.add ((x5_1).toNat * 9)).block, (ad219.add ((x5_1).toNat * 9)).off + 4, none⟩ = some (.string ((rd_T123 l1 x5_1).f2.f2)) ∧ w'.cell? ⟨(ad219.add ((x5_1).toNat * 9)).block, (ad219.add ((x5_1).toNat * 9)).off + 5, none⟩ = some (.int .i64 ((rd_T123 l1 x5_1).f2.f3)) ∧ w'.cell? ⟨(ad219.add ((x5_1).toNat * 9)).block, (ad219.add ((x5_1).toNat * 9)).off + 6, none⟩ = some (.int .i64 ((rd_T123 l1 x5_1).f2.f4)) ∧ w'.cell? ⟨(ad219.add ((x5_1).toNat * 9)).block, (ad219.add ((x5_1).toNat * 9)).off + 7, none⟩ = some (.string ((rd_T123 l1 x5_1).f2.f5)) ∧ w'.cell? ⟨(ad219.add ((x5_1).toNat * 9)).block, (ad219.add ((x5_1).toNat * 9)).off + 8, none⟩ = some (.int .i64 ((rd_T123 l1 x5_1).f3))) (ds := []) #[false, false, false, false, false, false, false, false, false, false] (by kernel_rfl) rfl rfl ⟨(cl6 HB hw218_0), (cl6 HB hw218_1), (cl6 HB hw218_2), (cl6 HB hw218_3), (cl6 HB hw218_4), (cl6 HB hw218_5), (cl6 HB hw218_6), (cl6 HB hw218_7), (cl6 HB hw218_8), (cl6 HB hw219_0), (cl6 HB hw219_1), (cl6 HB hw219_2), (cl6 HB hw219_3), (cl6 HB hw219_4), (cl6 HB hw219_5), (cl6 HB hw219_6), (cl6 HB hw219_7), (cl6 HB hw219_8)⟩ (fun hHeld => ?_); refine with_tabW laws_eqActS.tab6 laws_eqActS.bits6 (fun HT_ HW_ => ?_)
        generalize wr.drew = w9 at HB hx218_0 hx218_1 hx218_2 hx218_3 hx218_4 hx218_5 hx218_6 hx218_7 hx218_8 hx219_0 hx219_1 hx219_2 hx219_3 hx219_4 hx219_5 hx219_6 hx219_7 hx219_8 hHeld ⊢
        refine pure_ (i := 0) (N := some 17) (v := ?_) (a' := ?_) #[true, false, false, false, false, false, false, false, false, false] rfl rfl (any_of HT_.out (by kernel_rfl)) (fun _ _ _ h => h) (Or.inl ⟨by rfl, ?_⟩) ?_ ?_
        rotate_left
        ·intro w'
         go_simp
         with_reducible rfl
        rotate_left
        ·simp only [Act.put, List.setIfInBounds_toArray, List.set_cons_zero, List.set_cons_succ, i64_w, i32_w]
         rfl
        refine pure_ (i := 1) (N := some 18) (v := ?_) (a' := ?_) #[true, true, false, false, false, false, false, false, false, false] rfl rfl (any_of HT_.out (by kernel_rfl)) (fun _ _ _ h => h) (Or.inl ⟨by rfl, ?_⟩) ?_ ?_
        rotate_left
        ·intro w'
         go_simp
         with_reducible rfl
        rotate_left
        ·simp only [Act.put, List.setIfInBounds_toArray, List.set_cons_zero, List.set_cons_succ, i64_w, i32_w]
         rfl
        refine pure_ (i := 2) (N := some 19) (v := ?_) (a' := ?_) #[true, true, true, false, false, false, false, false, false, false] rfl rfl (any_of HT_.out (by kernel_rfl)) (fun _ _ _ h => h) (Or.inl ⟨by rfl, ?_⟩) ?_ ?_
        rotate_left
        ·intro w'
         go_simp
         with_reducible rfl
        rotate_left
        ·simp only [Act.put, List.setIfInBounds_toArray, List.set_cons_zero, List.set_cons_succ, i64_w, i32_w]
         rfl
        refine pure_ (i := 4) (N := some 21) (v := ?_) (a' := ?_) #[true, true, true, false, true, false, false, false, false, false] rfl rfl (any_of HT_.out (by kernel_rfl)) (fun _ _ _ h => h) (Or.inl ⟨by rfl, ?_⟩) ?_ ?_
        rotate_left
        ·intro w'
         go_simp
         with_reducible rfl
        rotate_left
        ·simp only [Act.put, List.setIfInBounds_toArray, List.set_cons_zero, List.set_cons_succ, i64_w, i32_w]
         rfl
        refine pure_ (i := 5) (N := some 22) (v := ?_) (a' := ?_) #[true, true, true, false, true, true, false, false, false, false] rfl rfl (any_of HT_.out (by kernel_rfl)) (fun _ _ _ h => h) (Or.inl ⟨by rfl, ?_⟩) ?_ ?_
        rotate_left
        ·intro w'
         go_simp
         with_reducible rfl
        rotate_left
        ·simp only [Act.put, List.setIfInBounds_toArray, List.set_cons_zero, List.set_cons_succ, i64_w, i32_w]
         rfl
        refine pure_ (i := 6) (N := some 23) (v := ?_) (a' := ?_) #[true, true, true, false, true, true, true, false, false, false] rfl rfl (any_of HT_.out (by kernel_rfl)) (fun _ _ _ h => h) (Or.inl ⟨by rfl, ?_⟩) ?_ ?_
        rotate_left
        ·intro w'
         go_simp
         with_reducible rfl
        rotate_left
        ·simp only [Act.put, List.setIfInBounds_toArray, List.set_cons_zero, List.set_cons_succ, i64_w, i32_w]
         rfl
        refine take_ (i := 3) (N := some 20) (v := ?_) (a' := ?_) #[true, true, true, true, true, true, true, false, false, false] rfl rfl (take_ofW HT_.out HW_.out (by kernel_rfl)) (fun _ _ _ h => h) (Or.inl ⟨by rfl, ?_⟩) hHeld ?_ ?_
        rotate_left
        ·rintro w' ⟨s0, s1, s2, s3, s4, s5, s6, s7, s8, s9, s10, s11, s12, s13, s14, s15, s16, s17⟩
         go_simp
         with_reducible rfl
        rotate_left
        ·simp only [Act.put, List.setIfInBounds_toArray, List.set_cons_zero, List.set_cons_succ, i64_w, i32_w]
         rfl
        refine take_ (i := 7) (N := some 24) (v := ?_) (a' := ?_) #[true, true, true, true, true, true, true, true, false, false] rfl rfl (take_ofW HT_.out HW_.out (by kernel_rfl)) (fun _ _ _ h => h) (Or.inl ⟨by rfl, ?_⟩) hHeld ?_ ?_
        rotate_left
        ·rintro w' ⟨s0, s1, s2, s3, s4, s5, s6, s7, s8, s9, s10, s11, s12, s13, s14, s15, s16, s17⟩
         go_simp
         with_reducible rfl
        rotate_left
        ·simp only [Act.put, List.setIfInBounds_toArray, List.set_cons_zero, List.set_cons_succ, i64_w, i32_w]
         rfl
        refine one_ (i := 8) (N := some 25) #[true, true, true, true, true, true, true, true, true, false] rfl rfl (one_of HT_.out (by kernel_rfl)) (by decide) (fun K hK => ?_)
        refine goes_ Try.func85 (by kernel_rfl) rfl #[.agg #[.int .i64 ((rd_T123 l0 x5_1).f0), .int .i64 ((rd_T123 l0 x5_1).f1), .int .i64 ((rd_T123 l0 x5_1).f2.f0), .string ((rd_T123 l0 x5_1).f2.f1), .string ((rd_T123 l0 x5_1).f2.f2), .int .i64 ((rd_T123 l0 x5_1).f2.f3), .int .i64 ((rd_T123 l0 x5_1).f2.f4), .string ((rd_T123 l0 x5_1).f2.f5), .int .i64 ((rd_T123 l0 x5_1).f3)], .agg #[.int .i64 ((rd_T123 l1 x5_1).f0), .int .i64 ((rd_T123 l1 x5_1).f1), .int .i64 ((rd_T123 l1 x5_1).f2.f0), .string ((rd_T123 l1 x5_1).f2.f1), .string ((rd_T123 l1 x5_1).f2.f2), .int .i64 ((rd_T123 l1 x5_1).f2.f3), .int .i64 ((rd_T123 l1 x5_1).f2.f4), .string ((rd_T123 l1 x5_1).f2.f5), .int .i64 ((rd_T123 l1 x5_1).f3)]] (by rfl) rfl rfl (by (try simp only [List.map_toArray, List.map_cons, List.map_nil]); first | done | rfl | (simp only [List.length_drop, List.length_take]; rfl)) ?_
        with_reducible refine (laws_eqAct.calls ((rd_T123 l0 x5_1).f0) ((rd_T123 l0 x5_1).f1) ((rd_T123 l0 x5_1).f2.f0) ((rd_T123 l0 x5_1).f2.f1) ((rd_T123 l0 x5_1).f2.f2) ((rd_T123 l0 x5_1).f2.f3) ((rd_T123 l0 x5_1).f2.f4) ((rd_T123 l0 x5_1).f2.f5) ((rd_T123 l0 x5_1).f3) ((rd_T123 l1 x5_1).f0) ((rd_T123 l1 x5_1).f1) ((rd_T123 l1 x5_1).f2.f0) ((rd_T123 l1 x5_1).f2.f1) ((rd_T123 l1 x5_1).f2.f2) ((rd_T123 l1 x5_1).f2.f3) ((rd_T123 l1 x5_1).f2.f4) ((rd_T123 l1 x5_1).f2.f5) ((rd_T123 l1 x5_1).f3) true _ A7.out).mono ?_
        rintro e w10 ⟨rfl, hb⟩
        refine ⟨_, rfl, ?_⟩
        have n0_ := Am (bq (by repeat (first | (with_reducible first | exact HB.out | apply ba | apply bn | apply be) | exact HB.out)) hb)
        clear HB
        have HB := n0_
        clear n0_
        (try clear hb)
        (try clear hb2)
        (try clear hk)
        (try clear hi)
        refine hK.out _ _ ⟨(cl6 HB hw218_0), (cl6 HB hw218_1), (cl6 HB hw218_2), (cl6 HB hw218_3), (cl6 HB hw218_4), (cl6 HB hw218_5), (cl6 HB hw218_6), (cl6 HB hw218_7), (cl6 HB hw218_8), (cl6 HB hw219_0), (cl6 HB hw219_1), (cl6 HB hw219_2), (cl6 HB hw219_3), (cl6 HB hw219_4), (cl6 HB hw219_5), (cl6 HB hw219_6), (cl6 HB hw219_7), (cl6 HB hw219_8)⟩ (fun hHeld => ?_)
        clear hK K
        refine norm_ (a' := ?_) ?_ ?_
        rotate_left
        ·show Act.put _ (some 25) _ = _
         simp only [Act.put, List.setIfInBounds_toArray, List.set_cons_zero, List.set_cons_succ, i64_w, i32_w]
         rfl
        refine pure_ (i := 9) (N := some 26) (v := ?_) (a' := ?_) #[true, true, true, true, true, true, true, true, true, true] rfl rfl (any_of HT_.out (by kernel_rfl)) (fun _ _ _ h => h) (Or.inl ⟨by rfl, ?_⟩) ?_ ?_
        rotate_left
        ·intro w'
         go_simp
         with_reducible rfl
        rotate_left
        ·simp only [Act.put, List.setIfInBounds_toArray, List.set_cons_zero, List.set_cons_succ, i64_w, i32_w]
         rfl
        refine done_ (done_of HT_.out (by kernel_rfl)) ?_
        try go_wp2
        go_roundg k1
        case measure => have := HK1.out; omega
        case rel => exact ⟨(wrap64 (x5_1 + 1)), (by first | rfl | (simp; done) | (simp [*]; done)), H', ⟨by have := HK1.out; omega⟩, ⟨by repeat (first | (with_reducible first | exact HB.out | apply ba | apply bn | apply be) | exact HB.out)⟩⟩
       ·replace c8 := Bool.eq_false_iff.mpr c8
        subst c8
        have H1 : (some false) = some r := by rw [if_neg (show ¬ (false = true) by decide)] at H; exact H
        clear H
        have H := H1
        clear H1
        obtain rfl := Option.some.inj H
        try go_wp2
        have n0_ := Am (be HB.out)
        clear HB
        have HB := n0_
        clear n0_
        have p218 : 0 ≤ (x5_1 : Int) := of_decide_eq_true (by first | (with_reducible assumption) | assumption)
        have q218 : x5_1 < (l0.length : Int) := of_decide_eq_true (by first | (with_reducible assumption) | assumption)
        obtain ⟨ad218, e218, hx218_0, hx218_1, hx218_2, hx218_3, hx218_4, hx218_5, hx218_6, hx218_7, hx218_8⟩ := at_T123 HR0.out x5_1 p218 q218
        have hw218_8 := hx218_8
        have hw218_7 := hx218_7
        have hw218_6 := hx218_6
        have hw218_5 := hx218_5
        have hw218_4 := hx218_4
        have hw218_3 := hx218_3
        have hw218_2 := hx218_2
        have hw218_1 := hx218_1
        have hw218_0 := hx218_0
        cases e218
        replace hx218_0 := cl6 HB hx218_0
        replace hx218_1 := cl6 HB hx218_1
        replace hx218_2 := cl6 HB hx218_2
        replace hx218_3 := cl6 HB hx218_3
        replace hx218_4 := cl6 HB hx218_4
        replace hx218_5 := cl6 HB hx218_5
        replace hx218_6 := cl6 HB hx218_6
        replace hx218_7 := cl6 HB hx218_7
        replace hx218_8 := cl6 HB hx218_8
        replace p218 := eq_true p218
        replace q218 := eq_true q218
        have p219 : 0 ≤ (x5_1 : Int) := of_decide_eq_true (by first | (with_reducible assumption) | assumption)
        have q219 : x5_1 < (l1.length : Int) := of_decide_eq_true (by first | (with_reducible assumption) | assumption)
        obtain ⟨ad219, e219, hx219_0, hx219_1, hx219_2, hx219_3, hx219_4, hx219_5, hx219_6, hx219_7, hx219_8⟩ := at_T123 HR1.out x5_1 p219 q219
        have hw219_8 := hx219_8
        have hw219_7 := hx219_7
        have hw219_6 := hx219_6
        have hw219_5 := hx219_5
        have hw219_4 := hx219_4
        have hw219_3 := hx219_3
        have hw219_2 := hx219_2
        have hw219_1 := hx219_1
        have hw219_0 := hx219_0
        cases e219
        replace hx219_0 := cl6 HB hx219_0
        replace hx219_1 := cl6 HB hx219_1
        replace hx219_2 := cl6 HB hx219_2
        replace hx219_3 := cl6 HB hx219_3
        replace hx219_4 := cl6 HB hx219_4
        replace hx219_5 := cl6 HB hx219_5
        replace hx219_6 := cl6 HB hx219_6
        replace hx219_7 := cl6 HB hx219_7
        replace hx219_8 := cl6 HB hx219_8
        replace p219 := eq_true p219
        replace q219 := eq_true q219
        refine start_ (n := 10) (S := fun w' => w'.cell? (ad218.add ((x5_1).toNat * 9)) = some (.int .i64 ((rd_T123 l0 x5_1).f0)) ∧ w'.cell? ⟨(ad218.add ((x5_1).toNat * 9)).block, (ad218.add ((x5_1).toNat * 9)).off + 1, none⟩ = some (.int .i64 ((rd_T123 l0 x5_1).f1)) ∧ w'.cell? ⟨(ad218.add ((x5_1).toNat * 9)).block, (ad218.add ((x5_1).toNat * 9)).off + 2, none⟩ = some (.int .i64 ((rd_T123 l0 x5_1).f2.f0)) ∧ w'.cell? ⟨(ad218.add ((x5_1).toNat * 9)).block, (ad218.add ((x5_1).toNat * 9)).off + 3, none⟩ = some (.string ((rd_T123 l0 x5_1).f2.f1)) ∧ w'.cell? ⟨(ad218.add ((x5_1).toNat * 9)).block, (ad218.add ((x5_1).toNat * 9)).off + 4, none⟩ = some (.string ((rd_T123 l0 x5_1).f2.f2)) ∧ w'.cell? ⟨(ad218.add ((x5_1).toNat * 9)).block, (ad218.add ((x5_1).toNat * 9)).off + 5, none⟩ = some (.int .i64 ((rd_T123 l0 x5_1).f2.f3)) ∧ w'.cell? ⟨(ad218.add ((x5_1).toNat * 9)).block, (ad218.add ((x5_1).toNat * 9)).off + 6, none⟩ = some (.int .i64 ((rd_T123 l0 x5_1).f2.f4)) ∧ w'.cell? ⟨(ad218.add ((x5_1).toNat * 9)).block, (ad218.add ((x5_1).toNat * 9)).off + 7, none⟩ = some (.string ((rd_T123 l0 x5_1).f2.f5)) ∧ w'.cell? ⟨(ad218.add ((x5_1).toNat * 9)).block, (ad218.add ((x5_1).toNat * 9)).off + 8, none⟩ = some (.int .i64 ((rd_T123 l0 x5_1).f3)) ∧ w'.cell? (ad219.add ((x5_1).toNat * 9)) = some (.int .i64 ((rd_T123 l1 x5_1).f0)) ∧ w'.cell? ⟨(ad219.add ((x5_1).toNat * 9)).block, (ad219.add ((x5_1).toNat * 9)).off + 1, none⟩ = some (.int .i64 ((rd_T123 l1 x5_1).f1)) ∧ w'.cell? ⟨(ad219.add ((x5_1).toNat * 9)).block, (ad219.add ((x5_1).toNat * 9)).off + 2, none⟩ = some (.int .i64 ((rd_T123 l1 x5_1).f2.f0)) ∧ w'.cell? ⟨(ad219.add ((x5_1).toNat * 9)).block, (ad219.add ((x5_1).toNat * 9)).off + 3, none⟩ = some (.string ((rd_T123 l1 x5_1).f2.f1)) ∧ w'.cell? ⟨(ad219.add ((x5_1).toNat * 9)).block, (ad219.add ((x5_1).toNat * 9)).off + 4, none⟩ = some (.string ((rd_T123 l1 x5_1).f2.f2)) ∧ w'.cell? ⟨(ad219.add ((x5_1).toNat * 9)).block, (ad219.add ((x5_1).toNat * 9)).off + 5, none⟩ = some (.int .i64 ((rd_T123 l1 x5_1).f2.f3)) ∧ w'.cell? ⟨(ad219.add ((x5_1).toNat * 9)).block, (ad219.add ((x5_1).toNat * 9)).off + 6, none⟩ = some (.int .i64 ((rd_T123 l1 x5_1).f2.f4)) ∧ w'.cell? ⟨(ad219.add ((x5_1).toNat * 9)).block, (ad219.add ((x5_1).toNat * 9)).off + 7, none⟩ = some (.string ((rd_T123 l1 x5_1).f2.f5)) ∧ w'.cell? ⟨(ad219.add ((x5_1).toNat * 9)).block, (ad219.add ((x5_1).toNat * 9)).off + 8, none⟩ = some (.int .i64 ((rd_T123 l1 x5_1).f3))) (ds := []) #[false, false, false, false, false, false, false, false, false, false] (by kernel_rfl) rfl rfl ⟨(cl6 HB hw218_0), (cl6 HB hw218_1), (cl6 HB hw218_2), (cl6 HB hw218_3), (cl6 HB hw218_4), (cl6 HB hw218_5), (cl6 HB hw218_6), (cl6 HB hw218_7), (cl6 HB hw218_8), (cl6 HB hw219_0), (cl6 HB hw219_1), (cl6 HB hw219_2), (cl6 HB hw219_3), (cl6 HB hw219_4), (cl6 HB hw219_5), (cl6 HB hw219_6), (cl6 HB hw219_7), (cl6 HB hw219_8)⟩ (fun hHeld => ?_); refine with_tabW laws_eqActS.tab6 laws_eqActS.bits6 (fun HT_ HW_ => ?_)
        generalize wr.drew = w11 at HB hx218_0 hx218_1 hx218_2 hx218_3 hx218_4 hx218_5 hx218_6 hx218_7 hx218_8 hx219_0 hx219_1 hx219_2 hx219_3 hx219_4 hx219_5 hx219_6 hx219_7 hx219_8 hHeld ⊢
        refine pure_ (i := 0) (N := some 17) (v := ?_) (a' := ?_) #[true, false, false, false, false, false, false, false, false, false] rfl rfl (any_of HT_.out (by kernel_rfl)) (fun _ _ _ h => h) (Or.inl ⟨by rfl, ?_⟩) ?_ ?_
        rotate_left
        ·intro w'
         go_simp
         with_reducible rfl
        rotate_left
        ·simp only [Act.put, List.setIfInBounds_toArray, List.set_cons_zero, List.set_cons_succ, i64_w, i32_w]
         rfl
        refine pure_ (i := 1) (N := some 18) (v := ?_) (a' := ?_) #[true, true, false, false, false, false, false, false, false, false] rfl rfl (any_of HT_.out (by kernel_rfl)) (fun _ _ _ h => h) (Or.inl ⟨by rfl, ?_⟩) ?_ ?_
        rotate_left
        ·intro w'
         go_simp
         with_reducible rfl
        rotate_left
        ·simp only [Act.put, List.setIfInBounds_toArray, List.set_cons_zero, List.set_cons_succ, i64_w, i32_w]
         rfl
        refine pure_ (i := 2) (N := some 19) (v := ?_) (a' := ?_) #[true, true, true, false, false, false, false, false, false, false] rfl rfl (any_of HT_.out (by kernel_rfl)) (fun _ _ _ h => h) (Or.inl ⟨by rfl, ?_⟩) ?_ ?_
        rotate_left
        ·intro w'
         go_simp
         with_reducible rfl
        rotate_left
        ·simp only [Act.put, List.setIfInBounds_toArray, List.set_cons_zero, List.set_cons_succ, i64_w, i32_w]
         rfl
        refine pure_ (i := 4) (N := some 21) (v := ?_) (a' := ?_) #[true, true, true, false, true, false, false, false, false, false] rfl rfl (any_of HT_.out (by kernel_rfl)) (fun _ _ _ h => h) (Or.inl ⟨by rfl, ?_⟩) ?_ ?_
        rotate_left
        ·intro w'
         go_simp
         with_reducible rfl
        rotate_left
        ·simp only [Act.put, List.setIfInBounds_toArray, List.set_cons_zero, List.set_cons_succ, i64_w, i32_w]
         rfl
        refine pure_ (i := 5) (N := some 22) (v := ?_) (a' := ?_) #[true, true, true, false, true, true, false, false, false, false] rfl rfl (any_of HT_.out (by kernel_rfl)) (fun _ _ _ h => h) (Or.inl ⟨by rfl, ?_⟩) ?_ ?_
        rotate_left
        ·intro w'
         go_simp
         with_reducible rfl
        rotate_left
        ·simp only [Act.put, List.setIfInBounds_toArray, List.set_cons_zero, List.set_cons_succ, i64_w, i32_w]
         rfl
        refine pure_ (i := 6) (N := some 23) (v := ?_) (a' := ?_) #[true, true, true, false, true, true, true, false, false, false] rfl rfl (any_of HT_.out (by kernel_rfl)) (fun _ _ _ h => h) (Or.inl ⟨by rfl, ?_⟩) ?_ ?_
        rotate_left
        ·intro w'
         go_simp
         with_reducible rfl
        rotate_left
        ·simp only [Act.put, List.setIfInBounds_toArray, List.set_cons_zero, List.set_cons_succ, i64_w, i32_w]
         rfl
        refine take_ (i := 3) (N := some 20) (v := ?_) (a' := ?_) #[true, true, true, true, true, true, true, false, false, false] rfl rfl (take_ofW HT_.out HW_.out (by kernel_rfl)) (fun _ _ _ h => h) (Or.inl ⟨by rfl, ?_⟩) hHeld ?_ ?_
        rotate_left
        ·rintro w' ⟨s0, s1, s2, s3, s4, s5, s6, s7, s8, s9, s10, s11, s12, s13, s14, s15, s16, s17⟩
         go_simp
         with_reducible rfl
        rotate_left
        ·simp only [Act.put, List.setIfInBounds_toArray, List.set_cons_zero, List.set_cons_succ, i64_w, i32_w]
         rfl
        refine take_ (i := 7) (N := some 24) (v := ?_) (a' := ?_) #[true, true, true, true, true, true, true, true, false, false] rfl rfl (take_ofW HT_.out HW_.out (by kernel_rfl)) (fun _ _ _ h => h) (Or.inl ⟨by rfl, ?_⟩) hHeld ?_ ?_
        rotate_left
        ·rintro w' ⟨s0, s1, s2, s3, s4, s5, s6, s7, s8, s9, s10, s11, s12, s13, s14, s15, s16, s17⟩
         go_simp
         with_reducible rfl
        rotate_left
        ·simp only [Act.put, List.setIfInBounds_toArray, List.set_cons_zero, List.set_cons_succ, i64_w, i32_w]
         rfl
        refine one_ (i := 8) (N := some 25) #[true, true, true, true, true, true, true, true, true, false] rfl rfl (one_of HT_.out (by kernel_rfl)) (by decide) (fun K hK => ?_)
        refine goes_ Try.func85 (by kernel_rfl) rfl #[.agg #[.int .i64 ((rd_T123 l0 x5_1).f0), .int .i64 ((rd_T123 l0 x5_1).f1), .int .i64 ((rd_T123 l0 x5_1).f2.f0), .string ((rd_T123 l0 x5_1).f2.f1), .string ((rd_T123 l0 x5_1).f2.f2), .int .i64 ((rd_T123 l0 x5_1).f2.f3), .int .i64 ((rd_T123 l0 x5_1).f2.f4), .string ((rd_T123 l0 x5_1).f2.f5), .int .i64 ((rd_T123 l0 x5_1).f3)], .agg #[.int .i64 ((rd_T123 l1 x5_1).f0), .int .i64 ((rd_T123 l1 x5_1).f1), .int .i64 ((rd_T123 l1 x5_1).f2.f0), .string ((rd_T123 l1 x5_1).f2.f1), .string ((rd_T123 l1 x5_1).f2.f2), .int .i64 ((rd_T123 l1 x5_1).f2.f3), .int .i64 ((rd_T123 l1 x5_1).f2.f4), .string ((rd_T123 l1 x5_1).f2.f5), .int .i64 ((rd_T123 l1 x5_1).f3)]] (by rfl) rfl rfl (by (try simp only [List.map_toArray, List.map_cons, List.map_nil]); first | done | rfl | (simp only [List.length_drop, List.length_take]; rfl)) ?_
        with_reducible refine (laws_eqAct.calls ((rd_T123 l0 x5_1).f0) ((rd_T123 l0 x5_1).f1) ((rd_T123 l0 x5_1).f2.f0) ((rd_T123 l0 x5_1).f2.f1) ((rd_T123 l0 x5_1).f2.f2) ((rd_T123 l0 x5_1).f2.f3) ((rd_T123 l0 x5_1).f2.f4) ((rd_T123 l0 x5_1).f2.f5) ((rd_T123 l0 x5_1).f3) ((rd_T123 l1 x5_1).f0) ((rd_T123 l1 x5_1).f1) ((rd_T123 l1 x5_1).f2.f0) ((rd_T123 l1 x5_1).f2.f1) ((rd_T123 l1 x5_1).f2.f2) ((rd_T123 l1 x5_1).f2.f3) ((rd_T123 l1 x5_1).f2.f4) ((rd_T123 l1 x5_1).f2.f5) ((rd_T123 l1 x5_1).f3) false _ A7.out).mono ?_
        rintro e w12 ⟨rfl, hb⟩
        refine ⟨_, rfl, ?_⟩
        have n0_ := Am (bq (by repeat (first | (with_reducible first | exact HB.out | apply ba | apply bn | apply be) | exact HB.out)) hb)
        clear HB
        have HB := n0_
        clear n0_
        (try clear hb)
        (try clear hb2)
        (try clear hk)
        (try clear hi)
        refine hK.out _ _ ⟨(cl6 HB hw218_0), (cl6 HB hw218_1), (cl6 HB hw218_2), (cl6 HB hw218_3), (cl6 HB hw218_4), (cl6 HB hw218_5), (cl6 HB hw218_6), (cl6 HB hw218_7), (cl6 HB hw218_8), (cl6 HB hw219_0), (cl6 HB hw219_1), (cl6 HB hw219_2), (cl6 HB hw219_3), (cl6 HB hw219_4), (cl6 HB hw219_5), (cl6 HB hw219_6), (cl6 HB hw219_7), (cl6 HB hw219_8)⟩ (fun hHeld => ?_)
        clear hK K
        refine norm_ (a' := ?_) ?_ ?_
        rotate_left
        ·show Act.put _ (some 25) _ = _
         simp only [Act.put, List.setIfInBounds_toArray, List.set_cons_zero, List.set_cons_succ, i64_w, i32_w]
         rfl
        refine pure_ (i := 9) (N := some 26) (v := ?_) (a' := ?_) #[true, true, true, true, true, true, true, true, true, true] rfl rfl (any_of HT_.out (by kernel_rfl)) (fun _ _ _ h => h) (Or.inl ⟨by rfl, ?_⟩) ?_ ?_
        rotate_left
        ·intro w'
         go_simp
         with_reducible rfl
        rotate_left
        ·simp only [Act.put, List.setIfInBounds_toArray, List.set_cons_zero, List.set_cons_succ, i64_w, i32_w]
         rfl
        refine done_ (done_of HT_.out (by kernel_rfl)) ?_
        try go_wp2
        go_ret
        exact ⟨by first | rfl | (simp [errW_none, errW_some] <;> rfl) | (simp [*, errW_none, errW_some] <;> rfl), by repeat (first | (with_reducible first | exact HB.out | apply ba | apply bn | apply be) | exact HB.out)⟩
      ·rw [if_neg c6] at H
       exact absurd H (by simp)
     ·rw [if_neg c5] at H
      exact absurd H (by simp)
    ·rw [if_neg c4] at H
     have c4b0 : decide (x5_1 < (l0.length : Int)) = false := decide_eq_false c4
     clear c4
     obtain rfl := Option.some.inj H
     go_wp2
     go_ret
     exact ⟨by first | rfl | (simp [errW_none, errW_some] <;> rfl) | (simp [*, errW_none, errW_some] <;> rfl), by repeat (first | (with_reducible first | exact HB.out | apply ba | apply bn | apply be) | exact HB.out)⟩
 ·rw [if_neg c3] at H
  have c3b0 : ((l0.length : Int) == (l1.length : Int)) = false := beq_eq_false_iff_ne.mpr c3
  have c3b1 : ((l0.length : Int) != (l1.length : Int)) = true := bne_iff_ne.mpr c3
  have c3b2 : (l0.length == l1.length) = false := by first | simpa using c3 | (simp at c3 ⊢; omega)
  obtain rfl := Option.some.inj H
  go_enter Try.func18, Try.ntmps18
  go_wp2
  go_ret
  exact ⟨by first | rfl | (simp [errW_none, errW_some] <;> rfl) | (simp [*, errW_none, errW_some] <;> rfl), by repeat (first | (with_reducible first | exact HB.out | apply ba | apply bn | apply be) | exact HB.out)⟩

/-! ### laws_eqStringS: function 186 -/
def laws_eqStringS.l0 : Nat → List ByteArray → List ByteArray → Int → Option (Bool)
 | 0, _, _, _ => none
 | k + 1, x0, x1, x5 => if x5 < (x0.length : Int) then (if 0 ≤ x5 then (if x5 < (x1.length : Int) then (if (rdOf ByteArray.empty x0 x5).toList = (rdOf ByteArray.empty x1 x5).toList then (laws_eqStringS.l0 k x0 x1 (wrap64 (x5 + 1))) else (some false)) else (none)) else (none)) else (some true)
def laws_eqStringS.f (k : Nat) (l0 : List ByteArray) (l1 : List ByteArray) : Option (Bool) := if (l0.length : Int) = (l1.length : Int) then (laws_eqStringS.l0 k l0 l1 0) else (some false)
theorem laws_eqStringS.mono_l : ∀ k, (∀ y0 y1 y2, LeO (laws_eqStringS.l0 k y0 y1 y2) (laws_eqStringS.l0 (k + 1) y0 y1 y2))
 | 0 => fun _ _ _ r h => by simp [laws_eqStringS.l0] at h
 | k + 1 => by
  have ih0 := laws_eqStringS.mono_l k
  ·intro y0 y1 y2
   unfold laws_eqStringS.l0
   repeat' first
   | (with_reducible exact ih0 _ _ _)
   | (with_reducible exact LeO.refl _)
   | (with_reducible exact LeO.none _)
   | (with_reducible refine LeO.ite ?_ ?_)
   | (with_reducible refine LeO.bind ?_ (fun _ => ?_))
   | exact ih0 _ _ _
   | exact LeO.none _
   | refine LeO.ite ?_ ?_
   | refine LeO.bind ?_ (fun _ => ?_)
theorem laws_eqStringS.mono : ∀ a0 a1 k, LeO (laws_eqStringS.f k a0 a1) (laws_eqStringS.f (k + 1) a0 a1) := by
 intro a0 a1 k
 have ih0 := laws_eqStringS.mono_l k
 unfold laws_eqStringS.f
 repeat' first
   | (with_reducible exact ih0 _ _ _)
   | (with_reducible exact LeO.refl _)
   | (with_reducible exact LeO.none _)
   | (with_reducible refine LeO.ite ?_ ?_)
   | (with_reducible refine LeO.bind ?_ (fun _ => ?_))
   | exact ih0 _ _ _
   | exact LeO.none _
   | refine LeO.ite ?_ ?_
   | refine LeO.bind ?_ (fun _ => ?_)
set_option maxHeartbeats 8000000 in
set_option maxRecDepth 100000 in
theorem laws_eqStringS.calls (k : Nat) (A0 : Option Addr) (c0 : Nat) (l0 : List ByteArray) (A1 : Option Addr) (c1 : Nat) (l1 : List ByteArray) (r : Bool) (w : World) (hr0 : Kd.C Kd.string w A0 l0.length l0) (hc0 : l0.length ≤ c0) (hr1 : Kd.C Kd.string w A1 l1.length l1) (hc1 : l1.length ≤ c1) (h : laws_eqStringS.f k l0 l1 = some r) :
  Calls Try.prog 186 #[.slice A0 l0.length c0, .slice A1 l1.length c1] w fun e w' => e = .returned (.bool r) ∧ Drawn0 w w' := by
 have HR0 := Am hr0
 have HC0 := Am hc0
 clear hr0 hc0
 have HR1 := Am hr1
 have HC1 := Am hc1
 clear hr1 hc1
 have H : (if (l0.length : Int) = (l1.length : Int) then (laws_eqStringS.l0 k l0 l1 0) else (some false)) = some r := h
 clear h
 by_cases c3 : (l0.length : Int) = (l1.length : Int)
 ·rw [if_pos c3] at H
  have c3b0 : ((l0.length : Int) == (l1.length : Int)) = true := beq_iff_eq.mpr c3
  have c3b1 : ((l0.length : Int) != (l1.length : Int)) = false := bne_eq_false_iff_eq.mpr c3
  have c3b2 : (l0.length == l1.length) = true := by first | simpa using c3 | (simp at c3 ⊢; omega)
  clear c3
  have H' := Am H
  clear H
  go_enter Try.func186, Try.ntmps186
  go_wp2
  repeat (go_quiet (fail); try go_wp2)
  go_loopg [5] k (fun kq v5 w' => ∃ (x5_1 : Int), v5 = .int .i64 x5_1 ∧ Aside0 (laws_eqStringS.l0 kq l0 l1 x5_1 = some r) ∧ Aside0 (kq ≤ k) ∧ Drawn0 w w')
  case atStart => exact ⟨(0), (by first | rfl | (simp; done) | (simp [*]; done)), H', ⟨Nat.le_refl _⟩, by repeat (first | exact Drawn0.refl _ | apply Drawn0.step)⟩
  case round =>
   clear H'
   try clear c1
   try clear p2
   try clear c3
   try clear c3b0
   try clear c3b1
   try clear c3b2
   obtain ⟨x5_1, rfl, HA, HK1, ⟨m1, rfl⟩⟩ := hrel
   cases gk with
   | zero => exact absurd HA.out (by simp [laws_eqStringS.l0])
   | succ k1 =>
    have H := HA.out
    clear HA
    simp only [laws_eqStringS.l0] at H
    by_cases c4 : x5_1 < (l0.length : Int)
    ·rw [if_pos c4] at H
     have c4b0 : decide (x5_1 < (l0.length : Int)) = true := decide_eq_true c4
     clear c4
     by_cases c5 : 0 ≤ x5_1
     ·rw [if_pos c5] at H
      have c5b0 : decide (0 ≤ x5_1) = true := decide_eq_true c5
      clear c5
      by_cases c6 : x5_1 < (l1.length : Int)
      ·rw [if_pos c6] at H
       have c6b0 : decide (x5_1 < (l1.length : Int)) = true := decide_eq_true c6
       clear c6
       by_cases c7 : (rdOf ByteArray.empty l0 x5_1).toList = (rdOf ByteArray.empty l1 x5_1).toList
       ·rw [if_pos c7] at H
        have c7b0 : ((rdOf ByteArray.empty l0 x5_1).toList == (rdOf ByteArray.empty l1 x5_1).toList) = true := beq_iff_eq.mpr c7
        have c7b1 : ((rdOf ByteArray.empty l0 x5_1).toList != (rdOf ByteArray.empty l1 x5_1).toList) = false := bne_eq_false_iff_eq.mpr c7
        clear c7
        have H' := Am H
        clear H
        have p221 : 0 ≤ (x5_1 : Int) := of_decide_eq_true (by first | (with_reducible assumption) | assumption)
        have q221 : x5_1 < (l0.length : Int) := of_decide_eq_true (by first | (with_reducible assumption) | assumption)
        obtain ⟨ad221, e221, hx221_0⟩ := Kd.at_string HR0.out x5_1 p221 q221
        cases e221
        replace p221 := eq_true p221
        replace q221 := eq_true q221
        have p222 : 0 ≤ (x5_1 : Int) := of_decide_eq_true (by first | (with_reducible assumption) | assumption)
        have q222 : x5_1 < (l1.length : Int) := of_decide_eq_true (by first | (with_reducible assumption) | assumption)
        obtain ⟨ad222, e222, hx222_0⟩ := Kd.at_string HR1.out x5_1 p222 q222
        cases e222
        replace p222 := eq_true p222
        replace q222 := eq_true q222
        go_wp2
        repeat (go_quiet (fail); try go_wp2)
        go_roundg k1
        case measure => have := HK1.out; omega
        case rel => exact ⟨(wrap64 (x5_1 + 1)), (by first | rfl | (simp; done) | (simp [*]; done)), H', ⟨by have := HK1.out; omega⟩, by repeat (first | exact Drawn0.refl _ | apply Drawn0.step)⟩
       ·rw [if_neg c7] at H
        have c7b0 : ((rdOf ByteArray.empty l0 x5_1).toList == (rdOf ByteArray.empty l1 x5_1).toList) = false := beq_eq_false_iff_ne.mpr c7
        have c7b1 : ((rdOf ByteArray.empty l0 x5_1).toList != (rdOf ByteArray.empty l1 x5_1).toList) = true := bne_iff_ne.mpr c7
        obtain rfl := Option.some.inj H
        have p221 : 0 ≤ (x5_1 : Int) := of_decide_eq_true (by first | (with_reducible assumption) | assumption)
        have q221 : x5_1 < (l0.length : Int) := of_decide_eq_true (by first | (with_reducible assumption) | assumption)
        obtain ⟨ad221, e221, hx221_0⟩ := Kd.at_string HR0.out x5_1 p221 q221
        cases e221
        replace p221 := eq_true p221
        replace q221 := eq_true q221
        have p222 : 0 ≤ (x5_1 : Int) := of_decide_eq_true (by first | (with_reducible assumption) | assumption)
        have q222 : x5_1 < (l1.length : Int) := of_decide_eq_true (by first | (with_reducible assumption) | assumption)
        obtain ⟨ad222, e222, hx222_0⟩ := Kd.at_string HR1.out x5_1 p222 q222
        cases e222
        replace p222 := eq_true p222
        replace q222 := eq_true q222
        go_wp2
        repeat (go_quiet (fail); try go_wp2)
        go_ret
        exact ⟨by first | rfl | (simp; done) | (simp [*]; done), by repeat (first | exact Drawn0.refl _ | apply Drawn0.step)⟩
      ·rw [if_neg c6] at H
       exact absurd H (by simp)
     ·rw [if_neg c5] at H
      exact absurd H (by simp)
    ·rw [if_neg c4] at H
     have c4b0 : decide (x5_1 < (l0.length : Int)) = false := decide_eq_false c4
     clear c4
     obtain rfl := Option.some.inj H
     go_wp2
     repeat (go_quiet (fail); try go_wp2)
     go_ret
     exact ⟨by first | rfl | (simp; done) | (simp [*]; done), by repeat (first | exact Drawn0.refl _ | apply Drawn0.step)⟩
 ·rw [if_neg c3] at H
  have c3b0 : ((l0.length : Int) == (l1.length : Int)) = false := beq_eq_false_iff_ne.mpr c3
  have c3b1 : ((l0.length : Int) != (l1.length : Int)) = true := bne_iff_ne.mpr c3
  have c3b2 : (l0.length == l1.length) = false := by first | simpa using c3 | (simp at c3 ⊢; omega)
  obtain rfl := Option.some.inj H
  go_enter Try.func186, Try.ntmps186
  go_wp2
  repeat (go_quiet (fail); try go_wp2)
  go_ret
  exact ⟨by first | rfl | (simp; done) | (simp [*]; done), by repeat (first | exact Drawn0.refl _ | apply Drawn0.step)⟩

/-! ### laws_eqResult: function 149 -/
def laws_eqResult.f (k : Nat) (a0_0 : Int) (a0_1 : ByteArray) (a0_2 : Int) (a0_3 : Bool) (l0_4 : List ByteArray) (a1_0 : Int) (a1_1 : ByteArray) (a1_2 : Int) (a1_3 : Bool) (l1_4 : List ByteArray) : Option (Bool) := if a0_0 = a1_0 then (if a0_1.toList = a1_1.toList then (if a0_2 = a1_2 then (if (a0_3 != a1_3) = true then (some false) else ((laws_eqStringS.f k l0_4 l1_4).bind fun t225 => (if t225 = true then (some true) else (some false)))) else (some false)) else (some false)) else (some false)
theorem laws_eqResult.mono : ∀ a0 a1 a2 a3 a4 a5 a6 a7 a8 a9 k, LeO (laws_eqResult.f k a0 a1 a2 a3 a4 a5 a6 a7 a8 a9) (laws_eqResult.f (k + 1) a0 a1 a2 a3 a4 a5 a6 a7 a8 a9) := by
 intro a0 a1 a2 a3 a4 a5 a6 a7 a8 a9 k
 unfold laws_eqResult.f
 repeat' first
   | (with_reducible exact laws_eqStringS.mono _ _ _)
   | (with_reducible exact LeO.refl _)
   | (with_reducible exact LeO.none _)
   | (with_reducible refine LeO.ite ?_ ?_)
   | (with_reducible refine LeO.bind ?_ (fun _ => ?_))
   | exact laws_eqStringS.mono _ _ _
   | exact LeO.none _
   | refine LeO.ite ?_ ?_
   | refine LeO.bind ?_ (fun _ => ?_)
set_option maxHeartbeats 8000000 in
set_option maxRecDepth 100000 in
theorem laws_eqResult.calls (k : Nat) (a0_0 : Int) (a0_1 : ByteArray) (a0_2 : Int) (a0_3 : Bool) (A0_4 : Option Addr) (c0_4 : Nat) (l0_4 : List ByteArray) (a1_0 : Int) (a1_1 : ByteArray) (a1_2 : Int) (a1_3 : Bool) (A1_4 : Option Addr) (c1_4 : Nat) (l1_4 : List ByteArray) (r : Bool) (w : World) (hr0_4 : Kd.C Kd.string w A0_4 l0_4.length l0_4) (hc0_4 : l0_4.length ≤ c0_4) (hr1_4 : Kd.C Kd.string w A1_4 l1_4.length l1_4) (hc1_4 : l1_4.length ≤ c1_4) (h : laws_eqResult.f k a0_0 a0_1 a0_2 a0_3 l0_4 a1_0 a1_1 a1_2 a1_3 l1_4 = some r) :
  Calls Try.prog 149 #[.agg #[.int .i64 a0_0, .string a0_1, .int .i64 a0_2, .bool a0_3, .slice A0_4 l0_4.length c0_4], .agg #[.int .i64 a1_0, .string a1_1, .int .i64 a1_2, .bool a1_3, .slice A1_4 l1_4.length c1_4]] w fun e w' => e = .returned (.bool r) ∧ Below w.heap.size w w' := by
 have hu95 := Try.underlying95
 have HR0_4 := Am hr0_4
 have HC0_4 := Am hc0_4
 clear hr0_4 hc0_4
 have HR1_4 := Am hr1_4
 have HC1_4 := Am hc1_4
 clear hr1_4 hc1_4
 have HB := Am (Below.refl w.heap.size w)
 have H : (if a0_0 = a1_0 then (if a0_1.toList = a1_1.toList then (if a0_2 = a1_2 then (if (a0_3 != a1_3) = true then (some false) else ((laws_eqStringS.f k l0_4 l1_4).bind fun t225 => (if t225 = true then (some true) else (some false)))) else (some false)) else (some false)) else (some false)) = some r := h
 clear h
 by_cases c3 : a0_0 = a1_0
 ·rw [if_pos c3] at H
  have c3b0 : (a0_0 == a1_0) = true := beq_iff_eq.mpr c3
  have c3b1 : (a0_0 != a1_0) = false := bne_eq_false_iff_eq.mpr c3
  clear c3
  by_cases c4 : a0_1.toList = a1_1.toList
  ·rw [if_pos c4] at H
   have c4b0 : (a0_1.toList == a1_1.toList) = true := beq_iff_eq.mpr c4
   have c4b1 : (a0_1.toList != a1_1.toList) = false := bne_eq_false_iff_eq.mpr c4
   clear c4
   by_cases c5 : a0_2 = a1_2
   ·rw [if_pos c5] at H
    have c5b0 : (a0_2 == a1_2) = true := beq_iff_eq.mpr c5
    have c5b1 : (a0_2 != a1_2) = false := bne_eq_false_iff_eq.mpr c5
    clear c5
    by_cases c6 : (a0_3 != a1_3) = true
    ·rw [if_pos c6] at H
     have c6b0 : (a0_3 != a1_3) = true := c6
     (try (have c6b1 : decide (a0_3 = a1_3) = false := by simpa using c6))
     (try (have c6b2 : (a0_3 == a1_3) = false := by simpa using c6))
     (try (have c6b3 : ¬ (a0_3 = a1_3) := by simpa using c6))
     clear c6
     obtain rfl := Option.some.inj H
     go_enter Try.func149, Try.ntmps149
     go_wp2_with (first | ((with_reducible refine gate_dst (N := 2) rfl ?_); refine box_event ?hg (N := 2) ?hd (cs := #[.int .i64 a0_0, .string a0_1, .int .i64 a0_2, .bool a0_3, .slice A0_4 l0_4.length c0_4]) (t := 95) ?hr ?_; (case hd => rfl); (case hg => rfl); (case hr => first | (go_simp; done) | (go_simp; rfl)); intro gb223 hg w7 hbox hb; have BK223 := Am (hbox); have GW223 := Am ((by rw [hg]; exact (bz (by repeat (first | (with_reducible first | exact HB.out | apply ba | apply bn | apply be) | exact HB.out))) : w.heap.size ≤ gb223)); have GE223 := Am ((by rw [hg]; exact (bz (by repeat (first | (with_reducible first | exact HB.out | apply ba | apply bn | apply be) | exact HB.out))) : w.heap.size ≤ gb223)); replace HB := Am (bq (by repeat (first | (with_reducible first | exact HB.out | apply ba | apply bn | apply be) | exact HB.out)) hb); clear hb hbox hg) | ((with_reducible refine gate_dst (N := 3) rfl ?_); refine box_event ?hg (N := 3) ?hd (cs := #[.int .i64 a1_0, .string a1_1, .int .i64 a1_2, .bool a1_3, .slice A1_4 l1_4.length c1_4]) (t := 95) ?hr ?_; (case hd => rfl); (case hg => rfl); (case hr => first | (go_simp; done) | (go_simp; rfl)); intro gb224 hg w8 hbox hb; have n0_ := Am (kb (g := gb223) (o := o6b0 a0_0 a0_1 a0_2 a0_3 A0_4 l0_4.length c0_4) (by (with_reducible repeat (first | refine kn ?_ _ | refine ke ?_ | refine ka ?_ _)); exact BK223.out) hb); have n1_ := Am (bq (by repeat (first | (with_reducible first | exact HB.out | apply ba | apply bn | apply be | refine bs ?_ GE223.out) | exact HB.out)) hb); have n2_ := Am (hbox); have n3_ := Am ((by rw [hg]; exact (bz (by repeat (first | (with_reducible first | exact HB.out | apply ba | apply bn | apply be | refine bs ?_ GE223.out) | exact HB.out))) : w.heap.size ≤ gb224)); have n4_ := Am ((by rw [hg]; exact (bz (by repeat (first | (with_reducible first | exact HB.out | apply ba | apply bn | apply be | refine bs ?_ GE223.out) | exact HB.out))) : w.heap.size ≤ gb224)); have n5_ := Am ((by rw [hg]; exact Nat.ne_of_lt (kl (g := gb223) (o := o6b0 a0_0 a0_1 a0_2 a0_3 A0_4 l0_4.length c0_4) (by (with_reducible repeat (first | refine kn ?_ _ | refine ke ?_ | refine ka ?_ _)); exact BK223.out)) : gb223 ≠ gb224)); have n6_ := Am ((by rw [hg]; exact Nat.ne_of_gt (kl (g := gb223) (o := o6b0 a0_0 a0_1 a0_2 a0_3 A0_4 l0_4.length c0_4) (by (with_reducible repeat (first | refine kn ?_ _ | refine ke ?_ | refine ka ?_ _)); exact BK223.out)) : gb224 ≠ gb223)); clear BK223; clear HB; have BK223 := n0_; have HB := n1_; have BK224 := n2_; have GW224 := n3_; have GE224 := n4_; have NB223_224 := n5_; have NB224_223 := n6_; clear n0_ n1_ n2_ n3_ n4_ n5_ n6_; clear hb hbox hg; have hnb9 := NB223_224.out; have hnc9 := NB224_223.out; have hcz10_0 : w8.cell? ⟨gb223, 0, none⟩ = some (.int .i64 a0_0) := (kc BK223.out 0).trans rfl; have hcz10_1 : w8.cell? ⟨gb223, 1, none⟩ = some (.string a0_1) := (kc BK223.out 1).trans rfl; have hcz10_2 : w8.cell? ⟨gb223, 2, none⟩ = some (.int .i64 a0_2) := (kc BK223.out 2).trans rfl; have hcz10_3 : w8.cell? ⟨gb223, 3, none⟩ = some (.bool a0_3) := (kc BK223.out 3).trans rfl; have hcz10_4 : w8.cell? ⟨gb223, 4, none⟩ = some (.slice A0_4 l0_4.length c0_4) := (kc BK223.out 4).trans rfl; have hfz10_0 := kf BK223.out 0; have hfz10_1 := kf BK223.out 1; have hfz10_2 := kf BK223.out 2; have hfz10_3 := kf BK223.out 3; have hfz10_4 := kf BK223.out 4; have hcz11_0 : w8.cell? ⟨gb224, 0, none⟩ = some (.int .i64 a1_0) := (kc BK224.out 0).trans rfl; have hcz11_1 : w8.cell? ⟨gb224, 1, none⟩ = some (.string a1_1) := (kc BK224.out 1).trans rfl; have hcz11_2 : w8.cell? ⟨gb224, 2, none⟩ = some (.int .i64 a1_2) := (kc BK224.out 2).trans rfl; have hcz11_3 : w8.cell? ⟨gb224, 3, none⟩ = some (.bool a1_3) := (kc BK224.out 3).trans rfl; have hcz11_4 : w8.cell? ⟨gb224, 4, none⟩ = some (.slice A1_4 l1_4.length c1_4) := (kc BK224.out 4).trans rfl; have hfz11_0 := kf BK224.out 0; have hfz11_1 := kf BK224.out 1; have hfz11_2 := kf BK224.out 2; have hfz11_3 := kf BK224.out 3; have hfz11_4 := kf BK224.out 4))
     go_ret
     exact ⟨by first | rfl | (simp [errW_none, errW_some] <;> rfl) | (simp [*, errW_none, errW_some] <;> rfl), by repeat (first | (with_reducible first | exact HB.out | apply ba | apply bn | apply be | refine bs ?_ GE223.out | refine bs ?_ GE224.out) | exact HB.out)⟩
    ·rw [if_neg c6] at H
     have c6b0 : (a0_3 != a1_3) = false := by simpa using c6
     (try (have c6b1 : decide (a0_3 = a1_3) = true := by simpa using c6))
     (try (have c6b2 : (a0_3 == a1_3) = true := by simpa using c6))
     clear c6
     replace H := Option.bind_eq_some_iff.mp H
     obtain ⟨t225, A120, H⟩ := H
     replace H : (if t225 = true then (some true) else (some false)) = some r := H
     have A12 := Am A120
     clear A120
     by_cases c13 : t225 = true
     ·subst c13
      have H1 : (some true) = some r := by rw [if_pos rfl] at H; exact H
      clear H
      have H := H1
      clear H1
      obtain rfl := Option.some.inj H
      go_enter Try.func149, Try.ntmps149
      go_wp2_with (first | ((with_reducible refine gate_dst (N := 2) rfl ?_); refine box_event ?hg (N := 2) ?hd (cs := #[.int .i64 a0_0, .string a0_1, .int .i64 a0_2, .bool a0_3, .slice A0_4 l0_4.length c0_4]) (t := 95) ?hr ?_; (case hd => rfl); (case hg => rfl); (case hr => first | (go_simp; done) | (go_simp; rfl)); intro gb223 hg w14 hbox hb; have BK223 := Am (hbox); have GW223 := Am ((by rw [hg]; exact (bz (by repeat (first | (with_reducible first | exact HB.out | apply ba | apply bn | apply be) | exact HB.out))) : w.heap.size ≤ gb223)); have GE223 := Am ((by rw [hg]; exact (bz (by repeat (first | (with_reducible first | exact HB.out | apply ba | apply bn | apply be) | exact HB.out))) : w.heap.size ≤ gb223)); replace HB := Am (bq (by repeat (first | (with_reducible first | exact HB.out | apply ba | apply bn | apply be) | exact HB.out)) hb); clear hb hbox hg) | ((with_reducible refine gate_dst (N := 3) rfl ?_); refine box_event ?hg (N := 3) ?hd (cs := #[.int .i64 a1_0, .string a1_1, .int .i64 a1_2, .bool a1_3, .slice A1_4 l1_4.length c1_4]) (t := 95) ?hr ?_; (case hd => rfl); (case hg => rfl); (case hr => first | (go_simp; done) | (go_simp; rfl)); intro gb224 hg w15 hbox hb; have n0_ := Am (kb (g := gb223) (o := o6b0 a0_0 a0_1 a0_2 a0_3 A0_4 l0_4.length c0_4) (by (with_reducible repeat (first | refine kn ?_ _ | refine ke ?_ | refine ka ?_ _)); exact BK223.out) hb); have n1_ := Am (bq (by repeat (first | (with_reducible first | exact HB.out | apply ba | apply bn | apply be | refine bs ?_ GE223.out) | exact HB.out)) hb); have n2_ := Am (hbox); have n3_ := Am ((by rw [hg]; exact (bz (by repeat (first | (with_reducible first | exact HB.out | apply ba | apply bn | apply be | refine bs ?_ GE223.out) | exact HB.out))) : w.heap.size ≤ gb224)); have n4_ := Am ((by rw [hg]; exact (bz (by repeat (first | (with_reducible first | exact HB.out | apply ba | apply bn | apply be | refine bs ?_ GE223.out) | exact HB.out))) : w.heap.size ≤ gb224)); have n5_ := Am ((by rw [hg]; exact Nat.ne_of_lt (kl (g := gb223) (o := o6b0 a0_0 a0_1 a0_2 a0_3 A0_4 l0_4.length c0_4) (by (with_reducible repeat (first | refine kn ?_ _ | refine ke ?_ | refine ka ?_ _)); exact BK223.out)) : gb223 ≠ gb224)); have n6_ := Am ((by rw [hg]; exact Nat.ne_of_gt (kl (g := gb223) (o := o6b0 a0_0 a0_1 a0_2 a0_3 A0_4 l0_4.length c0_4) (by (with_reducible repeat (first | refine kn ?_ _ | refine ke ?_ | refine ka ?_ _)); exact BK223.out)) : gb224 ≠ gb223)); clear BK223; clear HB; have BK223 := n0_; have HB := n1_; have BK224 := n2_; have GW224 := n3_; have GE224 := n4_; have NB223_224 := n5_; have NB224_223 := n6_; clear n0_ n1_ n2_ n3_ n4_ n5_ n6_; clear hb hbox hg; have hnb16 := NB223_224.out; have hnc16 := NB224_223.out; have hcz17_0 : w15.cell? ⟨gb223, 0, none⟩ = some (.int .i64 a0_0) := (kc BK223.out 0).trans rfl; have hcz17_1 : w15.cell? ⟨gb223, 1, none⟩ = some (.string a0_1) := (kc BK223.out 1).trans rfl; have hcz17_2 : w15.cell? ⟨gb223, 2, none⟩ = some (.int .i64 a0_2) := (kc BK223.out 2).trans rfl; have hcz17_3 : w15.cell? ⟨gb223, 3, none⟩ = some (.bool a0_3) := (kc BK223.out 3).trans rfl; have hcz17_4 : w15.cell? ⟨gb223, 4, none⟩ = some (.slice A0_4 l0_4.length c0_4) := (kc BK223.out 4).trans rfl; have hfz17_0 := kf BK223.out 0; have hfz17_1 := kf BK223.out 1; have hfz17_2 := kf BK223.out 2; have hfz17_3 := kf BK223.out 3; have hfz17_4 := kf BK223.out 4; have hcz18_0 : w15.cell? ⟨gb224, 0, none⟩ = some (.int .i64 a1_0) := (kc BK224.out 0).trans rfl; have hcz18_1 : w15.cell? ⟨gb224, 1, none⟩ = some (.string a1_1) := (kc BK224.out 1).trans rfl; have hcz18_2 : w15.cell? ⟨gb224, 2, none⟩ = some (.int .i64 a1_2) := (kc BK224.out 2).trans rfl; have hcz18_3 : w15.cell? ⟨gb224, 3, none⟩ = some (.bool a1_3) := (kc BK224.out 3).trans rfl; have hcz18_4 : w15.cell? ⟨gb224, 4, none⟩ = some (.slice A1_4 l1_4.length c1_4) := (kc BK224.out 4).trans rfl; have hfz18_0 := kf BK224.out 0; have hfz18_1 := kf BK224.out 1; have hfz18_2 := kf BK224.out 2; have hfz18_3 := kf BK224.out 3; have hfz18_4 := kf BK224.out 4) | ((with_reducible refine gate_callee (f := 186) rfl ?_); refine goesL_ (some 29) rfl rfl Try.func186 (by kernel_rfl) rfl #[.slice A0_4 l0_4.length c0_4, .slice A1_4 l1_4.length c1_4] rfl (by (try simp only [List.map_toArray, List.map_cons, List.map_nil]); first | done | rfl | (simp only [List.length_drop, List.length_take]; rfl)) ?_; (with_reducible refine (laws_eqStringS.calls k _ _ l0_4 _ _ l1_4 true _ ?side1 ?side2 ?side3 ?side4 A12.out).mono ?_); (case side1 => repeat (first | exact (cb HR0_4.out HB.out) | (with_reducible first | refine ca ?_ _ | refine cn ?_ _ | refine ce ?_))); (case side2 => exact HC0_4.out); (case side3 => repeat (first | exact (cb HR1_4.out HB.out) | (with_reducible first | refine ca ?_ _ | refine cn ?_ _ | refine ce ?_))); (case side4 => exact HC1_4.out); rintro e w' ⟨rfl, ⟨nd, rfl⟩⟩; refine ⟨_, rfl, ?_⟩))
      go_ret
      exact ⟨by first | rfl | (simp [errW_none, errW_some] <;> rfl) | (simp [*, errW_none, errW_some] <;> rfl), by repeat (first | (with_reducible first | exact HB.out | apply ba | apply bn | apply be | refine bs ?_ GE223.out | refine bs ?_ GE224.out) | exact HB.out)⟩
     ·replace c13 := Bool.eq_false_iff.mpr c13
      subst c13
      have H1 : (some false) = some r := by rw [if_neg (show ¬ (false = true) by decide)] at H; exact H
      clear H
      have H := H1
      clear H1
      obtain rfl := Option.some.inj H
      go_enter Try.func149, Try.ntmps149
      go_wp2_with (first | ((with_reducible refine gate_dst (N := 2) rfl ?_); refine box_event ?hg (N := 2) ?hd (cs := #[.int .i64 a0_0, .string a0_1, .int .i64 a0_2, .bool a0_3, .slice A0_4 l0_4.length c0_4]) (t := 95) ?hr ?_; (case hd => rfl); (case hg => rfl); (case hr => first | (go_simp; done) | (go_simp; rfl)); intro gb223 hg w19 hbox hb; have BK223 := Am (hbox); have GW223 := Am ((by rw [hg]; exact (bz (by repeat (first | (with_reducible first | exact HB.out | apply ba | apply bn | apply be) | exact HB.out))) : w.heap.size ≤ gb223)); have GE223 := Am ((by rw [hg]; exact (bz (by repeat (first | (with_reducible first | exact HB.out | apply ba | apply bn | apply be) | exact HB.out))) : w.heap.size ≤ gb223)); replace HB := Am (bq (by repeat (first | (with_reducible first | exact HB.out | apply ba | apply bn | apply be) | exact HB.out)) hb); clear hb hbox hg) | ((with_reducible refine gate_dst (N := 3) rfl ?_); refine box_event ?hg (N := 3) ?hd (cs := #[.int .i64 a1_0, .string a1_1, .int .i64 a1_2, .bool a1_3, .slice A1_4 l1_4.length c1_4]) (t := 95) ?hr ?_; (case hd => rfl); (case hg => rfl); (case hr => first | (go_simp; done) | (go_simp; rfl)); intro gb224 hg w20 hbox hb; have n0_ := Am (kb (g := gb223) (o := o6b0 a0_0 a0_1 a0_2 a0_3 A0_4 l0_4.length c0_4) (by (with_reducible repeat (first | refine kn ?_ _ | refine ke ?_ | refine ka ?_ _)); exact BK223.out) hb); have n1_ := Am (bq (by repeat (first | (with_reducible first | exact HB.out | apply ba | apply bn | apply be | refine bs ?_ GE223.out) | exact HB.out)) hb); have n2_ := Am (hbox); have n3_ := Am ((by rw [hg]; exact (bz (by repeat (first | (with_reducible first | exact HB.out | apply ba | apply bn | apply be | refine bs ?_ GE223.out) | exact HB.out))) : w.heap.size ≤ gb224)); have n4_ := Am ((by rw [hg]; exact (bz (by repeat (first | (with_reducible first | exact HB.out | apply ba | apply bn | apply be | refine bs ?_ GE223.out) | exact HB.out))) : w.heap.size ≤ gb224)); have n5_ := Am ((by rw [hg]; exact Nat.ne_of_lt (kl (g := gb223) (o := o6b0 a0_0 a0_1 a0_2 a0_3 A0_4 l0_4.length c0_4) (by (with_reducible repeat (first | refine kn ?_ _ | refine ke ?_ | refine ka ?_ _)); exact BK223.out)) : gb223 ≠ gb224)); have n6_ := Am ((by rw [hg]; exact Nat.ne_of_gt (kl (g := gb223) (o := o6b0 a0_0 a0_1 a0_2 a0_3 A0_4 l0_4.length c0_4) (by (with_reducible repeat (first | refine kn ?_ _ | refine ke ?_ | refine ka ?_ _)); exact BK223.out)) : gb224 ≠ gb223)); clear BK223; clear HB; have BK223 := n0_; have HB := n1_; have BK224 := n2_; have GW224 := n3_; have GE224 := n4_; have NB223_224 := n5_; have NB224_223 := n6_; clear n0_ n1_ n2_ n3_ n4_ n5_ n6_; clear hb hbox hg; have hnb21 := NB223_224.out; have hnc21 := NB224_223.out; have hcz22_0 : w20.cell? ⟨gb223, 0, none⟩ = some (.int .i64 a0_0) := (kc BK223.out 0).trans rfl; have hcz22_1 : w20.cell? ⟨gb223, 1, none⟩ = some (.string a0_1) := (kc BK223.out 1).trans rfl; have hcz22_2 : w20.cell? ⟨gb223, 2, none⟩ = some (.int .i64 a0_2) := (kc BK223.out 2).trans rfl; have hcz22_3 : w20.cell? ⟨gb223, 3, none⟩ = some (.bool a0_3) := (kc BK223.out 3).trans rfl; have hcz22_4 : w20.cell? ⟨gb223, 4, none⟩ = some (.slice A0_4 l0_4.length c0_4) := (kc BK223.out 4).trans rfl; have hfz22_0 := kf BK223.out 0; have hfz22_1 := kf BK223.out 1; have hfz22_2 := kf BK223.out 2; have hfz22_3 := kf BK223.out 3; have hfz22_4 := kf BK223.out 4; have hcz23_0 : w20.cell? ⟨gb224, 0, none⟩ = some (.int .i64 a1_0) := (kc BK224.out 0).trans rfl; have hcz23_1 : w20.cell? ⟨gb224, 1, none⟩ = some (.string a1_1) := (kc BK224.out 1).trans rfl; have hcz23_2 : w20.cell? ⟨gb224, 2, none⟩ = some (.int .i64 a1_2) := (kc BK224.out 2).trans rfl; have hcz23_3 : w20.cell? ⟨gb224, 3, none⟩ = some (.bool a1_3) := (kc BK224.out 3).trans rfl; have hcz23_4 : w20.cell? ⟨gb224, 4, none⟩ = some (.slice A1_4 l1_4.length c1_4) := (kc BK224.out 4).trans rfl; have hfz23_0 := kf BK224.out 0; have hfz23_1 := kf BK224.out 1; have hfz23_2 := kf BK224.out 2; have hfz23_3 := kf BK224.out 3; have hfz23_4 := kf BK224.out 4) | ((with_reducible refine gate_callee (f := 186) rfl ?_); refine goesL_ (some 29) rfl rfl Try.func186 (by kernel_rfl) rfl #[.slice A0_4 l0_4.length c0_4, .slice A1_4 l1_4.length c1_4] rfl (by (try simp only [List.map_toArray, List.map_cons, List.map_nil]); first | done | rfl | (simp only [List.length_drop, List.length_take]; rfl)) ?_; (with_reducible refine (laws_eqStringS.calls k _ _ l0_4 _ _ l1_4 false _ ?side1 ?side2 ?side3 ?side4 A12.out).mono ?_); (case side1 => repeat (first | exact (cb HR0_4.out HB.out) | (with_reducible first | refine ca ?_ _ | refine cn ?_ _ | refine ce ?_))); (case side2 => exact HC0_4.out); (case side3 => repeat (first | exact (cb HR1_4.out HB.out) | (with_reducible first | refine ca ?_ _ | refine cn ?_ _ | refine ce ?_))); (case side4 => exact HC1_4.out); rintro e w' ⟨rfl, ⟨nd, rfl⟩⟩; refine ⟨_, rfl, ?_⟩))
      go_ret
      exact ⟨by first | rfl | (simp [errW_none, errW_some] <;> rfl) | (simp [*, errW_none, errW_some] <;> rfl), by repeat (first | (with_reducible first | exact HB.out | apply ba | apply bn | apply be | refine bs ?_ GE223.out | refine bs ?_ GE224.out) | exact HB.out)⟩
   ·rw [if_neg c5] at H
    have c5b0 : (a0_2 == a1_2) = false := beq_eq_false_iff_ne.mpr c5
    have c5b1 : (a0_2 != a1_2) = true := bne_iff_ne.mpr c5
    obtain rfl := Option.some.inj H
    go_enter Try.func149, Try.ntmps149
    go_wp2_with (first | ((with_reducible refine gate_dst (N := 2) rfl ?_); refine box_event ?hg (N := 2) ?hd (cs := #[.int .i64 a0_0, .string a0_1, .int .i64 a0_2, .bool a0_3, .slice A0_4 l0_4.length c0_4]) (t := 95) ?hr ?_; (case hd => rfl); (case hg => rfl); (case hr => first | (go_simp; done) | (go_simp; rfl)); intro gb223 hg w24 hbox hb; have BK223 := Am (hbox); have GW223 := Am ((by rw [hg]; exact (bz (by repeat (first | (with_reducible first | exact HB.out | apply ba | apply bn | apply be) | exact HB.out))) : w.heap.size ≤ gb223)); have GE223 := Am ((by rw [hg]; exact (bz (by repeat (first | (with_reducible first | exact HB.out | apply ba | apply bn | apply be) | exact HB.out))) : w.heap.size ≤ gb223)); replace HB := Am (bq (by repeat (first | (with_reducible first | exact HB.out | apply ba | apply bn | apply be) | exact HB.out)) hb); clear hb hbox hg) | ((with_reducible refine gate_dst (N := 3) rfl ?_); refine box_event ?hg (N := 3) ?hd (cs := #[.int .i64 a1_0, .string a1_1, .int .i64 a1_2, .bool a1_3, .slice A1_4 l1_4.length c1_4]) (t := 95) ?hr ?_; (case hd => rfl); (case hg => rfl); (case hr => first | (go_simp; done) | (go_simp; rfl)); intro gb224 hg w25 hbox hb; have n0_ := Am (kb (g := gb223) (o := o6b0 a0_0 a0_1 a0_2 a0_3 A0_4 l0_4.length c0_4) (by (with_reducible repeat (first | refine kn ?_ _ | refine ke ?_ | refine ka ?_ _)); exact BK223.out) hb); have n1_ := Am (bq (by repeat (first | (with_reducible first | exact HB.out | apply ba | apply bn | apply be | refine bs ?_ GE223.out) | exact HB.out)) hb); have n2_ := Am (hbox); have n3_ := Am ((by rw [hg]; exact (bz (by repeat (first | (with_reducible first | exact HB.out | apply ba | apply bn | apply be | refine bs ?_ GE223.out) | exact HB.out))) : w.heap.size ≤ gb224)); have n4_ := Am ((by rw [hg]; exact (bz (by repeat (first | (with_reducible first | exact HB.out | apply ba | apply bn | apply be | refine bs ?_ GE223.out) | exact HB.out))) : w.heap.size ≤ gb224)); have n5_ := Am ((by rw [hg]; exact Nat.ne_of_lt (kl (g := gb223) (o := o6b0 a0_0 a0_1 a0_2 a0_3 A0_4 l0_4.length c0_4) (by (with_reducible repeat (first | refine kn ?_ _ | refine ke ?_ | refine ka ?_ _)); exact BK223.out)) : gb223 ≠ gb224)); have n6_ := Am ((by rw [hg]; exact Nat.ne_of_gt (kl (g := gb223) (o := o6b0 a0_0 a0_1 a0_2 a0_3 A0_4 l0_4.length c0_4) (by (with_reducible repeat (first | refine kn ?_ _ | refine ke ?_ | refine ka ?_ _)); exact BK223.out)) : gb224 ≠ gb223)); clear BK223; clear HB; have BK223 := n0_; have HB := n1_; have BK224 := n2_; have GW224 := n3_; have GE224 := n4_; have NB223_224 := n5_; have NB224_223 := n6_; clear n0_ n1_ n2_ n3_ n4_ n5_ n6_; clear hb hbox hg; have hnb26 := NB223_224.out; have hnc26 := NB224_223.out; have hcz27_0 : w25.cell? ⟨gb223, 0, none⟩ = some (.int .i64 a0_0) := (kc BK223.out 0).trans rfl; have hcz27_1 : w25.cell? ⟨gb223, 1, none⟩ = some (.string a0_1) := (kc BK223.out 1).trans rfl; have hcz27_2 : w25.cell? ⟨gb223, 2, none⟩ = some (.int .i64 a0_2) := (kc BK223.out 2).trans rfl; have hcz27_3 : w25.cell? ⟨gb223, 3, none⟩ = some (.bool a0_3) := (kc BK223.out 3).trans rfl; have hcz27_4 : w25.cell? ⟨gb223, 4, none⟩ = some (.slice A0_4 l0_4.length c0_4) := (kc BK223.out 4).trans rfl; have hfz27_0 := kf BK223.out 0; have hfz27_1 := kf BK223.out 1; have hfz27_2 := kf BK223.out 2; have hfz27_3 := kf BK223.out 3; have hfz27_4 := kf BK223.out 4; have hcz28_0 : w25.cell? ⟨gb224, 0, none⟩ = some (.int .i64 a1_0) := (kc BK224.out 0).trans rfl; have hcz28_1 : w25.cell? ⟨gb224, 1, none⟩ = some (.string a1_1) := (kc BK224.out 1).trans rfl; have hcz28_2 : w25.cell? ⟨gb224, 2, none⟩ = some (.int .i64 a1_2) := (kc BK224.out 2).trans rfl; have hcz28_3 : w25.cell? ⟨gb224, 3, none⟩ = some (.bool a1_3) := (kc BK224.out 3).trans rfl; have hcz28_4 : w25.cell? ⟨gb224, 4, none⟩ = some (.slice A1_4 l1_4.length c1_4) := (kc BK224.out 4).trans rfl; have hfz28_0 := kf BK224.out 0; have hfz28_1 := kf BK224.out 1; have hfz28_2 := kf BK224.out 2; have hfz28_3 := kf BK224.out 3; have hfz28_4 := kf BK224.out 4))
    go_ret
    exact ⟨by first | rfl | (simp [errW_none, errW_some] <;> rfl) | (simp [*, errW_none, errW_some] <;> rfl), by repeat (first | (with_reducible first | exact HB.out | apply ba | apply bn | apply be | refine bs ?_ GE223.out | refine bs ?_ GE224.out) | exact HB.out)⟩
  ·rw [if_neg c4] at H
   have c4b0 : (a0_1.toList == a1_1.toList) = false := beq_eq_false_iff_ne.mpr c4
   have c4b1 : (a0_1.toList != a1_1.toList) = true := bne_iff_ne.mpr c4
   obtain rfl := Option.some.inj H
   go_enter Try.func149, Try.ntmps149
   go_wp2_with (first | ((with_reducible refine gate_dst (N := 2) rfl ?_); refine box_event ?hg (N := 2) ?hd (cs := #[.int .i64 a0_0, .string a0_1, .int .i64 a0_2, .bool a0_3, .slice A0_4 l0_4.length c0_4]) (t := 95) ?hr ?_; (case hd => rfl); (case hg => rfl); (case hr => first | (go_simp; done) | (go_simp; rfl)); intro gb223 hg w29 hbox hb; have BK223 := Am (hbox); have GW223 := Am ((by rw [hg]; exact (bz (by repeat (first | (with_reducible first | exact HB.out | apply ba | apply bn | apply be) | exact HB.out))) : w.heap.size ≤ gb223)); have GE223 := Am ((by rw [hg]; exact (bz (by repeat (first | (with_reducible first | exact HB.out | apply ba | apply bn | apply be) | exact HB.out))) : w.heap.size ≤ gb223)); replace HB := Am (bq (by repeat (first | (with_reducible first | exact HB.out | apply ba | apply bn | apply be) | exact HB.out)) hb); clear hb hbox hg) | ((with_reducible refine gate_dst (N := 3) rfl ?_); refine box_event ?hg (N := 3) ?hd (cs := #[.int .i64 a1_0, .string a1_1, .int .i64 a1_2, .bool a1_3, .slice A1_4 l1_4.length c1_4]) (t := 95) ?hr ?_; (case hd => rfl); (case hg => rfl); (case hr => first | (go_simp; done) | (go_simp; rfl)); intro gb224 hg w30 hbox hb; have n0_ := Am (kb (g := gb223) (o := o6b0 a0_0 a0_1 a0_2 a0_3 A0_4 l0_4.length c0_4) (by (with_reducible repeat (first | refine kn ?_ _ | refine ke ?_ | refine ka ?_ _)); exact BK223.out) hb); have n1_ := Am (bq (by repeat (first | (with_reducible first | exact HB.out | apply ba | apply bn | apply be | refine bs ?_ GE223.out) | exact HB.out)) hb); have n2_ := Am (hbox); have n3_ := Am ((by rw [hg]; exact (bz (by repeat (first | (with_reducible first | exact HB.out | apply ba | apply bn | apply be | refine bs ?_ GE223.out) | exact HB.out))) : w.heap.size ≤ gb224)); have n4_ := Am ((by rw [hg]; exact (bz (by repeat (first | (with_reducible first | exact HB.out | apply ba | apply bn | apply be | refine bs ?_ GE223.out) | exact HB.out))) : w.heap.size ≤ gb224)); have n5_ := Am ((by rw [hg]; exact Nat.ne_of_lt (kl (g := gb223) (o := o6b0 a0_0 a0_1 a0_2 a0_3 A0_4 l0_4.length c0_4) (by (with_reducible repeat (first | refine kn ?_ _ | refine ke ?_ | refine ka ?_ _)); exact BK223.out)) : gb223 ≠ gb224)); have n6_ := Am ((by rw [hg]; exact Nat.ne_of_gt (kl (g := gb223) (o := o6b0 a0_0 a0_1 a0_2 a0_3 A0_4 l0_4.length c0_4) (by (with_reducible repeat (first | refine kn ?_ _ | refine ke ?_ | refine ka ?_ _)); exact BK223.out)) : gb224 ≠ gb223)); clear BK223; clear HB; have BK223 := n0_; have HB := n1_; have BK224 := n2_; have GW224 := n3_; have GE224 := n4_; have NB223_224 := n5_; have NB224_223 := n6_; clear n0_ n1_ n2_ n3_ n4_ n5_ n6_; clear hb hbox hg; have hnb31 := NB223_224.out; have hnc31 := NB224_223.out; have hcz32_0 : w30.cell? ⟨gb223, 0, none⟩ = some (.int .i64 a0_0) := (kc BK223.out 0).trans rfl; have hcz32_1 : w30.cell? ⟨gb223, 1, none⟩ = some (.string a0_1) := (kc BK223.out 1).trans rfl; have hcz32_2 : w30.cell? ⟨gb223, 2, none⟩ = some (.int .i64 a0_2) := (kc BK223.out 2).trans rfl; have hcz32_3 : w30.cell? ⟨gb223, 3, none⟩ = some (.bool a0_3) := (kc BK223.out 3).trans rfl; have hcz32_4 : w30.cell? ⟨gb223, 4, none⟩ = some (.slice A0_4 l0_4.length c0_4) := (kc BK223.out 4).trans rfl; have hfz32_0 := kf BK223.out 0; have hfz32_1 := kf BK223.out 1; have hfz32_2 := kf BK223.out 2; have hfz32_3 := kf BK223.out 3; have hfz32_4 := kf BK223.out 4; have hcz33_0 : w30.cell? ⟨gb224, 0, none⟩ = some (.int .i64 a1_0) := (kc BK224.out 0).trans rfl; have hcz33_1 : w30.cell? ⟨gb224, 1, none⟩ = some (.string a1_1) := (kc BK224.out 1).trans rfl; have hcz33_2 : w30.cell? ⟨gb224, 2, none⟩ = some (.int .i64 a1_2) := (kc BK224.out 2).trans rfl; have hcz33_3 : w30.cell? ⟨gb224, 3, none⟩ = some (.bool a1_3) := (kc BK224.out 3).trans rfl; have hcz33_4 : w30.cell? ⟨gb224, 4, none⟩ = some (.slice A1_4 l1_4.length c1_4) := (kc BK224.out 4).trans rfl; have hfz33_0 := kf BK224.out 0; have hfz33_1 := kf BK224.out 1; have hfz33_2 := kf BK224.out 2; have hfz33_3 := kf BK224.out 3; have hfz33_4 := kf BK224.out 4))
   go_ret
   exact ⟨by first | rfl | (simp [errW_none, errW_some] <;> rfl) | (simp [*, errW_none, errW_some] <;> rfl), by repeat (first | (with_reducible first | exact HB.out | apply ba | apply bn | apply be | refine bs ?_ GE223.out | refine bs ?_ GE224.out) | exact HB.out)⟩
 ·rw [if_neg c3] at H
  have c3b0 : (a0_0 == a1_0) = false := beq_eq_false_iff_ne.mpr c3
  have c3b1 : (a0_0 != a1_0) = true := bne_iff_ne.mpr c3
  obtain rfl := Option.some.inj H
  go_enter Try.func149, Try.ntmps149
  go_wp2_with (first | ((with_reducible refine gate_dst (N := 2) rfl ?_); refine box_event ?hg (N := 2) ?hd (cs := #[.int .i64 a0_0, .string a0_1, .int .i64 a0_2, .bool a0_3, .slice A0_4 l0_4.length c0_4]) (t := 95) ?hr ?_; (case hd => rfl); (case hg => rfl); (case hr => first | (go_simp; done) | (go_simp; rfl)); intro gb223 hg w34 hbox hb; have BK223 := Am (hbox); have GW223 := Am ((by rw [hg]; exact (bz (by repeat (first | (with_reducible first | exact HB.out | apply ba | apply bn | apply be) | exact HB.out))) : w.heap.size ≤ gb223)); have GE223 := Am ((by rw [hg]; exact (bz (by repeat (first | (with_reducible first | exact HB.out | apply ba | apply bn | apply be) | exact HB.out))) : w.heap.size ≤ gb223)); replace HB := Am (bq (by repeat (first | (with_reducible first | exact HB.out | apply ba | apply bn | apply be) | exact HB.out)) hb); clear hb hbox hg) | ((with_reducible refine gate_dst (N := 3) rfl ?_); refine box_event ?hg (N := 3) ?hd (cs := #[.int .i64 a1_0, .string a1_1, .int .i64 a1_2, .bool a1_3, .slice A1_4 l1_4.length c1_4]) (t := 95) ?hr ?_; (case hd => rfl); (case hg => rfl); (case hr => first | (go_simp; done) | (go_simp; rfl)); intro gb224 hg w35 hbox hb; have n0_ := Am (kb (g := gb223) (o := o6b0 a0_0 a0_1 a0_2 a0_3 A0_4 l0_4.length c0_4) (by (with_reducible repeat (first | refine kn ?_ _ | refine ke ?_ | refine ka ?_ _)); exact BK223.out) hb); have n1_ := Am (bq (by repeat (first | (with_reducible first | exact HB.out | apply ba | apply bn | apply be | refine bs ?_ GE223.out) | exact HB.out)) hb); have n2_ := Am (hbox); have n3_ := Am ((by rw [hg]; exact (bz (by repeat (first | (with_reducible first | exact HB.out | apply ba | apply bn | apply be | refine bs ?_ GE223.out) | exact HB.out))) : w.heap.size ≤ gb224)); have n4_ := Am ((by rw [hg]; exact (bz (by repeat (first | (with_reducible first | exact HB.out | apply ba | apply bn | apply be | refine bs ?_ GE223.out) | exact HB.out))) : w.heap.size ≤ gb224)); have n5_ := Am ((by rw [hg]; exact Nat.ne_of_lt (kl (g := gb223) (o := o6b0 a0_0 a0_1 a0_2 a0_3 A0_4 l0_4.length c0_4) (by (with_reducible repeat (first | refine kn ?_ _ | refine ke ?_ | refine ka ?_ _)); exact BK223.out)) : gb223 ≠ gb224)); have n6_ := Am ((by rw [hg]; exact Nat.ne_of_gt (kl (g := gb223) (o := o6b0 a0_0 a0_1 a0_2 a0_3 A0_4 l0_4.length c0_4) (by (with_reducible repeat (first | refine kn ?_ _ | refine ke ?_ | refine ka ?_ _)); exact BK223.out)) : gb224 ≠ gb223)); clear BK223; clear HB; have BK223 := n0_; have HB := n1_; have BK224 := n2_; have GW224 := n3_; have GE224 := n4_; have NB223_224 := n5_; have NB224_223 := n6_; clear n0_ n1_ n2_ n3_ n4_ n5_ n6_; clear hb hbox hg; have hnb36 := NB223_224.out; have hnc36 := NB224_223.out; have hcz37_0 : w35.cell? ⟨gb223, 0, none⟩ = some (.int .i64 a0_0) := (kc BK223.out 0).trans rfl; have hcz37_1 : w35.cell? ⟨gb223, 1, none⟩ = some (.string a0_1) := (kc BK223.out 1).trans rfl; have hcz37_2 : w35.cell? ⟨gb223, 2, none⟩ = some (.int .i64 a0_2) := (kc BK223.out 2).trans rfl; have hcz37_3 : w35.cell? ⟨gb223, 3, none⟩ = some (.bool a0_3) := (kc BK223.out 3).trans rfl; have hcz37_4 : w35.cell? ⟨gb223, 4, none⟩ = some (.slice A0_4 l0_4.length c0_4) := (kc BK223.out 4).trans rfl; have hfz37_0 := kf BK223.out 0; have hfz37_1 := kf BK223.out 1; have hfz37_2 := kf BK223.out 2; have hfz37_3 := kf BK223.out 3; have hfz37_4 := kf BK223.out 4; have hcz38_0 : w35.cell? ⟨gb224, 0, none⟩ = some (.int .i64 a1_0) := (kc BK224.out 0).trans rfl; have hcz38_1 : w35.cell? ⟨gb224, 1, none⟩ = some (.string a1_1) := (kc BK224.out 1).trans rfl; have hcz38_2 : w35.cell? ⟨gb224, 2, none⟩ = some (.int .i64 a1_2) := (kc BK224.out 2).trans rfl; have hcz38_3 : w35.cell? ⟨gb224, 3, none⟩ = some (.bool a1_3) := (kc BK224.out 3).trans rfl; have hcz38_4 : w35.cell? ⟨gb224, 4, none⟩ = some (.slice A1_4 l1_4.length c1_4) := (kc BK224.out 4).trans rfl; have hfz38_0 := kf BK224.out 0; have hfz38_1 := kf BK224.out 1; have hfz38_2 := kf BK224.out 2; have hfz38_3 := kf BK224.out 3; have hfz38_4 := kf BK224.out 4))
  go_ret
  exact ⟨by first | rfl | (simp [errW_none, errW_some] <;> rfl) | (simp [*, errW_none, errW_some] <;> rfl), by repeat (first | (with_reducible first | exact HB.out | apply ba | apply bn | apply be | refine bs ?_ GE223.out | refine bs ?_ GE224.out) | exact HB.out)⟩

/-! ### laws_eqTold: function 86 -/
def laws_eqTold.f (k : Nat) (a0_0 : Int) (a0_1 : Int) (a0_2 : Bool) (a0_3 : Int) (a0_4 : ByteArray) (a0_5 : Int) (a0_6 : Bool) (l0_7 : List ByteArray) (a1_0 : Int) (a1_1 : Int) (a1_2 : Bool) (a1_3 : Int) (a1_4 : ByteArray) (a1_5 : Int) (a1_6 : Bool) (l1_7 : List ByteArray) : Option (Bool) := if a0_0 = a1_0 then (if a0_1 = a1_1 then (if (a0_2 != a1_2) = true then (some false) else ((laws_eqResult.f k a0_3 a0_4 a0_5 a0_6 l0_7 a1_3 a1_4 a1_5 a1_6 l1_7).bind fun t228 => (if t228 = true then (some true) else (some false)))) else (some false)) else (some false)
theorem laws_eqTold.mono : ∀ a0 a1 a2 a3 a4 a5 a6 a7 a8 a9 a10 a11 a12 a13 a14 a15 k, LeO (laws_eqTold.f k a0 a1 a2 a3 a4 a5 a6 a7 a8 a9 a10 a11 a12 a13 a14 a15) (laws_eqTold.f (k + 1) a0 a1 a2 a3 a4 a5 a6 a7 a8 a9 a10 a11 a12 a13 a14 a15) := by
 intro a0 a1 a2 a3 a4 a5 a6 a7 a8 a9 a10 a11 a12 a13 a14 a15 k
 unfold laws_eqTold.f
 repeat' first
   | (with_reducible exact laws_eqResult.mono _ _ _ _ _ _ _ _ _ _ _)
   | (with_reducible exact LeO.refl _)
   | (with_reducible exact LeO.none _)
   | (with_reducible refine LeO.ite ?_ ?_)
   | (with_reducible refine LeO.bind ?_ (fun _ => ?_))
   | exact laws_eqResult.mono _ _ _ _ _ _ _ _ _ _ _
   | exact LeO.none _
   | refine LeO.ite ?_ ?_
   | refine LeO.bind ?_ (fun _ => ?_)
set_option maxHeartbeats 8000000 in
set_option maxRecDepth 100000 in
theorem laws_eqTold.calls (k : Nat) (a0_0 : Int) (a0_1 : Int) (a0_2 : Bool) (a0_3 : Int) (a0_4 : ByteArray) (a0_5 : Int) (a0_6 : Bool) (A0_7 : Option Addr) (c0_7 : Nat) (l0_7 : List ByteArray) (a1_0 : Int) (a1_1 : Int) (a1_2 : Bool) (a1_3 : Int) (a1_4 : ByteArray) (a1_5 : Int) (a1_6 : Bool) (A1_7 : Option Addr) (c1_7 : Nat) (l1_7 : List ByteArray) (r : Bool) (w : World) (hr0_7 : Kd.C Kd.string w A0_7 l0_7.length l0_7) (hc0_7 : l0_7.length ≤ c0_7) (hr1_7 : Kd.C Kd.string w A1_7 l1_7.length l1_7) (hc1_7 : l1_7.length ≤ c1_7) (h : laws_eqTold.f k a0_0 a0_1 a0_2 a0_3 a0_4 a0_5 a0_6 l0_7 a1_0 a1_1 a1_2 a1_3 a1_4 a1_5 a1_6 l1_7 = some r) :
  Calls Try.prog 86 #[.agg #[.int .i64 a0_0, .int .i64 a0_1, .bool a0_2, .int .i64 a0_3, .string a0_4, .int .i64 a0_5, .bool a0_6, .slice A0_7 l0_7.length c0_7], .agg #[.int .i64 a1_0, .int .i64 a1_1, .bool a1_2, .int .i64 a1_3, .string a1_4, .int .i64 a1_5, .bool a1_6, .slice A1_7 l1_7.length c1_7]] w fun e w' => e = .returned (.bool r) ∧ Below w.heap.size w w' := by
 have hu125 := Try.underlying125
 have hu95 := Try.underlying95
 have HR0_7 := Am hr0_7
 have HC0_7 := Am hc0_7
 clear hr0_7 hc0_7
 have HR1_7 := Am hr1_7
 have HC1_7 := Am hc1_7
 clear hr1_7 hc1_7
 have HB := Am (Below.refl w.heap.size w)
 have H : (if a0_0 = a1_0 then (if a0_1 = a1_1 then (if (a0_2 != a1_2) = true then (some false) else ((laws_eqResult.f k a0_3 a0_4 a0_5 a0_6 l0_7 a1_3 a1_4 a1_5 a1_6 l1_7).bind fun t228 => (if t228 = true then (some true) else (some false)))) else (some false)) else (some false)) = some r := h
 clear h
 by_cases c3 : a0_0 = a1_0
 ·rw [if_pos c3] at H
  have c3b0 : (a0_0 == a1_0) = true := beq_iff_eq.mpr c3
  have c3b1 : (a0_0 != a1_0) = false := bne_eq_false_iff_eq.mpr c3
  clear c3
  by_cases c4 : a0_1 = a1_1
  ·rw [if_pos c4] at H
   have c4b0 : (a0_1 == a1_1) = true := beq_iff_eq.mpr c4
   have c4b1 : (a0_1 != a1_1) = false := bne_eq_false_iff_eq.mpr c4
   clear c4
   by_cases c5 : (a0_2 != a1_2) = true
   ·rw [if_pos c5] at H
    have c5b0 : (a0_2 != a1_2) = true := c5
    (try (have c5b1 : decide (a0_2 = a1_2) = false := by simpa using c5))
    (try (have c5b2 : (a0_2 == a1_2) = false := by simpa using c5))
    (try (have c5b3 : ¬ (a0_2 = a1_2) := by simpa using c5))
    clear c5
    obtain rfl := Option.some.inj H
    go_enter Try.func86, Try.ntmps86
    go_wp2_with (first | ((with_reducible refine gate_dst (N := 2) rfl ?_); refine box_event ?hg (N := 2) ?hd (cs := #[.int .i64 a0_0, .int .i64 a0_1, .bool a0_2, .int .i64 a0_3, .string a0_4, .int .i64 a0_5, .bool a0_6, .slice A0_7 l0_7.length c0_7]) (t := 125) ?hr ?_; (case hd => rfl); (case hg => rfl); (case hr => first | (go_simp; done) | (go_simp; rfl)); intro gb226 hg w6 hbox hb; have BK226 := Am (hbox); have GW226 := Am ((by rw [hg]; exact (bz (by repeat (first | (with_reducible first | exact HB.out | apply ba | apply bn | apply be) | exact HB.out))) : w.heap.size ≤ gb226)); have GE226 := Am ((by rw [hg]; exact (bz (by repeat (first | (with_reducible first | exact HB.out | apply ba | apply bn | apply be) | exact HB.out))) : w.heap.size ≤ gb226)); replace HB := Am (bq (by repeat (first | (with_reducible first | exact HB.out | apply ba | apply bn | apply be) | exact HB.out)) hb); clear hb hbox hg) | ((with_reducible refine gate_dst (N := 3) rfl ?_); refine box_event ?hg (N := 3) ?hd (cs := #[.int .i64 a1_0, .int .i64 a1_1, .bool a1_2, .int .i64 a1_3, .string a1_4, .int .i64 a1_5, .bool a1_6, .slice A1_7 l1_7.length c1_7]) (t := 125) ?hr ?_; (case hd => rfl); (case hg => rfl); (case hr => first | (go_simp; done) | (go_simp; rfl)); intro gb227 hg w7 hbox hb; have n0_ := Am (kb (g := gb226) (o := o6b1 a0_0 a0_1 a0_2 a0_3 a0_4 a0_5 a0_6 A0_7 l0_7.length c0_7) (by (with_reducible repeat (first | refine kn ?_ _ | refine ke ?_ | refine ka ?_ _)); exact BK226.out) hb); have n1_ := Am (bq (by repeat (first | (with_reducible first | exact HB.out | apply ba | apply bn | apply be | refine bs ?_ GE226.out) | exact HB.out)) hb); have n2_ := Am (hbox); have n3_ := Am ((by rw [hg]; exact (bz (by repeat (first | (with_reducible first | exact HB.out | apply ba | apply bn | apply be | refine bs ?_ GE226.out) | exact HB.out))) : w.heap.size ≤ gb227)); have n4_ := Am ((by rw [hg]; exact (bz (by repeat (first | (with_reducible first | exact HB.out | apply ba | apply bn | apply be | refine bs ?_ GE226.out) | exact HB.out))) : w.heap.size ≤ gb227)); have n5_ := Am ((by rw [hg]; exact Nat.ne_of_lt (kl (g := gb226) (o := o6b1 a0_0 a0_1 a0_2 a0_3 a0_4 a0_5 a0_6 A0_7 l0_7.length c0_7) (by (with_reducible repeat (first | refine kn ?_ _ | refine ke ?_ | refine ka ?_ _)); exact BK226.out)) : gb226 ≠ gb227)); have n6_ := Am ((by rw [hg]; exact Nat.ne_of_gt (kl (g := gb226) (o := o6b1 a0_0 a0_1 a0_2 a0_3 a0_4 a0_5 a0_6 A0_7 l0_7.length c0_7) (by (with_reducible repeat (first | refine kn ?_ _ | refine ke ?_ | refine ka ?_ _)); exact BK226.out)) : gb227 ≠ gb226)); clear BK226; clear HB; have BK226 := n0_; have HB := n1_; have BK227 := n2_; have GW227 := n3_; have GE227 := n4_; have NB226_227 := n5_; have NB227_226 := n6_; clear n0_ n1_ n2_ n3_ n4_ n5_ n6_; clear hb hbox hg; have hnb8 := NB226_227.out; have hnc8 := NB227_226.out; have hcz9_0 : w7.cell? ⟨gb226, 0, none⟩ = some (.int .i64 a0_0) := (kc BK226.out 0).trans rfl; have hcz9_1 : w7.cell? ⟨gb226, 1, none⟩ = some (.int .i64 a0_1) := (kc BK226.out 1).trans rfl; have hcz9_2 : w7.cell? ⟨gb226, 2, none⟩ = some (.bool a0_2) := (kc BK226.out 2).trans rfl; have hcz9_3 : w7.cell? ⟨gb226, 3, none⟩ = some (.int .i64 a0_3) := (kc BK226.out 3).trans rfl; have hcz9_4 : w7.cell? ⟨gb226, 4, none⟩ = some (.string a0_4) := (kc BK226.out 4).trans rfl; have hcz9_5 : w7.cell? ⟨gb226, 5, none⟩ = some (.int .i64 a0_5) := (kc BK226.out 5).trans rfl; have hcz9_6 : w7.cell? ⟨gb226, 6, none⟩ = some (.bool a0_6) := (kc BK226.out 6).trans rfl; have hcz9_7 : w7.cell? ⟨gb226, 7, none⟩ = some (.slice A0_7 l0_7.length c0_7) := (kc BK226.out 7).trans rfl; have hfz9_0 := kf BK226.out 0; have hfz9_1 := kf BK226.out 1; have hfz9_2 := kf BK226.out 2; have hfz9_3 := kf BK226.out 3; have hfz9_4 := kf BK226.out 4; have hfz9_5 := kf BK226.out 5; have hfz9_6 := kf BK226.out 6; have hfz9_7 := kf BK226.out 7; have hcz10_0 : w7.cell? ⟨gb227, 0, none⟩ = some (.int .i64 a1_0) := (kc BK227.out 0).trans rfl; have hcz10_1 : w7.cell? ⟨gb227, 1, none⟩ = some (.int .i64 a1_1) := (kc BK227.out 1).trans rfl; have hcz10_2 : w7.cell? ⟨gb227, 2, none⟩ = some (.bool a1_2) := (kc BK227.out 2).trans rfl; have hcz10_3 : w7.cell? ⟨gb227, 3, none⟩ = some (.int .i64 a1_3) := (kc BK227.out 3).trans rfl; have hcz10_4 : w7.cell? ⟨gb227, 4, none⟩ = some (.string a1_4) := (kc BK227.out 4).trans rfl; have hcz10_5 : w7.cell? ⟨gb227, 5, none⟩ = some (.int .i64 a1_5) := (kc BK227.out 5).trans rfl; have hcz10_6 : w7.cell? ⟨gb227, 6, none⟩ = some (.bool a1_6) := (kc BK227.out 6).trans rfl; have hcz10_7 : w7.cell? ⟨gb227, 7, none⟩ = some (.slice A1_7 l1_7.length c1_7) := (kc BK227.out 7).trans rfl; have hfz10_0 := kf BK227.out 0; have hfz10_1 := kf BK227.out 1; have hfz10_2 := kf BK227.out 2; have hfz10_3 := kf BK227.out 3; have hfz10_4 := kf BK227.out 4; have hfz10_5 := kf BK227.out 5; have hfz10_6 := kf BK227.out 6; have hfz10_7 := kf BK227.out 7))
    go_ret
    exact ⟨by first | rfl | (simp [errW_none, errW_some] <;> rfl) | (simp [*, errW_none, errW_some] <;> rfl), by repeat (first | (with_reducible first | exact HB.out | apply ba | apply bn | apply be | refine bs ?_ GE226.out | refine bs ?_ GE227.out) | exact HB.out)⟩
   ·rw [if_neg c5] at H
    have c5b0 : (a0_2 != a1_2) = false := by simpa using c5
    (try (have c5b1 : decide (a0_2 = a1_2) = true := by simpa using c5))
    (try (have c5b2 : (a0_2 == a1_2) = true := by simpa using c5))
    clear c5
    replace H := Option.bind_eq_some_iff.mp H
    obtain ⟨t228, A110, H⟩ := H
    replace H : (if t228 = true then (some true) else (some false)) = some r := H
    have A11 := Am A110
    clear A110
    by_cases c12 : t228 = true
    ·subst c12
     have H1 : (some true) = some r := by rw [if_pos rfl] at H; exact H
     clear H
     have H := H1
     clear H1
     obtain rfl := Option.some.inj H
     go_enter Try.func86, Try.ntmps86
     go_wp2_with (first | ((with_reducible refine gate_dst (N := 2) rfl ?_); refine box_event ?hg (N := 2) ?hd (cs := #[.int .i64 a0_0, .int .i64 a0_1, .bool a0_2, .int .i64 a0_3, .string a0_4, .int .i64 a0_5, .bool a0_6, .slice A0_7 l0_7.length c0_7]) (t := 125) ?hr ?_; (case hd => rfl); (case hg => rfl); (case hr => first | (go_simp; done) | (go_simp; rfl)); intro gb226 hg w13 hbox hb; have BK226 := Am (hbox); have GW226 := Am ((by rw [hg]; exact (bz (by repeat (first | (with_reducible first | exact HB.out | apply ba | apply bn | apply be) | exact HB.out))) : w.heap.size ≤ gb226)); have GE226 := Am ((by rw [hg]; exact (bz (by repeat (first | (with_reducible first | exact HB.out | apply ba | apply bn | apply be) | exact HB.out))) : w.heap.size ≤ gb226)); replace HB := Am (bq (by repeat (first | (with_reducible first | exact HB.out | apply ba | apply bn | apply be) | exact HB.out)) hb); clear hb hbox hg) | ((with_reducible refine gate_dst (N := 3) rfl ?_); refine box_event ?hg (N := 3) ?hd (cs := #[.int .i64 a1_0, .int .i64 a1_1, .bool a1_2, .int .i64 a1_3, .string a1_4, .int .i64 a1_5, .bool a1_6, .slice A1_7 l1_7.length c1_7]) (t := 125) ?hr ?_; (case hd => rfl); (case hg => rfl); (case hr => first | (go_simp; done) | (go_simp; rfl)); intro gb227 hg w14 hbox hb; have n0_ := Am (kb (g := gb226) (o := o6b1 a0_0 a0_1 a0_2 a0_3 a0_4 a0_5 a0_6 A0_7 l0_7.length c0_7) (by (with_reducible repeat (first | refine kn ?_ _ | refine ke ?_ | refine ka ?_ _)); exact BK226.out) hb); have n1_ := Am (bq (by repeat (first | (with_reducible first | exact HB.out | apply ba | apply bn | apply be | refine bs ?_ GE226.out) | exact HB.out)) hb); have n2_ := Am (hbox); have n3_ := Am ((by rw [hg]; exact (bz (by repeat (first | (with_reducible first | exact HB.out | apply ba | apply bn | apply be | refine bs ?_ GE226.out) | exact HB.out))) : w.heap.size ≤ gb227)); have n4_ := Am ((by rw [hg]; exact (bz (by repeat (first | (with_reducible first | exact HB.out | apply ba | apply bn | apply be | refine bs ?_ GE226.out) | exact HB.out))) : w.heap.size ≤ gb227)); have n5_ := Am ((by rw [hg]; exact Nat.ne_of_lt (kl (g := gb226) (o := o6b1 a0_0 a0_1 a0_2 a0_3 a0_4 a0_5 a0_6 A0_7 l0_7.length c0_7) (by (with_reducible repeat (first | refine kn ?_ _ | refine ke ?_ | refine ka ?_ _)); exact BK226.out)) : gb226 ≠ gb227)); have n6_ := Am ((by rw [hg]; exact Nat.ne_of_gt (kl (g := gb226) (o := o6b1 a0_0 a0_1 a0_2 a0_3 a0_4 a0_5 a0_6 A0_7 l0_7.length c0_7) (by (with_reducible repeat (first | refine kn ?_ _ | refine ke ?_ | refine ka ?_ _)); exact BK226.out)) : gb227 ≠ gb226)); clear BK226; clear HB; have BK226 := n0_; have HB := n1_; have BK227 := n2_; have GW227 := n3_; have GE227 := n4_; have NB226_227 := n5_; have NB227_226 := n6_; clear n0_ n1_ n2_ n3_ n4_ n5_ n6_; clear hb hbox hg; have hnb15 := NB226_227.out; have hnc15 := NB227_226.out; have hcz16_0 : w14.cell? ⟨gb226, 0, none⟩ = some (.int .i64 a0_0) := (kc BK226.out 0).trans rfl; have hcz16_1 : w14.cell? ⟨gb226, 1, none⟩ = some (.int .i64 a0_1) := (kc BK226.out 1).trans rfl; have hcz16_2 : w14.cell? ⟨gb226, 2, none⟩ = some (.bool a0_2) := (kc BK226.out 2).trans rfl; have hcz16_3 : w14.cell? ⟨gb226, 3, none⟩ = some (.int .i64 a0_3) := (kc BK226.out 3).trans rfl; have hcz16_4 : w14.cell? ⟨gb226, 4, none⟩ = some (.string a0_4) := (kc BK226.out 4).trans rfl; have hcz16_5 : w14.cell? ⟨gb226, 5, none⟩ = some (.int .i64 a0_5) := (kc BK226.out 5).trans rfl; have hcz16_6 : w14.cell? ⟨gb226, 6, none⟩ = some (.bool a0_6) := (kc BK226.out 6).trans rfl; have hcz16_7 : w14.cell? ⟨gb226, 7, none⟩ = some (.slice A0_7 l0_7.length c0_7) := (kc BK226.out 7).trans rfl; have hfz16_0 := kf BK226.out 0; have hfz16_1 := kf BK226.out 1; have hfz16_2 := kf BK226.out 2; have hfz16_3 := kf BK226.out 3; have hfz16_4 := kf BK226.out 4; have hfz16_5 := kf BK226.out 5; have hfz16_6 := kf BK226.out 6; have hfz16_7 := kf BK226.out 7; have hcz17_0 : w14.cell? ⟨gb227, 0, none⟩ = some (.int .i64 a1_0) := (kc BK227.out 0).trans rfl; have hcz17_1 : w14.cell? ⟨gb227, 1, none⟩ = some (.int .i64 a1_1) := (kc BK227.out 1).trans rfl; have hcz17_2 : w14.cell? ⟨gb227, 2, none⟩ = some (.bool a1_2) := (kc BK227.out 2).trans rfl; have hcz17_3 : w14.cell? ⟨gb227, 3, none⟩ = some (.int .i64 a1_3) := (kc BK227.out 3).trans rfl; have hcz17_4 : w14.cell? ⟨gb227, 4, none⟩ = some (.string a1_4) := (kc BK227.out 4).trans rfl; have hcz17_5 : w14.cell? ⟨gb227, 5, none⟩ = some (.int .i64 a1_5) := (kc BK227.out 5).trans rfl; have hcz17_6 : w14.cell? ⟨gb227, 6, none⟩ = some (.bool a1_6) := (kc BK227.out 6).trans rfl; have hcz17_7 : w14.cell? ⟨gb227, 7, none⟩ = some (.slice A1_7 l1_7.length c1_7) := (kc BK227.out 7).trans rfl; have hfz17_0 := kf BK227.out 0; have hfz17_1 := kf BK227.out 1; have hfz17_2 := kf BK227.out 2; have hfz17_3 := kf BK227.out 3; have hfz17_4 := kf BK227.out 4; have hfz17_5 := kf BK227.out 5; have hfz17_6 := kf BK227.out 6; have hfz17_7 := kf BK227.out 7) | ((with_reducible refine gate_callee (f := 149) rfl ?_); refine goesL_ (some 24) rfl rfl Try.func149 (by kernel_rfl) rfl #[.agg #[.int .i64 a0_3, .string a0_4, .int .i64 a0_5, .bool a0_6, .slice A0_7 l0_7.length c0_7], .agg #[.int .i64 a1_3, .string a1_4, .int .i64 a1_5, .bool a1_6, .slice A1_7 l1_7.length c1_7]] rfl (by (try simp only [List.map_toArray, List.map_cons, List.map_nil]); first | done | rfl | (simp only [List.length_drop, List.length_take]; rfl)) ?_; (with_reducible refine (laws_eqResult.calls k a0_3 a0_4 a0_5 a0_6 _ _ l0_7 a1_3 a1_4 a1_5 a1_6 _ _ l1_7 true _ ?side1 ?side2 ?side3 ?side4 A11.out).mono ?_); (case side1 => repeat (first | exact (cb HR0_7.out HB.out) | (with_reducible first | refine ca ?_ _ | refine cn ?_ _ | refine ce ?_))); (case side2 => exact HC0_7.out); (case side3 => repeat (first | exact (cb HR1_7.out HB.out) | (with_reducible first | refine ca ?_ _ | refine cn ?_ _ | refine ce ?_))); (case side4 => exact HC1_7.out); rintro e w18 ⟨rfl, hb⟩; refine ⟨_, rfl, ?_⟩; have n0_ := Am (kb (g := gb226) (o := o6b1 a0_0 a0_1 a0_2 a0_3 a0_4 a0_5 a0_6 A0_7 l0_7.length c0_7) (by (with_reducible repeat (first | refine kn ?_ _ | refine ke ?_ | refine ka ?_ _)); exact BK226.out) hb); have n1_ := Am (kb (g := gb227) (o := .cells #[.int .i64 a1_0, .int .i64 a1_1, .bool a1_2, .int .i64 a1_3, .string a1_4, .int .i64 a1_5, .bool a1_6, .slice A1_7 l1_7.length c1_7] 125 (0, 0)) (by (with_reducible repeat (first | refine kn ?_ _ | refine ke ?_ | refine ka ?_ _)); exact BK227.out) hb); have n2_ := Am (bq (by repeat (first | (with_reducible first | exact HB.out | apply ba | apply bn | apply be | refine bs ?_ GE226.out | refine bs ?_ GE227.out) | exact HB.out)) hb); clear BK226; clear BK227; clear HB; have BK226 := n0_; have BK227 := n1_; have HB := n2_; clear n0_ n1_ n2_; (try clear hb)))
     go_ret
     exact ⟨by first | rfl | (simp [errW_none, errW_some] <;> rfl) | (simp [*, errW_none, errW_some] <;> rfl), by repeat (first | (with_reducible first | exact HB.out | apply ba | apply bn | apply be | refine bs ?_ GE226.out | refine bs ?_ GE227.out) | exact HB.out)⟩
    ·replace c12 := Bool.eq_false_iff.mpr c12
     subst c12
     have H1 : (some false) = some r := by rw [if_neg (show ¬ (false = true) by decide)] at H; exact H
     clear H
     have H := H1
     clear H1
     obtain rfl := Option.some.inj H
     go_enter Try.func86, Try.ntmps86
     go_wp2_with (first | ((with_reducible refine gate_dst (N := 2) rfl ?_); refine box_event ?hg (N := 2) ?hd (cs := #[.int .i64 a0_0, .int .i64 a0_1, .bool a0_2, .int .i64 a0_3, .string a0_4, .int .i64 a0_5, .bool a0_6, .slice A0_7 l0_7.length c0_7]) (t := 125) ?hr ?_; (case hd => rfl); (case hg => rfl); (case hr => first | (go_simp; done) | (go_simp; rfl)); intro gb226 hg w19 hbox hb; have BK226 := Am (hbox); have GW226 := Am ((by rw [hg]; exact (bz (by repeat (first | (with_reducible first | exact HB.out | apply ba | apply bn | apply be) | exact HB.out))) : w.heap.size ≤ gb226)); have GE226 := Am ((by rw [hg]; exact (bz (by repeat (first | (with_reducible first | exact HB.out | apply ba | apply bn | apply be) | exact HB.out))) : w.heap.size ≤ gb226)); replace HB := Am (bq (by repeat (first | (with_reducible first | exact HB.out | apply ba | apply bn | apply be) | exact HB.out)) hb); clear hb hbox hg) | ((with_reducible refine gate_dst (N := 3) rfl ?_); refine box_event ?hg (N := 3) ?hd (cs := #[.int .i64 a1_0, .int .i64 a1_1, .bool a1_2, .int .i64 a1_3, .string a1_4, .int .i64 a1_5, .bool a1_6, .slice A1_7 l1_7.length c1_7]) (t := 125) ?hr ?_; (case hd => rfl); (case hg => rfl); (case hr => first | (go_simp; done) | (go_simp; rfl)); intro gb227 hg w20 hbox hb; have n0_ := Am (kb (g := gb226) (o := o6b1 a0_0 a0_1 a0_2 a0_3 a0_4 a0_5 a0_6 A0_7 l0_7.length c0_7) (by (with_reducible repeat (first | refine kn ?_ _ | refine ke ?_ | refine ka ?_ _)); exact BK226.out) hb); have n1_ := Am (bq (by repeat (first | (with_reducible first | exact HB.out | apply ba | apply bn | apply be | refine bs ?_ GE226.out) | exact HB.out)) hb); have n2_ := Am (hbox); have n3_ := Am ((by rw [hg]; exact (bz (by repeat (first | (with_reducible first | exact HB.out | apply ba | apply bn | apply be | refine bs ?_ GE226.out) | exact HB.out))) : w.heap.size ≤ gb227)); have n4_ := Am ((by rw [hg]; exact (bz (by repeat (first | (with_reducible first | exact HB.out | apply ba | apply bn | apply be | refine bs ?_ GE226.out) | exact HB.out))) : w.heap.size ≤ gb227)); have n5_ := Am ((by rw [hg]; exact Nat.ne_of_lt (kl (g := gb226) (o := o6b1 a0_0 a0_1 a0_2 a0_3 a0_4 a0_5 a0_6 A0_7 l0_7.length c0_7) (by (with_reducible repeat (first | refine kn ?_ _ | refine ke ?_ | refine ka ?_ _)); exact BK226.out)) : gb226 ≠ gb227)); have n6_ := Am ((by rw [hg]; exact Nat.ne_of_gt (kl (g := gb226) (o := o6b1 a0_0 a0_1 a0_2 a0_3 a0_4 a0_5 a0_6 A0_7 l0_7.length c0_7) (by (with_reducible repeat (first | refine kn ?_ _ | refine ke ?_ | refine ka ?_ _)); exact BK226.out)) : gb227 ≠ gb226)); clear BK226; clear HB; have BK226 := n0_; have HB := n1_; have BK227 := n2_; have GW227 := n3_; have GE227 := n4_; have NB226_227 := n5_; have NB227_226 := n6_; clear n0_ n1_ n2_ n3_ n4_ n5_ n6_; clear hb hbox hg; have hnb21 := NB226_227.out; have hnc21 := NB227_226.out; have hcz22_0 : w20.cell? ⟨gb226, 0, none⟩ = some (.int .i64 a0_0) := (kc BK226.out 0).trans rfl; have hcz22_1 : w20.cell? ⟨gb226, 1, none⟩ = some (.int .i64 a0_1) := (kc BK226.out 1).trans rfl; have hcz22_2 : w20.cell? ⟨gb226, 2, none⟩ = some (.bool a0_2) := (kc BK226.out 2).trans rfl; have hcz22_3 : w20.cell? ⟨gb226, 3, none⟩ = some (.int .i64 a0_3) := (kc BK226.out 3).trans rfl; have hcz22_4 : w20.cell? ⟨gb226, 4, none⟩ = some (.string a0_4) := (kc BK226.out 4).trans rfl; have hcz22_5 : w20.cell? ⟨gb226, 5, none⟩ = some (.int .i64 a0_5) := (kc BK226.out 5).trans rfl; have hcz22_6 : w20.cell? ⟨gb226, 6, none⟩ = some (.bool a0_6) := (kc BK226.out 6).trans rfl; have hcz22_7 : w20.cell? ⟨gb226, 7, none⟩ = some (.slice A0_7 l0_7.length c0_7) := (kc BK226.out 7).trans rfl; have hfz22_0 := kf BK226.out 0; have hfz22_1 := kf BK226.out 1; have hfz22_2 := kf BK226.out 2; have hfz22_3 := kf BK226.out 3; have hfz22_4 := kf BK226.out 4; have hfz22_5 := kf BK226.out 5; have hfz22_6 := kf BK226.out 6; have hfz22_7 := kf BK226.out 7; have hcz23_0 : w20.cell? ⟨gb227, 0, none⟩ = some (.int .i64 a1_0) := (kc BK227.out 0).trans rfl; have hcz23_1 : w20.cell? ⟨gb227, 1, none⟩ = some (.int .i64 a1_1) := (kc BK227.out 1).trans rfl; have hcz23_2 : w20.cell? ⟨gb227, 2, none⟩ = some (.bool a1_2) := (kc BK227.out 2).trans rfl; have hcz23_3 : w20.cell? ⟨gb227, 3, none⟩ = some (.int .i64 a1_3) := (kc BK227.out 3).trans rfl; have hcz23_4 : w20.cell? ⟨gb227, 4, none⟩ = some (.string a1_4) := (kc BK227.out 4).trans rfl; have hcz23_5 : w20.cell? ⟨gb227, 5, none⟩ = some (.int .i64 a1_5) := (kc BK227.out 5).trans rfl; have hcz23_6 : w20.cell? ⟨gb227, 6, none⟩ = some (.bool a1_6) := (kc BK227.out 6).trans rfl; have hcz23_7 : w20.cell? ⟨gb227, 7, none⟩ = some (.slice A1_7 l1_7.length c1_7) := (kc BK227.out 7).trans rfl; have hfz23_0 := kf BK227.out 0; have hfz23_1 := kf BK227.out 1; have hfz23_2 := kf BK227.out 2; have hfz23_3 := kf BK227.out 3; have hfz23_4 := kf BK227.out 4; have hfz23_5 := kf BK227.out 5; have hfz23_6 := kf BK227.out 6; have hfz23_7 := kf BK227.out 7) | ((with_reducible refine gate_callee (f := 149) rfl ?_); refine goesL_ (some 24) rfl rfl Try.func149 (by kernel_rfl) rfl #[.agg #[.int .i64 a0_3, .string a0_4, .int .i64 a0_5, .bool a0_6, .slice A0_7 l0_7.length c0_7], .agg #[.int .i64 a1_3, .string a1_4, .int .i64 a1_5, .bool a1_6, .slice A1_7 l1_7.length c1_7]] rfl (by (try simp only [List.map_toArray, List.map_cons, List.map_nil]); first | done | rfl | (simp only [List.length_drop, List.length_take]; rfl)) ?_; (with_reducible refine (laws_eqResult.calls k a0_3 a0_4 a0_5 a0_6 _ _ l0_7 a1_3 a1_4 a1_5 a1_6 _ _ l1_7 false _ ?side1 ?side2 ?side3 ?side4 A11.out).mono ?_); (case side1 => repeat (first | exact (cb HR0_7.out HB.out) | (with_reducible first | refine ca ?_ _ | refine cn ?_ _ | refine ce ?_))); (case side2 => exact HC0_7.out); (case side3 => repeat (first | exact (cb HR1_7.out HB.out) | (with_reducible first | refine ca ?_ _ | refine cn ?_ _ | refine ce ?_))); (case side4 => exact HC1_7.out); rintro e w24 ⟨rfl, hb⟩; refine ⟨_, rfl, ?_⟩; have n0_ := Am (kb (g := gb226) (o := o6b1 a0_0 a0_1 a0_2 a0_3 a0_4 a0_5 a0_6 A0_7 l0_7.length c0_7) (by (with_reducible repeat (first | refine kn ?_ _ | refine ke ?_ | refine ka ?_ _)); exact BK226.out) hb); have n1_ := Am (kb (g := gb227) (o := .cells #[.int .i64 a1_0, .int .i64 a1_1, .bool a1_2, .int .i64 a1_3, .string a1_4, .int .i64 a1_5, .bool a1_6, .slice A1_7 l1_7.length c1_7] 125 (0, 0)) (by (with_reducible repeat (first | refine kn ?_ _ | refine ke ?_ | refine ka ?_ _)); exact BK227.out) hb); have n2_ := Am (bq (by repeat (first | (with_reducible first | exact HB.out | apply ba | apply bn | apply be | refine bs ?_ GE226.out | refine bs ?_ GE227.out) | exact HB.out)) hb); clear BK226; clear BK227; clear HB; have BK226 := n0_; have BK227 := n1_; have HB := n2_; clear n0_ n1_ n2_; (try clear hb)))
     go_ret
     exact ⟨by first | rfl | (simp [errW_none, errW_some] <;> rfl) | (simp [*, errW_none, errW_some] <;> rfl), by repeat (first | (with_reducible first | exact HB.out | apply ba | apply bn | apply be | refine bs ?_ GE226.out | refine bs ?_ GE227.out) | exact HB.out)⟩
  ·rw [if_neg c4] at H
   have c4b0 : (a0_1 == a1_1) = false := beq_eq_false_iff_ne.mpr c4
   have c4b1 : (a0_1 != a1_1) = true := bne_iff_ne.mpr c4
   obtain rfl := Option.some.inj H
   go_enter Try.func86, Try.ntmps86
   go_wp2_with (first | ((with_reducible refine gate_dst (N := 2) rfl ?_); refine box_event ?hg (N := 2) ?hd (cs := #[.int .i64 a0_0, .int .i64 a0_1, .bool a0_2, .int .i64 a0_3, .string a0_4, .int .i64 a0_5, .bool a0_6, .slice A0_7 l0_7.length c0_7]) (t := 125) ?hr ?_; (case hd => rfl); (case hg => rfl); (case hr => first | (go_simp; done) | (go_simp; rfl)); intro gb226 hg w25 hbox hb; have BK226 := Am (hbox); have GW226 := Am ((by rw [hg]; exact (bz (by repeat (first | (with_reducible first | exact HB.out | apply ba | apply bn | apply be) | exact HB.out))) : w.heap.size ≤ gb226)); have GE226 := Am ((by rw [hg]; exact (bz (by repeat (first | (with_reducible first | exact HB.out | apply ba | apply bn | apply be) | exact HB.out))) : w.heap.size ≤ gb226)); replace HB := Am (bq (by repeat (first | (with_reducible first | exact HB.out | apply ba | apply bn | apply be) | exact HB.out)) hb); clear hb hbox hg) | ((with_reducible refine gate_dst (N := 3) rfl ?_); refine box_event ?hg (N := 3) ?hd (cs := #[.int .i64 a1_0, .int .i64 a1_1, .bool a1_2, .int .i64 a1_3, .string a1_4, .int .i64 a1_5, .bool a1_6, .slice A1_7 l1_7.length c1_7]) (t := 125) ?hr ?_; (case hd => rfl); (case hg => rfl); (case hr => first | (go_simp; done) | (go_simp; rfl)); intro gb227 hg w26 hbox hb; have n0_ := Am (kb (g := gb226) (o := o6b1 a0_0 a0_1 a0_2 a0_3 a0_4 a0_5 a0_6 A0_7 l0_7.length c0_7) (by (with_reducible repeat (first | refine kn ?_ _ | refine ke ?_ | refine ka ?_ _)); exact BK226.out) hb); have n1_ := Am (bq (by repeat (first | (with_reducible first | exact HB.out | apply ba | apply bn | apply be | refine bs ?_ GE226.out) | exact HB.out)) hb); have n2_ := Am (hbox); have n3_ := Am ((by rw [hg]; exact (bz (by repeat (first | (with_reducible first | exact HB.out | apply ba | apply bn | apply be | refine bs ?_ GE226.out) | exact HB.out))) : w.heap.size ≤ gb227)); have n4_ := Am ((by rw [hg]; exact (bz (by repeat (first | (with_reducible first | exact HB.out | apply ba | apply bn | apply be | refine bs ?_ GE226.out) | exact HB.out))) : w.heap.size ≤ gb227)); have n5_ := Am ((by rw [hg]; exact Nat.ne_of_lt (kl (g := gb226) (o := o6b1 a0_0 a0_1 a0_2 a0_3 a0_4 a0_5 a0_6 A0_7 l0_7.length c0_7) (by (with_reducible repeat (first | refine kn ?_ _ | refine ke ?_ | refine ka ?_ _)); exact BK226.out)) : gb226 ≠ gb227)); have n6_ := Am ((by rw [hg]; exact Nat.ne_of_gt (kl (g := gb226) (o := o6b1 a0_0 a0_1 a0_2 a0_3 a0_4 a0_5 a0_6 A0_7 l0_7.length c0_7) (by (with_reducible repeat (first | refine kn ?_ _ | refine ke ?_ | refine ka ?_ _)); exact BK226.out)) : gb227 ≠ gb226)); clear BK226; clear HB; have BK226 := n0_; have HB := n1_; have BK227 := n2_; have GW227 := n3_; have GE227 := n4_; have NB226_227 := n5_; have NB227_226 := n6_; clear n0_ n1_ n2_ n3_ n4_ n5_ n6_; clear hb hbox hg; have hnb27 := NB226_227.out; have hnc27 := NB227_226.out; have hcz28_0 : w26.cell? ⟨gb226, 0, none⟩ = some (.int .i64 a0_0) := (kc BK226.out 0).trans rfl; have hcz28_1 : w26.cell? ⟨gb226, 1, none⟩ = some (.int .i64 a0_1) := (kc BK226.out 1).trans rfl; have hcz28_2 : w26.cell? ⟨gb226, 2, none⟩ = some (.bool a0_2) := (kc BK226.out 2).trans rfl; have hcz28_3 : w26.cell? ⟨gb226, 3, none⟩ = some (.int .i64 a0_3) := (kc BK226.out 3).trans rfl; have hcz28_4 : w26.cell? ⟨gb226, 4, none⟩ = some (.string a0_4) := (kc BK226.out 4).trans rfl; have hcz28_5 : w26.cell? ⟨gb226, 5, none⟩ = some (.int .i64 a0_5) := (kc BK226.out 5).trans rfl; have hcz28_6 : w26.cell? ⟨gb226, 6, none⟩ = some (.bool a0_6) := (kc BK226.out 6).trans rfl; have hcz28_7 : w26.cell? ⟨gb226, 7, none⟩ = some (.slice A0_7 l0_7.length c0_7) := (kc BK226.out 7).trans rfl; have hfz28_0 := kf BK226.out 0; have hfz28_1 := kf BK226.out 1; have hfz28_2 := kf BK226.out 2; have hfz28_3 := kf BK226.out 3; have hfz28_4 := kf BK226.out 4; have hfz28_5 := kf BK226.out 5; have hfz28_6 := kf BK226.out 6; have hfz28_7 := kf BK226.out 7; have hcz29_0 : w26.cell? ⟨gb227, 0, none⟩ = some (.int .i64 a1_0) := (kc BK227.out 0).trans rfl; have hcz29_1 : w26.cell? ⟨gb227, 1, none⟩ = some (.int .i64 a1_1) := (kc BK227.out 1).trans rfl; have hcz29_2 : w26.cell? ⟨gb227, 2, none⟩ = some (.bool a1_2) := (kc BK227.out 2).trans rfl; have hcz29_3 : w26.cell? ⟨gb227, 3, none⟩ = some (.int .i64 a1_3) := (kc BK227.out 3).trans rfl; have hcz29_4 : w26.cell? ⟨gb227, 4, none⟩ = some (.string a1_4) := (kc BK227.out 4).trans rfl; have hcz29_5 : w26.cell? ⟨gb227, 5, none⟩ = some (.int .i64 a1_5) := (kc BK227.out 5).trans rfl; have hcz29_6 : w26.cell? ⟨gb227, 6, none⟩ = some (.bool a1_6) := (kc BK227.out 6).trans rfl; have hcz29_7 : w26.cell? ⟨gb227, 7, none⟩ = some (.slice A1_7 l1_7.length c1_7) := (kc BK227.out 7).trans rfl; have hfz29_0 := kf BK227.out 0; have hfz29_1 := kf BK227.out 1; have hfz29_2 := kf BK227.out 2; have hfz29_3 := kf BK227.out 3; have hfz29_4 := kf BK227.out 4; have hfz29_5 := kf BK227.out 5; have hfz29_6 := kf BK227.out 6; have hfz29_7 := kf BK227.out 7))
   go_ret
   exact ⟨by first | rfl | (simp [errW_none, errW_some] <;> rfl) | (simp [*, errW_none, errW_some] <;> rfl), by repeat (first | (with_reducible first | exact HB.out | apply ba | apply bn | apply be | refine bs ?_ GE226.out | refine bs ?_ GE227.out) | exact HB.out)⟩
 ·rw [if_neg c3] at H
  have c3b0 : (a0_0 == a1_0) = false := beq_eq_false_iff_ne.mpr c3
  have c3b1 : (a0_0 != a1_0) = true := bne_iff_ne.mpr c3
  obtain rfl := Option.some.inj H
  go_enter Try.func86, Try.ntmps86
  go_wp2_with (first | ((with_reducible refine gate_dst (N := 2) rfl ?_); refine box_event ?hg (N := 2) ?hd (cs := #[.int .i64 a0_0, .int .i64 a0_1, .bool a0_2, .int .i64 a0_3, .string a0_4, .int .i64 a0_5, .bool a0_6, .slice A0_7 l0_7.length c0_7]) (t := 125) ?hr ?_; (case hd => rfl); (case hg => rfl); (case hr => first | (go_simp; done) | (go_simp; rfl)); intro gb226 hg w30 hbox hb; have BK226 := Am (hbox); have GW226 := Am ((by rw [hg]; exact (bz (by repeat (first | (with_reducible first | exact HB.out | apply ba | apply bn | apply be) | exact HB.out))) : w.heap.size ≤ gb226)); have GE226 := Am ((by rw [hg]; exact (bz (by repeat (first | (with_reducible first | exact HB.out | apply ba | apply bn | apply be) | exact HB.out))) : w.heap.size ≤ gb226)); replace HB := Am (bq (by repeat (first | (with_reducible first | exact HB.out | apply ba | apply bn | apply be) | exact HB.out)) hb); clear hb hbox hg) | ((with_reducible refine gate_dst (N := 3) rfl ?_); refine box_event ?hg (N := 3) ?hd (cs := #[.int .i64 a1_0, .int .i64 a1_1, .bool a1_2, .int .i64 a1_3, .string a1_4, .int .i64 a1_5, .bool a1_6, .slice A1_7 l1_7.length c1_7]) (t := 125) ?hr ?_; (case hd => rfl); (case hg => rfl); (case hr => first | (go_simp; done) | (go_simp; rfl)); intro gb227 hg w31 hbox hb; have n0_ := Am (kb (g := gb226) (o := o6b1 a0_0 a0_1 a0_2 a0_3 a0_4 a0_5 a0_6 A0_7 l0_7.length c0_7) (by (with_reducible repeat (first | refine kn ?_ _ | refine ke ?_ | refine ka ?_ _)); exact BK226.out) hb); have n1_ := Am (bq (by repeat (first | (with_reducible first | exact HB.out | apply ba | apply bn | apply be | refine bs ?_ GE226.out) | exact HB.out)) hb); have n2_ := Am (hbox); have n3_ := Am ((by rw [hg]; exact (bz (by repeat (first | (with_reducible first | exact HB.out | apply ba | apply bn | apply be | refine bs ?_ GE226.out) | exact HB.out))) : w.heap.size ≤ gb227)); have n4_ := Am ((by rw [hg]; exact (bz (by repeat (first | (with_reducible first | exact HB.out | apply ba | apply bn | apply be | refine bs ?_ GE226.out) | exact HB.out))) : w.heap.size ≤ gb227)); have n5_ := Am ((by rw [hg]; exact Nat.ne_of_lt (kl (g := gb226) (o := o6b1 a0_0 a0_1 a0_2 a0_3 a0_4 a0_5 a0_6 A0_7 l0_7.length c0_7) (by (with_reducible repeat (first | refine kn ?_ _ | refine ke ?_ | refine ka ?_ _)); exact BK226.out)) : gb226 ≠ gb227)); have n6_ := Am ((by rw [hg]; exact Nat.ne_of_gt (kl (g := gb226) (o := o6b1 a0_0 a0_1 a0_2 a0_3 a0_4 a0_5 a0_6 A0_7 l0_7.length c0_7) (by (with_reducible repeat (first | refine kn ?_ _ | refine ke ?_ | refine ka ?_ _)); exact BK226.out)) : gb227 ≠ gb226)); clear BK226; clear HB; have BK226 := n0_; have HB := n1_; have BK227 := n2_; have GW227 := n3_; have GE227 := n4_; have NB226_227 := n5_; have NB227_226 := n6_; clear n0_ n1_ n2_ n3_ n4_ n5_ n6_; clear hb hbox hg; have hnb32 := NB226_227.out; have hnc32 := NB227_226.out; have hcz33_0 : w31.cell? ⟨gb226, 0, none⟩ = some (.int .i64 a0_0) := (kc BK226.out 0).trans rfl; have hcz33_1 : w31.cell? ⟨gb226, 1, none⟩ = some (.int .i64 a0_1) := (kc BK226.out 1).trans rfl; have hcz33_2 : w31.cell? ⟨gb226, 2, none⟩ = some (.bool a0_2) := (kc BK226.out 2).trans rfl; have hcz33_3 : w31.cell? ⟨gb226, 3, none⟩ = some (.int .i64 a0_3) := (kc BK226.out 3).trans rfl; have hcz33_4 : w31.cell? ⟨gb226, 4, none⟩ = some (.string a0_4) := (kc BK226.out 4).trans rfl; have hcz33_5 : w31.cell? ⟨gb226, 5, none⟩ = some (.int .i64 a0_5) := (kc BK226.out 5).trans rfl; have hcz33_6 : w31.cell? ⟨gb226, 6, none⟩ = some (.bool a0_6) := (kc BK226.out 6).trans rfl; have hcz33_7 : w31.cell? ⟨gb226, 7, none⟩ = some (.slice A0_7 l0_7.length c0_7) := (kc BK226.out 7).trans rfl; have hfz33_0 := kf BK226.out 0; have hfz33_1 := kf BK226.out 1; have hfz33_2 := kf BK226.out 2; have hfz33_3 := kf BK226.out 3; have hfz33_4 := kf BK226.out 4; have hfz33_5 := kf BK226.out 5; have hfz33_6 := kf BK226.out 6; have hfz33_7 := kf BK226.out 7; have hcz34_0 : w31.cell? ⟨gb227, 0, none⟩ = some (.int .i64 a1_0) := (kc BK227.out 0).trans rfl; have hcz34_1 : w31.cell? ⟨gb227, 1, none⟩ = some (.int .i64 a1_1) := (kc BK227.out 1).trans rfl; have hcz34_2 : w31.cell? ⟨gb227, 2, none⟩ = some (.bool a1_2) := (kc BK227.out 2).trans rfl; have hcz34_3 : w31.cell? ⟨gb227, 3, none⟩ = some (.int .i64 a1_3) := (kc BK227.out 3).trans rfl; have hcz34_4 : w31.cell? ⟨gb227, 4, none⟩ = some (.string a1_4) := (kc BK227.out 4).trans rfl; have hcz34_5 : w31.cell? ⟨gb227, 5, none⟩ = some (.int .i64 a1_5) := (kc BK227.out 5).trans rfl; have hcz34_6 : w31.cell? ⟨gb227, 6, none⟩ = some (.bool a1_6) := (kc BK227.out 6).trans rfl; have hcz34_7 : w31.cell? ⟨gb227, 7, none⟩ = some (.slice A1_7 l1_7.length c1_7) := (kc BK227.out 7).trans rfl; have hfz34_0 := kf BK227.out 0; have hfz34_1 := kf BK227.out 1; have hfz34_2 := kf BK227.out 2; have hfz34_3 := kf BK227.out 3; have hfz34_4 := kf BK227.out 4; have hfz34_5 := kf BK227.out 5; have hfz34_6 := kf BK227.out 6; have hfz34_7 := kf BK227.out 7))
  go_ret
  exact ⟨by first | rfl | (simp [errW_none, errW_some] <;> rfl) | (simp [*, errW_none, errW_some] <;> rfl), by repeat (first | (with_reducible first | exact HB.out | apply ba | apply bn | apply be | refine bs ?_ GE226.out | refine bs ?_ GE227.out) | exact HB.out)⟩

end Go.Proofs.Ytlpghmopabihoaa.QFnExactAsksOf
