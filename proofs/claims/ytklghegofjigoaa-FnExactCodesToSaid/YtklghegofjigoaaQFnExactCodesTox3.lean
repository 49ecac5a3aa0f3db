/- Go functions as Lean functions, and their contracts. Own text: written by wip/gen/pr.py (a turned copy of the print). -/
import Derived.Test.YtklghegofjigoaaQFnExactCodesTox0
import Derived.Test.YtklghegofjigoaaQFnExactCodesTox2
namespace Go.Proofs.Ytklghegofjigoaa.QFnExactCodesTo
open Go.RowKit Go.Proofs.YtklghegofjigoaaW.PrintWords Go.Proofs.YtklghegofjigoaaW.PrintLast Go.Proofs.YtklghegofjigoaaW.PrintMore
attribute [local go_sem] max2_int min2_int max_two min_two max_three min_three max_four min_four   -- for this text's walks alone
set_option linter.unusedVariables false
set_option linter.unusedSimpArgs false

/-! ### laws_eqToldS: function 42 -/
def laws_eqToldS.l0 : Nat → List (S127) → List (S127) → Int → Option (Bool)
  | 0, _, _, _ => none
  | k + 1, x0, x1, x5 => if x5 < (x0.length : Int) then (if 0 ≤ x5 then (if x5 < (x1.length : Int) then ((laws_eqTold.f k ((rd_T127 x0 x5).f0) ((rd_T127 x0 x5).f1) ((rd_T127 x0 x5).f2) ((rd_T127 x0 x5).f3.f0) ((rd_T127 x0 x5).f3.f1) ((rd_T127 x0 x5).f3.f2) ((rd_T127 x0 x5).f3.f3) ((rd_T127 x0 x5).f3.f4) ((rd_T127 x1 x5).f0) ((rd_T127 x1 x5).f1) ((rd_T127 x1 x5).f2) ((rd_T127 x1 x5).f3.f0) ((rd_T127 x1 x5).f3.f1) ((rd_T127 x1 x5).f3.f2) ((rd_T127 x1 x5).f3.f3) ((rd_T127 x1 x5).f3.f4)).bind fun t172 => (if t172 = true then (laws_eqToldS.l0 k x0 x1 (wrap64 (x5 + 1))) else (some false))) else (none)) else (none)) else (some true)
def laws_eqToldS.f (k : Nat) (l0 : List (S127)) (l1 : List (S127)) : Option (Bool) := if (l0.length : Int) = (l1.length : Int) then (laws_eqToldS.l0 k l0 l1 0) else (some false)
theorem laws_eqToldS.mono_l : ∀ k, (∀ y0 y1 y2, LeO (laws_eqToldS.l0 k y0 y1 y2) (laws_eqToldS.l0 (k + 1) y0 y1 y2))
  | 0 => fun _ _ _ r h => by simp [laws_eqToldS.l0] at h
  | k + 1 => by
    have ih0 := laws_eqToldS.mono_l k
    · intro y0 y1 y2
      unfold laws_eqToldS.l0
      repeat' first
      | (with_reducible exact ih0 _ _ _)
      | (with_reducible exact laws_eqTold.mono _ _ _ _ _ _ _ _ _ _ _ _ _ _ _ _ _)
      | (with_reducible exact LeO.refl _)
      | (with_reducible exact LeO.none _)
      | (with_reducible refine LeO.ite ?_ ?_)
      | (with_reducible refine LeO.bind ?_ (fun _ => ?_))
      | exact ih0 _ _ _
      | exact laws_eqTold.mono _ _ _ _ _ _ _ _ _ _ _ _ _ _ _ _ _
      | exact LeO.none _
      | refine LeO.ite ?_ ?_
      | refine LeO.bind ?_ (fun _ => ?_)
theorem laws_eqToldS.mono : ∀ a0 a1 k, LeO (laws_eqToldS.f k a0 a1) (laws_eqToldS.f (k + 1) a0 a1) := by
  intro a0 a1 k
  have ih0 := laws_eqToldS.mono_l k
  unfold laws_eqToldS.f
  repeat' first
      | (with_reducible exact ih0 _ _ _)
      | (with_reducible exact laws_eqTold.mono _ _ _ _ _ _ _ _ _ _ _ _ _ _ _ _ _)
      | (with_reducible exact LeO.refl _)
      | (with_reducible exact LeO.none _)
      | (with_reducible refine LeO.ite ?_ ?_)
      | (with_reducible refine LeO.bind ?_ (fun _ => ?_))
      | exact ih0 _ _ _
      | exact laws_eqTold.mono _ _ _ _ _ _ _ _ _ _ _ _ _ _ _ _ _
      | exact LeO.none _
      | refine LeO.ite ?_ ?_
      | refine LeO.bind ?_ (fun _ => ?_)
def laws_eqToldS.T6 : Bool × List (List Nat × List Nat) := (true, [([], []), ([], []), ([0, 1], [0, 1]), ([2], [2]), ([], []), ([], []), ([4, 5], [4, 5]), ([6], [6]), ([3, 7], [3, 7]), ([8], [8])])
def laws_eqToldS.B6 : List Nat := [0, 0, 3, 7, 0, 0, 48, 112, 255, 511]
theorem laws_eqToldS.tab6 : rtab .any (opsOf Try.f42 6) = laws_eqToldS.T6 := by kernel_rfl
theorem laws_eqToldS.bits6 : waitsOk laws_eqToldS.T6.2 laws_eqToldS.B6 = true := by kernel_rfl
set_option maxHeartbeats 8000000 in
set_option maxRecDepth 100000 in
theorem laws_eqToldS.calls (k : Nat) (A0 : Option Addr) (c0 : Nat) (l0 : List (S127)) (A1 : Option Addr) (c1 : Nat) (l1 : List (S127)) (r : Bool) (w : World) (hr0 : Kd.C k127 w A0 l0.length l0) (hc0 : l0.length ≤ c0) (hr1 : Kd.C k127 w A1 l1.length l1) (hc1 : l1.length ≤ c1) (h : laws_eqToldS.f k l0 l1 = some r) :
    Calls Try.prog 42 #[.slice A0 l0.length c0, .slice A1 l1.length c1] w fun e w' => e = .returned (.bool r) ∧ Below w.heap.size w w' := by
  have hu127 := Try.underlying127
  have HR0 := Aside0.mk hr0
  have HC0 := Aside0.mk hc0
  clear hr0 hc0
  have HR1 := Aside0.mk hr1
  have HC1 := Aside0.mk hc1
  clear hr1 hc1
  have HB := Aside0.mk (Below.refl w.heap.size w)
  have H : (if (l0.length : Int) = (l1.length : Int) then (laws_eqToldS.l0 k l0 l1 0) else (some false)) = some r := h
  clear h
  by_cases c3 : (l0.length : Int) = (l1.length : Int)
  · rw [if_pos c3] at H
    have c3b0 : ((l0.length : Int) == (l1.length : Int)) = true := beq_iff_eq.mpr c3
    have c3b1 : ((l0.length : Int) != (l1.length : Int)) = false := bne_eq_false_iff_eq.mpr c3
    have c3b2 : (l0.length == l1.length) = true := by first | simpa using c3 | (simp at c3 ⊢; omega)
    clear c3
    have H' := Aside0.mk H
    clear H
    go_enter Try.func42, Try.ntmps42
    go_wp2
    go_loopg [5] k (fun kq v5 w' => ∃ (x5_1 : Int), v5 = .int .i64 x5_1 ∧ Aside0 (laws_eqToldS.l0 kq l0 l1 x5_1 = some r) ∧ Aside0 (kq ≤ k) ∧ Aside0 (Below w.heap.size w w'))
    case atStart => exact ⟨(0), (by first | rfl | (simp; done) | (simp [*]; done)), H', ⟨Nat.le_refl _⟩, ⟨by repeat (first | (with_reducible first | exact HB.out | apply below_alloc | apply pw_below_drewN | apply below_drew1) | exact HB.out)⟩⟩
    case round =>
      clear H'
      try clear c1
      try clear p2
      try clear c3
      try clear c3b0
      try clear c3b1
      try clear c3b2
      obtain ⟨x5_1, rfl, HA, HK1, HB⟩ := hrel
      cases gk with
      | zero => exact absurd HA.out (by simp [laws_eqToldS.l0])
      | succ k1 =>
        have H := HA.out
        clear HA
        simp only [laws_eqToldS.l0] at H
        by_cases c4 : x5_1 < (l0.length : Int)
        · rw [if_pos c4] at H
          have c4b0 : decide (x5_1 < (l0.length : Int)) = true := decide_eq_true c4
          clear c4
          by_cases c5 : 0 ≤ x5_1
          · rw [if_pos c5] at H
            have c5b0 : decide (0 ≤ x5_1) = true := decide_eq_true c5
            clear c5
            by_cases c6 : x5_1 < (l1.length : Int)
            · rw [if_pos c6] at H
              have c6b0 : decide (x5_1 < (l1.length : Int)) = true := decide_eq_true c6
              clear c6
              replace H := Option.bind_eq_some_iff.mp H
              obtain ⟨t172, A70, H⟩ := H
              replace H : (if t172 = true then (laws_eqToldS.l0 k1 l0 l1 (wrap64 (x5_1 + 1))) else (some false)) = some r := H
              have A7 := Aside0.mk A70
              clear A70
              by_cases c8 : t172 = true
              · subst c8
                have H1 : (laws_eqToldS.l0 k1 l0 l1 (wrap64 (x5_1 + 1))) = some r := by rw [if_pos rfl] at H; exact H
                clear H
                have H := H1
                clear H1
                have H' := Aside0.mk H
                clear H
                try go_wp2
                have n0_ := Aside0.mk (below_drew1 HB.out)
                clear HB
                have HB := n0_
                clear n0_
                have p170 : 0 ≤ (x5_1 : Int) := of_decide_eq_true (by first | (with_reducible assumption) | assumption)
                have q170 : x5_1 < (l0.length : Int) := of_decide_eq_true (by first | (with_reducible assumption) | assumption)
                obtain ⟨ad170, A170_7, c170_7, e170, hx170_0, hx170_1, hx170_2, hx170_3, hx170_4, hx170_5, hx170_6, hx170_7, hl170_7, hi170_7⟩ := at_T127 HR0.out x5_1 p170 q170
                have hw170_7 := hx170_7
                have hw170_6 := hx170_6
                have hw170_5 := hx170_5
                have hw170_4 := hx170_4
                have hw170_3 := hx170_3
                have hw170_2 := hx170_2
                have hw170_1 := hx170_1
                have hw170_0 := hx170_0
                cases e170
                replace hx170_0 := (HB.out.cell (World.block_lt_of_cell? w _ hx170_0)).trans hx170_0
                replace hx170_1 := (HB.out.cell (World.block_lt_of_cell? w _ hx170_1)).trans hx170_1
                replace hx170_2 := (HB.out.cell (World.block_lt_of_cell? w _ hx170_2)).trans hx170_2
                replace hx170_3 := (HB.out.cell (World.block_lt_of_cell? w _ hx170_3)).trans hx170_3
                replace hx170_4 := (HB.out.cell (World.block_lt_of_cell? w _ hx170_4)).trans hx170_4
                replace hx170_5 := (HB.out.cell (World.block_lt_of_cell? w _ hx170_5)).trans hx170_5
                replace hx170_6 := (HB.out.cell (World.block_lt_of_cell? w _ hx170_6)).trans hx170_6
                replace hx170_7 := (HB.out.cell (World.block_lt_of_cell? w _ hx170_7)).trans hx170_7
                have HR170_7 := Aside0.mk hi170_7
                have HC170_7 := Aside0.mk hl170_7
                clear hi170_7 hl170_7
                replace p170 := eq_true p170
                replace q170 := eq_true q170
                have p171 : 0 ≤ (x5_1 : Int) := of_decide_eq_true (by first | (with_reducible assumption) | assumption)
                have q171 : x5_1 < (l1.length : Int) := of_decide_eq_true (by first | (with_reducible assumption) | assumption)
                obtain ⟨ad171, A171_7, c171_7, e171, hx171_0, hx171_1, hx171_2, hx171_3, hx171_4, hx171_5, hx171_6, hx171_7, hl171_7, hi171_7⟩ := at_T127 HR1.out x5_1 p171 q171
                have hw171_7 := hx171_7
                have hw171_6 := hx171_6
                have hw171_5 := hx171_5
                have hw171_4 := hx171_4
                have hw171_3 := hx171_3
                have hw171_2 := hx171_2
                have hw171_1 := hx171_1
                have hw171_0 := hx171_0
                cases e171
                replace hx171_0 := (HB.out.cell (World.block_lt_of_cell? w _ hx171_0)).trans hx171_0
                replace hx171_1 := (HB.out.cell (World.block_lt_of_cell? w _ hx171_1)).trans hx171_1
                replace hx171_2 := (HB.out.cell (World.block_lt_of_cell? w _ hx171_2)).trans hx171_2
                replace hx171_3 := (HB.out.cell (World.block_lt_of_cell? w _ hx171_3)).trans hx171_3
                replace hx171_4 := (HB.out.cell (World.block_lt_of_cell? w _ hx171_4)).trans hx171_4
                replace hx171_5 := (HB.out.cell (World.block_lt_of_cell? w _ hx171_5)).trans hx171_5
                replace hx171_6 := (HB.out.cell (World.block_lt_of_cell? w _ hx171_6)).trans hx171_6
                replace hx171_7 := (HB.out.cell (World.block_lt_of_cell? w _ hx171_7)).trans hx171_7
                have HR171_7 := Aside0.mk hi171_7
                have HC171_7 := Aside0.mk hl171_7
                clear hi171_7 hl171_7
                replace p171 := eq_true p171
                replace q171 := eq_true q171
                refine start_ (n := 10) (S := fun w' => w'.cell? (ad170.add ((x5_1).toNat * 8)) = some (.int .i64 ((rd_T127 l0 x5_1).f0)) ∧ w'.cell? ⟨(ad170.add ((x5_1).toNat * 8)).block, (ad170.add ((x5_1).toNat * 8)).off + 1, none⟩ = some (.int .i64 ((rd_T127 l0 x5_1).f1)) ∧ w'.cell? ⟨(ad170.add ((x5_1).toNat * 8)).block, (ad170.add ((x5_1).toNat * 8)).off + 2, none⟩ = some (.bool ((rd_T127 l0 x5_1).f2)) ∧ w'.cell? ⟨(ad170.add ((x5_1).toNat * 8)).block, (ad170.add ((x5_1).toNat * 8)).off + 3, none⟩ = some (.int .i64 ((rd_T127 l0 x5_1).f3.f0)) ∧ w'.cell? ⟨(ad170.add ((x5_1).toNat * 8)).block, (ad170.add ((x5_1).toNat * 8)).off + 4, none⟩ = some (.string ((rd_T127 l0 x5_1).f3.f1)) ∧ w'.cell? ⟨(ad170.add ((x5_1).toNat * 8)).block, (ad170.add ((x5_1).toNat * 8)).off + 5, none⟩ = some (.int .i64 ((rd_T127 l0 x5_1).f3.f2)) ∧ w'.cell? ⟨(ad170.add ((x5_1).toNat * 8)).block, (ad170.add ((x5_1).toNat * 8)).off + 6, none⟩ = some (.bool ((rd_T127 l0 x5_1).f3.f3)) ∧ w'.cell? ⟨(ad170.add ((x5_1).toNat * 8)).block, (ad170.add ((x5_1).toNat * 8)).off + 7, none⟩ = some (.slice A170_7 ((rd_T127 l0 x5_1).f3.f4).length c170_7) ∧ w'.cell? (ad171.add ((x5_1).toNat * 8)) = some (.int .i64 ((rd_T127 l1 x5_1).f0)) ∧ w'.cell? ⟨(ad171.add ((x5_1).toNat * 8)).block, (ad171.add ((x5_1).toNat * 8)).off + 1, none⟩ = some (.int .i64 ((rd_T127 l1 x5_1).f1)) ∧ w'.cell? ⟨(ad171.add ((x5_1).toNat * 8)).block, (ad171.add ((x5_1).toNat * 8)).off + 2, none⟩ = some (.bool ((rd_T127 l1 x5_1).f2)) ∧ w'.cell? ⟨(ad171.add ((x5_1).toNat * 8)).block, (ad171.add ((x5_1).toNat * 8)).off + 3, none⟩ = some (.int .i64 ((rd_T127 l1 x5_1).f3.f0)) ∧ w'.cell? ⟨(ad171.add ((x5_1).toNat * 8)).block, (ad171.add ((x5_1).toNat * 8)).off + 4, none⟩ = some (.string ((rd_T127 l1 x5_1).f3.f1)) ∧ w'.cell? ⟨(ad171.add ((x5_1).toNat * 8)).block, (ad171.add ((x5_1).toNat * 8)).off + 5, none⟩ = some (.int .i64 ((rd_T127 l1 x5_1).f3.f2)) ∧ w'.cell? ⟨(ad171.add ((x5_1).toNat * 8)).block, (ad171.add ((x5_1).toNat * 8)).off + 6, none⟩ = some (.bool ((rd_T127 l1 x5_1).f3.f3)) ∧ w'.cell? ⟨(ad171.add ((x5_1).toNat * 8)).block, (ad171.add ((x5_1).toNat * 8)).off + 7, none⟩ = some (.slice A171_7 ((rd_T127 l1 x5_1).f3.f4).length c171_7)) (ds := []) #[false, false, false, false, false, false, false, false, false, false] (by kernel_rfl) rfl rfl ⟨((HB.out.cell (World.block_lt_of_cell? w _ hw170_0)).trans hw170_0), ((HB.out.cell (World.block_lt_of_cell? w _ hw170_1)).trans hw170_1), ((HB.out.cell (World.block_lt_of_cell? w _ hw170_2)).trans hw170_2), ((HB.out.cell (World.block_lt_of_cell? w _ hw170_3)).trans hw170_3), ((HB.out.cell (World.block_lt_of_cell? w _ hw170_4)).trans hw170_4), ((HB.out.cell (World.block_lt_of_cell? w _ hw170_5)).trans hw170_5), ((HB.out.cell (World.block_lt_of_cell? w _ hw170_6)).trans hw170_6), ((HB.out.cell (World.block_lt_of_cell? w _ hw170_7)).trans hw170_7), ((HB.out.cell (World.block_lt_of_cell? w _ hw171_0)).trans hw171_0), ((HB.out.cell (World.block_lt_of_cell? w _ hw171_1)).trans hw171_1), ((HB.out.cell (World.block_lt_of_cell? w _ hw171_2)).trans hw171_2), ((HB.out.cell (World.block_lt_of_cell? w _ hw171_3)).trans hw171_3), ((HB.out.cell (World.block_lt_of_cell? w _ hw171_4)).trans hw171_4), ((HB.out.cell (World.block_lt_of_cell? w _ hw171_5)).trans hw171_5), ((HB.out.cell (World.block_lt_of_cell? w _ hw171_6)).trans hw171_6), ((HB.out.cell (World.block_lt_of_cell? w _ hw171_7)).trans hw171_7)⟩ (fun hHeld => ?_); refine with_tabW laws_eqToldS.tab6 laws_eqToldS.bits6 (fun HT_ HW_ => ?_)
                generalize wr.drew = w9 at HB HR170_7 HR171_7 hx170_0 hx170_1 hx170_2 hx170_3 hx170_4 hx170_5 hx170_6 hx170_7 hx171_0 hx171_1 hx171_2 hx171_3 hx171_4 hx171_5 hx171_6 hx171_7 hHeld ⊢
                refine pure_ (i := 0) (N := some 17) (v := ?_) (a' := ?_) #[true, false, false, false, false, false, false, false, false, false] rfl rfl (any_of HT_.out (by kernel_rfl)) (fun _ _ _ h => h) (Or.inl ⟨by rfl, ?_⟩) ?_ ?_
                rotate_left
                · intro w'
                  go_simp
                  with_reducible rfl
                rotate_left
                · simp only [Act.put, List.setIfInBounds_toArray, List.set_cons_zero, List.set_cons_succ, i64_w, i32_w]
                  rfl
                refine pure_ (i := 1) (N := some 18) (v := ?_) (a' := ?_) #[true, true, false, false, false, false, false, false, false, false] rfl rfl (any_of HT_.out (by kernel_rfl)) (fun _ _ _ h => h) (Or.inl ⟨by rfl, ?_⟩) ?_ ?_
                rotate_left
                · intro w'
                  go_simp
                  with_reducible rfl
                rotate_left
                · simp only [Act.put, List.setIfInBounds_toArray, List.set_cons_zero, List.set_cons_succ, i64_w, i32_w]
                  rfl
                refine pure_ (i := 2) (N := some 19) (v := ?_) (a' := ?_) #[true, true, true, false, false, false, false, false, false, false] rfl rfl (any_of HT_.out (by kernel_rfl)) (fun _ _ _ h => h) (Or.inl ⟨by rfl, ?_⟩) ?_ ?_
                rotate_left
                · intro w'
                  go_simp
                  with_reducible rfl
                rotate_left
                · simp only [Act.put, List.setIfInBounds_toArray, List.set_cons_zero, List.set_cons_succ, i64_w, i32_w]
                  rfl
                refine pure_ (i := 4) (N := some 21) (v := ?_) (a' := ?_) #[true, true, true, false, true, false, false, false, false, false] rfl rfl (any_of HT_.out (by kernel_rfl)) (fun _ _ _ h => h) (Or.inl ⟨by rfl, ?_⟩) ?_ ?_
                rotate_left
                · intro w'
                  go_simp
                  with_reducible rfl
                rotate_left
                · simp only [Act.put, List.setIfInBounds_toArray, List.set_cons_zero, List.set_cons_succ, i64_w, i32_w]
                  rfl
                refine pure_ (i := 5) (N := some 22) (v := ?_) (a' := ?_) #[true, true, true, false, true, true, false, false, false, false] rfl rfl (any_of HT_.out (by kernel_rfl)) (fun _ _ _ h => h) (Or.inl ⟨by rfl, ?_⟩) ?_ ?_
                rotate_left
                · intro w'
                  go_simp
                  with_reducible rfl
                rotate_left
                · simp only [Act.put, List.setIfInBounds_toArray, List.set_cons_zero, List.set_cons_succ, i64_w, i32_w]
                  rfl
                refine pure_ (i := 6) (N := some 23) (v := ?_) (a' := ?_) #[true, true, true, false, true, true, true, false, false, false] rfl rfl (any_of HT_.out (by kernel_rfl)) (fun _ _ _ h => h) (Or.inl ⟨by rfl, ?_⟩) ?_ ?_
                rotate_left
                · intro w'
                  go_simp
                  with_reducible rfl
                rotate_left
                · simp only [Act.put, List.setIfInBounds_toArray, List.set_cons_zero, List.set_cons_succ, i64_w, i32_w]
                  rfl
                refine take_ (i := 3) (N := some 20) (v := ?_) (a' := ?_) #[true, true, true, true, true, true, true, false, false, false] rfl rfl (take_ofW HT_.out HW_.out (by kernel_rfl)) (fun _ _ _ h => h) (Or.inl ⟨by rfl, ?_⟩) hHeld ?_ ?_
                rotate_left
                · rintro w' ⟨s0, s1, s2, s3, s4, s5, s6, s7, s8, s9, s10, s11, s12, s13, s14, s15⟩
                  go_simp
                  with_reducible rfl
                rotate_left
                · simp only [Act.put, List.setIfInBounds_toArray, List.set_cons_zero, List.set_cons_succ, i64_w, i32_w]
                  rfl
                refine take_ (i := 7) (N := some 24) (v := ?_) (a' := ?_) #[true, true, true, true, true, true, true, true, false, false] rfl rfl (take_ofW HT_.out HW_.out (by kernel_rfl)) (fun _ _ _ h => h) (Or.inl ⟨by rfl, ?_⟩) hHeld ?_ ?_
                rotate_left
                · rintro w' ⟨s0, s1, s2, s3, s4, s5, s6, s7, s8, s9, s10, s11, s12, s13, s14, s15⟩
                  go_simp
                  with_reducible rfl
                rotate_left
                · simp only [Act.put, List.setIfInBounds_toArray, List.set_cons_zero, List.set_cons_succ, i64_w, i32_w]
                  rfl
                refine one_ (i := 8) (N := some 25) #[true, true, true, true, true, true, true, true, true, false] rfl rfl (one_of HT_.out (by kernel_rfl)) (by decide) (fun K hK => ?_)
                refine goes_ Try.func94 (by kernel_rfl) rfl #[.agg #[.int .i64 ((rd_T127 l0 x5_1).f0), .int .i64 ((rd_T127 l0 x5_1).f1), .bool ((rd_T127 l0 x5_1).f2), .int .i64 ((rd_T127 l0 x5_1).f3.f0), .string ((rd_T127 l0 x5_1).f3.f1), .int .i64 ((rd_T127 l0 x5_1).f3.f2), .bool ((rd_T127 l0 x5_1).f3.f3), .slice A170_7 ((rd_T127 l0 x5_1).f3.f4).length c170_7], .agg #[.int .i64 ((rd_T127 l1 x5_1).f0), .int .i64 ((rd_T127 l1 x5_1).f1), .bool ((rd_T127 l1 x5_1).f2), .int .i64 ((rd_T127 l1 x5_1).f3.f0), .string ((rd_T127 l1 x5_1).f3.f1), .int .i64 ((rd_T127 l1 x5_1).f3.f2), .bool ((rd_T127 l1 x5_1).f3.f3), .slice A171_7 ((rd_T127 l1 x5_1).f3.f4).length c171_7]] (by rfl) rfl rfl (by (try simp only [List.map_toArray, List.map_cons, List.map_nil]); first | done | rfl | (simp only [List.length_drop, List.length_take]; rfl)) ?_
                with_reducible refine (laws_eqTold.calls k1 ((rd_T127 l0 x5_1).f0) ((rd_T127 l0 x5_1).f1) ((rd_T127 l0 x5_1).f2) ((rd_T127 l0 x5_1).f3.f0) ((rd_T127 l0 x5_1).f3.f1) ((rd_T127 l0 x5_1).f3.f2) ((rd_T127 l0 x5_1).f3.f3) _ _ ((rd_T127 l0 x5_1).f3.f4) ((rd_T127 l1 x5_1).f0) ((rd_T127 l1 x5_1).f1) ((rd_T127 l1 x5_1).f2) ((rd_T127 l1 x5_1).f3.f0) ((rd_T127 l1 x5_1).f3.f1) ((rd_T127 l1 x5_1).f3.f2) ((rd_T127 l1 x5_1).f3.f3) _ _ ((rd_T127 l1 x5_1).f3.f4) true _ ?side1 ?side2 ?side3 ?side4 A7.out).mono ?_
                (case side1 => repeat (first | exact (Kd.C_below HR170_7.out HB.out) | (with_reducible refine Kd.C_alloc ?_ _) | (with_reducible refine Kd.C_drewN ?_ _) | (with_reducible refine Kd.C_drew ?_)))
                (case side2 => exact HC170_7.out)
                (case side3 => repeat (first | exact (Kd.C_below HR171_7.out HB.out) | (with_reducible refine Kd.C_alloc ?_ _) | (with_reducible refine Kd.C_drewN ?_ _) | (with_reducible refine Kd.C_drew ?_)))
                (case side4 => exact HC171_7.out)
                rintro e w10 ⟨rfl, hb⟩
                refine ⟨_, rfl, ?_⟩
                have n0_ := Aside0.mk (below_step (by repeat (first | (with_reducible first | exact HB.out | apply below_alloc | apply pw_below_drewN | apply below_drew1) | exact HB.out)) hb)
                clear HB
                have HB := n0_
                clear n0_
                (try clear hb)
                (try clear hb2)
                (try clear hk)
                (try clear hi)
                refine hK.out _ _ ⟨((HB.out.cell (World.block_lt_of_cell? w _ hw170_0)).trans hw170_0), ((HB.out.cell (World.block_lt_of_cell? w _ hw170_1)).trans hw170_1), ((HB.out.cell (World.block_lt_of_cell? w _ hw170_2)).trans hw170_2), ((HB.out.cell (World.block_lt_of_cell? w _ hw170_3)).trans hw170_3), ((HB.out.cell (World.block_lt_of_cell? w _ hw170_4)).trans hw170_4), ((HB.out.cell (World.block_lt_of_cell? w _ hw170_5)).trans hw170_5), ((HB.out.cell (World.block_lt_of_cell? w _ hw170_6)).trans hw170_6), ((HB.out.cell (World.block_lt_of_cell? w _ hw170_7)).trans hw170_7), ((HB.out.cell (World.block_lt_of_cell? w _ hw171_0)).trans hw171_0), ((HB.out.cell (World.block_lt_of_cell? w _ hw171_1)).trans hw171_1), ((HB.out.cell (World.block_lt_of_cell? w _ hw171_2)).trans hw171_2), ((HB.out.cell (World.block_lt_of_cell? w _ hw171_3)).trans hw171_3), ((HB.out.cell (World.block_lt_of_cell? w _ hw171_4)).trans hw171_4), ((HB.out.cell (World.block_lt_of_cell? w _ hw171_5)).trans hw171_5), ((HB.out.cell (World.block_lt_of_cell? w _ hw171_6)).trans hw171_6), ((HB.out.cell (World.block_lt_of_cell? w _ hw171_7)).trans hw171_7)⟩ (fun hHeld => ?_)
                clear hK K
                refine norm_ (a' := ?_) ?_ ?_
                rotate_left
                · show Act.put _ (some 25) _ = _
                  simp only [Act.put, List.setIfInBounds_toArray, List.set_cons_zero, List.set_cons_succ, i64_w, i32_w]
                  rfl
                refine pure_ (i := 9) (N := some 26) (v := ?_) (a' := ?_) #[true, true, true, true, true, true, true, true, true, true] rfl rfl (any_of HT_.out (by kernel_rfl)) (fun _ _ _ h => h) (Or.inl ⟨by rfl, ?_⟩) ?_ ?_
                rotate_left
                · intro w'
                  go_simp
                  with_reducible rfl
                rotate_left
                · simp only [Act.put, List.setIfInBounds_toArray, List.set_cons_zero, List.set_cons_succ, i64_w, i32_w]
                  rfl
                refine done_ (done_of HT_.out (by kernel_rfl)) ?_
                try go_wp2
                go_roundg k1
                case measure => have := HK1.out; omega
                case rel => exact ⟨(wrap64 (x5_1 + 1)), (by first | rfl | (simp; done) | (simp [*]; done)), H', ⟨by have := HK1.out; omega⟩, ⟨by repeat (first | (with_reducible first | exact HB.out | apply below_alloc | apply pw_below_drewN | apply below_drew1) | exact HB.out)⟩⟩
              · replace c8 := Bool.eq_false_iff.mpr c8
                subst c8
                have H1 : (some false) = some r := by rw [if_neg (show ¬ (false = true) by decide)] at H; exact H
                clear H
                have H := H1
                clear H1
                obtain rfl := Option.some.inj H
                try go_wp2
                have n0_ := Aside0.mk (below_drew1 HB.out)
                clear HB
                have HB := n0_
                clear n0_
                have p170 : 0 ≤ (x5_1 : Int) := of_decide_eq_true (by first | (with_reducible assumption) | assumption)
                have q170 : x5_1 < (l0.length : Int) := of_decide_eq_true (by first | (with_reducible assumption) | assumption)
                obtain ⟨ad170, A170_7, c170_7, e170, hx170_0, hx170_1, hx170_2, hx170_3, hx170_4, hx170_5, hx170_6, hx170_7, hl170_7, hi170_7⟩ := at_T127 HR0.out x5_1 p170 q170
                have hw170_7 := hx170_7
                have hw170_6 := hx170_6
                have hw170_5 := hx170_5
                have hw170_4 := hx170_4
                have hw170_3 := hx170_3
                have hw170_2 := hx170_2
                have hw170_1 := hx170_1
                have hw170_0 := hx170_0
                cases e170
                replace hx170_0 := (HB.out.cell (World.block_lt_of_cell? w _ hx170_0)).trans hx170_0
                replace hx170_1 := (HB.out.cell (World.block_lt_of_cell? w _ hx170_1)).trans hx170_1
                replace hx170_2 := (HB.out.cell (World.block_lt_of_cell? w _ hx170_2)).trans hx170_2
                replace hx170_3 := (HB.out.cell (World.block_lt_of_cell? w _ hx170_3)).trans hx170_3
                replace hx170_4 := (HB.out.cell (World.block_lt_of_cell? w _ hx170_4)).trans hx170_4
                replace hx170_5 := (HB.out.cell (World.block_lt_of_cell? w _ hx170_5)).trans hx170_5
                replace hx170_6 := (HB.out.cell (World.block_lt_of_cell? w _ hx170_6)).trans hx170_6
                replace hx170_7 := (HB.out.cell (World.block_lt_of_cell? w _ hx170_7)).trans hx170_7
                have HR170_7 := Aside0.mk hi170_7
                have HC170_7 := Aside0.mk hl170_7
                clear hi170_7 hl170_7
                replace p170 := eq_true p170
                replace q170 := eq_true q170
                have p171 : 0 ≤ (x5_1 : Int) := of_decide_eq_true (by first | (with_reducible assumption) | assumption)
                have q171 : x5_1 < (l1.length : Int) := of_decide_eq_true (by first | (with_reducible assumption) | assumption)
                obtain ⟨ad171, A171_7, c171_7, e171, hx171_0, hx171_1, hx171_2, hx171_3, hx171_4, hx171_5, hx171_6, hx171_7, hl171_7, hi171_7⟩ := at_T127 HR1.out x5_1 p171 q171
                have hw171_7 := hx171_7
                have hw171_6 := hx171_6
                have hw171_5 := hx171_5
                have hw171_4 := hx171_4
                have hw171_3 := hx171_3
                have hw171_2 := hx171_2
                have hw171_1 := hx171_1
                have hw171_0 := hx171_0
                cases e171
                replace hx171_0 := (HB.out.cell (World.block_lt_of_cell? w _ hx171_0)).trans hx171_0
                replace hx171_1 := (HB.out.cell (World.block_lt_of_cell? w _ hx171_1)).trans hx171_1
                replace hx171_2 := (HB.out.cell (World.block_lt_of_cell? w _ hx171_2)).trans hx171_2
                replace hx171_3 := (HB.out.cell (World.block_lt_of_cell? w _ hx171_3)).trans hx171_3
                replace hx171_4 := (HB.out.cell (World.block_lt_of_cell? w _ hx171_4)).trans hx171_4
                replace hx171_5 := (HB.out.cell (World.block_lt_of_cell? w _ hx171_5)).trans hx171_5
                replace hx171_6 := (HB.out.cell (World.block_lt_of_cell? w _ hx171_6)).trans hx171_6
                replace hx171_7 := (HB.out.cell (World.block_lt_of_cell? w _ hx171_7)).trans hx171_7
                have HR171_7 := Aside0.mk hi171_7
                have HC171_7 := Aside0.mk hl171_7
                clear hi171_7 hl171_7
                replace p171 := eq_true p171
                replace q171 := eq_true q171
                refine start_ (n := 10) (S := fun w' => w'.cell? (ad170.add ((x5_1).toNat * 8)) = some (.int .i64 ((rd_T127 l0 x5_1).f0)) ∧ w'.cell? ⟨(ad170.add ((x5_1).toNat * 8)).block, (ad170.add ((x5_1).toNat * 8)).off + 1, none⟩ = some (.int .i64 ((rd_T127 l0 x5_1).f1)) ∧ w'.cell? ⟨(ad170.add ((x5_1).toNat * 8)).block, (ad170.add ((x5_1).toNat * 8)).off + 2, none⟩ = some (.bool ((rd_T127 l0 x5_1).f2)) ∧ w'.cell? ⟨(ad170.add ((x5_1).toNat * 8)).block, (ad170.add ((x5_1).toNat * 8)).off + 3, none⟩ = some (.int .i64 ((rd_T127 l0 x5_1).f3.f0)) ∧ w'.cell? ⟨(ad170.add ((x5_1).toNat * 8)).block, (ad170.add ((x5_1).toNat * 8)).off + 4, none⟩ = some (.string ((rd_T127 l0 x5_1).f3.f1)) ∧ w'.cell? ⟨(ad170.add ((x5_1).toNat * 8)).block, (ad170.add ((x5_1).toNat * 8)).off + 5, none⟩ = some (.int .i64 ((rd_T127 l0 x5_1).f3.f2)) ∧ w'.cell? ⟨(ad170.add ((x5_1).toNat * 8)).block, (ad170.add ((x5_1).toNat * 8)).off + 6, none⟩ = some (.bool ((rd_T127 l0 x5_1).f3.f3)) ∧ w'.cell? ⟨(ad170.add ((x5_1).toNat * 8)).block, (ad170.add ((x5_1).toNat * 8)).off + 7, none⟩ = some (.slice A170_7 ((rd_T127 l0 x5_1).f3.f4).length c170_7) ∧ w'.cell? (ad171.add ((x5_1).toNat * 8)) = some (.int .i64 ((rd_T127 l1 x5_1).f0)) ∧ w'.cell? ⟨(ad171.add ((x5_1).toNat * 8)).block, (ad171.add ((x5_1).toNat * 8)).off + 1, none⟩ = some (.int .i64 ((rd_T127 l1 x5_1).f1)) ∧ w'.cell? ⟨(ad171.add ((x5_1).toNat * 8)).block, (ad171.add ((x5_1).toNat * 8)).off + 2, none⟩ = some (.bool ((rd_T127 l1 x5_1).f2)) ∧ w'.cell? ⟨(ad171.add ((x5_1).toNat * 8)).block, (ad171.add ((x5_1).toNat * 8)).off + 3, none⟩ = some (.int .i64 ((rd_T127 l1 x5_1).f3.f0)) ∧ w'.cell? ⟨(ad171.add ((x5_1).toNat * 8)).block, (ad171.add ((x5_1).toNat * 8)).off + 4, none⟩ = some (.string ((rd_T127 l1 x5_1).f3.f1)) ∧ w'.cell? ⟨(ad171.add ((x5_1).toNat * 8)).block, (ad171.add ((x5_1).toNat * 8)).off + 5, none⟩ = some (.int .i64 ((rd_T127 l1 x5_1).f3.f2)) ∧ w'.cell? ⟨(ad171.add ((x5_1).toNat * 8)).block, (ad171.add ((x5_1).toNat * 8)).off + 6, none⟩ = some (.bool ((rd_T127 l1 x5_1).f3.f3)) ∧ w'.cell? ⟨(ad171.add ((x5_1).toNat * 8)).block, (ad171.add ((x5_1).toNat * 8)).off + 7, none⟩ = some (.slice A171_7 ((rd_T127 l1 x5_1).f3.f4).length c171_7)) (ds := []) #[false, false, false, false, false, false, false, false, false, false] (by kernel_rfl) rfl rfl ⟨((HB.out.cell (World.block_lt_of_cell? w _ hw170_0)).trans hw170_0), ((HB.out.cell (World.block_lt_of_cell? w _ hw170_1)).trans hw170_1), ((HB.out.cell (World.block_lt_of_cell? w _ hw170_2)).trans hw170_2), ((HB.out.cell (World.block_lt_of_cell? w _ hw170_3)).trans hw170_3), ((HB.out.cell (World.block_lt_of_cell? w _ hw170_4)).trans hw170_4), ((HB.out.cell (World.block_lt_of_cell? w _ hw170_5)).trans hw170_5), ((HB.out.cell (World.block_lt_of_cell? w _ hw170_6)).trans hw170_6), ((HB.out.cell (World.block_lt_of_cell? w _ hw170_7)).trans hw170_7), ((HB.out.cell (World.block_lt_of_cell? w _ hw171_0)).trans hw171_0), ((HB.out.cell (World.block_lt_of_cell? w _ hw171_1)).trans hw171_1), ((HB.out.cell (World.block_lt_of_cell? w _ hw171_2)).trans hw171_2), ((HB.out.cell (World.block_lt_of_cell? w _ hw171_3)).trans hw171_3), ((HB.out.cell (World.block_lt_of_cell? w _ hw171_4)).trans hw171_4), ((HB.out.cell (World.block_lt_of_cell? w _ hw171_5)).trans hw171_5), ((HB.out.cell (World.block_lt_of_cell? w _ hw171_6)).trans hw171_6), ((HB.out.cell (World.block_lt_of_cell? w _ hw171_7)).trans hw171_7)⟩ (fun hHeld => ?_); refine with_tabW laws_eqToldS.tab6 laws_eqToldS.bits6 (fun HT_ HW_ => ?_)
                generalize wr.drew = w11 at HB HR170_7 HR171_7 hx170_0 hx170_1 hx170_2 hx170_3 hx170_4 hx170_5 hx170_6 hx170_7 hx171_0 hx171_1 hx171_2 hx171_3 hx171_4 hx171_5 hx171_6 hx171_7 hHeld ⊢
                refine pure_ (i := 0) (N := some 17) (v := ?_) (a' := ?_) #[true, false, false, false, false, false, false, false, false, false] rfl rfl (any_of HT_.out (by kernel_rfl)) (fun _ _ _ h => h) (Or.inl ⟨by rfl, ?_⟩) ?_ ?_
                rotate_left
                · intro w'
                  go_simp
                  with_reducible rfl
                rotate_left
                · simp only [Act.put, List.setIfInBounds_toArray, List.set_cons_zero, List.set_cons_succ, i64_w, i32_w]
                  rfl
                refine pure_ (i := 1) (N := some 18) (v := ?_) (a' := ?_) #[true, true, false, false, false, false, false, false, false, false] rfl rfl (any_of HT_.out (by kernel_rfl)) (fun _ _ _ h => h) (Or.inl ⟨by rfl, ?_⟩) ?_ ?_
                rotate_left
                · intro w'
                  go_simp
                  with_reducible rfl
                rotate_left
                · simp only [Act.put, List.setIfInBounds_toArray, List.set_cons_zero, List.set_cons_succ, i64_w, i32_w]
                  rfl
                refine pure_ (i := 2) (N := some 19) (v := ?_) (a' := ?_) #[true, true, true, false, false, false, false, false, false, false] rfl rfl (any_of HT_.out (by kernel_rfl)) (fun _ _ _ h => h) (Or.inl ⟨by rfl, ?_⟩) ?_ ?_
                rotate_left
                · intro w'
                  go_simp
                  with_reducible rfl
                rotate_left
                · simp only [Act.put, List.setIfInBounds_toArray, List.set_cons_zero, List.set_cons_succ, i64_w, i32_w]
                  rfl
                refine pure_ (i := 4) (N := some 21) (v := ?_) (a' := ?_) #[true, true, true, false, true, false, false, false, false, false] rfl rfl (any_of HT_.out (by kernel_rfl)) (fun _ _ _ h => h) (Or.inl ⟨by rfl, ?_⟩) ?_ ?_
                rotate_left
                · intro w'
                  go_simp
                  with_reducible rfl
                rotate_left
                · simp only [Act.put, List.setIfInBounds_toArray, List.set_cons_zero, List.set_cons_succ, i64_w, i32_w]
                  rfl
                refine pure_ (i := 5) (N := some 22) (v := ?_) (a' := ?_) #[true, true, true, false, true, true, false, false, false, false] rfl rfl (any_of HT_.out (by kernel_rfl)) (fun _ _ _ h => h) (Or.inl ⟨by rfl, ?_⟩) ?_ ?_
                rotate_left
                · intro w'
                  go_simp
                  with_reducible rfl
                rotate_left
                · simp only [Act.put, List.setIfInBounds_toArray, List.set_cons_zero, List.set_cons_succ, i64_w, i32_w]
                  rfl
                refine pure_ (i := 6) (N := some 23) (v := ?_) (a' := ?_) #[true, true, true, false, true, true, true, false, false, false] rfl rfl (any_of HT_.out (by kernel_rfl)) (fun _ _ _ h => h) (Or.inl ⟨by rfl, ?_⟩) ?_ ?_
                rotate_left
                · intro w'
                  go_simp
                  with_reducible rfl
                rotate_left
                · simp only [Act.put, List.setIfInBounds_toArray, List.set_cons_zero, List.set_cons_succ, i64_w, i32_w]
                  rfl
                refine take_ (i := 3) (N := some 20) (v := ?_) (a' := ?_) #[true, true, true, true, true, true, true, false, false, false] rfl rfl (take_ofW HT_.out HW_.out (by kernel_rfl)) (fun _ _ _ h => h) (Or.inl ⟨by rfl, ?_⟩) hHeld ?_ ?_
                rotate_left
                · rintro w' ⟨s0, s1, s2, s3, s4, s5, s6, s7, s8, s9, s10, s11, s12, s13, s14, s15⟩
                  go_simp
                  with_reducible rfl
                rotate_left
                · simp only [Act.put, List.setIfInBounds_toArray, List.set_cons_zero, List.set_cons_succ, i64_w, i32_w]
                  rfl
                refine take_ (i := 7) (N := some 24) (v := ?_) (a' := ?_) #[true, true, true, true, true, true, true, true, false, false] rfl rfl (take_ofW HT_.out HW_.out (by kernel_rfl)) (fun _ _ _ h => h) (Or.inl ⟨by rfl, ?_⟩) hHeld ?_ ?_
                rotate_left
                · rintro w' ⟨s0, s1, s2, s3, s4, s5, s6, s7, s8, s9, s10, s11, s12, s13, s14, s15⟩
                  go_simp
                  with_reducible rfl
                rotate_left
                · simp only [Act.put, List.setIfInBounds_toArray, List.set_cons_zero, List.set_cons_succ, i64_w, i32_w]
                  rfl
                refine one_ (i := 8) (N := some 25) #[true, true, true, true, true, true, true, true, true, false] rfl rfl (one_of HT_.out (by kernel_rfl)) (by decide) (fun K hK => ?_)
                refine goes_ Try.func94 (by kernel_rfl) rfl #[.agg #[.int .i64 ((rd_T127 l0 x5_1).f0), .int .i64 ((rd_T127 l0 x5_1).f1), .bool ((rd_T127 l0 x5_1).f2), .int .i64 ((rd_T127 l0 x5_1).f3.f0), .string ((rd_T127 l0 x5_1).f3.f1), .int .i64 ((rd_T127 l0 x5_1).f3.f2), .bool ((rd_T127 l0 x5_1).f3.f3), .slice A170_7 ((rd_T127 l0 x5_1).f3.f4).length c170_7], .agg #[.int .i64 ((rd_T127 l1 x5_1).f0), .int .i64 ((rd_T127 l1 x5_1).f1), .bool ((rd_T127 l1 x5_1).f2), .int .i64 ((rd_T127 l1 x5_1).f3.f0), .string ((rd_T127 l1 x5_1).f3.f1), .int .i64 ((rd_T127 l1 x5_1).f3.f2), .bool ((rd_T127 l1 x5_1).f3.f3), .slice A171_7 ((rd_T127 l1 x5_1).f3.f4).length c171_7]] (by rfl) rfl rfl (by (try simp only [List.map_toArray, List.map_cons, List.map_nil]); first | done | rfl | (simp only [List.length_drop, List.length_take]; rfl)) ?_
                with_reducible refine (laws_eqTold.calls k1 ((rd_T127 l0 x5_1).f0) ((rd_T127 l0 x5_1).f1) ((rd_T127 l0 x5_1).f2) ((rd_T127 l0 x5_1).f3.f0) ((rd_T127 l0 x5_1).f3.f1) ((rd_T127 l0 x5_1).f3.f2) ((rd_T127 l0 x5_1).f3.f3) _ _ ((rd_T127 l0 x5_1).f3.f4) ((rd_T127 l1 x5_1).f0) ((rd_T127 l1 x5_1).f1) ((rd_T127 l1 x5_1).f2) ((rd_T127 l1 x5_1).f3.f0) ((rd_T127 l1 x5_1).f3.f1) ((rd_T127 l1 x5_1).f3.f2) ((rd_T127 l1 x5_1).f3.f3) _ _ ((rd_T127 l1 x5_1).f3.f4) false _ ?side1 ?side2 ?side3 ?side4 A7.out).mono ?_
                (case side1 => repeat (first | exact (Kd.C_below HR170_7.out HB.out) | (with_reducible refine Kd.C_alloc ?_ _) | (with_reducible refine Kd.C_drewN ?_ _) | (with_reducible refine Kd.C_drew ?_)))
                (case side2 => exact HC170_7.out)
                (case side3 => repeat (first | exact (Kd.C_below HR171_7.out HB.out) | (with_reducible refine Kd.C_alloc ?_ _) | (with_reducible refine Kd.C_drewN ?_ _) | (with_reducible refine Kd.C_drew ?_)))
                (case side4 => exact HC171_7.out)
                rintro e w12 ⟨rfl, hb⟩
                refine ⟨_, rfl, ?_⟩
                have n0_ := Aside0.mk (below_step (by repeat (first | (with_reducible first | exact HB.out | apply below_alloc | apply pw_below_drewN | apply below_drew1) | exact HB.out)) hb)
                clear HB
                have HB := n0_
                clear n0_
                (try clear hb)
                (try clear hb2)
                (try clear hk)
                (try clear hi)
                refine hK.out _ _ ⟨((HB.out.cell (World.block_lt_of_cell? w _ hw170_0)).trans hw170_0), ((HB.out.cell (World.block_lt_of_cell? w _ hw170_1)).trans hw170_1), ((HB.out.cell (World.block_lt_of_cell? w _ hw170_2)).trans hw170_2), ((HB.out.cell (World.block_lt_of_cell? w _ hw170_3)).trans hw170_3), ((HB.out.cell (World.block_lt_of_cell? w _ hw170_4)).trans hw170_4), ((HB.out.cell (World.block_lt_of_cell? w _ hw170_5)).trans hw170_5), ((HB.out.cell (World.block_lt_of_cell? w _ hw170_6)).trans hw170_6), ((HB.out.cell (World.block_lt_of_cell? w _ hw170_7)).trans hw170_7), ((HB.out.cell (World.block_lt_of_cell? w _ hw171_0)).trans hw171_0), ((HB.out.cell (World.block_lt_of_cell? w _ hw171_1)).trans hw171_1), ((HB.out.cell (World.block_lt_of_cell? w _ hw171_2)).trans hw171_2), ((HB.out.cell (World.block_lt_of_cell? w _ hw171_3)).trans hw171_3), ((HB.out.cell (World.block_lt_of_cell? w _ hw171_4)).trans hw171_4), ((HB.out.cell (World.block_lt_of_cell? w _ hw171_5)).trans hw171_5), ((HB.out.cell (World.block_lt_of_cell? w _ hw171_6)).trans hw171_6), ((HB.out.cell (World.block_lt_of_cell? w _ hw171_7)).trans hw171_7)⟩ (fun hHeld => ?_)
                clear hK K
                refine norm_ (a' := ?_) ?_ ?_
                rotate_left
                · show Act.put _ (some 25) _ = _
                  simp only [Act.put, List.setIfInBounds_toArray, List.set_cons_zero, List.set_cons_succ, i64_w, i32_w]
                  rfl
                refine pure_ (i := 9) (N := some 26) (v := ?_) (a' := ?_) #[true, true, true, true, true, true, true, true, true, true] rfl rfl (any_of HT_.out (by kernel_rfl)) (fun _ _ _ h => h) (Or.inl ⟨by rfl, ?_⟩) ?_ ?_
                rotate_left
                · intro w'
                  go_simp
                  with_reducible rfl
                rotate_left
                · simp only [Act.put, List.setIfInBounds_toArray, List.set_cons_zero, List.set_cons_succ, i64_w, i32_w]
                  rfl
                refine done_ (done_of HT_.out (by kernel_rfl)) ?_
                try go_wp2
                go_ret
                exact ⟨by first | rfl | (simp [errW_none, errW_some] <;> rfl) | (simp [*, errW_none, errW_some] <;> rfl), by repeat (first | (with_reducible first | exact HB.out | apply below_alloc | apply pw_below_drewN | apply below_drew1) | exact HB.out)⟩
            · rw [if_neg c6] at H
              exact absurd H (by simp)
          · rw [if_neg c5] at H
            exact absurd H (by simp)
        · rw [if_neg c4] at H
          have c4b0 : decide (x5_1 < (l0.length : Int)) = false := decide_eq_false c4
          clear c4
          obtain rfl := Option.some.inj H
          go_wp2
          go_ret
          exact ⟨by first | rfl | (simp [errW_none, errW_some] <;> rfl) | (simp [*, errW_none, errW_some] <;> rfl), by repeat (first | (with_reducible first | exact HB.out | apply below_alloc | apply pw_below_drewN | apply below_drew1) | exact HB.out)⟩
  · rw [if_neg c3] at H
    have c3b0 : ((l0.length : Int) == (l1.length : Int)) = false := beq_eq_false_iff_ne.mpr c3
    have c3b1 : ((l0.length : Int) != (l1.length : Int)) = true := bne_iff_ne.mpr c3
    have c3b2 : (l0.length == l1.length) = false := by first | simpa using c3 | (simp at c3 ⊢; omega)
    obtain rfl := Option.some.inj H
    go_enter Try.func42, Try.ntmps42
    go_wp2
    go_ret
    exact ⟨by first | rfl | (simp [errW_none, errW_some] <;> rfl) | (simp [*, errW_none, errW_some] <;> rfl), by repeat (first | (with_reducible first | exact HB.out | apply below_alloc | apply pw_below_drewN | apply below_drew1) | exact HB.out)⟩

/-! ### laws_markText: function 76 -/
def laws_markText.l0 : Nat → Int → ByteArray → Option (ByteArray)
  | 0, _, _ => none
  | k + 1, x0, x3 => if x0 > 0 then ((some (([(wrap64 (48 + (Int.tmod x0 10))) % 256] : List Int) : List Int)).bind fun y173 => (if (strOfNums y173).size + x3.size ≤ 9223372036854775807 then (laws_markText.l0 k (wrap64 (Int.tdiv x0 10)) ((strOfNums y173) ++ x3)) else (none))) else (if 1 + x3.size ≤ 9223372036854775807 then (some ((⟨#[109]⟩ : ByteArray) ++ x3)) else (none))
def laws_markText.f (k : Nat) (a0 : Int) : Option (ByteArray) := if a0 ≤ 0 then (some (⟨#[109, 48]⟩ : ByteArray)) else (laws_markText.l0 k a0 (⟨#[]⟩ : ByteArray))
theorem laws_markText.mono_l : ∀ k, (∀ y0 y1, LeO (laws_markText.l0 k y0 y1) (laws_markText.l0 (k + 1) y0 y1))
  | 0 => fun _ _ r h => by simp [laws_markText.l0] at h
  | k + 1 => by
    have ih0 := laws_markText.mono_l k
    · intro y0 y1
      unfold laws_markText.l0
      repeat' first
      | (with_reducible exact ih0 _ _)
      | (with_reducible exact LeO.refl _)
      | (with_reducible exact LeO.none _)
      | (with_reducible refine LeO.ite ?_ ?_)
      | (with_reducible refine LeO.bind ?_ (fun _ => ?_))
      | exact ih0 _ _
      | exact LeO.none _
      | refine LeO.ite ?_ ?_
      | refine LeO.bind ?_ (fun _ => ?_)
theorem laws_markText.mono : ∀ a0 k, LeO (laws_markText.f k a0) (laws_markText.f (k + 1) a0) := by
  intro a0 k
  have ih0 := laws_markText.mono_l k
  unfold laws_markText.f
  repeat' first
      | (with_reducible exact ih0 _ _)
      | (with_reducible exact LeO.refl _)
      | (with_reducible exact LeO.none _)
      | (with_reducible refine LeO.ite ?_ ?_)
      | (with_reducible refine LeO.bind ?_ (fun _ => ?_))
      | exact ih0 _ _
      | exact LeO.none _
      | refine LeO.ite ?_ ?_
      | refine LeO.bind ?_ (fun _ => ?_)
set_option maxHeartbeats 8000000 in
set_option maxRecDepth 100000 in
theorem laws_markText.calls (k : Nat) (a0 : Int) (r : ByteArray) (w : World) (h : laws_markText.f k a0 = some r) :
    Calls Try.prog 76 #[.int .i64 a0] w fun e w' => e = .returned (.string r) ∧ Below w.heap.size w w' := by
  have HB := Aside0.mk (Below.refl w.heap.size w)
  have H : (if a0 ≤ 0 then (some (⟨#[109, 48]⟩ : ByteArray)) else (laws_markText.l0 k a0 (⟨#[]⟩ : ByteArray))) = some r := h
  clear h
  by_cases c2 : a0 ≤ 0
  · rw [if_pos c2] at H
    have c2b0 : decide (a0 ≤ 0) = true := decide_eq_true c2
    clear c2
    obtain rfl := Option.some.inj H
    go_enter Try.func76, Try.ntmps76
    go_wp2
    go_ret
    exact ⟨by first | rfl | (simp [errW_none, errW_some] <;> rfl) | (simp [*, errW_none, errW_some] <;> rfl), by repeat (first | (with_reducible first | exact HB.out | apply below_alloc | apply pw_below_drewN | apply below_drew1) | exact HB.out)⟩
  · rw [if_neg c2] at H
    have c2b0 : decide (a0 ≤ 0) = false := decide_eq_false c2
    clear c2
    have H' := Aside0.mk H
    clear H
    go_enter Try.func76, Try.ntmps76
    go_wp2
    go_loopg [0, 3] k (fun kq v0 v3 w' => ∃ (x0_1 : Int) (x3_1 : ByteArray), v0 = .int .i64 x0_1 ∧ v3 = .string x3_1 ∧ Aside0 (laws_markText.l0 kq x0_1 x3_1 = some r) ∧ Aside0 (kq ≤ k) ∧ Aside0 (Below w.heap.size w w'))
    case atStart => exact ⟨(a0), ((⟨#[]⟩ : ByteArray)), (by first | rfl | (simp; done) | (simp [*]; done)), (by first | rfl | (simp; done) | (simp [*]; done)), H', ⟨Nat.le_refl _⟩, ⟨by repeat (first | (with_reducible first | exact HB.out | apply below_alloc | apply pw_below_drewN | apply below_drew1) | exact HB.out)⟩⟩
    case round =>
      clear H'
      try clear c2
      try clear c2b0
      try clear p2
      obtain ⟨x0_1, x3_1, rfl, rfl, HA, HK1, HB⟩ := hrel
      cases gk with
      | zero => exact absurd HA.out (by simp [laws_markText.l0])
      | succ k1 =>
        have H := HA.out
        clear HA
        simp only [laws_markText.l0] at H
        by_cases c3 : x0_1 > 0
        · rw [if_pos c3] at H
          have c3b0 : decide (0 < x0_1) = true := decide_eq_true c3
          clear c3
          obtain ⟨y173, hy173⟩ : ∃ y_ : List Int, y_ = (([(wrap64 (48 + (Int.tmod x0_1 10))) % 256] : List Int)) := ⟨_, rfl⟩
          replace H : (if (strOfNums y173).size + x3_1.size ≤ 9223372036854775807 then (laws_markText.l0 k1 (wrap64 (Int.tdiv x0_1 10)) ((strOfNums y173) ++ x3_1)) else (none)) = some r := by first | (rw [hy173]; with_reducible exact H) | (have H2_ := (Option.bind_some _ _).symm.trans H; rw [hy173]; with_reducible exact H2_) | (have H2_ := (Option.bind_some _ _).symm.trans H; with_reducible exact H2_) | with_reducible exact H | (rw [hy173]; exact H) | exact H
          have Ny173 := Aside0.mk hy173
          clear hy173
          by_cases c4 : (strOfNums y173).size + x3_1.size ≤ 9223372036854775807
          · rw [if_pos c4] at H
            have c4b0 := eq_true c4
            have c4b1 : decide ((strOfNums y173).size + x3_1.size ≤ 9223372036854775807) = true := decide_eq_true c4
            try have c4b2 : (9223372036854775807 < (strOfNums y173).size + x3_1.size) = False := eq_false (Nat.not_lt.2 c4)
            try (have c4b3 := c4b2; simp only [ByteArray.size_extract, Nat.sub_zero] at c4b3)
            try clear c4
            have H' := Aside0.mk H
            clear H
            go_wp2_with (first | ((with_reducible refine gate_dst (N := 12) rfl ?_); refine Kd.R_lit (Kd.int .u8) _ 5 ?hg (N := 12) ?hd (xs := ([(wrap64 (48 + (Int.tmod x0_1 10))) % 256] : List Int)) (inner := [.int .u8 ((wrap64 (48 + (Int.tmod x0_1 10))) % 256)]) (ok := fun _ => True) (okp := fun _ => True) ?hr ?hp (fun _ hk => hk) trivial (Below.refl _ _) (Nat.le_refl _) (by simp) ?_; (case hd => rfl); (case hg => rfl); (case hr => first | (go_simp; done) | (go_simp; rfl)); (case hp => exact (Reps.one (show Kd.M (Kd.int .u8) _ _ _ ((wrap64 (48 + (Int.tmod x0_1 10))) % 256) [.int .u8 ((wrap64 (48 + (Int.tmod x0_1 10))) % 256)] from rfl) (Reps.none _ _))); intro v174 w5 ho6 hb hg_ hnew_; clear hg_ hnew_; (first | rw [← Ny173.out] at ho6 | (simp only [Int.reduceToNat] at ho6; rw [← Ny173.out] at ho6)); have n0_ := Aside0.mk (Kd.R_lower ho6 (below_size (by repeat (first | (with_reducible first | exact HB.out | apply below_alloc | apply pw_below_drewN | apply below_drew1) | exact HB.out)))); have n1_ := Aside0.mk (below_step (by repeat (first | (with_reducible first | exact HB.out | apply below_alloc | apply pw_below_drewN | apply below_drew1) | exact HB.out)) hb); clear HB; have HO175 := n0_; have HB := n1_; clear n0_ n1_; clear hb ho6; have hcv7 := own_string (P := Try.prog) Try.underlying22 Try.underlying5 Try.underlying9 (Kd.own_of_R HO175.out)))
            go_roundg k1
            case measure => have := HK1.out; omega
            case rel => exact ⟨(wrap64 (Int.tdiv x0_1 10)), ((strOfNums y173) ++ x3_1), (by first | rfl | (simp; done) | (simp [*]; done)), (by first | rfl | (simp; done) | (simp [*]; done)), H', ⟨by have := HK1.out; omega⟩, ⟨by repeat (first | (with_reducible first | exact HB.out | apply below_alloc | apply pw_below_drewN | apply below_drew1) | exact HB.out)⟩⟩
          · rw [if_neg c4] at H
            exact absurd H (by simp)
        · rw [if_neg c3] at H
          have c3b0 : decide (0 < x0_1) = false := decide_eq_false c3
          clear c3
          by_cases c8 : 1 + x3_1.size ≤ 9223372036854775807
          · rw [if_pos c8] at H
            have c8b0 := eq_true c8
            have c8b1 : decide (1 + x3_1.size ≤ 9223372036854775807) = true := decide_eq_true c8
            try have c8b2 : (9223372036854775807 < 1 + x3_1.size) = False := eq_false (Nat.not_lt.2 c8)
            try (have c8b3 := c8b2; simp only [ByteArray.size_extract, Nat.sub_zero] at c8b3)
            try clear c8
            obtain rfl := Option.some.inj H
            go_wp2
            go_ret
            exact ⟨by first | rfl | (simp [errW_none, errW_some] <;> rfl) | (simp [*, errW_none, errW_some] <;> rfl), by repeat (first | (with_reducible first | exact HB.out | apply below_alloc | apply pw_below_drewN | apply below_drew1) | exact HB.out)⟩
          · rw [if_neg c8] at H
            exact absurd H (by simp)

/-! ### laws_markToldS: function 43 (own text: nest.py) -/
/-- A row that may be written: its block's cells are enough; of what they hold nothing is said. -/
def WRow (w : World) (base e : Nat) (v : Value) (n : Nat) : Prop := ∃ xs, w.ownsRow base e 1 v n xs
section
variable {w w1 : World} {base e n m : Nat} {v u : Value}
theorem WRow.below_ (h : WRow w base e v n) (hb : Below w.heap.size w w1) : WRow w1 base e v n := by
  obtain ⟨xs, h⟩ := h
  exact ⟨xs, pw_own_below h hb⟩
theorem WRow.drew_ (h : WRow w base e v n) : WRow w.drew base e v n := h
theorem WRow.drewN_ (h : WRow w base e v n) (k : Nat) : WRow (w.drewN k) base e v n := h
theorem WRow.alloc_ (h : WRow w base e v n) (x : Obj) : WRow (w.alloc x) base e v n := h.below_ (below_alloc (Below.refl _ _) x)
theorem WRow.slice_ (h : WRow w base e v n) : ∃ A c, v = .slice A n c := by
  obtain ⟨xs, h⟩ := h
  exact own_slice h
theorem WRow.own_ (h : WRow w base e v n) {g : Nat} (hg : v.ownBlock = some g) : ∃ c cur, v = .slice (some ⟨g, 0, none⟩) n c ∧ base ≤ g ∧ w.heap[g]? = some (.cells cur e (0, 0)) ∧ n ≤ c ∧ cur.size = c := by
  obtain ⟨xs, hl, h⟩ := h
  rcases h with ⟨rfl, h0⟩ | ⟨g', c, cur, rfl, e2, e3, e4, e5, e6, e7⟩
  · simp [Value.ownBlock] at hg
  · have : g' = g := by simpa [Value.ownBlock] using hg
    subst this
    exact ⟨c, cur, rfl, e2, e3, e4, by simpa using e6⟩
theorem WRow.form_ (h : WRow w base e v n) (hn : 0 < n) : ∃ g c cur, v = .slice (some ⟨g, 0, none⟩) n c ∧ base ≤ g ∧ w.heap[g]? = some (.cells cur e (0, 0)) ∧ n ≤ c ∧ cur.size = c := by
  obtain ⟨xs, hl, h⟩ := h
  rcases h with ⟨_, h0⟩ | ⟨g, c, cur, e1, e2, e3, e4, e5, e6, e7⟩
  · omega
  · exact ⟨g, c, cur, e1, e2, e3, e4, by simpa using e6⟩
theorem WRow.of_blk (h : WRow w base e v n) (hk : ∀ g, v.ownBlock = some g → ∀ cur, w.heap[g]? = some (.cells cur e (0, 0)) → ∃ cur' : Array Value, w1.heap[g]? = some (.cells cur' e (0, 0)) ∧ cur'.size = cur.size) : WRow w1 base e v n := by
  obtain ⟨xs, hl, h⟩ := h
  rcases h with ⟨h1, h0⟩ | ⟨g, c, cur, e1, e2, e3, e4, e5, e6, e7⟩
  · exact ⟨xs, hl, .inl ⟨h1, h0⟩⟩
  · obtain ⟨cur', f1, f2⟩ := hk g (by rw [e1]; rfl) cur e3
    refine ⟨cur'.toList.take (n * 1), ?_, .inr ⟨g, c, cur', e1, e2, f1, e4, e5, by rw [f2, e6], rfl⟩⟩
    have : cur'.toList.length = c * 1 := by rw [Array.length_toList, f2, e6]
    rw [List.length_take]
    omega
theorem WRow.set_ (h : WRow w base e v n) (b j : Nat) (x : Value) : WRow (w.setCell ⟨b, j, none⟩ x) base e v n := by
  refine WRow.of_blk h (fun g hg cur hb => ?_)
  by_cases hgb : g = b
  · subst hgb
    exact ⟨_, blk_set hb j x, by simp⟩
  · exact ⟨cur, blk_far hb hgb x, rfl⟩
/-- Another row of the same kind has been written, maybe in the same block. -/
theorem WRow.kept_ (h : WRow w base e v n) (hu : WRow w base e u m) (hu' : WRow w1 base e u m) (hk : Kept w w1 (fun k_ => some k_ = u.ownBlock)) : WRow w1 base e v n := by
  refine WRow.of_blk h (fun g hg cur hb => ?_)
  by_cases hgu : some g = u.ownBlock
  · obtain ⟨c, cu, q1, q2, q3, q4, q5⟩ := hu.own_ hgu.symm
    obtain ⟨c', cu', r1, r2, r3, r4, r5⟩ := hu'.own_ hgu.symm
    have hc : c' = c := by
      rw [q1] at r1
      injection r1 with _ _ r1
      exact r1.symm
    rw [q3] at hb
    obtain rfl : cu = cur := by
      injection hb with hb
      injection hb
    exact ⟨cu', r3, by omega⟩
  · exact ⟨cur, blk_kept hb hk hgu, rfl⟩
theorem WRow.cell_ {cur : Array Value} (hb : w.heap[m]? = some (.cells cur e (0, 0))) (i : Nat) (hi : i < cur.size) : (∃ y, w.cell? ⟨m, i, none⟩ = some y) ∧ w.frozen? ⟨m, i, none⟩ = false :=
  ⟨⟨cur[i], by rw [blk_cell hb i, Array.getElem?_eq_getElem hi]⟩, blk_frozen hb i⟩
end

def wmS.l0 : Nat → Int → Int → Int → Option Int
  | 0, _, _, _ => none
  | k + 1, n, x1, x5 => if x5 < n then ((laws_markText.f k x1).bind fun _ => (if 0 ≤ x5 then (wmS.l0 k n (wrap64 (x1 + 1)) (wrap64 (x5 + 1))) else (none))) else (some x1)
set_option maxHeartbeats 8000000 in
set_option maxRecDepth 100000 in
theorem wmS.calls (k : Nat) (u : Value) (n : Nat) (a1 r1 : Int) (w0 w : World) (hB : Below w0.heap.size w0 w) (ho0 : WRow w w0.heap.size 9 u n) (h : wmS.l0 k n a1 0 = some r1) :
    Calls Try.prog 95 #[u, .int .i64 a1] w fun e w' => e = .returned (.int .i64 r1) ∧ WRow w' w0.heap.size 9 u n ∧ Below w0.heap.size w0 w' ∧ Kept w w' (fun k_ => some k_ = u.ownBlock) := by
  have HO := Aside0.mk ho0
  have HK := Aside0.mk (Kept.refl w (fun k_ => some k_ = u.ownBlock))
  have HB := Aside0.mk hB
  clear hB ho0
  have H' := Aside0.mk h
  clear h
  obtain ⟨Ao, co, eo⟩ := WRow.slice_ HO.out
  subst eo
  go_enter Try.func95, Try.ntmps95
  go_wp2
  go_loopg [1, 5] k (fun kq v1 v5 w' => ∃ (x1_1 : Int) (x5_1 : Int), v1 = .int .i64 x1_1 ∧ v5 = .int .i64 x5_1 ∧ Aside0 (wmS.l0 kq n x1_1 x5_1 = some r1) ∧ Aside0 (kq ≤ k) ∧ Aside0 (WRow w' w0.heap.size 9 (.slice Ao n co) n) ∧ Aside0 (Kept w w' (fun k_ => some k_ = (Value.slice Ao n co).ownBlock)) ∧ Aside0 (Below w0.heap.size w0 w'))
  case atStart => exact ⟨a1, 0, (by first | rfl | (simp; done) | (simp [*]; done)), (by first | rfl | (simp; done) | (simp [*]; done)), H', ⟨Nat.le_refl _⟩, ⟨(by repeat (first | exact HO.out | apply WRow.alloc_ | apply WRow.drewN_ | apply WRow.drew_))⟩, ⟨(by repeat (first | (with_reducible first | exact HK.out | apply Kept.alloc | apply Kept.drewN | apply Kept.drew) | exact HK.out))⟩, ⟨(by repeat (first | (with_reducible first | exact HB.out | apply below_alloc | apply pw_below_drewN | apply below_drew1) | exact HB.out))⟩⟩
  case round =>
    clear H' HO HK HB
    obtain ⟨x1_1, x5_1, rfl, rfl, HA, HK1, HO, HK, HB⟩ := hrel
    cases gk with
    | zero => exact absurd HA.out (by simp [wmS.l0])
    | succ k1 =>
      have H := HA.out
      clear HA
      simp only [wmS.l0] at H
      by_cases c3 : x5_1 < (n : Int)
      · rw [if_pos c3] at H
        have c3b0 : decide (x5_1 < (n : Int)) = true := decide_eq_true c3
        replace H := Option.bind_eq_some_iff.mp H
        obtain ⟨t176, A40, H⟩ := H
        replace H : (if 0 ≤ x5_1 then (wmS.l0 k1 n (wrap64 (x1_1 + 1)) (wrap64 (x5_1 + 1))) else (none)) = some r1 := H
        have A4 := Aside0.mk A40
        clear A40
        by_cases c5 : 0 ≤ x5_1
        · rw [if_pos c5] at H
          have c5b0 : decide (0 ≤ x5_1) = true := decide_eq_true c5
          have H' := Aside0.mk H
          clear H
          obtain ⟨g, c', cur, eq_, gb, hb, hn, hs⟩ := WRow.form_ HO.out (by omega)
          obtain ⟨rfl, rfl⟩ : Ao = some ⟨g, 0, none⟩ ∧ co = c' := by injection eq_ with e1 _ e3; exact ⟨e1, e3⟩
          clear eq_ hb hs cur
          have GB := Aside0.mk gb
          have CI := Aside0.mk (show x5_1.toNat < n by omega)
          clear gb
          replace c3 := eq_true c3
          replace c5 := eq_true c5
          go_wp2_with (first | ((with_reducible refine gate_callee (f := 76) rfl ?_); refine goesL_ (some 15) rfl rfl Try.func76 (by kernel_rfl) rfl #[.int .i64 x1_1] rfl (by (try simp only [List.map_toArray, List.map_cons, List.map_nil]); first | done | rfl | (simp only [List.length_drop, List.length_take]; rfl)) ?_; (with_reducible refine (laws_markText.calls k1 x1_1 t176 _ A4.out).mono ?_); rintro e w8 ⟨rfl, hb⟩; refine ⟨_, rfl, ?_⟩; have n0_ := Aside0.mk (WRow.below_ (by repeat (first | exact HO.out | apply WRow.alloc_ | apply WRow.drewN_ | apply WRow.drew_)) hb); have n1_ := Aside0.mk (Kept.below (S := (fun k_ => some k_ = (Value.slice (some ⟨g, 0, none⟩) n co).ownBlock)) (by repeat (first | (with_reducible first | exact HK.out | apply Kept.alloc | apply Kept.drewN | apply Kept.drew) | exact HK.out)) hb); have n2_ := Aside0.mk (below_step (by repeat (first | (with_reducible first | exact HB.out | apply below_alloc | apply pw_below_drewN | apply below_drew1) | exact HB.out)) hb); clear HO; clear HK; clear HB; have HO := n0_; have HK := n1_; have HB := n2_; clear n0_ n1_ n2_; clear hb; obtain ⟨c2_, cur2_, eq2_, gb2_, hb2_, hn2_, hs2_⟩ := WRow.own_ HO.out (g := g) rfl; have hc2_ : co = c2_ := (by injection eq2_); obtain ⟨⟨y_, hx_⟩, hf_⟩ := WRow.cell_ hb2_ x5_1.toNat (by have := CI.out; omega); clear eq2_ gb2_ hb2_ hn2_ hs2_ hc2_) | ((with_reducible refine gate_store (t := 9) (p := 16) rfl ?_); refine store_event (t := 9) (p := 16) (v := ?vo_w10) (w1 := (w8.setCell ⟨g, (x5_1 : Int).toNat, none⟩ (.string t176))) ?hg ?ho ?hn ?hr ?_; (case ho => rfl); (case hg => rfl); (case hn => rfl); (case hr => first | (go_simp; done) | (go_simp; rfl)); intro w10 hw; have n0_ := Aside0.mk ((by rw [hw]; exact WRow.set_ HO.out _ _ _ : WRow w10 w0.heap.size 9 (.slice (some ⟨g, 0, none⟩) n co) n)); have n1_ := Aside0.mk ((by rw [hw]; exact below_set (HB.out) GB.out : Below w0.heap.size w0 w10)); have n2_ := Aside0.mk ((by rw [hw]; exact Kept.setCell (p := ⟨g, (x5_1 : Int).toNat, none⟩) HK.out (Or.inl (show some g = _ from rfl)) _ : Kept w w10 (fun k_ => some k_ = (Value.slice (some ⟨g, 0, none⟩) n co).ownBlock))); clear HO; clear HB; clear HK; have HO := n0_; have HB := n1_; have HK := n2_; clear n0_ n1_ n2_; clear hw))
          go_roundg k1
          case measure => have := HK1.out; omega
          case rel => exact ⟨(wrap64 (x1_1 + 1)), (wrap64 (x5_1 + 1)), (by first | rfl | (simp; done) | (simp [*]; done)), (by first | rfl | (simp; done) | (simp [*]; done)), H', ⟨by have := HK1.out; omega⟩, ⟨(by repeat (first | exact HO.out | apply WRow.alloc_ | apply WRow.drewN_ | apply WRow.drew_))⟩, ⟨(by repeat (first | (with_reducible first | exact HK.out | apply Kept.alloc | apply Kept.drewN | apply Kept.drew) | exact HK.out))⟩, ⟨(by repeat (first | (with_reducible first | exact HB.out | apply below_alloc | apply pw_below_drewN | apply below_drew1) | exact HB.out))⟩⟩
        · rw [if_neg c5] at H
          exact absurd H (by simp)
      · rw [if_neg c3] at H
        have c3b0 : decide (x5_1 < (n : Int)) = false := decide_eq_false c3
        clear c3
        obtain rfl := Option.some.inj H
        go_wp2
        go_ret
        exact ⟨by first | rfl | (simp [errW_none, errW_some] <;> rfl) | (simp [*, errW_none, errW_some] <;> rfl), (by repeat (first | exact HO.out | apply WRow.alloc_ | apply WRow.drewN_ | apply WRow.drew_)), (by repeat (first | (with_reducible first | exact HB.out | apply below_alloc | apply pw_below_drewN | apply below_drew1) | exact HB.out)), (by repeat (first | (with_reducible first | exact HK.out | apply Kept.alloc | apply Kept.drewN | apply Kept.drew) | exact HK.out))⟩

/-- The row of structs at block g (room c), n of them, in each a row of strings that may be written: apart from g, and in P0. -/
def NI (w : World) (base : Nat) (P0 : Nat → Prop) (g c n : Nat) (ln : Nat → Nat) : Prop := 0 < n → ∃ cur : Array Value, w.heap[g]? = some (.cells cur 127 (0, 0)) ∧ cur.size = c * 8 ∧ ∀ j, j < n → ∃ v, cur[j * 8 + 7]? = some v ∧ WRow w base 9 v (ln j) ∧ ∀ b, v.ownBlock = some b → P0 b ∧ b ≠ g
section
variable {w w1 : World} {base g c n : Nat} {P0 : Nat → Prop} {ln : Nat → Nat}
theorem NI.below_ (h : NI w base P0 g c n ln) (hb : Below w.heap.size w w1) : NI w1 base P0 g c n ln := fun hn => by
  obtain ⟨cur, h1, h2, h3⟩ := h hn
  refine ⟨cur, (hb.block g (blk_lt h1)).trans h1, h2, fun j hj => ?_⟩
  obtain ⟨v, k1, k2, k3⟩ := h3 j hj
  exact ⟨v, k1, k2.below_ hb, k3⟩
theorem NI.drew_ (h : NI w base P0 g c n ln) : NI w.drew base P0 g c n ln := h
theorem NI.drewN_ (h : NI w base P0 g c n ln) (k : Nat) : NI (w.drewN k) base P0 g c n ln := h
theorem NI.alloc_ (h : NI w base P0 g c n ln) (x : Obj) : NI (w.alloc x) base P0 g c n ln := h.below_ (below_alloc (Below.refl _ _) x)
theorem NI.set_ (h : NI w base P0 g c n ln) (i d : Nat) (hd : d < 7) (x : Value) : NI (w.setCell ⟨g, i * 8 + d, none⟩ x) base P0 g c n ln := fun hn => by
  obtain ⟨cur, h1, h2, h3⟩ := h hn
  refine ⟨_, blk_set h1 _ x, by simpa using h2, fun j hj => ?_⟩
  obtain ⟨v, k1, k2, k3⟩ := h3 j hj
  refine ⟨v, ?_, k2.set_ _ _ _, k3⟩
  rw [Array.getElem?_setIfInBounds_ne (by omega)]
  exact k1
theorem NI.cell_ (h : NI w base P0 g c n ln) (hc : n ≤ c) {i : Nat} (hi : i < n) (d : Nat) (hd : d < 8) : (∃ y, w.cell? ⟨g, i * 8 + d, none⟩ = some y) ∧ w.frozen? ⟨g, i * 8 + d, none⟩ = false := by
  obtain ⟨cur, h1, h2, h3⟩ := h (by omega)
  exact WRow.cell_ h1 _ (by rw [h2]; omega)
theorem NI.row_ (h : NI w base P0 g c n ln) {i : Nat} (hi : i < n) : ∃ v, w.cell? ⟨g, i * 8 + 7, none⟩ = some v ∧ WRow w base 9 v (ln i) ∧ ∀ b, v.ownBlock = some b → P0 b ∧ b ≠ g := by
  obtain ⟨cur, h1, h2, h3⟩ := h (by omega)
  obtain ⟨v, k1, k2, k3⟩ := h3 i hi
  exact ⟨v, by rw [blk_cell h1]; exact k1, k2, k3⟩
theorem NI.mark_ (h : NI w base P0 g c n ln) {v : Value} {m : Nat} (hv : WRow w base 9 v m) (hv' : WRow w1 base 9 v m) (hp : ∀ b, v.ownBlock = some b → P0 b ∧ b ≠ g) (hk : Kept w w1 (fun k_ => some k_ = v.ownBlock)) : NI w1 base P0 g c n ln := fun hn => by
  obtain ⟨cur, h1, h2, h3⟩ := h hn
  refine ⟨cur, blk_kept h1 hk (fun e => (hp g e.symm).2 rfl), h2, fun j hj => ?_⟩
  obtain ⟨u, k1, k2, k3⟩ := h3 j hj
  exact ⟨u, k1, k2.kept_ hv hv' hk, k3⟩
/-- A row that a call has made is such a row. -/
theorem NI.of_R {l : List S127} {u : Value} (h : Kd.R k127 127 w base P0 u l) : ∃ A g c, u = .slice A l.length c ∧ (0 < l.length → A = some ⟨g, 0, none⟩ ∧ base ≤ g ∧ P0 g ∧ l.length ≤ c) ∧ NI w base P0 g c l.length (fun j => (rd_T127 l (j : Int)).f3.f4.length) := by
  obtain ⟨h0, inner, ⟨hl, ho⟩, hr⟩ := h
  rcases ho with ⟨rfl, hz⟩ | ⟨g, c, cur, rfl, e2, e3, e4, e5, e6, e7⟩
  · exact ⟨none, 0, 0, by rw [hz], fun hn => by omega, fun hn => by omega⟩
  · have hsz : k127.sz = 8 := rfl
    rw [hsz] at e6 e7 hl hr
    refine ⟨some ⟨g, 0, none⟩, g, c, rfl, fun hn => ⟨rfl, e2, h0 g rfl, e4⟩, fun hn => ⟨cur, e3, e6, fun j hj => ?_⟩⟩
    have hg := List.getElem?_eq_getElem hj
    have hM := hr.2 j _ hg
    have hin : ((inner.drop (j * 8)).take 8)[7]? = cur[j * 8 + 7]? := by
      rw [List.getElem?_take_of_lt (by decide), List.getElem?_drop, ← e7, List.getElem?_take_of_lt (by omega), Array.getElem?_toList]
    have hrd : rd_T127 l (j : Int) = l[j] := by
      unfold rd_T127
      rw [List.getD_eq_getElem?_getD, Int.toNat_natCast, hg]; rfl
    obtain ⟨v, hcs, hv⟩ := k127_openM hM
    refine ⟨v, ?_, ?_, fun b hb => ?_⟩
    · rw [← hin, hcs]; rfl
    · show WRow w base 9 v ((rd_T127 l (j : Int)).f3.f4.length)
      rw [hrd]
      obtain ⟨_, inn, hoo, _⟩ := hv
      exact ⟨inn, hoo⟩
    · have := hv.1 b hb
      exact ⟨this.1, fun e => this.2 (by rw [e]; rfl)⟩
end

def wmT.l0 : Nat → List S127 → Int → Int → Option Int
  | 0, _, _, _ => none
  | k + 1, l, x1, x5 => if x5 < (l.length : Int) then (if 0 ≤ x5 then ((laws_markText.f k (wrap64 ((wrap64 ((wrap64 ((wrap64 (x1 + 1)) + 1)) + 1)) + 1))).bind fun _ => ((wmS.l0 k ((rd_T127 l x5).f3.f4.length : Int) (wrap64 ((wrap64 ((wrap64 ((wrap64 ((wrap64 ((wrap64 ((wrap64 (x1 + 1)) + 1)) + 1)) + 1)) + 1)) + 1)) + 1)) 0).bind fun t => (wmT.l0 k l t (wrap64 (x5 + 1))))) else (none)) else (some x1)
def laws_markToldS.f (k : Nat) (l0 : List S127) (a1 : Int) : Option Int := wmT.l0 k l0 a1 0
theorem WRow.at_ {w : World} {base e n : Nat} {v : Value} (h : WRow w base e v n) : WRow w base e v n := h
set_option maxHeartbeats 8000000 in
set_option maxRecDepth 100000 in
theorem laws_markToldS.owned (k : Nat) (P0_ : Nat → Prop) (u : Value) (l0 : List S127) (a1 r1 : Int) (w0 w : World) (hB : Below w0.heap.size w0 w) (ho0 : Kd.R k127 127 w w0.heap.size P0_ u l0) (h : laws_markToldS.f k l0 a1 = some r1) :
    Calls Try.prog 43 #[u, .int .i64 a1] w fun e w' => e = .returned (.int .i64 r1) ∧ Below w0.heap.size w0 w' ∧ Kept w w' P0_ := by
  obtain ⟨Ao, g, co, eo, hA, hN⟩ := NI.of_R ho0
  subst eo
  have HN := Aside0.mk hN
  have HK := Aside0.mk (Kept.refl w P0_)
  have HB := Aside0.mk hB
  have GA := Aside0.mk hA
  clear hB ho0 hN hA
  have H' := Aside0.mk (show wmT.l0 k l0 a1 0 = some r1 from h)
  clear h
  go_enter Try.func43, Try.ntmps43
  go_wp2
  go_loopg [1, 5] k (fun kq v1 v5 w' => ∃ (x1_1 : Int) (x5_1 : Int), v1 = .int .i64 x1_1 ∧ v5 = .int .i64 x5_1 ∧ Aside0 (wmT.l0 kq l0 x1_1 x5_1 = some r1) ∧ Aside0 (kq ≤ k) ∧ Aside0 (NI w' w0.heap.size P0_ g co l0.length (fun j => (rd_T127 l0 (j : Int)).f3.f4.length)) ∧ Aside0 (Kept w w' P0_) ∧ Aside0 (Below w0.heap.size w0 w'))
  case atStart => exact ⟨a1, 0, (by first | rfl | (simp; done) | (simp [*]; done)), (by first | rfl | (simp; done) | (simp [*]; done)), H', ⟨Nat.le_refl _⟩, ⟨(by repeat (first | exact HN.out | apply NI.alloc_ | apply NI.drewN_ | apply NI.drew_))⟩, ⟨(by repeat (first | (with_reducible first | exact HK.out | apply Kept.alloc | apply Kept.drewN | apply Kept.drew) | exact HK.out))⟩, ⟨(by repeat (first | (with_reducible first | exact HB.out | apply below_alloc | apply pw_below_drewN | apply below_drew1) | exact HB.out))⟩⟩
  case round =>
    clear H' HN HK HB
    obtain ⟨x1_1, x5_1, rfl, rfl, HA, HK1, HN, HK, HB⟩ := hrel
    cases gk with
    | zero => exact absurd HA.out (by simp [wmT.l0])
    | succ k1 =>
      have H := HA.out
      clear HA
      simp only [wmT.l0] at H
      by_cases c3 : x5_1 < (l0.length : Int)
      · rw [if_pos c3] at H
        have c3b0 : decide (x5_1 < (l0.length : Int)) = true := decide_eq_true c3
        by_cases c5 : 0 ≤ x5_1
        · rw [if_pos c5] at H
          have c5b0 : decide (0 ≤ x5_1) = true := decide_eq_true c5
          replace H := Option.bind_eq_some_iff.mp H
          obtain ⟨t176, A40, H⟩ := H
          replace H := Option.bind_eq_some_iff.mp H
          obtain ⟨t177, A50, H⟩ := H
          have A4 := Aside0.mk A40
          have A5 := Aside0.mk (show wmS.l0 k1 (((rd_T127 l0 ((x5_1.toNat : Nat) : Int)).f3.f4.length : Nat) : Int) (wrap64 ((wrap64 ((wrap64 ((wrap64 ((wrap64 ((wrap64 ((wrap64 (x1_1 + 1)) + 1)) + 1)) + 1)) + 1)) + 1)) + 1)) 0 = some t177 from by rw [Int.toNat_of_nonneg c5]; exact A50)
          clear A40 A50
          have H' := Aside0.mk H
          clear H
          obtain ⟨eA, gb, gp, gc⟩ := GA.out (by omega)
          subst eA
          have GB := Aside0.mk gb
          have GP := Aside0.mk gp
          have CC := Aside0.mk gc
          have CI := Aside0.mk (show x5_1.toNat < l0.length by omega)
          clear gb gp gc
          replace c3 := eq_true c3
          replace c5 := eq_true c5
          obtain ⟨⟨y0_, hx0_⟩, hf0_⟩ := NI.cell_ HN.out CC.out CI.out 0 (by decide); (try simp only [Nat.add_zero] at hx0_ hf0_)
          go_wp2_with (first | ((with_reducible refine gate_store (t := 3) (p := 16) rfl ?_); refine store_event (t := 3) (p := 16) (v := ?vo_0) (w1 := (wr.setCell ⟨g, (x5_1 : Int).toNat * 8, none⟩ (.int .i64 (x1_1)))) ?hg ?ho ?hn ?hr ?_; (case ho => rfl); (case hg => rfl); (case hn => rfl); (case hr => first | (go_simp; done) | (go_simp; rfl)); intro w20_ hw; have n0_ := Aside0.mk ((by rw [hw]; exact NI.set_ HN.out (x5_1 : Int).toNat 0 (by decide) _ : NI w20_ w0.heap.size P0_ g co l0.length (fun j => (rd_T127 l0 (j : Int)).f3.f4.length))); have n1_ := Aside0.mk ((by rw [hw]; exact below_set (HB.out) GB.out : Below w0.heap.size w0 w20_)); have n2_ := Aside0.mk ((by rw [hw]; exact Kept.setCell (p := ⟨g, (x5_1 : Int).toNat * 8, none⟩) HK.out (Or.inl GP.out) _ : Kept w w20_ P0_)); clear HN; clear HB; clear HK; have HN := n0_; have HB := n1_; have HK := n2_; clear n0_ n1_ n2_; clear hw; (try clear hx0_ hf0_); obtain ⟨⟨y1_, hx1_⟩, hf1_⟩ := NI.cell_ HN.out CC.out CI.out 1 (by decide); (try simp only [Nat.add_zero] at hx1_ hf1_)) | ((with_reducible refine gate_store (t := 3) (p := 23) rfl ?_); refine store_event (t := 3) (p := 23) (v := ?vo_1) (w1 := (w20_.setCell ⟨g, (x5_1 : Int).toNat * 8 + 1, none⟩ (.int .i64 (wrap64 (x1_1 + 1))))) ?hg ?ho ?hn ?hr ?_; (case ho => rfl); (case hg => rfl); (case hn => rfl); (case hr => first | (go_simp; done) | (go_simp; rfl)); intro w21_ hw; have n0_ := Aside0.mk ((by rw [hw]; exact NI.set_ HN.out (x5_1 : Int).toNat 1 (by decide) _ : NI w21_ w0.heap.size P0_ g co l0.length (fun j => (rd_T127 l0 (j : Int)).f3.f4.length))); have n1_ := Aside0.mk ((by rw [hw]; exact below_set (HB.out) GB.out : Below w0.heap.size w0 w21_)); have n2_ := Aside0.mk ((by rw [hw]; exact Kept.setCell (p := ⟨g, (x5_1 : Int).toNat * 8 + 1, none⟩) HK.out (Or.inl GP.out) _ : Kept w w21_ P0_)); clear HN; clear HB; clear HK; have HN := n0_; have HB := n1_; have HK := n2_; clear n0_ n1_ n2_; clear hw; (try clear hx1_ hf1_); obtain ⟨⟨y2_, hx2_⟩, hf2_⟩ := NI.cell_ HN.out CC.out CI.out 2 (by decide); (try simp only [Nat.add_zero] at hx2_ hf2_)) | ((with_reducible refine gate_store (t := 4) (p := 32) rfl ?_); refine store_event (t := 4) (p := 32) (v := ?vo_2) (w1 := (w21_.setCell ⟨g, (x5_1 : Int).toNat * 8 + 2, none⟩ (.bool ((Int.tmod (wrap64 ((wrap64 (x1_1 + 1)) + 1)) 3) == 0)))) ?hg ?ho ?hn ?hr ?_; (case ho => rfl); (case hg => rfl); (case hn => rfl); (case hr => first | (go_simp; done) | (go_simp; rfl)); intro w22_ hw; have n0_ := Aside0.mk ((by rw [hw]; exact NI.set_ HN.out (x5_1 : Int).toNat 2 (by decide) _ : NI w22_ w0.heap.size P0_ g co l0.length (fun j => (rd_T127 l0 (j : Int)).f3.f4.length))); have n1_ := Aside0.mk ((by rw [hw]; exact below_set (HB.out) GB.out : Below w0.heap.size w0 w22_)); have n2_ := Aside0.mk ((by rw [hw]; exact Kept.setCell (p := ⟨g, (x5_1 : Int).toNat * 8 + 2, none⟩) HK.out (Or.inl GP.out) _ : Kept w w22_ P0_)); clear HN; clear HB; clear HK; have HN := n0_; have HB := n1_; have HK := n2_; clear n0_ n1_ n2_; clear hw; (try clear hx2_ hf2_); obtain ⟨⟨y3_, hx3_⟩, hf3_⟩ := NI.cell_ HN.out CC.out CI.out 3 (by decide); (try simp only [Nat.add_zero] at hx3_ hf3_)) | ((with_reducible refine gate_store (t := 3) (p := 40) rfl ?_); refine store_event (t := 3) (p := 40) (v := ?vo_3) (w1 := (w22_.setCell ⟨g, (x5_1 : Int).toNat * 8 + 3, none⟩ (.int .i64 (wrap64 ((wrap64 ((wrap64 (x1_1 + 1)) + 1)) + 1))))) ?hg ?ho ?hn ?hr ?_; (case ho => rfl); (case hg => rfl); (case hn => rfl); (case hr => first | (go_simp; done) | (go_simp; rfl)); intro w23_ hw; have n0_ := Aside0.mk ((by rw [hw]; exact NI.set_ HN.out (x5_1 : Int).toNat 3 (by decide) _ : NI w23_ w0.heap.size P0_ g co l0.length (fun j => (rd_T127 l0 (j : Int)).f3.f4.length))); have n1_ := Aside0.mk ((by rw [hw]; exact below_set (HB.out) GB.out : Below w0.heap.size w0 w23_)); have n2_ := Aside0.mk ((by rw [hw]; exact Kept.setCell (p := ⟨g, (x5_1 : Int).toNat * 8 + 3, none⟩) HK.out (Or.inl GP.out) _ : Kept w w23_ P0_)); clear HN; clear HB; clear HK; have HN := n0_; have HB := n1_; have HK := n2_; clear n0_ n1_ n2_; clear hw; (try clear hx3_ hf3_)) | ((with_reducible refine gate_callee (f := 76) rfl ?_); refine goesL_ (some 46) rfl rfl Try.func76 (by kernel_rfl) rfl #[.int .i64 (wrap64 ((wrap64 ((wrap64 ((wrap64 (x1_1 + 1)) + 1)) + 1)) + 1))] rfl (by (try simp only [List.map_toArray, List.map_cons, List.map_nil]); first | done | rfl | (simp only [List.length_drop, List.length_take]; rfl)) ?_; (with_reducible refine (laws_markText.calls k1 (wrap64 ((wrap64 ((wrap64 ((wrap64 (x1_1 + 1)) + 1)) + 1)) + 1)) t176 _ A4.out).mono ?_); rintro e wt_ ⟨rfl, hb⟩; refine ⟨_, rfl, ?_⟩; have n0_ := Aside0.mk (NI.below_ (by repeat (first | exact HN.out | apply NI.alloc_ | apply NI.drewN_ | apply NI.drew_)) hb); have n1_ := Aside0.mk (Kept.below (S := P0_) (by repeat (first | (with_reducible first | exact HK.out | apply Kept.alloc | apply Kept.drewN | apply Kept.drew) | exact HK.out)) hb); have n2_ := Aside0.mk (below_step (by repeat (first | (with_reducible first | exact HB.out | apply below_alloc | apply pw_below_drewN | apply below_drew1) | exact HB.out)) hb); clear HN; clear HK; clear HB; have HN := n0_; have HK := n1_; have HB := n2_; clear n0_ n1_ n2_; clear hb; obtain ⟨⟨y4_, hx4_⟩, hf4_⟩ := NI.cell_ HN.out CC.out CI.out 4 (by decide); (try simp only [Nat.add_zero] at hx4_ hf4_)) | ((with_reducible refine gate_store (t := 9) (p := 49) rfl ?_); refine store_event (t := 9) (p := 49) (v := ?vo_4) (w1 := (wt_.setCell ⟨g, (x5_1 : Int).toNat * 8 + 4, none⟩ (.string t176))) ?hg ?ho ?hn ?hr ?_; (case ho => rfl); (case hg => rfl); (case hn => rfl); (case hr => first | (go_simp; done) | (go_simp; rfl)); intro w24_ hw; have n0_ := Aside0.mk ((by rw [hw]; exact NI.set_ HN.out (x5_1 : Int).toNat 4 (by decide) _ : NI w24_ w0.heap.size P0_ g co l0.length (fun j => (rd_T127 l0 (j : Int)).f3.f4.length))); have n1_ := Aside0.mk ((by rw [hw]; exact below_set (HB.out) GB.out : Below w0.heap.size w0 w24_)); have n2_ := Aside0.mk ((by rw [hw]; exact Kept.setCell (p := ⟨g, (x5_1 : Int).toNat * 8 + 4, none⟩) HK.out (Or.inl GP.out) _ : Kept w w24_ P0_)); clear HN; clear HB; clear HK; have HN := n0_; have HB := n1_; have HK := n2_; clear n0_ n1_ n2_; clear hw; (try clear hx4_ hf4_); obtain ⟨⟨y5_, hx5_⟩, hf5_⟩ := NI.cell_ HN.out CC.out CI.out 5 (by decide); (try simp only [Nat.add_zero] at hx5_ hf5_)) | ((with_reducible refine gate_store (t := 3) (p := 57) rfl ?_); refine store_event (t := 3) (p := 57) (v := ?vo_5) (w1 := (w24_.setCell ⟨g, (x5_1 : Int).toNat * 8 + 5, none⟩ (.int .i64 (wrap64 ((wrap64 ((wrap64 ((wrap64 ((wrap64 (x1_1 + 1)) + 1)) + 1)) + 1)) + 1))))) ?hg ?ho ?hn ?hr ?_; (case ho => rfl); (case hg => rfl); (case hn => rfl); (case hr => first | (go_simp; done) | (go_simp; rfl)); intro w25_ hw; have n0_ := Aside0.mk ((by rw [hw]; exact NI.set_ HN.out (x5_1 : Int).toNat 5 (by decide) _ : NI w25_ w0.heap.size P0_ g co l0.length (fun j => (rd_T127 l0 (j : Int)).f3.f4.length))); have n1_ := Aside0.mk ((by rw [hw]; exact below_set (HB.out) GB.out : Below w0.heap.size w0 w25_)); have n2_ := Aside0.mk ((by rw [hw]; exact Kept.setCell (p := ⟨g, (x5_1 : Int).toNat * 8 + 5, none⟩) HK.out (Or.inl GP.out) _ : Kept w w25_ P0_)); clear HN; clear HB; clear HK; have HN := n0_; have HB := n1_; have HK := n2_; clear n0_ n1_ n2_; clear hw; (try clear hx5_ hf5_); obtain ⟨⟨y6_, hx6_⟩, hf6_⟩ := NI.cell_ HN.out CC.out CI.out 6 (by decide); (try simp only [Nat.add_zero] at hx6_ hf6_)) | ((with_reducible refine gate_store (t := 4) (p := 67) rfl ?_); refine store_event (t := 4) (p := 67) (v := ?vo_6) (w1 := (w25_.setCell ⟨g, (x5_1 : Int).toNat * 8 + 6, none⟩ (.bool ((Int.tmod (wrap64 ((wrap64 ((wrap64 ((wrap64 ((wrap64 ((wrap64 (x1_1 + 1)) + 1)) + 1)) + 1)) + 1)) + 1)) 3) == 0)))) ?hg ?ho ?hn ?hr ?_; (case ho => rfl); (case hg => rfl); (case hn => rfl); (case hr => first | (go_simp; done) | (go_simp; rfl)); intro w26_ hw; have n0_ := Aside0.mk ((by rw [hw]; exact NI.set_ HN.out (x5_1 : Int).toNat 6 (by decide) _ : NI w26_ w0.heap.size P0_ g co l0.length (fun j => (rd_T127 l0 (j : Int)).f3.f4.length))); have n1_ := Aside0.mk ((by rw [hw]; exact below_set (HB.out) GB.out : Below w0.heap.size w0 w26_)); have n2_ := Aside0.mk ((by rw [hw]; exact Kept.setCell (p := ⟨g, (x5_1 : Int).toNat * 8 + 6, none⟩) HK.out (Or.inl GP.out) _ : Kept w w26_ P0_)); clear HN; clear HB; clear HK; have HN := n0_; have HB := n1_; have HK := n2_; clear n0_ n1_ n2_; clear hw; (try clear hx6_ hf6_); obtain ⟨vj, hx_, hw_, hp_⟩ := NI.row_ HN.out CI.out) | ((with_reducible refine gate_callee (f := 95) rfl ?_); refine goesL_ (some 77) rfl rfl Try.func95 (by kernel_rfl) rfl #[vj, .int .i64 (wrap64 ((wrap64 ((wrap64 ((wrap64 ((wrap64 ((wrap64 ((wrap64 (x1_1 + 1)) + 1)) + 1)) + 1)) + 1)) + 1)) + 1))] rfl (by (try simp only [List.map_toArray, List.map_cons, List.map_nil]); first | done | rfl | (simp only [List.length_drop, List.length_take]; rfl)) ?_; (refine (wmS.calls k1 vj _ (wrap64 ((wrap64 ((wrap64 ((wrap64 ((wrap64 ((wrap64 ((wrap64 (x1_1 + 1)) + 1)) + 1)) + 1)) + 1)) + 1)) + 1)) t177 w0 _ (by repeat (first | (with_reducible first | exact HB.out | apply below_alloc | apply pw_below_drewN | apply below_drew1) | exact HB.out)) (WRow.at_ hw_) A5.out).mono ?_); rintro e w9 ⟨rfl, ho, hb, hk⟩; refine ⟨_, rfl, ?_⟩; have n0_ := Aside0.mk (NI.mark_ (by repeat (first | exact HN.out | apply NI.alloc_ | apply NI.drewN_ | apply NI.drew_)) (WRow.at_ hw_) ho hp_ hk); have n1_ := Aside0.mk hb; have n2_ := Aside0.mk (Kept.then_ (by repeat (first | (with_reducible first | exact HK.out | apply Kept.alloc | apply Kept.drewN | apply Kept.drew) | exact HK.out)) hk (fun k_ e_ => .inl (hp_ k_ e_.symm).1)); clear HN; clear HB; clear HK; have HN := n0_; have HB := n1_; have HK := n2_; clear n0_ n1_ n2_; clear ho hb hk hw_ hp_ hx_))
          go_roundg k1
          case measure => have := HK1.out; omega
          case rel => exact ⟨t177, (wrap64 (x5_1 + 1)), (by first | rfl | (simp; done) | (simp [*]; done)), (by first | rfl | (simp; done) | (simp [*]; done)), H', ⟨by have := HK1.out; omega⟩, ⟨(by repeat (first | exact HN.out | apply NI.alloc_ | apply NI.drewN_ | apply NI.drew_))⟩, ⟨(by repeat (first | (with_reducible first | exact HK.out | apply Kept.alloc | apply Kept.drewN | apply Kept.drew) | exact HK.out))⟩, ⟨(by repeat (first | (with_reducible first | exact HB.out | apply below_alloc | apply pw_below_drewN | apply below_drew1) | exact HB.out))⟩⟩
        · rw [if_neg c5] at H
          exact absurd H (by simp)
      · rw [if_neg c3] at H
        have c3b0 : decide (x5_1 < (l0.length : Int)) = false := decide_eq_false c3
        clear c3
        obtain rfl := Option.some.inj H
        go_wp2
        go_ret
        exact ⟨by first | rfl | (simp [errW_none, errW_some] <;> rfl) | (simp [*, errW_none, errW_some] <;> rfl), (by repeat (first | (with_reducible first | exact HB.out | apply below_alloc | apply pw_below_drewN | apply below_drew1) | exact HB.out)), (by repeat (first | (with_reducible first | exact HK.out | apply Kept.alloc | apply Kept.drewN | apply Kept.drew) | exact HK.out))⟩

theorem wmS.mono_l : ∀ k, (∀ y0 y1 y2, LeO (wmS.l0 k y0 y1 y2) (wmS.l0 (k + 1) y0 y1 y2))
  | 0 => fun _ _ _ r h => by simp [wmS.l0] at h
  | k + 1 => by
    have ih0 := wmS.mono_l k
    · intro y0 y1 y2
      unfold wmS.l0
      repeat' first
      | (with_reducible exact ih0 _ _ _)
      | (with_reducible exact laws_markText.mono _ _)
      | (with_reducible exact LeO.refl _)
      | (with_reducible exact LeO.none _)
      | (with_reducible refine LeO.ite ?_ ?_)
      | (with_reducible refine LeO.bind ?_ (fun _ => ?_))
      | exact ih0 _ _ _
      | exact laws_markText.mono _ _
      | exact LeO.none _
      | refine LeO.ite ?_ ?_
      | refine LeO.bind ?_ (fun _ => ?_)
theorem wmT.mono_l : ∀ k, (∀ y0 y1 y2, LeO (wmT.l0 k y0 y1 y2) (wmT.l0 (k + 1) y0 y1 y2))
  | 0 => fun _ _ _ r h => by simp [wmT.l0] at h
  | k + 1 => by
    have ih0 := wmT.mono_l k
    · intro y0 y1 y2
      unfold wmT.l0
      repeat' first
      | (with_reducible exact ih0 _ _ _)
      | (with_reducible exact laws_markText.mono _ _)
      | (with_reducible exact wmS.mono_l _ _ _ _)
      | (with_reducible exact LeO.refl _)
      | (with_reducible exact LeO.none _)
      | (with_reducible refine LeO.ite ?_ ?_)
      | (with_reducible refine LeO.bind ?_ (fun _ => ?_))
      | exact ih0 _ _ _
      | exact laws_markText.mono _ _
      | exact wmS.mono_l _ _ _ _
      | exact LeO.none _
      | refine LeO.ite ?_ ?_
      | refine LeO.bind ?_ (fun _ => ?_)
theorem laws_markToldS.mono : ∀ a0 a1 k, LeO (laws_markToldS.f k a0 a1) (laws_markToldS.f (k + 1) a0 a1) := fun a0 a1 k => wmT.mono_l k a0 a1 0

end Go.Proofs.Ytklghegofjigoaa.QFnExactCodesTo
