/- Go functions as Lean functions, and their contracts. Own text: written by wip/gen/pr.py (a turned copy of the print). -/
import Derived.Test.YtnmkcognggeioaaQFnUnsurex0
import Derived.Test.YtnmkcognggeioaaQFnUnsurex2
import Derived.Test.YtnmkcognggeioaaQFnUnsurex3
namespace Go.Proofs.Ytnmkcognggeioaa.QFnUnsure
open Go.RowKit Go.Proofs.YtnmkcognggeioaaW.PrintWords Go.Proofs.YtnmkcognggeioaaW.PrintLast Go.Proofs.YtnmkcognggeioaaW.PrintMore
attribute [local go_sem] max2_int min2_int max_two min_two max_three min_three max_four min_four   -- for this text's walks alone
open Go.Proofs.YtnmkcognggeioaaW.PrintWords renaming below_alloc → ba, pw_below_drewN → bn, below_drew1 → be, below_set → bs, blk_drewN → kn, blk_drew → ke, blk_alloc → ka, blk_below → kb, blk_frozen → kf, blk_cell → kc, below_step → bq, below_size → bz, blk_lt → kl, blk_grown → kg, blk_put → kp
open Go.Proofs.YtnmkcognggeioaaW.PrintWords.Kd renaming R_alloc → ra, R_drewN → rn, R_drew → re, C_alloc → ca, C_drewN → cn, C_drew → ce, C_below → cb
open Go.Proofs.YtnmkcognggeioaaW.PrintWords.Aside0 renaming mk → Am
set_option linter.unusedVariables false
set_option linter.unusedSimpArgs false

theorem cl4 {w w2 : World} {a : Addr} {v : Value} (h : Aside0 (Below w.heap.size w w2)) (e : w.cell? a = some v) : w2.cell? a = some v := (h.out.cell (World.block_lt_of_cell? w _ e)).trans e
def o4b0 (p0 : ByteArray) (p1 : Option Addr) (p2 p3 : Nat) : Obj := .cells #[.string p0, .slice p1 p2 p3] 28 (0, 0)
/-! ### spec_l10Copy: function 22 -/
def spec_l10Copy.f (a0_0 : ByteArray) (l0_1 : List (S49)) : Option (ByteArray × (List (S49))) := (some (([] : List (S49)) : List (S49))).bind fun y112 => (if y112.length + l0_1.length < 4398046511104 then (some (a0_0, (y112 ++ l0_1))) else (none))
def spec_l10Copy.T1 : Bool × List (List Nat × List Nat) := (true, [([], []), ([0], [0]), ([], []), ([], []), ([3], [3]), ([2, 4], [2, 4]), ([1, 5], [1, 5]), ([6, 5, 0, 1, 2, 3, 4, 5, 6], [6])])
def spec_l10Copy.B1 : List Nat := [0, 1, 0, 0, 8, 28, 63, 127]
theorem spec_l10Copy.tab1 : rtab .any (opsOf Try.f22 1) = spec_l10Copy.T1 := by kernel_rfl
theorem spec_l10Copy.bits1 : waitsOk spec_l10Copy.T1.2 spec_l10Copy.B1 = true := by kernel_rfl
set_option maxHeartbeats 8000000 in
set_option maxRecDepth 100000 in
theorem spec_l10Copy.calls (a0_0 : ByteArray) (A0_1 : Option Addr) (c0_1 : Nat) (l0_1 : List (S49)) (r1 : ByteArray) (r2 : List (S49)) (w : World) (hr0_1 : Kd.C k49 w A0_1 l0_1.length l0_1) (hc0_1 : l0_1.length ≤ c0_1) (h : spec_l10Copy.f a0_0 l0_1 = some (r1, r2)) :
  Calls Try.prog 22 #[.agg #[.string a0_0, .slice A0_1 l0_1.length c0_1]] w fun e w' => ∃ v1_ : Value, e = .returned (.agg #[.string r1, v1_]) ∧ Kd.R k49 49 w' w.heap.size (fun _ => True) v1_ r2 ∧ Below w.heap.size w w' := by
 have hu28 := Try.underlying28
 have HR0_1 := Am hr0_1
 have HC0_1 := Am hc0_1
 clear hr0_1 hc0_1
 have HB := Am (Below.refl w.heap.size w)
 have H : ((some (([] : List (S49)) : List (S49))).bind fun y112 => (if y112.length + l0_1.length < 4398046511104 then (some (a0_0, (y112 ++ l0_1))) else (none))) = some (r1, r2) := h
 clear h
 obtain ⟨y112, hy112⟩ : ∃ y_ : List (S49), y_ = (([] : List (S49))) := ⟨_, rfl⟩
 replace H : (if y112.length + l0_1.length < 4398046511104 then (some (a0_0, (y112 ++ l0_1))) else (none)) = some (r1, r2) := by first | (rw [hy112]; with_reducible exact H) | (have H2_ := (Option.bind_some _ _).symm.trans H; rw [hy112]; with_reducible exact H2_) | (have H2_ := (Option.bind_some _ _).symm.trans H; with_reducible exact H2_) | with_reducible exact H | (rw [hy112]; exact H) | exact H
 have Ny112 := Am hy112
 clear hy112
 by_cases c2 : y112.length + l0_1.length < 4398046511104
 ·rw [if_pos c2] at H
  have LMc2 := Am c2
  clear c2
  obtain ⟨y115, hy115⟩ : ∃ y_ : List (S49), y_ = (y112 ++ l0_1) := ⟨_, rfl⟩
  replace H : (some (a0_0, y115)) = some (r1, r2) := by first | (rw [hy115]; with_reducible exact H) | (have H2_ := (Option.bind_some _ _).symm.trans H; rw [hy115]; with_reducible exact H2_) | (have H2_ := (Option.bind_some _ _).symm.trans H; with_reducible exact H2_) | with_reducible exact H | (rw [hy115]; exact H) | exact H
  have Ny115 := Am hy115
  clear hy115
  simp only [Option.some.injEq, Prod.mk.injEq] at H
  obtain ⟨rfl, rfl⟩ := H
  go_enter Try.func22, Try.ntmps22
  try go_wp2_with (first | ((with_reducible refine gate_dst (N := 1) rfl ?_); refine box_event ?hg (N := 1) ?hd (cs := #[.string a0_0, .slice A0_1 l0_1.length c0_1]) (t := 28) ?hr ?_; (case hd => rfl); (case hg => rfl); (case hr => first | (go_simp; done) | (go_simp; rfl)); intro gb110 hg w3 hbox hb; have BK110 := Am (hbox); have GW110 := Am ((by rw [hg]; exact (bz zB) : w.heap.size ≤ gb110)); have GE110 := Am ((by rw [hg]; exact (bz zB) : w.heap.size ≤ gb110)); replace HB := Am (bq zB hb); clear hb hbox hg) | ((with_reducible refine gate_dst (N := 2) rfl ?_); refine box_event ?hg (N := 2) ?hd (cs := #[.string (⟨#[]⟩ : ByteArray), .slice none 0 0]) (t := 28) ?hr ?_; (case hd => rfl); (case hg => rfl); (case hr => first | (go_simp; done) | (go_simp; rfl)); intro gb111 hg w4 hbox hb; have n0_ := Am (zK BK110 hb); have n1_ := Am (bq zG hb); have n2_ := Am (hbox); have n3_ := Am ((by rw [hg]; exact (bz zG) : w.heap.size ≤ gb111)); have n4_ := Am ((by rw [hg]; exact (bz zG) : w.heap.size ≤ gb111)); have n5_ := Am ((by rw [hg]; exact Nat.ne_of_lt (zL BK110) : gb110 ≠ gb111)); have n6_ := Am ((by rw [hg]; exact Nat.ne_of_gt (zL BK110) : gb111 ≠ gb110)); clear BK110; clear HB; have BK110 := n0_; have HB := n1_; have BK111 := n2_; have GW111 := n3_; have GE111 := n4_; have NB110_111 := n5_; have NB111_110 := n6_; clear n0_ n1_ n2_ n3_ n4_ n5_ n6_; clear hb hbox hg))
  have n0_ := Am (ke BK110.out)
  have n1_ := Am (ke BK111.out)
  have n2_ := Am (be HB.out)
  clear BK110
  clear BK111
  clear HB
  have BK110 := n0_
  have BK111 := n1_
  have HB := n2_
  clear n0_ n1_ n2_
  refine start_ (n := 8) (S := fun w' => w'.cell? ⟨gb110, 0, none⟩ = some (.string a0_0) ∧ w'.cell? ⟨gb110, 1, none⟩ = some (.slice A0_1 l0_1.length c0_1)) (ds := []) #[false, false, false, false, false, false, false, false] (by kernel_rfl) rfl rfl ⟨(kc BK110.out 0).trans rfl, (kc BK110.out 1).trans rfl⟩ (fun hHeld => ?_); refine with_tabW spec_l10Copy.tab1 spec_l10Copy.bits1 (fun HT_ HW_ => ?_)
  generalize w4.drew = w5 at BK110 BK111 HB hHeld ⊢
  refine zA 0 (some 3) HT_.out rfl rfl ?_
  refine zA 3 (some 6) HT_.out rfl rfl ?_
  refine zT 1 (some 4) HT_.out HW_.out rfl rfl hHeld ?_
  refine zT 4 (some 7) HT_.out HW_.out rfl rfl hHeld ?_
  refine zO 2 (some 5) HT_.out rfl rfl (fun K hK => ?_)
  refine Kd.R_lit_step k49 _ 49 ?hg (N := 5) ?hd (xs := ([] : List (S49))) (inner := []) (ok := fun _ => True) (okp := fun _ => True) ?hr ?hp (fun _ hk => hk) trivial (Below.refl _ _) (Nat.le_refl _) (by simp) ?_; (case hd => rfl); (case hg => rfl); (case hr => first | (go_simp; done) | (go_simp; rfl)); (case hp => exact (Reps.none _ _))
  intro v113 w6 ho7 hb hg_ hnew_
  clear hg_ hnew_
  (first | rw [← Ny112.out] at ho7 | (simp only [Int.reduceToNat] at ho7; rw [← Ny112.out] at ho7))
  have n0_ := Am (Kd.R_lower ho7 (bz zG))
  have n1_ := Am (zK BK110 hb)
  have n2_ := Am (zK BK111 hb)
  have n3_ := Am (bq zG hb)
  clear BK110
  clear BK111
  clear HB
  have HO114 := n0_
  have BK110 := n1_
  have BK111 := n2_
  have HB := n3_
  clear n0_ n1_ n2_ n3_
  clear hb ho7
  refine hK.out _ _ ⟨(kc BK110.out 0).trans rfl, (kc BK110.out 1).trans rfl⟩ (fun hHeld => ?_)
  clear hK K
  refine zN (some 5) ?_
  refine zO 5 (some 8) HT_.out rfl rfl (fun K hK => ?_)
  refine Kd.R_append_rows_step k49 (w0 := w) w.heap.size (by rfl) (.tmp 5) (.tmp 7) 26 49 (.agg #[(.int .i64 0), (.string ⟨#[]⟩), (.bool false)]) 32 rfl Try.underlying26 info49 rfl (by decide) (by omega) v113 y112 l0_1 _ _ _ (fun _ => True) (fun _ => False) rfl rfl ?aO ?aR (fun _ _ h => h) (fun _ h => h.elim) ?aF ?aB ?aS ?aL ?_
  (case aR => repeat (first | exact (cb HR0_1.out HB.out) | (with_reducible first | refine ca ?_ _ | refine cn ?_ _ | refine ce ?_)))
  (case aB => exact zG)
  (case aF => exact (fun _ _ => trivial))
  (case aO => exact (by (with_reducible repeat (first | apply ra | apply rn | apply re)); exact HO114.out))
  (case aS => exact (bz zG))
  (case aL => have := LMc2.out; omega)
  intro v116 w8 ho hb hg hat
  rw [← Ny115.out] at ho
  have n0_ := Am (kg (g := gb110) (o := o4b0 a0_0 A0_1 l0_1.length c0_1) (by (with_reducible repeat (first | refine kn ?_ _ | refine ke ?_ | refine ka ?_ _)); exact BK110.out) hg (Kd.R_ne HO114.out BK110.out (by decide)))
  have n1_ := Am (kg (g := gb111) (o := .cells #[.string (⟨#[]⟩ : ByteArray), .slice none 0 0] 28 (0, 0)) (by (with_reducible repeat (first | refine kn ?_ _ | refine ke ?_ | refine ka ?_ _)); exact BK111.out) hg (Kd.R_ne HO114.out BK111.out (by decide)))
  have n2_ := Am (hb)
  have n3_ := Am (ho)
  clear BK110
  clear BK111
  clear HB
  clear HO114
  have BK110 := n0_
  have BK111 := n1_
  have HB := n2_
  have HO117 := n3_
  clear n0_ n1_ n2_ n3_
  clear ho hb hg hat
  obtain ⟨Ao9, co9, eo9⟩ := Kd.R_slice HO117.out
  (first | subst eo9 | (injection eo9 with f1_ f2_ f3_; have f4_ := f1_.symm; have f5_ := f3_.symm; clear f1_ f2_ f3_; subst f4_; subst f5_))
  refine hK.out _ _ ⟨(kc BK110.out 0).trans rfl, (kc BK110.out 1).trans rfl⟩ (fun hHeld => ?_)
  clear hK K
  refine zN (some 8) ?_
  refine zA 6 (some 9) HT_.out rfl rfl ?_
  refine zO 7 none HT_.out rfl rfl (fun K hK => ?_)
  have hs10 : w8.cell? ⟨gb111, 0, none⟩ = some (.string (⟨#[]⟩ : ByteArray)) := (kc BK111.out 0).trans rfl
  have hfs10 := kf BK111.out 0
  have hns10_0 := NB110_111.out
  have hms10_0 := NB111_110.out
  have hs11 : w8.cell? ⟨gb111, 1, none⟩ = some (.slice none 0 0) := (kc BK111.out 1).trans rfl
  have hfs11 := kf BK111.out 1
  have hns11_0 := NB110_111.out
  have hms11_0 := NB111_110.out
  refine skip_ (w1 := ?_) (by rfl) rfl ?_ ?_
  rotate_left
  ·go_simp
   rfl
  refine hK.out _ _ ⟨((cell_far (p := ⟨gb111, _, none⟩) NB110_111.out _).trans (((cell_far (p := ⟨gb111, _, none⟩) NB110_111.out _).trans (hHeld.1)))), ((cell_far (p := ⟨gb111, _, none⟩) NB110_111.out _).trans (((cell_far (p := ⟨gb111, _, none⟩) NB110_111.out _).trans (hHeld.2))))⟩ (fun hHeld => ?_)
  clear hK K
  refine done_ (done_of HT_.out (by kernel_rfl)) ?_
  try go_wp2
  refine bodyPost_ret (results_cell_row rfl _ _ gb111 28 #[.string a0_0, .slice Ao9 y115.length co9] (0, 0) _ rfl (by (with_reducible repeat (first | refine kn ?_ _ | refine ke ?_ | refine ka ?_ _)); refine kp (cs := #[.string a0_0, .slice none 0 0]) ?_ 1 _ rfl; (with_reducible repeat (first | refine kn ?_ _ | refine ke ?_ | refine ka ?_ _)); refine kp (cs := #[.string (⟨#[]⟩ : ByteArray), .slice none 0 0]) ?_ 0 _ rfl; (with_reducible repeat (first | refine kn ?_ _ | refine ke ?_ | refine ka ?_ _)); exact BK111.out) Try.underlying28 rfl (by kernel_rfl)) rfl ?_
  exact ⟨_, zR, by (with_reducible repeat (first | apply ra | apply rn | apply re)); exact Kd.R_mono (Kd.R_far (p := ⟨gb111, 1, none⟩) (Kd.R_far (p := ⟨gb111, 0, none⟩) (Kd.R_types HO117.out BK111.out (by decide)) (fun _ hk => hk.2) (.string a0_0)) (fun _ hk => hk.2) (.slice Ao9 y115.length co9)) (fun _ hk => trivial), zG⟩
 ·rw [if_neg c2] at H
  exact absurd H (by simp)

/-! ### spec_l10Keep: function 23 -/
def spec_l10Keep.f (a0 : ByteArray) (a1_0 : Int) (a1_1 : ByteArray) (a1_2 : Bool) : Option (ByteArray) := (spec_l10Size.f).bind fun t119 => (if 0 ≤ (wrap64 (a1_0 * t119)) then (if (wrap64 (a1_0 * t119)) ≤ (a0.size : Int) then (if (a0.extract 0 ((wrap64 (a1_0 * t119)) : Int).toNat).size + a1_1.size ≤ 9223372036854775807 then ((spec_l10Size.f).bind fun t120 => (if 0 ≤ (wrap64 ((wrap64 (a1_0 * t119)) + t120)) then (if (wrap64 ((wrap64 (a1_0 * t119)) + t120)) ≤ (a0.size : Int) then (if ((a0.extract 0 ((wrap64 (a1_0 * t119)) : Int).toNat) ++ a1_1).size + (a0.extract ((wrap64 ((wrap64 (a1_0 * t119)) + t120)) : Int).toNat a0.size).size ≤ 9223372036854775807 then (some (((a0.extract 0 ((wrap64 (a1_0 * t119)) : Int).toNat) ++ a1_1) ++ (a0.extract ((wrap64 ((wrap64 (a1_0 * t119)) + t120)) : Int).toNat a0.size))) else (none)) else (none)) else (none))) else (none)) else (none)) else (none))
set_option maxHeartbeats 8000000 in
set_option maxRecDepth 100000 in
theorem spec_l10Keep.calls (a0 : ByteArray) (a1_0 : Int) (a1_1 : ByteArray) (a1_2 : Bool) (r : ByteArray) (w : World) (h : spec_l10Keep.f a0 a1_0 a1_1 a1_2 = some r) :
  Calls Try.prog 23 #[.string a0, .agg #[.int .i64 a1_0, .string a1_1, .bool a1_2]] w fun e w' => e = .returned (.string r) ∧ Below w.heap.size w w' := by
 have hu49 := Try.underlying49
 have HB := Am (Below.refl w.heap.size w)
 have H : ((spec_l10Size.f).bind fun t119 => (if 0 ≤ (wrap64 (a1_0 * t119)) then (if (wrap64 (a1_0 * t119)) ≤ (a0.size : Int) then (if (a0.extract 0 ((wrap64 (a1_0 * t119)) : Int).toNat).size + a1_1.size ≤ 9223372036854775807 then ((spec_l10Size.f).bind fun t120 => (if 0 ≤ (wrap64 ((wrap64 (a1_0 * t119)) + t120)) then (if (wrap64 ((wrap64 (a1_0 * t119)) + t120)) ≤ (a0.size : Int) then (if ((a0.extract 0 ((wrap64 (a1_0 * t119)) : Int).toNat) ++ a1_1).size + (a0.extract ((wrap64 ((wrap64 (a1_0 * t119)) + t120)) : Int).toNat a0.size).size ≤ 9223372036854775807 then (some (((a0.extract 0 ((wrap64 (a1_0 * t119)) : Int).toNat) ++ a1_1) ++ (a0.extract ((wrap64 ((wrap64 (a1_0 * t119)) + t120)) : Int).toNat a0.size))) else (none)) else (none)) else (none))) else (none)) else (none)) else (none))) = some r := h
 clear h
 replace H := Option.bind_eq_some_iff.mp H
 obtain ⟨t119, A30, H⟩ := H
 obtain rfl : (16 : Int) = t119 := Option.some.inj (show some (16 : Int) = some t119 from A30)
 replace H : (if 0 ≤ (wrap64 (a1_0 * (16 : Int))) then (if (wrap64 (a1_0 * (16 : Int))) ≤ (a0.size : Int) then (if (a0.extract 0 ((wrap64 (a1_0 * (16 : Int))) : Int).toNat).size + a1_1.size ≤ 9223372036854775807 then ((spec_l10Size.f).bind fun t120 => (if 0 ≤ (wrap64 ((wrap64 (a1_0 * (16 : Int))) + t120)) then (if (wrap64 ((wrap64 (a1_0 * (16 : Int))) + t120)) ≤ (a0.size : Int) then (if ((a0.extract 0 ((wrap64 (a1_0 * (16 : Int))) : Int).toNat) ++ a1_1).size + (a0.extract ((wrap64 ((wrap64 (a1_0 * (16 : Int))) + t120)) : Int).toNat a0.size).size ≤ 9223372036854775807 then (some (((a0.extract 0 ((wrap64 (a1_0 * (16 : Int))) : Int).toNat) ++ a1_1) ++ (a0.extract ((wrap64 ((wrap64 (a1_0 * (16 : Int))) + t120)) : Int).toNat a0.size))) else (none)) else (none)) else (none))) else (none)) else (none)) else (none)) = some r := H
 have A3 := Am A30
 clear A30
 obtain ⟨ji4, hji4⟩ : ∃ j_ : Int, (wrap64 (a1_0 * (16 : Int))) = j_ := ⟨_, rfl⟩
 replace H : (if 0 ≤ (ji4) then (if (ji4) ≤ (a0.size : Int) then (if (a0.extract 0 ((ji4) : Int).toNat).size + a1_1.size ≤ 9223372036854775807 then ((spec_l10Size.f).bind fun t120 => (if 0 ≤ (wrap64 ((ji4) + t120)) then (if (wrap64 ((ji4) + t120)) ≤ (a0.size : Int) then (if ((a0.extract 0 ((ji4) : Int).toNat) ++ a1_1).size + (a0.extract ((wrap64 ((ji4) + t120)) : Int).toNat a0.size).size ≤ 9223372036854775807 then (some (((a0.extract 0 ((ji4) : Int).toNat) ++ a1_1) ++ (a0.extract ((wrap64 ((ji4) + t120)) : Int).toNat a0.size))) else (none)) else (none)) else (none))) else (none)) else (none)) else (none)) = some r := by first | (rw [hji4] at H; exact H) | (simp only [hji4] at H ⊢; exact H)
 (try rw [hji4] at A3)
 have hji4w : (IntKind.i64.wrap (a1_0 * (16 : Int))) = ji4 := (i64_w _).trans hji4
 by_cases c5 : 0 ≤ (ji4)
 ·rw [if_pos c5] at H
  have c5b0 := eq_true c5
  have c5b1 : decide (0 ≤ (ji4)) = true := decide_eq_true c5
  clear c5
  by_cases c6 : (ji4) ≤ (a0.size : Int)
  ·rw [if_pos c6] at H
   have c6b0 := eq_true c6
   have c6b1 : decide ((ji4) ≤ (a0.size : Int)) = true := decide_eq_true c6
   clear c6
   by_cases c7 : (a0.extract 0 ((ji4) : Int).toNat).size + a1_1.size ≤ 9223372036854775807
   ·rw [if_pos c7] at H
    have c7b0 := eq_true c7
    have c7b1 : decide ((a0.extract 0 ((ji4) : Int).toNat).size + a1_1.size ≤ 9223372036854775807) = true := decide_eq_true c7
    try have c7b2 : (9223372036854775807 < (a0.extract 0 ((ji4) : Int).toNat).size + a1_1.size) = False := eq_false (Nat.not_lt.2 c7)
    try (have c7b3 := c7b2; simp only [ByteArray.size_extract, Nat.sub_zero] at c7b3)
    try have c7b5 : (9223372036854775807 < ji4.toNat + a1_1.size) = False := eq_false (by have h_ := c7b2; (try have q0_ := of_decide_eq_true c5b1); (try have q1_ := of_decide_eq_true c6b1); (try have q2_ := of_decide_eq_true c7b1); simp only [ByteArray.size_append, ByteArray.size_extract, eq_iff_iff, iff_false] at h_; (try clear hji4); (try clear hji4w); omega)
    try clear c7
    replace H := Option.bind_eq_some_iff.mp H
    obtain ⟨t120, A80, H⟩ := H
    obtain rfl : (16 : Int) = t120 := Option.some.inj (show some (16 : Int) = some t120 from A80)
    replace H : (if 0 ≤ (wrap64 ((ji4) + (16 : Int))) then (if (wrap64 ((ji4) + (16 : Int))) ≤ (a0.size : Int) then (if ((a0.extract 0 ((ji4) : Int).toNat) ++ a1_1).size + (a0.extract ((wrap64 ((ji4) + (16 : Int))) : Int).toNat a0.size).size ≤ 9223372036854775807 then (some (((a0.extract 0 ((ji4) : Int).toNat) ++ a1_1) ++ (a0.extract ((wrap64 ((ji4) + (16 : Int))) : Int).toNat a0.size))) else (none)) else (none)) else (none)) = some r := H
    have A8 := Am A80
    clear A80
    obtain ⟨ji9, hji9⟩ : ∃ j_ : Int, (wrap64 ((ji4) + (16 : Int))) = j_ := ⟨_, rfl⟩
    replace H : (if 0 ≤ (ji9) then (if (ji9) ≤ (a0.size : Int) then (if ((a0.extract 0 ((ji4) : Int).toNat) ++ a1_1).size + (a0.extract ((ji9) : Int).toNat a0.size).size ≤ 9223372036854775807 then (some (((a0.extract 0 ((ji4) : Int).toNat) ++ a1_1) ++ (a0.extract ((ji9) : Int).toNat a0.size))) else (none)) else (none)) else (none)) = some r := by first | (rw [hji9] at H; exact H) | (simp only [hji9] at H ⊢; exact H)
    (try rw [hji9] at A3)
    (try rw [hji9] at A8)
    have hji9w : (IntKind.i64.wrap ((ji4) + (16 : Int))) = ji9 := (i64_w _).trans hji9
    by_cases c10 : 0 ≤ (ji9)
    ·rw [if_pos c10] at H
     have c10b0 := eq_true c10
     have c10b1 : decide (0 ≤ (ji9)) = true := decide_eq_true c10
     clear c10
     by_cases c11 : (ji9) ≤ (a0.size : Int)
     ·rw [if_pos c11] at H
      have c11b0 := eq_true c11
      have c11b1 : decide ((ji9) ≤ (a0.size : Int)) = true := decide_eq_true c11
      clear c11
      by_cases c12 : ((a0.extract 0 ((ji4) : Int).toNat) ++ a1_1).size + (a0.extract ((ji9) : Int).toNat a0.size).size ≤ 9223372036854775807
      ·rw [if_pos c12] at H
       have c12b0 := eq_true c12
       have c12b1 : decide (((a0.extract 0 ((ji4) : Int).toNat) ++ a1_1).size + (a0.extract ((ji9) : Int).toNat a0.size).size ≤ 9223372036854775807) = true := decide_eq_true c12
       try have c12b2 : (9223372036854775807 < ((a0.extract 0 ((ji4) : Int).toNat) ++ a1_1).size + (a0.extract ((ji9) : Int).toNat a0.size).size) = False := eq_false (Nat.not_lt.2 c12)
       try (have c12b3 := c12b2; simp only [ByteArray.size_extract, Nat.sub_zero] at c12b3)
       try (have c12b4 := c12b2; simp only [ByteArray.size_append] at c12b4)
       try have c12b5 : (9223372036854775807 < ji4.toNat + a1_1.size + (a0.size - ji9.toNat)) = False := eq_false (by have h_ := c12b2; (try have q0_ := of_decide_eq_true c5b1); (try have q1_ := of_decide_eq_true c6b1); (try have q2_ := of_decide_eq_true c7b1); (try have q3_ := of_decide_eq_true c10b1); (try have q4_ := of_decide_eq_true c11b1); (try have q5_ := of_decide_eq_true c12b1); simp only [ByteArray.size_append, ByteArray.size_extract, eq_iff_iff, iff_false] at h_; (try clear hji4); (try clear hji4w); (try clear hji9); (try clear hji9w); omega)
       try clear c12
       obtain rfl := Option.some.inj H
       go_enter Try.func23, Try.ntmps23
       go_wp2_with (first | ((with_reducible refine gate_dst (N := 3) rfl ?_); refine box_event ?hg (N := 3) ?hd (cs := #[.int .i64 a1_0, .string a1_1, .bool a1_2]) (t := 49) ?hr ?_; (case hd => rfl); (case hg => rfl); (case hr => first | (go_simp; done) | (go_simp; rfl)); intro gb118 hg w13 hbox hb; have BK118 := Am (hbox); have GW118 := Am ((by rw [hg]; exact (bz zB) : w.heap.size ≤ gb118)); have GE118 := Am ((by rw [hg]; exact (bz zB) : w.heap.size ≤ gb118)); replace HB := Am (bq zB hb); clear hb hbox hg; obtain ⟨hcz14_0, hcz14_1, hcz14_2⟩ := kc3 (w := w13) BK118.out; have hfz14_0 := kf BK118.out) | (go_at_call 35; (with_reducible refine (spec_l10Size.calls  (16 : Int) _ A3.out).mono ?_); rintro e w' ⟨rfl, ⟨nd, rfl⟩⟩; (try first | exact ⟨rfl, _, World.drewN_drewN _ _ _⟩ | exact ⟨rfl, _, Eq.trans (World.drewN_drewN _ _ _) (congrArg (World.drewN _) (Nat.add_assoc _ _ _))⟩)) | (go_at_call 35; (with_reducible refine (spec_l10Size.calls  (16 : Int) _ A8.out).mono ?_); rintro e w' ⟨rfl, ⟨nd, rfl⟩⟩; (try first | exact ⟨rfl, _, World.drewN_drewN _ _ _⟩ | exact ⟨rfl, _, Eq.trans (World.drewN_drewN _ _ _) (congrArg (World.drewN _) (Nat.add_assoc _ _ _))⟩)))
       repeat (go_quiet (first | ((with_reducible refine gate_dst (N := 3) rfl ?_); refine box_event ?hg (N := 3) ?hd (cs := #[.int .i64 a1_0, .string a1_1, .bool a1_2]) (t := 49) ?hr ?_; (case hd => rfl); (case hg => rfl); (case hr => first | (go_simp; done) | (go_simp; rfl)); intro gb118 hg w13 hbox hb; have BK118 := Am (hbox); have GW118 := Am ((by rw [hg]; exact (bz zB) : w.heap.size ≤ gb118)); have GE118 := Am ((by rw [hg]; exact (bz zB) : w.heap.size ≤ gb118)); replace HB := Am (bq zB hb); clear hb hbox hg; obtain ⟨hcz14_0, hcz14_1, hcz14_2⟩ := kc3 (w := w13) BK118.out; have hfz14_0 := kf BK118.out) | (go_at_call 35; (with_reducible refine (spec_l10Size.calls  (16 : Int) _ A3.out).mono ?_); rintro e w' ⟨rfl, ⟨nd, rfl⟩⟩; (try first | exact ⟨rfl, _, World.drewN_drewN _ _ _⟩ | exact ⟨rfl, _, Eq.trans (World.drewN_drewN _ _ _) (congrArg (World.drewN _) (Nat.add_assoc _ _ _))⟩)) | (go_at_call 35; (with_reducible refine (spec_l10Size.calls  (16 : Int) _ A8.out).mono ?_); rintro e w' ⟨rfl, ⟨nd, rfl⟩⟩; (try first | exact ⟨rfl, _, World.drewN_drewN _ _ _⟩ | exact ⟨rfl, _, Eq.trans (World.drewN_drewN _ _ _) (congrArg (World.drewN _) (Nat.add_assoc _ _ _))⟩))); try go_wp2_with (first | ((with_reducible refine gate_dst (N := 3) rfl ?_); refine box_event ?hg (N := 3) ?hd (cs := #[.int .i64 a1_0, .string a1_1, .bool a1_2]) (t := 49) ?hr ?_; (case hd => rfl); (case hg => rfl); (case hr => first | (go_simp; done) | (go_simp; rfl)); intro gb118 hg w13 hbox hb; have BK118 := Am (hbox); have GW118 := Am ((by rw [hg]; exact (bz zB) : w.heap.size ≤ gb118)); have GE118 := Am ((by rw [hg]; exact (bz zB) : w.heap.size ≤ gb118)); replace HB := Am (bq zB hb); clear hb hbox hg; obtain ⟨hcz14_0, hcz14_1, hcz14_2⟩ := kc3 (w := w13) BK118.out; have hfz14_0 := kf BK118.out) | (go_at_call 35; (with_reducible refine (spec_l10Size.calls  (16 : Int) _ A3.out).mono ?_); rintro e w' ⟨rfl, ⟨nd, rfl⟩⟩; (try first | exact ⟨rfl, _, World.drewN_drewN _ _ _⟩ | exact ⟨rfl, _, Eq.trans (World.drewN_drewN _ _ _) (congrArg (World.drewN _) (Nat.add_assoc _ _ _))⟩)) | (go_at_call 35; (with_reducible refine (spec_l10Size.calls  (16 : Int) _ A8.out).mono ?_); rintro e w' ⟨rfl, ⟨nd, rfl⟩⟩; (try first | exact ⟨rfl, _, World.drewN_drewN _ _ _⟩ | exact ⟨rfl, _, Eq.trans (World.drewN_drewN _ _ _) (congrArg (World.drewN _) (Nat.add_assoc _ _ _))⟩))))
       go_ret
       exact ⟨by first | rfl | (simp [errW_none, errW_some] <;> rfl) | (simp only [← hji4, ← hji9]; first | rfl | (simp [errW_none, errW_some] <;> rfl)) | (simp [*, errW_none, errW_some] <;> rfl), zG⟩
      ·rw [if_neg c12] at H
       exact absurd H (by simp)
     ·rw [if_neg c11] at H
      exact absurd H (by simp)
    ·rw [if_neg c10] at H
     exact absurd H (by simp)
   ·rw [if_neg c7] at H
    exact absurd H (by simp)
  ·rw [if_neg c6] at H
   exact absurd H (by simp)
 ·rw [if_neg c5] at H
  exact absurd H (by simp)

/-! ### spec_FallenMemory: function 6 -/
mutual
def spec_FallenMemory.j0 : Nat → Int → Bool → ByteArray → List (S49) → Option (ByteArray × (List (S49)))
 | 0, _, _, _, _ => none
 | k + 1, x1, x13, x122000, x122001 => if x13 = true then ((spec_l10Copy.f x122000 x122001).bind fun bt124 => (some (bt124.1, bt124.2))) else (spec_FallenMemory.l0 k x1 0 x122000 x122001 x122000)
def spec_FallenMemory.l0 : Nat → Int → Int → ByteArray → List (S49) → ByteArray → Option (ByteArray × (List (S49)))
 | 0, _, _, _, _, _ => none
 | k + 1, x1, x6, x122000, x122001, x129000 => if x6 < (x122001.length : Int) then (spec_FallenMemory.j2 k x1 x6 (decide (x6 < 63)) x122000 x122001 x129000) else (spec_FallenMemory.j2 k x1 x6 false x122000 x122001 x129000)
def spec_FallenMemory.j2 : Nat → Int → Int → Bool → ByteArray → List (S49) → ByteArray → Option (ByteArray × (List (S49)))
 | 0, _, _, _, _, _, _ => none
 | k + 1, x1, x6, x27, x122000, x122001, x129000 => if x27 = true then (if 0 ≤ (IntKind.u64.wrap (x6)) then (if (Go.bits .and .i64 (shr .i64 x1 (IntKind.u64.wrap (x6))) 1) = 1 then (if 0 ≤ x6 then (if x6 < (x122001.length : Int) then ((spec_l10Keep.f x129000 ((rd_T49 x122001 x6).f0) ((rd_T49 x122001 x6).f1) ((rd_T49 x122001 x6).f2)).bind fun t130 => (spec_FallenMemory.l0 k x1 (wrap64 (x6 + 1)) x122000 x122001 t130)) else (none)) else (none)) else (spec_FallenMemory.l0 k x1 (wrap64 (x6 + 1)) x122000 x122001 x129000)) else (none)) else (some (x129000, ([] : List (S49))))
end
def spec_FallenMemory.f (k : Nat) (a0_0 : ByteArray) (l0_1 : List (S49)) (a1 : Int) : Option (ByteArray × (List (S49))) := (spec_MemoryOk.f k a0_0 l0_1).bind fun t123 => (if t123 = true then (spec_FallenMemory.j0 k a1 (decide (a1 < 0)) a0_0 l0_1) else (spec_FallenMemory.j0 k a1 true a0_0 l0_1))
theorem spec_FallenMemory.mono_l : ∀ k, (∀ y0 y1 y2 y3, LeO (spec_FallenMemory.j0 k y0 y1 y2 y3) (spec_FallenMemory.j0 (k + 1) y0 y1 y2 y3)) ∧ (∀ y0 y1 y2 y3 y4, LeO (spec_FallenMemory.l0 k y0 y1 y2 y3 y4) (spec_FallenMemory.l0 (k + 1) y0 y1 y2 y3 y4)) ∧ (∀ y0 y1 y2 y3 y4 y5, LeO (spec_FallenMemory.j2 k y0 y1 y2 y3 y4 y5) (spec_FallenMemory.j2 (k + 1) y0 y1 y2 y3 y4 y5))
 | 0 => ⟨fun _ _ _ _ r h => by simp [spec_FallenMemory.j0] at h, fun _ _ _ _ _ r h => by simp [spec_FallenMemory.l0] at h, fun _ _ _ _ _ _ r h => by simp [spec_FallenMemory.j2] at h⟩
 | k + 1 => by
  obtain ⟨ih0, ih1, ih2⟩ := spec_FallenMemory.mono_l k
  refine ⟨?_, ?_, ?_⟩
  ·intro y0 y1 y2 y3
   unfold spec_FallenMemory.j0
   repeat' first
   | (with_reducible exact ih0 _ _ _ _)
   | (with_reducible exact ih1 _ _ _ _ _)
   | (with_reducible exact ih2 _ _ _ _ _ _)
   | (with_reducible exact spec_MemoryOk.mono _ _ _)
   | (with_reducible exact LeO.refl _)
   | (with_reducible exact LeO.none _)
   | (with_reducible refine LeO.ite ?_ ?_)
   | (with_reducible refine LeO.bind ?_ (fun _ => ?_))
   | exact ih0 _ _ _ _
   | exact ih1 _ _ _ _ _
   | exact ih2 _ _ _ _ _ _
   | exact spec_MemoryOk.mono _ _ _
   | exact LeO.none _
   | refine LeO.ite ?_ ?_
   | refine LeO.bind ?_ (fun _ => ?_)
  ·intro y0 y1 y2 y3 y4
   unfold spec_FallenMemory.l0
   repeat' first
   | (with_reducible exact ih0 _ _ _ _)
   | (with_reducible exact ih1 _ _ _ _ _)
   | (with_reducible exact ih2 _ _ _ _ _ _)
   | (with_reducible exact spec_MemoryOk.mono _ _ _)
   | (with_reducible exact LeO.refl _)
   | (with_reducible exact LeO.none _)
   | (with_reducible refine LeO.ite ?_ ?_)
   | (with_reducible refine LeO.bind ?_ (fun _ => ?_))
   | exact ih0 _ _ _ _
   | exact ih1 _ _ _ _ _
   | exact ih2 _ _ _ _ _ _
   | exact spec_MemoryOk.mono _ _ _
   | exact LeO.none _
   | refine LeO.ite ?_ ?_
   | refine LeO.bind ?_ (fun _ => ?_)
  ·intro y0 y1 y2 y3 y4 y5
   unfold spec_FallenMemory.j2
   repeat' first
   | (with_reducible exact ih0 _ _ _ _)
   | (with_reducible exact ih1 _ _ _ _ _)
   | (with_reducible exact ih2 _ _ _ _ _ _)
   | (with_reducible exact spec_MemoryOk.mono _ _ _)
   | (with_reducible exact LeO.refl _)
   | (with_reducible exact LeO.none _)
   | (with_reducible refine LeO.ite ?_ ?_)
   | (with_reducible refine LeO.bind ?_ (fun _ => ?_))
   | exact ih0 _ _ _ _
   | exact ih1 _ _ _ _ _
   | exact ih2 _ _ _ _ _ _
   | exact spec_MemoryOk.mono _ _ _
   | exact LeO.none _
   | refine LeO.ite ?_ ?_
   | refine LeO.bind ?_ (fun _ => ?_)
theorem spec_FallenMemory.mono : ∀ a0 a1 a2 k, LeO (spec_FallenMemory.f k a0 a1 a2) (spec_FallenMemory.f (k + 1) a0 a1 a2) := by
 intro a0 a1 a2 k
 obtain ⟨ih0, ih1, ih2⟩ := spec_FallenMemory.mono_l k
 unfold spec_FallenMemory.f
 repeat' first
   | (with_reducible exact ih0 _ _ _ _)
   | (with_reducible exact ih1 _ _ _ _ _)
   | (with_reducible exact ih2 _ _ _ _ _ _)
   | (with_reducible exact spec_MemoryOk.mono _ _ _)
   | (with_reducible exact LeO.refl _)
   | (with_reducible exact LeO.none _)
   | (with_reducible refine LeO.ite ?_ ?_)
   | (with_reducible refine LeO.bind ?_ (fun _ => ?_))
   | exact ih0 _ _ _ _
   | exact ih1 _ _ _ _ _
   | exact ih2 _ _ _ _ _ _
   | exact spec_MemoryOk.mono _ _ _
   | exact LeO.none _
   | refine LeO.ite ?_ ?_
   | refine LeO.bind ?_ (fun _ => ?_)
def spec_FallenMemory.T8 : Bool × List (List Nat × List Nat) := (true, [([], []), ([0], [0]), ([], []), ([2], [2]), ([], []), ([3, 4], [3, 4]), ([5], [5]), ([1, 6], [1, 6]), ([0, 1, 2, 3, 4, 5, 6, 7], []), ([8, 7, 7, 0, 1, 2, 3, 4, 5, 6, 7], [7, 8])])
def spec_FallenMemory.B8 : List Nat := [0, 1, 0, 4, 0, 28, 60, 127, 255, 511]
theorem spec_FallenMemory.tab8 : rtab .any (opsOf Try.f6 8) = spec_FallenMemory.T8 := by kernel_rfl
theorem spec_FallenMemory.bits8 : waitsOk spec_FallenMemory.T8.2 spec_FallenMemory.B8 = true := by kernel_rfl
set_option maxHeartbeats 8000000 in
set_option maxRecDepth 100000 in
theorem spec_FallenMemory.calls (k : Nat) (a0_0 : ByteArray) (A0_1 : Option Addr) (c0_1 : Nat) (l0_1 : List (S49)) (a1 : Int) (r1 : ByteArray) (r2 : List (S49)) (w : World) (hr0_1 : Kd.C k49 w A0_1 l0_1.length l0_1) (hc0_1 : l0_1.length ≤ c0_1) (h : spec_FallenMemory.f k a0_0 l0_1 a1 = some (r1, r2)) :
  Calls Try.prog 6 #[.agg #[.string a0_0, .slice A0_1 l0_1.length c0_1], .int .i64 a1] w fun e w' => ∃ v1_ : Value, e = .returned (.agg #[.string r1, v1_]) ∧ Kd.R k49 49 w' w.heap.size (fun _ => True) v1_ r2 ∧ Below w.heap.size w w' := by
 have hu28 := Try.underlying28
 have hu49 := Try.underlying49
 have HR0_1 := Am hr0_1
 have HC0_1 := Am hc0_1
 clear hr0_1 hc0_1
 have HB := Am (Below.refl w.heap.size w)
 have H : ((spec_MemoryOk.f k a0_0 l0_1).bind fun t123 => (if t123 = true then (spec_FallenMemory.j0 k a1 (decide (a1 < 0)) a0_0 l0_1) else (spec_FallenMemory.j0 k a1 true a0_0 l0_1))) = some (r1, r2) := h
 clear h
 have HC3 := Am H
 clear H
 go_enter Try.func6, Try.ntmps6
 go_upto_region 1 with (first | ((with_reducible refine gate_dst (N := 2) rfl ?_); refine box_event ?hg (N := 2) ?hd (cs := #[.string a0_0, .slice A0_1 l0_1.length c0_1]) (t := 28) ?hr ?_; (case hd => rfl); (case hg => rfl); (case hr => first | (go_simp; done) | (go_simp; rfl)); intro gb121 hg w4 hbox hb; have BK121 := Am (hbox); have GW121 := Am ((by rw [hg]; exact (bz zB) : w.heap.size ≤ gb121)); have GE121 := Am ((by rw [hg]; exact (bz zB) : w.heap.size ≤ gb121)); replace HB := Am (bq zB hb); clear hb hbox hg) | ((with_reducible refine gate_dst (N := 4) rfl ?_); refine box_event ?hg (N := 4) ?hd (cs := #[.string (⟨#[]⟩ : ByteArray), .slice none 0 0]) (t := 28) ?hr ?_; (case hd => rfl); (case hg => rfl); (case hr => first | (go_simp; done) | (go_simp; rfl)); intro gb122 hg w5 hbox hb; have n0_ := Am (zK BK121 hb); have n1_ := Am (bq zG hb); have n2_ := Am (hbox); have n3_ := Am ((by rw [hg]; exact (bz zG) : w.heap.size ≤ gb122)); have n4_ := Am ((by rw [hg]; exact (bz zG) : w.heap.size ≤ gb122)); have n5_ := Am ((by rw [hg]; exact Nat.ne_of_lt (zL BK121) : gb121 ≠ gb122)); have n6_ := Am ((by rw [hg]; exact Nat.ne_of_gt (zL BK121) : gb122 ≠ gb121)); clear BK121; clear HB; have BK121 := n0_; have HB := n1_; have BK122 := n2_; have GW122 := n3_; have GE122 := n4_; have NB121_122 := n5_; have NB122_121 := n6_; clear n0_ n1_ n2_ n3_ n4_ n5_ n6_; clear hb hbox hg))
 (try simp only [Act.put, List.setIfInBounds_toArray, List.set_cons_zero, List.set_cons_succ])
 go_cut [13] (fun v13 wc => ∃ (kq : Nat) (x13_2 : Bool), v13 = .bool x13_2 ∧ Aside0 (spec_FallenMemory.j0 kq a1 x13_2 a0_0 l0_1 = some (r1, r2)) ∧ Aside0 (kq ≤ k) ∧ Aside0 (wc.heap[gb121]? = some (.cells #[.string a0_0, (.slice A0_1 l0_1.length c0_1)] 28 (0, 0))) ∧ Aside0 (wc.heap[gb122]? = some (.cells #[.string (⟨#[]⟩ : ByteArray), (.slice none 0 0)] 28 (0, 0))) ∧ Aside0 (Below w.heap.size w wc))
 case first =>
  have H := HC3.out
  clear HC3
  replace H := Option.bind_eq_some_iff.mp H
  obtain ⟨t123, A60, H⟩ := H
  replace H : (if t123 = true then (spec_FallenMemory.j0 k a1 (decide (a1 < 0)) a0_0 l0_1) else (spec_FallenMemory.j0 k a1 true a0_0 l0_1)) = some (r1, r2) := H
  have A6 := Am A60
  clear A60
  by_cases c7 : t123 = true
  ·subst c7
   have H1 : (spec_FallenMemory.j0 k a1 (decide (a1 < 0)) a0_0 l0_1) = some (r1, r2) := by rw [if_pos rfl] at H; exact H
   clear H
   have H := H1
   clear H1
   have H' := Am H
   clear H
   have hnb8 := NB121_122.out
   have hnc8 := NB122_121.out
   obtain ⟨hcz9_0, hcz9_1⟩ := kc2 (w := w5) BK121.out
   have hfz9_0 := kf BK121.out
   go_wp2_with (first | ((with_reducible refine gate_callee (f := 15) rfl ?_); refine zC (some 8) rfl rfl Try.func15 rfl #[.agg #[.string a0_0, .slice A0_1 l0_1.length c0_1]] rfl ?_; (with_reducible refine (spec_MemoryOk.calls k a0_0 _ _ l0_1 true _ ?side1 ?side2 A6.out).mono ?_); (case side1 => repeat (first | exact (cb HR0_1.out HB.out) | (with_reducible first | refine ca ?_ _ | refine cn ?_ _ | refine ce ?_))); (case side2 => exact HC0_1.out); rintro e w10 ⟨rfl, hb⟩; refine ⟨_, rfl, ?_⟩; have n0_ := Am (zK BK121 hb); have n1_ := Am (zK BK122 hb); have n2_ := Am (bq zG hb); clear BK121; clear BK122; clear HB; have BK121 := n0_; have BK122 := n1_; have HB := n2_; clear n0_ n1_ n2_; (try clear hb)))
   go_meet
   case rel => exact ⟨_, (decide (a1 < 0)), (by first | rfl | (simp; done) | (simp [*]; done)), H', ⟨by first | omega | exact Nat.le_refl _⟩, ⟨by (with_reducible repeat (first | refine kn ?_ _ | refine ke ?_ | refine ka ?_ _)); exact BK121.out⟩, ⟨by (with_reducible repeat (first | refine kn ?_ _ | refine ke ?_ | refine ka ?_ _)); exact BK122.out⟩, ⟨zG⟩⟩
  ·replace c7 := Bool.eq_false_iff.mpr c7
   subst c7
   have H1 : (spec_FallenMemory.j0 k a1 true a0_0 l0_1) = some (r1, r2) := by rw [if_neg (show ¬ (false = true) by decide)] at H; exact H
   clear H
   have H := H1
   clear H1
   have H' := Am H
   clear H
   have hnb11 := NB121_122.out
   have hnc11 := NB122_121.out
   obtain ⟨hcz12_0, hcz12_1⟩ := kc2 (w := w5) BK121.out
   have hfz12_0 := kf BK121.out
   go_wp2_with (first | ((with_reducible refine gate_callee (f := 15) rfl ?_); refine zC (some 8) rfl rfl Try.func15 rfl #[.agg #[.string a0_0, .slice A0_1 l0_1.length c0_1]] rfl ?_; (with_reducible refine (spec_MemoryOk.calls k a0_0 _ _ l0_1 false _ ?side1 ?side2 A6.out).mono ?_); (case side1 => repeat (first | exact (cb HR0_1.out HB.out) | (with_reducible first | refine ca ?_ _ | refine cn ?_ _ | refine ce ?_))); (case side2 => exact HC0_1.out); rintro e w13 ⟨rfl, hb⟩; refine ⟨_, rfl, ?_⟩; have n0_ := Am (zK BK121 hb); have n1_ := Am (zK BK122 hb); have n2_ := Am (bq zG hb); clear BK121; clear BK122; clear HB; have BK121 := n0_; have BK122 := n1_; have HB := n2_; clear n0_ n1_ n2_; (try clear hb)))
   go_meet
   case rel => exact ⟨_, (true), (by first | rfl | (simp; done) | (simp [*]; done)), H', ⟨by first | omega | exact Nat.le_refl _⟩, ⟨by (with_reducible repeat (first | refine kn ?_ _ | refine ke ?_ | refine ka ?_ _)); exact BK121.out⟩, ⟨by (with_reducible repeat (first | refine kn ?_ _ | refine ke ?_ | refine ka ?_ _)); exact BK122.out⟩, ⟨zG⟩⟩
 case rest =>
  clear HC3
  try clear c1; try clear p2; try clear c6; try clear c7; try clear c8; try clear c11; try clear hcz12_0; try clear hcz12_1; try clear hcz9_0; try clear hcz9_1; try clear hfz12_0; try clear hfz12_1; try clear hfz9_0; try clear hfz9_1
  obtain ⟨kq, x13_2, rfl, HA, HJ2, BK121, BK122, HB⟩ := hcut
  cases kq with
  | zero => exact absurd HA.out (by simp [spec_FallenMemory.j0])
  | succ kj2 =>
   have H := HA.out
   clear HA
   simp only [spec_FallenMemory.j0] at H
   by_cases c14 : x13_2 = true
   ·subst c14
    have H1 : ((spec_l10Copy.f a0_0 l0_1).bind fun bt124 => (some (bt124.1, bt124.2))) = some (r1, r2) := by rw [if_pos rfl] at H; exact H
    clear H
    have H := H1
    clear H1
    replace H := Option.bind_eq_some_iff.mp H
    obtain ⟨⟨t124, t125⟩, A150, H⟩ := H
    replace H : (some (t124, t125)) = some (r1, r2) := H
    have A15 := Am A150
    clear A150
    simp only [Option.some.injEq, Prod.mk.injEq] at H
    obtain ⟨rfl, rfl⟩ := H
    have hnb16 := NB121_122.out
    have hnc16 := NB122_121.out
    obtain ⟨hcz17_0, hcz17_1⟩ := kc2 (w := wc) BK121.out
    have hfz17_0 := kf BK121.out
    go_wp2_with (first | ((with_reducible refine gate_callee (f := 22) rfl ?_); refine zC (some 15) rfl rfl Try.func22 rfl #[.agg #[.string a0_0, .slice A0_1 l0_1.length c0_1]] rfl ?_; (with_reducible refine (spec_l10Copy.calls a0_0 _ _ l0_1 t124 t125 _ ?side1 ?side2 A15.out).mono ?_); (case side1 => repeat (first | exact (cb HR0_1.out HB.out) | (with_reducible first | refine ca ?_ _ | refine cn ?_ _ | refine ce ?_))); (case side2 => exact HC0_1.out); rintro e w18 ⟨v126, rfl, ho0, hb⟩; refine ⟨_, rfl, ?_⟩; have n0_ := Am (Kd.R_lower ho0 (bz zG)); have n1_ := Am (zK BK121 hb); have n2_ := Am (zK BK122 hb); have n3_ := Am (bq zG hb); clear BK121; clear BK122; clear HB; have HO127 := n0_; have BK121 := n1_; have BK122 := n2_; have HB := n3_; clear n0_ n1_ n2_ n3_; (try clear hb ho0); obtain ⟨hcz19_0, hcz19_1⟩ := kc2 (w := w18) BK122.out; have hfz19_0 := kf BK122.out; obtain ⟨Ao20, co20, eo20⟩ := Kd.R_slice HO127.out; subst eo20))
    refine bodyPost_ret (results_cell_row rfl _ _ gb122 28 #[.string t124, .slice Ao20 t125.length co20] (0, 0) _ rfl (by (with_reducible repeat (first | refine kn ?_ _ | refine ke ?_ | refine ka ?_ _)); refine kp (cs := #[.string t124, .slice none 0 0]) ?_ 1 _ rfl; (with_reducible repeat (first | refine kn ?_ _ | refine ke ?_ | refine ka ?_ _)); refine kp (cs := #[.string (⟨#[]⟩ : ByteArray), .slice none 0 0]) ?_ 0 _ rfl; (with_reducible repeat (first | refine kn ?_ _ | refine ke ?_ | refine ka ?_ _)); exact BK122.out) Try.underlying28 rfl (by kernel_rfl)) rfl ?_
    exact ⟨_, zR, by (with_reducible repeat (first | apply ra | apply rn | apply re)); exact Kd.R_mono (Kd.R_far (p := ⟨gb122, 1, none⟩) (Kd.R_far (p := ⟨gb122, 0, none⟩) (Kd.R_types HO127.out BK122.out (by decide)) (fun _ hk => hk.2) (.string t124)) (fun _ hk => hk.2) (.slice Ao20 t125.length co20)) (fun _ hk => trivial), zG⟩
   ·replace c14 := Bool.eq_false_iff.mpr c14
    subst c14
    have H1 : (spec_FallenMemory.l0 kj2 a1 0 a0_0 l0_1 a0_0) = some (r1, r2) := by rw [if_neg (show ¬ (false = true) by decide)] at H; exact H
    clear H
    have H := H1
    clear H1
    have H' := Am H
    clear H
    have hnb21 := NB121_122.out
    have hnc21 := NB122_121.out
    obtain ⟨hcz22_0, hcz22_1⟩ := kc2 (w := wc) BK121.out
    have hfz22_0 := kf BK121.out
    go_wp2_with (first | ((with_reducible refine gate_dst (N := 5) rfl ?_); refine box_event ?hg (N := 5) ?hd (cs := #[.string (⟨#[]⟩ : ByteArray), .slice none 0 0]) (t := 28) ?hr ?_; (case hd => rfl); (case hg => rfl); (case hr => first | (go_simp; done) | (go_simp; rfl)); intro gb128 hg w23 hbox hb; have n0_ := Am (zK BK121 hb); have n1_ := Am (zK BK122 hb); have n2_ := Am (bq zG hb); have n3_ := Am (hbox); have n4_ := Am ((by rw [hg]; exact (bz zG) : w.heap.size ≤ gb128)); have n5_ := Am ((by rw [hg]; exact (bz zG) : w.heap.size ≤ gb128)); have n6_ := Am ((by rw [hg]; exact Nat.ne_of_lt (zL BK121) : gb121 ≠ gb128)); have n7_ := Am ((by rw [hg]; exact Nat.ne_of_gt (zL BK121) : gb128 ≠ gb121)); have n8_ := Am ((by rw [hg]; exact Nat.ne_of_lt (zL BK122) : gb122 ≠ gb128)); have n9_ := Am ((by rw [hg]; exact Nat.ne_of_gt (zL BK122) : gb128 ≠ gb122)); clear BK121; clear BK122; clear HB; have BK121 := n0_; have BK122 := n1_; have HB := n2_; have BK128 := n3_; have GW128 := n4_; have GE128 := n5_; have NB121_128 := n6_; have NB128_121 := n7_; have NB122_128 := n8_; have NB128_122 := n9_; clear n0_ n1_ n2_ n3_ n4_ n5_ n6_ n7_ n8_ n9_; clear hb hbox hg; have hnb24 := NB128_121.out; have hnc24 := NB121_128.out; have hnb25 := NB128_122.out; have hnc25 := NB122_128.out; obtain ⟨hcz26_0, hcz26_1⟩ := kc2 (w := w23) BK128.out; have hfz26_0 := kf BK128.out))
    go_loopg [6] kj2 (fun kq v6 w' => ∃ (x6_2 : Int) (x129000_2 : ByteArray), v6 = .int .i64 x6_2 ∧ Aside0 (spec_FallenMemory.l0 kq a1 x6_2 a0_0 l0_1 x129000_2 = some (r1, r2)) ∧ Aside0 (kq ≤ kj2) ∧ Aside0 (w'.heap[gb121]? = some (.cells #[.string a0_0, (.slice A0_1 l0_1.length c0_1)] 28 (0, 0))) ∧ Aside0 (w'.heap[gb122]? = some (.cells #[.string (⟨#[]⟩ : ByteArray), (.slice none 0 0)] 28 (0, 0))) ∧ Aside0 (w'.heap[gb128]? = some (.cells #[.string x129000_2, (.slice none 0 0)] 28 (0, 0))) ∧ Aside0 (Below w.heap.size w w'))
    case atStart => exact ⟨(0), (a0_0), (by first | rfl | (simp; done) | (simp [*]; done)), H', ⟨Nat.le_refl _⟩, ⟨by (with_reducible repeat (first | refine kn ?_ _ | refine ke ?_ | refine ka ?_ _)); refine blk_far ?_ NB121_128.out _; (with_reducible repeat (first | refine kn ?_ _ | refine ke ?_ | refine ka ?_ _)); refine blk_far ?_ NB121_128.out _; (with_reducible repeat (first | refine kn ?_ _ | refine ke ?_ | refine ka ?_ _)); exact BK121.out⟩, ⟨by (with_reducible repeat (first | refine kn ?_ _ | refine ke ?_ | refine ka ?_ _)); refine blk_far ?_ NB122_128.out _; (with_reducible repeat (first | refine kn ?_ _ | refine ke ?_ | refine ka ?_ _)); refine blk_far ?_ NB122_128.out _; (with_reducible repeat (first | refine kn ?_ _ | refine ke ?_ | refine ka ?_ _)); exact BK122.out⟩, ⟨by (with_reducible repeat (first | refine kn ?_ _ | refine ke ?_ | refine ka ?_ _)); refine kp (cs := #[.string a0_0, .slice none 0 0]) ?_ 1 _ rfl; (with_reducible repeat (first | refine kn ?_ _ | refine ke ?_ | refine ka ?_ _)); refine kp (cs := #[.string (⟨#[]⟩ : ByteArray), .slice none 0 0]) ?_ 0 _ rfl; (with_reducible repeat (first | refine kn ?_ _ | refine ke ?_ | refine ka ?_ _)); exact BK128.out⟩, ⟨zG⟩⟩
    case round =>
     clear H'
     try clear c1; try clear c2; try clear p2; try clear c6; try clear c7; try clear c8; try clear c11; try clear c14; try clear c15; try clear c16; try clear c21; try clear c22; try clear c24; try clear c25; try clear hcz12_0; try clear hcz12_1; try clear hcz17_0; try clear hcz17_1; try clear hcz19_0; try clear hcz19_1; try clear hcz22_0; try clear hcz22_1; try clear hcz26_0; try clear hcz26_1; try clear hcz9_0; try clear hcz9_1; try clear hfz12_0; try clear hfz12_1; try clear hfz17_0; try clear hfz17_1; try clear hfz19_0; try clear hfz19_1; try clear hfz22_0; try clear hfz22_1; try clear hfz26_0; try clear hfz26_1; try clear hfz9_0; try clear hfz9_1; try clear p2
     obtain ⟨x6_2, x129000_2, rfl, HA, HK2, BK121, BK122, BK128, HB⟩ := hrel
     cases gk with
     | zero => exact absurd HA.out (by simp [spec_FallenMemory.l0])
     | succ k2 =>
      have H := HA.out
      clear HA
      simp only [spec_FallenMemory.l0] at H
      have HC27 := Am H
      clear H
      go_upto_region 5 with (fail)
      go_cut [27] (fun v27 wc => ∃ (kq : Nat) (x27_26 : Bool), v27 = .bool x27_26 ∧ Aside0 (spec_FallenMemory.j2 kq a1 x6_2 x27_26 a0_0 l0_1 x129000_2 = some (r1, r2)) ∧ Aside0 (kq ≤ k2) ∧ Aside0 (wc.heap[gb121]? = some (.cells #[.string a0_0, (.slice A0_1 l0_1.length c0_1)] 28 (0, 0))) ∧ Aside0 (wc.heap[gb122]? = some (.cells #[.string (⟨#[]⟩ : ByteArray), (.slice none 0 0)] 28 (0, 0))) ∧ Aside0 (wc.heap[gb128]? = some (.cells #[.string x129000_2, (.slice none 0 0)] 28 (0, 0))) ∧ Aside0 (Below w.heap.size w wc))
      case first =>
       have H := HC27.out
       clear HC27
       by_cases c28 : x6_2 < (l0_1.length : Int)
       ·rw [if_pos c28] at H
        have c28b0 : decide (x6_2 < (l0_1.length : Int)) = true := decide_eq_true c28
        clear c28
        (first | rw [c28b0] | (simp only [i64_w, i32_w]; rw [c28b0]) | skip)
        have H' := Am H
        clear H
        have hnb29 := NB121_122.out
        have hnc29 := NB122_121.out
        have hnb30 := NB121_128.out
        have hnc30 := NB128_121.out
        obtain ⟨hcz31_0, hcz31_1⟩ := kc2 (w := wr) BK121.out
        have hfz31_0 := kf BK121.out
        go_wp2
        go_meet
        case rel => exact ⟨_, (decide (x6_2 < 63)), (by first | rfl | (simp; done) | (simp [*]; done)), H', ⟨by have := HJ2.out; have := HK2.out; first | omega | exact Nat.le_refl _⟩, ⟨by (with_reducible repeat (first | refine kn ?_ _ | refine ke ?_ | refine ka ?_ _)); exact BK121.out⟩, ⟨by (with_reducible repeat (first | refine kn ?_ _ | refine ke ?_ | refine ka ?_ _)); exact BK122.out⟩, ⟨by (with_reducible repeat (first | refine kn ?_ _ | refine ke ?_ | refine ka ?_ _)); exact BK128.out⟩, ⟨zG⟩⟩
       ·rw [if_neg c28] at H
        have c28b0 : decide (x6_2 < (l0_1.length : Int)) = false := decide_eq_false c28
        clear c28
        (first | rw [c28b0] | (simp only [i64_w, i32_w]; rw [c28b0]) | skip)
        have H' := Am H
        clear H
        have hnb32 := NB121_122.out
        have hnc32 := NB122_121.out
        have hnb33 := NB121_128.out
        have hnc33 := NB128_121.out
        obtain ⟨hcz34_0, hcz34_1⟩ := kc2 (w := wr) BK121.out
        have hfz34_0 := kf BK121.out
        go_wp2
        go_meet
        case rel => exact ⟨_, (false), (by first | rfl | (simp; done) | (simp [*]; done)), H', ⟨by have := HJ2.out; have := HK2.out; first | omega | exact Nat.le_refl _⟩, ⟨by (with_reducible repeat (first | refine kn ?_ _ | refine ke ?_ | refine ka ?_ _)); exact BK121.out⟩, ⟨by (with_reducible repeat (first | refine kn ?_ _ | refine ke ?_ | refine ka ?_ _)); exact BK122.out⟩, ⟨by (with_reducible repeat (first | refine kn ?_ _ | refine ke ?_ | refine ka ?_ _)); exact BK128.out⟩, ⟨zG⟩⟩
      case rest =>
       clear HC27
       try clear c1; try clear c2; try clear p2; try clear c3; try clear c6; try clear c7; try clear c8; try clear c11; try clear c14; try clear c15; try clear c16; try clear c21; try clear c22; try clear c24; try clear c25; try clear c28; try clear c28b0; try clear c29; try clear c30; try clear c32; try clear c33; try clear hcz12_0; try clear hcz12_1; try clear hcz17_0; try clear hcz17_1; try clear hcz19_0; try clear hcz19_1; try clear hcz22_0; try clear hcz22_1; try clear hcz26_0; try clear hcz26_1; try clear hcz31_0; try clear hcz31_1; try clear hcz34_0; try clear hcz34_1; try clear hcz9_0; try clear hcz9_1; try clear hfz12_0; try clear hfz12_1; try clear hfz17_0; try clear hfz17_1; try clear hfz19_0; try clear hfz19_1; try clear hfz22_0; try clear hfz22_1; try clear hfz26_0; try clear hfz26_1; try clear hfz31_0; try clear hfz31_1; try clear hfz34_0; try clear hfz34_1; try clear hfz9_0; try clear hfz9_1; try clear p2
       obtain ⟨kq, x27_26, rfl, HA, HJ26, BK121, BK122, BK128, HB⟩ := hcut
       cases kq with
       | zero => exact absurd HA.out (by simp [spec_FallenMemory.j2])
       | succ kj26 =>
        have H := HA.out
        clear HA
        simp only [spec_FallenMemory.j2] at H
        by_cases c35 : x27_26 = true
        ·subst c35
         have H1 : (if 0 ≤ (IntKind.u64.wrap (x6_2)) then (if (Go.bits .and .i64 (shr .i64 a1 (IntKind.u64.wrap (x6_2))) 1) = 1 then (if 0 ≤ x6_2 then (if x6_2 < (l0_1.length : Int) then ((spec_l10Keep.f x129000_2 ((rd_T49 l0_1 x6_2).f0) ((rd_T49 l0_1 x6_2).f1) ((rd_T49 l0_1 x6_2).f2)).bind fun t130 => (spec_FallenMemory.l0 kj26 a1 (wrap64 (x6_2 + 1)) a0_0 l0_1 t130)) else (none)) else (none)) else (spec_FallenMemory.l0 kj26 a1 (wrap64 (x6_2 + 1)) a0_0 l0_1 x129000_2)) else (none)) = some (r1, r2) := by rw [if_pos rfl] at H; exact H
         clear H
         have H := H1
         clear H1
         obtain ⟨ji36, hji36⟩ : ∃ j_ : Int, (IntKind.u64.wrap (x6_2)) = j_ := ⟨_, rfl⟩
         replace H : (if 0 ≤ (ji36) then (if (Go.bits .and .i64 (shr .i64 a1 (ji36)) 1) = 1 then (if 0 ≤ x6_2 then (if x6_2 < (l0_1.length : Int) then ((spec_l10Keep.f x129000_2 ((rd_T49 l0_1 x6_2).f0) ((rd_T49 l0_1 x6_2).f1) ((rd_T49 l0_1 x6_2).f2)).bind fun t130 => (spec_FallenMemory.l0 kj26 a1 (wrap64 (x6_2 + 1)) a0_0 l0_1 t130)) else (none)) else (none)) else (spec_FallenMemory.l0 kj26 a1 (wrap64 (x6_2 + 1)) a0_0 l0_1 x129000_2)) else (none)) = some (r1, r2) := by first | (rw [hji36] at H; exact H) | (simp only [hji36] at H ⊢; exact H)
         by_cases c37 : 0 ≤ (ji36)
         ·rw [if_pos c37] at H
          have c37b0 := eq_true c37
          have c37b1 : decide (0 ≤ (ji36)) = true := decide_eq_true c37
          clear c37
          obtain ⟨ji38, hji38⟩ : ∃ j_ : Int, (shr .i64 a1 (ji36)) = j_ := ⟨_, rfl⟩
          replace H : (if (Go.bits .and .i64 (ji38) 1) = 1 then (if 0 ≤ x6_2 then (if x6_2 < (l0_1.length : Int) then ((spec_l10Keep.f x129000_2 ((rd_T49 l0_1 x6_2).f0) ((rd_T49 l0_1 x6_2).f1) ((rd_T49 l0_1 x6_2).f2)).bind fun t130 => (spec_FallenMemory.l0 kj26 a1 (wrap64 (x6_2 + 1)) a0_0 l0_1 t130)) else (none)) else (none)) else (spec_FallenMemory.l0 kj26 a1 (wrap64 (x6_2 + 1)) a0_0 l0_1 x129000_2)) = some (r1, r2) := by first | (rw [hji38] at H; exact H) | (simp only [hji38] at H ⊢; exact H)
          have hji38_ : (a1 / 2 ^ min (ji36).toNat 64) = ji38 := hji38
          have hji38z : (ji36) ≤ 64 → (a1 / 2 ^ (ji36).toNat) = ji38 := shr_small hji38
          by_cases c39 : (Go.bits .and .i64 (ji38) 1) = 1
          ·rw [if_pos c39] at H
           have c39b0 : ((Go.bits .and .i64 (ji38) 1) == 1) = true := beq_iff_eq.mpr c39
           have c39b1 : ((Go.bits .and .i64 (ji38) 1) != 1) = false := bne_eq_false_iff_eq.mpr c39
           clear c39
           by_cases c40 : 0 ≤ x6_2
           ·rw [if_pos c40] at H
            have c40b0 : decide (0 ≤ x6_2) = true := decide_eq_true c40
            clear c40
            by_cases c41 : x6_2 < (l0_1.length : Int)
            ·rw [if_pos c41] at H
             have c41b0 : decide (x6_2 < (l0_1.length : Int)) = true := decide_eq_true c41
             clear c41
             replace H := Option.bind_eq_some_iff.mp H
             obtain ⟨t130, A420, H⟩ := H
             replace H : (spec_FallenMemory.l0 kj26 a1 (wrap64 (x6_2 + 1)) a0_0 l0_1 t130) = some (r1, r2) := H
             have A42 := Am A420
             clear A420
             have H' := Am H
             clear H
             try go_wp2
             have n0_ := Am (ke BK121.out)
             have n1_ := Am (ke BK122.out)
             have n2_ := Am (ke BK128.out)
             have n3_ := Am (be HB.out)
             clear BK121
             clear BK122
             clear BK128
             clear HB
             have BK121 := n0_
             have BK122 := n1_
             have BK128 := n2_
             have HB := n3_
             clear n0_ n1_ n2_ n3_
             have p129 : 0 ≤ (x6_2 : Int) := of_decide_eq_true (by first | (with_reducible assumption) | assumption)
             have q129 : x6_2 < (l0_1.length : Int) := of_decide_eq_true (by first | (with_reducible assumption) | assumption)
             obtain ⟨ad129, e129, hx129_0, hx129_1, hx129_2⟩ := at_T49 HR0_1.out x6_2 p129 q129
             have hw129_2 := hx129_2
             have hw129_1 := hx129_1
             have hw129_0 := hx129_0
             cases e129
             replace hx129_0 := cl4 HB hx129_0
             replace hx129_1 := cl4 HB hx129_1
             replace hx129_2 := cl4 HB hx129_2
             replace p129 := eq_true p129
             replace q129 := eq_true q129
             refine start_ (n := 10) (S := fun w' => w'.cell? ⟨gb128, 0, none⟩ = some (.string x129000_2) ∧ w'.cell? ⟨gb128, 1, none⟩ = some (.slice none 0 0) ∧ w'.cell? ⟨gb121, 0, none⟩ = some (.string a0_0) ∧ w'.cell? ⟨gb121, 1, none⟩ = some (.slice (some ad129) l0_1.length c0_1) ∧ w'.cell? (ad129.add ((x6_2).toNat * 3)) = some (.int .i64 ((rd_T49 l0_1 x6_2).f0)) ∧ w'.cell? ⟨(ad129.add ((x6_2).toNat * 3)).block, (ad129.add ((x6_2).toNat * 3)).off + 1, none⟩ = some (.string ((rd_T49 l0_1 x6_2).f1)) ∧ w'.cell? ⟨(ad129.add ((x6_2).toNat * 3)).block, (ad129.add ((x6_2).toNat * 3)).off + 2, none⟩ = some (.bool ((rd_T49 l0_1 x6_2).f2))) (ds := [9]) #[false, false, false, false, false, false, false, false, false, false] (by kernel_rfl) rfl rfl ⟨(kc BK128.out 0).trans rfl, (kc BK128.out 1).trans rfl, (kc BK121.out 0).trans rfl, (kc BK121.out 1).trans rfl, (cl4 HB hw129_0), (cl4 HB hw129_1), (cl4 HB hw129_2)⟩ (fun hHeld => ?_); refine with_tabW spec_FallenMemory.tab8 spec_FallenMemory.bits8 (fun HT_ HW_ => ?_)
             generalize wc.drew = w43 at BK121 BK122 BK128 HB hx129_0 hx129_1 hx129_2 hHeld ⊢
             refine zA 0 (some 36) HT_.out rfl rfl ?_
             refine zA 2 (some 38) HT_.out rfl rfl ?_
             refine zA 4 (some 40) HT_.out rfl rfl ?_
             refine zT 1 (some 37) HT_.out HW_.out rfl rfl hHeld ?_
             refine zT 3 (some 39) HT_.out HW_.out rfl rfl hHeld ?_
             refine zA 5 (some 41) HT_.out rfl rfl ?_
             refine zT 6 (some 42) HT_.out HW_.out rfl rfl hHeld ?_
             refine zO 7 (some 43) HT_.out rfl rfl (fun K hK => ?_)
             refine goes_ Try.func23 (by kernel_rfl) rfl #[.string x129000_2, .agg #[.int .i64 ((rd_T49 l0_1 x6_2).f0), .string ((rd_T49 l0_1 x6_2).f1), .bool ((rd_T49 l0_1 x6_2).f2)]] (by rfl) rfl rfl (by (try simp only [List.map_toArray, List.map_cons, List.map_nil]); first | done | rfl | (simp only [List.length_drop, List.length_take]; rfl)) ?_
             with_reducible refine (spec_l10Keep.calls x129000_2 ((rd_T49 l0_1 x6_2).f0) ((rd_T49 l0_1 x6_2).f1) ((rd_T49 l0_1 x6_2).f2) t130 _ A42.out).mono ?_
             rintro e w44 ⟨rfl, hb⟩
             refine ⟨_, rfl, ?_⟩
             have n0_ := Am (zK BK121 hb)
             have n1_ := Am (zK BK122 hb)
             have n2_ := Am (zK BK128 hb)
             have n3_ := Am (bq zG hb)
             clear BK121
             clear BK122
             clear BK128
             clear HB
             have BK121 := n0_
             have BK122 := n1_
             have BK128 := n2_
             have HB := n3_
             clear n0_ n1_ n2_ n3_
             (try clear hb)
             (try clear hb2)
             (try clear hk)
             (try clear hi)
             refine hK.out _ _ ⟨(kc BK128.out 0).trans rfl, (kc BK128.out 1).trans rfl, (kc BK121.out 0).trans rfl, (kc BK121.out 1).trans rfl, (cl4 HB hw129_0 :), (cl4 HB hw129_1 :), (cl4 HB hw129_2 :)⟩ (fun hHeld => ?_)
             clear hK K
             refine zN (some 43) ?_
             refine zA 8 (some 44) HT_.out rfl rfl ?_
             refine last_ (i := 9) (N := none) #[true, true, true, true, true, true, true, true, true, true] rfl rfl (one_of HT_.out (by kernel_rfl)) (by decide) (fun K hK => ?_)
             have hs45 : w44.cell? ⟨gb128, 0, none⟩ = some (.string x129000_2) := (kc BK128.out 0).trans rfl
             have hfs45 := kf BK128.out 0
             have hns45_0 := NB121_128.out
             have hns45_1 := NB122_128.out
             have hms45_0 := NB128_121.out
             have hms45_1 := NB128_122.out
             refine skip_ (w1 := ?_) (by rfl) rfl ?_ ?_
             rotate_left
             ·go_simp
              rfl
             refine hK.out _ _ ?_
             clear hK K
             refine done_ (done_of HT_.out (by kernel_rfl)) ?_
             try go_wp2
             go_roundg kj26
             case measure => have := HJ2.out; have := HK2.out; have := HJ26.out; omega
             case rel => exact ⟨(wrap64 (x6_2 + 1)), (t130), (by first | rfl | (simp; done) | (simp [*]; done)), H', ⟨by have := HJ2.out; have := HK2.out; have := HJ26.out; omega⟩, ⟨by (with_reducible repeat (first | refine kn ?_ _ | refine ke ?_ | refine ka ?_ _)); refine blk_far ?_ NB121_128.out _; (with_reducible repeat (first | refine kn ?_ _ | refine ke ?_ | refine ka ?_ _)); exact BK121.out⟩, ⟨by (with_reducible repeat (first | refine kn ?_ _ | refine ke ?_ | refine ka ?_ _)); refine blk_far ?_ NB122_128.out _; (with_reducible repeat (first | refine kn ?_ _ | refine ke ?_ | refine ka ?_ _)); exact BK122.out⟩, ⟨by (with_reducible repeat (first | refine kn ?_ _ | refine ke ?_ | refine ka ?_ _)); refine kp (cs := #[.string x129000_2, .slice none 0 0]) ?_ 0 _ rfl; (with_reducible repeat (first | refine kn ?_ _ | refine ke ?_ | refine ka ?_ _)); exact BK128.out⟩, ⟨zG⟩⟩
            ·rw [if_neg c41] at H
             exact absurd H (by simp)
           ·rw [if_neg c40] at H
            exact absurd H (by simp)
          ·rw [if_neg c39] at H
           have c39b0 : ((Go.bits .and .i64 (ji38) 1) == 1) = false := beq_eq_false_iff_ne.mpr c39
           have c39b1 : ((Go.bits .and .i64 (ji38) 1) != 1) = true := bne_iff_ne.mpr c39
           have H' := Am H
           clear H
           go_wp2
           go_roundg kj26
           case measure => have := HJ2.out; have := HK2.out; have := HJ26.out; omega
           case rel => exact ⟨(wrap64 (x6_2 + 1)), (x129000_2), (by first | rfl | (simp; done) | (simp [*]; done)), H', ⟨by have := HJ2.out; have := HK2.out; have := HJ26.out; omega⟩, ⟨by (with_reducible repeat (first | refine kn ?_ _ | refine ke ?_ | refine ka ?_ _)); exact BK121.out⟩, ⟨by (with_reducible repeat (first | refine kn ?_ _ | refine ke ?_ | refine ka ?_ _)); exact BK122.out⟩, ⟨by (with_reducible repeat (first | refine kn ?_ _ | refine ke ?_ | refine ka ?_ _)); exact BK128.out⟩, ⟨zG⟩⟩
         ·rw [if_neg c37] at H
          exact absurd H (by simp)
        ·replace c35 := Bool.eq_false_iff.mpr c35
         subst c35
         have H1 : (some (x129000_2, ([] : List (S49)))) = some (r1, r2) := by rw [if_neg (show ¬ (false = true) by decide)] at H; exact H
         clear H
         have H := H1
         clear H1
         simp only [Option.some.injEq, Prod.mk.injEq] at H
         obtain ⟨rfl, rfl⟩ := H
         have hnb46 := NB128_121.out
         have hnc46 := NB121_128.out
         have hnb47 := NB128_122.out
         have hnc47 := NB122_128.out
         obtain ⟨hcz48_0, hcz48_1⟩ := kc2 (w := wc) BK128.out
         have hfz48_0 := kf BK128.out
         have hnb49 := NB122_121.out
         have hnc49 := NB121_122.out
         obtain ⟨hcz50_0, hcz50_1⟩ := kc2 (w := wc) BK122.out
         have hfz50_0 := kf BK122.out
         go_wp2
         refine bodyPost_ret (results_cell_row rfl _ _ gb122 28 #[.string x129000_2, .slice none 0 0] (0, 0) _ rfl (by (with_reducible repeat (first | refine kn ?_ _ | refine ke ?_ | refine ka ?_ _)); refine kp (cs := #[.string x129000_2, .slice none 0 0]) ?_ 1 _ rfl; (with_reducible repeat (first | refine kn ?_ _ | refine ke ?_ | refine ka ?_ _)); refine kp (cs := #[.string (⟨#[]⟩ : ByteArray), .slice none 0 0]) ?_ 0 _ rfl; (with_reducible repeat (first | refine kn ?_ _ | refine ke ?_ | refine ka ?_ _)); exact BK122.out) Try.underlying28 rfl (by kernel_rfl)) rfl ?_
         exact ⟨_, zR, by first | exact Kd.R_nil _ _ _ _ _ | exact Kd.N_nil _ _ _ _ _ | exact Kd.V_nil _ _ _ _ _ | exact Kd.Q_nil _ _ _ _ _ | exact Kd.S_nil _ _ _ _ _, zG⟩

/-! ### impl_Cell: function 43 -/
def impl_Cell.f (l0 : List (S49)) : Option ((List (S49))) := (some (([] : List (S49)) : List (S49))).bind fun y131 => (if y131.length + l0.length < 4398046511104 then (some (y131 ++ l0)) else (none))
set_option maxHeartbeats 8000000 in
set_option maxRecDepth 100000 in
theorem impl_Cell.calls (A0 : Option Addr) (c0 : Nat) (l0 : List (S49)) (r : List (S49)) (w : World) (hr0 : Kd.C k49 w A0 l0.length l0) (hc0 : l0.length ≤ c0) (h : impl_Cell.f l0 = some r) :
  Calls Try.prog 43 #[.slice A0 l0.length c0] w fun e w' => ∃ v0_ : Value, e = .returned (v0_) ∧ Kd.R k49 49 w' w.heap.size (fun _ => True) v0_ r ∧ Below w.heap.size w w' := by
 have HR0 := Am hr0
 have HC0 := Am hc0
 clear hr0 hc0
 have HB := Am (Below.refl w.heap.size w)
 have H : ((some (([] : List (S49)) : List (S49))).bind fun y131 => (if y131.length + l0.length < 4398046511104 then (some (y131 ++ l0)) else (none))) = some r := h
 clear h
 obtain ⟨y131, hy131⟩ : ∃ y_ : List (S49), y_ = (([] : List (S49))) := ⟨_, rfl⟩
 replace H : (if y131.length + l0.length < 4398046511104 then (some (y131 ++ l0)) else (none)) = some r := by first | (rw [hy131]; with_reducible exact H) | (have H2_ := (Option.bind_some _ _).symm.trans H; rw [hy131]; with_reducible exact H2_) | (have H2_ := (Option.bind_some _ _).symm.trans H; with_reducible exact H2_) | with_reducible exact H | (rw [hy131]; exact H) | exact H
 have Ny131 := Am hy131
 clear hy131
 by_cases c2 : y131.length + l0.length < 4398046511104
 ·rw [if_pos c2] at H
  have LMc2 := Am c2
  clear c2
  obtain ⟨y134, hy134⟩ : ∃ y_ : List (S49), y_ = (y131 ++ l0) := ⟨_, rfl⟩
  replace H : (some y134) = some r := by first | (rw [hy134]; with_reducible exact H) | (have H2_ := (Option.bind_some _ _).symm.trans H; rw [hy134]; with_reducible exact H2_) | (have H2_ := (Option.bind_some _ _).symm.trans H; with_reducible exact H2_) | with_reducible exact H | (rw [hy134]; exact H) | exact H
  have Ny134 := Am hy134
  clear hy134
  obtain rfl := Option.some.inj H
  go_enter Try.func43, Try.ntmps43
  have q_ : ∀ (w : World) (a : Option Addr) (n c n' c' : Nat), (binOp .eql 26 (.slice a n c) (.slice none n' c')).run Try.prog w = .ok (.bool a.isNone) w := fun w a n c n' c' => Lib.run_eql_slice_nil w _ _ a n c n' c' Try.underlying26
  cases A0 with
  | none =>
   have hl0 : l0 = [] := by
    cases l0 with
    | nil => rfl
    | cons x_ l_ =>
     obtain ⟨ad_, e_, _⟩ := HR0.out.2.2 (Nat.succ_pos _)
     cases e_
   subst hl0
   go_wp2
   go_ret
   exact ⟨_, rfl, by rw [Ny134.out, Ny131.out]; exact Kd.R_nil _ _ _ _ _, zB⟩
  | some ad0 =>
   go_wp2_with (first | ((with_reducible refine gate_dst (N := 5) rfl ?_); refine Kd.R_lit k49 _ 49 ?hg (N := 5) ?hd (xs := ([] : List (S49))) (inner := []) (ok := fun _ => True) (okp := fun _ => True) ?hr ?hp (fun _ hk => hk) trivial (Below.refl _ _) (Nat.le_refl _) (by simp) ?_; (case hd => rfl); (case hg => rfl); (case hr => first | (go_simp; done) | (go_simp; rfl)); (case hp => exact (Reps.none _ _)); intro v132 w3 ho4 hb hg_ hnew_; clear hg_ hnew_; (first | rw [← Ny131.out] at ho4 | (simp only [Int.reduceToNat] at ho4; rw [← Ny131.out] at ho4)); have HO133 := Am (Kd.R_lower ho4 (bz zB)); replace HB := Am (bq zB hb); clear hb ho4) | ((with_reducible refine gate_builtin (b := .append) (xs := #[.tmp 5, .tmp 6]) rfl ?_); at_builtin; refine Kd.R_append_rows k49 (w0 := w) w.heap.size rfl (.tmp 5) (.tmp 6) 26 49 (.agg #[(.int .i64 0), (.string ⟨#[]⟩), (.bool false)]) 32 rfl Try.underlying26 info49 rfl (by decide) (by omega) v132 y131 l0 _ _ _ (fun _ => True) (fun _ => False) rfl rfl ?aO ?aR (fun _ _ h => h) (fun _ h => h.elim) ?aF ?aB ?aS ?aL ?_; (case aR => repeat (first | exact (cb HR0.out HB.out) | (with_reducible first | refine ca ?_ _ | refine cn ?_ _ | refine ce ?_))); (case aB => exact zB); (case aF => exact (fun _ _ => trivial)); (case aO => exact (by (with_reducible repeat (first | apply ra | apply rn | apply re)); exact HO133.out)); (case aS => exact (bz zB)); (case aL => have := LMc2.out; omega); intro v135 w5 ho hb hg hat; rw [← Ny134.out] at ho; have n0_ := Am (hb); have n1_ := Am (ho); clear HB; clear HO133; have HB := n0_; have HO136 := n1_; clear n0_ n1_; clear ho hb hg hat))
   go_ret
   exact ⟨_, zR, by (with_reducible repeat (first | apply ra | apply rn | apply re)); exact HO136.out, zB⟩
 ·rw [if_neg c2] at H
  exact absurd H (by simp)

end Go.Proofs.Ytnmkcognggeioaa.QFnUnsure
