/- Go functions as Lean functions, and their contracts. Own text: written by wip/gen/pr.py (a turned copy of the print). -/
import Derived.Test.YtnmkcognggeioaaQFnExactFallenMemoryx0
import Derived.Test.YtnmkcognggeioaaQFnExactFallenMemoryx1
import Derived.Test.YtnmkcognggeioaaQFnExactFallenMemoryx2
namespace Go.Proofs.Ytnmkcognggeioaa.QFnExactFallenMemory
open Go.RowKit Go.Proofs.YtnmkcognggeioaaW.PrintWords Go.Proofs.YtnmkcognggeioaaW.PrintLast Go.Proofs.YtnmkcognggeioaaW.PrintMore
attribute [local go_sem] max2_int min2_int max_two min_two max_three min_three max_four min_four   -- for this text's walks alone
open Go.Proofs.YtnmkcognggeioaaW.PrintWords renaming below_alloc → ba, pw_below_drewN → bn, below_drew1 → be, below_set → bs, blk_drewN → kn, blk_drew → ke, blk_alloc → ka, blk_below → kb, blk_frozen → kf, blk_cell → kc, below_step → bq, below_size → bz, blk_lt → kl, blk_grown → kg, blk_put → kp
open Go.Proofs.YtnmkcognggeioaaW.PrintWords.Kd renaming R_alloc → ra, R_drewN → rn, R_drew → re, C_alloc → ca, C_drewN → cn, C_drew → ce, C_below → cb
open Go.Proofs.YtnmkcognggeioaaW.PrintWords.Aside0 renaming mk → Am
set_option linter.unusedVariables false
set_option linter.unusedSimpArgs false

theorem cl3 {w w2 : World} {a : Addr} {v : Value} (h : Aside0 (Below w.heap.size w w2)) (e : w.cell? a = some v) : w2.cell? a = some v := (h.out.cell (World.block_lt_of_cell? w _ e)).trans e
def o3b0 (p0 : ByteArray) (p1 : Option Addr) (p2 p3 : Nat) : Obj := .cells #[.string p0, .slice p1 p2 p3] 28 (0, 0)
def o3b1 (p0 : Int) (p1 : ByteArray) (p2 : Bool) : Obj := .cells #[.int .i64 p0, .string p1, .bool p2] 63 (0, 0)
/-! ### spec_l10Copy: function 22 -/
def spec_l10Copy.f (a0_0 : ByteArray) (l0_1 : List (S49)) : Option (ByteArray × (List (S49))) := (some (([] : List (S49)) : List (S49))).bind fun y117 => (if y117.length + l0_1.length < 4398046511104 then (some (a0_0, (y117 ++ l0_1))) else (none))
def spec_l10Copy.T1 : Bool × List (List Nat × List Nat) := (true, [([], []), ([0], [0]), ([], []), ([], []), ([3], [3]), ([2, 4], [2, 4]), ([1, 5], [1, 5]), ([6, 5, 0, 1, 2, 3, 4, 5, 6], [6])])
def spec_l10Copy.B1 : List Nat := [0, 1, 0, 0, 8, 28, 63, 127]
theorem spec_l10Copy.tab1 : rtab .any (opsOf Try.f22 1) = spec_l10Copy.T1 := by kernel_rfl
theorem spec_l10Copy.bits1 : waitsOk spec_l10Copy.T1.2 spec_l10Copy.B1 = true := by kernel_rfl
set_option maxHeartbeats 8000000 in
set_option maxRecDepth 100000 in
theorem spec_l10Copy.calls (a0_0 : ByteArray) (A0_1 : Option Addr) (c0_1 : Nat) (l0_1 : List (S49)) (r1 : ByteArray) (r2 : List (S49)) (w : World) (hr0_1 : Kd.C k49 w A0_1 l0_1.length l0_1) (hc0_1 : l0_1.length ≤ c0_1) (h : spec_l10Copy.f a0_0 l0_1 = some (r1, r2)) :
  Calls Try.prog 22 #[.agg #[.string a0_0, .slice A0_1 l0_1.length c0_1]] w fun e w' => ∃ v1_ : Value, e = .returned (.agg #[.string r1, v1_]) ∧ Kd.R k49 49 w' w.heap.size (fun _ => True) v1_ r2 ∧ Below w.heap.size w w' := by
 have hu28 := Try.underlying28
 have HR0_1 := Am hr0_1
 have HC0_1 := Am hc0_1
 clear hr0_1 hc0_1
 have HB := Am (Below.refl w.heap.size w)
 have H : ((some (([] : List (S49)) : List (S49))).bind fun y117 => (if y117.length + l0_1.length < 4398046511104 then (some (a0_0, (y117 ++ l0_1))) else (none))) = some (r1, r2) := h
 clear h
 obtain ⟨y117, hy117⟩ : ∃ y_ : List (S49), y_ = (([] : List (S49))) := ⟨_, rfl⟩
 replace H : (if y117.length + l0_1.length < 4398046511104 then (some (a0_0, (y117 ++ l0_1))) else (none)) = some (r1, r2) := by first | (rw [hy117]; with_reducible exact H) | (have H2_ := (Option.bind_some _ _).symm.trans H; rw [hy117]; with_reducible exact H2_) | (have H2_ := (Option.bind_some _ _).symm.trans H; with_reducible exact H2_) | with_reducible exact H | (rw [hy117]; exact H) | exact H
 have Ny117 := Am hy117
 clear hy117
 by_cases c2 : y117.length + l0_1.length < 4398046511104
 ·rw [if_pos c2] at H
  have LMc2 := Am c2
  clear c2
  obtain ⟨y120, hy120⟩ : ∃ y_ : List (S49), y_ = (y117 ++ l0_1) := ⟨_, rfl⟩
  replace H : (some (a0_0, y120)) = some (r1, r2) := by first | (rw [hy120]; with_reducible exact H) | (have H2_ := (Option.bind_some _ _).symm.trans H; rw [hy120]; with_reducible exact H2_) | (have H2_ := (Option.bind_some _ _).symm.trans H; with_reducible exact H2_) | with_reducible exact H | (rw [hy120]; exact H) | exact H
  have Ny120 := Am hy120
  clear hy120
  simp only [Option.some.injEq, Prod.mk.injEq] at H
  obtain ⟨rfl, rfl⟩ := H
  go_enter Try.func22, Try.ntmps22
  try go_wp2_with (first | ((with_reducible refine gate_dst (N := 1) rfl ?_); refine box_event ?hg (N := 1) ?hd (cs := #[.string a0_0, .slice A0_1 l0_1.length c0_1]) (t := 28) ?hr ?_; (case hd => rfl); (case hg => rfl); (case hr => first | (go_simp; done) | (go_simp; rfl)); intro gb115 hg w3 hbox hb; have BK115 := Am (hbox); have GW115 := Am ((by rw [hg]; exact (bz zB) : w.heap.size ≤ gb115)); have GE115 := Am ((by rw [hg]; exact (bz zB) : w.heap.size ≤ gb115)); replace HB := Am (bq zB hb); clear hb hbox hg) | ((with_reducible refine gate_dst (N := 2) rfl ?_); refine box_event ?hg (N := 2) ?hd (cs := #[.string (⟨#[]⟩ : ByteArray), .slice none 0 0]) (t := 28) ?hr ?_; (case hd => rfl); (case hg => rfl); (case hr => first | (go_simp; done) | (go_simp; rfl)); intro gb116 hg w4 hbox hb; have n0_ := Am (zK BK115 hb); have n1_ := Am (bq zG hb); have n2_ := Am (hbox); have n3_ := Am ((by rw [hg]; exact (bz zG) : w.heap.size ≤ gb116)); have n4_ := Am ((by rw [hg]; exact (bz zG) : w.heap.size ≤ gb116)); have n5_ := Am ((by rw [hg]; exact Nat.ne_of_lt (zL BK115) : gb115 ≠ gb116)); have n6_ := Am ((by rw [hg]; exact Nat.ne_of_gt (zL BK115) : gb116 ≠ gb115)); clear BK115; clear HB; have BK115 := n0_; have HB := n1_; have BK116 := n2_; have GW116 := n3_; have GE116 := n4_; have NB115_116 := n5_; have NB116_115 := n6_; clear n0_ n1_ n2_ n3_ n4_ n5_ n6_; clear hb hbox hg))
  have n0_ := Am (ke BK115.out)
  have n1_ := Am (ke BK116.out)
  have n2_ := Am (be HB.out)
  clear BK115
  clear BK116
  clear HB
  have BK115 := n0_
  have BK116 := n1_
  have HB := n2_
  clear n0_ n1_ n2_
  refine start_ (n := 8) (S := fun w' => w'.cell? ⟨gb115, 0, none⟩ = some (.string a0_0) ∧ w'.cell? ⟨gb115, 1, none⟩ = some (.slice A0_1 l0_1.length c0_1)) (ds := []) #[false, false, false, false, false, false, false, false] (by kernel_rfl) rfl rfl ⟨(kc BK115.out 0).trans rfl, (kc BK115.out 1).trans rfl⟩ (fun hHeld => ?_); refine with_tabW spec_l10Copy.tab1 spec_l10Copy.bits1 (fun HT_ HW_ => ?_)
  generalize w4.drew = w5 at BK115 BK116 HB hHeld ⊢
  refine zA 0 (some 3) HT_.out rfl rfl ?_
  refine zA 3 (some 6) HT_.out rfl rfl ?_
  refine zT 1 (some 4) HT_.out HW_.out rfl rfl hHeld ?_
  refine zT 4 (some 7) HT_.out HW_.out rfl rfl hHeld ?_
  refine zO 2 (some 5) HT_.out rfl rfl (fun K hK => ?_)
  refine Kd.R_lit_step k49 _ 49 ?hg (N := 5) ?hd (xs := ([] : List (S49))) (inner := []) (ok := fun _ => True) (okp := fun _ => True) ?hr ?hp (fun _ hk => hk) trivial (Below.refl _ _) (Nat.le_refl _) (by simp) ?_; (case hd => rfl); (case hg => rfl); (case hr => first | (go_simp; done) | (go_simp; rfl)); (case hp => exact (Reps.none _ _))
  intro v118 w6 ho7 hb hg_ hnew_
  clear hg_ hnew_
  (first | rw [← Ny117.out] at ho7 | (simp only [Int.reduceToNat] at ho7; rw [← Ny117.out] at ho7))
  have n0_ := Am (Kd.R_lower ho7 (bz zG))
  have n1_ := Am (zK BK115 hb)
  have n2_ := Am (zK BK116 hb)
  have n3_ := Am (bq zG hb)
  clear BK115
  clear BK116
  clear HB
  have HO119 := n0_
  have BK115 := n1_
  have BK116 := n2_
  have HB := n3_
  clear n0_ n1_ n2_ n3_
  clear hb ho7
  refine hK.out _ _ ⟨(kc BK115.out 0).trans rfl, (kc BK115.out 1).trans rfl⟩ (fun hHeld => ?_)
  clear hK K
  refine zN (some 5) ?_
  refine zO 5 (some 8) HT_.out rfl rfl (fun K hK => ?_)
  refine Kd.R_append_rows_step k49 (w0 := w) w.heap.size (by rfl) (.tmp 5) (.tmp 7) 26 49 (.agg #[(.int .i64 0), (.string ⟨#[]⟩), (.bool false)]) 32 rfl Try.underlying26 info49 rfl (by decide) (by omega) v118 y117 l0_1 _ _ _ (fun _ => True) (fun _ => False) rfl rfl ?aO ?aR (fun _ _ h => h) (fun _ h => h.elim) ?aF ?aB ?aS ?aL ?_
  (case aR => repeat (first | exact (cb HR0_1.out HB.out) | (with_reducible first | refine ca ?_ _ | refine cn ?_ _ | refine ce ?_)))
  (case aB => exact zG)
  (case aF => exact (fun _ _ => trivial))
  (case aO => exact (by (with_reducible repeat (first | apply ra | apply rn | apply re)); exact HO119.out))
  (case aS => exact (bz zG))
  (case aL => have := LMc2.out; omega)
  intro v121 w8 ho hb hg hat
  rw [← Ny120.out] at ho
  have n0_ := Am (kg (g := gb115) (o := o3b0 a0_0 A0_1 l0_1.length c0_1) (by (with_reducible repeat (first | refine kn ?_ _ | refine ke ?_ | refine ka ?_ _)); exact BK115.out) hg (Kd.R_ne HO119.out BK115.out (by decide)))
  have n1_ := Am (kg (g := gb116) (o := .cells #[.string (⟨#[]⟩ : ByteArray), .slice none 0 0] 28 (0, 0)) (by (with_reducible repeat (first | refine kn ?_ _ | refine ke ?_ | refine ka ?_ _)); exact BK116.out) hg (Kd.R_ne HO119.out BK116.out (by decide)))
  have n2_ := Am (hb)
  have n3_ := Am (ho)
  clear BK115
  clear BK116
  clear HB
  clear HO119
  have BK115 := n0_
  have BK116 := n1_
  have HB := n2_
  have HO122 := n3_
  clear n0_ n1_ n2_ n3_
  clear ho hb hg hat
  obtain ⟨Ao9, co9, eo9⟩ := Kd.R_slice HO122.out
  (first | subst eo9 | (injection eo9 with f1_ f2_ f3_; have f4_ := f1_.symm; have f5_ := f3_.symm; clear f1_ f2_ f3_; subst f4_; subst f5_))
  refine hK.out _ _ ⟨(kc BK115.out 0).trans rfl, (kc BK115.out 1).trans rfl⟩ (fun hHeld => ?_)
  clear hK K
  refine zN (some 8) ?_
  refine zA 6 (some 9) HT_.out rfl rfl ?_
  refine zO 7 none HT_.out rfl rfl (fun K hK => ?_)
  have hs10 : w8.cell? ⟨gb116, 0, none⟩ = some (.string (⟨#[]⟩ : ByteArray)) := (kc BK116.out 0).trans rfl
  have hfs10 := kf BK116.out 0
  have hns10_0 := NB115_116.out
  have hms10_0 := NB116_115.out
  have hs11 : w8.cell? ⟨gb116, 1, none⟩ = some (.slice none 0 0) := (kc BK116.out 1).trans rfl
  have hfs11 := kf BK116.out 1
  have hns11_0 := NB115_116.out
  have hms11_0 := NB116_115.out
  refine skip_ (w1 := ?_) (by rfl) rfl ?_ ?_
  rotate_left
  ·go_simp
   rfl
  refine hK.out _ _ ⟨((cell_far (p := ⟨gb116, _, none⟩) NB115_116.out _).trans (((cell_far (p := ⟨gb116, _, none⟩) NB115_116.out _).trans (hHeld.1)))), ((cell_far (p := ⟨gb116, _, none⟩) NB115_116.out _).trans (((cell_far (p := ⟨gb116, _, none⟩) NB115_116.out _).trans (hHeld.2))))⟩ (fun hHeld => ?_)
  clear hK K
  refine done_ (done_of HT_.out (by kernel_rfl)) ?_
  try go_wp2
  refine bodyPost_ret (results_cell_row rfl _ _ gb116 28 #[.string a0_0, .slice Ao9 y120.length co9] (0, 0) _ rfl (by (with_reducible repeat (first | refine kn ?_ _ | refine ke ?_ | refine ka ?_ _)); refine kp (cs := #[.string a0_0, .slice none 0 0]) ?_ 1 _ rfl; (with_reducible repeat (first | refine kn ?_ _ | refine ke ?_ | refine ka ?_ _)); refine kp (cs := #[.string (⟨#[]⟩ : ByteArray), .slice none 0 0]) ?_ 0 _ rfl; (with_reducible repeat (first | refine kn ?_ _ | refine ke ?_ | refine ka ?_ _)); exact BK116.out) Try.underlying28 rfl (by kernel_rfl)) rfl ?_
  exact ⟨_, zR, by (with_reducible repeat (first | apply ra | apply rn | apply re)); exact Kd.R_mono (Kd.R_far (p := ⟨gb116, 1, none⟩) (Kd.R_far (p := ⟨gb116, 0, none⟩) (Kd.R_types HO122.out BK116.out (by decide)) (fun _ hk => hk.2) (.string a0_0)) (fun _ hk => hk.2) (.slice Ao9 y120.length co9)) (fun _ hk => trivial), zG⟩
 ·rw [if_neg c2] at H
  exact absurd H (by simp)

/-! ### spec_l10Keep: function 23 -/
def spec_l10Keep.f (a0 : ByteArray) (a1_0 : Int) (a1_1 : ByteArray) (a1_2 : Bool) : Option (ByteArray) := (spec_l10Size.f).bind fun t124 => (if 0 ≤ (wrap64 (a1_0 * t124)) then (if (wrap64 (a1_0 * t124)) ≤ (a0.size : Int) then (if (a0.extract 0 ((wrap64 (a1_0 * t124)) : Int).toNat).size + a1_1.size ≤ 9223372036854775807 then ((spec_l10Size.f).bind fun t125 => (if 0 ≤ (wrap64 ((wrap64 (a1_0 * t124)) + t125)) then (if (wrap64 ((wrap64 (a1_0 * t124)) + t125)) ≤ (a0.size : Int) then (if ((a0.extract 0 ((wrap64 (a1_0 * t124)) : Int).toNat) ++ a1_1).size + (a0.extract ((wrap64 ((wrap64 (a1_0 * t124)) + t125)) : Int).toNat a0.size).size ≤ 9223372036854775807 then (some (((a0.extract 0 ((wrap64 (a1_0 * t124)) : Int).toNat) ++ a1_1) ++ (a0.extract ((wrap64 ((wrap64 (a1_0 * t124)) + t125)) : Int).toNat a0.size))) else (none)) else (none)) else (none))) else (none)) else (none)) else (none))
set_option maxHeartbeats 8000000 in
set_option maxRecDepth 100000 in
theorem spec_l10Keep.calls (a0 : ByteArray) (a1_0 : Int) (a1_1 : ByteArray) (a1_2 : Bool) (r : ByteArray) (w : World) (h : spec_l10Keep.f a0 a1_0 a1_1 a1_2 = some r) :
  Calls Try.prog 23 #[.string a0, .agg #[.int .i64 a1_0, .string a1_1, .bool a1_2]] w fun e w' => e = .returned (.string r) ∧ Below w.heap.size w w' := by
 have hu49 := Try.underlying49
 have HB := Am (Below.refl w.heap.size w)
 have H : ((spec_l10Size.f).bind fun t124 => (if 0 ≤ (wrap64 (a1_0 * t124)) then (if (wrap64 (a1_0 * t124)) ≤ (a0.size : Int) then (if (a0.extract 0 ((wrap64 (a1_0 * t124)) : Int).toNat).size + a1_1.size ≤ 9223372036854775807 then ((spec_l10Size.f).bind fun t125 => (if 0 ≤ (wrap64 ((wrap64 (a1_0 * t124)) + t125)) then (if (wrap64 ((wrap64 (a1_0 * t124)) + t125)) ≤ (a0.size : Int) then (if ((a0.extract 0 ((wrap64 (a1_0 * t124)) : Int).toNat) ++ a1_1).size + (a0.extract ((wrap64 ((wrap64 (a1_0 * t124)) + t125)) : Int).toNat a0.size).size ≤ 9223372036854775807 then (some (((a0.extract 0 ((wrap64 (a1_0 * t124)) : Int).toNat) ++ a1_1) ++ (a0.extract ((wrap64 ((wrap64 (a1_0 * t124)) + t125)) : Int).toNat a0.size))) else (none)) else (none)) else (none))) else (none)) else (none)) else (none))) = some r := h
 clear h
 replace H := Option.bind_eq_some_iff.mp H
 obtain ⟨t124, A30, H⟩ := H
 obtain rfl : (16 : Int) = t124 := Option.some.inj (show some (16 : Int) = some t124 from A30)
 replace H : (if 0 ≤ (wrap64 (a1_0 * (16 : Int))) then (if (wrap64 (a1_0 * (16 : Int))) ≤ (a0.size : Int) then (if (a0.extract 0 ((wrap64 (a1_0 * (16 : Int))) : Int).toNat).size + a1_1.size ≤ 9223372036854775807 then ((spec_l10Size.f).bind fun t125 => (if 0 ≤ (wrap64 ((wrap64 (a1_0 * (16 : Int))) + t125)) then (if (wrap64 ((wrap64 (a1_0 * (16 : Int))) + t125)) ≤ (a0.size : Int) then (if ((a0.extract 0 ((wrap64 (a1_0 * (16 : Int))) : Int).toNat) ++ a1_1).size + (a0.extract ((wrap64 ((wrap64 (a1_0 * (16 : Int))) + t125)) : Int).toNat a0.size).size ≤ 9223372036854775807 then (some (((a0.extract 0 ((wrap64 (a1_0 * (16 : Int))) : Int).toNat) ++ a1_1) ++ (a0.extract ((wrap64 ((wrap64 (a1_0 * (16 : Int))) + t125)) : Int).toNat a0.size))) else (none)) else (none)) else (none))) else (none)) else (none)) else (none)) = some r := H
 have A3 := Am A30
 clear A30
 obtain ⟨ji4, hji4⟩ : ∃ j_ : Int, (wrap64 (a1_0 * (16 : Int))) = j_ := ⟨_, rfl⟩
 replace H : (if 0 ≤ (ji4) then (if (ji4) ≤ (a0.size : Int) then (if (a0.extract 0 ((ji4) : Int).toNat).size + a1_1.size ≤ 9223372036854775807 then ((spec_l10Size.f).bind fun t125 => (if 0 ≤ (wrap64 ((ji4) + t125)) then (if (wrap64 ((ji4) + t125)) ≤ (a0.size : Int) then (if ((a0.extract 0 ((ji4) : Int).toNat) ++ a1_1).size + (a0.extract ((wrap64 ((ji4) + t125)) : Int).toNat a0.size).size ≤ 9223372036854775807 then (some (((a0.extract 0 ((ji4) : Int).toNat) ++ a1_1) ++ (a0.extract ((wrap64 ((ji4) + t125)) : Int).toNat a0.size))) else (none)) else (none)) else (none))) else (none)) else (none)) else (none)) = some r := by first | (rw [hji4] at H; exact H) | (simp only [hji4] at H ⊢; exact H)
 (try rw [hji4] at A3)
 have hji4w : (IntKind.i64.wrap (a1_0 * (16 : Int))) = ji4 := (i64_w _).trans hji4
 by_cases c5 : 0 ≤ (ji4)
 ·rw [if_pos c5] at H
  have c5b0 := eq_true c5
  have c5b1 : decide (0 ≤ (ji4)) = true := decide_eq_true c5
  clear c5
  by_cases c6 : (ji4) ≤ (a0.size : Int)
  ·rw [if_pos c6] at H
   have c6b0 := eq_true c6
   have c6b1 : decide ((ji4) ≤ (a0.size : Int)) = true := decide_eq_true c6
   clear c6
   by_cases c7 : (a0.extract 0 ((ji4) : Int).toNat).size + a1_1.size ≤ 9223372036854775807
   ·rw [if_pos c7] at H
    have c7b0 := eq_true c7
    have c7b1 : decide ((a0.extract 0 ((ji4) : Int).toNat).size + a1_1.size ≤ 9223372036854775807) = true := decide_eq_true c7
    try have c7b2 : (9223372036854775807 < (a0.extract 0 ((ji4) : Int).toNat).size + a1_1.size) = False := eq_false (Nat.not_lt.2 c7)
    try (have c7b3 := c7b2; simp only [ByteArray.size_extract, Nat.sub_zero] at c7b3)
    try have c7b5 : (9223372036854775807 < ji4.toNat + a1_1.size) = False := eq_false (by have h_ := c7b2; (try have q0_ := of_decide_eq_true c5b1); (try have q1_ := of_decide_eq_true c6b1); (try have q2_ := of_decide_eq_true c7b1); simp only [ByteArray.size_append, ByteArray.size_extract, eq_iff_iff, iff_false] at h_; omega)
    try clear c7
    replace H := Option.bind_eq_some_iff.mp H
    obtain ⟨t125, A80, H⟩ := H
    obtain rfl : (16 : Int) = t125 := Option.some.inj (show some (16 : Int) = some t125 from A80)
    replace H : (if 0 ≤ (wrap64 ((ji4) + (16 : Int))) then (if (wrap64 ((ji4) + (16 : Int))) ≤ (a0.size : Int) then (if ((a0.extract 0 ((ji4) : Int).toNat) ++ a1_1).size + (a0.extract ((wrap64 ((ji4) + (16 : Int))) : Int).toNat a0.size).size ≤ 9223372036854775807 then (some (((a0.extract 0 ((ji4) : Int).toNat) ++ a1_1) ++ (a0.extract ((wrap64 ((ji4) + (16 : Int))) : Int).toNat a0.size))) else (none)) else (none)) else (none)) = some r := H
    have A8 := Am A80
    clear A80
    obtain ⟨ji9, hji9⟩ : ∃ j_ : Int, (wrap64 ((ji4) + (16 : Int))) = j_ := ⟨_, rfl⟩
    replace H : (if 0 ≤ (ji9) then (if (ji9) ≤ (a0.size : Int) then (if ((a0.extract 0 ((ji4) : Int).toNat) ++ a1_1).size + (a0.extract ((ji9) : Int).toNat a0.size).size ≤ 9223372036854775807 then (some (((a0.extract 0 ((ji4) : Int).toNat) ++ a1_1) ++ (a0.extract ((ji9) : Int).toNat a0.size))) else (none)) else (none)) else (none)) = some r := by first | (rw [hji9] at H; exact H) | (simp only [hji9] at H ⊢; exact H)
    (try rw [hji9] at A3)
    (try rw [hji9] at A8)
    have hji9w : (IntKind.i64.wrap ((ji4) + (16 : Int))) = ji9 := (i64_w _).trans hji9
    by_cases c10 : 0 ≤ (ji9)
    ·rw [if_pos c10] at H
     have c10b0 := eq_true c10
     have c10b1 : decide (0 ≤ (ji9)) = true := decide_eq_true c10
     clear c10
     by_cases c11 : (ji9) ≤ (a0.size : Int)
     ·rw [if_pos c11] at H
      have c11b0 := eq_true c11
      have c11b1 : decide ((ji9) ≤ (a0.size : Int)) = true := decide_eq_true c11
      clear c11
      by_cases c12 : ((a0.extract 0 ((ji4) : Int).toNat) ++ a1_1).size + (a0.extract ((ji9) : Int).toNat a0.size).size ≤ 9223372036854775807
      ·rw [if_pos c12] at H
       have c12b0 := eq_true c12
       have c12b1 : decide (((a0.extract 0 ((ji4) : Int).toNat) ++ a1_1).size + (a0.extract ((ji9) : Int).toNat a0.size).size ≤ 9223372036854775807) = true := decide_eq_true c12
       try have c12b2 : (9223372036854775807 < ((a0.extract 0 ((ji4) : Int).toNat) ++ a1_1).size + (a0.extract ((ji9) : Int).toNat a0.size).size) = False := eq_false (Nat.not_lt.2 c12)
       try (have c12b3 := c12b2; simp only [ByteArray.size_extract, Nat.sub_zero] at c12b3)
       try (have c12b4 := c12b2; simp only [ByteArray.size_append] at c12b4)
       try have c12b5 : (9223372036854775807 < ji4.toNat + a1_1.size + (a0.size - ji9.toNat)) = False := eq_false (by have h_ := c12b2; (try have q0_ := of_decide_eq_true c5b1); (try have q1_ := of_decide_eq_true c6b1); (try have q2_ := of_decide_eq_true c7b1); (try have q3_ := of_decide_eq_true c10b1); (try have q4_ := of_decide_eq_true c11b1); (try have q5_ := of_decide_eq_true c12b1); simp only [ByteArray.size_append, ByteArray.size_extract, eq_iff_iff, iff_false] at h_; omega)
       try clear c12
       obtain rfl := Option.some.inj H
       go_enter Try.func23, Try.ntmps23
       go_wp2_with (first | ((with_reducible refine gate_dst (N := 3) rfl ?_); refine box_event ?hg (N := 3) ?hd (cs := #[.int .i64 a1_0, .string a1_1, .bool a1_2]) (t := 49) ?hr ?_; (case hd => rfl); (case hg => rfl); (case hr => first | (go_simp; done) | (go_simp; rfl)); intro gb123 hg w13 hbox hb; have BK123 := Am (hbox); have GW123 := Am ((by rw [hg]; exact (bz zB) : w.heap.size ≤ gb123)); have GE123 := Am ((by rw [hg]; exact (bz zB) : w.heap.size ≤ gb123)); replace HB := Am (bq zB hb); clear hb hbox hg; obtain ⟨hcz14_0, hcz14_1, hcz14_2⟩ := kc3 (w := w13) BK123.out; have hfz14_0 := kf BK123.out) | (go_at_call 35; (with_reducible refine (spec_l10Size.calls  (16 : Int) _ A3.out).mono ?_); rintro e w' ⟨rfl, ⟨nd, rfl⟩⟩; (try first | exact ⟨rfl, _, World.drewN_drewN _ _ _⟩ | exact ⟨rfl, _, Eq.trans (World.drewN_drewN _ _ _) (congrArg (World.drewN _) (Nat.add_assoc _ _ _))⟩)) | (go_at_call 35; (with_reducible refine (spec_l10Size.calls  (16 : Int) _ A8.out).mono ?_); rintro e w' ⟨rfl, ⟨nd, rfl⟩⟩; (try first | exact ⟨rfl, _, World.drewN_drewN _ _ _⟩ | exact ⟨rfl, _, Eq.trans (World.drewN_drewN _ _ _) (congrArg (World.drewN _) (Nat.add_assoc _ _ _))⟩)))
       repeat (go_quiet (first | ((with_reducible refine gate_dst (N := 3) rfl ?_); refine box_event ?hg (N := 3) ?hd (cs := #[.int .i64 a1_0, .string a1_1, .bool a1_2]) (t := 49) ?hr ?_; (case hd => rfl); (case hg => rfl); (case hr => first | (go_simp; done) | (go_simp; rfl)); intro gb123 hg w13 hbox hb; have BK123 := Am (hbox); have GW123 := Am ((by rw [hg]; exact (bz zB) : w.heap.size ≤ gb123)); have GE123 := Am ((by rw [hg]; exact (bz zB) : w.heap.size ≤ gb123)); replace HB := Am (bq zB hb); clear hb hbox hg; obtain ⟨hcz14_0, hcz14_1, hcz14_2⟩ := kc3 (w := w13) BK123.out; have hfz14_0 := kf BK123.out) | (go_at_call 35; (with_reducible refine (spec_l10Size.calls  (16 : Int) _ A3.out).mono ?_); rintro e w' ⟨rfl, ⟨nd, rfl⟩⟩; (try first | exact ⟨rfl, _, World.drewN_drewN _ _ _⟩ | exact ⟨rfl, _, Eq.trans (World.drewN_drewN _ _ _) (congrArg (World.drewN _) (Nat.add_assoc _ _ _))⟩)) | (go_at_call 35; (with_reducible refine (spec_l10Size.calls  (16 : Int) _ A8.out).mono ?_); rintro e w' ⟨rfl, ⟨nd, rfl⟩⟩; (try first | exact ⟨rfl, _, World.drewN_drewN _ _ _⟩ | exact ⟨rfl, _, Eq.trans (World.drewN_drewN _ _ _) (congrArg (World.drewN _) (Nat.add_assoc _ _ _))⟩))); try go_wp2_with (first | ((with_reducible refine gate_dst (N := 3) rfl ?_); refine box_event ?hg (N := 3) ?hd (cs := #[.int .i64 a1_0, .string a1_1, .bool a1_2]) (t := 49) ?hr ?_; (case hd => rfl); (case hg => rfl); (case hr => first | (go_simp; done) | (go_simp; rfl)); intro gb123 hg w13 hbox hb; have BK123 := Am (hbox); have GW123 := Am ((by rw [hg]; exact (bz zB) : w.heap.size ≤ gb123)); have GE123 := Am ((by rw [hg]; exact (bz zB) : w.heap.size ≤ gb123)); replace HB := Am (bq zB hb); clear hb hbox hg; obtain ⟨hcz14_0, hcz14_1, hcz14_2⟩ := kc3 (w := w13) BK123.out; have hfz14_0 := kf BK123.out) | (go_at_call 35; (with_reducible refine (spec_l10Size.calls  (16 : Int) _ A3.out).mono ?_); rintro e w' ⟨rfl, ⟨nd, rfl⟩⟩; (try first | exact ⟨rfl, _, World.drewN_drewN _ _ _⟩ | exact ⟨rfl, _, Eq.trans (World.drewN_drewN _ _ _) (congrArg (World.drewN _) (Nat.add_assoc _ _ _))⟩)) | (go_at_call 35; (with_reducible refine (spec_l10Size.calls  (16 : Int) _ A8.out).mono ?_); rintro e w' ⟨rfl, ⟨nd, rfl⟩⟩; (try first | exact ⟨rfl, _, World.drewN_drewN _ _ _⟩ | exact ⟨rfl, _, Eq.trans (World.drewN_drewN _ _ _) (congrArg (World.drewN _) (Nat.add_assoc _ _ _))⟩))))
       go_ret
       exact ⟨by first | rfl | (simp [errW_none, errW_some] <;> rfl) | (simp only [← hji4, ← hji9]; first | rfl | (simp [errW_none, errW_some] <;> rfl)) | (simp [*, errW_none, errW_some] <;> rfl), zG⟩
      ·rw [if_neg c12] at H
       exact absurd H (by simp)
     ·rw [if_neg c11] at H
      exact absurd H (by simp)
    ·rw [if_neg c10] at H
     exact absurd H (by simp)
   ·rw [if_neg c7] at H
    exact absurd H (by simp)
  ·rw [if_neg c6] at H
   exact absurd H (by simp)
 ·rw [if_neg c5] at H
  exact absurd H (by simp)

/-! ### spec_FallenMemory: function 6 -/
mutual
def spec_FallenMemory.j0 : Nat → Int → Bool → ByteArray → List (S49) → Option (ByteArray × (List (S49)))
 | 0, _, _, _, _ => none
 | k + 1, x1, x13, x127000, x127001 => if x13 = true then ((spec_l10Copy.f x127000 x127001).bind fun bt129 => (some (bt129.1, bt129.2))) else (spec_FallenMemory.l0 k x1 0 x127000 x127001 x127000)
def spec_FallenMemory.l0 : Nat → Int → Int → ByteArray → List (S49) → ByteArray → Option (ByteArray × (List (S49)))
 | 0, _, _, _, _, _ => none
 | k + 1, x1, x6, x127000, x127001, x134000 => if x6 < (x127001.length : Int) then (spec_FallenMemory.j2 k x1 x6 (decide (x6 < 63)) x127000 x127001 x134000) else (spec_FallenMemory.j2 k x1 x6 false x127000 x127001 x134000)
def spec_FallenMemory.j2 : Nat → Int → Int → Bool → ByteArray → List (S49) → ByteArray → Option (ByteArray × (List (S49)))
 | 0, _, _, _, _, _, _ => none
 | k + 1, x1, x6, x27, x127000, x127001, x134000 => if x27 = true then (if 0 ≤ (IntKind.u64.wrap (x6)) then (if (Go.bits .and .i64 (shr .i64 x1 (IntKind.u64.wrap (x6))) 1) = 1 then (if 0 ≤ x6 then (if x6 < (x127001.length : Int) then ((spec_l10Keep.f x134000 ((rd_T49 x127001 x6).f0) ((rd_T49 x127001 x6).f1) ((rd_T49 x127001 x6).f2)).bind fun t135 => (spec_FallenMemory.l0 k x1 (wrap64 (x6 + 1)) x127000 x127001 t135)) else (none)) else (none)) else (spec_FallenMemory.l0 k x1 (wrap64 (x6 + 1)) x127000 x127001 x134000)) else (none)) else (some (x134000, ([] : List (S49))))
end
def spec_FallenMemory.f (k : Nat) (a0_0 : ByteArray) (l0_1 : List (S49)) (a1 : Int) : Option (ByteArray × (List (S49))) := (spec_MemoryOk.f k a0_0 l0_1).bind fun t128 => (if t128 = true then (spec_FallenMemory.j0 k a1 (decide (a1 < 0)) a0_0 l0_1) else (spec_FallenMemory.j0 k a1 true a0_0 l0_1))
theorem spec_FallenMemory.mono_l : ∀ k, (∀ y0 y1 y2 y3, LeO (spec_FallenMemory.j0 k y0 y1 y2 y3) (spec_FallenMemory.j0 (k + 1) y0 y1 y2 y3)) ∧ (∀ y0 y1 y2 y3 y4, LeO (spec_FallenMemory.l0 k y0 y1 y2 y3 y4) (spec_FallenMemory.l0 (k + 1) y0 y1 y2 y3 y4)) ∧ (∀ y0 y1 y2 y3 y4 y5, LeO (spec_FallenMemory.j2 k y0 y1 y2 y3 y4 y5) (spec_FallenMemory.j2 (k + 1) y0 y1 y2 y3 y4 y5))
 | 0 => ⟨fun _ _ _ _ r h => by simp [spec_FallenMemory.j0] at h, fun _ _ _ _ _ r h => by simp [spec_FallenMemory.l0] at h, fun _ _ _ _ _ _ r h => by simp [spec_FallenMemory.j2] at h⟩
 | k + 1 => by
  obtain ⟨ih0, ih1, ih2⟩ := spec_FallenMemory.mono_l k
  refine ⟨?_, ?_, ?_⟩
  ·intro y0 y1 y2 y3
   unfold spec_FallenMemory.j0
   repeat' first
   | (with_reducible exact ih0 _ _ _ _)
   | (with_reducible exact ih1 _ _ _ _ _)
   | (with_reducible exact ih2 _ _ _ _ _ _)
   | (with_reducible exact spec_MemoryOk.mono _ _ _)
   | (with_reducible exact LeO.refl _)
   | (with_reducible exact LeO.none _)
   | (with_reducible refine LeO.ite ?_ ?_)
   | (with_reducible refine LeO.bind ?_ (fun _ => ?_))
   | exact ih0 _ _ _ _
   | exact ih1 _ _ _ _ _
   | exact ih2 _ _ _ _ _ _
   | exact spec_MemoryOk.mono _ _ _
   | exact LeO.none _
   | refine LeO.ite ?_ ?_
   | refine LeO.bind ?_ (fun _ => ?_)
  ·intro y0 y1 y2 y3 y4
   unfold spec_FallenMemory.l0
   repeat' first
   | (with_reducible exact ih0 _ _ _ _)
   | (with_reducible exact ih1 _ _ _ _ _)
   | (with_reducible exact ih2 _ _ _ _ _ _)
   | (with_reducible exact spec_MemoryOk.mono _ _ _)
   | (with_reducible exact LeO.refl _)
   | (with_reducible exact LeO.none _)
   | (with_reducible refine LeO.ite ?_ ?_)
   | (with_reducible refine LeO.bind ?_ (fun _ => ?_))
   | exact ih0 _ _ _ _
   | exact ih1 _ _ _ _ _
   | exact ih2 _ _ _ _ _ _
   | exact spec_MemoryOk.mono _ _ _
   | exact LeO.none _
   | refine LeO.ite ?_ ?_
   | refine LeO.bind ?_ (fun _ => ?_)
  ·intro y0 y1 y2 y3 y4 y5
   unfold spec_FallenMemory.j2
   repeat' first
   | (with_reducible exact ih0 _ _ _ _)
   | (with_reducible exact ih1 _ _ _ _ _)
   | (with_reducible exact ih2 _ _ _ _ _ _)
   | (with_reducible exact spec_MemoryOk.mono _ _ _)
   | (with_reducible exact LeO.refl _)
   | (with_reducible exact LeO.none _)
   | (with_reducible refine LeO.ite ?_ ?_)
   | (with_reducible refine LeO.bind ?_ (fun _ => ?_))
   | exact ih0 _ _ _ _
   | exact ih1 _ _ _ _ _
   | exact ih2 _ _ _ _ _ _
   | exact spec_MemoryOk.mono _ _ _
   | exact LeO.none _
   | refine LeO.ite ?_ ?_
   | refine LeO.bind ?_ (fun _ => ?_)
theorem spec_FallenMemory.mono : ∀ a0 a1 a2 k, LeO (spec_FallenMemory.f k a0 a1 a2) (spec_FallenMemory.f (k + 1) a0 a1 a2) := by
 intro a0 a1 a2 k
 obtain ⟨ih0, ih1, ih2⟩ := spec_FallenMemory.mono_l k
 unfold spec_FallenMemory.f
 repeat' first
   | (with_reducible exact ih0 _ _ _ _)
   | (with_reducible exact ih1 _ _ _ _ _)
   | (with_reducible exact ih2 _ _ _ _ _ _)
   | (with_reducible exact spec_MemoryOk.mono _ _ _)
   | (with_reducible exact LeO.refl _)
   | (with_reducible exact LeO.none _)
   | (with_reducible refine LeO.ite ?_ ?_)
   | (with_reducible refine LeO.bind ?_ (fun _ => ?_))
   | exact ih0 _ _ _ _
   | exact ih1 _ _ _ _ _
   | exact ih2 _ _ _ _ _ _
   | exact spec_MemoryOk.mono _ _ _
   | exact LeO.none _
   | refine LeO.ite ?_ ?_
   | refine LeO.bind ?_ (fun _ => ?_)
def spec_FallenMemory.T8 : Bool × List (List Nat × List Nat) := (true, [([], []), ([0], [0]), ([], []), ([2], [2]), ([], []), ([3, 4], [3, 4]), ([5], [5]), ([1, 6], [1, 6]), ([0, 1, 2, 3, 4, 5, 6, 7], []), ([8, 7, 7, 0, 1, 2, 3, 4, 5, 6, 7], [7, 8])])
def spec_FallenMemory.B8 : List Nat := [0, 1, 0, 4, 0, 28, 60, 127, 255, 511]
theorem spec_FallenMemory.tab8 : rtab .any (opsOf Try.f6 8) = spec_FallenMemory.T8 := by kernel_rfl
theorem spec_FallenMemory.bits8 : waitsOk spec_FallenMemory.T8.2 spec_FallenMemory.B8 = true := by kernel_rfl
set_option maxHeartbeats 8000000 in
set_option maxRecDepth 100000 in
theorem spec_FallenMemory.calls (k : Nat) (a0_0 : ByteArray) (A0_1 : Option Addr) (c0_1 : Nat) (l0_1 : List (S49)) (a1 : Int) (r1 : ByteArray) (r2 : List (S49)) (w : World) (hr0_1 : Kd.C k49 w A0_1 l0_1.length l0_1) (hc0_1 : l0_1.length ≤ c0_1) (h : spec_FallenMemory.f k a0_0 l0_1 a1 = some (r1, r2)) :
  Calls Try.prog 6 #[.agg #[.string a0_0, .slice A0_1 l0_1.length c0_1], .int .i64 a1] w fun e w' => ∃ v1_ : Value, e = .returned (.agg #[.string r1, v1_]) ∧ Kd.R k49 49 w' w.heap.size (fun _ => True) v1_ r2 ∧ Below w.heap.size w w' := by
 have hu28 := Try.underlying28
 have hu49 := Try.underlying49
 have HR0_1 := Am hr0_1
 have HC0_1 := Am hc0_1
 clear hr0_1 hc0_1
 have HB := Am (Below.refl w.heap.size w)
 have H : ((spec_MemoryOk.f k a0_0 l0_1).bind fun t128 => (if t128 = true then (spec_FallenMemory.j0 k a1 (decide (a1 < 0)) a0_0 l0_1) else (spec_FallenMemory.j0 k a1 true a0_0 l0_1))) = some (r1, r2) := h
 clear h
 have HC3 := Am H
 clear H
 go_enter Try.func6, Try.ntmps6
 go_upto_region 1 with (first | ((with_reducible refine gate_dst (N := 2) rfl ?_); refine box_event ?hg (N := 2) ?hd (cs := #[.string a0_0, .slice A0_1 l0_1.length c0_1]) (t := 28) ?hr ?_; (case hd => rfl); (case hg => rfl); (case hr => first | (go_simp; done) | (go_simp; rfl)); intro gb126 hg w4 hbox hb; have BK126 := Am (hbox); have GW126 := Am ((by rw [hg]; exact (bz zB) : w.heap.size ≤ gb126)); have GE126 := Am ((by rw [hg]; exact (bz zB) : w.heap.size ≤ gb126)); replace HB := Am (bq zB hb); clear hb hbox hg) | ((with_reducible refine gate_dst (N := 4) rfl ?_); refine box_event ?hg (N := 4) ?hd (cs := #[.string (⟨#[]⟩ : ByteArray), .slice none 0 0]) (t := 28) ?hr ?_; (case hd => rfl); (case hg => rfl); (case hr => first | (go_simp; done) | (go_simp; rfl)); intro gb127 hg w5 hbox hb; have n0_ := Am (zK BK126 hb); have n1_ := Am (bq zG hb); have n2_ := Am (hbox); have n3_ := Am ((by rw [hg]; exact (bz zG) : w.heap.size ≤ gb127)); have n4_ := Am ((by rw [hg]; exact (bz zG) : w.heap.size ≤ gb127)); have n5_ := Am ((by rw [hg]; exact Nat.ne_of_lt (zL BK126) : gb126 ≠ gb127)); have n6_ := Am ((by rw [hg]; exact Nat.ne_of_gt (zL BK126) : gb127 ≠ gb126)); clear BK126; clear HB; have BK126 := n0_; have HB := n1_; have BK127 := n2_; have GW127 := n3_; have GE127 := n4_; have NB126_127 := n5_; have NB127_126 := n6_; clear n0_ n1_ n2_ n3_ n4_ n5_ n6_; clear hb hbox hg))
 (try simp only [Act.put, List.setIfInBounds_toArray, List.set_cons_zero, List.set_cons_succ])
 go_cut [13] (fun v13 wc => ∃ (kq : Nat) (x13_2 : Bool), v13 = .bool x13_2 ∧ Aside0 (spec_FallenMemory.j0 kq a1 x13_2 a0_0 l0_1 = some (r1, r2)) ∧ Aside0 (kq ≤ k) ∧ Aside0 (wc.heap[gb126]? = some (.cells #[.string a0_0, (.slice A0_1 l0_1.length c0_1)] 28 (0, 0))) ∧ Aside0 (wc.heap[gb127]? = some (.cells #[.string (⟨#[]⟩ : ByteArray), (.slice none 0 0)] 28 (0, 0))) ∧ Aside0 (Below w.heap.size w wc))
 case first =>
  have H := HC3.out
  clear HC3
  replace H := Option.bind_eq_some_iff.mp H
  obtain ⟨t128, A60, H⟩ := H
  replace H : (if t128 = true then (spec_FallenMemory.j0 k a1 (decide (a1 < 0)) a0_0 l0_1) else (spec_FallenMemory.j0 k a1 true a0_0 l0_1)) = some (r1, r2) := H
  have A6 := Am A60
  clear A60
  by_cases c7 : t128 = true
  ·subst c7
   have H1 : (spec_FallenMemory.j0 k a1 (decide (a1 < 0)) a0_0 l0_1) = some (r1, r2) := by rw [if_pos rfl] at H; exact H
   clear H
   have H := H1
   clear H1
   have H' := Am H
   clear H
   have hnb8 := NB126_127.out
   have hnc8 := NB127_126.out
   obtain ⟨hcz9_0, hcz9_1⟩ := kc2 (w := w5) BK126.out
   have hfz9_0 := kf BK126.out
   go_wp2_with (first | ((with_reducible refine gate_callee (f := 15) rfl ?_); refine zC (some 8) rfl rfl Try.func15 rfl #[.agg #[.string a0_0, .slice A0_1 l0_1.length c0_1]] rfl ?_; (with_reducible refine (spec_MemoryOk.calls k a0_0 _ _ l0_1 true _ ?side1 ?side2 A6.out).mono ?_); (case side1 => repeat (first | exact (cb HR0_1.out HB.out) | (with_reducible first | refine ca ?_ _ | refine cn ?_ _ | refine ce ?_))); (case side2 => exact HC0_1.out); rintro e w10 ⟨rfl, hb⟩; refine ⟨_, rfl, ?_⟩; have n0_ := Am (zK BK126 hb); have n1_ := Am (zK BK127 hb); have n2_ := Am (bq zG hb); clear BK126; clear BK127; clear HB; have BK126 := n0_; have BK127 := n1_; have HB := n2_; clear n0_ n1_ n2_; (try clear hb)))
   go_meet
   case rel => exact ⟨_, (decide (a1 < 0)), (by first | rfl | (simp; done) | (simp [*]; done)), H', ⟨by first | omega | exact Nat.le_refl _⟩, ⟨by (with_reducible repeat (first | refine kn ?_ _ | refine ke ?_ | refine ka ?_ _)); exact BK126.out⟩, ⟨by (with_reducible repeat (first | refine kn ?_ _ | refine ke ?_ | refine ka ?_ _)); exact BK127.out⟩, ⟨zG⟩⟩
  ·replace c7 := Bool.eq_false_iff.mpr c7
   subst c7
   have H1 : (spec_FallenMemory.j0 k a1 true a0_0 l0_1) = some (r1, r2) := by rw [if_neg (show ¬ (false = true) by decide)] at H; exact H
   clear H
   have H := H1
   clear H1
   have H' := Am H
   clear H
   have hnb11 := NB126_127.out
   have hnc11 := NB127_126.out
   obtain ⟨hcz12_0, hcz12_1⟩ := kc2 (w := w5) BK126.out
   have hfz12_0 := kf BK126.out
   go_wp2_with (first | ((with_reducible refine gate_callee (f := 15) rfl ?_); refine zC (some 8) rfl rfl Try.func15 rfl #[.agg #[.string a0_0, .slice A0_1 l0_1.length c0_1]] rfl ?_; (with_reducible refine (spec_MemoryOk.calls k a0_0 _ _ l0_1 false _ ?side1 ?side2 A6.out).mono ?_); (case side1 => repeat (first | exact (cb HR0_1.out HB.out) | (with_reducible first | refine ca ?_ _ | refine cn ?_ _ | refine ce ?_))); (case side2 => exact HC0_1.out); rintro e w13 ⟨rfl, hb⟩; refine ⟨_, rfl, ?_⟩; have n0_ := Am (zK BK126 hb); have n1_ := Am (zK BK127 hb); have n2_ := Am (bq zG hb); clear BK126; clear BK127; clear HB; have BK126 := n0_; have BK127 := n1_; have HB := n2_; clear n0_ n1_ n2_; (try clear hb)))
   go_meet
   case rel => exact ⟨_, (true), (by first | rfl | (simp; done) | (simp [*]; done)), H', ⟨by first | omega | exact Nat.le_refl _⟩, ⟨by (with_reducible repeat (first | refine kn ?_ _ | refine ke ?_ | refine ka ?_ _)); exact BK126.out⟩, ⟨by (with_reducible repeat (first | refine kn ?_ _ | refine ke ?_ | refine ka ?_ _)); exact BK127.out⟩, ⟨zG⟩⟩
 case rest =>
  clear HC3
  try clear c1; try clear p2; try clear c6; try clear c7; try clear c8; try clear c11; try clear hcz12_0; try clear hcz12_1; try clear hcz9_0; try clear hcz9_1; try clear hfz12_0; try clear hfz12_1; try clear hfz9_0; try clear hfz9_1
  obtain ⟨kq, x13_2, rfl, HA, HJ2, BK126, BK127, HB⟩ := hcut
  cases kq with
  | zero => exact absurd HA.out (by simp [spec_FallenMemory.j0])
  | succ kj2 =>
   have H := HA.out
   clear HA
   simp only [spec_FallenMemory.j0] at H
   by_cases c14 : x13_2 = true
   ·subst c14
    have H1 : ((spec_l10Copy.f a0_0 l0_1).bind fun bt129 => (some (bt129.1, bt129.2))) = some (r1, r2) := by rw [if_pos rfl] at H; exact H
    clear H
    have H := H1
    clear H1
    replace H := Option.bind_eq_some_iff.mp H
    obtain ⟨⟨t129, t130⟩, A150, H⟩ := H
    replace H : (some (t129, t130)) = some (r1, r2) := H
    have A15 := Am A150
    clear A150
    simp only [Option.some.injEq, Prod.mk.injEq] at H
    obtain ⟨rfl, rfl⟩ := H
    have hnb16 := NB126_127.out
    have hnc16 := NB127_126.out
    obtain ⟨hcz17_0, hcz17_1⟩ := kc2 (w := wc) BK126.out
    have hfz17_0 := kf BK126.out
    go_wp2_with (first | ((with_reducible refine gate_callee (f := 22) rfl ?_); refine zC (some 15) rfl rfl Try.func22 rfl #[.agg #[.string a0_0, .slice A0_1 l0_1.length c0_1]] rfl ?_; (with_reducible refine (spec_l10Copy.calls a0_0 _ _ l0_1 t129 t130 _ ?side1 ?side2 A15.out).mono ?_); (case side1 => repeat (first | exact (cb HR0_1.out HB.out) | (with_reducible first | refine ca ?_ _ | refine cn ?_ _ | refine ce ?_))); (case side2 => exact HC0_1.out); rintro e w18 ⟨v131, rfl, ho0, hb⟩; refine ⟨_, rfl, ?_⟩; have n0_ := Am (Kd.R_lower ho0 (bz zG)); have n1_ := Am (zK BK126 hb); have n2_ := Am (zK BK127 hb); have n3_ := Am (bq zG hb); clear BK126; clear BK127; clear HB; have HO132 := n0_; have BK126 := n1_; have BK127 := n2_; have HB := n3_; clear n0_ n1_ n2_ n3_; (try clear hb ho0); obtain ⟨hcz19_0, hcz19_1⟩ := kc2 (w := w18) BK127.out; have hfz19_0 := kf BK127.out; obtain ⟨Ao20, co20, eo20⟩ := Kd.R_slice HO132.out; subst eo20))
    refine bodyPost_ret (results_cell_row rfl _ _ gb127 28 #[.string t129, .slice Ao20 t130.length co20] (0, 0) _ rfl (by (with_reducible repeat (first | refine kn ?_ _ | refine ke ?_ | refine ka ?_ _)); refine kp (cs := #[.string t129, .slice none 0 0]) ?_ 1 _ rfl; (with_reducible repeat (first | refine kn ?_ _ | refine ke ?_ | refine ka ?_ _)); refine kp (cs := #[.string (⟨#[]⟩ : ByteArray), .slice none 0 0]) ?_ 0 _ rfl; (with_reducible repeat (first | refine kn ?_ _ | refine ke ?_ | refine ka ?_ _)); exact BK127.out) Try.underlying28 rfl (by kernel_rfl)) rfl ?_
    exact ⟨_, zR, by (with_reducible repeat (first | apply ra | apply rn | apply re)); exact Kd.R_mono (Kd.R_far (p := ⟨gb127, 1, none⟩) (Kd.R_far (p := ⟨gb127, 0, none⟩) (Kd.R_types HO132.out BK127.out (by decide)) (fun _ hk => hk.2) (.string t129)) (fun _ hk => hk.2) (.slice Ao20 t130.length co20)) (fun _ hk => trivial), zG⟩
   ·replace c14 := Bool.eq_false_iff.mpr c14
    subst c14
    have H1 : (spec_FallenMemory.l0 kj2 a1 0 a0_0 l0_1 a0_0) = some (r1, r2) := by rw [if_neg (show ¬ (false = true) by decide)] at H; exact H
    clear H
    have H := H1
    clear H1
    have H' := Am H
    clear H
    have hnb21 := NB126_127.out
    have hnc21 := NB127_126.out
    obtain ⟨hcz22_0, hcz22_1⟩ := kc2 (w := wc) BK126.out
    have hfz22_0 := kf BK126.out
    go_wp2_with (first | ((with_reducible refine gate_dst (N := 5) rfl ?_); refine box_event ?hg (N := 5) ?hd (cs := #[.string (⟨#[]⟩ : ByteArray), .slice none 0 0]) (t := 28) ?hr ?_; (case hd => rfl); (case hg => rfl); (case hr => first | (go_simp; done) | (go_simp; rfl)); intro gb133 hg w23 hbox hb; have n0_ := Am (zK BK126 hb); have n1_ := Am (zK BK127 hb); have n2_ := Am (bq zG hb); have n3_ := Am (hbox); have n4_ := Am ((by rw [hg]; exact (bz zG) : w.heap.size ≤ gb133)); have n5_ := Am ((by rw [hg]; exact (bz zG) : w.heap.size ≤ gb133)); have n6_ := Am ((by rw [hg]; exact Nat.ne_of_lt (zL BK126) : gb126 ≠ gb133)); have n7_ := Am ((by rw [hg]; exact Nat.ne_of_gt (zL BK126) : gb133 ≠ gb126)); have n8_ := Am ((by rw [hg]; exact Nat.ne_of_lt (zL BK127) : gb127 ≠ gb133)); have n9_ := Am ((by rw [hg]; exact Nat.ne_of_gt (zL BK127) : gb133 ≠ gb127)); clear BK126; clear BK127; clear HB; have BK126 := n0_; have BK127 := n1_; have HB := n2_; have BK133 := n3_; have GW133 := n4_; have GE133 := n5_; have NB126_133 := n6_; have NB133_126 := n7_; have NB127_133 := n8_; have NB133_127 := n9_; clear n0_ n1_ n2_ n3_ n4_ n5_ n6_ n7_ n8_ n9_; clear hb hbox hg; have hnb24 := NB133_126.out; have hnc24 := NB126_133.out; have hnb25 := NB133_127.out; have hnc25 := NB127_133.out; obtain ⟨hcz26_0, hcz26_1⟩ := kc2 (w := w23) BK133.out; have hfz26_0 := kf BK133.out))
    go_loopg [6] kj2 (fun kq v6 w' => ∃ (x6_2 : Int) (x134000_2 : ByteArray), v6 = .int .i64 x6_2 ∧ Aside0 (spec_FallenMemory.l0 kq a1 x6_2 a0_0 l0_1 x134000_2 = some (r1, r2)) ∧ Aside0 (kq ≤ kj2) ∧ Aside0 (w'.heap[gb126]? = some (.cells #[.string a0_0, (.slice A0_1 l0_1.length c0_1)] 28 (0, 0))) ∧ Aside0 (w'.heap[gb127]? = some (.cells #[.string (⟨#[]⟩ : ByteArray), (.slice none 0 0)] 28 (0, 0))) ∧ Aside0 (w'.heap[gb133]? = some (.cells #[.string x134000_2, (.slice none 0 0)] 28 (0, 0))) ∧ Aside0 (Below w.heap.size w w'))
    case atStart => exact ⟨(0), (a0_0), (by first | rfl | (simp; done) | (simp [*]; done)), H', ⟨Nat.le_refl _⟩, ⟨by (with_reducible repeat (first | refine kn ?_ _ | refine ke ?_ | refine ka ?_ _)); refine blk_far ?_ NB126_133.out _; (with_reducible repeat (first | refine kn ?_ _ | refine ke ?_ | refine ka ?_ _)); refine blk_far ?_ NB126_133.out _; (with_reducible repeat (first | refine kn ?_ _ | refine ke ?_ | refine ka ?_ _)); exact BK126.out⟩, ⟨by (with_reducible repeat (first | refine kn ?_ _ | refine ke ?_ | refine ka ?_ _)); refine blk_far ?_ NB127_133.out _; (with_reducible repeat (first | refine kn ?_ _ | refine ke ?_ | refine ka ?_ _)); refine blk_far ?_ NB127_133.out _; (with_reducible repeat (first | refine kn ?_ _ | refine ke ?_ | refine ka ?_ _)); exact BK127.out⟩, ⟨by (with_reducible repeat (first | refine kn ?_ _ | refine ke ?_ | refine ka ?_ _)); refine kp (cs := #[.string a0_0, .slice none 0 0]) ?_ 1 _ rfl; (with_reducible repeat (first | refine kn ?_ _ | refine ke ?_ | refine ka ?_ _)); refine kp (cs := #[.string (⟨#[]⟩ : ByteArray), .slice none 0 0]) ?_ 0 _ rfl; (with_reducible repeat (first | refine kn ?_ _ | refine ke ?_ | refine ka ?_ _)); exact BK133.out⟩, ⟨zG⟩⟩
    case round =>
     clear H'
     try clear c1; try clear c2; try clear p2; try clear c6; try clear c7; try clear c8; try clear c11; try clear c14; try clear c15; try clear c16; try clear c21; try clear c22; try clear c24; try clear c25; try clear hcz12_0; try clear hcz12_1; try clear hcz17_0; try clear hcz17_1; try clear hcz19_0; try clear hcz19_1; try clear hcz22_0; try clear hcz22_1; try clear hcz26_0; try clear hcz26_1; try clear hcz9_0; try clear hcz9_1; try clear hfz12_0; try clear hfz12_1; try clear hfz17_0; try clear hfz17_1; try clear hfz19_0; try clear hfz19_1; try clear hfz22_0; try clear hfz22_1; try clear hfz26_0; try clear hfz26_1; try clear hfz9_0; try clear hfz9_1; try clear p2
     obtain ⟨x6_2, x134000_2, rfl, HA, HK2, BK126, BK127, BK133, HB⟩ := hrel
     cases gk with
     | zero => exact absurd HA.out (by simp [spec_FallenMemory.l0])
     | succ k2 =>
      have H := HA.out
      clear HA
      simp only [spec_FallenMemory.l0] at H
      have HC27 := Am H
      clear H
      go_upto_region 5 with (fail)
      go_cut [27] (fun v27 wc => ∃ (kq : Nat) (x27_26 : Bool), v27 = .bool x27_26 ∧ Aside0 (spec_FallenMemory.j2 kq a1 x6_2 x27_26 a0_0 l0_1 x134000_2 = some (r1, r2)) ∧ Aside0 (kq ≤ k2) ∧ Aside0 (wc.heap[gb126]? = some (.cells #[.string a0_0, (.slice A0_1 l0_1.length c0_1)] 28 (0, 0))) ∧ Aside0 (wc.heap[gb127]? = some (.cells #[.string (⟨#[]⟩ : ByteArray), (.slice none 0 0)] 28 (0, 0))) ∧ Aside0 (wc.heap[gb133]? = some (.cells #[.string x134000_2, (.slice none 0 0)] 28 (0, 0))) ∧ Aside0 (Below w.heap.size w wc))
      case first =>
       have H := HC27.out
       clear HC27
       by_cases c28 : x6_2 < (l0_1.length : Int)
       ·rw [if_pos c28] at H
        have c28b0 : decide (x6_2 < (l0_1.length : Int)) = true := decide_eq_true c28
        clear c28
        (first | rw [c28b0] | (simp only [i64_w, i32_w]; rw [c28b0]) | skip)
        have H' := Am H
        clear H
        have hnb29 := NB126_127.out
        have hnc29 := NB127_126.out
        have hnb30 := NB126_133.out
        have hnc30 := NB133_126.out
        obtain ⟨hcz31_0, hcz31_1⟩ := kc2 (w := wr) BK126.out
        have hfz31_0 := kf BK126.out
        go_wp2
        go_meet
        case rel => exact ⟨_, (decide (x6_2 < 63)), (by first | rfl | (simp; done) | (simp [*]; done)), H', ⟨by have := HJ2.out; have := HK2.out; first | omega | exact Nat.le_refl _⟩, ⟨by (with_reducible repeat (first | refine kn ?_ _ | refine ke ?_ | refine ka ?_ _)); exact BK126.out⟩, ⟨by (with_reducible repeat (first | refine kn ?_ _ | refine ke ?_ | refine ka ?_ _)); exact BK127.out⟩, ⟨by (with_reducible repeat (first | refine kn ?_ _ | refine ke ?_ | refine ka ?_ _)); exact BK133.out⟩, ⟨zG⟩⟩
       ·rw [if_neg c28] at H
        have c28b0 : decide (x6_2 < (l0_1.length : Int)) = false := decide_eq_false c28
        clear c28
        (first | rw [c28b0] | (simp only [i64_w, i32_w]; rw [c28b0]) | skip)
        have H' := Am H
        clear H
        have hnb32 := NB126_127.out
        have hnc32 := NB127_126.out
        have hnb33 := NB126_133.out
        have hnc33 := NB133_126.out
        obtain ⟨hcz34_0, hcz34_1⟩ := kc2 (w := wr) BK126.out
        have hfz34_0 := kf BK126.out
        go_wp2
        go_meet
        case rel => exact ⟨_, (false), (by first | rfl | (simp; done) | (simp [*]; done)), H', ⟨by have := HJ2.out; have := HK2.out; first | omega | exact Nat.le_refl _⟩, ⟨by (with_reducible repeat (first | refine kn ?_ _ | refine ke ?_ | refine ka ?_ _)); exact BK126.out⟩, ⟨by (with_reducible repeat (first | refine kn ?_ _ | refine ke ?_ | refine ka ?_ _)); exact BK127.out⟩, ⟨by (with_reducible repeat (first | refine kn ?_ _ | refine ke ?_ | refine ka ?_ _)); exact BK133.out⟩, ⟨zG⟩⟩
      case rest =>
       clear HC27
       try clear c1; try clear c2; try clear p2; try clear c3; try clear c6; try clear c7; try clear c8; try clear c11; try clear c14; try clear c15; try clear c16; try clear c21; try clear c22; try clear c24; try clear c25; try clear c28; try clear c28b0; try clear c29; try clear c30; try clear c32; try clear c33; try clear hcz12_0; try clear hcz12_1; try clear hcz17_0; try clear hcz17_1; try clear hcz19_0; try clear hcz19_1; try clear hcz22_0; try clear hcz22_1; try clear hcz26_0; try clear hcz26_1; try clear hcz31_0; try clear hcz31_1; try clear hcz34_0; try clear hcz34_1; try clear hcz9_0; try clear hcz9_1; try clear hfz12_0; try clear hfz12_1; try clear hfz17_0; try clear hfz17_1; try clear hfz19_0; try clear hfz19_1; try clear hfz22_0; try clear hfz22_1; try clear hfz26_0; try clear hfz26_1; try clear hfz31_0; try clear hfz31_1; try clear hfz34_0; try clear hfz34_1; try clear hfz9_0; try clear hfz9_1; try clear p2
       obtain ⟨kq, x27_26, rfl, HA, HJ26, BK126, BK127, BK133, HB⟩ := hcut
       cases kq with
       | zero => exact absurd HA.out (by simp [spec_FallenMemory.j2])
       | succ kj26 =>
        have H := HA.out
        clear HA
        simp only [spec_FallenMemory.j2] at H
        by_cases c35 : x27_26 = true
        ·subst c35
         have H1 : (if 0 ≤ (IntKind.u64.wrap (x6_2)) then (if (Go.bits .and .i64 (shr .i64 a1 (IntKind.u64.wrap (x6_2))) 1) = 1 then (if 0 ≤ x6_2 then (if x6_2 < (l0_1.length : Int) then ((spec_l10Keep.f x134000_2 ((rd_T49 l0_1 x6_2).f0) ((rd_T49 l0_1 x6_2).f1) ((rd_T49 l0_1 x6_2).f2)).bind fun t135 => (spec_FallenMemory.l0 kj26 a1 (wrap64 (x6_2 + 1)) a0_0 l0_1 t135)) else (none)) else (none)) else (spec_FallenMemory.l0 kj26 a1 (wrap64 (x6_2 + 1)) a0_0 l0_1 x134000_2)) else (none)) = some (r1, r2) := by rw [if_pos rfl] at H; exact H
         clear H
         have H := H1
         clear H1
         obtain ⟨ji36, hji36⟩ : ∃ j_ : Int, (IntKind.u64.wrap (x6_2)) = j_ := ⟨_, rfl⟩
         replace H : (if 0 ≤ (ji36) then (if (Go.bits .and .i64 (shr .i64 a1 (ji36)) 1) = 1 then (if 0 ≤ x6_2 then (if x6_2 < (l0_1.length : Int) then ((spec_l10Keep.f x134000_2 ((rd_T49 l0_1 x6_2).f0) ((rd_T49 l0_1 x6_2).f1) ((rd_T49 l0_1 x6_2).f2)).bind fun t135 => (spec_FallenMemory.l0 kj26 a1 (wrap64 (x6_2 + 1)) a0_0 l0_1 t135)) else (none)) else (none)) else (spec_FallenMemory.l0 kj26 a1 (wrap64 (x6_2 + 1)) a0_0 l0_1 x134000_2)) else (none)) = some (r1, r2) := by first | (rw [hji36] at H; exact H) | (simp only [hji36] at H ⊢; exact H)
         by_cases c37 : 0 ≤ (ji36)
         ·rw [if_pos c37] at H
          have c37b0 := eq_true c37
          have c37b1 : decide (0 ≤ (ji36)) = true := decide_eq_true c37
          clear c37
          obtain ⟨ji38, hji38⟩ : ∃ j_ : Int, (shr .i64 a1 (ji36)) = j_ := ⟨_, rfl⟩
          replace H : (if (Go.bits .and .i64 (ji38) 1) = 1 then (if 0 ≤ x6_2 then (if x6_2 < (l0_1.length : Int) then ((spec_l10Keep.f x134000_2 ((rd_T49 l0_1 x6_2).f0) ((rd_T49 l0_1 x6_2).f1) ((rd_T49 l0_1 x6_2).f2)).bind fun t135 => (spec_FallenMemory.l0 kj26 a1 (wrap64 (x6_2 + 1)) a0_0 l0_1 t135)) else (none)) else (none)) else (spec_FallenMemory.l0 kj26 a1 (wrap64 (x6_2 + 1)) a0_0 l0_1 x134000_2)) = some (r1, r2) := by first | (rw [hji38] at H; exact H) | (simp only [hji38] at H ⊢; exact H)
          have hji38_ : (a1 / 2 ^ min (ji36).toNat 64) = ji38 := hji38
          have hji38z : (ji36) ≤ 64 → (a1 / 2 ^ (ji36).toNat) = ji38 := shr_small hji38
          by_cases c39 : (Go.bits .and .i64 (ji38) 1) = 1
          ·rw [if_pos c39] at H
           have c39b0 : ((Go.bits .and .i64 (ji38) 1) == 1) = true := beq_iff_eq.mpr c39
           have c39b1 : ((Go.bits .and .i64 (ji38) 1) != 1) = false := bne_eq_false_iff_eq.mpr c39
           clear c39
           by_cases c40 : 0 ≤ x6_2
           ·rw [if_pos c40] at H
            have c40b0 : decide (0 ≤ x6_2) = true := decide_eq_true c40
            clear c40
            by_cases c41 : x6_2 < (l0_1.length : Int)
            ·rw [if_pos c41] at H
             have c41b0 : decide (x6_2 < (l0_1.length : Int)) = true := decide_eq_true c41
             clear c41
             replace H := Option.bind_eq_some_iff.mp H
             obtain ⟨t135, A420, H⟩ := H
             replace H : (spec_FallenMemory.l0 kj26 a1 (wrap64 (x6_2 + 1)) a0_0 l0_1 t135) = some (r1, r2) := H
             have A42 := Am A420
             clear A420
             have H' := Am H
             clear H
             try go_wp2
             have n0_ := Am (ke BK126.out)
             have n1_ := Am (ke BK127.out)
             have n2_ := Am (ke BK133.out)
             have n3_ := Am (be HB.out)
             clear BK126
             clear BK127
             clear BK133
             clear HB
             have BK126 := n0_
             have BK127 := n1_
             have BK133 := n2_
             have HB := n3_
             clear n0_ n1_ n2_ n3_
             have p134 : 0 ≤ (x6_2 : Int) := of_decide_eq_true (by first | (with_reducible assumption) | assumption)
             have q134 : x6_2 < (l0_1.length : Int) := of_decide_eq_true (by first | (with_reducible assumption) | assumption)
             obtain ⟨ad134, e134, hx134_0, hx134_1, hx134_2⟩ := at_T49 HR0_1.out x6_2 p134 q134
             have hw134_2 := hx134_2
             have hw134_1 := hx134_1
             have hw134_0 := hx134_0
             cases e134
             replace hx134_0 := cl3 HB hx134_0
             replace hx134_1 := cl3 HB hx134_1
             replace hx134_2 := cl3 HB hx134_2
             replace p134 := eq_true p134
             replace q134 := eq_true q134
             refine start_ (n := 10) (S := fun w' => w'.cell? ⟨gb133, 0, none⟩ = some (.string x134000_2) ∧ w'.cell? ⟨gb133, 1, none⟩ = some (.slice none 0 0) ∧ w'.cell? ⟨gb126, 0, none⟩ = some (.string a0_0) ∧ w'.cell? ⟨gb126, 1, none⟩ = some (.slice (some ad134) l0_1.length c0_1) ∧ w'.cell? (ad134.add ((x6_2).toNat * 3)) = some (.int .i64 ((rd_T49 l0_1 x6_2).f0)) ∧ w'.cell? ⟨(ad134.add ((x6_2).toNat * 3)).block, (ad134.add ((x6_2).toNat * 3)).off + 1, none⟩ = some (.string ((rd_T49 l0_1 x6_2).f1)) ∧ w'.cell? ⟨(ad134.add ((x6_2).toNat * 3)).block, (ad134.add ((x6_2).toNat * 3)).off + 2, none⟩ = some (.bool ((rd_T49 l0_1 x6_2).f2))) (ds := [9]) #[false, false, false, false, false, false, false, false, false, false] (by kernel_rfl) rfl rfl ⟨(kc BK133.out 0).trans rfl, (kc BK133.out 1).trans rfl, (kc BK126.out 0).trans rfl, (kc BK126.out 1).trans rfl, (cl3 HB hw134_0), (cl3 HB hw134_1), (cl3 HB hw134_2)⟩ (fun hHeld => ?_); refine with_tabW spec_FallenMemory.tab8 spec_FallenMemory.bits8 (fun HT_ HW_ => ?_)
             generalize wc.drew = w43 at BK126 BK127 BK133 HB hx134_0 hx134_1 hx134_2 hHeld ⊢
             refine zA 0 (some 36) HT_.out rfl rfl ?_
             refine zA 2 (some 38) HT_.out rfl rfl ?_
             refine zA 4 (some 40) HT_.out rfl rfl ?_
             refine zT 1 (some 37) HT_.out HW_.out rfl rfl hHeld ?_
             refine zT 3 (some 39) HT_.out HW_.out rfl rfl hHeld ?_
             refine zA 5 (some 41) HT_.out rfl rfl ?_
             refine zT 6 (some 42) HT_.out HW_.out rfl rfl hHeld ?_
             refine zO 7 (some 43) HT_.out rfl rfl (fun K hK => ?_)
             refine goes_ Try.func23 (by kernel_rfl) rfl #[.string x134000_2, .agg #[.int .i64 ((rd_T49 l0_1 x6_2).f0), .string ((rd_T49 l0_1 x6_2).f1), .bool ((rd_T49 l0_1 x6_2).f2)]] (by rfl) rfl rfl (by (try simp only [List.map_toArray, List.map_cons, List.map_nil]); first | done | rfl | (simp only [List.length_drop, List.length_take]; rfl)) ?_
             with_reducible refine (spec_l10Keep.calls x134000_2 ((rd_T49 l0_1 x6_2).f0) ((rd_T49 l0_1 x6_2).f1) ((rd_T49 l0_1 x6_2).f2) t135 _ A42.out).mono ?_
             rintro e w44 ⟨rfl, hb⟩
             refine ⟨_, rfl, ?_⟩
             have n0_ := Am (zK BK126 hb)
             have n1_ := Am (zK BK127 hb)
             have n2_ := Am (zK BK133 hb)
             have n3_ := Am (bq zG hb)
             clear BK126
             clear BK127
             clear BK133
             clear HB
             have BK126 := n0_
             have BK127 := n1_
             have BK133 := n2_
             have HB := n3_
             clear n0_ n1_ n2_ n3_
             (try clear hb)
             (try clear hb2)
             (try clear hk)
             (try clear hi)
             refine hK.out _ _ ⟨(kc BK133.out 0).trans rfl, (kc BK133.out 1).trans rfl, (kc BK126.out 0).trans rfl, (kc BK126.out 1).trans rfl, (cl3 HB hw134_0 :), (cl3 HB hw134_1 :), (cl3 HB hw134_2 :)⟩ (fun hHeld => ?_)
             clear hK K
             refine zN (some 43) ?_
             refine zA 8 (some 44) HT_.out rfl rfl ?_
             refine last_ (i := 9) (N := none) #[true, true, true, true, true, true, true, true, true, true] rfl rfl (one_of HT_.out (by kernel_rfl)) (by decide) (fun K hK => ?_)
             have hs45 : w44.cell? ⟨gb133, 0, none⟩ = some (.string x134000_2) := (kc BK133.out 0).trans rfl
             have hfs45 := kf BK133.out 0
             have hns45_0 := NB126_133.out
             have hns45_1 := NB127_133.out
             have hms45_0 := NB133_126.out
             have hms45_1 := NB133_127.out
             refine skip_ (w1 := ?_) (by rfl) rfl ?_ ?_
             rotate_left
             ·go_simp
              rfl
             refine hK.out _ _ ?_
             clear hK K
             refine done_ (done_of HT_.out (by kernel_rfl)) ?_
             try go_wp2
             go_roundg kj26
             case measure => have := HJ2.out; have := HK2.out; have := HJ26.out; omega
             case rel => exact ⟨(wrap64 (x6_2 + 1)), (t135), (by first | rfl | (simp; done) | (simp [*]; done)), H', ⟨by have := HJ2.out; have := HK2.out; have := HJ26.out; omega⟩, ⟨by (with_reducible repeat (first | refine kn ?_ _ | refine ke ?_ | refine ka ?_ _)); refine blk_far ?_ NB126_133.out _; (with_reducible repeat (first | refine kn ?_ _ | refine ke ?_ | refine ka ?_ _)); exact BK126.out⟩, ⟨by (with_reducible repeat (first | refine kn ?_ _ | refine ke ?_ | refine ka ?_ _)); refine blk_far ?_ NB127_133.out _; (with_reducible repeat (first | refine kn ?_ _ | refine ke ?_ | refine ka ?_ _)); exact BK127.out⟩, ⟨by (with_reducible repeat (first | refine kn ?_ _ | refine ke ?_ | refine ka ?_ _)); refine kp (cs := #[.string x134000_2, .slice none 0 0]) ?_ 0 _ rfl; (with_reducible repeat (first | refine kn ?_ _ | refine ke ?_ | refine ka ?_ _)); exact BK133.out⟩, ⟨zG⟩⟩
            ·rw [if_neg c41] at H
             exact absurd H (by simp)
           ·rw [if_neg c40] at H
            exact absurd H (by simp)
          ·rw [if_neg c39] at H
           have c39b0 : ((Go.bits .and .i64 (ji38) 1) == 1) = false := beq_eq_false_iff_ne.mpr c39
           have c39b1 : ((Go.bits .and .i64 (ji38) 1) != 1) = true := bne_iff_ne.mpr c39
           have H' := Am H
           clear H
           go_wp2
           go_roundg kj26
           case measure => have := HJ2.out; have := HK2.out; have := HJ26.out; omega
           case rel => exact ⟨(wrap64 (x6_2 + 1)), (x134000_2), (by first | rfl | (simp; done) | (simp [*]; done)), H', ⟨by have := HJ2.out; have := HK2.out; have := HJ26.out; omega⟩, ⟨by (with_reducible repeat (first | refine kn ?_ _ | refine ke ?_ | refine ka ?_ _)); exact BK126.out⟩, ⟨by (with_reducible repeat (first | refine kn ?_ _ | refine ke ?_ | refine ka ?_ _)); exact BK127.out⟩, ⟨by (with_reducible repeat (first | refine kn ?_ _ | refine ke ?_ | refine ka ?_ _)); exact BK133.out⟩, ⟨zG⟩⟩
         ·rw [if_neg c37] at H
          exact absurd H (by simp)
        ·replace c35 := Bool.eq_false_iff.mpr c35
         subst c35
         have H1 : (some (x134000_2, ([] : List (S49)))) = some (r1, r2) := by rw [if_neg (show ¬ (false = true) by decide)] at H; exact H
         clear H
         have H := H1
         clear H1
         simp only [Option.some.injEq, Prod.mk.injEq] at H
         obtain ⟨rfl, rfl⟩ := H
         have hnb46 := NB133_126.out
         have hnc46 := NB126_133.out
         have hnb47 := NB133_127.out
         have hnc47 := NB127_133.out
         obtain ⟨hcz48_0, hcz48_1⟩ := kc2 (w := wc) BK133.out
         have hfz48_0 := kf BK133.out
         have hnb49 := NB127_126.out
         have hnc49 := NB126_127.out
         obtain ⟨hcz50_0, hcz50_1⟩ := kc2 (w := wc) BK127.out
         have hfz50_0 := kf BK127.out
         go_wp2
         refine bodyPost_ret (results_cell_row rfl _ _ gb127 28 #[.string x134000_2, .slice none 0 0] (0, 0) _ rfl (by (with_reducible repeat (first | refine kn ?_ _ | refine ke ?_ | refine ka ?_ _)); refine kp (cs := #[.string x134000_2, .slice none 0 0]) ?_ 1 _ rfl; (with_reducible repeat (first | refine kn ?_ _ | refine ke ?_ | refine ka ?_ _)); refine kp (cs := #[.string (⟨#[]⟩ : ByteArray), .slice none 0 0]) ?_ 0 _ rfl; (with_reducible repeat (first | refine kn ?_ _ | refine ke ?_ | refine ka ?_ _)); exact BK127.out) Try.underlying28 rfl (by kernel_rfl)) rfl ?_
         exact ⟨_, zR, by first | exact Kd.R_nil _ _ _ _ _ | exact Kd.N_nil _ _ _ _ _ | exact Kd.V_nil _ _ _ _ _ | exact Kd.Q_nil _ _ _ _ _ | exact Kd.S_nil _ _ _ _ _, zG⟩

/-! ### laws_toCell: function 42 -/
def laws_toCell.f (a0_0 : Int) (a0_1 : ByteArray) (a0_2 : Bool) : Option (Int × ByteArray × Bool) := some (a0_0, a0_1, a0_2)
set_option maxHeartbeats 8000000 in
set_option maxRecDepth 100000 in
theorem laws_toCell.calls (a0_0 : Int) (a0_1 : ByteArray) (a0_2 : Bool) (r1 : Int) (r2 : ByteArray) (r3 : Bool) (w : World) (h : laws_toCell.f a0_0 a0_1 a0_2 = some (r1, r2, r3)) :
  Calls Try.prog 42 #[.agg #[.int .i64 a0_0, .string a0_1, .bool a0_2]] w fun e w' => e = .returned (.agg #[.int .i64 r1, .string r2, .bool r3]) ∧ Below w.heap.size w w' := by
 have hu63 := Try.underlying63
 have hu49 := Try.underlying49
 have HB := Am (Below.refl w.heap.size w)
 have H : (some (a0_0, a0_1, a0_2)) = some (r1, r2, r3) := h
 clear h
 simp only [Option.some.injEq, Prod.mk.injEq] at H
 obtain ⟨rfl, rfl, rfl⟩ := H
 go_enter Try.func42, Try.ntmps42
 go_wp2_with (first | ((with_reducible refine gate_dst (N := 1) rfl ?_); refine box_event ?hg (N := 1) ?hd (cs := #[.int .i64 a0_0, .string a0_1, .bool a0_2]) (t := 63) ?hr ?_; (case hd => rfl); (case hg => rfl); (case hr => first | (go_simp; done) | (go_simp; rfl)); intro gb136 hg w2 hbox hb; have BK136 := Am (hbox); have GW136 := Am ((by rw [hg]; exact (bz zB) : w.heap.size ≤ gb136)); have GE136 := Am ((by rw [hg]; exact (bz zB) : w.heap.size ≤ gb136)); replace HB := Am (bq zB hb); clear hb hbox hg) | ((with_reducible refine gate_dst (N := 2) rfl ?_); refine box_event ?hg (N := 2) ?hd (cs := #[.int .i64 0, .string (⟨#[]⟩ : ByteArray), .bool false]) (t := 49) ?hr ?_; (case hd => rfl); (case hg => rfl); (case hr => first | (go_simp; done) | (go_simp; rfl)); intro gb137 hg w3 hbox hb; have n0_ := Am (zK BK136 hb); have n1_ := Am (bq zG hb); have n2_ := Am (hbox); have n3_ := Am ((by rw [hg]; exact (bz zG) : w.heap.size ≤ gb137)); have n4_ := Am ((by rw [hg]; exact (bz zG) : w.heap.size ≤ gb137)); have n5_ := Am ((by rw [hg]; exact Nat.ne_of_lt (zL BK136) : gb136 ≠ gb137)); have n6_ := Am ((by rw [hg]; exact Nat.ne_of_gt (zL BK136) : gb137 ≠ gb136)); clear BK136; clear HB; have BK136 := n0_; have HB := n1_; have BK137 := n2_; have GW137 := n3_; have GE137 := n4_; have NB136_137 := n5_; have NB137_136 := n6_; clear n0_ n1_ n2_ n3_ n4_ n5_ n6_; clear hb hbox hg) | ((with_reducible refine gate_dst (N := 3) rfl ?_); refine box_event ?hg (N := 3) ?hd (cs := #[.int .i64 0, .string (⟨#[]⟩ : ByteArray), .bool false]) (t := 49) ?hr ?_; (case hd => rfl); (case hg => rfl); (case hr => first | (go_simp; done) | (go_simp; rfl)); intro gb138 hg w4 hbox hb; have n0_ := Am (zK BK136 hb); have n1_ := Am (zK BK137 hb); have n2_ := Am (bq zG hb); have n3_ := Am (hbox); have n4_ := Am ((by rw [hg]; exact (bz zG) : w.heap.size ≤ gb138)); have n5_ := Am ((by rw [hg]; exact (bz zG) : w.heap.size ≤ gb138)); have n6_ := Am ((by rw [hg]; exact Nat.ne_of_lt (zL BK136) : gb136 ≠ gb138)); have n7_ := Am ((by rw [hg]; exact Nat.ne_of_gt (zL BK136) : gb138 ≠ gb136)); have n8_ := Am ((by rw [hg]; exact Nat.ne_of_lt (zL BK137) : gb137 ≠ gb138)); have n9_ := Am ((by rw [hg]; exact Nat.ne_of_gt (zL BK137) : gb138 ≠ gb137)); clear BK136; clear BK137; clear HB; have BK136 := n0_; have BK137 := n1_; have HB := n2_; have BK138 := n3_; have GW138 := n4_; have GE138 := n5_; have NB136_138 := n6_; have NB138_136 := n7_; have NB137_138 := n8_; have NB138_137 := n9_; clear n0_ n1_ n2_ n3_ n4_ n5_ n6_ n7_ n8_ n9_; clear hb hbox hg; have hnb5 := NB136_137.out; have hnc5 := NB137_136.out; have hnb6 := NB136_138.out; have hnc6 := NB138_136.out; obtain ⟨hcz7_0, hcz7_1, hcz7_2⟩ := kc3 (w := w4) BK136.out; have hfz7_0 := kf BK136.out; have hnb8 := NB138_137.out; have hnc8 := NB137_138.out; obtain ⟨hcz9_0, hcz9_1, hcz9_2⟩ := kc3 (w := w4) BK138.out; have hfz9_0 := kf BK138.out; obtain ⟨hcz10_0, hcz10_1, hcz10_2⟩ := kc3 (w := w4) BK137.out; have hfz10_0 := kf BK137.out))
 refine bodyPost_ret (results_cell_row rfl _ _ gb137 49 #[.int .i64 a0_0, .string a0_1, .bool a0_2] (0, 0) _ rfl (by (with_reducible repeat (first | refine kn ?_ _ | refine ke ?_ | refine ka ?_ _)); refine kp (cs := #[.int .i64 a0_0, .string a0_1, .bool false]) ?_ 2 _ rfl; (with_reducible repeat (first | refine kn ?_ _ | refine ke ?_ | refine ka ?_ _)); refine kp (cs := #[.int .i64 a0_0, .string (⟨#[]⟩ : ByteArray), .bool false]) ?_ 1 _ rfl; (with_reducible repeat (first | refine kn ?_ _ | refine ke ?_ | refine ka ?_ _)); refine kp (cs := #[.int .i64 0, .string (⟨#[]⟩ : ByteArray), .bool false]) ?_ 0 _ rfl; (with_reducible repeat (first | refine kn ?_ _ | refine ke ?_ | refine ka ?_ _)); refine blk_far ?_ NB137_138.out _; (with_reducible repeat (first | refine kn ?_ _ | refine ke ?_ | refine ka ?_ _)); refine blk_far ?_ NB137_138.out _; (with_reducible repeat (first | refine kn ?_ _ | refine ke ?_ | refine ka ?_ _)); refine blk_far ?_ NB137_138.out _; (with_reducible repeat (first | refine kn ?_ _ | refine ke ?_ | refine ka ?_ _)); exact BK137.out) Try.underlying49 rfl (by kernel_rfl)) rfl ?_
 exact ⟨zR, zG⟩

end Go.Proofs.Ytnmkcognggeioaa.QFnExactFallenMemory
