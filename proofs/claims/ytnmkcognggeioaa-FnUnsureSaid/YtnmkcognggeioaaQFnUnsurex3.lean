/- Go functions as Lean functions, and their contracts. Own text: written by wip/gen/pr.py (a turned copy of the print). -/
import Derived.Test.YtnmkcognggeioaaQFnUnsurex0
import Derived.Test.YtnmkcognggeioaaQFnUnsurex2
namespace Go.Proofs.Ytnmkcognggeioaa.QFnUnsure
open Go.RowKit Go.Proofs.YtnmkcognggeioaaW.PrintWords Go.Proofs.YtnmkcognggeioaaW.PrintLast Go.Proofs.YtnmkcognggeioaaW.PrintMore
attribute [local go_sem] max2_int min2_int max_two min_two max_three min_three max_four min_four   -- for this text's walks alone
open Go.Proofs.YtnmkcognggeioaaW.PrintWords renaming below_alloc → ba, pw_below_drewN → bn, below_drew1 → be, below_set → bs, blk_drewN → kn, blk_drew → ke, blk_alloc → ka, blk_below → kb, blk_frozen → kf, blk_cell → kc, below_step → bq, below_size → bz, blk_lt → kl, blk_put → kp
open Go.Proofs.YtnmkcognggeioaaW.PrintWords.Aside0 renaming mk → Am
set_option linter.unusedVariables false
set_option linter.unusedSimpArgs false

/-! ### spec_MemoryOk: function 15 -/
theorem cl3 {w w2 : World} {a : Addr} {v : Value} (h : Aside0 (Below w.heap.size w w2)) (e : w.cell? a = some v) : w2.cell? a = some v := (h.out.cell (World.block_lt_of_cell? w _ e)).trans e
mutual
def spec_MemoryOk.j0 : Nat → Bool → ByteArray → List (S49) → Option (Bool)
 | 0, _, _, _ => none
 | k + 1, x18, x102000, x102001 => if x18 = true then (some false) else (spec_MemoryOk.l0 k 0 x102000 x102001)
def spec_MemoryOk.l0 : Nat → Int → ByteArray → List (S49) → Option (Bool)
 | 0, _, _, _ => none
 | k + 1, x3, x102000, x102001 => if x3 < (x102001.length : Int) then (if 0 ≤ x3 then ((spec_l10Size.f).bind fun t106 => (if t106 = 0 then (none) else ((spec_l01In.f ((rd_T49 x102001 x3).f0) 0 (wrap64 ((wrap64 ((x102000.size : Int) / t106)) - 1))).bind fun t107 => (if t107 = true then ((spec_l10Size.f).bind fun t108 => (if (((rd_T49 x102001 x3).f1).size : Int) = t108 then (if x3 > 0 then (if 0 ≤ (wrap64 (x3 - 1)) then (if (wrap64 (x3 - 1)) < (x102001.length : Int) then (if ((rd_T49 x102001 (wrap64 (x3 - 1))).f0) ≥ ((rd_T49 x102001 x3).f0) then (some false) else (spec_MemoryOk.l0 k (wrap64 (x3 + 1)) x102000 x102001)) else (none)) else (none)) else (spec_MemoryOk.l0 k (wrap64 (x3 + 1)) x102000 x102001)) else (some false))) else (some false))))) else (none)) else (some true)
end
def spec_MemoryOk.f (k : Nat) (a0_0 : ByteArray) (l0_1 : List (S49)) : Option (Bool) := (spec_l10Size.f).bind fun t102 => (if t102 = 0 then (none) else (if ((a0_0.size : Int) % t102) = 0 then ((spec_l10Size.f).bind fun t103 => (spec_MemoryOk.j0 k (decide ((a0_0.size : Int) > (wrap64 (1000 * t103)))) a0_0 l0_1)) else (spec_MemoryOk.j0 k true a0_0 l0_1)))
theorem spec_MemoryOk.mono_l : ∀ k, (∀ y0 y1 y2, LeO (spec_MemoryOk.j0 k y0 y1 y2) (spec_MemoryOk.j0 (k + 1) y0 y1 y2)) ∧ (∀ y0 y1 y2, LeO (spec_MemoryOk.l0 k y0 y1 y2) (spec_MemoryOk.l0 (k + 1) y0 y1 y2))
 | 0 => ⟨fun _ _ _ r h => by simp [spec_MemoryOk.j0] at h, fun _ _ _ r h => by simp [spec_MemoryOk.l0] at h⟩
 | k + 1 => by
  obtain ⟨ih0, ih1⟩ := spec_MemoryOk.mono_l k
  refine ⟨?_, ?_⟩
  ·intro y0 y1 y2
   unfold spec_MemoryOk.j0
   repeat' first
   | (with_reducible exact ih0 _ _ _)
   | (with_reducible exact ih1 _ _ _)
   | (with_reducible exact LeO.refl _)
   | (with_reducible exact LeO.none _)
   | (with_reducible refine LeO.ite ?_ ?_)
   | (with_reducible refine LeO.bind ?_ (fun _ => ?_))
   | exact ih0 _ _ _
   | exact ih1 _ _ _
   | exact LeO.none _
   | refine LeO.ite ?_ ?_
   | refine LeO.bind ?_ (fun _ => ?_)
  ·intro y0 y1 y2
   unfold spec_MemoryOk.l0
   repeat' first
   | (with_reducible exact ih0 _ _ _)
   | (with_reducible exact ih1 _ _ _)
   | (with_reducible exact LeO.refl _)
   | (with_reducible exact LeO.none _)
   | (with_reducible refine LeO.ite ?_ ?_)
   | (with_reducible refine LeO.bind ?_ (fun _ => ?_))
   | exact ih0 _ _ _
   | exact ih1 _ _ _
   | exact LeO.none _
   | refine LeO.ite ?_ ?_
   | refine LeO.bind ?_ (fun _ => ?_)
theorem spec_MemoryOk.mono : ∀ a0 a1 k, LeO (spec_MemoryOk.f k a0 a1) (spec_MemoryOk.f (k + 1) a0 a1) := by
 intro a0 a1 k
 obtain ⟨ih0, ih1⟩ := spec_MemoryOk.mono_l k
 unfold spec_MemoryOk.f
 repeat' first
   | (with_reducible exact ih0 _ _ _)
   | (with_reducible exact ih1 _ _ _)
   | (with_reducible exact LeO.refl _)
   | (with_reducible exact LeO.none _)
   | (with_reducible refine LeO.ite ?_ ?_)
   | (with_reducible refine LeO.bind ?_ (fun _ => ?_))
   | exact ih0 _ _ _
   | exact ih1 _ _ _
   | exact LeO.none _
   | refine LeO.ite ?_ ?_
   | refine LeO.bind ?_ (fun _ => ?_)
def spec_MemoryOk.T1 : Bool × List (List Nat × List Nat) := (true, [([], []), ([0], [0]), ([1], [1]), ([], []), ([2, 3], [2, 3]), ([4], [4]), ([5, 3], [5]), ([6], [6]), ([7, 6], [6, 7]), ([8, 6], [6, 8]), ([6, 6], [6]), ([10, 6], [6, 10]), ([9, 11, 6], [6, 9, 11]), ([6, 12], [6, 12])])
def spec_MemoryOk.B1 : List Nat := [0, 1, 3, 0, 15, 31, 63, 127, 255, 511, 127, 1151, 4095, 8191]
theorem spec_MemoryOk.tab1 : rtab .any (opsOf Try.f15 1) = spec_MemoryOk.T1 := by kernel_rfl
theorem spec_MemoryOk.bits1 : waitsOk spec_MemoryOk.T1.2 spec_MemoryOk.B1 = true := by kernel_rfl
def spec_MemoryOk.T7 : Bool × List (List Nat × List Nat) := (true, [([], []), ([0], [0]), ([], []), ([2], [2]), ([3], [3]), ([], []), ([4, 5], [4, 5]), ([6], [6]), ([1, 7, 5], [1, 7]), ([8], [8]), ([9, 8], [9]), ([10], [10]), ([11, 10], [10, 11]), ([12, 10], [10, 12]), ([10, 10], [10]), ([13, 14, 10], [10, 13, 14]), ([10, 15], [10, 15]), ([16, 14], [16]), ([17], [17]), ([18, 17], [17, 18]), ([19, 17, 17], [17, 19]), ([20], [20]), ([21, 20], [20, 21]), ([20], [20]), ([23, 20], [20, 23]), ([22, 24, 20], [20, 22, 24]), ([25, 20], [20, 25]), ([26, 20], [20, 26]), ([20], [20]), ([28, 20], [20, 28]), ([27, 29, 20], [20, 27, 29]), ([20, 30, 17], [17, 20, 30]), ([17, 31], [17, 31])])
def spec_MemoryOk.B7 : List Nat := [0, 1, 0, 4, 12, 0, 60, 124, 255, 511, 1023, 2047, 4095, 8191, 2047, 32767, 65535, 131071, 262143, 524287, 1048575, 2097151, 4194303, 2097151, 10485759, 33554431, 67108863, 134217727, 2097151, 270532607, 1073741823, 2147483647, 4294967295]
theorem spec_MemoryOk.tab7 : rtab .any (opsOf Try.f15 7) = spec_MemoryOk.T7 := by kernel_rfl
theorem spec_MemoryOk.bits7 : waitsOk spec_MemoryOk.T7.2 spec_MemoryOk.B7 = true := by kernel_rfl
set_option maxHeartbeats 8000000 in
set_option maxRecDepth 100000 in
theorem spec_MemoryOk.calls (k : Nat) (a0_0 : ByteArray) (A0_1 : Option Addr) (c0_1 : Nat) (l0_1 : List (S49)) (r : Bool) (w : World) (hr0_1 : Kd.C k49 w A0_1 l0_1.length l0_1) (hc0_1 : l0_1.length ≤ c0_1) (h : spec_MemoryOk.f k a0_0 l0_1 = some r) :
  Calls Try.prog 15 #[.agg #[.string a0_0, .slice A0_1 l0_1.length c0_1]] w fun e w' => e = .returned (.bool r) ∧ Below w.heap.size w w' := by
 have hu28 := Try.underlying28
 have hu49 := Try.underlying49
 have HR0_1 := Am hr0_1
 have HC0_1 := Am hc0_1
 clear hr0_1 hc0_1
 have HB := Am (Below.refl w.heap.size w)
 have H : ((spec_l10Size.f).bind fun t102 => (if t102 = 0 then (none) else (if ((a0_0.size : Int) % t102) = 0 then ((spec_l10Size.f).bind fun t103 => (spec_MemoryOk.j0 k (decide ((a0_0.size : Int) > (wrap64 (1000 * t103)))) a0_0 l0_1)) else (spec_MemoryOk.j0 k true a0_0 l0_1)))) = some r := h
 clear h
 have HC2 := Am H
 clear H
 go_enter Try.func15, Try.ntmps15
 go_upto_region 1 with (first | ((with_reducible refine gate_dst (N := 1) rfl ?_); (try (refine gate_guard (by rfl) ?_; dsimp only)); refine box_event ?hg (N := 1) ?hd (cs := #[.string a0_0, .slice A0_1 l0_1.length c0_1]) (t := 28) ?hr ?_; (case hd => rfl); (case hg => rfl); (case hr => first | (go_simp; done) | (go_simp; rfl)); intro gb101 hg w3 hbox hb; have BK101 := Am (hbox); have GW101 := Am ((by rw [hg]; exact (bz zB) : w.heap.size ≤ gb101)); have GE101 := Am ((by rw [hg]; exact (bz zB) : w.heap.size ≤ gb101)); replace HB := Am (bq zB hb); clear hb hbox hg))
 (try simp only [Act.put, List.setIfInBounds_toArray, List.set_cons_zero, List.set_cons_succ])
 go_cut [18] (fun v18 wc => ∃ (kq : Nat) (x18_1 : Bool), v18 = .bool x18_1 ∧ Aside0 (spec_MemoryOk.j0 kq x18_1 a0_0 l0_1 = some r) ∧ Aside0 (kq ≤ k) ∧ Aside0 (wc.heap[gb101]? = some (.cells #[.string a0_0, (.slice A0_1 l0_1.length c0_1)] 28 (0, 0))) ∧ Aside0 (Below w.heap.size w wc))
 case first =>
  have H := HC2.out
  clear HC2
  replace H := Option.bind_eq_some_iff.mp H
  obtain ⟨t102, A40, H⟩ := H
  obtain rfl : (16 : Int) = t102 := Option.some.inj (show some (16 : Int) = some t102 from A40)
  replace H : (if (16 : Int) = 0 then (none) else (if ((a0_0.size : Int) % (16 : Int)) = 0 then ((spec_l10Size.f).bind fun t103 => (spec_MemoryOk.j0 k (decide ((a0_0.size : Int) > (wrap64 (1000 * t103)))) a0_0 l0_1)) else (spec_MemoryOk.j0 k true a0_0 l0_1))) = some r := H
  have A4 := Am A40
  clear A40
  by_cases c5 : (16 : Int) = 0
  ·rw [if_pos c5] at H
   exact absurd H (by simp)
  ·rw [if_neg c5] at H
   have c5b0 : ((16 : Int) == 0) = false := beq_eq_false_iff_ne.mpr c5
   have c5b1 : ((16 : Int) != 0) = true := bne_iff_ne.mpr c5
   (first | rw [c5b0] | (simp only [i64_w, i32_w]; rw [c5b0]) | skip)
   by_cases c6 : ((a0_0.size : Int) % (16 : Int)) = 0
   ·rw [if_pos c6] at H
    have c6b0 : (((a0_0.size : Int) % (16 : Int)) == 0) = true := beq_iff_eq.mpr c6
    try have c6m0 : (Int.tmod (a0_0.size : Int) (16 : Int) == 0) = true := by rw [Int.tmod_eq_emod_of_nonneg (Int.natCast_nonneg _)]; exact c6b0
    have c6b1 : (((a0_0.size : Int) % (16 : Int)) != 0) = false := bne_eq_false_iff_eq.mpr c6
    try have c6m1 : (Int.tmod (a0_0.size : Int) (16 : Int) != 0) = false := by rw [Int.tmod_eq_emod_of_nonneg (Int.natCast_nonneg _)]; exact c6b1
    clear c6
    replace H := Option.bind_eq_some_iff.mp H
    obtain ⟨t103, A70, H⟩ := H
    obtain rfl : (16 : Int) = t103 := Option.some.inj (show some (16 : Int) = some t103 from A70)
    replace H : (spec_MemoryOk.j0 k (decide ((a0_0.size : Int) > (wrap64 (1000 * (16 : Int))))) a0_0 l0_1) = some r := H
    have A7 := Am A70
    clear A70
    have H' := Am H
    clear H
    try go_wp2
    have n0_ := Am (ke BK101.out)
    have n1_ := Am (be HB.out)
    clear BK101
    clear HB
    have BK101 := n0_
    have HB := n1_
    clear n0_ n1_
    refine start_ (n := 14) (S := fun w' => w'.cell? ⟨gb101, 0, none⟩ = some (.string a0_0) ∧ w'.cell? ⟨gb101, 1, none⟩ = some (.slice A0_1 l0_1.length c0_1)) (ds := []) #[false, false, false, false, false, false, false, false, false, false, false, false, false, false] (by kernel_rfl) rfl rfl ⟨(kc BK101.out 0).trans rfl, (kc BK101.out 1).trans rfl⟩ (fun hHeld => ?_); refine with_tabW spec_MemoryOk.tab1 spec_MemoryOk.bits1 (fun HT_ HW_ => ?_)
    generalize w3.drew = w8 at BK101 HB hHeld ⊢
    refine zA 0 (some 5) HT_.out rfl rfl ?_
    refine zT 1 (some 6) HT_.out HW_.out rfl rfl hHeld ?_
    refine zA 2 (some 7) HT_.out rfl rfl ?_
    refine zO 3 (some 8) HT_.out rfl rfl (fun K hK => ?_)
    refine goes_ Try.func35 (by kernel_rfl) rfl #[] (by rfl) rfl rfl (by (try simp only [List.map_toArray, List.map_cons, List.map_nil]); first | done | rfl | (simp only [List.length_drop, List.length_take]; rfl)) ?_
    with_reducible refine (spec_l10Size.calls  (16 : Int) _ A4.out).mono ?_
    rintro e w' ⟨rfl, ⟨nd, rfl⟩⟩
    refine ⟨_, rfl, ?_⟩
    refine hK.out _ _ ⟨(kc BK101.out 0).trans rfl, (kc BK101.out 1).trans rfl⟩ (fun hHeld => ?_)
    clear hK K
    refine zN (some 8) ?_
    refine zA 4 (some 9) HT_.out rfl rfl ?_
    refine zA 5 (some 10) HT_.out rfl rfl ?_
    refine zA 6 (some 11) HT_.out rfl rfl ?_
    refine zA 7 (some 12) HT_.out rfl rfl ?_
    refine zT 8 (some 13) HT_.out HW_.out rfl rfl hHeld ?_
    refine zA 9 (some 14) HT_.out rfl rfl ?_
    refine zO 10 (some 15) HT_.out rfl rfl (fun K hK => ?_)
    refine goes_ Try.func35 (by kernel_rfl) rfl #[] (by rfl) rfl rfl (by (try simp only [List.map_toArray, List.map_cons, List.map_nil]); first | done | rfl | (simp only [List.length_drop, List.length_take]; rfl)) ?_
    with_reducible refine (spec_l10Size.calls  (16 : Int) _ A7.out).mono ?_
    rintro e w' ⟨rfl, ⟨nd, rfl⟩⟩
    refine ⟨_, rfl, ?_⟩
    refine hK.out _ _ ⟨(kc BK101.out 0).trans rfl, (kc BK101.out 1).trans rfl⟩ (fun hHeld => ?_)
    clear hK K
    refine zN (some 15) ?_
    refine zA 11 (some 16) HT_.out rfl rfl ?_
    refine zA 12 (some 17) HT_.out rfl rfl ?_
    refine zA 13 (some 18) HT_.out rfl rfl ?_
    refine done_ (done_of HT_.out (by kernel_rfl)) ?_
    try go_wp2
    go_meet
    case rel => exact ⟨_, (decide ((a0_0.size : Int) > (wrap64 (1000 * (16 : Int))))), (by first | rfl | (simp; done) | (simp [*]; done)), H', ⟨by first | omega | exact Nat.le_refl _⟩, ⟨by (with_reducible repeat (first | refine kn ?_ _ | refine ke ?_ | refine ka ?_ _)); exact BK101.out⟩, ⟨zG⟩⟩
   ·rw [if_neg c6] at H
    have c6b0 : (((a0_0.size : Int) % (16 : Int)) == 0) = false := beq_eq_false_iff_ne.mpr c6
    try have c6m0 : (Int.tmod (a0_0.size : Int) (16 : Int) == 0) = false := by rw [Int.tmod_eq_emod_of_nonneg (Int.natCast_nonneg _)]; exact c6b0
    have c6b1 : (((a0_0.size : Int) % (16 : Int)) != 0) = true := bne_iff_ne.mpr c6
    try have c6m1 : (Int.tmod (a0_0.size : Int) (16 : Int) != 0) = true := by rw [Int.tmod_eq_emod_of_nonneg (Int.natCast_nonneg _)]; exact c6b1
    have H' := Am H
    clear H
    try go_wp2
    have n0_ := Am (ke BK101.out)
    have n1_ := Am (be HB.out)
    clear BK101
    clear HB
    have BK101 := n0_
    have HB := n1_
    clear n0_ n1_
    refine start_ (n := 14) (S := fun w' => w'.cell? ⟨gb101, 0, none⟩ = some (.string a0_0) ∧ w'.cell? ⟨gb101, 1, none⟩ = some (.slice A0_1 l0_1.length c0_1)) (ds := []) #[false, false, false, false, false, false, false, false, false, false, false, false, false, false] (by kernel_rfl) rfl rfl ⟨(kc BK101.out 0).trans rfl, (kc BK101.out 1).trans rfl⟩ (fun hHeld => ?_); refine with_tabW spec_MemoryOk.tab1 spec_MemoryOk.bits1 (fun HT_ HW_ => ?_)
    generalize w3.drew = w9 at BK101 HB hHeld ⊢
    refine zA 0 (some 5) HT_.out rfl rfl ?_
    refine zT 1 (some 6) HT_.out HW_.out rfl rfl hHeld ?_
    refine zA 2 (some 7) HT_.out rfl rfl ?_
    refine zO 3 (some 8) HT_.out rfl rfl (fun K hK => ?_)
    refine goes_ Try.func35 (by kernel_rfl) rfl #[] (by rfl) rfl rfl (by (try simp only [List.map_toArray, List.map_cons, List.map_nil]); first | done | rfl | (simp only [List.length_drop, List.length_take]; rfl)) ?_
    with_reducible refine (spec_l10Size.calls  (16 : Int) _ A4.out).mono ?_
    rintro e w' ⟨rfl, ⟨nd, rfl⟩⟩
    refine ⟨_, rfl, ?_⟩
    refine hK.out _ _ ⟨(kc BK101.out 0).trans rfl, (kc BK101.out 1).trans rfl⟩ (fun hHeld => ?_)
    clear hK K
    refine zN (some 8) ?_
    refine zA 4 (some 9) HT_.out rfl rfl ?_
    refine zA 5 (some 10) HT_.out rfl rfl ?_
    refine zA 6 (some 11) HT_.out rfl rfl ?_
    refine zI 7 (some 12) HT_.out rfl rfl ?_
    refine zI 8 (some 13) HT_.out rfl rfl ?_
    refine zI 9 (some 14) HT_.out rfl rfl ?_
    refine zI 10 (some 15) HT_.out rfl rfl ?_
    refine zI 11 (some 16) HT_.out rfl rfl ?_
    refine zI 12 (some 17) HT_.out rfl rfl ?_
    refine zA 13 (some 18) HT_.out rfl rfl ?_
    refine done_ (done_of HT_.out (by kernel_rfl)) ?_
    try go_wp2
    go_meet
    case rel => exact ⟨_, (true), (by first | rfl | (simp; done) | (simp [*]; done)), H', ⟨by first | omega | exact Nat.le_refl _⟩, ⟨by (with_reducible repeat (first | refine kn ?_ _ | refine ke ?_ | refine ka ?_ _)); exact BK101.out⟩, ⟨zG⟩⟩
 case rest =>
  clear HC2
  try clear c1; try clear p2; try clear c3; try clear c5; try clear c5b0; try clear c5b1; try clear c6; try clear c6b0; try clear c6b1; try clear p6
  obtain ⟨kq, x18_1, rfl, HA, HJ1, BK101, HB⟩ := hcut
  cases kq with
  | zero => exact absurd HA.out (by simp [spec_MemoryOk.j0])
  | succ kj1 =>
   have H := HA.out
   clear HA
   simp only [spec_MemoryOk.j0] at H
   by_cases c10 : x18_1 = true
   ·subst c10
    have H1 : (some false) = some r := by rw [if_pos rfl] at H; exact H
    clear H
    have H := H1
    clear H1
    obtain rfl := Option.some.inj H
    go_wp2
    go_ret
    exact ⟨zR, zG⟩
   ·replace c10 := Bool.eq_false_iff.mpr c10
    subst c10
    have H1 : (spec_MemoryOk.l0 kj1 0 a0_0 l0_1) = some r := by rw [if_neg (show ¬ (false = true) by decide)] at H; exact H
    clear H
    have H := H1
    clear H1
    have H' := Am H
    clear H
    go_wp2
    go_loopg [3] kj1 (fun kq v3 w' => ∃ (x3_2 : Int), v3 = .int .i64 x3_2 ∧ Aside0 (spec_MemoryOk.l0 kq x3_2 a0_0 l0_1 = some r) ∧ Aside0 (kq ≤ kj1) ∧ Aside0 (w'.heap[gb101]? = some (.cells #[.string a0_0, (.slice A0_1 l0_1.length c0_1)] 28 (0, 0))) ∧ Aside0 (Below w.heap.size w w'))
    case atStart => exact ⟨(0), (by first | rfl | (simp; done) | (simp [*]; done)), H', ⟨Nat.le_refl _⟩, ⟨by (with_reducible repeat (first | refine kn ?_ _ | refine ke ?_ | refine ka ?_ _)); exact BK101.out⟩, ⟨zG⟩⟩
    case round =>
     clear H'
     try clear c1; try clear p2; try clear c3; try clear c5; try clear c5b0; try clear c5b1; try clear c6; try clear c6b0; try clear c6b1; try clear p6; try clear c10; try clear p2; try clear p6
     obtain ⟨x3_2, rfl, HA, HK2, BK101, HB⟩ := hrel
     cases gk with
     | zero => exact absurd HA.out (by simp [spec_MemoryOk.l0])
     | succ k2 =>
      have H := HA.out
      clear HA
      simp only [spec_MemoryOk.l0] at H
      by_cases c11 : x3_2 < (l0_1.length : Int)
      ·rw [if_pos c11] at H
       have c11b0 : decide (x3_2 < (l0_1.length : Int)) = true := decide_eq_true c11
       clear c11
       by_cases c12 : 0 ≤ x3_2
       ·rw [if_pos c12] at H
        have c12b0 : decide (0 ≤ x3_2) = true := decide_eq_true c12
        clear c12
        replace H := Option.bind_eq_some_iff.mp H
        obtain ⟨t106, A130, H⟩ := H
        obtain rfl : (16 : Int) = t106 := Option.some.inj (show some (16 : Int) = some t106 from A130)
        replace H : (if (16 : Int) = 0 then (none) else ((spec_l01In.f ((rd_T49 l0_1 x3_2).f0) 0 (wrap64 ((wrap64 ((a0_0.size : Int) / (16 : Int))) - 1))).bind fun t107 => (if t107 = true then ((spec_l10Size.f).bind fun t108 => (if (((rd_T49 l0_1 x3_2).f1).size : Int) = t108 then (if x3_2 > 0 then (if 0 ≤ (wrap64 (x3_2 - 1)) then (if (wrap64 (x3_2 - 1)) < (l0_1.length : Int) then (if ((rd_T49 l0_1 (wrap64 (x3_2 - 1))).f0) ≥ ((rd_T49 l0_1 x3_2).f0) then (some false) else (spec_MemoryOk.l0 k2 (wrap64 (x3_2 + 1)) a0_0 l0_1)) else (none)) else (none)) else (spec_MemoryOk.l0 k2 (wrap64 (x3_2 + 1)) a0_0 l0_1)) else (some false))) else (some false)))) = some r := H
        have A13 := Am A130
        clear A130
        by_cases c14 : (16 : Int) = 0
        ·rw [if_pos c14] at H
         exact absurd H (by simp)
        ·rw [if_neg c14] at H
         have c14b0 : ((16 : Int) == 0) = false := beq_eq_false_iff_ne.mpr c14
         have c14b1 : ((16 : Int) != 0) = true := bne_iff_ne.mpr c14
         replace H := Option.bind_eq_some_iff.mp H
         obtain ⟨t107, A150, H⟩ := H
         replace H : (if t107 = true then ((spec_l10Size.f).bind fun t108 => (if (((rd_T49 l0_1 x3_2).f1).size : Int) = t108 then (if x3_2 > 0 then (if 0 ≤ (wrap64 (x3_2 - 1)) then (if (wrap64 (x3_2 - 1)) < (l0_1.length : Int) then (if ((rd_T49 l0_1 (wrap64 (x3_2 - 1))).f0) ≥ ((rd_T49 l0_1 x3_2).f0) then (some false) else (spec_MemoryOk.l0 k2 (wrap64 (x3_2 + 1)) a0_0 l0_1)) else (none)) else (none)) else (spec_MemoryOk.l0 k2 (wrap64 (x3_2 + 1)) a0_0 l0_1)) else (some false))) else (some false)) = some r := H
         have A15 := Am A150
         clear A150
         by_cases c16 : t107 = true
         ·subst c16
          have H1 : ((spec_l10Size.f).bind fun t108 => (if (((rd_T49 l0_1 x3_2).f1).size : Int) = t108 then (if x3_2 > 0 then (if 0 ≤ (wrap64 (x3_2 - 1)) then (if (wrap64 (x3_2 - 1)) < (l0_1.length : Int) then (if ((rd_T49 l0_1 (wrap64 (x3_2 - 1))).f0) ≥ ((rd_T49 l0_1 x3_2).f0) then (some false) else (spec_MemoryOk.l0 k2 (wrap64 (x3_2 + 1)) a0_0 l0_1)) else (none)) else (none)) else (spec_MemoryOk.l0 k2 (wrap64 (x3_2 + 1)) a0_0 l0_1)) else (some false))) = some r := by rw [if_pos rfl] at H; exact H
          clear H
          have H := H1
          clear H1
          replace H := Option.bind_eq_some_iff.mp H
          obtain ⟨t108, A170, H⟩ := H
          obtain rfl : (16 : Int) = t108 := Option.some.inj (show some (16 : Int) = some t108 from A170)
          replace H : (if (((rd_T49 l0_1 x3_2).f1).size : Int) = (16 : Int) then (if x3_2 > 0 then (if 0 ≤ (wrap64 (x3_2 - 1)) then (if (wrap64 (x3_2 - 1)) < (l0_1.length : Int) then (if ((rd_T49 l0_1 (wrap64 (x3_2 - 1))).f0) ≥ ((rd_T49 l0_1 x3_2).f0) then (some false) else (spec_MemoryOk.l0 k2 (wrap64 (x3_2 + 1)) a0_0 l0_1)) else (none)) else (none)) else (spec_MemoryOk.l0 k2 (wrap64 (x3_2 + 1)) a0_0 l0_1)) else (some false)) = some r := H
          have A17 := Am A170
          clear A170
          by_cases c18 : (((rd_T49 l0_1 x3_2).f1).size : Int) = (16 : Int)
          ·rw [if_pos c18] at H
           have c18b0 : ((((rd_T49 l0_1 x3_2).f1).size : Int) == (16 : Int)) = true := beq_iff_eq.mpr c18
           have c18b1 : ((((rd_T49 l0_1 x3_2).f1).size : Int) != (16 : Int)) = false := bne_eq_false_iff_eq.mpr c18
           clear c18
           by_cases c19 : x3_2 > 0
           ·rw [if_pos c19] at H
            have c19b0 : decide (0 < x3_2) = true := decide_eq_true c19
            clear c19
            obtain ⟨ji20, hji20⟩ : ∃ j_ : Int, (wrap64 (x3_2 - 1)) = j_ := ⟨_, rfl⟩
            replace H : (if 0 ≤ (ji20) then (if (ji20) < (l0_1.length : Int) then (if ((rd_T49 l0_1 (ji20)).f0) ≥ ((rd_T49 l0_1 x3_2).f0) then (some false) else (spec_MemoryOk.l0 k2 (wrap64 (x3_2 + 1)) a0_0 l0_1)) else (none)) else (none)) = some r := by first | (rw [hji20] at H; exact H) | (simp only [hji20] at H ⊢; exact H)
            (try rw [hji20] at A13)
            (try rw [hji20] at A15)
            (try rw [hji20] at A17)
            have hji20w : (IntKind.i64.wrap (x3_2 - 1)) = ji20 := (i64_w _).trans hji20
            by_cases c21 : 0 ≤ (ji20)
            ·rw [if_pos c21] at H
             have c21b0 : decide (0 ≤ (ji20)) = true := decide_eq_true c21
             clear c21
             by_cases c22 : (ji20) < (l0_1.length : Int)
             ·rw [if_pos c22] at H
              have c22b0 : decide ((ji20) < (l0_1.length : Int)) = true := decide_eq_true c22
              clear c22
              by_cases c23 : ((rd_T49 l0_1 (ji20)).f0) ≥ ((rd_T49 l0_1 x3_2).f0)
              ·rw [if_pos c23] at H
               have c23b0 : decide (((rd_T49 l0_1 x3_2).f0) ≤ ((rd_T49 l0_1 (ji20)).f0)) = true := decide_eq_true c23
               clear c23
               obtain rfl := Option.some.inj H
               obtain ⟨hcz24_0, hcz24_1⟩ := kc2 (w := wr) BK101.out
               have hfz24_0 := kf BK101.out
               have p104 : 0 ≤ (x3_2 : Int) := of_decide_eq_true (by first | (with_reducible assumption) | assumption)
               have q104 : x3_2 < (l0_1.length : Int) := of_decide_eq_true (by first | (with_reducible assumption) | assumption)
               obtain ⟨ad104, e104, hx104_0, hx104_1, hx104_2⟩ := at_T49 HR0_1.out x3_2 p104 q104
               cases e104
               replace hx104_0 := cl3 HB hx104_0
               replace hx104_1 := cl3 HB hx104_1
               replace hx104_2 := cl3 HB hx104_2
               replace p104 := eq_true p104
               replace q104 := eq_true q104
               try go_wp2_with (first | ((with_reducible refine gate_dst (N := 4) rfl ?_); (try (refine gate_guard (by rfl) ?_; dsimp only)); refine box_event ?hg (N := 4) ?hd (cs := #[.int .i64 0, .string (⟨#[]⟩ : ByteArray), .bool false]) (t := 49) ?hr ?_; (case hd => rfl); (case hg => rfl); (case hr => first | (go_simp; done) | (go_simp; rfl)); intro gb105 hg w25 hbox hb; have n0_ := Am (zK BK101 hb); have n1_ := Am (bq zG hb); have n2_ := Am (hbox); have n3_ := Am ((by rw [hg]; exact (bz zG) : w.heap.size ≤ gb105)); have n4_ := Am ((by rw [hg]; exact (bz zG) : w.heap.size ≤ gb105)); have n5_ := Am ((by rw [hg]; exact Nat.ne_of_lt (zL BK101) : gb101 ≠ gb105)); have n6_ := Am ((by rw [hg]; exact Nat.ne_of_gt (zL BK101) : gb105 ≠ gb101)); clear BK101; clear HB; have BK101 := n0_; have HB := n1_; have BK105 := n2_; have GW105 := n3_; have GE105 := n4_; have NB101_105 := n5_; have NB105_101 := n6_; clear n0_ n1_ n2_ n3_ n4_ n5_ n6_; clear hb hbox hg; have hnb26 := NB105_101.out; have hnc26 := NB101_105.out; obtain ⟨hcz27_0, hcz27_1, hcz27_2⟩ := kc3 (w := w25) BK105.out; have hfz27_0 := kf BK105.out))
               have n0_ : Aside0 ((((w25.setCell ⟨gb105, 0, none⟩ (.int .i64 ((rd_T49 l0_1 x3_2).f0))).setCell ⟨gb105, 1, none⟩ (.string ((rd_T49 l0_1 x3_2).f1))).setCell ⟨gb105, 2, none⟩ (.bool ((rd_T49 l0_1 x3_2).f2))).heap[gb101]? = some (.cells #[.string a0_0, .slice (some ad104) l0_1.length c0_1] 28 (0, 0))) := ⟨by (with_reducible repeat (first | refine kn ?_ _ | refine ke ?_ | refine ka ?_ _)); refine blk_far ?_ NB101_105.out _; (with_reducible repeat (first | refine kn ?_ _ | refine ke ?_ | refine ka ?_ _)); refine blk_far ?_ NB101_105.out _; (with_reducible repeat (first | refine kn ?_ _ | refine ke ?_ | refine ka ?_ _)); refine blk_far ?_ NB101_105.out _; (with_reducible repeat (first | refine kn ?_ _ | refine ke ?_ | refine ka ?_ _)); exact BK101.out⟩
               have n1_ : Aside0 ((((w25.setCell ⟨gb105, 0, none⟩ (.int .i64 ((rd_T49 l0_1 x3_2).f0))).setCell ⟨gb105, 1, none⟩ (.string ((rd_T49 l0_1 x3_2).f1))).setCell ⟨gb105, 2, none⟩ (.bool ((rd_T49 l0_1 x3_2).f2))).heap[gb105]? = some (.cells #[.int .i64 ((rd_T49 l0_1 x3_2).f0), .string ((rd_T49 l0_1 x3_2).f1), .bool ((rd_T49 l0_1 x3_2).f2)] 49 (0, 0))) := ⟨by (with_reducible repeat (first | refine kn ?_ _ | refine ke ?_ | refine ka ?_ _)); refine kp (cs := #[.int .i64 ((rd_T49 l0_1 x3_2).f0), .string ((rd_T49 l0_1 x3_2).f1), .bool false]) ?_ 2 _ rfl; (with_reducible repeat (first | refine kn ?_ _ | refine ke ?_ | refine ka ?_ _)); refine kp (cs := #[.int .i64 ((rd_T49 l0_1 x3_2).f0), .string (⟨#[]⟩ : ByteArray), .bool false]) ?_ 1 _ rfl; (with_reducible repeat (first | refine kn ?_ _ | refine ke ?_ | refine ka ?_ _)); refine kp (cs := #[.int .i64 0, .string (⟨#[]⟩ : ByteArray), .bool false]) ?_ 0 _ rfl; (with_reducible repeat (first | refine kn ?_ _ | refine ke ?_ | refine ka ?_ _)); exact BK105.out⟩
               have n2_ : Aside0 (Below w.heap.size w (((w25.setCell ⟨gb105, 0, none⟩ (.int .i64 ((rd_T49 l0_1 x3_2).f0))).setCell ⟨gb105, 1, none⟩ (.string ((rd_T49 l0_1 x3_2).f1))).setCell ⟨gb105, 2, none⟩ (.bool ((rd_T49 l0_1 x3_2).f2)))) := ⟨zG⟩
               (try clear BK101)
               (try clear BK105)
               (try clear HB)
               generalize (((w25.setCell ⟨gb105, 0, none⟩ (.int .i64 ((rd_T49 l0_1 x3_2).f0))).setCell ⟨gb105, 1, none⟩ (.string ((rd_T49 l0_1 x3_2).f1))).setCell ⟨gb105, 2, none⟩ (.bool ((rd_T49 l0_1 x3_2).f2))) = w28 at n0_ n1_ n2_ ⊢
               have BK101 := n0_
               have BK105 := n1_
               have HB := n2_
               clear n0_ n1_ n2_
               have n0_ := Am (ke BK101.out)
               have n1_ := Am (ke BK105.out)
               have n2_ := Am (be HB.out)
               clear BK101
               clear BK105
               clear HB
               have BK101 := n0_
               have BK105 := n1_
               have HB := n2_
               clear n0_ n1_ n2_
               have p109 : 0 ≤ ((ji20) : Int) := of_decide_eq_true (by first | (with_reducible assumption) | assumption)
               have q109 : (ji20) < (l0_1.length : Int) := of_decide_eq_true (by first | (with_reducible assumption) | assumption)
               obtain ⟨ad109, e109, hx109_0, hx109_1, hx109_2⟩ := at_T49 HR0_1.out (ji20) p109 q109
               have hw109_2 := hx109_2
               have hw109_1 := hx109_1
               have hw109_0 := hx109_0
               obtain rfl : ad104 = ad109 := (by injection e109)
               replace hx109_0 := cl3 HB hx109_0
               replace hx109_1 := cl3 HB hx109_1
               replace hx109_2 := cl3 HB hx109_2
               replace p109 := eq_true p109
               replace q109 := eq_true q109
               refine start_ (n := 33) (S := fun w' => w'.cell? ⟨gb105, 0, none⟩ = some (.int .i64 ((rd_T49 l0_1 x3_2).f0)) ∧ w'.cell? ⟨gb105, 1, none⟩ = some (.string ((rd_T49 l0_1 x3_2).f1)) ∧ w'.cell? ⟨gb105, 2, none⟩ = some (.bool ((rd_T49 l0_1 x3_2).f2)) ∧ w'.cell? ⟨gb101, 0, none⟩ = some (.string a0_0) ∧ w'.cell? ⟨gb101, 1, none⟩ = some (.slice (some ad104) l0_1.length c0_1) ∧ w'.cell? (ad104.add (((ji20)).toNat * 3)) = some (.int .i64 ((rd_T49 l0_1 (ji20)).f0)) ∧ w'.cell? ⟨(ad104.add (((ji20)).toNat * 3)).block, (ad104.add (((ji20)).toNat * 3)).off + 1, none⟩ = some (.string ((rd_T49 l0_1 (ji20)).f1)) ∧ w'.cell? ⟨(ad104.add (((ji20)).toNat * 3)).block, (ad104.add (((ji20)).toNat * 3)).off + 2, none⟩ = some (.bool ((rd_T49 l0_1 (ji20)).f2))) (ds := []) #[false, false, false, false, false, false, false, false, false, false, false, false, false, false, false, false, false, false, false, false, false, false, false, false, false, false, false, false, false, false, false, false, false] (by kernel_rfl) rfl rfl ⟨(kc BK105.out 0).trans rfl, (kc BK105.out 1).trans rfl, (kc BK105.out 2).trans rfl, (kc BK101.out 0).trans rfl, (kc BK101.out 1).trans rfl, (cl3 HB hw109_0), (cl3 HB hw109_1), (cl3 HB hw109_2)⟩ (fun hHeld => ?_); refine with_tabW spec_MemoryOk.tab7 spec_MemoryOk.bits7 (fun HT_ HW_ => ?_)
               generalize w28.drew = w29 at BK101 BK105 HB hx109_0 hx109_1 hx109_2 hHeld ⊢
               refine zA 0 (some 31) HT_.out rfl rfl ?_
               refine zA 2 (some 33) HT_.out rfl rfl ?_
               refine zT 1 (some 32) HT_.out HW_.out rfl rfl hHeld ?_
               refine zT 3 (some 34) HT_.out HW_.out rfl rfl hHeld ?_
               refine zA 4 (some 35) HT_.out rfl rfl ?_
               refine zO 5 (some 36) HT_.out rfl rfl (fun K hK => ?_)
               refine goes_ Try.func35 (by kernel_rfl) rfl #[] (by rfl) rfl rfl (by (try simp only [List.map_toArray, List.map_cons, List.map_nil]); first | done | rfl | (simp only [List.length_drop, List.length_take]; rfl)) ?_
               with_reducible refine (spec_l10Size.calls  (16 : Int) _ A13.out).mono ?_
               rintro e w' ⟨rfl, ⟨nd, rfl⟩⟩
               refine ⟨_, rfl, ?_⟩
               refine hK.out _ _ ⟨(kc BK105.out 0).trans rfl, (kc BK105.out 1).trans rfl, (kc BK105.out 2).trans rfl, (kc BK101.out 0).trans rfl, (kc BK101.out 1).trans rfl, (cl3 HB hw109_0 :), (cl3 HB hw109_1 :), (cl3 HB hw109_2 :)⟩ (fun hHeld => ?_)
               clear hK K
               refine zN (some 36) ?_
               refine zA 6 (some 37) HT_.out rfl rfl ?_
               refine zA 7 (some 38) HT_.out rfl rfl ?_
               refine zO 8 (some 39) HT_.out rfl rfl (fun K hK => ?_)
               refine goes_ Try.func36 (by kernel_rfl) rfl #[.int .i64 ((rd_T49 l0_1 x3_2).f0), .int .i64 0, .int .i64 (wrap64 ((wrap64 ((a0_0.size : Int) / (16 : Int))) - 1))] (by rfl) rfl rfl (by (try simp only [List.map_toArray, List.map_cons, List.map_nil]); first | done | rfl | (simp only [List.length_drop, List.length_take]; rfl)) ?_
               with_reducible refine (spec_l01In.calls ((rd_T49 l0_1 x3_2).f0) 0 (wrap64 ((wrap64 ((a0_0.size : Int) / (16 : Int))) - 1)) true _ A15.out).mono ?_
               rintro e w' ⟨rfl, ⟨nd, rfl⟩⟩
               refine ⟨_, rfl, ?_⟩
               refine hK.out _ _ ⟨(kc BK105.out 0).trans rfl, (kc BK105.out 1).trans rfl, (kc BK105.out 2).trans rfl, (kc BK101.out 0).trans rfl, (kc BK101.out 1).trans rfl, (cl3 HB hw109_0 :), (cl3 HB hw109_1 :), (cl3 HB hw109_2 :)⟩ (fun hHeld => ?_)
               clear hK K
               refine zN (some 39) ?_
               refine zA 9 (some 40) HT_.out rfl rfl ?_
               refine zA 10 (some 41) HT_.out rfl rfl ?_
               refine zA 11 (some 42) HT_.out rfl rfl ?_
               refine zT 12 (some 43) HT_.out HW_.out rfl rfl hHeld ?_
               refine zA 13 (some 44) HT_.out rfl rfl ?_
               refine zO 14 (some 45) HT_.out rfl rfl (fun K hK => ?_)
               refine goes_ Try.func35 (by kernel_rfl) rfl #[] (by rfl) rfl rfl (by (try simp only [List.map_toArray, List.map_cons, List.map_nil]); first | done | rfl | (simp only [List.length_drop, List.length_take]; rfl)) ?_
               with_reducible refine (spec_l10Size.calls  (16 : Int) _ A17.out).mono ?_
               rintro e w' ⟨rfl, ⟨nd, rfl⟩⟩
               refine ⟨_, rfl, ?_⟩
               refine hK.out _ _ ⟨(kc BK105.out 0).trans rfl, (kc BK105.out 1).trans rfl, (kc BK105.out 2).trans rfl, (kc BK101.out 0).trans rfl, (kc BK101.out 1).trans rfl, (cl3 HB hw109_0 :), (cl3 HB hw109_1 :), (cl3 HB hw109_2 :)⟩ (fun hHeld => ?_)
               clear hK K
               refine zN (some 45) ?_
               refine zA 15 (some 46) HT_.out rfl rfl ?_
               refine zA 16 (some 47) HT_.out rfl rfl ?_
               refine zA 17 (some 48) HT_.out rfl rfl ?_
               refine zA 18 (some 49) HT_.out rfl rfl ?_
               refine zA 19 (some 50) HT_.out rfl rfl ?_
               refine zA 20 (some 51) HT_.out rfl rfl ?_
               refine zA 21 (some 52) HT_.out rfl rfl ?_
               refine zA 23 (some 54) HT_.out rfl rfl ?_
               refine zA 24 (some 55) HT_.out rfl rfl ?_
               refine zA 28 (some 59) HT_.out rfl rfl ?_
               refine zT 22 (some 53) HT_.out HW_.out rfl rfl hHeld ?_
               refine zA 25 (some 56) HT_.out rfl rfl ?_
               refine zA 26 (some 57) HT_.out rfl rfl ?_
               refine zT 27 (some 58) HT_.out HW_.out rfl rfl hHeld ?_
               refine zT 29 (some 60) HT_.out HW_.out rfl rfl hHeld ?_
               refine zA 30 (some 61) HT_.out rfl rfl ?_
               refine zA 31 (some 62) HT_.out rfl rfl ?_
               refine zA 32 (some 63) HT_.out rfl rfl ?_
               refine done_ (done_of HT_.out (by kernel_rfl)) ?_
               try go_wp2
               go_ret
               exact ⟨by first | rfl | (simp [errW_none, errW_some] <;> rfl) | (simp only [← hji20]; first | rfl | (simp [errW_none, errW_some] <;> rfl)) | (simp [*, errW_none, errW_some] <;> rfl), zG⟩
              ·rw [if_neg c23] at H
               have c23b0 : decide (((rd_T49 l0_1 x3_2).f0) ≤ ((rd_T49 l0_1 (ji20)).f0)) = false := decide_eq_false c23
               clear c23
               have H' := Am H
               clear H
               obtain ⟨hcz30_0, hcz30_1⟩ := kc2 (w := wr) BK101.out
               have hfz30_0 := kf BK101.out
               have p104 : 0 ≤ (x3_2 : Int) := of_decide_eq_true (by first | (with_reducible assumption) | assumption)
               have q104 : x3_2 < (l0_1.length : Int) := of_decide_eq_true (by first | (with_reducible assumption) | assumption)
               obtain ⟨ad104, e104, hx104_0, hx104_1, hx104_2⟩ := at_T49 HR0_1.out x3_2 p104 q104
               cases e104
               replace hx104_0 := cl3 HB hx104_0
               replace hx104_1 := cl3 HB hx104_1
               replace hx104_2 := cl3 HB hx104_2
               replace p104 := eq_true p104
               replace q104 := eq_true q104
               try go_wp2_with (first | ((with_reducible refine gate_dst (N := 4) rfl ?_); (try (refine gate_guard (by rfl) ?_; dsimp only)); refine box_event ?hg (N := 4) ?hd (cs := #[.int .i64 0, .string (⟨#[]⟩ : ByteArray), .bool false]) (t := 49) ?hr ?_; (case hd => rfl); (case hg => rfl); (case hr => first | (go_simp; done) | (go_simp; rfl)); intro gb105 hg w31 hbox hb; have n0_ := Am (zK BK101 hb); have n1_ := Am (bq zG hb); have n2_ := Am (hbox); have n3_ := Am ((by rw [hg]; exact (bz zG) : w.heap.size ≤ gb105)); have n4_ := Am ((by rw [hg]; exact (bz zG) : w.heap.size ≤ gb105)); have n5_ := Am ((by rw [hg]; exact Nat.ne_of_lt (zL BK101) : gb101 ≠ gb105)); have n6_ := Am ((by rw [hg]; exact Nat.ne_of_gt (zL BK101) : gb105 ≠ gb101)); clear BK101; clear HB; have BK101 := n0_; have HB := n1_; have BK105 := n2_; have GW105 := n3_; have GE105 := n4_; have NB101_105 := n5_; have NB105_101 := n6_; clear n0_ n1_ n2_ n3_ n4_ n5_ n6_; clear hb hbox hg; have hnb32 := NB105_101.out; have hnc32 := NB101_105.out; obtain ⟨hcz33_0, hcz33_1, hcz33_2⟩ := kc3 (w := w31) BK105.out; have hfz33_0 := kf BK105.out))
               have n0_ : Aside0 ((((w31.setCell ⟨gb105, 0, none⟩ (.int .i64 ((rd_T49 l0_1 x3_2).f0))).setCell ⟨gb105, 1, none⟩ (.string ((rd_T49 l0_1 x3_2).f1))).setCell ⟨gb105, 2, none⟩ (.bool ((rd_T49 l0_1 x3_2).f2))).heap[gb101]? = some (.cells #[.string a0_0, .slice (some ad104) l0_1.length c0_1] 28 (0, 0))) := ⟨by (with_reducible repeat (first | refine kn ?_ _ | refine ke ?_ | refine ka ?_ _)); refine blk_far ?_ NB101_105.out _; (with_reducible repeat (first | refine kn ?_ _ | refine ke ?_ | refine ka ?_ _)); refine blk_far ?_ NB101_105.out _; (with_reducible repeat (first | refine kn ?_ _ | refine ke ?_ | refine ka ?_ _)); refine blk_far ?_ NB101_105.out _; (with_reducible repeat (first | refine kn ?_ _ | refine ke ?_ | refine ka ?_ _)); exact BK101.out⟩
               have n1_ : Aside0 ((((w31.setCell ⟨gb105, 0, none⟩ (.int .i64 ((rd_T49 l0_1 x3_2).f0))).setCell ⟨gb105, 1, none⟩ (.string ((rd_T49 l0_1 x3_2).f1))).setCell ⟨gb105, 2, none⟩ (.bool ((rd_T49 l0_1 x3_2).f2))).heap[gb105]? = some (.cells #[.int .i64 ((rd_T49 l0_1 x3_2).f0), .string ((rd_T49 l0_1 x3_2).f1), .bool ((rd_T49 l0_1 x3_2).f2)] 49 (0, 0))) := ⟨by (with_reducible repeat (first | refine kn ?_ _ | refine ke ?_ | refine ka ?_ _)); refine kp (cs := #[.int .i64 ((rd_T49 l0_1 x3_2).f0), .string ((rd_T49 l0_1 x3_2).f1), .bool false]) ?_ 2 _ rfl; (with_reducible repeat (first | refine kn ?_ _ | refine ke ?_ | refine ka ?_ _)); refine kp (cs := #[.int .i64 ((rd_T49 l0_1 x3_2).f0), .string (⟨#[]⟩ : ByteArray), .bool false]) ?_ 1 _ rfl; (with_reducible repeat (first | refine kn ?_ _ | refine ke ?_ | refine ka ?_ _)); refine kp (cs := #[.int .i64 0, .string (⟨#[]⟩ : ByteArray), .bool false]) ?_ 0 _ rfl; (with_reducible repeat (first | refine kn ?_ _ | refine ke ?_ | refine ka ?_ _)); exact BK105.out⟩
               have n2_ : Aside0 (Below w.heap.size w (((w31.setCell ⟨gb105, 0, none⟩ (.int .i64 ((rd_T49 l0_1 x3_2).f0))).setCell ⟨gb105, 1, none⟩ (.string ((rd_T49 l0_1 x3_2).f1))).setCell ⟨gb105, 2, none⟩ (.bool ((rd_T49 l0_1 x3_2).f2)))) := ⟨zG⟩
               (try clear BK101)
               (try clear BK105)
               (try clear HB)
               generalize (((w31.setCell ⟨gb105, 0, none⟩ (.int .i64 ((rd_T49 l0_1 x3_2).f0))).setCell ⟨gb105, 1, none⟩ (.string ((rd_T49 l0_1 x3_2).f1))).setCell ⟨gb105, 2, none⟩ (.bool ((rd_T49 l0_1 x3_2).f2))) = w34 at n0_ n1_ n2_ ⊢
               have BK101 := n0_
               have BK105 := n1_
               have HB := n2_
               clear n0_ n1_ n2_
               have n0_ := Am (ke BK101.out)
               have n1_ := Am (ke BK105.out)
               have n2_ := Am (be HB.out)
               clear BK101
               clear BK105
               clear HB
               have BK101 := n0_
               have BK105 := n1_
               have HB := n2_
               clear n0_ n1_ n2_
               have p109 : 0 ≤ ((ji20) : Int) := of_decide_eq_true (by first | (with_reducible assumption) | assumption)
               have q109 : (ji20) < (l0_1.length : Int) := of_decide_eq_true (by first | (with_reducible assumption) | assumption)
               obtain ⟨ad109, e109, hx109_0, hx109_1, hx109_2⟩ := at_T49 HR0_1.out (ji20) p109 q109
               have hw109_2 := hx109_2
               have hw109_1 := hx109_1
               have hw109_0 := hx109_0
               obtain rfl : ad104 = ad109 := (by injection e109)
               replace hx109_0 := cl3 HB hx109_0
               replace hx109_1 := cl3 HB hx109_1
               replace hx109_2 := cl3 HB hx109_2
               replace p109 := eq_true p109
               replace q109 := eq_true q109
               refine start_ (n := 33) (S := fun w' => w'.cell? ⟨gb105, 0, none⟩ = some (.int .i64 ((rd_T49 l0_1 x3_2).f0)) ∧ w'.cell? ⟨gb105, 1, none⟩ = some (.string ((rd_T49 l0_1 x3_2).f1)) ∧ w'.cell? ⟨gb105, 2, none⟩ = some (.bool ((rd_T49 l0_1 x3_2).f2)) ∧ w'.cell? ⟨gb101, 0, none⟩ = some (.string a0_0) ∧ w'.cell? ⟨gb101, 1, none⟩ = some (.slice (some ad104) l0_1.length c0_1) ∧ w'.cell? (ad104.add (((ji20)).toNat * 3)) = some (.int .i64 ((rd_T49 l0_1 (ji20)).f0)) ∧ w'.cell? ⟨(ad104.add (((ji20)).toNat * 3)).block, (ad104.add (((ji20)).toNat * 3)).off + 1, none⟩ = some (.string ((rd_T49 l0_1 (ji20)).f1)) ∧ w'.cell? ⟨(ad104.add (((ji20)).toNat * 3)).block, (ad104.add (((ji20)).toNat * 3)).off + 2, none⟩ = some (.bool ((rd_T49 l0_1 (ji20)).f2))) (ds := []) #[false, false, false, false, false, false, false, false, false, false, false, false, false, false, false, false, false, false, false, false, false, false, false, false, false, false, false, false, false, false, false, false, false] (by kernel_rfl) rfl rfl ⟨(kc BK105.out 0).trans rfl, (kc BK105.out 1).trans rfl, (kc BK105.out 2).trans rfl, (kc BK101.out 0).trans rfl, (kc BK101.out 1).trans rfl, (cl3 HB hw109_0), (cl3 HB hw109_1), (cl3 HB hw109_2)⟩ (fun hHeld => ?_); refine with_tabW spec_MemoryOk.tab7 spec_MemoryOk.bits7 (fun HT_ HW_ => ?_)
               generalize w34.drew = w35 at BK101 BK105 HB hx109_0 hx109_1 hx109_2 hHeld ⊢
               refine zA 0 (some 31) HT_.out rfl rfl ?_
               refine zA 2 (some 33) HT_.out rfl rfl ?_
               refine zT 1 (some 32) HT_.out HW_.out rfl rfl hHeld ?_
               refine zT 3 (some 34) HT_.out HW_.out rfl rfl hHeld ?_
               refine zA 4 (some 35) HT_.out rfl rfl ?_
               refine zO 5 (some 36) HT_.out rfl rfl (fun K hK => ?_)
               refine goes_ Try.func35 (by kernel_rfl) rfl #[] (by rfl) rfl rfl (by (try simp only [List.map_toArray, List.map_cons, List.map_nil]); first | done | rfl | (simp only [List.length_drop, List.length_take]; rfl)) ?_
               with_reducible refine (spec_l10Size.calls  (16 : Int) _ A13.out).mono ?_
               rintro e w' ⟨rfl, ⟨nd, rfl⟩⟩
               refine ⟨_, rfl, ?_⟩
               refine hK.out _ _ ⟨(kc BK105.out 0).trans rfl, (kc BK105.out 1).trans rfl, (kc BK105.out 2).trans rfl, (kc BK101.out 0).trans rfl, (kc BK101.out 1).trans rfl, (cl3 HB hw109_0 :), (cl3 HB hw109_1 :), (cl3 HB hw109_2 :)⟩ (fun hHeld => ?_)
               clear hK K
               refine zN (some 36) ?_
               refine zA 6 (some 37) HT_.out rfl rfl ?_
               refine zA 7 (some 38) HT_.out rfl rfl ?_
               refine zO 8 (some 39) HT_.out rfl rfl (fun K hK => ?_)
               refine goes_ Try.func36 (by kernel_rfl) rfl #[.int .i64 ((rd_T49 l0_1 x3_2).f0), .int .i64 0, .int .i64 (wrap64 ((wrap64 ((a0_0.size : Int) / (16 : Int))) - 1))] (by rfl) rfl rfl (by (try simp only [List.map_toArray, List.map_cons, List.map_nil]); first | done | rfl | (simp only [List.length_drop, List.length_take]; rfl)) ?_
               with_reducible refine (spec_l01In.calls ((rd_T49 l0_1 x3_2).f0) 0 (wrap64 ((wrap64 ((a0_0.size : Int) / (16 : Int))) - 1)) true _ A15.out).mono ?_
               rintro e w' ⟨rfl, ⟨nd, rfl⟩⟩
               refine ⟨_, rfl, ?_⟩
               refine hK.out _ _ ⟨(kc BK105.out 0).trans rfl, (kc BK105.out 1).trans rfl, (kc BK105.out 2).trans rfl, (kc BK101.out 0).trans rfl, (kc BK101.out 1).trans rfl, (cl3 HB hw109_0 :), (cl3 HB hw109_1 :), (cl3 HB hw109_2 :)⟩ (fun hHeld => ?_)
               clear hK K
               refine zN (some 39) ?_
               refine zA 9 (some 40) HT_.out rfl rfl ?_
               refine zA 10 (some 41) HT_.out rfl rfl ?_
               refine zA 11 (some 42) HT_.out rfl rfl ?_
               refine zT 12 (some 43) HT_.out HW_.out rfl rfl hHeld ?_
               refine zA 13 (some 44) HT_.out rfl rfl ?_
               refine zO 14 (some 45) HT_.out rfl rfl (fun K hK => ?_)
               refine goes_ Try.func35 (by kernel_rfl) rfl #[] (by rfl) rfl rfl (by (try simp only [List.map_toArray, List.map_cons, List.map_nil]); first | done | rfl | (simp only [List.length_drop, List.length_take]; rfl)) ?_
               with_reducible refine (spec_l10Size.calls  (16 : Int) _ A17.out).mono ?_
               rintro e w' ⟨rfl, ⟨nd, rfl⟩⟩
               refine ⟨_, rfl, ?_⟩
               refine hK.out _ _ ⟨(kc BK105.out 0).trans rfl, (kc BK105.out 1).trans rfl, (kc BK105.out 2).trans rfl, (kc BK101.out 0).trans rfl, (kc BK101.out 1).trans rfl, (cl3 HB hw109_0 :), (cl3 HB hw109_1 :), (cl3 HB hw109_2 :)⟩ (fun hHeld => ?_)
               clear hK K
               refine zN (some 45) ?_
               refine zA 15 (some 46) HT_.out rfl rfl ?_
               refine zA 16 (some 47) HT_.out rfl rfl ?_
               refine zA 17 (some 48) HT_.out rfl rfl ?_
               refine zA 18 (some 49) HT_.out rfl rfl ?_
               refine zA 19 (some 50) HT_.out rfl rfl ?_
               refine zA 20 (some 51) HT_.out rfl rfl ?_
               refine zA 21 (some 52) HT_.out rfl rfl ?_
               refine zA 23 (some 54) HT_.out rfl rfl ?_
               refine zA 24 (some 55) HT_.out rfl rfl ?_
               refine zA 28 (some 59) HT_.out rfl rfl ?_
               refine zT 22 (some 53) HT_.out HW_.out rfl rfl hHeld ?_
               refine zA 25 (some 56) HT_.out rfl rfl ?_
               refine zA 26 (some 57) HT_.out rfl rfl ?_
               refine zT 27 (some 58) HT_.out HW_.out rfl rfl hHeld ?_
               refine zT 29 (some 60) HT_.out HW_.out rfl rfl hHeld ?_
               refine zA 30 (some 61) HT_.out rfl rfl ?_
               refine zA 31 (some 62) HT_.out rfl rfl ?_
               refine zA 32 (some 63) HT_.out rfl rfl ?_
               refine done_ (done_of HT_.out (by kernel_rfl)) ?_
               try go_wp2
               go_roundg k2
               case measure => have := HJ1.out; have := HK2.out; omega
               case rel => exact ⟨(wrap64 (x3_2 + 1)), (by first | rfl | (simp; done) | (simp [*]; done)), H', ⟨by have := HJ1.out; have := HK2.out; omega⟩, ⟨by (with_reducible repeat (first | refine kn ?_ _ | refine ke ?_ | refine ka ?_ _)); exact BK101.out⟩, ⟨zG⟩⟩
             ·rw [if_neg c22] at H
              exact absurd H (by simp)
            ·rw [if_neg c21] at H
             exact absurd H (by simp)
           ·rw [if_neg c19] at H
            have c19b0 : decide (0 < x3_2) = false := decide_eq_false c19
            clear c19
            have H' := Am H
            clear H
            obtain ⟨hcz36_0, hcz36_1⟩ := kc2 (w := wr) BK101.out
            have hfz36_0 := kf BK101.out
            have p104 : 0 ≤ (x3_2 : Int) := of_decide_eq_true (by first | (with_reducible assumption) | assumption)
            have q104 : x3_2 < (l0_1.length : Int) := of_decide_eq_true (by first | (with_reducible assumption) | assumption)
            obtain ⟨ad104, e104, hx104_0, hx104_1, hx104_2⟩ := at_T49 HR0_1.out x3_2 p104 q104
            cases e104
            replace hx104_0 := cl3 HB hx104_0
            replace hx104_1 := cl3 HB hx104_1
            replace hx104_2 := cl3 HB hx104_2
            replace p104 := eq_true p104
            replace q104 := eq_true q104
            try go_wp2_with (first | ((with_reducible refine gate_dst (N := 4) rfl ?_); (try (refine gate_guard (by rfl) ?_; dsimp only)); refine box_event ?hg (N := 4) ?hd (cs := #[.int .i64 0, .string (⟨#[]⟩ : ByteArray), .bool false]) (t := 49) ?hr ?_; (case hd => rfl); (case hg => rfl); (case hr => first | (go_simp; done) | (go_simp; rfl)); intro gb105 hg w37 hbox hb; have n0_ := Am (zK BK101 hb); have n1_ := Am (bq zG hb); have n2_ := Am (hbox); have n3_ := Am ((by rw [hg]; exact (bz zG) : w.heap.size ≤ gb105)); have n4_ := Am ((by rw [hg]; exact (bz zG) : w.heap.size ≤ gb105)); have n5_ := Am ((by rw [hg]; exact Nat.ne_of_lt (zL BK101) : gb101 ≠ gb105)); have n6_ := Am ((by rw [hg]; exact Nat.ne_of_gt (zL BK101) : gb105 ≠ gb101)); clear BK101; clear HB; have BK101 := n0_; have HB := n1_; have BK105 := n2_; have GW105 := n3_; have GE105 := n4_; have NB101_105 := n5_; have NB105_101 := n6_; clear n0_ n1_ n2_ n3_ n4_ n5_ n6_; clear hb hbox hg; have hnb38 := NB105_101.out; have hnc38 := NB101_105.out; obtain ⟨hcz39_0, hcz39_1, hcz39_2⟩ := kc3 (w := w37) BK105.out; have hfz39_0 := kf BK105.out))
            have n0_ : Aside0 ((((w37.setCell ⟨gb105, 0, none⟩ (.int .i64 ((rd_T49 l0_1 x3_2).f0))).setCell ⟨gb105, 1, none⟩ (.string ((rd_T49 l0_1 x3_2).f1))).setCell ⟨gb105, 2, none⟩ (.bool ((rd_T49 l0_1 x3_2).f2))).heap[gb101]? = some (.cells #[.string a0_0, .slice (some ad104) l0_1.length c0_1] 28 (0, 0))) := ⟨by (with_reducible repeat (first | refine kn ?_ _ | refine ke ?_ | refine ka ?_ _)); refine blk_far ?_ NB101_105.out _; (with_reducible repeat (first | refine kn ?_ _ | refine ke ?_ | refine ka ?_ _)); refine blk_far ?_ NB101_105.out _; (with_reducible repeat (first | refine kn ?_ _ | refine ke ?_ | refine ka ?_ _)); refine blk_far ?_ NB101_105.out _; (with_reducible repeat (first | refine kn ?_ _ | refine ke ?_ | refine ka ?_ _)); exact BK101.out⟩
            have n1_ : Aside0 ((((w37.setCell ⟨gb105, 0, none⟩ (.int .i64 ((rd_T49 l0_1 x3_2).f0))).setCell ⟨gb105, 1, none⟩ (.string ((rd_T49 l0_1 x3_2).f1))).setCell ⟨gb105, 2, none⟩ (.bool ((rd_T49 l0_1 x3_2).f2))).heap[gb105]? = some (.cells #[.int .i64 ((rd_T49 l0_1 x3_2).f0), .string ((rd_T49 l0_1 x3_2).f1), .bool ((rd_T49 l0_1 x3_2).f2)] 49 (0, 0))) := ⟨by (with_reducible repeat (first | refine kn ?_ _ | refine ke ?_ | refine ka ?_ _)); refine kp (cs := #[.int .i64 ((rd_T49 l0_1 x3_2).f0), .string ((rd_T49 l0_1 x3_2).f1), .bool false]) ?_ 2 _ rfl; (with_reducible repeat (first | refine kn ?_ _ | refine ke ?_ | refine ka ?_ _)); refine kp (cs := #[.int .i64 ((rd_T49 l0_1 x3_2).f0), .string (⟨#[]⟩ : ByteArray), .bool false]) ?_ 1 _ rfl; (with_reducible repeat (first | refine kn ?_ _ | refine ke ?_ | refine ka ?_ _)); refine kp (cs := #[.int .i64 0, .string (⟨#[]⟩ : ByteArray), .bool false]) ?_ 0 _ rfl; (with_reducible repeat (first | refine kn ?_ _ | refine ke ?_ | refine ka ?_ _)); exact BK105.out⟩
            have n2_ : Aside0 (Below w.heap.size w (((w37.setCell ⟨gb105, 0, none⟩ (.int .i64 ((rd_T49 l0_1 x3_2).f0))).setCell ⟨gb105, 1, none⟩ (.string ((rd_T49 l0_1 x3_2).f1))).setCell ⟨gb105, 2, none⟩ (.bool ((rd_T49 l0_1 x3_2).f2)))) := ⟨zG⟩
            (try clear BK101)
            (try clear BK105)
            (try clear HB)
            generalize (((w37.setCell ⟨gb105, 0, none⟩ (.int .i64 ((rd_T49 l0_1 x3_2).f0))).setCell ⟨gb105, 1, none⟩ (.string ((rd_T49 l0_1 x3_2).f1))).setCell ⟨gb105, 2, none⟩ (.bool ((rd_T49 l0_1 x3_2).f2))) = w40 at n0_ n1_ n2_ ⊢
            have BK101 := n0_
            have BK105 := n1_
            have HB := n2_
            clear n0_ n1_ n2_
            have n0_ := Am (ke BK101.out)
            have n1_ := Am (ke BK105.out)
            have n2_ := Am (be HB.out)
            clear BK101
            clear BK105
            clear HB
            have BK101 := n0_
            have BK105 := n1_
            have HB := n2_
            clear n0_ n1_ n2_
            refine start_ (n := 33) (S := fun w' => w'.cell? ⟨gb105, 0, none⟩ = some (.int .i64 ((rd_T49 l0_1 x3_2).f0)) ∧ w'.cell? ⟨gb105, 1, none⟩ = some (.string ((rd_T49 l0_1 x3_2).f1)) ∧ w'.cell? ⟨gb105, 2, none⟩ = some (.bool ((rd_T49 l0_1 x3_2).f2)) ∧ w'.cell? ⟨gb101, 0, none⟩ = some (.string a0_0) ∧ w'.cell? ⟨gb101, 1, none⟩ = some (.slice (some ad104) l0_1.length c0_1)) (ds := []) #[false, false, false, false, false, false, false, false, false, false, false, false, false, false, false, false, false, false, false, false, false, false, false, false, false, false, false, false, false, false, false, false, false] (by kernel_rfl) rfl rfl ⟨(kc BK105.out 0).trans rfl, (kc BK105.out 1).trans rfl, (kc BK105.out 2).trans rfl, (kc BK101.out 0).trans rfl, (kc BK101.out 1).trans rfl⟩ (fun hHeld => ?_); refine with_tabW spec_MemoryOk.tab7 spec_MemoryOk.bits7 (fun HT_ HW_ => ?_)
            generalize w40.drew = w41 at BK101 BK105 HB hHeld ⊢
            refine zA 0 (some 31) HT_.out rfl rfl ?_
            refine zA 2 (some 33) HT_.out rfl rfl ?_
            refine zT 1 (some 32) HT_.out HW_.out rfl rfl hHeld ?_
            refine zT 3 (some 34) HT_.out HW_.out rfl rfl hHeld ?_
            refine zA 4 (some 35) HT_.out rfl rfl ?_
            refine zO 5 (some 36) HT_.out rfl rfl (fun K hK => ?_)
            refine goes_ Try.func35 (by kernel_rfl) rfl #[] (by rfl) rfl rfl (by (try simp only [List.map_toArray, List.map_cons, List.map_nil]); first | done | rfl | (simp only [List.length_drop, List.length_take]; rfl)) ?_
            with_reducible refine (spec_l10Size.calls  (16 : Int) _ A13.out).mono ?_
            rintro e w' ⟨rfl, ⟨nd, rfl⟩⟩
            refine ⟨_, rfl, ?_⟩
            refine hK.out _ _ ⟨(kc BK105.out 0).trans rfl, (kc BK105.out 1).trans rfl, (kc BK105.out 2).trans rfl, (kc BK101.out 0).trans rfl, (kc BK101.out 1).trans rfl⟩ (fun hHeld => ?_)
            clear hK K
            refine zN (some 36) ?_
            refine zA 6 (some 37) HT_.out rfl rfl ?_
            refine zA 7 (some 38) HT_.out rfl rfl ?_
            refine zO 8 (some 39) HT_.out rfl rfl (fun K hK => ?_)
            refine goes_ Try.func36 (by kernel_rfl) rfl #[.int .i64 ((rd_T49 l0_1 x3_2).f0), .int .i64 0, .int .i64 (wrap64 ((wrap64 ((a0_0.size : Int) / (16 : Int))) - 1))] (by rfl) rfl rfl (by (try simp only [List.map_toArray, List.map_cons, List.map_nil]); first | done | rfl | (simp only [List.length_drop, List.length_take]; rfl)) ?_
            with_reducible refine (spec_l01In.calls ((rd_T49 l0_1 x3_2).f0) 0 (wrap64 ((wrap64 ((a0_0.size : Int) / (16 : Int))) - 1)) true _ A15.out).mono ?_
            rintro e w' ⟨rfl, ⟨nd, rfl⟩⟩
            refine ⟨_, rfl, ?_⟩
            refine hK.out _ _ ⟨(kc BK105.out 0).trans rfl, (kc BK105.out 1).trans rfl, (kc BK105.out 2).trans rfl, (kc BK101.out 0).trans rfl, (kc BK101.out 1).trans rfl⟩ (fun hHeld => ?_)
            clear hK K
            refine zN (some 39) ?_
            refine zA 9 (some 40) HT_.out rfl rfl ?_
            refine zA 10 (some 41) HT_.out rfl rfl ?_
            refine zA 11 (some 42) HT_.out rfl rfl ?_
            refine zT 12 (some 43) HT_.out HW_.out rfl rfl hHeld ?_
            refine zA 13 (some 44) HT_.out rfl rfl ?_
            refine zO 14 (some 45) HT_.out rfl rfl (fun K hK => ?_)
            refine goes_ Try.func35 (by kernel_rfl) rfl #[] (by rfl) rfl rfl (by (try simp only [List.map_toArray, List.map_cons, List.map_nil]); first | done | rfl | (simp only [List.length_drop, List.length_take]; rfl)) ?_
            with_reducible refine (spec_l10Size.calls  (16 : Int) _ A17.out).mono ?_
            rintro e w' ⟨rfl, ⟨nd, rfl⟩⟩
            refine ⟨_, rfl, ?_⟩
            refine hK.out _ _ ⟨(kc BK105.out 0).trans rfl, (kc BK105.out 1).trans rfl, (kc BK105.out 2).trans rfl, (kc BK101.out 0).trans rfl, (kc BK101.out 1).trans rfl⟩ (fun hHeld => ?_)
            clear hK K
            refine zN (some 45) ?_
            refine zA 15 (some 46) HT_.out rfl rfl ?_
            refine zA 16 (some 47) HT_.out rfl rfl ?_
            refine zA 17 (some 48) HT_.out rfl rfl ?_
            refine zA 18 (some 49) HT_.out rfl rfl ?_
            refine zA 19 (some 50) HT_.out rfl rfl ?_
            refine zA 20 (some 51) HT_.out rfl rfl ?_
            refine zI 21 (some 52) HT_.out rfl rfl ?_
            refine zI 22 (some 53) HT_.out rfl rfl ?_
            refine zI 23 (some 54) HT_.out rfl rfl ?_
            refine zI 24 (some 55) HT_.out rfl rfl ?_
            refine zI 25 (some 56) HT_.out rfl rfl ?_
            refine zI 26 (some 57) HT_.out rfl rfl ?_
            refine zI 27 (some 58) HT_.out rfl rfl ?_
            refine zI 28 (some 59) HT_.out rfl rfl ?_
            refine zI 29 (some 60) HT_.out rfl rfl ?_
            refine zI 30 (some 61) HT_.out rfl rfl ?_
            refine zA 31 (some 62) HT_.out rfl rfl ?_
            refine zA 32 (some 63) HT_.out rfl rfl ?_
            refine done_ (done_of HT_.out (by kernel_rfl)) ?_
            try go_wp2
            go_roundg k2
            case measure => have := HJ1.out; have := HK2.out; omega
            case rel => exact ⟨(wrap64 (x3_2 + 1)), (by first | rfl | (simp; done) | (simp [*]; done)), H', ⟨by have := HJ1.out; have := HK2.out; omega⟩, ⟨by (with_reducible repeat (first | refine kn ?_ _ | refine ke ?_ | refine ka ?_ _)); exact BK101.out⟩, ⟨zG⟩⟩
          ·rw [if_neg c18] at H
           have c18b0 : ((((rd_T49 l0_1 x3_2).f1).size : Int) == (16 : Int)) = false := beq_eq_false_iff_ne.mpr c18
           have c18b1 : ((((rd_T49 l0_1 x3_2).f1).size : Int) != (16 : Int)) = true := bne_iff_ne.mpr c18
           obtain rfl := Option.some.inj H
           obtain ⟨hcz42_0, hcz42_1⟩ := kc2 (w := wr) BK101.out
           have hfz42_0 := kf BK101.out
           have p104 : 0 ≤ (x3_2 : Int) := of_decide_eq_true (by first | (with_reducible assumption) | assumption)
           have q104 : x3_2 < (l0_1.length : Int) := of_decide_eq_true (by first | (with_reducible assumption) | assumption)
           obtain ⟨ad104, e104, hx104_0, hx104_1, hx104_2⟩ := at_T49 HR0_1.out x3_2 p104 q104
           cases e104
           replace hx104_0 := cl3 HB hx104_0
           replace hx104_1 := cl3 HB hx104_1
           replace hx104_2 := cl3 HB hx104_2
           replace p104 := eq_true p104
           replace q104 := eq_true q104
           try go_wp2_with (first | ((with_reducible refine gate_dst (N := 4) rfl ?_); (try (refine gate_guard (by rfl) ?_; dsimp only)); refine box_event ?hg (N := 4) ?hd (cs := #[.int .i64 0, .string (⟨#[]⟩ : ByteArray), .bool false]) (t := 49) ?hr ?_; (case hd => rfl); (case hg => rfl); (case hr => first | (go_simp; done) | (go_simp; rfl)); intro gb105 hg w43 hbox hb; have n0_ := Am (zK BK101 hb); have n1_ := Am (bq zG hb); have n2_ := Am (hbox); have n3_ := Am ((by rw [hg]; exact (bz zG) : w.heap.size ≤ gb105)); have n4_ := Am ((by rw [hg]; exact (bz zG) : w.heap.size ≤ gb105)); have n5_ := Am ((by rw [hg]; exact Nat.ne_of_lt (zL BK101) : gb101 ≠ gb105)); have n6_ := Am ((by rw [hg]; exact Nat.ne_of_gt (zL BK101) : gb105 ≠ gb101)); clear BK101; clear HB; have BK101 := n0_; have HB := n1_; have BK105 := n2_; have GW105 := n3_; have GE105 := n4_; have NB101_105 := n5_; have NB105_101 := n6_; clear n0_ n1_ n2_ n3_ n4_ n5_ n6_; clear hb hbox hg; have hnb44 := NB105_101.out; have hnc44 := NB101_105.out; obtain ⟨hcz45_0, hcz45_1, hcz45_2⟩ := kc3 (w := w43) BK105.out; have hfz45_0 := kf BK105.out))
           have n0_ : Aside0 ((((w43.setCell ⟨gb105, 0, none⟩ (.int .i64 ((rd_T49 l0_1 x3_2).f0))).setCell ⟨gb105, 1, none⟩ (.string ((rd_T49 l0_1 x3_2).f1))).setCell ⟨gb105, 2, none⟩ (.bool ((rd_T49 l0_1 x3_2).f2))).heap[gb101]? = some (.cells #[.string a0_0, .slice (some ad104) l0_1.length c0_1] 28 (0, 0))) := ⟨by (with_reducible repeat (first | refine kn ?_ _ | refine ke ?_ | refine ka ?_ _)); refine blk_far ?_ NB101_105.out _; (with_reducible repeat (first | refine kn ?_ _ | refine ke ?_ | refine ka ?_ _)); refine blk_far ?_ NB101_105.out _; (with_reducible repeat (first | refine kn ?_ _ | refine ke ?_ | refine ka ?_ _)); refine blk_far ?_ NB101_105.out _; (with_reducible repeat (first | refine kn ?_ _ | refine ke ?_ | refine ka ?_ _)); exact BK101.out⟩
           have n1_ : Aside0 ((((w43.setCell ⟨gb105, 0, none⟩ (.int .i64 ((rd_T49 l0_1 x3_2).f0))).setCell ⟨gb105, 1, none⟩ (.string ((rd_T49 l0_1 x3_2).f1))).setCell ⟨gb105, 2, none⟩ (.bool ((rd_T49 l0_1 x3_2).f2))).heap[gb105]? = some (.cells #[.int .i64 ((rd_T49 l0_1 x3_2).f0), .string ((rd_T49 l0_1 x3_2).f1), .bool ((rd_T49 l0_1 x3_2).f2)] 49 (0, 0))) := ⟨by (with_reducible repeat (first | refine kn ?_ _ | refine ke ?_ | refine ka ?_ _)); refine kp (cs := #[.int .i64 ((rd_T49 l0_1 x3_2).f0), .string ((rd_T49 l0_1 x3_2).f1), .bool false]) ?_ 2 _ rfl; (with_reducible repeat (first | refine kn ?_ _ | refine ke ?_ | refine ka ?_ _)); refine kp (cs := #[.int .i64 ((rd_T49 l0_1 x3_2).f0), .string (⟨#[]⟩ : ByteArray), .bool false]) ?_ 1 _ rfl; (with_reducible repeat (first | refine kn ?_ _ | refine ke ?_ | refine ka ?_ _)); refine kp (cs := #[.int .i64 0, .string (⟨#[]⟩ : ByteArray), .bool false]) ?_ 0 _ rfl; (with_reducible repeat (first | refine kn ?_ _ | refine ke ?_ | refine ka ?_ _)); exact BK105.out⟩
           have n2_ : Aside0 (Below w.heap.size w (((w43.setCell ⟨gb105, 0, none⟩ (.int .i64 ((rd_T49 l0_1 x3_2).f0))).setCell ⟨gb105, 1, none⟩ (.string ((rd_T49 l0_1 x3_2).f1))).setCell ⟨gb105, 2, none⟩ (.bool ((rd_T49 l0_1 x3_2).f2)))) := ⟨zG⟩
           (try clear BK101)
           (try clear BK105)
           (try clear HB)
           generalize (((w43.setCell ⟨gb105, 0, none⟩ (.int .i64 ((rd_T49 l0_1 x3_2).f0))).setCell ⟨gb105, 1, none⟩ (.string ((rd_T49 l0_1 x3_2).f1))).setCell ⟨gb105, 2, none⟩ (.bool ((rd_T49 l0_1 x3_2).f2))) = w46 at n0_ n1_ n2_ ⊢
           have BK101 := n0_
           have BK105 := n1_
           have HB := n2_
           clear n0_ n1_ n2_
           have n0_ := Am (ke BK101.out)
           have n1_ := Am (ke BK105.out)
           have n2_ := Am (be HB.out)
           clear BK101
           clear BK105
           clear HB
           have BK101 := n0_
           have BK105 := n1_
           have HB := n2_
           clear n0_ n1_ n2_
           refine start_ (n := 33) (S := fun w' => w'.cell? ⟨gb105, 0, none⟩ = some (.int .i64 ((rd_T49 l0_1 x3_2).f0)) ∧ w'.cell? ⟨gb105, 1, none⟩ = some (.string ((rd_T49 l0_1 x3_2).f1)) ∧ w'.cell? ⟨gb105, 2, none⟩ = some (.bool ((rd_T49 l0_1 x3_2).f2)) ∧ w'.cell? ⟨gb101, 0, none⟩ = some (.string a0_0) ∧ w'.cell? ⟨gb101, 1, none⟩ = some (.slice (some ad104) l0_1.length c0_1)) (ds := []) #[false, false, false, false, false, false, false, false, false, false, false, false, false, false, false, false, false, false, false, false, false, false, false, false, false, false, false, false, false, false, false, false, false] (by kernel_rfl) rfl rfl ⟨(kc BK105.out 0).trans rfl, (kc BK105.out 1).trans rfl, (kc BK105.out 2).trans rfl, (kc BK101.out 0).trans rfl, (kc BK101.out 1).trans rfl⟩ (fun hHeld => ?_); refine with_tabW spec_MemoryOk.tab7 spec_MemoryOk.bits7 (fun HT_ HW_ => ?_)
           generalize w46.drew = w47 at BK101 BK105 HB hHeld ⊢
           refine zA 0 (some 31) HT_.out rfl rfl ?_
           refine zA 2 (some 33) HT_.out rfl rfl ?_
           refine zT 1 (some 32) HT_.out HW_.out rfl rfl hHeld ?_
           refine zT 3 (some 34) HT_.out HW_.out rfl rfl hHeld ?_
           refine zA 4 (some 35) HT_.out rfl rfl ?_
           refine zO 5 (some 36) HT_.out rfl rfl (fun K hK => ?_)
           refine goes_ Try.func35 (by kernel_rfl) rfl #[] (by rfl) rfl rfl (by (try simp only [List.map_toArray, List.map_cons, List.map_nil]); first | done | rfl | (simp only [List.length_drop, List.length_take]; rfl)) ?_
           with_reducible refine (spec_l10Size.calls  (16 : Int) _ A13.out).mono ?_
           rintro e w' ⟨rfl, ⟨nd, rfl⟩⟩
           refine ⟨_, rfl, ?_⟩
           refine hK.out _ _ ⟨(kc BK105.out 0).trans rfl, (kc BK105.out 1).trans rfl, (kc BK105.out 2).trans rfl, (kc BK101.out 0).trans rfl, (kc BK101.out 1).trans rfl⟩ (fun hHeld => ?_)
           clear hK K
           refine zN (some 36) ?_
           refine zA 6 (some 37) HT_.out rfl rfl ?_
           refine zA 7 (some 38) HT_.out rfl rfl ?_
           refine zO 8 (some 39) HT_.out rfl rfl (fun K hK => ?_)
           refine goes_ Try.func36 (by kernel_rfl) rfl #[.int .i64 ((rd_T49 l0_1 x3_2).f0), .int .i64 0, .int .i64 (wrap64 ((wrap64 ((a0_0.size : Int) / (16 : Int))) - 1))] (by rfl) rfl rfl (by (try simp only [List.map_toArray, List.map_cons, List.map_nil]); first | done | rfl | (simp only [List.length_drop, List.length_take]; rfl)) ?_
           with_reducible refine (spec_l01In.calls ((rd_T49 l0_1 x3_2).f0) 0 (wrap64 ((wrap64 ((a0_0.size : Int) / (16 : Int))) - 1)) true _ A15.out).mono ?_
           rintro e w' ⟨rfl, ⟨nd, rfl⟩⟩
           refine ⟨_, rfl, ?_⟩
           refine hK.out _ _ ⟨(kc BK105.out 0).trans rfl, (kc BK105.out 1).trans rfl, (kc BK105.out 2).trans rfl, (kc BK101.out 0).trans rfl, (kc BK101.out 1).trans rfl⟩ (fun hHeld => ?_)
           clear hK K
           refine zN (some 39) ?_
           refine zA 9 (some 40) HT_.out rfl rfl ?_
           refine zA 10 (some 41) HT_.out rfl rfl ?_
           refine zA 11 (some 42) HT_.out rfl rfl ?_
           refine zT 12 (some 43) HT_.out HW_.out rfl rfl hHeld ?_
           refine zA 13 (some 44) HT_.out rfl rfl ?_
           refine zO 14 (some 45) HT_.out rfl rfl (fun K hK => ?_)
           refine goes_ Try.func35 (by kernel_rfl) rfl #[] (by rfl) rfl rfl (by (try simp only [List.map_toArray, List.map_cons, List.map_nil]); first | done | rfl | (simp only [List.length_drop, List.length_take]; rfl)) ?_
           with_reducible refine (spec_l10Size.calls  (16 : Int) _ A17.out).mono ?_
           rintro e w' ⟨rfl, ⟨nd, rfl⟩⟩
           refine ⟨_, rfl, ?_⟩
           refine hK.out _ _ ⟨(kc BK105.out 0).trans rfl, (kc BK105.out 1).trans rfl, (kc BK105.out 2).trans rfl, (kc BK101.out 0).trans rfl, (kc BK101.out 1).trans rfl⟩ (fun hHeld => ?_)
           clear hK K
           refine zN (some 45) ?_
           refine zA 15 (some 46) HT_.out rfl rfl ?_
           refine zA 16 (some 47) HT_.out rfl rfl ?_
           refine zA 17 (some 48) HT_.out rfl rfl ?_
           refine zI 18 (some 49) HT_.out rfl rfl ?_
           refine zI 19 (some 50) HT_.out rfl rfl ?_
           refine zI 20 (some 51) HT_.out rfl rfl ?_
           refine zI 21 (some 52) HT_.out rfl rfl ?_
           refine zI 22 (some 53) HT_.out rfl rfl ?_
           refine zI 23 (some 54) HT_.out rfl rfl ?_
           refine zI 24 (some 55) HT_.out rfl rfl ?_
           refine zI 25 (some 56) HT_.out rfl rfl ?_
           refine zI 26 (some 57) HT_.out rfl rfl ?_
           refine zI 27 (some 58) HT_.out rfl rfl ?_
           refine zI 28 (some 59) HT_.out rfl rfl ?_
           refine zI 29 (some 60) HT_.out rfl rfl ?_
           refine zI 30 (some 61) HT_.out rfl rfl ?_
           refine zI 31 (some 62) HT_.out rfl rfl ?_
           refine zA 32 (some 63) HT_.out rfl rfl ?_
           refine done_ (done_of HT_.out (by kernel_rfl)) ?_
           try go_wp2
           go_ret
           exact ⟨zR, zG⟩
         ·replace c16 := Bool.eq_false_iff.mpr c16
          subst c16
          have H1 : (some false) = some r := by rw [if_neg (show ¬ (false = true) by decide)] at H; exact H
          clear H
          have H := H1
          clear H1
          obtain rfl := Option.some.inj H
          obtain ⟨hcz48_0, hcz48_1⟩ := kc2 (w := wr) BK101.out
          have hfz48_0 := kf BK101.out
          have p104 : 0 ≤ (x3_2 : Int) := of_decide_eq_true (by first | (with_reducible assumption) | assumption)
          have q104 : x3_2 < (l0_1.length : Int) := of_decide_eq_true (by first | (with_reducible assumption) | assumption)
          obtain ⟨ad104, e104, hx104_0, hx104_1, hx104_2⟩ := at_T49 HR0_1.out x3_2 p104 q104
          cases e104
          replace hx104_0 := cl3 HB hx104_0
          replace hx104_1 := cl3 HB hx104_1
          replace hx104_2 := cl3 HB hx104_2
          replace p104 := eq_true p104
          replace q104 := eq_true q104
          try go_wp2_with (first | ((with_reducible refine gate_dst (N := 4) rfl ?_); (try (refine gate_guard (by rfl) ?_; dsimp only)); refine box_event ?hg (N := 4) ?hd (cs := #[.int .i64 0, .string (⟨#[]⟩ : ByteArray), .bool false]) (t := 49) ?hr ?_; (case hd => rfl); (case hg => rfl); (case hr => first | (go_simp; done) | (go_simp; rfl)); intro gb105 hg w49 hbox hb; have n0_ := Am (zK BK101 hb); have n1_ := Am (bq zG hb); have n2_ := Am (hbox); have n3_ := Am ((by rw [hg]; exact (bz zG) : w.heap.size ≤ gb105)); have n4_ := Am ((by rw [hg]; exact (bz zG) : w.heap.size ≤ gb105)); have n5_ := Am ((by rw [hg]; exact Nat.ne_of_lt (zL BK101) : gb101 ≠ gb105)); have n6_ := Am ((by rw [hg]; exact Nat.ne_of_gt (zL BK101) : gb105 ≠ gb101)); clear BK101; clear HB; have BK101 := n0_; have HB := n1_; have BK105 := n2_; have GW105 := n3_; have GE105 := n4_; have NB101_105 := n5_; have NB105_101 := n6_; clear n0_ n1_ n2_ n3_ n4_ n5_ n6_; clear hb hbox hg; have hnb50 := NB105_101.out; have hnc50 := NB101_105.out; obtain ⟨hcz51_0, hcz51_1, hcz51_2⟩ := kc3 (w := w49) BK105.out; have hfz51_0 := kf BK105.out))
          have n0_ : Aside0 ((((w49.setCell ⟨gb105, 0, none⟩ (.int .i64 ((rd_T49 l0_1 x3_2).f0))).setCell ⟨gb105, 1, none⟩ (.string ((rd_T49 l0_1 x3_2).f1))).setCell ⟨gb105, 2, none⟩ (.bool ((rd_T49 l0_1 x3_2).f2))).heap[gb101]? = some (.cells #[.string a0_0, .slice (some ad104) l0_1.length c0_1] 28 (0, 0))) := ⟨by (with_reducible repeat (first | refine kn ?_ _ | refine ke ?_ | refine ka ?_ _)); refine blk_far ?_ NB101_105.out _; (with_reducible repeat (first | refine kn ?_ _ | refine ke ?_ | refine ka ?_ _)); refine blk_far ?_ NB101_105.out _; (with_reducible repeat (first | refine kn ?_ _ | refine ke ?_ | refine ka ?_ _)); refine blk_far ?_ NB101_105.out _; (with_reducible repeat (first | refine kn ?_ _ | refine ke ?_ | refine ka ?_ _)); exact BK101.out⟩
          have n1_ : Aside0 ((((w49.setCell ⟨gb105, 0, none⟩ (.int .i64 ((rd_T49 l0_1 x3_2).f0))).setCell ⟨gb105, 1, none⟩ (.string ((rd_T49 l0_1 x3_2).f1))).setCell ⟨gb105, 2, none⟩ (.bool ((rd_T49 l0_1 x3_2).f2))).heap[gb105]? = some (.cells #[.int .i64 ((rd_T49 l0_1 x3_2).f0), .string ((rd_T49 l0_1 x3_2).f1), .bool ((rd_T49 l0_1 x3_2).f2)] 49 (0, 0))) := ⟨by (with_reducible repeat (first | refine kn ?_ _ | refine ke ?_ | refine ka ?_ _)); refine kp (cs := #[.int .i64 ((rd_T49 l0_1 x3_2).f0), .string ((rd_T49 l0_1 x3_2).f1), .bool false]) ?_ 2 _ rfl; (with_reducible repeat (first | refine kn ?_ _ | refine ke ?_ | refine ka ?_ _)); refine kp (cs := #[.int .i64 ((rd_T49 l0_1 x3_2).f0), .string (⟨#[]⟩ : ByteArray), .bool false]) ?_ 1 _ rfl; (with_reducible repeat (first | refine kn ?_ _ | refine ke ?_ | refine ka ?_ _)); refine kp (cs := #[.int .i64 0, .string (⟨#[]⟩ : ByteArray), .bool false]) ?_ 0 _ rfl; (with_reducible repeat (first | refine kn ?_ _ | refine ke ?_ | refine ka ?_ _)); exact BK105.out⟩
          have n2_ : Aside0 (Below w.heap.size w (((w49.setCell ⟨gb105, 0, none⟩ (.int .i64 ((rd_T49 l0_1 x3_2).f0))).setCell ⟨gb105, 1, none⟩ (.string ((rd_T49 l0_1 x3_2).f1))).setCell ⟨gb105, 2, none⟩ (.bool ((rd_T49 l0_1 x3_2).f2)))) := ⟨zG⟩
          (try clear BK101)
          (try clear BK105)
          (try clear HB)
          generalize (((w49.setCell ⟨gb105, 0, none⟩ (.int .i64 ((rd_T49 l0_1 x3_2).f0))).setCell ⟨gb105, 1, none⟩ (.string ((rd_T49 l0_1 x3_2).f1))).setCell ⟨gb105, 2, none⟩ (.bool ((rd_T49 l0_1 x3_2).f2))) = w52 at n0_ n1_ n2_ ⊢
          have BK101 := n0_
          have BK105 := n1_
          have HB := n2_
          clear n0_ n1_ n2_
          have n0_ := Am (ke BK101.out)
          have n1_ := Am (ke BK105.out)
          have n2_ := Am (be HB.out)
          clear BK101
          clear BK105
          clear HB
          have BK101 := n0_
          have BK105 := n1_
          have HB := n2_
          clear n0_ n1_ n2_
          refine start_ (n := 33) (S := fun w' => w'.cell? ⟨gb105, 0, none⟩ = some (.int .i64 ((rd_T49 l0_1 x3_2).f0)) ∧ w'.cell? ⟨gb105, 1, none⟩ = some (.string ((rd_T49 l0_1 x3_2).f1)) ∧ w'.cell? ⟨gb105, 2, none⟩ = some (.bool ((rd_T49 l0_1 x3_2).f2)) ∧ w'.cell? ⟨gb101, 0, none⟩ = some (.string a0_0) ∧ w'.cell? ⟨gb101, 1, none⟩ = some (.slice (some ad104) l0_1.length c0_1)) (ds := []) #[false, false, false, false, false, false, false, false, false, false, false, false, false, false, false, false, false, false, false, false, false, false, false, false, false, false, false, false, false, false, false, false, false] (by kernel_rfl) rfl rfl ⟨(kc BK105.out 0).trans rfl, (kc BK105.out 1).trans rfl, (kc BK105.out 2).trans rfl, (kc BK101.out 0).trans rfl, (kc BK101.out 1).trans rfl⟩ (fun hHeld => ?_); refine with_tabW spec_MemoryOk.tab7 spec_MemoryOk.bits7 (fun HT_ HW_ => ?_)
          generalize w52.drew = w53 at BK101 BK105 HB hHeld ⊢
          refine zA 0 (some 31) HT_.out rfl rfl ?_
          refine zA 2 (some 33) HT_.out rfl rfl ?_
          refine zT 1 (some 32) HT_.out HW_.out rfl rfl hHeld ?_
          refine zT 3 (some 34) HT_.out HW_.out rfl rfl hHeld ?_
          refine zA 4 (some 35) HT_.out rfl rfl ?_
          refine zO 5 (some 36) HT_.out rfl rfl (fun K hK => ?_)
          refine goes_ Try.func35 (by kernel_rfl) rfl #[] (by rfl) rfl rfl (by (try simp only [List.map_toArray, List.map_cons, List.map_nil]); first | done | rfl | (simp only [List.length_drop, List.length_take]; rfl)) ?_
          with_reducible refine (spec_l10Size.calls  (16 : Int) _ A13.out).mono ?_
          rintro e w' ⟨rfl, ⟨nd, rfl⟩⟩
          refine ⟨_, rfl, ?_⟩
          refine hK.out _ _ ⟨(kc BK105.out 0).trans rfl, (kc BK105.out 1).trans rfl, (kc BK105.out 2).trans rfl, (kc BK101.out 0).trans rfl, (kc BK101.out 1).trans rfl⟩ (fun hHeld => ?_)
          clear hK K
          refine zN (some 36) ?_
          refine zA 6 (some 37) HT_.out rfl rfl ?_
          refine zA 7 (some 38) HT_.out rfl rfl ?_
          refine zO 8 (some 39) HT_.out rfl rfl (fun K hK => ?_)
          refine goes_ Try.func36 (by kernel_rfl) rfl #[.int .i64 ((rd_T49 l0_1 x3_2).f0), .int .i64 0, .int .i64 (wrap64 ((wrap64 ((a0_0.size : Int) / (16 : Int))) - 1))] (by rfl) rfl rfl (by (try simp only [List.map_toArray, List.map_cons, List.map_nil]); first | done | rfl | (simp only [List.length_drop, List.length_take]; rfl)) ?_
          with_reducible refine (spec_l01In.calls ((rd_T49 l0_1 x3_2).f0) 0 (wrap64 ((wrap64 ((a0_0.size : Int) / (16 : Int))) - 1)) false _ A15.out).mono ?_
          rintro e w' ⟨rfl, ⟨nd, rfl⟩⟩
          refine ⟨_, rfl, ?_⟩
          refine hK.out _ _ ⟨(kc BK105.out 0).trans rfl, (kc BK105.out 1).trans rfl, (kc BK105.out 2).trans rfl, (kc BK101.out 0).trans rfl, (kc BK101.out 1).trans rfl⟩ (fun hHeld => ?_)
          clear hK K
          refine zN (some 39) ?_
          refine zA 9 (some 40) HT_.out rfl rfl ?_
          refine zA 10 (some 41) HT_.out rfl rfl ?_
          refine zI 11 (some 42) HT_.out rfl rfl ?_
          refine zI 12 (some 43) HT_.out rfl rfl ?_
          refine zI 13 (some 44) HT_.out rfl rfl ?_
          refine zI 14 (some 45) HT_.out rfl rfl ?_
          refine zI 15 (some 46) HT_.out rfl rfl ?_
          refine zA 16 (some 47) HT_.out rfl rfl ?_
          refine zA 17 (some 48) HT_.out rfl rfl ?_
          refine zI 18 (some 49) HT_.out rfl rfl ?_
          refine zI 19 (some 50) HT_.out rfl rfl ?_
          refine zI 20 (some 51) HT_.out rfl rfl ?_
          refine zI 21 (some 52) HT_.out rfl rfl ?_
          refine zI 22 (some 53) HT_.out rfl rfl ?_
          refine zI 23 (some 54) HT_.out rfl rfl ?_
          refine zI 24 (some 55) HT_.out rfl rfl ?_
          refine zI 25 (some 56) HT_.out rfl rfl ?_
          refine zI 26 (some 57) HT_.out rfl rfl ?_
          refine zI 27 (some 58) HT_.out rfl rfl ?_
          refine zI 28 (some 59) HT_.out rfl rfl ?_
          refine zI 29 (some 60) HT_.out rfl rfl ?_
          refine zI 30 (some 61) HT_.out rfl rfl ?_
          refine zI 31 (some 62) HT_.out rfl rfl ?_
          refine zA 32 (some 63) HT_.out rfl rfl ?_
          refine done_ (done_of HT_.out (by kernel_rfl)) ?_
          try go_wp2
          go_ret
          exact ⟨zR, zG⟩
       ·rw [if_neg c12] at H
        exact absurd H (by simp)
      ·rw [if_neg c11] at H
       have c11b0 : decide (x3_2 < (l0_1.length : Int)) = false := decide_eq_false c11
       clear c11
       obtain rfl := Option.some.inj H
       obtain ⟨hcz54_0, hcz54_1⟩ := kc2 (w := wr) BK101.out
       have hfz54_0 := kf BK101.out
       go_wp2
       go_ret
       exact ⟨zR, zG⟩

end Go.Proofs.Ytnmkcognggeioaa.QFnUnsure
