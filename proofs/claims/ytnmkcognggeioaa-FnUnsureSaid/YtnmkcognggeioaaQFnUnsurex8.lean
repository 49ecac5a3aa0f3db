/- Go functions as Lean functions, and their contracts. Own text: written by wip/gen/pr.py (a turned copy of the print). -/
import Derived.Test.YtnmkcognggeioaaQFnUnsurex0
import Derived.Test.YtnmkcognggeioaaQFnUnsurex2
import Derived.Test.YtnmkcognggeioaaQFnUnsurex3
import Derived.Test.YtnmkcognggeioaaQFnUnsurex4
import Derived.Test.YtnmkcognggeioaaQFnUnsurex7
namespace Go.Proofs.Ytnmkcognggeioaa.QFnUnsure
open Go.RowKit Go.Proofs.YtnmkcognggeioaaW.PrintWords Go.Proofs.YtnmkcognggeioaaW.PrintLast Go.Proofs.YtnmkcognggeioaaW.PrintMore
attribute [local go_sem] max2_int min2_int max_two min_two max_three min_three max_four min_four   -- for this text's walks alone
open Go.Proofs.YtnmkcognggeioaaW.PrintWords renaming below_alloc → ba, pw_below_drewN → bn, below_drew1 → be, below_set → bs, blk_drewN → kn, blk_drew → ke, blk_alloc → ka, blk_below → kb, blk_frozen → kf, blk_cell → kc, below_step → bq, below_size → bz, blk_lt → kl, blk_grown → kg, blk_put → kp
open Go.Proofs.YtnmkcognggeioaaW.PrintWords.Kd renaming R_alloc → ra, R_drewN → rn, R_drew → re, C_alloc → ca, C_drewN → cn, C_drew → ce, R_below → rb, C_below → cb
open Go.Proofs.YtnmkcognggeioaaW.PrintWords.Aside0 renaming mk → Am
set_option linter.unusedVariables false
set_option linter.unusedSimpArgs false

theorem cl8 {w w2 : World} {a : Addr} {v : Value} (h : Aside0 (Below w.heap.size w w2)) (e : w.cell? a = some v) : w2.cell? a = some v := (h.out.cell (World.block_lt_of_cell? w _ e)).trans e
def o8b0 (p0 : ByteArray) (p1 : Option Addr) (p2 p3 : Nat) : Obj := .cells #[.string p0, .slice p1 p2 p3] 28 (0, 0)
/-! ### spec_MemoryNew: function 53 -/
def spec_MemoryNew.f (k : Nat) (a0 : Int) : Option (ByteArray × (List (S49))) := (spec_l01In.f a0 0 1000).bind fun t177 => (if t177 = true then ((spec_l10Size.f).bind fun t178 => ((spec_ZeroText.f k (wrap64 (a0 * t178))).bind fun t179 => (some (t179, ([] : List (S49)))))) else (some ((⟨#[]⟩ : ByteArray), ([] : List (S49)))))
theorem spec_MemoryNew.mono : ∀ a0 k, LeO (spec_MemoryNew.f k a0) (spec_MemoryNew.f (k + 1) a0) := by
 intro a0 k
 unfold spec_MemoryNew.f
 repeat' first
   | (with_reducible exact spec_ZeroText.mono _ _)
   | (with_reducible exact LeO.refl _)
   | (with_reducible exact LeO.none _)
   | (with_reducible refine LeO.ite ?_ ?_)
   | (with_reducible refine LeO.bind ?_ (fun _ => ?_))
   | exact spec_ZeroText.mono _ _
   | exact LeO.none _
   | refine LeO.ite ?_ ?_
   | refine LeO.bind ?_ (fun _ => ?_)
set_option maxHeartbeats 8000000 in
set_option maxRecDepth 100000 in
theorem spec_MemoryNew.calls (k : Nat) (a0 : Int) (r1 : ByteArray) (r2 : List (S49)) (w : World) (h : spec_MemoryNew.f k a0 = some (r1, r2)) :
  Calls Try.prog 53 #[.int .i64 a0] w fun e w' => ∃ v1_ : Value, e = .returned (.agg #[.string r1, v1_]) ∧ Kd.R k49 49 w' w.heap.size (fun _ => True) v1_ r2 ∧ Below w.heap.size w w' := by
 have hu28 := Try.underlying28
 have HB := Am (Below.refl w.heap.size w)
 have H : ((spec_l01In.f a0 0 1000).bind fun t177 => (if t177 = true then ((spec_l10Size.f).bind fun t178 => ((spec_ZeroText.f k (wrap64 (a0 * t178))).bind fun t179 => (some (t179, ([] : List (S49)))))) else (some ((⟨#[]⟩ : ByteArray), ([] : List (S49)))))) = some (r1, r2) := h
 clear h
 replace H := Option.bind_eq_some_iff.mp H
 obtain ⟨t177, A20, H⟩ := H
 replace H : (if t177 = true then ((spec_l10Size.f).bind fun t178 => ((spec_ZeroText.f k (wrap64 (a0 * t178))).bind fun t179 => (some (t179, ([] : List (S49)))))) else (some ((⟨#[]⟩ : ByteArray), ([] : List (S49))))) = some (r1, r2) := H
 have A2 := Am A20
 clear A20
 by_cases c3 : t177 = true
 ·subst c3
  have H1 : ((spec_l10Size.f).bind fun t178 => ((spec_ZeroText.f k (wrap64 (a0 * t178))).bind fun t179 => (some (t179, ([] : List (S49)))))) = some (r1, r2) := by rw [if_pos rfl] at H; exact H
  clear H
  have H := H1
  clear H1
  replace H := Option.bind_eq_some_iff.mp H
  obtain ⟨t178, A40, H⟩ := H
  obtain rfl : (16 : Int) = t178 := Option.some.inj (show some (16 : Int) = some t178 from A40)
  replace H : ((spec_ZeroText.f k (wrap64 (a0 * (16 : Int)))).bind fun t179 => (some (t179, ([] : List (S49))))) = some (r1, r2) := H
  have A4 := Am A40
  clear A40
  replace H := Option.bind_eq_some_iff.mp H
  obtain ⟨t179, A50, H⟩ := H
  replace H : (some (t179, ([] : List (S49)))) = some (r1, r2) := H
  have A5 := Am A50
  clear A50
  simp only [Option.some.injEq, Prod.mk.injEq] at H
  obtain ⟨rfl, rfl⟩ := H
  go_enter Try.func53, Try.ntmps53
  go_wp2_with (first | ((with_reducible refine gate_dst (N := 2) rfl ?_); refine box_event ?hg (N := 2) ?hd (cs := #[.string (⟨#[]⟩ : ByteArray), .slice none 0 0]) (t := 28) ?hr ?_; (case hd => rfl); (case hg => rfl); (case hr => first | (go_simp; done) | (go_simp; rfl)); intro gb176 hg w6 hbox hb; have BK176 := Am (hbox); have GW176 := Am ((by rw [hg]; exact (bz zB) : w.heap.size ≤ gb176)); have GE176 := Am ((by rw [hg]; exact (bz zB) : w.heap.size ≤ gb176)); replace HB := Am (bq zB hb); clear hb hbox hg) | ((with_reducible refine gate_callee (f := 36) rfl ?_); refine zC (some 4) rfl rfl Try.func36 rfl #[.int .i64 a0, .int .i64 0, .int .i64 1000] rfl ?_; (with_reducible refine (spec_l01In.calls a0 0 1000 true _ A2.out).mono ?_); rintro e w' ⟨rfl, ⟨nd, rfl⟩⟩; refine ⟨_, rfl, ?_⟩; (try (rw [drewN_self w6]; generalize hq_ : World.drewN w6 _ = w6; have n0_ : Aside0 (w6.heap[gb176]? = some (.cells #[.string (⟨#[]⟩ : ByteArray), .slice none 0 0] 28 (0, 0))) := ⟨by rw [← hq_]; exact (by (with_reducible repeat (first | refine kn ?_ _ | refine ke ?_ | refine ka ?_ _)); exact BK176.out)⟩; have n1_ : Aside0 (Below w.heap.size w w6) := ⟨by rw [← hq_]; exact zG⟩; clear BK176 HB hq_; have BK176 := n0_; have HB := n1_; clear n0_ n1_))) | ((with_reducible refine gate_callee (f := 35) rfl ?_); refine zC (some 8) rfl rfl Try.func35 rfl #[] rfl ?_; (with_reducible refine (spec_l10Size.calls  (16 : Int) _ A4.out).mono ?_); rintro e w' ⟨rfl, ⟨nd, rfl⟩⟩; refine ⟨_, rfl, ?_⟩; (try (rw [drewN_self w6]; generalize hq_ : World.drewN w6 _ = w6; have n0_ : Aside0 (w6.heap[gb176]? = some (.cells #[.string (⟨#[]⟩ : ByteArray), .slice none 0 0] 28 (0, 0))) := ⟨by rw [← hq_]; exact (by (with_reducible repeat (first | refine kn ?_ _ | refine ke ?_ | refine ka ?_ _)); exact BK176.out)⟩; have n1_ : Aside0 (Below w.heap.size w w6) := ⟨by rw [← hq_]; exact zG⟩; clear BK176 HB hq_; have BK176 := n0_; have HB := n1_; clear n0_ n1_))) | ((with_reducible refine gate_callee (f := 66) rfl ?_); refine zC (some 10) rfl rfl Try.func66 rfl #[.int .i64 (wrap64 (a0 * (16 : Int)))] rfl ?_; (with_reducible refine (spec_ZeroText.calls k (wrap64 (a0 * (16 : Int))) t179 _ A5.out).mono ?_); rintro e w7 ⟨rfl, hb⟩; refine ⟨_, rfl, ?_⟩; have n0_ := Am (zK BK176 hb); have n1_ := Am (bq zG hb); clear BK176; clear HB; have BK176 := n0_; have HB := n1_; clear n0_ n1_; (try clear hb); obtain ⟨hcz8_0, hcz8_1⟩ := kc2 (w := w7) BK176.out; have hfz8_0 := kf BK176.out))
  refine bodyPost_ret (results_cell_row rfl _ _ gb176 28 #[.string t179, .slice none 0 0] (0, 0) _ rfl (by (with_reducible repeat (first | refine kn ?_ _ | refine ke ?_ | refine ka ?_ _)); refine kp (cs := #[.string t179, .slice none 0 0]) ?_ 1 _ rfl; (with_reducible repeat (first | refine kn ?_ _ | refine ke ?_ | refine ka ?_ _)); refine kp (cs := #[.string (⟨#[]⟩ : ByteArray), .slice none 0 0]) ?_ 0 _ rfl; (with_reducible repeat (first | refine kn ?_ _ | refine ke ?_ | refine ka ?_ _)); exact BK176.out) Try.underlying28 rfl (by kernel_rfl)) rfl ?_
  exact ⟨_, zR, by first | exact Kd.R_nil _ _ _ _ _ | exact Kd.N_nil _ _ _ _ _ | exact Kd.V_nil _ _ _ _ _ | exact Kd.Q_nil _ _ _ _ _ | exact Kd.S_nil _ _ _ _ _, zG⟩
 ·replace c3 := Bool.eq_false_iff.mpr c3
  subst c3
  have H1 : (some ((⟨#[]⟩ : ByteArray), ([] : List (S49)))) = some (r1, r2) := by rw [if_neg (show ¬ (false = true) by decide)] at H; exact H
  clear H
  have H := H1
  clear H1
  simp only [Option.some.injEq, Prod.mk.injEq] at H
  obtain ⟨rfl, rfl⟩ := H
  go_enter Try.func53, Try.ntmps53
  go_wp2_with (first | ((with_reducible refine gate_dst (N := 2) rfl ?_); refine box_event ?hg (N := 2) ?hd (cs := #[.string (⟨#[]⟩ : ByteArray), .slice none 0 0]) (t := 28) ?hr ?_; (case hd => rfl); (case hg => rfl); (case hr => first | (go_simp; done) | (go_simp; rfl)); intro gb176 hg w9 hbox hb; have BK176 := Am (hbox); have GW176 := Am ((by rw [hg]; exact (bz zB) : w.heap.size ≤ gb176)); have GE176 := Am ((by rw [hg]; exact (bz zB) : w.heap.size ≤ gb176)); replace HB := Am (bq zB hb); clear hb hbox hg) | ((with_reducible refine gate_callee (f := 36) rfl ?_); refine zC (some 4) rfl rfl Try.func36 rfl #[.int .i64 a0, .int .i64 0, .int .i64 1000] rfl ?_; (with_reducible refine (spec_l01In.calls a0 0 1000 false _ A2.out).mono ?_); rintro e w' ⟨rfl, ⟨nd, rfl⟩⟩; refine ⟨_, rfl, ?_⟩; (try (rw [drewN_self w9]; generalize hq_ : World.drewN w9 _ = w9; have n0_ : Aside0 (w9.heap[gb176]? = some (.cells #[.string (⟨#[]⟩ : ByteArray), .slice none 0 0] 28 (0, 0))) := ⟨by rw [← hq_]; exact (by (with_reducible repeat (first | refine kn ?_ _ | refine ke ?_ | refine ka ?_ _)); exact BK176.out)⟩; have n1_ : Aside0 (Below w.heap.size w w9) := ⟨by rw [← hq_]; exact zG⟩; clear BK176 HB hq_; have BK176 := n0_; have HB := n1_; clear n0_ n1_)); obtain ⟨hcz10_0, hcz10_1⟩ := kc2 (w := w9) BK176.out; have hfz10_0 := kf BK176.out))
  refine bodyPost_ret (results_cell_row rfl _ _ gb176 28 #[.string (⟨#[]⟩ : ByteArray), .slice none 0 0] (0, 0) _ rfl (by (with_reducible repeat (first | refine kn ?_ _ | refine ke ?_ | refine ka ?_ _)); refine kp (cs := #[.string (⟨#[]⟩ : ByteArray), .slice none 0 0]) ?_ 1 _ rfl; (with_reducible repeat (first | refine kn ?_ _ | refine ke ?_ | refine ka ?_ _)); refine kp (cs := #[.string (⟨#[]⟩ : ByteArray), .slice none 0 0]) ?_ 0 _ rfl; (with_reducible repeat (first | refine kn ?_ _ | refine ke ?_ | refine ka ?_ _)); exact BK176.out) Try.underlying28 rfl (by kernel_rfl)) rfl ?_
  exact ⟨_, zR, by first | exact Kd.R_nil _ _ _ _ _ | exact Kd.N_nil _ _ _ _ _ | exact Kd.V_nil _ _ _ _ _ | exact Kd.Q_nil _ _ _ _ _ | exact Kd.S_nil _ _ _ _ _, zG⟩

/-! ### spec_Fence: function 54 -/
def spec_Fence.l0 : Nat → Int → ByteArray → List (S49) → ByteArray → List (S49) → Option (ByteArray × (List (S49)))
 | 0, _, _, _, _, _ => none
 | k + 1, x4, x181000, x181001, x188000, x188001 => if x4 < (x181001.length : Int) then (if 0 ≤ x4 then (if (rd_T49 x181001 x4).f2 = true then ((spec_l10Keep.f x188000 ((rd_T49 x181001 x4).f0) ((rd_T49 x181001 x4).f1) ((rd_T49 x181001 x4).f2)).bind fun t190 => (spec_Fence.l0 k (wrap64 (x4 + 1)) x181000 x181001 t190 x188001)) else (if x188001.length < 4398046511104 then (spec_Fence.l0 k (wrap64 (x4 + 1)) x181000 x181001 x188000 (x188001 ++ [(⟨(rd_T49 x181001 x4).f0, (rd_T49 x181001 x4).f1, (rd_T49 x181001 x4).f2⟩ : S49)])) else (none))) else (none)) else (some (x188000, x188001))
def spec_Fence.f (k : Nat) (a0_0 : ByteArray) (l0_1 : List (S49)) : Option (ByteArray × (List (S49))) := (spec_MemoryOk.f k a0_0 l0_1).bind fun t182 => (if t182 = true then (spec_Fence.l0 k 0 a0_0 l0_1 a0_0 ([] : List (S49))) else ((spec_l10Copy.f a0_0 l0_1).bind fun bt183 => (some (bt183.1, bt183.2))))
theorem spec_Fence.mono_l : ∀ k, (∀ y0 y1 y2 y3 y4, LeO (spec_Fence.l0 k y0 y1 y2 y3 y4) (spec_Fence.l0 (k + 1) y0 y1 y2 y3 y4))
 | 0 => fun _ _ _ _ _ r h => by simp [spec_Fence.l0] at h
 | k + 1 => by
  have ih0 := spec_Fence.mono_l k
  ·intro y0 y1 y2 y3 y4
   unfold spec_Fence.l0
   repeat' first
   | (with_reducible exact ih0 _ _ _ _ _)
   | (with_reducible exact spec_MemoryOk.mono _ _ _)
   | (with_reducible exact LeO.refl _)
   | (with_reducible exact LeO.none _)
   | (with_reducible refine LeO.ite ?_ ?_)
   | (with_reducible refine LeO.bind ?_ (fun _ => ?_))
   | exact ih0 _ _ _ _ _
   | exact spec_MemoryOk.mono _ _ _
   | exact LeO.none _
   | refine LeO.ite ?_ ?_
   | refine LeO.bind ?_ (fun _ => ?_)
theorem spec_Fence.mono : ∀ a0 a1 k, LeO (spec_Fence.f k a0 a1) (spec_Fence.f (k + 1) a0 a1) := by
 intro a0 a1 k
 have ih0 := spec_Fence.mono_l k
 unfold spec_Fence.f
 repeat' first
   | (with_reducible exact ih0 _ _ _ _ _)
   | (with_reducible exact spec_MemoryOk.mono _ _ _)
   | (with_reducible exact LeO.refl _)
   | (with_reducible exact LeO.none _)
   | (with_reducible refine LeO.ite ?_ ?_)
   | (with_reducible refine LeO.bind ?_ (fun _ => ?_))
   | exact ih0 _ _ _ _ _
   | exact spec_MemoryOk.mono _ _ _
   | exact LeO.none _
   | refine LeO.ite ?_ ?_
   | refine LeO.bind ?_ (fun _ => ?_)
def spec_Fence.T8 : Bool × List (List Nat × List Nat) := (true, [([], []), ([0], [0]), ([], []), ([2], [2]), ([], []), ([3, 4], [3, 4]), ([5], [5]), ([1, 6], [1, 6]), ([0, 1, 2, 3, 4, 5, 6, 7], []), ([8, 7, 7, 0, 1, 2, 3, 4, 5, 6, 7], [7, 8])])
def spec_Fence.B8 : List Nat := [0, 1, 0, 4, 0, 28, 60, 127, 255, 511]
theorem spec_Fence.tab8 : rtab .any (opsOf Try.f54 8) = spec_Fence.T8 := by kernel_rfl
theorem spec_Fence.bits8 : waitsOk spec_Fence.T8.2 spec_Fence.B8 = true := by kernel_rfl
def spec_Fence.T9 : Bool × List (List Nat × List Nat) := (true, [([], []), ([0], [0]), ([], []), ([2], [2]), ([], []), ([3, 4], [3, 4]), ([5], [5]), ([6], [6]), ([1, 7], [1, 7]), ([0, 1, 2, 3, 4, 5, 6, 7, 8], []), ([9, 8, 8, 0, 1, 2, 3, 4, 5, 6, 7, 8], [8, 9])])
def spec_Fence.B9 : List Nat := [0, 1, 0, 4, 0, 28, 60, 124, 255, 511, 1023]
theorem spec_Fence.tab9 : rtab .any (opsOf Try.f54 9) = spec_Fence.T9 := by kernel_rfl
theorem spec_Fence.bits9 : waitsOk spec_Fence.T9.2 spec_Fence.B9 = true := by kernel_rfl
set_option maxHeartbeats 8000000 in
set_option maxRecDepth 100000 in
theorem spec_Fence.calls (k : Nat) (a0_0 : ByteArray) (A0_1 : Option Addr) (c0_1 : Nat) (l0_1 : List (S49)) (r1 : ByteArray) (r2 : List (S49)) (w : World) (hr0_1 : Kd.C k49 w A0_1 l0_1.length l0_1) (hc0_1 : l0_1.length ≤ c0_1) (h : spec_Fence.f k a0_0 l0_1 = some (r1, r2)) :
  Calls Try.prog 54 #[.agg #[.string a0_0, .slice A0_1 l0_1.length c0_1]] w fun e w' => ∃ v1_ : Value, e = .returned (.agg #[.string r1, v1_]) ∧ Kd.R k49 49 w' w.heap.size (fun _ => True) v1_ r2 ∧ Below w.heap.size w w' := by
 have hu28 := Try.underlying28
 have hu49 := Try.underlying49
 have HR0_1 := Am hr0_1
 have HC0_1 := Am hc0_1
 clear hr0_1 hc0_1
 have HB := Am (Below.refl w.heap.size w)
 have H : ((spec_MemoryOk.f k a0_0 l0_1).bind fun t182 => (if t182 = true then (spec_Fence.l0 k 0 a0_0 l0_1 a0_0 ([] : List (S49))) else ((spec_l10Copy.f a0_0 l0_1).bind fun bt183 => (some (bt183.1, bt183.2))))) = some (r1, r2) := h
 clear h
 replace H := Option.bind_eq_some_iff.mp H
 obtain ⟨t182, A20, H⟩ := H
 replace H : (if t182 = true then (spec_Fence.l0 k 0 a0_0 l0_1 a0_0 ([] : List (S49))) else ((spec_l10Copy.f a0_0 l0_1).bind fun bt183 => (some (bt183.1, bt183.2)))) = some (r1, r2) := H
 have A2 := Am A20
 clear A20
 by_cases c3 : t182 = true
 ·subst c3
  have H1 : (spec_Fence.l0 k 0 a0_0 l0_1 a0_0 ([] : List (S49))) = some (r1, r2) := by rw [if_pos rfl] at H; exact H
  clear H
  have H := H1
  clear H1
  have H' := Am H
  clear H
  go_enter Try.func54, Try.ntmps54
  go_wp2_with (first | ((with_reducible refine gate_dst (N := 1) rfl ?_); refine box_event ?hg (N := 1) ?hd (cs := #[.string a0_0, .slice A0_1 l0_1.length c0_1]) (t := 28) ?hr ?_; (case hd => rfl); (case hg => rfl); (case hr => first | (go_simp; done) | (go_simp; rfl)); intro gb180 hg w4 hbox hb; have BK180 := Am (hbox); have GW180 := Am ((by rw [hg]; exact (bz zB) : w.heap.size ≤ gb180)); have GE180 := Am ((by rw [hg]; exact (bz zB) : w.heap.size ≤ gb180)); replace HB := Am (bq zB hb); clear hb hbox hg) | ((with_reducible refine gate_dst (N := 2) rfl ?_); refine box_event ?hg (N := 2) ?hd (cs := #[.string (⟨#[]⟩ : ByteArray), .slice none 0 0]) (t := 28) ?hr ?_; (case hd => rfl); (case hg => rfl); (case hr => first | (go_simp; done) | (go_simp; rfl)); intro gb181 hg w5 hbox hb; have n0_ := Am (zK BK180 hb); have n1_ := Am (bq zG hb); have n2_ := Am (hbox); have n3_ := Am ((by rw [hg]; exact (bz zG) : w.heap.size ≤ gb181)); have n4_ := Am ((by rw [hg]; exact (bz zG) : w.heap.size ≤ gb181)); have n5_ := Am ((by rw [hg]; exact Nat.ne_of_lt (zL BK180) : gb180 ≠ gb181)); have n6_ := Am ((by rw [hg]; exact Nat.ne_of_gt (zL BK180) : gb181 ≠ gb180)); clear BK180; clear HB; have BK180 := n0_; have HB := n1_; have BK181 := n2_; have GW181 := n3_; have GE181 := n4_; have NB180_181 := n5_; have NB181_180 := n6_; clear n0_ n1_ n2_ n3_ n4_ n5_ n6_; clear hb hbox hg; have hnb6 := NB180_181.out; have hnc6 := NB181_180.out; obtain ⟨hcz7_0, hcz7_1⟩ := kc2 (w := w5) BK180.out; have hfz7_0 := kf BK180.out) | ((with_reducible refine gate_callee (f := 15) rfl ?_); refine zC (some 6) rfl rfl Try.func15 rfl #[.agg #[.string a0_0, .slice A0_1 l0_1.length c0_1]] rfl ?_; (with_reducible refine (spec_MemoryOk.calls k a0_0 _ _ l0_1 true _ ?side1 ?side2 A2.out).mono ?_); (case side1 => repeat (first | exact (cb HR0_1.out HB.out) | (with_reducible first | refine ca ?_ _ | refine cn ?_ _ | refine ce ?_))); (case side2 => exact HC0_1.out); rintro e w8 ⟨rfl, hb⟩; refine ⟨_, rfl, ?_⟩; have n0_ := Am (zK BK180 hb); have n1_ := Am (zK BK181 hb); have n2_ := Am (bq zG hb); clear BK180; clear BK181; clear HB; have BK180 := n0_; have BK181 := n1_; have HB := n2_; clear n0_ n1_ n2_; (try clear hb); obtain ⟨hcz9_0, hcz9_1⟩ := kc2 (w := w8) BK180.out; have hfz9_0 := kf BK180.out) | ((with_reducible refine gate_dst (N := 3) rfl ?_); refine box_event ?hg (N := 3) ?hd (cs := #[.string (⟨#[]⟩ : ByteArray), .slice none 0 0]) (t := 28) ?hr ?_; (case hd => rfl); (case hg => rfl); (case hr => first | (go_simp; done) | (go_simp; rfl)); intro gb187 hg w10 hbox hb; have n0_ := Am (zK BK180 hb); have n1_ := Am (zK BK181 hb); have n2_ := Am (bq zG hb); have n3_ := Am (hbox); have n4_ := Am ((by rw [hg]; exact (bz zG) : w.heap.size ≤ gb187)); have n5_ := Am ((by rw [hg]; exact (bz zG) : w.heap.size ≤ gb187)); have n6_ := Am ((by rw [hg]; exact Nat.ne_of_lt (zL BK180) : gb180 ≠ gb187)); have n7_ := Am ((by rw [hg]; exact Nat.ne_of_gt (zL BK180) : gb187 ≠ gb180)); have n8_ := Am ((by rw [hg]; exact Nat.ne_of_lt (zL BK181) : gb181 ≠ gb187)); have n9_ := Am ((by rw [hg]; exact Nat.ne_of_gt (zL BK181) : gb187 ≠ gb181)); clear BK180; clear BK181; clear HB; have BK180 := n0_; have BK181 := n1_; have HB := n2_; have BK187 := n3_; have GW187 := n4_; have GE187 := n5_; have NB180_187 := n6_; have NB187_180 := n7_; have NB181_187 := n8_; have NB187_181 := n9_; clear n0_ n1_ n2_ n3_ n4_ n5_ n6_ n7_ n8_ n9_; clear hb hbox hg; have hnb11 := NB187_180.out; have hnc11 := NB180_187.out; have hnb12 := NB187_181.out; have hnc12 := NB181_187.out; obtain ⟨hcz13_0, hcz13_1⟩ := kc2 (w := w10) BK187.out; have hfz13_0 := kf BK187.out))
  go_loopg [4] k (fun kq v4 w' => ∃ (x4_1 : Int) (x188000_1 : ByteArray) (x188001_1 : List (S49)) (u188001 : Value), v4 = .int .i64 x4_1 ∧ Aside0 (spec_Fence.l0 kq x4_1 a0_0 l0_1 x188000_1 x188001_1 = some (r1, r2)) ∧ Aside0 (kq ≤ k) ∧ Aside0 (Kd.R k49 49 w' w.heap.size (fun _ => True) u188001 x188001_1) ∧ Aside0 (w'.heap[gb180]? = some (.cells #[.string a0_0, (.slice A0_1 l0_1.length c0_1)] 28 (0, 0))) ∧ Aside0 (w'.heap[gb181]? = some (.cells #[.string (⟨#[]⟩ : ByteArray), (.slice none 0 0)] 28 (0, 0))) ∧ Aside0 (w'.heap[gb187]? = some (.cells #[.string x188000_1, u188001] 28 (0, 0))) ∧ Aside0 (Below w.heap.size w w'))
  case atStart => exact ⟨(0), (a0_0), (([] : List (S49))), (.slice none 0 0), (by first | rfl | (simp; done) | (simp [*]; done)), H', ⟨Nat.le_refl _⟩, ⟨by first | exact Kd.R_nil _ _ _ _ _ | exact Kd.N_nil _ _ _ _ _ | exact Kd.V_nil _ _ _ _ _ | exact Kd.Q_nil _ _ _ _ _ | exact Kd.S_nil _ _ _ _ _⟩, ⟨by (with_reducible repeat (first | refine kn ?_ _ | refine ke ?_ | refine ka ?_ _)); refine blk_far ?_ NB180_187.out _; (with_reducible repeat (first | refine kn ?_ _ | refine ke ?_ | refine ka ?_ _)); refine blk_far ?_ NB180_187.out _; (with_reducible repeat (first | refine kn ?_ _ | refine ke ?_ | refine ka ?_ _)); exact BK180.out⟩, ⟨by (with_reducible repeat (first | refine kn ?_ _ | refine ke ?_ | refine ka ?_ _)); refine blk_far ?_ NB181_187.out _; (with_reducible repeat (first | refine kn ?_ _ | refine ke ?_ | refine ka ?_ _)); refine blk_far ?_ NB181_187.out _; (with_reducible repeat (first | refine kn ?_ _ | refine ke ?_ | refine ka ?_ _)); exact BK181.out⟩, ⟨by (with_reducible repeat (first | refine kn ?_ _ | refine ke ?_ | refine ka ?_ _)); refine kp (cs := #[.string a0_0, .slice none 0 0]) ?_ 1 _ rfl; (with_reducible repeat (first | refine kn ?_ _ | refine ke ?_ | refine ka ?_ _)); refine kp (cs := #[.string (⟨#[]⟩ : ByteArray), .slice none 0 0]) ?_ 0 _ rfl; (with_reducible repeat (first | refine kn ?_ _ | refine ke ?_ | refine ka ?_ _)); exact BK187.out⟩, ⟨zG⟩⟩
  case round =>
   clear H'
   try clear c1; try clear p2; try clear c3; try clear c5; try clear c6; try clear c11; try clear c12; try clear hcz13_0; try clear hcz13_1; try clear hcz7_0; try clear hcz7_1; try clear hcz9_0; try clear hcz9_1; try clear hfz13_0; try clear hfz13_1; try clear hfz7_0; try clear hfz7_1; try clear hfz9_0; try clear hfz9_1
   obtain ⟨x4_1, x188000_1, x188001_1, u188001, rfl, HA, HK1, HO_188001, BK180, BK181, BK187, HB⟩ := hrel
   cases gk with
   | zero => exact absurd HA.out (by simp [spec_Fence.l0])
   | succ k1 =>
    have H := HA.out
    clear HA
    simp only [spec_Fence.l0] at H
    by_cases c14 : x4_1 < (l0_1.length : Int)
    ·rw [if_pos c14] at H
     have c14b0 : decide (x4_1 < (l0_1.length : Int)) = true := decide_eq_true c14
     clear c14
     by_cases c15 : 0 ≤ x4_1
     ·rw [if_pos c15] at H
      have c15b0 : decide (0 ≤ x4_1) = true := decide_eq_true c15
      clear c15
      obtain ⟨bq16, hbq16⟩ : ∃ b_ : Bool, b_ = ((rd_T49 l0_1 x4_1).f2) := ⟨_, rfl⟩
      replace H : (if bq16 = true then ((spec_l10Keep.f x188000_1 ((rd_T49 l0_1 x4_1).f0) ((rd_T49 l0_1 x4_1).f1) (bq16)).bind fun t190 => (spec_Fence.l0 k1 (wrap64 (x4_1 + 1)) a0_0 l0_1 t190 x188001_1)) else (if x188001_1.length < 4398046511104 then (spec_Fence.l0 k1 (wrap64 (x4_1 + 1)) a0_0 l0_1 x188000_1 (x188001_1 ++ [(⟨(rd_T49 l0_1 x4_1).f0, (rd_T49 l0_1 x4_1).f1, bq16⟩ : S49)])) else (none))) = some (r1, r2) := by rw [← hbq16] at H; exact H
      have Nbq16 := Am hbq16
      clear hbq16
      by_cases c17 : bq16 = true
      ·subst c17
       have H1 : ((spec_l10Keep.f x188000_1 ((rd_T49 l0_1 x4_1).f0) ((rd_T49 l0_1 x4_1).f1) (true)).bind fun t190 => (spec_Fence.l0 k1 (wrap64 (x4_1 + 1)) a0_0 l0_1 t190 x188001_1)) = some (r1, r2) := by rw [if_pos rfl] at H; exact H
       clear H
       have H := H1
       clear H1
       replace H := Option.bind_eq_some_iff.mp H
       obtain ⟨t190, A180, H⟩ := H
       replace H : (spec_Fence.l0 k1 (wrap64 (x4_1 + 1)) a0_0 l0_1 t190 x188001_1) = some (r1, r2) := H
       have A18 := Am A180
       clear A180
       have H' := Am H
       clear H
       have hnb19 := NB180_181.out
       have hnc19 := NB181_180.out
       have hnb20 := NB180_187.out
       have hnc20 := NB187_180.out
       obtain ⟨hcz21_0, hcz21_1⟩ := kc2 (w := wr) BK180.out
       have hfz21_0 := kf BK180.out
       have p188 : 0 ≤ (x4_1 : Int) := of_decide_eq_true (by first | (with_reducible assumption) | assumption)
       have q188 : x4_1 < (l0_1.length : Int) := of_decide_eq_true (by first | (with_reducible assumption) | assumption)
       obtain ⟨ad188, e188, hx188_0, hx188_1, hx188_2⟩ := at_T49 HR0_1.out x4_1 p188 q188
       (try rw [← Nbq16.out] at hx188_2)
       cases e188
       replace hx188_0 := cl8 HB hx188_0
       replace hx188_1 := cl8 HB hx188_1
       replace hx188_2 := cl8 HB hx188_2
       replace p188 := eq_true p188
       replace q188 := eq_true q188
       try go_wp2
       have n0_ := Am (re HO_188001.out)
       have n1_ := Am (ke BK180.out)
       have n2_ := Am (ke BK181.out)
       have n3_ := Am (ke BK187.out)
       have n4_ := Am (be HB.out)
       clear HO_188001
       clear BK180
       clear BK181
       clear BK187
       clear HB
       have HO_188001 := n0_
       have BK180 := n1_
       have BK181 := n2_
       have BK187 := n3_
       have HB := n4_
       clear n0_ n1_ n2_ n3_ n4_
       have p189 : 0 ≤ (x4_1 : Int) := of_decide_eq_true (by first | (with_reducible assumption) | assumption)
       have q189 : x4_1 < (l0_1.length : Int) := of_decide_eq_true (by first | (with_reducible assumption) | assumption)
       obtain ⟨ad189, e189, hx189_0, hx189_1, hx189_2⟩ := at_T49 HR0_1.out x4_1 p189 q189
       have hw189_2 := hx189_2
       have hw189_1 := hx189_1
       have hw189_0 := hx189_0
       (try rw [← Nbq16.out] at hx189_2)
       (try rw [← Nbq16.out] at hw189_2)
       obtain rfl : ad188 = ad189 := (by injection e189)
       replace hx189_0 := cl8 HB hx189_0
       replace hx189_1 := cl8 HB hx189_1
       replace hx189_2 := cl8 HB hx189_2
       replace p189 := eq_true p189
       replace q189 := eq_true q189
       refine start_ (n := 10) (S := fun w' => w'.cell? ⟨gb187, 0, none⟩ = some (.string x188000_1) ∧ w'.cell? ⟨gb187, 1, none⟩ = some (u188001) ∧ w'.cell? ⟨gb180, 0, none⟩ = some (.string a0_0) ∧ w'.cell? ⟨gb180, 1, none⟩ = some (.slice (some ad188) l0_1.length c0_1) ∧ w'.cell? (ad188.add ((x4_1).toNat * 3)) = some (.int .i64 ((rd_T49 l0_1 x4_1).f0)) ∧ w'.cell? ⟨(ad188.add ((x4_1).toNat * 3)).block, (ad188.add ((x4_1).toNat * 3)).off + 1, none⟩ = some (.string ((rd_T49 l0_1 x4_1).f1)) ∧ w'.cell? ⟨(ad188.add ((x4_1).toNat * 3)).block, (ad188.add ((x4_1).toNat * 3)).off + 2, none⟩ = some (.bool (true))) (ds := [9]) #[false, false, false, false, false, false, false, false, false, false] (by kernel_rfl) rfl rfl ⟨(kc BK187.out 0).trans rfl, (kc BK187.out 1).trans rfl, (kc BK180.out 0).trans rfl, (kc BK180.out 1).trans rfl, (cl8 HB hw189_0), (cl8 HB hw189_1), (cl8 HB hw189_2)⟩ (fun hHeld => ?_); refine with_tabW spec_Fence.tab8 spec_Fence.bits8 (fun HT_ HW_ => ?_)
       generalize wr.drew = w22 at HO_188001 BK180 BK181 BK187 HB hx189_0 hx189_1 hx189_2 hHeld ⊢
       refine zA 0 (some 26) HT_.out rfl rfl ?_
       refine zA 2 (some 28) HT_.out rfl rfl ?_
       refine zA 4 (some 30) HT_.out rfl rfl ?_
       refine zT 1 (some 27) HT_.out HW_.out rfl rfl hHeld ?_
       refine zT 3 (some 29) HT_.out HW_.out rfl rfl hHeld ?_
       refine zA 5 (some 31) HT_.out rfl rfl ?_
       refine zT 6 (some 32) HT_.out HW_.out rfl rfl hHeld ?_
       refine zO 7 (some 33) HT_.out rfl rfl (fun K hK => ?_)
       refine goes_ Try.func23 (by kernel_rfl) rfl #[.string x188000_1, .agg #[.int .i64 ((rd_T49 l0_1 x4_1).f0), .string ((rd_T49 l0_1 x4_1).f1), .bool true]] (by rfl) rfl rfl (by (try simp only [List.map_toArray, List.map_cons, List.map_nil]); first | done | rfl | (simp only [List.length_drop, List.length_take]; rfl)) ?_
       with_reducible refine (spec_l10Keep.calls x188000_1 ((rd_T49 l0_1 x4_1).f0) ((rd_T49 l0_1 x4_1).f1) true t190 _ A18.out).mono ?_
       rintro e w23 ⟨rfl, hb⟩
       refine ⟨_, rfl, ?_⟩
       have n0_ := Am (rb (by (with_reducible repeat (first | apply ra | apply rn | apply re)); exact HO_188001.out) hb)
       have n1_ := Am (zK BK180 hb)
       have n2_ := Am (zK BK181 hb)
       have n3_ := Am (zK BK187 hb)
       have n4_ := Am (bq zG hb)
       clear HO_188001
       clear BK180
       clear BK181
       clear BK187
       clear HB
       have HO_188001 := n0_
       have BK180 := n1_
       have BK181 := n2_
       have BK187 := n3_
       have HB := n4_
       clear n0_ n1_ n2_ n3_ n4_
       (try clear hb)
       (try clear hb2)
       (try clear hk)
       (try clear hi)
       refine hK.out _ _ ⟨(kc BK187.out 0).trans rfl, (kc BK187.out 1).trans rfl, (kc BK180.out 0).trans rfl, (kc BK180.out 1).trans rfl, (cl8 HB hw189_0 :), (cl8 HB hw189_1 :), (cl8 HB hw189_2 :)⟩ (fun hHeld => ?_)
       clear hK K
       refine zN (some 33) ?_
       refine zA 8 (some 34) HT_.out rfl rfl ?_
       refine last_ (i := 9) (N := none) #[true, true, true, true, true, true, true, true, true, true] rfl rfl (one_of HT_.out (by kernel_rfl)) (by decide) (fun K hK => ?_)
       have hs24 : w23.cell? ⟨gb187, 0, none⟩ = some (.string x188000_1) := (kc BK187.out 0).trans rfl
       have hfs24 := kf BK187.out 0
       have hns24_0 := NB180_187.out
       have hns24_1 := NB181_187.out
       have hms24_0 := NB187_180.out
       have hms24_1 := NB187_181.out
       refine skip_ (w1 := ?_) (by rfl) rfl ?_ ?_
       rotate_left
       ·go_simp
        rfl
       refine hK.out _ _ ?_
       clear hK K
       refine done_ (done_of HT_.out (by kernel_rfl)) ?_
       try go_wp2
       go_roundg k1
       case measure => have := HK1.out; omega
       case rel => exact ⟨(wrap64 (x4_1 + 1)), (t190), (x188001_1), (u188001), (by first | rfl | (simp; done) | (simp [*]; done)), H', ⟨by have := HK1.out; omega⟩, ⟨by (with_reducible repeat (first | apply ra | apply rn | apply re)); exact Kd.R_mono (Kd.R_far (p := ⟨gb187, 0, none⟩) (Kd.R_types HO_188001.out BK187.out (by decide)) (fun _ hk => (by first | exact hk.2 | exact hk | exact hk.1 | exact hk.1.1 | exact hk.1.2 | exact hk.2.1 | exact hk.2.2 | exact hk.1.1.1 | exact hk.1.1.2 | exact hk.1.2.1 | exact hk.1.2.2 | exact hk.2.1.1 | exact hk.2.1.2 | exact hk.2.2.1 | exact hk.2.2.2)) (.string t190)) (fun _ hk => trivial)⟩, ⟨by (with_reducible repeat (first | refine kn ?_ _ | refine ke ?_ | refine ka ?_ _)); refine blk_far ?_ NB180_187.out _; (with_reducible repeat (first | refine kn ?_ _ | refine ke ?_ | refine ka ?_ _)); exact BK180.out⟩, ⟨by (with_reducible repeat (first | refine kn ?_ _ | refine ke ?_ | refine ka ?_ _)); refine blk_far ?_ NB181_187.out _; (with_reducible repeat (first | refine kn ?_ _ | refine ke ?_ | refine ka ?_ _)); exact BK181.out⟩, ⟨by (with_reducible repeat (first | refine kn ?_ _ | refine ke ?_ | refine ka ?_ _)); refine kp (cs := #[.string x188000_1, u188001]) ?_ 0 _ rfl; (with_reducible repeat (first | refine kn ?_ _ | refine ke ?_ | refine ka ?_ _)); exact BK187.out⟩, ⟨zG⟩⟩
      ·replace c17 := Bool.eq_false_iff.mpr c17
       subst c17
       have H1 : (if x188001_1.length < 4398046511104 then (spec_Fence.l0 k1 (wrap64 (x4_1 + 1)) a0_0 l0_1 x188000_1 (x188001_1 ++ [(⟨(rd_T49 l0_1 x4_1).f0, (rd_T49 l0_1 x4_1).f1, false⟩ : S49)])) else (none)) = some (r1, r2) := by rw [if_neg (show ¬ (false = true) by decide)] at H; exact H
       clear H
       have H := H1
       clear H1
       by_cases c25 : x188001_1.length < 4398046511104
       ·rw [if_pos c25] at H
        have LMc25 := Am c25
        clear c25
        obtain ⟨y192, hy192⟩ : ∃ y_ : List (S49), y_ = (x188001_1 ++ [(⟨(rd_T49 l0_1 x4_1).f0, (rd_T49 l0_1 x4_1).f1, false⟩ : S49)]) := ⟨_, rfl⟩
        replace H : (spec_Fence.l0 k1 (wrap64 (x4_1 + 1)) a0_0 l0_1 x188000_1 y192) = some (r1, r2) := by first | (rw [hy192]; with_reducible exact H) | (have H2_ := (Option.bind_some _ _).symm.trans H; rw [hy192]; with_reducible exact H2_) | (have H2_ := (Option.bind_some _ _).symm.trans H; with_reducible exact H2_) | with_reducible exact H | (rw [hy192]; exact H) | exact H
        have Ny192 := Am hy192
        clear hy192
        have H' := Am H
        clear H
        have hnb26 := NB180_181.out
        have hnc26 := NB181_180.out
        have hnb27 := NB180_187.out
        have hnc27 := NB187_180.out
        obtain ⟨hcz28_0, hcz28_1⟩ := kc2 (w := wr) BK180.out
        have hfz28_0 := kf BK180.out
        have p188 : 0 ≤ (x4_1 : Int) := of_decide_eq_true (by first | (with_reducible assumption) | assumption)
        have q188 : x4_1 < (l0_1.length : Int) := of_decide_eq_true (by first | (with_reducible assumption) | assumption)
        obtain ⟨ad188, e188, hx188_0, hx188_1, hx188_2⟩ := at_T49 HR0_1.out x4_1 p188 q188
        (try rw [← Nbq16.out] at hx188_2)
        cases e188
        replace hx188_0 := cl8 HB hx188_0
        replace hx188_1 := cl8 HB hx188_1
        replace hx188_2 := cl8 HB hx188_2
        replace p188 := eq_true p188
        replace q188 := eq_true q188
        try go_wp2
        have n0_ := Am (re HO_188001.out)
        have n1_ := Am (ke BK180.out)
        have n2_ := Am (ke BK181.out)
        have n3_ := Am (ke BK187.out)
        have n4_ := Am (be HB.out)
        clear HO_188001
        clear BK180
        clear BK181
        clear BK187
        clear HB
        have HO_188001 := n0_
        have BK180 := n1_
        have BK181 := n2_
        have BK187 := n3_
        have HB := n4_
        clear n0_ n1_ n2_ n3_ n4_
        have p191 : 0 ≤ (x4_1 : Int) := of_decide_eq_true (by first | (with_reducible assumption) | assumption)
        have q191 : x4_1 < (l0_1.length : Int) := of_decide_eq_true (by first | (with_reducible assumption) | assumption)
        obtain ⟨ad191, e191, hx191_0, hx191_1, hx191_2⟩ := at_T49 HR0_1.out x4_1 p191 q191
        have hw191_2 := hx191_2
        have hw191_1 := hx191_1
        have hw191_0 := hx191_0
        (try rw [← Nbq16.out] at hx191_2)
        (try rw [← Nbq16.out] at hw191_2)
        obtain rfl : ad188 = ad191 := (by injection e191)
        replace hx191_0 := cl8 HB hx191_0
        replace hx191_1 := cl8 HB hx191_1
        replace hx191_2 := cl8 HB hx191_2
        replace p191 := eq_true p191
        replace q191 := eq_true q191
        refine start_ (n := 11) (S := fun w' => w'.cell? ⟨gb187, 0, none⟩ = some (.string x188000_1) ∧ w'.cell? ⟨gb187, 1, none⟩ = some (u188001) ∧ w'.cell? ⟨gb180, 0, none⟩ = some (.string a0_0) ∧ w'.cell? ⟨gb180, 1, none⟩ = some (.slice (some ad188) l0_1.length c0_1) ∧ w'.cell? (ad188.add ((x4_1).toNat * 3)) = some (.int .i64 ((rd_T49 l0_1 x4_1).f0)) ∧ w'.cell? ⟨(ad188.add ((x4_1).toNat * 3)).block, (ad188.add ((x4_1).toNat * 3)).off + 1, none⟩ = some (.string ((rd_T49 l0_1 x4_1).f1)) ∧ w'.cell? ⟨(ad188.add ((x4_1).toNat * 3)).block, (ad188.add ((x4_1).toNat * 3)).off + 2, none⟩ = some (.bool (false))) (ds := [10]) #[false, false, false, false, false, false, false, false, false, false, false] (by kernel_rfl) rfl rfl ⟨(kc BK187.out 0).trans rfl, (kc BK187.out 1).trans rfl, (kc BK180.out 0).trans rfl, (kc BK180.out 1).trans rfl, (cl8 HB hw191_0), (cl8 HB hw191_1), (cl8 HB hw191_2)⟩ (fun hHeld => ?_); refine with_tabW spec_Fence.tab9 spec_Fence.bits9 (fun HT_ HW_ => ?_)
        generalize wr.drew = w29 at HO_188001 BK180 BK181 BK187 HB hx191_0 hx191_1 hx191_2 hHeld ⊢
        refine zA 0 (some 35) HT_.out rfl rfl ?_
        refine zA 2 (some 37) HT_.out rfl rfl ?_
        refine zA 4 (some 39) HT_.out rfl rfl ?_
        refine zT 1 (some 36) HT_.out HW_.out rfl rfl hHeld ?_
        refine zT 3 (some 38) HT_.out HW_.out rfl rfl hHeld ?_
        refine zA 5 (some 40) HT_.out rfl rfl ?_
        refine zT 6 (some 41) HT_.out HW_.out rfl rfl hHeld ?_
        refine zO 7 (some 42) HT_.out rfl rfl (fun K hK => ?_)
        refine value_ (w1 := ?_) (v := ?_) (by rfl) rfl ?_ ?_
        rotate_left 2
        ·go_simp
         constructor
         ·rfl
         ·rfl
        refine hK.out _ _ ⟨(kc (ka BK187.out _) 0).trans rfl, (kc (ka BK187.out _) 1).trans rfl, (kc (ka BK180.out _) 0).trans rfl, (kc (ka BK180.out _) 1).trans rfl, (World.cell?_alloc_lt _ _ _ (World.block_lt_of_cell? _ _ ((cl8 HB hw191_0 :)))).trans ((cl8 HB hw191_0 :)), (World.cell?_alloc_lt _ _ _ (World.block_lt_of_cell? _ _ ((cl8 HB hw191_1 :)))).trans ((cl8 HB hw191_1 :)), (World.cell?_alloc_lt _ _ _ (World.block_lt_of_cell? _ _ ((cl8 HB hw191_2 :)))).trans ((cl8 HB hw191_2 :))⟩ (fun hHeld => ?_)
        clear hK K
        refine zN (some 42) ?_
        refine zO 8 (some 43) HT_.out rfl rfl (fun K hK => ?_)
        refine Kd.R_append_step k49 (w0 := w) w.heap.size (by rfl) (.tmp 36) (.tmp 42) 26 49 (.agg #[(.int .i64 0), (.string ⟨#[]⟩), (.bool false)]) 32 rfl Try.underlying26 info49 rfl (by decide) (by omega) u188001 x188001_1 (⟨(rd_T49 l0_1 x4_1).f0, (rd_T49 l0_1 x4_1).f1, false⟩ : S49) [.int .i64 ((rd_T49 l0_1 x4_1).f0), .string ((rd_T49 l0_1 x4_1).f1), .bool false] (fun _ => True) (fun _ => False) rfl rfl ?aP (fun _ hk => hk.elim) ?aF ?aO ?aB ?aS ?aL ?_
        (case aP => exact k49_mkM _ _ _ (⟨(rd_T49 l0_1 x4_1).f0, (rd_T49 l0_1 x4_1).f1, false⟩ : S49))
        (case aB => exact zG)
        (case aF => exact (fun _ _ => trivial))
        (case aO => exact (by (with_reducible repeat (first | apply ra | apply rn | apply re)); exact HO_188001.out))
        (case aS => exact (bz zG))
        (case aL => have := LMc25.out; omega)
        intro v193 w30 ho hb hg hat
        rw [← Ny192.out] at ho
        have n0_ := Am (kg (g := gb180) (o := .cells #[.string a0_0, .slice (some ad188) l0_1.length c0_1] 28 (0, 0)) (by (with_reducible repeat (first | refine kn ?_ _ | refine ke ?_ | refine ka ?_ _)); exact BK180.out) hg (Kd.R_ne HO_188001.out BK180.out (by decide)))
        have n1_ := Am (kg (g := gb181) (o := .cells #[.string (⟨#[]⟩ : ByteArray), .slice none 0 0] 28 (0, 0)) (by (with_reducible repeat (first | refine kn ?_ _ | refine ke ?_ | refine ka ?_ _)); exact BK181.out) hg (Kd.R_ne HO_188001.out BK181.out (by decide)))
        have n2_ := Am (kg (g := gb187) (o := .cells #[.string x188000_1, u188001] 28 (0, 0)) (by (with_reducible repeat (first | refine kn ?_ _ | refine ke ?_ | refine ka ?_ _)); exact BK187.out) hg (Kd.R_ne HO_188001.out BK187.out (by decide)))
        have n3_ := Am (hb)
        have n4_ := Am (ho)
        clear BK180
        clear BK181
        clear BK187
        clear HB
        clear HO_188001
        have BK180 := n0_
        have BK181 := n1_
        have BK187 := n2_
        have HB := n3_
        have HO194 := n4_
        clear n0_ n1_ n2_ n3_ n4_
        clear ho hb hg hat
        obtain ⟨Ao31, co31, eo31⟩ := Kd.R_slice HO194.out
        (first | subst eo31 | (injection eo31 with f1_ f2_ f3_; have f4_ := f1_.symm; have f5_ := f3_.symm; clear f1_ f2_ f3_; subst f4_; subst f5_))
        refine hK.out _ _ ⟨(kc BK187.out 0).trans rfl, (kc BK187.out 1).trans rfl, (kc BK180.out 0).trans rfl, (kc BK180.out 1).trans rfl, (cl8 HB hw191_0 :), (cl8 HB hw191_1 :), (cl8 HB hw191_2 :)⟩ (fun hHeld => ?_)
        clear hK K
        refine zN (some 43) ?_
        refine zA 9 (some 44) HT_.out rfl rfl ?_
        refine last_ (i := 10) (N := none) #[true, true, true, true, true, true, true, true, true, true, true] rfl rfl (one_of HT_.out (by kernel_rfl)) (by decide) (fun K hK => ?_)
        have hs32 : w30.cell? ⟨gb187, 1, none⟩ = some (u188001) := (kc BK187.out 1).trans rfl
        have hfs32 := kf BK187.out 1
        have hns32_0 := NB180_187.out
        have hns32_1 := NB181_187.out
        have hms32_0 := NB187_180.out
        have hms32_1 := NB187_181.out
        refine skip_ (w1 := ?_) (by rfl) rfl ?_ ?_
        rotate_left
        ·go_simp
         rfl
        refine hK.out _ _ ?_
        clear hK K
        refine done_ (done_of HT_.out (by kernel_rfl)) ?_
        try go_wp2
        go_roundg k1
        case measure => have := HK1.out; omega
        case rel => exact ⟨(wrap64 (x4_1 + 1)), (x188000_1), (y192), (.slice Ao31 y192.length co31), (by first | rfl | (simp; done) | (simp [*]; done)), H', ⟨by have := HK1.out; omega⟩, ⟨by (with_reducible repeat (first | apply ra | apply rn | apply re)); exact Kd.R_mono (Kd.R_far (p := ⟨gb187, 1, none⟩) (Kd.R_types HO194.out BK187.out (by decide)) (fun _ hk => (by first | exact hk.2 | exact hk | exact hk.1 | exact hk.1.1 | exact hk.1.2 | exact hk.2.1 | exact hk.2.2 | exact hk.1.1.1 | exact hk.1.1.2 | exact hk.1.2.1 | exact hk.1.2.2 | exact hk.2.1.1 | exact hk.2.1.2 | exact hk.2.2.1 | exact hk.2.2.2)) (.slice Ao31 y192.length co31)) (fun _ hk => trivial)⟩, ⟨by (with_reducible repeat (first | refine kn ?_ _ | refine ke ?_ | refine ka ?_ _)); refine blk_far ?_ NB180_187.out _; (with_reducible repeat (first | refine kn ?_ _ | refine ke ?_ | refine ka ?_ _)); exact BK180.out⟩, ⟨by (with_reducible repeat (first | refine kn ?_ _ | refine ke ?_ | refine ka ?_ _)); refine blk_far ?_ NB181_187.out _; (with_reducible repeat (first | refine kn ?_ _ | refine ke ?_ | refine ka ?_ _)); exact BK181.out⟩, ⟨by (with_reducible repeat (first | refine kn ?_ _ | refine ke ?_ | refine ka ?_ _)); refine kp (cs := #[.string x188000_1, u188001]) ?_ 1 _ rfl; (with_reducible repeat (first | refine kn ?_ _ | refine ke ?_ | refine ka ?_ _)); exact BK187.out⟩, ⟨zG⟩⟩
       ·rw [if_neg c25] at H
        exact absurd H (by simp)
     ·rw [if_neg c15] at H
      exact absurd H (by simp)
    ·rw [if_neg c14] at H
     have c14b0 : decide (x4_1 < (l0_1.length : Int)) = false := decide_eq_false c14
     clear c14
     simp only [Option.some.injEq, Prod.mk.injEq] at H
     obtain ⟨rfl, rfl⟩ := H
     have hnb33 := NB180_181.out
     have hnc33 := NB181_180.out
     have hnb34 := NB180_187.out
     have hnc34 := NB187_180.out
     obtain ⟨hcz35_0, hcz35_1⟩ := kc2 (w := wr) BK180.out
     have hfz35_0 := kf BK180.out
     have hnb36 := NB187_181.out
     have hnc36 := NB181_187.out
     obtain ⟨hcz37_0, hcz37_1⟩ := kc2 (w := wr) BK187.out
     have hfz37_0 := kf BK187.out
     obtain ⟨hcz38_0, hcz38_1⟩ := kc2 (w := wr) BK181.out
     have hfz38_0 := kf BK181.out
     obtain ⟨Ao39, co39, eo39⟩ := Kd.R_slice HO_188001.out
     subst eo39
     go_wp2
     refine bodyPost_ret (results_cell_row rfl _ _ gb181 28 #[.string x188000_1, .slice Ao39 x188001_1.length co39] (0, 0) _ rfl (by (with_reducible repeat (first | refine kn ?_ _ | refine ke ?_ | refine ka ?_ _)); refine kp (cs := #[.string x188000_1, .slice none 0 0]) ?_ 1 _ rfl; (with_reducible repeat (first | refine kn ?_ _ | refine ke ?_ | refine ka ?_ _)); refine kp (cs := #[.string (⟨#[]⟩ : ByteArray), .slice none 0 0]) ?_ 0 _ rfl; (with_reducible repeat (first | refine kn ?_ _ | refine ke ?_ | refine ka ?_ _)); exact BK181.out) Try.underlying28 rfl (by kernel_rfl)) rfl ?_
     exact ⟨_, zR, by (with_reducible repeat (first | apply ra | apply rn | apply re)); exact Kd.R_mono (Kd.R_far (p := ⟨gb181, 1, none⟩) (Kd.R_far (p := ⟨gb181, 0, none⟩) (Kd.R_types HO_188001.out BK181.out (by decide)) (fun _ hk => hk.2) (.string x188000_1)) (fun _ hk => hk.2) (.slice Ao39 x188001_1.length co39)) (fun _ hk => trivial), zG⟩
 ·replace c3 := Bool.eq_false_iff.mpr c3
  subst c3
  have H1 : ((spec_l10Copy.f a0_0 l0_1).bind fun bt183 => (some (bt183.1, bt183.2))) = some (r1, r2) := by rw [if_neg (show ¬ (false = true) by decide)] at H; exact H
  clear H
  have H := H1
  clear H1
  replace H := Option.bind_eq_some_iff.mp H
  obtain ⟨⟨t183, t184⟩, A400, H⟩ := H
  replace H : (some (t183, t184)) = some (r1, r2) := H
  have A40 := Am A400
  clear A400
  simp only [Option.some.injEq, Prod.mk.injEq] at H
  obtain ⟨rfl, rfl⟩ := H
  go_enter Try.func54, Try.ntmps54
  go_wp2_with (first | ((with_reducible refine gate_dst (N := 1) rfl ?_); refine box_event ?hg (N := 1) ?hd (cs := #[.string a0_0, .slice A0_1 l0_1.length c0_1]) (t := 28) ?hr ?_; (case hd => rfl); (case hg => rfl); (case hr => first | (go_simp; done) | (go_simp; rfl)); intro gb180 hg w41 hbox hb; have BK180 := Am (hbox); have GW180 := Am ((by rw [hg]; exact (bz zB) : w.heap.size ≤ gb180)); have GE180 := Am ((by rw [hg]; exact (bz zB) : w.heap.size ≤ gb180)); replace HB := Am (bq zB hb); clear hb hbox hg) | ((with_reducible refine gate_dst (N := 2) rfl ?_); refine box_event ?hg (N := 2) ?hd (cs := #[.string (⟨#[]⟩ : ByteArray), .slice none 0 0]) (t := 28) ?hr ?_; (case hd => rfl); (case hg => rfl); (case hr => first | (go_simp; done) | (go_simp; rfl)); intro gb181 hg w42 hbox hb; have n0_ := Am (zK BK180 hb); have n1_ := Am (bq zG hb); have n2_ := Am (hbox); have n3_ := Am ((by rw [hg]; exact (bz zG) : w.heap.size ≤ gb181)); have n4_ := Am ((by rw [hg]; exact (bz zG) : w.heap.size ≤ gb181)); have n5_ := Am ((by rw [hg]; exact Nat.ne_of_lt (zL BK180) : gb180 ≠ gb181)); have n6_ := Am ((by rw [hg]; exact Nat.ne_of_gt (zL BK180) : gb181 ≠ gb180)); clear BK180; clear HB; have BK180 := n0_; have HB := n1_; have BK181 := n2_; have GW181 := n3_; have GE181 := n4_; have NB180_181 := n5_; have NB181_180 := n6_; clear n0_ n1_ n2_ n3_ n4_ n5_ n6_; clear hb hbox hg; have hnb43 := NB180_181.out; have hnc43 := NB181_180.out; obtain ⟨hcz44_0, hcz44_1⟩ := kc2 (w := w42) BK180.out; have hfz44_0 := kf BK180.out) | ((with_reducible refine gate_callee (f := 15) rfl ?_); refine zC (some 6) rfl rfl Try.func15 rfl #[.agg #[.string a0_0, .slice A0_1 l0_1.length c0_1]] rfl ?_; (with_reducible refine (spec_MemoryOk.calls k a0_0 _ _ l0_1 false _ ?side1 ?side2 A2.out).mono ?_); (case side1 => repeat (first | exact (cb HR0_1.out HB.out) | (with_reducible first | refine ca ?_ _ | refine cn ?_ _ | refine ce ?_))); (case side2 => exact HC0_1.out); rintro e w45 ⟨rfl, hb⟩; refine ⟨_, rfl, ?_⟩; have n0_ := Am (zK BK180 hb); have n1_ := Am (zK BK181 hb); have n2_ := Am (bq zG hb); clear BK180; clear BK181; clear HB; have BK180 := n0_; have BK181 := n1_; have HB := n2_; clear n0_ n1_ n2_; (try clear hb); obtain ⟨hcz46_0, hcz46_1⟩ := kc2 (w := w45) BK180.out; have hfz46_0 := kf BK180.out) | ((with_reducible refine gate_callee (f := 22) rfl ?_); refine zC (some 9) rfl rfl Try.func22 rfl #[.agg #[.string a0_0, .slice A0_1 l0_1.length c0_1]] rfl ?_; (with_reducible refine (spec_l10Copy.calls a0_0 _ _ l0_1 t183 t184 _ ?side1 ?side2 A40.out).mono ?_); (case side1 => repeat (first | exact (cb HR0_1.out HB.out) | (with_reducible first | refine ca ?_ _ | refine cn ?_ _ | refine ce ?_))); (case side2 => exact HC0_1.out); rintro e w47 ⟨v185, rfl, ho0, hb⟩; refine ⟨_, rfl, ?_⟩; have n0_ := Am (Kd.R_lower ho0 (bz zG)); have n1_ := Am (zK BK180 hb); have n2_ := Am (zK BK181 hb); have n3_ := Am (bq zG hb); clear BK180; clear BK181; clear HB; have HO186 := n0_; have BK180 := n1_; have BK181 := n2_; have HB := n3_; clear n0_ n1_ n2_ n3_; (try clear hb ho0); obtain ⟨hcz48_0, hcz48_1⟩ := kc2 (w := w47) BK181.out; have hfz48_0 := kf BK181.out; obtain ⟨Ao49, co49, eo49⟩ := Kd.R_slice HO186.out; subst eo49))
  refine bodyPost_ret (results_cell_row rfl _ _ gb181 28 #[.string t183, .slice Ao49 t184.length co49] (0, 0) _ rfl (by (with_reducible repeat (first | refine kn ?_ _ | refine ke ?_ | refine ka ?_ _)); refine kp (cs := #[.string t183, .slice none 0 0]) ?_ 1 _ rfl; (with_reducible repeat (first | refine kn ?_ _ | refine ke ?_ | refine ka ?_ _)); refine kp (cs := #[.string (⟨#[]⟩ : ByteArray), .slice none 0 0]) ?_ 0 _ rfl; (with_reducible repeat (first | refine kn ?_ _ | refine ke ?_ | refine ka ?_ _)); exact BK181.out) Try.underlying28 rfl (by kernel_rfl)) rfl ?_
  exact ⟨_, zR, by (with_reducible repeat (first | apply ra | apply rn | apply re)); exact Kd.R_mono (Kd.R_far (p := ⟨gb181, 1, none⟩) (Kd.R_far (p := ⟨gb181, 0, none⟩) (Kd.R_types HO186.out BK181.out (by decide)) (fun _ hk => hk.2) (.string t183)) (fun _ hk => hk.2) (.slice Ao49 t184.length co49)) (fun _ hk => trivial), zG⟩

/-! ### spec_l10Cell: function 65 -/
def spec_l10Cell.l0 : Nat → Int → Int → ByteArray → List (S49) → Option (Int)
 | 0, _, _, _, _ => none
 | k + 1, x1, x5, x196000, x196001 => if x5 < (x196001.length : Int) then (if 0 ≤ x5 then (if ((rd_T49 x196001 x5).f0) = x1 then (some x5) else (spec_l10Cell.l0 k x1 (wrap64 (x5 + 1)) x196000 x196001)) else (none)) else (some (-1))
def spec_l10Cell.f (k : Nat) (a0_0 : ByteArray) (l0_1 : List (S49)) (a1 : Int) : Option (Int) := spec_l10Cell.l0 k a1 0 a0_0 l0_1
theorem spec_l10Cell.mono_l : ∀ k, (∀ y0 y1 y2 y3, LeO (spec_l10Cell.l0 k y0 y1 y2 y3) (spec_l10Cell.l0 (k + 1) y0 y1 y2 y3))
 | 0 => fun _ _ _ _ r h => by simp [spec_l10Cell.l0] at h
 | k + 1 => by
  have ih0 := spec_l10Cell.mono_l k
  ·intro y0 y1 y2 y3
   unfold spec_l10Cell.l0
   repeat' first
   | (with_reducible exact ih0 _ _ _ _)
   | (with_reducible exact LeO.refl _)
   | (with_reducible exact LeO.none _)
   | (with_reducible refine LeO.ite ?_ ?_)
   | (with_reducible refine LeO.bind ?_ (fun _ => ?_))
   | exact ih0 _ _ _ _
   | exact LeO.none _
   | refine LeO.ite ?_ ?_
   | refine LeO.bind ?_ (fun _ => ?_)
theorem spec_l10Cell.mono : ∀ a0 a1 a2 k, LeO (spec_l10Cell.f k a0 a1 a2) (spec_l10Cell.f (k + 1) a0 a1 a2) := by
 intro a0 a1 a2 k
 have ih0 := spec_l10Cell.mono_l k
 unfold spec_l10Cell.f
 repeat' first
   | (with_reducible exact ih0 _ _ _ _)
   | (with_reducible exact LeO.refl _)
   | (with_reducible exact LeO.none _)
   | (with_reducible refine LeO.ite ?_ ?_)
   | (with_reducible refine LeO.bind ?_ (fun _ => ?_))
   | exact ih0 _ _ _ _
   | exact LeO.none _
   | refine LeO.ite ?_ ?_
   | refine LeO.bind ?_ (fun _ => ?_)
set_option maxHeartbeats 8000000 in
set_option maxRecDepth 100000 in
theorem spec_l10Cell.calls (k : Nat) (a0_0 : ByteArray) (A0_1 : Option Addr) (c0_1 : Nat) (l0_1 : List (S49)) (a1 : Int) (r : Int) (w : World) (hr0_1 : Kd.C k49 w A0_1 l0_1.length l0_1) (hc0_1 : l0_1.length ≤ c0_1) (h : spec_l10Cell.f k a0_0 l0_1 a1 = some r) :
  Calls Try.prog 65 #[.agg #[.string a0_0, .slice A0_1 l0_1.length c0_1], .int .i64 a1] w fun e w' => e = .returned (.int .i64 r) ∧ Below w.heap.size w w' := by
 have hu28 := Try.underlying28
 have HR0_1 := Am hr0_1
 have HC0_1 := Am hc0_1
 clear hr0_1 hc0_1
 have HB := Am (Below.refl w.heap.size w)
 have H : (spec_l10Cell.l0 k a1 0 a0_0 l0_1) = some r := h
 clear h
 have H' := Am H
 clear H
 go_enter Try.func65, Try.ntmps65
 go_wp2_with (first | ((with_reducible refine gate_dst (N := 2) rfl ?_); refine box_event ?hg (N := 2) ?hd (cs := #[.string a0_0, .slice A0_1 l0_1.length c0_1]) (t := 28) ?hr ?_; (case hd => rfl); (case hg => rfl); (case hr => first | (go_simp; done) | (go_simp; rfl)); intro gb195 hg w3 hbox hb; have BK195 := Am (hbox); have GW195 := Am ((by rw [hg]; exact (bz zB) : w.heap.size ≤ gb195)); have GE195 := Am ((by rw [hg]; exact (bz zB) : w.heap.size ≤ gb195)); replace HB := Am (bq zB hb); clear hb hbox hg))
 go_loopg [5] k (fun kq v5 w' => ∃ (x5_1 : Int), v5 = .int .i64 x5_1 ∧ Aside0 (spec_l10Cell.l0 kq a1 x5_1 a0_0 l0_1 = some r) ∧ Aside0 (kq ≤ k) ∧ Aside0 (w'.heap[gb195]? = some (.cells #[.string a0_0, (.slice A0_1 l0_1.length c0_1)] 28 (0, 0))) ∧ Aside0 (Below w.heap.size w w'))
 case atStart => exact ⟨(0), (by first | rfl | (simp; done) | (simp [*]; done)), H', ⟨Nat.le_refl _⟩, ⟨by (with_reducible repeat (first | refine kn ?_ _ | refine ke ?_ | refine ka ?_ _)); exact BK195.out⟩, ⟨zG⟩⟩
 case round =>
  clear H'
  try clear p2
  obtain ⟨x5_1, rfl, HA, HK1, BK195, HB⟩ := hrel
  cases gk with
  | zero => exact absurd HA.out (by simp [spec_l10Cell.l0])
  | succ k1 =>
   have H := HA.out
   clear HA
   simp only [spec_l10Cell.l0] at H
   by_cases c4 : x5_1 < (l0_1.length : Int)
   ·rw [if_pos c4] at H
    have c4b0 : decide (x5_1 < (l0_1.length : Int)) = true := decide_eq_true c4
    clear c4
    by_cases c5 : 0 ≤ x5_1
    ·rw [if_pos c5] at H
     have c5b0 : decide (0 ≤ x5_1) = true := decide_eq_true c5
     clear c5
     by_cases c6 : ((rd_T49 l0_1 x5_1).f0) = a1
     ·rw [if_pos c6] at H
      have c6b0 : (((rd_T49 l0_1 x5_1).f0) == a1) = true := beq_iff_eq.mpr c6
      have c6b1 : (((rd_T49 l0_1 x5_1).f0) != a1) = false := bne_eq_false_iff_eq.mpr c6
      clear c6
      obtain rfl := Option.some.inj H
      obtain ⟨hcz7_0, hcz7_1⟩ := kc2 (w := wr) BK195.out
      have hfz7_0 := kf BK195.out
      have p196 : 0 ≤ (x5_1 : Int) := of_decide_eq_true (by first | (with_reducible assumption) | assumption)
      have q196 : x5_1 < (l0_1.length : Int) := of_decide_eq_true (by first | (with_reducible assumption) | assumption)
      obtain ⟨ad196, e196, hx196_0, hx196_1, hx196_2⟩ := at_T49 HR0_1.out x5_1 p196 q196
      cases e196
      replace hx196_0 := cl8 HB hx196_0
      replace hx196_1 := cl8 HB hx196_1
      replace hx196_2 := cl8 HB hx196_2
      replace p196 := eq_true p196
      replace q196 := eq_true q196
      go_wp2
      go_ret
      exact ⟨zR, zG⟩
     ·rw [if_neg c6] at H
      have c6b0 : (((rd_T49 l0_1 x5_1).f0) == a1) = false := beq_eq_false_iff_ne.mpr c6
      have c6b1 : (((rd_T49 l0_1 x5_1).f0) != a1) = true := bne_iff_ne.mpr c6
      have H' := Am H
      clear H
      obtain ⟨hcz8_0, hcz8_1⟩ := kc2 (w := wr) BK195.out
      have hfz8_0 := kf BK195.out
      have p196 : 0 ≤ (x5_1 : Int) := of_decide_eq_true (by first | (with_reducible assumption) | assumption)
      have q196 : x5_1 < (l0_1.length : Int) := of_decide_eq_true (by first | (with_reducible assumption) | assumption)
      obtain ⟨ad196, e196, hx196_0, hx196_1, hx196_2⟩ := at_T49 HR0_1.out x5_1 p196 q196
      cases e196
      replace hx196_0 := cl8 HB hx196_0
      replace hx196_1 := cl8 HB hx196_1
      replace hx196_2 := cl8 HB hx196_2
      replace p196 := eq_true p196
      replace q196 := eq_true q196
      go_wp2
      go_roundg k1
      case measure => have := HK1.out; omega
      case rel => exact ⟨(wrap64 (x5_1 + 1)), (by first | rfl | (simp; done) | (simp [*]; done)), H', ⟨by have := HK1.out; omega⟩, ⟨by (with_reducible repeat (first | refine kn ?_ _ | refine ke ?_ | refine ka ?_ _)); exact BK195.out⟩, ⟨zG⟩⟩
    ·rw [if_neg c5] at H
     exact absurd H (by simp)
   ·rw [if_neg c4] at H
    have c4b0 : decide (x5_1 < (l0_1.length : Int)) = false := decide_eq_false c4
    clear c4
    obtain rfl := Option.some.inj H
    obtain ⟨hcz9_0, hcz9_1⟩ := kc2 (w := wr) BK195.out
    have hfz9_0 := kf BK195.out
    go_wp2
    go_ret
    exact ⟨zR, zG⟩

/-! ### spec_FlushLine: function 55 -/
def spec_FlushLine.f (k : Nat) (a0_0 : ByteArray) (l0_1 : List (S49)) (a1 : Int) : Option (ByteArray × (List (S49))) := (spec_l10Copy.f a0_0 l0_1).bind fun bt199 => ((spec_l10Cell.f k a0_0 l0_1 a1).bind fun t204 => (if t204 ≥ 0 then ((spec_MemoryOk.f k a0_0 l0_1).bind fun t205 => (if t205 = true then (if 0 ≤ t204 then (if t204 < (bt199.2.length : Int) then (some (bt199.1, (bt199.2.set (t204 : Int).toNat (⟨(rd_T49 bt199.2 t204).f0, (rd_T49 bt199.2 t204).f1, true⟩ : S49)))) else (none)) else (none)) else (some (bt199.1, bt199.2)))) else (some (bt199.1, bt199.2))))
theorem spec_FlushLine.mono : ∀ a0 a1 a2 k, LeO (spec_FlushLine.f k a0 a1 a2) (spec_FlushLine.f (k + 1) a0 a1 a2) := by
 intro a0 a1 a2 k
 unfold spec_FlushLine.f
 repeat' first
   | (with_reducible exact spec_MemoryOk.mono _ _ _)
   | (with_reducible exact spec_l10Cell.mono _ _ _ _)
   | (with_reducible exact LeO.refl _)
   | (with_reducible exact LeO.none _)
   | (with_reducible refine LeO.ite ?_ ?_)
   | (with_reducible refine LeO.bind ?_ (fun _ => ?_))
   | exact spec_MemoryOk.mono _ _ _
   | exact spec_l10Cell.mono _ _ _ _
   | exact LeO.none _
   | refine LeO.ite ?_ ?_
   | refine LeO.bind ?_ (fun _ => ?_)
set_option maxHeartbeats 8000000 in
set_option maxRecDepth 100000 in
theorem spec_FlushLine.calls (k : Nat) (a0_0 : ByteArray) (A0_1 : Option Addr) (c0_1 : Nat) (l0_1 : List (S49)) (a1 : Int) (r1 : ByteArray) (r2 : List (S49)) (w : World) (hr0_1 : Kd.C k49 w A0_1 l0_1.length l0_1) (hc0_1 : l0_1.length ≤ c0_1) (h : spec_FlushLine.f k a0_0 l0_1 a1 = some (r1, r2)) :
  Calls Try.prog 55 #[.agg #[.string a0_0, .slice A0_1 l0_1.length c0_1], .int .i64 a1] w fun e w' => ∃ v1_ : Value, e = .returned (.agg #[.string r1, v1_]) ∧ Kd.R k49 49 w' w.heap.size (fun _ => True) v1_ r2 ∧ Below w.heap.size w w' := by
 have hu28 := Try.underlying28
 have HR0_1 := Am hr0_1
 have HC0_1 := Am hc0_1
 clear hr0_1 hc0_1
 have HB := Am (Below.refl w.heap.size w)
 have H : ((spec_l10Copy.f a0_0 l0_1).bind fun bt199 => ((spec_l10Cell.f k a0_0 l0_1 a1).bind fun t204 => (if t204 ≥ 0 then ((spec_MemoryOk.f k a0_0 l0_1).bind fun t205 => (if t205 = true then (if 0 ≤ t204 then (if t204 < (bt199.2.length : Int) then (some (bt199.1, (bt199.2.set (t204 : Int).toNat (⟨(rd_T49 bt199.2 t204).f0, (rd_T49 bt199.2 t204).f1, true⟩ : S49)))) else (none)) else (none)) else (some (bt199.1, bt199.2)))) else (some (bt199.1, bt199.2))))) = some (r1, r2) := h
 clear h
 replace H := Option.bind_eq_some_iff.mp H
 obtain ⟨⟨t199, t200⟩, A30, H⟩ := H
 replace H : ((spec_l10Cell.f k a0_0 l0_1 a1).bind fun t204 => (if t204 ≥ 0 then ((spec_MemoryOk.f k a0_0 l0_1).bind fun t205 => (if t205 = true then (if 0 ≤ t204 then (if t204 < (t200.length : Int) then (some (t199, (t200.set (t204 : Int).toNat (⟨(rd_T49 t200 t204).f0, (rd_T49 t200 t204).f1, true⟩ : S49)))) else (none)) else (none)) else (some (t199, t200)))) else (some (t199, t200)))) = some (r1, r2) := H
 have A3 := Am A30
 clear A30
 replace H := Option.bind_eq_some_iff.mp H
 obtain ⟨t204, A40, H⟩ := H
 replace H : (if t204 ≥ 0 then ((spec_MemoryOk.f k a0_0 l0_1).bind fun t205 => (if t205 = true then (if 0 ≤ t204 then (if t204 < (t200.length : Int) then (some (t199, (t200.set (t204 : Int).toNat (⟨(rd_T49 t200 t204).f0, (rd_T49 t200 t204).f1, true⟩ : S49)))) else (none)) else (none)) else (some (t199, t200)))) else (some (t199, t200))) = some (r1, r2) := H
 have A4 := Am A40
 clear A40
 by_cases c5 : t204 ≥ 0
 ·rw [if_pos c5] at H
  have c5b0 : decide (0 ≤ t204) = true := decide_eq_true c5
  clear c5
  replace H := Option.bind_eq_some_iff.mp H
  obtain ⟨t205, A60, H⟩ := H
  replace H : (if t205 = true then (if 0 ≤ t204 then (if t204 < (t200.length : Int) then (some (t199, (t200.set (t204 : Int).toNat (⟨(rd_T49 t200 t204).f0, (rd_T49 t200 t204).f1, true⟩ : S49)))) else (none)) else (none)) else (some (t199, t200))) = some (r1, r2) := H
  have A6 := Am A60
  clear A60
  by_cases c7 : t205 = true
  ·subst c7
   have H1 : (if 0 ≤ t204 then (if t204 < (t200.length : Int) then (some (t199, (t200.set (t204 : Int).toNat (⟨(rd_T49 t200 t204).f0, (rd_T49 t200 t204).f1, true⟩ : S49)))) else (none)) else (none)) = some (r1, r2) := by rw [if_pos rfl] at H; exact H
   clear H
   have H := H1
   clear H1
   by_cases c8 : 0 ≤ t204
   ·rw [if_pos c8] at H
    have c8b0 : decide (0 ≤ t204) = true := decide_eq_true c8
    clear c8
    by_cases c9 : t204 < (t200.length : Int)
    ·rw [if_pos c9] at H
     have c9b0 : decide (t204 < (t200.length : Int)) = true := decide_eq_true c9
     clear c9
     obtain ⟨y206, hy206⟩ : ∃ y_ : List (S49), y_ = (t200.set (t204 : Int).toNat (⟨(rd_T49 t200 t204).f0, (rd_T49 t200 t204).f1, true⟩ : S49)) := ⟨_, rfl⟩
     replace H : (some (t199, y206)) = some (r1, r2) := by first | (rw [hy206]; with_reducible exact H) | (have H2_ := (Option.bind_some _ _).symm.trans H; rw [hy206]; with_reducible exact H2_) | (have H2_ := (Option.bind_some _ _).symm.trans H; with_reducible exact H2_) | with_reducible exact H | (rw [hy206]; exact H) | exact H
     have Ny206 := Am hy206
     clear hy206
     simp only [Option.some.injEq, Prod.mk.injEq] at H
     obtain ⟨rfl, rfl⟩ := H
     go_enter Try.func55, Try.ntmps55
     go_wp2_with (first | ((with_reducible refine gate_dst (N := 2) rfl ?_); refine box_event ?hg (N := 2) ?hd (cs := #[.string a0_0, .slice A0_1 l0_1.length c0_1]) (t := 28) ?hr ?_; (case hd => rfl); (case hg => rfl); (case hr => first | (go_simp; done) | (go_simp; rfl)); intro gb197 hg w11 hbox hb; have BK197 := Am (hbox); have GW197 := Am ((by rw [hg]; exact (bz zB) : w.heap.size ≤ gb197)); have GE197 := Am ((by rw [hg]; exact (bz zB) : w.heap.size ≤ gb197)); replace HB := Am (bq zB hb); clear hb hbox hg) | ((with_reducible refine gate_dst (N := 4) rfl ?_); refine box_event ?hg (N := 4) ?hd (cs := #[.string (⟨#[]⟩ : ByteArray), .slice none 0 0]) (t := 28) ?hr ?_; (case hd => rfl); (case hg => rfl); (case hr => first | (go_simp; done) | (go_simp; rfl)); intro gb198 hg w12 hbox hb; have n0_ := Am (zK BK197 hb); have n1_ := Am (bq zG hb); have n2_ := Am (hbox); have n3_ := Am ((by rw [hg]; exact (bz zG) : w.heap.size ≤ gb198)); have n4_ := Am ((by rw [hg]; exact (bz zG) : w.heap.size ≤ gb198)); have n5_ := Am ((by rw [hg]; exact Nat.ne_of_lt (zL BK197) : gb197 ≠ gb198)); have n6_ := Am ((by rw [hg]; exact Nat.ne_of_gt (zL BK197) : gb198 ≠ gb197)); clear BK197; clear HB; have BK197 := n0_; have HB := n1_; have BK198 := n2_; have GW198 := n3_; have GE198 := n4_; have NB197_198 := n5_; have NB198_197 := n6_; clear n0_ n1_ n2_ n3_ n4_ n5_ n6_; clear hb hbox hg; have hnb13 := NB197_198.out; have hnc13 := NB198_197.out; obtain ⟨hcz14_0, hcz14_1⟩ := kc2 (w := w12) BK197.out; have hfz14_0 := kf BK197.out) | ((with_reducible refine gate_callee (f := 22) rfl ?_); refine zC (some 8) rfl rfl Try.func22 rfl #[.agg #[.string a0_0, .slice A0_1 l0_1.length c0_1]] rfl ?_; (with_reducible refine (spec_l10Copy.calls a0_0 _ _ l0_1 t199 t200 _ ?side1 ?side2 A3.out).mono ?_); (case side1 => repeat (first | exact (cb HR0_1.out HB.out) | (with_reducible first | refine ca ?_ _ | refine cn ?_ _ | refine ce ?_))); (case side2 => exact HC0_1.out); rintro e w15 ⟨v201, rfl, ho0, hb⟩; refine ⟨_, rfl, ?_⟩; have n0_ := Am (Kd.R_lower ho0 (bz zG)); have n1_ := Am (zK BK197 hb); have n2_ := Am (zK BK198 hb); have n3_ := Am (bq zG hb); clear BK197; clear BK198; clear HB; have HO202 := n0_; have BK197 := n1_; have BK198 := n2_; have HB := n3_; clear n0_ n1_ n2_ n3_; (try clear hb ho0)) | ((with_reducible refine gate_dst (N := 5) rfl ?_); refine box_event ?hg (N := 5) ?hd (cs := #[.string (⟨#[]⟩ : ByteArray), .slice none 0 0]) (t := 28) ?hr ?_; (case hd => rfl); (case hg => rfl); (case hr => first | (go_simp; done) | (go_simp; rfl)); intro gb203 hg w16 hbox hb; have n0_ := Am (rb (by (with_reducible repeat (first | apply ra | apply rn | apply re)); exact HO202.out) hb); have n1_ := Am (zK BK197 hb); have n2_ := Am (zK BK198 hb); have n3_ := Am (bq zG hb); have n4_ := Am (hbox); have n5_ := Am ((by rw [hg]; exact (bz zG) : w.heap.size ≤ gb203)); have n6_ := Am ((by rw [hg]; exact (bz zG) : w.heap.size ≤ gb203)); have n7_ := Am ((by rw [hg]; exact Nat.ne_of_lt (zL BK197) : gb197 ≠ gb203)); have n8_ := Am ((by rw [hg]; exact Nat.ne_of_gt (zL BK197) : gb203 ≠ gb197)); have n9_ := Am ((by rw [hg]; exact Nat.ne_of_lt (zL BK198) : gb198 ≠ gb203)); have n10_ := Am ((by rw [hg]; exact Nat.ne_of_gt (zL BK198) : gb203 ≠ gb198)); clear HO202; clear BK197; clear BK198; clear HB; have HO202 := n0_; have BK197 := n1_; have BK198 := n2_; have HB := n3_; have BK203 := n4_; have GW203 := n5_; have GE203 := n6_; have NB197_203 := n7_; have NB203_197 := n8_; have NB198_203 := n9_; have NB203_198 := n10_; clear n0_ n1_ n2_ n3_ n4_ n5_ n6_ n7_ n8_ n9_ n10_; clear hb hbox hg; have hnb17 := NB203_197.out; have hnc17 := NB197_203.out; have hnb18 := NB203_198.out; have hnc18 := NB198_203.out; obtain ⟨hcz19_0, hcz19_1⟩ := kc2 (w := w16) BK203.out; have hfz19_0 := kf BK203.out; obtain ⟨Ao20, co20, eo20⟩ := Kd.R_slice HO202.out; subst eo20; obtain ⟨hcz21_0, hcz21_1⟩ := kc2 (w := w16) BK197.out; have hfz21_0 := kf BK197.out) | ((with_reducible refine gate_callee (f := 65) rfl ?_); refine zC (some 11) rfl rfl Try.func65 rfl #[.agg #[.string a0_0, .slice A0_1 l0_1.length c0_1], .int .i64 a1] rfl ?_; (with_reducible refine (spec_l10Cell.calls k a0_0 _ _ l0_1 a1 t204 _ ?side1 ?side2 A4.out).mono ?_); (case side1 => exact cb HR0_1.out zG); (case side2 => exact HC0_1.out); rintro e w22 ⟨rfl, hb⟩; refine ⟨_, rfl, ?_⟩; have n0_ := Am (rb (by (with_reducible repeat (first | apply ra | apply rn | apply re)); exact (Kd.R_mono (Kd.R_far (p := ⟨gb203, 1, none⟩) (Kd.R_far (p := ⟨gb203, 0, none⟩) (Kd.R_types HO202.out BK203.out (by decide)) (fun _ hk => hk.2) (.string t199)) (fun _ hk => hk.2) (.slice Ao20 t200.length co20)) (fun _ h_ => h_.1))) hb); have n1_ := Am (kb (g := gb197) (o := o8b0 a0_0 A0_1 l0_1.length c0_1) (by (with_reducible repeat (first | refine kn ?_ _ | refine ke ?_ | refine ka ?_ _)); refine blk_far ?_ NB197_203.out _; (with_reducible repeat (first | refine kn ?_ _ | refine ke ?_ | refine ka ?_ _)); refine blk_far ?_ NB197_203.out _; (with_reducible repeat (first | refine kn ?_ _ | refine ke ?_ | refine ka ?_ _)); exact BK197.out) hb); have n2_ := Am (kb (g := gb198) (o := .cells #[.string (⟨#[]⟩ : ByteArray), .slice none 0 0] 28 (0, 0)) (by (with_reducible repeat (first | refine kn ?_ _ | refine ke ?_ | refine ka ?_ _)); refine blk_far ?_ NB198_203.out _; (with_reducible repeat (first | refine kn ?_ _ | refine ke ?_ | refine ka ?_ _)); refine blk_far ?_ NB198_203.out _; (with_reducible repeat (first | refine kn ?_ _ | refine ke ?_ | refine ka ?_ _)); exact BK198.out) hb); have n3_ := Am (kb (g := gb203) (o := .cells #[.string t199, .slice Ao20 t200.length co20] 28 (0, 0)) (by (with_reducible repeat (first | refine kn ?_ _ | refine ke ?_ | refine ka ?_ _)); refine kp (cs := #[.string t199, .slice none 0 0]) ?_ 1 _ rfl; (with_reducible repeat (first | refine kn ?_ _ | refine ke ?_ | refine ka ?_ _)); refine kp (cs := #[.string (⟨#[]⟩ : ByteArray), .slice none 0 0]) ?_ 0 _ rfl; (with_reducible repeat (first | refine kn ?_ _ | refine ke ?_ | refine ka ?_ _)); exact BK203.out) hb); have n4_ := Am (bq zG hb); clear HO202; clear BK197; clear BK198; clear BK203; clear HB; have HO202 := n0_; have BK197 := n1_; have BK198 := n2_; have BK203 := n3_; have HB := n4_; clear n0_ n1_ n2_ n3_ n4_; (try clear hb); obtain ⟨hcz23_0, hcz23_1⟩ := kc2 (w := w22) BK197.out; have hfz23_0 := kf BK197.out) | (go_at_call 15; (with_reducible refine (spec_MemoryOk.calls k a0_0 _ _ l0_1 true _ ?side1 ?side2 A6.out).mono ?_); (case side1 => repeat (first | exact (cb HR0_1.out HB.out) | (with_reducible first | refine ca ?_ _ | refine cn ?_ _ | refine ce ?_))); (case side2 => exact HC0_1.out); rintro e w24 ⟨rfl, hb⟩; have n0_ := Am (rb (by (with_reducible repeat (first | apply ra | apply rn | apply re)); exact HO202.out) hb); have n1_ := Am (zK BK197 hb); have n2_ := Am (zK BK198 hb); have n3_ := Am (zK BK203 hb); have n4_ := Am (bq zG hb); clear HO202; clear BK197; clear BK198; clear BK203; clear HB; have HO202 := n0_; have BK197 := n1_; have BK198 := n2_; have BK203 := n3_; have HB := n4_; clear n0_ n1_ n2_ n3_ n4_; (try clear hb); obtain ⟨hcz25_0, hcz25_1⟩ := kc2 (w := w24) BK203.out; have hfz25_0 := kf BK203.out; have p10 : 0 ≤ (t204 : Int) := of_decide_eq_true (by first | (with_reducible assumption) | assumption); have q10 : (t204 : Int) < ((t200.length : Int) : Int) := of_decide_eq_true (by first | (with_reducible assumption) | assumption); obtain ⟨go10, co10, eo10, gb10, gl10, cl10, HG10⟩ := Kd.R_form HO202.out (by omega); (first | cases eo10 | (injection eo10 with ea_ en_ ec_; (first | subst ea_ | (injection ea_ with ea_; subst ea_)); subst ec_; clear en_)); have GB10 := Am gb10; have GG10 := Am HG10; clear gb10 gl10 HG10; obtain ⟨ce10, hcl10, hM10, hcc10, hfr10⟩ := Kd.R_elem HO202.out z49 (t204 : Int) p10 q10; obtain rfl := k49_openM hM10; have hx10_0 : w24.cell? ⟨go10, (t204 : Int).toNat * 3, none⟩ = some (.int .i64 ((rd_T49 t200 t204).f0)) := hcc10 0 _ rfl; have hx10_1 : w24.cell? ⟨go10, (t204 : Int).toNat * 3 + 1, none⟩ = some (.string ((rd_T49 t200 t204).f1)) := hcc10 1 _ rfl; have hx10_2 : w24.cell? ⟨go10, (t204 : Int).toNat * 3 + 2, none⟩ = some (.bool ((rd_T49 t200 t204).f2)) := hcc10 2 _ rfl; have hf10_0 : w24.frozen? ⟨go10, (t204 : Int).toNat * 3, none⟩ = false := hfr10 0; have hf10_1 : w24.frozen? ⟨go10, (t204 : Int).toNat * 3 + 1, none⟩ = false := hfr10 1; have hf10_2 : w24.frozen? ⟨go10, (t204 : Int).toNat * 3 + 2, none⟩ = false := hfr10 2; clear hcl10 hcc10 hfr10 hM10; replace p10 := eq_true p10; replace q10 := eq_true q10; have HX26 := Am (show Kd.R k49 49 w24 w.heap.size (fun _ => True) (.slice (some ⟨go10, 0, none⟩) t200.length co20) t200 from (by (with_reducible repeat (first | apply ra | apply rn | apply re)); exact HO202.out)); obtain ⟨ce26, hcl26, hM26, hcc26, hfr26⟩ := Kd.R_elem HX26.out z49 (t204 : Int) (of_decide_eq_true (by first | (with_reducible assumption) | assumption)) (by have h_ : (t204 : Int) < ((t200.length : Int) : Int) := of_decide_eq_true (by first | (with_reducible assumption) | assumption); first | exact h_ | (have e_ := (Kd.R_reads' HO202.out).1; omega) | simpa using h_); obtain rfl := k49_openM hM26; have HP26 := Kd.R_seg HX26.out (t204 : Int) (of_decide_eq_true (by first | (with_reducible assumption) | assumption)) (by have h_ : (t204 : Int) < ((t200.length : Int) : Int) := of_decide_eq_true (by first | (with_reducible assumption) | assumption); first | exact h_ | (have e_ := (Kd.R_reads' HO202.out).1; omega) | simpa using h_) (seg := [.bool true]) (j := 2) hcl26 hcc26 (show 3 ≤ 3 from by decide) (x' := (⟨(rd_T49 t200 t204).f0, (rd_T49 t200 t204).f1, true⟩ : S49)) (k49_mkM _ _ _ (⟨(rd_T49 t200 t204).f0, (rd_T49 t200 t204).f1, true⟩ : S49) ) (fun _ hk => hk); have hx26_2 := hcc26 2 _ rfl; (try simp only [show (k49).sz = 3 from rfl, Nat.mul_one, Nat.add_zero] at hx26_2); have hf26_2 := hfr26 2; (try simp only [show (k49).sz = 3 from rfl, Nat.mul_one, Nat.add_zero] at hf26_2); clear hcl26 hcc26 hfr26 hM26) | ((with_reducible refine gate_store (t := 4) (p := 22) rfl ?_); refine store_event (t := 4) (p := 22) (v := ?vo_w27) (w1 := (w24.setCell ⟨go10, (t204 : Int).toNat * 3 + 2, none⟩ (.bool true))) ?hg ?ho ?hn ?hr ?_; (case ho => rfl); (case hg => rfl); (case hn => rfl); (case hr => first | (go_simp; done) | (go_simp; rfl)); intro w27 hw; have hg : w24.grownBy w27 (some go10) := (by rw [hw]; exact HP26.2); have hp_ : Kd.R k49 49 w27 w.heap.size (fun _ => True) (.slice (some ⟨go10, 0, none⟩) t200.length co20) y206 := (by rw [hw, Ny206.out]; exact HP26.1); clear HP26; have n0_ := Am (kg (g := gb197) (o := o8b0 a0_0 A0_1 l0_1.length c0_1) (by (with_reducible repeat (first | refine kn ?_ _ | refine ke ?_ | refine ka ?_ _)); exact BK197.out) hg (Kd.R_ne HO202.out BK197.out (by decide))); have n1_ := Am (kg (g := gb198) (o := .cells #[.string (⟨#[]⟩ : ByteArray), .slice none 0 0] 28 (0, 0)) (by (with_reducible repeat (first | refine kn ?_ _ | refine ke ?_ | refine ka ?_ _)); exact BK198.out) hg (Kd.R_ne HO202.out BK198.out (by decide))); have n2_ := Am (hp_); have n3_ := Am (kg (g := gb203) (o := .cells #[.string t199, .slice (some ⟨go10, 0, none⟩) t200.length co20] 28 (0, 0)) (by (with_reducible repeat (first | refine kn ?_ _ | refine ke ?_ | refine ka ?_ _)); exact BK203.out) hg (Kd.R_ne HO202.out BK203.out (by decide))); have n4_ := Am ((by rw [hw]; exact bs (HB.out) GB10.out : Below w.heap.size w w27)); clear BK197; clear BK198; clear HO202; clear BK203; clear HB; have BK197 := n0_; have BK198 := n1_; have HO202 := n2_; have BK203 := n3_; have HB := n4_; clear n0_ n1_ n2_ n3_ n4_; clear hg hw hp_; obtain ⟨hcz28_0, hcz28_1⟩ := kc2 (w := w27) BK203.out; have hfz28_0 := kf BK203.out; obtain ⟨hcz29_0, hcz29_1⟩ := kc2 (w := w27) BK198.out; have hfz29_0 := kf BK198.out))
     refine bodyPost_ret (results_cell_row rfl _ _ gb198 28 #[.string t199, .slice (some ⟨go10, 0, none⟩) t200.length co20] (0, 0) _ rfl (by (with_reducible repeat (first | refine kn ?_ _ | refine ke ?_ | refine ka ?_ _)); refine kp (cs := #[.string t199, .slice none 0 0]) ?_ 1 _ rfl; (with_reducible repeat (first | refine kn ?_ _ | refine ke ?_ | refine ka ?_ _)); refine kp (cs := #[.string (⟨#[]⟩ : ByteArray), .slice none 0 0]) ?_ 0 _ rfl; (with_reducible repeat (first | refine kn ?_ _ | refine ke ?_ | refine ka ?_ _)); exact BK198.out) Try.underlying28 rfl (by kernel_rfl)) rfl ?_
     exact ⟨_, zR, by (with_reducible repeat (first | apply ra | apply rn | apply re)); exact Kd.R_mono (Kd.R_far (p := ⟨gb198, 1, none⟩) (Kd.R_far (p := ⟨gb198, 0, none⟩) (Kd.R_types HO202.out BK198.out (by decide)) (fun _ hk => hk.2) (.string t199)) (fun _ hk => hk.2) (.slice (some ⟨go10, 0, none⟩) t200.length co20)) (fun _ hk => trivial), zG⟩
    ·rw [if_neg c9] at H
     exact absurd H (by simp)
   ·rw [if_neg c8] at H
    exact absurd H (by simp)
  ·replace c7 := Bool.eq_false_iff.mpr c7
   subst c7
   have H1 : (some (t199, t200)) = some (r1, r2) := by rw [if_neg (show ¬ (false = true) by decide)] at H; exact H
   clear H
   have H := H1
   clear H1
   simp only [Option.some.injEq, Prod.mk.injEq] at H
   obtain ⟨rfl, rfl⟩ := H
   go_enter Try.func55, Try.ntmps55
   go_wp2_with (first | ((with_reducible refine gate_dst (N := 2) rfl ?_); refine box_event ?hg (N := 2) ?hd (cs := #[.string a0_0, .slice A0_1 l0_1.length c0_1]) (t := 28) ?hr ?_; (case hd => rfl); (case hg => rfl); (case hr => first | (go_simp; done) | (go_simp; rfl)); intro gb197 hg w30 hbox hb; have BK197 := Am (hbox); have GW197 := Am ((by rw [hg]; exact (bz zB) : w.heap.size ≤ gb197)); have GE197 := Am ((by rw [hg]; exact (bz zB) : w.heap.size ≤ gb197)); replace HB := Am (bq zB hb); clear hb hbox hg) | ((with_reducible refine gate_dst (N := 4) rfl ?_); refine box_event ?hg (N := 4) ?hd (cs := #[.string (⟨#[]⟩ : ByteArray), .slice none 0 0]) (t := 28) ?hr ?_; (case hd => rfl); (case hg => rfl); (case hr => first | (go_simp; done) | (go_simp; rfl)); intro gb198 hg w31 hbox hb; have n0_ := Am (zK BK197 hb); have n1_ := Am (bq zG hb); have n2_ := Am (hbox); have n3_ := Am ((by rw [hg]; exact (bz zG) : w.heap.size ≤ gb198)); have n4_ := Am ((by rw [hg]; exact (bz zG) : w.heap.size ≤ gb198)); have n5_ := Am ((by rw [hg]; exact Nat.ne_of_lt (zL BK197) : gb197 ≠ gb198)); have n6_ := Am ((by rw [hg]; exact Nat.ne_of_gt (zL BK197) : gb198 ≠ gb197)); clear BK197; clear HB; have BK197 := n0_; have HB := n1_; have BK198 := n2_; have GW198 := n3_; have GE198 := n4_; have NB197_198 := n5_; have NB198_197 := n6_; clear n0_ n1_ n2_ n3_ n4_ n5_ n6_; clear hb hbox hg; have hnb32 := NB197_198.out; have hnc32 := NB198_197.out; obtain ⟨hcz33_0, hcz33_1⟩ := kc2 (w := w31) BK197.out; have hfz33_0 := kf BK197.out) | ((with_reducible refine gate_callee (f := 22) rfl ?_); refine zC (some 8) rfl rfl Try.func22 rfl #[.agg #[.string a0_0, .slice A0_1 l0_1.length c0_1]] rfl ?_; (with_reducible refine (spec_l10Copy.calls a0_0 _ _ l0_1 t199 t200 _ ?side1 ?side2 A3.out).mono ?_); (case side1 => repeat (first | exact (cb HR0_1.out HB.out) | (with_reducible first | refine ca ?_ _ | refine cn ?_ _ | refine ce ?_))); (case side2 => exact HC0_1.out); rintro e w34 ⟨v201, rfl, ho0, hb⟩; refine ⟨_, rfl, ?_⟩; have n0_ := Am (Kd.R_lower ho0 (bz zG)); have n1_ := Am (zK BK197 hb); have n2_ := Am (zK BK198 hb); have n3_ := Am (bq zG hb); clear BK197; clear BK198; clear HB; have HO202 := n0_; have BK197 := n1_; have BK198 := n2_; have HB := n3_; clear n0_ n1_ n2_ n3_; (try clear hb ho0)) | ((with_reducible refine gate_dst (N := 5) rfl ?_); refine box_event ?hg (N := 5) ?hd (cs := #[.string (⟨#[]⟩ : ByteArray), .slice none 0 0]) (t := 28) ?hr ?_; (case hd => rfl); (case hg => rfl); (case hr => first | (go_simp; done) | (go_simp; rfl)); intro gb203 hg w35 hbox hb; have n0_ := Am (rb (by (with_reducible repeat (first | apply ra | apply rn | apply re)); exact HO202.out) hb); have n1_ := Am (zK BK197 hb); have n2_ := Am (zK BK198 hb); have n3_ := Am (bq zG hb); have n4_ := Am (hbox); have n5_ := Am ((by rw [hg]; exact (bz zG) : w.heap.size ≤ gb203)); have n6_ := Am ((by rw [hg]; exact (bz zG) : w.heap.size ≤ gb203)); have n7_ := Am ((by rw [hg]; exact Nat.ne_of_lt (zL BK197) : gb197 ≠ gb203)); have n8_ := Am ((by rw [hg]; exact Nat.ne_of_gt (zL BK197) : gb203 ≠ gb197)); have n9_ := Am ((by rw [hg]; exact Nat.ne_of_lt (zL BK198) : gb198 ≠ gb203)); have n10_ := Am ((by rw [hg]; exact Nat.ne_of_gt (zL BK198) : gb203 ≠ gb198)); clear HO202; clear BK197; clear BK198; clear HB; have HO202 := n0_; have BK197 := n1_; have BK198 := n2_; have HB := n3_; have BK203 := n4_; have GW203 := n5_; have GE203 := n6_; have NB197_203 := n7_; have NB203_197 := n8_; have NB198_203 := n9_; have NB203_198 := n10_; clear n0_ n1_ n2_ n3_ n4_ n5_ n6_ n7_ n8_ n9_ n10_; clear hb hbox hg; have hnb36 := NB203_197.out; have hnc36 := NB197_203.out; have hnb37 := NB203_198.out; have hnc37 := NB198_203.out; obtain ⟨hcz38_0, hcz38_1⟩ := kc2 (w := w35) BK203.out; have hfz38_0 := kf BK203.out; obtain ⟨Ao39, co39, eo39⟩ := Kd.R_slice HO202.out; subst eo39; obtain ⟨hcz40_0, hcz40_1⟩ := kc2 (w := w35) BK197.out; have hfz40_0 := kf BK197.out) | ((with_reducible refine gate_callee (f := 65) rfl ?_); refine zC (some 11) rfl rfl Try.func65 rfl #[.agg #[.string a0_0, .slice A0_1 l0_1.length c0_1], .int .i64 a1] rfl ?_; (with_reducible refine (spec_l10Cell.calls k a0_0 _ _ l0_1 a1 t204 _ ?side1 ?side2 A4.out).mono ?_); (case side1 => exact cb HR0_1.out zG); (case side2 => exact HC0_1.out); rintro e w41 ⟨rfl, hb⟩; refine ⟨_, rfl, ?_⟩; have n0_ := Am (rb (by (with_reducible repeat (first | apply ra | apply rn | apply re)); exact (Kd.R_mono (Kd.R_far (p := ⟨gb203, 1, none⟩) (Kd.R_far (p := ⟨gb203, 0, none⟩) (Kd.R_types HO202.out BK203.out (by decide)) (fun _ hk => hk.2) (.string t199)) (fun _ hk => hk.2) (.slice Ao39 t200.length co39)) (fun _ h_ => h_.1))) hb); have n1_ := Am (kb (g := gb197) (o := o8b0 a0_0 A0_1 l0_1.length c0_1) (by (with_reducible repeat (first | refine kn ?_ _ | refine ke ?_ | refine ka ?_ _)); refine blk_far ?_ NB197_203.out _; (with_reducible repeat (first | refine kn ?_ _ | refine ke ?_ | refine ka ?_ _)); refine blk_far ?_ NB197_203.out _; (with_reducible repeat (first | refine kn ?_ _ | refine ke ?_ | refine ka ?_ _)); exact BK197.out) hb); have n2_ := Am (kb (g := gb198) (o := .cells #[.string (⟨#[]⟩ : ByteArray), .slice none 0 0] 28 (0, 0)) (by (with_reducible repeat (first | refine kn ?_ _ | refine ke ?_ | refine ka ?_ _)); refine blk_far ?_ NB198_203.out _; (with_reducible repeat (first | refine kn ?_ _ | refine ke ?_ | refine ka ?_ _)); refine blk_far ?_ NB198_203.out _; (with_reducible repeat (first | refine kn ?_ _ | refine ke ?_ | refine ka ?_ _)); exact BK198.out) hb); have n3_ := Am (kb (g := gb203) (o := .cells #[.string t199, .slice Ao39 t200.length co39] 28 (0, 0)) (by (with_reducible repeat (first | refine kn ?_ _ | refine ke ?_ | refine ka ?_ _)); refine kp (cs := #[.string t199, .slice none 0 0]) ?_ 1 _ rfl; (with_reducible repeat (first | refine kn ?_ _ | refine ke ?_ | refine ka ?_ _)); refine kp (cs := #[.string (⟨#[]⟩ : ByteArray), .slice none 0 0]) ?_ 0 _ rfl; (with_reducible repeat (first | refine kn ?_ _ | refine ke ?_ | refine ka ?_ _)); exact BK203.out) hb); have n4_ := Am (bq zG hb); clear HO202; clear BK197; clear BK198; clear BK203; clear HB; have HO202 := n0_; have BK197 := n1_; have BK198 := n2_; have BK203 := n3_; have HB := n4_; clear n0_ n1_ n2_ n3_ n4_; (try clear hb); obtain ⟨hcz42_0, hcz42_1⟩ := kc2 (w := w41) BK197.out; have hfz42_0 := kf BK197.out) | (go_at_call 15; (with_reducible refine (spec_MemoryOk.calls k a0_0 _ _ l0_1 false _ ?side1 ?side2 A6.out).mono ?_); (case side1 => repeat (first | exact (cb HR0_1.out HB.out) | (with_reducible first | refine ca ?_ _ | refine cn ?_ _ | refine ce ?_))); (case side2 => exact HC0_1.out); rintro e w43 ⟨rfl, hb⟩; have n0_ := Am (rb (by (with_reducible repeat (first | apply ra | apply rn | apply re)); exact HO202.out) hb); have n1_ := Am (zK BK197 hb); have n2_ := Am (zK BK198 hb); have n3_ := Am (zK BK203 hb); have n4_ := Am (bq zG hb); clear HO202; clear BK197; clear BK198; clear BK203; clear HB; have HO202 := n0_; have BK197 := n1_; have BK198 := n2_; have BK203 := n3_; have HB := n4_; clear n0_ n1_ n2_ n3_ n4_; (try clear hb); obtain ⟨hcz44_0, hcz44_1⟩ := kc2 (w := w43) BK203.out; have hfz44_0 := kf BK203.out; obtain ⟨hcz45_0, hcz45_1⟩ := kc2 (w := w43) BK198.out; have hfz45_0 := kf BK198.out))
   refine bodyPost_ret (results_cell_row rfl _ _ gb198 28 #[.string t199, .slice Ao39 t200.length co39] (0, 0) _ rfl (by (with_reducible repeat (first | refine kn ?_ _ | refine ke ?_ | refine ka ?_ _)); refine kp (cs := #[.string t199, .slice none 0 0]) ?_ 1 _ rfl; (with_reducible repeat (first | refine kn ?_ _ | refine ke ?_ | refine ka ?_ _)); refine kp (cs := #[.string (⟨#[]⟩ : ByteArray), .slice none 0 0]) ?_ 0 _ rfl; (with_reducible repeat (first | refine kn ?_ _ | refine ke ?_ | refine ka ?_ _)); exact BK198.out) Try.underlying28 rfl (by kernel_rfl)) rfl ?_
   exact ⟨_, zR, by (with_reducible repeat (first | apply ra | apply rn | apply re)); exact Kd.R_mono (Kd.R_far (p := ⟨gb198, 1, none⟩) (Kd.R_far (p := ⟨gb198, 0, none⟩) (Kd.R_types HO202.out BK198.out (by decide)) (fun _ hk => hk.2) (.string t199)) (fun _ hk => hk.2) (.slice Ao39 t200.length co39)) (fun _ hk => trivial), zG⟩
 ·rw [if_neg c5] at H
  have c5b0 : decide (0 ≤ t204) = false := decide_eq_false c5
  clear c5
  simp only [Option.some.injEq, Prod.mk.injEq] at H
  obtain ⟨rfl, rfl⟩ := H
  go_enter Try.func55, Try.ntmps55
  go_wp2_with (first | ((with_reducible refine gate_dst (N := 2) rfl ?_); refine box_event ?hg (N := 2) ?hd (cs := #[.string a0_0, .slice A0_1 l0_1.length c0_1]) (t := 28) ?hr ?_; (case hd => rfl); (case hg => rfl); (case hr => first | (go_simp; done) | (go_simp; rfl)); intro gb197 hg w46 hbox hb; have BK197 := Am (hbox); have GW197 := Am ((by rw [hg]; exact (bz zB) : w.heap.size ≤ gb197)); have GE197 := Am ((by rw [hg]; exact (bz zB) : w.heap.size ≤ gb197)); replace HB := Am (bq zB hb); clear hb hbox hg) | ((with_reducible refine gate_dst (N := 4) rfl ?_); refine box_event ?hg (N := 4) ?hd (cs := #[.string (⟨#[]⟩ : ByteArray), .slice none 0 0]) (t := 28) ?hr ?_; (case hd => rfl); (case hg => rfl); (case hr => first | (go_simp; done) | (go_simp; rfl)); intro gb198 hg w47 hbox hb; have n0_ := Am (zK BK197 hb); have n1_ := Am (bq zG hb); have n2_ := Am (hbox); have n3_ := Am ((by rw [hg]; exact (bz zG) : w.heap.size ≤ gb198)); have n4_ := Am ((by rw [hg]; exact (bz zG) : w.heap.size ≤ gb198)); have n5_ := Am ((by rw [hg]; exact Nat.ne_of_lt (zL BK197) : gb197 ≠ gb198)); have n6_ := Am ((by rw [hg]; exact Nat.ne_of_gt (zL BK197) : gb198 ≠ gb197)); clear BK197; clear HB; have BK197 := n0_; have HB := n1_; have BK198 := n2_; have GW198 := n3_; have GE198 := n4_; have NB197_198 := n5_; have NB198_197 := n6_; clear n0_ n1_ n2_ n3_ n4_ n5_ n6_; clear hb hbox hg; have hnb48 := NB197_198.out; have hnc48 := NB198_197.out; obtain ⟨hcz49_0, hcz49_1⟩ := kc2 (w := w47) BK197.out; have hfz49_0 := kf BK197.out) | ((with_reducible refine gate_callee (f := 22) rfl ?_); refine zC (some 8) rfl rfl Try.func22 rfl #[.agg #[.string a0_0, .slice A0_1 l0_1.length c0_1]] rfl ?_; (with_reducible refine (spec_l10Copy.calls a0_0 _ _ l0_1 t199 t200 _ ?side1 ?side2 A3.out).mono ?_); (case side1 => repeat (first | exact (cb HR0_1.out HB.out) | (with_reducible first | refine ca ?_ _ | refine cn ?_ _ | refine ce ?_))); (case side2 => exact HC0_1.out); rintro e w50 ⟨v201, rfl, ho0, hb⟩; refine ⟨_, rfl, ?_⟩; have n0_ := Am (Kd.R_lower ho0 (bz zG)); have n1_ := Am (zK BK197 hb); have n2_ := Am (zK BK198 hb); have n3_ := Am (bq zG hb); clear BK197; clear BK198; clear HB; have HO202 := n0_; have BK197 := n1_; have BK198 := n2_; have HB := n3_; clear n0_ n1_ n2_ n3_; (try clear hb ho0)) | ((with_reducible refine gate_dst (N := 5) rfl ?_); refine box_event ?hg (N := 5) ?hd (cs := #[.string (⟨#[]⟩ : ByteArray), .slice none 0 0]) (t := 28) ?hr ?_; (case hd => rfl); (case hg => rfl); (case hr => first | (go_simp; done) | (go_simp; rfl)); intro gb203 hg w51 hbox hb; have n0_ := Am (rb (by (with_reducible repeat (first | apply ra | apply rn | apply re)); exact HO202.out) hb); have n1_ := Am (zK BK197 hb); have n2_ := Am (zK BK198 hb); have n3_ := Am (bq zG hb); have n4_ := Am (hbox); have n5_ := Am ((by rw [hg]; exact (bz zG) : w.heap.size ≤ gb203)); have n6_ := Am ((by rw [hg]; exact (bz zG) : w.heap.size ≤ gb203)); have n7_ := Am ((by rw [hg]; exact Nat.ne_of_lt (zL BK197) : gb197 ≠ gb203)); have n8_ := Am ((by rw [hg]; exact Nat.ne_of_gt (zL BK197) : gb203 ≠ gb197)); have n9_ := Am ((by rw [hg]; exact Nat.ne_of_lt (zL BK198) : gb198 ≠ gb203)); have n10_ := Am ((by rw [hg]; exact Nat.ne_of_gt (zL BK198) : gb203 ≠ gb198)); clear HO202; clear BK197; clear BK198; clear HB; have HO202 := n0_; have BK197 := n1_; have BK198 := n2_; have HB := n3_; have BK203 := n4_; have GW203 := n5_; have GE203 := n6_; have NB197_203 := n7_; have NB203_197 := n8_; have NB198_203 := n9_; have NB203_198 := n10_; clear n0_ n1_ n2_ n3_ n4_ n5_ n6_ n7_ n8_ n9_ n10_; clear hb hbox hg; have hnb52 := NB203_197.out; have hnc52 := NB197_203.out; have hnb53 := NB203_198.out; have hnc53 := NB198_203.out; obtain ⟨hcz54_0, hcz54_1⟩ := kc2 (w := w51) BK203.out; have hfz54_0 := kf BK203.out; obtain ⟨Ao55, co55, eo55⟩ := Kd.R_slice HO202.out; subst eo55; obtain ⟨hcz56_0, hcz56_1⟩ := kc2 (w := w51) BK197.out; have hfz56_0 := kf BK197.out) | ((with_reducible refine gate_callee (f := 65) rfl ?_); refine zC (some 11) rfl rfl Try.func65 rfl #[.agg #[.string a0_0, .slice A0_1 l0_1.length c0_1], .int .i64 a1] rfl ?_; (with_reducible refine (spec_l10Cell.calls k a0_0 _ _ l0_1 a1 t204 _ ?side1 ?side2 A4.out).mono ?_); (case side1 => exact cb HR0_1.out zG); (case side2 => exact HC0_1.out); rintro e w57 ⟨rfl, hb⟩; refine ⟨_, rfl, ?_⟩; have n0_ := Am (rb (by (with_reducible repeat (first | apply ra | apply rn | apply re)); exact (Kd.R_mono (Kd.R_far (p := ⟨gb203, 1, none⟩) (Kd.R_far (p := ⟨gb203, 0, none⟩) (Kd.R_types HO202.out BK203.out (by decide)) (fun _ hk => hk.2) (.string t199)) (fun _ hk => hk.2) (.slice Ao55 t200.length co55)) (fun _ h_ => h_.1))) hb); have n1_ := Am (kb (g := gb197) (o := o8b0 a0_0 A0_1 l0_1.length c0_1) (by (with_reducible repeat (first | refine kn ?_ _ | refine ke ?_ | refine ka ?_ _)); refine blk_far ?_ NB197_203.out _; (with_reducible repeat (first | refine kn ?_ _ | refine ke ?_ | refine ka ?_ _)); refine blk_far ?_ NB197_203.out _; (with_reducible repeat (first | refine kn ?_ _ | refine ke ?_ | refine ka ?_ _)); exact BK197.out) hb); have n2_ := Am (kb (g := gb198) (o := .cells #[.string (⟨#[]⟩ : ByteArray), .slice none 0 0] 28 (0, 0)) (by (with_reducible repeat (first | refine kn ?_ _ | refine ke ?_ | refine ka ?_ _)); refine blk_far ?_ NB198_203.out _; (with_reducible repeat (first | refine kn ?_ _ | refine ke ?_ | refine ka ?_ _)); refine blk_far ?_ NB198_203.out _; (with_reducible repeat (first | refine kn ?_ _ | refine ke ?_ | refine ka ?_ _)); exact BK198.out) hb); have n3_ := Am (kb (g := gb203) (o := .cells #[.string t199, .slice Ao55 t200.length co55] 28 (0, 0)) (by (with_reducible repeat (first | refine kn ?_ _ | refine ke ?_ | refine ka ?_ _)); refine kp (cs := #[.string t199, .slice none 0 0]) ?_ 1 _ rfl; (with_reducible repeat (first | refine kn ?_ _ | refine ke ?_ | refine ka ?_ _)); refine kp (cs := #[.string (⟨#[]⟩ : ByteArray), .slice none 0 0]) ?_ 0 _ rfl; (with_reducible repeat (first | refine kn ?_ _ | refine ke ?_ | refine ka ?_ _)); exact BK203.out) hb); have n4_ := Am (bq zG hb); clear HO202; clear BK197; clear BK198; clear BK203; clear HB; have HO202 := n0_; have BK197 := n1_; have BK198 := n2_; have BK203 := n3_; have HB := n4_; clear n0_ n1_ n2_ n3_ n4_; (try clear hb); obtain ⟨hcz58_0, hcz58_1⟩ := kc2 (w := w57) BK203.out; have hfz58_0 := kf BK203.out; obtain ⟨hcz59_0, hcz59_1⟩ := kc2 (w := w57) BK198.out; have hfz59_0 := kf BK198.out))
  refine bodyPost_ret (results_cell_row rfl _ _ gb198 28 #[.string t199, .slice Ao55 t200.length co55] (0, 0) _ rfl (by (with_reducible repeat (first | refine kn ?_ _ | refine ke ?_ | refine ka ?_ _)); refine kp (cs := #[.string t199, .slice none 0 0]) ?_ 1 _ rfl; (with_reducible repeat (first | refine kn ?_ _ | refine ke ?_ | refine ka ?_ _)); refine kp (cs := #[.string (⟨#[]⟩ : ByteArray), .slice none 0 0]) ?_ 0 _ rfl; (with_reducible repeat (first | refine kn ?_ _ | refine ke ?_ | refine ka ?_ _)); exact BK198.out) Try.underlying28 rfl (by kernel_rfl)) rfl ?_
  exact ⟨_, zR, by (with_reducible repeat (first | apply ra | apply rn | apply re)); exact Kd.R_mono (Kd.R_far (p := ⟨gb198, 1, none⟩) (Kd.R_far (p := ⟨gb198, 0, none⟩) (Kd.R_types HO202.out BK198.out (by decide)) (fun _ hk => hk.2) (.string t199)) (fun _ hk => hk.2) (.slice Ao55 t200.length co55)) (fun _ hk => trivial), zG⟩

/-! ### spec_l10Words: function 39 -/
def spec_l10Words.f (a0_0 : ByteArray) (l0_1 : List (S49)) : Option (Int) := some (wrap64 ((a0_0.size : Int) / 8))
set_option maxHeartbeats 8000000 in
set_option maxRecDepth 100000 in
theorem spec_l10Words.calls (a0_0 : ByteArray) (A0_1 : Option Addr) (c0_1 : Nat) (l0_1 : List (S49)) (r : Int) (w : World) (hr0_1 : Kd.C k49 w A0_1 l0_1.length l0_1) (hc0_1 : l0_1.length ≤ c0_1) (h : spec_l10Words.f a0_0 l0_1 = some r) :
  Calls Try.prog 39 #[.agg #[.string a0_0, .slice A0_1 l0_1.length c0_1]] w fun e w' => e = .returned (.int .i64 r) ∧ Below w.heap.size w w' := by
 have hu28 := Try.underlying28
 have HR0_1 := Am hr0_1
 have HC0_1 := Am hc0_1
 clear hr0_1 hc0_1
 have HB := Am (Below.refl w.heap.size w)
 have H : (some (wrap64 ((a0_0.size : Int) / 8))) = some r := h
 clear h
 obtain rfl := Option.some.inj H
 go_enter Try.func39, Try.ntmps39
 go_wp2_with (first | ((with_reducible refine gate_dst (N := 1) rfl ?_); refine box_event ?hg (N := 1) ?hd (cs := #[.string a0_0, .slice A0_1 l0_1.length c0_1]) (t := 28) ?hr ?_; (case hd => rfl); (case hg => rfl); (case hr => first | (go_simp; done) | (go_simp; rfl)); intro gb207 hg w2 hbox hb; have BK207 := Am (hbox); have GW207 := Am ((by rw [hg]; exact (bz zB) : w.heap.size ≤ gb207)); have GE207 := Am ((by rw [hg]; exact (bz zB) : w.heap.size ≤ gb207)); replace HB := Am (bq zB hb); clear hb hbox hg; obtain ⟨hcz3_0, hcz3_1⟩ := kc2 (w := w2) BK207.out; have hfz3_0 := kf BK207.out))
 go_ret
 exact ⟨zR, zG⟩

end Go.Proofs.Ytnmkcognggeioaa.QFnUnsure
