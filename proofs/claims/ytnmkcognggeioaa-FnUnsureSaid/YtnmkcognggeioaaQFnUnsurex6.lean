/- Go functions as Lean functions, and their contracts. Own text: written by wip/gen/pr.py (a turned copy of the print). -/
import Derived.Test.YtnmkcognggeioaaQFnUnsurex0
import Derived.Test.YtnmkcognggeioaaQFnUnsurex5
namespace Go.Proofs.Ytnmkcognggeioaa.QFnUnsure
open Go.RowKit Go.Proofs.YtnmkcognggeioaaW.PrintWords Go.Proofs.YtnmkcognggeioaaW.PrintLast Go.Proofs.YtnmkcognggeioaaW.PrintMore
attribute [local go_sem] max2_int min2_int max_two min_two max_three min_three max_four min_four   -- for this text's walks alone
open Go.Proofs.YtnmkcognggeioaaW.PrintWords renaming below_alloc → ba, pw_below_drewN → bn, below_drew1 → be, below_set → bs, blk_drewN → kn, blk_drew → ke, blk_alloc → ka, blk_below → kb, blk_frozen → kf, blk_cell → kc, below_step → bq, below_size → bz, blk_lt → kl, blk_put → kp
open Go.Proofs.YtnmkcognggeioaaW.PrintWords.Aside0 renaming mk → Am
set_option linter.unusedVariables false
set_option linter.unusedSimpArgs false

/-! ### impl_MemoryOk: function 26 -/
theorem cl6 {w w2 : World} {a : Addr} {v : Value} (h : Aside0 (Below w.heap.size w w2)) (e : w.cell? a = some v) : w2.cell? a = some v := (h.out.cell (World.block_lt_of_cell? w _ e)).trans e
def impl_MemoryOk.l0 : Nat → List (S49) → Int → Int → ByteArray → List (S49) → Option (Bool)
 | 0, _, _, _, _, _ => none
 | k + 1, x6, x7, x8, x143000, x143001 => if x8 < x7 then (if 0 ≤ x8 then (if x8 < (x6.length : Int) then ((impl_within.f ((rd_T49 x6 x8).f0) 0 (wrap64 ((wrap64 ((x143000.size : Int) / 16)) - 1))).bind fun t145 => (if t145 = true then (if (((rd_T49 x6 x8).f1).size : Int) = 16 then (if x8 > 0 then (if 0 ≤ (wrap64 (x8 - 1)) then (if (wrap64 (x8 - 1)) < (x143001.length : Int) then (if ((rd_T49 x6 x8).f0) ≤ ((rd_T49 x143001 (wrap64 (x8 - 1))).f0) then (some false) else (impl_MemoryOk.l0 k x6 x7 (wrap64 (x8 + 1)) x143000 x143001)) else (none)) else (none)) else (impl_MemoryOk.l0 k x6 x7 (wrap64 (x8 + 1)) x143000 x143001)) else (some false)) else (some false))) else (none)) else (none)) else (if ((x143000.size : Int) % 16) = 0 then (some (decide ((x143000.size : Int) ≤ 16000))) else (some false))
def impl_MemoryOk.f (k : Nat) (a0_0 : ByteArray) (l0_1 : List (S49)) : Option (Bool) := impl_MemoryOk.l0 k l0_1 (l0_1.length : Int) 0 a0_0 l0_1
theorem impl_MemoryOk.mono_l : ∀ k, (∀ y0 y1 y2 y3 y4, LeO (impl_MemoryOk.l0 k y0 y1 y2 y3 y4) (impl_MemoryOk.l0 (k + 1) y0 y1 y2 y3 y4))
 | 0 => fun _ _ _ _ _ r h => by simp [impl_MemoryOk.l0] at h
 | k + 1 => by
  have ih0 := impl_MemoryOk.mono_l k
  ·intro y0 y1 y2 y3 y4
   unfold impl_MemoryOk.l0
   repeat' first
   | (with_reducible exact ih0 _ _ _ _ _)
   | (with_reducible exact LeO.refl _)
   | (with_reducible exact LeO.none _)
   | (with_reducible refine LeO.ite ?_ ?_)
   | (with_reducible refine LeO.bind ?_ (fun _ => ?_))
   | exact ih0 _ _ _ _ _
   | exact LeO.none _
   | refine LeO.ite ?_ ?_
   | refine LeO.bind ?_ (fun _ => ?_)
theorem impl_MemoryOk.mono : ∀ a0 a1 k, LeO (impl_MemoryOk.f k a0 a1) (impl_MemoryOk.f (k + 1) a0 a1) := by
 intro a0 a1 k
 have ih0 := impl_MemoryOk.mono_l k
 unfold impl_MemoryOk.f
 repeat' first
   | (with_reducible exact ih0 _ _ _ _ _)
   | (with_reducible exact LeO.refl _)
   | (with_reducible exact LeO.none _)
   | (with_reducible refine LeO.ite ?_ ?_)
   | (with_reducible refine LeO.bind ?_ (fun _ => ?_))
   | exact ih0 _ _ _ _ _
   | exact LeO.none _
   | refine LeO.ite ?_ ?_
   | refine LeO.bind ?_ (fun _ => ?_)
def impl_MemoryOk.T4 : Bool × List (List Nat × List Nat) := (true, [([], []), ([0], [0]), ([], []), ([2], [2]), ([3], [3]), ([4], [4]), ([5], [5]), ([1, 6], [1, 6]), ([7], [7]), ([8, 7], [8]), ([9], [9]), ([10, 9], [9, 10]), ([11, 9], [9, 11]), ([12, 9], [9, 12]), ([9, 13], [9, 13]), ([14, 9], [14]), ([15], [15]), ([16, 15], [15, 16]), ([17, 15, 15], [15, 17]), ([18], [18]), ([19, 18], [18, 19]), ([18], [18]), ([21, 18], [18, 21]), ([18], [18]), ([23, 18], [18, 23]), ([22, 24, 18], [18, 22, 24]), ([25, 18], [18, 25]), ([26, 18], [18, 26]), ([20, 27, 18], [18, 20, 27]), ([18, 28, 15], [15, 18, 28]), ([15, 29], [15, 29])])
def impl_MemoryOk.B4 : List Nat := [0, 1, 0, 4, 12, 28, 60, 127, 255, 511, 1023, 2047, 4095, 8191, 16383, 32767, 65535, 131071, 262143, 524287, 1048575, 524287, 2621439, 524287, 8912895, 31981567, 65535999, 132644863, 268435455, 536870911, 1073741823]
theorem impl_MemoryOk.tab4 : rtab .any (opsOf Try.f26 4) = impl_MemoryOk.T4 := by kernel_rfl
theorem impl_MemoryOk.bits4 : waitsOk impl_MemoryOk.T4.2 impl_MemoryOk.B4 = true := by kernel_rfl
set_option maxHeartbeats 8000000 in
set_option maxRecDepth 100000 in
theorem impl_MemoryOk.calls (k : Nat) (a0_0 : ByteArray) (A0_1 : Option Addr) (c0_1 : Nat) (l0_1 : List (S49)) (r : Bool) (w : World) (hr0_1 : Kd.C k49 w A0_1 l0_1.length l0_1) (hc0_1 : l0_1.length ≤ c0_1) (h : impl_MemoryOk.f k a0_0 l0_1 = some r) :
  Calls Try.prog 26 #[.agg #[.string a0_0, .slice A0_1 l0_1.length c0_1]] w fun e w' => e = .returned (.bool r) ∧ Below w.heap.size w w' := by
 have hu28 := Try.underlying28
 have hu49 := Try.underlying49
 have HR0_1 := Am hr0_1
 have HC0_1 := Am hc0_1
 clear hr0_1 hc0_1
 have HB := Am (Below.refl w.heap.size w)
 have H : (impl_MemoryOk.l0 k l0_1 (l0_1.length : Int) 0 a0_0 l0_1) = some r := h
 clear h
 have H' := Am H
 clear H
 go_enter Try.func26, Try.ntmps26
 go_wp2_with (first | ((with_reducible refine gate_dst (N := 1) rfl ?_); (try (refine gate_guard (by rfl) ?_; dsimp only)); refine box_event ?hg (N := 1) ?hd (cs := #[.string a0_0, .slice A0_1 l0_1.length c0_1]) (t := 28) ?hr ?_; (case hd => rfl); (case hg => rfl); (case hr => first | (go_simp; done) | (go_simp; rfl)); intro gb142 hg w2 hbox hb; have BK142 := Am (hbox); have GW142 := Am ((by rw [hg]; exact (bz zB) : w.heap.size ≤ gb142)); have GE142 := Am ((by rw [hg]; exact (bz zB) : w.heap.size ≤ gb142)); replace HB := Am (bq zB hb); clear hb hbox hg; obtain ⟨hcz3_0, hcz3_1⟩ := kc2 (w := w2) BK142.out; have hfz3_0 := kf BK142.out))
 go_loopg [8] k (fun kq v8 w' => ∃ (x8_1 : Int), v8 = .int .i64 x8_1 ∧ Aside0 (impl_MemoryOk.l0 kq l0_1 (l0_1.length : Int) x8_1 a0_0 l0_1 = some r) ∧ Aside0 (kq ≤ k) ∧ Aside0 (w'.heap[gb142]? = some (.cells #[.string a0_0, (.slice A0_1 l0_1.length c0_1)] 28 (0, 0))) ∧ Aside0 (Below w.heap.size w w'))
 case atStart => exact ⟨(0), (by first | rfl | (simp; done) | (simp [*]; done)), H', ⟨Nat.le_refl _⟩, ⟨by (with_reducible repeat (first | refine kn ?_ _ | refine ke ?_ | refine ka ?_ _)); exact BK142.out⟩, ⟨zG⟩⟩
 case round =>
  clear H'
  try clear c2; try clear p2; try clear hcz3_0; try clear hcz3_1; try clear hfz3_0; try clear hfz3_1
  obtain ⟨x8_1, rfl, HA, HK1, BK142, HB⟩ := hrel
  cases gk with
  | zero => exact absurd HA.out (by simp [impl_MemoryOk.l0])
  | succ k1 =>
   have H := HA.out
   clear HA
   simp only [impl_MemoryOk.l0] at H
   by_cases c4 : x8_1 < (l0_1.length : Int)
   ·rw [if_pos c4] at H
    have c4b0 : decide (x8_1 < (l0_1.length : Int)) = true := decide_eq_true c4
    clear c4
    by_cases c5 : 0 ≤ x8_1
    ·rw [if_pos c5] at H
     have c5b0 : decide (0 ≤ x8_1) = true := decide_eq_true c5
     clear c5
     by_cases c6 : x8_1 < (l0_1.length : Int)
     ·rw [if_pos c6] at H
      have c6b0 : decide (x8_1 < (l0_1.length : Int)) = true := decide_eq_true c6
      clear c6
      replace H := Option.bind_eq_some_iff.mp H
      obtain ⟨t145, A70, H⟩ := H
      replace H : (if t145 = true then (if (((rd_T49 l0_1 x8_1).f1).size : Int) = 16 then (if x8_1 > 0 then (if 0 ≤ (wrap64 (x8_1 - 1)) then (if (wrap64 (x8_1 - 1)) < (l0_1.length : Int) then (if ((rd_T49 l0_1 x8_1).f0) ≤ ((rd_T49 l0_1 (wrap64 (x8_1 - 1))).f0) then (some false) else (impl_MemoryOk.l0 k1 l0_1 (l0_1.length : Int) (wrap64 (x8_1 + 1)) a0_0 l0_1)) else (none)) else (none)) else (impl_MemoryOk.l0 k1 l0_1 (l0_1.length : Int) (wrap64 (x8_1 + 1)) a0_0 l0_1)) else (some false)) else (some false)) = some r := H
      have A7 := Am A70
      clear A70
      by_cases c8 : t145 = true
      ·subst c8
       have H1 : (if (((rd_T49 l0_1 x8_1).f1).size : Int) = 16 then (if x8_1 > 0 then (if 0 ≤ (wrap64 (x8_1 - 1)) then (if (wrap64 (x8_1 - 1)) < (l0_1.length : Int) then (if ((rd_T49 l0_1 x8_1).f0) ≤ ((rd_T49 l0_1 (wrap64 (x8_1 - 1))).f0) then (some false) else (impl_MemoryOk.l0 k1 l0_1 (l0_1.length : Int) (wrap64 (x8_1 + 1)) a0_0 l0_1)) else (none)) else (none)) else (impl_MemoryOk.l0 k1 l0_1 (l0_1.length : Int) (wrap64 (x8_1 + 1)) a0_0 l0_1)) else (some false)) = some r := by rw [if_pos rfl] at H; exact H
       clear H
       have H := H1
       clear H1
       by_cases c9 : (((rd_T49 l0_1 x8_1).f1).size : Int) = 16
       ·rw [if_pos c9] at H
        have c9b0 : ((((rd_T49 l0_1 x8_1).f1).size : Int) == 16) = true := beq_iff_eq.mpr c9
        have c9b1 : ((((rd_T49 l0_1 x8_1).f1).size : Int) != 16) = false := bne_eq_false_iff_eq.mpr c9
        clear c9
        by_cases c10 : x8_1 > 0
        ·rw [if_pos c10] at H
         have c10b0 : decide (0 < x8_1) = true := decide_eq_true c10
         clear c10
         obtain ⟨ji11, hji11⟩ : ∃ j_ : Int, (wrap64 (x8_1 - 1)) = j_ := ⟨_, rfl⟩
         replace H : (if 0 ≤ (ji11) then (if (ji11) < (l0_1.length : Int) then (if ((rd_T49 l0_1 x8_1).f0) ≤ ((rd_T49 l0_1 (ji11)).f0) then (some false) else (impl_MemoryOk.l0 k1 l0_1 (l0_1.length : Int) (wrap64 (x8_1 + 1)) a0_0 l0_1)) else (none)) else (none)) = some r := by first | (rw [hji11] at H; exact H) | (simp only [hji11] at H ⊢; exact H)
         (try rw [hji11] at A7)
         have hji11w : (IntKind.i64.wrap (x8_1 - 1)) = ji11 := (i64_w _).trans hji11
         by_cases c12 : 0 ≤ (ji11)
         ·rw [if_pos c12] at H
          have c12b0 : decide (0 ≤ (ji11)) = true := decide_eq_true c12
          clear c12
          by_cases c13 : (ji11) < (l0_1.length : Int)
          ·rw [if_pos c13] at H
           have c13b0 : decide ((ji11) < (l0_1.length : Int)) = true := decide_eq_true c13
           clear c13
           by_cases c14 : ((rd_T49 l0_1 x8_1).f0) ≤ ((rd_T49 l0_1 (ji11)).f0)
           ·rw [if_pos c14] at H
            have c14b0 : decide (((rd_T49 l0_1 x8_1).f0) ≤ ((rd_T49 l0_1 (ji11)).f0)) = true := decide_eq_true c14
            clear c14
            obtain rfl := Option.some.inj H
            have p143 : 0 ≤ (x8_1 : Int) := of_decide_eq_true (by first | (with_reducible assumption) | assumption)
            have q143 : x8_1 < (l0_1.length : Int) := of_decide_eq_true (by first | (with_reducible assumption) | assumption)
            obtain ⟨ad143, e143, hx143_0, hx143_1, hx143_2⟩ := at_T49 HR0_1.out x8_1 p143 q143
            cases e143
            replace hx143_0 := cl6 HB hx143_0
            replace hx143_1 := cl6 HB hx143_1
            replace hx143_2 := cl6 HB hx143_2
            replace p143 := eq_true p143
            replace q143 := eq_true q143
            try go_wp2_with (first | ((with_reducible refine gate_dst (N := 4) rfl ?_); (try (refine gate_guard (by rfl) ?_; dsimp only)); refine box_event ?hg (N := 4) ?hd (cs := #[.int .i64 0, .string (⟨#[]⟩ : ByteArray), .bool false]) (t := 49) ?hr ?_; (case hd => rfl); (case hg => rfl); (case hr => first | (go_simp; done) | (go_simp; rfl)); intro gb144 hg w15 hbox hb; have n0_ := Am (zK BK142 hb); have n1_ := Am (bq zG hb); have n2_ := Am (hbox); have n3_ := Am ((by rw [hg]; exact (bz zG) : w.heap.size ≤ gb144)); have n4_ := Am ((by rw [hg]; exact (bz zG) : w.heap.size ≤ gb144)); have n5_ := Am ((by rw [hg]; exact Nat.ne_of_lt (zL BK142) : gb142 ≠ gb144)); have n6_ := Am ((by rw [hg]; exact Nat.ne_of_gt (zL BK142) : gb144 ≠ gb142)); clear BK142; clear HB; have BK142 := n0_; have HB := n1_; have BK144 := n2_; have GW144 := n3_; have GE144 := n4_; have NB142_144 := n5_; have NB144_142 := n6_; clear n0_ n1_ n2_ n3_ n4_ n5_ n6_; clear hb hbox hg; have hnb16 := NB144_142.out; have hnc16 := NB142_144.out; obtain ⟨hcz17_0, hcz17_1, hcz17_2⟩ := kc3 (w := w15) BK144.out; have hfz17_0 := kf BK144.out))
            have n0_ : Aside0 ((((w15.setCell ⟨gb144, 0, none⟩ (.int .i64 ((rd_T49 l0_1 x8_1).f0))).setCell ⟨gb144, 1, none⟩ (.string ((rd_T49 l0_1 x8_1).f1))).setCell ⟨gb144, 2, none⟩ (.bool ((rd_T49 l0_1 x8_1).f2))).heap[gb142]? = some (.cells #[.string a0_0, .slice (some ad143) l0_1.length c0_1] 28 (0, 0))) := ⟨by (with_reducible repeat (first | refine kn ?_ _ | refine ke ?_ | refine ka ?_ _)); refine blk_far ?_ NB142_144.out _; (with_reducible repeat (first | refine kn ?_ _ | refine ke ?_ | refine ka ?_ _)); refine blk_far ?_ NB142_144.out _; (with_reducible repeat (first | refine kn ?_ _ | refine ke ?_ | refine ka ?_ _)); refine blk_far ?_ NB142_144.out _; (with_reducible repeat (first | refine kn ?_ _ | refine ke ?_ | refine ka ?_ _)); exact BK142.out⟩
            have n1_ : Aside0 ((((w15.setCell ⟨gb144, 0, none⟩ (.int .i64 ((rd_T49 l0_1 x8_1).f0))).setCell ⟨gb144, 1, none⟩ (.string ((rd_T49 l0_1 x8_1).f1))).setCell ⟨gb144, 2, none⟩ (.bool ((rd_T49 l0_1 x8_1).f2))).heap[gb144]? = some (.cells #[.int .i64 ((rd_T49 l0_1 x8_1).f0), .string ((rd_T49 l0_1 x8_1).f1), .bool ((rd_T49 l0_1 x8_1).f2)] 49 (0, 0))) := ⟨by (with_reducible repeat (first | refine kn ?_ _ | refine ke ?_ | refine ka ?_ _)); refine kp (cs := #[.int .i64 ((rd_T49 l0_1 x8_1).f0), .string ((rd_T49 l0_1 x8_1).f1), .bool false]) ?_ 2 _ rfl; (with_reducible repeat (first | refine kn ?_ _ | refine ke ?_ | refine ka ?_ _)); refine kp (cs := #[.int .i64 ((rd_T49 l0_1 x8_1).f0), .string (⟨#[]⟩ : ByteArray), .bool false]) ?_ 1 _ rfl; (with_reducible repeat (first | refine kn ?_ _ | refine ke ?_ | refine ka ?_ _)); refine kp (cs := #[.int .i64 0, .string (⟨#[]⟩ : ByteArray), .bool false]) ?_ 0 _ rfl; (with_reducible repeat (first | refine kn ?_ _ | refine ke ?_ | refine ka ?_ _)); exact BK144.out⟩
            have n2_ : Aside0 (Below w.heap.size w (((w15.setCell ⟨gb144, 0, none⟩ (.int .i64 ((rd_T49 l0_1 x8_1).f0))).setCell ⟨gb144, 1, none⟩ (.string ((rd_T49 l0_1 x8_1).f1))).setCell ⟨gb144, 2, none⟩ (.bool ((rd_T49 l0_1 x8_1).f2)))) := ⟨zG⟩
            (try clear BK142)
            (try clear BK144)
            (try clear HB)
            generalize (((w15.setCell ⟨gb144, 0, none⟩ (.int .i64 ((rd_T49 l0_1 x8_1).f0))).setCell ⟨gb144, 1, none⟩ (.string ((rd_T49 l0_1 x8_1).f1))).setCell ⟨gb144, 2, none⟩ (.bool ((rd_T49 l0_1 x8_1).f2))) = w18 at n0_ n1_ n2_ ⊢
            have BK142 := n0_
            have BK144 := n1_
            have HB := n2_
            clear n0_ n1_ n2_
            have n0_ := Am (ke BK142.out)
            have n1_ := Am (ke BK144.out)
            have n2_ := Am (be HB.out)
            clear BK142
            clear BK144
            clear HB
            have BK142 := n0_
            have BK144 := n1_
            have HB := n2_
            clear n0_ n1_ n2_
            have p146 : 0 ≤ ((ji11) : Int) := of_decide_eq_true (by first | (with_reducible assumption) | assumption)
            have q146 : (ji11) < (l0_1.length : Int) := of_decide_eq_true (by first | (with_reducible assumption) | assumption)
            obtain ⟨ad146, e146, hx146_0, hx146_1, hx146_2⟩ := at_T49 HR0_1.out (ji11) p146 q146
            have hw146_2 := hx146_2
            have hw146_1 := hx146_1
            have hw146_0 := hx146_0
            obtain rfl : ad143 = ad146 := (by injection e146)
            replace hx146_0 := cl6 HB hx146_0
            replace hx146_1 := cl6 HB hx146_1
            replace hx146_2 := cl6 HB hx146_2
            replace p146 := eq_true p146
            replace q146 := eq_true q146
            refine start_ (n := 31) (S := fun w' => w'.cell? ⟨gb144, 0, none⟩ = some (.int .i64 ((rd_T49 l0_1 x8_1).f0)) ∧ w'.cell? ⟨gb144, 1, none⟩ = some (.string ((rd_T49 l0_1 x8_1).f1)) ∧ w'.cell? ⟨gb144, 2, none⟩ = some (.bool ((rd_T49 l0_1 x8_1).f2)) ∧ w'.cell? ⟨gb142, 0, none⟩ = some (.string a0_0) ∧ w'.cell? ⟨gb142, 1, none⟩ = some (.slice (some ad143) l0_1.length c0_1) ∧ w'.cell? (ad143.add (((ji11)).toNat * 3)) = some (.int .i64 ((rd_T49 l0_1 (ji11)).f0)) ∧ w'.cell? ⟨(ad143.add (((ji11)).toNat * 3)).block, (ad143.add (((ji11)).toNat * 3)).off + 1, none⟩ = some (.string ((rd_T49 l0_1 (ji11)).f1)) ∧ w'.cell? ⟨(ad143.add (((ji11)).toNat * 3)).block, (ad143.add (((ji11)).toNat * 3)).off + 2, none⟩ = some (.bool ((rd_T49 l0_1 (ji11)).f2))) (ds := []) #[false, false, false, false, false, false, false, false, false, false, false, false, false, false, false, false, false, false, false, false, false, false, false, false, false, false, false, false, false, false, false] (by kernel_rfl) rfl rfl ⟨(kc BK144.out 0).trans rfl, (kc BK144.out 1).trans rfl, (kc BK144.out 2).trans rfl, (kc BK142.out 0).trans rfl, (kc BK142.out 1).trans rfl, (cl6 HB hw146_0), (cl6 HB hw146_1), (cl6 HB hw146_2)⟩ (fun hHeld => ?_); refine with_tabW impl_MemoryOk.tab4 impl_MemoryOk.bits4 (fun HT_ HW_ => ?_)
            generalize w18.drew = w19 at BK142 BK144 HB hx146_0 hx146_1 hx146_2 hHeld ⊢
            refine zA 0 (some 13) HT_.out rfl rfl ?_
            refine zA 2 (some 15) HT_.out rfl rfl ?_
            refine zT 1 (some 14) HT_.out HW_.out rfl rfl hHeld ?_
            refine zT 3 (some 16) HT_.out HW_.out rfl rfl hHeld ?_
            refine zA 4 (some 17) HT_.out rfl rfl ?_
            refine zA 5 (some 18) HT_.out rfl rfl ?_
            refine zA 6 (some 19) HT_.out rfl rfl ?_
            refine zO 7 (some 20) HT_.out rfl rfl (fun K hK => ?_)
            refine goes_ Try.func37 (by kernel_rfl) rfl #[.int .i64 ((rd_T49 l0_1 x8_1).f0), .int .i64 0, .int .i64 (wrap64 ((wrap64 ((a0_0.size : Int) / 16)) - 1))] (by rfl) rfl rfl (by (try simp only [List.map_toArray, List.map_cons, List.map_nil]); first | done | rfl | (simp only [List.length_drop, List.length_take]; rfl)) ?_
            with_reducible refine (impl_within.calls ((rd_T49 l0_1 x8_1).f0) 0 (wrap64 ((wrap64 ((a0_0.size : Int) / 16)) - 1)) true _ A7.out).mono ?_
            rintro e w' ⟨rfl, ⟨nd, rfl⟩⟩
            refine ⟨_, rfl, ?_⟩
            refine hK.out _ _ ⟨(kc BK144.out 0).trans rfl, (kc BK144.out 1).trans rfl, (kc BK144.out 2).trans rfl, (kc BK142.out 0).trans rfl, (kc BK142.out 1).trans rfl, (cl6 HB hw146_0 :), (cl6 HB hw146_1 :), (cl6 HB hw146_2 :)⟩ (fun hHeld => ?_)
            clear hK K
            refine zN (some 20) ?_
            refine zA 8 (some 21) HT_.out rfl rfl ?_
            refine zA 9 (some 22) HT_.out rfl rfl ?_
            refine zA 10 (some 23) HT_.out rfl rfl ?_
            refine zT 11 (some 24) HT_.out HW_.out rfl rfl hHeld ?_
            refine zA 12 (some 25) HT_.out rfl rfl ?_
            refine zA 13 (some 26) HT_.out rfl rfl ?_
            refine zA 14 (some 27) HT_.out rfl rfl ?_
            refine zA 15 (some 28) HT_.out rfl rfl ?_
            refine zA 16 (some 29) HT_.out rfl rfl ?_
            refine zA 17 (some 30) HT_.out rfl rfl ?_
            refine zA 18 (some 31) HT_.out rfl rfl ?_
            refine zA 19 (some 32) HT_.out rfl rfl ?_
            refine zA 21 (some 34) HT_.out rfl rfl ?_
            refine zA 23 (some 36) HT_.out rfl rfl ?_
            refine zA 24 (some 37) HT_.out rfl rfl ?_
            refine zT 20 (some 33) HT_.out HW_.out rfl rfl hHeld ?_
            refine zT 22 (some 35) HT_.out HW_.out rfl rfl hHeld ?_
            refine zA 25 (some 38) HT_.out rfl rfl ?_
            refine zA 26 (some 39) HT_.out rfl rfl ?_
            refine zT 27 (some 40) HT_.out HW_.out rfl rfl hHeld ?_
            refine zA 28 (some 41) HT_.out rfl rfl ?_
            refine zA 29 (some 42) HT_.out rfl rfl ?_
            refine zA 30 (some 43) HT_.out rfl rfl ?_
            refine done_ (done_of HT_.out (by kernel_rfl)) ?_
            try go_wp2
            go_ret
            exact ⟨by first | rfl | (simp [errW_none, errW_some] <;> rfl) | (simp only [← hji11]; first | rfl | (simp [errW_none, errW_some] <;> rfl)) | (simp [*, errW_none, errW_some] <;> rfl), zG⟩
           ·rw [if_neg c14] at H
            have c14b0 : decide (((rd_T49 l0_1 x8_1).f0) ≤ ((rd_T49 l0_1 (ji11)).f0)) = false := decide_eq_false c14
            clear c14
            have H' := Am H
            clear H
            have p143 : 0 ≤ (x8_1 : Int) := of_decide_eq_true (by first | (with_reducible assumption) | assumption)
            have q143 : x8_1 < (l0_1.length : Int) := of_decide_eq_true (by first | (with_reducible assumption) | assumption)
            obtain ⟨ad143, e143, hx143_0, hx143_1, hx143_2⟩ := at_T49 HR0_1.out x8_1 p143 q143
            cases e143
            replace hx143_0 := cl6 HB hx143_0
            replace hx143_1 := cl6 HB hx143_1
            replace hx143_2 := cl6 HB hx143_2
            replace p143 := eq_true p143
            replace q143 := eq_true q143
            try go_wp2_with (first | ((with_reducible refine gate_dst (N := 4) rfl ?_); (try (refine gate_guard (by rfl) ?_; dsimp only)); refine box_event ?hg (N := 4) ?hd (cs := #[.int .i64 0, .string (⟨#[]⟩ : ByteArray), .bool false]) (t := 49) ?hr ?_; (case hd => rfl); (case hg => rfl); (case hr => first | (go_simp; done) | (go_simp; rfl)); intro gb144 hg w20 hbox hb; have n0_ := Am (zK BK142 hb); have n1_ := Am (bq zG hb); have n2_ := Am (hbox); have n3_ := Am ((by rw [hg]; exact (bz zG) : w.heap.size ≤ gb144)); have n4_ := Am ((by rw [hg]; exact (bz zG) : w.heap.size ≤ gb144)); have n5_ := Am ((by rw [hg]; exact Nat.ne_of_lt (zL BK142) : gb142 ≠ gb144)); have n6_ := Am ((by rw [hg]; exact Nat.ne_of_gt (zL BK142) : gb144 ≠ gb142)); clear BK142; clear HB; have BK142 := n0_; have HB := n1_; have BK144 := n2_; have GW144 := n3_; have GE144 := n4_; have NB142_144 := n5_; have NB144_142 := n6_; clear n0_ n1_ n2_ n3_ n4_ n5_ n6_; clear hb hbox hg; have hnb21 := NB144_142.out; have hnc21 := NB142_144.out; obtain ⟨hcz22_0, hcz22_1, hcz22_2⟩ := kc3 (w := w20) BK144.out; have hfz22_0 := kf BK144.out))
            have n0_ : Aside0 ((((w20.setCell ⟨gb144, 0, none⟩ (.int .i64 ((rd_T49 l0_1 x8_1).f0))).setCell ⟨gb144, 1, none⟩ (.string ((rd_T49 l0_1 x8_1).f1))).setCell ⟨gb144, 2, none⟩ (.bool ((rd_T49 l0_1 x8_1).f2))).heap[gb142]? = some (.cells #[.string a0_0, .slice (some ad143) l0_1.length c0_1] 28 (0, 0))) := ⟨by (with_reducible repeat (first | refine kn ?_ _ | refine ke ?_ | refine ka ?_ _)); refine blk_far ?_ NB142_144.out _; (with_reducible repeat (first | refine kn ?_ _ | refine ke ?_ | refine ka ?_ _)); refine blk_far ?_ NB142_144.out _; (with_reducible repeat (first | refine kn ?_ _ | refine ke ?_ | refine ka ?_ _)); refine blk_far ?_ NB142_144.out _; (with_reducible repeat (first | refine kn ?_ _ | refine ke ?_ | refine ka ?_ _)); exact BK142.out⟩
            have n1_ : Aside0 ((((w20.setCell ⟨gb144, 0, none⟩ (.int .i64 ((rd_T49 l0_1 x8_1).f0))).setCell ⟨gb144, 1, none⟩ (.string ((rd_T49 l0_1 x8_1).f1))).setCell ⟨gb144, 2, none⟩ (.bool ((rd_T49 l0_1 x8_1).f2))).heap[gb144]? = some (.cells #[.int .i64 ((rd_T49 l0_1 x8_1).f0), .string ((rd_T49 l0_1 x8_1).f1), .bool ((rd_T49 l0_1 x8_1).f2)] 49 (0, 0))) := ⟨by (with_reducible repeat (first | refine kn ?_ _ | refine ke ?_ | refine ka ?_ _)); refine kp (cs := #[.int .i64 ((rd_T49 l0_1 x8_1).f0), .string ((rd_T49 l0_1 x8_1).f1), .bool false]) ?_ 2 _ rfl; (with_reducible repeat (first | refine kn ?_ _ | refine ke ?_ | refine ka ?_ _)); refine kp (cs := #[.int .i64 ((rd_T49 l0_1 x8_1).f0), .string (⟨#[]⟩ : ByteArray), .bool false]) ?_ 1 _ rfl; (with_reducible repeat (first | refine kn ?_ _ | refine ke ?_ | refine ka ?_ _)); refine kp (cs := #[.int .i64 0, .string (⟨#[]⟩ : ByteArray), .bool false]) ?_ 0 _ rfl; (with_reducible repeat (first | refine kn ?_ _ | refine ke ?_ | refine ka ?_ _)); exact BK144.out⟩
            have n2_ : Aside0 (Below w.heap.size w (((w20.setCell ⟨gb144, 0, none⟩ (.int .i64 ((rd_T49 l0_1 x8_1).f0))).setCell ⟨gb144, 1, none⟩ (.string ((rd_T49 l0_1 x8_1).f1))).setCell ⟨gb144, 2, none⟩ (.bool ((rd_T49 l0_1 x8_1).f2)))) := ⟨zG⟩
            (try clear BK142)
            (try clear BK144)
            (try clear HB)
            generalize (((w20.setCell ⟨gb144, 0, none⟩ (.int .i64 ((rd_T49 l0_1 x8_1).f0))).setCell ⟨gb144, 1, none⟩ (.string ((rd_T49 l0_1 x8_1).f1))).setCell ⟨gb144, 2, none⟩ (.bool ((rd_T49 l0_1 x8_1).f2))) = w23 at n0_ n1_ n2_ ⊢
            have BK142 := n0_
            have BK144 := n1_
            have HB := n2_
            clear n0_ n1_ n2_
            have n0_ := Am (ke BK142.out)
            have n1_ := Am (ke BK144.out)
            have n2_ := Am (be HB.out)
            clear BK142
            clear BK144
            clear HB
            have BK142 := n0_
            have BK144 := n1_
            have HB := n2_
            clear n0_ n1_ n2_
            have p146 : 0 ≤ ((ji11) : Int) := of_decide_eq_true (by first | (with_reducible assumption) | assumption)
            have q146 : (ji11) < (l0_1.length : Int) := of_decide_eq_true (by first | (with_reducible assumption) | assumption)
            obtain ⟨ad146, e146, hx146_0, hx146_1, hx146_2⟩ := at_T49 HR0_1.out (ji11) p146 q146
            have hw146_2 := hx146_2
            have hw146_1 := hx146_1
            have hw146_0 := hx146_0
            obtain rfl : ad143 = ad146 := (by injection e146)
            replace hx146_0 := cl6 HB hx146_0
            replace hx146_1 := cl6 HB hx146_1
            replace hx146_2 := cl6 HB hx146_2
            replace p146 := eq_true p146
            replace q146 := eq_true q146
            refine start_ (n := 31) (S := fun w' => w'.cell? ⟨gb144, 0, none⟩ = some (.int .i64 ((rd_T49 l0_1 x8_1).f0)) ∧ w'.cell? ⟨gb144, 1, none⟩ = some (.string ((rd_T49 l0_1 x8_1).f1)) ∧ w'.cell? ⟨gb144, 2, none⟩ = some (.bool ((rd_T49 l0_1 x8_1).f2)) ∧ w'.cell? ⟨gb142, 0, none⟩ = some (.string a0_0) ∧ w'.cell? ⟨gb142, 1, none⟩ = some (.slice (some ad143) l0_1.length c0_1) ∧ w'.cell? (ad143.add (((ji11)).toNat * 3)) = some (.int .i64 ((rd_T49 l0_1 (ji11)).f0)) ∧ w'.cell? ⟨(ad143.add (((ji11)).toNat * 3)).block, (ad143.add (((ji11)).toNat * 3)).off + 1, none⟩ = some (.string ((rd_T49 l0_1 (ji11)).f1)) ∧ w'.cell? ⟨(ad143.add (((ji11)).toNat * 3)).block, (ad143.add (((ji11)).toNat * 3)).off + 2, none⟩ = some (.bool ((rd_T49 l0_1 (ji11)).f2))) (ds := []) #[false, false, false, false, false, false, false, false, false, false, false, false, false, false, false, false, false, false, false, false, false, false, false, false, false, false, false, false, false, false, false] (by kernel_rfl) rfl rfl ⟨(kc BK144.out 0).trans rfl, (kc BK144.out 1).trans rfl, (kc BK144.out 2).trans rfl, (kc BK142.out 0).trans rfl, (kc BK142.out 1).trans rfl, (cl6 HB hw146_0), (cl6 HB hw146_1), (cl6 HB hw146_2)⟩ (fun hHeld => ?_); refine with_tabW impl_MemoryOk.tab4 impl_MemoryOk.bits4 (fun HT_ HW_ => ?_)
            generalize w23.drew = w24 at BK142 BK144 HB hx146_0 hx146_1 hx146_2 hHeld ⊢
            refine zA 0 (some 13) HT_.out rfl rfl ?_
            refine zA 2 (some 15) HT_.out rfl rfl ?_
            refine zT 1 (some 14) HT_.out HW_.out rfl rfl hHeld ?_
            refine zT 3 (some 16) HT_.out HW_.out rfl rfl hHeld ?_
            refine zA 4 (some 17) HT_.out rfl rfl ?_
            refine zA 5 (some 18) HT_.out rfl rfl ?_
            refine zA 6 (some 19) HT_.out rfl rfl ?_
            refine zO 7 (some 20) HT_.out rfl rfl (fun K hK => ?_)
            refine goes_ Try.func37 (by kernel_rfl) rfl #[.int .i64 ((rd_T49 l0_1 x8_1).f0), .int .i64 0, .int .i64 (wrap64 ((wrap64 ((a0_0.size : Int) / 16)) - 1))] (by rfl) rfl rfl (by (try simp only [List.map_toArray, List.map_cons, List.map_nil]); first | done | rfl | (simp only [List.length_drop, List.length_take]; rfl)) ?_
            with_reducible refine (impl_within.calls ((rd_T49 l0_1 x8_1).f0) 0 (wrap64 ((wrap64 ((a0_0.size : Int) / 16)) - 1)) true _ A7.out).mono ?_
            rintro e w' ⟨rfl, ⟨nd, rfl⟩⟩
            refine ⟨_, rfl, ?_⟩
            refine hK.out _ _ ⟨(kc BK144.out 0).trans rfl, (kc BK144.out 1).trans rfl, (kc BK144.out 2).trans rfl, (kc BK142.out 0).trans rfl, (kc BK142.out 1).trans rfl, (cl6 HB hw146_0 :), (cl6 HB hw146_1 :), (cl6 HB hw146_2 :)⟩ (fun hHeld => ?_)
            clear hK K
            refine zN (some 20) ?_
            refine zA 8 (some 21) HT_.out rfl rfl ?_
            refine zA 9 (some 22) HT_.out rfl rfl ?_
            refine zA 10 (some 23) HT_.out rfl rfl ?_
            refine zT 11 (some 24) HT_.out HW_.out rfl rfl hHeld ?_
            refine zA 12 (some 25) HT_.out rfl rfl ?_
            refine zA 13 (some 26) HT_.out rfl rfl ?_
            refine zA 14 (some 27) HT_.out rfl rfl ?_
            refine zA 15 (some 28) HT_.out rfl rfl ?_
            refine zA 16 (some 29) HT_.out rfl rfl ?_
            refine zA 17 (some 30) HT_.out rfl rfl ?_
            refine zA 18 (some 31) HT_.out rfl rfl ?_
            refine zA 19 (some 32) HT_.out rfl rfl ?_
            refine zA 21 (some 34) HT_.out rfl rfl ?_
            refine zA 23 (some 36) HT_.out rfl rfl ?_
            refine zA 24 (some 37) HT_.out rfl rfl ?_
            refine zT 20 (some 33) HT_.out HW_.out rfl rfl hHeld ?_
            refine zT 22 (some 35) HT_.out HW_.out rfl rfl hHeld ?_
            refine zA 25 (some 38) HT_.out rfl rfl ?_
            refine zA 26 (some 39) HT_.out rfl rfl ?_
            refine zT 27 (some 40) HT_.out HW_.out rfl rfl hHeld ?_
            refine zA 28 (some 41) HT_.out rfl rfl ?_
            refine zA 29 (some 42) HT_.out rfl rfl ?_
            refine zA 30 (some 43) HT_.out rfl rfl ?_
            refine done_ (done_of HT_.out (by kernel_rfl)) ?_
            try go_wp2
            go_roundg k1
            case measure => have := HK1.out; omega
            case rel => exact ⟨(wrap64 (x8_1 + 1)), (by first | rfl | (simp; done) | (simp [*]; done)), H', ⟨by have := HK1.out; omega⟩, ⟨by (with_reducible repeat (first | refine kn ?_ _ | refine ke ?_ | refine ka ?_ _)); exact BK142.out⟩, ⟨zG⟩⟩
          ·rw [if_neg c13] at H
           exact absurd H (by simp)
         ·rw [if_neg c12] at H
          exact absurd H (by simp)
        ·rw [if_neg c10] at H
         have c10b0 : decide (0 < x8_1) = false := decide_eq_false c10
         clear c10
         have H' := Am H
         clear H
         have p143 : 0 ≤ (x8_1 : Int) := of_decide_eq_true (by first | (with_reducible assumption) | assumption)
         have q143 : x8_1 < (l0_1.length : Int) := of_decide_eq_true (by first | (with_reducible assumption) | assumption)
         obtain ⟨ad143, e143, hx143_0, hx143_1, hx143_2⟩ := at_T49 HR0_1.out x8_1 p143 q143
         cases e143
         replace hx143_0 := cl6 HB hx143_0
         replace hx143_1 := cl6 HB hx143_1
         replace hx143_2 := cl6 HB hx143_2
         replace p143 := eq_true p143
         replace q143 := eq_true q143
         try go_wp2_with (first | ((with_reducible refine gate_dst (N := 4) rfl ?_); (try (refine gate_guard (by rfl) ?_; dsimp only)); refine box_event ?hg (N := 4) ?hd (cs := #[.int .i64 0, .string (⟨#[]⟩ : ByteArray), .bool false]) (t := 49) ?hr ?_; (case hd => rfl); (case hg => rfl); (case hr => first | (go_simp; done) | (go_simp; rfl)); intro gb144 hg w25 hbox hb; have n0_ := Am (zK BK142 hb); have n1_ := Am (bq zG hb); have n2_ := Am (hbox); have n3_ := Am ((by rw [hg]; exact (bz zG) : w.heap.size ≤ gb144)); have n4_ := Am ((by rw [hg]; exact (bz zG) : w.heap.size ≤ gb144)); have n5_ := Am ((by rw [hg]; exact Nat.ne_of_lt (zL BK142) : gb142 ≠ gb144)); have n6_ := Am ((by rw [hg]; exact Nat.ne_of_gt (zL BK142) : gb144 ≠ gb142)); clear BK142; clear HB; have BK142 := n0_; have HB := n1_; have BK144 := n2_; have GW144 := n3_; have GE144 := n4_; have NB142_144 := n5_; have NB144_142 := n6_; clear n0_ n1_ n2_ n3_ n4_ n5_ n6_; clear hb hbox hg; have hnb26 := NB144_142.out; have hnc26 := NB142_144.out; obtain ⟨hcz27_0, hcz27_1, hcz27_2⟩ := kc3 (w := w25) BK144.out; have hfz27_0 := kf BK144.out))
         have n0_ : Aside0 ((((w25.setCell ⟨gb144, 0, none⟩ (.int .i64 ((rd_T49 l0_1 x8_1).f0))).setCell ⟨gb144, 1, none⟩ (.string ((rd_T49 l0_1 x8_1).f1))).setCell ⟨gb144, 2, none⟩ (.bool ((rd_T49 l0_1 x8_1).f2))).heap[gb142]? = some (.cells #[.string a0_0, .slice (some ad143) l0_1.length c0_1] 28 (0, 0))) := ⟨by (with_reducible repeat (first | refine kn ?_ _ | refine ke ?_ | refine ka ?_ _)); refine blk_far ?_ NB142_144.out _; (with_reducible repeat (first | refine kn ?_ _ | refine ke ?_ | refine ka ?_ _)); refine blk_far ?_ NB142_144.out _; (with_reducible repeat (first | refine kn ?_ _ | refine ke ?_ | refine ka ?_ _)); refine blk_far ?_ NB142_144.out _; (with_reducible repeat (first | refine kn ?_ _ | refine ke ?_ | refine ka ?_ _)); exact BK142.out⟩
         have n1_ : Aside0 ((((w25.setCell ⟨gb144, 0, none⟩ (.int .i64 ((rd_T49 l0_1 x8_1).f0))).setCell ⟨gb144, 1, none⟩ (.string ((rd_T49 l0_1 x8_1).f1))).setCell ⟨gb144, 2, none⟩ (.bool ((rd_T49 l0_1 x8_1).f2))).heap[gb144]? = some (.cells #[.int .i64 ((rd_T49 l0_1 x8_1).f0), .string ((rd_T49 l0_1 x8_1).f1), .bool ((rd_T49 l0_1 x8_1).f2)] 49 (0, 0))) := ⟨by (with_reducible repeat (first | refine kn ?_ _ | refine ke ?_ | refine ka ?_ _)); refine kp (cs := #[.int .i64 ((rd_T49 l0_1 x8_1).f0), .string ((rd_T49 l0_1 x8_1).f1), .bool false]) ?_ 2 _ rfl; (with_reducible repeat (first | refine kn ?_ _ | refine ke ?_ | refine ka ?_ _)); refine kp (cs := #[.int .i64 ((rd_T49 l0_1 x8_1).f0), .string (⟨#[]⟩ : ByteArray), .bool false]) ?_ 1 _ rfl; (with_reducible repeat (first | refine kn ?_ _ | refine ke ?_ | refine ka ?_ _)); refine kp (cs := #[.int .i64 0, .string (⟨#[]⟩ : ByteArray), .bool false]) ?_ 0 _ rfl; (with_reducible repeat (first | refine kn ?_ _ | refine ke ?_ | refine ka ?_ _)); exact BK144.out⟩
         have n2_ : Aside0 (Below w.heap.size w (((w25.setCell ⟨gb144, 0, none⟩ (.int .i64 ((rd_T49 l0_1 x8_1).f0))).setCell ⟨gb144, 1, none⟩ (.string ((rd_T49 l0_1 x8_1).f1))).setCell ⟨gb144, 2, none⟩ (.bool ((rd_T49 l0_1 x8_1).f2)))) := ⟨zG⟩
         (try clear BK142)
         (try clear BK144)
         (try clear HB)
         generalize (((w25.setCell ⟨gb144, 0, none⟩ (.int .i64 ((rd_T49 l0_1 x8_1).f0))).setCell ⟨gb144, 1, none⟩ (.string ((rd_T49 l0_1 x8_1).f1))).setCell ⟨gb144, 2, none⟩ (.bool ((rd_T49 l0_1 x8_1).f2))) = w28 at n0_ n1_ n2_ ⊢
         have BK142 := n0_
         have BK144 := n1_
         have HB := n2_
         clear n0_ n1_ n2_
         have n0_ := Am (ke BK142.out)
         have n1_ := Am (ke BK144.out)
         have n2_ := Am (be HB.out)
         clear BK142
         clear BK144
         clear HB
         have BK142 := n0_
         have BK144 := n1_
         have HB := n2_
         clear n0_ n1_ n2_
         refine start_ (n := 31) (S := fun w' => w'.cell? ⟨gb144, 0, none⟩ = some (.int .i64 ((rd_T49 l0_1 x8_1).f0)) ∧ w'.cell? ⟨gb144, 1, none⟩ = some (.string ((rd_T49 l0_1 x8_1).f1)) ∧ w'.cell? ⟨gb144, 2, none⟩ = some (.bool ((rd_T49 l0_1 x8_1).f2)) ∧ w'.cell? ⟨gb142, 0, none⟩ = some (.string a0_0) ∧ w'.cell? ⟨gb142, 1, none⟩ = some (.slice (some ad143) l0_1.length c0_1)) (ds := []) #[false, false, false, false, false, false, false, false, false, false, false, false, false, false, false, false, false, false, false, false, false, false, false, false, false, false, false, false, false, false, false] (by kernel_rfl) rfl rfl ⟨(kc BK144.out 0).trans rfl, (kc BK144.out 1).trans rfl, (kc BK144.out 2).trans rfl, (kc BK142.out 0).trans rfl, (kc BK142.out 1).trans rfl⟩ (fun hHeld => ?_); refine with_tabW impl_MemoryOk.tab4 impl_MemoryOk.bits4 (fun HT_ HW_ => ?_)
         generalize w28.drew = w29 at BK142 BK144 HB hHeld ⊢
         refine zA 0 (some 13) HT_.out rfl rfl ?_
         refine zA 2 (some 15) HT_.out rfl rfl ?_
         refine zT 1 (some 14) HT_.out HW_.out rfl rfl hHeld ?_
         refine zT 3 (some 16) HT_.out HW_.out rfl rfl hHeld ?_
         refine zA 4 (some 17) HT_.out rfl rfl ?_
         refine zA 5 (some 18) HT_.out rfl rfl ?_
         refine zA 6 (some 19) HT_.out rfl rfl ?_
         refine zO 7 (some 20) HT_.out rfl rfl (fun K hK => ?_)
         refine goes_ Try.func37 (by kernel_rfl) rfl #[.int .i64 ((rd_T49 l0_1 x8_1).f0), .int .i64 0, .int .i64 (wrap64 ((wrap64 ((a0_0.size : Int) / 16)) - 1))] (by rfl) rfl rfl (by (try simp only [List.map_toArray, List.map_cons, List.map_nil]); first | done | rfl | (simp only [List.length_drop, List.length_take]; rfl)) ?_
         with_reducible refine (impl_within.calls ((rd_T49 l0_1 x8_1).f0) 0 (wrap64 ((wrap64 ((a0_0.size : Int) / 16)) - 1)) true _ A7.out).mono ?_
         rintro e w' ⟨rfl, ⟨nd, rfl⟩⟩
         refine ⟨_, rfl, ?_⟩
         refine hK.out _ _ ⟨(kc BK144.out 0).trans rfl, (kc BK144.out 1).trans rfl, (kc BK144.out 2).trans rfl, (kc BK142.out 0).trans rfl, (kc BK142.out 1).trans rfl⟩ (fun hHeld => ?_)
         clear hK K
         refine zN (some 20) ?_
         refine zA 8 (some 21) HT_.out rfl rfl ?_
         refine zA 9 (some 22) HT_.out rfl rfl ?_
         refine zA 10 (some 23) HT_.out rfl rfl ?_
         refine zT 11 (some 24) HT_.out HW_.out rfl rfl hHeld ?_
         refine zA 12 (some 25) HT_.out rfl rfl ?_
         refine zA 13 (some 26) HT_.out rfl rfl ?_
         refine zA 14 (some 27) HT_.out rfl rfl ?_
         refine zA 15 (some 28) HT_.out rfl rfl ?_
         refine zA 16 (some 29) HT_.out rfl rfl ?_
         refine zA 17 (some 30) HT_.out rfl rfl ?_
         refine zA 18 (some 31) HT_.out rfl rfl ?_
         refine zI 19 (some 32) HT_.out rfl rfl ?_
         refine zI 20 (some 33) HT_.out rfl rfl ?_
         refine zI 21 (some 34) HT_.out rfl rfl ?_
         refine zI 22 (some 35) HT_.out rfl rfl ?_
         refine zI 23 (some 36) HT_.out rfl rfl ?_
         refine zI 24 (some 37) HT_.out rfl rfl ?_
         refine zI 25 (some 38) HT_.out rfl rfl ?_
         refine zI 26 (some 39) HT_.out rfl rfl ?_
         refine zI 27 (some 40) HT_.out rfl rfl ?_
         refine zI 28 (some 41) HT_.out rfl rfl ?_
         refine zA 29 (some 42) HT_.out rfl rfl ?_
         refine zA 30 (some 43) HT_.out rfl rfl ?_
         refine done_ (done_of HT_.out (by kernel_rfl)) ?_
         try go_wp2
         go_roundg k1
         case measure => have := HK1.out; omega
         case rel => exact ⟨(wrap64 (x8_1 + 1)), (by first | rfl | (simp; done) | (simp [*]; done)), H', ⟨by have := HK1.out; omega⟩, ⟨by (with_reducible repeat (first | refine kn ?_ _ | refine ke ?_ | refine ka ?_ _)); exact BK142.out⟩, ⟨zG⟩⟩
       ·rw [if_neg c9] at H
        have c9b0 : ((((rd_T49 l0_1 x8_1).f1).size : Int) == 16) = false := beq_eq_false_iff_ne.mpr c9
        have c9b1 : ((((rd_T49 l0_1 x8_1).f1).size : Int) != 16) = true := bne_iff_ne.mpr c9
        obtain rfl := Option.some.inj H
        have p143 : 0 ≤ (x8_1 : Int) := of_decide_eq_true (by first | (with_reducible assumption) | assumption)
        have q143 : x8_1 < (l0_1.length : Int) := of_decide_eq_true (by first | (with_reducible assumption) | assumption)
        obtain ⟨ad143, e143, hx143_0, hx143_1, hx143_2⟩ := at_T49 HR0_1.out x8_1 p143 q143
        cases e143
        replace hx143_0 := cl6 HB hx143_0
        replace hx143_1 := cl6 HB hx143_1
        replace hx143_2 := cl6 HB hx143_2
        replace p143 := eq_true p143
        replace q143 := eq_true q143
        try go_wp2_with (first | ((with_reducible refine gate_dst (N := 4) rfl ?_); (try (refine gate_guard (by rfl) ?_; dsimp only)); refine box_event ?hg (N := 4) ?hd (cs := #[.int .i64 0, .string (⟨#[]⟩ : ByteArray), .bool false]) (t := 49) ?hr ?_; (case hd => rfl); (case hg => rfl); (case hr => first | (go_simp; done) | (go_simp; rfl)); intro gb144 hg w30 hbox hb; have n0_ := Am (zK BK142 hb); have n1_ := Am (bq zG hb); have n2_ := Am (hbox); have n3_ := Am ((by rw [hg]; exact (bz zG) : w.heap.size ≤ gb144)); have n4_ := Am ((by rw [hg]; exact (bz zG) : w.heap.size ≤ gb144)); have n5_ := Am ((by rw [hg]; exact Nat.ne_of_lt (zL BK142) : gb142 ≠ gb144)); have n6_ := Am ((by rw [hg]; exact Nat.ne_of_gt (zL BK142) : gb144 ≠ gb142)); clear BK142; clear HB; have BK142 := n0_; have HB := n1_; have BK144 := n2_; have GW144 := n3_; have GE144 := n4_; have NB142_144 := n5_; have NB144_142 := n6_; clear n0_ n1_ n2_ n3_ n4_ n5_ n6_; clear hb hbox hg; have hnb31 := NB144_142.out; have hnc31 := NB142_144.out; obtain ⟨hcz32_0, hcz32_1, hcz32_2⟩ := kc3 (w := w30) BK144.out; have hfz32_0 := kf BK144.out))
        have n0_ : Aside0 ((((w30.setCell ⟨gb144, 0, none⟩ (.int .i64 ((rd_T49 l0_1 x8_1).f0))).setCell ⟨gb144, 1, none⟩ (.string ((rd_T49 l0_1 x8_1).f1))).setCell ⟨gb144, 2, none⟩ (.bool ((rd_T49 l0_1 x8_1).f2))).heap[gb142]? = some (.cells #[.string a0_0, .slice (some ad143) l0_1.length c0_1] 28 (0, 0))) := ⟨by (with_reducible repeat (first | refine kn ?_ _ | refine ke ?_ | refine ka ?_ _)); refine blk_far ?_ NB142_144.out _; (with_reducible repeat (first | refine kn ?_ _ | refine ke ?_ | refine ka ?_ _)); refine blk_far ?_ NB142_144.out _; (with_reducible repeat (first | refine kn ?_ _ | refine ke ?_ | refine ka ?_ _)); refine blk_far ?_ NB142_144.out _; (with_reducible repeat (first | refine kn ?_ _ | refine ke ?_ | refine ka ?_ _)); exact BK142.out⟩
        have n1_ : Aside0 ((((w30.setCell ⟨gb144, 0, none⟩ (.int .i64 ((rd_T49 l0_1 x8_1).f0))).setCell ⟨gb144, 1, none⟩ (.string ((rd_T49 l0_1 x8_1).f1))).setCell ⟨gb144, 2, none⟩ (.bool ((rd_T49 l0_1 x8_1).f2))).heap[gb144]? = some (.cells #[.int .i64 ((rd_T49 l0_1 x8_1).f0), .string ((rd_T49 l0_1 x8_1).f1), .bool ((rd_T49 l0_1 x8_1).f2)] 49 (0, 0))) := ⟨by (with_reducible repeat (first | refine kn ?_ _ | refine ke ?_ | refine ka ?_ _)); refine kp (cs := #[.int .i64 ((rd_T49 l0_1 x8_1).f0), .string ((rd_T49 l0_1 x8_1).f1), .bool false]) ?_ 2 _ rfl; (with_reducible repeat (first | refine kn ?_ _ | refine ke ?_ | refine ka ?_ _)); refine kp (cs := #[.int .i64 ((rd_T49 l0_1 x8_1).f0), .string (⟨#[]⟩ : ByteArray), .bool false]) ?_ 1 _ rfl; (with_reducible repeat (first | refine kn ?_ _ | refine ke ?_ | refine ka ?_ _)); refine kp (cs := #[.int .i64 0, .string (⟨#[]⟩ : ByteArray), .bool false]) ?_ 0 _ rfl; (with_reducible repeat (first | refine kn ?_ _ | refine ke ?_ | refine ka ?_ _)); exact BK144.out⟩
        have n2_ : Aside0 (Below w.heap.size w (((w30.setCell ⟨gb144, 0, none⟩ (.int .i64 ((rd_T49 l0_1 x8_1).f0))).setCell ⟨gb144, 1, none⟩ (.string ((rd_T49 l0_1 x8_1).f1))).setCell ⟨gb144, 2, none⟩ (.bool ((rd_T49 l0_1 x8_1).f2)))) := ⟨zG⟩
        (try clear BK142)
        (try clear BK144)
        (try clear HB)
        generalize (((w30.setCell ⟨gb144, 0, none⟩ (.int .i64 ((rd_T49 l0_1 x8_1).f0))).setCell ⟨gb144, 1, none⟩ (.string ((rd_T49 l0_1 x8_1).f1))).setCell ⟨gb144, 2, none⟩ (.bool ((rd_T49 l0_1 x8_1).f2))) = w33 at n0_ n1_ n2_ ⊢
        have BK142 := n0_
        have BK144 := n1_
        have HB := n2_
        clear n0_ n1_ n2_
        have n0_ := Am (ke BK142.out)
        have n1_ := Am (ke BK144.out)
        have n2_ := Am (be HB.out)
        clear BK142
        clear BK144
        clear HB
        have BK142 := n0_
        have BK144 := n1_
        have HB := n2_
        clear n0_ n1_ n2_
        refine start_ (n := 31) (S := fun w' => w'.cell? ⟨gb144, 0, none⟩ = some (.int .i64 ((rd_T49 l0_1 x8_1).f0)) ∧ w'.cell? ⟨gb144, 1, none⟩ = some (.string ((rd_T49 l0_1 x8_1).f1)) ∧ w'.cell? ⟨gb144, 2, none⟩ = some (.bool ((rd_T49 l0_1 x8_1).f2)) ∧ w'.cell? ⟨gb142, 0, none⟩ = some (.string a0_0) ∧ w'.cell? ⟨gb142, 1, none⟩ = some (.slice (some ad143) l0_1.length c0_1)) (ds := []) #[false, false, false, false, false, false, false, false, false, false, false, false, false, false, false, false, false, false, false, false, false, false, false, false, false, false, false, false, false, false, false] (by kernel_rfl) rfl rfl ⟨(kc BK144.out 0).trans rfl, (kc BK144.out 1).trans rfl, (kc BK144.out 2).trans rfl, (kc BK142.out 0).trans rfl, (kc BK142.out 1).trans rfl⟩ (fun hHeld => ?_); refine with_tabW impl_MemoryOk.tab4 impl_MemoryOk.bits4 (fun HT_ HW_ => ?_)
        generalize w33.drew = w34 at BK142 BK144 HB hHeld ⊢
        refine zA 0 (some 13) HT_.out rfl rfl ?_
        refine zA 2 (some 15) HT_.out rfl rfl ?_
        refine zT 1 (some 14) HT_.out HW_.out rfl rfl hHeld ?_
        refine zT 3 (some 16) HT_.out HW_.out rfl rfl hHeld ?_
        refine zA 4 (some 17) HT_.out rfl rfl ?_
        refine zA 5 (some 18) HT_.out rfl rfl ?_
        refine zA 6 (some 19) HT_.out rfl rfl ?_
        refine zO 7 (some 20) HT_.out rfl rfl (fun K hK => ?_)
        refine goes_ Try.func37 (by kernel_rfl) rfl #[.int .i64 ((rd_T49 l0_1 x8_1).f0), .int .i64 0, .int .i64 (wrap64 ((wrap64 ((a0_0.size : Int) / 16)) - 1))] (by rfl) rfl rfl (by (try simp only [List.map_toArray, List.map_cons, List.map_nil]); first | done | rfl | (simp only [List.length_drop, List.length_take]; rfl)) ?_
        with_reducible refine (impl_within.calls ((rd_T49 l0_1 x8_1).f0) 0 (wrap64 ((wrap64 ((a0_0.size : Int) / 16)) - 1)) true _ A7.out).mono ?_
        rintro e w' ⟨rfl, ⟨nd, rfl⟩⟩
        refine ⟨_, rfl, ?_⟩
        refine hK.out _ _ ⟨(kc BK144.out 0).trans rfl, (kc BK144.out 1).trans rfl, (kc BK144.out 2).trans rfl, (kc BK142.out 0).trans rfl, (kc BK142.out 1).trans rfl⟩ (fun hHeld => ?_)
        clear hK K
        refine zN (some 20) ?_
        refine zA 8 (some 21) HT_.out rfl rfl ?_
        refine zA 9 (some 22) HT_.out rfl rfl ?_
        refine zA 10 (some 23) HT_.out rfl rfl ?_
        refine zT 11 (some 24) HT_.out HW_.out rfl rfl hHeld ?_
        refine zA 12 (some 25) HT_.out rfl rfl ?_
        refine zA 13 (some 26) HT_.out rfl rfl ?_
        refine zA 14 (some 27) HT_.out rfl rfl ?_
        refine zA 15 (some 28) HT_.out rfl rfl ?_
        refine zI 16 (some 29) HT_.out rfl rfl ?_
        refine zI 17 (some 30) HT_.out rfl rfl ?_
        refine zI 18 (some 31) HT_.out rfl rfl ?_
        refine zI 19 (some 32) HT_.out rfl rfl ?_
        refine zI 20 (some 33) HT_.out rfl rfl ?_
        refine zI 21 (some 34) HT_.out rfl rfl ?_
        refine zI 22 (some 35) HT_.out rfl rfl ?_
        refine zI 23 (some 36) HT_.out rfl rfl ?_
        refine zI 24 (some 37) HT_.out rfl rfl ?_
        refine zI 25 (some 38) HT_.out rfl rfl ?_
        refine zI 26 (some 39) HT_.out rfl rfl ?_
        refine zI 27 (some 40) HT_.out rfl rfl ?_
        refine zI 28 (some 41) HT_.out rfl rfl ?_
        refine zI 29 (some 42) HT_.out rfl rfl ?_
        refine zA 30 (some 43) HT_.out rfl rfl ?_
        refine done_ (done_of HT_.out (by kernel_rfl)) ?_
        try go_wp2
        go_ret
        exact ⟨zR, zG⟩
      ·replace c8 := Bool.eq_false_iff.mpr c8
       subst c8
       have H1 : (some false) = some r := by rw [if_neg (show ¬ (false = true) by decide)] at H; exact H
       clear H
       have H := H1
       clear H1
       obtain rfl := Option.some.inj H
       have p143 : 0 ≤ (x8_1 : Int) := of_decide_eq_true (by first | (with_reducible assumption) | assumption)
       have q143 : x8_1 < (l0_1.length : Int) := of_decide_eq_true (by first | (with_reducible assumption) | assumption)
       obtain ⟨ad143, e143, hx143_0, hx143_1, hx143_2⟩ := at_T49 HR0_1.out x8_1 p143 q143
       cases e143
       replace hx143_0 := cl6 HB hx143_0
       replace hx143_1 := cl6 HB hx143_1
       replace hx143_2 := cl6 HB hx143_2
       replace p143 := eq_true p143
       replace q143 := eq_true q143
       try go_wp2_with (first | ((with_reducible refine gate_dst (N := 4) rfl ?_); (try (refine gate_guard (by rfl) ?_; dsimp only)); refine box_event ?hg (N := 4) ?hd (cs := #[.int .i64 0, .string (⟨#[]⟩ : ByteArray), .bool false]) (t := 49) ?hr ?_; (case hd => rfl); (case hg => rfl); (case hr => first | (go_simp; done) | (go_simp; rfl)); intro gb144 hg w35 hbox hb; have n0_ := Am (zK BK142 hb); have n1_ := Am (bq zG hb); have n2_ := Am (hbox); have n3_ := Am ((by rw [hg]; exact (bz zG) : w.heap.size ≤ gb144)); have n4_ := Am ((by rw [hg]; exact (bz zG) : w.heap.size ≤ gb144)); have n5_ := Am ((by rw [hg]; exact Nat.ne_of_lt (zL BK142) : gb142 ≠ gb144)); have n6_ := Am ((by rw [hg]; exact Nat.ne_of_gt (zL BK142) : gb144 ≠ gb142)); clear BK142; clear HB; have BK142 := n0_; have HB := n1_; have BK144 := n2_; have GW144 := n3_; have GE144 := n4_; have NB142_144 := n5_; have NB144_142 := n6_; clear n0_ n1_ n2_ n3_ n4_ n5_ n6_; clear hb hbox hg; have hnb36 := NB144_142.out; have hnc36 := NB142_144.out; obtain ⟨hcz37_0, hcz37_1, hcz37_2⟩ := kc3 (w := w35) BK144.out; have hfz37_0 := kf BK144.out))
       have n0_ : Aside0 ((((w35.setCell ⟨gb144, 0, none⟩ (.int .i64 ((rd_T49 l0_1 x8_1).f0))).setCell ⟨gb144, 1, none⟩ (.string ((rd_T49 l0_1 x8_1).f1))).setCell ⟨gb144, 2, none⟩ (.bool ((rd_T49 l0_1 x8_1).f2))).heap[gb142]? = some (.cells #[.string a0_0, .slice (some ad143) l0_1.length c0_1] 28 (0, 0))) := ⟨by (with_reducible repeat (first | refine kn ?_ _ | refine ke ?_ | refine ka ?_ _)); refine blk_far ?_ NB142_144.out _; (with_reducible repeat (first | refine kn ?_ _ | refine ke ?_ | refine ka ?_ _)); refine blk_far ?_ NB142_144.out _; (with_reducible repeat (first | refine kn ?_ _ | refine ke ?_ | refine ka ?_ _)); refine blk_far ?_ NB142_144.out _; (with_reducible repeat (first | refine kn ?_ _ | refine ke ?_ | refine ka ?_ _)); exact BK142.out⟩
       have n1_ : Aside0 ((((w35.setCell ⟨gb144, 0, none⟩ (.int .i64 ((rd_T49 l0_1 x8_1).f0))).setCell ⟨gb144, 1, none⟩ (.string ((rd_T49 l0_1 x8_1).f1))).setCell ⟨gb144, 2, none⟩ (.bool ((rd_T49 l0_1 x8_1).f2))).heap[gb144]? = some (.cells #[.int .i64 ((rd_T49 l0_1 x8_1).f0), .string ((rd_T49 l0_1 x8_1).f1), .bool ((rd_T49 l0_1 x8_1).f2)] 49 (0, 0))) := ⟨by (with_reducible repeat (first | refine kn ?_ _ | refine ke ?_ | refine ka ?_ _)); refine kp (cs := #[.int .i64 ((rd_T49 l0_1 x8_1).f0), .string ((rd_T49 l0_1 x8_1).f1), .bool false]) ?_ 2 _ rfl; (with_reducible repeat (first | refine kn ?_ _ | refine ke ?_ | refine ka ?_ _)); refine kp (cs := #[.int .i64 ((rd_T49 l0_1 x8_1).f0), .string (⟨#[]⟩ : ByteArray), .bool false]) ?_ 1 _ rfl; (with_reducible repeat (first | refine kn ?_ _ | refine ke ?_ | refine ka ?_ _)); refine kp (cs := #[.int .i64 0, .string (⟨#[]⟩ : ByteArray), .bool false]) ?_ 0 _ rfl; (with_reducible repeat (first | refine kn ?_ _ | refine ke ?_ | refine ka ?_ _)); exact BK144.out⟩
       have n2_ : Aside0 (Below w.heap.size w (((w35.setCell ⟨gb144, 0, none⟩ (.int .i64 ((rd_T49 l0_1 x8_1).f0))).setCell ⟨gb144, 1, none⟩ (.string ((rd_T49 l0_1 x8_1).f1))).setCell ⟨gb144, 2, none⟩ (.bool ((rd_T49 l0_1 x8_1).f2)))) := ⟨zG⟩
       (try clear BK142)
       (try clear BK144)
       (try clear HB)
       generalize (((w35.setCell ⟨gb144, 0, none⟩ (.int .i64 ((rd_T49 l0_1 x8_1).f0))).setCell ⟨gb144, 1, none⟩ (.string ((rd_T49 l0_1 x8_1).f1))).setCell ⟨gb144, 2, none⟩ (.bool ((rd_T49 l0_1 x8_1).f2))) = w38 at n0_ n1_ n2_ ⊢
       have BK142 := n0_
       have BK144 := n1_
       have HB := n2_
       clear n0_ n1_ n2_
       have n0_ := Am (ke BK142.out)
       have n1_ := Am (ke BK144.out)
       have n2_ := Am (be HB.out)
       clear BK142
       clear BK144
       clear HB
       have BK142 := n0_
       have BK144 := n1_
       have HB := n2_
       clear n0_ n1_ n2_
       refine start_ (n := 31) (S := fun w' => w'.cell? ⟨gb144, 0, none⟩ = some (.int .i64 ((rd_T49 l0_1 x8_1).f0)) ∧ w'.cell? ⟨gb144, 1, none⟩ = some (.string ((rd_T49 l0_1 x8_1).f1)) ∧ w'.cell? ⟨gb144, 2, none⟩ = some (.bool ((rd_T49 l0_1 x8_1).f2)) ∧ w'.cell? ⟨gb142, 0, none⟩ = some (.string a0_0) ∧ w'.cell? ⟨gb142, 1, none⟩ = some (.slice (some ad143) l0_1.length c0_1)) (ds := []) #[false, false, false, false, false, false, false, false, false, false, false, false, false, false, false, false, false, false, false, false, false, false, false, false, false, false, false, false, false, false, false] (by kernel_rfl) rfl rfl ⟨(kc BK144.out 0).trans rfl, (kc BK144.out 1).trans rfl, (kc BK144.out 2).trans rfl, (kc BK142.out 0).trans rfl, (kc BK142.out 1).trans rfl⟩ (fun hHeld => ?_); refine with_tabW impl_MemoryOk.tab4 impl_MemoryOk.bits4 (fun HT_ HW_ => ?_)
       generalize w38.drew = w39 at BK142 BK144 HB hHeld ⊢
       refine zA 0 (some 13) HT_.out rfl rfl ?_
       refine zA 2 (some 15) HT_.out rfl rfl ?_
       refine zT 1 (some 14) HT_.out HW_.out rfl rfl hHeld ?_
       refine zT 3 (some 16) HT_.out HW_.out rfl rfl hHeld ?_
       refine zA 4 (some 17) HT_.out rfl rfl ?_
       refine zA 5 (some 18) HT_.out rfl rfl ?_
       refine zA 6 (some 19) HT_.out rfl rfl ?_
       refine zO 7 (some 20) HT_.out rfl rfl (fun K hK => ?_)
       refine goes_ Try.func37 (by kernel_rfl) rfl #[.int .i64 ((rd_T49 l0_1 x8_1).f0), .int .i64 0, .int .i64 (wrap64 ((wrap64 ((a0_0.size : Int) / 16)) - 1))] (by rfl) rfl rfl (by (try simp only [List.map_toArray, List.map_cons, List.map_nil]); first | done | rfl | (simp only [List.length_drop, List.length_take]; rfl)) ?_
       with_reducible refine (impl_within.calls ((rd_T49 l0_1 x8_1).f0) 0 (wrap64 ((wrap64 ((a0_0.size : Int) / 16)) - 1)) false _ A7.out).mono ?_
       rintro e w' ⟨rfl, ⟨nd, rfl⟩⟩
       refine ⟨_, rfl, ?_⟩
       refine hK.out _ _ ⟨(kc BK144.out 0).trans rfl, (kc BK144.out 1).trans rfl, (kc BK144.out 2).trans rfl, (kc BK142.out 0).trans rfl, (kc BK142.out 1).trans rfl⟩ (fun hHeld => ?_)
       clear hK K
       refine zN (some 20) ?_
       refine zA 8 (some 21) HT_.out rfl rfl ?_
       refine zA 9 (some 22) HT_.out rfl rfl ?_
       refine zI 10 (some 23) HT_.out rfl rfl ?_
       refine zI 11 (some 24) HT_.out rfl rfl ?_
       refine zI 12 (some 25) HT_.out rfl rfl ?_
       refine zI 13 (some 26) HT_.out rfl rfl ?_
       refine zA 14 (some 27) HT_.out rfl rfl ?_
       refine zA 15 (some 28) HT_.out rfl rfl ?_
       refine zI 16 (some 29) HT_.out rfl rfl ?_
       refine zI 17 (some 30) HT_.out rfl rfl ?_
       refine zI 18 (some 31) HT_.out rfl rfl ?_
       refine zI 19 (some 32) HT_.out rfl rfl ?_
       refine zI 20 (some 33) HT_.out rfl rfl ?_
       refine zI 21 (some 34) HT_.out rfl rfl ?_
       refine zI 22 (some 35) HT_.out rfl rfl ?_
       refine zI 23 (some 36) HT_.out rfl rfl ?_
       refine zI 24 (some 37) HT_.out rfl rfl ?_
       refine zI 25 (some 38) HT_.out rfl rfl ?_
       refine zI 26 (some 39) HT_.out rfl rfl ?_
       refine zI 27 (some 40) HT_.out rfl rfl ?_
       refine zI 28 (some 41) HT_.out rfl rfl ?_
       refine zI 29 (some 42) HT_.out rfl rfl ?_
       refine zA 30 (some 43) HT_.out rfl rfl ?_
       refine done_ (done_of HT_.out (by kernel_rfl)) ?_
       try go_wp2
       go_ret
       exact ⟨zR, zG⟩
     ·rw [if_neg c6] at H
      exact absurd H (by simp)
    ·rw [if_neg c5] at H
     exact absurd H (by simp)
   ·rw [if_neg c4] at H
    have c4b0 : decide (x8_1 < (l0_1.length : Int)) = false := decide_eq_false c4
    clear c4
    by_cases c40 : ((a0_0.size : Int) % 16) = 0
    ·rw [if_pos c40] at H
     have c40b0 : (((a0_0.size : Int) % 16) == 0) = true := beq_iff_eq.mpr c40
     try have c40m0 : (Int.tmod (a0_0.size : Int) 16 == 0) = true := by rw [Int.tmod_eq_emod_of_nonneg (Int.natCast_nonneg _)]; exact c40b0
     have c40b1 : (((a0_0.size : Int) % 16) != 0) = false := bne_eq_false_iff_eq.mpr c40
     try have c40m1 : (Int.tmod (a0_0.size : Int) 16 != 0) = false := by rw [Int.tmod_eq_emod_of_nonneg (Int.natCast_nonneg _)]; exact c40b1
     clear c40
     obtain rfl := Option.some.inj H
     obtain ⟨hcz41_0, hcz41_1⟩ := kc2 (w := wr) BK142.out
     have hfz41_0 := kf BK142.out
     go_wp2
     go_ret
     exact ⟨zR, zG⟩
    ·rw [if_neg c40] at H
     have c40b0 : (((a0_0.size : Int) % 16) == 0) = false := beq_eq_false_iff_ne.mpr c40
     try have c40m0 : (Int.tmod (a0_0.size : Int) 16 == 0) = false := by rw [Int.tmod_eq_emod_of_nonneg (Int.natCast_nonneg _)]; exact c40b0
     have c40b1 : (((a0_0.size : Int) % 16) != 0) = true := bne_iff_ne.mpr c40
     try have c40m1 : (Int.tmod (a0_0.size : Int) 16 != 0) = true := by rw [Int.tmod_eq_emod_of_nonneg (Int.natCast_nonneg _)]; exact c40b1
     obtain rfl := Option.some.inj H
     obtain ⟨hcz42_0, hcz42_1⟩ := kc2 (w := wr) BK142.out
     have hfz42_0 := kf BK142.out
     go_wp2
     go_ret
     exact ⟨zR, zG⟩

end Go.Proofs.Ytnmkcognggeioaa.QFnUnsure
