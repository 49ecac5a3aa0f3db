/- Go functions as Lean functions, and their contracts. Own text: written by wip/gen/pr.py (a turned copy of the print). -/
import Derived.Test.YtnmkcognggeioaaQFnUnsurex0
import Derived.Test.YtnmkcognggeioaaQFnUnsurex2
import Derived.Test.YtnmkcognggeioaaQFnUnsurex8
namespace Go.Proofs.Ytnmkcognggeioaa.QFnUnsure
open Go.RowKit Go.Proofs.YtnmkcognggeioaaW.PrintWords Go.Proofs.YtnmkcognggeioaaW.PrintLast Go.Proofs.YtnmkcognggeioaaW.PrintMore
attribute [local go_sem] max2_int min2_int max_two min_two max_three min_three max_four min_four   -- for this text's walks alone
open Go.Proofs.YtnmkcognggeioaaW.PrintWords renaming below_alloc → ba, pw_below_drewN → bn, below_drew1 → be, below_set → bs, blk_drewN → kn, blk_drew → ke, blk_alloc → ka, blk_below → kb, blk_frozen → kf, blk_cell → kc, below_step → bq, below_size → bz
open Go.Proofs.YtnmkcognggeioaaW.PrintWords.Kd renaming C_alloc → ca, C_drewN → cn, C_drew → ce, C_below → cb
open Go.Proofs.YtnmkcognggeioaaW.PrintWords.Aside0 renaming mk → Am
set_option linter.unusedVariables false
set_option linter.unusedSimpArgs false

theorem cl9 {w w2 : World} {a : Addr} {v : Value} (h : Aside0 (Below w.heap.size w w2)) (e : w.cell? a = some v) : w2.cell? a = some v := (h.out.cell (World.block_lt_of_cell? w _ e)).trans e
def o9b0 (p0 : ByteArray) (p1 : Option Addr) (p2 p3 : Nat) : Obj := .cells #[.string p0, .slice p1 p2 p3] 28 (0, 0)
/-! ### spec_l10Line: function 52 -/
def spec_l10Line.f (k : Nat) (a0_0 : ByteArray) (l0_1 : List (S49)) (a1 : Int) : Option (ByteArray) := (spec_l10Cell.f k a0_0 l0_1 a1).bind fun t209 => (if t209 ≥ 0 then (if 0 ≤ t209 then (if t209 < (l0_1.length : Int) then (some ((rd_T49 l0_1 t209).f1)) else (none)) else (none)) else ((spec_l10Size.f).bind fun t211 => ((spec_l10Size.f).bind fun t212 => (if 0 ≤ (wrap64 (a1 * t211)) then (if (wrap64 (a1 * t211)) ≤ (wrap64 ((wrap64 (a1 + 1)) * t212)) then (if (wrap64 ((wrap64 (a1 + 1)) * t212)) ≤ (a0_0.size : Int) then (some (a0_0.extract ((wrap64 (a1 * t211)) : Int).toNat ((wrap64 ((wrap64 (a1 + 1)) * t212)) : Int).toNat)) else (none)) else (none)) else (none)))))
theorem spec_l10Line.mono : ∀ a0 a1 a2 k, LeO (spec_l10Line.f k a0 a1 a2) (spec_l10Line.f (k + 1) a0 a1 a2) := by
 intro a0 a1 a2 k
 unfold spec_l10Line.f
 repeat' first
   | (with_reducible exact spec_l10Cell.mono _ _ _ _)
   | (with_reducible exact LeO.refl _)
   | (with_reducible exact LeO.none _)
   | (with_reducible refine LeO.ite ?_ ?_)
   | (with_reducible refine LeO.bind ?_ (fun _ => ?_))
   | exact spec_l10Cell.mono _ _ _ _
   | exact LeO.none _
   | refine LeO.ite ?_ ?_
   | refine LeO.bind ?_ (fun _ => ?_)
set_option maxHeartbeats 8000000 in
set_option maxRecDepth 100000 in
theorem spec_l10Line.calls (k : Nat) (a0_0 : ByteArray) (A0_1 : Option Addr) (c0_1 : Nat) (l0_1 : List (S49)) (a1 : Int) (r : ByteArray) (w : World) (hr0_1 : Kd.C k49 w A0_1 l0_1.length l0_1) (hc0_1 : l0_1.length ≤ c0_1) (h : spec_l10Line.f k a0_0 l0_1 a1 = some r) :
  Calls Try.prog 52 #[.agg #[.string a0_0, .slice A0_1 l0_1.length c0_1], .int .i64 a1] w fun e w' => e = .returned (.string r) ∧ Below w.heap.size w w' := by
 have hu28 := Try.underlying28
 have HR0_1 := Am hr0_1
 have HC0_1 := Am hc0_1
 clear hr0_1 hc0_1
 have HB := Am (Below.refl w.heap.size w)
 have H : ((spec_l10Cell.f k a0_0 l0_1 a1).bind fun t209 => (if t209 ≥ 0 then (if 0 ≤ t209 then (if t209 < (l0_1.length : Int) then (some ((rd_T49 l0_1 t209).f1)) else (none)) else (none)) else ((spec_l10Size.f).bind fun t211 => ((spec_l10Size.f).bind fun t212 => (if 0 ≤ (wrap64 (a1 * t211)) then (if (wrap64 (a1 * t211)) ≤ (wrap64 ((wrap64 (a1 + 1)) * t212)) then (if (wrap64 ((wrap64 (a1 + 1)) * t212)) ≤ (a0_0.size : Int) then (some (a0_0.extract ((wrap64 (a1 * t211)) : Int).toNat ((wrap64 ((wrap64 (a1 + 1)) * t212)) : Int).toNat)) else (none)) else (none)) else (none)))))) = some r := h
 clear h
 replace H := Option.bind_eq_some_iff.mp H
 obtain ⟨t209, A30, H⟩ := H
 replace H : (if t209 ≥ 0 then (if 0 ≤ t209 then (if t209 < (l0_1.length : Int) then (some ((rd_T49 l0_1 t209).f1)) else (none)) else (none)) else ((spec_l10Size.f).bind fun t211 => ((spec_l10Size.f).bind fun t212 => (if 0 ≤ (wrap64 (a1 * t211)) then (if (wrap64 (a1 * t211)) ≤ (wrap64 ((wrap64 (a1 + 1)) * t212)) then (if (wrap64 ((wrap64 (a1 + 1)) * t212)) ≤ (a0_0.size : Int) then (some (a0_0.extract ((wrap64 (a1 * t211)) : Int).toNat ((wrap64 ((wrap64 (a1 + 1)) * t212)) : Int).toNat)) else (none)) else (none)) else (none))))) = some r := H
 have A3 := Am A30
 clear A30
 by_cases c4 : t209 ≥ 0
 ·rw [if_pos c4] at H
  have c4b0 : decide (0 ≤ t209) = true := decide_eq_true c4
  clear c4
  by_cases c5 : 0 ≤ t209
  ·rw [if_pos c5] at H
   have c5b0 : decide (0 ≤ t209) = true := decide_eq_true c5
   clear c5
   by_cases c6 : t209 < (l0_1.length : Int)
   ·rw [if_pos c6] at H
    have c6b0 : decide (t209 < (l0_1.length : Int)) = true := decide_eq_true c6
    clear c6
    obtain rfl := Option.some.inj H
    go_enter Try.func52, Try.ntmps52
    go_wp2_with (first | ((with_reducible refine gate_dst (N := 2) rfl ?_); refine box_event ?hg (N := 2) ?hd (cs := #[.string a0_0, .slice A0_1 l0_1.length c0_1]) (t := 28) ?hr ?_; (case hd => rfl); (case hg => rfl); (case hr => first | (go_simp; done) | (go_simp; rfl)); intro gb208 hg w7 hbox hb; have BK208 := Am (hbox); have GW208 := Am ((by rw [hg]; exact (bz zB) : w.heap.size ≤ gb208)); have GE208 := Am ((by rw [hg]; exact (bz zB) : w.heap.size ≤ gb208)); replace HB := Am (bq zB hb); clear hb hbox hg; obtain ⟨hcz8_0, hcz8_1⟩ := kc2 (w := w7) BK208.out; have hfz8_0 := kf BK208.out) | (go_at_call 65; (with_reducible refine (spec_l10Cell.calls k a0_0 _ _ l0_1 a1 t209 _ ?side1 ?side2 A3.out).mono ?_); (case side1 => repeat (first | exact (cb HR0_1.out HB.out) | (with_reducible first | refine ca ?_ _ | refine cn ?_ _ | refine ce ?_))); (case side2 => exact HC0_1.out); rintro e w9 ⟨rfl, hb⟩; have n0_ := Am (zK BK208 hb); have n1_ := Am (bq zG hb); clear BK208; clear HB; have BK208 := n0_; have HB := n1_; clear n0_ n1_; (try clear hb); obtain ⟨hcz10_0, hcz10_1⟩ := kc2 (w := w9) BK208.out; have hfz10_0 := kf BK208.out; have p210 : 0 ≤ (t209 : Int) := of_decide_eq_true (by first | (with_reducible assumption) | assumption); have q210 : t209 < (l0_1.length : Int) := of_decide_eq_true (by first | (with_reducible assumption) | assumption); obtain ⟨ad210, e210, hx210_0, hx210_1, hx210_2⟩ := at_T49 HR0_1.out t209 p210 q210; cases e210; replace hx210_0 := cl9 HB hx210_0; replace hx210_1 := cl9 HB hx210_1; replace hx210_2 := cl9 HB hx210_2; replace p210 := eq_true p210; replace q210 := eq_true q210))
    repeat (go_quiet (first | ((with_reducible refine gate_dst (N := 2) rfl ?_); refine box_event ?hg (N := 2) ?hd (cs := #[.string a0_0, .slice A0_1 l0_1.length c0_1]) (t := 28) ?hr ?_; (case hd => rfl); (case hg => rfl); (case hr => first | (go_simp; done) | (go_simp; rfl)); intro gb208 hg w7 hbox hb; have BK208 := Am (hbox); have GW208 := Am ((by rw [hg]; exact (bz zB) : w.heap.size ≤ gb208)); have GE208 := Am ((by rw [hg]; exact (bz zB) : w.heap.size ≤ gb208)); replace HB := Am (bq zB hb); clear hb hbox hg; obtain ⟨hcz8_0, hcz8_1⟩ := kc2 (w := w7) BK208.out; have hfz8_0 := kf BK208.out) | (go_at_call 65; (with_reducible refine (spec_l10Cell.calls k a0_0 _ _ l0_1 a1 t209 _ ?side1 ?side2 A3.out).mono ?_); (case side1 => repeat (first | exact (cb HR0_1.out HB.out) | (with_reducible first | refine ca ?_ _ | refine cn ?_ _ | refine ce ?_))); (case side2 => exact HC0_1.out); rintro e w9 ⟨rfl, hb⟩; have n0_ := Am (zK BK208 hb); have n1_ := Am (bq zG hb); clear BK208; clear HB; have BK208 := n0_; have HB := n1_; clear n0_ n1_; (try clear hb); obtain ⟨hcz10_0, hcz10_1⟩ := kc2 (w := w9) BK208.out; have hfz10_0 := kf BK208.out; have p210 : 0 ≤ (t209 : Int) := of_decide_eq_true (by first | (with_reducible assumption) | assumption); have q210 : t209 < (l0_1.length : Int) := of_decide_eq_true (by first | (with_reducible assumption) | assumption); obtain ⟨ad210, e210, hx210_0, hx210_1, hx210_2⟩ := at_T49 HR0_1.out t209 p210 q210; cases e210; replace hx210_0 := cl9 HB hx210_0; replace hx210_1 := cl9 HB hx210_1; replace hx210_2 := cl9 HB hx210_2; replace p210 := eq_true p210; replace q210 := eq_true q210)); try go_wp2_with (first | ((with_reducible refine gate_dst (N := 2) rfl ?_); refine box_event ?hg (N := 2) ?hd (cs := #[.string a0_0, .slice A0_1 l0_1.length c0_1]) (t := 28) ?hr ?_; (case hd => rfl); (case hg => rfl); (case hr => first | (go_simp; done) | (go_simp; rfl)); intro gb208 hg w7 hbox hb; have BK208 := Am (hbox); have GW208 := Am ((by rw [hg]; exact (bz zB) : w.heap.size ≤ gb208)); have GE208 := Am ((by rw [hg]; exact (bz zB) : w.heap.size ≤ gb208)); replace HB := Am (bq zB hb); clear hb hbox hg; obtain ⟨hcz8_0, hcz8_1⟩ := kc2 (w := w7) BK208.out; have hfz8_0 := kf BK208.out) | (go_at_call 65; (with_reducible refine (spec_l10Cell.calls k a0_0 _ _ l0_1 a1 t209 _ ?side1 ?side2 A3.out).mono ?_); (case side1 => repeat (first | exact (cb HR0_1.out HB.out) | (with_reducible first | refine ca ?_ _ | refine cn ?_ _ | refine ce ?_))); (case side2 => exact HC0_1.out); rintro e w9 ⟨rfl, hb⟩; have n0_ := Am (zK BK208 hb); have n1_ := Am (bq zG hb); clear BK208; clear HB; have BK208 := n0_; have HB := n1_; clear n0_ n1_; (try clear hb); obtain ⟨hcz10_0, hcz10_1⟩ := kc2 (w := w9) BK208.out; have hfz10_0 := kf BK208.out; have p210 : 0 ≤ (t209 : Int) := of_decide_eq_true (by first | (with_reducible assumption) | assumption); have q210 : t209 < (l0_1.length : Int) := of_decide_eq_true (by first | (with_reducible assumption) | assumption); obtain ⟨ad210, e210, hx210_0, hx210_1, hx210_2⟩ := at_T49 HR0_1.out t209 p210 q210; cases e210; replace hx210_0 := cl9 HB hx210_0; replace hx210_1 := cl9 HB hx210_1; replace hx210_2 := cl9 HB hx210_2; replace p210 := eq_true p210; replace q210 := eq_true q210)))
    go_ret
    exact ⟨zR, zG⟩
   ·rw [if_neg c6] at H
    exact absurd H (by simp)
  ·rw [if_neg c5] at H
   exact absurd H (by simp)
 ·rw [if_neg c4] at H
  have c4b0 : decide (0 ≤ t209) = false := decide_eq_false c4
  clear c4
  replace H := Option.bind_eq_some_iff.mp H
  obtain ⟨t211, A110, H⟩ := H
  obtain rfl : (16 : Int) = t211 := Option.some.inj (show some (16 : Int) = some t211 from A110)
  replace H : ((spec_l10Size.f).bind fun t212 => (if 0 ≤ (wrap64 (a1 * (16 : Int))) then (if (wrap64 (a1 * (16 : Int))) ≤ (wrap64 ((wrap64 (a1 + 1)) * t212)) then (if (wrap64 ((wrap64 (a1 + 1)) * t212)) ≤ (a0_0.size : Int) then (some (a0_0.extract ((wrap64 (a1 * (16 : Int))) : Int).toNat ((wrap64 ((wrap64 (a1 + 1)) * t212)) : Int).toNat)) else (none)) else (none)) else (none))) = some r := H
  have A11 := Am A110
  clear A110
  replace H := Option.bind_eq_some_iff.mp H
  obtain ⟨t212, A120, H⟩ := H
  obtain rfl : (16 : Int) = t212 := Option.some.inj (show some (16 : Int) = some t212 from A120)
  replace H : (if 0 ≤ (wrap64 (a1 * (16 : Int))) then (if (wrap64 (a1 * (16 : Int))) ≤ (wrap64 ((wrap64 (a1 + 1)) * (16 : Int))) then (if (wrap64 ((wrap64 (a1 + 1)) * (16 : Int))) ≤ (a0_0.size : Int) then (some (a0_0.extract ((wrap64 (a1 * (16 : Int))) : Int).toNat ((wrap64 ((wrap64 (a1 + 1)) * (16 : Int))) : Int).toNat)) else (none)) else (none)) else (none)) = some r := H
  have A12 := Am A120
  clear A120
  obtain ⟨ji13, hji13⟩ : ∃ j_ : Int, (wrap64 (a1 * (16 : Int))) = j_ := ⟨_, rfl⟩
  replace H : (if 0 ≤ (ji13) then (if (ji13) ≤ (wrap64 ((wrap64 (a1 + 1)) * (16 : Int))) then (if (wrap64 ((wrap64 (a1 + 1)) * (16 : Int))) ≤ (a0_0.size : Int) then (some (a0_0.extract ((ji13) : Int).toNat ((wrap64 ((wrap64 (a1 + 1)) * (16 : Int))) : Int).toNat)) else (none)) else (none)) else (none)) = some r := by first | (rw [hji13] at H; exact H) | (simp only [hji13] at H ⊢; exact H)
  (try rw [hji13] at A3)
  (try rw [hji13] at A11)
  (try rw [hji13] at A12)
  have hji13w : (IntKind.i64.wrap (a1 * (16 : Int))) = ji13 := (i64_w _).trans hji13
  by_cases c14 : 0 ≤ (ji13)
  ·rw [if_pos c14] at H
   have c14b0 := eq_true c14
   have c14b1 : decide (0 ≤ (ji13)) = true := decide_eq_true c14
   clear c14
   by_cases c15 : (ji13) ≤ (wrap64 ((wrap64 (a1 + 1)) * (16 : Int)))
   ·rw [if_pos c15] at H
    have c15b0 := eq_true c15
    have c15b1 : decide ((ji13) ≤ (wrap64 ((wrap64 (a1 + 1)) * (16 : Int)))) = true := decide_eq_true c15
    by_cases c16 : (wrap64 ((wrap64 (a1 + 1)) * (16 : Int))) ≤ (a0_0.size : Int)
    ·rw [if_pos c16] at H
     have c16b0 := eq_true c16
     have c16b1 : decide ((wrap64 ((wrap64 (a1 + 1)) * (16 : Int))) ≤ (a0_0.size : Int)) = true := decide_eq_true c16
     obtain rfl := Option.some.inj H
     go_enter Try.func52, Try.ntmps52
     go_wp2_with (first | ((with_reducible refine gate_dst (N := 2) rfl ?_); refine box_event ?hg (N := 2) ?hd (cs := #[.string a0_0, .slice A0_1 l0_1.length c0_1]) (t := 28) ?hr ?_; (case hd => rfl); (case hg => rfl); (case hr => first | (go_simp; done) | (go_simp; rfl)); intro gb208 hg w17 hbox hb; have BK208 := Am (hbox); have GW208 := Am ((by rw [hg]; exact (bz zB) : w.heap.size ≤ gb208)); have GE208 := Am ((by rw [hg]; exact (bz zB) : w.heap.size ≤ gb208)); replace HB := Am (bq zB hb); clear hb hbox hg; obtain ⟨hcz18_0, hcz18_1⟩ := kc2 (w := w17) BK208.out; have hfz18_0 := kf BK208.out) | (go_at_call 65; (with_reducible refine (spec_l10Cell.calls k a0_0 _ _ l0_1 a1 t209 _ ?side1 ?side2 A3.out).mono ?_); (case side1 => repeat (first | exact (cb HR0_1.out HB.out) | (with_reducible first | refine ca ?_ _ | refine cn ?_ _ | refine ce ?_))); (case side2 => exact HC0_1.out); rintro e w19 ⟨rfl, hb⟩; have n0_ := Am (zK BK208 hb); have n1_ := Am (bq zG hb); clear BK208; clear HB; have BK208 := n0_; have HB := n1_; clear n0_ n1_; (try clear hb); obtain ⟨hcz20_0, hcz20_1⟩ := kc2 (w := w19) BK208.out; have hfz20_0 := kf BK208.out) | (go_at_call 35; (with_reducible refine (spec_l10Size.calls  (16 : Int) _ A11.out).mono ?_); rintro e w' ⟨rfl, ⟨nd, rfl⟩⟩; (try first | exact ⟨rfl, _, World.drewN_drewN _ _ _⟩ | exact ⟨rfl, _, Eq.trans (World.drewN_drewN _ _ _) (congrArg (World.drewN _) (Nat.add_assoc _ _ _))⟩)) | (go_at_call 35; (with_reducible refine (spec_l10Size.calls  (16 : Int) _ A12.out).mono ?_); rintro e w' ⟨rfl, ⟨nd, rfl⟩⟩; (try first | exact ⟨rfl, _, World.drewN_drewN _ _ _⟩ | exact ⟨rfl, _, Eq.trans (World.drewN_drewN _ _ _) (congrArg (World.drewN _) (Nat.add_assoc _ _ _))⟩)))
     repeat (go_quiet (first | ((with_reducible refine gate_dst (N := 2) rfl ?_); refine box_event ?hg (N := 2) ?hd (cs := #[.string a0_0, .slice A0_1 l0_1.length c0_1]) (t := 28) ?hr ?_; (case hd => rfl); (case hg => rfl); (case hr => first | (go_simp; done) | (go_simp; rfl)); intro gb208 hg w17 hbox hb; have BK208 := Am (hbox); have GW208 := Am ((by rw [hg]; exact (bz zB) : w.heap.size ≤ gb208)); have GE208 := Am ((by rw [hg]; exact (bz zB) : w.heap.size ≤ gb208)); replace HB := Am (bq zB hb); clear hb hbox hg; obtain ⟨hcz18_0, hcz18_1⟩ := kc2 (w := w17) BK208.out; have hfz18_0 := kf BK208.out) | (go_at_call 65; (with_reducible refine (spec_l10Cell.calls k a0_0 _ _ l0_1 a1 t209 _ ?side1 ?side2 A3.out).mono ?_); (case side1 => repeat (first | exact (cb HR0_1.out HB.out) | (with_reducible first | refine ca ?_ _ | refine cn ?_ _ | refine ce ?_))); (case side2 => exact HC0_1.out); rintro e w19 ⟨rfl, hb⟩; have n0_ := Am (zK BK208 hb); have n1_ := Am (bq zG hb); clear BK208; clear HB; have BK208 := n0_; have HB := n1_; clear n0_ n1_; (try clear hb); obtain ⟨hcz20_0, hcz20_1⟩ := kc2 (w := w19) BK208.out; have hfz20_0 := kf BK208.out) | (go_at_call 35; (with_reducible refine (spec_l10Size.calls  (16 : Int) _ A11.out).mono ?_); rintro e w' ⟨rfl, ⟨nd, rfl⟩⟩; (try first | exact ⟨rfl, _, World.drewN_drewN _ _ _⟩ | exact ⟨rfl, _, Eq.trans (World.drewN_drewN _ _ _) (congrArg (World.drewN _) (Nat.add_assoc _ _ _))⟩)) | (go_at_call 35; (with_reducible refine (spec_l10Size.calls  (16 : Int) _ A12.out).mono ?_); rintro e w' ⟨rfl, ⟨nd, rfl⟩⟩; (try first | exact ⟨rfl, _, World.drewN_drewN _ _ _⟩ | exact ⟨rfl, _, Eq.trans (World.drewN_drewN _ _ _) (congrArg (World.drewN _) (Nat.add_assoc _ _ _))⟩))); try go_wp2_with (first | ((with_reducible refine gate_dst (N := 2) rfl ?_); refine box_event ?hg (N := 2) ?hd (cs := #[.string a0_0, .slice A0_1 l0_1.length c0_1]) (t := 28) ?hr ?_; (case hd => rfl); (case hg => rfl); (case hr => first | (go_simp; done) | (go_simp; rfl)); intro gb208 hg w17 hbox hb; have BK208 := Am (hbox); have GW208 := Am ((by rw [hg]; exact (bz zB) : w.heap.size ≤ gb208)); have GE208 := Am ((by rw [hg]; exact (bz zB) : w.heap.size ≤ gb208)); replace HB := Am (bq zB hb); clear hb hbox hg; obtain ⟨hcz18_0, hcz18_1⟩ := kc2 (w := w17) BK208.out; have hfz18_0 := kf BK208.out) | (go_at_call 65; (with_reducible refine (spec_l10Cell.calls k a0_0 _ _ l0_1 a1 t209 _ ?side1 ?side2 A3.out).mono ?_); (case side1 => repeat (first | exact (cb HR0_1.out HB.out) | (with_reducible first | refine ca ?_ _ | refine cn ?_ _ | refine ce ?_))); (case side2 => exact HC0_1.out); rintro e w19 ⟨rfl, hb⟩; have n0_ := Am (zK BK208 hb); have n1_ := Am (bq zG hb); clear BK208; clear HB; have BK208 := n0_; have HB := n1_; clear n0_ n1_; (try clear hb); obtain ⟨hcz20_0, hcz20_1⟩ := kc2 (w := w19) BK208.out; have hfz20_0 := kf BK208.out) | (go_at_call 35; (with_reducible refine (spec_l10Size.calls  (16 : Int) _ A11.out).mono ?_); rintro e w' ⟨rfl, ⟨nd, rfl⟩⟩; (try first | exact ⟨rfl, _, World.drewN_drewN _ _ _⟩ | exact ⟨rfl, _, Eq.trans (World.drewN_drewN _ _ _) (congrArg (World.drewN _) (Nat.add_assoc _ _ _))⟩)) | (go_at_call 35; (with_reducible refine (spec_l10Size.calls  (16 : Int) _ A12.out).mono ?_); rintro e w' ⟨rfl, ⟨nd, rfl⟩⟩; (try first | exact ⟨rfl, _, World.drewN_drewN _ _ _⟩ | exact ⟨rfl, _, Eq.trans (World.drewN_drewN _ _ _) (congrArg (World.drewN _) (Nat.add_assoc _ _ _))⟩))))
     go_ret
     exact ⟨by first | rfl | (simp [errW_none, errW_some] <;> rfl) | (simp only [← hji13]; first | rfl | (simp [errW_none, errW_some] <;> rfl)) | (simp [*, errW_none, errW_some] <;> rfl), zG⟩
    ·rw [if_neg c16] at H
     exact absurd H (by simp)
   ·rw [if_neg c15] at H
    exact absurd H (by simp)
  ·rw [if_neg c14] at H
   exact absurd H (by simp)

end Go.Proofs.Ytnmkcognggeioaa.QFnUnsure
