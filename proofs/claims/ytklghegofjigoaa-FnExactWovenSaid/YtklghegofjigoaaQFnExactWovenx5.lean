/- Go functions as Lean functions, and their contracts. Own text: written by wip/gen/pr.py (a turned copy of the print). -/
import Derived.Test.YtklghegofjigoaaQFnExactWovenx0
namespace Go.Proofs.Ytklghegofjigoaa.QFnExactWoven
open Go.RowKit Go.Proofs.YtklghegofjigoaaW.PrintWords Go.Proofs.YtklghegofjigoaaW.PrintLast Go.Proofs.YtklghegofjigoaaW.PrintMore
attribute [local go_sem] max2_int min2_int max_two min_two max_three min_three max_four min_four   -- for this text's walks alone
open Go.Proofs.YtklghegofjigoaaW.PrintWords renaming below_alloc → ba, pw_below_drewN → bn, below_drew1 → be, below_set → bs, below_step → bt, below_size → bz
open Go.Proofs.YtklghegofjigoaaW.PrintWords.Kd renaming R_alloc → ra, R_drewN → rn, R_drew → re
open Go.Proofs.YtklghegofjigoaaW.PrintWords.Aside0 renaming mk → Am
set_option linter.unusedVariables false
set_option linter.unusedSimpArgs false

/-! ### laws_eqIntS: function 41 -/
theorem cl5 {w w2 : World} {a : Addr} {v : Value} (h : Aside0 (Below w.heap.size w w2)) (e : w.cell? a = some v) : w2.cell? a = some v := (h.out.cell (World.block_lt_of_cell? w _ e)).trans e
def laws_eqIntS.l0 : Nat → List Int → List Int → Int → Option (Bool)
 | 0, _, _, _ => none
 | k + 1, x0, x1, x5 => if x5 < (x0.length : Int) then (if 0 ≤ x5 then (if x5 < (x1.length : Int) then (if (rd x0 x5) = (rd x1 x5) then (laws_eqIntS.l0 k x0 x1 (wrap64 (x5 + 1))) else (some false)) else (none)) else (none)) else (some true)
def laws_eqIntS.f (k : Nat) (l0 : List Int) (l1 : List Int) : Option (Bool) := if (l0.length : Int) = (l1.length : Int) then (laws_eqIntS.l0 k l0 l1 0) else (some false)
theorem laws_eqIntS.mono_l : ∀ k, (∀ y0 y1 y2, LeO (laws_eqIntS.l0 k y0 y1 y2) (laws_eqIntS.l0 (k + 1) y0 y1 y2))
 | 0 => fun _ _ _ r h => by simp [laws_eqIntS.l0] at h
 | k + 1 => by
  have ih0 := laws_eqIntS.mono_l k
  ·intro y0 y1 y2
   unfold laws_eqIntS.l0
   repeat' first
   | (with_reducible exact ih0 _ _ _)
   | (with_reducible exact LeO.refl _)
   | (with_reducible exact LeO.none _)
   | (with_reducible refine LeO.ite ?_ ?_)
   | (with_reducible refine LeO.bind ?_ (fun _ => ?_))
   | exact ih0 _ _ _
   | exact LeO.none _
   | refine LeO.ite ?_ ?_
   | refine LeO.bind ?_ (fun _ => ?_)
theorem laws_eqIntS.mono : ∀ a0 a1 k, LeO (laws_eqIntS.f k a0 a1) (laws_eqIntS.f (k + 1) a0 a1) := by
 intro a0 a1 k
 have ih0 := laws_eqIntS.mono_l k
 unfold laws_eqIntS.f
 repeat' first
   | (with_reducible exact ih0 _ _ _)
   | (with_reducible exact LeO.refl _)
   | (with_reducible exact LeO.none _)
   | (with_reducible refine LeO.ite ?_ ?_)
   | (with_reducible refine LeO.bind ?_ (fun _ => ?_))
   | exact ih0 _ _ _
   | exact LeO.none _
   | refine LeO.ite ?_ ?_
   | refine LeO.bind ?_ (fun _ => ?_)
set_option maxHeartbeats 8000000 in
set_option maxRecDepth 100000 in
theorem laws_eqIntS.calls (k : Nat) (A0 : Option Addr) (c0 : Nat) (l0 : List Int) (A1 : Option Addr) (c1 : Nat) (l1 : List Int) (r : Bool) (w : World) (hr0 : Kd.C (Kd.int .i64) w A0 l0.length l0) (hc0 : l0.length ≤ c0) (hr1 : Kd.C (Kd.int .i64) w A1 l1.length l1) (hc1 : l1.length ≤ c1) (h : laws_eqIntS.f k l0 l1 = some r) :
  Calls Try.prog 41 #[.slice A0 l0.length c0, .slice A1 l1.length c1] w fun e w' => e = .returned (.bool r) ∧ Drawn0 w w' := by
 have HR0 := Am hr0
 have HC0 := Am hc0
 clear hr0 hc0
 have HR1 := Am hr1
 have HC1 := Am hc1
 clear hr1 hc1
 have H : (if (l0.length : Int) = (l1.length : Int) then (laws_eqIntS.l0 k l0 l1 0) else (some false)) = some r := h
 clear h
 by_cases c3 : (l0.length : Int) = (l1.length : Int)
 ·rw [if_pos c3] at H
  have c3b0 : ((l0.length : Int) == (l1.length : Int)) = true := beq_iff_eq.mpr c3
  have c3b1 : ((l0.length : Int) != (l1.length : Int)) = false := bne_eq_false_iff_eq.mpr c3
  have c3b2 : (l0.length == l1.length) = true := by first | simpa using c3 | (simp at c3 ⊢; omega)
  clear c3
  have H' := Am H
  clear H
  go_enter Try.func41, Try.ntmps41
  go_wp2
  repeat (go_quiet (fail); try go_wp2)
  go_loopg [5] k (fun kq v5 w' => ∃ (x5_1 : Int), v5 = .int .i64 x5_1 ∧ Aside0 (laws_eqIntS.l0 kq l0 l1 x5_1 = some r) ∧ Aside0 (kq ≤ k) ∧ Drawn0 w w')
  case atStart => exact ⟨(0), (by first | rfl | (simp; done) | (simp [*]; done)), H', ⟨Nat.le_refl _⟩, by repeat (first | exact Drawn0.refl _ | apply Drawn0.step)⟩
  case round =>
   clear H'
   try clear c1
   try clear p2
   try clear c3
   try clear c3b0
   try clear c3b1
   try clear c3b2
   obtain ⟨x5_1, rfl, HA, HK1, ⟨m1, rfl⟩⟩ := hrel
   cases gk with
   | zero => exact absurd HA.out (by simp [laws_eqIntS.l0])
   | succ k1 =>
    have H := HA.out
    clear HA
    simp only [laws_eqIntS.l0] at H
    by_cases c4 : x5_1 < (l0.length : Int)
    ·rw [if_pos c4] at H
     have c4b0 : decide (x5_1 < (l0.length : Int)) = true := decide_eq_true c4
     clear c4
     by_cases c5 : 0 ≤ x5_1
     ·rw [if_pos c5] at H
      have c5b0 : decide (0 ≤ x5_1) = true := decide_eq_true c5
      clear c5
      by_cases c6 : x5_1 < (l1.length : Int)
      ·rw [if_pos c6] at H
       have c6b0 : decide (x5_1 < (l1.length : Int)) = true := decide_eq_true c6
       clear c6
       by_cases c7 : (rd l0 x5_1) = (rd l1 x5_1)
       ·rw [if_pos c7] at H
        have c7b0 : ((rd l0 x5_1) == (rd l1 x5_1)) = true := beq_iff_eq.mpr c7
        have c7b1 : ((rd l0 x5_1) != (rd l1 x5_1)) = false := bne_eq_false_iff_eq.mpr c7
        clear c7
        have H' := Am H
        clear H
        have p225 : 0 ≤ (x5_1 : Int) := of_decide_eq_true (by assumption)
        have q225 : x5_1 < (l0.length : Int) := of_decide_eq_true (by assumption)
        obtain ⟨ad225, e225, hx225_0⟩ := Kd.at_int HR0.out x5_1 p225 q225
        cases e225
        replace p225 := eq_true p225
        replace q225 := eq_true q225
        have p226 : 0 ≤ (x5_1 : Int) := of_decide_eq_true (by assumption)
        have q226 : x5_1 < (l1.length : Int) := of_decide_eq_true (by assumption)
        obtain ⟨ad226, e226, hx226_0⟩ := Kd.at_int HR1.out x5_1 p226 q226
        cases e226
        replace p226 := eq_true p226
        replace q226 := eq_true q226
        go_wp2
        repeat (go_quiet (fail); try go_wp2)
        go_roundg k1
        case measure => have := HK1.out; omega
        case rel => exact ⟨(wrap64 (x5_1 + 1)), (by first | rfl | (simp; done) | (simp [*]; done)), H', ⟨by have := HK1.out; omega⟩, by repeat (first | exact Drawn0.refl _ | apply Drawn0.step)⟩
       ·rw [if_neg c7] at H
        have c7b0 : ((rd l0 x5_1) == (rd l1 x5_1)) = false := beq_eq_false_iff_ne.mpr c7
        have c7b1 : ((rd l0 x5_1) != (rd l1 x5_1)) = true := bne_iff_ne.mpr c7
        obtain rfl := Option.some.inj H
        have p225 : 0 ≤ (x5_1 : Int) := of_decide_eq_true (by assumption)
        have q225 : x5_1 < (l0.length : Int) := of_decide_eq_true (by assumption)
        obtain ⟨ad225, e225, hx225_0⟩ := Kd.at_int HR0.out x5_1 p225 q225
        cases e225
        replace p225 := eq_true p225
        replace q225 := eq_true q225
        have p226 : 0 ≤ (x5_1 : Int) := of_decide_eq_true (by assumption)
        have q226 : x5_1 < (l1.length : Int) := of_decide_eq_true (by assumption)
        obtain ⟨ad226, e226, hx226_0⟩ := Kd.at_int HR1.out x5_1 p226 q226
        cases e226
        replace p226 := eq_true p226
        replace q226 := eq_true q226
        go_wp2
        repeat (go_quiet (fail); try go_wp2)
        go_ret
        exact ⟨by first | rfl | (simp; done) | (simp [*]; done), by repeat (first | exact Drawn0.refl _ | apply Drawn0.step)⟩
      ·rw [if_neg c6] at H
       exact absurd H (by simp)
     ·rw [if_neg c5] at H
      exact absurd H (by simp)
    ·rw [if_neg c4] at H
     have c4b0 : decide (x5_1 < (l0.length : Int)) = false := decide_eq_false c4
     clear c4
     obtain rfl := Option.some.inj H
     go_wp2
     repeat (go_quiet (fail); try go_wp2)
     go_ret
     exact ⟨by first | rfl | (simp; done) | (simp [*]; done), by repeat (first | exact Drawn0.refl _ | apply Drawn0.step)⟩
 ·rw [if_neg c3] at H
  have c3b0 : ((l0.length : Int) == (l1.length : Int)) = false := beq_eq_false_iff_ne.mpr c3
  have c3b1 : ((l0.length : Int) != (l1.length : Int)) = true := bne_iff_ne.mpr c3
  have c3b2 : (l0.length == l1.length) = false := by first | simpa using c3 | (simp at c3 ⊢; omega)
  obtain rfl := Option.some.inj H
  go_enter Try.func41, Try.ntmps41
  go_wp2
  repeat (go_quiet (fail); try go_wp2)
  go_ret
  exact ⟨by first | rfl | (simp; done) | (simp [*]; done), by repeat (first | exact Drawn0.refl _ | apply Drawn0.step)⟩

/-! ### laws_markIntS: function 44 -/
def laws_markIntS.l0 : Nat → List Int → Int → Int → Option (Int × List Int)
 | 0, _, _, _ => none
 | k + 1, x0, x1, x5 => if x5 < (x0.length : Int) then (if 0 ≤ x5 then (laws_markIntS.l0 k (x0.set (x5 : Int).toNat x1) (wrap64 (x1 + 1)) (wrap64 (x5 + 1))) else (none)) else (some (x1, x0))
def laws_markIntS.f (k : Nat) (l0 : List Int) (a1 : Int) : Option (Int × List Int) := laws_markIntS.l0 k l0 a1 0
theorem laws_markIntS.mono_l : ∀ k, (∀ y0 y1 y2, LeO (laws_markIntS.l0 k y0 y1 y2) (laws_markIntS.l0 (k + 1) y0 y1 y2))
 | 0 => fun _ _ _ r h => by simp [laws_markIntS.l0] at h
 | k + 1 => by
  have ih0 := laws_markIntS.mono_l k
  ·intro y0 y1 y2
   unfold laws_markIntS.l0
   repeat' first
   | (with_reducible exact ih0 _ _ _)
   | (with_reducible exact LeO.refl _)
   | (with_reducible exact LeO.none _)
   | (with_reducible refine LeO.ite ?_ ?_)
   | (with_reducible refine LeO.bind ?_ (fun _ => ?_))
   | exact ih0 _ _ _
   | exact LeO.none _
   | refine LeO.ite ?_ ?_
   | refine LeO.bind ?_ (fun _ => ?_)
theorem laws_markIntS.mono : ∀ a0 a1 k, LeO (laws_markIntS.f k a0 a1) (laws_markIntS.f (k + 1) a0 a1) := by
 intro a0 a1 k
 have ih0 := laws_markIntS.mono_l k
 unfold laws_markIntS.f
 repeat' first
   | (with_reducible exact ih0 _ _ _)
   | (with_reducible exact LeO.refl _)
   | (with_reducible exact LeO.none _)
   | (with_reducible refine LeO.ite ?_ ?_)
   | (with_reducible refine LeO.bind ?_ (fun _ => ?_))
   | exact ih0 _ _ _
   | exact LeO.none _
   | refine LeO.ite ?_ ?_
   | refine LeO.bind ?_ (fun _ => ?_)
set_option maxHeartbeats 8000000 in
set_option maxRecDepth 100000 in
theorem laws_markIntS.calls (k : Nat) (P0_ : Nat → Prop) (u9000_ : Value) (l0 : List Int) (a1 : Int) (r1 : Int) (r2 : List Int) (w0 w : World) (hB : Below w0.heap.size w0 w) (ho0 : Kd.R (Kd.int .i64) 3 w w0.heap.size P0_ u9000_ l0) (h : laws_markIntS.f k l0 a1 = some (r1, r2)) :
  Calls Try.prog 44 #[u9000_, .int .i64 a1] w fun e w' => e = .returned (.int .i64 r1) ∧ Kd.R (Kd.int .i64) 3 w' w0.heap.size (fun k_ => (P0_ k_ ∨ w.heap.size ≤ k_)) u9000_ r2 ∧ Below w0.heap.size w0 w' ∧ Kept w w' (fun k_ => P0_ k_) := by
 have HO0 := Am (show Kd.R (Kd.int .i64) 3 w w0.heap.size (fun k_ => (P0_ k_ ∨ w.heap.size ≤ k_)) u9000_ l0 from Kd.R_mono ho0 (fun k_ hk => (.inl hk)))
 have HK := Am (Kept.refl w (fun k_ => P0_ k_))
 have HW0 := Am hB.size
 have HB := Am hB
 clear hB
 have H : (laws_markIntS.l0 k l0 a1 0) = some (r1, r2) := h
 clear h
 have H' := Am H
 clear H
 go_enter Try.func44, Try.ntmps44
 go_wp2
 go_loopg [1, 5] k (fun kq v1 v5 w' => ∃ (x0_1 : List Int) (x1_1 : Int) (x5_1 : Int), v1 = .int .i64 x1_1 ∧ v5 = .int .i64 x5_1 ∧ Aside0 (laws_markIntS.l0 kq x0_1 x1_1 x5_1 = some (r1, r2)) ∧ Aside0 (kq ≤ k) ∧ Aside0 (Kd.R (Kd.int .i64) 3 w' w0.heap.size (fun k_ => (P0_ k_ ∨ w.heap.size ≤ k_)) u9000_ x0_1) ∧ Aside0 (Kept w w' (fun k_ => P0_ k_)) ∧ Aside0 (Below w0.heap.size w0 w'))
 case atStart => exact ⟨(l0), (a1), (0), (by first | rfl | (simp; done) | (simp [*]; done)), (by first | rfl | (simp; done) | (simp [*]; done)), H', ⟨Nat.le_refl _⟩, ⟨by (with_reducible repeat (first | apply ra | apply rn | apply re)); exact HO0.out⟩, ⟨by repeat (first | (with_reducible first | exact HK.out | apply Kept.alloc | apply Kept.drewN | apply Kept.drew) | exact HK.out)⟩, ⟨by repeat (first | (with_reducible first | apply ba | apply bn | apply be) | exact HB.out)⟩⟩
 case round =>
  clear H'
  try clear p2
  obtain ⟨x0_1, x1_1, x5_1, rfl, rfl, HA, HK1, HO_0, HK, HB⟩ := hrel
  cases gk with
  | zero => exact absurd HA.out (by simp [laws_markIntS.l0])
  | succ k1 =>
   have H := HA.out
   clear HA
   simp only [laws_markIntS.l0] at H
   by_cases c3 : x5_1 < (x0_1.length : Int)
   ·rw [if_pos c3] at H
    have c3b0 : decide (x5_1 < (x0_1.length : Int)) = true := decide_eq_true c3
    clear c3
    by_cases c4 : 0 ≤ x5_1
    ·rw [if_pos c4] at H
     have c4b0 : decide (0 ≤ x5_1) = true := decide_eq_true c4
     clear c4
     obtain ⟨y227, hy227⟩ : ∃ y_ : List Int, y_ = (x0_1.set (x5_1 : Int).toNat x1_1) := ⟨_, rfl⟩
     replace H : (laws_markIntS.l0 k1 y227 (wrap64 (x1_1 + 1)) (wrap64 (x5_1 + 1))) = some (r1, r2) := by first | (rw [hy227]; with_reducible exact H) | (have H2_ := (Option.bind_some _ _).symm.trans H; rw [hy227]; with_reducible exact H2_) | (have H2_ := (Option.bind_some _ _).symm.trans H; with_reducible exact H2_) | with_reducible exact H | (rw [hy227]; exact H) | exact H
     have Ny227 := Am hy227
     clear hy227
     have H' := Am H
     clear H
     obtain ⟨Ao6, co6, eo6⟩ := Kd.R_slice HO_0.out
     subst eo6
     have p5 : 0 ≤ (x5_1 : Int) := of_decide_eq_true (by assumption)
     have q5 : (x5_1 : Int) < ((x0_1.length : Int) : Int) := of_decide_eq_true (by assumption)
     obtain ⟨go5, co5, eo5, gb5, gl5, cl5, HG5⟩ := Kd.R_form HO_0.out (by omega)
     (first | cases eo5 | (injection eo5 with ea_ en_ ec_; (first | subst ea_ | (injection ea_ with ea_; subst ea_)); subst ec_; clear en_))
     have GB5 := Am gb5
     have GG5 := Am HG5
     clear gb5 gl5 HG5
     have HMgo5 := Am (show (P0_ go5 ∨ w.heap.size ≤ go5) from (HO_0.out.1 _ rfl))
     obtain ⟨hx5_0, hf5_0⟩ := Kd.R_celln 0 HO_0.out (x5_1 : Int) p5 q5
     replace p5 := eq_true p5
     replace q5 := eq_true q5
     have HP7 := Kd.R_putg HO_0.out (x5_1 : Int) x1_1
     go_wp2_with (first | ((with_reducible refine gate_store (t := 3) (p := 15) rfl ?_); refine store_event (t := 3) (p := 15) (v := ?vo_w8) (w1 := (wr.setCell ⟨go5, (x5_1 : Int).toNat, none⟩ (.int .i64 x1_1))) ?hg ?ho ?hn ?hr ?_; (case ho => rfl); (case hg => rfl); (case hn => rfl); (case hr => first | (go_simp; done) | (go_simp; rfl)); intro w8 hw; have hg : wr.grownBy w8 (some go5) := (by rw [hw]; exact HP7.2); have hp_ : Kd.R (Kd.int .i64) 3 w8 w0.heap.size (fun k_ => (P0_ k_ ∨ w.heap.size ≤ k_)) (.slice (some ⟨go5, 0, none⟩) x0_1.length co6) y227 := (by rw [hw, Ny227.out]; exact HP7.1); clear HP7; replace HB := Am ((by rw [hw]; exact bs (HB.out) GB5.out : Below w0.heap.size w0 w8)); replace HK := Am (Kept.of_grown (S := (fun k_ => P0_ k_)) hg (by repeat (first | (with_reducible first | exact HK.out | apply Kept.alloc | apply Kept.drewN | apply Kept.drew) | exact HK.out)) (fun k_ e_ => (HO_0.out.1 k_ e_))); replace HO_0 := Am (hp_); clear hg hw hp_))
     go_roundg k1
     case measure => have := HK1.out; omega
     case rel => exact ⟨(y227), (wrap64 (x1_1 + 1)), (wrap64 (x5_1 + 1)), (by first | rfl | (simp; done) | (simp [*]; done)), (by first | rfl | (simp; done) | (simp [*]; done)), H', ⟨by have := HK1.out; omega⟩, ⟨by (with_reducible repeat (first | apply ra | apply rn | apply re)); exact HO_0.out⟩, ⟨by repeat (first | (with_reducible first | exact HK.out | apply Kept.alloc | apply Kept.drewN | apply Kept.drew) | exact HK.out)⟩, ⟨by repeat (first | (with_reducible first | apply ba | apply bn | apply be) | exact HB.out)⟩⟩
    ·rw [if_neg c4] at H
     exact absurd H (by simp)
   ·rw [if_neg c3] at H
    have c3b0 : decide (x5_1 < (x0_1.length : Int)) = false := decide_eq_false c3
    clear c3
    simp only [Option.some.injEq, Prod.mk.injEq] at H
    obtain ⟨rfl, rfl⟩ := H
    obtain ⟨Ao9, co9, eo9⟩ := Kd.R_slice HO_0.out
    subst eo9
    go_wp2
    go_ret
    exact ⟨by first | rfl | (simp [errW_none, errW_some] <;> rfl) | (simp [*, errW_none, errW_some] <;> rfl), by (with_reducible repeat (first | apply ra | apply rn | apply re)); exact HO_0.out, by repeat (first | (with_reducible first | apply ba | apply bn | apply be) | exact HB.out), by repeat (first | (with_reducible first | exact HK.out | apply Kept.alloc | apply Kept.drewN | apply Kept.drew) | exact HK.out)⟩

/-! ### spec_Woven: function 46 -/
mutual
def spec_Woven.l0 : Nat → List (S33) → List (S33) → List Int → List (S33) → Int → Int → Int → Option ((List (S33)))
 | 0, _, _, _, _, _, _, _ => none
 | k + 1, x0, x1, x2, x7, x8, x9, x10 => if x8 < (x0.length : Int) then (spec_Woven.j1 k x0 x1 x2 x7 x8 x9 x10 true) else (spec_Woven.j1 k x0 x1 x2 x7 x8 x9 x10 (decide (x9 < (x1.length : Int))))
def spec_Woven.j1 : Nat → List (S33) → List (S33) → List Int → List (S33) → Int → Int → Int → Bool → Option ((List (S33)))
 | 0, _, _, _, _, _, _, _, _ => none
 | k + 1, x0, x1, x2, x7, x8, x9, x10, x22 => if x22 = true then (if x10 < (x2.length : Int) then (if 0 ≤ x10 then (if (Int.tmod (rd x2 x10) 2) = 0 then (if x8 ≥ (x0.length : Int) then (if 0 ≤ x9 then (if x9 < (x1.length : Int) then (if x7.length < 1466015503701 then (spec_Woven.l0 k x0 x1 x2 (x7 ++ [(⟨(rd_T33 x1 x9).f0, (rd_T33 x1 x9).f1, (⟨(rd_T33 x1 x9).f2.f0, (rd_T33 x1 x9).f2.f1, (rd_T33 x1 x9).f2.f2, (rd_T33 x1 x9).f2.f3, (rd_T33 x1 x9).f2.f4, (rd_T33 x1 x9).f2.f5⟩ : S31), (rd_T33 x1 x9).f3⟩ : S33)]) x8 (wrap64 (x9 + 1)) (wrap64 (x10 + 1))) else (none)) else (none)) else (none)) else (if 0 ≤ x8 then (if x8 < (x0.length : Int) then (if x7.length < 1466015503701 then (spec_Woven.l0 k x0 x1 x2 (x7 ++ [(⟨(rd_T33 x0 x8).f0, (rd_T33 x0 x8).f1, (⟨(rd_T33 x0 x8).f2.f0, (rd_T33 x0 x8).f2.f1, (rd_T33 x0 x8).f2.f2, (rd_T33 x0 x8).f2.f3, (rd_T33 x0 x8).f2.f4, (rd_T33 x0 x8).f2.f5⟩ : S31), (rd_T33 x0 x8).f3⟩ : S33)]) (wrap64 (x8 + 1)) x9 (wrap64 (x10 + 1))) else (none)) else (none)) else (none))) else (if x9 < (x1.length : Int) then (if 0 ≤ x9 then (if x7.length < 1466015503701 then (spec_Woven.l0 k x0 x1 x2 (x7 ++ [(⟨(rd_T33 x1 x9).f0, (rd_T33 x1 x9).f1, (⟨(rd_T33 x1 x9).f2.f0, (rd_T33 x1 x9).f2.f1, (rd_T33 x1 x9).f2.f2, (rd_T33 x1 x9).f2.f3, (rd_T33 x1 x9).f2.f4, (rd_T33 x1 x9).f2.f5⟩ : S31), (rd_T33 x1 x9).f3⟩ : S33)]) x8 (wrap64 (x9 + 1)) (wrap64 (x10 + 1))) else (none)) else (none)) else (if x8 ≥ (x0.length : Int) then (if 0 ≤ x9 then (none) else (none)) else (if 0 ≤ x8 then (if x8 < (x0.length : Int) then (if x7.length < 1466015503701 then (spec_Woven.l0 k x0 x1 x2 (x7 ++ [(⟨(rd_T33 x0 x8).f0, (rd_T33 x0 x8).f1, (⟨(rd_T33 x0 x8).f2.f0, (rd_T33 x0 x8).f2.f1, (rd_T33 x0 x8).f2.f2, (rd_T33 x0 x8).f2.f3, (rd_T33 x0 x8).f2.f4, (rd_T33 x0 x8).f2.f5⟩ : S31), (rd_T33 x0 x8).f3⟩ : S33)]) (wrap64 (x8 + 1)) x9 (wrap64 (x10 + 1))) else (none)) else (none)) else (none))))) else (none)) else (if x8 ≥ (x0.length : Int) then (if 0 ≤ x9 then (if x9 < (x1.length : Int) then (if x7.length < 1466015503701 then (spec_Woven.l0 k x0 x1 x2 (x7 ++ [(⟨(rd_T33 x1 x9).f0, (rd_T33 x1 x9).f1, (⟨(rd_T33 x1 x9).f2.f0, (rd_T33 x1 x9).f2.f1, (rd_T33 x1 x9).f2.f2, (rd_T33 x1 x9).f2.f3, (rd_T33 x1 x9).f2.f4, (rd_T33 x1 x9).f2.f5⟩ : S31), (rd_T33 x1 x9).f3⟩ : S33)]) x8 (wrap64 (x9 + 1)) (wrap64 (x10 + 1))) else (none)) else (none)) else (none)) else (if 0 ≤ x8 then (if x8 < (x0.length : Int) then (if x7.length < 1466015503701 then (spec_Woven.l0 k x0 x1 x2 (x7 ++ [(⟨(rd_T33 x0 x8).f0, (rd_T33 x0 x8).f1, (⟨(rd_T33 x0 x8).f2.f0, (rd_T33 x0 x8).f2.f1, (rd_T33 x0 x8).f2.f2, (rd_T33 x0 x8).f2.f3, (rd_T33 x0 x8).f2.f4, (rd_T33 x0 x8).f2.f5⟩ : S31), (rd_T33 x0 x8).f3⟩ : S33)]) (wrap64 (x8 + 1)) x9 (wrap64 (x10 + 1))) else (none)) else (none)) else (none)))) else (some x7)
end
def spec_Woven.f (k : Nat) (l0 : List (S33)) (l1 : List (S33)) (l2 : List Int) : Option ((List (S33))) := spec_Woven.l0 k l0 l1 l2 (([] : List (S33))) 0 0 0
theorem spec_Woven.mono_l : ∀ k, (∀ y0 y1 y2 y3 y4 y5 y6, LeO (spec_Woven.l0 k y0 y1 y2 y3 y4 y5 y6) (spec_Woven.l0 (k + 1) y0 y1 y2 y3 y4 y5 y6)) ∧ (∀ y0 y1 y2 y3 y4 y5 y6 y7, LeO (spec_Woven.j1 k y0 y1 y2 y3 y4 y5 y6 y7) (spec_Woven.j1 (k + 1) y0 y1 y2 y3 y4 y5 y6 y7))
 | 0 => ⟨fun _ _ _ _ _ _ _ r h => by simp [spec_Woven.l0] at h, fun _ _ _ _ _ _ _ _ r h => by simp [spec_Woven.j1] at h⟩
 | k + 1 => by
  obtain ⟨ih0, ih1⟩ := spec_Woven.mono_l k
  refine ⟨?_, ?_⟩
  ·intro y0 y1 y2 y3 y4 y5 y6
   unfold spec_Woven.l0
   repeat' first
   | (with_reducible exact ih0 _ _ _ _ _ _ _)
   | (with_reducible exact ih1 _ _ _ _ _ _ _ _)
   | (with_reducible exact LeO.refl _)
   | (with_reducible exact LeO.none _)
   | (with_reducible refine LeO.ite ?_ ?_)
   | (with_reducible refine LeO.bind ?_ (fun _ => ?_))
   | exact ih0 _ _ _ _ _ _ _
   | exact ih1 _ _ _ _ _ _ _ _
   | exact LeO.none _
   | refine LeO.ite ?_ ?_
   | refine LeO.bind ?_ (fun _ => ?_)
  ·intro y0 y1 y2 y3 y4 y5 y6 y7
   unfold spec_Woven.j1
   repeat' first
   | (with_reducible exact ih0 _ _ _ _ _ _ _)
   | (with_reducible exact ih1 _ _ _ _ _ _ _ _)
   | (with_reducible exact LeO.refl _)
   | (with_reducible exact LeO.none _)
   | (with_reducible refine LeO.ite ?_ ?_)
   | (with_reducible refine LeO.bind ?_ (fun _ => ?_))
   | exact ih0 _ _ _ _ _ _ _
   | exact ih1 _ _ _ _ _ _ _ _
   | exact LeO.none _
   | refine LeO.ite ?_ ?_
   | refine LeO.bind ?_ (fun _ => ?_)
theorem spec_Woven.mono : ∀ a0 a1 a2 k, LeO (spec_Woven.f k a0 a1 a2) (spec_Woven.f (k + 1) a0 a1 a2) := by
 intro a0 a1 a2 k
 obtain ⟨ih0, ih1⟩ := spec_Woven.mono_l k
 unfold spec_Woven.f
 repeat' first
   | (with_reducible exact ih0 _ _ _ _ _ _ _)
   | (with_reducible exact ih1 _ _ _ _ _ _ _ _)
   | (with_reducible exact LeO.refl _)
   | (with_reducible exact LeO.none _)
   | (with_reducible refine LeO.ite ?_ ?_)
   | (with_reducible refine LeO.bind ?_ (fun _ => ?_))
   | exact ih0 _ _ _ _ _ _ _
   | exact ih1 _ _ _ _ _ _ _ _
   | exact LeO.none _
   | refine LeO.ite ?_ ?_
   | refine LeO.bind ?_ (fun _ => ?_)
set_option maxHeartbeats 8000000 in
set_option maxRecDepth 100000 in
theorem spec_Woven.calls (k : Nat) (A0 : Option Addr) (c0 : Nat) (l0 : List (S33)) (A1 : Option Addr) (c1 : Nat) (l1 : List (S33)) (A2 : Option Addr) (c2 : Nat) (l2 : List Int) (r : List (S33)) (w : World) (hr0 : Kd.C k33 w A0 l0.length l0) (hc0 : l0.length ≤ c0) (hr1 : Kd.C k33 w A1 l1.length l1) (hc1 : l1.length ≤ c1) (hr2 : Kd.C (Kd.int .i64) w A2 l2.length l2) (hc2 : l2.length ≤ c2) (h : spec_Woven.f k l0 l1 l2 = some r) :
  Calls Try.prog 46 #[.slice A0 l0.length c0, .slice A1 l1.length c1, .slice A2 l2.length c2] w fun e w' => ∃ v0_ : Value, e = .returned (v0_) ∧ Kd.R k33 33 w' w.heap.size (fun _ => True) v0_ r ∧ Below w.heap.size w w' := by
 have hu33 := Try.underlying33
 have HR0 := Am hr0
 have HC0 := Am hc0
 clear hr0 hc0
 have HR1 := Am hr1
 have HC1 := Am hc1
 clear hr1 hc1
 have HR2 := Am hr2
 have HC2 := Am hc2
 clear hr2 hc2
 have HB := Am (Below.refl w.heap.size w)
 have H : (spec_Woven.l0 k l0 l1 l2 (([] : List (S33))) 0 0 0) = some r := h
 clear h
 obtain ⟨y228, hy228⟩ : ∃ y_ : List (S33), y_ = (([] : List (S33))) := ⟨_, rfl⟩
 replace H : (spec_Woven.l0 k l0 l1 l2 y228 0 0 0) = some r := by first | (rw [hy228]; with_reducible exact H) | (have H2_ := (Option.bind_some _ _).symm.trans H; rw [hy228]; with_reducible exact H2_) | (have H2_ := (Option.bind_some _ _).symm.trans H; with_reducible exact H2_) | with_reducible exact H | (rw [hy228]; exact H) | exact H
 have Ny228 := Am hy228
 clear hy228
 have H' := Am H
 clear H
 go_enter Try.func46, Try.ntmps46
 go_wp2_with (first | ((with_reducible refine gate_dst (N := 12) rfl ?_); (try (refine gate_guard (by rfl) ?_; dsimp only)); refine Kd.R_lit k33 _ 33 ?hg (N := 12) ?hd (xs := ([] : List (S33))) (inner := []) (ok := fun _ => True) (okp := fun _ => True) ?hr ?hp (fun _ hk => hk) trivial (Below.refl _ _) (Nat.le_refl _) (by simp) ?_; (case hd => rfl); (case hg => rfl); (case hr => first | (go_simp; done) | (go_simp; rfl)); (case hp => exact (Reps.none _ _)); intro v229 w4 ho5 hb hg_ hnew_; clear hg_ hnew_; (first | rw [← Ny228.out] at ho5 | (simp only [Int.reduceToNat] at ho5; rw [← Ny228.out] at ho5)); have HO230 := Am (Kd.R_lower ho5 (bz (by repeat (first | (with_reducible first | exact HB.out | apply ba | apply bn | apply be) | exact HB.out)))); replace HB := Am (bt (by repeat (first | (with_reducible first | exact HB.out | apply ba | apply bn | apply be) | exact HB.out)) hb); clear hb ho5))
 go_loopg [7, 8, 9, 10] k (fun kq v7 v8 v9 v10 w' => ∃ (x7_1 : List (S33)) (x8_1 : Int) (x9_1 : Int) (x10_1 : Int), v8 = .int .i64 x8_1 ∧ v9 = .int .i64 x9_1 ∧ v10 = .int .i64 x10_1 ∧ Aside0 (spec_Woven.l0 kq l0 l1 l2 x7_1 x8_1 x9_1 x10_1 = some r) ∧ Aside0 (kq ≤ k) ∧ Aside0 (Kd.R k33 33 w' w.heap.size (fun _ => True) v7 x7_1) ∧ Aside0 (Below w.heap.size w w'))
 case atStart => exact ⟨(y228), (0), (0), (0), (by first | rfl | (simp; done) | (simp [*]; done)), (by first | rfl | (simp; done) | (simp [*]; done)), (by first | rfl | (simp; done) | (simp [*]; done)), H', ⟨Nat.le_refl _⟩, ⟨by (with_reducible repeat (first | apply ra | apply rn | apply re)); exact HO230.out⟩, ⟨by repeat (first | (with_reducible first | apply ba | apply bn | apply be) | exact HB.out)⟩⟩
 case round =>
  clear H'
  try clear c1
  try clear c2
  try clear p2
  try clear c4
  obtain ⟨x7_1, x8_1, x9_1, x10_1, rfl, rfl, rfl, HA, HK1, HO_7, HB⟩ := hrel
  cases gk with
  | zero => exact absurd HA.out (by simp [spec_Woven.l0])
  | succ k1 =>
   have H := HA.out
   clear HA
   simp only [spec_Woven.l0] at H
   have HC6 := Am H
   clear H
   go_upto_region 5 with (fail)
   go_cut [22] (fun v22 wc => ∃ (kq : Nat) (x22_5 : Bool), v22 = .bool x22_5 ∧ Aside0 (spec_Woven.j1 kq l0 l1 l2 x7_1 x8_1 x9_1 x10_1 x22_5 = some r) ∧ Aside0 (kq ≤ k1) ∧ Aside0 (Kd.R k33 33 wc w.heap.size (fun _ => True) u7 x7_1) ∧ Aside0 (Below w.heap.size w wc))
   case first =>
    have H := HC6.out
    clear HC6
    by_cases c7 : x8_1 < (l0.length : Int)
    ·rw [if_pos c7] at H
     have c7b0 : decide (x8_1 < (l0.length : Int)) = true := decide_eq_true c7
     clear c7
     (first | rw [c7b0] | (simp only [i64_w, i32_w]; rw [c7b0]) | skip)
     have H' := Am H
     clear H
     go_wp2
     go_meet
     case rel => exact ⟨_, (true), (by first | rfl | (simp; done) | (simp [*]; done)), H', ⟨by have := HK1.out; first | omega | exact Nat.le_refl _⟩, ⟨by (with_reducible repeat (first | apply ra | apply rn | apply re)); exact HO_7.out⟩, ⟨by repeat (first | (with_reducible first | apply ba | apply bn | apply be) | exact HB.out)⟩⟩
    ·rw [if_neg c7] at H
     have c7b0 : decide (x8_1 < (l0.length : Int)) = false := decide_eq_false c7
     clear c7
     (first | rw [c7b0] | (simp only [i64_w, i32_w]; rw [c7b0]) | skip)
     have H' := Am H
     clear H
     go_wp2
     go_meet
     case rel => exact ⟨_, (decide (x9_1 < (l1.length : Int))), (by first | rfl | (simp; done) | (simp [*]; done)), H', ⟨by have := HK1.out; first | omega | exact Nat.le_refl _⟩, ⟨by (with_reducible repeat (first | apply ra | apply rn | apply re)); exact HO_7.out⟩, ⟨by repeat (first | (with_reducible first | apply ba | apply bn | apply be) | exact HB.out)⟩⟩
   case rest =>
    clear HC6
    try clear c1
    try clear c2
    try clear p2
    try clear c4
    try clear c7
    try clear c7b0
    try clear p2
    obtain ⟨kq, x22_5, rfl, HA, HJ5, HO_7, HB⟩ := hcut
    cases kq with
    | zero => exact absurd HA.out (by simp [spec_Woven.j1])
    | succ kj5 =>
     have H := HA.out
     clear HA
     simp only [spec_Woven.j1] at H
     by_cases c8 : x22_5 = true
     ·subst c8
      have H1 : (if x10_1 < (l2.length : Int) then (if 0 ≤ x10_1 then (if (Int.tmod (rd l2 x10_1) 2) = 0 then (if x8_1 ≥ (l0.length : Int) then (if 0 ≤ x9_1 then (if x9_1 < (l1.length : Int) then (if x7_1.length < 1466015503701 then (spec_Woven.l0 kj5 l0 l1 l2 (x7_1 ++ [(⟨(rd_T33 l1 x9_1).f0, (rd_T33 l1 x9_1).f1, (⟨(rd_T33 l1 x9_1).f2.f0, (rd_T33 l1 x9_1).f2.f1, (rd_T33 l1 x9_1).f2.f2, (rd_T33 l1 x9_1).f2.f3, (rd_T33 l1 x9_1).f2.f4, (rd_T33 l1 x9_1).f2.f5⟩ : S31), (rd_T33 l1 x9_1).f3⟩ : S33)]) x8_1 (wrap64 (x9_1 + 1)) (wrap64 (x10_1 + 1))) else (none)) else (none)) else (none)) else (if 0 ≤ x8_1 then (if x8_1 < (l0.length : Int) then (if x7_1.length < 1466015503701 then (spec_Woven.l0 kj5 l0 l1 l2 (x7_1 ++ [(⟨(rd_T33 l0 x8_1).f0, (rd_T33 l0 x8_1).f1, (⟨(rd_T33 l0 x8_1).f2.f0, (rd_T33 l0 x8_1).f2.f1, (rd_T33 l0 x8_1).f2.f2, (rd_T33 l0 x8_1).f2.f3, (rd_T33 l0 x8_1).f2.f4, (rd_T33 l0 x8_1).f2.f5⟩ : S31), (rd_T33 l0 x8_1).f3⟩ : S33)]) (wrap64 (x8_1 + 1)) x9_1 (wrap64 (x10_1 + 1))) else (none)) else (none)) else (none))) else (if x9_1 < (l1.length : Int) then (if 0 ≤ x9_1 then (if x7_1.length < 1466015503701 then (spec_Woven.l0 kj5 l0 l1 l2 (x7_1 ++ [(⟨(rd_T33 l1 x9_1).f0, (rd_T33 l1 x9_1).f1, (⟨(rd_T33 l1 x9_1).f2.f0, (rd_T33 l1 x9_1).f2.f1, (rd_T33 l1 x9_1).f2.f2, (rd_T33 l1 x9_1).f2.f3, (rd_T33 l1 x9_1).f2.f4, (rd_T33 l1 x9_1).f2.f5⟩ : S31), (rd_T33 l1 x9_1).f3⟩ : S33)]) x8_1 (wrap64 (x9_1 + 1)) (wrap64 (x10_1 + 1))) else (none)) else (none)) else (if x8_1 ≥ (l0.length : Int) then (if 0 ≤ x9_1 then (none) else (none)) else (if 0 ≤ x8_1 then (if x8_1 < (l0.length : Int) then (if x7_1.length < 1466015503701 then (spec_Woven.l0 kj5 l0 l1 l2 (x7_1 ++ [(⟨(rd_T33 l0 x8_1).f0, (rd_T33 l0 x8_1).f1, (⟨(rd_T33 l0 x8_1).f2.f0, (rd_T33 l0 x8_1).f2.f1, (rd_T33 l0 x8_1).f2.f2, (rd_T33 l0 x8_1).f2.f3, (rd_T33 l0 x8_1).f2.f4, (rd_T33 l0 x8_1).f2.f5⟩ : S31), (rd_T33 l0 x8_1).f3⟩ : S33)]) (wrap64 (x8_1 + 1)) x9_1 (wrap64 (x10_1 + 1))) else (none)) else (none)) else (none))))) else (none)) else (if x8_1 ≥ (l0.length : Int) then (if 0 ≤ x9_1 then (if x9_1 < (l1.length : Int) then (if x7_1.length < 1466015503701 then (spec_Woven.l0 kj5 l0 l1 l2 (x7_1 ++ [(⟨(rd_T33 l1 x9_1).f0, (rd_T33 l1 x9_1).f1, (⟨(rd_T33 l1 x9_1).f2.f0, (rd_T33 l1 x9_1).f2.f1, (rd_T33 l1 x9_1).f2.f2, (rd_T33 l1 x9_1).f2.f3, (rd_T33 l1 x9_1).f2.f4, (rd_T33 l1 x9_1).f2.f5⟩ : S31), (rd_T33 l1 x9_1).f3⟩ : S33)]) x8_1 (wrap64 (x9_1 + 1)) (wrap64 (x10_1 + 1))) else (none)) else (none)) else (none)) else (if 0 ≤ x8_1 then (if x8_1 < (l0.length : Int) then (if x7_1.length < 1466015503701 then (spec_Woven.l0 kj5 l0 l1 l2 (x7_1 ++ [(⟨(rd_T33 l0 x8_1).f0, (rd_T33 l0 x8_1).f1, (⟨(rd_T33 l0 x8_1).f2.f0, (rd_T33 l0 x8_1).f2.f1, (rd_T33 l0 x8_1).f2.f2, (rd_T33 l0 x8_1).f2.f3, (rd_T33 l0 x8_1).f2.f4, (rd_T33 l0 x8_1).f2.f5⟩ : S31), (rd_T33 l0 x8_1).f3⟩ : S33)]) (wrap64 (x8_1 + 1)) x9_1 (wrap64 (x10_1 + 1))) else (none)) else (none)) else (none)))) = some r := by rw [if_pos rfl] at H; exact H
      clear H
      have H := H1
      clear H1
      by_cases c9 : x10_1 < (l2.length : Int)
      ·rw [if_pos c9] at H
       have c9b0 : decide (x10_1 < (l2.length : Int)) = true := decide_eq_true c9
       clear c9
       by_cases c10 : 0 ≤ x10_1
       ·rw [if_pos c10] at H
        have c10b0 : decide (0 ≤ x10_1) = true := decide_eq_true c10
        clear c10
        by_cases c11 : (Int.tmod (rd l2 x10_1) 2) = 0
        ·rw [if_pos c11] at H
         have c11b0 : ((Int.tmod (rd l2 x10_1) 2) == 0) = true := beq_iff_eq.mpr c11
         have c11b1 : ((Int.tmod (rd l2 x10_1) 2) != 0) = false := bne_eq_false_iff_eq.mpr c11
         clear c11
         by_cases c12 : x8_1 ≥ (l0.length : Int)
         ·rw [if_pos c12] at H
          have c12b0 : decide ((l0.length : Int) ≤ x8_1) = true := decide_eq_true c12
          clear c12
          by_cases c13 : 0 ≤ x9_1
          ·rw [if_pos c13] at H
           have c13b0 : decide (0 ≤ x9_1) = true := decide_eq_true c13
           clear c13
           by_cases c14 : x9_1 < (l1.length : Int)
           ·rw [if_pos c14] at H
            have c14b0 : decide (x9_1 < (l1.length : Int)) = true := decide_eq_true c14
            clear c14
            by_cases c15 : x7_1.length < 1466015503701
            ·rw [if_pos c15] at H
             have LMc15 := Am c15
             clear c15
             obtain ⟨y233, hy233⟩ : ∃ y_ : List (S33), y_ = (x7_1 ++ [(⟨(rd_T33 l1 x9_1).f0, (rd_T33 l1 x9_1).f1, (⟨(rd_T33 l1 x9_1).f2.f0, (rd_T33 l1 x9_1).f2.f1, (rd_T33 l1 x9_1).f2.f2, (rd_T33 l1 x9_1).f2.f3, (rd_T33 l1 x9_1).f2.f4, (rd_T33 l1 x9_1).f2.f5⟩ : S31), (rd_T33 l1 x9_1).f3⟩ : S33)]) := ⟨_, rfl⟩
             replace H : (spec_Woven.l0 kj5 l0 l1 l2 y233 x8_1 (wrap64 (x9_1 + 1)) (wrap64 (x10_1 + 1))) = some r := by first | (rw [hy233]; with_reducible exact H) | (have H2_ := (Option.bind_some _ _).symm.trans H; rw [hy233]; with_reducible exact H2_) | (have H2_ := (Option.bind_some _ _).symm.trans H; with_reducible exact H2_) | with_reducible exact H | (rw [hy233]; exact H) | exact H
             have Ny233 := Am hy233
             clear hy233
             have H' := Am H
             clear H
             have p231 : 0 ≤ (x10_1 : Int) := of_decide_eq_true (by assumption)
             have q231 : x10_1 < (l2.length : Int) := of_decide_eq_true (by assumption)
             obtain ⟨ad231, e231, hx231_0⟩ := Kd.at_int HR2.out x10_1 p231 q231
             cases e231
             replace hx231_0 := cl5 HB hx231_0
             replace p231 := eq_true p231
             replace q231 := eq_true q231
             have p232 : 0 ≤ (x9_1 : Int) := of_decide_eq_true (by assumption)
             have q232 : x9_1 < (l1.length : Int) := of_decide_eq_true (by assumption)
             obtain ⟨ad232, e232, hx232_0, hx232_1, hx232_2, hx232_3, hx232_4, hx232_5, hx232_6, hx232_7, hx232_8⟩ := at_T33 HR1.out x9_1 p232 q232
             cases e232
             replace hx232_0 := cl5 HB hx232_0
             replace hx232_1 := cl5 HB hx232_1
             replace hx232_2 := cl5 HB hx232_2
             replace hx232_3 := cl5 HB hx232_3
             replace hx232_4 := cl5 HB hx232_4
             replace hx232_5 := cl5 HB hx232_5
             replace hx232_6 := cl5 HB hx232_6
             replace hx232_7 := cl5 HB hx232_7
             replace hx232_8 := cl5 HB hx232_8
             replace p232 := eq_true p232
             replace q232 := eq_true q232
             go_wp2_with (first | ((with_reducible refine gate_builtin (b := .append) (xs := #[.tmp 50, .tmp 55]) rfl ?_); (try (refine gate_guard (by rfl) ?_; dsimp only)); at_builtin; refine Kd.R_append k33 (w0 := w) w.heap.size rfl (.tmp 50) (.tmp 55) 24 33 (.agg #[(.int .i64 0), (.int .i64 0), (.int .i64 0), (.string ⟨#[]⟩), (.string ⟨#[]⟩), (.int .i64 0), (.int .i64 0), (.string ⟨#[]⟩), (.int .i64 0)]) 96 rfl Try.underlying24 info33 rfl (by decide) (by omega) u7 x7_1 (⟨(rd_T33 l1 x9_1).f0, (rd_T33 l1 x9_1).f1, (⟨(rd_T33 l1 x9_1).f2.f0, (rd_T33 l1 x9_1).f2.f1, (rd_T33 l1 x9_1).f2.f2, (rd_T33 l1 x9_1).f2.f3, (rd_T33 l1 x9_1).f2.f4, (rd_T33 l1 x9_1).f2.f5⟩ : S31), (rd_T33 l1 x9_1).f3⟩ : S33) [.int .i64 ((rd_T33 l1 x9_1).f0), .int .i64 ((rd_T33 l1 x9_1).f1), .int .i64 ((rd_T33 l1 x9_1).f2.f0), .string ((rd_T33 l1 x9_1).f2.f1), .string ((rd_T33 l1 x9_1).f2.f2), .int .i64 ((rd_T33 l1 x9_1).f2.f3), .int .i64 ((rd_T33 l1 x9_1).f2.f4), .string ((rd_T33 l1 x9_1).f2.f5), .int .i64 ((rd_T33 l1 x9_1).f3)] (fun _ => True) (fun _ => False) rfl rfl ?aP (fun _ hk => hk.elim) ?aF ?aO ?aB ?aS ?aL ?_; (case aP => exact k33_mkM _ _ _ (⟨(rd_T33 l1 x9_1).f0, (rd_T33 l1 x9_1).f1, (⟨(rd_T33 l1 x9_1).f2.f0, (rd_T33 l1 x9_1).f2.f1, (rd_T33 l1 x9_1).f2.f2, (rd_T33 l1 x9_1).f2.f3, (rd_T33 l1 x9_1).f2.f4, (rd_T33 l1 x9_1).f2.f5⟩ : S31), (rd_T33 l1 x9_1).f3⟩ : S33)); (case aB => exact (by repeat (first | (with_reducible first | exact HB.out | apply ba | apply bn | apply be) | exact HB.out))); (case aF => exact (fun _ _ => trivial)); (case aO => exact (by (with_reducible repeat (first | apply ra | apply rn | apply re)); exact HO_7.out)); (case aS => exact (bz (by repeat (first | (with_reducible first | exact HB.out | apply ba | apply bn | apply be) | exact HB.out)))); (case aL => have := LMc15.out; omega); intro v234 w16 ho hb hg hat; rw [← Ny233.out] at ho; have n0_ := Am (hb); have n1_ := Am (ho); clear HB; clear HO_7; have HB := n0_; have HO235 := n1_; clear n0_ n1_; clear ho hb hg hat))
             go_roundg kj5
             case measure => have := HK1.out; have := HJ5.out; omega
             case rel => exact ⟨(y233), (x8_1), (wrap64 (x9_1 + 1)), (wrap64 (x10_1 + 1)), (by first | rfl | (simp; done) | (simp [*]; done)), (by first | rfl | (simp; done) | (simp [*]; done)), (by first | rfl | (simp; done) | (simp [*]; done)), H', ⟨by have := HK1.out; have := HJ5.out; omega⟩, ⟨by (with_reducible repeat (first | apply ra | apply rn | apply re)); exact HO235.out⟩, ⟨by repeat (first | (with_reducible first | apply ba | apply bn | apply be) | exact HB.out)⟩⟩
            ·rw [if_neg c15] at H
             exact absurd H (by simp)
           ·rw [if_neg c14] at H
            exact absurd H (by simp)
          ·rw [if_neg c13] at H
           exact absurd H (by simp)
         ·rw [if_neg c12] at H
          have c12b0 : decide ((l0.length : Int) ≤ x8_1) = false := decide_eq_false c12
          clear c12
          by_cases c17 : 0 ≤ x8_1
          ·rw [if_pos c17] at H
           have c17b0 : decide (0 ≤ x8_1) = true := decide_eq_true c17
           clear c17
           by_cases c18 : x8_1 < (l0.length : Int)
           ·rw [if_pos c18] at H
            have c18b0 : decide (x8_1 < (l0.length : Int)) = true := decide_eq_true c18
            clear c18
            by_cases c19 : x7_1.length < 1466015503701
            ·rw [if_pos c19] at H
             have LMc19 := Am c19
             clear c19
             obtain ⟨y237, hy237⟩ : ∃ y_ : List (S33), y_ = (x7_1 ++ [(⟨(rd_T33 l0 x8_1).f0, (rd_T33 l0 x8_1).f1, (⟨(rd_T33 l0 x8_1).f2.f0, (rd_T33 l0 x8_1).f2.f1, (rd_T33 l0 x8_1).f2.f2, (rd_T33 l0 x8_1).f2.f3, (rd_T33 l0 x8_1).f2.f4, (rd_T33 l0 x8_1).f2.f5⟩ : S31), (rd_T33 l0 x8_1).f3⟩ : S33)]) := ⟨_, rfl⟩
             replace H : (spec_Woven.l0 kj5 l0 l1 l2 y237 (wrap64 (x8_1 + 1)) x9_1 (wrap64 (x10_1 + 1))) = some r := by first | (rw [hy237]; with_reducible exact H) | (have H2_ := (Option.bind_some _ _).symm.trans H; rw [hy237]; with_reducible exact H2_) | (have H2_ := (Option.bind_some _ _).symm.trans H; with_reducible exact H2_) | with_reducible exact H | (rw [hy237]; exact H) | exact H
             have Ny237 := Am hy237
             clear hy237
             have H' := Am H
             clear H
             have p231 : 0 ≤ (x10_1 : Int) := of_decide_eq_true (by assumption)
             have q231 : x10_1 < (l2.length : Int) := of_decide_eq_true (by assumption)
             obtain ⟨ad231, e231, hx231_0⟩ := Kd.at_int HR2.out x10_1 p231 q231
             cases e231
             replace hx231_0 := cl5 HB hx231_0
             replace p231 := eq_true p231
             replace q231 := eq_true q231
             have p236 : 0 ≤ (x8_1 : Int) := of_decide_eq_true (by assumption)
             have q236 : x8_1 < (l0.length : Int) := of_decide_eq_true (by assumption)
             obtain ⟨ad236, e236, hx236_0, hx236_1, hx236_2, hx236_3, hx236_4, hx236_5, hx236_6, hx236_7, hx236_8⟩ := at_T33 HR0.out x8_1 p236 q236
             cases e236
             replace hx236_0 := cl5 HB hx236_0
             replace hx236_1 := cl5 HB hx236_1
             replace hx236_2 := cl5 HB hx236_2
             replace hx236_3 := cl5 HB hx236_3
             replace hx236_4 := cl5 HB hx236_4
             replace hx236_5 := cl5 HB hx236_5
             replace hx236_6 := cl5 HB hx236_6
             replace hx236_7 := cl5 HB hx236_7
             replace hx236_8 := cl5 HB hx236_8
             replace p236 := eq_true p236
             replace q236 := eq_true q236
             go_wp2_with (first | ((with_reducible refine gate_builtin (b := .append) (xs := #[.tmp 59, .tmp 64]) rfl ?_); (try (refine gate_guard (by rfl) ?_; dsimp only)); at_builtin; refine Kd.R_append k33 (w0 := w) w.heap.size rfl (.tmp 59) (.tmp 64) 24 33 (.agg #[(.int .i64 0), (.int .i64 0), (.int .i64 0), (.string ⟨#[]⟩), (.string ⟨#[]⟩), (.int .i64 0), (.int .i64 0), (.string ⟨#[]⟩), (.int .i64 0)]) 96 rfl Try.underlying24 info33 rfl (by decide) (by omega) u7 x7_1 (⟨(rd_T33 l0 x8_1).f0, (rd_T33 l0 x8_1).f1, (⟨(rd_T33 l0 x8_1).f2.f0, (rd_T33 l0 x8_1).f2.f1, (rd_T33 l0 x8_1).f2.f2, (rd_T33 l0 x8_1).f2.f3, (rd_T33 l0 x8_1).f2.f4, (rd_T33 l0 x8_1).f2.f5⟩ : S31), (rd_T33 l0 x8_1).f3⟩ : S33) [.int .i64 ((rd_T33 l0 x8_1).f0), .int .i64 ((rd_T33 l0 x8_1).f1), .int .i64 ((rd_T33 l0 x8_1).f2.f0), .string ((rd_T33 l0 x8_1).f2.f1), .string ((rd_T33 l0 x8_1).f2.f2), .int .i64 ((rd_T33 l0 x8_1).f2.f3), .int .i64 ((rd_T33 l0 x8_1).f2.f4), .string ((rd_T33 l0 x8_1).f2.f5), .int .i64 ((rd_T33 l0 x8_1).f3)] (fun _ => True) (fun _ => False) rfl rfl ?aP (fun _ hk => hk.elim) ?aF ?aO ?aB ?aS ?aL ?_; (case aP => exact k33_mkM _ _ _ (⟨(rd_T33 l0 x8_1).f0, (rd_T33 l0 x8_1).f1, (⟨(rd_T33 l0 x8_1).f2.f0, (rd_T33 l0 x8_1).f2.f1, (rd_T33 l0 x8_1).f2.f2, (rd_T33 l0 x8_1).f2.f3, (rd_T33 l0 x8_1).f2.f4, (rd_T33 l0 x8_1).f2.f5⟩ : S31), (rd_T33 l0 x8_1).f3⟩ : S33)); (case aB => exact (by repeat (first | (with_reducible first | exact HB.out | apply ba | apply bn | apply be) | exact HB.out))); (case aF => exact (fun _ _ => trivial)); (case aO => exact (by (with_reducible repeat (first | apply ra | apply rn | apply re)); exact HO_7.out)); (case aS => exact (bz (by repeat (first | (with_reducible first | exact HB.out | apply ba | apply bn | apply be) | exact HB.out)))); (case aL => have := LMc19.out; omega); intro v238 w20 ho hb hg hat; rw [← Ny237.out] at ho; have n0_ := Am (hb); have n1_ := Am (ho); clear HB; clear HO_7; have HB := n0_; have HO239 := n1_; clear n0_ n1_; clear ho hb hg hat))
             go_roundg kj5
             case measure => have := HK1.out; have := HJ5.out; omega
             case rel => exact ⟨(y237), (wrap64 (x8_1 + 1)), (x9_1), (wrap64 (x10_1 + 1)), (by first | rfl | (simp; done) | (simp [*]; done)), (by first | rfl | (simp; done) | (simp [*]; done)), (by first | rfl | (simp; done) | (simp [*]; done)), H', ⟨by have := HK1.out; have := HJ5.out; omega⟩, ⟨by (with_reducible repeat (first | apply ra | apply rn | apply re)); exact HO239.out⟩, ⟨by repeat (first | (with_reducible first | apply ba | apply bn | apply be) | exact HB.out)⟩⟩
            ·rw [if_neg c19] at H
             exact absurd H (by simp)
           ·rw [if_neg c18] at H
            exact absurd H (by simp)
          ·rw [if_neg c17] at H
           exact absurd H (by simp)
        ·rw [if_neg c11] at H
         have c11b0 : ((Int.tmod (rd l2 x10_1) 2) == 0) = false := beq_eq_false_iff_ne.mpr c11
         have c11b1 : ((Int.tmod (rd l2 x10_1) 2) != 0) = true := bne_iff_ne.mpr c11
         by_cases c21 : x9_1 < (l1.length : Int)
         ·rw [if_pos c21] at H
          have c21b0 : decide (x9_1 < (l1.length : Int)) = true := decide_eq_true c21
          clear c21
          by_cases c22 : 0 ≤ x9_1
          ·rw [if_pos c22] at H
           have c22b0 : decide (0 ≤ x9_1) = true := decide_eq_true c22
           clear c22
           by_cases c23 : x7_1.length < 1466015503701
           ·rw [if_pos c23] at H
            have LMc23 := Am c23
            clear c23
            obtain ⟨y241, hy241⟩ : ∃ y_ : List (S33), y_ = (x7_1 ++ [(⟨(rd_T33 l1 x9_1).f0, (rd_T33 l1 x9_1).f1, (⟨(rd_T33 l1 x9_1).f2.f0, (rd_T33 l1 x9_1).f2.f1, (rd_T33 l1 x9_1).f2.f2, (rd_T33 l1 x9_1).f2.f3, (rd_T33 l1 x9_1).f2.f4, (rd_T33 l1 x9_1).f2.f5⟩ : S31), (rd_T33 l1 x9_1).f3⟩ : S33)]) := ⟨_, rfl⟩
            replace H : (spec_Woven.l0 kj5 l0 l1 l2 y241 x8_1 (wrap64 (x9_1 + 1)) (wrap64 (x10_1 + 1))) = some r := by first | (rw [hy241]; with_reducible exact H) | (have H2_ := (Option.bind_some _ _).symm.trans H; rw [hy241]; with_reducible exact H2_) | (have H2_ := (Option.bind_some _ _).symm.trans H; with_reducible exact H2_) | with_reducible exact H | (rw [hy241]; exact H) | exact H
            have Ny241 := Am hy241
            clear hy241
            have H' := Am H
            clear H
            have p231 : 0 ≤ (x10_1 : Int) := of_decide_eq_true (by assumption)
            have q231 : x10_1 < (l2.length : Int) := of_decide_eq_true (by assumption)
            obtain ⟨ad231, e231, hx231_0⟩ := Kd.at_int HR2.out x10_1 p231 q231
            cases e231
            replace hx231_0 := cl5 HB hx231_0
            replace p231 := eq_true p231
            replace q231 := eq_true q231
            have p240 : 0 ≤ (x9_1 : Int) := of_decide_eq_true (by assumption)
            have q240 : x9_1 < (l1.length : Int) := of_decide_eq_true (by assumption)
            obtain ⟨ad240, e240, hx240_0, hx240_1, hx240_2, hx240_3, hx240_4, hx240_5, hx240_6, hx240_7, hx240_8⟩ := at_T33 HR1.out x9_1 p240 q240
            cases e240
            replace hx240_0 := cl5 HB hx240_0
            replace hx240_1 := cl5 HB hx240_1
            replace hx240_2 := cl5 HB hx240_2
            replace hx240_3 := cl5 HB hx240_3
            replace hx240_4 := cl5 HB hx240_4
            replace hx240_5 := cl5 HB hx240_5
            replace hx240_6 := cl5 HB hx240_6
            replace hx240_7 := cl5 HB hx240_7
            replace hx240_8 := cl5 HB hx240_8
            replace p240 := eq_true p240
            replace q240 := eq_true q240
            go_wp2_with (first | ((with_reducible refine gate_builtin (b := .append) (xs := #[.tmp 50, .tmp 55]) rfl ?_); (try (refine gate_guard (by rfl) ?_; dsimp only)); at_builtin; refine Kd.R_append k33 (w0 := w) w.heap.size rfl (.tmp 50) (.tmp 55) 24 33 (.agg #[(.int .i64 0), (.int .i64 0), (.int .i64 0), (.string ⟨#[]⟩), (.string ⟨#[]⟩), (.int .i64 0), (.int .i64 0), (.string ⟨#[]⟩), (.int .i64 0)]) 96 rfl Try.underlying24 info33 rfl (by decide) (by omega) u7 x7_1 (⟨(rd_T33 l1 x9_1).f0, (rd_T33 l1 x9_1).f1, (⟨(rd_T33 l1 x9_1).f2.f0, (rd_T33 l1 x9_1).f2.f1, (rd_T33 l1 x9_1).f2.f2, (rd_T33 l1 x9_1).f2.f3, (rd_T33 l1 x9_1).f2.f4, (rd_T33 l1 x9_1).f2.f5⟩ : S31), (rd_T33 l1 x9_1).f3⟩ : S33) [.int .i64 ((rd_T33 l1 x9_1).f0), .int .i64 ((rd_T33 l1 x9_1).f1), .int .i64 ((rd_T33 l1 x9_1).f2.f0), .string ((rd_T33 l1 x9_1).f2.f1), .string ((rd_T33 l1 x9_1).f2.f2), .int .i64 ((rd_T33 l1 x9_1).f2.f3), .int .i64 ((rd_T33 l1 x9_1).f2.f4), .string ((rd_T33 l1 x9_1).f2.f5), .int .i64 ((rd_T33 l1 x9_1).f3)] (fun _ => True) (fun _ => False) rfl rfl ?aP (fun _ hk => hk.elim) ?aF ?aO ?aB ?aS ?aL ?_; (case aP => exact k33_mkM _ _ _ (⟨(rd_T33 l1 x9_1).f0, (rd_T33 l1 x9_1).f1, (⟨(rd_T33 l1 x9_1).f2.f0, (rd_T33 l1 x9_1).f2.f1, (rd_T33 l1 x9_1).f2.f2, (rd_T33 l1 x9_1).f2.f3, (rd_T33 l1 x9_1).f2.f4, (rd_T33 l1 x9_1).f2.f5⟩ : S31), (rd_T33 l1 x9_1).f3⟩ : S33)); (case aB => exact (by repeat (first | (with_reducible first | exact HB.out | apply ba | apply bn | apply be) | exact HB.out))); (case aF => exact (fun _ _ => trivial)); (case aO => exact (by (with_reducible repeat (first | apply ra | apply rn | apply re)); exact HO_7.out)); (case aS => exact (bz (by repeat (first | (with_reducible first | exact HB.out | apply ba | apply bn | apply be) | exact HB.out)))); (case aL => have := LMc23.out; omega); intro v242 w24 ho hb hg hat; rw [← Ny241.out] at ho; have n0_ := Am (hb); have n1_ := Am (ho); clear HB; clear HO_7; have HB := n0_; have HO243 := n1_; clear n0_ n1_; clear ho hb hg hat))
            go_roundg kj5
            case measure => have := HK1.out; have := HJ5.out; omega
            case rel => exact ⟨(y241), (x8_1), (wrap64 (x9_1 + 1)), (wrap64 (x10_1 + 1)), (by first | rfl | (simp; done) | (simp [*]; done)), (by first | rfl | (simp; done) | (simp [*]; done)), (by first | rfl | (simp; done) | (simp [*]; done)), H', ⟨by have := HK1.out; have := HJ5.out; omega⟩, ⟨by (with_reducible repeat (first | apply ra | apply rn | apply re)); exact HO243.out⟩, ⟨by repeat (first | (with_reducible first | apply ba | apply bn | apply be) | exact HB.out)⟩⟩
           ·rw [if_neg c23] at H
            exact absurd H (by simp)
          ·rw [if_neg c22] at H
           exact absurd H (by simp)
         ·rw [if_neg c21] at H
          have c21b0 : decide (x9_1 < (l1.length : Int)) = false := decide_eq_false c21
          clear c21
          by_cases c25 : x8_1 ≥ (l0.length : Int)
          ·rw [if_pos c25] at H
           have c25b0 : decide ((l0.length : Int) ≤ x8_1) = true := decide_eq_true c25
           clear c25
           by_cases c26 : 0 ≤ x9_1
           ·rw [if_pos c26] at H
            exact absurd H (by simp)
           ·rw [if_neg c26] at H
            exact absurd H (by simp)
          ·rw [if_neg c25] at H
           have c25b0 : decide ((l0.length : Int) ≤ x8_1) = false := decide_eq_false c25
           clear c25
           by_cases c27 : 0 ≤ x8_1
           ·rw [if_pos c27] at H
            have c27b0 : decide (0 ≤ x8_1) = true := decide_eq_true c27
            clear c27
            by_cases c28 : x8_1 < (l0.length : Int)
            ·rw [if_pos c28] at H
             have c28b0 : decide (x8_1 < (l0.length : Int)) = true := decide_eq_true c28
             clear c28
             by_cases c29 : x7_1.length < 1466015503701
             ·rw [if_pos c29] at H
              have LMc29 := Am c29
              clear c29
              obtain ⟨y245, hy245⟩ : ∃ y_ : List (S33), y_ = (x7_1 ++ [(⟨(rd_T33 l0 x8_1).f0, (rd_T33 l0 x8_1).f1, (⟨(rd_T33 l0 x8_1).f2.f0, (rd_T33 l0 x8_1).f2.f1, (rd_T33 l0 x8_1).f2.f2, (rd_T33 l0 x8_1).f2.f3, (rd_T33 l0 x8_1).f2.f4, (rd_T33 l0 x8_1).f2.f5⟩ : S31), (rd_T33 l0 x8_1).f3⟩ : S33)]) := ⟨_, rfl⟩
              replace H : (spec_Woven.l0 kj5 l0 l1 l2 y245 (wrap64 (x8_1 + 1)) x9_1 (wrap64 (x10_1 + 1))) = some r := by first | (rw [hy245]; with_reducible exact H) | (have H2_ := (Option.bind_some _ _).symm.trans H; rw [hy245]; with_reducible exact H2_) | (have H2_ := (Option.bind_some _ _).symm.trans H; with_reducible exact H2_) | with_reducible exact H | (rw [hy245]; exact H) | exact H
              have Ny245 := Am hy245
              clear hy245
              have H' := Am H
              clear H
              have p231 : 0 ≤ (x10_1 : Int) := of_decide_eq_true (by assumption)
              have q231 : x10_1 < (l2.length : Int) := of_decide_eq_true (by assumption)
              obtain ⟨ad231, e231, hx231_0⟩ := Kd.at_int HR2.out x10_1 p231 q231
              cases e231
              replace hx231_0 := cl5 HB hx231_0
              replace p231 := eq_true p231
              replace q231 := eq_true q231
              have p244 : 0 ≤ (x8_1 : Int) := of_decide_eq_true (by assumption)
              have q244 : x8_1 < (l0.length : Int) := of_decide_eq_true (by assumption)
              obtain ⟨ad244, e244, hx244_0, hx244_1, hx244_2, hx244_3, hx244_4, hx244_5, hx244_6, hx244_7, hx244_8⟩ := at_T33 HR0.out x8_1 p244 q244
              cases e244
              replace hx244_0 := cl5 HB hx244_0
              replace hx244_1 := cl5 HB hx244_1
              replace hx244_2 := cl5 HB hx244_2
              replace hx244_3 := cl5 HB hx244_3
              replace hx244_4 := cl5 HB hx244_4
              replace hx244_5 := cl5 HB hx244_5
              replace hx244_6 := cl5 HB hx244_6
              replace hx244_7 := cl5 HB hx244_7
              replace hx244_8 := cl5 HB hx244_8
              replace p244 := eq_true p244
              replace q244 := eq_true q244
              go_wp2_with (first | ((with_reducible refine gate_builtin (b := .append) (xs := #[.tmp 59, .tmp 64]) rfl ?_); (try (refine gate_guard (by rfl) ?_; dsimp only)); at_builtin; refine Kd.R_append k33 (w0 := w) w.heap.size rfl (.tmp 59) (.tmp 64) 24 33 (.agg #[(.int .i64 0), (.int .i64 0), (.int .i64 0), (.string ⟨#[]⟩), (.string ⟨#[]⟩), (.int .i64 0), (.int .i64 0), (.string ⟨#[]⟩), (.int .i64 0)]) 96 rfl Try.underlying24 info33 rfl (by decide) (by omega) u7 x7_1 (⟨(rd_T33 l0 x8_1).f0, (rd_T33 l0 x8_1).f1, (⟨(rd_T33 l0 x8_1).f2.f0, (rd_T33 l0 x8_1).f2.f1, (rd_T33 l0 x8_1).f2.f2, (rd_T33 l0 x8_1).f2.f3, (rd_T33 l0 x8_1).f2.f4, (rd_T33 l0 x8_1).f2.f5⟩ : S31), (rd_T33 l0 x8_1).f3⟩ : S33) [.int .i64 ((rd_T33 l0 x8_1).f0), .int .i64 ((rd_T33 l0 x8_1).f1), .int .i64 ((rd_T33 l0 x8_1).f2.f0), .string ((rd_T33 l0 x8_1).f2.f1), .string ((rd_T33 l0 x8_1).f2.f2), .int .i64 ((rd_T33 l0 x8_1).f2.f3), .int .i64 ((rd_T33 l0 x8_1).f2.f4), .string ((rd_T33 l0 x8_1).f2.f5), .int .i64 ((rd_T33 l0 x8_1).f3)] (fun _ => True) (fun _ => False) rfl rfl ?aP (fun _ hk => hk.elim) ?aF ?aO ?aB ?aS ?aL ?_; (case aP => exact k33_mkM _ _ _ (⟨(rd_T33 l0 x8_1).f0, (rd_T33 l0 x8_1).f1, (⟨(rd_T33 l0 x8_1).f2.f0, (rd_T33 l0 x8_1).f2.f1, (rd_T33 l0 x8_1).f2.f2, (rd_T33 l0 x8_1).f2.f3, (rd_T33 l0 x8_1).f2.f4, (rd_T33 l0 x8_1).f2.f5⟩ : S31), (rd_T33 l0 x8_1).f3⟩ : S33)); (case aB => exact (by repeat (first | (with_reducible first | exact HB.out | apply ba | apply bn | apply be) | exact HB.out))); (case aF => exact (fun _ _ => trivial)); (case aO => exact (by (with_reducible repeat (first | apply ra | apply rn | apply re)); exact HO_7.out)); (case aS => exact (bz (by repeat (first | (with_reducible first | exact HB.out | apply ba | apply bn | apply be) | exact HB.out)))); (case aL => have := LMc29.out; omega); intro v246 w30 ho hb hg hat; rw [← Ny245.out] at ho; have n0_ := Am (hb); have n1_ := Am (ho); clear HB; clear HO_7; have HB := n0_; have HO247 := n1_; clear n0_ n1_; clear ho hb hg hat))
              go_roundg kj5
              case measure => have := HK1.out; have := HJ5.out; omega
              case rel => exact ⟨(y245), (wrap64 (x8_1 + 1)), (x9_1), (wrap64 (x10_1 + 1)), (by first | rfl | (simp; done) | (simp [*]; done)), (by first | rfl | (simp; done) | (simp [*]; done)), (by first | rfl | (simp; done) | (simp [*]; done)), H', ⟨by have := HK1.out; have := HJ5.out; omega⟩, ⟨by (with_reducible repeat (first | apply ra | apply rn | apply re)); exact HO247.out⟩, ⟨by repeat (first | (with_reducible first | apply ba | apply bn | apply be) | exact HB.out)⟩⟩
             ·rw [if_neg c29] at H
              exact absurd H (by simp)
            ·rw [if_neg c28] at H
             exact absurd H (by simp)
           ·rw [if_neg c27] at H
            exact absurd H (by simp)
       ·rw [if_neg c10] at H
        exact absurd H (by simp)
      ·rw [if_neg c9] at H
       have c9b0 : decide (x10_1 < (l2.length : Int)) = false := decide_eq_false c9
       clear c9
       by_cases c31 : x8_1 ≥ (l0.length : Int)
       ·rw [if_pos c31] at H
        have c31b0 : decide ((l0.length : Int) ≤ x8_1) = true := decide_eq_true c31
        clear c31
        by_cases c32 : 0 ≤ x9_1
        ·rw [if_pos c32] at H
         have c32b0 : decide (0 ≤ x9_1) = true := decide_eq_true c32
         clear c32
         by_cases c33 : x9_1 < (l1.length : Int)
         ·rw [if_pos c33] at H
          have c33b0 : decide (x9_1 < (l1.length : Int)) = true := decide_eq_true c33
          clear c33
          by_cases c34 : x7_1.length < 1466015503701
          ·rw [if_pos c34] at H
           have LMc34 := Am c34
           clear c34
           obtain ⟨y249, hy249⟩ : ∃ y_ : List (S33), y_ = (x7_1 ++ [(⟨(rd_T33 l1 x9_1).f0, (rd_T33 l1 x9_1).f1, (⟨(rd_T33 l1 x9_1).f2.f0, (rd_T33 l1 x9_1).f2.f1, (rd_T33 l1 x9_1).f2.f2, (rd_T33 l1 x9_1).f2.f3, (rd_T33 l1 x9_1).f2.f4, (rd_T33 l1 x9_1).f2.f5⟩ : S31), (rd_T33 l1 x9_1).f3⟩ : S33)]) := ⟨_, rfl⟩
           replace H : (spec_Woven.l0 kj5 l0 l1 l2 y249 x8_1 (wrap64 (x9_1 + 1)) (wrap64 (x10_1 + 1))) = some r := by first | (rw [hy249]; with_reducible exact H) | (have H2_ := (Option.bind_some _ _).symm.trans H; rw [hy249]; with_reducible exact H2_) | (have H2_ := (Option.bind_some _ _).symm.trans H; with_reducible exact H2_) | with_reducible exact H | (rw [hy249]; exact H) | exact H
           have Ny249 := Am hy249
           clear hy249
           have H' := Am H
           clear H
           have p248 : 0 ≤ (x9_1 : Int) := of_decide_eq_true (by assumption)
           have q248 : x9_1 < (l1.length : Int) := of_decide_eq_true (by assumption)
           obtain ⟨ad248, e248, hx248_0, hx248_1, hx248_2, hx248_3, hx248_4, hx248_5, hx248_6, hx248_7, hx248_8⟩ := at_T33 HR1.out x9_1 p248 q248
           cases e248
           replace hx248_0 := cl5 HB hx248_0
           replace hx248_1 := cl5 HB hx248_1
           replace hx248_2 := cl5 HB hx248_2
           replace hx248_3 := cl5 HB hx248_3
           replace hx248_4 := cl5 HB hx248_4
           replace hx248_5 := cl5 HB hx248_5
           replace hx248_6 := cl5 HB hx248_6
           replace hx248_7 := cl5 HB hx248_7
           replace hx248_8 := cl5 HB hx248_8
           replace p248 := eq_true p248
           replace q248 := eq_true q248
           go_wp2_with (first | ((with_reducible refine gate_builtin (b := .append) (xs := #[.tmp 50, .tmp 55]) rfl ?_); (try (refine gate_guard (by rfl) ?_; dsimp only)); at_builtin; refine Kd.R_append k33 (w0 := w) w.heap.size rfl (.tmp 50) (.tmp 55) 24 33 (.agg #[(.int .i64 0), (.int .i64 0), (.int .i64 0), (.string ⟨#[]⟩), (.string ⟨#[]⟩), (.int .i64 0), (.int .i64 0), (.string ⟨#[]⟩), (.int .i64 0)]) 96 rfl Try.underlying24 info33 rfl (by decide) (by omega) u7 x7_1 (⟨(rd_T33 l1 x9_1).f0, (rd_T33 l1 x9_1).f1, (⟨(rd_T33 l1 x9_1).f2.f0, (rd_T33 l1 x9_1).f2.f1, (rd_T33 l1 x9_1).f2.f2, (rd_T33 l1 x9_1).f2.f3, (rd_T33 l1 x9_1).f2.f4, (rd_T33 l1 x9_1).f2.f5⟩ : S31), (rd_T33 l1 x9_1).f3⟩ : S33) [.int .i64 ((rd_T33 l1 x9_1).f0), .int .i64 ((rd_T33 l1 x9_1).f1), .int .i64 ((rd_T33 l1 x9_1).f2.f0), .string ((rd_T33 l1 x9_1).f2.f1), .string ((rd_T33 l1 x9_1).f2.f2), .int .i64 ((rd_T33 l1 x9_1).f2.f3), .int .i64 ((rd_T33 l1 x9_1).f2.f4), .string ((rd_T33 l1 x9_1).f2.f5), .int .i64 ((rd_T33 l1 x9_1).f3)] (fun _ => True) (fun _ => False) rfl rfl ?aP (fun _ hk => hk.elim) ?aF ?aO ?aB ?aS ?aL ?_; (case aP => exact k33_mkM _ _ _ (⟨(rd_T33 l1 x9_1).f0, (rd_T33 l1 x9_1).f1, (⟨(rd_T33 l1 x9_1).f2.f0, (rd_T33 l1 x9_1).f2.f1, (rd_T33 l1 x9_1).f2.f2, (rd_T33 l1 x9_1).f2.f3, (rd_T33 l1 x9_1).f2.f4, (rd_T33 l1 x9_1).f2.f5⟩ : S31), (rd_T33 l1 x9_1).f3⟩ : S33)); (case aB => exact (by repeat (first | (with_reducible first | exact HB.out | apply ba | apply bn | apply be) | exact HB.out))); (case aF => exact (fun _ _ => trivial)); (case aO => exact (by (with_reducible repeat (first | apply ra | apply rn | apply re)); exact HO_7.out)); (case aS => exact (bz (by repeat (first | (with_reducible first | exact HB.out | apply ba | apply bn | apply be) | exact HB.out)))); (case aL => have := LMc34.out; omega); intro v250 w35 ho hb hg hat; rw [← Ny249.out] at ho; have n0_ := Am (hb); have n1_ := Am (ho); clear HB; clear HO_7; have HB := n0_; have HO251 := n1_; clear n0_ n1_; clear ho hb hg hat))
           go_roundg kj5
           case measure => have := HK1.out; have := HJ5.out; omega
           case rel => exact ⟨(y249), (x8_1), (wrap64 (x9_1 + 1)), (wrap64 (x10_1 + 1)), (by first | rfl | (simp; done) | (simp [*]; done)), (by first | rfl | (simp; done) | (simp [*]; done)), (by first | rfl | (simp; done) | (simp [*]; done)), H', ⟨by have := HK1.out; have := HJ5.out; omega⟩, ⟨by (with_reducible repeat (first | apply ra | apply rn | apply re)); exact HO251.out⟩, ⟨by repeat (first | (with_reducible first | apply ba | apply bn | apply be) | exact HB.out)⟩⟩
          ·rw [if_neg c34] at H
           exact absurd H (by simp)
         ·rw [if_neg c33] at H
          exact absurd H (by simp)
        ·rw [if_neg c32] at H
         exact absurd H (by simp)
       ·rw [if_neg c31] at H
        have c31b0 : decide ((l0.length : Int) ≤ x8_1) = false := decide_eq_false c31
        clear c31
        by_cases c36 : 0 ≤ x8_1
        ·rw [if_pos c36] at H
         have c36b0 : decide (0 ≤ x8_1) = true := decide_eq_true c36
         clear c36
         by_cases c37 : x8_1 < (l0.length : Int)
         ·rw [if_pos c37] at H
          have c37b0 : decide (x8_1 < (l0.length : Int)) = true := decide_eq_true c37
          clear c37
          by_cases c38 : x7_1.length < 1466015503701
          ·rw [if_pos c38] at H
           have LMc38 := Am c38
           clear c38
           obtain ⟨y253, hy253⟩ : ∃ y_ : List (S33), y_ = (x7_1 ++ [(⟨(rd_T33 l0 x8_1).f0, (rd_T33 l0 x8_1).f1, (⟨(rd_T33 l0 x8_1).f2.f0, (rd_T33 l0 x8_1).f2.f1, (rd_T33 l0 x8_1).f2.f2, (rd_T33 l0 x8_1).f2.f3, (rd_T33 l0 x8_1).f2.f4, (rd_T33 l0 x8_1).f2.f5⟩ : S31), (rd_T33 l0 x8_1).f3⟩ : S33)]) := ⟨_, rfl⟩
           replace H : (spec_Woven.l0 kj5 l0 l1 l2 y253 (wrap64 (x8_1 + 1)) x9_1 (wrap64 (x10_1 + 1))) = some r := by first | (rw [hy253]; with_reducible exact H) | (have H2_ := (Option.bind_some _ _).symm.trans H; rw [hy253]; with_reducible exact H2_) | (have H2_ := (Option.bind_some _ _).symm.trans H; with_reducible exact H2_) | with_reducible exact H | (rw [hy253]; exact H) | exact H
           have Ny253 := Am hy253
           clear hy253
           have H' := Am H
           clear H
           have p252 : 0 ≤ (x8_1 : Int) := of_decide_eq_true (by assumption)
           have q252 : x8_1 < (l0.length : Int) := of_decide_eq_true (by assumption)
           obtain ⟨ad252, e252, hx252_0, hx252_1, hx252_2, hx252_3, hx252_4, hx252_5, hx252_6, hx252_7, hx252_8⟩ := at_T33 HR0.out x8_1 p252 q252
           cases e252
           replace hx252_0 := cl5 HB hx252_0
           replace hx252_1 := cl5 HB hx252_1
           replace hx252_2 := cl5 HB hx252_2
           replace hx252_3 := cl5 HB hx252_3
           replace hx252_4 := cl5 HB hx252_4
           replace hx252_5 := cl5 HB hx252_5
           replace hx252_6 := cl5 HB hx252_6
           replace hx252_7 := cl5 HB hx252_7
           replace hx252_8 := cl5 HB hx252_8
           replace p252 := eq_true p252
           replace q252 := eq_true q252
           go_wp2_with (first | ((with_reducible refine gate_builtin (b := .append) (xs := #[.tmp 59, .tmp 64]) rfl ?_); (try (refine gate_guard (by rfl) ?_; dsimp only)); at_builtin; refine Kd.R_append k33 (w0 := w) w.heap.size rfl (.tmp 59) (.tmp 64) 24 33 (.agg #[(.int .i64 0), (.int .i64 0), (.int .i64 0), (.string ⟨#[]⟩), (.string ⟨#[]⟩), (.int .i64 0), (.int .i64 0), (.string ⟨#[]⟩), (.int .i64 0)]) 96 rfl Try.underlying24 info33 rfl (by decide) (by omega) u7 x7_1 (⟨(rd_T33 l0 x8_1).f0, (rd_T33 l0 x8_1).f1, (⟨(rd_T33 l0 x8_1).f2.f0, (rd_T33 l0 x8_1).f2.f1, (rd_T33 l0 x8_1).f2.f2, (rd_T33 l0 x8_1).f2.f3, (rd_T33 l0 x8_1).f2.f4, (rd_T33 l0 x8_1).f2.f5⟩ : S31), (rd_T33 l0 x8_1).f3⟩ : S33) [.int .i64 ((rd_T33 l0 x8_1).f0), .int .i64 ((rd_T33 l0 x8_1).f1), .int .i64 ((rd_T33 l0 x8_1).f2.f0), .string ((rd_T33 l0 x8_1).f2.f1), .string ((rd_T33 l0 x8_1).f2.f2), .int .i64 ((rd_T33 l0 x8_1).f2.f3), .int .i64 ((rd_T33 l0 x8_1).f2.f4), .string ((rd_T33 l0 x8_1).f2.f5), .int .i64 ((rd_T33 l0 x8_1).f3)] (fun _ => True) (fun _ => False) rfl rfl ?aP (fun _ hk => hk.elim) ?aF ?aO ?aB ?aS ?aL ?_; (case aP => exact k33_mkM _ _ _ (⟨(rd_T33 l0 x8_1).f0, (rd_T33 l0 x8_1).f1, (⟨(rd_T33 l0 x8_1).f2.f0, (rd_T33 l0 x8_1).f2.f1, (rd_T33 l0 x8_1).f2.f2, (rd_T33 l0 x8_1).f2.f3, (rd_T33 l0 x8_1).f2.f4, (rd_T33 l0 x8_1).f2.f5⟩ : S31), (rd_T33 l0 x8_1).f3⟩ : S33)); (case aB => exact (by repeat (first | (with_reducible first | exact HB.out | apply ba | apply bn | apply be) | exact HB.out))); (case aF => exact (fun _ _ => trivial)); (case aO => exact (by (with_reducible repeat (first | apply ra | apply rn | apply re)); exact HO_7.out)); (case aS => exact (bz (by repeat (first | (with_reducible first | exact HB.out | apply ba | apply bn | apply be) | exact HB.out)))); (case aL => have := LMc38.out; omega); intro v254 w39 ho hb hg hat; rw [← Ny253.out] at ho; have n0_ := Am (hb); have n1_ := Am (ho); clear HB; clear HO_7; have HB := n0_; have HO255 := n1_; clear n0_ n1_; clear ho hb hg hat))
           go_roundg kj5
           case measure => have := HK1.out; have := HJ5.out; omega
           case rel => exact ⟨(y253), (wrap64 (x8_1 + 1)), (x9_1), (wrap64 (x10_1 + 1)), (by first | rfl | (simp; done) | (simp [*]; done)), (by first | rfl | (simp; done) | (simp [*]; done)), (by first | rfl | (simp; done) | (simp [*]; done)), H', ⟨by have := HK1.out; have := HJ5.out; omega⟩, ⟨by (with_reducible repeat (first | apply ra | apply rn | apply re)); exact HO255.out⟩, ⟨by repeat (first | (with_reducible first | apply ba | apply bn | apply be) | exact HB.out)⟩⟩
          ·rw [if_neg c38] at H
           exact absurd H (by simp)
         ·rw [if_neg c37] at H
          exact absurd H (by simp)
        ·rw [if_neg c36] at H
         exact absurd H (by simp)
     ·replace c8 := Bool.eq_false_iff.mpr c8
      subst c8
      have H1 : (some x7_1) = some r := by rw [if_neg (show ¬ (false = true) by decide)] at H; exact H
      clear H
      have H := H1
      clear H1
      obtain rfl := Option.some.inj H
      go_wp2
      go_ret
      exact ⟨_, by first | rfl | (simp [errW_none, errW_some] <;> rfl) | (simp [*, errW_none, errW_some] <;> rfl), by (with_reducible repeat (first | apply ra | apply rn | apply re)); exact HO_7.out, by repeat (first | (with_reducible first | apply ba | apply bn | apply be) | exact HB.out)⟩

/-! ### laws_toIntS: function 47 -/
def laws_toIntS.l0 : Nat → List Int → List Int → Int → Option (List Int)
 | 0, _, _, _ => none
 | k + 1, x0, x3, x4 => if x4 < (x0.length : Int) then (if 0 ≤ x4 then (if x4 < (x3.length : Int) then (laws_toIntS.l0 k x0 (x3.set (x4 : Int).toNat (rd x0 x4)) (wrap64 (x4 + 1))) else (none)) else (none)) else (some x3)
def laws_toIntS.f (k : Nat) (l0 : List Int) : Option (List Int) := if 0 ≤ (l0.length : Int) then (if ((l0.length : Int) : Int).toNat ≤ 35184372088832 then (laws_toIntS.l0 k l0 (List.replicate ((l0.length : Int) : Int).toNat 0) 0) else (none)) else (none)
theorem laws_toIntS.mono_l : ∀ k, (∀ y0 y1 y2, LeO (laws_toIntS.l0 k y0 y1 y2) (laws_toIntS.l0 (k + 1) y0 y1 y2))
 | 0 => fun _ _ _ r h => by simp [laws_toIntS.l0] at h
 | k + 1 => by
  have ih0 := laws_toIntS.mono_l k
  ·intro y0 y1 y2
   unfold laws_toIntS.l0
   repeat' first
   | (with_reducible exact ih0 _ _ _)
   | (with_reducible exact LeO.refl _)
   | (with_reducible exact LeO.none _)
   | (with_reducible refine LeO.ite ?_ ?_)
   | (with_reducible refine LeO.bind ?_ (fun _ => ?_))
   | exact ih0 _ _ _
   | exact LeO.none _
   | refine LeO.ite ?_ ?_
   | refine LeO.bind ?_ (fun _ => ?_)
theorem laws_toIntS.mono : ∀ a0 k, LeO (laws_toIntS.f k a0) (laws_toIntS.f (k + 1) a0) := by
 intro a0 k
 have ih0 := laws_toIntS.mono_l k
 unfold laws_toIntS.f
 repeat' first
   | (with_reducible exact ih0 _ _ _)
   | (with_reducible exact LeO.refl _)
   | (with_reducible exact LeO.none _)
   | (with_reducible refine LeO.ite ?_ ?_)
   | (with_reducible refine LeO.bind ?_ (fun _ => ?_))
   | exact ih0 _ _ _
   | exact LeO.none _
   | refine LeO.ite ?_ ?_
   | refine LeO.bind ?_ (fun _ => ?_)
set_option maxHeartbeats 8000000 in
set_option maxRecDepth 100000 in
theorem laws_toIntS.calls (k : Nat) (A0 : Option Addr) (c0 : Nat) (l0 : List Int) (r : List Int) (w : World) (hr0 : Kd.C (Kd.int .i64) w A0 l0.length l0) (hc0 : l0.length ≤ c0) (h : laws_toIntS.f k l0 = some r) :
  Calls Try.prog 47 #[.slice A0 l0.length c0] w fun e w' => ∃ v0_ : Value, e = .returned (v0_) ∧ Kd.R (Kd.int .i64) 3 w' w.heap.size (fun _ => True) v0_ r ∧ Below w.heap.size w w' := by
 have HR0 := Am hr0
 have HC0 := Am hc0
 clear hr0 hc0
 have HB := Am (Below.refl w.heap.size w)
 have H : (if 0 ≤ (l0.length : Int) then (if ((l0.length : Int) : Int).toNat ≤ 35184372088832 then (laws_toIntS.l0 k l0 (List.replicate ((l0.length : Int) : Int).toNat 0) 0) else (none)) else (none)) = some r := h
 clear h
 by_cases c2 : 0 ≤ (l0.length : Int)
 ·rw [if_pos c2] at H
  have c2b0 := eq_true c2
  have c2b1 : decide (0 ≤ (l0.length : Int)) = true := decide_eq_true c2
  clear c2
  by_cases c3 : ((l0.length : Int) : Int).toNat ≤ 35184372088832
  ·rw [if_pos c3] at H
   have c3b0 := eq_true c3
   have c3b1 : decide (((l0.length : Int) : Int).toNat ≤ 35184372088832) = true := decide_eq_true c3
   clear c3
   obtain ⟨y256, hy256⟩ : ∃ y_ : List Int, y_ = (List.replicate ((l0.length : Int) : Int).toNat 0) := ⟨_, rfl⟩
   replace H : (laws_toIntS.l0 k l0 y256 0) = some r := by first | (rw [hy256]; with_reducible exact H) | (have H2_ := (Option.bind_some _ _).symm.trans H; rw [hy256]; with_reducible exact H2_) | (have H2_ := (Option.bind_some _ _).symm.trans H; with_reducible exact H2_) | with_reducible exact H | (rw [hy256]; exact H) | exact H
   have Ny256 := Am hy256
   clear hy256
   have H' := Am H
   clear H
   go_enter Try.func47, Try.ntmps47
   go_wp2_with (first | ((with_reducible refine gate_dst (N := 7) rfl ?_); refine Kd.R_make (Kd.int .i64) _ 3 rfl (N := 7) rfl 25 _ _ rfl (l0.length : Int) rfl rfl Try.underlying25 (.int .i64 0) 8 info3 rfl (by decide) (by omega) 0 (ok := fun _ => True) (okp := fun _ => True) rfl (fun _ hk => hk) trivial (of_decide_eq_true (by assumption)) (Nat.le_trans (Nat.mul_le_mul_right _ (of_decide_eq_true (by assumption) : (l0.length : Int).toNat ≤ 35184372088832)) (by omega)) (Below.refl _ _) (Nat.le_refl _) ?_; intro v257 w4 ho5 hb hg_ hnew_; clear hg_ hnew_; (first | rw [← Ny256.out] at ho5 | (simp only [Int.reduceToNat] at ho5; rw [← Ny256.out] at ho5)); have HO258 := Am (Kd.R_lower ho5 (bz (by repeat (first | (with_reducible first | exact HB.out | apply ba | apply bn | apply be) | exact HB.out)))); replace HB := Am (bt (by repeat (first | (with_reducible first | exact HB.out | apply ba | apply bn | apply be) | exact HB.out)) hb); clear hb ho5))
   go_loopg [4] k (fun kq v4 w' => ∃ (x3_1 : List Int) (x4_1 : Int), v4 = .int .i64 x4_1 ∧ Aside0 (laws_toIntS.l0 kq l0 x3_1 x4_1 = some r) ∧ Aside0 (kq ≤ k) ∧ Aside0 (Kd.R (Kd.int .i64) 3 w' w.heap.size (fun _ => True) v257 x3_1) ∧ Aside0 (Below w.heap.size w w'))
   case atStart => exact ⟨(y256), (0), (by first | rfl | (simp; done) | (simp [*]; done)), H', ⟨Nat.le_refl _⟩, ⟨by (with_reducible repeat (first | apply ra | apply rn | apply re)); exact HO258.out⟩, ⟨by repeat (first | (with_reducible first | apply ba | apply bn | apply be) | exact HB.out)⟩⟩
   case round =>
    clear H'
    try clear c2
    try clear c2b0
    try clear c2b1
    try clear p2
    try clear c3
    try clear c3b0
    try clear c3b1
    try clear c4
    obtain ⟨x3_1, x4_1, rfl, HA, HK1, HO_3, HB⟩ := hrel
    cases gk with
    | zero => exact absurd HA.out (by simp [laws_toIntS.l0])
    | succ k1 =>
     have H := HA.out
     clear HA
     simp only [laws_toIntS.l0] at H
     by_cases c6 : x4_1 < (l0.length : Int)
     ·rw [if_pos c6] at H
      have c6b0 : decide (x4_1 < (l0.length : Int)) = true := decide_eq_true c6
      clear c6
      by_cases c7 : 0 ≤ x4_1
      ·rw [if_pos c7] at H
       have c7b0 : decide (0 ≤ x4_1) = true := decide_eq_true c7
       clear c7
       by_cases c8 : x4_1 < (x3_1.length : Int)
       ·rw [if_pos c8] at H
        have c8b0 : decide (x4_1 < (x3_1.length : Int)) = true := decide_eq_true c8
        clear c8
        obtain ⟨y260, hy260⟩ : ∃ y_ : List Int, y_ = (x3_1.set (x4_1 : Int).toNat (rd l0 x4_1)) := ⟨_, rfl⟩
        replace H : (laws_toIntS.l0 k1 l0 y260 (wrap64 (x4_1 + 1))) = some r := by first | (rw [hy260]; with_reducible exact H) | (have H2_ := (Option.bind_some _ _).symm.trans H; rw [hy260]; with_reducible exact H2_) | (have H2_ := (Option.bind_some _ _).symm.trans H; with_reducible exact H2_) | with_reducible exact H | (rw [hy260]; exact H) | exact H
        have Ny260 := Am hy260
        clear hy260
        have H' := Am H
        clear H
        have p259 : 0 ≤ (x4_1 : Int) := of_decide_eq_true (by assumption)
        have q259 : x4_1 < (l0.length : Int) := of_decide_eq_true (by assumption)
        obtain ⟨ad259, e259, hx259_0⟩ := Kd.at_int HR0.out x4_1 p259 q259
        cases e259
        replace hx259_0 := cl5 HB hx259_0
        replace p259 := eq_true p259
        replace q259 := eq_true q259
        have p9 : 0 ≤ (x4_1 : Int) := of_decide_eq_true (by assumption)
        have q9 : (x4_1 : Int) < ((x3_1.length : Int) : Int) := of_decide_eq_true (by assumption)
        obtain ⟨go9, co9, eo9, gb9, gl9, cl9, HG9⟩ := Kd.R_form HO_3.out (by omega)
        (first | cases eo9 | (injection eo9 with ea_ en_ ec_; (first | subst ea_ | (injection ea_ with ea_; subst ea_)); subst ec_; clear en_))
        have GB9 := Am gb9
        have GG9 := Am HG9
        clear gb9 gl9 HG9
        obtain ⟨hx9_0, hf9_0⟩ := Kd.R_celln 0 HO_3.out (x4_1 : Int) p9 q9
        replace p9 := eq_true p9
        replace q9 := eq_true q9
        have HP10 := Kd.R_putg HO_3.out (x4_1 : Int) (rd l0 x4_1)
        go_wp2_with (first | ((with_reducible refine gate_store (t := 3) (p := 20) rfl ?_); refine store_event (t := 3) (p := 20) (v := ?vo_w11) (w1 := (wr.setCell ⟨go9, (x4_1 : Int).toNat, none⟩ (.int .i64 (rd l0 x4_1)))) ?hg ?ho ?hn ?hr ?_; (case ho => rfl); (case hg => rfl); (case hn => rfl); (case hr => first | (go_simp; done) | (go_simp; rfl)); intro w11 hw; have hg : wr.grownBy w11 (some go9) := (by rw [hw]; exact HP10.2); have hp_ : Kd.R (Kd.int .i64) 3 w11 w.heap.size (fun _ => True) (.slice (some ⟨go9, 0, none⟩) x3_1.length co9) y260 := (by rw [hw, Ny260.out]; exact HP10.1); clear HP10; replace HO_3 := Am (hp_); replace HB := Am ((by rw [hw]; exact bs (HB.out) GB9.out : Below w.heap.size w w11)); clear hg hw hp_))
        go_roundg k1
        case measure => have := HK1.out; omega
        case rel => exact ⟨(y260), (wrap64 (x4_1 + 1)), (by first | rfl | (simp; done) | (simp [*]; done)), H', ⟨by have := HK1.out; omega⟩, ⟨by (with_reducible repeat (first | apply ra | apply rn | apply re)); exact HO_3.out⟩, ⟨by repeat (first | (with_reducible first | apply ba | apply bn | apply be) | exact HB.out)⟩⟩
       ·rw [if_neg c8] at H
        exact absurd H (by simp)
      ·rw [if_neg c7] at H
       exact absurd H (by simp)
     ·rw [if_neg c6] at H
      have c6b0 : decide (x4_1 < (l0.length : Int)) = false := decide_eq_false c6
      clear c6
      obtain rfl := Option.some.inj H
      go_wp2
      go_ret
      exact ⟨_, by first | rfl | (simp [errW_none, errW_some] <;> rfl) | (simp [*, errW_none, errW_some] <;> rfl), by (with_reducible repeat (first | apply ra | apply rn | apply re)); exact HO_3.out, by repeat (first | (with_reducible first | apply ba | apply bn | apply be) | exact HB.out)⟩
  ·rw [if_neg c3] at H
   exact absurd H (by simp)
 ·rw [if_neg c2] at H
  exact absurd H (by simp)

end Go.Proofs.Ytklghegofjigoaa.QFnExactWoven
