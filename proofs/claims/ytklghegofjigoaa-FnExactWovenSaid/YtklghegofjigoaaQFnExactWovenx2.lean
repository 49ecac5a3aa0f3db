/- Go functions as Lean functions, and their contracts. Own text: written by wip/gen/pr.py (a turned copy of the print). -/
import Derived.Test.YtklghegofjigoaaQFnExactWovenx0
import Derived.Test.YtklghegofjigoaaQFnExactWovenx1
namespace Go.Proofs.Ytklghegofjigoaa.QFnExactWoven
open Go.RowKit Go.Proofs.YtklghegofjigoaaW.PrintWords Go.Proofs.YtklghegofjigoaaW.PrintLast Go.Proofs.YtklghegofjigoaaW.PrintMore
attribute [local go_sem] max2_int min2_int max_two min_two max_three min_three max_four min_four   -- for this text's walks alone
open Go.Proofs.YtklghegofjigoaaW.PrintWords renaming below_alloc → ba, pw_below_drewN → bn, below_drew1 → be, below_set → bs, blk_drewN → kn, blk_drew → ke, blk_alloc → ka, blk_below → kb, blk_frozen → kf, blk_cell → kc, below_step → bt, below_size → bz, blk_lt → kl
open Go.Proofs.YtklghegofjigoaaW.PrintWords.Kd renaming R_alloc → ra, R_drewN → rn, R_drew → re, R_below → rb
open Go.Proofs.YtklghegofjigoaaW.PrintWords.Aside0 renaming mk → Am
set_option linter.unusedVariables false
set_option linter.unusedSimpArgs false

theorem cl2 {w w2 : World} {a : Addr} {v : Value} (h : Aside0 (Below w.heap.size w w2)) (e : w.cell? a = some v) : w2.cell? a = some v := (h.out.cell (World.block_lt_of_cell? w _ e)).trans e
def o2b0 (p0 : Int) (p1 : ByteArray) (p2 : ByteArray) (p3 : Int) (p4 : Int) (p5 : ByteArray) : Obj := .cells #[.int .i64 p0, .string p1, .string p2, .int .i64 p3, .int .i64 p4, .string p5] 31 (0, 0)
def o2b1 (p0 : Int) (p1 : Int) (p2 : Int) (p3 : ByteArray) (p4 : ByteArray) (p5 : Int) (p6 : Int) (p7 : ByteArray) (p8 : Int) : Obj := .cells #[.int .i64 p0, .int .i64 p1, .int .i64 p2, .string p3, .string p4, .int .i64 p5, .int .i64 p6, .string p7, .int .i64 p8] 33 (0, 0)
/-! ### laws_toActS: function 24 -/
def laws_toActS.l0 : Nat → List (S104) → List (S33) → Int → Option ((List (S33)))
 | 0, _, _, _ => none
 | k + 1, x0, x3, x4 => if x4 < (x0.length : Int) then (if 0 ≤ x4 then ((laws_toAct.f ((rd_T104 x0 x4).f0) ((rd_T104 x0 x4).f1) ((rd_T104 x0 x4).f2.f0) ((rd_T104 x0 x4).f2.f1) ((rd_T104 x0 x4).f2.f2) ((rd_T104 x0 x4).f2.f3) ((rd_T104 x0 x4).f2.f4) ((rd_T104 x0 x4).f2.f5) ((rd_T104 x0 x4).f3)).bind fun bt180 => (if x4 < (x3.length : Int) then (laws_toActS.l0 k x0 (x3.set (x4 : Int).toNat (⟨bt180.1, bt180.2.1, (⟨bt180.2.2.1, bt180.2.2.2.1, bt180.2.2.2.2.1, bt180.2.2.2.2.2.1, bt180.2.2.2.2.2.2.1, bt180.2.2.2.2.2.2.2.1⟩ : S31), bt180.2.2.2.2.2.2.2.2⟩ : S33)) (wrap64 (x4 + 1))) else (none))) else (none)) else (some x3)
def laws_toActS.f (k : Nat) (l0 : List (S104)) : Option ((List (S33))) := if 0 ≤ (l0.length : Int) then (if ((l0.length : Int) : Int).toNat ≤ 2932031007402 then (laws_toActS.l0 k l0 (List.replicate ((l0.length : Int) : Int).toNat z33) 0) else (none)) else (none)
theorem laws_toActS.mono_l : ∀ k, (∀ y0 y1 y2, LeO (laws_toActS.l0 k y0 y1 y2) (laws_toActS.l0 (k + 1) y0 y1 y2))
 | 0 => fun _ _ _ r h => by simp [laws_toActS.l0] at h
 | k + 1 => by
  have ih0 := laws_toActS.mono_l k
  ·intro y0 y1 y2
   unfold laws_toActS.l0
   repeat' first
   | (with_reducible exact ih0 _ _ _)
   | (with_reducible exact LeO.refl _)
   | (with_reducible exact LeO.none _)
   | (with_reducible refine LeO.ite ?_ ?_)
   | (with_reducible refine LeO.bind ?_ (fun _ => ?_))
   | exact ih0 _ _ _
   | exact LeO.none _
   | refine LeO.ite ?_ ?_
   | refine LeO.bind ?_ (fun _ => ?_)
theorem laws_toActS.mono : ∀ a0 k, LeO (laws_toActS.f k a0) (laws_toActS.f (k + 1) a0) := by
 intro a0 k
 have ih0 := laws_toActS.mono_l k
 unfold laws_toActS.f
 repeat' first
   | (with_reducible exact ih0 _ _ _)
   | (with_reducible exact LeO.refl _)
   | (with_reducible exact LeO.none _)
   | (with_reducible refine LeO.ite ?_ ?_)
   | (with_reducible refine LeO.bind ?_ (fun _ => ?_))
   | exact ih0 _ _ _
   | exact LeO.none _
   | refine LeO.ite ?_ ?_
   | refine LeO.bind ?_ (fun _ => ?_)
set_option maxHeartbeats 8000000 in
set_option maxRecDepth 100000 in
theorem laws_toActS.calls (k : Nat) (A0 : Option Addr) (c0 : Nat) (l0 : List (S104)) (r : List (S33)) (w : World) (hr0 : Kd.C k104 w A0 l0.length l0) (hc0 : l0.length ≤ c0) (h : laws_toActS.f k l0 = some r) :
  Calls Try.prog 24 #[.slice A0 l0.length c0] w fun e w' => ∃ v0_ : Value, e = .returned (v0_) ∧ Kd.R k33 33 w' w.heap.size (fun _ => True) v0_ r ∧ Below w.heap.size w w' := by
 have hu104 := Try.underlying104
 have hu33 := Try.underlying33
 have HR0 := Am hr0
 have HC0 := Am hc0
 clear hr0 hc0
 have HB := Am (Below.refl w.heap.size w)
 have H : (if 0 ≤ (l0.length : Int) then (if ((l0.length : Int) : Int).toNat ≤ 2932031007402 then (laws_toActS.l0 k l0 (List.replicate ((l0.length : Int) : Int).toNat z33) 0) else (none)) else (none)) = some r := h
 clear h
 by_cases c2 : 0 ≤ (l0.length : Int)
 ·rw [if_pos c2] at H
  have c2b0 := eq_true c2
  have c2b1 : decide (0 ≤ (l0.length : Int)) = true := decide_eq_true c2
  clear c2
  by_cases c3 : ((l0.length : Int) : Int).toNat ≤ 2932031007402
  ·rw [if_pos c3] at H
   have c3b0 := eq_true c3
   have c3b1 : decide (((l0.length : Int) : Int).toNat ≤ 2932031007402) = true := decide_eq_true c3
   clear c3
   obtain ⟨y176, hy176⟩ : ∃ y_ : List (S33), y_ = (List.replicate ((l0.length : Int) : Int).toNat z33) := ⟨_, rfl⟩
   replace H : (laws_toActS.l0 k l0 y176 0) = some r := by first | (rw [hy176]; with_reducible exact H) | (have H2_ := (Option.bind_some _ _).symm.trans H; rw [hy176]; with_reducible exact H2_) | (have H2_ := (Option.bind_some _ _).symm.trans H; with_reducible exact H2_) | with_reducible exact H | (rw [hy176]; exact H) | exact H
   have Ny176 := Am hy176
   clear hy176
   have H' := Am H
   clear H
   go_enter Try.func24, Try.ntmps24
   go_wp2_with (first | ((with_reducible refine gate_dst (N := 7) rfl ?_); refine Kd.R_make k33 _ 33 rfl (N := 7) rfl 24 _ _ rfl (l0.length : Int) rfl rfl Try.underlying24 (.agg #[(.int .i64 0), (.int .i64 0), (.int .i64 0), (.string ⟨#[]⟩), (.string ⟨#[]⟩), (.int .i64 0), (.int .i64 0), (.string ⟨#[]⟩), (.int .i64 0)]) 96 info33 rfl (by decide) (by omega) z33 (ok := fun _ => True) (okp := fun _ => True) (k33_mkM _ _ _ z33 ) (fun _ hk => hk) trivial (of_decide_eq_true (by assumption)) (Nat.le_trans (Nat.mul_le_mul_right _ (of_decide_eq_true (by assumption) : (l0.length : Int).toNat ≤ 2932031007402)) (by omega)) (Below.refl _ _) (Nat.le_refl _) ?_; intro v177 w4 ho5 hb hg_ hnew_; clear hg_ hnew_; (first | rw [← Ny176.out] at ho5 | (simp only [Int.reduceToNat] at ho5; rw [← Ny176.out] at ho5)); have HO178 := Am (Kd.R_lower ho5 (bz (by repeat (first | (with_reducible first | exact HB.out | apply ba | apply bn | apply be) | exact HB.out)))); replace HB := Am (bt (by repeat (first | (with_reducible first | exact HB.out | apply ba | apply bn | apply be) | exact HB.out)) hb); clear hb ho5))
   go_loopg [4] k (fun kq v4 w' => ∃ (x3_1 : List (S33)) (x4_1 : Int), v4 = .int .i64 x4_1 ∧ Aside0 (laws_toActS.l0 kq l0 x3_1 x4_1 = some r) ∧ Aside0 (kq ≤ k) ∧ Aside0 (Kd.R k33 33 w' w.heap.size (fun _ => True) v177 x3_1) ∧ Aside0 (Below w.heap.size w w'))
   case atStart => exact ⟨(y176), (0), (by first | rfl | (simp; done) | (simp [*]; done)), H', ⟨Nat.le_refl _⟩, ⟨by (with_reducible repeat (first | apply ra | apply rn | apply re)); exact HO178.out⟩, ⟨by repeat (first | (with_reducible first | apply ba | apply bn | apply be) | exact HB.out)⟩⟩
   case round =>
    clear H'
    try clear c2
    try clear c2b0
    try clear c2b1
    try clear p2
    try clear c3
    try clear c3b0
    try clear c3b1
    obtain ⟨x3_1, x4_1, rfl, HA, HK1, HO_3, HB⟩ := hrel
    cases gk with
    | zero => exact absurd HA.out (by simp [laws_toActS.l0])
    | succ k1 =>
     have H := HA.out
     clear HA
     simp only [laws_toActS.l0] at H
     by_cases c6 : x4_1 < (l0.length : Int)
     ·rw [if_pos c6] at H
      have c6b0 : decide (x4_1 < (l0.length : Int)) = true := decide_eq_true c6
      clear c6
      by_cases c7 : 0 ≤ x4_1
      ·rw [if_pos c7] at H
       have c7b0 : decide (0 ≤ x4_1) = true := decide_eq_true c7
       clear c7
       replace H := Option.bind_eq_some_iff.mp H
       obtain ⟨⟨t180, t181, t182, t183, t184, t185, t186, t187, t188⟩, A80, H⟩ := H
       replace H : (if x4_1 < (x3_1.length : Int) then (laws_toActS.l0 k1 l0 (x3_1.set (x4_1 : Int).toNat (⟨t180, t181, (⟨t182, t183, t184, t185, t186, t187⟩ : S31), t188⟩ : S33)) (wrap64 (x4_1 + 1))) else (none)) = some r := H
       have A8 := Am A80
       clear A80
       by_cases c9 : x4_1 < (x3_1.length : Int)
       ·rw [if_pos c9] at H
        have c9b0 : decide (x4_1 < (x3_1.length : Int)) = true := decide_eq_true c9
        clear c9
        obtain ⟨y189, hy189⟩ : ∃ y_ : List (S33), y_ = (x3_1.set (x4_1 : Int).toNat (⟨t180, t181, (⟨t182, t183, t184, t185, t186, t187⟩ : S31), t188⟩ : S33)) := ⟨_, rfl⟩
        replace H : (laws_toActS.l0 k1 l0 y189 (wrap64 (x4_1 + 1))) = some r := by first | (rw [hy189]; with_reducible exact H) | (have H2_ := (Option.bind_some _ _).symm.trans H; rw [hy189]; with_reducible exact H2_) | (have H2_ := (Option.bind_some _ _).symm.trans H; with_reducible exact H2_) | with_reducible exact H | (rw [hy189]; exact H) | exact H
        have Ny189 := Am hy189
        clear hy189
        have H' := Am H
        clear H
        have p179 : 0 ≤ (x4_1 : Int) := of_decide_eq_true (by assumption)
        have q179 : x4_1 < (l0.length : Int) := of_decide_eq_true (by assumption)
        obtain ⟨ad179, e179, hx179_0, hx179_1, hx179_2, hx179_3, hx179_4, hx179_5, hx179_6, hx179_7, hx179_8⟩ := at_T104 HR0.out x4_1 p179 q179
        cases e179
        replace hx179_0 := cl2 HB hx179_0
        replace hx179_1 := cl2 HB hx179_1
        replace hx179_2 := cl2 HB hx179_2
        replace hx179_3 := cl2 HB hx179_3
        replace hx179_4 := cl2 HB hx179_4
        replace hx179_5 := cl2 HB hx179_5
        replace hx179_6 := cl2 HB hx179_6
        replace hx179_7 := cl2 HB hx179_7
        replace hx179_8 := cl2 HB hx179_8
        replace p179 := eq_true p179
        replace q179 := eq_true q179
        go_wp2_with (first | ((with_reducible refine gate_callee (f := 74) rfl ?_); refine goesL_ (some 20) rfl rfl Try.func74 (by kernel_rfl) rfl #[.agg #[.int .i64 ((rd_T104 l0 x4_1).f0), .int .i64 ((rd_T104 l0 x4_1).f1), .int .i64 ((rd_T104 l0 x4_1).f2.f0), .string ((rd_T104 l0 x4_1).f2.f1), .string ((rd_T104 l0 x4_1).f2.f2), .int .i64 ((rd_T104 l0 x4_1).f2.f3), .int .i64 ((rd_T104 l0 x4_1).f2.f4), .string ((rd_T104 l0 x4_1).f2.f5), .int .i64 ((rd_T104 l0 x4_1).f3)]] rfl (by (try simp only [List.map_toArray, List.map_cons, List.map_nil]); first | done | rfl | (simp only [List.length_drop, List.length_take]; rfl)) ?_; (with_reducible refine (laws_toAct.calls ((rd_T104 l0 x4_1).f0) ((rd_T104 l0 x4_1).f1) ((rd_T104 l0 x4_1).f2.f0) ((rd_T104 l0 x4_1).f2.f1) ((rd_T104 l0 x4_1).f2.f2) ((rd_T104 l0 x4_1).f2.f3) ((rd_T104 l0 x4_1).f2.f4) ((rd_T104 l0 x4_1).f2.f5) ((rd_T104 l0 x4_1).f3) t180 t181 t182 t183 t184 t185 t186 t187 t188 _ A8.out).mono ?_); rintro e w11 ⟨rfl, hb⟩; refine ⟨_, rfl, ?_⟩; replace HO_3 := Am (rb (by (with_reducible repeat (first | apply ra | apply rn | apply re)); exact HO_3.out) hb); replace HB := Am (bt (by repeat (first | (with_reducible first | exact HB.out | apply ba | apply bn | apply be) | exact HB.out)) hb); (try clear hb); have p10 : 0 ≤ (x4_1 : Int) := of_decide_eq_true (by assumption); have q10 : (x4_1 : Int) < ((x3_1.length : Int) : Int) := of_decide_eq_true (by assumption); obtain ⟨go10, co10, eo10, gb10, gl10, cl10, HG10⟩ := Kd.R_form HO_3.out (by omega); (first | cases eo10 | (injection eo10 with ea_ en_ ec_; (first | subst ea_ | (injection ea_ with ea_; subst ea_)); subst ec_; clear en_)); have GB10 := Am gb10; have GG10 := Am HG10; clear gb10 gl10 HG10; obtain ⟨ce10, hcl10, hM10, hcc10, hfr10⟩ := Kd.R_elem HO_3.out z33 (x4_1 : Int) p10 q10; obtain rfl := k33_openM hM10; have hx10_0 : w11.cell? ⟨go10, (x4_1 : Int).toNat * 9, none⟩ = some (.int .i64 ((rd_T33 x3_1 x4_1).f0)) := hcc10 0 _ rfl; have hx10_1 : w11.cell? ⟨go10, (x4_1 : Int).toNat * 9 + 1, none⟩ = some (.int .i64 ((rd_T33 x3_1 x4_1).f1)) := hcc10 1 _ rfl; have hx10_2 : w11.cell? ⟨go10, (x4_1 : Int).toNat * 9 + 2, none⟩ = some (.int .i64 ((rd_T33 x3_1 x4_1).f2.f0)) := hcc10 2 _ rfl; have hx10_3 : w11.cell? ⟨go10, (x4_1 : Int).toNat * 9 + 3, none⟩ = some (.string ((rd_T33 x3_1 x4_1).f2.f1)) := hcc10 3 _ rfl; have hx10_4 : w11.cell? ⟨go10, (x4_1 : Int).toNat * 9 + 4, none⟩ = some (.string ((rd_T33 x3_1 x4_1).f2.f2)) := hcc10 4 _ rfl; have hx10_5 : w11.cell? ⟨go10, (x4_1 : Int).toNat * 9 + 5, none⟩ = some (.int .i64 ((rd_T33 x3_1 x4_1).f2.f3)) := hcc10 5 _ rfl; have hx10_6 : w11.cell? ⟨go10, (x4_1 : Int).toNat * 9 + 6, none⟩ = some (.int .i64 ((rd_T33 x3_1 x4_1).f2.f4)) := hcc10 6 _ rfl; have hx10_7 : w11.cell? ⟨go10, (x4_1 : Int).toNat * 9 + 7, none⟩ = some (.string ((rd_T33 x3_1 x4_1).f2.f5)) := hcc10 7 _ rfl; have hx10_8 : w11.cell? ⟨go10, (x4_1 : Int).toNat * 9 + 8, none⟩ = some (.int .i64 ((rd_T33 x3_1 x4_1).f3)) := hcc10 8 _ rfl; have hf10_0 : w11.frozen? ⟨go10, (x4_1 : Int).toNat * 9, none⟩ = false := hfr10 0; have hf10_1 : w11.frozen? ⟨go10, (x4_1 : Int).toNat * 9 + 1, none⟩ = false := hfr10 1; have hf10_2 : w11.frozen? ⟨go10, (x4_1 : Int).toNat * 9 + 2, none⟩ = false := hfr10 2; have hf10_3 : w11.frozen? ⟨go10, (x4_1 : Int).toNat * 9 + 3, none⟩ = false := hfr10 3; have hf10_4 : w11.frozen? ⟨go10, (x4_1 : Int).toNat * 9 + 4, none⟩ = false := hfr10 4; have hf10_5 : w11.frozen? ⟨go10, (x4_1 : Int).toNat * 9 + 5, none⟩ = false := hfr10 5; have hf10_6 : w11.frozen? ⟨go10, (x4_1 : Int).toNat * 9 + 6, none⟩ = false := hfr10 6; have hf10_7 : w11.frozen? ⟨go10, (x4_1 : Int).toNat * 9 + 7, none⟩ = false := hfr10 7; have hf10_8 : w11.frozen? ⟨go10, (x4_1 : Int).toNat * 9 + 8, none⟩ = false := hfr10 8; clear hcl10 hcc10 hfr10 hM10; replace p10 := eq_true p10; replace q10 := eq_true q10; have HX12 := Am (show Kd.R k33 33 w11 w.heap.size (fun _ => True) (.slice (some ⟨go10, 0, none⟩) x3_1.length co10) x3_1 from (by (with_reducible repeat (first | apply ra | apply rn | apply re)); exact HO_3.out)); obtain ⟨ce12, hcl12, hM12, hcc12, hfr12⟩ := Kd.R_elem HX12.out z33 (x4_1 : Int) (of_decide_eq_true (by assumption)) (by have h_ : (x4_1 : Int) < ((x3_1.length : Int) : Int) := of_decide_eq_true (by assumption); first | exact h_ | (have e_ := (Kd.R_reads' HO_3.out).1; omega) | simpa using h_); obtain rfl := k33_openM hM12; have HP12 := Kd.R_seg HX12.out (x4_1 : Int) (of_decide_eq_true (by assumption)) (by have h_ : (x4_1 : Int) < ((x3_1.length : Int) : Int) := of_decide_eq_true (by assumption); first | exact h_ | (have e_ := (Kd.R_reads' HO_3.out).1; omega) | simpa using h_) (seg := [.int .i64 t180, .int .i64 t181, .int .i64 t182, .string t183, .string t184, .int .i64 t185, .int .i64 t186, .string t187, .int .i64 t188]) (j := 0) hcl12 hcc12 (show 9 ≤ 9 from by decide) (x' := (⟨t180, t181, (⟨t182, t183, t184, t185, t186, t187⟩ : S31), t188⟩ : S33)) (k33_mkM _ _ _ (⟨t180, t181, (⟨t182, t183, t184, t185, t186, t187⟩ : S31), t188⟩ : S33) ) (fun _ hk => hk); have hx12_0 := hcc12 0 _ rfl; (try simp only [show (k33).sz = 9 from rfl, Nat.mul_one, Nat.add_zero] at hx12_0); have hf12_0 := hfr12 0; (try simp only [show (k33).sz = 9 from rfl, Nat.mul_one, Nat.add_zero] at hf12_0); have hx12_1 := hcc12 1 _ rfl; (try simp only [show (k33).sz = 9 from rfl, Nat.mul_one, Nat.add_zero] at hx12_1); have hf12_1 := hfr12 1; (try simp only [show (k33).sz = 9 from rfl, Nat.mul_one, Nat.add_zero] at hf12_1); have hx12_2 := hcc12 2 _ rfl; (try simp only [show (k33).sz = 9 from rfl, Nat.mul_one, Nat.add_zero] at hx12_2); have hf12_2 := hfr12 2; (try simp only [show (k33).sz = 9 from rfl, Nat.mul_one, Nat.add_zero] at hf12_2); have hx12_3 := hcc12 3 _ rfl; (try simp only [show (k33).sz = 9 from rfl, Nat.mul_one, Nat.add_zero] at hx12_3); have hf12_3 := hfr12 3; (try simp only [show (k33).sz = 9 from rfl, Nat.mul_one, Nat.add_zero] at hf12_3); have hx12_4 := hcc12 4 _ rfl; (try simp only [show (k33).sz = 9 from rfl, Nat.mul_one, Nat.add_zero] at hx12_4); have hf12_4 := hfr12 4; (try simp only [show (k33).sz = 9 from rfl, Nat.mul_one, Nat.add_zero] at hf12_4); have hx12_5 := hcc12 5 _ rfl; (try simp only [show (k33).sz = 9 from rfl, Nat.mul_one, Nat.add_zero] at hx12_5); have hf12_5 := hfr12 5; (try simp only [show (k33).sz = 9 from rfl, Nat.mul_one, Nat.add_zero] at hf12_5); have hx12_6 := hcc12 6 _ rfl; (try simp only [show (k33).sz = 9 from rfl, Nat.mul_one, Nat.add_zero] at hx12_6); have hf12_6 := hfr12 6; (try simp only [show (k33).sz = 9 from rfl, Nat.mul_one, Nat.add_zero] at hf12_6); have hx12_7 := hcc12 7 _ rfl; (try simp only [show (k33).sz = 9 from rfl, Nat.mul_one, Nat.add_zero] at hx12_7); have hf12_7 := hfr12 7; (try simp only [show (k33).sz = 9 from rfl, Nat.mul_one, Nat.add_zero] at hf12_7); have hx12_8 := hcc12 8 _ rfl; (try simp only [show (k33).sz = 9 from rfl, Nat.mul_one, Nat.add_zero] at hx12_8); have hf12_8 := hfr12 8; (try simp only [show (k33).sz = 9 from rfl, Nat.mul_one, Nat.add_zero] at hf12_8); clear hcl12 hcc12 hfr12 hM12) | ((with_reducible refine gate_store (t := 33) (p := 21) rfl ?_); refine store_event (t := 33) (p := 21) (v := ?vo_w13) (w1 := (((((((((w11.setCell ⟨go10, (x4_1 : Int).toNat * 9, none⟩ (.int .i64 t180)).setCell ⟨go10, (x4_1 : Int).toNat * 9 + 1, none⟩ (.int .i64 t181)).setCell ⟨go10, (x4_1 : Int).toNat * 9 + 2, none⟩ (.int .i64 t182)).setCell ⟨go10, (x4_1 : Int).toNat * 9 + 3, none⟩ (.string t183)).setCell ⟨go10, (x4_1 : Int).toNat * 9 + 4, none⟩ (.string t184)).setCell ⟨go10, (x4_1 : Int).toNat * 9 + 5, none⟩ (.int .i64 t185)).setCell ⟨go10, (x4_1 : Int).toNat * 9 + 6, none⟩ (.int .i64 t186)).setCell ⟨go10, (x4_1 : Int).toNat * 9 + 7, none⟩ (.string t187)).setCell ⟨go10, (x4_1 : Int).toNat * 9 + 8, none⟩ (.int .i64 t188))) ?hg ?ho ?hn ?hr ?_; (case ho => rfl); (case hg => rfl); (case hn => rfl); (case hr => first | (go_simp; done) | (go_simp; rfl)); intro w13 hw; have hg : w11.grownBy w13 (some go10) := (by rw [hw]; exact HP12.2); have hp_ : Kd.R k33 33 w13 w.heap.size (fun _ => True) (.slice (some ⟨go10, 0, none⟩) x3_1.length co10) y189 := (by rw [hw, Ny189.out]; exact HP12.1); clear HP12; replace HO_3 := Am (hp_); replace HB := Am ((by rw [hw]; exact bs (bs (bs (bs (bs (bs (bs (bs (bs (HB.out) GB10.out) GB10.out) GB10.out) GB10.out) GB10.out) GB10.out) GB10.out) GB10.out) GB10.out : Below w.heap.size w w13)); clear hg hw hp_))
        go_roundg k1
        case measure => have := HK1.out; omega
        case rel => exact ⟨(y189), (wrap64 (x4_1 + 1)), (by first | rfl | (simp; done) | (simp [*]; done)), H', ⟨by have := HK1.out; omega⟩, ⟨by (with_reducible repeat (first | apply ra | apply rn | apply re)); exact HO_3.out⟩, ⟨by repeat (first | (with_reducible first | apply ba | apply bn | apply be) | exact HB.out)⟩⟩
       ·rw [if_neg c9] at H
        exact absurd H (by simp)
      ·rw [if_neg c7] at H
       exact absurd H (by simp)
     ·rw [if_neg c6] at H
      have c6b0 : decide (x4_1 < (l0.length : Int)) = false := decide_eq_false c6
      clear c6
      obtain rfl := Option.some.inj H
      go_wp2
      go_ret
      exact ⟨_, by first | rfl | (simp [errW_none, errW_some] <;> rfl) | (simp [*, errW_none, errW_some] <;> rfl), by (with_reducible repeat (first | apply ra | apply rn | apply re)); exact HO_3.out, by repeat (first | (with_reducible first | apply ba | apply bn | apply be) | exact HB.out)⟩
  ·rw [if_neg c3] at H
   exact absurd H (by simp)
 ·rw [if_neg c2] at H
  exact absurd H (by simp)

/-! ### laws_eqAsk: function 117 -/
def laws_eqAsk.f (a0_0 : Int) (a0_1 : ByteArray) (a0_2 : ByteArray) (a0_3 : Int) (a0_4 : Int) (a0_5 : ByteArray) (a1_0 : Int) (a1_1 : ByteArray) (a1_2 : ByteArray) (a1_3 : Int) (a1_4 : Int) (a1_5 : ByteArray) : Option (Bool) := if a0_0 = a1_0 then (if a0_1.toList = a1_1.toList then (if a0_2.toList = a1_2.toList then (if a0_3 = a1_3 then (if a0_4 = a1_4 then (if a0_5.toList = a1_5.toList then (some true) else (some false)) else (some false)) else (some false)) else (some false)) else (some false)) else (some false)
set_option maxHeartbeats 8000000 in
set_option maxRecDepth 100000 in
theorem laws_eqAsk.calls (a0_0 : Int) (a0_1 : ByteArray) (a0_2 : ByteArray) (a0_3 : Int) (a0_4 : Int) (a0_5 : ByteArray) (a1_0 : Int) (a1_1 : ByteArray) (a1_2 : ByteArray) (a1_3 : Int) (a1_4 : Int) (a1_5 : ByteArray) (r : Bool) (w : World) (h : laws_eqAsk.f a0_0 a0_1 a0_2 a0_3 a0_4 a0_5 a1_0 a1_1 a1_2 a1_3 a1_4 a1_5 = some r) :
  Calls Try.prog 117 #[.agg #[.int .i64 a0_0, .string a0_1, .string a0_2, .int .i64 a0_3, .int .i64 a0_4, .string a0_5], .agg #[.int .i64 a1_0, .string a1_1, .string a1_2, .int .i64 a1_3, .int .i64 a1_4, .string a1_5]] w fun e w' => e = .returned (.bool r) ∧ Below w.heap.size w w' := by
 have hu31 := Try.underlying31
 have HB := Am (Below.refl w.heap.size w)
 have H : (if a0_0 = a1_0 then (if a0_1.toList = a1_1.toList then (if a0_2.toList = a1_2.toList then (if a0_3 = a1_3 then (if a0_4 = a1_4 then (if a0_5.toList = a1_5.toList then (some true) else (some false)) else (some false)) else (some false)) else (some false)) else (some false)) else (some false)) = some r := h
 clear h
 by_cases c3 : a0_0 = a1_0
 ·rw [if_pos c3] at H
  have c3b0 : (a0_0 == a1_0) = true := beq_iff_eq.mpr c3
  have c3b1 : (a0_0 != a1_0) = false := bne_eq_false_iff_eq.mpr c3
  clear c3
  by_cases c4 : a0_1.toList = a1_1.toList
  ·rw [if_pos c4] at H
   have c4b0 : (a0_1.toList == a1_1.toList) = true := beq_iff_eq.mpr c4
   have c4b1 : (a0_1.toList != a1_1.toList) = false := bne_eq_false_iff_eq.mpr c4
   clear c4
   by_cases c5 : a0_2.toList = a1_2.toList
   ·rw [if_pos c5] at H
    have c5b0 : (a0_2.toList == a1_2.toList) = true := beq_iff_eq.mpr c5
    have c5b1 : (a0_2.toList != a1_2.toList) = false := bne_eq_false_iff_eq.mpr c5
    clear c5
    by_cases c6 : a0_3 = a1_3
    ·rw [if_pos c6] at H
     have c6b0 : (a0_3 == a1_3) = true := beq_iff_eq.mpr c6
     have c6b1 : (a0_3 != a1_3) = false := bne_eq_false_iff_eq.mpr c6
     clear c6
     by_cases c7 : a0_4 = a1_4
     ·rw [if_pos c7] at H
      have c7b0 : (a0_4 == a1_4) = true := beq_iff_eq.mpr c7
      have c7b1 : (a0_4 != a1_4) = false := bne_eq_false_iff_eq.mpr c7
      clear c7
      by_cases c8 : a0_5.toList = a1_5.toList
      ·rw [if_pos c8] at H
       have c8b0 : (a0_5.toList == a1_5.toList) = true := beq_iff_eq.mpr c8
       have c8b1 : (a0_5.toList != a1_5.toList) = false := bne_eq_false_iff_eq.mpr c8
       clear c8
       obtain rfl := Option.some.inj H
       go_enter Try.func117, Try.ntmps117
       go_wp2_with (first | ((with_reducible refine gate_dst (N := 2) rfl ?_); refine box_event ?hg (N := 2) ?hd (cs := #[.int .i64 a0_0, .string a0_1, .string a0_2, .int .i64 a0_3, .int .i64 a0_4, .string a0_5]) (t := 31) ?hr ?_; (case hd => rfl); (case hg => rfl); (case hr => first | (go_simp; done) | (go_simp; rfl)); intro gb190 hg w9 hbox hb; have BK190 := Am (hbox); have GW190 := Am ((by rw [hg]; exact (bz (by repeat (first | (with_reducible first | exact HB.out | apply ba | apply bn | apply be) | exact HB.out))) : w.heap.size ≤ gb190)); have GE190 := Am ((by rw [hg]; exact (bz (by repeat (first | (with_reducible first | exact HB.out | apply ba | apply bn | apply be) | exact HB.out))) : w.heap.size ≤ gb190)); replace HB := Am (bt (by repeat (first | (with_reducible first | exact HB.out | apply ba | apply bn | apply be) | exact HB.out)) hb); clear hb hbox hg) | ((with_reducible refine gate_dst (N := 3) rfl ?_); refine box_event ?hg (N := 3) ?hd (cs := #[.int .i64 a1_0, .string a1_1, .string a1_2, .int .i64 a1_3, .int .i64 a1_4, .string a1_5]) (t := 31) ?hr ?_; (case hd => rfl); (case hg => rfl); (case hr => first | (go_simp; done) | (go_simp; rfl)); intro gb191 hg w10 hbox hb; have n0_ := Am (kb (g := gb190) (o := o2b0 a0_0 a0_1 a0_2 a0_3 a0_4 a0_5) (by (with_reducible repeat (first | refine kn ?_ _ | refine ke ?_ | refine ka ?_ _)); exact BK190.out) hb); have n1_ := Am (bt (by repeat (first | (with_reducible first | exact HB.out | apply ba | apply bn | apply be | refine bs ?_ GE190.out) | exact HB.out)) hb); have n2_ := Am (hbox); have n3_ := Am ((by rw [hg]; exact (bz (by repeat (first | (with_reducible first | exact HB.out | apply ba | apply bn | apply be | refine bs ?_ GE190.out) | exact HB.out))) : w.heap.size ≤ gb191)); have n4_ := Am ((by rw [hg]; exact (bz (by repeat (first | (with_reducible first | exact HB.out | apply ba | apply bn | apply be | refine bs ?_ GE190.out) | exact HB.out))) : w.heap.size ≤ gb191)); have n5_ := Am ((by rw [hg]; exact Nat.ne_of_lt (kl (g := gb190) (o := o2b0 a0_0 a0_1 a0_2 a0_3 a0_4 a0_5) (by (with_reducible repeat (first | refine kn ?_ _ | refine ke ?_ | refine ka ?_ _)); exact BK190.out)) : gb190 ≠ gb191)); have n6_ := Am ((by rw [hg]; exact Nat.ne_of_gt (kl (g := gb190) (o := o2b0 a0_0 a0_1 a0_2 a0_3 a0_4 a0_5) (by (with_reducible repeat (first | refine kn ?_ _ | refine ke ?_ | refine ka ?_ _)); exact BK190.out)) : gb191 ≠ gb190)); clear BK190; clear HB; have BK190 := n0_; have HB := n1_; have BK191 := n2_; have GW191 := n3_; have GE191 := n4_; have NB190_191 := n5_; have NB191_190 := n6_; clear n0_ n1_ n2_ n3_ n4_ n5_ n6_; clear hb hbox hg; have hnb11 := NB190_191.out; have hnc11 := NB191_190.out; have hcz12_0 : w10.cell? ⟨gb190, 0, none⟩ = some (.int .i64 a0_0) := (kc BK190.out 0).trans rfl; have hcz12_1 : w10.cell? ⟨gb190, 1, none⟩ = some (.string a0_1) := (kc BK190.out 1).trans rfl; have hcz12_2 : w10.cell? ⟨gb190, 2, none⟩ = some (.string a0_2) := (kc BK190.out 2).trans rfl; have hcz12_3 : w10.cell? ⟨gb190, 3, none⟩ = some (.int .i64 a0_3) := (kc BK190.out 3).trans rfl; have hcz12_4 : w10.cell? ⟨gb190, 4, none⟩ = some (.int .i64 a0_4) := (kc BK190.out 4).trans rfl; have hcz12_5 : w10.cell? ⟨gb190, 5, none⟩ = some (.string a0_5) := (kc BK190.out 5).trans rfl; have hfz12_0 := kf BK190.out 0; have hfz12_1 := kf BK190.out 1; have hfz12_2 := kf BK190.out 2; have hfz12_3 := kf BK190.out 3; have hfz12_4 := kf BK190.out 4; have hfz12_5 := kf BK190.out 5; have hcz13_0 : w10.cell? ⟨gb191, 0, none⟩ = some (.int .i64 a1_0) := (kc BK191.out 0).trans rfl; have hcz13_1 : w10.cell? ⟨gb191, 1, none⟩ = some (.string a1_1) := (kc BK191.out 1).trans rfl; have hcz13_2 : w10.cell? ⟨gb191, 2, none⟩ = some (.string a1_2) := (kc BK191.out 2).trans rfl; have hcz13_3 : w10.cell? ⟨gb191, 3, none⟩ = some (.int .i64 a1_3) := (kc BK191.out 3).trans rfl; have hcz13_4 : w10.cell? ⟨gb191, 4, none⟩ = some (.int .i64 a1_4) := (kc BK191.out 4).trans rfl; have hcz13_5 : w10.cell? ⟨gb191, 5, none⟩ = some (.string a1_5) := (kc BK191.out 5).trans rfl; have hfz13_0 := kf BK191.out 0; have hfz13_1 := kf BK191.out 1; have hfz13_2 := kf BK191.out 2; have hfz13_3 := kf BK191.out 3; have hfz13_4 := kf BK191.out 4; have hfz13_5 := kf BK191.out 5))
       go_ret
       exact ⟨by first | rfl | (simp [errW_none, errW_some] <;> rfl) | (simp [*, errW_none, errW_some] <;> rfl), by repeat (first | (with_reducible first | exact HB.out | apply ba | apply bn | apply be | refine bs ?_ GE190.out | refine bs ?_ GE191.out) | exact HB.out)⟩
      ·rw [if_neg c8] at H
       have c8b0 : (a0_5.toList == a1_5.toList) = false := beq_eq_false_iff_ne.mpr c8
       have c8b1 : (a0_5.toList != a1_5.toList) = true := bne_iff_ne.mpr c8
       obtain rfl := Option.some.inj H
       go_enter Try.func117, Try.ntmps117
       go_wp2_with (first | ((with_reducible refine gate_dst (N := 2) rfl ?_); refine box_event ?hg (N := 2) ?hd (cs := #[.int .i64 a0_0, .string a0_1, .string a0_2, .int .i64 a0_3, .int .i64 a0_4, .string a0_5]) (t := 31) ?hr ?_; (case hd => rfl); (case hg => rfl); (case hr => first | (go_simp; done) | (go_simp; rfl)); intro gb190 hg w14 hbox hb; have BK190 := Am (hbox); have GW190 := Am ((by rw [hg]; exact (bz (by repeat (first | (with_reducible first | exact HB.out | apply ba | apply bn | apply be) | exact HB.out))) : w.heap.size ≤ gb190)); have GE190 := Am ((by rw [hg]; exact (bz (by repeat (first | (with_reducible first | exact HB.out | apply ba | apply bn | apply be) | exact HB.out))) : w.heap.size ≤ gb190)); replace HB := Am (bt (by repeat (first | (with_reducible first | exact HB.out | apply ba | apply bn | apply be) | exact HB.out)) hb); clear hb hbox hg) | ((with_reducible refine gate_dst (N := 3) rfl ?_); refine box_event ?hg (N := 3) ?hd (cs := #[.int .i64 a1_0, .string a1_1, .string a1_2, .int .i64 a1_3, .int .i64 a1_4, .string a1_5]) (t := 31) ?hr ?_; (case hd => rfl); (case hg => rfl); (case hr => first | (go_simp; done) | (go_simp; rfl)); intro gb191 hg w15 hbox hb; have n0_ := Am (kb (g := gb190) (o := o2b0 a0_0 a0_1 a0_2 a0_3 a0_4 a0_5) (by (with_reducible repeat (first | refine kn ?_ _ | refine ke ?_ | refine ka ?_ _)); exact BK190.out) hb); have n1_ := Am (bt (by repeat (first | (with_reducible first | exact HB.out | apply ba | apply bn | apply be | refine bs ?_ GE190.out) | exact HB.out)) hb); have n2_ := Am (hbox); have n3_ := Am ((by rw [hg]; exact (bz (by repeat (first | (with_reducible first | exact HB.out | apply ba | apply bn | apply be | refine bs ?_ GE190.out) | exact HB.out))) : w.heap.size ≤ gb191)); have n4_ := Am ((by rw [hg]; exact (bz (by repeat (first | (with_reducible first | exact HB.out | apply ba | apply bn | apply be | refine bs ?_ GE190.out) | exact HB.out))) : w.heap.size ≤ gb191)); have n5_ := Am ((by rw [hg]; exact Nat.ne_of_lt (kl (g := gb190) (o := o2b0 a0_0 a0_1 a0_2 a0_3 a0_4 a0_5) (by (with_reducible repeat (first | refine kn ?_ _ | refine ke ?_ | refine ka ?_ _)); exact BK190.out)) : gb190 ≠ gb191)); have n6_ := Am ((by rw [hg]; exact Nat.ne_of_gt (kl (g := gb190) (o := o2b0 a0_0 a0_1 a0_2 a0_3 a0_4 a0_5) (by (with_reducible repeat (first | refine kn ?_ _ | refine ke ?_ | refine ka ?_ _)); exact BK190.out)) : gb191 ≠ gb190)); clear BK190; clear HB; have BK190 := n0_; have HB := n1_; have BK191 := n2_; have GW191 := n3_; have GE191 := n4_; have NB190_191 := n5_; have NB191_190 := n6_; clear n0_ n1_ n2_ n3_ n4_ n5_ n6_; clear hb hbox hg; have hnb16 := NB190_191.out; have hnc16 := NB191_190.out; have hcz17_0 : w15.cell? ⟨gb190, 0, none⟩ = some (.int .i64 a0_0) := (kc BK190.out 0).trans rfl; have hcz17_1 : w15.cell? ⟨gb190, 1, none⟩ = some (.string a0_1) := (kc BK190.out 1).trans rfl; have hcz17_2 : w15.cell? ⟨gb190, 2, none⟩ = some (.string a0_2) := (kc BK190.out 2).trans rfl; have hcz17_3 : w15.cell? ⟨gb190, 3, none⟩ = some (.int .i64 a0_3) := (kc BK190.out 3).trans rfl; have hcz17_4 : w15.cell? ⟨gb190, 4, none⟩ = some (.int .i64 a0_4) := (kc BK190.out 4).trans rfl; have hcz17_5 : w15.cell? ⟨gb190, 5, none⟩ = some (.string a0_5) := (kc BK190.out 5).trans rfl; have hfz17_0 := kf BK190.out 0; have hfz17_1 := kf BK190.out 1; have hfz17_2 := kf BK190.out 2; have hfz17_3 := kf BK190.out 3; have hfz17_4 := kf BK190.out 4; have hfz17_5 := kf BK190.out 5; have hcz18_0 : w15.cell? ⟨gb191, 0, none⟩ = some (.int .i64 a1_0) := (kc BK191.out 0).trans rfl; have hcz18_1 : w15.cell? ⟨gb191, 1, none⟩ = some (.string a1_1) := (kc BK191.out 1).trans rfl; have hcz18_2 : w15.cell? ⟨gb191, 2, none⟩ = some (.string a1_2) := (kc BK191.out 2).trans rfl; have hcz18_3 : w15.cell? ⟨gb191, 3, none⟩ = some (.int .i64 a1_3) := (kc BK191.out 3).trans rfl; have hcz18_4 : w15.cell? ⟨gb191, 4, none⟩ = some (.int .i64 a1_4) := (kc BK191.out 4).trans rfl; have hcz18_5 : w15.cell? ⟨gb191, 5, none⟩ = some (.string a1_5) := (kc BK191.out 5).trans rfl; have hfz18_0 := kf BK191.out 0; have hfz18_1 := kf BK191.out 1; have hfz18_2 := kf BK191.out 2; have hfz18_3 := kf BK191.out 3; have hfz18_4 := kf BK191.out 4; have hfz18_5 := kf BK191.out 5))
       go_ret
       exact ⟨by first | rfl | (simp [errW_none, errW_some] <;> rfl) | (simp [*, errW_none, errW_some] <;> rfl), by repeat (first | (with_reducible first | exact HB.out | apply ba | apply bn | apply be | refine bs ?_ GE190.out | refine bs ?_ GE191.out) | exact HB.out)⟩
     ·rw [if_neg c7] at H
      have c7b0 : (a0_4 == a1_4) = false := beq_eq_false_iff_ne.mpr c7
      have c7b1 : (a0_4 != a1_4) = true := bne_iff_ne.mpr c7
      obtain rfl := Option.some.inj H
      go_enter Try.func117, Try.ntmps117
      go_wp2_with (first | ((with_reducible refine gate_dst (N := 2) rfl ?_); refine box_event ?hg (N := 2) ?hd (cs := #[.int .i64 a0_0, .string a0_1, .string a0_2, .int .i64 a0_3, .int .i64 a0_4, .string a0_5]) (t := 31) ?hr ?_; (case hd => rfl); (case hg => rfl); (case hr => first | (go_simp; done) | (go_simp; rfl)); intro gb190 hg w19 hbox hb; have BK190 := Am (hbox); have GW190 := Am ((by rw [hg]; exact (bz (by repeat (first | (with_reducible first | exact HB.out | apply ba | apply bn | apply be) | exact HB.out))) : w.heap.size ≤ gb190)); have GE190 := Am ((by rw [hg]; exact (bz (by repeat (first | (with_reducible first | exact HB.out | apply ba | apply bn | apply be) | exact HB.out))) : w.heap.size ≤ gb190)); replace HB := Am (bt (by repeat (first | (with_reducible first | exact HB.out | apply ba | apply bn | apply be) | exact HB.out)) hb); clear hb hbox hg) | ((with_reducible refine gate_dst (N := 3) rfl ?_); refine box_event ?hg (N := 3) ?hd (cs := #[.int .i64 a1_0, .string a1_1, .string a1_2, .int .i64 a1_3, .int .i64 a1_4, .string a1_5]) (t := 31) ?hr ?_; (case hd => rfl); (case hg => rfl); (case hr => first | (go_simp; done) | (go_simp; rfl)); intro gb191 hg w20 hbox hb; have n0_ := Am (kb (g := gb190) (o := o2b0 a0_0 a0_1 a0_2 a0_3 a0_4 a0_5) (by (with_reducible repeat (first | refine kn ?_ _ | refine ke ?_ | refine ka ?_ _)); exact BK190.out) hb); have n1_ := Am (bt (by repeat (first | (with_reducible first | exact HB.out | apply ba | apply bn | apply be | refine bs ?_ GE190.out) | exact HB.out)) hb); have n2_ := Am (hbox); have n3_ := Am ((by rw [hg]; exact (bz (by repeat (first | (with_reducible first | exact HB.out | apply ba | apply bn | apply be | refine bs ?_ GE190.out) | exact HB.out))) : w.heap.size ≤ gb191)); have n4_ := Am ((by rw [hg]; exact (bz (by repeat (first | (with_reducible first | exact HB.out | apply ba | apply bn | apply be | refine bs ?_ GE190.out) | exact HB.out))) : w.heap.size ≤ gb191)); have n5_ := Am ((by rw [hg]; exact Nat.ne_of_lt (kl (g := gb190) (o := o2b0 a0_0 a0_1 a0_2 a0_3 a0_4 a0_5) (by (with_reducible repeat (first | refine kn ?_ _ | refine ke ?_ | refine ka ?_ _)); exact BK190.out)) : gb190 ≠ gb191)); have n6_ := Am ((by rw [hg]; exact Nat.ne_of_gt (kl (g := gb190) (o := o2b0 a0_0 a0_1 a0_2 a0_3 a0_4 a0_5) (by (with_reducible repeat (first | refine kn ?_ _ | refine ke ?_ | refine ka ?_ _)); exact BK190.out)) : gb191 ≠ gb190)); clear BK190; clear HB; have BK190 := n0_; have HB := n1_; have BK191 := n2_; have GW191 := n3_; have GE191 := n4_; have NB190_191 := n5_; have NB191_190 := n6_; clear n0_ n1_ n2_ n3_ n4_ n5_ n6_; clear hb hbox hg; have hnb21 := NB190_191.out; have hnc21 := NB191_190.out; have hcz22_0 : w20.cell? ⟨gb190, 0, none⟩ = some (.int .i64 a0_0) := (kc BK190.out 0).trans rfl; have hcz22_1 : w20.cell? ⟨gb190, 1, none⟩ = some (.string a0_1) := (kc BK190.out 1).trans rfl; have hcz22_2 : w20.cell? ⟨gb190, 2, none⟩ = some (.string a0_2) := (kc BK190.out 2).trans rfl; have hcz22_3 : w20.cell? ⟨gb190, 3, none⟩ = some (.int .i64 a0_3) := (kc BK190.out 3).trans rfl; have hcz22_4 : w20.cell? ⟨gb190, 4, none⟩ = some (.int .i64 a0_4) := (kc BK190.out 4).trans rfl; have hcz22_5 : w20.cell? ⟨gb190, 5, none⟩ = some (.string a0_5) := (kc BK190.out 5).trans rfl; have hfz22_0 := kf BK190.out 0; have hfz22_1 := kf BK190.out 1; have hfz22_2 := kf BK190.out 2; have hfz22_3 := kf BK190.out 3; have hfz22_4 := kf BK190.out 4; have hfz22_5 := kf BK190.out 5; have hcz23_0 : w20.cell? ⟨gb191, 0, none⟩ = some (.int .i64 a1_0) := (kc BK191.out 0).trans rfl; have hcz23_1 : w20.cell? ⟨gb191, 1, none⟩ = some (.string a1_1) := (kc BK191.out 1).trans rfl; have hcz23_2 : w20.cell? ⟨gb191, 2, none⟩ = some (.string a1_2) := (kc BK191.out 2).trans rfl; have hcz23_3 : w20.cell? ⟨gb191, 3, none⟩ = some (.int .i64 a1_3) := (kc BK191.out 3).trans rfl; have hcz23_4 : w20.cell? ⟨gb191, 4, none⟩ = some (.int .i64 a1_4) := (kc BK191.out 4).trans rfl; have hcz23_5 : w20.cell? ⟨gb191, 5, none⟩ = some (.string a1_5) := (kc BK191.out 5).trans rfl; have hfz23_0 := kf BK191.out 0; have hfz23_1 := kf BK191.out 1; have hfz23_2 := kf BK191.out 2; have hfz23_3 := kf BK191.out 3; have hfz23_4 := kf BK191.out 4; have hfz23_5 := kf BK191.out 5))
      go_ret
      exact ⟨by first | rfl | (simp [errW_none, errW_some] <;> rfl) | (simp [*, errW_none, errW_some] <;> rfl), by repeat (first | (with_reducible first | exact HB.out | apply ba | apply bn | apply be | refine bs ?_ GE190.out | refine bs ?_ GE191.out) | exact HB.out)⟩
    ·rw [if_neg c6] at H
     have c6b0 : (a0_3 == a1_3) = false := beq_eq_false_iff_ne.mpr c6
     have c6b1 : (a0_3 != a1_3) = true := bne_iff_ne.mpr c6
     obtain rfl := Option.some.inj H
     go_enter Try.func117, Try.ntmps117
     go_wp2_with (first | ((with_reducible refine gate_dst (N := 2) rfl ?_); refine box_event ?hg (N := 2) ?hd (cs := #[.int .i64 a0_0, .string a0_1, .string a0_2, .int .i64 a0_3, .int .i64 a0_4, .string a0_5]) (t := 31) ?hr ?_; (case hd => rfl); (case hg => rfl); (case hr => first | (go_simp; done) | (go_simp; rfl)); intro gb190 hg w24 hbox hb; have BK190 := Am (hbox); have GW190 := Am ((by rw [hg]; exact (bz (by repeat (first | (with_reducible first | exact HB.out | apply ba | apply bn | apply be) | exact HB.out))) : w.heap.size ≤ gb190)); have GE190 := Am ((by rw [hg]; exact (bz (by repeat (first | (with_reducible first | exact HB.out | apply ba | apply bn | apply be) | exact HB.out))) : w.heap.size ≤ gb190)); replace HB := Am (bt (by repeat (first | (with_reducible first | exact HB.out | apply ba | apply bn | apply be) | exact HB.out)) hb); clear hb hbox hg) | ((with_reducible refine gate_dst (N := 3) rfl ?_); refine box_event ?hg (N := 3) ?hd (cs := #[.int .i64 a1_0, .string a1_1, .string a1_2, .int .i64 a1_3, .int .i64 a1_4, .string a1_5]) (t := 31) ?hr ?_; (case hd => rfl); (case hg => rfl); (case hr => first | (go_simp; done) | (go_simp; rfl)); intro gb191 hg w25 hbox hb; have n0_ := Am (kb (g := gb190) (o := o2b0 a0_0 a0_1 a0_2 a0_3 a0_4 a0_5) (by (with_reducible repeat (first | refine kn ?_ _ | refine ke ?_ | refine ka ?_ _)); exact BK190.out) hb); have n1_ := Am (bt (by repeat (first | (with_reducible first | exact HB.out | apply ba | apply bn | apply be | refine bs ?_ GE190.out) | exact HB.out)) hb); have n2_ := Am (hbox); have n3_ := Am ((by rw [hg]; exact (bz (by repeat (first | (with_reducible first | exact HB.out | apply ba | apply bn | apply be | refine bs ?_ GE190.out) | exact HB.out))) : w.heap.size ≤ gb191)); have n4_ := Am ((by rw [hg]; exact (bz (by repeat (first | (with_reducible first | exact HB.out | apply ba | apply bn | apply be | refine bs ?_ GE190.out) | exact HB.out))) : w.heap.size ≤ gb191)); have n5_ := Am ((by rw [hg]; exact Nat.ne_of_lt (kl (g := gb190) (o := o2b0 a0_0 a0_1 a0_2 a0_3 a0_4 a0_5) (by (with_reducible repeat (first | refine kn ?_ _ | refine ke ?_ | refine ka ?_ _)); exact BK190.out)) : gb190 ≠ gb191)); have n6_ := Am ((by rw [hg]; exact Nat.ne_of_gt (kl (g := gb190) (o := o2b0 a0_0 a0_1 a0_2 a0_3 a0_4 a0_5) (by (with_reducible repeat (first | refine kn ?_ _ | refine ke ?_ | refine ka ?_ _)); exact BK190.out)) : gb191 ≠ gb190)); clear BK190; clear HB; have BK190 := n0_; have HB := n1_; have BK191 := n2_; have GW191 := n3_; have GE191 := n4_; have NB190_191 := n5_; have NB191_190 := n6_; clear n0_ n1_ n2_ n3_ n4_ n5_ n6_; clear hb hbox hg; have hnb26 := NB190_191.out; have hnc26 := NB191_190.out; have hcz27_0 : w25.cell? ⟨gb190, 0, none⟩ = some (.int .i64 a0_0) := (kc BK190.out 0).trans rfl; have hcz27_1 : w25.cell? ⟨gb190, 1, none⟩ = some (.string a0_1) := (kc BK190.out 1).trans rfl; have hcz27_2 : w25.cell? ⟨gb190, 2, none⟩ = some (.string a0_2) := (kc BK190.out 2).trans rfl; have hcz27_3 : w25.cell? ⟨gb190, 3, none⟩ = some (.int .i64 a0_3) := (kc BK190.out 3).trans rfl; have hcz27_4 : w25.cell? ⟨gb190, 4, none⟩ = some (.int .i64 a0_4) := (kc BK190.out 4).trans rfl; have hcz27_5 : w25.cell? ⟨gb190, 5, none⟩ = some (.string a0_5) := (kc BK190.out 5).trans rfl; have hfz27_0 := kf BK190.out 0; have hfz27_1 := kf BK190.out 1; have hfz27_2 := kf BK190.out 2; have hfz27_3 := kf BK190.out 3; have hfz27_4 := kf BK190.out 4; have hfz27_5 := kf BK190.out 5; have hcz28_0 : w25.cell? ⟨gb191, 0, none⟩ = some (.int .i64 a1_0) := (kc BK191.out 0).trans rfl; have hcz28_1 : w25.cell? ⟨gb191, 1, none⟩ = some (.string a1_1) := (kc BK191.out 1).trans rfl; have hcz28_2 : w25.cell? ⟨gb191, 2, none⟩ = some (.string a1_2) := (kc BK191.out 2).trans rfl; have hcz28_3 : w25.cell? ⟨gb191, 3, none⟩ = some (.int .i64 a1_3) := (kc BK191.out 3).trans rfl; have hcz28_4 : w25.cell? ⟨gb191, 4, none⟩ = some (.int .i64 a1_4) := (kc BK191.out 4).trans rfl; have hcz28_5 : w25.cell? ⟨gb191, 5, none⟩ = some (.string a1_5) := (kc BK191.out 5).trans rfl; have hfz28_0 := kf BK191.out 0; have hfz28_1 := kf BK191.out 1; have hfz28_2 := kf BK191.out 2; have hfz28_3 := kf BK191.out 3; have hfz28_4 := kf BK191.out 4; have hfz28_5 := kf BK191.out 5))
     go_ret
     exact ⟨by first | rfl | (simp [errW_none, errW_some] <;> rfl) | (simp [*, errW_none, errW_some] <;> rfl), by repeat (first | (with_reducible first | exact HB.out | apply ba | apply bn | apply be | refine bs ?_ GE190.out | refine bs ?_ GE191.out) | exact HB.out)⟩
   ·rw [if_neg c5] at H
    have c5b0 : (a0_2.toList == a1_2.toList) = false := beq_eq_false_iff_ne.mpr c5
    have c5b1 : (a0_2.toList != a1_2.toList) = true := bne_iff_ne.mpr c5
    obtain rfl := Option.some.inj H
    go_enter Try.func117, Try.ntmps117
    go_wp2_with (first | ((with_reducible refine gate_dst (N := 2) rfl ?_); refine box_event ?hg (N := 2) ?hd (cs := #[.int .i64 a0_0, .string a0_1, .string a0_2, .int .i64 a0_3, .int .i64 a0_4, .string a0_5]) (t := 31) ?hr ?_; (case hd => rfl); (case hg => rfl); (case hr => first | (go_simp; done) | (go_simp; rfl)); intro gb190 hg w29 hbox hb; have BK190 := Am (hbox); have GW190 := Am ((by rw [hg]; exact (bz (by repeat (first | (with_reducible first | exact HB.out | apply ba | apply bn | apply be) | exact HB.out))) : w.heap.size ≤ gb190)); have GE190 := Am ((by rw [hg]; exact (bz (by repeat (first | (with_reducible first | exact HB.out | apply ba | apply bn | apply be) | exact HB.out))) : w.heap.size ≤ gb190)); replace HB := Am (bt (by repeat (first | (with_reducible first | exact HB.out | apply ba | apply bn | apply be) | exact HB.out)) hb); clear hb hbox hg) | ((with_reducible refine gate_dst (N := 3) rfl ?_); refine box_event ?hg (N := 3) ?hd (cs := #[.int .i64 a1_0, .string a1_1, .string a1_2, .int .i64 a1_3, .int .i64 a1_4, .string a1_5]) (t := 31) ?hr ?_; (case hd => rfl); (case hg => rfl); (case hr => first | (go_simp; done) | (go_simp; rfl)); intro gb191 hg w30 hbox hb; have n0_ := Am (kb (g := gb190) (o := o2b0 a0_0 a0_1 a0_2 a0_3 a0_4 a0_5) (by (with_reducible repeat (first | refine kn ?_ _ | refine ke ?_ | refine ka ?_ _)); exact BK190.out) hb); have n1_ := Am (bt (by repeat (first | (with_reducible first | exact HB.out | apply ba | apply bn | apply be | refine bs ?_ GE190.out) | exact HB.out)) hb); have n2_ := Am (hbox); have n3_ := Am ((by rw [hg]; exact (bz (by repeat (first | (with_reducible first | exact HB.out | apply ba | apply bn | apply be | refine bs ?_ GE190.out) | exact HB.out))) : w.heap.size ≤ gb191)); have n4_ := Am ((by rw [hg]; exact (bz (by repeat (first | (with_reducible first | exact HB.out | apply ba | apply bn | apply be | refine bs ?_ GE190.out) | exact HB.out))) : w.heap.size ≤ gb191)); have n5_ := Am ((by rw [hg]; exact Nat.ne_of_lt (kl (g := gb190) (o := o2b0 a0_0 a0_1 a0_2 a0_3 a0_4 a0_5) (by (with_reducible repeat (first | refine kn ?_ _ | refine ke ?_ | refine ka ?_ _)); exact BK190.out)) : gb190 ≠ gb191)); have n6_ := Am ((by rw [hg]; exact Nat.ne_of_gt (kl (g := gb190) (o := o2b0 a0_0 a0_1 a0_2 a0_3 a0_4 a0_5) (by (with_reducible repeat (first | refine kn ?_ _ | refine ke ?_ | refine ka ?_ _)); exact BK190.out)) : gb191 ≠ gb190)); clear BK190; clear HB; have BK190 := n0_; have HB := n1_; have BK191 := n2_; have GW191 := n3_; have GE191 := n4_; have NB190_191 := n5_; have NB191_190 := n6_; clear n0_ n1_ n2_ n3_ n4_ n5_ n6_; clear hb hbox hg; have hnb31 := NB190_191.out; have hnc31 := NB191_190.out; have hcz32_0 : w30.cell? ⟨gb190, 0, none⟩ = some (.int .i64 a0_0) := (kc BK190.out 0).trans rfl; have hcz32_1 : w30.cell? ⟨gb190, 1, none⟩ = some (.string a0_1) := (kc BK190.out 1).trans rfl; have hcz32_2 : w30.cell? ⟨gb190, 2, none⟩ = some (.string a0_2) := (kc BK190.out 2).trans rfl; have hcz32_3 : w30.cell? ⟨gb190, 3, none⟩ = some (.int .i64 a0_3) := (kc BK190.out 3).trans rfl; have hcz32_4 : w30.cell? ⟨gb190, 4, none⟩ = some (.int .i64 a0_4) := (kc BK190.out 4).trans rfl; have hcz32_5 : w30.cell? ⟨gb190, 5, none⟩ = some (.string a0_5) := (kc BK190.out 5).trans rfl; have hfz32_0 := kf BK190.out 0; have hfz32_1 := kf BK190.out 1; have hfz32_2 := kf BK190.out 2; have hfz32_3 := kf BK190.out 3; have hfz32_4 := kf BK190.out 4; have hfz32_5 := kf BK190.out 5; have hcz33_0 : w30.cell? ⟨gb191, 0, none⟩ = some (.int .i64 a1_0) := (kc BK191.out 0).trans rfl; have hcz33_1 : w30.cell? ⟨gb191, 1, none⟩ = some (.string a1_1) := (kc BK191.out 1).trans rfl; have hcz33_2 : w30.cell? ⟨gb191, 2, none⟩ = some (.string a1_2) := (kc BK191.out 2).trans rfl; have hcz33_3 : w30.cell? ⟨gb191, 3, none⟩ = some (.int .i64 a1_3) := (kc BK191.out 3).trans rfl; have hcz33_4 : w30.cell? ⟨gb191, 4, none⟩ = some (.int .i64 a1_4) := (kc BK191.out 4).trans rfl; have hcz33_5 : w30.cell? ⟨gb191, 5, none⟩ = some (.string a1_5) := (kc BK191.out 5).trans rfl; have hfz33_0 := kf BK191.out 0; have hfz33_1 := kf BK191.out 1; have hfz33_2 := kf BK191.out 2; have hfz33_3 := kf BK191.out 3; have hfz33_4 := kf BK191.out 4; have hfz33_5 := kf BK191.out 5))
    go_ret
    exact ⟨by first | rfl | (simp [errW_none, errW_some] <;> rfl) | (simp [*, errW_none, errW_some] <;> rfl), by repeat (first | (with_reducible first | exact HB.out | apply ba | apply bn | apply be | refine bs ?_ GE190.out | refine bs ?_ GE191.out) | exact HB.out)⟩
  ·rw [if_neg c4] at H
   have c4b0 : (a0_1.toList == a1_1.toList) = false := beq_eq_false_iff_ne.mpr c4
   have c4b1 : (a0_1.toList != a1_1.toList) = true := bne_iff_ne.mpr c4
   obtain rfl := Option.some.inj H
   go_enter Try.func117, Try.ntmps117
   go_wp2_with (first | ((with_reducible refine gate_dst (N := 2) rfl ?_); refine box_event ?hg (N := 2) ?hd (cs := #[.int .i64 a0_0, .string a0_1, .string a0_2, .int .i64 a0_3, .int .i64 a0_4, .string a0_5]) (t := 31) ?hr ?_; (case hd => rfl); (case hg => rfl); (case hr => first | (go_simp; done) | (go_simp; rfl)); intro gb190 hg w34 hbox hb; have BK190 := Am (hbox); have GW190 := Am ((by rw [hg]; exact (bz (by repeat (first | (with_reducible first | exact HB.out | apply ba | apply bn | apply be) | exact HB.out))) : w.heap.size ≤ gb190)); have GE190 := Am ((by rw [hg]; exact (bz (by repeat (first | (with_reducible first | exact HB.out | apply ba | apply bn | apply be) | exact HB.out))) : w.heap.size ≤ gb190)); replace HB := Am (bt (by repeat (first | (with_reducible first | exact HB.out | apply ba | apply bn | apply be) | exact HB.out)) hb); clear hb hbox hg) | ((with_reducible refine gate_dst (N := 3) rfl ?_); refine box_event ?hg (N := 3) ?hd (cs := #[.int .i64 a1_0, .string a1_1, .string a1_2, .int .i64 a1_3, .int .i64 a1_4, .string a1_5]) (t := 31) ?hr ?_; (case hd => rfl); (case hg => rfl); (case hr => first | (go_simp; done) | (go_simp; rfl)); intro gb191 hg w35 hbox hb; have n0_ := Am (kb (g := gb190) (o := o2b0 a0_0 a0_1 a0_2 a0_3 a0_4 a0_5) (by (with_reducible repeat (first | refine kn ?_ _ | refine ke ?_ | refine ka ?_ _)); exact BK190.out) hb); have n1_ := Am (bt (by repeat (first | (with_reducible first | exact HB.out | apply ba | apply bn | apply be | refine bs ?_ GE190.out) | exact HB.out)) hb); have n2_ := Am (hbox); have n3_ := Am ((by rw [hg]; exact (bz (by repeat (first | (with_reducible first | exact HB.out | apply ba | apply bn | apply be | refine bs ?_ GE190.out) | exact HB.out))) : w.heap.size ≤ gb191)); have n4_ := Am ((by rw [hg]; exact (bz (by repeat (first | (with_reducible first | exact HB.out | apply ba | apply bn | apply be | refine bs ?_ GE190.out) | exact HB.out))) : w.heap.size ≤ gb191)); have n5_ := Am ((by rw [hg]; exact Nat.ne_of_lt (kl (g := gb190) (o := o2b0 a0_0 a0_1 a0_2 a0_3 a0_4 a0_5) (by (with_reducible repeat (first | refine kn ?_ _ | refine ke ?_ | refine ka ?_ _)); exact BK190.out)) : gb190 ≠ gb191)); have n6_ := Am ((by rw [hg]; exact Nat.ne_of_gt (kl (g := gb190) (o := o2b0 a0_0 a0_1 a0_2 a0_3 a0_4 a0_5) (by (with_reducible repeat (first | refine kn ?_ _ | refine ke ?_ | refine ka ?_ _)); exact BK190.out)) : gb191 ≠ gb190)); clear BK190; clear HB; have BK190 := n0_; have HB := n1_; have BK191 := n2_; have GW191 := n3_; have GE191 := n4_; have NB190_191 := n5_; have NB191_190 := n6_; clear n0_ n1_ n2_ n3_ n4_ n5_ n6_; clear hb hbox hg; have hnb36 := NB190_191.out; have hnc36 := NB191_190.out; have hcz37_0 : w35.cell? ⟨gb190, 0, none⟩ = some (.int .i64 a0_0) := (kc BK190.out 0).trans rfl; have hcz37_1 : w35.cell? ⟨gb190, 1, none⟩ = some (.string a0_1) := (kc BK190.out 1).trans rfl; have hcz37_2 : w35.cell? ⟨gb190, 2, none⟩ = some (.string a0_2) := (kc BK190.out 2).trans rfl; have hcz37_3 : w35.cell? ⟨gb190, 3, none⟩ = some (.int .i64 a0_3) := (kc BK190.out 3).trans rfl; have hcz37_4 : w35.cell? ⟨gb190, 4, none⟩ = some (.int .i64 a0_4) := (kc BK190.out 4).trans rfl; have hcz37_5 : w35.cell? ⟨gb190, 5, none⟩ = some (.string a0_5) := (kc BK190.out 5).trans rfl; have hfz37_0 := kf BK190.out 0; have hfz37_1 := kf BK190.out 1; have hfz37_2 := kf BK190.out 2; have hfz37_3 := kf BK190.out 3; have hfz37_4 := kf BK190.out 4; have hfz37_5 := kf BK190.out 5; have hcz38_0 : w35.cell? ⟨gb191, 0, none⟩ = some (.int .i64 a1_0) := (kc BK191.out 0).trans rfl; have hcz38_1 : w35.cell? ⟨gb191, 1, none⟩ = some (.string a1_1) := (kc BK191.out 1).trans rfl; have hcz38_2 : w35.cell? ⟨gb191, 2, none⟩ = some (.string a1_2) := (kc BK191.out 2).trans rfl; have hcz38_3 : w35.cell? ⟨gb191, 3, none⟩ = some (.int .i64 a1_3) := (kc BK191.out 3).trans rfl; have hcz38_4 : w35.cell? ⟨gb191, 4, none⟩ = some (.int .i64 a1_4) := (kc BK191.out 4).trans rfl; have hcz38_5 : w35.cell? ⟨gb191, 5, none⟩ = some (.string a1_5) := (kc BK191.out 5).trans rfl; have hfz38_0 := kf BK191.out 0; have hfz38_1 := kf BK191.out 1; have hfz38_2 := kf BK191.out 2; have hfz38_3 := kf BK191.out 3; have hfz38_4 := kf BK191.out 4; have hfz38_5 := kf BK191.out 5))
   go_ret
   exact ⟨by first | rfl | (simp [errW_none, errW_some] <;> rfl) | (simp [*, errW_none, errW_some] <;> rfl), by repeat (first | (with_reducible first | exact HB.out | apply ba | apply bn | apply be | refine bs ?_ GE190.out | refine bs ?_ GE191.out) | exact HB.out)⟩
 ·rw [if_neg c3] at H
  have c3b0 : (a0_0 == a1_0) = false := beq_eq_false_iff_ne.mpr c3
  have c3b1 : (a0_0 != a1_0) = true := bne_iff_ne.mpr c3
  obtain rfl := Option.some.inj H
  go_enter Try.func117, Try.ntmps117
  go_wp2_with (first | ((with_reducible refine gate_dst (N := 2) rfl ?_); refine box_event ?hg (N := 2) ?hd (cs := #[.int .i64 a0_0, .string a0_1, .string a0_2, .int .i64 a0_3, .int .i64 a0_4, .string a0_5]) (t := 31) ?hr ?_; (case hd => rfl); (case hg => rfl); (case hr => first | (go_simp; done) | (go_simp; rfl)); intro gb190 hg w39 hbox hb; have BK190 := Am (hbox); have GW190 := Am ((by rw [hg]; exact (bz (by repeat (first | (with_reducible first | exact HB.out | apply ba | apply bn | apply be) | exact HB.out))) : w.heap.size ≤ gb190)); have GE190 := Am ((by rw [hg]; exact (bz (by repeat (first | (with_reducible first | exact HB.out | apply ba | apply bn | apply be) | exact HB.out))) : w.heap.size ≤ gb190)); replace HB := Am (bt (by repeat (first | (with_reducible first | exact HB.out | apply ba | apply bn | apply be) | exact HB.out)) hb); clear hb hbox hg) | ((with_reducible refine gate_dst (N := 3) rfl ?_); refine box_event ?hg (N := 3) ?hd (cs := #[.int .i64 a1_0, .string a1_1, .string a1_2, .int .i64 a1_3, .int .i64 a1_4, .string a1_5]) (t := 31) ?hr ?_; (case hd => rfl); (case hg => rfl); (case hr => first | (go_simp; done) | (go_simp; rfl)); intro gb191 hg w40 hbox hb; have n0_ := Am (kb (g := gb190) (o := o2b0 a0_0 a0_1 a0_2 a0_3 a0_4 a0_5) (by (with_reducible repeat (first | refine kn ?_ _ | refine ke ?_ | refine ka ?_ _)); exact BK190.out) hb); have n1_ := Am (bt (by repeat (first | (with_reducible first | exact HB.out | apply ba | apply bn | apply be | refine bs ?_ GE190.out) | exact HB.out)) hb); have n2_ := Am (hbox); have n3_ := Am ((by rw [hg]; exact (bz (by repeat (first | (with_reducible first | exact HB.out | apply ba | apply bn | apply be | refine bs ?_ GE190.out) | exact HB.out))) : w.heap.size ≤ gb191)); have n4_ := Am ((by rw [hg]; exact (bz (by repeat (first | (with_reducible first | exact HB.out | apply ba | apply bn | apply be | refine bs ?_ GE190.out) | exact HB.out))) : w.heap.size ≤ gb191)); have n5_ := Am ((by rw [hg]; exact Nat.ne_of_lt (kl (g := gb190) (o := o2b0 a0_0 a0_1 a0_2 a0_3 a0_4 a0_5) (by (with_reducible repeat (first | refine kn ?_ _ | refine ke ?_ | refine ka ?_ _)); exact BK190.out)) : gb190 ≠ gb191)); have n6_ := Am ((by rw [hg]; exact Nat.ne_of_gt (kl (g := gb190) (o := o2b0 a0_0 a0_1 a0_2 a0_3 a0_4 a0_5) (by (with_reducible repeat (first | refine kn ?_ _ | refine ke ?_ | refine ka ?_ _)); exact BK190.out)) : gb191 ≠ gb190)); clear BK190; clear HB; have BK190 := n0_; have HB := n1_; have BK191 := n2_; have GW191 := n3_; have GE191 := n4_; have NB190_191 := n5_; have NB191_190 := n6_; clear n0_ n1_ n2_ n3_ n4_ n5_ n6_; clear hb hbox hg; have hnb41 := NB190_191.out; have hnc41 := NB191_190.out; have hcz42_0 : w40.cell? ⟨gb190, 0, none⟩ = some (.int .i64 a0_0) := (kc BK190.out 0).trans rfl; have hcz42_1 : w40.cell? ⟨gb190, 1, none⟩ = some (.string a0_1) := (kc BK190.out 1).trans rfl; have hcz42_2 : w40.cell? ⟨gb190, 2, none⟩ = some (.string a0_2) := (kc BK190.out 2).trans rfl; have hcz42_3 : w40.cell? ⟨gb190, 3, none⟩ = some (.int .i64 a0_3) := (kc BK190.out 3).trans rfl; have hcz42_4 : w40.cell? ⟨gb190, 4, none⟩ = some (.int .i64 a0_4) := (kc BK190.out 4).trans rfl; have hcz42_5 : w40.cell? ⟨gb190, 5, none⟩ = some (.string a0_5) := (kc BK190.out 5).trans rfl; have hfz42_0 := kf BK190.out 0; have hfz42_1 := kf BK190.out 1; have hfz42_2 := kf BK190.out 2; have hfz42_3 := kf BK190.out 3; have hfz42_4 := kf BK190.out 4; have hfz42_5 := kf BK190.out 5; have hcz43_0 : w40.cell? ⟨gb191, 0, none⟩ = some (.int .i64 a1_0) := (kc BK191.out 0).trans rfl; have hcz43_1 : w40.cell? ⟨gb191, 1, none⟩ = some (.string a1_1) := (kc BK191.out 1).trans rfl; have hcz43_2 : w40.cell? ⟨gb191, 2, none⟩ = some (.string a1_2) := (kc BK191.out 2).trans rfl; have hcz43_3 : w40.cell? ⟨gb191, 3, none⟩ = some (.int .i64 a1_3) := (kc BK191.out 3).trans rfl; have hcz43_4 : w40.cell? ⟨gb191, 4, none⟩ = some (.int .i64 a1_4) := (kc BK191.out 4).trans rfl; have hcz43_5 : w40.cell? ⟨gb191, 5, none⟩ = some (.string a1_5) := (kc BK191.out 5).trans rfl; have hfz43_0 := kf BK191.out 0; have hfz43_1 := kf BK191.out 1; have hfz43_2 := kf BK191.out 2; have hfz43_3 := kf BK191.out 3; have hfz43_4 := kf BK191.out 4; have hfz43_5 := kf BK191.out 5))
  go_ret
  exact ⟨by first | rfl | (simp [errW_none, errW_some] <;> rfl) | (simp [*, errW_none, errW_some] <;> rfl), by repeat (first | (with_reducible first | exact HB.out | apply ba | apply bn | apply be | refine bs ?_ GE190.out | refine bs ?_ GE191.out) | exact HB.out)⟩

/-! ### laws_eqAct: function 75 -/
def laws_eqAct.f (a0_0 : Int) (a0_1 : Int) (a0_2 : Int) (a0_3 : ByteArray) (a0_4 : ByteArray) (a0_5 : Int) (a0_6 : Int) (a0_7 : ByteArray) (a0_8 : Int) (a1_0 : Int) (a1_1 : Int) (a1_2 : Int) (a1_3 : ByteArray) (a1_4 : ByteArray) (a1_5 : Int) (a1_6 : Int) (a1_7 : ByteArray) (a1_8 : Int) : Option (Bool) := if a0_0 = a1_0 then (if a0_1 = a1_1 then ((laws_eqAsk.f a0_2 a0_3 a0_4 a0_5 a0_6 a0_7 a1_2 a1_3 a1_4 a1_5 a1_6 a1_7).bind fun t194 => (if t194 = true then (if a0_8 = a1_8 then (some true) else (some false)) else (some false))) else (some false)) else (some false)
set_option maxHeartbeats 8000000 in
set_option maxRecDepth 100000 in
theorem laws_eqAct.calls (a0_0 : Int) (a0_1 : Int) (a0_2 : Int) (a0_3 : ByteArray) (a0_4 : ByteArray) (a0_5 : Int) (a0_6 : Int) (a0_7 : ByteArray) (a0_8 : Int) (a1_0 : Int) (a1_1 : Int) (a1_2 : Int) (a1_3 : ByteArray) (a1_4 : ByteArray) (a1_5 : Int) (a1_6 : Int) (a1_7 : ByteArray) (a1_8 : Int) (r : Bool) (w : World) (h : laws_eqAct.f a0_0 a0_1 a0_2 a0_3 a0_4 a0_5 a0_6 a0_7 a0_8 a1_0 a1_1 a1_2 a1_3 a1_4 a1_5 a1_6 a1_7 a1_8 = some r) :
  Calls Try.prog 75 #[.agg #[.int .i64 a0_0, .int .i64 a0_1, .int .i64 a0_2, .string a0_3, .string a0_4, .int .i64 a0_5, .int .i64 a0_6, .string a0_7, .int .i64 a0_8], .agg #[.int .i64 a1_0, .int .i64 a1_1, .int .i64 a1_2, .string a1_3, .string a1_4, .int .i64 a1_5, .int .i64 a1_6, .string a1_7, .int .i64 a1_8]] w fun e w' => e = .returned (.bool r) ∧ Below w.heap.size w w' := by
 have hu33 := Try.underlying33
 have hu31 := Try.underlying31
 have HB := Am (Below.refl w.heap.size w)
 have H : (if a0_0 = a1_0 then (if a0_1 = a1_1 then ((laws_eqAsk.f a0_2 a0_3 a0_4 a0_5 a0_6 a0_7 a1_2 a1_3 a1_4 a1_5 a1_6 a1_7).bind fun t194 => (if t194 = true then (if a0_8 = a1_8 then (some true) else (some false)) else (some false))) else (some false)) else (some false)) = some r := h
 clear h
 by_cases c3 : a0_0 = a1_0
 ·rw [if_pos c3] at H
  have c3b0 : (a0_0 == a1_0) = true := beq_iff_eq.mpr c3
  have c3b1 : (a0_0 != a1_0) = false := bne_eq_false_iff_eq.mpr c3
  clear c3
  by_cases c4 : a0_1 = a1_1
  ·rw [if_pos c4] at H
   have c4b0 : (a0_1 == a1_1) = true := beq_iff_eq.mpr c4
   have c4b1 : (a0_1 != a1_1) = false := bne_eq_false_iff_eq.mpr c4
   clear c4
   replace H := Option.bind_eq_some_iff.mp H
   obtain ⟨t194, A50, H⟩ := H
   replace H : (if t194 = true then (if a0_8 = a1_8 then (some true) else (some false)) else (some false)) = some r := H
   have A5 := Am A50
   clear A50
   by_cases c6 : t194 = true
   ·subst c6
    have H1 : (if a0_8 = a1_8 then (some true) else (some false)) = some r := by rw [if_pos rfl] at H; exact H
    clear H
    have H := H1
    clear H1
    by_cases c7 : a0_8 = a1_8
    ·rw [if_pos c7] at H
     have c7b0 : (a0_8 == a1_8) = true := beq_iff_eq.mpr c7
     have c7b1 : (a0_8 != a1_8) = false := bne_eq_false_iff_eq.mpr c7
     clear c7
     obtain rfl := Option.some.inj H
     go_enter Try.func75, Try.ntmps75
     go_wp2_with (first | ((with_reducible refine gate_dst (N := 2) rfl ?_); refine box_event ?hg (N := 2) ?hd (cs := #[.int .i64 a0_0, .int .i64 a0_1, .int .i64 a0_2, .string a0_3, .string a0_4, .int .i64 a0_5, .int .i64 a0_6, .string a0_7, .int .i64 a0_8]) (t := 33) ?hr ?_; (case hd => rfl); (case hg => rfl); (case hr => first | (go_simp; done) | (go_simp; rfl)); intro gb192 hg w8 hbox hb; have BK192 := Am (hbox); have GW192 := Am ((by rw [hg]; exact (bz (by repeat (first | (with_reducible first | exact HB.out | apply ba | apply bn | apply be) | exact HB.out))) : w.heap.size ≤ gb192)); have GE192 := Am ((by rw [hg]; exact (bz (by repeat (first | (with_reducible first | exact HB.out | apply ba | apply bn | apply be) | exact HB.out))) : w.heap.size ≤ gb192)); replace HB := Am (bt (by repeat (first | (with_reducible first | exact HB.out | apply ba | apply bn | apply be) | exact HB.out)) hb); clear hb hbox hg) | ((with_reducible refine gate_dst (N := 3) rfl ?_); refine box_event ?hg (N := 3) ?hd (cs := #[.int .i64 a1_0, .int .i64 a1_1, .int .i64 a1_2, .string a1_3, .string a1_4, .int .i64 a1_5, .int .i64 a1_6, .string a1_7, .int .i64 a1_8]) (t := 33) ?hr ?_; (case hd => rfl); (case hg => rfl); (case hr => first | (go_simp; done) | (go_simp; rfl)); intro gb193 hg w9 hbox hb; have n0_ := Am (kb (g := gb192) (o := o2b1 a0_0 a0_1 a0_2 a0_3 a0_4 a0_5 a0_6 a0_7 a0_8) (by (with_reducible repeat (first | refine kn ?_ _ | refine ke ?_ | refine ka ?_ _)); exact BK192.out) hb); have n1_ := Am (bt (by repeat (first | (with_reducible first | exact HB.out | apply ba | apply bn | apply be | refine bs ?_ GE192.out) | exact HB.out)) hb); have n2_ := Am (hbox); have n3_ := Am ((by rw [hg]; exact (bz (by repeat (first | (with_reducible first | exact HB.out | apply ba | apply bn | apply be | refine bs ?_ GE192.out) | exact HB.out))) : w.heap.size ≤ gb193)); have n4_ := Am ((by rw [hg]; exact (bz (by repeat (first | (with_reducible first | exact HB.out | apply ba | apply bn | apply be | refine bs ?_ GE192.out) | exact HB.out))) : w.heap.size ≤ gb193)); have n5_ := Am ((by rw [hg]; exact Nat.ne_of_lt (kl (g := gb192) (o := o2b1 a0_0 a0_1 a0_2 a0_3 a0_4 a0_5 a0_6 a0_7 a0_8) (by (with_reducible repeat (first | refine kn ?_ _ | refine ke ?_ | refine ka ?_ _)); exact BK192.out)) : gb192 ≠ gb193)); have n6_ := Am ((by rw [hg]; exact Nat.ne_of_gt (kl (g := gb192) (o := o2b1 a0_0 a0_1 a0_2 a0_3 a0_4 a0_5 a0_6 a0_7 a0_8) (by (with_reducible repeat (first | refine kn ?_ _ | refine ke ?_ | refine ka ?_ _)); exact BK192.out)) : gb193 ≠ gb192)); clear BK192; clear HB; have BK192 := n0_; have HB := n1_; have BK193 := n2_; have GW193 := n3_; have GE193 := n4_; have NB192_193 := n5_; have NB193_192 := n6_; clear n0_ n1_ n2_ n3_ n4_ n5_ n6_; clear hb hbox hg; have hnb10 := NB192_193.out; have hnc10 := NB193_192.out; have hcz11_0 : w9.cell? ⟨gb192, 0, none⟩ = some (.int .i64 a0_0) := (kc BK192.out 0).trans rfl; have hcz11_1 : w9.cell? ⟨gb192, 1, none⟩ = some (.int .i64 a0_1) := (kc BK192.out 1).trans rfl; have hcz11_2 : w9.cell? ⟨gb192, 2, none⟩ = some (.int .i64 a0_2) := (kc BK192.out 2).trans rfl; have hcz11_3 : w9.cell? ⟨gb192, 3, none⟩ = some (.string a0_3) := (kc BK192.out 3).trans rfl; have hcz11_4 : w9.cell? ⟨gb192, 4, none⟩ = some (.string a0_4) := (kc BK192.out 4).trans rfl; have hcz11_5 : w9.cell? ⟨gb192, 5, none⟩ = some (.int .i64 a0_5) := (kc BK192.out 5).trans rfl; have hcz11_6 : w9.cell? ⟨gb192, 6, none⟩ = some (.int .i64 a0_6) := (kc BK192.out 6).trans rfl; have hcz11_7 : w9.cell? ⟨gb192, 7, none⟩ = some (.string a0_7) := (kc BK192.out 7).trans rfl; have hcz11_8 : w9.cell? ⟨gb192, 8, none⟩ = some (.int .i64 a0_8) := (kc BK192.out 8).trans rfl; have hfz11_0 := kf BK192.out 0; have hfz11_1 := kf BK192.out 1; have hfz11_2 := kf BK192.out 2; have hfz11_3 := kf BK192.out 3; have hfz11_4 := kf BK192.out 4; have hfz11_5 := kf BK192.out 5; have hfz11_6 := kf BK192.out 6; have hfz11_7 := kf BK192.out 7; have hfz11_8 := kf BK192.out 8; have hcz12_0 : w9.cell? ⟨gb193, 0, none⟩ = some (.int .i64 a1_0) := (kc BK193.out 0).trans rfl; have hcz12_1 : w9.cell? ⟨gb193, 1, none⟩ = some (.int .i64 a1_1) := (kc BK193.out 1).trans rfl; have hcz12_2 : w9.cell? ⟨gb193, 2, none⟩ = some (.int .i64 a1_2) := (kc BK193.out 2).trans rfl; have hcz12_3 : w9.cell? ⟨gb193, 3, none⟩ = some (.string a1_3) := (kc BK193.out 3).trans rfl; have hcz12_4 : w9.cell? ⟨gb193, 4, none⟩ = some (.string a1_4) := (kc BK193.out 4).trans rfl; have hcz12_5 : w9.cell? ⟨gb193, 5, none⟩ = some (.int .i64 a1_5) := (kc BK193.out 5).trans rfl; have hcz12_6 : w9.cell? ⟨gb193, 6, none⟩ = some (.int .i64 a1_6) := (kc BK193.out 6).trans rfl; have hcz12_7 : w9.cell? ⟨gb193, 7, none⟩ = some (.string a1_7) := (kc BK193.out 7).trans rfl; have hcz12_8 : w9.cell? ⟨gb193, 8, none⟩ = some (.int .i64 a1_8) := (kc BK193.out 8).trans rfl; have hfz12_0 := kf BK193.out 0; have hfz12_1 := kf BK193.out 1; have hfz12_2 := kf BK193.out 2; have hfz12_3 := kf BK193.out 3; have hfz12_4 := kf BK193.out 4; have hfz12_5 := kf BK193.out 5; have hfz12_6 := kf BK193.out 6; have hfz12_7 := kf BK193.out 7; have hfz12_8 := kf BK193.out 8) | ((with_reducible refine gate_callee (f := 117) rfl ?_); refine goesL_ (some 19) rfl rfl Try.func117 (by kernel_rfl) rfl #[.agg #[.int .i64 a0_2, .string a0_3, .string a0_4, .int .i64 a0_5, .int .i64 a0_6, .string a0_7], .agg #[.int .i64 a1_2, .string a1_3, .string a1_4, .int .i64 a1_5, .int .i64 a1_6, .string a1_7]] rfl (by (try simp only [List.map_toArray, List.map_cons, List.map_nil]); first | done | rfl | (simp only [List.length_drop, List.length_take]; rfl)) ?_; (with_reducible refine (laws_eqAsk.calls a0_2 a0_3 a0_4 a0_5 a0_6 a0_7 a1_2 a1_3 a1_4 a1_5 a1_6 a1_7 true _ A5.out).mono ?_); rintro e w13 ⟨rfl, hb⟩; refine ⟨_, rfl, ?_⟩; have n0_ := Am (kb (g := gb192) (o := o2b1 a0_0 a0_1 a0_2 a0_3 a0_4 a0_5 a0_6 a0_7 a0_8) (by (with_reducible repeat (first | refine kn ?_ _ | refine ke ?_ | refine ka ?_ _)); exact BK192.out) hb); have n1_ := Am (kb (g := gb193) (o := .cells #[.int .i64 a1_0, .int .i64 a1_1, .int .i64 a1_2, .string a1_3, .string a1_4, .int .i64 a1_5, .int .i64 a1_6, .string a1_7, .int .i64 a1_8] 33 (0, 0)) (by (with_reducible repeat (first | refine kn ?_ _ | refine ke ?_ | refine ka ?_ _)); exact BK193.out) hb); have n2_ := Am (bt (by repeat (first | (with_reducible first | exact HB.out | apply ba | apply bn | apply be | refine bs ?_ GE192.out | refine bs ?_ GE193.out) | exact HB.out)) hb); clear BK192; clear BK193; clear HB; have BK192 := n0_; have BK193 := n1_; have HB := n2_; clear n0_ n1_ n2_; (try clear hb); have hcz14_0 : w13.cell? ⟨gb192, 0, none⟩ = some (.int .i64 a0_0) := (kc BK192.out 0).trans rfl; have hcz14_1 : w13.cell? ⟨gb192, 1, none⟩ = some (.int .i64 a0_1) := (kc BK192.out 1).trans rfl; have hcz14_2 : w13.cell? ⟨gb192, 2, none⟩ = some (.int .i64 a0_2) := (kc BK192.out 2).trans rfl; have hcz14_3 : w13.cell? ⟨gb192, 3, none⟩ = some (.string a0_3) := (kc BK192.out 3).trans rfl; have hcz14_4 : w13.cell? ⟨gb192, 4, none⟩ = some (.string a0_4) := (kc BK192.out 4).trans rfl; have hcz14_5 : w13.cell? ⟨gb192, 5, none⟩ = some (.int .i64 a0_5) := (kc BK192.out 5).trans rfl; have hcz14_6 : w13.cell? ⟨gb192, 6, none⟩ = some (.int .i64 a0_6) := (kc BK192.out 6).trans rfl; have hcz14_7 : w13.cell? ⟨gb192, 7, none⟩ = some (.string a0_7) := (kc BK192.out 7).trans rfl; have hcz14_8 : w13.cell? ⟨gb192, 8, none⟩ = some (.int .i64 a0_8) := (kc BK192.out 8).trans rfl; have hfz14_0 := kf BK192.out 0; have hfz14_1 := kf BK192.out 1; have hfz14_2 := kf BK192.out 2; have hfz14_3 := kf BK192.out 3; have hfz14_4 := kf BK192.out 4; have hfz14_5 := kf BK192.out 5; have hfz14_6 := kf BK192.out 6; have hfz14_7 := kf BK192.out 7; have hfz14_8 := kf BK192.out 8; have hcz15_0 : w13.cell? ⟨gb193, 0, none⟩ = some (.int .i64 a1_0) := (kc BK193.out 0).trans rfl; have hcz15_1 : w13.cell? ⟨gb193, 1, none⟩ = some (.int .i64 a1_1) := (kc BK193.out 1).trans rfl; have hcz15_2 : w13.cell? ⟨gb193, 2, none⟩ = some (.int .i64 a1_2) := (kc BK193.out 2).trans rfl; have hcz15_3 : w13.cell? ⟨gb193, 3, none⟩ = some (.string a1_3) := (kc BK193.out 3).trans rfl; have hcz15_4 : w13.cell? ⟨gb193, 4, none⟩ = some (.string a1_4) := (kc BK193.out 4).trans rfl; have hcz15_5 : w13.cell? ⟨gb193, 5, none⟩ = some (.int .i64 a1_5) := (kc BK193.out 5).trans rfl; have hcz15_6 : w13.cell? ⟨gb193, 6, none⟩ = some (.int .i64 a1_6) := (kc BK193.out 6).trans rfl; have hcz15_7 : w13.cell? ⟨gb193, 7, none⟩ = some (.string a1_7) := (kc BK193.out 7).trans rfl; have hcz15_8 : w13.cell? ⟨gb193, 8, none⟩ = some (.int .i64 a1_8) := (kc BK193.out 8).trans rfl; have hfz15_0 := kf BK193.out 0; have hfz15_1 := kf BK193.out 1; have hfz15_2 := kf BK193.out 2; have hfz15_3 := kf BK193.out 3; have hfz15_4 := kf BK193.out 4; have hfz15_5 := kf BK193.out 5; have hfz15_6 := kf BK193.out 6; have hfz15_7 := kf BK193.out 7; have hfz15_8 := kf BK193.out 8))
     go_ret
     exact ⟨by first | rfl | (simp [errW_none, errW_some] <;> rfl) | (simp [*, errW_none, errW_some] <;> rfl), by repeat (first | (with_reducible first | exact HB.out | apply ba | apply bn | apply be | refine bs ?_ GE192.out | refine bs ?_ GE193.out) | exact HB.out)⟩
    ·rw [if_neg c7] at H
     have c7b0 : (a0_8 == a1_8) = false := beq_eq_false_iff_ne.mpr c7
     have c7b1 : (a0_8 != a1_8) = true := bne_iff_ne.mpr c7
     obtain rfl := Option.some.inj H
     go_enter Try.func75, Try.ntmps75
     go_wp2_with (first | ((with_reducible refine gate_dst (N := 2) rfl ?_); refine box_event ?hg (N := 2) ?hd (cs := #[.int .i64 a0_0, .int .i64 a0_1, .int .i64 a0_2, .string a0_3, .string a0_4, .int .i64 a0_5, .int .i64 a0_6, .string a0_7, .int .i64 a0_8]) (t := 33) ?hr ?_; (case hd => rfl); (case hg => rfl); (case hr => first | (go_simp; done) | (go_simp; rfl)); intro gb192 hg w16 hbox hb; have BK192 := Am (hbox); have GW192 := Am ((by rw [hg]; exact (bz (by repeat (first | (with_reducible first | exact HB.out | apply ba | apply bn | apply be) | exact HB.out))) : w.heap.size ≤ gb192)); have GE192 := Am ((by rw [hg]; exact (bz (by repeat (first | (with_reducible first | exact HB.out | apply ba | apply bn | apply be) | exact HB.out))) : w.heap.size ≤ gb192)); replace HB := Am (bt (by repeat (first | (with_reducible first | exact HB.out | apply ba | apply bn | apply be) | exact HB.out)) hb); clear hb hbox hg) | ((with_reducible refine gate_dst (N := 3) rfl ?_); refine box_event ?hg (N := 3) ?hd (cs := #[.int .i64 a1_0, .int .i64 a1_1, .int .i64 a1_2, .string a1_3, .string a1_4, .int .i64 a1_5, .int .i64 a1_6, .string a1_7, .int .i64 a1_8]) (t := 33) ?hr ?_; (case hd => rfl); (case hg => rfl); (case hr => first | (go_simp; done) | (go_simp; rfl)); intro gb193 hg w17 hbox hb; have n0_ := Am (kb (g := gb192) (o := o2b1 a0_0 a0_1 a0_2 a0_3 a0_4 a0_5 a0_6 a0_7 a0_8) (by (with_reducible repeat (first | refine kn ?_ _ | refine ke ?_ | refine ka ?_ _)); exact BK192.out) hb); have n1_ := Am (bt (by repeat (first | (with_reducible first | exact HB.out | apply ba | apply bn | apply be | refine bs ?_ GE192.out) | exact HB.out)) hb); have n2_ := Am (hbox); have n3_ := Am ((by rw [hg]; exact (bz (by repeat (first | (with_reducible first | exact HB.out | apply ba | apply bn | apply be | refine bs ?_ GE192.out) | exact HB.out))) : w.heap.size ≤ gb193)); have n4_ := Am ((by rw [hg]; exact (bz (by repeat (first | (with_reducible first | exact HB.out | apply ba | apply bn | apply be | refine bs ?_ GE192.out) | exact HB.out))) : w.heap.size ≤ gb193)); have n5_ := Am ((by rw [hg]; exact Nat.ne_of_lt (kl (g := gb192) (o := o2b1 a0_0 a0_1 a0_2 a0_3 a0_4 a0_5 a0_6 a0_7 a0_8) (by (with_reducible repeat (first | refine kn ?_ _ | refine ke ?_ | refine ka ?_ _)); exact BK192.out)) : gb192 ≠ gb193)); have n6_ := Am ((by rw [hg]; exact Nat.ne_of_gt (kl (g := gb192) (o := o2b1 a0_0 a0_1 a0_2 a0_3 a0_4 a0_5 a0_6 a0_7 a0_8) (by (with_reducible repeat (first | refine kn ?_ _ | refine ke ?_ | refine ka ?_ _)); exact BK192.out)) : gb193 ≠ gb192)); clear BK192; clear HB; have BK192 := n0_; have HB := n1_; have BK193 := n2_; have GW193 := n3_; have GE193 := n4_; have NB192_193 := n5_; have NB193_192 := n6_; clear n0_ n1_ n2_ n3_ n4_ n5_ n6_; clear hb hbox hg; have hnb18 := NB192_193.out; have hnc18 := NB193_192.out; have hcz19_0 : w17.cell? ⟨gb192, 0, none⟩ = some (.int .i64 a0_0) := (kc BK192.out 0).trans rfl; have hcz19_1 : w17.cell? ⟨gb192, 1, none⟩ = some (.int .i64 a0_1) := (kc BK192.out 1).trans rfl; have hcz19_2 : w17.cell? ⟨gb192, 2, none⟩ = some (.int .i64 a0_2) := (kc BK192.out 2).trans rfl; have hcz19_3 : w17.cell? ⟨gb192, 3, none⟩ = some (.string a0_3) := (kc BK192.out 3).trans rfl; have hcz19_4 : w17.cell? ⟨gb192, 4, none⟩ = some (.string a0_4) := (kc BK192.out 4).trans rfl; have hcz19_5 : w17.cell? ⟨gb192, 5, none⟩ = some (.int .i64 a0_5) := (kc BK192.out 5).trans rfl; have hcz19_6 : w17.cell? ⟨gb192, 6, none⟩ = some (.int .i64 a0_6) := (kc BK192.out 6).trans rfl; have hcz19_7 : w17.cell? ⟨gb192, 7, none⟩ = some (.string a0_7) := (kc BK192.out 7).trans rfl; have hcz19_8 : w17.cell? ⟨gb192, 8, none⟩ = some (.int .i64 a0_8) := (kc BK192.out 8).trans rfl; have hfz19_0 := kf BK192.out 0; have hfz19_1 := kf BK192.out 1; have hfz19_2 := kf BK192.out 2; have hfz19_3 := kf BK192.out 3; have hfz19_4 := kf BK192.out 4; have hfz19_5 := kf BK192.out 5; have hfz19_6 := kf BK192.out 6; have hfz19_7 := kf BK192.out 7; have hfz19_8 := kf BK192.out 8; have hcz20_0 : w17.cell? ⟨gb193, 0, none⟩ = some (.int .i64 a1_0) := (kc BK193.out 0).trans rfl; have hcz20_1 : w17.cell? ⟨gb193, 1, none⟩ = some (.int .i64 a1_1) := (kc BK193.out 1).trans rfl; have hcz20_2 : w17.cell? ⟨gb193, 2, none⟩ = some (.int .i64 a1_2) := (kc BK193.out 2).trans rfl; have hcz20_3 : w17.cell? ⟨gb193, 3, none⟩ = some (.string a1_3) := (kc BK193.out 3).trans rfl; have hcz20_4 : w17.cell? ⟨gb193, 4, none⟩ = some (.string a1_4) := (kc BK193.out 4).trans rfl; have hcz20_5 : w17.cell? ⟨gb193, 5, none⟩ = some (.int .i64 a1_5) := (kc BK193.out 5).trans rfl; have hcz20_6 : w17.cell? ⟨gb193, 6, none⟩ = some (.int .i64 a1_6) := (kc BK193.out 6).trans rfl; have hcz20_7 : w17.cell? ⟨gb193, 7, none⟩ = some (.string a1_7) := (kc BK193.out 7).trans rfl; have hcz20_8 : w17.cell? ⟨gb193, 8, none⟩ = some (.int .i64 a1_8) := (kc BK193.out 8).trans rfl; have hfz20_0 := kf BK193.out 0; have hfz20_1 := kf BK193.out 1; have hfz20_2 := kf BK193.out 2; have hfz20_3 := kf BK193.out 3; have hfz20_4 := kf BK193.out 4; have hfz20_5 := kf BK193.out 5; have hfz20_6 := kf BK193.out 6; have hfz20_7 := kf BK193.out 7; have hfz20_8 := kf BK193.out 8) | ((with_reducible refine gate_callee (f := 117) rfl ?_); refine goesL_ (some 19) rfl rfl Try.func117 (by kernel_rfl) rfl #[.agg #[.int .i64 a0_2, .string a0_3, .string a0_4, .int .i64 a0_5, .int .i64 a0_6, .string a0_7], .agg #[.int .i64 a1_2, .string a1_3, .string a1_4, .int .i64 a1_5, .int .i64 a1_6, .string a1_7]] rfl (by (try simp only [List.map_toArray, List.map_cons, List.map_nil]); first | done | rfl | (simp only [List.length_drop, List.length_take]; rfl)) ?_; (with_reducible refine (laws_eqAsk.calls a0_2 a0_3 a0_4 a0_5 a0_6 a0_7 a1_2 a1_3 a1_4 a1_5 a1_6 a1_7 true _ A5.out).mono ?_); rintro e w21 ⟨rfl, hb⟩; refine ⟨_, rfl, ?_⟩; have n0_ := Am (kb (g := gb192) (o := o2b1 a0_0 a0_1 a0_2 a0_3 a0_4 a0_5 a0_6 a0_7 a0_8) (by (with_reducible repeat (first | refine kn ?_ _ | refine ke ?_ | refine ka ?_ _)); exact BK192.out) hb); have n1_ := Am (kb (g := gb193) (o := .cells #[.int .i64 a1_0, .int .i64 a1_1, .int .i64 a1_2, .string a1_3, .string a1_4, .int .i64 a1_5, .int .i64 a1_6, .string a1_7, .int .i64 a1_8] 33 (0, 0)) (by (with_reducible repeat (first | refine kn ?_ _ | refine ke ?_ | refine ka ?_ _)); exact BK193.out) hb); have n2_ := Am (bt (by repeat (first | (with_reducible first | exact HB.out | apply ba | apply bn | apply be | refine bs ?_ GE192.out | refine bs ?_ GE193.out) | exact HB.out)) hb); clear BK192; clear BK193; clear HB; have BK192 := n0_; have BK193 := n1_; have HB := n2_; clear n0_ n1_ n2_; (try clear hb); have hcz22_0 : w21.cell? ⟨gb192, 0, none⟩ = some (.int .i64 a0_0) := (kc BK192.out 0).trans rfl; have hcz22_1 : w21.cell? ⟨gb192, 1, none⟩ = some (.int .i64 a0_1) := (kc BK192.out 1).trans rfl; have hcz22_2 : w21.cell? ⟨gb192, 2, none⟩ = some (.int .i64 a0_2) := (kc BK192.out 2).trans rfl; have hcz22_3 : w21.cell? ⟨gb192, 3, none⟩ = some (.string a0_3) := (kc BK192.out 3).trans rfl; have hcz22_4 : w21.cell? ⟨gb192, 4, none⟩ = some (.string a0_4) := (kc BK192.out 4).trans rfl; have hcz22_5 : w21.cell? ⟨gb192, 5, none⟩ = some (.int .i64 a0_5) := (kc BK192.out 5).trans rfl; have hcz22_6 : w21.cell? ⟨gb192, 6, none⟩ = some (.int .i64 a0_6) := (kc BK192.out 6).trans rfl; have hcz22_7 : w21.cell? ⟨gb192, 7, none⟩ = some (.string a0_7) := (kc BK192.out 7).trans rfl; have hcz22_8 : w21.cell? ⟨gb192, 8, none⟩ = some (.int .i64 a0_8) := (kc BK192.out 8).trans rfl; have hfz22_0 := kf BK192.out 0; have hfz22_1 := kf BK192.out 1; have hfz22_2 := kf BK192.out 2; have hfz22_3 := kf BK192.out 3; have hfz22_4 := kf BK192.out 4; have hfz22_5 := kf BK192.out 5; have hfz22_6 := kf BK192.out 6; have hfz22_7 := kf BK192.out 7; have hfz22_8 := kf BK192.out 8; have hcz23_0 : w21.cell? ⟨gb193, 0, none⟩ = some (.int .i64 a1_0) := (kc BK193.out 0).trans rfl; have hcz23_1 : w21.cell? ⟨gb193, 1, none⟩ = some (.int .i64 a1_1) := (kc BK193.out 1).trans rfl; have hcz23_2 : w21.cell? ⟨gb193, 2, none⟩ = some (.int .i64 a1_2) := (kc BK193.out 2).trans rfl; have hcz23_3 : w21.cell? ⟨gb193, 3, none⟩ = some (.string a1_3) := (kc BK193.out 3).trans rfl; have hcz23_4 : w21.cell? ⟨gb193, 4, none⟩ = some (.string a1_4) := (kc BK193.out 4).trans rfl; have hcz23_5 : w21.cell? ⟨gb193, 5, none⟩ = some (.int .i64 a1_5) := (kc BK193.out 5).trans rfl; have hcz23_6 : w21.cell? ⟨gb193, 6, none⟩ = some (.int .i64 a1_6) := (kc BK193.out 6).trans rfl; have hcz23_7 : w21.cell? ⟨gb193, 7, none⟩ = some (.string a1_7) := (kc BK193.out 7).trans rfl; have hcz23_8 : w21.cell? ⟨gb193, 8, none⟩ = some (.int .i64 a1_8) := (kc BK193.out 8).trans rfl; have hfz23_0 := kf BK193.out 0; have hfz23_1 := kf BK193.out 1; have hfz23_2 := kf BK193.out 2; have hfz23_3 := kf BK193.out 3; have hfz23_4 := kf BK193.out 4; have hfz23_5 := kf BK193.out 5; have hfz23_6 := kf BK193.out 6; have hfz23_7 := kf BK193.out 7; have hfz23_8 := kf BK193.out 8))
     go_ret
     exact ⟨by first | rfl | (simp [errW_none, errW_some] <;> rfl) | (simp [*, errW_none, errW_some] <;> rfl), by repeat (first | (with_reducible first | exact HB.out | apply ba | apply bn | apply be | refine bs ?_ GE192.out | refine bs ?_ GE193.out) | exact HB.out)⟩
   ·replace c6 := Bool.eq_false_iff.mpr c6
    subst c6
    have H1 : (some false) = some r := by rw [if_neg (show ¬ (false = true) by decide)] at H; exact H
    clear H
    have H := H1
    clear H1
    obtain rfl := Option.some.inj H
    go_enter Try.func75, Try.ntmps75
    go_wp2_with (first | ((with_reducible refine gate_dst (N := 2) rfl ?_); refine box_event ?hg (N := 2) ?hd (cs := #[.int .i64 a0_0, .int .i64 a0_1, .int .i64 a0_2, .string a0_3, .string a0_4, .int .i64 a0_5, .int .i64 a0_6, .string a0_7, .int .i64 a0_8]) (t := 33) ?hr ?_; (case hd => rfl); (case hg => rfl); (case hr => first | (go_simp; done) | (go_simp; rfl)); intro gb192 hg w24 hbox hb; have BK192 := Am (hbox); have GW192 := Am ((by rw [hg]; exact (bz (by repeat (first | (with_reducible first | exact HB.out | apply ba | apply bn | apply be) | exact HB.out))) : w.heap.size ≤ gb192)); have GE192 := Am ((by rw [hg]; exact (bz (by repeat (first | (with_reducible first | exact HB.out | apply ba | apply bn | apply be) | exact HB.out))) : w.heap.size ≤ gb192)); replace HB := Am (bt (by repeat (first | (with_reducible first | exact HB.out | apply ba | apply bn | apply be) | exact HB.out)) hb); clear hb hbox hg) | ((with_reducible refine gate_dst (N := 3) rfl ?_); refine box_event ?hg (N := 3) ?hd (cs := #[.int .i64 a1_0, .int .i64 a1_1, .int .i64 a1_2, .string a1_3, .string a1_4, .int .i64 a1_5, .int .i64 a1_6, .string a1_7, .int .i64 a1_8]) (t := 33) ?hr ?_; (case hd => rfl); (case hg => rfl); (case hr => first | (go_simp; done) | (go_simp; rfl)); intro gb193 hg w25 hbox hb; have n0_ := Am (kb (g := gb192) (o := o2b1 a0_0 a0_1 a0_2 a0_3 a0_4 a0_5 a0_6 a0_7 a0_8) (by (with_reducible repeat (first | refine kn ?_ _ | refine ke ?_ | refine ka ?_ _)); exact BK192.out) hb); have n1_ := Am (bt (by repeat (first | (with_reducible first | exact HB.out | apply ba | apply bn | apply be | refine bs ?_ GE192.out) | exact HB.out)) hb); have n2_ := Am (hbox); have n3_ := Am ((by rw [hg]; exact (bz (by repeat (first | (with_reducible first | exact HB.out | apply ba | apply bn | apply be | refine bs ?_ GE192.out) | exact HB.out))) : w.heap.size ≤ gb193)); have n4_ := Am ((by rw [hg]; exact (bz (by repeat (first | (with_reducible first | exact HB.out | apply ba | apply bn | apply be | refine bs ?_ GE192.out) | exact HB.out))) : w.heap.size ≤ gb193)); have n5_ := Am ((by rw [hg]; exact Nat.ne_of_lt (kl (g := gb192) (o := o2b1 a0_0 a0_1 a0_2 a0_3 a0_4 a0_5 a0_6 a0_7 a0_8) (by (with_reducible repeat (first | refine kn ?_ _ | refine ke ?_ | refine ka ?_ _)); exact BK192.out)) : gb192 ≠ gb193)); have n6_ := Am ((by rw [hg]; exact Nat.ne_of_gt (kl (g := gb192) (o := o2b1 a0_0 a0_1 a0_2 a0_3 a0_4 a0_5 a0_6 a0_7 a0_8) (by (with_reducible repeat (first | refine kn ?_ _ | refine ke ?_ | refine ka ?_ _)); exact BK192.out)) : gb193 ≠ gb192)); clear BK192; clear HB; have BK192 := n0_; have HB := n1_; have BK193 := n2_; have GW193 := n3_; have GE193 := n4_; have NB192_193 := n5_; have NB193_192 := n6_; clear n0_ n1_ n2_ n3_ n4_ n5_ n6_; clear hb hbox hg; have hnb26 := NB192_193.out; have hnc26 := NB193_192.out; have hcz27_0 : w25.cell? ⟨gb192, 0, none⟩ = some (.int .i64 a0_0) := (kc BK192.out 0).trans rfl; have hcz27_1 : w25.cell? ⟨gb192, 1, none⟩ = some (.int .i64 a0_1) := (kc BK192.out 1).trans rfl; have hcz27_2 : w25.cell? ⟨gb192, 2, none⟩ = some (.int .i64 a0_2) := (kc BK192.out 2).trans rfl; have hcz27_3 : w25.cell? ⟨gb192, 3, none⟩ = some (.string a0_3) := (kc BK192.out 3).trans rfl; have hcz27_4 : w25.cell? ⟨gb192, 4, none⟩ = some (.string a0_4) := (kc BK192.out 4).trans rfl; have hcz27_5 : w25.cell? ⟨gb192, 5, none⟩ = some (.int .i64 a0_5) := (kc BK192.out 5).trans rfl; have hcz27_6 : w25.cell? ⟨gb192, 6, none⟩ = some (.int .i64 a0_6) := (kc BK192.out 6).trans rfl; have hcz27_7 : w25.cell? ⟨gb192, 7, none⟩ = some (.string a0_7) := (kc BK192.out 7).trans rfl; have hcz27_8 : w25.cell? ⟨gb192, 8, none⟩ = some (.int .i64 a0_8) := (kc BK192.out 8).trans rfl; have hfz27_0 := kf BK192.out 0; have hfz27_1 := kf BK192.out 1; have hfz27_2 := kf BK192.out 2; have hfz27_3 := kf BK192.out 3; have hfz27_4 := kf BK192.out 4; have hfz27_5 := kf BK192.out 5; have hfz27_6 := kf BK192.out 6; have hfz27_7 := kf BK192.out 7; have hfz27_8 := kf BK192.out 8; have hcz28_0 : w25.cell? ⟨gb193, 0, none⟩ = some (.int .i64 a1_0) := (kc BK193.out 0).trans rfl; have hcz28_1 : w25.cell? ⟨gb193, 1, none⟩ = some (.int .i64 a1_1) := (kc BK193.out 1).trans rfl; have hcz28_2 : w25.cell? ⟨gb193, 2, none⟩ = some (.int .i64 a1_2) := (kc BK193.out 2).trans rfl; have hcz28_3 : w25.cell? ⟨gb193, 3, none⟩ = some (.string a1_3) := (kc BK193.out 3).trans rfl; have hcz28_4 : w25.cell? ⟨gb193, 4, none⟩ = some (.string a1_4) := (kc BK193.out 4).trans rfl; have hcz28_5 : w25.cell? ⟨gb193, 5, none⟩ = some (.int .i64 a1_5) := (kc BK193.out 5).trans rfl; have hcz28_6 : w25.cell? ⟨gb193, 6, none⟩ = some (.int .i64 a1_6) := (kc BK193.out 6).trans rfl; have hcz28_7 : w25.cell? ⟨gb193, 7, none⟩ = some (.string a1_7) := (kc BK193.out 7).trans rfl; have hcz28_8 : w25.cell? ⟨gb193, 8, none⟩ = some (.int .i64 a1_8) := (kc BK193.out 8).trans rfl; have hfz28_0 := kf BK193.out 0; have hfz28_1 := kf BK193.out 1; have hfz28_2 := kf BK193.out 2; have hfz28_3 := kf BK193.out 3; have hfz28_4 := kf BK193.out 4; have hfz28_5 := kf BK193.out 5; have hfz28_6 := kf BK193.out 6; have hfz28_7 := kf BK193.out 7; have hfz28_8 := kf BK193.out 8) | ((with_reducible refine gate_callee (f := 117) rfl ?_); refine goesL_ (some 19) rfl rfl Try.func117 (by kernel_rfl) rfl #[.agg #[.int .i64 a0_2, .string a0_3, .string a0_4, .int .i64 a0_5, .int .i64 a0_6, .string a0_7], .agg #[.int .i64 a1_2, .string a1_3, .string a1_4, .int .i64 a1_5, .int .i64 a1_6, .string a1_7]] rfl (by (try simp only [List.map_toArray, List.map_cons, List.map_nil]); first | done | rfl | (simp only [List.length_drop, List.length_take]; rfl)) ?_; (with_reducible refine (laws_eqAsk.calls a0_2 a0_3 a0_4 a0_5 a0_6 a0_7 a1_2 a1_3 a1_4 a1_5 a1_6 a1_7 false _ A5.out).mono ?_); rintro e w29 ⟨rfl, hb⟩; refine ⟨_, rfl, ?_⟩; have n0_ := Am (kb (g := gb192) (o := o2b1 a0_0 a0_1 a0_2 a0_3 a0_4 a0_5 a0_6 a0_7 a0_8) (by (with_reducible repeat (first | refine kn ?_ _ | refine ke ?_ | refine ka ?_ _)); exact BK192.out) hb); have n1_ := Am (kb (g := gb193) (o := .cells #[.int .i64 a1_0, .int .i64 a1_1, .int .i64 a1_2, .string a1_3, .string a1_4, .int .i64 a1_5, .int .i64 a1_6, .string a1_7, .int .i64 a1_8] 33 (0, 0)) (by (with_reducible repeat (first | refine kn ?_ _ | refine ke ?_ | refine ka ?_ _)); exact BK193.out) hb); have n2_ := Am (bt (by repeat (first | (with_reducible first | exact HB.out | apply ba | apply bn | apply be | refine bs ?_ GE192.out | refine bs ?_ GE193.out) | exact HB.out)) hb); clear BK192; clear BK193; clear HB; have BK192 := n0_; have BK193 := n1_; have HB := n2_; clear n0_ n1_ n2_; (try clear hb)))
    go_ret
    exact ⟨by first | rfl | (simp [errW_none, errW_some] <;> rfl) | (simp [*, errW_none, errW_some] <;> rfl), by repeat (first | (with_reducible first | exact HB.out | apply ba | apply bn | apply be | refine bs ?_ GE192.out | refine bs ?_ GE193.out) | exact HB.out)⟩
  ·rw [if_neg c4] at H
   have c4b0 : (a0_1 == a1_1) = false := beq_eq_false_iff_ne.mpr c4
   have c4b1 : (a0_1 != a1_1) = true := bne_iff_ne.mpr c4
   obtain rfl := Option.some.inj H
   go_enter Try.func75, Try.ntmps75
   go_wp2_with (first | ((with_reducible refine gate_dst (N := 2) rfl ?_); refine box_event ?hg (N := 2) ?hd (cs := #[.int .i64 a0_0, .int .i64 a0_1, .int .i64 a0_2, .string a0_3, .string a0_4, .int .i64 a0_5, .int .i64 a0_6, .string a0_7, .int .i64 a0_8]) (t := 33) ?hr ?_; (case hd => rfl); (case hg => rfl); (case hr => first | (go_simp; done) | (go_simp; rfl)); intro gb192 hg w30 hbox hb; have BK192 := Am (hbox); have GW192 := Am ((by rw [hg]; exact (bz (by repeat (first | (with_reducible first | exact HB.out | apply ba | apply bn | apply be) | exact HB.out))) : w.heap.size ≤ gb192)); have GE192 := Am ((by rw [hg]; exact (bz (by repeat (first | (with_reducible first | exact HB.out | apply ba | apply bn | apply be) | exact HB.out))) : w.heap.size ≤ gb192)); replace HB := Am (bt (by repeat (first | (with_reducible first | exact HB.out | apply ba | apply bn | apply be) | exact HB.out)) hb); clear hb hbox hg) | ((with_reducible refine gate_dst (N := 3) rfl ?_); refine box_event ?hg (N := 3) ?hd (cs := #[.int .i64 a1_0, .int .i64 a1_1, .int .i64 a1_2, .string a1_3, .string a1_4, .int .i64 a1_5, .int .i64 a1_6, .string a1_7, .int .i64 a1_8]) (t := 33) ?hr ?_; (case hd => rfl); (case hg => rfl); (case hr => first | (go_simp; done) | (go_simp; rfl)); intro gb193 hg w31 hbox hb; have n0_ := Am (kb (g := gb192) (o := o2b1 a0_0 a0_1 a0_2 a0_3 a0_4 a0_5 a0_6 a0_7 a0_8) (by (with_reducible repeat (first | refine kn ?_ _ | refine ke ?_ | refine ka ?_ _)); exact BK192.out) hb); have n1_ := Am (bt (by repeat (first | (with_reducible first | exact HB.out | apply ba | apply bn | apply be | refine bs ?_ GE192.out) | exact HB.out)) hb); have n2_ := Am (hbox); have n3_ := Am ((by rw [hg]; exact (bz (by repeat (first | (with_reducible first | exact HB.out | apply ba | apply bn | apply be | refine bs ?_ GE192.out) | exact HB.out))) : w.heap.size ≤ gb193)); have n4_ := Am ((by rw [hg]; exact (bz (by repeat (first | (with_reducible first | exact HB.out | apply ba | apply bn | apply be | refine bs ?_ GE192.out) | exact HB.out))) : w.heap.size ≤ gb193)); have n5_ := Am ((by rw [hg]; exact Nat.ne_of_lt (kl (g := gb192) (o := o2b1 a0_0 a0_1 a0_2 a0_3 a0_4 a0_5 a0_6 a0_7 a0_8) (by (with_reducible repeat (first | refine kn ?_ _ | refine ke ?_ | refine ka ?_ _)); exact BK192.out)) : gb192 ≠ gb193)); have n6_ := Am ((by rw [hg]; exact Nat.ne_of_gt (kl (g := gb192) (o := o2b1 a0_0 a0_1 a0_2 a0_3 a0_4 a0_5 a0_6 a0_7 a0_8) (by (with_reducible repeat (first | refine kn ?_ _ | refine ke ?_ | refine ka ?_ _)); exact BK192.out)) : gb193 ≠ gb192)); clear BK192; clear HB; have BK192 := n0_; have HB := n1_; have BK193 := n2_; have GW193 := n3_; have GE193 := n4_; have NB192_193 := n5_; have NB193_192 := n6_; clear n0_ n1_ n2_ n3_ n4_ n5_ n6_; clear hb hbox hg; have hnb32 := NB192_193.out; have hnc32 := NB193_192.out; have hcz33_0 : w31.cell? ⟨gb192, 0, none⟩ = some (.int .i64 a0_0) := (kc BK192.out 0).trans rfl; have hcz33_1 : w31.cell? ⟨gb192, 1, none⟩ = some (.int .i64 a0_1) := (kc BK192.out 1).trans rfl; have hcz33_2 : w31.cell? ⟨gb192, 2, none⟩ = some (.int .i64 a0_2) := (kc BK192.out 2).trans rfl; have hcz33_3 : w31.cell? ⟨gb192, 3, none⟩ = some (.string a0_3) := (kc BK192.out 3).trans rfl; have hcz33_4 : w31.cell? ⟨gb192, 4, none⟩ = some (.string a0_4) := (kc BK192.out 4).trans rfl; have hcz33_5 : w31.cell? ⟨gb192, 5, none⟩ = some (.int .i64 a0_5) := (kc BK192.out 5).trans rfl; have hcz33_6 : w31.cell? ⟨gb192, 6, none⟩ = some (.int .i64 a0_6) := (kc BK192.out 6).trans rfl; have hcz33_7 : w31.cell? ⟨gb192, 7, none⟩ = some (.string a0_7) := (kc BK192.out 7).trans rfl; have hcz33_8 : w31.cell? ⟨gb192, 8, none⟩ = some (.int .i64 a0_8) := (kc BK192.out 8).trans rfl; have hfz33_0 := kf BK192.out 0; have hfz33_1 := kf BK192.out 1; have hfz33_2 := kf BK192.out 2; have hfz33_3 := kf BK192.out 3; have hfz33_4 := kf BK192.out 4; have hfz33_5 := kf BK192.out 5; have hfz33_6 := kf BK192.out 6; have hfz33_7 := kf BK192.out 7; have hfz33_8 := kf BK192.out 8; have hcz34_0 : w31.cell? ⟨gb193, 0, none⟩ = some (.int .i64 a1_0) := (kc BK193.out 0).trans rfl; have hcz34_1 : w31.cell? ⟨gb193, 1, none⟩ = some (.int .i64 a1_1) := (kc BK193.out 1).trans rfl; have hcz34_2 : w31.cell? ⟨gb193, 2, none⟩ = some (.int .i64 a1_2) := (kc BK193.out 2).trans rfl; have hcz34_3 : w31.cell? ⟨gb193, 3, none⟩ = some (.string a1_3) := (kc BK193.out 3).trans rfl; have hcz34_4 : w31.cell? ⟨gb193, 4, none⟩ = some (.string a1_4) := (kc BK193.out 4).trans rfl; have hcz34_5 : w31.cell? ⟨gb193, 5, none⟩ = some (.int .i64 a1_5) := (kc BK193.out 5).trans rfl; have hcz34_6 : w31.cell? ⟨gb193, 6, none⟩ = some (.int .i64 a1_6) := (kc BK193.out 6).trans rfl; have hcz34_7 : w31.cell? ⟨gb193, 7, none⟩ = some (.string a1_7) := (kc BK193.out 7).trans rfl; have hcz34_8 : w31.cell? ⟨gb193, 8, none⟩ = some (.int .i64 a1_8) := (kc BK193.out 8).trans rfl; have hfz34_0 := kf BK193.out 0; have hfz34_1 := kf BK193.out 1; have hfz34_2 := kf BK193.out 2; have hfz34_3 := kf BK193.out 3; have hfz34_4 := kf BK193.out 4; have hfz34_5 := kf BK193.out 5; have hfz34_6 := kf BK193.out 6; have hfz34_7 := kf BK193.out 7; have hfz34_8 := kf BK193.out 8))
   go_ret
   exact ⟨by first | rfl | (simp [errW_none, errW_some] <;> rfl) | (simp [*, errW_none, errW_some] <;> rfl), by repeat (first | (with_reducible first | exact HB.out | apply ba | apply bn | apply be | refine bs ?_ GE192.out | refine bs ?_ GE193.out) | exact HB.out)⟩
 ·rw [if_neg c3] at H
  have c3b0 : (a0_0 == a1_0) = false := beq_eq_false_iff_ne.mpr c3
  have c3b1 : (a0_0 != a1_0) = true := bne_iff_ne.mpr c3
  obtain rfl := Option.some.inj H
  go_enter Try.func75, Try.ntmps75
  go_wp2_with (first | ((with_reducible refine gate_dst (N := 2) rfl ?_); refine box_event ?hg (N := 2) ?hd (cs := #[.int .i64 a0_0, .int .i64 a0_1, .int .i64 a0_2, .string a0_3, .string a0_4, .int .i64 a0_5, .int .i64 a0_6, .string a0_7, .int .i64 a0_8]) (t := 33) ?hr ?_; (case hd => rfl); (case hg => rfl); (case hr => first | (go_simp; done) | (go_simp; rfl)); intro gb192 hg w35 hbox hb; have BK192 := Am (hbox); have GW192 := Am ((by rw [hg]; exact (bz (by repeat (first | (with_reducible first | exact HB.out | apply ba | apply bn | apply be) | exact HB.out))) : w.heap.size ≤ gb192)); have GE192 := Am ((by rw [hg]; exact (bz (by repeat (first | (with_reducible first | exact HB.out | apply ba | apply bn | apply be) | exact HB.out))) : w.heap.size ≤ gb192)); replace HB := Am (bt (by repeat (first | (with_reducible first | exact HB.out | apply ba | apply bn | apply be) | exact HB.out)) hb); clear hb hbox hg) | ((with_reducible refine gate_dst (N := 3) rfl ?_); refine box_event ?hg (N := 3) ?hd (cs := #[.int .i64 a1_0, .int .i64 a1_1, .int .i64 a1_2, .string a1_3, .string a1_4, .int .i64 a1_5, .int .i64 a1_6, .string a1_7, .int .i64 a1_8]) (t := 33) ?hr ?_; (case hd => rfl); (case hg => rfl); (case hr => first | (go_simp; done) | (go_simp; rfl)); intro gb193 hg w36 hbox hb; have n0_ := Am (kb (g := gb192) (o := o2b1 a0_0 a0_1 a0_2 a0_3 a0_4 a0_5 a0_6 a0_7 a0_8) (by (with_reducible repeat (first | refine kn ?_ _ | refine ke ?_ | refine ka ?_ _)); exact BK192.out) hb); have n1_ := Am (bt (by repeat (first | (with_reducible first | exact HB.out | apply ba | apply bn | apply be | refine bs ?_ GE192.out) | exact HB.out)) hb); have n2_ := Am (hbox); have n3_ := Am ((by rw [hg]; exact (bz (by repeat (first | (with_reducible first | exact HB.out | apply ba | apply bn | apply be | refine bs ?_ GE192.out) | exact HB.out))) : w.heap.size ≤ gb193)); have n4_ := Am ((by rw [hg]; exact (bz (by repeat (first | (with_reducible first | exact HB.out | apply ba | apply bn | apply be | refine bs ?_ GE192.out) | exact HB.out))) : w.heap.size ≤ gb193)); have n5_ := Am ((by rw [hg]; exact Nat.ne_of_lt (kl (g := gb192) (o := o2b1 a0_0 a0_1 a0_2 a0_3 a0_4 a0_5 a0_6 a0_7 a0_8) (by (with_reducible repeat (first | refine kn ?_ _ | refine ke ?_ | refine ka ?_ _)); exact BK192.out)) : gb192 ≠ gb193)); have n6_ := Am ((by rw [hg]; exact Nat.ne_of_gt (kl (g := gb192) (o := o2b1 a0_0 a0_1 a0_2 a0_3 a0_4 a0_5 a0_6 a0_7 a0_8) (by (with_reducible repeat (first | refine kn ?_ _ | refine ke ?_ | refine ka ?_ _)); exact BK192.out)) : gb193 ≠ gb192)); clear BK192; clear HB; have BK192 := n0_; have HB := n1_; have BK193 := n2_; have GW193 := n3_; have GE193 := n4_; have NB192_193 := n5_; have NB193_192 := n6_; clear n0_ n1_ n2_ n3_ n4_ n5_ n6_; clear hb hbox hg; have hnb37 := NB192_193.out; have hnc37 := NB193_192.out; have hcz38_0 : w36.cell? ⟨gb192, 0, none⟩ = some (.int .i64 a0_0) := (kc BK192.out 0).trans rfl; have hcz38_1 : w36.cell? ⟨gb192, 1, none⟩ = some (.int .i64 a0_1) := (kc BK192.out 1).trans rfl; have hcz38_2 : w36.cell? ⟨gb192, 2, none⟩ = some (.int .i64 a0_2) := (kc BK192.out 2).trans rfl; have hcz38_3 : w36.cell? ⟨gb192, 3, none⟩ = some (.string a0_3) := (kc BK192.out 3).trans rfl; have hcz38_4 : w36.cell? ⟨gb192, 4, none⟩ = some (.string a0_4) := (kc BK192.out 4).trans rfl; have hcz38_5 : w36.cell? ⟨gb192, 5, none⟩ = some (.int .i64 a0_5) := (kc BK192.out 5).trans rfl; have hcz38_6 : w36.cell? ⟨gb192, 6, none⟩ = some (.int .i64 a0_6) := (kc BK192.out 6).trans rfl; have hcz38_7 : w36.cell? ⟨gb192, 7, none⟩ = some (.string a0_7) := (kc BK192.out 7).trans rfl; have hcz38_8 : w36.cell? ⟨gb192, 8, none⟩ = some (.int .i64 a0_8) := (kc BK192.out 8).trans rfl; have hfz38_0 := kf BK192.out 0; have hfz38_1 := kf BK192.out 1; have hfz38_2 := kf BK192.out 2; have hfz38_3 := kf BK192.out 3; have hfz38_4 := kf BK192.out 4; have hfz38_5 := kf BK192.out 5; have hfz38_6 := kf BK192.out 6; have hfz38_7 := kf BK192.out 7; have hfz38_8 := kf BK192.out 8; have hcz39_0 : w36.cell? ⟨gb193, 0, none⟩ = some (.int .i64 a1_0) := (kc BK193.out 0).trans rfl; have hcz39_1 : w36.cell? ⟨gb193, 1, none⟩ = some (.int .i64 a1_1) := (kc BK193.out 1).trans rfl; have hcz39_2 : w36.cell? ⟨gb193, 2, none⟩ = some (.int .i64 a1_2) := (kc BK193.out 2).trans rfl; have hcz39_3 : w36.cell? ⟨gb193, 3, none⟩ = some (.string a1_3) := (kc BK193.out 3).trans rfl; have hcz39_4 : w36.cell? ⟨gb193, 4, none⟩ = some (.string a1_4) := (kc BK193.out 4).trans rfl; have hcz39_5 : w36.cell? ⟨gb193, 5, none⟩ = some (.int .i64 a1_5) := (kc BK193.out 5).trans rfl; have hcz39_6 : w36.cell? ⟨gb193, 6, none⟩ = some (.int .i64 a1_6) := (kc BK193.out 6).trans rfl; have hcz39_7 : w36.cell? ⟨gb193, 7, none⟩ = some (.string a1_7) := (kc BK193.out 7).trans rfl; have hcz39_8 : w36.cell? ⟨gb193, 8, none⟩ = some (.int .i64 a1_8) := (kc BK193.out 8).trans rfl; have hfz39_0 := kf BK193.out 0; have hfz39_1 := kf BK193.out 1; have hfz39_2 := kf BK193.out 2; have hfz39_3 := kf BK193.out 3; have hfz39_4 := kf BK193.out 4; have hfz39_5 := kf BK193.out 5; have hfz39_6 := kf BK193.out 6; have hfz39_7 := kf BK193.out 7; have hfz39_8 := kf BK193.out 8))
  go_ret
  exact ⟨by first | rfl | (simp [errW_none, errW_some] <;> rfl) | (simp [*, errW_none, errW_some] <;> rfl), by repeat (first | (with_reducible first | exact HB.out | apply ba | apply bn | apply be | refine bs ?_ GE192.out | refine bs ?_ GE193.out) | exact HB.out)⟩

/-! ### laws_eqActS: function 25 -/
def laws_eqActS.l0 : Nat → List (S33) → List (S33) → Int → Option (Bool)
 | 0, _, _, _ => none
 | k + 1, x0, x1, x5 => if x5 < (x0.length : Int) then (if 0 ≤ x5 then (if x5 < (x1.length : Int) then ((laws_eqAct.f ((rd_T33 x0 x5).f0) ((rd_T33 x0 x5).f1) ((rd_T33 x0 x5).f2.f0) ((rd_T33 x0 x5).f2.f1) ((rd_T33 x0 x5).f2.f2) ((rd_T33 x0 x5).f2.f3) ((rd_T33 x0 x5).f2.f4) ((rd_T33 x0 x5).f2.f5) ((rd_T33 x0 x5).f3) ((rd_T33 x1 x5).f0) ((rd_T33 x1 x5).f1) ((rd_T33 x1 x5).f2.f0) ((rd_T33 x1 x5).f2.f1) ((rd_T33 x1 x5).f2.f2) ((rd_T33 x1 x5).f2.f3) ((rd_T33 x1 x5).f2.f4) ((rd_T33 x1 x5).f2.f5) ((rd_T33 x1 x5).f3)).bind fun t197 => (if t197 = true then (laws_eqActS.l0 k x0 x1 (wrap64 (x5 + 1))) else (some false))) else (none)) else (none)) else (some true)
def laws_eqActS.f (k : Nat) (l0 : List (S33)) (l1 : List (S33)) : Option (Bool) := if (l0.length : Int) = (l1.length : Int) then (laws_eqActS.l0 k l0 l1 0) else (some false)
theorem laws_eqActS.mono_l : ∀ k, (∀ y0 y1 y2, LeO (laws_eqActS.l0 k y0 y1 y2) (laws_eqActS.l0 (k + 1) y0 y1 y2))
 | 0 => fun _ _ _ r h => by simp [laws_eqActS.l0] at h
 | k + 1 => by
  have ih0 := laws_eqActS.mono_l k
  ·intro y0 y1 y2
   unfold laws_eqActS.l0
   repeat' first
   | (with_reducible exact ih0 _ _ _)
   | (with_reducible exact LeO.refl _)
   | (with_reducible exact LeO.none _)
   | (with_reducible refine LeO.ite ?_ ?_)
   | (with_reducible refine LeO.bind ?_ (fun _ => ?_))
   | exact ih0 _ _ _
   | exact LeO.none _
   | refine LeO.ite ?_ ?_
   | refine LeO.bind ?_ (fun _ => ?_)
theorem laws_eqActS.mono : ∀ a0 a1 k, LeO (laws_eqActS.f k a0 a1) (laws_eqActS.f (k + 1) a0 a1) := by
 intro a0 a1 k
 have ih0 := laws_eqActS.mono_l k
 unfold laws_eqActS.f
 repeat' first
   | (with_reducible exact ih0 _ _ _)
   | (with_reducible exact LeO.refl _)
   | (with_reducible exact LeO.none _)
   | (with_reducible refine LeO.ite ?_ ?_)
   | (with_reducible refine LeO.bind ?_ (fun _ => ?_))
   | exact ih0 _ _ _
   | exact LeO.none _
   | refine LeO.ite ?_ ?_
   | refine LeO.bind ?_ (fun _ => ?_)
def laws_eqActS.T6 : Bool × List (List Nat × List Nat) := (true, [([], []), ([], []), ([0, 1], [0, 1]), ([2], [2]), ([], []), ([], []), ([4, 5], [4, 5]), ([6], [6]), ([3, 7], [3, 7]), ([8], [8])])
def laws_eqActS.B6 : List Nat := [0, 0, 3, 7, 0, 0, 48, 112, 255, 511]
theorem laws_eqActS.tab6 : rtab .any (opsOf Try.f25 6) = laws_eqActS.T6 := by kernel_rfl
theorem laws_eqActS.bits6 : waitsOk laws_eqActS.T6.2 laws_eqActS.B6 = true := by kernel_rfl
set_option maxHeartbeats 8000000 in
set_option maxRecDepth 100000 in
theorem laws_eqActS.calls (k : Nat) (A0 : Option Addr) (c0 : Nat) (l0 : List (S33)) (A1 : Option Addr) (c1 : Nat) (l1 : List (S33)) (r : Bool) (w : World) (hr0 : Kd.C k33 w A0 l0.length l0) (hc0 : l0.length ≤ c0) (hr1 : Kd.C k33 w A1 l1.length l1) (hc1 : l1.length ≤ c1) (h : laws_eqActS.f k l0 l1 = some r) :
  Calls Try.prog 25 #[.slice A0 l0.length c0, .slice A1 l1.length c1] w fun e w' => e = .returned (.bool r) ∧ Below w.heap.size w w' := by
 have hu33 := Try.underlying33
 have HR0 := Am hr0
 have HC0 := Am hc0
 clear hr0 hc0
 have HR1 := Am hr1
 have HC1 := Am hc1
 clear hr1 hc1
 have HB := Am (Below.refl w.heap.size w)
 have H : (if (l0.length : Int) = (l1.length : Int) then (laws_eqActS.l0 k l0 l1 0) else (some false)) = some r := h
 clear h
 by_cases c3 : (l0.length : Int) = (l1.length : Int)
 ·rw [if_pos c3] at H
  have c3b0 : ((l0.length : Int) == (l1.length : Int)) = true := beq_iff_eq.mpr c3
  have c3b1 : ((l0.length : Int) != (l1.length : Int)) = false := bne_eq_false_iff_eq.mpr c3
  have c3b2 : (l0.length == l1.length) = true := by first | simpa using c3 | (simp at c3 ⊢; omega)
  clear c3
  have H' := Am H
  clear H
  go_enter Try.func25, Try.ntmps25
  go_wp2
  go_loopg [5] k (fun kq v5 w' => ∃ (x5_1 : Int), v5 = .int .i64 x5_1 ∧ Aside0 (laws_eqActS.l0 kq l0 l1 x5_1 = some r) ∧ Aside0 (kq ≤ k) ∧ Aside0 (Below w.heap.size w w'))
  case atStart => exact ⟨(0), (by first | rfl | (simp; done) | (simp [*]; done)), H', ⟨Nat.le_refl _⟩, ⟨by repeat (first | (with_reducible first | apply ba | apply bn | apply be) | exact HB.out)⟩⟩
  case round =>
   clear H'
   try clear c1
   try clear c2
   try clear p2
   try clear c3
   try clear c3b0
   try clear c3b1
   try clear c3b2
   obtain ⟨x5_1, rfl, HA, HK1, HB⟩ := hrel
   cases gk with
   | zero => exact absurd HA.out (by simp [laws_eqActS.l0])
   | succ k1 =>
    have H := HA.out
    clear HA
    simp only [laws_eqActS.l0] at H
    by_cases c4 : x5_1 < (l0.length : Int)
    ·rw [if_pos c4] at H
     have c4b0 : decide (x5_1 < (l0.length : Int)) = true := decide_eq_true c4
     clear c4
     by_cases c5 : 0 ≤ x5_1
     ·rw [if_pos c5] at H
      have c5b0 : decide (0 ≤ x5_1) = true := decide_eq_true c5
      clear c5
      by_cases c6 : x5_1 < (l1.length : Int)
      ·rw [if_pos c6] at H
       have c6b0 : decide (x5_1 < (l1.length : Int)) = true := decide_eq_true c6
       clear c6
       replace H := Option.bind_eq_some_iff.mp H
       obtain ⟨t197, A70, H⟩ := H
       replace H : (if t197 = true then (laws_eqActS.l0 k1 l0 l1 (wrap64 (x5_1 + 1))) else (some false)) = some r := H
       have A7 := Am A70
       clear A70
       by_cases c8 : t197 = true
       ·subst c8
        have H1 : (laws_eqActS.l0 k1 l0 l1 (wrap64 (x5_1 + 1))) = some r := by rw [if_pos rfl] at H; exact H
        clear H
        have H := H1
        clear H1
        have H' := Am H
        clear H
        try go_wp2
        have n0_ := Am (be HB.out)
        clear HB
        have HB := n0_
        clear n0_
        have p195 : 0 ≤ (x5_1 : Int) := of_decide_eq_true (by assumption)
        have q195 : x5_1 < (l0.length : Int) := of_decide_eq_true (by assumption)
        obtain ⟨ad195, e195, hx195_0, hx195_1, hx195_2, hx195_3, hx195_4, hx195_5, hx195_6, hx195_7, hx195_8⟩ := at_T33 HR0.out x5_1 p195 q195
        have hw195_8 := hx195_8
        have hw195_7 := hx195_7
        have hw195_6 := hx195_6
        have hw195_5 := hx195_5
        have hw195_4 := hx195_4
        have hw195_3 := hx195_3
        have hw195_2 := hx195_2
        have hw195_1 := hx195_1
        have hw195_0 := hx195_0
        cases e195
        replace hx195_0 := cl2 HB hx195_0
        replace hx195_1 := cl2 HB hx195_1
        replace hx195_2 := cl2 HB hx195_2
        replace hx195_3 := cl2 HB hx195_3
        replace hx195_4 := cl2 HB hx195_4
        replace hx195_5 := cl2 HB hx195_5
        replace hx195_6 := cl2 HB hx195_6
        replace hx195_7 := cl2 HB hx195_7
        replace hx195_8 := cl2 HB hx195_8
        replace p195 := eq_true p195
        replace q195 := eq_true q195
        have p196 : 0 ≤ (x5_1 : Int) := of_decide_eq_true (by assumption)
        have q196 : x5_1 < (l1.length : Int) := of_decide_eq_true (by assumption)
        obtain ⟨ad196, e196, hx196_0, hx196_1, hx196_2, hx196_3, hx196_4, hx196_5, hx196_6, hx196_7, hx196_8⟩ := at_T33 HR1.out x5_1 p196 q196
        have hw196_8 := hx196_8
        have hw196_7 := hx196_7
        have hw196_6 := hx196_6
        have hw196_5 := hx196_5
        have hw196_4 := hx196_4
        have hw196_3 := hx196_3
        have hw196_2 := hx196_2
        have hw196_1 := hx196_1
        have hw196_0 := hx196_0
        cases e196
        replace hx196_0 := cl2 HB hx196_0
        replace hx196_1 := cl2 HB hx196_1
        replace hx196_2 := cl2 HB hx196_2
        replace hx196_3 := cl2 HB hx196_3
        replace hx196_4 := cl2 HB hx196_4
        replace hx196_5 := cl2 HB hx196_5
        replace hx196_6 := cl2 HB hx196_6
        replace hx196_7 := cl2 HB hx196_7
        replace hx196_8 := cl2 HB hx196_8
        replace p196 := eq_true p196
        replace q196 := eq_true q196
        refine start_ (n := 10) (S := fun w' => w'.cell? (ad195.add ((x5_1).toNat * 9)) = some (.int .i64 ((rd_T33 l0 x5_1).f0)) ∧ w'.cell? ⟨(ad195.add ((x5_1).toNat * 9)).block, (ad195.add ((x5_1).toNat * 9)).off + 1, none⟩ = some (.int .i64 ((rd_T33 l0 x5_1).f1)) ∧ w'.cell? ⟨(ad195.add ((x5_1).toNat * 9)).block, (ad195.add ((x5_1).toNat * 9)).off + 2, none⟩ = some (.int .i64 ((rd_T33 l0 x5_1).f2.f0)) ∧ w'.cell? ⟨(ad195.add ((x5_1).toNat * 9)).block, (ad195.add ((x5_1).toNat * 9)).off + 3, none⟩ = some (.string ((rd_T33 l0 x5_1).f2.f1)) ∧ w'.cell? ⟨(ad195.add ((x5_1).toNat * 9)).block, (ad195.add ((x5_1).toNat * 9)).off + 4, none⟩ = some (.string ((rd_T33 l0 x5_1).f2.f2)) ∧ w'.cell? ⟨(ad195.add ((x5_1).toNat * 9)).block, (ad195.add ((x5_1).toNat * 9)).off + 5, none⟩ = some (.int .i64 ((rd_T33 l0 x5_1).f2.f3)) ∧ w'.cell? ⟨(ad195.add ((x5_1).toNat * 9)).block, (ad195.add ((x5_1).toNat * 9)).off + 6, none⟩ = some (.int .i64 ((rd_T33 l0 x5_1).f2.f4)) ∧ w'.cell? ⟨(ad195.add ((x5_1).toNat * 9)).block, (ad195.add ((x5_1).toNat * 9)).off + 7, none⟩ = some (.string ((rd_T33 l0 x5_1).f2.f5)) ∧ w'.cell? ⟨(ad195.add ((x5_1).toNat * 9)).block, (ad195.add ((x5_1).toNat * 9)).off + 8, none⟩ = some (.int .i64 ((rd_T33 l0 x5_1).f3)) ∧ w'.cell? (ad196.add ((x5_1).toNat * 9)) = some (.int .i64 ((rd_T33 l1 x5_1).f0)) ∧ w'.cell? ⟨(ad196.add ((x5_1).toNat * 9)).block, (ad196.add ((x5_1).toNat * 9)).off + 1, none⟩ = some (.int .i64 ((rd_T33 l1 x5_1).f1)) ∧ w'.cell? ⟨(ad196.add ((x5_1).toNat * 9)).block, (ad196.add ((x5_1).toNat * 9)).off + 2, none⟩ = some (.int .i64 ((rd_T33 l1 x5_1).f2.f0)) ∧ w'.cell? ⟨(ad196.add ((x5_1).toNat * 9)).block, (ad196.add ((x5_1).toNat * 9)).off + 3, none⟩ = some (.string ((rd_T33 l1 x5_1).f2.f1)) ∧ w'.cell? ⟨(ad196.add ((x5_1).toNat * 9)).block, (ad196.add ((x5_1).toNat * 9)).off + 4, none⟩ = some (.string ((rd_T33 l1 x5_1).f2.f2)) ∧ w'.cell? ⟨(ad196.add ((x5_1).toNat * 9)).block, (ad196.add ((x5_1).toNat * 9)).off + 5, none⟩ = some (.int .i64 ((rd_T33 l1 x5_1).f2.f3)) ∧ w'.cell? ⟨(ad196.add ((x5_1).toNat * 9)).block, (ad196.add ((x5_1).toNat * 9)).off + 6, none⟩ = some (.int .i64 ((rd_T33 l1 x5_1).f2.f4)) ∧ w'.cell? ⟨(ad196.add ((x5_1).toNat * 9)).block, (ad196.add ((x5_1).toNat * 9)).off + 7, none⟩ = some (.string ((rd_T33 l1 x5_1).f2.f5)) ∧ w'.cell? ⟨(ad196.add ((x5_1).toNat * 9)).block, (ad196.add ((x5_1).toNat * 9)).off + 8, none⟩ = some (.int .i64 ((rd_T33 l1 x5_1).f3))) (ds := []) #[false, false, false, false, false, false, false, false, false, false] (by kernel_rfl) rfl rfl ⟨(cl2 HB hw195_0), (cl2 HB hw195_1), (cl2 HB hw195_2), (cl2 HB hw195_3), (cl2 HB hw195_4), (cl2 HB hw195_5), (cl2 HB hw195_6), (cl2 HB hw195_7), (cl2 HB hw195_8), (cl2 HB hw196_0), (cl2 HB hw196_1), (cl2 HB hw196_2), (cl2 HB hw196_3), (cl2 HB hw196_4), (cl2 HB hw196_5), (cl2 HB hw196_6), (cl2 HB hw196_7), (cl2 HB hw196_8)⟩ (fun hHeld => ?_); refine with_tabW laws_eqActS.tab6 laws_eqActS.bits6 (fun HT_ HW_ => ?_)
        generalize wr.drew = w9 at HB hx195_0 hx195_1 hx195_2 hx195_3 hx195_4 hx195_5 hx195_6 hx195_7 hx195_8 hx196_0 hx196_1 hx196_2 hx196_3 hx196_4 hx196_5 hx196_6 hx196_7 hx196_8 hHeld ⊢
        refine pure_ (i := 0) (N := some 17) (v := ?_) (a' := ?_) #[true, false, false, false, false, false, false, false, false, false] rfl rfl (any_of HT_.out (by kernel_rfl)) (fun _ _ _ h => h) (Or.inl ⟨by rfl, ?_⟩) ?_ ?_
        rotate_left
        ·intro w'
         go_simp
         with_reducible rfl
        rotate_left
        ·simp only [Act.put, List.setIfInBounds_toArray, List.set_cons_zero, List.set_cons_succ, i64_w, i32_w]
         rfl
        refine pure_ (i := 1) (N := some 18) (v := ?_) (a' := ?_) #[true, true, false, false, false, false, false, false, false, false] rfl rfl (any_of HT_.out (by kernel_rfl)) (fun _ _ _ h => h) (Or.inl ⟨by rfl, ?_⟩) ?_ ?_
        rotate_left
        ·intro w'
         go_simp
         with_reducible rfl
        rotate_left
        ·simp only [Act.put, List.setIfInBounds_toArray, List.set_cons_zero, List.set_cons_succ, i64_w, i32_w]
         rfl
        refine pure_ (i := 2) (N := some 19) (v := ?_) (a' := ?_) #[true, true, true, false, false, false, false, false, false, false] rfl rfl (any_of HT_.out (by kernel_rfl)) (fun _ _ _ h => h) (Or.inl ⟨by rfl, ?_⟩) ?_ ?_
        rotate_left
        ·intro w'
         go_simp
         with_reducible rfl
        rotate_left
        ·simp only [Act.put, List.setIfInBounds_toArray, List.set_cons_zero, List.set_cons_succ, i64_w, i32_w]
         rfl
        refine pure_ (i := 4) (N := some 21) (v := ?_) (a' := ?_) #[true, true, true, false, true, false, false, false, false, false] rfl rfl (any_of HT_.out (by kernel_rfl)) (fun _ _ _ h => h) (Or.inl ⟨by rfl, ?_⟩) ?_ ?_
        rotate_left
        ·intro w'
         go_simp
         with_reducible rfl
        rotate_left
        ·simp only [Act.put, List.setIfInBounds_toArray, List.set_cons_zero, List.set_cons_succ, i64_w, i32_w]
         rfl
        refine pure_ (i := 5) (N := some 22) (v := ?_) (a' := ?_) #[true, true, true, false, true, true, false, false, false, false] rfl rfl (any_of HT_.out (by kernel_rfl)) (fun _ _ _ h => h) (Or.inl ⟨by rfl, ?_⟩) ?_ ?_
        rotate_left
        ·intro w'
         go_simp
         with_reducible rfl
        rotate_left
        ·simp only [Act.put, List.setIfInBounds_toArray, List.set_cons_zero, List.set_cons_succ, i64_w, i32_w]
         rfl
        refine pure_ (i := 6) (N := some 23) (v := ?_) (a' := ?_) #[true, true, true, false, true, true, true, false, false, false] rfl rfl (any_of HT_.out (by kernel_rfl)) (fun _ _ _ h => h) (Or.inl ⟨by rfl, ?_⟩) ?_ ?_
        rotate_left
        ·intro w'
         go_simp
         with_reducible rfl
        rotate_left
        ·simp only [Act.put, List.setIfInBounds_toArray, List.set_cons_zero, List.set_cons_succ, i64_w, i32_w]
         rfl
        refine take_ (i := 3) (N := some 20) (v := ?_) (a' := ?_) #[true, true, true, true, true, true, true, false, false, false] rfl rfl (take_ofW HT_.out HW_.out (by kernel_rfl)) (fun _ _ _ h => h) (Or.inl ⟨by rfl, ?_⟩) hHeld ?_ ?_
        rotate_left
        ·rintro w' ⟨s0, s1, s2, s3, s4, s5, s6, s7, s8, s9, s10, s11, s12, s13, s14, s15, s16, s17⟩
         go_simp
         with_reducible rfl
        rotate_left
        ·simp only [Act.put, List.setIfInBounds_toArray, List.set_cons_zero, List.set_cons_succ, i64_w, i32_w]
         rfl
        refine take_ (i := 7) (N := some 24) (v := ?_) (a' := ?_) #[true, true, true, true, true, true, true, true, false, false] rfl rfl (take_ofW HT_.out HW_.out (by kernel_rfl)) (fun _ _ _ h => h) (Or.inl ⟨by rfl, ?_⟩) hHeld ?_ ?_
        rotate_left
        ·rintro w' ⟨s0, s1, s2, s3, s4, s5, s6, s7, s8, s9, s10, s11, s12, s13, s14, s15, s16, s17⟩
         go_simp
         with_reducible rfl
        rotate_left
        ·simp only [Act.put, List.setIfInBounds_toArray, List.set_cons_zero, List.set_cons_succ, i64_w, i32_w]
         rfl
        refine one_ (i := 8) (N := some 25) #[true, true, true, true, true, true, true, true, true, false] rfl rfl (one_of HT_.out (by kernel_rfl)) (by decide) (fun K hK => ?_)
        refine goes_ Try.func75 (by kernel_rfl) rfl #[.agg #[.int .i64 ((rd_T33 l0 x5_1).f0), .int .i64 ((rd_T33 l0 x5_1).f1), .int .i64 ((rd_T33 l0 x5_1).f2.f0), .string ((rd_T33 l0 x5_1).f2.f1), .string ((rd_T33 l0 x5_1).f2.f2), .int .i64 ((rd_T33 l0 x5_1).f2.f3), .int .i64 ((rd_T33 l0 x5_1).f2.f4), .string ((rd_T33 l0 x5_1).f2.f5), .int .i64 ((rd_T33 l0 x5_1).f3)], .agg #[.int .i64 ((rd_T33 l1 x5_1).f0), .int .i64 ((rd_T33 l1 x5_1).f1), .int .i64 ((rd_T33 l1 x5_1).f2.f0), .string ((rd_T33 l1 x5_1).f2.f1), .string ((rd_T33 l1 x5_1).f2.f2), .int .i64 ((rd_T33 l1 x5_1).f2.f3), .int .i64 ((rd_T33 l1 x5_1).f2.f4), .string ((rd_T33 l1 x5_1).f2.f5), .int .i64 ((rd_T33 l1 x5_1).f3)]] (by rfl) rfl rfl (by (try simp only [List.map_toArray, List.map_cons, List.map_nil]); first | done | rfl | (simp only [List.length_drop, List.length_take]; rfl)) ?_
        with_reducible refine (laws_eqAct.calls ((rd_T33 l0 x5_1).f0) ((rd_T33 l0 x5_1).f1) ((rd_T33 l0 x5_1).f2.f0) ((rd_T33 l0 x5_1).f2.f1) ((rd_T33 l0 x5_1).f2.f2) ((rd_T33 l0 x5_1).f2.f3) ((rd_T33 l0 x5_1).f2.f4) ((rd_T33 l0 x5_1).f2.f5) ((rd_T33 l0 x5_1).f3) ((rd_T33 l1 x5_1).f0) ((rd_T33 l1 x5_1).f1) ((rd_T33 l1 x5_1).f2.f0) ((rd_T33 l1 x5_1).f2.f1) ((rd_T33 l1 x5_1).f2.f2) ((rd_T33 l1 x5_1).f2.f3) ((rd_T33 l1 x5_1).f2.f4) ((rd_T33 l1 x5_1).f2.f5) ((rd_T33 l1 x5_1).f3) true _ A7.out).mono ?_
        rintro e w10 ⟨rfl, hb⟩
        refine ⟨_, rfl, ?_⟩
        have n0_ := Am (bt (by repeat (first | (with_reducible first | exact HB.out | apply ba | apply bn | apply be) | exact HB.out)) hb)
        clear HB
        have HB := n0_
        clear n0_
        (try clear hb)
        (try clear hb2)
        (try clear hk)
        (try clear hi)
        refine hK.out _ _ ⟨(cl2 HB hw195_0), (cl2 HB hw195_1), (cl2 HB hw195_2), (cl2 HB hw195_3), (cl2 HB hw195_4), (cl2 HB hw195_5), (cl2 HB hw195_6), (cl2 HB hw195_7), (cl2 HB hw195_8), (cl2 HB hw196_0), (cl2 HB hw196_1), (cl2 HB hw196_2), (cl2 HB hw196_3), (cl2 HB hw196_4), (cl2 HB hw196_5), (cl2 HB hw196_6), (cl2 HB hw196_7), (cl2 HB hw196_8)⟩ (fun hHeld => ?_)
        clear hK K
        refine norm_ (a' := ?_) ?_ ?_
        rotate_left
        ·show Act.put _ (some 25) _ = _
         simp only [Act.put, List.setIfInBounds_toArray, List.set_cons_zero, List.set_cons_succ, i64_w, i32_w]
         rfl
        refine pure_ (i := 9) (N := some 26) (v := ?_) (a' := ?_) #[true, true, true, true, true, true, true, true, true, true] rfl rfl (any_of HT_.out (by kernel_rfl)) (fun _ _ _ h => h) (Or.inl ⟨by rfl, ?_⟩) ?_ ?_
        rotate_left
        ·intro w'
         go_simp
         with_reducible rfl
        rotate_left
        ·simp only [Act.put, List.setIfInBounds_toArray, List.set_cons_zero, List.set_cons_succ, i64_w, i32_w]
         rfl
        refine done_ (done_of HT_.out (by kernel_rfl)) ?_
        try go_wp2
        go_roundg k1
        case measure => have := HK1.out; omega
        case rel => exact ⟨(wrap64 (x5_1 + 1)), (by first | rfl | (simp; done) | (simp [*]; done)), H', ⟨by have := HK1.out; omega⟩, ⟨by repeat (first | (with_reducible first | apply ba | apply bn | apply be) | exact HB.out)⟩⟩
       ·replace c8 := Bool.eq_false_iff.mpr c8
        subst c8
        have H1 : (some false) = some r := by rw [if_neg (show ¬ (false = true) by decide)] at H; exact H
        clear H
        have H := H1
        clear H1
        obtain rfl := Option.some.inj H
        try go_wp2
        have n0_ := Am (be HB.out)
        clear HB
        have HB := n0_
        clear n0_
        have p195 : 0 ≤ (x5_1 : Int) := of_decide_eq_true (by assumption)
        have q195 : x5_1 < (l0.length : Int) := of_decide_eq_true (by assumption)
        obtain ⟨ad195, e195, hx195_0, hx195_1, hx195_2, hx195_3, hx195_4, hx195_5, hx195_6, hx195_7, hx195_8⟩ := at_T33 HR0.out x5_1 p195 q195
        have hw195_8 := hx195_8
        have hw195_7 := hx195_7
        have hw195_6 := hx195_6
        have hw195_5 := hx195_5
        have hw195_4 := hx195_4
        have hw195_3 := hx195_3
        have hw195_2 := hx195_2
        have hw195_1 := hx195_1
        have hw195_0 := hx195_0
        cases e195
        replace hx195_0 := cl2 HB hx195_0
        replace hx195_1 := cl2 HB hx195_1
        replace hx195_2 := cl2 HB hx195_2
        replace hx195_3 := cl2 HB hx195_3
        replace hx195_4 := cl2 HB hx195_4
        replace hx195_5 := cl2 HB hx195_5
        replace hx195_6 := cl2 HB hx195_6
        replace hx195_7 := cl2 HB hx195_7
        replace hx195_8 := cl2 HB hx195_8
        replace p195 := eq_true p195
        replace q195 := eq_true q195
        have p196 : 0 ≤ (x5_1 : Int) := of_decide_eq_true (by assumption)
        have q196 : x5_1 < (l1.length : Int) := of_decide_eq_true (by assumption)
        obtain ⟨ad196, e196, hx196_0, hx196_1, hx196_2, hx196_3, hx196_4, hx196_5, hx196_6, hx196_7, hx196_8⟩ := at_T33 HR1.out x5_1 p196 q196
        have hw196_8 := hx196_8
        have hw196_7 := hx196_7
        have hw196_6 := hx196_6
        have hw196_5 := hx196_5
        have hw196_4 := hx196_4
        have hw196_3 := hx196_3
        have hw196_2 := hx196_2
        have hw196_1 := hx196_1
        have hw196_0 := hx196_0
        cases e196
        replace hx196_0 := cl2 HB hx196_0
        replace hx196_1 := cl2 HB hx196_1
        replace hx196_2 := cl2 HB hx196_2
        replace hx196_3 := cl2 HB hx196_3
        replace hx196_4 := cl2 HB hx196_4
        replace hx196_5 := cl2 HB hx196_5
        replace hx196_6 := cl2 HB hx196_6
        replace hx196_7 := cl2 HB hx196_7
        replace hx196_8 := cl2 HB hx196_8
        replace p196 := eq_true p196
        replace q196 := eq_true q196
        refine start_ (n := 10) (S := fun w' => w'.cell? (ad195.add ((x5_1).toNat * 9)) = some (.int .i64 ((rd_T33 l0 x5_1).f0)) ∧ w'.cell? ⟨(ad195.add ((x5_1).toNat * 9)).block, (ad195.add ((x5_1).toNat * 9)).off + 1, none⟩ = some (.int .i64 ((rd_T33 l0 x5_1).f1)) ∧ w'.cell? ⟨(ad195.add ((x5_1).toNat * 9)).block, (ad195.add ((x5_1).toNat * 9)).off + 2, none⟩ = some (.int .i64 ((rd_T33 l0 x5_1).f2.f0)) ∧ w'.cell? ⟨(ad195.add ((x5_1).toNat * 9)).block, (ad195.add ((x5_1).toNat * 9)).off + 3, none⟩ = some (.string ((rd_T33 l0 x5_1).f2.f1)) ∧ w'.cell? ⟨(ad195.add ((x5_1).toNat * 9)).block, (ad195.add ((x5_1).toNat * 9)).off + 4, none⟩ = some (.string ((rd_T33 l0 x5_1).f2.f2)) ∧ w'.cell? ⟨(ad195.add ((x5_1).toNat * 9)).block, (ad195.add ((x5_1).toNat * 9)).off + 5, none⟩ = some (.int .i64 ((rd_T33 l0 x5_1).f2.f3)) ∧ w'.cell? ⟨(ad195.add ((x5_1).toNat * 9)).block, (ad195.add ((x5_1).toNat * 9)).off + 6, none⟩ = some (.int .i64 ((rd_T33 l0 x5_1).f2.f4)) ∧ w'.cell? ⟨(ad195.add ((x5_1).toNat * 9)).block, (ad195.add ((x5_1).toNat * 9)).off + 7, none⟩ = some (.string ((rd_T33 l0 x5_1).f2.f5)) ∧ w'.cell? ⟨(ad195.add ((x5_1).toNat * 9)).block, (ad195.add ((x5_1).toNat * 9)).off + 8, none⟩ = some (.int .i64 ((rd_T33 l0 x5_1).f3)) ∧ w'.cell? (ad196.add ((x5_1).toNat * 9)) = some (.int .i64 ((rd_T33 l1 x5_1).f0)) ∧ w'.cell? ⟨(ad196.add ((x5_1).toNat * 9)).block, (ad196.add ((x5_1).toNat * 9)).off + 1, none⟩ = some (.int .i64 ((rd_T33 l1 x5_1).f1)) ∧ w'.cell? ⟨(ad196.add ((x5_1).toNat * 9)).block, (ad196.add ((x5_1).toNat * 9)).off + 2, none⟩ = some (.int .i64 ((rd_T33 l1 x5_1).f2.f0)) ∧ w'.cell? ⟨(ad196.add ((x5_1).toNat * 9)).block, (ad196.add ((x5_1).toNat * 9)).off + 3, none⟩ = some (.string ((rd_T33 l1 x5_1).f2.f1)) ∧ w'.cell? ⟨(ad196.add ((x5_1).toNat * 9)).block, (ad196.add ((x5_1).toNat * 9)).off + 4, none⟩ = some (.string ((rd_T33 l1 x5_1).f2.f2)) ∧ w'.cell? ⟨(ad196.add ((x5_1).toNat * 9)).block, (ad196.add ((x5_1).toNat * 9)).off + 5, none⟩ = some (.int .i64 ((rd_T33 l1 x5_1).f2.f3)) ∧ w'.cell? ⟨(ad196.add ((x5_1).toNat * 9)).block, (ad196.add ((x5_1).toNat * 9)).off + 6, none⟩ = some (.int .i64 ((rd_T33 l1 x5_1).f2.f4)) ∧ w'.cell? ⟨(ad196.add ((x5_1).toNat * 9)).block, (ad196.add ((x5_1).toNat * 9)).off + 7, none⟩ = some (.string ((rd_T33 l1 x5_1).f2.f5)) ∧ w'.cell? ⟨(ad196.add ((x5_1).toNat * 9)).block, (ad196.add ((x5_1).toNat * 9)).off + 8, none⟩ = some (.int .i64 ((rd_T33 l1 x5_1).f3))) (ds := []) #[false, false, false, false, false, false, false, false, false, false] (by kernel_rfl) rfl rfl ⟨(cl2 HB hw195_0), (cl2 HB hw195_1), (cl2 HB hw195_2), (cl2 HB hw195_3), (cl2 HB hw195_4), (cl2 HB hw195_5), (cl2 HB hw195_6), (cl2 HB hw195_7), (cl2 HB hw195_8), (cl2 HB hw196_0), (cl2 HB hw196_1), (cl2 HB hw196_2), (cl2 HB hw196_3), (cl2 HB hw196_4), (cl2 HB hw196_5), (cl2 HB hw196_6), (cl2 HB hw196_7), (cl2 HB hw196_8)⟩ (fun hHeld => ?_); refine with_tabW laws_eqActS.tab6 laws_eqActS.bits6 (fun HT_ HW_ => ?_)
        generalize wr.drew = w11 at HB hx195_0 hx195_1 hx195_2 hx195_3 hx195_4 hx195_5 hx195_6 hx195_7 hx195_8 hx196_0 hx196_1 hx196_2 hx196_3 hx196_4 hx196_5 hx196_6 hx196_7 hx196_8 hHeld ⊢
        refine pure_ (i := 0) (N := some 17) (v := ?_) (a' := ?_) #[true, false, false, false, false, false, false, false, false, false] rfl rfl (any_of HT_.out (by kernel_rfl)) (fun _ _ _ h => h) (Or.inl ⟨by rfl, ?_⟩) ?_ ?_
        rotate_left
        ·intro w'
         go_simp
         with_reducible rfl
        rotate_left
        ·simp only [Act.put, List.setIfInBounds_toArray, List.set_cons_zero, List.set_cons_succ, i64_w, i32_w]
         rfl
        refine pure_ (i := 1) (N := some 18) (v := ?_) (a' := ?_) #[true, true, false, false, false, false, false, false, false, false] rfl rfl (any_of HT_.out (by kernel_rfl)) (fun _ _ _ h => h) (Or.inl ⟨by rfl, ?_⟩) ?_ ?_
        rotate_left
        ·intro w'
         go_simp
         with_reducible rfl
        rotate_left
        ·simp only [Act.put, List.setIfInBounds_toArray, List.set_cons_zero, List.set_cons_succ, i64_w, i32_w]
         rfl
        refine pure_ (i := 2) (N := some 19) (v := ?_) (a' := ?_) #[true, true, true, false, false, false, false, false, false, false] rfl rfl (any_of HT_.out (by kernel_rfl)) (fun _ _ _ h => h) (Or.inl ⟨by rfl, ?_⟩) ?_ ?_
        rotate_left
        ·intro w'
         go_simp
         with_reducible rfl
        rotate_left
        ·simp only [Act.put, List.setIfInBounds_toArray, List.set_cons_zero, List.set_cons_succ, i64_w, i32_w]
         rfl
        refine pure_ (i := 4) (N := some 21) (v := ?_) (a' := ?_) #[true, true, true, false, true, false, false, false, false, false] rfl rfl (any_of HT_.out (by kernel_rfl)) (fun _ _ _ h => h) (Or.inl ⟨by rfl, ?_⟩) ?_ ?_
        rotate_left
        ·intro w'
         go_simp
         with_reducible rfl
        rotate_left
        ·simp only [Act.put, List.setIfInBounds_toArray, List.set_cons_zero, List.set_cons_succ, i64_w, i32_w]
         rfl
        refine pure_ (i := 5) (N := some 22) (v := ?_) (a' := ?_) #[true, true, true, false, true, true, false, false, false, false] rfl rfl (any_of HT_.out (by kernel_rfl)) (fun _ _ _ h => h) (Or.inl ⟨by rfl, ?_⟩) ?_ ?_
        rotate_left
        ·intro w'
         go_simp
         with_reducible rfl
        rotate_left
        ·simp only [Act.put, List.setIfInBounds_toArray, List.set_cons_zero, List.set_cons_succ, i64_w, i32_w]
         rfl
        refine pure_ (i := 6) (N := some 23) (v := ?_) (a' := ?_) #[true, true, true, false, true, true, true, false, false, false] rfl rfl (any_of HT_.out (by kernel_rfl)) (fun _ _ _ h => h) (Or.inl ⟨by rfl, ?_⟩) ?_ ?_
        rotate_left
        ·intro w'
         go_simp
         with_reducible rfl
        rotate_left
        ·simp only [Act.put, List.setIfInBounds_toArray, List.set_cons_zero, List.set_cons_succ, i64_w, i32_w]
         rfl
        refine take_ (i := 3) (N := some 20) (v := ?_) (a' := ?_) #[true, true, true, true, true, true, true, false, false, false] rfl rfl (take_ofW HT_.out HW_.out (by kernel_rfl)) (fun _ _ _ h => h) (Or.inl ⟨by rfl, ?_⟩) hHeld ?_ ?_
        rotate_left
        ·rintro w' ⟨s0, s1, s2, s3, s4, s5, s6, s7, s8, s9, s10, s11, s12, s13, s14, s15, s16, s17⟩
         go_simp
         with_reducible rfl
        rotate_left
        ·simp only [Act.put, List.setIfInBounds_toArray, List.set_cons_zero, List.set_cons_succ, i64_w, i32_w]
         rfl
        refine take_ (i := 7) (N := some 24) (v := ?_) (a' := ?_) #[true, true, true, true, true, true, true, true, false, false] rfl rfl (take_ofW HT_.out HW_.out (by kernel_rfl)) (fun _ _ _ h => h) (Or.inl ⟨by rfl, ?_⟩) hHeld ?_ ?_
        rotate_left
        ·rintro w' ⟨s0, s1, s2, s3, s4, s5, s6, s7, s8, s9, s10, s11, s12, s13, s14, s15, s16, s17⟩
         go_simp
         with_reducible rfl
        rotate_left
        ·simp only [Act.put, List.setIfInBounds_toArray, List.set_cons_zero, List.set_cons_succ, i64_w, i32_w]
         rfl
        refine one_ (i := 8) (N := some 25) #[true, true, true, true, true, true, true, true, true, false] rfl rfl (one_of HT_.out (by kernel_rfl)) (by decide) (fun K hK => ?_)
        refine goes_ Try.func75 (by kernel_rfl) rfl #[.agg #[.int .i64 ((rd_T33 l0 x5_1).f0), .int .i64 ((rd_T33 l0 x5_1).f1), .int .i64 ((rd_T33 l0 x5_1).f2.f0), .string ((rd_T33 l0 x5_1).f2.f1), .string ((rd_T33 l0 x5_1).f2.f2), .int .i64 ((rd_T33 l0 x5_1).f2.f3), .int .i64 ((rd_T33 l0 x5_1).f2.f4), .string ((rd_T33 l0 x5_1).f2.f5), .int .i64 ((rd_T33 l0 x5_1).f3)], .agg #[.int .i64 ((rd_T33 l1 x5_1).f0), .int .i64 ((rd_T33 l1 x5_1).f1), .int .i64 ((rd_T33 l1 x5_1).f2.f0), .string ((rd_T33 l1 x5_1).f2.f1), .string ((rd_T33 l1 x5_1).f2.f2), .int .i64 ((rd_T33 l1 x5_1).f2.f3), .int .i64 ((rd_T33 l1 x5_1).f2.f4), .string ((rd_T33 l1 x5_1).f2.f5), .int .i64 ((rd_T33 l1 x5_1).f3)]] (by rfl) rfl rfl (by (try simp only [List.map_toArray, List.map_cons, List.map_nil]); first | done | rfl | (simp only [List.length_drop, List.length_take]; rfl)) ?_
        with_reducible refine (laws_eqAct.calls ((rd_T33 l0 x5_1).f0) ((rd_T33 l0 x5_1).f1) ((rd_T33 l0 x5_1).f2.f0) ((rd_T33 l0 x5_1).f2.f1) ((rd_T33 l0 x5_1).f2.f2) ((rd_T33 l0 x5_1).f2.f3) ((rd_T33 l0 x5_1).f2.f4) ((rd_T33 l0 x5_1).f2.f5) ((rd_T33 l0 x5_1).f3) ((rd_T33 l1 x5_1).f0) ((rd_T33 l1 x5_1).f1) ((rd_T33 l1 x5_1).f2.f0) ((rd_T33 l1 x5_1).f2.f1) ((rd_T33 l1 x5_1).f2.f2) ((rd_T33 l1 x5_1).f2.f3) ((rd_T33 l1 x5_1).f2.f4) ((rd_T33 l1 x5_1).f2.f5) ((rd_T33 l1 x5_1).f3) false _ A7.out).mono ?_
        rintro e w12 ⟨rfl, hb⟩
        refine ⟨_, rfl, ?_⟩
        have n0_ := Am (bt (by repeat (first | (with_reducible first | exact HB.out | apply ba | apply bn | apply be) | exact HB.out)) hb)
        clear HB
        have HB := n0_
        clear n0_
        (try clear hb)
        (try clear hb2)
        (try clear hk)
        (try clear hi)
        refine hK.out _ _ ⟨(cl2 HB hw195_0), (cl2 HB hw195_1), (cl2 HB hw195_2), (cl2 HB hw195_3), (cl2 HB hw195_4), (cl2 HB hw195_5), (cl2 HB hw195_6), (cl2 HB hw195_7), (cl2 HB hw195_8), (cl2 HB hw196_0), (cl2 HB hw196_1), (cl2 HB hw196_2), (cl2 HB hw196_3), (cl2 HB hw196_4), (cl2 HB hw196_5), (cl2 HB hw196_6), (cl2 HB hw196_7), (cl2 HB hw196_8)⟩ (fun hHeld => ?_)
        clear hK K
        refine norm_ (a' := ?_) ?_ ?_
        rotate_left
        ·show Act.put _ (some 25) _ = _
         simp only [Act.put, List.setIfInBounds_toArray, List.set_cons_zero, List.set_cons_succ, i64_w, i32_w]
         rfl
        refine pure_ (i := 9) (N := some 26) (v := ?_) (a' := ?_) #[true, true, true, true, true, true, true, true, true, true] rfl rfl (any_of HT_.out (by kernel_rfl)) (fun _ _ _ h => h) (Or.inl ⟨by rfl, ?_⟩) ?_ ?_
        rotate_left
        ·intro w'
         go_simp
         with_reducible rfl
        rotate_left
        ·simp only [Act.put, List.setIfInBounds_toArray, List.set_cons_zero, List.set_cons_succ, i64_w, i32_w]
         rfl
        refine done_ (done_of HT_.out (by kernel_rfl)) ?_
        try go_wp2
        go_ret
        exact ⟨by first | rfl | (simp [errW_none, errW_some] <;> rfl) | (simp [*, errW_none, errW_some] <;> rfl), by repeat (first | (with_reducible first | apply ba | apply bn | apply be) | exact HB.out)⟩
      ·rw [if_neg c6] at H
       exact absurd H (by simp)
     ·rw [if_neg c5] at H
      exact absurd H (by simp)
    ·rw [if_neg c4] at H
     have c4b0 : decide (x5_1 < (l0.length : Int)) = false := decide_eq_false c4
     clear c4
     obtain rfl := Option.some.inj H
     go_wp2
     go_ret
     exact ⟨by first | rfl | (simp [errW_none, errW_some] <;> rfl) | (simp [*, errW_none, errW_some] <;> rfl), by repeat (first | (with_reducible first | apply ba | apply bn | apply be) | exact HB.out)⟩
 ·rw [if_neg c3] at H
  have c3b0 : ((l0.length : Int) == (l1.length : Int)) = false := beq_eq_false_iff_ne.mpr c3
  have c3b1 : ((l0.length : Int) != (l1.length : Int)) = true := bne_iff_ne.mpr c3
  have c3b2 : (l0.length == l1.length) = false := by first | simpa using c3 | (simp at c3 ⊢; omega)
  obtain rfl := Option.some.inj H
  go_enter Try.func25, Try.ntmps25
  go_wp2
  go_ret
  exact ⟨by first | rfl | (simp [errW_none, errW_some] <;> rfl) | (simp [*, errW_none, errW_some] <;> rfl), by repeat (first | (with_reducible first | apply ba | apply bn | apply be) | exact HB.out)⟩

/-! ### laws_markText: function 76 -/
def laws_markText.l0 : Nat → Int → ByteArray → Option (ByteArray)
 | 0, _, _ => none
 | k + 1, x0, x3 => if x0 > 0 then ((some (([(wrap64 (48 + (Int.tmod x0 10))) % 256] : List Int) : List Int)).bind fun y198 => (if (strOfNums y198).size + x3.size ≤ 9223372036854775807 then (laws_markText.l0 k (wrap64 (Int.tdiv x0 10)) ((strOfNums y198) ++ x3)) else (none))) else (if 1 + x3.size ≤ 9223372036854775807 then (some ((⟨#[109]⟩ : ByteArray) ++ x3)) else (none))
def laws_markText.f (k : Nat) (a0 : Int) : Option (ByteArray) := if a0 ≤ 0 then (some (⟨#[109, 48]⟩ : ByteArray)) else (laws_markText.l0 k a0 (⟨#[]⟩ : ByteArray))
theorem laws_markText.mono_l : ∀ k, (∀ y0 y1, LeO (laws_markText.l0 k y0 y1) (laws_markText.l0 (k + 1) y0 y1))
 | 0 => fun _ _ r h => by simp [laws_markText.l0] at h
 | k + 1 => by
  have ih0 := laws_markText.mono_l k
  ·intro y0 y1
   unfold laws_markText.l0
   repeat' first
   | (with_reducible exact ih0 _ _)
   | (with_reducible exact LeO.refl _)
   | (with_reducible exact LeO.none _)
   | (with_reducible refine LeO.ite ?_ ?_)
   | (with_reducible refine LeO.bind ?_ (fun _ => ?_))
   | exact ih0 _ _
   | exact LeO.none _
   | refine LeO.ite ?_ ?_
   | refine LeO.bind ?_ (fun _ => ?_)
theorem laws_markText.mono : ∀ a0 k, LeO (laws_markText.f k a0) (laws_markText.f (k + 1) a0) := by
 intro a0 k
 have ih0 := laws_markText.mono_l k
 unfold laws_markText.f
 repeat' first
   | (with_reducible exact ih0 _ _)
   | (with_reducible exact LeO.refl _)
   | (with_reducible exact LeO.none _)
   | (with_reducible refine LeO.ite ?_ ?_)
   | (with_reducible refine LeO.bind ?_ (fun _ => ?_))
   | exact ih0 _ _
   | exact LeO.none _
   | refine LeO.ite ?_ ?_
   | refine LeO.bind ?_ (fun _ => ?_)
set_option maxHeartbeats 8000000 in
set_option maxRecDepth 100000 in
theorem laws_markText.calls (k : Nat) (a0 : Int) (r : ByteArray) (w : World) (h : laws_markText.f k a0 = some r) :
  Calls Try.prog 76 #[.int .i64 a0] w fun e w' => e = .returned (.string r) ∧ Below w.heap.size w w' := by
 have HB := Am (Below.refl w.heap.size w)
 have H : (if a0 ≤ 0 then (some (⟨#[109, 48]⟩ : ByteArray)) else (laws_markText.l0 k a0 (⟨#[]⟩ : ByteArray))) = some r := h
 clear h
 by_cases c2 : a0 ≤ 0
 ·rw [if_pos c2] at H
  have c2b0 : decide (a0 ≤ 0) = true := decide_eq_true c2
  clear c2
  obtain rfl := Option.some.inj H
  go_enter Try.func76, Try.ntmps76
  go_wp2
  go_ret
  exact ⟨by first | rfl | (simp [errW_none, errW_some] <;> rfl) | (simp [*, errW_none, errW_some] <;> rfl), by repeat (first | (with_reducible first | apply ba | apply bn | apply be) | exact HB.out)⟩
 ·rw [if_neg c2] at H
  have c2b0 : decide (a0 ≤ 0) = false := decide_eq_false c2
  clear c2
  have H' := Am H
  clear H
  go_enter Try.func76, Try.ntmps76
  go_wp2
  go_loopg [0, 3] k (fun kq v0 v3 w' => ∃ (x0_1 : Int) (x3_1 : ByteArray), v0 = .int .i64 x0_1 ∧ v3 = .string x3_1 ∧ Aside0 (laws_markText.l0 kq x0_1 x3_1 = some r) ∧ Aside0 (kq ≤ k) ∧ Aside0 (Below w.heap.size w w'))
  case atStart => exact ⟨(a0), ((⟨#[]⟩ : ByteArray)), (by first | rfl | (simp; done) | (simp [*]; done)), (by first | rfl | (simp; done) | (simp [*]; done)), H', ⟨Nat.le_refl _⟩, ⟨by repeat (first | (with_reducible first | apply ba | apply bn | apply be) | exact HB.out)⟩⟩
  case round =>
   clear H'
   try clear c2
   try clear c2b0
   try clear p2
   obtain ⟨x0_1, x3_1, rfl, rfl, HA, HK1, HB⟩ := hrel
   cases gk with
   | zero => exact absurd HA.out (by simp [laws_markText.l0])
   | succ k1 =>
    have H := HA.out
    clear HA
    simp only [laws_markText.l0] at H
    by_cases c3 : x0_1 > 0
    ·rw [if_pos c3] at H
     have c3b0 : decide (0 < x0_1) = true := decide_eq_true c3
     clear c3
     obtain ⟨y198, hy198⟩ : ∃ y_ : List Int, y_ = (([(wrap64 (48 + (Int.tmod x0_1 10))) % 256] : List Int)) := ⟨_, rfl⟩
     replace H : (if (strOfNums y198).size + x3_1.size ≤ 9223372036854775807 then (laws_markText.l0 k1 (wrap64 (Int.tdiv x0_1 10)) ((strOfNums y198) ++ x3_1)) else (none)) = some r := by first | (rw [hy198]; with_reducible exact H) | (have H2_ := (Option.bind_some _ _).symm.trans H; rw [hy198]; with_reducible exact H2_) | (have H2_ := (Option.bind_some _ _).symm.trans H; with_reducible exact H2_) | with_reducible exact H | (rw [hy198]; exact H) | exact H
     have Ny198 := Am hy198
     clear hy198
     by_cases c4 : (strOfNums y198).size + x3_1.size ≤ 9223372036854775807
     ·rw [if_pos c4] at H
      have c4b0 := eq_true c4
      have c4b1 : decide ((strOfNums y198).size + x3_1.size ≤ 9223372036854775807) = true := decide_eq_true c4
      try have c4b2 : (9223372036854775807 < (strOfNums y198).size + x3_1.size) = False := eq_false (Nat.not_lt.2 c4)
      try (have c4b3 := c4b2; simp only [ByteArray.size_extract, Nat.sub_zero] at c4b3)
      try clear c4
      have H' := Am H
      clear H
      go_wp2_with (first | ((with_reducible refine gate_dst (N := 12) rfl ?_); refine Kd.R_lit (Kd.int .u8) _ 5 ?hg (N := 12) ?hd (xs := ([(wrap64 (48 + (Int.tmod x0_1 10))) % 256] : List Int)) (inner := [.int .u8 ((wrap64 (48 + (Int.tmod x0_1 10))) % 256)]) (ok := fun _ => True) (okp := fun _ => True) ?hr ?hp (fun _ hk => hk) trivial (Below.refl _ _) (Nat.le_refl _) (by simp) ?_; (case hd => rfl); (case hg => rfl); (case hr => first | (go_simp; done) | (go_simp; rfl)); (case hp => exact (Reps.one (show Kd.M (Kd.int .u8) _ _ _ ((wrap64 (48 + (Int.tmod x0_1 10))) % 256) [.int .u8 ((wrap64 (48 + (Int.tmod x0_1 10))) % 256)] from rfl) (Reps.none _ _))); intro v199 w5 ho6 hb hg_ hnew_; clear hg_ hnew_; (first | rw [← Ny198.out] at ho6 | (simp only [Int.reduceToNat] at ho6; rw [← Ny198.out] at ho6)); have HO200 := Am (Kd.R_lower ho6 (bz (by repeat (first | (with_reducible first | exact HB.out | apply ba | apply bn | apply be) | exact HB.out)))); replace HB := Am (bt (by repeat (first | (with_reducible first | exact HB.out | apply ba | apply bn | apply be) | exact HB.out)) hb); clear hb ho6; have hcv7 := own_string (P := Try.prog) Try.underlying22 Try.underlying5 Try.underlying9 (Kd.own_of_R HO200.out)))
      go_roundg k1
      case measure => have := HK1.out; omega
      case rel => exact ⟨(wrap64 (Int.tdiv x0_1 10)), ((strOfNums y198) ++ x3_1), (by first | rfl | (simp; done) | (simp [*]; done)), (by first | rfl | (simp; done) | (simp [*]; done)), H', ⟨by have := HK1.out; omega⟩, ⟨by repeat (first | (with_reducible first | apply ba | apply bn | apply be) | exact HB.out)⟩⟩
     ·rw [if_neg c4] at H
      exact absurd H (by simp)
    ·rw [if_neg c3] at H
     have c3b0 : decide (0 < x0_1) = false := decide_eq_false c3
     clear c3
     by_cases c8 : 1 + x3_1.size ≤ 9223372036854775807
     ·rw [if_pos c8] at H
      have c8b0 := eq_true c8
      have c8b1 : decide (1 + x3_1.size ≤ 9223372036854775807) = true := decide_eq_true c8
      try have c8b2 : (9223372036854775807 < 1 + x3_1.size) = False := eq_false (Nat.not_lt.2 c8)
      try (have c8b3 := c8b2; simp only [ByteArray.size_extract, Nat.sub_zero] at c8b3)
      try clear c8
      obtain rfl := Option.some.inj H
      go_wp2
      go_ret
      exact ⟨by first | rfl | (simp [errW_none, errW_some] <;> rfl) | (simp [*, errW_none, errW_some] <;> rfl), by repeat (first | (with_reducible first | apply ba | apply bn | apply be) | exact HB.out)⟩
     ·rw [if_neg c8] at H
      exact absurd H (by simp)

end Go.Proofs.Ytklghegofjigoaa.QFnExactWoven
