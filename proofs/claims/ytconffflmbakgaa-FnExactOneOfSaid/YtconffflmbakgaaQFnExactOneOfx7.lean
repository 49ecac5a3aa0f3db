/- Go functions as Lean functions, and their contracts. Own text: written by wip/gen/pr.py (a turned copy of the print). -/
import Derived.Test.YtconffflmbakgaaQFnExactOneOfx0
import Derived.Test.YtconffflmbakgaaQFnExactOneOfx1
import Derived.Test.YtconffflmbakgaaQFnExactOneOfx6
namespace Go.Proofs.Ytconffflmbakgaa.QFnExactOneOf
open Go.RowKit Go.Proofs.YtconffflmbakgaaW.PrintWords Go.Proofs.YtconffflmbakgaaW.PrintLast Go.Proofs.YtconffflmbakgaaW.PrintMore
attribute [local go_sem] max2_int min2_int max_two min_two max_three min_three max_four min_four   -- for this text's walks alone
open Go.Proofs.YtconffflmbakgaaW.PrintWords renaming below_alloc → ba, pw_below_drewN → bn, below_drew1 → be, below_set → bs, blk_drewN → kn, blk_drew → ke, blk_alloc → ka, blk_below → kb, blk_frozen → kf, blk_cell → kc, below_step → bq, below_size → bz, blk_lt → kl, blk_put → kp
open Go.Proofs.YtconffflmbakgaaW.PrintWords.Kd renaming R_alloc → ra, R_drewN → rn, R_drew → re, S_alloc → sa, S_drewN → sn, S_drew → se, C_alloc → ca, C_drewN → cn, C_drew → ce, R_below → rb, C_below → cb
open Go.Proofs.YtconffflmbakgaaW.PrintWords.Aside0 renaming mk → Am
set_option linter.unusedVariables false
set_option linter.unusedSimpArgs false

attribute [local go_sem high] eqA176
theorem cl7 {w w2 : World} {a : Addr} {v : Value} (h : Aside0 (Below w.heap.size w w2)) (e : w.cell? a = some v) : w2.cell? a = some v := (h.out.cell (World.block_lt_of_cell? w _ e)).trans e
def o7b0 (p0 : Int) (p1 : Int) (p2 : Int) (p3 : Int) (p4 : ByteArray) (p5 : Option Addr) (p6 p7 : Nat) (p8 : Option Addr) (p9 p10 : Nat) (p11 : Option Addr) (p12 p13 : Nat) : Obj := .cells #[.int .i64 p0, .int .i64 p1, .int .i64 p2, .int .i64 p3, .string p4, .slice p5 p6 p7, .slice p8 p9 p10, .slice p11 p12 p13] 40 (0, 0)
def o7b1 (p0 : Int) (p1 : Int) (p2 : Int) (p3 : Int) (p4 : ByteArray) (p5 : Option Addr) (p6 p7 : Nat) (p8 : Option Addr) (p9 p10 : Nat) (p11 : Option Addr) (p12 p13 : Nat) (p14 : Option Addr) (p15 p16 : Nat) (p17 : Option Addr) (p18 p19 : Nat) (p20 : Int) : Obj := .cells #[.int .i64 p0, .int .i64 p1, .int .i64 p2, .int .i64 p3, .string p4, .slice p5 p6 p7, .slice p8 p9 p10, .slice p11 p12 p13, .slice p14 p15 p16, .slice p17 p18 p19, .int .i64 p20] 52 (0, 0)
def o7b2 (p0 : Option Addr) (p1 p2 : Nat) : Obj := .cells #[.slice p0 p1 p2] 174 (0, 0)
def o7b3 (p0 : ByteArray) (p1 : Bool) (p2 : ByteArray) : Obj := .cells #[.string p0, .bool p1, .string p2] 205 (0, 0)
def o7b4  : Obj := .cells #[.slice none 0 0] 117 (0, 0)
/-! ### laws_toJobS: function 65 -/
def laws_toJobS.l0 : Nat → List (S161) → List (S105) → Int → Option ((List (S105)))
 | 0, _, _, _ => none
 | k + 1, x0, x3, x4 => if x4 < (x0.length : Int) then (if 0 ≤ x4 then ((laws_toJob.f k ((rd_T161 x0 x4).f0.f0) ((rd_T161 x0 x4).f0.f1) ((rd_T161 x0 x4).f0.f2) ((rd_T161 x0 x4).f0.f3) ((rd_T161 x0 x4).f0.f4) ((rd_T161 x0 x4).f0.f5) ((rd_T161 x0 x4).f1.f0) ((rd_T161 x0 x4).f1.f1) ((rd_T161 x0 x4).f1.f2) ((rd_T161 x0 x4).f1.f3) ((rd_T161 x0 x4).f1.f4) ((rd_T161 x0 x4).f2) ((rd_T161 x0 x4).f3) ((rd_T161 x0 x4).f4) ((rd_T161 x0 x4).f5) ((rd_T161 x0 x4).f6)).bind fun bt232 => (if x4 < (x3.length : Int) then (laws_toJobS.l0 k x0 (x3.set (x4 : Int).toNat (⟨(⟨bt232.1, bt232.2.1, bt232.2.2.1, bt232.2.2.2.1, bt232.2.2.2.2.1, bt232.2.2.2.2.2.1⟩ : S99), (⟨bt232.2.2.2.2.2.2.1, bt232.2.2.2.2.2.2.2.1, bt232.2.2.2.2.2.2.2.2.1, bt232.2.2.2.2.2.2.2.2.2.1, bt232.2.2.2.2.2.2.2.2.2.2.1⟩ : S102), bt232.2.2.2.2.2.2.2.2.2.2.2.1, bt232.2.2.2.2.2.2.2.2.2.2.2.2.1, bt232.2.2.2.2.2.2.2.2.2.2.2.2.2.1, bt232.2.2.2.2.2.2.2.2.2.2.2.2.2.2.1, bt232.2.2.2.2.2.2.2.2.2.2.2.2.2.2.2⟩ : S105)) (wrap64 (x4 + 1))) else (none))) else (none)) else (some x3)
def laws_toJobS.f (k : Nat) (l0 : List (S161)) : Option ((List (S105))) := if 0 ≤ (l0.length : Int) then (if ((l0.length : Int) : Int).toNat ≤ 1407374883553 then (laws_toJobS.l0 k l0 (List.replicate ((l0.length : Int) : Int).toNat z105) 0) else (none)) else (none)
theorem laws_toJobS.mono_l : ∀ k, (∀ y0 y1 y2, LeO (laws_toJobS.l0 k y0 y1 y2) (laws_toJobS.l0 (k + 1) y0 y1 y2))
 | 0 => fun _ _ _ r h => by simp [laws_toJobS.l0] at h
 | k + 1 => by
  have ih0 := laws_toJobS.mono_l k
  ·intro y0 y1 y2
   unfold laws_toJobS.l0
   repeat' first
   | (with_reducible exact ih0 _ _ _)
   | (with_reducible exact laws_toJob.mono _ _ _ _ _ _ _ _ _ _ _ _ _ _ _ _ _)
   | (with_reducible exact LeO.refl _)
   | (with_reducible exact LeO.none _)
   | (with_reducible refine LeO.ite ?_ ?_)
   | (with_reducible refine LeO.bind ?_ (fun _ => ?_))
   | exact ih0 _ _ _
   | exact laws_toJob.mono _ _ _ _ _ _ _ _ _ _ _ _ _ _ _ _ _
   | exact LeO.none _
   | refine LeO.ite ?_ ?_
   | refine LeO.bind ?_ (fun _ => ?_)
theorem laws_toJobS.mono : ∀ a0 k, LeO (laws_toJobS.f k a0) (laws_toJobS.f (k + 1) a0) := by
 intro a0 k
 have ih0 := laws_toJobS.mono_l k
 unfold laws_toJobS.f
 repeat' first
   | (with_reducible exact ih0 _ _ _)
   | (with_reducible exact laws_toJob.mono _ _ _ _ _ _ _ _ _ _ _ _ _ _ _ _ _)
   | (with_reducible exact LeO.refl _)
   | (with_reducible exact LeO.none _)
   | (with_reducible refine LeO.ite ?_ ?_)
   | (with_reducible refine LeO.bind ?_ (fun _ => ?_))
   | exact ih0 _ _ _
   | exact laws_toJob.mono _ _ _ _ _ _ _ _ _ _ _ _ _ _ _ _ _
   | exact LeO.none _
   | refine LeO.ite ?_ ?_
   | refine LeO.bind ?_ (fun _ => ?_)
set_option maxHeartbeats 8000000 in
set_option maxRecDepth 100000 in
theorem laws_toJobS.calls (k : Nat) (A0 : Option Addr) (c0 : Nat) (l0 : List (S161)) (r : List (S105)) (w : World) (hr0 : Kd.C k161 w A0 l0.length l0) (hc0 : l0.length ≤ c0) (h : laws_toJobS.f k l0 = some r) :
  Calls Try.prog 65 #[.slice A0 l0.length c0] w fun e w' => ∃ v0_ : Value, e = .returned (v0_) ∧ Kd.S k105 105 w' w.heap.size (fun _ => True) v0_ r ∧ Below w.heap.size w w' := by
 have hu161 := Try.underlying161
 have hu105 := Try.underlying105
 have HR0 := Am hr0
 have HC0 := Am hc0
 clear hr0 hc0
 have HB := Am (Below.refl w.heap.size w)
 have H : (if 0 ≤ (l0.length : Int) then (if ((l0.length : Int) : Int).toNat ≤ 1407374883553 then (laws_toJobS.l0 k l0 (List.replicate ((l0.length : Int) : Int).toNat z105) 0) else (none)) else (none)) = some r := h
 clear h
 by_cases c2 : 0 ≤ (l0.length : Int)
 ·rw [if_pos c2] at H
  have c2b0 := eq_true c2
  have c2b1 : decide (0 ≤ (l0.length : Int)) = true := decide_eq_true c2
  clear c2
  by_cases c3 : ((l0.length : Int) : Int).toNat ≤ 1407374883553
  ·rw [if_pos c3] at H
   have c3b0 := eq_true c3
   have c3b1 : decide (((l0.length : Int) : Int).toNat ≤ 1407374883553) = true := decide_eq_true c3
   clear c3
   obtain ⟨y228, hy228⟩ : ∃ y_ : List (S105), y_ = (List.replicate ((l0.length : Int) : Int).toNat z105) := ⟨_, rfl⟩
   replace H : (laws_toJobS.l0 k l0 y228 0) = some r := by first | (rw [hy228]; with_reducible exact H) | (have H2_ := (Option.bind_some _ _).symm.trans H; rw [hy228]; with_reducible exact H2_) | (have H2_ := (Option.bind_some _ _).symm.trans H; with_reducible exact H2_) | with_reducible exact H | (rw [hy228]; exact H) | exact H
   have Ny228 := Am hy228
   clear hy228
   have H' := Am H
   clear H
   go_enter Try.func65, Try.ntmps65
   go_wp2_with (first | ((with_reducible refine gate_dst (N := 7) rfl ?_); refine Kd.S_make k105 _ 105 rfl (N := 7) rfl 43 _ _ rfl (l0.length : Int) rfl rfl Try.underlying43 (.agg #[(.int .i64 0), (.string ⟨#[]⟩), (.string ⟨#[]⟩), (.int .i64 0), (.int .i64 0), (.string ⟨#[]⟩), (.int .i64 0), (.string ⟨#[]⟩), (.int .i64 0), (.bool false), (.slice none 0 0), (.slice none 0 0), (.slice none 0 0), (.int .i64 0), (.bool false), (.bool false)]) 200 info105 rfl (by decide) (by omega) z105 (ok := fun _ => True) (okp := fun _ => True) (k105_mkM _ _ _ z105 (Kd.R_nil _ _ _ _ _) (Kd.R_nil _ _ _ _ _) (Kd.R_nil _ _ _ _ _)) (fun _ hk => hk) trivial (of_decide_eq_true (by first | (with_reducible assumption) | assumption)) (Nat.le_trans (Nat.mul_le_mul_right _ (of_decide_eq_true (by first | (with_reducible assumption) | assumption) : (l0.length : Int).toNat ≤ 1407374883553)) (by omega)) (Below.refl _ _) (Nat.le_refl _) ?_; intro v229 w4 ho5 hb hg_ hnew_; clear hg_ hnew_; (first | rw [← Ny228.out] at ho5 | (simp only [Int.reduceToNat] at ho5; rw [← Ny228.out] at ho5)); have HO230 := Am (Kd.S_lower ho5 (bz zB)); replace HB := Am (bq zB hb); clear hb ho5))
   go_loopg [4] k (fun kq v4 w' => ∃ (x3_1 : List (S105)) (x4_1 : Int), v4 = .int .i64 x4_1 ∧ Aside0 (laws_toJobS.l0 kq l0 x3_1 x4_1 = some r) ∧ Aside0 (kq ≤ k) ∧ Aside0 (Kd.S k105 105 w' w.heap.size (fun _ => True) v229 x3_1) ∧ Aside0 (Below w.heap.size w w'))
   case atStart => exact ⟨(y228), (0), (by first | rfl | (simp; done) | (simp [*]; done)), H', ⟨Nat.le_refl _⟩, ⟨by (with_reducible repeat (first | apply sa | apply sn | apply se)); exact HO230.out⟩, ⟨zB⟩⟩
   case round =>
    clear H'
    try clear c2; try clear c2b0; try clear c2b1; try clear p2; try clear c3; try clear c3b0; try clear c3b1
    obtain ⟨x3_1, x4_1, rfl, HA, HK1, HO_3, HB⟩ := hrel
    cases gk with
    | zero => exact absurd HA.out (by simp [laws_toJobS.l0])
    | succ k1 =>
     have H := HA.out
     clear HA
     simp only [laws_toJobS.l0] at H
     by_cases c6 : x4_1 < (l0.length : Int)
     ·rw [if_pos c6] at H
      have c6b0 : decide (x4_1 < (l0.length : Int)) = true := decide_eq_true c6
      clear c6
      by_cases c7 : 0 ≤ x4_1
      ·rw [if_pos c7] at H
       have c7b0 : decide (0 ≤ x4_1) = true := decide_eq_true c7
       clear c7
       replace H := Option.bind_eq_some_iff.mp H
       obtain ⟨⟨t232, t233, t234, t235, t236, t237, t238, t239, t240, t241, t242, t245, t248, t251, t252, t253⟩, A80, H⟩ := H
       replace H : (if x4_1 < (x3_1.length : Int) then (laws_toJobS.l0 k1 l0 (x3_1.set (x4_1 : Int).toNat (⟨(⟨t232, t233, t234, t235, t236, t237⟩ : S99), (⟨t238, t239, t240, t241, t242⟩ : S102), t245, t248, t251, t252, t253⟩ : S105)) (wrap64 (x4_1 + 1))) else (none)) = some r := H
       have A8 := Am A80
       clear A80
       by_cases c9 : x4_1 < (x3_1.length : Int)
       ·rw [if_pos c9] at H
        have c9b0 : decide (x4_1 < (x3_1.length : Int)) = true := decide_eq_true c9
        clear c9
        obtain ⟨y254, hy254⟩ : ∃ y_ : List (S105), y_ = (x3_1.set (x4_1 : Int).toNat (⟨(⟨t232, t233, t234, t235, t236, t237⟩ : S99), (⟨t238, t239, t240, t241, t242⟩ : S102), t245, t248, t251, t252, t253⟩ : S105)) := ⟨_, rfl⟩
        replace H : (laws_toJobS.l0 k1 l0 y254 (wrap64 (x4_1 + 1))) = some r := by first | (rw [hy254]; with_reducible exact H) | (have H2_ := (Option.bind_some _ _).symm.trans H; rw [hy254]; with_reducible exact H2_) | (have H2_ := (Option.bind_some _ _).symm.trans H; with_reducible exact H2_) | with_reducible exact H | (rw [hy254]; exact H) | exact H
        have Ny254 := Am hy254
        clear hy254
        have H' := Am H
        clear H
        have p231 : 0 ≤ (x4_1 : Int) := of_decide_eq_true (by first | (with_reducible assumption) | assumption)
        have q231 : x4_1 < (l0.length : Int) := of_decide_eq_true (by first | (with_reducible assumption) | assumption)
        obtain ⟨ad231, A231_10, c231_10, A231_11, c231_11, A231_12, c231_12, e231, hx231_0, hx231_1, hx231_2, hx231_3, hx231_4, hx231_5, hx231_6, hx231_7, hx231_8, hx231_9, hx231_10, hx231_11, hx231_12, hx231_13, hx231_14, hx231_15, hl231_10, hi231_10, hl231_11, hi231_11, hl231_12, hi231_12⟩ := at_T161 HR0.out x4_1 p231 q231
        cases e231
        replace hx231_0 := cl7 HB hx231_0
        replace hx231_1 := cl7 HB hx231_1
        replace hx231_2 := cl7 HB hx231_2
        replace hx231_3 := cl7 HB hx231_3
        replace hx231_4 := cl7 HB hx231_4
        replace hx231_5 := cl7 HB hx231_5
        replace hx231_6 := cl7 HB hx231_6
        replace hx231_7 := cl7 HB hx231_7
        replace hx231_8 := cl7 HB hx231_8
        replace hx231_9 := cl7 HB hx231_9
        replace hx231_10 := cl7 HB hx231_10
        replace hx231_11 := cl7 HB hx231_11
        replace hx231_12 := cl7 HB hx231_12
        replace hx231_13 := cl7 HB hx231_13
        replace hx231_14 := cl7 HB hx231_14
        replace hx231_15 := cl7 HB hx231_15
        have HR231_10 := Am hi231_10
        have HC231_10 := Am hl231_10
        clear hi231_10 hl231_10
        have HR231_11 := Am hi231_11
        have HC231_11 := Am hl231_11
        clear hi231_11 hl231_11
        have HR231_12 := Am hi231_12
        have HC231_12 := Am hl231_12
        clear hi231_12 hl231_12
        replace p231 := eq_true p231
        replace q231 := eq_true q231
        go_wp2_with (first | ((with_reducible refine gate_callee (f := 116) rfl ?_); refine zC (some 20) rfl rfl Try.func116 rfl #[.agg #[.int .i64 ((rd_T161 l0 x4_1).f0.f0), .string ((rd_T161 l0 x4_1).f0.f1), .string ((rd_T161 l0 x4_1).f0.f2), .int .i64 ((rd_T161 l0 x4_1).f0.f3), .int .i64 ((rd_T161 l0 x4_1).f0.f4), .string ((rd_T161 l0 x4_1).f0.f5), .int .i64 ((rd_T161 l0 x4_1).f1.f0), .string ((rd_T161 l0 x4_1).f1.f1), .int .i64 ((rd_T161 l0 x4_1).f1.f2), .bool ((rd_T161 l0 x4_1).f1.f3), .slice A231_10 ((rd_T161 l0 x4_1).f1.f4).length c231_10, .slice A231_11 ((rd_T161 l0 x4_1).f2).length c231_11, .slice A231_12 ((rd_T161 l0 x4_1).f3).length c231_12, .int .i64 ((rd_T161 l0 x4_1).f4), .bool ((rd_T161 l0 x4_1).f5), .bool ((rd_T161 l0 x4_1).f6)]] rfl ?_; (with_reducible refine (laws_toJob.calls k1 ((rd_T161 l0 x4_1).f0.f0) ((rd_T161 l0 x4_1).f0.f1) ((rd_T161 l0 x4_1).f0.f2) ((rd_T161 l0 x4_1).f0.f3) ((rd_T161 l0 x4_1).f0.f4) ((rd_T161 l0 x4_1).f0.f5) ((rd_T161 l0 x4_1).f1.f0) ((rd_T161 l0 x4_1).f1.f1) ((rd_T161 l0 x4_1).f1.f2) ((rd_T161 l0 x4_1).f1.f3) _ _ ((rd_T161 l0 x4_1).f1.f4) _ _ ((rd_T161 l0 x4_1).f2) _ _ ((rd_T161 l0 x4_1).f3) ((rd_T161 l0 x4_1).f4) ((rd_T161 l0 x4_1).f5) ((rd_T161 l0 x4_1).f6) t232 t233 t234 t235 t236 t237 t238 t239 t240 t241 t242 t245 t248 t251 t252 t253 _ ?side1 ?side2 ?side3 ?side4 ?side5 ?side6 A8.out).mono ?_); (case side1 => repeat (first | exact (cb HR231_10.out HB.out) | (with_reducible first | refine ca ?_ _ | refine cn ?_ _ | refine ce ?_))); (case side2 => exact HC231_10.out); (case side3 => repeat (first | exact (cb HR231_11.out HB.out) | (with_reducible first | refine ca ?_ _ | refine cn ?_ _ | refine ce ?_))); (case side4 => exact HC231_11.out); (case side5 => repeat (first | exact (cb HR231_12.out HB.out) | (with_reducible first | refine ca ?_ _ | refine cn ?_ _ | refine ce ?_))); (case side6 => exact HC231_12.out); rintro e w11 ⟨v243, v246, v249, rfl, ho0, ho1, ho2, hb⟩; refine ⟨_, rfl, ?_⟩; replace HO_3 := Am (Kd.S_mono (Kd.S_told (Kd.S_told (Kd.S_told (Kd.S_old (by (with_reducible repeat (first | apply sa | apply sn | apply se)); exact HO_3.out) hb) (Kd.R_base ho0)) (Kd.R_base ho1)) (Kd.R_base ho2)) (fun _ h_ => h_.1)); have HO244 := Am (Kd.R_lower ho0 (bz zB)); have HO247 := Am (Kd.R_lower ho1 (bz zB)); have HO250 := Am (Kd.R_lower ho2 (bz zB)); replace HB := Am (bq zB hb); (try clear hb ho0 ho1 ho2); have p10 : 0 ≤ (x4_1 : Int) := of_decide_eq_true (by first | (with_reducible assumption) | assumption); have q10 : (x4_1 : Int) < ((x3_1.length : Int) : Int) := of_decide_eq_true (by first | (with_reducible assumption) | assumption); obtain ⟨go10, co10, eo10, gb10, gl10, cl10, HG10⟩ := Kd.S_form HO_3.out (by omega); (first | cases eo10 | (injection eo10 with ea_ en_ ec_; (first | subst ea_ | (injection ea_ with ea_; subst ea_)); subst ec_; clear en_)); have GB10 := Am gb10; have GG10 := Am HG10; clear gb10 gl10 HG10; obtain ⟨_, ce10, hcl10, hM10, hcc10, hfr10, _, _⟩ := Kd.S_elem HO_3.out z105 (x4_1 : Int) p10 q10; obtain ⟨ve10_10, ve10_11, ve10_12, rfl, ge10_10, ge10_11, ge10_12⟩ := k105_openM hM10; have hx10_0 : w11.cell? ⟨go10, (x4_1 : Int).toNat * 16, none⟩ = some (.int .i64 ((rd_T105 x3_1 x4_1).f0.f0)) := hcc10 0 _ rfl; have hx10_1 : w11.cell? ⟨go10, (x4_1 : Int).toNat * 16 + 1, none⟩ = some (.string ((rd_T105 x3_1 x4_1).f0.f1)) := hcc10 1 _ rfl; have hx10_2 : w11.cell? ⟨go10, (x4_1 : Int).toNat * 16 + 2, none⟩ = some (.string ((rd_T105 x3_1 x4_1).f0.f2)) := hcc10 2 _ rfl; have hx10_3 : w11.cell? ⟨go10, (x4_1 : Int).toNat * 16 + 3, none⟩ = some (.int .i64 ((rd_T105 x3_1 x4_1).f0.f3)) := hcc10 3 _ rfl; have hx10_4 : w11.cell? ⟨go10, (x4_1 : Int).toNat * 16 + 4, none⟩ = some (.int .i64 ((rd_T105 x3_1 x4_1).f0.f4)) := hcc10 4 _ rfl; have hx10_5 : w11.cell? ⟨go10, (x4_1 : Int).toNat * 16 + 5, none⟩ = some (.string ((rd_T105 x3_1 x4_1).f0.f5)) := hcc10 5 _ rfl; have hx10_6 : w11.cell? ⟨go10, (x4_1 : Int).toNat * 16 + 6, none⟩ = some (.int .i64 ((rd_T105 x3_1 x4_1).f1.f0)) := hcc10 6 _ rfl; have hx10_7 : w11.cell? ⟨go10, (x4_1 : Int).toNat * 16 + 7, none⟩ = some (.string ((rd_T105 x3_1 x4_1).f1.f1)) := hcc10 7 _ rfl; have hx10_8 : w11.cell? ⟨go10, (x4_1 : Int).toNat * 16 + 8, none⟩ = some (.int .i64 ((rd_T105 x3_1 x4_1).f1.f2)) := hcc10 8 _ rfl; have hx10_9 : w11.cell? ⟨go10, (x4_1 : Int).toNat * 16 + 9, none⟩ = some (.bool ((rd_T105 x3_1 x4_1).f1.f3)) := hcc10 9 _ rfl; have hx10_10 : w11.cell? ⟨go10, (x4_1 : Int).toNat * 16 + 10, none⟩ = some (ve10_10) := hcc10 10 _ rfl; have hx10_11 : w11.cell? ⟨go10, (x4_1 : Int).toNat * 16 + 11, none⟩ = some (ve10_11) := hcc10 11 _ rfl; have hx10_12 : w11.cell? ⟨go10, (x4_1 : Int).toNat * 16 + 12, none⟩ = some (ve10_12) := hcc10 12 _ rfl; have hx10_13 : w11.cell? ⟨go10, (x4_1 : Int).toNat * 16 + 13, none⟩ = some (.int .i64 ((rd_T105 x3_1 x4_1).f4)) := hcc10 13 _ rfl; have hx10_14 : w11.cell? ⟨go10, (x4_1 : Int).toNat * 16 + 14, none⟩ = some (.bool ((rd_T105 x3_1 x4_1).f5)) := hcc10 14 _ rfl; have hx10_15 : w11.cell? ⟨go10, (x4_1 : Int).toNat * 16 + 15, none⟩ = some (.bool ((rd_T105 x3_1 x4_1).f6)) := hcc10 15 _ rfl; have hf10_0 : w11.frozen? ⟨go10, (x4_1 : Int).toNat * 16, none⟩ = false := hfr10 0; have hf10_1 : w11.frozen? ⟨go10, (x4_1 : Int).toNat * 16 + 1, none⟩ = false := hfr10 1; have hf10_2 : w11.frozen? ⟨go10, (x4_1 : Int).toNat * 16 + 2, none⟩ = false := hfr10 2; have hf10_3 : w11.frozen? ⟨go10, (x4_1 : Int).toNat * 16 + 3, none⟩ = false := hfr10 3; have hf10_4 : w11.frozen? ⟨go10, (x4_1 : Int).toNat * 16 + 4, none⟩ = false := hfr10 4; have hf10_5 : w11.frozen? ⟨go10, (x4_1 : Int).toNat * 16 + 5, none⟩ = false := hfr10 5; have hf10_6 : w11.frozen? ⟨go10, (x4_1 : Int).toNat * 16 + 6, none⟩ = false := hfr10 6; have hf10_7 : w11.frozen? ⟨go10, (x4_1 : Int).toNat * 16 + 7, none⟩ = false := hfr10 7; have hf10_8 : w11.frozen? ⟨go10, (x4_1 : Int).toNat * 16 + 8, none⟩ = false := hfr10 8; have hf10_9 : w11.frozen? ⟨go10, (x4_1 : Int).toNat * 16 + 9, none⟩ = false := hfr10 9; have hf10_10 : w11.frozen? ⟨go10, (x4_1 : Int).toNat * 16 + 10, none⟩ = false := hfr10 10; have hf10_11 : w11.frozen? ⟨go10, (x4_1 : Int).toNat * 16 + 11, none⟩ = false := hfr10 11; have hf10_12 : w11.frozen? ⟨go10, (x4_1 : Int).toNat * 16 + 12, none⟩ = false := hfr10 12; have hf10_13 : w11.frozen? ⟨go10, (x4_1 : Int).toNat * 16 + 13, none⟩ = false := hfr10 13; have hf10_14 : w11.frozen? ⟨go10, (x4_1 : Int).toNat * 16 + 14, none⟩ = false := hfr10 14; have hf10_15 : w11.frozen? ⟨go10, (x4_1 : Int).toNat * 16 + 15, none⟩ = false := hfr10 15; clear hcl10 hcc10 hfr10 hM10; replace p10 := eq_true p10; replace q10 := eq_true q10; have n_ := Am (Kd.S_mono (ok' := (fun k_ => some k_ ≠ (v243 : Value).ownBlock ∧ some k_ ≠ (v246 : Value).ownBlock ∧ some k_ ≠ (v249 : Value).ownBlock)) HO_3.out (fun k_ hk => ⟨hk.1.1.2, ⟨hk.1.2, hk.2⟩⟩)); clear HO_3; have HO_3 := n_; clear n_; have HX12 := Am (show Kd.S k105 105 w11 w.heap.size (fun k_ => ((fun _ => True)) k_ ∧ ¬ ((fun k_ => some k_ = (v243 : Value).ownBlock ∨ some k_ = (v246 : Value).ownBlock ∨ some k_ = (v249 : Value).ownBlock)) k_) (.slice (some ⟨go10, 0, none⟩) x3_1.length co10) x3_1 from (by (with_reducible repeat (first | apply sa | apply sn | apply se)); exact Kd.S_mono HO_3.out (fun k_ hk => ⟨trivial, fun e_ => e_.elim (fun h_ => hk.1 h_) (fun h_ => h_.elim (fun h_ => hk.2.1 h_) (fun h_ => hk.2.2 h_))⟩))); obtain ⟨oki12, ce12, hcl12, hM12, hcc12, hfr12, hoki12, hH12⟩ := Kd.S_elem HX12.out z105 (x4_1 : Int) (of_decide_eq_true (by first | (with_reducible assumption) | assumption)) (by have h_ : (x4_1 : Int) < ((x3_1.length : Int) : Int) := of_decide_eq_true (by first | (with_reducible assumption) | assumption); first | exact h_ | (have e_ := (Kd.S_reads' HO_3.out).1; omega) | simpa using h_); obtain ⟨ve12_10, ve12_11, ve12_12, rfl, ge12_10, ge12_11, ge12_12⟩ := k105_openM hM12; have HP12 := Kd.S_seg hH12 (of_decide_eq_true (by first | (with_reducible assumption) | assumption)) (by have h_ : (x4_1 : Int) < ((x3_1.length : Int) : Int) := of_decide_eq_true (by first | (with_reducible assumption) | assumption); first | exact h_ | (have e_ := (Kd.S_reads' HO_3.out).1; omega) | simpa using h_) (seg := [.int .i64 t232, .string t233, .string t234, .int .i64 t235, .int .i64 t236, .string t237, .int .i64 t238, .string t239, .int .i64 t240, .bool t241, v243, v246, v249, .int .i64 t251, .bool t252, .bool t253]) (j := 0) (show 16 ≤ 16 from by decide) (x' := (⟨(⟨t232, t233, t234, t235, t236, t237⟩ : S99), (⟨t238, t239, t240, t241, t242⟩ : S102), t245, t248, t251, t252, t253⟩ : S105)) (k105_mkM _ _ _ (⟨(⟨t232, t233, t234, t235, t236, t237⟩ : S99), (⟨t238, t239, t240, t241, t242⟩ : S102), t245, t248, t251, t252, t253⟩ : S105) (Kd.R_mono (Kd.R_tight rfl (Kd.R_mono (ok' := fun k_ => ((fun _ => True)) k_ ∧ k_ ≠ go10) (Kd.R_apart' (HO244.out) (Kd.S_typed HO_3.out) (by decide)) (fun k_ hk => ⟨trivial, fun e_ => (hk.2) (by rw [e_]; rfl)⟩))) (fun _ h_ => Or.inr (Or.inl h_))) (Kd.R_mono (Kd.R_tight rfl (Kd.R_mono (ok' := fun k_ => ((fun _ => True)) k_ ∧ k_ ≠ go10) (Kd.R_apart' (HO247.out) (Kd.S_typed HO_3.out) (by decide)) (fun k_ hk => ⟨trivial, fun e_ => (hk.2) (by rw [e_]; rfl)⟩))) (fun _ h_ => Or.inr (Or.inr (Or.inl h_)))) (Kd.R_mono (Kd.R_tight rfl (Kd.R_mono (ok' := fun k_ => ((fun _ => True)) k_ ∧ k_ ≠ go10) (Kd.R_apart' (HO250.out) (Kd.S_typed HO_3.out) (by decide)) (fun k_ hk => ⟨trivial, fun e_ => (hk.2) (by rw [e_]; rfl)⟩))) (fun _ h_ => Or.inr (Or.inr (Or.inr (h_)))))) (fun _ hk => hk) (fun k_ hk_ => hk_.elim (fun h_ => ((Kd.R_mono (ok' := fun k_ => ((fun _ => True)) k_ ∧ k_ ≠ go10) (Kd.R_apart' (HO244.out) (Kd.S_typed HO_3.out) (by decide)) (fun k_ hk => ⟨trivial, fun e_ => (hk.2) (by rw [e_]; rfl)⟩))).1 k_ h_.symm) (fun h_ => h_.elim (fun h_ => ((Kd.R_mono (ok' := fun k_ => ((fun _ => True)) k_ ∧ k_ ≠ go10) (Kd.R_apart' (HO247.out) (Kd.S_typed HO_3.out) (by decide)) (fun k_ hk => ⟨trivial, fun e_ => (hk.2) (by rw [e_]; rfl)⟩))).1 k_ h_.symm) (fun h_ => ((Kd.R_mono (ok' := fun k_ => ((fun _ => True)) k_ ∧ k_ ≠ go10) (Kd.R_apart' (HO250.out) (Kd.S_typed HO_3.out) (by decide)) (fun k_ hk => ⟨trivial, fun e_ => (hk.2) (by rw [e_]; rfl)⟩))).1 k_ h_.symm))); have hx12_0 := hcc12 0 _ rfl; (try simp only [show (k105).sz = 16 from rfl, Nat.mul_one, Nat.add_zero] at hx12_0); have hf12_0 := hfr12 0; (try simp only [show (k105).sz = 16 from rfl, Nat.mul_one, Nat.add_zero] at hf12_0); have hx12_1 := hcc12 1 _ rfl; (try simp only [show (k105).sz = 16 from rfl, Nat.mul_one, Nat.add_zero] at hx12_1); have hf12_1 := hfr12 1; (try simp only [show (k105).sz = 16 from rfl, Nat.mul_one, Nat.add_zero] at hf12_1); have hx12_2 := hcc12 2 _ rfl; (try simp only [show (k105).sz = 16 from rfl, Nat.mul_one, Nat.add_zero] at hx12_2); have hf12_2 := hfr12 2; (try simp only [show (k105).sz = 16 from rfl, Nat.mul_one, Nat.add_zero] at hf12_2); have hx12_3 := hcc12 3 _ rfl; (try simp only [show (k105).sz = 16 from rfl, Nat.mul_one, Nat.add_zero] at hx12_3); have hf12_3 := hfr12 3; (try simp only [show (k105).sz = 16 from rfl, Nat.mul_one, Nat.add_zero] at hf12_3); have hx12_4 := hcc12 4 _ rfl; (try simp only [show (k105).sz = 16 from rfl, Nat.mul_one, Nat.add_zero] at hx12_4); have hf12_4 := hfr12 4; (try simp only [show (k105).sz = 16 from rfl, Nat.mul_one, Nat.add_zero] at hf12_4); have hx12_5 := hcc12 5 _ rfl; (try simp only [show (k105).sz = 16 from rfl, Nat.mul_one, Nat.add_zero] at hx12_5); have hf12_5 := hfr12 5; (try simp only [show (k105).sz = 16 from rfl, Nat.mul_one, Nat.add_zero] at hf12_5); have hx12_6 := hcc12 6 _ rfl; (try simp only [show (k105).sz = 16 from rfl, Nat.mul_one, Nat.add_zero] at hx12_6); have hf12_6 := hfr12 6; (try simp only [show (k105).sz = 16 from rfl, Nat.mul_one, Nat.add_zero] at hf12_6); have hx12_7 := hcc12 7 _ rfl; (try simp only [show (k105).sz = 16 from rfl, Nat.mul_one, Nat.add_zero] at hx12_7); have hf12_7 := hfr12 7; (try simp only [show (k105).sz = 16 from rfl, Nat.mul_one, Nat.add_zero] at hf12_7); have hx12_8 := hcc12 8 _ rfl; (try simp only [show (k105).sz = 16 from rfl, Nat.mul_one, Nat.add_zero] at hx12_8); have hf12_8 := hfr12 8; (try simp only [show (k105).sz = 16 from rfl, Nat.mul_one, Nat.add_zero] at hf12_8); have hx12_9 := hcc12 9 _ rfl; (try simp only [show (k105).sz = 16 from rfl, Nat.mul_one, Nat.add_zero] at hx12_9); have hf12_9 := hfr12 9; (try simp only [show (k105).sz = 16 from rfl, Nat.mul_one, Nat.add_zero] at hf12_9); have hx12_10 := hcc12 10 _ rfl; (try simp only [show (k105).sz = 16 from rfl, Nat.mul_one, Nat.add_zero] at hx12_10); have hf12_10 := hfr12 10; (try simp only [show (k105).sz = 16 from rfl, Nat.mul_one, Nat.add_zero] at hf12_10); have hx12_11 := hcc12 11 _ rfl; (try simp only [show (k105).sz = 16 from rfl, Nat.mul_one, Nat.add_zero] at hx12_11); have hf12_11 := hfr12 11; (try simp only [show (k105).sz = 16 from rfl, Nat.mul_one, Nat.add_zero] at hf12_11); have hx12_12 := hcc12 12 _ rfl; (try simp only [show (k105).sz = 16 from rfl, Nat.mul_one, Nat.add_zero] at hx12_12); have hf12_12 := hfr12 12; (try simp only [show (k105).sz = 16 from rfl, Nat.mul_one, Nat.add_zero] at hf12_12); have hx12_13 := hcc12 13 _ rfl; (try simp only [show (k105).sz = 16 from rfl, Nat.mul_one, Nat.add_zero] at hx12_13); have hf12_13 := hfr12 13; (try simp only [show (k105).sz = 16 from rfl, Nat.mul_one, Nat.add_zero] at hf12_13); have hx12_14 := hcc12 14 _ rfl; (try simp only [show (k105).sz = 16 from rfl, Nat.mul_one, Nat.add_zero] at hx12_14); have hf12_14 := hfr12 14; (try simp only [show (k105).sz = 16 from rfl, Nat.mul_one, Nat.add_zero] at hf12_14); have hx12_15 := hcc12 15 _ rfl; (try simp only [show (k105).sz = 16 from rfl, Nat.mul_one, Nat.add_zero] at hx12_15); have hf12_15 := hfr12 15; (try simp only [show (k105).sz = 16 from rfl, Nat.mul_one, Nat.add_zero] at hf12_15); clear hcl12 hcc12 hfr12 hM12 hoki12 hH12) | ((with_reducible refine gate_store (t := 105) (p := 21) rfl ?_); refine store_event (t := 105) (p := 21) (v := ?vo_w13) (w1 := ((((((((((((((((w11.setCell ⟨go10, (x4_1 : Int).toNat * 16, none⟩ (.int .i64 t232)).setCell ⟨go10, (x4_1 : Int).toNat * 16 + 1, none⟩ (.string t233)).setCell ⟨go10, (x4_1 : Int).toNat * 16 + 2, none⟩ (.string t234)).setCell ⟨go10, (x4_1 : Int).toNat * 16 + 3, none⟩ (.int .i64 t235)).setCell ⟨go10, (x4_1 : Int).toNat * 16 + 4, none⟩ (.int .i64 t236)).setCell ⟨go10, (x4_1 : Int).toNat * 16 + 5, none⟩ (.string t237)).setCell ⟨go10, (x4_1 : Int).toNat * 16 + 6, none⟩ (.int .i64 t238)).setCell ⟨go10, (x4_1 : Int).toNat * 16 + 7, none⟩ (.string t239)).setCell ⟨go10, (x4_1 : Int).toNat * 16 + 8, none⟩ (.int .i64 t240)).setCell ⟨go10, (x4_1 : Int).toNat * 16 + 9, none⟩ (.bool t241)).setCell ⟨go10, (x4_1 : Int).toNat * 16 + 10, none⟩ (v243)).setCell ⟨go10, (x4_1 : Int).toNat * 16 + 11, none⟩ (v246)).setCell ⟨go10, (x4_1 : Int).toNat * 16 + 12, none⟩ (v249)).setCell ⟨go10, (x4_1 : Int).toNat * 16 + 13, none⟩ (.int .i64 t251)).setCell ⟨go10, (x4_1 : Int).toNat * 16 + 14, none⟩ (.bool t252)).setCell ⟨go10, (x4_1 : Int).toNat * 16 + 15, none⟩ (.bool t253))) ?hg ?ho ?hn ?hr ?_; (case ho => rfl); (case hg => rfl); (case hn => rfl); (case hr => (try (obtain ⟨_, _, rfl⟩ := Kd.R_slice HO244.out)); (try (obtain ⟨_, _, rfl⟩ := Kd.R_slice HO247.out)); (try (obtain ⟨_, _, rfl⟩ := Kd.R_slice HO250.out)); first | (go_simp; done) | (go_simp; rfl)); intro w13 hw; have hg : w11.grownBy w13 (some go10) := (by rw [hw]; exact HP12.2); have hp_ : Kd.S k105 105 w13 w.heap.size (fun _ => True) (.slice (some ⟨go10, 0, none⟩) x3_1.length co10) y254 := (by rw [hw, Ny254.out]; exact HP12.1); clear HP12; have n0_ := Am (hp_); have n1_ := Am ((by rw [hw]; exact bs (bs (bs (bs (bs (bs (bs (bs (bs (bs (bs (bs (bs (bs (bs (bs (HB.out) GB10.out) GB10.out) GB10.out) GB10.out) GB10.out) GB10.out) GB10.out) GB10.out) GB10.out) GB10.out) GB10.out) GB10.out) GB10.out) GB10.out) GB10.out) GB10.out : Below w.heap.size w w13)); clear HO_3; clear HB; clear HO244; clear HO247; clear HO250; have HO_3 := n0_; have HB := n1_; clear n0_ n1_; clear hg hw hp_))
        go_roundg k1
        case measure => have := HK1.out; omega
        case rel => exact ⟨(y254), (wrap64 (x4_1 + 1)), (by first | rfl | (simp; done) | (simp [*]; done)), H', ⟨by have := HK1.out; omega⟩, ⟨by (with_reducible repeat (first | apply sa | apply sn | apply se)); exact HO_3.out⟩, ⟨zB⟩⟩
       ·rw [if_neg c9] at H
        exact absurd H (by simp)
      ·rw [if_neg c7] at H
       exact absurd H (by simp)
     ·rw [if_neg c6] at H
      have c6b0 : decide (x4_1 < (l0.length : Int)) = false := decide_eq_false c6
      clear c6
      obtain rfl := Option.some.inj H
      go_wp2
      go_ret
      exact ⟨_, zR, by (with_reducible repeat (first | apply sa | apply sn | apply se)); exact HO_3.out, zB⟩
  ·rw [if_neg c3] at H
   exact absurd H (by simp)
 ·rw [if_neg c2] at H
  exact absurd H (by simp)

/-! ### laws_toSystem: function 18 -/
def laws_toSystem.f (k : Nat) (a0_0 : Int) (a0_1 : Int) (a0_2 : Int) (a0_3 : Int) (a0_4 : ByteArray) (l0_5 : List (S149)) (l0_6 : List (S161)) (l0_7 : List (S164)) : Option (Int × Int × Int × Int × ByteArray × (List (S155)) × (List (S105)) × (List (S166))) := (laws_toGeo.f a0_0 a0_1 a0_2 a0_3).bind fun bt258 => ((laws_toMemory.f k a0_4 l0_5).bind fun bt262 => ((laws_toJobS.f k l0_6).bind fun t266 => ((laws_toSealingS.f k l0_7).bind fun t269 => (some (bt258.1, bt258.2.1, bt258.2.2.1, bt258.2.2.2, bt262.1, bt262.2, t266, t269)))))
theorem laws_toSystem.mono : ∀ a0 a1 a2 a3 a4 a5 a6 a7 k, LeO (laws_toSystem.f k a0 a1 a2 a3 a4 a5 a6 a7) (laws_toSystem.f (k + 1) a0 a1 a2 a3 a4 a5 a6 a7) := by
 intro a0 a1 a2 a3 a4 a5 a6 a7 k
 unfold laws_toSystem.f
 repeat' first
   | (with_reducible exact laws_toJobS.mono _ _)
   | (with_reducible exact laws_toMemory.mono _ _ _)
   | (with_reducible exact laws_toSealingS.mono _ _)
   | (with_reducible exact LeO.refl _)
   | (with_reducible exact LeO.none _)
   | (with_reducible refine LeO.ite ?_ ?_)
   | (with_reducible refine LeO.bind ?_ (fun _ => ?_))
   | exact laws_toJobS.mono _ _
   | exact laws_toMemory.mono _ _ _
   | exact laws_toSealingS.mono _ _
   | exact LeO.none _
   | refine LeO.ite ?_ ?_
   | refine LeO.bind ?_ (fun _ => ?_)
set_option maxHeartbeats 8000000 in
set_option maxRecDepth 100000 in
theorem laws_toSystem.calls (k : Nat) (a0_0 : Int) (a0_1 : Int) (a0_2 : Int) (a0_3 : Int) (a0_4 : ByteArray) (A0_5 : Option Addr) (c0_5 : Nat) (l0_5 : List (S149)) (A0_6 : Option Addr) (c0_6 : Nat) (l0_6 : List (S161)) (A0_7 : Option Addr) (c0_7 : Nat) (l0_7 : List (S164)) (r1 : Int) (r2 : Int) (r3 : Int) (r4 : Int) (r5 : ByteArray) (r6 : List (S155)) (r7 : List (S105)) (r8 : List (S166)) (w : World) (hr0_5 : Kd.C k149 w A0_5 l0_5.length l0_5) (hc0_5 : l0_5.length ≤ c0_5) (hr0_6 : Kd.C k161 w A0_6 l0_6.length l0_6) (hc0_6 : l0_6.length ≤ c0_6) (hr0_7 : Kd.C k164 w A0_7 l0_7.length l0_7) (hc0_7 : l0_7.length ≤ c0_7) (h : laws_toSystem.f k a0_0 a0_1 a0_2 a0_3 a0_4 l0_5 l0_6 l0_7 = some (r1, r2, r3, r4, r5, r6, r7, r8)) :
  Calls Try.prog 18 #[.agg #[.int .i64 a0_0, .int .i64 a0_1, .int .i64 a0_2, .int .i64 a0_3, .string a0_4, .slice A0_5 l0_5.length c0_5, .slice A0_6 l0_6.length c0_6, .slice A0_7 l0_7.length c0_7]] w fun e w' => ∃ v5_ v6_ v7_ : Value, e = .returned (.agg #[.int .i64 r1, .int .i64 r2, .int .i64 r3, .int .i64 r4, .string r5, v5_, v6_, v7_]) ∧ Kd.R k155 155 w' w.heap.size (fun _ => True) v5_ r6 ∧ Kd.S k105 105 w' w.heap.size (fun k_ => some k_ ≠ (v7_ : Value).ownBlock) v6_ r7 ∧ Kd.R k166 166 w' w.heap.size (fun _ => True) v7_ r8 ∧ Below w.heap.size w w' := by
 have hu40 := Try.underlying40
 have hu46 := Try.underlying46
 have hu23 := Try.underlying23
 have hu29 := Try.underlying29
 have hu26 := Try.underlying26
 have hu33 := Try.underlying33
 have HR0_5 := Am hr0_5
 have HC0_5 := Am hc0_5
 clear hr0_5 hc0_5
 have HR0_6 := Am hr0_6
 have HC0_6 := Am hc0_6
 clear hr0_6 hc0_6
 have HR0_7 := Am hr0_7
 have HC0_7 := Am hc0_7
 clear hr0_7 hc0_7
 have HB := Am (Below.refl w.heap.size w)
 have H : ((laws_toGeo.f a0_0 a0_1 a0_2 a0_3).bind fun bt258 => ((laws_toMemory.f k a0_4 l0_5).bind fun bt262 => ((laws_toJobS.f k l0_6).bind fun t266 => ((laws_toSealingS.f k l0_7).bind fun t269 => (some (bt258.1, bt258.2.1, bt258.2.2.1, bt258.2.2.2, bt262.1, bt262.2, t266, t269)))))) = some (r1, r2, r3, r4, r5, r6, r7, r8) := h
 clear h
 replace H := Option.bind_eq_some_iff.mp H
 obtain ⟨⟨t258, t259, t260, t261⟩, A20, H⟩ := H
 replace H : ((laws_toMemory.f k a0_4 l0_5).bind fun bt262 => ((laws_toJobS.f k l0_6).bind fun t266 => ((laws_toSealingS.f k l0_7).bind fun t269 => (some (t258, t259, t260, t261, bt262.1, bt262.2, t266, t269))))) = some (r1, r2, r3, r4, r5, r6, r7, r8) := H
 have A2 := Am A20
 clear A20
 replace H := Option.bind_eq_some_iff.mp H
 obtain ⟨⟨t262, t263⟩, A30, H⟩ := H
 replace H : ((laws_toJobS.f k l0_6).bind fun t266 => ((laws_toSealingS.f k l0_7).bind fun t269 => (some (t258, t259, t260, t261, t262, t263, t266, t269)))) = some (r1, r2, r3, r4, r5, r6, r7, r8) := H
 have A3 := Am A30
 clear A30
 replace H := Option.bind_eq_some_iff.mp H
 obtain ⟨t266, A40, H⟩ := H
 replace H : ((laws_toSealingS.f k l0_7).bind fun t269 => (some (t258, t259, t260, t261, t262, t263, t266, t269))) = some (r1, r2, r3, r4, r5, r6, r7, r8) := H
 have A4 := Am A40
 clear A40
 replace H := Option.bind_eq_some_iff.mp H
 obtain ⟨t269, A50, H⟩ := H
 replace H : (some (t258, t259, t260, t261, t262, t263, t266, t269)) = some (r1, r2, r3, r4, r5, r6, r7, r8) := H
 have A5 := Am A50
 clear A50
 simp only [Option.some.injEq, Prod.mk.injEq] at H
 obtain ⟨rfl, rfl, rfl, rfl, rfl, rfl, rfl, rfl⟩ := H
 go_enter Try.func18, Try.ntmps18
 go_wp2_with (first | ((with_reducible refine gate_dst (N := 1) rfl ?_); refine box_event ?hg (N := 1) ?hd (cs := #[.int .i64 a0_0, .int .i64 a0_1, .int .i64 a0_2, .int .i64 a0_3, .string a0_4, .slice A0_5 l0_5.length c0_5, .slice A0_6 l0_6.length c0_6, .slice A0_7 l0_7.length c0_7]) (t := 40) ?hr ?_; (case hd => rfl); (case hg => rfl); (case hr => first | (go_simp; done) | (go_simp; rfl)); intro gb255 hg w6 hbox hb; have BK255 := Am (hbox); have GW255 := Am ((by rw [hg]; exact (bz zB) : w.heap.size ≤ gb255)); have GE255 := Am ((by rw [hg]; exact (bz zB) : w.heap.size ≤ gb255)); replace HB := Am (bq zB hb); clear hb hbox hg) | ((with_reducible refine gate_dst (N := 2) rfl ?_); refine box_event ?hg (N := 2) ?hd (cs := #[.int .i64 0, .int .i64 0, .int .i64 0, .int .i64 0, .string (⟨#[]⟩ : ByteArray), .slice none 0 0, .slice none 0 0, .slice none 0 0]) (t := 46) ?hr ?_; (case hd => rfl); (case hg => rfl); (case hr => first | (go_simp; done) | (go_simp; rfl)); intro gb256 hg w7 hbox hb; have n0_ := Am (zK BK255 hb); have n1_ := Am (bq zG hb); have n2_ := Am (hbox); have n3_ := Am ((by rw [hg]; exact (bz zG) : w.heap.size ≤ gb256)); have n4_ := Am ((by rw [hg]; exact (bz zG) : w.heap.size ≤ gb256)); have n5_ := Am ((by rw [hg]; exact Nat.ne_of_lt (zL BK255) : gb255 ≠ gb256)); have n6_ := Am ((by rw [hg]; exact Nat.ne_of_gt (zL BK255) : gb256 ≠ gb255)); clear BK255; clear HB; have BK255 := n0_; have HB := n1_; have BK256 := n2_; have GW256 := n3_; have GE256 := n4_; have NB255_256 := n5_; have NB256_255 := n6_; clear n0_ n1_ n2_ n3_ n4_ n5_ n6_; clear hb hbox hg) | ((with_reducible refine gate_dst (N := 3) rfl ?_); refine box_event ?hg (N := 3) ?hd (cs := #[.int .i64 0, .int .i64 0, .int .i64 0, .int .i64 0, .string (⟨#[]⟩ : ByteArray), .slice none 0 0, .slice none 0 0, .slice none 0 0]) (t := 46) ?hr ?_; (case hd => rfl); (case hg => rfl); (case hr => first | (go_simp; done) | (go_simp; rfl)); intro gb257 hg w8 hbox hb; have n0_ := Am (zK BK255 hb); have n1_ := Am (zK BK256 hb); have n2_ := Am (bq zG hb); have n3_ := Am (hbox); have n4_ := Am ((by rw [hg]; exact (bz zG) : w.heap.size ≤ gb257)); have n5_ := Am ((by rw [hg]; exact (bz zG) : w.heap.size ≤ gb257)); have n6_ := Am ((by rw [hg]; exact Nat.ne_of_lt (zL BK255) : gb255 ≠ gb257)); have n7_ := Am ((by rw [hg]; exact Nat.ne_of_gt (zL BK255) : gb257 ≠ gb255)); have n8_ := Am ((by rw [hg]; exact Nat.ne_of_lt (zL BK256) : gb256 ≠ gb257)); have n9_ := Am ((by rw [hg]; exact Nat.ne_of_gt (zL BK256) : gb257 ≠ gb256)); clear BK255; clear BK256; clear HB; have BK255 := n0_; have BK256 := n1_; have HB := n2_; have BK257 := n3_; have GW257 := n4_; have GE257 := n5_; have NB255_257 := n6_; have NB257_255 := n7_; have NB256_257 := n8_; have NB257_256 := n9_; clear n0_ n1_ n2_ n3_ n4_ n5_ n6_ n7_ n8_ n9_; clear hb hbox hg; have hnb9 := NB255_256.out; have hnc9 := NB256_255.out; have hnb10 := NB255_257.out; have hnc10 := NB257_255.out; obtain ⟨hcz11_0, hcz11_1, hcz11_2, hcz11_3, hcz11_4, hcz11_5, hcz11_6, hcz11_7⟩ := kc8 (w := w8) BK255.out; have hfz11_0 := kf BK255.out) | ((with_reducible refine gate_callee (f := 12) rfl ?_); refine zC (some 6) rfl rfl Try.func12 rfl #[.agg #[.int .i64 a0_0, .int .i64 a0_1, .int .i64 a0_2, .int .i64 a0_3]] rfl ?_; (with_reducible refine (laws_toGeo.calls a0_0 a0_1 a0_2 a0_3 t258 t259 t260 t261 _ A2.out).mono ?_); rintro e w12 ⟨rfl, hb⟩; refine ⟨_, rfl, ?_⟩; have n0_ := Am (zK BK255 hb); have n1_ := Am (zK BK256 hb); have n2_ := Am (zK BK257 hb); have n3_ := Am (bq zG hb); clear BK255; clear BK256; clear BK257; clear HB; have BK255 := n0_; have BK256 := n1_; have BK257 := n2_; have HB := n3_; clear n0_ n1_ n2_ n3_; (try clear hb); have hnb13 := NB257_256.out; have hnc13 := NB256_257.out; obtain ⟨hcz14_0, hcz14_1, hcz14_2, hcz14_3, hcz14_4, hcz14_5, hcz14_6, hcz14_7⟩ := kc8 (w := w12) BK257.out; have hfz14_0 := kf BK257.out; obtain ⟨hcz15_0, hcz15_1, hcz15_2, hcz15_3, hcz15_4, hcz15_5, hcz15_6, hcz15_7⟩ := kc8 (w := w12) BK255.out; have hfz15_0 := kf BK255.out) | ((with_reducible refine gate_callee (f := 13) rfl ?_); refine zC (some 10) rfl rfl Try.func13 rfl #[.agg #[.string a0_4, .slice A0_5 l0_5.length c0_5]] rfl ?_; (with_reducible refine (laws_toMemory.calls k a0_4 _ _ l0_5 t262 t263 _ ?side1 ?side2 A3.out).mono ?_); (case side1 => exact cb HR0_5.out zG); (case side2 => exact HC0_5.out); rintro e w16 ⟨v264, rfl, ho0, hb⟩; refine ⟨_, rfl, ?_⟩; have n0_ := Am (Kd.R_lower ho0 (bz zG)); have n1_ := Am (kb (g := gb255) (o := o7b0 a0_0 a0_1 a0_2 a0_3 a0_4 A0_5 l0_5.length c0_5 A0_6 l0_6.length c0_6 A0_7 l0_7.length c0_7) (by (with_reducible repeat (first | refine kn ?_ _ | refine ke ?_ | refine ka ?_ _)); refine blk_far ?_ NB255_257.out _; (with_reducible repeat (first | refine kn ?_ _ | refine ke ?_ | refine ka ?_ _)); refine blk_far ?_ NB255_257.out _; (with_reducible repeat (first | refine kn ?_ _ | refine ke ?_ | refine ka ?_ _)); refine blk_far ?_ NB255_257.out _; (with_reducible repeat (first | refine kn ?_ _ | refine ke ?_ | refine ka ?_ _)); refine blk_far ?_ NB255_257.out _; (with_reducible repeat (first | refine kn ?_ _ | refine ke ?_ | refine ka ?_ _)); exact BK255.out) hb); have n2_ := Am (kb (g := gb256) (o := .cells #[.int .i64 0, .int .i64 0, .int .i64 0, .int .i64 0, .string (⟨#[]⟩ : ByteArray), .slice none 0 0, .slice none 0 0, .slice none 0 0] 46 (0, 0)) (by (with_reducible repeat (first | refine kn ?_ _ | refine ke ?_ | refine ka ?_ _)); refine blk_far ?_ NB256_257.out _; (with_reducible repeat (first | refine kn ?_ _ | refine ke ?_ | refine ka ?_ _)); refine blk_far ?_ NB256_257.out _; (with_reducible repeat (first | refine kn ?_ _ | refine ke ?_ | refine ka ?_ _)); refine blk_far ?_ NB256_257.out _; (with_reducible repeat (first | refine kn ?_ _ | refine ke ?_ | refine ka ?_ _)); refine blk_far ?_ NB256_257.out _; (with_reducible repeat (first | refine kn ?_ _ | refine ke ?_ | refine ka ?_ _)); exact BK256.out) hb); have n3_ := Am (kb (g := gb257) (o := .cells #[.int .i64 t258, .int .i64 t259, .int .i64 t260, .int .i64 t261, .string (⟨#[]⟩ : ByteArray), .slice none 0 0, .slice none 0 0, .slice none 0 0] 46 (0, 0)) (by (with_reducible repeat (first | refine kn ?_ _ | refine ke ?_ | refine ka ?_ _)); refine kp (cs := #[.int .i64 t258, .int .i64 t259, .int .i64 t260, .int .i64 0, .string (⟨#[]⟩ : ByteArray), .slice none 0 0, .slice none 0 0, .slice none 0 0]) ?_ 3 _ rfl; (with_reducible repeat (first | refine kn ?_ _ | refine ke ?_ | refine ka ?_ _)); refine kp (cs := #[.int .i64 t258, .int .i64 t259, .int .i64 0, .int .i64 0, .string (⟨#[]⟩ : ByteArray), .slice none 0 0, .slice none 0 0, .slice none 0 0]) ?_ 2 _ rfl; (with_reducible repeat (first | refine kn ?_ _ | refine ke ?_ | refine ka ?_ _)); refine kp (cs := #[.int .i64 t258, .int .i64 0, .int .i64 0, .int .i64 0, .string (⟨#[]⟩ : ByteArray), .slice none 0 0, .slice none 0 0, .slice none 0 0]) ?_ 1 _ rfl; (with_reducible repeat (first | refine kn ?_ _ | refine ke ?_ | refine ka ?_ _)); refine kp (cs := #[.int .i64 0, .int .i64 0, .int .i64 0, .int .i64 0, .string (⟨#[]⟩ : ByteArray), .slice none 0 0, .slice none 0 0, .slice none 0 0]) ?_ 0 _ rfl; (with_reducible repeat (first | refine kn ?_ _ | refine ke ?_ | refine ka ?_ _)); exact BK257.out) hb); have n4_ := Am (bq zG hb); clear BK255; clear BK256; clear BK257; clear HB; have HO265 := n0_; have BK255 := n1_; have BK256 := n2_; have BK257 := n3_; have HB := n4_; clear n0_ n1_ n2_ n3_ n4_; (try clear hb ho0); obtain ⟨hcz17_0, hcz17_1, hcz17_2, hcz17_3, hcz17_4, hcz17_5, hcz17_6, hcz17_7⟩ := kc8 (w := w16) BK257.out; have hfz17_0 := kf BK257.out; obtain ⟨Ao18, co18, eo18⟩ := Kd.R_slice HO265.out; subst eo18; obtain ⟨hcz19_0, hcz19_1, hcz19_2, hcz19_3, hcz19_4, hcz19_5, hcz19_6, hcz19_7⟩ := kc8 (w := w16) BK255.out; have hfz19_0 := kf BK255.out) | ((with_reducible refine gate_callee (f := 65) rfl ?_); refine zC (some 14) rfl rfl Try.func65 rfl #[.slice A0_6 l0_6.length c0_6] rfl ?_; (with_reducible refine (laws_toJobS.calls k _ _ l0_6 t266 _ ?side1 ?side2 A4.out).mono ?_); (case side1 => exact cb HR0_6.out zG); (case side2 => exact HC0_6.out); rintro e w20 ⟨v267, rfl, ho0, hb⟩; refine ⟨_, rfl, ?_⟩; have n0_ := Am (rb (by (with_reducible repeat (first | apply ra | apply rn | apply re)); exact (Kd.R_mono (Kd.R_far (p := ⟨gb257, 5, none⟩) (Kd.R_far (p := ⟨gb257, 4, none⟩) (Kd.R_types HO265.out BK257.out (by decide)) (fun _ hk => hk.2) (.string t262)) (fun _ hk => hk.2) (.slice Ao18 t263.length co18)) (fun _ h_ => h_.1))) hb); have n1_ := Am (Kd.S_lower ho0 (bz zG)); have n2_ := Am (kb (g := gb255) (o := o7b0 a0_0 a0_1 a0_2 a0_3 a0_4 A0_5 l0_5.length c0_5 A0_6 l0_6.length c0_6 A0_7 l0_7.length c0_7) (by (with_reducible repeat (first | refine kn ?_ _ | refine ke ?_ | refine ka ?_ _)); refine blk_far ?_ NB255_257.out _; (with_reducible repeat (first | refine kn ?_ _ | refine ke ?_ | refine ka ?_ _)); refine blk_far ?_ NB255_257.out _; (with_reducible repeat (first | refine kn ?_ _ | refine ke ?_ | refine ka ?_ _)); exact BK255.out) hb); have n3_ := Am (kb (g := gb256) (o := .cells #[.int .i64 0, .int .i64 0, .int .i64 0, .int .i64 0, .string (⟨#[]⟩ : ByteArray), .slice none 0 0, .slice none 0 0, .slice none 0 0] 46 (0, 0)) (by (with_reducible repeat (first | refine kn ?_ _ | refine ke ?_ | refine ka ?_ _)); refine blk_far ?_ NB256_257.out _; (with_reducible repeat (first | refine kn ?_ _ | refine ke ?_ | refine ka ?_ _)); refine blk_far ?_ NB256_257.out _; (with_reducible repeat (first | refine kn ?_ _ | refine ke ?_ | refine ka ?_ _)); exact BK256.out) hb); have n4_ := Am (kb (g := gb257) (o := .cells #[.int .i64 t258, .int .i64 t259, .int .i64 t260, .int .i64 t261, .string t262, .slice Ao18 t263.length co18, .slice none 0 0, .slice none 0 0] 46 (0, 0)) (by (with_reducible repeat (first | refine kn ?_ _ | refine ke ?_ | refine ka ?_ _)); refine kp (cs := #[.int .i64 t258, .int .i64 t259, .int .i64 t260, .int .i64 t261, .string t262, .slice none 0 0, .slice none 0 0, .slice none 0 0]) ?_ 5 _ rfl; (with_reducible repeat (first | refine kn ?_ _ | refine ke ?_ | refine ka ?_ _)); refine kp (cs := #[.int .i64 t258, .int .i64 t259, .int .i64 t260, .int .i64 t261, .string (⟨#[]⟩ : ByteArray), .slice none 0 0, .slice none 0 0, .slice none 0 0]) ?_ 4 _ rfl; (with_reducible repeat (first | refine kn ?_ _ | refine ke ?_ | refine ka ?_ _)); exact BK257.out) hb); have n5_ := Am (bq zG hb); clear HO265; clear BK255; clear BK256; clear BK257; clear HB; have HO265 := n0_; have HO268 := n1_; have BK255 := n2_; have BK256 := n3_; have BK257 := n4_; have HB := n5_; clear n0_ n1_ n2_ n3_ n4_ n5_; (try clear hb ho0); obtain ⟨Ao21, co21, eo21⟩ := Kd.S_slice HO268.out; subst eo21; obtain ⟨hcz22_0, hcz22_1, hcz22_2, hcz22_3, hcz22_4, hcz22_5, hcz22_6, hcz22_7⟩ := kc8 (w := w20) BK257.out; have hfz22_0 := kf BK257.out; obtain ⟨hcz23_0, hcz23_1, hcz23_2, hcz23_3, hcz23_4, hcz23_5, hcz23_6, hcz23_7⟩ := kc8 (w := w20) BK255.out; have hfz23_0 := kf BK255.out) | ((with_reducible refine gate_callee (f := 66) rfl ?_); refine zC (some 18) rfl rfl Try.func66 rfl #[.slice A0_7 l0_7.length c0_7] rfl ?_; (with_reducible refine (laws_toSealingS.calls k _ _ l0_7 t269 _ ?side1 ?side2 A5.out).mono ?_); (case side1 => exact cb HR0_7.out zG); (case side2 => exact HC0_7.out); rintro e w24 ⟨v270, rfl, ho0, hb⟩; refine ⟨_, rfl, ?_⟩; have n0_ := Am (rb (by (with_reducible repeat (first | apply ra | apply rn | apply re)); exact (Kd.R_mono (Kd.R_far (p := ⟨gb257, 6, none⟩) (Kd.R_types HO265.out BK257.out (by decide)) (fun _ hk => hk.2) (.slice Ao21 t266.length co21)) (fun _ h_ => h_.1))) hb); have n1_ := Am (Kd.S_elder' (by (with_reducible repeat (first | apply sa | apply sn | apply se)); exact (Kd.S_mono (Kd.S_far (p := ⟨gb257, 6, none⟩) (Kd.S_types HO268.out BK257.out (by decide)) (fun _ hk => hk.2) (.slice Ao21 t266.length co21)) (fun _ h_ => h_.1))) (Kd.R_base ho0) hb); have n2_ := Am (Kd.R_lower ho0 (bz zG)); have n3_ := Am (kb (g := gb255) (o := o7b0 a0_0 a0_1 a0_2 a0_3 a0_4 A0_5 l0_5.length c0_5 A0_6 l0_6.length c0_6 A0_7 l0_7.length c0_7) (by (with_reducible repeat (first | refine kn ?_ _ | refine ke ?_ | refine ka ?_ _)); refine blk_far ?_ NB255_257.out _; (with_reducible repeat (first | refine kn ?_ _ | refine ke ?_ | refine ka ?_ _)); exact BK255.out) hb); have n4_ := Am (kb (g := gb256) (o := .cells #[.int .i64 0, .int .i64 0, .int .i64 0, .int .i64 0, .string (⟨#[]⟩ : ByteArray), .slice none 0 0, .slice none 0 0, .slice none 0 0] 46 (0, 0)) (by (with_reducible repeat (first | refine kn ?_ _ | refine ke ?_ | refine ka ?_ _)); refine blk_far ?_ NB256_257.out _; (with_reducible repeat (first | refine kn ?_ _ | refine ke ?_ | refine ka ?_ _)); exact BK256.out) hb); have n5_ := Am (kb (g := gb257) (o := .cells #[.int .i64 t258, .int .i64 t259, .int .i64 t260, .int .i64 t261, .string t262, .slice Ao18 t263.length co18, .slice Ao21 t266.length co21, .slice none 0 0] 46 (0, 0)) (by (with_reducible repeat (first | refine kn ?_ _ | refine ke ?_ | refine ka ?_ _)); refine kp (cs := #[.int .i64 t258, .int .i64 t259, .int .i64 t260, .int .i64 t261, .string t262, .slice Ao18 t263.length co18, .slice none 0 0, .slice none 0 0]) ?_ 6 _ rfl; (with_reducible repeat (first | refine kn ?_ _ | refine ke ?_ | refine ka ?_ _)); exact BK257.out) hb); have n6_ := Am (bq zG hb); clear HO265; clear HO268; clear BK255; clear BK256; clear BK257; clear HB; have HO265 := n0_; have HO268 := n1_; have HO271 := n2_; have BK255 := n3_; have BK256 := n4_; have BK257 := n5_; have HB := n6_; clear n0_ n1_ n2_ n3_ n4_ n5_ n6_; (try clear hb ho0); obtain ⟨Ao25, co25, eo25⟩ := Kd.R_slice HO271.out; subst eo25; obtain ⟨hcz26_0, hcz26_1, hcz26_2, hcz26_3, hcz26_4, hcz26_5, hcz26_6, hcz26_7⟩ := kc8 (w := w24) BK257.out; have hfz26_0 := kf BK257.out; obtain ⟨hcz27_0, hcz27_1, hcz27_2, hcz27_3, hcz27_4, hcz27_5, hcz27_6, hcz27_7⟩ := kc8 (w := w24) BK256.out; have hfz27_0 := kf BK256.out))
 refine bodyPost_ret (results_cell_row rfl _ _ gb256 46 #[.int .i64 t258, .int .i64 t259, .int .i64 t260, .int .i64 t261, .string t262, .slice Ao18 t263.length co18, .slice Ao21 t266.length co21, .slice Ao25 t269.length co25] (0, 0) _ rfl (by (with_reducible repeat (first | refine kn ?_ _ | refine ke ?_ | refine ka ?_ _)); refine kp (cs := #[.int .i64 t258, .int .i64 t259, .int .i64 t260, .int .i64 t261, .string t262, .slice Ao18 t263.length co18, .slice Ao21 t266.length co21, .slice none 0 0]) ?_ 7 _ rfl; (with_reducible repeat (first | refine kn ?_ _ | refine ke ?_ | refine ka ?_ _)); refine kp (cs := #[.int .i64 t258, .int .i64 t259, .int .i64 t260, .int .i64 t261, .string t262, .slice Ao18 t263.length co18, .slice none 0 0, .slice none 0 0]) ?_ 6 _ rfl; (with_reducible repeat (first | refine kn ?_ _ | refine ke ?_ | refine ka ?_ _)); refine kp (cs := #[.int .i64 t258, .int .i64 t259, .int .i64 t260, .int .i64 t261, .string t262, .slice none 0 0, .slice none 0 0, .slice none 0 0]) ?_ 5 _ rfl; (with_reducible repeat (first | refine kn ?_ _ | refine ke ?_ | refine ka ?_ _)); refine kp (cs := #[.int .i64 t258, .int .i64 t259, .int .i64 t260, .int .i64 t261, .string (⟨#[]⟩ : ByteArray), .slice none 0 0, .slice none 0 0, .slice none 0 0]) ?_ 4 _ rfl; (with_reducible repeat (first | refine kn ?_ _ | refine ke ?_ | refine ka ?_ _)); refine kp (cs := #[.int .i64 t258, .int .i64 t259, .int .i64 t260, .int .i64 0, .string (⟨#[]⟩ : ByteArray), .slice none 0 0, .slice none 0 0, .slice none 0 0]) ?_ 3 _ rfl; (with_reducible repeat (first | refine kn ?_ _ | refine ke ?_ | refine ka ?_ _)); refine kp (cs := #[.int .i64 t258, .int .i64 t259, .int .i64 0, .int .i64 0, .string (⟨#[]⟩ : ByteArray), .slice none 0 0, .slice none 0 0, .slice none 0 0]) ?_ 2 _ rfl; (with_reducible repeat (first | refine kn ?_ _ | refine ke ?_ | refine ka ?_ _)); refine kp (cs := #[.int .i64 t258, .int .i64 0, .int .i64 0, .int .i64 0, .string (⟨#[]⟩ : ByteArray), .slice none 0 0, .slice none 0 0, .slice none 0 0]) ?_ 1 _ rfl; (with_reducible repeat (first | refine kn ?_ _ | refine ke ?_ | refine ka ?_ _)); refine kp (cs := #[.int .i64 0, .int .i64 0, .int .i64 0, .int .i64 0, .string (⟨#[]⟩ : ByteArray), .slice none 0 0, .slice none 0 0, .slice none 0 0]) ?_ 0 _ rfl; (with_reducible repeat (first | refine kn ?_ _ | refine ke ?_ | refine ka ?_ _)); refine blk_far ?_ NB256_257.out _; (with_reducible repeat (first | refine kn ?_ _ | refine ke ?_ | refine ka ?_ _)); exact BK256.out) Try.underlying46 rfl (by kernel_rfl)) rfl ?_
 exact ⟨_, _, _, zR, by (with_reducible repeat (first | apply ra | apply rn | apply re)); exact Kd.R_mono (Kd.R_far (p := ⟨gb256, 7, none⟩) (Kd.R_far (p := ⟨gb256, 6, none⟩) (Kd.R_far (p := ⟨gb256, 5, none⟩) (Kd.R_far (p := ⟨gb256, 4, none⟩) (Kd.R_far (p := ⟨gb256, 3, none⟩) (Kd.R_far (p := ⟨gb256, 2, none⟩) (Kd.R_far (p := ⟨gb256, 1, none⟩) (Kd.R_far (p := ⟨gb256, 0, none⟩) (Kd.R_far (p := ⟨gb257, 7, none⟩) (Kd.R_types (Kd.R_types HO265.out BK257.out (by decide)) BK256.out (by decide)) (fun _ hk => hk.1.2) (.slice Ao25 t269.length co25)) (fun _ hk => hk.2) (.int .i64 t258)) (fun _ hk => hk.2) (.int .i64 t259)) (fun _ hk => hk.2) (.int .i64 t260)) (fun _ hk => hk.2) (.int .i64 t261)) (fun _ hk => hk.2) (.string t262)) (fun _ hk => hk.2) (.slice Ao18 t263.length co18)) (fun _ hk => hk.2) (.slice Ao21 t266.length co21)) (fun _ hk => hk.2) (.slice Ao25 t269.length co25)) (fun _ hk => trivial), by (with_reducible repeat (first | apply sa | apply sn | apply se)); exact Kd.S_mono (Kd.S_far (p := ⟨gb256, 7, none⟩) (Kd.S_far (p := ⟨gb256, 6, none⟩) (Kd.S_far (p := ⟨gb256, 5, none⟩) (Kd.S_far (p := ⟨gb256, 4, none⟩) (Kd.S_far (p := ⟨gb256, 3, none⟩) (Kd.S_far (p := ⟨gb256, 2, none⟩) (Kd.S_far (p := ⟨gb256, 1, none⟩) (Kd.S_far (p := ⟨gb256, 0, none⟩) (Kd.S_far (p := ⟨gb257, 7, none⟩) (Kd.S_types (Kd.S_types HO268.out BK257.out (by decide)) BK256.out (by decide)) (fun _ hk => hk.1.2) (.slice Ao25 t269.length co25)) (fun _ hk => hk.2) (.int .i64 t258)) (fun _ hk => hk.2) (.int .i64 t259)) (fun _ hk => hk.2) (.int .i64 t260)) (fun _ hk => hk.2) (.int .i64 t261)) (fun _ hk => hk.2) (.string t262)) (fun _ hk => hk.2) (.slice Ao18 t263.length co18)) (fun _ hk => hk.2) (.slice Ao21 t266.length co21)) (fun _ hk => hk.2) (.slice Ao25 t269.length co25)) (fun _ hk => hk.1.1.2), by (with_reducible repeat (first | apply ra | apply rn | apply re)); exact Kd.R_mono (Kd.R_far (p := ⟨gb256, 7, none⟩) (Kd.R_far (p := ⟨gb256, 6, none⟩) (Kd.R_far (p := ⟨gb256, 5, none⟩) (Kd.R_far (p := ⟨gb256, 4, none⟩) (Kd.R_far (p := ⟨gb256, 3, none⟩) (Kd.R_far (p := ⟨gb256, 2, none⟩) (Kd.R_far (p := ⟨gb256, 1, none⟩) (Kd.R_far (p := ⟨gb256, 0, none⟩) (Kd.R_far (p := ⟨gb257, 7, none⟩) (Kd.R_types (Kd.R_types HO271.out BK257.out (by decide)) BK256.out (by decide)) (fun _ hk => hk.1.2) (.slice Ao25 t269.length co25)) (fun _ hk => hk.2) (.int .i64 t258)) (fun _ hk => hk.2) (.int .i64 t259)) (fun _ hk => hk.2) (.int .i64 t260)) (fun _ hk => hk.2) (.int .i64 t261)) (fun _ hk => hk.2) (.string t262)) (fun _ hk => hk.2) (.slice Ao18 t263.length co18)) (fun _ hk => hk.2) (.slice Ao21 t266.length co21)) (fun _ hk => hk.2) (.slice Ao25 t269.length co25)) (fun _ hk => trivial), zG⟩

/-! ### laws_toItem: function 158 -/
def laws_toItem.f (a0_0 : ByteArray) (a0_1 : Bool) (a0_2 : ByteArray) : Option (ByteArray × Bool × ByteArray) := some (a0_0, a0_1, a0_2)
set_option maxHeartbeats 8000000 in
set_option maxRecDepth 100000 in
theorem laws_toItem.calls (a0_0 : ByteArray) (a0_1 : Bool) (a0_2 : ByteArray) (r1 : ByteArray) (r2 : Bool) (r3 : ByteArray) (w : World) (h : laws_toItem.f a0_0 a0_1 a0_2 = some (r1, r2, r3)) :
  Calls Try.prog 158 #[.agg #[.string a0_0, .bool a0_1, .string a0_2]] w fun e w' => e = .returned (.agg #[.string r1, .bool r2, .string r3]) ∧ Below w.heap.size w w' := by
 have hu205 := Try.underlying205
 have hu176 := Try.underlying176
 have HB := Am (Below.refl w.heap.size w)
 have H : (some (a0_0, a0_1, a0_2)) = some (r1, r2, r3) := h
 clear h
 simp only [Option.some.injEq, Prod.mk.injEq] at H
 obtain ⟨rfl, rfl, rfl⟩ := H
 go_enter Try.func158, Try.ntmps158
 go_wp2_with (first | ((with_reducible refine gate_dst (N := 1) rfl ?_); refine box_event ?hg (N := 1) ?hd (cs := #[.string a0_0, .bool a0_1, .string a0_2]) (t := 205) ?hr ?_; (case hd => rfl); (case hg => rfl); (case hr => first | (go_simp; done) | (go_simp; rfl)); intro gb272 hg w2 hbox hb; have BK272 := Am (hbox); have GW272 := Am ((by rw [hg]; exact (bz zB) : w.heap.size ≤ gb272)); have GE272 := Am ((by rw [hg]; exact (bz zB) : w.heap.size ≤ gb272)); replace HB := Am (bq zB hb); clear hb hbox hg) | ((with_reducible refine gate_dst (N := 2) rfl ?_); refine box_event ?hg (N := 2) ?hd (cs := #[.string (⟨#[]⟩ : ByteArray), .bool false, .string (⟨#[]⟩ : ByteArray)]) (t := 176) ?hr ?_; (case hd => rfl); (case hg => rfl); (case hr => first | (go_simp; done) | (go_simp; rfl)); intro gb273 hg w3 hbox hb; have n0_ := Am (zK BK272 hb); have n1_ := Am (bq zG hb); have n2_ := Am (hbox); have n3_ := Am ((by rw [hg]; exact (bz zG) : w.heap.size ≤ gb273)); have n4_ := Am ((by rw [hg]; exact (bz zG) : w.heap.size ≤ gb273)); have n5_ := Am ((by rw [hg]; exact Nat.ne_of_lt (zL BK272) : gb272 ≠ gb273)); have n6_ := Am ((by rw [hg]; exact Nat.ne_of_gt (zL BK272) : gb273 ≠ gb272)); clear BK272; clear HB; have BK272 := n0_; have HB := n1_; have BK273 := n2_; have GW273 := n3_; have GE273 := n4_; have NB272_273 := n5_; have NB273_272 := n6_; clear n0_ n1_ n2_ n3_ n4_ n5_ n6_; clear hb hbox hg) | ((with_reducible refine gate_dst (N := 3) rfl ?_); refine box_event ?hg (N := 3) ?hd (cs := #[.string (⟨#[]⟩ : ByteArray), .bool false, .string (⟨#[]⟩ : ByteArray)]) (t := 176) ?hr ?_; (case hd => rfl); (case hg => rfl); (case hr => first | (go_simp; done) | (go_simp; rfl)); intro gb274 hg w4 hbox hb; have n0_ := Am (zK BK272 hb); have n1_ := Am (zK BK273 hb); have n2_ := Am (bq zG hb); have n3_ := Am (hbox); have n4_ := Am ((by rw [hg]; exact (bz zG) : w.heap.size ≤ gb274)); have n5_ := Am ((by rw [hg]; exact (bz zG) : w.heap.size ≤ gb274)); have n6_ := Am ((by rw [hg]; exact Nat.ne_of_lt (zL BK272) : gb272 ≠ gb274)); have n7_ := Am ((by rw [hg]; exact Nat.ne_of_gt (zL BK272) : gb274 ≠ gb272)); have n8_ := Am ((by rw [hg]; exact Nat.ne_of_lt (zL BK273) : gb273 ≠ gb274)); have n9_ := Am ((by rw [hg]; exact Nat.ne_of_gt (zL BK273) : gb274 ≠ gb273)); clear BK272; clear BK273; clear HB; have BK272 := n0_; have BK273 := n1_; have HB := n2_; have BK274 := n3_; have GW274 := n4_; have GE274 := n5_; have NB272_274 := n6_; have NB274_272 := n7_; have NB273_274 := n8_; have NB274_273 := n9_; clear n0_ n1_ n2_ n3_ n4_ n5_ n6_ n7_ n8_ n9_; clear hb hbox hg; have hnb5 := NB272_273.out; have hnc5 := NB273_272.out; have hnb6 := NB272_274.out; have hnc6 := NB274_272.out; obtain ⟨hcz7_0, hcz7_1, hcz7_2⟩ := kc3 (w := w4) BK272.out; have hfz7_0 := kf BK272.out; have hnb8 := NB274_273.out; have hnc8 := NB273_274.out; obtain ⟨hcz9_0, hcz9_1, hcz9_2⟩ := kc3 (w := w4) BK274.out; have hfz9_0 := kf BK274.out; obtain ⟨hcz10_0, hcz10_1, hcz10_2⟩ := kc3 (w := w4) BK273.out; have hfz10_0 := kf BK273.out))
 refine bodyPost_ret (results_cell_row rfl _ _ gb273 176 #[.string a0_0, .bool a0_1, .string a0_2] (0, 0) _ rfl (by (with_reducible repeat (first | refine kn ?_ _ | refine ke ?_ | refine ka ?_ _)); refine kp (cs := #[.string a0_0, .bool a0_1, .string (⟨#[]⟩ : ByteArray)]) ?_ 2 _ rfl; (with_reducible repeat (first | refine kn ?_ _ | refine ke ?_ | refine ka ?_ _)); refine kp (cs := #[.string a0_0, .bool false, .string (⟨#[]⟩ : ByteArray)]) ?_ 1 _ rfl; (with_reducible repeat (first | refine kn ?_ _ | refine ke ?_ | refine ka ?_ _)); refine kp (cs := #[.string (⟨#[]⟩ : ByteArray), .bool false, .string (⟨#[]⟩ : ByteArray)]) ?_ 0 _ rfl; (with_reducible repeat (first | refine kn ?_ _ | refine ke ?_ | refine ka ?_ _)); refine blk_far ?_ NB273_274.out _; (with_reducible repeat (first | refine kn ?_ _ | refine ke ?_ | refine ka ?_ _)); refine blk_far ?_ NB273_274.out _; (with_reducible repeat (first | refine kn ?_ _ | refine ke ?_ | refine ka ?_ _)); refine blk_far ?_ NB273_274.out _; (with_reducible repeat (first | refine kn ?_ _ | refine ke ?_ | refine ka ?_ _)); exact BK273.out) Try.underlying176 rfl (by kernel_rfl)) rfl ?_
 exact ⟨zR, zG⟩

/-! ### laws_toItemS: function 148 -/
def laws_toItemS.l0 : Nat → List (S205) → List (S176) → Int → Option ((List (S176)))
 | 0, _, _, _ => none
 | k + 1, x0, x3, x4 => if x4 < (x0.length : Int) then (if 0 ≤ x4 then ((laws_toItem.f ((rd_T205 x0 x4).f0) ((rd_T205 x0 x4).f1) ((rd_T205 x0 x4).f2)).bind fun bt279 => (if x4 < (x3.length : Int) then (laws_toItemS.l0 k x0 (x3.set (x4 : Int).toNat (⟨bt279.1, bt279.2.1, bt279.2.2⟩ : S176)) (wrap64 (x4 + 1))) else (none))) else (none)) else (some x3)
def laws_toItemS.f (k : Nat) (l0 : List (S205)) : Option ((List (S176))) := if 0 ≤ (l0.length : Int) then (if ((l0.length : Int) : Int).toNat ≤ 7036874417766 then (laws_toItemS.l0 k l0 (List.replicate ((l0.length : Int) : Int).toNat z176) 0) else (none)) else (none)
theorem laws_toItemS.mono_l : ∀ k, (∀ y0 y1 y2, LeO (laws_toItemS.l0 k y0 y1 y2) (laws_toItemS.l0 (k + 1) y0 y1 y2))
 | 0 => fun _ _ _ r h => by simp [laws_toItemS.l0] at h
 | k + 1 => by
  have ih0 := laws_toItemS.mono_l k
  ·intro y0 y1 y2
   unfold laws_toItemS.l0
   repeat' first
   | (with_reducible exact ih0 _ _ _)
   | (with_reducible exact LeO.refl _)
   | (with_reducible exact LeO.none _)
   | (with_reducible refine LeO.ite ?_ ?_)
   | (with_reducible refine LeO.bind ?_ (fun _ => ?_))
   | exact ih0 _ _ _
   | exact LeO.none _
   | refine LeO.ite ?_ ?_
   | refine LeO.bind ?_ (fun _ => ?_)
theorem laws_toItemS.mono : ∀ a0 k, LeO (laws_toItemS.f k a0) (laws_toItemS.f (k + 1) a0) := by
 intro a0 k
 have ih0 := laws_toItemS.mono_l k
 unfold laws_toItemS.f
 repeat' first
   | (with_reducible exact ih0 _ _ _)
   | (with_reducible exact LeO.refl _)
   | (with_reducible exact LeO.none _)
   | (with_reducible refine LeO.ite ?_ ?_)
   | (with_reducible refine LeO.bind ?_ (fun _ => ?_))
   | exact ih0 _ _ _
   | exact LeO.none _
   | refine LeO.ite ?_ ?_
   | refine LeO.bind ?_ (fun _ => ?_)
set_option maxHeartbeats 8000000 in
set_option maxRecDepth 100000 in
theorem laws_toItemS.calls (k : Nat) (A0 : Option Addr) (c0 : Nat) (l0 : List (S205)) (r : List (S176)) (w : World) (hr0 : Kd.C k205 w A0 l0.length l0) (hc0 : l0.length ≤ c0) (h : laws_toItemS.f k l0 = some r) :
  Calls Try.prog 148 #[.slice A0 l0.length c0] w fun e w' => ∃ v0_ : Value, e = .returned (v0_) ∧ Kd.R k176 176 w' w.heap.size (fun _ => True) v0_ r ∧ Below w.heap.size w w' := by
 have hu205 := Try.underlying205
 have hu176 := Try.underlying176
 have HR0 := Am hr0
 have HC0 := Am hc0
 clear hr0 hc0
 have HB := Am (Below.refl w.heap.size w)
 have H : (if 0 ≤ (l0.length : Int) then (if ((l0.length : Int) : Int).toNat ≤ 7036874417766 then (laws_toItemS.l0 k l0 (List.replicate ((l0.length : Int) : Int).toNat z176) 0) else (none)) else (none)) = some r := h
 clear h
 by_cases c2 : 0 ≤ (l0.length : Int)
 ·rw [if_pos c2] at H
  have c2b0 := eq_true c2
  have c2b1 : decide (0 ≤ (l0.length : Int)) = true := decide_eq_true c2
  clear c2
  by_cases c3 : ((l0.length : Int) : Int).toNat ≤ 7036874417766
  ·rw [if_pos c3] at H
   have c3b0 := eq_true c3
   have c3b1 : decide (((l0.length : Int) : Int).toNat ≤ 7036874417766) = true := decide_eq_true c3
   clear c3
   obtain ⟨y275, hy275⟩ : ∃ y_ : List (S176), y_ = (List.replicate ((l0.length : Int) : Int).toNat z176) := ⟨_, rfl⟩
   replace H : (laws_toItemS.l0 k l0 y275 0) = some r := by first | (rw [hy275]; with_reducible exact H) | (have H2_ := (Option.bind_some _ _).symm.trans H; rw [hy275]; with_reducible exact H2_) | (have H2_ := (Option.bind_some _ _).symm.trans H; with_reducible exact H2_) | with_reducible exact H | (rw [hy275]; exact H) | exact H
   have Ny275 := Am hy275
   clear hy275
   have H' := Am H
   clear H
   go_enter Try.func148, Try.ntmps148
   go_wp2_with (first | ((with_reducible refine gate_dst (N := 7) rfl ?_); refine Kd.R_make k176 _ 176 rfl (N := 7) rfl 115 _ _ rfl (l0.length : Int) rfl rfl Try.underlying115 (.agg #[(.string ⟨#[]⟩), (.bool false), (.string ⟨#[]⟩)]) 40 info176 rfl (by decide) (by omega) z176 (ok := fun _ => True) (okp := fun _ => True) (k176_mkM _ _ _ z176 ) (fun _ hk => hk) trivial (of_decide_eq_true (by first | (with_reducible assumption) | assumption)) (Nat.le_trans (Nat.mul_le_mul_right _ (of_decide_eq_true (by first | (with_reducible assumption) | assumption) : (l0.length : Int).toNat ≤ 7036874417766)) (by omega)) (Below.refl _ _) (Nat.le_refl _) ?_; intro v276 w4 ho5 hb hg_ hnew_; clear hg_ hnew_; (first | rw [← Ny275.out] at ho5 | (simp only [Int.reduceToNat] at ho5; rw [← Ny275.out] at ho5)); have HO277 := Am (Kd.R_lower ho5 (bz zB)); replace HB := Am (bq zB hb); clear hb ho5))
   go_loopg [4] k (fun kq v4 w' => ∃ (x3_1 : List (S176)) (x4_1 : Int), v4 = .int .i64 x4_1 ∧ Aside0 (laws_toItemS.l0 kq l0 x3_1 x4_1 = some r) ∧ Aside0 (kq ≤ k) ∧ Aside0 (Kd.R k176 176 w' w.heap.size (fun _ => True) v276 x3_1) ∧ Aside0 (Below w.heap.size w w'))
   case atStart => exact ⟨(y275), (0), (by first | rfl | (simp; done) | (simp [*]; done)), H', ⟨Nat.le_refl _⟩, ⟨by (with_reducible repeat (first | apply ra | apply rn | apply re)); exact HO277.out⟩, ⟨zB⟩⟩
   case round =>
    clear H'
    try clear c1; try clear c2; try clear c2b0; try clear c2b1; try clear p2; try clear c3; try clear c3b0; try clear c3b1
    obtain ⟨x3_1, x4_1, rfl, HA, HK1, HO_3, HB⟩ := hrel
    cases gk with
    | zero => exact absurd HA.out (by simp [laws_toItemS.l0])
    | succ k1 =>
     have H := HA.out
     clear HA
     simp only [laws_toItemS.l0] at H
     by_cases c6 : x4_1 < (l0.length : Int)
     ·rw [if_pos c6] at H
      have c6b0 : decide (x4_1 < (l0.length : Int)) = true := decide_eq_true c6
      clear c6
      by_cases c7 : 0 ≤ x4_1
      ·rw [if_pos c7] at H
       have c7b0 : decide (0 ≤ x4_1) = true := decide_eq_true c7
       clear c7
       replace H := Option.bind_eq_some_iff.mp H
       obtain ⟨⟨t279, t280, t281⟩, A80, H⟩ := H
       replace H : (if x4_1 < (x3_1.length : Int) then (laws_toItemS.l0 k1 l0 (x3_1.set (x4_1 : Int).toNat (⟨t279, t280, t281⟩ : S176)) (wrap64 (x4_1 + 1))) else (none)) = some r := H
       have A8 := Am A80
       clear A80
       by_cases c9 : x4_1 < (x3_1.length : Int)
       ·rw [if_pos c9] at H
        have c9b0 : decide (x4_1 < (x3_1.length : Int)) = true := decide_eq_true c9
        clear c9
        obtain ⟨y282, hy282⟩ : ∃ y_ : List (S176), y_ = (x3_1.set (x4_1 : Int).toNat (⟨t279, t280, t281⟩ : S176)) := ⟨_, rfl⟩
        replace H : (laws_toItemS.l0 k1 l0 y282 (wrap64 (x4_1 + 1))) = some r := by first | (rw [hy282]; with_reducible exact H) | (have H2_ := (Option.bind_some _ _).symm.trans H; rw [hy282]; with_reducible exact H2_) | (have H2_ := (Option.bind_some _ _).symm.trans H; with_reducible exact H2_) | with_reducible exact H | (rw [hy282]; exact H) | exact H
        have Ny282 := Am hy282
        clear hy282
        have H' := Am H
        clear H
        have p278 : 0 ≤ (x4_1 : Int) := of_decide_eq_true (by first | (with_reducible assumption) | assumption)
        have q278 : x4_1 < (l0.length : Int) := of_decide_eq_true (by first | (with_reducible assumption) | assumption)
        obtain ⟨ad278, e278, hx278_0, hx278_1, hx278_2⟩ := at_T205 HR0.out x4_1 p278 q278
        cases e278
        replace hx278_0 := cl7 HB hx278_0
        replace hx278_1 := cl7 HB hx278_1
        replace hx278_2 := cl7 HB hx278_2
        replace p278 := eq_true p278
        replace q278 := eq_true q278
        go_wp2_with (first | ((with_reducible refine gate_callee (f := 158) rfl ?_); refine zC (some 20) rfl rfl Try.func158 rfl #[.agg #[.string ((rd_T205 l0 x4_1).f0), .bool ((rd_T205 l0 x4_1).f1), .string ((rd_T205 l0 x4_1).f2)]] rfl ?_; (with_reducible refine (laws_toItem.calls ((rd_T205 l0 x4_1).f0) ((rd_T205 l0 x4_1).f1) ((rd_T205 l0 x4_1).f2) t279 t280 t281 _ A8.out).mono ?_); rintro e w11 ⟨rfl, hb⟩; refine ⟨_, rfl, ?_⟩; replace HO_3 := Am (rb (by (with_reducible repeat (first | apply ra | apply rn | apply re)); exact HO_3.out) hb); replace HB := Am (bq zB hb); (try clear hb); have p10 : 0 ≤ (x4_1 : Int) := of_decide_eq_true (by first | (with_reducible assumption) | assumption); have q10 : (x4_1 : Int) < ((x3_1.length : Int) : Int) := of_decide_eq_true (by first | (with_reducible assumption) | assumption); obtain ⟨go10, co10, eo10, gb10, gl10, cl10, HG10⟩ := Kd.R_form HO_3.out (by omega); (first | cases eo10 | (injection eo10 with ea_ en_ ec_; (first | subst ea_ | (injection ea_ with ea_; subst ea_)); subst ec_; clear en_)); have GB10 := Am gb10; have GG10 := Am HG10; clear gb10 gl10 HG10; obtain ⟨ce10, hcl10, hM10, hcc10, hfr10⟩ := Kd.R_elem HO_3.out z176 (x4_1 : Int) p10 q10; obtain rfl := k176_openM hM10; have hx10_0 : w11.cell? ⟨go10, (x4_1 : Int).toNat * 3, none⟩ = some (.string ((rd_T176 x3_1 x4_1).f0)) := hcc10 0 _ rfl; have hx10_1 : w11.cell? ⟨go10, (x4_1 : Int).toNat * 3 + 1, none⟩ = some (.bool ((rd_T176 x3_1 x4_1).f1)) := hcc10 1 _ rfl; have hx10_2 : w11.cell? ⟨go10, (x4_1 : Int).toNat * 3 + 2, none⟩ = some (.string ((rd_T176 x3_1 x4_1).f2)) := hcc10 2 _ rfl; have hf10_0 : w11.frozen? ⟨go10, (x4_1 : Int).toNat * 3, none⟩ = false := hfr10 0; have hf10_1 : w11.frozen? ⟨go10, (x4_1 : Int).toNat * 3 + 1, none⟩ = false := hfr10 1; have hf10_2 : w11.frozen? ⟨go10, (x4_1 : Int).toNat * 3 + 2, none⟩ = false := hfr10 2; clear hcl10 hcc10 hfr10 hM10; replace p10 := eq_true p10; replace q10 := eq_true q10; have HX12 := Am (show Kd.R k176 176 w11 w.heap.size (fun _ => True) (.slice (some ⟨go10, 0, none⟩) x3_1.length co10) x3_1 from (by (with_reducible repeat (first | apply ra | apply rn | apply re)); exact HO_3.out)); obtain ⟨ce12, hcl12, hM12, hcc12, hfr12⟩ := Kd.R_elem HX12.out z176 (x4_1 : Int) (of_decide_eq_true (by first | (with_reducible assumption) | assumption)) (by have h_ : (x4_1 : Int) < ((x3_1.length : Int) : Int) := of_decide_eq_true (by first | (with_reducible assumption) | assumption); first | exact h_ | (have e_ := (Kd.R_reads' HO_3.out).1; omega) | simpa using h_); obtain rfl := k176_openM hM12; have HP12 := Kd.R_seg HX12.out (x4_1 : Int) (of_decide_eq_true (by first | (with_reducible assumption) | assumption)) (by have h_ : (x4_1 : Int) < ((x3_1.length : Int) : Int) := of_decide_eq_true (by first | (with_reducible assumption) | assumption); first | exact h_ | (have e_ := (Kd.R_reads' HO_3.out).1; omega) | simpa using h_) (seg := [.string t279, .bool t280, .string t281]) (j := 0) hcl12 hcc12 (show 3 ≤ 3 from by decide) (x' := (⟨t279, t280, t281⟩ : S176)) (k176_mkM _ _ _ (⟨t279, t280, t281⟩ : S176) ) (fun _ hk => hk); have hx12_0 := hcc12 0 _ rfl; (try simp only [show (k176).sz = 3 from rfl, Nat.mul_one, Nat.add_zero] at hx12_0); have hf12_0 := hfr12 0; (try simp only [show (k176).sz = 3 from rfl, Nat.mul_one, Nat.add_zero] at hf12_0); have hx12_1 := hcc12 1 _ rfl; (try simp only [show (k176).sz = 3 from rfl, Nat.mul_one, Nat.add_zero] at hx12_1); have hf12_1 := hfr12 1; (try simp only [show (k176).sz = 3 from rfl, Nat.mul_one, Nat.add_zero] at hf12_1); have hx12_2 := hcc12 2 _ rfl; (try simp only [show (k176).sz = 3 from rfl, Nat.mul_one, Nat.add_zero] at hx12_2); have hf12_2 := hfr12 2; (try simp only [show (k176).sz = 3 from rfl, Nat.mul_one, Nat.add_zero] at hf12_2); clear hcl12 hcc12 hfr12 hM12) | ((with_reducible refine gate_store (t := 176) (p := 21) rfl ?_); refine store_event (t := 176) (p := 21) (v := ?vo_w13) (w1 := (((w11.setCell ⟨go10, (x4_1 : Int).toNat * 3, none⟩ (.string t279)).setCell ⟨go10, (x4_1 : Int).toNat * 3 + 1, none⟩ (.bool t280)).setCell ⟨go10, (x4_1 : Int).toNat * 3 + 2, none⟩ (.string t281))) ?hg ?ho ?hn ?hr ?_; (case ho => rfl); (case hg => rfl); (case hn => rfl); (case hr => first | (go_simp; done) | (go_simp; rfl)); intro w13 hw; have hg : w11.grownBy w13 (some go10) := (by rw [hw]; exact HP12.2); have hp_ : Kd.R k176 176 w13 w.heap.size (fun _ => True) (.slice (some ⟨go10, 0, none⟩) x3_1.length co10) y282 := (by rw [hw, Ny282.out]; exact HP12.1); clear HP12; replace HO_3 := Am (hp_); replace HB := Am ((by rw [hw]; exact bs (bs (bs (HB.out) GB10.out) GB10.out) GB10.out : Below w.heap.size w w13)); clear hg hw hp_))
        go_roundg k1
        case measure => have := HK1.out; omega
        case rel => exact ⟨(y282), (wrap64 (x4_1 + 1)), (by first | rfl | (simp; done) | (simp [*]; done)), H', ⟨by have := HK1.out; omega⟩, ⟨by (with_reducible repeat (first | apply ra | apply rn | apply re)); exact HO_3.out⟩, ⟨zB⟩⟩
       ·rw [if_neg c9] at H
        exact absurd H (by simp)
      ·rw [if_neg c7] at H
       exact absurd H (by simp)
     ·rw [if_neg c6] at H
      have c6b0 : decide (x4_1 < (l0.length : Int)) = false := decide_eq_false c6
      clear c6
      obtain rfl := Option.some.inj H
      go_wp2
      go_ret
      exact ⟨_, zR, by (with_reducible repeat (first | apply ra | apply rn | apply re)); exact HO_3.out, zB⟩
  ·rw [if_neg c3] at H
   exact absurd H (by simp)
 ·rw [if_neg c2] at H
  exact absurd H (by simp)

/-! ### laws_toView: function 122 -/
def laws_toView.f (k : Nat) (l0_0 : List (S205)) : Option ((List (S176))) := (laws_toItemS.f k l0_0).bind fun t286 => (some t286)
theorem laws_toView.mono : ∀ a0 k, LeO (laws_toView.f k a0) (laws_toView.f (k + 1) a0) := by
 intro a0 k
 unfold laws_toView.f
 repeat' first
   | (with_reducible exact laws_toItemS.mono _ _)
   | (with_reducible exact LeO.refl _)
   | (with_reducible exact LeO.none _)
   | (with_reducible refine LeO.ite ?_ ?_)
   | (with_reducible refine LeO.bind ?_ (fun _ => ?_))
   | exact laws_toItemS.mono _ _
   | exact LeO.none _
   | refine LeO.ite ?_ ?_
   | refine LeO.bind ?_ (fun _ => ?_)
set_option maxHeartbeats 8000000 in
set_option maxRecDepth 100000 in
theorem laws_toView.calls (k : Nat) (A0_0 : Option Addr) (c0_0 : Nat) (l0_0 : List (S205)) (r : List (S176)) (w : World) (hr0_0 : Kd.C k205 w A0_0 l0_0.length l0_0) (hc0_0 : l0_0.length ≤ c0_0) (h : laws_toView.f k l0_0 = some r) :
  Calls Try.prog 122 #[.agg #[.slice A0_0 l0_0.length c0_0]] w fun e w' => ∃ v0_ : Value, e = .returned (.agg #[v0_]) ∧ Kd.R k176 176 w' w.heap.size (fun _ => True) v0_ r ∧ Below w.heap.size w w' := by
 have hu174 := Try.underlying174
 have hu117 := Try.underlying117
 have HR0_0 := Am hr0_0
 have HC0_0 := Am hc0_0
 clear hr0_0 hc0_0
 have HB := Am (Below.refl w.heap.size w)
 have H : ((laws_toItemS.f k l0_0).bind fun t286 => (some t286)) = some r := h
 clear h
 replace H := Option.bind_eq_some_iff.mp H
 obtain ⟨t286, A20, H⟩ := H
 replace H : (some t286) = some r := H
 have A2 := Am A20
 clear A20
 obtain rfl := Option.some.inj H
 go_enter Try.func122, Try.ntmps122
 go_wp2_with (first | ((with_reducible refine gate_dst (N := 1) rfl ?_); refine box_event ?hg (N := 1) ?hd (cs := #[.slice A0_0 l0_0.length c0_0]) (t := 174) ?hr ?_; (case hd => rfl); (case hg => rfl); (case hr => first | (go_simp; done) | (go_simp; rfl)); intro gb283 hg w3 hbox hb; have BK283 := Am (hbox); have GW283 := Am ((by rw [hg]; exact (bz zB) : w.heap.size ≤ gb283)); have GE283 := Am ((by rw [hg]; exact (bz zB) : w.heap.size ≤ gb283)); replace HB := Am (bq zB hb); clear hb hbox hg) | ((with_reducible refine gate_dst (N := 2) rfl ?_); refine box_event ?hg (N := 2) ?hd (cs := #[.slice none 0 0]) (t := 117) ?hr ?_; (case hd => rfl); (case hg => rfl); (case hr => first | (go_simp; done) | (go_simp; rfl)); intro gb284 hg w4 hbox hb; have n0_ := Am (zK BK283 hb); have n1_ := Am (bq zG hb); have n2_ := Am (hbox); have n3_ := Am ((by rw [hg]; exact (bz zG) : w.heap.size ≤ gb284)); have n4_ := Am ((by rw [hg]; exact (bz zG) : w.heap.size ≤ gb284)); have n5_ := Am ((by rw [hg]; exact Nat.ne_of_lt (zL BK283) : gb283 ≠ gb284)); have n6_ := Am ((by rw [hg]; exact Nat.ne_of_gt (zL BK283) : gb284 ≠ gb283)); clear BK283; clear HB; have BK283 := n0_; have HB := n1_; have BK284 := n2_; have GW284 := n3_; have GE284 := n4_; have NB283_284 := n5_; have NB284_283 := n6_; clear n0_ n1_ n2_ n3_ n4_ n5_ n6_; clear hb hbox hg) | ((with_reducible refine gate_dst (N := 3) rfl ?_); refine box_event ?hg (N := 3) ?hd (cs := #[.slice none 0 0]) (t := 117) ?hr ?_; (case hd => rfl); (case hg => rfl); (case hr => first | (go_simp; done) | (go_simp; rfl)); intro gb285 hg w5 hbox hb; have n0_ := Am (zK BK283 hb); have n1_ := Am (zK BK284 hb); have n2_ := Am (bq zG hb); have n3_ := Am (hbox); have n4_ := Am ((by rw [hg]; exact (bz zG) : w.heap.size ≤ gb285)); have n5_ := Am ((by rw [hg]; exact (bz zG) : w.heap.size ≤ gb285)); have n6_ := Am ((by rw [hg]; exact Nat.ne_of_lt (zL BK283) : gb283 ≠ gb285)); have n7_ := Am ((by rw [hg]; exact Nat.ne_of_gt (zL BK283) : gb285 ≠ gb283)); have n8_ := Am ((by rw [hg]; exact Nat.ne_of_lt (zL BK284) : gb284 ≠ gb285)); have n9_ := Am ((by rw [hg]; exact Nat.ne_of_gt (zL BK284) : gb285 ≠ gb284)); clear BK283; clear BK284; clear HB; have BK283 := n0_; have BK284 := n1_; have HB := n2_; have BK285 := n3_; have GW285 := n4_; have GE285 := n5_; have NB283_285 := n6_; have NB285_283 := n7_; have NB284_285 := n8_; have NB285_284 := n9_; clear n0_ n1_ n2_ n3_ n4_ n5_ n6_ n7_ n8_ n9_; clear hb hbox hg; have hnb6 := NB283_284.out; have hnc6 := NB284_283.out; have hnb7 := NB283_285.out; have hnc7 := NB285_283.out; have hcz8_0 : w5.cell? ⟨gb283, 0, none⟩ = some (.slice A0_0 l0_0.length c0_0) := (kc BK283.out 0).trans rfl; have hfz8_0 := kf BK283.out) | ((with_reducible refine gate_callee (f := 148) rfl ?_); refine zC (some 6) rfl rfl Try.func148 rfl #[.slice A0_0 l0_0.length c0_0] rfl ?_; (with_reducible refine (laws_toItemS.calls k _ _ l0_0 t286 _ ?side1 ?side2 A2.out).mono ?_); (case side1 => repeat (first | exact (cb HR0_0.out HB.out) | (with_reducible first | refine ca ?_ _ | refine cn ?_ _ | refine ce ?_))); (case side2 => exact HC0_0.out); rintro e w9 ⟨v287, rfl, ho0, hb⟩; refine ⟨_, rfl, ?_⟩; have n0_ := Am (Kd.R_lower ho0 (bz zG)); have n1_ := Am (zK BK283 hb); have n2_ := Am (zK BK284 hb); have n3_ := Am (zK BK285 hb); have n4_ := Am (bq zG hb); clear BK283; clear BK284; clear BK285; clear HB; have HO288 := n0_; have BK283 := n1_; have BK284 := n2_; have BK285 := n3_; have HB := n4_; clear n0_ n1_ n2_ n3_ n4_; (try clear hb ho0); obtain ⟨Ao10, co10, eo10⟩ := Kd.R_slice HO288.out; subst eo10; have hnb11 := NB285_284.out; have hnc11 := NB284_285.out; have hcz12_0 : w9.cell? ⟨gb285, 0, none⟩ = some (.slice none 0 0) := (kc BK285.out 0).trans rfl; have hfz12_0 := kf BK285.out; have hcz13_0 : w9.cell? ⟨gb284, 0, none⟩ = some (.slice none 0 0) := (kc BK284.out 0).trans rfl; have hfz13_0 := kf BK284.out))
 refine bodyPost_ret (results_cell_row rfl _ _ gb284 117 #[.slice Ao10 t286.length co10] (0, 0) _ rfl (by (with_reducible repeat (first | refine kn ?_ _ | refine ke ?_ | refine ka ?_ _)); refine kp (cs := #[.slice none 0 0]) ?_ 0 _ rfl; (with_reducible repeat (first | refine kn ?_ _ | refine ke ?_ | refine ka ?_ _)); refine blk_far ?_ NB284_285.out _; (with_reducible repeat (first | refine kn ?_ _ | refine ke ?_ | refine ka ?_ _)); exact BK284.out) Try.underlying117 rfl (by kernel_rfl)) rfl ?_
 exact ⟨_, zR, by (with_reducible repeat (first | apply ra | apply rn | apply re)); exact Kd.R_mono (Kd.R_far (p := ⟨gb284, 0, none⟩) (Kd.R_far (p := ⟨gb285, 0, none⟩) (Kd.R_types (Kd.R_types HO288.out BK285.out (by decide)) BK284.out (by decide)) (fun _ hk => hk.1.2) (.slice Ao10 t286.length co10)) (fun _ hk => hk.2) (.slice Ao10 t286.length co10)) (fun _ hk => trivial), zG⟩

/-! ### laws_toViewS: function 74 -/
def laws_toViewS.l0 : Nat → List (S174) → List (S117) → Int → Option ((List (S117)))
 | 0, _, _, _ => none
 | k + 1, x0, x3, x4 => if x4 < (x0.length : Int) then (if 0 ≤ x4 then ((laws_toView.f k ((rd_T174 x0 x4).f0)).bind fun t293 => (if x4 < (x3.length : Int) then (laws_toViewS.l0 k x0 (x3.set (x4 : Int).toNat (⟨t293⟩ : S117)) (wrap64 (x4 + 1))) else (none))) else (none)) else (some x3)
def laws_toViewS.f (k : Nat) (l0 : List (S174)) : Option ((List (S117))) := if 0 ≤ (l0.length : Int) then (if ((l0.length : Int) : Int).toNat ≤ 11728124029610 then (laws_toViewS.l0 k l0 (List.replicate ((l0.length : Int) : Int).toNat z117) 0) else (none)) else (none)
theorem laws_toViewS.mono_l : ∀ k, (∀ y0 y1 y2, LeO (laws_toViewS.l0 k y0 y1 y2) (laws_toViewS.l0 (k + 1) y0 y1 y2))
 | 0 => fun _ _ _ r h => by simp [laws_toViewS.l0] at h
 | k + 1 => by
  have ih0 := laws_toViewS.mono_l k
  ·intro y0 y1 y2
   unfold laws_toViewS.l0
   repeat' first
   | (with_reducible exact ih0 _ _ _)
   | (with_reducible exact laws_toView.mono _ _)
   | (with_reducible exact LeO.refl _)
   | (with_reducible exact LeO.none _)
   | (with_reducible refine LeO.ite ?_ ?_)
   | (with_reducible refine LeO.bind ?_ (fun _ => ?_))
   | exact ih0 _ _ _
   | exact laws_toView.mono _ _
   | exact LeO.none _
   | refine LeO.ite ?_ ?_
   | refine LeO.bind ?_ (fun _ => ?_)
theorem laws_toViewS.mono : ∀ a0 k, LeO (laws_toViewS.f k a0) (laws_toViewS.f (k + 1) a0) := by
 intro a0 k
 have ih0 := laws_toViewS.mono_l k
 unfold laws_toViewS.f
 repeat' first
   | (with_reducible exact ih0 _ _ _)
   | (with_reducible exact laws_toView.mono _ _)
   | (with_reducible exact LeO.refl _)
   | (with_reducible exact LeO.none _)
   | (with_reducible refine LeO.ite ?_ ?_)
   | (with_reducible refine LeO.bind ?_ (fun _ => ?_))
   | exact ih0 _ _ _
   | exact laws_toView.mono _ _
   | exact LeO.none _
   | refine LeO.ite ?_ ?_
   | refine LeO.bind ?_ (fun _ => ?_)
set_option maxHeartbeats 8000000 in
set_option maxRecDepth 100000 in
theorem laws_toViewS.calls (k : Nat) (A0 : Option Addr) (c0 : Nat) (l0 : List (S174)) (r : List (S117)) (w : World) (hr0 : Kd.C k174 w A0 l0.length l0) (hc0 : l0.length ≤ c0) (h : laws_toViewS.f k l0 = some r) :
  Calls Try.prog 74 #[.slice A0 l0.length c0] w fun e w' => ∃ v0_ : Value, e = .returned (v0_) ∧ Kd.S k117 117 w' w.heap.size (fun _ => True) v0_ r ∧ Below w.heap.size w w' := by
 have hu174 := Try.underlying174
 have hu117 := Try.underlying117
 have HR0 := Am hr0
 have HC0 := Am hc0
 clear hr0 hc0
 have HB := Am (Below.refl w.heap.size w)
 have H : (if 0 ≤ (l0.length : Int) then (if ((l0.length : Int) : Int).toNat ≤ 11728124029610 then (laws_toViewS.l0 k l0 (List.replicate ((l0.length : Int) : Int).toNat z117) 0) else (none)) else (none)) = some r := h
 clear h
 by_cases c2 : 0 ≤ (l0.length : Int)
 ·rw [if_pos c2] at H
  have c2b0 := eq_true c2
  have c2b1 : decide (0 ≤ (l0.length : Int)) = true := decide_eq_true c2
  clear c2
  by_cases c3 : ((l0.length : Int) : Int).toNat ≤ 11728124029610
  ·rw [if_pos c3] at H
   have c3b0 := eq_true c3
   have c3b1 : decide (((l0.length : Int) : Int).toNat ≤ 11728124029610) = true := decide_eq_true c3
   clear c3
   obtain ⟨y289, hy289⟩ : ∃ y_ : List (S117), y_ = (List.replicate ((l0.length : Int) : Int).toNat z117) := ⟨_, rfl⟩
   replace H : (laws_toViewS.l0 k l0 y289 0) = some r := by first | (rw [hy289]; with_reducible exact H) | (have H2_ := (Option.bind_some _ _).symm.trans H; rw [hy289]; with_reducible exact H2_) | (have H2_ := (Option.bind_some _ _).symm.trans H; with_reducible exact H2_) | with_reducible exact H | (rw [hy289]; exact H) | exact H
   have Ny289 := Am hy289
   clear hy289
   have H' := Am H
   clear H
   go_enter Try.func74, Try.ntmps74
   go_wp2_with (first | ((with_reducible refine gate_dst (N := 7) rfl ?_); refine Kd.S_make k117 _ 117 rfl (N := 7) rfl 55 _ _ rfl (l0.length : Int) rfl rfl Try.underlying55 (.agg #[(.slice none 0 0)]) 24 info117 rfl (by decide) (by omega) z117 (ok := fun _ => True) (okp := fun _ => True) (k117_mkM _ _ _ z117 (Kd.R_nil _ _ _ _ _)) (fun _ hk => hk) trivial (of_decide_eq_true (by first | (with_reducible assumption) | assumption)) (Nat.le_trans (Nat.mul_le_mul_right _ (of_decide_eq_true (by first | (with_reducible assumption) | assumption) : (l0.length : Int).toNat ≤ 11728124029610)) (by omega)) (Below.refl _ _) (Nat.le_refl _) ?_; intro v290 w4 ho5 hb hg_ hnew_; clear hg_ hnew_; (first | rw [← Ny289.out] at ho5 | (simp only [Int.reduceToNat] at ho5; rw [← Ny289.out] at ho5)); have HO291 := Am (Kd.S_lower ho5 (bz zB)); replace HB := Am (bq zB hb); clear hb ho5))
   go_loopg [4] k (fun kq v4 w' => ∃ (x3_1 : List (S117)) (x4_1 : Int), v4 = .int .i64 x4_1 ∧ Aside0 (laws_toViewS.l0 kq l0 x3_1 x4_1 = some r) ∧ Aside0 (kq ≤ k) ∧ Aside0 (Kd.S k117 117 w' w.heap.size (fun _ => True) v290 x3_1) ∧ Aside0 (Below w.heap.size w w'))
   case atStart => exact ⟨(y289), (0), (by first | rfl | (simp; done) | (simp [*]; done)), H', ⟨Nat.le_refl _⟩, ⟨by (with_reducible repeat (first | apply sa | apply sn | apply se)); exact HO291.out⟩, ⟨zB⟩⟩
   case round =>
    clear H'
    try clear c2; try clear c2b0; try clear c2b1; try clear p2; try clear c3; try clear c3b0; try clear c3b1
    obtain ⟨x3_1, x4_1, rfl, HA, HK1, HO_3, HB⟩ := hrel
    cases gk with
    | zero => exact absurd HA.out (by simp [laws_toViewS.l0])
    | succ k1 =>
     have H := HA.out
     clear HA
     simp only [laws_toViewS.l0] at H
     by_cases c6 : x4_1 < (l0.length : Int)
     ·rw [if_pos c6] at H
      have c6b0 : decide (x4_1 < (l0.length : Int)) = true := decide_eq_true c6
      clear c6
      by_cases c7 : 0 ≤ x4_1
      ·rw [if_pos c7] at H
       have c7b0 : decide (0 ≤ x4_1) = true := decide_eq_true c7
       clear c7
       replace H := Option.bind_eq_some_iff.mp H
       obtain ⟨t293, A80, H⟩ := H
       replace H : (if x4_1 < (x3_1.length : Int) then (laws_toViewS.l0 k1 l0 (x3_1.set (x4_1 : Int).toNat (⟨t293⟩ : S117)) (wrap64 (x4_1 + 1))) else (none)) = some r := H
       have A8 := Am A80
       clear A80
       by_cases c9 : x4_1 < (x3_1.length : Int)
       ·rw [if_pos c9] at H
        have c9b0 : decide (x4_1 < (x3_1.length : Int)) = true := decide_eq_true c9
        clear c9
        obtain ⟨y296, hy296⟩ : ∃ y_ : List (S117), y_ = (x3_1.set (x4_1 : Int).toNat (⟨t293⟩ : S117)) := ⟨_, rfl⟩
        replace H : (laws_toViewS.l0 k1 l0 y296 (wrap64 (x4_1 + 1))) = some r := by first | (rw [hy296]; with_reducible exact H) | (have H2_ := (Option.bind_some _ _).symm.trans H; rw [hy296]; with_reducible exact H2_) | (have H2_ := (Option.bind_some _ _).symm.trans H; with_reducible exact H2_) | with_reducible exact H | (rw [hy296]; exact H) | exact H
        have Ny296 := Am hy296
        clear hy296
        have H' := Am H
        clear H
        have p292 : 0 ≤ (x4_1 : Int) := of_decide_eq_true (by first | (with_reducible assumption) | assumption)
        have q292 : x4_1 < (l0.length : Int) := of_decide_eq_true (by first | (with_reducible assumption) | assumption)
        obtain ⟨ad292, A292_0, c292_0, e292, hx292_0, hl292_0, hi292_0⟩ := at_T174 HR0.out x4_1 p292 q292
        cases e292
        replace hx292_0 := cl7 HB hx292_0
        have HR292_0 := Am hi292_0
        have HC292_0 := Am hl292_0
        clear hi292_0 hl292_0
        replace p292 := eq_true p292
        replace q292 := eq_true q292
        go_wp2_with (first | ((with_reducible refine gate_callee (f := 122) rfl ?_); refine zC (some 20) rfl rfl Try.func122 rfl #[.agg #[.slice A292_0 ((rd_T174 l0 x4_1).f0).length c292_0]] rfl ?_; (with_reducible refine (laws_toView.calls k1 _ _ ((rd_T174 l0 x4_1).f0) t293 _ ?side1 ?side2 A8.out).mono ?_); (case side1 => repeat (first | exact (cb HR292_0.out HB.out) | (with_reducible first | refine ca ?_ _ | refine cn ?_ _ | refine ce ?_))); (case side2 => exact HC292_0.out); rintro e w11 ⟨v294, rfl, ho0, hb⟩; refine ⟨_, rfl, ?_⟩; replace HO_3 := Am (Kd.S_elder' (by (with_reducible repeat (first | apply sa | apply sn | apply se)); exact HO_3.out) (Kd.R_base ho0) hb); have HO295 := Am (Kd.R_lower ho0 (bz zB)); replace HB := Am (bq zB hb); (try clear hb ho0); have p10 : 0 ≤ (x4_1 : Int) := of_decide_eq_true (by first | (with_reducible assumption) | assumption); have q10 : (x4_1 : Int) < ((x3_1.length : Int) : Int) := of_decide_eq_true (by first | (with_reducible assumption) | assumption); obtain ⟨go10, co10, eo10, gb10, gl10, cl10, HG10⟩ := Kd.S_form HO_3.out (by omega); (first | cases eo10 | (injection eo10 with ea_ en_ ec_; (first | subst ea_ | (injection ea_ with ea_; subst ea_)); subst ec_; clear en_)); have GB10 := Am gb10; have GG10 := Am HG10; clear gb10 gl10 HG10; obtain ⟨_, ce10, hcl10, hM10, hcc10, hfr10, _, _⟩ := Kd.S_elem HO_3.out z117 (x4_1 : Int) p10 q10; obtain ⟨ve10_0, rfl, ge10_0⟩ := k117_openM hM10; have hx10_0 := hcc10 0 _ rfl; have hf10_0 := hfr10 0; (try simp only [show (k117).sz = 1 from rfl, Nat.mul_one, Nat.add_zero] at hx10_0); (try simp only [show (k117).sz = 1 from rfl, Nat.mul_one, Nat.add_zero] at hf10_0); clear hcl10 hcc10 hfr10 hM10; replace p10 := eq_true p10; replace q10 := eq_true q10; have n_ := Am (Kd.S_mono (ok' := (fun k_ => some k_ ≠ (v294 : Value).ownBlock)) HO_3.out (fun k_ hk => hk.2)); clear HO_3; have HO_3 := n_; clear n_; have HX12 := Am (show Kd.S k117 117 w11 w.heap.size (fun k_ => ((fun _ => True)) k_ ∧ ¬ ((fun k_ => some k_ = (v294 : Value).ownBlock)) k_) (.slice (some ⟨go10, 0, none⟩) x3_1.length co10) x3_1 from (by (with_reducible repeat (first | apply sa | apply sn | apply se)); exact Kd.S_mono HO_3.out (fun k_ hk => ⟨trivial, fun e_ => hk e_⟩))); obtain ⟨oki12, ce12, hcl12, hM12, hcc12, hfr12, hoki12, hH12⟩ := Kd.S_elem HX12.out z117 (x4_1 : Int) (of_decide_eq_true (by first | (with_reducible assumption) | assumption)) (by have h_ : (x4_1 : Int) < ((x3_1.length : Int) : Int) := of_decide_eq_true (by first | (with_reducible assumption) | assumption); first | exact h_ | (have e_ := (Kd.S_reads' HO_3.out).1; omega) | simpa using h_); obtain ⟨ve12_0, rfl, ge12_0⟩ := k117_openM hM12; have HP12 := Kd.S_seg hH12 (of_decide_eq_true (by first | (with_reducible assumption) | assumption)) (by have h_ : (x4_1 : Int) < ((x3_1.length : Int) : Int) := of_decide_eq_true (by first | (with_reducible assumption) | assumption); first | exact h_ | (have e_ := (Kd.S_reads' HO_3.out).1; omega) | simpa using h_) (seg := [v294]) (j := 0) (show 1 ≤ 1 from by decide) (x' := (⟨t293⟩ : S117)) (k117_mkM _ _ _ (⟨t293⟩ : S117) (Kd.R_mono (Kd.R_tight rfl (Kd.R_mono (ok' := fun k_ => ((fun _ => True)) k_ ∧ k_ ≠ go10) (Kd.R_apart' (HO295.out) (Kd.S_typed HO_3.out) (by decide)) (fun k_ hk => ⟨trivial, fun e_ => (hk.2) (by rw [e_]; rfl)⟩))) (fun _ h_ => Or.inr (h_)))) (fun _ hk => hk) (fun k_ hk_ => ((Kd.R_mono (ok' := fun k_ => ((fun _ => True)) k_ ∧ k_ ≠ go10) (Kd.R_apart' (HO295.out) (Kd.S_typed HO_3.out) (by decide)) (fun k_ hk => ⟨trivial, fun e_ => (hk.2) (by rw [e_]; rfl)⟩))).1 k_ hk_.symm); have hx12_0 := hcc12 0 _ rfl; (try simp only [show (k117).sz = 1 from rfl, Nat.mul_one, Nat.add_zero] at hx12_0); have hf12_0 := hfr12 0; (try simp only [show (k117).sz = 1 from rfl, Nat.mul_one, Nat.add_zero] at hf12_0); clear hcl12 hcc12 hfr12 hM12 hoki12 hH12; (try simp only [show (k117).sz = 1 from rfl, Nat.mul_one, Nat.add_zero] at HP12)) | ((with_reducible refine gate_store (t := 117) (p := 21) rfl ?_); refine store_event (t := 117) (p := 21) (v := ?vo_w13) (w1 := (w11.setCell ⟨go10, (x4_1 : Int).toNat, none⟩ (v294))) ?hg ?ho ?hn ?hr ?_; (case ho => rfl); (case hg => rfl); (case hn => rfl); (case hr => (try (obtain ⟨_, _, rfl⟩ := Kd.R_slice HO295.out)); first | (go_simp; done) | (go_simp; rfl)); intro w13 hw; have hg : w11.grownBy w13 (some go10) := (by rw [hw]; exact HP12.2); have hp_ : Kd.S k117 117 w13 w.heap.size (fun _ => True) (.slice (some ⟨go10, 0, none⟩) x3_1.length co10) y296 := (by rw [hw, Ny296.out]; exact HP12.1); clear HP12; have n0_ := Am (hp_); have n1_ := Am ((by rw [hw]; exact bs (HB.out) GB10.out : Below w.heap.size w w13)); clear HO_3; clear HB; clear HO295; have HO_3 := n0_; have HB := n1_; clear n0_ n1_; clear hg hw hp_))
        go_roundg k1
        case measure => have := HK1.out; omega
        case rel => exact ⟨(y296), (wrap64 (x4_1 + 1)), (by first | rfl | (simp; done) | (simp [*]; done)), H', ⟨by have := HK1.out; omega⟩, ⟨by (with_reducible repeat (first | apply sa | apply sn | apply se)); exact HO_3.out⟩, ⟨zB⟩⟩
       ·rw [if_neg c9] at H
        exact absurd H (by simp)
      ·rw [if_neg c7] at H
       exact absurd H (by simp)
     ·rw [if_neg c6] at H
      have c6b0 : decide (x4_1 < (l0.length : Int)) = false := decide_eq_false c6
      clear c6
      obtain rfl := Option.some.inj H
      go_wp2
      go_ret
      exact ⟨_, zR, by (with_reducible repeat (first | apply sa | apply sn | apply se)); exact HO_3.out, zB⟩
  ·rw [if_neg c3] at H
   exact absurd H (by simp)
 ·rw [if_neg c2] at H
  exact absurd H (by simp)

/-! ### laws_toWorld: function 23 -/
def laws_toWorld.f (k : Nat) (a0_0 : Int) (a0_1 : Int) (a0_2 : Int) (a0_3 : Int) (a0_4 : ByteArray) (l0_5 : List (S149)) (l0_6 : List (S161)) (l0_7 : List (S164)) (l0_8 : List (S174)) (l0_9 : List (S174)) (a0_10 : Int) : Option (Int × Int × Int × Int × ByteArray × (List (S155)) × (List (S105)) × (List (S166)) × (List (S117)) × (List (S117)) × Int) := (laws_toSystem.f k a0_0 a0_1 a0_2 a0_3 a0_4 l0_5 l0_6 l0_7).bind fun bt300 => ((laws_toViewS.f k l0_8).bind fun t314 => ((laws_toViewS.f k l0_9).bind fun t317 => (some (bt300.1, bt300.2.1, bt300.2.2.1, bt300.2.2.2.1, bt300.2.2.2.2.1, bt300.2.2.2.2.2.1, bt300.2.2.2.2.2.2.1, bt300.2.2.2.2.2.2.2, t314, t317, a0_10))))
theorem laws_toWorld.mono : ∀ a0 a1 a2 a3 a4 a5 a6 a7 a8 a9 a10 k, LeO (laws_toWorld.f k a0 a1 a2 a3 a4 a5 a6 a7 a8 a9 a10) (laws_toWorld.f (k + 1) a0 a1 a2 a3 a4 a5 a6 a7 a8 a9 a10) := by
 intro a0 a1 a2 a3 a4 a5 a6 a7 a8 a9 a10 k
 unfold laws_toWorld.f
 repeat' first
   | (with_reducible exact laws_toSystem.mono _ _ _ _ _ _ _ _ _)
   | (with_reducible exact laws_toViewS.mono _ _)
   | (with_reducible exact LeO.refl _)
   | (with_reducible exact LeO.none _)
   | (with_reducible refine LeO.ite ?_ ?_)
   | (with_reducible refine LeO.bind ?_ (fun _ => ?_))
   | exact laws_toSystem.mono _ _ _ _ _ _ _ _ _
   | exact laws_toViewS.mono _ _
   | exact LeO.none _
   | refine LeO.ite ?_ ?_
   | refine LeO.bind ?_ (fun _ => ?_)
set_option maxHeartbeats 8000000 in
set_option maxRecDepth 100000 in
theorem laws_toWorld.calls (k : Nat) (a0_0 : Int) (a0_1 : Int) (a0_2 : Int) (a0_3 : Int) (a0_4 : ByteArray) (A0_5 : Option Addr) (c0_5 : Nat) (l0_5 : List (S149)) (A0_6 : Option Addr) (c0_6 : Nat) (l0_6 : List (S161)) (A0_7 : Option Addr) (c0_7 : Nat) (l0_7 : List (S164)) (A0_8 : Option Addr) (c0_8 : Nat) (l0_8 : List (S174)) (A0_9 : Option Addr) (c0_9 : Nat) (l0_9 : List (S174)) (a0_10 : Int) (r1 : Int) (r2 : Int) (r3 : Int) (r4 : Int) (r5 : ByteArray) (r6 : List (S155)) (r7 : List (S105)) (r8 : List (S166)) (r9 : List (S117)) (r10 : List (S117)) (r11 : Int) (w : World) (hr0_5 : Kd.C k149 w A0_5 l0_5.length l0_5) (hc0_5 : l0_5.length ≤ c0_5) (hr0_6 : Kd.C k161 w A0_6 l0_6.length l0_6) (hc0_6 : l0_6.length ≤ c0_6) (hr0_7 : Kd.C k164 w A0_7 l0_7.length l0_7) (hc0_7 : l0_7.length ≤ c0_7) (hr0_8 : Kd.C k174 w A0_8 l0_8.length l0_8) (hc0_8 : l0_8.length ≤ c0_8) (hr0_9 : Kd.C k174 w A0_9 l0_9.length l0_9) (hc0_9 : l0_9.length ≤ c0_9) (h : laws_toWorld.f k a0_0 a0_1 a0_2 a0_3 a0_4 l0_5 l0_6 l0_7 l0_8 l0_9 a0_10 = some (r1, r2, r3, r4, r5, r6, r7, r8, r9, r10, r11)) :
  Calls Try.prog 23 #[.agg #[.int .i64 a0_0, .int .i64 a0_1, .int .i64 a0_2, .int .i64 a0_3, .string a0_4, .slice A0_5 l0_5.length c0_5, .slice A0_6 l0_6.length c0_6, .slice A0_7 l0_7.length c0_7, .slice A0_8 l0_8.length c0_8, .slice A0_9 l0_9.length c0_9, .int .i64 a0_10]] w fun e w' => ∃ v5_ v6_ v7_ v8_ v9_ : Value, e = .returned (.agg #[.int .i64 r1, .int .i64 r2, .int .i64 r3, .int .i64 r4, .string r5, v5_, v6_, v7_, v8_, v9_, .int .i64 r11]) ∧ Kd.R k155 155 w' w.heap.size (fun _ => True) v5_ r6 ∧ Kd.S k105 105 w' w.heap.size (fun k_ => some k_ ≠ (v7_ : Value).ownBlock) v6_ r7 ∧ Kd.R k166 166 w' w.heap.size (fun _ => True) v7_ r8 ∧ Kd.S k117 117 w' w.heap.size (fun k_ => some k_ ≠ (v9_ : Value).ownBlock) v8_ r9 ∧ Kd.S k117 117 w' w.heap.size (fun k_ => some k_ ≠ (v8_ : Value).ownBlock) v9_ r10 ∧ Below w.heap.size w w' := by
 have hu52 := Try.underlying52
 have hu57 := Try.underlying57
 have hu40 := Try.underlying40
 have hu46 := Try.underlying46
 have HR0_5 := Am hr0_5
 have HC0_5 := Am hc0_5
 clear hr0_5 hc0_5
 have HR0_6 := Am hr0_6
 have HC0_6 := Am hc0_6
 clear hr0_6 hc0_6
 have HR0_7 := Am hr0_7
 have HC0_7 := Am hc0_7
 clear hr0_7 hc0_7
 have HR0_8 := Am hr0_8
 have HC0_8 := Am hc0_8
 clear hr0_8 hc0_8
 have HR0_9 := Am hr0_9
 have HC0_9 := Am hc0_9
 clear hr0_9 hc0_9
 have HB := Am (Below.refl w.heap.size w)
 have H : ((laws_toSystem.f k a0_0 a0_1 a0_2 a0_3 a0_4 l0_5 l0_6 l0_7).bind fun bt300 => ((laws_toViewS.f k l0_8).bind fun t314 => ((laws_toViewS.f k l0_9).bind fun t317 => (some (bt300.1, bt300.2.1, bt300.2.2.1, bt300.2.2.2.1, bt300.2.2.2.2.1, bt300.2.2.2.2.2.1, bt300.2.2.2.2.2.2.1, bt300.2.2.2.2.2.2.2, t314, t317, a0_10))))) = some (r1, r2, r3, r4, r5, r6, r7, r8, r9, r10, r11) := h
 clear h
 replace H := Option.bind_eq_some_iff.mp H
 obtain ⟨⟨t300, t301, t302, t303, t304, t305, t308, t311⟩, A20, H⟩ := H
 replace H : ((laws_toViewS.f k l0_8).bind fun t314 => ((laws_toViewS.f k l0_9).bind fun t317 => (some (t300, t301, t302, t303, t304, t305, t308, t311, t314, t317, a0_10)))) = some (r1, r2, r3, r4, r5, r6, r7, r8, r9, r10, r11) := H
 have A2 := Am A20
 clear A20
 replace H := Option.bind_eq_some_iff.mp H
 obtain ⟨t314, A30, H⟩ := H
 replace H : ((laws_toViewS.f k l0_9).bind fun t317 => (some (t300, t301, t302, t303, t304, t305, t308, t311, t314, t317, a0_10))) = some (r1, r2, r3, r4, r5, r6, r7, r8, r9, r10, r11) := H
 have A3 := Am A30
 clear A30
 replace H := Option.bind_eq_some_iff.mp H
 obtain ⟨t317, A40, H⟩ := H
 replace H : (some (t300, t301, t302, t303, t304, t305, t308, t311, t314, t317, a0_10)) = some (r1, r2, r3, r4, r5, r6, r7, r8, r9, r10, r11) := H
 have A4 := Am A40
 clear A40
 simp only [Option.some.injEq, Prod.mk.injEq] at H
 obtain ⟨rfl, rfl, rfl, rfl, rfl, rfl, rfl, rfl, rfl, rfl, rfl⟩ := H
 go_enter Try.func23, Try.ntmps23
 go_wp2_with (first | ((with_reducible refine gate_dst (N := 1) rfl ?_); refine box_event ?hg (N := 1) ?hd (cs := #[.int .i64 a0_0, .int .i64 a0_1, .int .i64 a0_2, .int .i64 a0_3, .string a0_4, .slice A0_5 l0_5.length c0_5, .slice A0_6 l0_6.length c0_6, .slice A0_7 l0_7.length c0_7, .slice A0_8 l0_8.length c0_8, .slice A0_9 l0_9.length c0_9, .int .i64 a0_10]) (t := 52) ?hr ?_; (case hd => rfl); (case hg => rfl); (case hr => first | (go_simp; done) | (go_simp; rfl)); intro gb297 hg w5 hbox hb; have BK297 := Am (hbox); have GW297 := Am ((by rw [hg]; exact (bz zB) : w.heap.size ≤ gb297)); have GE297 := Am ((by rw [hg]; exact (bz zB) : w.heap.size ≤ gb297)); replace HB := Am (bq zB hb); clear hb hbox hg) | ((with_reducible refine gate_dst (N := 2) rfl ?_); refine box_event ?hg (N := 2) ?hd (cs := #[.int .i64 0, .int .i64 0, .int .i64 0, .int .i64 0, .string (⟨#[]⟩ : ByteArray), .slice none 0 0, .slice none 0 0, .slice none 0 0, .slice none 0 0, .slice none 0 0, .int .i64 0]) (t := 57) ?hr ?_; (case hd => rfl); (case hg => rfl); (case hr => first | (go_simp; done) | (go_simp; rfl)); intro gb298 hg w6 hbox hb; have n0_ := Am (zK BK297 hb); have n1_ := Am (bq zG hb); have n2_ := Am (hbox); have n3_ := Am ((by rw [hg]; exact (bz zG) : w.heap.size ≤ gb298)); have n4_ := Am ((by rw [hg]; exact (bz zG) : w.heap.size ≤ gb298)); have n5_ := Am ((by rw [hg]; exact Nat.ne_of_lt (zL BK297) : gb297 ≠ gb298)); have n6_ := Am ((by rw [hg]; exact Nat.ne_of_gt (zL BK297) : gb298 ≠ gb297)); clear BK297; clear HB; have BK297 := n0_; have HB := n1_; have BK298 := n2_; have GW298 := n3_; have GE298 := n4_; have NB297_298 := n5_; have NB298_297 := n6_; clear n0_ n1_ n2_ n3_ n4_ n5_ n6_; clear hb hbox hg) | ((with_reducible refine gate_dst (N := 3) rfl ?_); refine box_event ?hg (N := 3) ?hd (cs := #[.int .i64 0, .int .i64 0, .int .i64 0, .int .i64 0, .string (⟨#[]⟩ : ByteArray), .slice none 0 0, .slice none 0 0, .slice none 0 0, .slice none 0 0, .slice none 0 0, .int .i64 0]) (t := 57) ?hr ?_; (case hd => rfl); (case hg => rfl); (case hr => first | (go_simp; done) | (go_simp; rfl)); intro gb299 hg w7 hbox hb; have n0_ := Am (zK BK297 hb); have n1_ := Am (zK BK298 hb); have n2_ := Am (bq zG hb); have n3_ := Am (hbox); have n4_ := Am ((by rw [hg]; exact (bz zG) : w.heap.size ≤ gb299)); have n5_ := Am ((by rw [hg]; exact (bz zG) : w.heap.size ≤ gb299)); have n6_ := Am ((by rw [hg]; exact Nat.ne_of_lt (zL BK297) : gb297 ≠ gb299)); have n7_ := Am ((by rw [hg]; exact Nat.ne_of_gt (zL BK297) : gb299 ≠ gb297)); have n8_ := Am ((by rw [hg]; exact Nat.ne_of_lt (zL BK298) : gb298 ≠ gb299)); have n9_ := Am ((by rw [hg]; exact Nat.ne_of_gt (zL BK298) : gb299 ≠ gb298)); clear BK297; clear BK298; clear HB; have BK297 := n0_; have BK298 := n1_; have HB := n2_; have BK299 := n3_; have GW299 := n4_; have GE299 := n5_; have NB297_299 := n6_; have NB299_297 := n7_; have NB298_299 := n8_; have NB299_298 := n9_; clear n0_ n1_ n2_ n3_ n4_ n5_ n6_ n7_ n8_ n9_; clear hb hbox hg; have hnb8 := NB297_298.out; have hnc8 := NB298_297.out; have hnb9 := NB297_299.out; have hnc9 := NB299_297.out; obtain ⟨hcz10_0, hcz10_1, hcz10_2, hcz10_3, hcz10_4, hcz10_5, hcz10_6, hcz10_7, hcz10_8, hcz10_9, hcz10_10⟩ := kc11 (w := w7) BK297.out; have hfz10_0 := kf BK297.out) | ((with_reducible refine gate_callee (f := 18) rfl ?_); refine zC (some 6) rfl rfl Try.func18 rfl #[.agg #[.int .i64 a0_0, .int .i64 a0_1, .int .i64 a0_2, .int .i64 a0_3, .string a0_4, .slice A0_5 l0_5.length c0_5, .slice A0_6 l0_6.length c0_6, .slice A0_7 l0_7.length c0_7]] rfl ?_; (with_reducible refine (laws_toSystem.calls k a0_0 a0_1 a0_2 a0_3 a0_4 _ _ l0_5 _ _ l0_6 _ _ l0_7 t300 t301 t302 t303 t304 t305 t308 t311 _ ?side1 ?side2 ?side3 ?side4 ?side5 ?side6 A2.out).mono ?_); (case side1 => repeat (first | exact (cb HR0_5.out HB.out) | (with_reducible first | refine ca ?_ _ | refine cn ?_ _ | refine ce ?_))); (case side2 => exact HC0_5.out); (case side3 => repeat (first | exact (cb HR0_6.out HB.out) | (with_reducible first | refine ca ?_ _ | refine cn ?_ _ | refine ce ?_))); (case side4 => exact HC0_6.out); (case side5 => repeat (first | exact (cb HR0_7.out HB.out) | (with_reducible first | refine ca ?_ _ | refine cn ?_ _ | refine ce ?_))); (case side6 => exact HC0_7.out); rintro e w11 ⟨v306, v309, v312, rfl, ho0, ho1, ho2, hb⟩; refine ⟨_, rfl, ?_⟩; have n0_ := Am (Kd.R_lower ho0 (bz zG)); have n1_ := Am (Kd.S_lower ho1 (bz zG)); have n2_ := Am (Kd.R_lower ho2 (bz zG)); have n3_ := Am (zK BK297 hb); have n4_ := Am (zK BK298 hb); have n5_ := Am (zK BK299 hb); have n6_ := Am (bq zG hb); clear BK297; clear BK298; clear BK299; clear HB; have HO307 := n0_; have HO310 := n1_; have HO313 := n2_; have BK297 := n3_; have BK298 := n4_; have BK299 := n5_; have HB := n6_; clear n0_ n1_ n2_ n3_ n4_ n5_ n6_; (try clear hb ho0 ho1 ho2); have hnb12 := NB299_298.out; have hnc12 := NB298_299.out; obtain ⟨hcz13_0, hcz13_1, hcz13_2, hcz13_3, hcz13_4, hcz13_5, hcz13_6, hcz13_7, hcz13_8, hcz13_9, hcz13_10⟩ := kc11 (w := w11) BK299.out; have hfz13_0 := kf BK299.out; obtain ⟨Ao14, co14, eo14⟩ := Kd.R_slice HO307.out; subst eo14; obtain ⟨Ao15, co15, eo15⟩ := Kd.S_slice HO310.out; subst eo15; obtain ⟨Ao16, co16, eo16⟩ := Kd.R_slice HO313.out; subst eo16; obtain ⟨hcz17_0, hcz17_1, hcz17_2, hcz17_3, hcz17_4, hcz17_5, hcz17_6, hcz17_7, hcz17_8, hcz17_9, hcz17_10⟩ := kc11 (w := w11) BK297.out; have hfz17_0 := kf BK297.out) | ((with_reducible refine gate_callee (f := 74) rfl ?_); refine zC (some 10) rfl rfl Try.func74 rfl #[.slice A0_8 l0_8.length c0_8] rfl ?_; (with_reducible refine (laws_toViewS.calls k _ _ l0_8 t314 _ ?side1 ?side2 A3.out).mono ?_); (case side1 => exact cb HR0_8.out zG); (case side2 => exact HC0_8.out); rintro e w18 ⟨v315, rfl, ho0, hb⟩; refine ⟨_, rfl, ?_⟩; have n0_ := Am (rb (by (with_reducible repeat (first | apply ra | apply rn | apply re)); exact (Kd.R_mono (Kd.R_far (p := ⟨gb299, 7, none⟩) (Kd.R_far (p := ⟨gb299, 6, none⟩) (Kd.R_far (p := ⟨gb299, 5, none⟩) (Kd.R_far (p := ⟨gb299, 4, none⟩) (Kd.R_far (p := ⟨gb299, 3, none⟩) (Kd.R_far (p := ⟨gb299, 2, none⟩) (Kd.R_far (p := ⟨gb299, 1, none⟩) (Kd.R_far (p := ⟨gb299, 0, none⟩) (Kd.R_types HO307.out BK299.out (by decide)) (fun _ hk => hk.2) (.int .i64 t300)) (fun _ hk => hk.2) (.int .i64 t301)) (fun _ hk => hk.2) (.int .i64 t302)) (fun _ hk => hk.2) (.int .i64 t303)) (fun _ hk => hk.2) (.string t304)) (fun _ hk => hk.2) (.slice Ao14 t305.length co14)) (fun _ hk => hk.2) (.slice Ao15 t308.length co15)) (fun _ hk => hk.2) (.slice Ao16 t311.length co16)) (fun _ h_ => h_.1))) hb); have n1_ := Am (Kd.S_below (by (with_reducible repeat (first | apply sa | apply sn | apply se)); exact (Kd.S_mono (Kd.S_far (p := ⟨gb299, 7, none⟩) (Kd.S_far (p := ⟨gb299, 6, none⟩) (Kd.S_far (p := ⟨gb299, 5, none⟩) (Kd.S_far (p := ⟨gb299, 4, none⟩) (Kd.S_far (p := ⟨gb299, 3, none⟩) (Kd.S_far (p := ⟨gb299, 2, none⟩) (Kd.S_far (p := ⟨gb299, 1, none⟩) (Kd.S_far (p := ⟨gb299, 0, none⟩) (Kd.S_types HO310.out BK299.out (by decide)) (fun _ hk => hk.2) (.int .i64 t300)) (fun _ hk => hk.2) (.int .i64 t301)) (fun _ hk => hk.2) (.int .i64 t302)) (fun _ hk => hk.2) (.int .i64 t303)) (fun _ hk => hk.2) (.string t304)) (fun _ hk => hk.2) (.slice Ao14 t305.length co14)) (fun _ hk => hk.2) (.slice Ao15 t308.length co15)) (fun _ hk => hk.2) (.slice Ao16 t311.length co16)) (fun _ h_ => h_.1))) hb); have n2_ := Am (rb (by (with_reducible repeat (first | apply ra | apply rn | apply re)); exact (Kd.R_mono (Kd.R_far (p := ⟨gb299, 7, none⟩) (Kd.R_far (p := ⟨gb299, 6, none⟩) (Kd.R_far (p := ⟨gb299, 5, none⟩) (Kd.R_far (p := ⟨gb299, 4, none⟩) (Kd.R_far (p := ⟨gb299, 3, none⟩) (Kd.R_far (p := ⟨gb299, 2, none⟩) (Kd.R_far (p := ⟨gb299, 1, none⟩) (Kd.R_far (p := ⟨gb299, 0, none⟩) (Kd.R_types HO313.out BK299.out (by decide)) (fun _ hk => hk.2) (.int .i64 t300)) (fun _ hk => hk.2) (.int .i64 t301)) (fun _ hk => hk.2) (.int .i64 t302)) (fun _ hk => hk.2) (.int .i64 t303)) (fun _ hk => hk.2) (.string t304)) (fun _ hk => hk.2) (.slice Ao14 t305.length co14)) (fun _ hk => hk.2) (.slice Ao15 t308.length co15)) (fun _ hk => hk.2) (.slice Ao16 t311.length co16)) (fun _ h_ => h_.1))) hb); have n3_ := Am (Kd.S_lower ho0 (bz zG)); have n4_ := Am (kb (g := gb297) (o := o7b1 a0_0 a0_1 a0_2 a0_3 a0_4 A0_5 l0_5.length c0_5 A0_6 l0_6.length c0_6 A0_7 l0_7.length c0_7 A0_8 l0_8.length c0_8 A0_9 l0_9.length c0_9 a0_10) (by (with_reducible repeat (first | refine kn ?_ _ | refine ke ?_ | refine ka ?_ _)); refine blk_far ?_ NB297_299.out _; (with_reducible repeat (first | refine kn ?_ _ | refine ke ?_ | refine ka ?_ _)); refine blk_far ?_ NB297_299.out _; (with_reducible repeat (first | refine kn ?_ _ | refine ke ?_ | refine ka ?_ _)); refine blk_far ?_ NB297_299.out _; (with_reducible repeat (first | refine kn ?_ _ | refine ke ?_ | refine ka ?_ _)); refine blk_far ?_ NB297_299.out _; (with_reducible repeat (first | refine kn ?_ _ | refine ke ?_ | refine ka ?_ _)); refine blk_far ?_ NB297_299.out _; (with_reducible repeat (first | refine kn ?_ _ | refine ke ?_ | refine ka ?_ _)); refine blk_far ?_ NB297_299.out _; (with_reducible repeat (first | refine kn ?_ _ | refine ke ?_ | refine ka ?_ _)); refine blk_far ?_ NB297_299.out _; (with_reducible repeat (first | refine kn ?_ _ | refine ke ?_ | refine ka ?_ _)); refine blk_far ?_ NB297_299.out _; (with_reducible repeat (first | refine kn ?_ _ | refine ke ?_ | refine ka ?_ _)); exact BK297.out) hb); have n5_ := Am (kb (g := gb298) (o := .cells #[.int .i64 0, .int .i64 0, .int .i64 0, .int .i64 0, .string (⟨#[]⟩ : ByteArray), .slice none 0 0, .slice none 0 0, .slice none 0 0, .slice none 0 0, .slice none 0 0, .int .i64 0] 57 (0, 0)) (by (with_reducible repeat (first | refine kn ?_ _ | refine ke ?_ | refine ka ?_ _)); refine blk_far ?_ NB298_299.out _; (with_reducible repeat (first | refine kn ?_ _ | refine ke ?_ | refine ka ?_ _)); refine blk_far ?_ NB298_299.out _; (with_reducible repeat (first | refine kn ?_ _ | refine ke ?_ | refine ka ?_ _)); refine blk_far ?_ NB298_299.out _; (with_reducible repeat (first | refine kn ?_ _ | refine ke ?_ | refine ka ?_ _)); refine blk_far ?_ NB298_299.out _; (with_reducible repeat (first | refine kn ?_ _ | refine ke ?_ | refine ka ?_ _)); refine blk_far ?_ NB298_299.out _; (with_reducible repeat (first | refine kn ?_ _ | refine ke ?_ | refine ka ?_ _)); refine blk_far ?_ NB298_299.out _; (with_reducible repeat (first | refine kn ?_ _ | refine ke ?_ | refine ka ?_ _)); refine blk_far ?_ NB298_299.out _; (with_reducible repeat (first | refine kn ?_ _ | refine ke ?_ | refine ka ?_ _)); refine blk_far ?_ NB298_299.out _; (with_reducible repeat (first | refine kn ?_ _ | refine ke ?_ | refine ka ?_ _)); exact BK298.out) hb); have n6_ := Am (kb (g := gb299) (o := .cells #[.int .i64 t300, .int .i64 t301, .int .i64 t302, .int .i64 t303, .string t304, .slice Ao14 t305.length co14, .slice Ao15 t308.length co15, .slice Ao16 t311.length co16, .slice none 0 0, .slice none 0 0, .int .i64 0] 57 (0, 0)) (by (with_reducible repeat (first | refine kn ?_ _ | refine ke ?_ | refine ka ?_ _)); refine kp (cs := #[.int .i64 t300, .int .i64 t301, .int .i64 t302, .int .i64 t303, .string t304, .slice Ao14 t305.length co14, .slice Ao15 t308.length co15, .slice none 0 0, .slice none 0 0, .slice none 0 0, .int .i64 0]) ?_ 7 _ rfl; (with_reducible repeat (first | refine kn ?_ _ | refine ke ?_ | refine ka ?_ _)); refine kp (cs := #[.int .i64 t300, .int .i64 t301, .int .i64 t302, .int .i64 t303, .string t304, .slice Ao14 t305.length co14, .slice none 0 0, .slice none 0 0, .slice none 0 0, .slice none 0 0, .int .i64 0]) ?_ 6 _ rfl; (with_reducible repeat (first | refine kn ?_ _ | refine ke ?_ | refine ka ?_ _)); refine kp (cs := #[.int .i64 t300, .int .i64 t301, .int .i64 t302, .int .i64 t303, .string t304, .slice none 0 0, .slice none 0 0, .slice none 0 0, .slice none 0 0, .slice none 0 0, .int .i64 0]) ?_ 5 _ rfl; (with_reducible repeat (first | refine kn ?_ _ | refine ke ?_ | refine ka ?_ _)); refine kp (cs := #[.int .i64 t300, .int .i64 t301, .int .i64 t302, .int .i64 t303, .string (⟨#[]⟩ : ByteArray), .slice none 0 0, .slice none 0 0, .slice none 0 0, .slice none 0 0, .slice none 0 0, .int .i64 0]) ?_ 4 _ rfl; (with_reducible repeat (first | refine kn ?_ _ | refine ke ?_ | refine ka ?_ _)); refine kp (cs := #[.int .i64 t300, .int .i64 t301, .int .i64 t302, .int .i64 0, .string (⟨#[]⟩ : ByteArray), .slice none 0 0, .slice none 0 0, .slice none 0 0, .slice none 0 0, .slice none 0 0, .int .i64 0]) ?_ 3 _ rfl; (with_reducible repeat (first | refine kn ?_ _ | refine ke ?_ | refine ka ?_ _)); refine kp (cs := #[.int .i64 t300, .int .i64 t301, .int .i64 0, .int .i64 0, .string (⟨#[]⟩ : ByteArray), .slice none 0 0, .slice none 0 0, .slice none 0 0, .slice none 0 0, .slice none 0 0, .int .i64 0]) ?_ 2 _ rfl; (with_reducible repeat (first | refine kn ?_ _ | refine ke ?_ | refine ka ?_ _)); refine kp (cs := #[.int .i64 t300, .int .i64 0, .int .i64 0, .int .i64 0, .string (⟨#[]⟩ : ByteArray), .slice none 0 0, .slice none 0 0, .slice none 0 0, .slice none 0 0, .slice none 0 0, .int .i64 0]) ?_ 1 _ rfl; (with_reducible repeat (first | refine kn ?_ _ | refine ke ?_ | refine ka ?_ _)); refine kp (cs := #[.int .i64 0, .int .i64 0, .int .i64 0, .int .i64 0, .string (⟨#[]⟩ : ByteArray), .slice none 0 0, .slice none 0 0, .slice none 0 0, .slice none 0 0, .slice none 0 0, .int .i64 0]) ?_ 0 _ rfl; (with_reducible repeat (first | refine kn ?_ _ | refine ke ?_ | refine ka ?_ _)); exact BK299.out) hb); have n7_ := Am (bq zG hb); clear HO307; clear HO310; clear HO313; clear BK297; clear BK298; clear BK299; clear HB; have HO307 := n0_; have HO310 := n1_; have HO313 := n2_; have HO316 := n3_; have BK297 := n4_; have BK298 := n5_; have BK299 := n6_; have HB := n7_; clear n0_ n1_ n2_ n3_ n4_ n5_ n6_ n7_; (try clear hb); (try clear hb2); (try clear hk); (try clear hi); (try clear ho0); obtain ⟨Ao19, co19, eo19⟩ := Kd.S_slice HO316.out; subst eo19; obtain ⟨hcz20_0, hcz20_1, hcz20_2, hcz20_3, hcz20_4, hcz20_5, hcz20_6, hcz20_7, hcz20_8, hcz20_9, hcz20_10⟩ := kc11 (w := w18) BK299.out; have hfz20_0 := kf BK299.out; obtain ⟨hcz21_0, hcz21_1, hcz21_2, hcz21_3, hcz21_4, hcz21_5, hcz21_6, hcz21_7, hcz21_8, hcz21_9, hcz21_10⟩ := kc11 (w := w18) BK297.out; have hfz21_0 := kf BK297.out) | ((with_reducible refine gate_callee (f := 74) rfl ?_); refine zC (some 14) rfl rfl Try.func74 rfl #[.slice A0_9 l0_9.length c0_9] rfl ?_; (with_reducible refine (laws_toViewS.calls k _ _ l0_9 t317 _ ?side1 ?side2 A4.out).mono ?_); (case side1 => exact cb HR0_9.out zG); (case side2 => exact HC0_9.out); rintro e w22 ⟨v318, rfl, ho0, hb⟩; refine ⟨_, rfl, ?_⟩; have n0_ := Am (rb (by (with_reducible repeat (first | apply ra | apply rn | apply re)); exact (Kd.R_mono (Kd.R_far (p := ⟨gb299, 8, none⟩) (Kd.R_types HO307.out BK299.out (by decide)) (fun _ hk => hk.2) (.slice Ao19 t314.length co19)) (fun _ h_ => h_.1))) hb); have n1_ := Am (Kd.S_below (by (with_reducible repeat (first | apply sa | apply sn | apply se)); exact (Kd.S_mono (Kd.S_far (p := ⟨gb299, 8, none⟩) (Kd.S_types HO310.out BK299.out (by decide)) (fun _ hk => hk.2) (.slice Ao19 t314.length co19)) (fun _ h_ => h_.1))) hb); have n2_ := Am (rb (by (with_reducible repeat (first | apply ra | apply rn | apply re)); exact (Kd.R_mono (Kd.R_far (p := ⟨gb299, 8, none⟩) (Kd.R_types HO313.out BK299.out (by decide)) (fun _ hk => hk.2) (.slice Ao19 t314.length co19)) (fun _ h_ => h_.1))) hb); have n3_ := Am (Kd.S_elder' (by (with_reducible repeat (first | apply sa | apply sn | apply se)); exact (Kd.S_mono (Kd.S_far (p := ⟨gb299, 8, none⟩) (Kd.S_types HO316.out BK299.out (by decide)) (fun _ hk => hk.2) (.slice Ao19 t314.length co19)) (fun _ h_ => h_.1))) (Kd.S_base ho0) hb); have n4_ := Am (Kd.S_lower (Kd.S_new' ho0 (Kd.S_lt (by (with_reducible repeat (first | apply sa | apply sn | apply se)); exact (Kd.S_mono (Kd.S_far (p := ⟨gb299, 8, none⟩) (Kd.S_types HO316.out BK299.out (by decide)) (fun _ hk => hk.2) (.slice Ao19 t314.length co19)) (fun _ h_ => h_.1))))) (bz zG)); have n5_ := Am (kb (g := gb297) (o := o7b1 a0_0 a0_1 a0_2 a0_3 a0_4 A0_5 l0_5.length c0_5 A0_6 l0_6.length c0_6 A0_7 l0_7.length c0_7 A0_8 l0_8.length c0_8 A0_9 l0_9.length c0_9 a0_10) (by (with_reducible repeat (first | refine kn ?_ _ | refine ke ?_ | refine ka ?_ _)); refine blk_far ?_ NB297_299.out _; (with_reducible repeat (first | refine kn ?_ _ | refine ke ?_ | refine ka ?_ _)); exact BK297.out) hb); have n6_ := Am (kb (g := gb298) (o := .cells #[.int .i64 0, .int .i64 0, .int .i64 0, .int .i64 0, .string (⟨#[]⟩ : ByteArray), .slice none 0 0, .slice none 0 0, .slice none 0 0, .slice none 0 0, .slice none 0 0, .int .i64 0] 57 (0, 0)) (by (with_reducible repeat (first | refine kn ?_ _ | refine ke ?_ | refine ka ?_ _)); refine blk_far ?_ NB298_299.out _; (with_reducible repeat (first | refine kn ?_ _ | refine ke ?_ | refine ka ?_ _)); exact BK298.out) hb); have n7_ := Am (kb (g := gb299) (o := .cells #[.int .i64 t300, .int .i64 t301, .int .i64 t302, .int .i64 t303, .string t304, .slice Ao14 t305.length co14, .slice Ao15 t308.length co15, .slice Ao16 t311.length co16, .slice Ao19 t314.length co19, .slice none 0 0, .int .i64 0] 57 (0, 0)) (by (with_reducible repeat (first | refine kn ?_ _ | refine ke ?_ | refine ka ?_ _)); refine kp (cs := #[.int .i64 t300, .int .i64 t301, .int .i64 t302, .int .i64 t303, .string t304, .slice Ao14 t305.length co14, .slice Ao15 t308.length co15, .slice Ao16 t311.length co16, .slice none 0 0, .slice none 0 0, .int .i64 0]) ?_ 8 _ rfl; (with_reducible repeat (first | refine kn ?_ _ | refine ke ?_ | refine ka ?_ _)); exact BK299.out) hb); have n8_ := Am (bq zG hb); clear HO307; clear HO310; clear HO313; clear HO316; clear BK297; clear BK298; clear BK299; clear HB; have HO307 := n0_; have HO310 := n1_; have HO313 := n2_; have HO316 := n3_; have HO319 := n4_; have BK297 := n5_; have BK298 := n6_; have BK299 := n7_; have HB := n8_; clear n0_ n1_ n2_ n3_ n4_ n5_ n6_ n7_ n8_; (try clear hb ho0); obtain ⟨Ao23, co23, eo23⟩ := Kd.S_slice HO319.out; subst eo23; obtain ⟨hcz24_0, hcz24_1, hcz24_2, hcz24_3, hcz24_4, hcz24_5, hcz24_6, hcz24_7, hcz24_8, hcz24_9, hcz24_10⟩ := kc11 (w := w22) BK299.out; have hfz24_0 := kf BK299.out; obtain ⟨hcz25_0, hcz25_1, hcz25_2, hcz25_3, hcz25_4, hcz25_5, hcz25_6, hcz25_7, hcz25_8, hcz25_9, hcz25_10⟩ := kc11 (w := w22) BK297.out; have hfz25_0 := kf BK297.out; obtain ⟨hcz26_0, hcz26_1, hcz26_2, hcz26_3, hcz26_4, hcz26_5, hcz26_6, hcz26_7, hcz26_8, hcz26_9, hcz26_10⟩ := kc11 (w := w22) BK298.out; have hfz26_0 := kf BK298.out))
 refine bodyPost_ret (results_cell_row rfl _ _ gb298 57 #[.int .i64 t300, .int .i64 t301, .int .i64 t302, .int .i64 t303, .string t304, .slice Ao14 t305.length co14, .slice Ao15 t308.length co15, .slice Ao16 t311.length co16, .slice Ao19 t314.length co19, .slice Ao23 t317.length co23, .int .i64 a0_10] (0, 0) _ rfl (by (with_reducible repeat (first | refine kn ?_ _ | refine ke ?_ | refine ka ?_ _)); refine kp (cs := #[.int .i64 t300, .int .i64 t301, .int .i64 t302, .int .i64 t303, .string t304, .slice Ao14 t305.length co14, .slice Ao15 t308.length co15, .slice Ao16 t311.length co16, .slice Ao19 t314.length co19, .slice Ao23 t317.length co23, .int .i64 0]) ?_ 10 _ rfl; (with_reducible repeat (first | refine kn ?_ _ | refine ke ?_ | refine ka ?_ _)); refine kp (cs := #[.int .i64 t300, .int .i64 t301, .int .i64 t302, .int .i64 t303, .string t304, .slice Ao14 t305.length co14, .slice Ao15 t308.length co15, .slice Ao16 t311.length co16, .slice Ao19 t314.length co19, .slice none 0 0, .int .i64 0]) ?_ 9 _ rfl; (with_reducible repeat (first | refine kn ?_ _ | refine ke ?_ | refine ka ?_ _)); refine kp (cs := #[.int .i64 t300, .int .i64 t301, .int .i64 t302, .int .i64 t303, .string t304, .slice Ao14 t305.length co14, .slice Ao15 t308.length co15, .slice Ao16 t311.length co16, .slice none 0 0, .slice none 0 0, .int .i64 0]) ?_ 8 _ rfl; (with_reducible repeat (first | refine kn ?_ _ | refine ke ?_ | refine ka ?_ _)); refine kp (cs := #[.int .i64 t300, .int .i64 t301, .int .i64 t302, .int .i64 t303, .string t304, .slice Ao14 t305.length co14, .slice Ao15 t308.length co15, .slice none 0 0, .slice none 0 0, .slice none 0 0, .int .i64 0]) ?_ 7 _ rfl; (with_reducible repeat (first | refine kn ?_ _ | refine ke ?_ | refine ka ?_ _)); refine kp (cs := #[.int .i64 t300, .int .i64 t301, .int .i64 t302, .int .i64 t303, .string t304, .slice Ao14 t305.length co14, .slice none 0 0, .slice none 0 0, .slice none 0 0, .slice none 0 0, .int .i64 0]) ?_ 6 _ rfl; (with_reducible repeat (first | refine kn ?_ _ | refine ke ?_ | refine ka ?_ _)); refine kp (cs := #[.int .i64 t300, .int .i64 t301, .int .i64 t302, .int .i64 t303, .string t304, .slice none 0 0, .slice none 0 0, .slice none 0 0, .slice none 0 0, .slice none 0 0, .int .i64 0]) ?_ 5 _ rfl; (with_reducible repeat (first | refine kn ?_ _ | refine ke ?_ | refine ka ?_ _)); refine kp (cs := #[.int .i64 t300, .int .i64 t301, .int .i64 t302, .int .i64 t303, .string (⟨#[]⟩ : ByteArray), .slice none 0 0, .slice none 0 0, .slice none 0 0, .slice none 0 0, .slice none 0 0, .int .i64 0]) ?_ 4 _ rfl; (with_reducible repeat (first | refine kn ?_ _ | refine ke ?_ | refine ka ?_ _)); refine kp (cs := #[.int .i64 t300, .int .i64 t301, .int .i64 t302, .int .i64 0, .string (⟨#[]⟩ : ByteArray), .slice none 0 0, .slice none 0 0, .slice none 0 0, .slice none 0 0, .slice none 0 0, .int .i64 0]) ?_ 3 _ rfl; (with_reducible repeat (first | refine kn ?_ _ | refine ke ?_ | refine ka ?_ _)); refine kp (cs := #[.int .i64 t300, .int .i64 t301, .int .i64 0, .int .i64 0, .string (⟨#[]⟩ : ByteArray), .slice none 0 0, .slice none 0 0, .slice none 0 0, .slice none 0 0, .slice none 0 0, .int .i64 0]) ?_ 2 _ rfl; (with_reducible repeat (first | refine kn ?_ _ | refine ke ?_ | refine ka ?_ _)); refine kp (cs := #[.int .i64 t300, .int .i64 0, .int .i64 0, .int .i64 0, .string (⟨#[]⟩ : ByteArray), .slice none 0 0, .slice none 0 0, .slice none 0 0, .slice none 0 0, .slice none 0 0, .int .i64 0]) ?_ 1 _ rfl; (with_reducible repeat (first | refine kn ?_ _ | refine ke ?_ | refine ka ?_ _)); refine kp (cs := #[.int .i64 0, .int .i64 0, .int .i64 0, .int .i64 0, .string (⟨#[]⟩ : ByteArray), .slice none 0 0, .slice none 0 0, .slice none 0 0, .slice none 0 0, .slice none 0 0, .int .i64 0]) ?_ 0 _ rfl; (with_reducible repeat (first | refine kn ?_ _ | refine ke ?_ | refine ka ?_ _)); refine blk_far ?_ NB298_299.out _; (with_reducible repeat (first | refine kn ?_ _ | refine ke ?_ | refine ka ?_ _)); refine blk_far ?_ NB298_299.out _; (with_reducible repeat (first | refine kn ?_ _ | refine ke ?_ | refine ka ?_ _)); exact BK298.out) Try.underlying57 rfl (by kernel_rfl)) rfl ?_
 exact ⟨_, _, _, _, _, zR, by (with_reducible repeat (first | apply ra | apply rn | apply re)); exact Kd.R_mono (Kd.R_far (p := ⟨gb298, 10, none⟩) (Kd.R_far (p := ⟨gb298, 9, none⟩) (Kd.R_far (p := ⟨gb298, 8, none⟩) (Kd.R_far (p := ⟨gb298, 7, none⟩) (Kd.R_far (p := ⟨gb298, 6, none⟩) (Kd.R_far (p := ⟨gb298, 5, none⟩) (Kd.R_far (p := ⟨gb298, 4, none⟩) (Kd.R_far (p := ⟨gb298, 3, none⟩) (Kd.R_far (p := ⟨gb298, 2, none⟩) (Kd.R_far (p := ⟨gb298, 1, none⟩) (Kd.R_far (p := ⟨gb298, 0, none⟩) (Kd.R_far (p := ⟨gb299, 10, none⟩) (Kd.R_far (p := ⟨gb299, 9, none⟩) (Kd.R_types (Kd.R_types HO307.out BK299.out (by decide)) BK298.out (by decide)) (fun _ hk => hk.1.2) (.slice Ao23 t317.length co23)) (fun _ hk => hk.1.2) (.int .i64 a0_10)) (fun _ hk => hk.2) (.int .i64 t300)) (fun _ hk => hk.2) (.int .i64 t301)) (fun _ hk => hk.2) (.int .i64 t302)) (fun _ hk => hk.2) (.int .i64 t303)) (fun _ hk => hk.2) (.string t304)) (fun _ hk => hk.2) (.slice Ao14 t305.length co14)) (fun _ hk => hk.2) (.slice Ao15 t308.length co15)) (fun _ hk => hk.2) (.slice Ao16 t311.length co16)) (fun _ hk => hk.2) (.slice Ao19 t314.length co19)) (fun _ hk => hk.2) (.slice Ao23 t317.length co23)) (fun _ hk => hk.2) (.int .i64 a0_10)) (fun _ hk => trivial), by (with_reducible repeat (first | apply sa | apply sn | apply se)); exact Kd.S_mono (Kd.S_far (p := ⟨gb298, 10, none⟩) (Kd.S_far (p := ⟨gb298, 9, none⟩) (Kd.S_far (p := ⟨gb298, 8, none⟩) (Kd.S_far (p := ⟨gb298, 7, none⟩) (Kd.S_far (p := ⟨gb298, 6, none⟩) (Kd.S_far (p := ⟨gb298, 5, none⟩) (Kd.S_far (p := ⟨gb298, 4, none⟩) (Kd.S_far (p := ⟨gb298, 3, none⟩) (Kd.S_far (p := ⟨gb298, 2, none⟩) (Kd.S_far (p := ⟨gb298, 1, none⟩) (Kd.S_far (p := ⟨gb298, 0, none⟩) (Kd.S_far (p := ⟨gb299, 10, none⟩) (Kd.S_far (p := ⟨gb299, 9, none⟩) (Kd.S_types (Kd.S_types HO310.out BK299.out (by decide)) BK298.out (by decide)) (fun _ hk => hk.1.2) (.slice Ao23 t317.length co23)) (fun _ hk => hk.1.2) (.int .i64 a0_10)) (fun _ hk => hk.2) (.int .i64 t300)) (fun _ hk => hk.2) (.int .i64 t301)) (fun _ hk => hk.2) (.int .i64 t302)) (fun _ hk => hk.2) (.int .i64 t303)) (fun _ hk => hk.2) (.string t304)) (fun _ hk => hk.2) (.slice Ao14 t305.length co14)) (fun _ hk => hk.2) (.slice Ao15 t308.length co15)) (fun _ hk => hk.2) (.slice Ao16 t311.length co16)) (fun _ hk => hk.2) (.slice Ao19 t314.length co19)) (fun _ hk => hk.2) (.slice Ao23 t317.length co23)) (fun _ hk => hk.2) (.int .i64 a0_10)) (fun _ hk => hk.1.1), by (with_reducible repeat (first | apply ra | apply rn | apply re)); exact Kd.R_mono (Kd.R_far (p := ⟨gb298, 10, none⟩) (Kd.R_far (p := ⟨gb298, 9, none⟩) (Kd.R_far (p := ⟨gb298, 8, none⟩) (Kd.R_far (p := ⟨gb298, 7, none⟩) (Kd.R_far (p := ⟨gb298, 6, none⟩) (Kd.R_far (p := ⟨gb298, 5, none⟩) (Kd.R_far (p := ⟨gb298, 4, none⟩) (Kd.R_far (p := ⟨gb298, 3, none⟩) (Kd.R_far (p := ⟨gb298, 2, none⟩) (Kd.R_far (p := ⟨gb298, 1, none⟩) (Kd.R_far (p := ⟨gb298, 0, none⟩) (Kd.R_far (p := ⟨gb299, 10, none⟩) (Kd.R_far (p := ⟨gb299, 9, none⟩) (Kd.R_types (Kd.R_types HO313.out BK299.out (by decide)) BK298.out (by decide)) (fun _ hk => hk.1.2) (.slice Ao23 t317.length co23)) (fun _ hk => hk.1.2) (.int .i64 a0_10)) (fun _ hk => hk.2) (.int .i64 t300)) (fun _ hk => hk.2) (.int .i64 t301)) (fun _ hk => hk.2) (.int .i64 t302)) (fun _ hk => hk.2) (.int .i64 t303)) (fun _ hk => hk.2) (.string t304)) (fun _ hk => hk.2) (.slice Ao14 t305.length co14)) (fun _ hk => hk.2) (.slice Ao15 t308.length co15)) (fun _ hk => hk.2) (.slice Ao16 t311.length co16)) (fun _ hk => hk.2) (.slice Ao19 t314.length co19)) (fun _ hk => hk.2) (.slice Ao23 t317.length co23)) (fun _ hk => hk.2) (.int .i64 a0_10)) (fun _ hk => trivial), by (with_reducible repeat (first | apply sa | apply sn | apply se)); exact Kd.S_mono (Kd.S_far (p := ⟨gb298, 10, none⟩) (Kd.S_far (p := ⟨gb298, 9, none⟩) (Kd.S_far (p := ⟨gb298, 8, none⟩) (Kd.S_far (p := ⟨gb298, 7, none⟩) (Kd.S_far (p := ⟨gb298, 6, none⟩) (Kd.S_far (p := ⟨gb298, 5, none⟩) (Kd.S_far (p := ⟨gb298, 4, none⟩) (Kd.S_far (p := ⟨gb298, 3, none⟩) (Kd.S_far (p := ⟨gb298, 2, none⟩) (Kd.S_far (p := ⟨gb298, 1, none⟩) (Kd.S_far (p := ⟨gb298, 0, none⟩) (Kd.S_far (p := ⟨gb299, 10, none⟩) (Kd.S_far (p := ⟨gb299, 9, none⟩) (Kd.S_types (Kd.S_types HO316.out BK299.out (by decide)) BK298.out (by decide)) (fun _ hk => hk.1.2) (.slice Ao23 t317.length co23)) (fun _ hk => hk.1.2) (.int .i64 a0_10)) (fun _ hk => hk.2) (.int .i64 t300)) (fun _ hk => hk.2) (.int .i64 t301)) (fun _ hk => hk.2) (.int .i64 t302)) (fun _ hk => hk.2) (.int .i64 t303)) (fun _ hk => hk.2) (.string t304)) (fun _ hk => hk.2) (.slice Ao14 t305.length co14)) (fun _ hk => hk.2) (.slice Ao15 t308.length co15)) (fun _ hk => hk.2) (.slice Ao16 t311.length co16)) (fun _ hk => hk.2) (.slice Ao19 t314.length co19)) (fun _ hk => hk.2) (.slice Ao23 t317.length co23)) (fun _ hk => hk.2) (.int .i64 a0_10)) (fun _ hk => hk.1.1.2), by (with_reducible repeat (first | apply sa | apply sn | apply se)); exact Kd.S_mono (Kd.S_far (p := ⟨gb298, 10, none⟩) (Kd.S_far (p := ⟨gb298, 9, none⟩) (Kd.S_far (p := ⟨gb298, 8, none⟩) (Kd.S_far (p := ⟨gb298, 7, none⟩) (Kd.S_far (p := ⟨gb298, 6, none⟩) (Kd.S_far (p := ⟨gb298, 5, none⟩) (Kd.S_far (p := ⟨gb298, 4, none⟩) (Kd.S_far (p := ⟨gb298, 3, none⟩) (Kd.S_far (p := ⟨gb298, 2, none⟩) (Kd.S_far (p := ⟨gb298, 1, none⟩) (Kd.S_far (p := ⟨gb298, 0, none⟩) (Kd.S_far (p := ⟨gb299, 10, none⟩) (Kd.S_far (p := ⟨gb299, 9, none⟩) (Kd.S_types (Kd.S_types HO319.out BK299.out (by decide)) BK298.out (by decide)) (fun _ hk => hk.1.2) (.slice Ao23 t317.length co23)) (fun _ hk => hk.1.2) (.int .i64 a0_10)) (fun _ hk => hk.2) (.int .i64 t300)) (fun _ hk => hk.2) (.int .i64 t301)) (fun _ hk => hk.2) (.int .i64 t302)) (fun _ hk => hk.2) (.int .i64 t303)) (fun _ hk => hk.2) (.string t304)) (fun _ hk => hk.2) (.slice Ao14 t305.length co14)) (fun _ hk => hk.2) (.slice Ao15 t308.length co15)) (fun _ hk => hk.2) (.slice Ao16 t311.length co16)) (fun _ hk => hk.2) (.slice Ao19 t314.length co19)) (fun _ hk => hk.2) (.slice Ao23 t317.length co23)) (fun _ hk => hk.2) (.int .i64 a0_10)) (fun _ hk => hk.1.1.2), zG⟩

/-! ### impl_Item: function 123 -/
def impl_Item.l0 : Nat → List (S176) → List (S176) → Int → Int → Option (Bool)
 | 0, _, _, _, _ => none
 | k + 1, x0, x1, x12, x13 => if x13 < x12 then (if 0 ≤ x13 then (if x13 < (x0.length : Int) then (if x13 < (x1.length : Int) then (if (!((((rd_T176 x0 x13).f0).toList) == (((rd_T176 x1 x13).f0).toList)) || (!(((rd_T176 x0 x13).f1) == ((rd_T176 x1 x13).f1)) || (!((((rd_T176 x0 x13).f2).toList) == (((rd_T176 x1 x13).f2).toList))))) = true then (some false) else (impl_Item.l0 k x0 x1 x12 (wrap64 (x13 + 1)))) else (none)) else (none)) else (none)) else (some true)
def impl_Item.f (k : Nat) (l0 : List (S176)) (l1 : List (S176)) : Option (Bool) := if (l0.length : Int) = (l1.length : Int) then (impl_Item.l0 k l0 l1 (l0.length : Int) 0) else (some false)
theorem impl_Item.mono_l : ∀ k, (∀ y0 y1 y2 y3, LeO (impl_Item.l0 k y0 y1 y2 y3) (impl_Item.l0 (k + 1) y0 y1 y2 y3))
 | 0 => fun _ _ _ _ r h => by simp [impl_Item.l0] at h
 | k + 1 => by
  have ih0 := impl_Item.mono_l k
  ·intro y0 y1 y2 y3
   unfold impl_Item.l0
   repeat' first
   | (with_reducible exact ih0 _ _ _ _)
   | (with_reducible exact LeO.refl _)
   | (with_reducible exact LeO.none _)
   | (with_reducible refine LeO.ite ?_ ?_)
   | (with_reducible refine LeO.bind ?_ (fun _ => ?_))
   | exact ih0 _ _ _ _
   | exact LeO.none _
   | refine LeO.ite ?_ ?_
   | refine LeO.bind ?_ (fun _ => ?_)
theorem impl_Item.mono : ∀ a0 a1 k, LeO (impl_Item.f k a0 a1) (impl_Item.f (k + 1) a0 a1) := by
 intro a0 a1 k
 have ih0 := impl_Item.mono_l k
 unfold impl_Item.f
 repeat' first
   | (with_reducible exact ih0 _ _ _ _)
   | (with_reducible exact LeO.refl _)
   | (with_reducible exact LeO.none _)
   | (with_reducible refine LeO.ite ?_ ?_)
   | (with_reducible refine LeO.bind ?_ (fun _ => ?_))
   | exact ih0 _ _ _ _
   | exact LeO.none _
   | refine LeO.ite ?_ ?_
   | refine LeO.bind ?_ (fun _ => ?_)
set_option maxHeartbeats 8000000 in
set_option maxRecDepth 100000 in
theorem impl_Item.calls (k : Nat) (A0 : Option Addr) (c0 : Nat) (l0 : List (S176)) (A1 : Option Addr) (c1 : Nat) (l1 : List (S176)) (r : Bool) (w : World) (hr0 : Kd.C k176 w A0 l0.length l0) (hc0 : l0.length ≤ c0) (hr1 : Kd.C k176 w A1 l1.length l1) (hc1 : l1.length ≤ c1) (h : impl_Item.f k l0 l1 = some r) :
  Calls Try.prog 123 #[.slice A0 l0.length c0, .slice A1 l1.length c1] w fun e w' => e = .returned (.bool r) ∧ Drawn0 w w' := by
 have hu176 := Try.underlying176
 have HR0 := Am hr0
 have HC0 := Am hc0
 clear hr0 hc0
 have HR1 := Am hr1
 have HC1 := Am hc1
 clear hr1 hc1
 have H : (if (l0.length : Int) = (l1.length : Int) then (impl_Item.l0 k l0 l1 (l0.length : Int) 0) else (some false)) = some r := h
 clear h
 by_cases c3 : (l0.length : Int) = (l1.length : Int)
 ·rw [if_pos c3] at H
  have c3b0 : ((l0.length : Int) == (l1.length : Int)) = true := beq_iff_eq.mpr c3
  have c3b1 : ((l0.length : Int) != (l1.length : Int)) = false := bne_eq_false_iff_eq.mpr c3
  have c3b2 : (l0.length == l1.length) = true := by first | simpa using c3 | (simp at c3 ⊢; omega)
  clear c3
  have H' := Am H
  clear H
  go_enter Try.func123, Try.ntmps123
  go_wp2
  repeat (go_quiet (fail); try go_wp2)
  go_loopg [13] k (fun kq v13 w' => ∃ (x13_1 : Int), v13 = .int .i64 x13_1 ∧ Aside0 (impl_Item.l0 kq l0 l1 (l0.length : Int) x13_1 = some r) ∧ Aside0 (kq ≤ k) ∧ Drawn0 w w')
  case atStart => exact ⟨(0), (by first | rfl | (simp; done) | (simp [*]; done)), H', ⟨Nat.le_refl _⟩, by repeat (first | exact Drawn0.refl _ | apply Drawn0.step)⟩
  case round =>
   clear H'
   try clear c1; try clear p2; try clear c3; try clear c3b0; try clear c3b1; try clear c3b2
   obtain ⟨x13_1, rfl, HA, HK1, ⟨m1, rfl⟩⟩ := hrel
   cases gk with
   | zero => exact absurd HA.out (by simp [impl_Item.l0])
   | succ k1 =>
    have H := HA.out
    clear HA
    simp only [impl_Item.l0] at H
    by_cases c4 : x13_1 < (l0.length : Int)
    ·rw [if_pos c4] at H
     have c4b0 : decide (x13_1 < (l0.length : Int)) = true := decide_eq_true c4
     clear c4
     by_cases c5 : 0 ≤ x13_1
     ·rw [if_pos c5] at H
      have c5b0 : decide (0 ≤ x13_1) = true := decide_eq_true c5
      clear c5
      by_cases c6 : x13_1 < (l0.length : Int)
      ·rw [if_pos c6] at H
       have c6b0 : decide (x13_1 < (l0.length : Int)) = true := decide_eq_true c6
       clear c6
       by_cases c7 : x13_1 < (l1.length : Int)
       ·rw [if_pos c7] at H
        have c7b0 : decide (x13_1 < (l1.length : Int)) = true := decide_eq_true c7
        clear c7
        by_cases c8 : (!((((rd_T176 l0 x13_1).f0).toList) == (((rd_T176 l1 x13_1).f0).toList)) || (!(((rd_T176 l0 x13_1).f1) == ((rd_T176 l1 x13_1).f1)) || (!((((rd_T176 l0 x13_1).f2).toList) == (((rd_T176 l1 x13_1).f2).toList))))) = true
        ·rw [if_pos c8] at H
         have c8b0 : (!((((rd_T176 l0 x13_1).f0).toList) == (((rd_T176 l1 x13_1).f0).toList)) || (!(((rd_T176 l0 x13_1).f1) == ((rd_T176 l1 x13_1).f1)) || (!((((rd_T176 l0 x13_1).f2).toList) == (((rd_T176 l1 x13_1).f2).toList))))) = true := c8
         clear c8
         obtain rfl := Option.some.inj H
         have p320 : 0 ≤ (x13_1 : Int) := of_decide_eq_true (by first | (with_reducible assumption) | assumption)
         have q320 : x13_1 < (l0.length : Int) := of_decide_eq_true (by first | (with_reducible assumption) | assumption)
         obtain ⟨ad320, e320, hx320_0, hx320_1, hx320_2⟩ := at_T176 HR0.out x13_1 p320 q320
         cases e320
         replace p320 := eq_true p320
         replace q320 := eq_true q320
         have p321 : 0 ≤ (x13_1 : Int) := of_decide_eq_true (by first | (with_reducible assumption) | assumption)
         have q321 : x13_1 < (l1.length : Int) := of_decide_eq_true (by first | (with_reducible assumption) | assumption)
         obtain ⟨ad321, e321, hx321_0, hx321_1, hx321_2⟩ := at_T176 HR1.out x13_1 p321 q321
         cases e321
         replace p321 := eq_true p321
         replace q321 := eq_true q321
         go_wp2
         repeat (go_quiet (fail); try go_wp2)
         go_ret
         exact ⟨by first | rfl | (simp; done) | (simp [*]; done), by repeat (first | exact Drawn0.refl _ | apply Drawn0.step)⟩
        ·rw [if_neg c8] at H
         have c8b0 : (!((((rd_T176 l0 x13_1).f0).toList) == (((rd_T176 l1 x13_1).f0).toList)) || (!(((rd_T176 l0 x13_1).f1) == ((rd_T176 l1 x13_1).f1)) || (!((((rd_T176 l0 x13_1).f2).toList) == (((rd_T176 l1 x13_1).f2).toList))))) = false := by simpa using c8
         clear c8
         have H' := Am H
         clear H
         have p320 : 0 ≤ (x13_1 : Int) := of_decide_eq_true (by first | (with_reducible assumption) | assumption)
         have q320 : x13_1 < (l0.length : Int) := of_decide_eq_true (by first | (with_reducible assumption) | assumption)
         obtain ⟨ad320, e320, hx320_0, hx320_1, hx320_2⟩ := at_T176 HR0.out x13_1 p320 q320
         cases e320
         replace p320 := eq_true p320
         replace q320 := eq_true q320
         have p321 : 0 ≤ (x13_1 : Int) := of_decide_eq_true (by first | (with_reducible assumption) | assumption)
         have q321 : x13_1 < (l1.length : Int) := of_decide_eq_true (by first | (with_reducible assumption) | assumption)
         obtain ⟨ad321, e321, hx321_0, hx321_1, hx321_2⟩ := at_T176 HR1.out x13_1 p321 q321
         cases e321
         replace p321 := eq_true p321
         replace q321 := eq_true q321
         go_wp2
         repeat (go_quiet (fail); try go_wp2)
         go_roundg k1
         case measure => have := HK1.out; omega
         case rel => exact ⟨(wrap64 (x13_1 + 1)), (by first | rfl | (simp; done) | (simp [*]; done)), H', ⟨by have := HK1.out; omega⟩, by repeat (first | exact Drawn0.refl _ | apply Drawn0.step)⟩
       ·rw [if_neg c7] at H
        exact absurd H (by simp)
      ·rw [if_neg c6] at H
       exact absurd H (by simp)
     ·rw [if_neg c5] at H
      exact absurd H (by simp)
    ·rw [if_neg c4] at H
     have c4b0 : decide (x13_1 < (l0.length : Int)) = false := decide_eq_false c4
     clear c4
     obtain rfl := Option.some.inj H
     go_wp2
     repeat (go_quiet (fail); try go_wp2)
     go_ret
     exact ⟨by first | rfl | (simp; done) | (simp [*]; done), by repeat (first | exact Drawn0.refl _ | apply Drawn0.step)⟩
 ·rw [if_neg c3] at H
  have c3b0 : ((l0.length : Int) == (l1.length : Int)) = false := beq_eq_false_iff_ne.mpr c3
  have c3b1 : ((l0.length : Int) != (l1.length : Int)) = true := bne_iff_ne.mpr c3
  have c3b2 : (l0.length == l1.length) = false := by first | simpa using c3 | (simp at c3 ⊢; omega)
  obtain rfl := Option.some.inj H
  go_enter Try.func123, Try.ntmps123
  go_wp2
  repeat (go_quiet (fail); try go_wp2)
  go_ret
  exact ⟨by first | rfl | (simp; done) | (simp [*]; done), by repeat (first | exact Drawn0.refl _ | apply Drawn0.step)⟩

/-! ### impl_SameView: function 75 -/
def impl_SameView.f (k : Nat) (l0_0 : List (S176)) (l1_0 : List (S176)) : Option (Bool) := (impl_Item.f k l0_0 l1_0).bind fun t324 => (some t324)
theorem impl_SameView.mono : ∀ a0 a1 k, LeO (impl_SameView.f k a0 a1) (impl_SameView.f (k + 1) a0 a1) := by
 intro a0 a1 k
 unfold impl_SameView.f
 repeat' first
   | (with_reducible exact impl_Item.mono _ _ _)
   | (with_reducible exact LeO.refl _)
   | (with_reducible exact LeO.none _)
   | (with_reducible refine LeO.ite ?_ ?_)
   | (with_reducible refine LeO.bind ?_ (fun _ => ?_))
   | exact impl_Item.mono _ _ _
   | exact LeO.none _
   | refine LeO.ite ?_ ?_
   | refine LeO.bind ?_ (fun _ => ?_)
set_option maxHeartbeats 8000000 in
set_option maxRecDepth 100000 in
theorem impl_SameView.calls (k : Nat) (A0_0 : Option Addr) (c0_0 : Nat) (l0_0 : List (S176)) (A1_0 : Option Addr) (c1_0 : Nat) (l1_0 : List (S176)) (r : Bool) (w : World) (hr0_0 : Kd.C k176 w A0_0 l0_0.length l0_0) (hc0_0 : l0_0.length ≤ c0_0) (hr1_0 : Kd.C k176 w A1_0 l1_0.length l1_0) (hc1_0 : l1_0.length ≤ c1_0) (h : impl_SameView.f k l0_0 l1_0 = some r) :
  Calls Try.prog 75 #[.agg #[.slice A0_0 l0_0.length c0_0], .agg #[.slice A1_0 l1_0.length c1_0]] w fun e w' => e = .returned (.bool r) ∧ Below w.heap.size w w' := by
 have hu117 := Try.underlying117
 have HR0_0 := Am hr0_0
 have HC0_0 := Am hc0_0
 clear hr0_0 hc0_0
 have HR1_0 := Am hr1_0
 have HC1_0 := Am hc1_0
 clear hr1_0 hc1_0
 have HB := Am (Below.refl w.heap.size w)
 have H : ((impl_Item.f k l0_0 l1_0).bind fun t324 => (some t324)) = some r := h
 clear h
 replace H := Option.bind_eq_some_iff.mp H
 obtain ⟨t324, A30, H⟩ := H
 replace H : (some t324) = some r := H
 have A3 := Am A30
 clear A30
 obtain rfl := Option.some.inj H
 go_enter Try.func75, Try.ntmps75
 go_wp2_with (first | ((with_reducible refine gate_dst (N := 2) rfl ?_); refine box_event ?hg (N := 2) ?hd (cs := #[.slice A0_0 l0_0.length c0_0]) (t := 117) ?hr ?_; (case hd => rfl); (case hg => rfl); (case hr => first | (go_simp; done) | (go_simp; rfl)); intro gb322 hg w4 hbox hb; have BK322 := Am (hbox); have GW322 := Am ((by rw [hg]; exact (bz zB) : w.heap.size ≤ gb322)); have GE322 := Am ((by rw [hg]; exact (bz zB) : w.heap.size ≤ gb322)); replace HB := Am (bq zB hb); clear hb hbox hg) | ((with_reducible refine gate_dst (N := 3) rfl ?_); refine box_event ?hg (N := 3) ?hd (cs := #[.slice A1_0 l1_0.length c1_0]) (t := 117) ?hr ?_; (case hd => rfl); (case hg => rfl); (case hr => first | (go_simp; done) | (go_simp; rfl)); intro gb323 hg w5 hbox hb; have n0_ := Am (zK BK322 hb); have n1_ := Am (bq zG hb); have n2_ := Am (hbox); have n3_ := Am ((by rw [hg]; exact (bz zG) : w.heap.size ≤ gb323)); have n4_ := Am ((by rw [hg]; exact (bz zG) : w.heap.size ≤ gb323)); have n5_ := Am ((by rw [hg]; exact Nat.ne_of_lt (zL BK322) : gb322 ≠ gb323)); have n6_ := Am ((by rw [hg]; exact Nat.ne_of_gt (zL BK322) : gb323 ≠ gb322)); clear BK322; clear HB; have BK322 := n0_; have HB := n1_; have BK323 := n2_; have GW323 := n3_; have GE323 := n4_; have NB322_323 := n5_; have NB323_322 := n6_; clear n0_ n1_ n2_ n3_ n4_ n5_ n6_; clear hb hbox hg; have hnb6 := NB322_323.out; have hnc6 := NB323_322.out; have hcz7_0 : w5.cell? ⟨gb322, 0, none⟩ = some (.slice A0_0 l0_0.length c0_0) := (kc BK322.out 0).trans rfl; have hfz7_0 := kf BK322.out; have hcz8_0 : w5.cell? ⟨gb323, 0, none⟩ = some (.slice A1_0 l1_0.length c1_0) := (kc BK323.out 0).trans rfl; have hfz8_0 := kf BK323.out) | ((with_reducible refine gate_callee (f := 123) rfl ?_); refine zC (some 9) rfl rfl Try.func123 rfl #[.slice A0_0 l0_0.length c0_0, .slice A1_0 l1_0.length c1_0] rfl ?_; (with_reducible refine (impl_Item.calls k _ _ l0_0 _ _ l1_0 t324 _ ?side1 ?side2 ?side3 ?side4 A3.out).mono ?_); (case side1 => repeat (first | exact (cb HR0_0.out HB.out) | (with_reducible first | refine ca ?_ _ | refine cn ?_ _ | refine ce ?_))); (case side2 => exact HC0_0.out); (case side3 => repeat (first | exact (cb HR1_0.out HB.out) | (with_reducible first | refine ca ?_ _ | refine cn ?_ _ | refine ce ?_))); (case side4 => exact HC1_0.out); rintro e w' ⟨rfl, ⟨nd, rfl⟩⟩; refine ⟨_, rfl, ?_⟩))
 go_ret
 exact ⟨zR, zG⟩

end Go.Proofs.Ytconffflmbakgaa.QFnExactOneOf
