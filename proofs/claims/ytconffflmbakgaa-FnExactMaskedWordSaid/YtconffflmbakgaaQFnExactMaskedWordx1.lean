/- Go functions as Lean functions, and their contracts. Own text: written by wip/gen/pr.py (a turned copy of the print). -/
import Derived.Test.YtconffflmbakgaaQFnExactMaskedWordx0
namespace Go.Proofs.Ytconffflmbakgaa.QFnExactMaskedWord
open Go.RowKit Go.Proofs.YtconffflmbakgaaW.PrintWords Go.Proofs.YtconffflmbakgaaW.PrintLast Go.Proofs.YtconffflmbakgaaW.PrintMore
attribute [local go_sem] max2_int min2_int max_two min_two max_three min_three max_four min_four   -- for this text's walks alone
open Go.Proofs.YtconffflmbakgaaW.PrintWords renaming below_alloc → ba, pw_below_drewN → bn, below_drew1 → be, below_set → bs, blk_drewN → kn, blk_drew → ke, blk_alloc → ka, blk_below → kb, blk_frozen → kf, blk_cell → kc, below_step → bq, below_size → bz
open Go.Proofs.YtconffflmbakgaaW.PrintWords.Kd renaming C_alloc → ca, C_drewN → cn, C_drew → ce, C_below → cb
open Go.Proofs.YtconffflmbakgaaW.PrintWords.Aside0 renaming mk → Am
set_option linter.unusedVariables false
set_option linter.unusedSimpArgs false

theorem cl1 {w w2 : World} {a : Addr} {v : Value} (h : Aside0 (Below w.heap.size w w2)) (e : w.cell? a = some v) : w2.cell? a = some v := (h.out.cell (World.block_lt_of_cell? w _ e)).trans e
def o1b0 (p0 : Int) (p1 : Int) (p2 : Int) (p3 : Int) : Obj := .cells #[.int .i64 p0, .int .i64 p1, .int .i64 p2, .int .i64 p3] 29 (0, 0)
/-! ### laws_szCell: function 95 -/
def laws_szCell.f (a0_0 : Int) (a0_1 : ByteArray) (a0_2 : Bool) (a1 : Int) : Option (Int) := if (wrap64 (a1 - (a0_1.size : Int))) < 0 then (some (-1)) else (some (wrap64 (a1 - (a0_1.size : Int))))
set_option maxHeartbeats 8000000 in
set_option maxRecDepth 100000 in
theorem laws_szCell.calls (a0_0 : Int) (a0_1 : ByteArray) (a0_2 : Bool) (a1 : Int) (r : Int) (w : World) (h : laws_szCell.f a0_0 a0_1 a0_2 a1 = some r) :
  Calls Try.prog 95 #[.agg #[.int .i64 a0_0, .string a0_1, .bool a0_2], .int .i64 a1] w fun e w' => e = .returned (.int .i64 r) ∧ Below w.heap.size w w' := by
 have hu149 := Try.underlying149
 have HB := Am (Below.refl w.heap.size w)
 have H : (if (wrap64 (a1 - (a0_1.size : Int))) < 0 then (some (-1)) else (some (wrap64 (a1 - (a0_1.size : Int))))) = some r := h
 clear h
 by_cases c3 : (wrap64 (a1 - (a0_1.size : Int))) < 0
 ·rw [if_pos c3] at H
  have c3b0 : decide ((wrap64 (a1 - (a0_1.size : Int))) < 0) = true := decide_eq_true c3
  clear c3
  obtain rfl := Option.some.inj H
  go_enter Try.func95, Try.ntmps95
  go_wp2_with (first | ((with_reducible refine gate_dst (N := 2) rfl ?_); refine box_event ?hg (N := 2) ?hd (cs := #[.int .i64 a0_0, .string a0_1, .bool a0_2]) (t := 149) ?hr ?_; (case hd => rfl); (case hg => rfl); (case hr => first | (go_simp; done) | (go_simp; rfl)); intro gb101 hg w4 hbox hb; have BK101 := Am (hbox); have GW101 := Am ((by rw [hg]; exact (bz (by repeat (first | (with_reducible first | exact HB.out | apply ba | apply bn | apply be) | exact HB.out))) : w.heap.size ≤ gb101)); have GE101 := Am ((by rw [hg]; exact (bz (by repeat (first | (with_reducible first | exact HB.out | apply ba | apply bn | apply be) | exact HB.out))) : w.heap.size ≤ gb101)); replace HB := Am (bq (by repeat (first | (with_reducible first | exact HB.out | apply ba | apply bn | apply be) | exact HB.out)) hb); clear hb hbox hg; have hcz5_0 : w4.cell? ⟨gb101, 0, none⟩ = some (.int .i64 a0_0) := (kc BK101.out 0).trans rfl; have hcz5_1 : w4.cell? ⟨gb101, 1, none⟩ = some (.string a0_1) := (kc BK101.out 1).trans rfl; have hcz5_2 : w4.cell? ⟨gb101, 2, none⟩ = some (.bool a0_2) := (kc BK101.out 2).trans rfl; have hfz5_0 := kf BK101.out 0; have hfz5_1 := kf BK101.out 1; have hfz5_2 := kf BK101.out 2))
  go_ret
  exact ⟨by first | rfl | (simp [errW_none, errW_some] <;> rfl) | (simp [*, errW_none, errW_some] <;> rfl), by repeat (first | (with_reducible first | exact HB.out | apply ba | apply bn | apply be | refine bs ?_ GE101.out) | exact HB.out)⟩
 ·rw [if_neg c3] at H
  have c3b0 : decide ((wrap64 (a1 - (a0_1.size : Int))) < 0) = false := decide_eq_false c3
  clear c3
  obtain rfl := Option.some.inj H
  go_enter Try.func95, Try.ntmps95
  go_wp2_with (first | ((with_reducible refine gate_dst (N := 2) rfl ?_); refine box_event ?hg (N := 2) ?hd (cs := #[.int .i64 a0_0, .string a0_1, .bool a0_2]) (t := 149) ?hr ?_; (case hd => rfl); (case hg => rfl); (case hr => first | (go_simp; done) | (go_simp; rfl)); intro gb101 hg w6 hbox hb; have BK101 := Am (hbox); have GW101 := Am ((by rw [hg]; exact (bz (by repeat (first | (with_reducible first | exact HB.out | apply ba | apply bn | apply be) | exact HB.out))) : w.heap.size ≤ gb101)); have GE101 := Am ((by rw [hg]; exact (bz (by repeat (first | (with_reducible first | exact HB.out | apply ba | apply bn | apply be) | exact HB.out))) : w.heap.size ≤ gb101)); replace HB := Am (bq (by repeat (first | (with_reducible first | exact HB.out | apply ba | apply bn | apply be) | exact HB.out)) hb); clear hb hbox hg; have hcz7_0 : w6.cell? ⟨gb101, 0, none⟩ = some (.int .i64 a0_0) := (kc BK101.out 0).trans rfl; have hcz7_1 : w6.cell? ⟨gb101, 1, none⟩ = some (.string a0_1) := (kc BK101.out 1).trans rfl; have hcz7_2 : w6.cell? ⟨gb101, 2, none⟩ = some (.bool a0_2) := (kc BK101.out 2).trans rfl; have hfz7_0 := kf BK101.out 0; have hfz7_1 := kf BK101.out 1; have hfz7_2 := kf BK101.out 2))
  go_ret
  exact ⟨by first | rfl | (simp [errW_none, errW_some] <;> rfl) | (simp [*, errW_none, errW_some] <;> rfl), by repeat (first | (with_reducible first | exact HB.out | apply ba | apply bn | apply be | refine bs ?_ GE101.out) | exact HB.out)⟩

/-! ### laws_szCellS: function 44 -/
def laws_szCellS.l0 : Nat → List (S149) → Int → Int → Option (Int)
 | 0, _, _, _ => none
 | k + 1, x0, x1, x5 => if x5 < (x0.length : Int) then (if 0 ≤ x5 then ((laws_szCell.f ((rd_T149 x0 x5).f0) ((rd_T149 x0 x5).f1) ((rd_T149 x0 x5).f2) x1).bind fun t103 => (if t103 < 0 then (some (-1)) else (laws_szCellS.l0 k x0 t103 (wrap64 (x5 + 1))))) else (none)) else (some x1)
def laws_szCellS.f (k : Nat) (l0 : List (S149)) (a1 : Int) : Option (Int) := if (wrap64 (a1 - (l0.length : Int))) < 0 then (some (-1)) else (laws_szCellS.l0 k l0 (wrap64 (a1 - (l0.length : Int))) 0)
theorem laws_szCellS.mono_l : ∀ k, (∀ y0 y1 y2, LeO (laws_szCellS.l0 k y0 y1 y2) (laws_szCellS.l0 (k + 1) y0 y1 y2))
 | 0 => fun _ _ _ r h => by simp [laws_szCellS.l0] at h
 | k + 1 => by
  have ih0 := laws_szCellS.mono_l k
  ·intro y0 y1 y2
   unfold laws_szCellS.l0
   repeat' first
   | (with_reducible exact ih0 _ _ _)
   | (with_reducible exact LeO.refl _)
   | (with_reducible exact LeO.none _)
   | (with_reducible refine LeO.ite ?_ ?_)
   | (with_reducible refine LeO.bind ?_ (fun _ => ?_))
   | exact ih0 _ _ _
   | exact LeO.none _
   | refine LeO.ite ?_ ?_
   | refine LeO.bind ?_ (fun _ => ?_)
theorem laws_szCellS.mono : ∀ a0 a1 k, LeO (laws_szCellS.f k a0 a1) (laws_szCellS.f (k + 1) a0 a1) := by
 intro a0 a1 k
 have ih0 := laws_szCellS.mono_l k
 unfold laws_szCellS.f
 repeat' first
   | (with_reducible exact ih0 _ _ _)
   | (with_reducible exact LeO.refl _)
   | (with_reducible exact LeO.none _)
   | (with_reducible refine LeO.ite ?_ ?_)
   | (with_reducible refine LeO.bind ?_ (fun _ => ?_))
   | exact ih0 _ _ _
   | exact LeO.none _
   | refine LeO.ite ?_ ?_
   | refine LeO.bind ?_ (fun _ => ?_)
set_option maxHeartbeats 8000000 in
set_option maxRecDepth 100000 in
theorem laws_szCellS.calls (k : Nat) (A0 : Option Addr) (c0 : Nat) (l0 : List (S149)) (a1 : Int) (r : Int) (w : World) (hr0 : Kd.C k149 w A0 l0.length l0) (hc0 : l0.length ≤ c0) (h : laws_szCellS.f k l0 a1 = some r) :
  Calls Try.prog 44 #[.slice A0 l0.length c0, .int .i64 a1] w fun e w' => e = .returned (.int .i64 r) ∧ Below w.heap.size w w' := by
 have hu149 := Try.underlying149
 have HR0 := Am hr0
 have HC0 := Am hc0
 clear hr0 hc0
 have HB := Am (Below.refl w.heap.size w)
 have H : (if (wrap64 (a1 - (l0.length : Int))) < 0 then (some (-1)) else (laws_szCellS.l0 k l0 (wrap64 (a1 - (l0.length : Int))) 0)) = some r := h
 clear h
 by_cases c3 : (wrap64 (a1 - (l0.length : Int))) < 0
 ·rw [if_pos c3] at H
  have c3b0 : decide ((wrap64 (a1 - (l0.length : Int))) < 0) = true := decide_eq_true c3
  clear c3
  obtain rfl := Option.some.inj H
  go_enter Try.func44, Try.ntmps44
  go_wp2
  go_ret
  exact ⟨by first | rfl | (simp [errW_none, errW_some] <;> rfl) | (simp [*, errW_none, errW_some] <;> rfl), by repeat (first | (with_reducible first | exact HB.out | apply ba | apply bn | apply be) | exact HB.out)⟩
 ·rw [if_neg c3] at H
  have c3b0 : decide ((wrap64 (a1 - (l0.length : Int))) < 0) = false := decide_eq_false c3
  clear c3
  have H' := Am H
  clear H
  go_enter Try.func44, Try.ntmps44
  go_wp2
  go_loopg [1, 5] k (fun kq v1 v5 w' => ∃ (x1_1 : Int) (x5_1 : Int), v1 = .int .i64 x1_1 ∧ v5 = .int .i64 x5_1 ∧ Aside0 (laws_szCellS.l0 kq l0 x1_1 x5_1 = some r) ∧ Aside0 (kq ≤ k) ∧ Aside0 (Below w.heap.size w w'))
  case atStart => exact ⟨(wrap64 (a1 - (l0.length : Int))), (0), (by first | rfl | (simp; done) | (simp [*]; done)), (by first | rfl | (simp; done) | (simp [*]; done)), H', ⟨Nat.le_refl _⟩, ⟨by repeat (first | (with_reducible first | exact HB.out | apply ba | apply bn | apply be) | exact HB.out)⟩⟩
  case round =>
   clear H'
   try clear p2
   try clear c3
   try clear c3b0
   obtain ⟨x1_1, x5_1, rfl, rfl, HA, HK1, HB⟩ := hrel
   cases gk with
   | zero => exact absurd HA.out (by simp [laws_szCellS.l0])
   | succ k1 =>
    have H := HA.out
    clear HA
    simp only [laws_szCellS.l0] at H
    by_cases c4 : x5_1 < (l0.length : Int)
    ·rw [if_pos c4] at H
     have c4b0 : decide (x5_1 < (l0.length : Int)) = true := decide_eq_true c4
     clear c4
     by_cases c5 : 0 ≤ x5_1
     ·rw [if_pos c5] at H
      have c5b0 : decide (0 ≤ x5_1) = true := decide_eq_true c5
      clear c5
      replace H := Option.bind_eq_some_iff.mp H
      obtain ⟨t103, A60, H⟩ := H
      replace H : (if t103 < 0 then (some (-1)) else (laws_szCellS.l0 k1 l0 t103 (wrap64 (x5_1 + 1)))) = some r := H
      have A6 := Am A60
      clear A60
      by_cases c7 : t103 < 0
      ·rw [if_pos c7] at H
       have c7b0 : decide (t103 < 0) = true := decide_eq_true c7
       clear c7
       obtain rfl := Option.some.inj H
       have p102 : 0 ≤ (x5_1 : Int) := of_decide_eq_true (by first | (with_reducible assumption) | assumption)
       have q102 : x5_1 < (l0.length : Int) := of_decide_eq_true (by first | (with_reducible assumption) | assumption)
       obtain ⟨ad102, e102, hx102_0, hx102_1, hx102_2⟩ := at_T149 HR0.out x5_1 p102 q102
       cases e102
       replace hx102_0 := cl1 HB hx102_0
       replace hx102_1 := cl1 HB hx102_1
       replace hx102_2 := cl1 HB hx102_2
       replace p102 := eq_true p102
       replace q102 := eq_true q102
       go_wp2_with (first | ((with_reducible refine gate_callee (f := 95) rfl ?_); refine goesL_ (some 23) rfl rfl Try.func95 (by kernel_rfl) rfl #[.agg #[.int .i64 ((rd_T149 l0 x5_1).f0), .string ((rd_T149 l0 x5_1).f1), .bool ((rd_T149 l0 x5_1).f2)], .int .i64 x1_1] rfl (by (try simp only [List.map_toArray, List.map_cons, List.map_nil]); first | done | rfl | (simp only [List.length_drop, List.length_take]; rfl)) ?_; (with_reducible refine (laws_szCell.calls ((rd_T149 l0 x5_1).f0) ((rd_T149 l0 x5_1).f1) ((rd_T149 l0 x5_1).f2) x1_1 t103 _ A6.out).mono ?_); rintro e w8 ⟨rfl, hb⟩; refine ⟨_, rfl, ?_⟩; replace HB := Am (bq (by repeat (first | (with_reducible first | exact HB.out | apply ba | apply bn | apply be) | exact HB.out)) hb); (try clear hb)))
       go_ret
       exact ⟨by first | rfl | (simp [errW_none, errW_some] <;> rfl) | (simp [*, errW_none, errW_some] <;> rfl), by repeat (first | (with_reducible first | exact HB.out | apply ba | apply bn | apply be) | exact HB.out)⟩
      ·rw [if_neg c7] at H
       have c7b0 : decide (t103 < 0) = false := decide_eq_false c7
       clear c7
       have H' := Am H
       clear H
       have p102 : 0 ≤ (x5_1 : Int) := of_decide_eq_true (by first | (with_reducible assumption) | assumption)
       have q102 : x5_1 < (l0.length : Int) := of_decide_eq_true (by first | (with_reducible assumption) | assumption)
       obtain ⟨ad102, e102, hx102_0, hx102_1, hx102_2⟩ := at_T149 HR0.out x5_1 p102 q102
       cases e102
       replace hx102_0 := cl1 HB hx102_0
       replace hx102_1 := cl1 HB hx102_1
       replace hx102_2 := cl1 HB hx102_2
       replace p102 := eq_true p102
       replace q102 := eq_true q102
       go_wp2_with (first | ((with_reducible refine gate_callee (f := 95) rfl ?_); refine goesL_ (some 23) rfl rfl Try.func95 (by kernel_rfl) rfl #[.agg #[.int .i64 ((rd_T149 l0 x5_1).f0), .string ((rd_T149 l0 x5_1).f1), .bool ((rd_T149 l0 x5_1).f2)], .int .i64 x1_1] rfl (by (try simp only [List.map_toArray, List.map_cons, List.map_nil]); first | done | rfl | (simp only [List.length_drop, List.length_take]; rfl)) ?_; (with_reducible refine (laws_szCell.calls ((rd_T149 l0 x5_1).f0) ((rd_T149 l0 x5_1).f1) ((rd_T149 l0 x5_1).f2) x1_1 t103 _ A6.out).mono ?_); rintro e w9 ⟨rfl, hb⟩; refine ⟨_, rfl, ?_⟩; replace HB := Am (bq (by repeat (first | (with_reducible first | exact HB.out | apply ba | apply bn | apply be) | exact HB.out)) hb); (try clear hb)))
       go_roundg k1
       case measure => have := HK1.out; omega
       case rel => exact ⟨(t103), (wrap64 (x5_1 + 1)), (by first | rfl | (simp; done) | (simp [*]; done)), (by first | rfl | (simp; done) | (simp [*]; done)), H', ⟨by have := HK1.out; omega⟩, ⟨by repeat (first | (with_reducible first | exact HB.out | apply ba | apply bn | apply be) | exact HB.out)⟩⟩
     ·rw [if_neg c5] at H
      exact absurd H (by simp)
    ·rw [if_neg c4] at H
     have c4b0 : decide (x5_1 < (l0.length : Int)) = false := decide_eq_false c4
     clear c4
     obtain rfl := Option.some.inj H
     go_wp2
     go_ret
     exact ⟨by first | rfl | (simp [errW_none, errW_some] <;> rfl) | (simp [*, errW_none, errW_some] <;> rfl), by repeat (first | (with_reducible first | exact HB.out | apply ba | apply bn | apply be) | exact HB.out)⟩

/-! ### laws_szMemory: function 10 -/
def laws_szMemory.f (k : Nat) (a0_0 : ByteArray) (l0_1 : List (S149)) (a1 : Int) : Option (Int) := if (wrap64 (a1 - (a0_0.size : Int))) < 0 then (some (-1)) else ((laws_szCellS.f k l0_1 (wrap64 (a1 - (a0_0.size : Int)))).bind fun t105 => (if t105 < 0 then (some (-1)) else (some t105)))
theorem laws_szMemory.mono : ∀ a0 a1 a2 k, LeO (laws_szMemory.f k a0 a1 a2) (laws_szMemory.f (k + 1) a0 a1 a2) := by
 intro a0 a1 a2 k
 unfold laws_szMemory.f
 repeat' first
   | (with_reducible exact laws_szCellS.mono _ _ _)
   | (with_reducible exact LeO.refl _)
   | (with_reducible exact LeO.none _)
   | (with_reducible refine LeO.ite ?_ ?_)
   | (with_reducible refine LeO.bind ?_ (fun _ => ?_))
   | exact laws_szCellS.mono _ _ _
   | exact LeO.none _
   | refine LeO.ite ?_ ?_
   | refine LeO.bind ?_ (fun _ => ?_)
set_option maxHeartbeats 8000000 in
set_option maxRecDepth 100000 in
theorem laws_szMemory.calls (k : Nat) (a0_0 : ByteArray) (A0_1 : Option Addr) (c0_1 : Nat) (l0_1 : List (S149)) (a1 : Int) (r : Int) (w : World) (hr0_1 : Kd.C k149 w A0_1 l0_1.length l0_1) (hc0_1 : l0_1.length ≤ c0_1) (h : laws_szMemory.f k a0_0 l0_1 a1 = some r) :
  Calls Try.prog 10 #[.agg #[.string a0_0, .slice A0_1 l0_1.length c0_1], .int .i64 a1] w fun e w' => e = .returned (.int .i64 r) ∧ Below w.heap.size w w' := by
 have hu26 := Try.underlying26
 have HR0_1 := Am hr0_1
 have HC0_1 := Am hc0_1
 clear hr0_1 hc0_1
 have HB := Am (Below.refl w.heap.size w)
 have H : (if (wrap64 (a1 - (a0_0.size : Int))) < 0 then (some (-1)) else ((laws_szCellS.f k l0_1 (wrap64 (a1 - (a0_0.size : Int)))).bind fun t105 => (if t105 < 0 then (some (-1)) else (some t105)))) = some r := h
 clear h
 by_cases c3 : (wrap64 (a1 - (a0_0.size : Int))) < 0
 ·rw [if_pos c3] at H
  have c3b0 : decide ((wrap64 (a1 - (a0_0.size : Int))) < 0) = true := decide_eq_true c3
  clear c3
  obtain rfl := Option.some.inj H
  go_enter Try.func10, Try.ntmps10
  go_wp2_with (first | ((with_reducible refine gate_dst (N := 2) rfl ?_); refine box_event ?hg (N := 2) ?hd (cs := #[.string a0_0, .slice A0_1 l0_1.length c0_1]) (t := 26) ?hr ?_; (case hd => rfl); (case hg => rfl); (case hr => first | (go_simp; done) | (go_simp; rfl)); intro gb104 hg w4 hbox hb; have BK104 := Am (hbox); have GW104 := Am ((by rw [hg]; exact (bz (by repeat (first | (with_reducible first | exact HB.out | apply ba | apply bn | apply be) | exact HB.out))) : w.heap.size ≤ gb104)); have GE104 := Am ((by rw [hg]; exact (bz (by repeat (first | (with_reducible first | exact HB.out | apply ba | apply bn | apply be) | exact HB.out))) : w.heap.size ≤ gb104)); replace HB := Am (bq (by repeat (first | (with_reducible first | exact HB.out | apply ba | apply bn | apply be) | exact HB.out)) hb); clear hb hbox hg; have hcz5_0 : w4.cell? ⟨gb104, 0, none⟩ = some (.string a0_0) := (kc BK104.out 0).trans rfl; have hcz5_1 : w4.cell? ⟨gb104, 1, none⟩ = some (.slice A0_1 l0_1.length c0_1) := (kc BK104.out 1).trans rfl; have hfz5_0 := kf BK104.out 0; have hfz5_1 := kf BK104.out 1))
  go_ret
  exact ⟨by first | rfl | (simp [errW_none, errW_some] <;> rfl) | (simp [*, errW_none, errW_some] <;> rfl), by repeat (first | (with_reducible first | exact HB.out | apply ba | apply bn | apply be | refine bs ?_ GE104.out) | exact HB.out)⟩
 ·rw [if_neg c3] at H
  have c3b0 : decide ((wrap64 (a1 - (a0_0.size : Int))) < 0) = false := decide_eq_false c3
  clear c3
  replace H := Option.bind_eq_some_iff.mp H
  obtain ⟨t105, A60, H⟩ := H
  replace H : (if t105 < 0 then (some (-1)) else (some t105)) = some r := H
  have A6 := Am A60
  clear A60
  by_cases c7 : t105 < 0
  ·rw [if_pos c7] at H
   have c7b0 : decide (t105 < 0) = true := decide_eq_true c7
   clear c7
   obtain rfl := Option.some.inj H
   go_enter Try.func10, Try.ntmps10
   go_wp2_with (first | ((with_reducible refine gate_dst (N := 2) rfl ?_); refine box_event ?hg (N := 2) ?hd (cs := #[.string a0_0, .slice A0_1 l0_1.length c0_1]) (t := 26) ?hr ?_; (case hd => rfl); (case hg => rfl); (case hr => first | (go_simp; done) | (go_simp; rfl)); intro gb104 hg w8 hbox hb; have BK104 := Am (hbox); have GW104 := Am ((by rw [hg]; exact (bz (by repeat (first | (with_reducible first | exact HB.out | apply ba | apply bn | apply be) | exact HB.out))) : w.heap.size ≤ gb104)); have GE104 := Am ((by rw [hg]; exact (bz (by repeat (first | (with_reducible first | exact HB.out | apply ba | apply bn | apply be) | exact HB.out))) : w.heap.size ≤ gb104)); replace HB := Am (bq (by repeat (first | (with_reducible first | exact HB.out | apply ba | apply bn | apply be) | exact HB.out)) hb); clear hb hbox hg; have hcz9_0 : w8.cell? ⟨gb104, 0, none⟩ = some (.string a0_0) := (kc BK104.out 0).trans rfl; have hcz9_1 : w8.cell? ⟨gb104, 1, none⟩ = some (.slice A0_1 l0_1.length c0_1) := (kc BK104.out 1).trans rfl; have hfz9_0 := kf BK104.out 0; have hfz9_1 := kf BK104.out 1) | ((with_reducible refine gate_callee (f := 44) rfl ?_); refine goesL_ (some 15) rfl rfl Try.func44 (by kernel_rfl) rfl #[.slice A0_1 l0_1.length c0_1, .int .i64 (wrap64 (a1 - (a0_0.size : Int)))] rfl (by (try simp only [List.map_toArray, List.map_cons, List.map_nil]); first | done | rfl | (simp only [List.length_drop, List.length_take]; rfl)) ?_; (with_reducible refine (laws_szCellS.calls k _ _ l0_1 (wrap64 (a1 - (a0_0.size : Int))) t105 _ ?side1 ?side2 A6.out).mono ?_); (case side1 => repeat (first | exact (cb HR0_1.out HB.out) | (with_reducible first | refine ca ?_ _ | refine cn ?_ _ | refine ce ?_))); (case side2 => exact HC0_1.out); rintro e w10 ⟨rfl, hb⟩; refine ⟨_, rfl, ?_⟩; have n0_ := Am (kb (g := gb104) (o := .cells #[.string a0_0, .slice A0_1 l0_1.length c0_1] 26 (0, 0)) (by (with_reducible repeat (first | refine kn ?_ _ | refine ke ?_ | refine ka ?_ _)); exact BK104.out) hb); have n1_ := Am (bq (by repeat (first | (with_reducible first | exact HB.out | apply ba | apply bn | apply be | refine bs ?_ GE104.out) | exact HB.out)) hb); clear BK104; clear HB; have BK104 := n0_; have HB := n1_; clear n0_ n1_; (try clear hb)))
   go_ret
   exact ⟨by first | rfl | (simp [errW_none, errW_some] <;> rfl) | (simp [*, errW_none, errW_some] <;> rfl), by repeat (first | (with_reducible first | exact HB.out | apply ba | apply bn | apply be | refine bs ?_ GE104.out) | exact HB.out)⟩
  ·rw [if_neg c7] at H
   have c7b0 : decide (t105 < 0) = false := decide_eq_false c7
   clear c7
   obtain rfl := Option.some.inj H
   go_enter Try.func10, Try.ntmps10
   go_wp2_with (first | ((with_reducible refine gate_dst (N := 2) rfl ?_); refine box_event ?hg (N := 2) ?hd (cs := #[.string a0_0, .slice A0_1 l0_1.length c0_1]) (t := 26) ?hr ?_; (case hd => rfl); (case hg => rfl); (case hr => first | (go_simp; done) | (go_simp; rfl)); intro gb104 hg w11 hbox hb; have BK104 := Am (hbox); have GW104 := Am ((by rw [hg]; exact (bz (by repeat (first | (with_reducible first | exact HB.out | apply ba | apply bn | apply be) | exact HB.out))) : w.heap.size ≤ gb104)); have GE104 := Am ((by rw [hg]; exact (bz (by repeat (first | (with_reducible first | exact HB.out | apply ba | apply bn | apply be) | exact HB.out))) : w.heap.size ≤ gb104)); replace HB := Am (bq (by repeat (first | (with_reducible first | exact HB.out | apply ba | apply bn | apply be) | exact HB.out)) hb); clear hb hbox hg; have hcz12_0 : w11.cell? ⟨gb104, 0, none⟩ = some (.string a0_0) := (kc BK104.out 0).trans rfl; have hcz12_1 : w11.cell? ⟨gb104, 1, none⟩ = some (.slice A0_1 l0_1.length c0_1) := (kc BK104.out 1).trans rfl; have hfz12_0 := kf BK104.out 0; have hfz12_1 := kf BK104.out 1) | ((with_reducible refine gate_callee (f := 44) rfl ?_); refine goesL_ (some 15) rfl rfl Try.func44 (by kernel_rfl) rfl #[.slice A0_1 l0_1.length c0_1, .int .i64 (wrap64 (a1 - (a0_0.size : Int)))] rfl (by (try simp only [List.map_toArray, List.map_cons, List.map_nil]); first | done | rfl | (simp only [List.length_drop, List.length_take]; rfl)) ?_; (with_reducible refine (laws_szCellS.calls k _ _ l0_1 (wrap64 (a1 - (a0_0.size : Int))) t105 _ ?side1 ?side2 A6.out).mono ?_); (case side1 => repeat (first | exact (cb HR0_1.out HB.out) | (with_reducible first | refine ca ?_ _ | refine cn ?_ _ | refine ce ?_))); (case side2 => exact HC0_1.out); rintro e w13 ⟨rfl, hb⟩; refine ⟨_, rfl, ?_⟩; have n0_ := Am (kb (g := gb104) (o := .cells #[.string a0_0, .slice A0_1 l0_1.length c0_1] 26 (0, 0)) (by (with_reducible repeat (first | refine kn ?_ _ | refine ke ?_ | refine ka ?_ _)); exact BK104.out) hb); have n1_ := Am (bq (by repeat (first | (with_reducible first | exact HB.out | apply ba | apply bn | apply be | refine bs ?_ GE104.out) | exact HB.out)) hb); clear BK104; clear HB; have BK104 := n0_; have HB := n1_; clear n0_ n1_; (try clear hb)))
   go_ret
   exact ⟨by first | rfl | (simp [errW_none, errW_some] <;> rfl) | (simp [*, errW_none, errW_some] <;> rfl), by repeat (first | (with_reducible first | exact HB.out | apply ba | apply bn | apply be | refine bs ?_ GE104.out) | exact HB.out)⟩

/-! ### spec_l01In: function 47 -/
def spec_l01In.f (a0 : Int) (a1 : Int) (a2 : Int) : Option (Bool) := if a0 ≥ a1 then (some (decide (a0 ≤ a2))) else (some false)
set_option maxHeartbeats 8000000 in
set_option maxRecDepth 100000 in
theorem spec_l01In.calls (a0 : Int) (a1 : Int) (a2 : Int) (r : Bool) (w : World) (h : spec_l01In.f a0 a1 a2 = some r) :
  Calls Try.prog 47 #[.int .i64 a0, .int .i64 a1, .int .i64 a2] w fun e w' => e = .returned (.bool r) ∧ Drawn0 w w' := by
 have H : (if a0 ≥ a1 then (some (decide (a0 ≤ a2))) else (some false)) = some r := h
 clear h
 by_cases c4 : a0 ≥ a1
 ·rw [if_pos c4] at H
  have c4b0 : decide (a1 ≤ a0) = true := decide_eq_true c4
  clear c4
  obtain rfl := Option.some.inj H
  go_enter Try.func47, Try.ntmps47
  go_wp2
  go_ret
  exact ⟨by first | rfl | (simp; done) | (simp [*]; done), by repeat (first | exact Drawn0.refl _ | apply Drawn0.step)⟩
 ·rw [if_neg c4] at H
  have c4b0 : decide (a1 ≤ a0) = false := decide_eq_false c4
  clear c4
  obtain rfl := Option.some.inj H
  go_enter Try.func47, Try.ntmps47
  go_wp2
  go_ret
  exact ⟨by first | rfl | (simp; done) | (simp [*]; done), by repeat (first | exact Drawn0.refl _ | apply Drawn0.step)⟩

/-! ### spec_GeoOk: function 96 -/
def spec_GeoOk.f (a0_0 : Int) (a0_1 : Int) (a0_2 : Int) (a0_3 : Int) : Option (Bool) := (spec_l01In.f a0_0 1 3).bind fun t107 => (if t107 = true then ((spec_l01In.f a0_1 5 12).bind fun t108 => (if t108 = true then ((spec_l01In.f a0_2 2 6).bind fun t109 => (if t109 = true then ((spec_l01In.f a0_3 1 (wrap64 (a0_1 - 4))).bind fun t110 => (some t110)) else (some false))) else (some false))) else (some false))
set_option maxHeartbeats 8000000 in
set_option maxRecDepth 100000 in
theorem spec_GeoOk.calls (a0_0 : Int) (a0_1 : Int) (a0_2 : Int) (a0_3 : Int) (r : Bool) (w : World) (h : spec_GeoOk.f a0_0 a0_1 a0_2 a0_3 = some r) :
  Calls Try.prog 96 #[.agg #[.int .i64 a0_0, .int .i64 a0_1, .int .i64 a0_2, .int .i64 a0_3]] w fun e w' => e = .returned (.bool r) ∧ Below w.heap.size w w' := by
 have hu29 := Try.underlying29
 have HB := Am (Below.refl w.heap.size w)
 have H : ((spec_l01In.f a0_0 1 3).bind fun t107 => (if t107 = true then ((spec_l01In.f a0_1 5 12).bind fun t108 => (if t108 = true then ((spec_l01In.f a0_2 2 6).bind fun t109 => (if t109 = true then ((spec_l01In.f a0_3 1 (wrap64 (a0_1 - 4))).bind fun t110 => (some t110)) else (some false))) else (some false))) else (some false))) = some r := h
 clear h
 replace H := Option.bind_eq_some_iff.mp H
 obtain ⟨t107, A20, H⟩ := H
 replace H : (if t107 = true then ((spec_l01In.f a0_1 5 12).bind fun t108 => (if t108 = true then ((spec_l01In.f a0_2 2 6).bind fun t109 => (if t109 = true then ((spec_l01In.f a0_3 1 (wrap64 (a0_1 - 4))).bind fun t110 => (some t110)) else (some false))) else (some false))) else (some false)) = some r := H
 have A2 := Am A20
 clear A20
 by_cases c3 : t107 = true
 ·subst c3
  have H1 : ((spec_l01In.f a0_1 5 12).bind fun t108 => (if t108 = true then ((spec_l01In.f a0_2 2 6).bind fun t109 => (if t109 = true then ((spec_l01In.f a0_3 1 (wrap64 (a0_1 - 4))).bind fun t110 => (some t110)) else (some false))) else (some false))) = some r := by rw [if_pos rfl] at H; exact H
  clear H
  have H := H1
  clear H1
  replace H := Option.bind_eq_some_iff.mp H
  obtain ⟨t108, A40, H⟩ := H
  replace H : (if t108 = true then ((spec_l01In.f a0_2 2 6).bind fun t109 => (if t109 = true then ((spec_l01In.f a0_3 1 (wrap64 (a0_1 - 4))).bind fun t110 => (some t110)) else (some false))) else (some false)) = some r := H
  have A4 := Am A40
  clear A40
  by_cases c5 : t108 = true
  ·subst c5
   have H1 : ((spec_l01In.f a0_2 2 6).bind fun t109 => (if t109 = true then ((spec_l01In.f a0_3 1 (wrap64 (a0_1 - 4))).bind fun t110 => (some t110)) else (some false))) = some r := by rw [if_pos rfl] at H; exact H
   clear H
   have H := H1
   clear H1
   replace H := Option.bind_eq_some_iff.mp H
   obtain ⟨t109, A60, H⟩ := H
   replace H : (if t109 = true then ((spec_l01In.f a0_3 1 (wrap64 (a0_1 - 4))).bind fun t110 => (some t110)) else (some false)) = some r := H
   have A6 := Am A60
   clear A60
   by_cases c7 : t109 = true
   ·subst c7
    have H1 : ((spec_l01In.f a0_3 1 (wrap64 (a0_1 - 4))).bind fun t110 => (some t110)) = some r := by rw [if_pos rfl] at H; exact H
    clear H
    have H := H1
    clear H1
    replace H := Option.bind_eq_some_iff.mp H
    obtain ⟨t110, A80, H⟩ := H
    replace H : (some t110) = some r := H
    have A8 := Am A80
    clear A80
    obtain rfl := Option.some.inj H
    go_enter Try.func96, Try.ntmps96
    go_wp2_with (first | ((with_reducible refine gate_dst (N := 1) rfl ?_); refine box_event ?hg (N := 1) ?hd (cs := #[.int .i64 a0_0, .int .i64 a0_1, .int .i64 a0_2, .int .i64 a0_3]) (t := 29) ?hr ?_; (case hd => rfl); (case hg => rfl); (case hr => first | (go_simp; done) | (go_simp; rfl)); intro gb106 hg w9 hbox hb; have BK106 := Am (hbox); have GW106 := Am ((by rw [hg]; exact (bz (by repeat (first | (with_reducible first | exact HB.out | apply ba | apply bn | apply be) | exact HB.out))) : w.heap.size ≤ gb106)); have GE106 := Am ((by rw [hg]; exact (bz (by repeat (first | (with_reducible first | exact HB.out | apply ba | apply bn | apply be) | exact HB.out))) : w.heap.size ≤ gb106)); replace HB := Am (bq (by repeat (first | (with_reducible first | exact HB.out | apply ba | apply bn | apply be) | exact HB.out)) hb); clear hb hbox hg; have hcz10_0 : w9.cell? ⟨gb106, 0, none⟩ = some (.int .i64 a0_0) := (kc BK106.out 0).trans rfl; have hcz10_1 : w9.cell? ⟨gb106, 1, none⟩ = some (.int .i64 a0_1) := (kc BK106.out 1).trans rfl; have hcz10_2 : w9.cell? ⟨gb106, 2, none⟩ = some (.int .i64 a0_2) := (kc BK106.out 2).trans rfl; have hcz10_3 : w9.cell? ⟨gb106, 3, none⟩ = some (.int .i64 a0_3) := (kc BK106.out 3).trans rfl; have hfz10_0 := kf BK106.out 0; have hfz10_1 := kf BK106.out 1; have hfz10_2 := kf BK106.out 2; have hfz10_3 := kf BK106.out 3) | ((with_reducible refine gate_callee (f := 47) rfl ?_); refine goesL_ (some 5) rfl rfl Try.func47 (by kernel_rfl) rfl #[.int .i64 a0_0, .int .i64 1, .int .i64 3] rfl (by (try simp only [List.map_toArray, List.map_cons, List.map_nil]); first | done | rfl | (simp only [List.length_drop, List.length_take]; rfl)) ?_; (with_reducible refine (spec_l01In.calls a0_0 1 3 true _ A2.out).mono ?_); rintro e w' ⟨rfl, ⟨nd, rfl⟩⟩; refine ⟨_, rfl, ?_⟩) | (go_at_call 47; (with_reducible refine (spec_l01In.calls a0_1 5 12 true _ A4.out).mono ?_); rintro e w' ⟨rfl, ⟨nd, rfl⟩⟩) | (go_at_call 47; (with_reducible refine (spec_l01In.calls a0_2 2 6 true _ A6.out).mono ?_); rintro e w' ⟨rfl, ⟨nd, rfl⟩⟩) | (go_at_call 47; (with_reducible refine (spec_l01In.calls a0_3 1 (wrap64 (a0_1 - 4)) t110 _ A8.out).mono ?_); rintro e w' ⟨rfl, ⟨nd, rfl⟩⟩))
    go_ret
    exact ⟨by first | rfl | (simp [errW_none, errW_some] <;> rfl) | (simp [*, errW_none, errW_some] <;> rfl), by repeat (first | (with_reducible first | exact HB.out | apply ba | apply bn | apply be | refine bs ?_ GE106.out) | exact HB.out)⟩
   ·replace c7 := Bool.eq_false_iff.mpr c7
    subst c7
    have H1 : (some false) = some r := by rw [if_neg (show ¬ (false = true) by decide)] at H; exact H
    clear H
    have H := H1
    clear H1
    obtain rfl := Option.some.inj H
    go_enter Try.func96, Try.ntmps96
    go_wp2_with (first | ((with_reducible refine gate_dst (N := 1) rfl ?_); refine box_event ?hg (N := 1) ?hd (cs := #[.int .i64 a0_0, .int .i64 a0_1, .int .i64 a0_2, .int .i64 a0_3]) (t := 29) ?hr ?_; (case hd => rfl); (case hg => rfl); (case hr => first | (go_simp; done) | (go_simp; rfl)); intro gb106 hg w11 hbox hb; have BK106 := Am (hbox); have GW106 := Am ((by rw [hg]; exact (bz (by repeat (first | (with_reducible first | exact HB.out | apply ba | apply bn | apply be) | exact HB.out))) : w.heap.size ≤ gb106)); have GE106 := Am ((by rw [hg]; exact (bz (by repeat (first | (with_reducible first | exact HB.out | apply ba | apply bn | apply be) | exact HB.out))) : w.heap.size ≤ gb106)); replace HB := Am (bq (by repeat (first | (with_reducible first | exact HB.out | apply ba | apply bn | apply be) | exact HB.out)) hb); clear hb hbox hg; have hcz12_0 : w11.cell? ⟨gb106, 0, none⟩ = some (.int .i64 a0_0) := (kc BK106.out 0).trans rfl; have hcz12_1 : w11.cell? ⟨gb106, 1, none⟩ = some (.int .i64 a0_1) := (kc BK106.out 1).trans rfl; have hcz12_2 : w11.cell? ⟨gb106, 2, none⟩ = some (.int .i64 a0_2) := (kc BK106.out 2).trans rfl; have hcz12_3 : w11.cell? ⟨gb106, 3, none⟩ = some (.int .i64 a0_3) := (kc BK106.out 3).trans rfl; have hfz12_0 := kf BK106.out 0; have hfz12_1 := kf BK106.out 1; have hfz12_2 := kf BK106.out 2; have hfz12_3 := kf BK106.out 3) | ((with_reducible refine gate_callee (f := 47) rfl ?_); refine goesL_ (some 5) rfl rfl Try.func47 (by kernel_rfl) rfl #[.int .i64 a0_0, .int .i64 1, .int .i64 3] rfl (by (try simp only [List.map_toArray, List.map_cons, List.map_nil]); first | done | rfl | (simp only [List.length_drop, List.length_take]; rfl)) ?_; (with_reducible refine (spec_l01In.calls a0_0 1 3 true _ A2.out).mono ?_); rintro e w' ⟨rfl, ⟨nd, rfl⟩⟩; refine ⟨_, rfl, ?_⟩) | (go_at_call 47; (with_reducible refine (spec_l01In.calls a0_1 5 12 true _ A4.out).mono ?_); rintro e w' ⟨rfl, ⟨nd, rfl⟩⟩) | (go_at_call 47; (with_reducible refine (spec_l01In.calls a0_2 2 6 false _ A6.out).mono ?_); rintro e w' ⟨rfl, ⟨nd, rfl⟩⟩))
    go_ret
    exact ⟨by first | rfl | (simp [errW_none, errW_some] <;> rfl) | (simp [*, errW_none, errW_some] <;> rfl), by repeat (first | (with_reducible first | exact HB.out | apply ba | apply bn | apply be | refine bs ?_ GE106.out) | exact HB.out)⟩
  ·replace c5 := Bool.eq_false_iff.mpr c5
   subst c5
   have H1 : (some false) = some r := by rw [if_neg (show ¬ (false = true) by decide)] at H; exact H
   clear H
   have H := H1
   clear H1
   obtain rfl := Option.some.inj H
   go_enter Try.func96, Try.ntmps96
   go_wp2_with (first | ((with_reducible refine gate_dst (N := 1) rfl ?_); refine box_event ?hg (N := 1) ?hd (cs := #[.int .i64 a0_0, .int .i64 a0_1, .int .i64 a0_2, .int .i64 a0_3]) (t := 29) ?hr ?_; (case hd => rfl); (case hg => rfl); (case hr => first | (go_simp; done) | (go_simp; rfl)); intro gb106 hg w13 hbox hb; have BK106 := Am (hbox); have GW106 := Am ((by rw [hg]; exact (bz (by repeat (first | (with_reducible first | exact HB.out | apply ba | apply bn | apply be) | exact HB.out))) : w.heap.size ≤ gb106)); have GE106 := Am ((by rw [hg]; exact (bz (by repeat (first | (with_reducible first | exact HB.out | apply ba | apply bn | apply be) | exact HB.out))) : w.heap.size ≤ gb106)); replace HB := Am (bq (by repeat (first | (with_reducible first | exact HB.out | apply ba | apply bn | apply be) | exact HB.out)) hb); clear hb hbox hg; have hcz14_0 : w13.cell? ⟨gb106, 0, none⟩ = some (.int .i64 a0_0) := (kc BK106.out 0).trans rfl; have hcz14_1 : w13.cell? ⟨gb106, 1, none⟩ = some (.int .i64 a0_1) := (kc BK106.out 1).trans rfl; have hcz14_2 : w13.cell? ⟨gb106, 2, none⟩ = some (.int .i64 a0_2) := (kc BK106.out 2).trans rfl; have hcz14_3 : w13.cell? ⟨gb106, 3, none⟩ = some (.int .i64 a0_3) := (kc BK106.out 3).trans rfl; have hfz14_0 := kf BK106.out 0; have hfz14_1 := kf BK106.out 1; have hfz14_2 := kf BK106.out 2; have hfz14_3 := kf BK106.out 3) | ((with_reducible refine gate_callee (f := 47) rfl ?_); refine goesL_ (some 5) rfl rfl Try.func47 (by kernel_rfl) rfl #[.int .i64 a0_0, .int .i64 1, .int .i64 3] rfl (by (try simp only [List.map_toArray, List.map_cons, List.map_nil]); first | done | rfl | (simp only [List.length_drop, List.length_take]; rfl)) ?_; (with_reducible refine (spec_l01In.calls a0_0 1 3 true _ A2.out).mono ?_); rintro e w' ⟨rfl, ⟨nd, rfl⟩⟩; refine ⟨_, rfl, ?_⟩) | (go_at_call 47; (with_reducible refine (spec_l01In.calls a0_1 5 12 false _ A4.out).mono ?_); rintro e w' ⟨rfl, ⟨nd, rfl⟩⟩))
   go_ret
   exact ⟨by first | rfl | (simp [errW_none, errW_some] <;> rfl) | (simp [*, errW_none, errW_some] <;> rfl), by repeat (first | (with_reducible first | exact HB.out | apply ba | apply bn | apply be | refine bs ?_ GE106.out) | exact HB.out)⟩
 ·replace c3 := Bool.eq_false_iff.mpr c3
  subst c3
  have H1 : (some false) = some r := by rw [if_neg (show ¬ (false = true) by decide)] at H; exact H
  clear H
  have H := H1
  clear H1
  obtain rfl := Option.some.inj H
  go_enter Try.func96, Try.ntmps96
  go_wp2_with (first | ((with_reducible refine gate_dst (N := 1) rfl ?_); refine box_event ?hg (N := 1) ?hd (cs := #[.int .i64 a0_0, .int .i64 a0_1, .int .i64 a0_2, .int .i64 a0_3]) (t := 29) ?hr ?_; (case hd => rfl); (case hg => rfl); (case hr => first | (go_simp; done) | (go_simp; rfl)); intro gb106 hg w15 hbox hb; have BK106 := Am (hbox); have GW106 := Am ((by rw [hg]; exact (bz (by repeat (first | (with_reducible first | exact HB.out | apply ba | apply bn | apply be) | exact HB.out))) : w.heap.size ≤ gb106)); have GE106 := Am ((by rw [hg]; exact (bz (by repeat (first | (with_reducible first | exact HB.out | apply ba | apply bn | apply be) | exact HB.out))) : w.heap.size ≤ gb106)); replace HB := Am (bq (by repeat (first | (with_reducible first | exact HB.out | apply ba | apply bn | apply be) | exact HB.out)) hb); clear hb hbox hg; have hcz16_0 : w15.cell? ⟨gb106, 0, none⟩ = some (.int .i64 a0_0) := (kc BK106.out 0).trans rfl; have hcz16_1 : w15.cell? ⟨gb106, 1, none⟩ = some (.int .i64 a0_1) := (kc BK106.out 1).trans rfl; have hcz16_2 : w15.cell? ⟨gb106, 2, none⟩ = some (.int .i64 a0_2) := (kc BK106.out 2).trans rfl; have hcz16_3 : w15.cell? ⟨gb106, 3, none⟩ = some (.int .i64 a0_3) := (kc BK106.out 3).trans rfl; have hfz16_0 := kf BK106.out 0; have hfz16_1 := kf BK106.out 1; have hfz16_2 := kf BK106.out 2; have hfz16_3 := kf BK106.out 3) | ((with_reducible refine gate_callee (f := 47) rfl ?_); refine goesL_ (some 5) rfl rfl Try.func47 (by kernel_rfl) rfl #[.int .i64 a0_0, .int .i64 1, .int .i64 3] rfl (by (try simp only [List.map_toArray, List.map_cons, List.map_nil]); first | done | rfl | (simp only [List.length_drop, List.length_take]; rfl)) ?_; (with_reducible refine (spec_l01In.calls a0_0 1 3 false _ A2.out).mono ?_); rintro e w' ⟨rfl, ⟨nd, rfl⟩⟩; refine ⟨_, rfl, ?_⟩))
  go_ret
  exact ⟨by first | rfl | (simp [errW_none, errW_some] <;> rfl) | (simp [*, errW_none, errW_some] <;> rfl), by repeat (first | (with_reducible first | exact HB.out | apply ba | apply bn | apply be | refine bs ?_ GE106.out) | exact HB.out)⟩

/-! ### spec_PartWords: function 55 -/
def spec_PartWords.f (a0_0 : Int) (a0_1 : Int) (a0_2 : Int) (a0_3 : Int) : Option (Int) := (spec_GeoOk.f a0_0 a0_1 a0_2 a0_3).bind fun t112 => (if t112 = true then (some (wrap64 ((wrap64 (38 + (wrap64 (8 * a0_2)))) + (wrap64 (4 * a0_1))))) else (some 0))
set_option maxHeartbeats 8000000 in
set_option maxRecDepth 100000 in
theorem spec_PartWords.calls (a0_0 : Int) (a0_1 : Int) (a0_2 : Int) (a0_3 : Int) (r : Int) (w : World) (h : spec_PartWords.f a0_0 a0_1 a0_2 a0_3 = some r) :
  Calls Try.prog 55 #[.agg #[.int .i64 a0_0, .int .i64 a0_1, .int .i64 a0_2, .int .i64 a0_3]] w fun e w' => e = .returned (.int .i64 r) ∧ Below w.heap.size w w' := by
 have hu29 := Try.underlying29
 have HB := Am (Below.refl w.heap.size w)
 have H : ((spec_GeoOk.f a0_0 a0_1 a0_2 a0_3).bind fun t112 => (if t112 = true then (some (wrap64 ((wrap64 (38 + (wrap64 (8 * a0_2)))) + (wrap64 (4 * a0_1))))) else (some 0))) = some r := h
 clear h
 replace H := Option.bind_eq_some_iff.mp H
 obtain ⟨t112, A20, H⟩ := H
 replace H : (if t112 = true then (some (wrap64 ((wrap64 (38 + (wrap64 (8 * a0_2)))) + (wrap64 (4 * a0_1))))) else (some 0)) = some r := H
 have A2 := Am A20
 clear A20
 by_cases c3 : t112 = true
 ·subst c3
  have H1 : (some (wrap64 ((wrap64 (38 + (wrap64 (8 * a0_2)))) + (wrap64 (4 * a0_1))))) = some r := by rw [if_pos rfl] at H; exact H
  clear H
  have H := H1
  clear H1
  obtain rfl := Option.some.inj H
  go_enter Try.func55, Try.ntmps55
  go_wp2_with (first | ((with_reducible refine gate_dst (N := 1) rfl ?_); refine box_event ?hg (N := 1) ?hd (cs := #[.int .i64 a0_0, .int .i64 a0_1, .int .i64 a0_2, .int .i64 a0_3]) (t := 29) ?hr ?_; (case hd => rfl); (case hg => rfl); (case hr => first | (go_simp; done) | (go_simp; rfl)); intro gb111 hg w4 hbox hb; have BK111 := Am (hbox); have GW111 := Am ((by rw [hg]; exact (bz (by repeat (first | (with_reducible first | exact HB.out | apply ba | apply bn | apply be) | exact HB.out))) : w.heap.size ≤ gb111)); have GE111 := Am ((by rw [hg]; exact (bz (by repeat (first | (with_reducible first | exact HB.out | apply ba | apply bn | apply be) | exact HB.out))) : w.heap.size ≤ gb111)); replace HB := Am (bq (by repeat (first | (with_reducible first | exact HB.out | apply ba | apply bn | apply be) | exact HB.out)) hb); clear hb hbox hg; have hcz5_0 : w4.cell? ⟨gb111, 0, none⟩ = some (.int .i64 a0_0) := (kc BK111.out 0).trans rfl; have hcz5_1 : w4.cell? ⟨gb111, 1, none⟩ = some (.int .i64 a0_1) := (kc BK111.out 1).trans rfl; have hcz5_2 : w4.cell? ⟨gb111, 2, none⟩ = some (.int .i64 a0_2) := (kc BK111.out 2).trans rfl; have hcz5_3 : w4.cell? ⟨gb111, 3, none⟩ = some (.int .i64 a0_3) := (kc BK111.out 3).trans rfl; have hfz5_0 := kf BK111.out 0; have hfz5_1 := kf BK111.out 1; have hfz5_2 := kf BK111.out 2; have hfz5_3 := kf BK111.out 3) | ((with_reducible refine gate_callee (f := 96) rfl ?_); refine goesL_ (some 4) rfl rfl Try.func96 (by kernel_rfl) rfl #[.agg #[.int .i64 a0_0, .int .i64 a0_1, .int .i64 a0_2, .int .i64 a0_3]] rfl (by (try simp only [List.map_toArray, List.map_cons, List.map_nil]); first | done | rfl | (simp only [List.length_drop, List.length_take]; rfl)) ?_; (with_reducible refine (spec_GeoOk.calls a0_0 a0_1 a0_2 a0_3 true _ A2.out).mono ?_); rintro e w6 ⟨rfl, hb⟩; refine ⟨_, rfl, ?_⟩; have n0_ := Am (kb (g := gb111) (o := o1b0 a0_0 a0_1 a0_2 a0_3) (by (with_reducible repeat (first | refine kn ?_ _ | refine ke ?_ | refine ka ?_ _)); exact BK111.out) hb); have n1_ := Am (bq (by repeat (first | (with_reducible first | exact HB.out | apply ba | apply bn | apply be | refine bs ?_ GE111.out) | exact HB.out)) hb); clear BK111; clear HB; have BK111 := n0_; have HB := n1_; clear n0_ n1_; (try clear hb); have hcz7_0 : w6.cell? ⟨gb111, 0, none⟩ = some (.int .i64 a0_0) := (kc BK111.out 0).trans rfl; have hcz7_1 : w6.cell? ⟨gb111, 1, none⟩ = some (.int .i64 a0_1) := (kc BK111.out 1).trans rfl; have hcz7_2 : w6.cell? ⟨gb111, 2, none⟩ = some (.int .i64 a0_2) := (kc BK111.out 2).trans rfl; have hcz7_3 : w6.cell? ⟨gb111, 3, none⟩ = some (.int .i64 a0_3) := (kc BK111.out 3).trans rfl; have hfz7_0 := kf BK111.out 0; have hfz7_1 := kf BK111.out 1; have hfz7_2 := kf BK111.out 2; have hfz7_3 := kf BK111.out 3))
  go_ret
  exact ⟨by first | rfl | (simp [errW_none, errW_some] <;> rfl) | (simp [*, errW_none, errW_some] <;> rfl), by repeat (first | (with_reducible first | exact HB.out | apply ba | apply bn | apply be | refine bs ?_ GE111.out) | exact HB.out)⟩
 ·replace c3 := Bool.eq_false_iff.mpr c3
  subst c3
  have H1 : (some 0) = some r := by rw [if_neg (show ¬ (false = true) by decide)] at H; exact H
  clear H
  have H := H1
  clear H1
  obtain rfl := Option.some.inj H
  go_enter Try.func55, Try.ntmps55
  go_wp2_with (first | ((with_reducible refine gate_dst (N := 1) rfl ?_); refine box_event ?hg (N := 1) ?hd (cs := #[.int .i64 a0_0, .int .i64 a0_1, .int .i64 a0_2, .int .i64 a0_3]) (t := 29) ?hr ?_; (case hd => rfl); (case hg => rfl); (case hr => first | (go_simp; done) | (go_simp; rfl)); intro gb111 hg w8 hbox hb; have BK111 := Am (hbox); have GW111 := Am ((by rw [hg]; exact (bz (by repeat (first | (with_reducible first | exact HB.out | apply ba | apply bn | apply be) | exact HB.out))) : w.heap.size ≤ gb111)); have GE111 := Am ((by rw [hg]; exact (bz (by repeat (first | (with_reducible first | exact HB.out | apply ba | apply bn | apply be) | exact HB.out))) : w.heap.size ≤ gb111)); replace HB := Am (bq (by repeat (first | (with_reducible first | exact HB.out | apply ba | apply bn | apply be) | exact HB.out)) hb); clear hb hbox hg; have hcz9_0 : w8.cell? ⟨gb111, 0, none⟩ = some (.int .i64 a0_0) := (kc BK111.out 0).trans rfl; have hcz9_1 : w8.cell? ⟨gb111, 1, none⟩ = some (.int .i64 a0_1) := (kc BK111.out 1).trans rfl; have hcz9_2 : w8.cell? ⟨gb111, 2, none⟩ = some (.int .i64 a0_2) := (kc BK111.out 2).trans rfl; have hcz9_3 : w8.cell? ⟨gb111, 3, none⟩ = some (.int .i64 a0_3) := (kc BK111.out 3).trans rfl; have hfz9_0 := kf BK111.out 0; have hfz9_1 := kf BK111.out 1; have hfz9_2 := kf BK111.out 2; have hfz9_3 := kf BK111.out 3) | ((with_reducible refine gate_callee (f := 96) rfl ?_); refine goesL_ (some 4) rfl rfl Try.func96 (by kernel_rfl) rfl #[.agg #[.int .i64 a0_0, .int .i64 a0_1, .int .i64 a0_2, .int .i64 a0_3]] rfl (by (try simp only [List.map_toArray, List.map_cons, List.map_nil]); first | done | rfl | (simp only [List.length_drop, List.length_take]; rfl)) ?_; (with_reducible refine (spec_GeoOk.calls a0_0 a0_1 a0_2 a0_3 false _ A2.out).mono ?_); rintro e w10 ⟨rfl, hb⟩; refine ⟨_, rfl, ?_⟩; have n0_ := Am (kb (g := gb111) (o := o1b0 a0_0 a0_1 a0_2 a0_3) (by (with_reducible repeat (first | refine kn ?_ _ | refine ke ?_ | refine ka ?_ _)); exact BK111.out) hb); have n1_ := Am (bq (by repeat (first | (with_reducible first | exact HB.out | apply ba | apply bn | apply be | refine bs ?_ GE111.out) | exact HB.out)) hb); clear BK111; clear HB; have BK111 := n0_; have HB := n1_; clear n0_ n1_; (try clear hb)))
  go_ret
  exact ⟨by first | rfl | (simp [errW_none, errW_some] <;> rfl) | (simp [*, errW_none, errW_some] <;> rfl), by repeat (first | (with_reducible first | exact HB.out | apply ba | apply bn | apply be | refine bs ?_ GE111.out) | exact HB.out)⟩

/-! ### spec_PartAt: function 45 -/
def spec_PartAt.j0 : Nat → Int → Int → Bool → Int → Int → Int → Int → Option (Int × Int)
 | 0, _, _, _, _, _, _, _ => none
 | k + 1, x1, x6, x22, x114000, x114001, x114002, x114003 => if x22 = true then (some ((-1), 0)) else (if x6 = 0 then (none) else (if (Int.tmod x1 x6) = 0 then (some (wrap64 (Int.tdiv x1 x6), 1)) else (if (Int.tmod x1 x6) = 2 then (some (wrap64 (Int.tdiv x1 x6), 2)) else (if (Int.tmod x1 x6) < 4 then (some (wrap64 (Int.tdiv x1 x6), 0)) else (if (Int.tmod x1 x6) < 36 then (some (wrap64 (Int.tdiv x1 x6), 3)) else (if (Int.tmod x1 x6) < 38 then (some (wrap64 (Int.tdiv x1 x6), 4)) else (if (Int.tmod x1 x6) < (wrap64 (38 + (wrap64 (8 * x114002)))) then (some (wrap64 (Int.tdiv x1 x6), 5)) else (some (wrap64 (Int.tdiv x1 x6), 6)))))))))
def spec_PartAt.f (k : Nat) (a0_0 : Int) (a0_1 : Int) (a0_2 : Int) (a0_3 : Int) (a1 : Int) : Option (Int × Int) := (spec_PartWords.f a0_0 a0_1 a0_2 a0_3).bind fun t114 => (if t114 = 0 then (spec_PartAt.j0 k a1 t114 true a0_0 a0_1 a0_2 a0_3) else ((spec_l01In.f a1 0 (wrap64 ((wrap64 (a0_0 * t114)) - 1))).bind fun t115 => (spec_PartAt.j0 k a1 t114 (!t115) a0_0 a0_1 a0_2 a0_3)))
theorem spec_PartAt.mono_l : ∀ k, (∀ y0 y1 y2 y3 y4 y5 y6, LeO (spec_PartAt.j0 k y0 y1 y2 y3 y4 y5 y6) (spec_PartAt.j0 (k + 1) y0 y1 y2 y3 y4 y5 y6))
 | 0 => fun _ _ _ _ _ _ _ r h => by simp [spec_PartAt.j0] at h
 | k + 1 => by
  have ih0 := spec_PartAt.mono_l k
  ·intro y0 y1 y2 y3 y4 y5 y6
   unfold spec_PartAt.j0
   repeat' first
   | (with_reducible exact ih0 _ _ _ _ _ _ _)
   | (with_reducible exact LeO.refl _)
   | (with_reducible exact LeO.none _)
   | (with_reducible refine LeO.ite ?_ ?_)
   | (with_reducible refine LeO.bind ?_ (fun _ => ?_))
   | exact ih0 _ _ _ _ _ _ _
   | exact LeO.none _
   | refine LeO.ite ?_ ?_
   | refine LeO.bind ?_ (fun _ => ?_)
theorem spec_PartAt.mono : ∀ a0 a1 a2 a3 a4 k, LeO (spec_PartAt.f k a0 a1 a2 a3 a4) (spec_PartAt.f (k + 1) a0 a1 a2 a3 a4) := by
 intro a0 a1 a2 a3 a4 k
 have ih0 := spec_PartAt.mono_l k
 unfold spec_PartAt.f
 repeat' first
   | (with_reducible exact ih0 _ _ _ _ _ _ _)
   | (with_reducible exact LeO.refl _)
   | (with_reducible exact LeO.none _)
   | (with_reducible refine LeO.ite ?_ ?_)
   | (with_reducible refine LeO.bind ?_ (fun _ => ?_))
   | exact ih0 _ _ _ _ _ _ _
   | exact LeO.none _
   | refine LeO.ite ?_ ?_
   | refine LeO.bind ?_ (fun _ => ?_)
set_option maxHeartbeats 8000000 in
set_option maxRecDepth 100000 in
theorem spec_PartAt.calls (k : Nat) (a0_0 : Int) (a0_1 : Int) (a0_2 : Int) (a0_3 : Int) (a1 : Int) (r1 : Int) (r2 : Int) (w : World) (h : spec_PartAt.f k a0_0 a0_1 a0_2 a0_3 a1 = some (r1, r2)) :
  Calls Try.prog 45 #[.agg #[.int .i64 a0_0, .int .i64 a0_1, .int .i64 a0_2, .int .i64 a0_3], .int .i64 a1] w fun e w' => e = .returned (.tuple #[.int .i64 r1, .int .i64 r2]) ∧ Below w.heap.size w w' := by
 have hu29 := Try.underlying29
 have HB := Am (Below.refl w.heap.size w)
 have H : ((spec_PartWords.f a0_0 a0_1 a0_2 a0_3).bind fun t114 => (if t114 = 0 then (spec_PartAt.j0 k a1 t114 true a0_0 a0_1 a0_2 a0_3) else ((spec_l01In.f a1 0 (wrap64 ((wrap64 (a0_0 * t114)) - 1))).bind fun t115 => (spec_PartAt.j0 k a1 t114 (!t115) a0_0 a0_1 a0_2 a0_3)))) = some (r1, r2) := h
 clear h
 replace H := Option.bind_eq_some_iff.mp H
 obtain ⟨t114, A30, H⟩ := H
 replace H : (if t114 = 0 then (spec_PartAt.j0 k a1 t114 true a0_0 a0_1 a0_2 a0_3) else ((spec_l01In.f a1 0 (wrap64 ((wrap64 (a0_0 * t114)) - 1))).bind fun t115 => (spec_PartAt.j0 k a1 t114 (!t115) a0_0 a0_1 a0_2 a0_3))) = some (r1, r2) := H
 have A3 := Am A30
 clear A30
 have HC4 := Am H
 clear H
 go_enter Try.func45, Try.ntmps45
 go_upto_region 2 with (first | ((with_reducible refine gate_dst (N := 2) rfl ?_); refine box_event ?hg (N := 2) ?hd (cs := #[.int .i64 a0_0, .int .i64 a0_1, .int .i64 a0_2, .int .i64 a0_3]) (t := 29) ?hr ?_; (case hd => rfl); (case hg => rfl); (case hr => first | (go_simp; done) | (go_simp; rfl)); intro gb113 hg w5 hbox hb; have BK113 := Am (hbox); have GW113 := Am ((by rw [hg]; exact (bz (by repeat (first | (with_reducible first | exact HB.out | apply ba | apply bn | apply be) | exact HB.out))) : w.heap.size ≤ gb113)); have GE113 := Am ((by rw [hg]; exact (bz (by repeat (first | (with_reducible first | exact HB.out | apply ba | apply bn | apply be) | exact HB.out))) : w.heap.size ≤ gb113)); replace HB := Am (bq (by repeat (first | (with_reducible first | exact HB.out | apply ba | apply bn | apply be) | exact HB.out)) hb); clear hb hbox hg; have hcz6_0 : w5.cell? ⟨gb113, 0, none⟩ = some (.int .i64 a0_0) := (kc BK113.out 0).trans rfl; have hcz6_1 : w5.cell? ⟨gb113, 1, none⟩ = some (.int .i64 a0_1) := (kc BK113.out 1).trans rfl; have hcz6_2 : w5.cell? ⟨gb113, 2, none⟩ = some (.int .i64 a0_2) := (kc BK113.out 2).trans rfl; have hcz6_3 : w5.cell? ⟨gb113, 3, none⟩ = some (.int .i64 a0_3) := (kc BK113.out 3).trans rfl; have hfz6_0 := kf BK113.out 0; have hfz6_1 := kf BK113.out 1; have hfz6_2 := kf BK113.out 2; have hfz6_3 := kf BK113.out 3) | ((with_reducible refine gate_callee (f := 55) rfl ?_); refine goesL_ (some 10) rfl rfl Try.func55 (by kernel_rfl) rfl #[.agg #[.int .i64 a0_0, .int .i64 a0_1, .int .i64 a0_2, .int .i64 a0_3]] rfl (by (try simp only [List.map_toArray, List.map_cons, List.map_nil]); first | done | rfl | (simp only [List.length_drop, List.length_take]; rfl)) ?_; (with_reducible refine (spec_PartWords.calls a0_0 a0_1 a0_2 a0_3 t114 _ A3.out).mono ?_); rintro e w7 ⟨rfl, hb⟩; refine ⟨_, rfl, ?_⟩; have n0_ := Am (kb (g := gb113) (o := o1b0 a0_0 a0_1 a0_2 a0_3) (by (with_reducible repeat (first | refine kn ?_ _ | refine ke ?_ | refine ka ?_ _)); exact BK113.out) hb); have n1_ := Am (bq (by repeat (first | (with_reducible first | exact HB.out | apply ba | apply bn | apply be | refine bs ?_ GE113.out) | exact HB.out)) hb); clear BK113; clear HB; have BK113 := n0_; have HB := n1_; clear n0_ n1_; (try clear hb)))
 (try simp only [Act.put, List.setIfInBounds_toArray, List.set_cons_zero, List.set_cons_succ])
 go_cut [22] (fun v22 wc => ∃ (kq : Nat) (x22_3 : Bool), v22 = .bool x22_3 ∧ Aside0 (spec_PartAt.j0 kq a1 t114 x22_3 a0_0 a0_1 a0_2 a0_3 = some (r1, r2)) ∧ Aside0 (kq ≤ k) ∧ Aside0 (wc.heap[gb113]? = some (.cells #[.int .i64 a0_0, .int .i64 a0_1, .int .i64 a0_2, .int .i64 a0_3] 29 (0, 0))) ∧ Aside0 (Below w.heap.size w wc))
 case first =>
  have H := HC4.out
  clear HC4
  by_cases c8 : t114 = 0
  ·rw [if_pos c8] at H
   have c8b0 : (t114 == 0) = true := beq_iff_eq.mpr c8
   have c8b1 : (t114 != 0) = false := bne_eq_false_iff_eq.mpr c8
   clear c8
   (first | rw [c8b0] | (simp only [i64_w, i32_w]; rw [c8b0]) | skip)
   have H' := Am H
   clear H
   go_wp2
   go_meet
   case rel => exact ⟨_, (true), (by first | rfl | (simp; done) | (simp [*]; done)), H', ⟨by first | omega | exact Nat.le_refl _⟩, ⟨by (with_reducible repeat (first | refine kn ?_ _ | refine ke ?_ | refine ka ?_ _)); exact BK113.out⟩, ⟨by repeat (first | (with_reducible first | exact HB.out | apply ba | apply bn | apply be | refine bs ?_ GE113.out) | exact HB.out)⟩⟩
  ·rw [if_neg c8] at H
   have c8b0 : (t114 == 0) = false := beq_eq_false_iff_ne.mpr c8
   have c8b1 : (t114 != 0) = true := bne_iff_ne.mpr c8
   (first | rw [c8b0] | (simp only [i64_w, i32_w]; rw [c8b0]) | skip)
   replace H := Option.bind_eq_some_iff.mp H
   obtain ⟨t115, A90, H⟩ := H
   replace H : (spec_PartAt.j0 k a1 t114 (!t115) a0_0 a0_1 a0_2 a0_3) = some (r1, r2) := H
   have A9 := Am A90
   clear A90
   have H' := Am H
   clear H
   have hcz10_0 : w7.cell? ⟨gb113, 0, none⟩ = some (.int .i64 a0_0) := (kc BK113.out 0).trans rfl
   have hcz10_1 : w7.cell? ⟨gb113, 1, none⟩ = some (.int .i64 a0_1) := (kc BK113.out 1).trans rfl
   have hcz10_2 : w7.cell? ⟨gb113, 2, none⟩ = some (.int .i64 a0_2) := (kc BK113.out 2).trans rfl
   have hcz10_3 : w7.cell? ⟨gb113, 3, none⟩ = some (.int .i64 a0_3) := (kc BK113.out 3).trans rfl
   have hfz10_0 := kf BK113.out 0
   have hfz10_1 := kf BK113.out 1
   have hfz10_2 := kf BK113.out 2
   have hfz10_3 := kf BK113.out 3
   go_wp2_with (first | (go_at_call 47; (with_reducible refine (spec_l01In.calls a1 0 (wrap64 ((wrap64 (a0_0 * t114)) - 1)) t115 _ A9.out).mono ?_); rintro e w' ⟨rfl, ⟨nd, rfl⟩⟩))
   go_meet
   case rel => exact ⟨_, (!t115), (by first | rfl | (simp; done) | (simp [*]; done)), H', ⟨by first | omega | exact Nat.le_refl _⟩, ⟨by (with_reducible repeat (first | refine kn ?_ _ | refine ke ?_ | refine ka ?_ _)); exact BK113.out⟩, ⟨by repeat (first | (with_reducible first | exact HB.out | apply ba | apply bn | apply be | refine bs ?_ GE113.out) | exact HB.out)⟩⟩
 case rest =>
  clear HC4
  try clear p2
  try clear c4
  try clear c5
  try clear p6
  try clear c8
  try clear c8b0
  try clear c8b1
  try clear hcz10_0
  try clear hcz10_1
  try clear hcz10_2
  try clear hcz10_3
  try clear hcz6_0
  try clear hcz6_1
  try clear hcz6_2
  try clear hcz6_3
  try clear hfz10_0
  try clear hfz10_1
  try clear hfz10_2
  try clear hfz10_3
  try clear hfz6_0
  try clear hfz6_1
  try clear hfz6_2
  try clear hfz6_3
  obtain ⟨kq, x22_3, rfl, HA, HJ3, BK113, HB⟩ := hcut
  cases kq with
  | zero => exact absurd HA.out (by simp [spec_PartAt.j0])
  | succ kj3 =>
   have H := HA.out
   clear HA
   simp only [spec_PartAt.j0] at H
   by_cases c11 : x22_3 = true
   ·subst c11
    have H1 : (some ((-1), 0)) = some (r1, r2) := by rw [if_pos rfl] at H; exact H
    clear H
    have H := H1
    clear H1
    simp only [Option.some.injEq, Prod.mk.injEq] at H
    obtain ⟨rfl, rfl⟩ := H
    go_wp2
    go_ret2
    exact ⟨by first | rfl | (simp [errW_none, errW_some] <;> rfl) | (simp [*, errW_none, errW_some] <;> rfl), by repeat (first | (with_reducible first | exact HB.out | apply ba | apply bn | apply be | refine bs ?_ GE113.out) | exact HB.out)⟩
   ·replace c11 := Bool.eq_false_iff.mpr c11
    subst c11
    have H1 : (if t114 = 0 then (none) else (if (Int.tmod a1 t114) = 0 then (some (wrap64 (Int.tdiv a1 t114), 1)) else (if (Int.tmod a1 t114) = 2 then (some (wrap64 (Int.tdiv a1 t114), 2)) else (if (Int.tmod a1 t114) < 4 then (some (wrap64 (Int.tdiv a1 t114), 0)) else (if (Int.tmod a1 t114) < 36 then (some (wrap64 (Int.tdiv a1 t114), 3)) else (if (Int.tmod a1 t114) < 38 then (some (wrap64 (Int.tdiv a1 t114), 4)) else (if (Int.tmod a1 t114) < (wrap64 (38 + (wrap64 (8 * a0_2)))) then (some (wrap64 (Int.tdiv a1 t114), 5)) else (some (wrap64 (Int.tdiv a1 t114), 6))))))))) = some (r1, r2) := by rw [if_neg (show ¬ (false = true) by decide)] at H; exact H
    clear H
    have H := H1
    clear H1
    by_cases c12 : t114 = 0
    ·rw [if_pos c12] at H
     exact absurd H (by simp)
    ·rw [if_neg c12] at H
     have c12b0 : (t114 == 0) = false := beq_eq_false_iff_ne.mpr c12
     have c12b1 : (t114 != 0) = true := bne_iff_ne.mpr c12
     by_cases c13 : (Int.tmod a1 t114) = 0
     ·rw [if_pos c13] at H
      have c13b0 : ((Int.tmod a1 t114) == 0) = true := beq_iff_eq.mpr c13
      have c13b1 : ((Int.tmod a1 t114) != 0) = false := bne_eq_false_iff_eq.mpr c13
      clear c13
      simp only [Option.some.injEq, Prod.mk.injEq] at H
      obtain ⟨rfl, rfl⟩ := H
      go_wp2
      go_ret2
      exact ⟨by first | rfl | (simp [errW_none, errW_some] <;> rfl) | (simp [*, errW_none, errW_some] <;> rfl), by repeat (first | (with_reducible first | exact HB.out | apply ba | apply bn | apply be | refine bs ?_ GE113.out) | exact HB.out)⟩
     ·rw [if_neg c13] at H
      have c13b0 : ((Int.tmod a1 t114) == 0) = false := beq_eq_false_iff_ne.mpr c13
      have c13b1 : ((Int.tmod a1 t114) != 0) = true := bne_iff_ne.mpr c13
      by_cases c14 : (Int.tmod a1 t114) = 2
      ·rw [if_pos c14] at H
       have c14b0 : ((Int.tmod a1 t114) == 2) = true := beq_iff_eq.mpr c14
       have c14b1 : ((Int.tmod a1 t114) != 2) = false := bne_eq_false_iff_eq.mpr c14
       clear c14
       simp only [Option.some.injEq, Prod.mk.injEq] at H
       obtain ⟨rfl, rfl⟩ := H
       go_wp2
       go_ret2
       exact ⟨by first | rfl | (simp [errW_none, errW_some] <;> rfl) | (simp [*, errW_none, errW_some] <;> rfl), by repeat (first | (with_reducible first | exact HB.out | apply ba | apply bn | apply be | refine bs ?_ GE113.out) | exact HB.out)⟩
      ·rw [if_neg c14] at H
       have c14b0 : ((Int.tmod a1 t114) == 2) = false := beq_eq_false_iff_ne.mpr c14
       have c14b1 : ((Int.tmod a1 t114) != 2) = true := bne_iff_ne.mpr c14
       by_cases c15 : (Int.tmod a1 t114) < 4
       ·rw [if_pos c15] at H
        have c15b0 : decide ((Int.tmod a1 t114) < 4) = true := decide_eq_true c15
        clear c15
        simp only [Option.some.injEq, Prod.mk.injEq] at H
        obtain ⟨rfl, rfl⟩ := H
        go_wp2
        go_ret2
        exact ⟨by first | rfl | (simp [errW_none, errW_some] <;> rfl) | (simp [*, errW_none, errW_some] <;> rfl), by repeat (first | (with_reducible first | exact HB.out | apply ba | apply bn | apply be | refine bs ?_ GE113.out) | exact HB.out)⟩
       ·rw [if_neg c15] at H
        have c15b0 : decide ((Int.tmod a1 t114) < 4) = false := decide_eq_false c15
        clear c15
        by_cases c16 : (Int.tmod a1 t114) < 36
        ·rw [if_pos c16] at H
         have c16b0 : decide ((Int.tmod a1 t114) < 36) = true := decide_eq_true c16
         clear c16
         simp only [Option.some.injEq, Prod.mk.injEq] at H
         obtain ⟨rfl, rfl⟩ := H
         go_wp2
         go_ret2
         exact ⟨by first | rfl | (simp [errW_none, errW_some] <;> rfl) | (simp [*, errW_none, errW_some] <;> rfl), by repeat (first | (with_reducible first | exact HB.out | apply ba | apply bn | apply be | refine bs ?_ GE113.out) | exact HB.out)⟩
        ·rw [if_neg c16] at H
         have c16b0 : decide ((Int.tmod a1 t114) < 36) = false := decide_eq_false c16
         clear c16
         by_cases c17 : (Int.tmod a1 t114) < 38
         ·rw [if_pos c17] at H
          have c17b0 : decide ((Int.tmod a1 t114) < 38) = true := decide_eq_true c17
          clear c17
          simp only [Option.some.injEq, Prod.mk.injEq] at H
          obtain ⟨rfl, rfl⟩ := H
          go_wp2
          go_ret2
          exact ⟨by first | rfl | (simp [errW_none, errW_some] <;> rfl) | (simp [*, errW_none, errW_some] <;> rfl), by repeat (first | (with_reducible first | exact HB.out | apply ba | apply bn | apply be | refine bs ?_ GE113.out) | exact HB.out)⟩
         ·rw [if_neg c17] at H
          have c17b0 : decide ((Int.tmod a1 t114) < 38) = false := decide_eq_false c17
          clear c17
          by_cases c18 : (Int.tmod a1 t114) < (wrap64 (38 + (wrap64 (8 * a0_2))))
          ·rw [if_pos c18] at H
           have c18b0 : decide ((Int.tmod a1 t114) < (wrap64 (38 + (wrap64 (8 * a0_2))))) = true := decide_eq_true c18
           clear c18
           simp only [Option.some.injEq, Prod.mk.injEq] at H
           obtain ⟨rfl, rfl⟩ := H
           have hcz19_0 : wc.cell? ⟨gb113, 0, none⟩ = some (.int .i64 a0_0) := (kc BK113.out 0).trans rfl
           have hcz19_1 : wc.cell? ⟨gb113, 1, none⟩ = some (.int .i64 a0_1) := (kc BK113.out 1).trans rfl
           have hcz19_2 : wc.cell? ⟨gb113, 2, none⟩ = some (.int .i64 a0_2) := (kc BK113.out 2).trans rfl
           have hcz19_3 : wc.cell? ⟨gb113, 3, none⟩ = some (.int .i64 a0_3) := (kc BK113.out 3).trans rfl
           have hfz19_0 := kf BK113.out 0
           have hfz19_1 := kf BK113.out 1
           have hfz19_2 := kf BK113.out 2
           have hfz19_3 := kf BK113.out 3
           go_wp2
           go_ret2
           exact ⟨by first | rfl | (simp [errW_none, errW_some] <;> rfl) | (simp [*, errW_none, errW_some] <;> rfl), by repeat (first | (with_reducible first | exact HB.out | apply ba | apply bn | apply be | refine bs ?_ GE113.out) | exact HB.out)⟩
          ·rw [if_neg c18] at H
           have c18b0 : decide ((Int.tmod a1 t114) < (wrap64 (38 + (wrap64 (8 * a0_2))))) = false := decide_eq_false c18
           clear c18
           simp only [Option.some.injEq, Prod.mk.injEq] at H
           obtain ⟨rfl, rfl⟩ := H
           have hcz20_0 : wc.cell? ⟨gb113, 0, none⟩ = some (.int .i64 a0_0) := (kc BK113.out 0).trans rfl
           have hcz20_1 : wc.cell? ⟨gb113, 1, none⟩ = some (.int .i64 a0_1) := (kc BK113.out 1).trans rfl
           have hcz20_2 : wc.cell? ⟨gb113, 2, none⟩ = some (.int .i64 a0_2) := (kc BK113.out 2).trans rfl
           have hcz20_3 : wc.cell? ⟨gb113, 3, none⟩ = some (.int .i64 a0_3) := (kc BK113.out 3).trans rfl
           have hfz20_0 := kf BK113.out 0
           have hfz20_1 := kf BK113.out 1
           have hfz20_2 := kf BK113.out 2
           have hfz20_3 := kf BK113.out 3
           go_wp2
           go_ret2
           exact ⟨by first | rfl | (simp [errW_none, errW_some] <;> rfl) | (simp [*, errW_none, errW_some] <;> rfl), by repeat (first | (with_reducible first | exact HB.out | apply ba | apply bn | apply be | refine bs ?_ GE113.out) | exact HB.out)⟩

/-! ### spec_LinesIn: function 48 -/
def spec_LinesIn.f (a0_0 : Int) (a0_1 : Int) (a0_2 : Int) (a0_3 : Int) : Option (Int) := (spec_PartWords.f a0_0 a0_1 a0_2 a0_3).bind fun t117 => (some (wrap64 (Int.tdiv (wrap64 (a0_0 * t117)) 2)))
set_option maxHeartbeats 8000000 in
set_option maxRecDepth 100000 in
theorem spec_LinesIn.calls (a0_0 : Int) (a0_1 : Int) (a0_2 : Int) (a0_3 : Int) (r : Int) (w : World) (h : spec_LinesIn.f a0_0 a0_1 a0_2 a0_3 = some r) :
  Calls Try.prog 48 #[.agg #[.int .i64 a0_0, .int .i64 a0_1, .int .i64 a0_2, .int .i64 a0_3]] w fun e w' => e = .returned (.int .i64 r) ∧ Below w.heap.size w w' := by
 have hu29 := Try.underlying29
 have HB := Am (Below.refl w.heap.size w)
 have H : ((spec_PartWords.f a0_0 a0_1 a0_2 a0_3).bind fun t117 => (some (wrap64 (Int.tdiv (wrap64 (a0_0 * t117)) 2)))) = some r := h
 clear h
 replace H := Option.bind_eq_some_iff.mp H
 obtain ⟨t117, A20, H⟩ := H
 replace H : (some (wrap64 (Int.tdiv (wrap64 (a0_0 * t117)) 2))) = some r := H
 have A2 := Am A20
 clear A20
 obtain rfl := Option.some.inj H
 go_enter Try.func48, Try.ntmps48
 try go_wp2_with (first | ((with_reducible refine gate_dst (N := 1) rfl ?_); refine box_event ?hg (N := 1) ?hd (cs := #[.int .i64 a0_0, .int .i64 a0_1, .int .i64 a0_2, .int .i64 a0_3]) (t := 29) ?hr ?_; (case hd => rfl); (case hg => rfl); (case hr => first | (go_simp; done) | (go_simp; rfl)); intro gb116 hg w3 hbox hb; have BK116 := Am (hbox); have GW116 := Am ((by rw [hg]; exact (bz (by repeat (first | (with_reducible first | exact HB.out | apply ba | apply bn | apply be) | exact HB.out))) : w.heap.size ≤ gb116)); have GE116 := Am ((by rw [hg]; exact (bz (by repeat (first | (with_reducible first | exact HB.out | apply ba | apply bn | apply be) | exact HB.out))) : w.heap.size ≤ gb116)); replace HB := Am (bq (by repeat (first | (with_reducible first | exact HB.out | apply ba | apply bn | apply be) | exact HB.out)) hb); clear hb hbox hg))
 have n0_ := Am (ke BK116.out)
 have n1_ := Am (be HB.out)
 clear BK116
 clear HB
 have BK116 := n0_
 have HB := n1_
 clear n0_ n1_
 refine start_ (n := 7) (S := fun w' => w'.cell? ⟨gb116, 0, none⟩ = some (.int .i64 a0_0) ∧ w'.cell? ⟨gb116, 1, none⟩ = some (.int .i64 a0_1) ∧ w'.cell? ⟨gb116, 2, none⟩ = some (.int .i64 a0_2) ∧ w'.cell? ⟨gb116, 3, none⟩ = some (.int .i64 a0_3)) (ds := []) #[false, false, false, false, false, false, false] (by kernel_rfl) rfl rfl ⟨(kc BK116.out 0).trans rfl, (kc BK116.out 1).trans rfl, (kc BK116.out 2).trans rfl, (kc BK116.out 3).trans rfl⟩ (fun hHeld => ?_)
 generalize w3.drew = w4 at BK116 HB hHeld ⊢
 refine yA 0 (some 3) rfl rfl ?_
 refine yT 1 (some 4) rfl rfl hHeld ?_
 refine yT 2 (some 5) rfl rfl hHeld ?_
 refine yO 3 (some 6) rfl rfl (fun K hK => ?_)
 refine goes_ Try.func55 (by kernel_rfl) rfl #[.agg #[.int .i64 a0_0, .int .i64 a0_1, .int .i64 a0_2, .int .i64 a0_3]] (by rfl) rfl rfl (by (try simp only [List.map_toArray, List.map_cons, List.map_nil]); first | done | rfl | (simp only [List.length_drop, List.length_take]; rfl)) ?_
 with_reducible refine (spec_PartWords.calls a0_0 a0_1 a0_2 a0_3 t117 _ A2.out).mono ?_
 rintro e w5 ⟨rfl, hb⟩
 refine ⟨_, rfl, ?_⟩
 have n0_ := Am (kb (g := gb116) (o := o1b0 a0_0 a0_1 a0_2 a0_3) (by (with_reducible repeat (first | refine kn ?_ _ | refine ke ?_ | refine ka ?_ _)); exact BK116.out) hb)
 have n1_ := Am (bq (by repeat (first | (with_reducible first | exact HB.out | apply ba | apply bn | apply be | refine bs ?_ GE116.out) | exact HB.out)) hb)
 clear BK116
 clear HB
 have BK116 := n0_
 have HB := n1_
 clear n0_ n1_
 (try clear hb)
 (try clear hb2)
 (try clear hk)
 (try clear hi)
 refine hK.out _ _ ⟨(kc BK116.out 0).trans rfl, (kc BK116.out 1).trans rfl, (kc BK116.out 2).trans rfl, (kc BK116.out 3).trans rfl⟩ (fun hHeld => ?_)
 clear hK K
 refine zN (some 6) ?_
 refine yA 4 (some 7) rfl rfl ?_
 refine yA 5 (some 8) rfl rfl ?_
 refine yA 6 (some 2) rfl rfl ?_
 refine done_ (by kernel_rfl) ?_
 try go_wp2
 go_ret
 exact ⟨by first | rfl | (simp [errW_none, errW_some] <;> rfl) | (simp [*, errW_none, errW_some] <;> rfl), by repeat (first | (with_reducible first | exact HB.out | apply ba | apply bn | apply be | refine bs ?_ GE116.out) | exact HB.out)⟩

/-! ### spec_l10Size: function 138 -/
def spec_l10Size.f  : Option (Int) := some 16
set_option maxHeartbeats 8000000 in
set_option maxRecDepth 100000 in
theorem spec_l10Size.calls  (r : Int) (w : World) (h : spec_l10Size.f  = some r) :
  Calls Try.prog 138 #[] w fun e w' => e = .returned (.int .i64 r) ∧ Drawn0 w w' := by
 have H : (some 16) = some r := h
 clear h
 obtain rfl := Option.some.inj H
 go_enter Try.func138, Try.ntmps138
 go_wp2
 go_ret
 exact ⟨by first | rfl | (simp; done) | (simp [*]; done), by repeat (first | exact Drawn0.refl _ | apply Drawn0.step)⟩

end Go.Proofs.Ytconffflmbakgaa.QFnExactMaskedWord
