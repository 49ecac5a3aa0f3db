/- Go functions as Lean functions, and their contracts. Own text: written by wip/gen/pr.py (a turned copy of the print). -/
import Derived.Test.YtnmkcognggeioaaQFnUnsurex0
import Derived.Test.YtnmkcognggeioaaQFnUnsurex3
import Derived.Test.YtnmkcognggeioaaQFnUnsurex4
import Derived.Test.YtnmkcognggeioaaQFnUnsurex7
import Derived.Test.YtnmkcognggeioaaQFnUnsurex12
import Derived.Test.YtnmkcognggeioaaQFnUnsurex13
namespace Go.Proofs.Ytnmkcognggeioaa.QFnUnsure
open Go.RowKit Go.Proofs.YtnmkcognggeioaaW.PrintWords Go.Proofs.YtnmkcognggeioaaW.PrintLast Go.Proofs.YtnmkcognggeioaaW.PrintMore
attribute [local go_sem] max2_int min2_int max_two min_two max_three min_three max_four min_four   -- for this text's walks alone
open Go.Proofs.YtnmkcognggeioaaW.PrintWords renaming below_alloc → ba, pw_below_drewN → bn, below_drew1 → be, below_set → bs, blk_drewN → kn, blk_drew → ke, blk_alloc → ka, blk_below → kb, blk_frozen → kf, blk_cell → kc, below_step → bq, below_size → bz, blk_lt → kl, blk_put → kp
open Go.Proofs.YtnmkcognggeioaaW.PrintWords.Kd renaming R_alloc → ra, R_drewN → rn, R_drew → re, C_alloc → ca, C_drewN → cn, C_drew → ce, R_below → rb
open Go.Proofs.YtnmkcognggeioaaW.PrintWords.Aside0 renaming mk → Am
set_option linter.unusedVariables false
set_option linter.unusedSimpArgs false

def o14b0 (p0 : ByteArray) (p1 : Option Addr) (p2 p3 : Nat) : Obj := .cells #[.string p0, .slice p1 p2 p3] 28 (0, 0)
def o14b1 (p0 : ByteArray) (p1 : Option Addr) (p2 p3 : Nat) : Obj := .cells #[.string p0, .slice p1 p2 p3] 28 (0, 0)
def o14b2 (p0 : ByteArray) (p1 : Option Addr) (p2 p3 : Nat) : Obj := .cells #[.string p0, .slice p1 p2 p3] 28 (0, 0)
def o14b3 (p0 : ByteArray) (p1 : Option Addr) (p2 p3 : Nat) : Obj := .cells #[.string p0, .slice p1 p2 p3] 28 (0, 0)
theorem fld28 (w : World) (s : ByteArray) (A : Option Addr) (n c : Nat) : (Instr.field 28 (.agg #[.string s, .slice A n c]) 0).run Try.prog w = .ok (.string s) w := by
  have u28 := run_underlying Try.underlying28
  have a9 := Try.isAgg9
  unfold Instr.field
  simp [u28, part, asAgg, a9, Result.andThen]
/-! ### laws_FnUnsure: function 4 -/
mutual
def laws_FnUnsure.j0 : Nat → Bool → ByteArray → List (S49) → ByteArray → List (S49) → Option (Bool)
 | 0, _, _, _, _, _ => none
 | k + 1, x32, x379000, x379001, x384000, x384001 => if x32 = true then ((laws_sameMemory.f k x384000 x384001 x379000 x379001).bind fun t390 => (if t390 = true then ((impl_MemoryNew.f 1).bind fun bt391 => (some ((bt391.1.size : Int) == 16))) else (some false))) else ((impl_FallenMemory.f k x379000 x379001 9223372036854775807).bind fun bt395 => ((impl_Unsure.f k x379000 x379001).bind fun t400 => (laws_FnUnsure.l0 k t400 0 x379000 x379001 bt395.1 bt395.2)))
def laws_FnUnsure.l0 : Nat → List Int → Int → ByteArray → List (S49) → ByteArray → List (S49) → Option (Bool)
 | 0, _, _, _, _, _, _ => none
 | k + 1, x7, x8, x379000, x379001, x400000, x400001 => if x8 < (wrap64 (2 * (x7.length : Int))) then (if 0 ≤ (wrap64 (Int.tdiv x8 2)) then (if (wrap64 (Int.tdiv x8 2)) < (x7.length : Int) then ((spec_WordAt.f k x400000 x400001 (wrap64 ((wrap64 (2 * (rd x7 (wrap64 (Int.tdiv x8 2))))) + (Int.tmod x8 2)))).bind fun t404 => ((spec_WordAt.f k x379000 x379001 (wrap64 ((wrap64 (2 * (rd x7 (wrap64 (Int.tdiv x8 2))))) + (Int.tmod x8 2)))).bind fun t405 => (if t404.toList = t405.toList then (laws_FnUnsure.l0 k x7 (wrap64 (x8 + 1)) x379000 x379001 x400000 x400001) else (some false)))) else (none)) else (none)) else ((spec_Unsure.f k x379000 x379001).bind fun t406 => ((laws_sameInts.f k x7 t406).bind fun t409 => (if t409 = true then ((impl_Unsure.f k x400000 x400001).bind fun t410 => (if (t410.length : Int) = 0 then ((impl_MemoryNew.f 1).bind fun bt413 => (some ((bt413.1.size : Int) == 16))) else (some false))) else (some false))))
end
def laws_FnUnsure.f (k : Nat) (l0 : List Int) : Option (Bool) := (laws_big.f l0).bind fun t372 => (if t372 = true then (some true) else ((spec_DrawFallenMemory.f k l0).bind fun bt373 => ((impl_FallenMemory.f k bt373.1 bt373.2.1 bt373.2.2).bind fun bt379 => ((spec_FallenMemory.f k bt373.1 bt373.2.1 bt373.2.2).bind fun bt384 => ((laws_sameMemory.f k bt379.1 bt379.2 bt384.1 bt384.2).bind fun t388 => (if t388 = true then ((spec_MemoryOk.f k bt373.1 bt373.2.1).bind fun t389 => (if t389 = true then (laws_FnUnsure.j0 k (decide (bt373.2.2 < 0)) bt373.1 bt373.2.1 bt379.1 bt379.2) else (laws_FnUnsure.j0 k true bt373.1 bt373.2.1 bt379.1 bt379.2))) else (some false)))))))
theorem laws_FnUnsure.mono_l : ∀ k, (∀ y0 y1 y2 y3 y4, LeO (laws_FnUnsure.j0 k y0 y1 y2 y3 y4) (laws_FnUnsure.j0 (k + 1) y0 y1 y2 y3 y4)) ∧ (∀ y0 y1 y2 y3 y4 y5, LeO (laws_FnUnsure.l0 k y0 y1 y2 y3 y4 y5) (laws_FnUnsure.l0 (k + 1) y0 y1 y2 y3 y4 y5))
 | 0 => ⟨fun _ _ _ _ _ r h => by simp [laws_FnUnsure.j0] at h, fun _ _ _ _ _ _ r h => by simp [laws_FnUnsure.l0] at h⟩
 | k + 1 => by
  obtain ⟨ih0, ih1⟩ := laws_FnUnsure.mono_l k
  refine ⟨?_, ?_⟩
  ·intro y0 y1 y2 y3 y4
   unfold laws_FnUnsure.j0
   repeat' first
   | (with_reducible exact ih0 _ _ _ _ _)
   | (with_reducible exact ih1 _ _ _ _ _ _)
   | (with_reducible exact impl_FallenMemory.mono _ _ _ _)
   | (with_reducible exact impl_Unsure.mono _ _ _)
   | (with_reducible exact laws_sameInts.mono _ _ _)
   | (with_reducible exact laws_sameMemory.mono _ _ _ _ _)
   | (with_reducible exact spec_DrawFallenMemory.mono _ _)
   | (with_reducible exact spec_FallenMemory.mono _ _ _ _)
   | (with_reducible exact spec_MemoryOk.mono _ _ _)
   | (with_reducible exact spec_Unsure.mono _ _ _)
   | (with_reducible exact spec_WordAt.mono _ _ _ _)
   | (with_reducible exact LeO.refl _)
   | (with_reducible exact LeO.none _)
   | (with_reducible refine LeO.ite ?_ ?_)
   | (with_reducible refine LeO.bind ?_ (fun _ => ?_))
   | exact ih0 _ _ _ _ _
   | exact ih1 _ _ _ _ _ _
   | exact impl_FallenMemory.mono _ _ _ _
   | exact impl_Unsure.mono _ _ _
   | exact laws_sameInts.mono _ _ _
   | exact laws_sameMemory.mono _ _ _ _ _
   | exact spec_DrawFallenMemory.mono _ _
   | exact spec_FallenMemory.mono _ _ _ _
   | exact spec_MemoryOk.mono _ _ _
   | exact spec_Unsure.mono _ _ _
   | exact spec_WordAt.mono _ _ _ _
   | exact LeO.none _
   | refine LeO.ite ?_ ?_
   | refine LeO.bind ?_ (fun _ => ?_)
  ·intro y0 y1 y2 y3 y4 y5
   unfold laws_FnUnsure.l0
   repeat' first
   | (with_reducible exact ih0 _ _ _ _ _)
   | (with_reducible exact ih1 _ _ _ _ _ _)
   | (with_reducible exact impl_FallenMemory.mono _ _ _ _)
   | (with_reducible exact impl_Unsure.mono _ _ _)
   | (with_reducible exact laws_sameInts.mono _ _ _)
   | (with_reducible exact laws_sameMemory.mono _ _ _ _ _)
   | (with_reducible exact spec_DrawFallenMemory.mono _ _)
   | (with_reducible exact spec_FallenMemory.mono _ _ _ _)
   | (with_reducible exact spec_MemoryOk.mono _ _ _)
   | (with_reducible exact spec_Unsure.mono _ _ _)
   | (with_reducible exact spec_WordAt.mono _ _ _ _)
   | (with_reducible exact LeO.refl _)
   | (with_reducible exact LeO.none _)
   | (with_reducible refine LeO.ite ?_ ?_)
   | (with_reducible refine LeO.bind ?_ (fun _ => ?_))
   | exact ih0 _ _ _ _ _
   | exact ih1 _ _ _ _ _ _
   | exact impl_FallenMemory.mono _ _ _ _
   | exact impl_Unsure.mono _ _ _
   | exact laws_sameInts.mono _ _ _
   | exact laws_sameMemory.mono _ _ _ _ _
   | exact spec_DrawFallenMemory.mono _ _
   | exact spec_FallenMemory.mono _ _ _ _
   | exact spec_MemoryOk.mono _ _ _
   | exact spec_Unsure.mono _ _ _
   | exact spec_WordAt.mono _ _ _ _
   | exact LeO.none _
   | refine LeO.ite ?_ ?_
   | refine LeO.bind ?_ (fun _ => ?_)
theorem laws_FnUnsure.mono : ∀ a0 k, LeO (laws_FnUnsure.f k a0) (laws_FnUnsure.f (k + 1) a0) := by
 intro a0 k
 obtain ⟨ih0, ih1⟩ := laws_FnUnsure.mono_l k
 unfold laws_FnUnsure.f
 repeat' first
   | (with_reducible exact ih0 _ _ _ _ _)
   | (with_reducible exact ih1 _ _ _ _ _ _)
   | (with_reducible exact impl_FallenMemory.mono _ _ _ _)
   | (with_reducible exact impl_Unsure.mono _ _ _)
   | (with_reducible exact laws_sameInts.mono _ _ _)
   | (with_reducible exact laws_sameMemory.mono _ _ _ _ _)
   | (with_reducible exact spec_DrawFallenMemory.mono _ _)
   | (with_reducible exact spec_FallenMemory.mono _ _ _ _)
   | (with_reducible exact spec_MemoryOk.mono _ _ _)
   | (with_reducible exact spec_Unsure.mono _ _ _)
   | (with_reducible exact spec_WordAt.mono _ _ _ _)
   | (with_reducible exact LeO.refl _)
   | (with_reducible exact LeO.none _)
   | (with_reducible refine LeO.ite ?_ ?_)
   | (with_reducible refine LeO.bind ?_ (fun _ => ?_))
   | exact ih0 _ _ _ _ _
   | exact ih1 _ _ _ _ _ _
   | exact impl_FallenMemory.mono _ _ _ _
   | exact impl_Unsure.mono _ _ _
   | exact laws_sameInts.mono _ _ _
   | exact laws_sameMemory.mono _ _ _ _ _
   | exact spec_DrawFallenMemory.mono _ _
   | exact spec_FallenMemory.mono _ _ _ _
   | exact spec_MemoryOk.mono _ _ _
   | exact spec_Unsure.mono _ _ _
   | exact spec_WordAt.mono _ _ _ _
   | exact LeO.none _
   | refine LeO.ite ?_ ?_
   | refine LeO.bind ?_ (fun _ => ?_)
set_option maxHeartbeats 8000000 in
set_option maxRecDepth 100000 in
theorem laws_FnUnsure.calls (k : Nat) (A0 : Option Addr) (c0 : Nat) (l0 : List Int) (r : Bool) (w : World) (hr0 : Kd.C (Kd.int .u8) w A0 l0.length l0) (hc0 : l0.length ≤ c0) (h : laws_FnUnsure.f k l0 = some r) :
  Calls Try.prog 4 #[.slice A0 l0.length c0] w fun e w' => e = .returned (.bool r) ∧ Below w.heap.size w w' := by
 have hu28 := Try.underlying28
 have hfd28_ := fld28
 have HR0 := Am hr0
 have HC0 := Am hc0
 clear hr0 hc0
 have HB := Am (Below.refl w.heap.size w)
 have H : ((laws_big.f l0).bind fun t372 => (if t372 = true then (some true) else ((spec_DrawFallenMemory.f k l0).bind fun bt373 => ((impl_FallenMemory.f k bt373.1 bt373.2.1 bt373.2.2).bind fun bt379 => ((spec_FallenMemory.f k bt373.1 bt373.2.1 bt373.2.2).bind fun bt384 => ((laws_sameMemory.f k bt379.1 bt379.2 bt384.1 bt384.2).bind fun t388 => (if t388 = true then ((spec_MemoryOk.f k bt373.1 bt373.2.1).bind fun t389 => (if t389 = true then (laws_FnUnsure.j0 k (decide (bt373.2.2 < 0)) bt373.1 bt373.2.1 bt379.1 bt379.2) else (laws_FnUnsure.j0 k true bt373.1 bt373.2.1 bt379.1 bt379.2))) else (some false)))))))) = some r := h
 clear h
 replace H := Option.bind_eq_some_iff.mp H
 obtain ⟨t372, A20, H⟩ := H
 replace H : (if t372 = true then (some true) else ((spec_DrawFallenMemory.f k l0).bind fun bt373 => ((impl_FallenMemory.f k bt373.1 bt373.2.1 bt373.2.2).bind fun bt379 => ((spec_FallenMemory.f k bt373.1 bt373.2.1 bt373.2.2).bind fun bt384 => ((laws_sameMemory.f k bt379.1 bt379.2 bt384.1 bt384.2).bind fun t388 => (if t388 = true then ((spec_MemoryOk.f k bt373.1 bt373.2.1).bind fun t389 => (if t389 = true then (laws_FnUnsure.j0 k (decide (bt373.2.2 < 0)) bt373.1 bt373.2.1 bt379.1 bt379.2) else (laws_FnUnsure.j0 k true bt373.1 bt373.2.1 bt379.1 bt379.2))) else (some false))))))) = some r := H
 have A2 := Am A20
 clear A20
 by_cases c3 : t372 = true
 ·subst c3
  have H1 : (some true) = some r := by rw [if_pos rfl] at H; exact H
  clear H
  have H := H1
  clear H1
  obtain rfl := Option.some.inj H
  go_enter Try.func4, Try.ntmps4
  go_wp2_with (first | ((with_reducible refine gate_callee (f := 12) rfl ?_); refine zC (some 11) rfl rfl Try.func12 rfl #[.slice A0 l0.length c0] rfl ?_; (with_reducible refine (laws_big.calls _ _ l0 true _ ?side1 ?side2 A2.out).mono ?_); (case side1 => repeat (first | exact HR0.out | (with_reducible first | refine ca ?_ _ | refine cn ?_ _ | refine ce ?_))); (case side2 => exact HC0.out); rintro e w' ⟨rfl, ⟨nd, rfl⟩⟩; refine ⟨_, rfl, ?_⟩))
  go_ret
  exact ⟨zR, zB⟩
 ·replace c3 := Bool.eq_false_iff.mpr c3
  subst c3
  have H1 : ((spec_DrawFallenMemory.f k l0).bind fun bt373 => ((impl_FallenMemory.f k bt373.1 bt373.2.1 bt373.2.2).bind fun bt379 => ((spec_FallenMemory.f k bt373.1 bt373.2.1 bt373.2.2).bind fun bt384 => ((laws_sameMemory.f k bt379.1 bt379.2 bt384.1 bt384.2).bind fun t388 => (if t388 = true then ((spec_MemoryOk.f k bt373.1 bt373.2.1).bind fun t389 => (if t389 = true then (laws_FnUnsure.j0 k (decide (bt373.2.2 < 0)) bt373.1 bt373.2.1 bt379.1 bt379.2) else (laws_FnUnsure.j0 k true bt373.1 bt373.2.1 bt379.1 bt379.2))) else (some false)))))) = some r := by rw [if_neg (show ¬ (false = true) by decide)] at H; exact H
  clear H
  have H := H1
  clear H1
  replace H := Option.bind_eq_some_iff.mp H
  obtain ⟨⟨t373, t374, t377⟩, A40, H⟩ := H
  replace H : ((impl_FallenMemory.f k t373 t374 t377).bind fun bt379 => ((spec_FallenMemory.f k t373 t374 t377).bind fun bt384 => ((laws_sameMemory.f k bt379.1 bt379.2 bt384.1 bt384.2).bind fun t388 => (if t388 = true then ((spec_MemoryOk.f k t373 t374).bind fun t389 => (if t389 = true then (laws_FnUnsure.j0 k (decide (t377 < 0)) t373 t374 bt379.1 bt379.2) else (laws_FnUnsure.j0 k true t373 t374 bt379.1 bt379.2))) else (some false))))) = some r := H
  have A4 := Am A40
  clear A40
  replace H := Option.bind_eq_some_iff.mp H
  obtain ⟨⟨t379, t380⟩, A50, H⟩ := H
  replace H : ((spec_FallenMemory.f k t373 t374 t377).bind fun bt384 => ((laws_sameMemory.f k t379 t380 bt384.1 bt384.2).bind fun t388 => (if t388 = true then ((spec_MemoryOk.f k t373 t374).bind fun t389 => (if t389 = true then (laws_FnUnsure.j0 k (decide (t377 < 0)) t373 t374 t379 t380) else (laws_FnUnsure.j0 k true t373 t374 t379 t380))) else (some false)))) = some r := H
  have A5 := Am A50
  clear A50
  replace H := Option.bind_eq_some_iff.mp H
  obtain ⟨⟨t384, t385⟩, A60, H⟩ := H
  replace H : ((laws_sameMemory.f k t379 t380 t384 t385).bind fun t388 => (if t388 = true then ((spec_MemoryOk.f k t373 t374).bind fun t389 => (if t389 = true then (laws_FnUnsure.j0 k (decide (t377 < 0)) t373 t374 t379 t380) else (laws_FnUnsure.j0 k true t373 t374 t379 t380))) else (some false))) = some r := H
  have A6 := Am A60
  clear A60
  replace H := Option.bind_eq_some_iff.mp H
  obtain ⟨t388, A70, H⟩ := H
  replace H : (if t388 = true then ((spec_MemoryOk.f k t373 t374).bind fun t389 => (if t389 = true then (laws_FnUnsure.j0 k (decide (t377 < 0)) t373 t374 t379 t380) else (laws_FnUnsure.j0 k true t373 t374 t379 t380))) else (some false)) = some r := H
  have A7 := Am A70
  clear A70
  by_cases c8 : t388 = true
  ·subst c8
   have H1 : ((spec_MemoryOk.f k t373 t374).bind fun t389 => (if t389 = true then (laws_FnUnsure.j0 k (decide (t377 < 0)) t373 t374 t379 t380) else (laws_FnUnsure.j0 k true t373 t374 t379 t380))) = some r := by rw [if_pos rfl] at H; exact H
   clear H
   have H := H1
   clear H1
   have HC9 := Am H
   clear H
   go_enter Try.func4, Try.ntmps4
   try go_wp2_with (first | ((with_reducible refine gate_callee (f := 12) rfl ?_); refine zC (some 11) rfl rfl Try.func12 rfl #[.slice A0 l0.length c0] rfl ?_; (with_reducible refine (laws_big.calls _ _ l0 false _ ?side1 ?side2 A2.out).mono ?_); (case side1 => repeat (first | exact HR0.out | (with_reducible first | refine ca ?_ _ | refine cn ?_ _ | refine ce ?_))); (case side2 => exact HC0.out); rintro e w' ⟨rfl, ⟨nd, rfl⟩⟩; refine ⟨_, rfl, ?_⟩) | ((with_reducible refine gate_callee (f := 13) rfl ?_); refine zC (some 14) rfl rfl Try.func13 rfl #[.slice A0 l0.length c0] rfl ?_; (with_reducible refine (spec_DrawFallenMemory.calls k _ _ l0 t373 t374 t377 _ ?side1 ?side2 A4.out).mono ?_); (case side1 => repeat (first | exact HR0.out | (with_reducible first | refine ca ?_ _ | refine cn ?_ _ | refine ce ?_))); (case side2 => exact HC0.out); rintro e w10 ⟨v375, rfl, ho0, hb⟩; refine ⟨_, rfl, ?_⟩; have HO376 := Am (Kd.R_lower ho0 (bz zB)); replace HB := Am (bq zB hb); (try clear hb ho0)) | ((with_reducible refine gate_dst (N := 3) rfl ?_); (try (refine gate_guard (by rfl) ?_; dsimp only)); refine box_event ?hg (N := 3) ?hd (cs := #[.string (⟨#[]⟩ : ByteArray), .slice none 0 0]) (t := 28) ?hr ?_; (case hd => rfl); (case hg => rfl); (case hr => first | (go_simp; done) | (go_simp; rfl)); intro gb378 hg w11 hbox hb; replace HO376 := Am (rb (by (with_reducible repeat (first | apply ra | apply rn | apply re)); exact HO376.out) hb); have BK378 := Am (hbox); have GW378 := Am ((by rw [hg]; exact (bz zB) : w.heap.size ≤ gb378)); have GE378 := Am ((by rw [hg]; exact (bz zB) : w.heap.size ≤ gb378)); replace HB := Am (bq zB hb); clear hb hbox hg; obtain ⟨hcz12_0, hcz12_1⟩ := kc2 (w := w11) BK378.out; have hfz12_0 := kf BK378.out; obtain ⟨Ao13, co13, eo13⟩ := Kd.R_slice HO376.out; subst eo13) | ((with_reducible refine gate_callee (f := 8) rfl ?_); refine zC (some 19) rfl rfl Try.func8 rfl #[.agg #[.string t373, .slice Ao13 t374.length co13], .int .i64 t377] rfl ?_; (with_reducible refine (impl_FallenMemory.calls k t373 _ _ t374 t377 t379 t380 _ ?side1 ?side2 A5.out).mono ?_); (case side1 => refine (Kd.R_reads' (e := 49) (base := w.heap.size) (ok := fun k_ => True) (n := t374.length) (c := co13) ?_).2.2; exact (by (with_reducible repeat (first | apply ra | apply rn | apply re)); exact (Kd.R_mono (Kd.R_far (p := ⟨gb378, 1, none⟩) (Kd.R_far (p := ⟨gb378, 0, none⟩) (Kd.R_types HO376.out BK378.out (by decide)) (fun _ hk => hk.2) (.string t373)) (fun _ hk => hk.2) (.slice Ao13 t374.length co13)) (fun _ h_ => h_.1)))); (case side2 => exact (Kd.R_reads' HO376.out).2.1); rintro e w14 ⟨v381, rfl, ho0, hb⟩; refine ⟨_, rfl, ?_⟩; have n0_ := Am (Kd.R_elder' (by (with_reducible repeat (first | apply ra | apply rn | apply re)); exact (Kd.R_mono (Kd.R_far (p := ⟨gb378, 1, none⟩) (Kd.R_far (p := ⟨gb378, 0, none⟩) (Kd.R_types HO376.out BK378.out (by decide)) (fun _ hk => hk.2) (.string t373)) (fun _ hk => hk.2) (.slice Ao13 t374.length co13)) (fun _ h_ => h_.1))) (Kd.R_base ho0) hb); have n1_ := Am (Kd.R_lower (Kd.R_new' ho0 (Kd.R_lt (by (with_reducible repeat (first | apply ra | apply rn | apply re)); exact (Kd.R_mono (Kd.R_far (p := ⟨gb378, 1, none⟩) (Kd.R_far (p := ⟨gb378, 0, none⟩) (Kd.R_types HO376.out BK378.out (by decide)) (fun _ hk => hk.2) (.string t373)) (fun _ hk => hk.2) (.slice Ao13 t374.length co13)) (fun _ h_ => h_.1))))) (bz zG)); have n2_ := Am (kb (g := gb378) (o := o14b0 t373 Ao13 t374.length co13) (by (with_reducible repeat (first | refine kn ?_ _ | refine ke ?_ | refine ka ?_ _)); refine kp (cs := #[.string t373, .slice none 0 0]) ?_ 1 _ rfl; (with_reducible repeat (first | refine kn ?_ _ | refine ke ?_ | refine ka ?_ _)); refine kp (cs := #[.string (⟨#[]⟩ : ByteArray), .slice none 0 0]) ?_ 0 _ rfl; (with_reducible repeat (first | refine kn ?_ _ | refine ke ?_ | refine ka ?_ _)); exact BK378.out) hb); have n3_ := Am (bq zG hb); clear HO376; clear BK378; clear HB; have HO376 := n0_; have HO382 := n1_; have BK378 := n2_; have HB := n3_; clear n0_ n1_ n2_ n3_; (try clear hb ho0)) | ((with_reducible refine gate_dst (N := 5) rfl ?_); (try (refine gate_guard (by rfl) ?_; dsimp only)); refine box_event ?hg (N := 5) ?hd (cs := #[.string (⟨#[]⟩ : ByteArray), .slice none 0 0]) (t := 28) ?hr ?_; (case hd => rfl); (case hg => rfl); (case hr => first | (go_simp; done) | (go_simp; rfl)); intro gb383 hg w15 hbox hb; have n0_ := Am (rb (by (with_reducible repeat (first | apply ra | apply rn | apply re)); exact HO376.out) hb); have n1_ := Am (rb (by (with_reducible repeat (first | apply ra | apply rn | apply re)); exact HO382.out) hb); have n2_ := Am (zK BK378 hb); have n3_ := Am (bq zG hb); have n4_ := Am (hbox); have n5_ := Am ((by rw [hg]; exact (bz zG) : w.heap.size ≤ gb383)); have n6_ := Am ((by rw [hg]; exact (bz zG) : w.heap.size ≤ gb383)); have n7_ := Am ((by rw [hg]; exact Nat.ne_of_lt (zL BK378) : gb378 ≠ gb383)); have n8_ := Am ((by rw [hg]; exact Nat.ne_of_gt (zL BK378) : gb383 ≠ gb378)); clear HO376; clear HO382; clear BK378; clear HB; have HO376 := n0_; have HO382 := n1_; have BK378 := n2_; have HB := n3_; have BK383 := n4_; have GW383 := n5_; have GE383 := n6_; have NB378_383 := n7_; have NB383_378 := n8_; clear n0_ n1_ n2_ n3_ n4_ n5_ n6_ n7_ n8_; clear hb hbox hg; have hnb16 := NB383_378.out; have hnc16 := NB378_383.out; obtain ⟨hcz17_0, hcz17_1⟩ := kc2 (w := w15) BK383.out; have hfz17_0 := kf BK383.out; obtain ⟨Ao18, co18, eo18⟩ := Kd.R_slice HO382.out; subst eo18))
   have n0_ : Aside0 (Kd.R k49 49 ((w15.setCell ⟨gb383, 0, none⟩ (.string t379)).setCell ⟨gb383, 1, none⟩ (.slice Ao18 t380.length co18)) w.heap.size (fun k_ => some k_ ≠ (.slice Ao18 t380.length co18 : Value).ownBlock) (.slice Ao13 t374.length co13) t374) := ⟨by (with_reducible repeat (first | apply ra | apply rn | apply re)); exact Kd.R_mono (Kd.R_far (p := ⟨gb383, 1, none⟩) (Kd.R_far (p := ⟨gb383, 0, none⟩) (Kd.R_types HO376.out BK383.out (by decide)) (fun _ hk => hk.2) (.string t379)) (fun _ hk => hk.2) (.slice Ao18 t380.length co18)) (fun _ hk => hk.1.2)⟩
   have n1_ : Aside0 (Kd.R k49 49 ((w15.setCell ⟨gb383, 0, none⟩ (.string t379)).setCell ⟨gb383, 1, none⟩ (.slice Ao18 t380.length co18)) w.heap.size (fun k_ => some k_ ≠ (.slice Ao13 t374.length co13 : Value).ownBlock) (.slice Ao18 t380.length co18) t380) := ⟨by (with_reducible repeat (first | apply ra | apply rn | apply re)); exact Kd.R_mono (Kd.R_far (p := ⟨gb383, 1, none⟩) (Kd.R_far (p := ⟨gb383, 0, none⟩) (Kd.R_types HO382.out BK383.out (by decide)) (fun _ hk => hk.2) (.string t379)) (fun _ hk => hk.2) (.slice Ao18 t380.length co18)) (fun _ hk => hk.1.2)⟩
   have n2_ : Aside0 (((w15.setCell ⟨gb383, 0, none⟩ (.string t379)).setCell ⟨gb383, 1, none⟩ (.slice Ao18 t380.length co18)).heap[gb378]? = some (.cells #[.string t373, .slice Ao13 t374.length co13] 28 (0, 0))) := ⟨by (with_reducible repeat (first | refine kn ?_ _ | refine ke ?_ | refine ka ?_ _)); refine blk_far ?_ NB378_383.out _; (with_reducible repeat (first | refine kn ?_ _ | refine ke ?_ | refine ka ?_ _)); refine blk_far ?_ NB378_383.out _; (with_reducible repeat (first | refine kn ?_ _ | refine ke ?_ | refine ka ?_ _)); exact BK378.out⟩
   have n3_ : Aside0 (((w15.setCell ⟨gb383, 0, none⟩ (.string t379)).setCell ⟨gb383, 1, none⟩ (.slice Ao18 t380.length co18)).heap[gb383]? = some (.cells #[.string t379, .slice Ao18 t380.length co18] 28 (0, 0))) := ⟨by (with_reducible repeat (first | refine kn ?_ _ | refine ke ?_ | refine ka ?_ _)); refine kp (cs := #[.string t379, .slice none 0 0]) ?_ 1 _ rfl; (with_reducible repeat (first | refine kn ?_ _ | refine ke ?_ | refine ka ?_ _)); refine kp (cs := #[.string (⟨#[]⟩ : ByteArray), .slice none 0 0]) ?_ 0 _ rfl; (with_reducible repeat (first | refine kn ?_ _ | refine ke ?_ | refine ka ?_ _)); exact BK383.out⟩
   have n4_ : Aside0 (Below w.heap.size w ((w15.setCell ⟨gb383, 0, none⟩ (.string t379)).setCell ⟨gb383, 1, none⟩ (.slice Ao18 t380.length co18))) := ⟨zG⟩
   (try clear HO376)
   (try clear HO382)
   (try clear BK378)
   (try clear BK383)
   (try clear HB)
   generalize ((w15.setCell ⟨gb383, 0, none⟩ (.string t379)).setCell ⟨gb383, 1, none⟩ (.slice Ao18 t380.length co18)) = w19 at n0_ n1_ n2_ n3_ n4_ ⊢
   have HO376 := n0_
   have HO382 := n1_
   have BK378 := n2_
   have BK383 := n3_
   have HB := n4_
   clear n0_ n1_ n2_ n3_ n4_
   have n0_ := Am (re HO376.out)
   have n1_ := Am (re HO382.out)
   have n2_ := Am (ke BK378.out)
   have n3_ := Am (ke BK383.out)
   have n4_ := Am (be HB.out)
   clear HO376
   clear HO382
   clear BK378
   clear BK383
   clear HB
   have HO376 := n0_
   have HO382 := n1_
   have BK378 := n2_
   have BK383 := n3_
   have HB := n4_
   clear n0_ n1_ n2_ n3_ n4_
   refine start_ (n := 6) (S := fun w' => w'.cell? ⟨gb383, 0, none⟩ = some (.string t379) ∧ w'.cell? ⟨gb383, 1, none⟩ = some (.slice Ao18 t380.length co18) ∧ w'.cell? ⟨gb378, 0, none⟩ = some (.string t373) ∧ w'.cell? ⟨gb378, 1, none⟩ = some (.slice Ao13 t374.length co13)) (ds := []) #[false, false, false, false, false, false] (by kernel_rfl) rfl rfl ⟨(kc BK383.out 0).trans rfl, (kc BK383.out 1).trans rfl, (kc BK378.out 0).trans rfl, (kc BK378.out 1).trans rfl⟩ (fun hHeld => ?_)
   generalize w19.drew = w20 at HO376 HO382 BK378 BK383 HB hHeld ⊢
   refine yA 2 (some 22) rfl rfl ?_
   refine yT 0 (some 20) rfl rfl hHeld ?_
   refine yT 1 (some 21) rfl rfl hHeld ?_
   refine yO 3 (some 23) rfl rfl (fun K hK => ?_)
   refine goes_ Try.func6 (by kernel_rfl) rfl #[.agg #[.string t373, .slice Ao13 t374.length co13], .int .i64 t377] (by rfl) rfl rfl (by (try simp only [List.map_toArray, List.map_cons, List.map_nil]); first | done | rfl | (simp only [List.length_drop, List.length_take]; rfl)) ?_
   with_reducible refine (spec_FallenMemory.calls k t373 _ _ t374 t377 t384 t385 _ ?side1 ?side2 A6.out).mono ?_
   (case side1 => repeat (first | exact (Kd.R_reads' HO376.out).2.2 | (with_reducible first | refine ca ?_ _ | refine cn ?_ _ | refine ce ?_)))
   (case side2 => exact (Kd.R_reads' HO376.out).2.1)
   rintro e w21 ⟨v386, rfl, ho0, hb⟩
   refine ⟨_, rfl, ?_⟩
   have n0_ := Am (Kd.R_elder' (by (with_reducible repeat (first | apply ra | apply rn | apply re)); exact HO376.out) (Kd.R_base ho0) hb)
   have n1_ := Am (Kd.R_elder' (by (with_reducible repeat (first | apply ra | apply rn | apply re)); exact HO382.out) (Kd.R_base ho0) hb)
   have n2_ := Am (Kd.R_lower (Kd.R_new' (Kd.R_new' ho0 (Kd.R_lt (by (with_reducible repeat (first | apply ra | apply rn | apply re)); exact HO376.out))) (Kd.R_lt (by (with_reducible repeat (first | apply ra | apply rn | apply re)); exact HO382.out))) (bz zG))
   have n3_ := Am (zK BK378 hb)
   have n4_ := Am (zK BK383 hb)
   have n5_ := Am (bq zG hb)
   clear HO376
   clear HO382
   clear BK378
   clear BK383
   clear HB
   have HO376 := n0_
   have HO382 := n1_
   have HO387 := n2_
   have BK378 := n3_
   have BK383 := n4_
   have HB := n5_
   clear n0_ n1_ n2_ n3_ n4_ n5_
   (try clear hb)
   (try clear hb2)
   (try clear hk)
   (try clear hi)
   (try clear ho0)
   obtain ⟨Ao22, co22, eo22⟩ := Kd.R_slice HO387.out
   (first | subst eo22 | (injection eo22 with f1_ f2_ f3_; have f4_ := f1_.symm; have f5_ := f3_.symm; clear f1_ f2_ f3_; subst f4_; subst f5_))
   refine hK.out _ _ ⟨(kc BK383.out 0).trans rfl, (kc BK383.out 1).trans rfl, (kc BK378.out 0).trans rfl, (kc BK378.out 1).trans rfl⟩ (fun hHeld => ?_)
   clear hK K
   refine zN (some 23) ?_
   refine yO 4 (some 24) rfl rfl (fun K hK => ?_)
   refine goes_ Try.func14 (by kernel_rfl) rfl #[.agg #[.string t379, .slice Ao18 t380.length co18], .agg #[.string t384, .slice Ao22 t385.length co22]] (by rfl) rfl rfl (by (try simp only [List.map_toArray, List.map_cons, List.map_nil]); first | done | rfl | (simp only [List.length_drop, List.length_take]; rfl)) ?_
   with_reducible refine (laws_sameMemory.calls k t379 _ _ t380 t384 _ _ t385 true _ ?side1 ?side2 ?side3 ?side4 A7.out).mono ?_
   (case side1 => repeat (first | exact (Kd.R_reads' HO382.out).2.2 | (with_reducible first | refine ca ?_ _ | refine cn ?_ _ | refine ce ?_)))
   (case side2 => exact (Kd.R_reads' HO382.out).2.1)
   (case side3 => repeat (first | exact (Kd.R_reads' HO387.out).2.2 | (with_reducible first | refine ca ?_ _ | refine cn ?_ _ | refine ce ?_)))
   (case side4 => exact (Kd.R_reads' HO387.out).2.1)
   rintro e w23 ⟨rfl, hb⟩
   refine ⟨_, rfl, ?_⟩
   have n0_ := Am (rb (by (with_reducible repeat (first | apply ra | apply rn | apply re)); exact HO376.out) hb)
   have n1_ := Am (rb (by (with_reducible repeat (first | apply ra | apply rn | apply re)); exact HO382.out) hb)
   have n2_ := Am (rb (by (with_reducible repeat (first | apply ra | apply rn | apply re)); exact HO387.out) hb)
   have n3_ := Am (zK BK378 hb)
   have n4_ := Am (zK BK383 hb)
   have n5_ := Am (bq zG hb)
   clear HO376
   clear HO382
   clear HO387
   clear BK378
   clear BK383
   clear HB
   have HO376 := n0_
   have HO382 := n1_
   have HO387 := n2_
   have BK378 := n3_
   have BK383 := n4_
   have HB := n5_
   clear n0_ n1_ n2_ n3_ n4_ n5_
   (try clear hb)
   (try clear hb2)
   (try clear hk)
   (try clear hi)
   refine hK.out _ _ ⟨(kc BK383.out 0).trans rfl, (kc BK383.out 1).trans rfl, (kc BK378.out 0).trans rfl, (kc BK378.out 1).trans rfl⟩ (fun hHeld => ?_)
   clear hK K
   refine zN (some 24) ?_
   refine yA 5 (some 25) rfl rfl ?_
   refine done_ (by kernel_rfl) ?_
   go_upto_region 7 with (fail)
   go_cut [32] (fun v32 wc => ∃ (kq : Nat) (x32_8 : Bool), v32 = .bool x32_8 ∧ Aside0 (laws_FnUnsure.j0 kq x32_8 t373 t374 t379 t380 = some r) ∧ Aside0 (kq ≤ k) ∧ Aside0 (Kd.R k49 49 wc w.heap.size (fun k_ => some k_ ≠ ((.slice Ao18 t380.length co18) : Value).ownBlock) (.slice Ao13 t374.length co13) t374) ∧ Aside0 (Kd.R k49 49 wc w.heap.size (fun k_ => some k_ ≠ ((.slice Ao13 t374.length co13) : Value).ownBlock) (.slice Ao18 t380.length co18) t380) ∧ Aside0 (wc.heap[gb378]? = some (.cells #[.string t373, (.slice Ao13 t374.length co13)] 28 (0, 0))) ∧ Aside0 (wc.heap[gb383]? = some (.cells #[.string t379, (.slice Ao18 t380.length co18)] 28 (0, 0))) ∧ Aside0 (Below w.heap.size w wc))
   case first =>
    have H := HC9.out
    clear HC9
    replace H := Option.bind_eq_some_iff.mp H
    obtain ⟨t389, A240, H⟩ := H
    replace H : (if t389 = true then (laws_FnUnsure.j0 k (decide (t377 < 0)) t373 t374 t379 t380) else (laws_FnUnsure.j0 k true t373 t374 t379 t380)) = some r := H
    have A24 := Am A240
    clear A240
    by_cases c25 : t389 = true
    ·subst c25
     have H1 : (laws_FnUnsure.j0 k (decide (t377 < 0)) t373 t374 t379 t380) = some r := by rw [if_pos rfl] at H; exact H
     clear H
     have H := H1
     clear H1
     have H' := Am H
     clear H
     have hnb26 := NB378_383.out
     have hnc26 := NB383_378.out
     obtain ⟨hcz27_0, hcz27_1⟩ := kc2 (w := w23) BK378.out
     have hfz27_0 := kf BK378.out
     go_wp2_with (first | ((with_reducible refine gate_callee (f := 15) rfl ?_); refine zC (some 27) rfl rfl Try.func15 rfl #[.agg #[.string t373, .slice Ao13 t374.length co13]] rfl ?_; (with_reducible refine (spec_MemoryOk.calls k t373 _ _ t374 true _ ?side1 ?side2 A24.out).mono ?_); (case side1 => repeat (first | exact (Kd.R_reads' HO376.out).2.2 | (with_reducible first | refine ca ?_ _ | refine cn ?_ _ | refine ce ?_))); (case side2 => exact (Kd.R_reads' HO376.out).2.1); rintro e w28 ⟨rfl, hb⟩; refine ⟨_, rfl, ?_⟩; have n0_ := Am (rb (by (with_reducible repeat (first | apply ra | apply rn | apply re)); exact HO376.out) hb); have n1_ := Am (rb (by (with_reducible repeat (first | apply ra | apply rn | apply re)); exact HO382.out) hb); have n2_ := Am (rb (by (with_reducible repeat (first | apply ra | apply rn | apply re)); exact HO387.out) hb); have n3_ := Am (zK BK378 hb); have n4_ := Am (zK BK383 hb); have n5_ := Am (bq zG hb); clear HO376; clear HO382; clear HO387; clear BK378; clear BK383; clear HB; have HO376 := n0_; have HO382 := n1_; have HO387 := n2_; have BK378 := n3_; have BK383 := n4_; have HB := n5_; clear n0_ n1_ n2_ n3_ n4_ n5_; (try clear hb)))
     go_meet
     case rel => exact ⟨_, (decide (t377 < 0)), (by first | rfl | (simp; done) | (simp [*]; done)), H', ⟨by first | omega | exact Nat.le_refl _⟩, ⟨by (with_reducible repeat (first | apply ra | apply rn | apply re)); exact Kd.R_mono HO376.out (fun _ hk => (by first | exact hk.1 | exact hk | exact hk.2 | exact hk.1.1 | exact hk.1.2 | exact hk.2.1 | exact hk.2.2 | exact hk.1.1.1 | exact hk.1.1.2 | exact hk.1.2.1 | exact hk.1.2.2 | exact hk.2.1.1 | exact hk.2.1.2 | exact hk.2.2.1 | exact hk.2.2.2))⟩, ⟨by (with_reducible repeat (first | apply ra | apply rn | apply re)); exact Kd.R_mono HO382.out (fun _ hk => (by first | exact hk.1 | exact hk | exact hk.2 | exact hk.1.1 | exact hk.1.2 | exact hk.2.1 | exact hk.2.2 | exact hk.1.1.1 | exact hk.1.1.2 | exact hk.1.2.1 | exact hk.1.2.2 | exact hk.2.1.1 | exact hk.2.1.2 | exact hk.2.2.1 | exact hk.2.2.2))⟩, ⟨by (with_reducible repeat (first | refine kn ?_ _ | refine ke ?_ | refine ka ?_ _)); exact BK378.out⟩, ⟨by (with_reducible repeat (first | refine kn ?_ _ | refine ke ?_ | refine ka ?_ _)); exact BK383.out⟩, ⟨zG⟩⟩
    ·replace c25 := Bool.eq_false_iff.mpr c25
     subst c25
     have H1 : (laws_FnUnsure.j0 k true t373 t374 t379 t380) = some r := by rw [if_neg (show ¬ (false = true) by decide)] at H; exact H
     clear H
     have H := H1
     clear H1
     have H' := Am H
     clear H
     have hnb29 := NB378_383.out
     have hnc29 := NB383_378.out
     obtain ⟨hcz30_0, hcz30_1⟩ := kc2 (w := w23) BK378.out
     have hfz30_0 := kf BK378.out
     go_wp2_with (first | ((with_reducible refine gate_callee (f := 15) rfl ?_); refine zC (some 27) rfl rfl Try.func15 rfl #[.agg #[.string t373, .slice Ao13 t374.length co13]] rfl ?_; (with_reducible refine (spec_MemoryOk.calls k t373 _ _ t374 false _ ?side1 ?side2 A24.out).mono ?_); (case side1 => repeat (first | exact (Kd.R_reads' HO376.out).2.2 | (with_reducible first | refine ca ?_ _ | refine cn ?_ _ | refine ce ?_))); (case side2 => exact (Kd.R_reads' HO376.out).2.1); rintro e w31 ⟨rfl, hb⟩; refine ⟨_, rfl, ?_⟩; have n0_ := Am (rb (by (with_reducible repeat (first | apply ra | apply rn | apply re)); exact HO376.out) hb); have n1_ := Am (rb (by (with_reducible repeat (first | apply ra | apply rn | apply re)); exact HO382.out) hb); have n2_ := Am (rb (by (with_reducible repeat (first | apply ra | apply rn | apply re)); exact HO387.out) hb); have n3_ := Am (zK BK378 hb); have n4_ := Am (zK BK383 hb); have n5_ := Am (bq zG hb); clear HO376; clear HO382; clear HO387; clear BK378; clear BK383; clear HB; have HO376 := n0_; have HO382 := n1_; have HO387 := n2_; have BK378 := n3_; have BK383 := n4_; have HB := n5_; clear n0_ n1_ n2_ n3_ n4_ n5_; (try clear hb)))
     go_meet
     case rel => exact ⟨_, (true), (by first | rfl | (simp; done) | (simp [*]; done)), H', ⟨by first | omega | exact Nat.le_refl _⟩, ⟨by (with_reducible repeat (first | apply ra | apply rn | apply re)); exact Kd.R_mono HO376.out (fun _ hk => (by first | exact hk.1 | exact hk | exact hk.2 | exact hk.1.1 | exact hk.1.2 | exact hk.2.1 | exact hk.2.2 | exact hk.1.1.1 | exact hk.1.1.2 | exact hk.1.2.1 | exact hk.1.2.2 | exact hk.2.1.1 | exact hk.2.1.2 | exact hk.2.2.1 | exact hk.2.2.2))⟩, ⟨by (with_reducible repeat (first | apply ra | apply rn | apply re)); exact Kd.R_mono HO382.out (fun _ hk => (by first | exact hk.1 | exact hk | exact hk.2 | exact hk.1.1 | exact hk.1.2 | exact hk.2.1 | exact hk.2.2 | exact hk.1.1.1 | exact hk.1.1.2 | exact hk.1.2.1 | exact hk.1.2.2 | exact hk.2.1.1 | exact hk.2.1.2 | exact hk.2.2.1 | exact hk.2.2.2))⟩, ⟨by (with_reducible repeat (first | refine kn ?_ _ | refine ke ?_ | refine ka ?_ _)); exact BK378.out⟩, ⟨by (with_reducible repeat (first | refine kn ?_ _ | refine ke ?_ | refine ka ?_ _)); exact BK383.out⟩, ⟨zG⟩⟩
   case rest =>
    clear HC9
    try clear c1; try clear c2; try clear p2; try clear c3; try clear c4; try clear c6; try clear c8; try clear c12; try clear c13; try clear c14; try clear c15; try clear c16; try clear c25; try clear c26; try clear c29; try clear hcz12_0; try clear hcz12_1; try clear hcz17_0; try clear hcz17_1; try clear hcz27_0; try clear hcz27_1; try clear hcz30_0; try clear hcz30_1; try clear hfz12_0; try clear hfz12_1; try clear hfz17_0; try clear hfz17_1; try clear hfz27_0; try clear hfz27_1; try clear hfz30_0; try clear hfz30_1
    obtain ⟨kq, x32_8, rfl, HA, HJ8, HO_379001, HO_384001, BK378, BK383, HB⟩ := hcut
    cases kq with
    | zero => exact absurd HA.out (by simp [laws_FnUnsure.j0])
    | succ kj8 =>
     have H := HA.out
     clear HA
     simp only [laws_FnUnsure.j0] at H
     by_cases c32 : x32_8 = true
     ·subst c32
      have H1 : ((laws_sameMemory.f kj8 t379 t380 t373 t374).bind fun t390 => (if t390 = true then ((impl_MemoryNew.f 1).bind fun bt391 => (some ((bt391.1.size : Int) == 16))) else (some false))) = some r := by rw [if_pos rfl] at H; exact H
      clear H
      have H := H1
      clear H1
      replace H := Option.bind_eq_some_iff.mp H
      obtain ⟨t390, A330, H⟩ := H
      replace H : (if t390 = true then ((impl_MemoryNew.f 1).bind fun bt391 => (some ((bt391.1.size : Int) == 16))) else (some false)) = some r := H
      have A33 := Am A330
      clear A330
      by_cases c34 : t390 = true
      ·subst c34
       have H1 : ((impl_MemoryNew.f 1).bind fun bt391 => (some ((bt391.1.size : Int) == 16))) = some r := by rw [if_pos rfl] at H; exact H
       clear H
       have H := H1
       clear H1
       replace H := Option.bind_eq_some_iff.mp H
       obtain ⟨⟨t391, t392⟩, A350, H⟩ := H
       replace H : (some ((t391.size : Int) == 16)) = some r := H
       have A35 := Am A350
       clear A350
       obtain rfl := Option.some.inj H
       have hnb36 := NB383_378.out
       have hnc36 := NB378_383.out
       obtain ⟨hcz37_0, hcz37_1⟩ := kc2 (w := wc) BK383.out
       have hfz37_0 := kf BK383.out
       obtain ⟨hcz38_0, hcz38_1⟩ := kc2 (w := wc) BK378.out
       have hfz38_0 := kf BK378.out
       go_wp2_with (first | ((with_reducible refine gate_callee (f := 14) rfl ?_); refine zC (some 35) rfl rfl Try.func14 rfl #[.agg #[.string t379, .slice Ao18 t380.length co18], .agg #[.string t373, .slice Ao13 t374.length co13]] rfl ?_; (with_reducible refine (laws_sameMemory.calls kj8 t379 _ _ t380 t373 _ _ t374 true _ ?side1 ?side2 ?side3 ?side4 A33.out).mono ?_); (case side1 => repeat (first | exact (Kd.R_reads' HO_384001.out).2.2 | (with_reducible first | refine ca ?_ _ | refine cn ?_ _ | refine ce ?_))); (case side2 => exact (Kd.R_reads' HO_384001.out).2.1); (case side3 => repeat (first | exact (Kd.R_reads' HO_379001.out).2.2 | (with_reducible first | refine ca ?_ _ | refine cn ?_ _ | refine ce ?_))); (case side4 => exact (Kd.R_reads' HO_379001.out).2.1); rintro e w39 ⟨rfl, hb⟩; refine ⟨_, rfl, ?_⟩; have n0_ := Am (rb (by (with_reducible repeat (first | apply ra | apply rn | apply re)); exact HO_379001.out) hb); have n1_ := Am (rb (by (with_reducible repeat (first | apply ra | apply rn | apply re)); exact HO_384001.out) hb); have n2_ := Am (zK BK378 hb); have n3_ := Am (zK BK383 hb); have n4_ := Am (bq zG hb); clear HO_379001; clear HO_384001; clear BK378; clear BK383; clear HB; have HO_379001 := n0_; have HO_384001 := n1_; have BK378 := n2_; have BK383 := n3_; have HB := n4_; clear n0_ n1_ n2_ n3_ n4_; (try clear hb)) | (go_at_call 16; (with_reducible refine (impl_MemoryNew.calls 1 t391 t392 _ A35.out).mono ?_); rintro e w40 ⟨v393, rfl, ho0, hb⟩; obtain ⟨_, _, rfl⟩ := Kd.R_slice ho0; have n0_ := Am (Kd.R_elder' (by (with_reducible repeat (first | apply ra | apply rn | apply re)); exact HO_379001.out) (Kd.R_base ho0) hb); have n1_ := Am (Kd.R_elder' (by (with_reducible repeat (first | apply ra | apply rn | apply re)); exact HO_384001.out) (Kd.R_base ho0) hb); have n2_ := Am (Kd.R_lower (Kd.R_new' (Kd.R_new' ho0 (Kd.R_lt (by (with_reducible repeat (first | apply ra | apply rn | apply re)); exact HO_379001.out))) (Kd.R_lt (by (with_reducible repeat (first | apply ra | apply rn | apply re)); exact HO_384001.out))) (bz zG)); have n3_ := Am (zK BK378 hb); have n4_ := Am (zK BK383 hb); have n5_ := Am (bq zG hb); clear HO_379001; clear HO_384001; clear BK378; clear BK383; clear HB; have HO_379001 := n0_; have HO_384001 := n1_; have HO394 := n2_; have BK378 := n3_; have BK383 := n4_; have HB := n5_; clear n0_ n1_ n2_ n3_ n4_ n5_; (try clear hb ho0)))
       go_ret
       exact ⟨zR, zG⟩
      ·replace c34 := Bool.eq_false_iff.mpr c34
       subst c34
       have H1 : (some false) = some r := by rw [if_neg (show ¬ (false = true) by decide)] at H; exact H
       clear H
       have H := H1
       clear H1
       obtain rfl := Option.some.inj H
       have hnb41 := NB383_378.out
       have hnc41 := NB378_383.out
       obtain ⟨hcz42_0, hcz42_1⟩ := kc2 (w := wc) BK383.out
       have hfz42_0 := kf BK383.out
       obtain ⟨hcz43_0, hcz43_1⟩ := kc2 (w := wc) BK378.out
       have hfz43_0 := kf BK378.out
       go_wp2_with (first | ((with_reducible refine gate_callee (f := 14) rfl ?_); refine zC (some 35) rfl rfl Try.func14 rfl #[.agg #[.string t379, .slice Ao18 t380.length co18], .agg #[.string t373, .slice Ao13 t374.length co13]] rfl ?_; (with_reducible refine (laws_sameMemory.calls kj8 t379 _ _ t380 t373 _ _ t374 false _ ?side1 ?side2 ?side3 ?side4 A33.out).mono ?_); (case side1 => repeat (first | exact (Kd.R_reads' HO_384001.out).2.2 | (with_reducible first | refine ca ?_ _ | refine cn ?_ _ | refine ce ?_))); (case side2 => exact (Kd.R_reads' HO_384001.out).2.1); (case side3 => repeat (first | exact (Kd.R_reads' HO_379001.out).2.2 | (with_reducible first | refine ca ?_ _ | refine cn ?_ _ | refine ce ?_))); (case side4 => exact (Kd.R_reads' HO_379001.out).2.1); rintro e w44 ⟨rfl, hb⟩; refine ⟨_, rfl, ?_⟩; have n0_ := Am (rb (by (with_reducible repeat (first | apply ra | apply rn | apply re)); exact HO_379001.out) hb); have n1_ := Am (rb (by (with_reducible repeat (first | apply ra | apply rn | apply re)); exact HO_384001.out) hb); have n2_ := Am (zK BK378 hb); have n3_ := Am (zK BK383 hb); have n4_ := Am (bq zG hb); clear HO_379001; clear HO_384001; clear BK378; clear BK383; clear HB; have HO_379001 := n0_; have HO_384001 := n1_; have BK378 := n2_; have BK383 := n3_; have HB := n4_; clear n0_ n1_ n2_ n3_ n4_; (try clear hb)))
       go_ret
       exact ⟨zR, zG⟩
     ·replace c32 := Bool.eq_false_iff.mpr c32
      subst c32
      have H1 : ((impl_FallenMemory.f kj8 t373 t374 9223372036854775807).bind fun bt395 => ((impl_Unsure.f kj8 t373 t374).bind fun t400 => (laws_FnUnsure.l0 kj8 t400 0 t373 t374 bt395.1 bt395.2))) = some r := by rw [if_neg (show ¬ (false = true) by decide)] at H; exact H
      clear H
      have H := H1
      clear H1
      replace H := Option.bind_eq_some_iff.mp H
      obtain ⟨⟨t395, t396⟩, A450, H⟩ := H
      replace H : ((impl_Unsure.f kj8 t373 t374).bind fun t400 => (laws_FnUnsure.l0 kj8 t400 0 t373 t374 t395 t396)) = some r := H
      have A45 := Am A450
      clear A450
      replace H := Option.bind_eq_some_iff.mp H
      obtain ⟨t400, A460, H⟩ := H
      replace H : (laws_FnUnsure.l0 kj8 t400 0 t373 t374 t395 t396) = some r := H
      have A46 := Am A460
      clear A460
      have H' := Am H
      clear H
      have hnb47 := NB378_383.out
      have hnc47 := NB383_378.out
      obtain ⟨hcz48_0, hcz48_1⟩ := kc2 (w := wc) BK378.out
      have hfz48_0 := kf BK378.out
      go_wp2_with (first | ((with_reducible refine gate_callee (f := 8) rfl ?_); refine zC (some 43) rfl rfl Try.func8 rfl #[.agg #[.string t373, .slice Ao13 t374.length co13], .int .i64 9223372036854775807] rfl ?_; (with_reducible refine (impl_FallenMemory.calls kj8 t373 _ _ t374 9223372036854775807 t395 t396 _ ?side1 ?side2 A45.out).mono ?_); (case side1 => repeat (first | exact (Kd.R_reads' HO_379001.out).2.2 | (with_reducible first | refine ca ?_ _ | refine cn ?_ _ | refine ce ?_))); (case side2 => exact (Kd.R_reads' HO_379001.out).2.1); rintro e w49 ⟨v397, rfl, ho0, hb⟩; refine ⟨_, rfl, ?_⟩; have n0_ := Am (Kd.R_elder' (by (with_reducible repeat (first | apply ra | apply rn | apply re)); exact HO_379001.out) (Kd.R_base ho0) hb); have n1_ := Am (Kd.R_elder' (by (with_reducible repeat (first | apply ra | apply rn | apply re)); exact HO_384001.out) (Kd.R_base ho0) hb); have n2_ := Am (Kd.R_lower (Kd.R_new' (Kd.R_new' ho0 (Kd.R_lt (by (with_reducible repeat (first | apply ra | apply rn | apply re)); exact HO_379001.out))) (Kd.R_lt (by (with_reducible repeat (first | apply ra | apply rn | apply re)); exact HO_384001.out))) (bz zG)); have n3_ := Am (zK BK378 hb); have n4_ := Am (zK BK383 hb); have n5_ := Am (bq zG hb); clear HO_379001; clear HO_384001; clear BK378; clear BK383; clear HB; have HO_379001 := n0_; have HO_384001 := n1_; have HO398 := n2_; have BK378 := n3_; have BK383 := n4_; have HB := n5_; clear n0_ n1_ n2_ n3_ n4_ n5_; (try clear hb ho0)) | ((with_reducible refine gate_dst (N := 6) rfl ?_); (try (refine gate_guard (by rfl) ?_; dsimp only)); refine box_event ?hg (N := 6) ?hd (cs := #[.string (⟨#[]⟩ : ByteArray), .slice none 0 0]) (t := 28) ?hr ?_; (case hd => rfl); (case hg => rfl); (case hr => first | (go_simp; done) | (go_simp; rfl)); intro gb399 hg w50 hbox hb; have n0_ := Am (rb (by (with_reducible repeat (first | apply ra | apply rn | apply re)); exact HO_379001.out) hb); have n1_ := Am (rb (by (with_reducible repeat (first | apply ra | apply rn | apply re)); exact HO_384001.out) hb); have n2_ := Am (rb (by (with_reducible repeat (first | apply ra | apply rn | apply re)); exact HO398.out) hb); have n3_ := Am (zK BK378 hb); have n4_ := Am (zK BK383 hb); have n5_ := Am (bq zG hb); have n6_ := Am (hbox); have n7_ := Am ((by rw [hg]; exact (bz zG) : w.heap.size ≤ gb399)); have n8_ := Am ((by rw [hg]; exact (bz zG) : w.heap.size ≤ gb399)); have n9_ := Am ((by rw [hg]; exact Nat.ne_of_lt (zL BK378) : gb378 ≠ gb399)); have n10_ := Am ((by rw [hg]; exact Nat.ne_of_gt (zL BK378) : gb399 ≠ gb378)); have n11_ := Am ((by rw [hg]; exact Nat.ne_of_lt (zL BK383) : gb383 ≠ gb399)); have n12_ := Am ((by rw [hg]; exact Nat.ne_of_gt (zL BK383) : gb399 ≠ gb383)); clear HO_379001; clear HO_384001; clear HO398; clear BK378; clear BK383; clear HB; have HO_379001 := n0_; have HO_384001 := n1_; have HO398 := n2_; have BK378 := n3_; have BK383 := n4_; have HB := n5_; have BK399 := n6_; have GW399 := n7_; have GE399 := n8_; have NB378_399 := n9_; have NB399_378 := n10_; have NB383_399 := n11_; have NB399_383 := n12_; clear n0_ n1_ n2_ n3_ n4_ n5_ n6_ n7_ n8_ n9_ n10_ n11_ n12_; clear hb hbox hg; have hnb51 := NB399_378.out; have hnc51 := NB378_399.out; have hnb52 := NB399_383.out; have hnc52 := NB383_399.out; obtain ⟨hcz53_0, hcz53_1⟩ := kc2 (w := w50) BK399.out; have hfz53_0 := kf BK399.out; obtain ⟨Ao54, co54, eo54⟩ := Kd.R_slice HO398.out; subst eo54; obtain ⟨hcz55_0, hcz55_1⟩ := kc2 (w := w50) BK378.out; have hfz55_0 := kf BK378.out) | ((with_reducible refine gate_callee (f := 17) rfl ?_); refine zC (some 45) rfl rfl Try.func17 rfl #[.agg #[.string t373, .slice Ao13 t374.length co13]] rfl ?_; (with_reducible refine (impl_Unsure.calls kj8 t373 _ _ t374 t400 _ ?side1 ?side2 A46.out).mono ?_); (case side1 => refine (Kd.R_reads' (e := 49) (base := w.heap.size) (ok := fun k_ => (some k_ ≠ (.slice Ao18 t380.length co18 : Value).ownBlock ∧ some k_ ≠ (.slice Ao54 t396.length co54 : Value).ownBlock)) (n := t374.length) (c := co13) ?_).2.2; exact (by (with_reducible repeat (first | apply ra | apply rn | apply re)); exact (Kd.R_mono (Kd.R_far (p := ⟨gb399, 1, none⟩) (Kd.R_far (p := ⟨gb399, 0, none⟩) (Kd.R_types HO_379001.out BK399.out (by decide)) (fun _ hk => hk.2) (.string t395)) (fun _ hk => hk.2) (.slice Ao54 t396.length co54)) (fun _ h_ => h_.1)))); (case side2 => exact (Kd.R_reads' HO_379001.out).2.1); rintro e w56 ⟨v401, rfl, ho0, hb⟩; refine ⟨_, rfl, ?_⟩; have n0_ := Am (rb (by (with_reducible repeat (first | apply ra | apply rn | apply re)); exact (Kd.R_mono (Kd.R_far (p := ⟨gb399, 1, none⟩) (Kd.R_far (p := ⟨gb399, 0, none⟩) (Kd.R_types HO_379001.out BK399.out (by decide)) (fun _ hk => hk.2) (.string t395)) (fun _ hk => hk.2) (.slice Ao54 t396.length co54)) (fun _ h_ => h_.1))) hb); have n1_ := Am (rb (by (with_reducible repeat (first | apply ra | apply rn | apply re)); exact (Kd.R_mono (Kd.R_far (p := ⟨gb399, 1, none⟩) (Kd.R_far (p := ⟨gb399, 0, none⟩) (Kd.R_types HO_384001.out BK399.out (by decide)) (fun _ hk => hk.2) (.string t395)) (fun _ hk => hk.2) (.slice Ao54 t396.length co54)) (fun _ h_ => h_.1))) hb); have n2_ := Am (rb (by (with_reducible repeat (first | apply ra | apply rn | apply re)); exact (Kd.R_mono (Kd.R_far (p := ⟨gb399, 1, none⟩) (Kd.R_far (p := ⟨gb399, 0, none⟩) (Kd.R_types HO398.out BK399.out (by decide)) (fun _ hk => hk.2) (.string t395)) (fun _ hk => hk.2) (.slice Ao54 t396.length co54)) (fun _ h_ => h_.1))) hb); have n3_ := Am (Kd.R_lower ho0 (bz zG)); have n4_ := Am (kb (g := gb378) (o := o14b0 t373 Ao13 t374.length co13) (by (with_reducible repeat (first | refine kn ?_ _ | refine ke ?_ | refine ka ?_ _)); refine blk_far ?_ NB378_399.out _; (with_reducible repeat (first | refine kn ?_ _ | refine ke ?_ | refine ka ?_ _)); refine blk_far ?_ NB378_399.out _; (with_reducible repeat (first | refine kn ?_ _ | refine ke ?_ | refine ka ?_ _)); exact BK378.out) hb); have n5_ := Am (kb (g := gb383) (o := o14b1 t379 Ao18 t380.length co18) (by (with_reducible repeat (first | refine kn ?_ _ | refine ke ?_ | refine ka ?_ _)); refine blk_far ?_ NB383_399.out _; (with_reducible repeat (first | refine kn ?_ _ | refine ke ?_ | refine ka ?_ _)); refine blk_far ?_ NB383_399.out _; (with_reducible repeat (first | refine kn ?_ _ | refine ke ?_ | refine ka ?_ _)); exact BK383.out) hb); have n6_ := Am (kb (g := gb399) (o := o14b2 t395 Ao54 t396.length co54) (by (with_reducible repeat (first | refine kn ?_ _ | refine ke ?_ | refine ka ?_ _)); refine kp (cs := #[.string t395, .slice none 0 0]) ?_ 1 _ rfl; (with_reducible repeat (first | refine kn ?_ _ | refine ke ?_ | refine ka ?_ _)); refine kp (cs := #[.string (⟨#[]⟩ : ByteArray), .slice none 0 0]) ?_ 0 _ rfl; (with_reducible repeat (first | refine kn ?_ _ | refine ke ?_ | refine ka ?_ _)); exact BK399.out) hb); have n7_ := Am (bq zG hb); clear HO_379001; clear HO_384001; clear HO398; clear BK378; clear BK383; clear BK399; clear HB; have HO_379001 := n0_; have HO_384001 := n1_; have HO398 := n2_; have HO402 := n3_; have BK378 := n4_; have BK383 := n5_; have BK399 := n6_; have HB := n7_; clear n0_ n1_ n2_ n3_ n4_ n5_ n6_ n7_; (try clear hb ho0)))
      go_loopg [8] kj8 (fun kq v8 w' => ∃ (x8_2 : Int), v8 = .int .i64 x8_2 ∧ Aside0 (laws_FnUnsure.l0 kq t400 x8_2 t373 t374 t395 t396 = some r) ∧ Aside0 (kq ≤ kj8) ∧ Aside0 (Kd.R (Kd.int .i64) 3 w' w.heap.size (fun _ => True) v401 t400) ∧ Aside0 (Kd.R k49 49 w' w.heap.size (fun k_ => some k_ ≠ ((.slice Ao18 t380.length co18) : Value).ownBlock ∧ some k_ ≠ ((.slice Ao54 t396.length co54) : Value).ownBlock) (.slice Ao13 t374.length co13) t374) ∧ Aside0 (Kd.R k49 49 w' w.heap.size (fun k_ => some k_ ≠ ((.slice Ao13 t374.length co13) : Value).ownBlock ∧ some k_ ≠ ((.slice Ao54 t396.length co54) : Value).ownBlock) (.slice Ao18 t380.length co18) t380) ∧ Aside0 (Kd.R k49 49 w' w.heap.size (fun k_ => some k_ ≠ ((.slice Ao13 t374.length co13) : Value).ownBlock ∧ some k_ ≠ ((.slice Ao18 t380.length co18) : Value).ownBlock) (.slice Ao54 t396.length co54) t396) ∧ Aside0 (w'.heap[gb378]? = some (.cells #[.string t373, (.slice Ao13 t374.length co13)] 28 (0, 0))) ∧ Aside0 (w'.heap[gb383]? = some (.cells #[.string t379, (.slice Ao18 t380.length co18)] 28 (0, 0))) ∧ Aside0 (w'.heap[gb399]? = some (.cells #[.string t395, (.slice Ao54 t396.length co54)] 28 (0, 0))) ∧ Aside0 (Below w.heap.size w w'))
      case atStart => exact ⟨(0), (by first | rfl | (simp; done) | (simp [*]; done)), H', ⟨Nat.le_refl _⟩, ⟨by (with_reducible repeat (first | apply ra | apply rn | apply re)); exact HO402.out⟩, ⟨by (with_reducible repeat (first | apply ra | apply rn | apply re)); exact HO_379001.out⟩, ⟨by (with_reducible repeat (first | apply ra | apply rn | apply re)); exact HO_384001.out⟩, ⟨by (with_reducible repeat (first | apply ra | apply rn | apply re)); exact Kd.R_mono HO398.out (fun _ hk => ⟨hk.1.2, hk.2⟩)⟩, ⟨by (with_reducible repeat (first | refine kn ?_ _ | refine ke ?_ | refine ka ?_ _)); exact BK378.out⟩, ⟨by (with_reducible repeat (first | refine kn ?_ _ | refine ke ?_ | refine ka ?_ _)); exact BK383.out⟩, ⟨by (with_reducible repeat (first | refine kn ?_ _ | refine ke ?_ | refine ka ?_ _)); exact BK399.out⟩, ⟨zG⟩⟩
      case round =>
       clear H'
       try clear c1; try clear c2; try clear p2; try clear c3; try clear c4; try clear c5; try clear c6; try clear c8; try clear c12; try clear c13; try clear c14; try clear c15; try clear c16; try clear c17; try clear c25; try clear c26; try clear c29; try clear c32; try clear c34; try clear c36; try clear c41; try clear c47; try clear c51; try clear c52; try clear hcz12_0; try clear hcz12_1; try clear hcz17_0; try clear hcz17_1; try clear hcz27_0; try clear hcz27_1; try clear hcz30_0; try clear hcz30_1; try clear hcz37_0; try clear hcz37_1; try clear hcz38_0; try clear hcz38_1; try clear hcz42_0; try clear hcz42_1; try clear hcz43_0; try clear hcz43_1; try clear hcz48_0; try clear hcz48_1; try clear hcz53_0; try clear hcz53_1; try clear hcz55_0; try clear hcz55_1; try clear hfz12_0; try clear hfz12_1; try clear hfz17_0; try clear hfz17_1; try clear hfz27_0; try clear hfz27_1; try clear hfz30_0; try clear hfz30_1; try clear hfz37_0; try clear hfz37_1; try clear hfz38_0; try clear hfz38_1; try clear hfz42_0; try clear hfz42_1; try clear hfz43_0; try clear hfz43_1; try clear hfz48_0; try clear hfz48_1; try clear hfz53_0; try clear hfz53_1; try clear hfz55_0; try clear hfz55_1; try clear p2
       obtain ⟨x8_2, rfl, HA, HK2, HO_7, HO_379001, HO_384001, HO_400001, BK378, BK383, BK399, HB⟩ := hrel
       cases gk with
       | zero => exact absurd HA.out (by simp [laws_FnUnsure.l0])
       | succ k2 =>
        have H := HA.out
        clear HA
        simp only [laws_FnUnsure.l0] at H
        by_cases c57 : x8_2 < (wrap64 (2 * (t400.length : Int)))
        ·rw [if_pos c57] at H
         have c57b0 : decide (x8_2 < (wrap64 (2 * (t400.length : Int)))) = true := decide_eq_true c57
         clear c57
         obtain ⟨ji58, hji58⟩ : ∃ j_ : Int, (wrap64 (Int.tdiv x8_2 2)) = j_ := ⟨_, rfl⟩
         replace H : (if 0 ≤ (ji58) then (if (ji58) < (t400.length : Int) then ((spec_WordAt.f k2 t395 t396 (wrap64 ((wrap64 (2 * (rd t400 (ji58)))) + (Int.tmod x8_2 2)))).bind fun t404 => ((spec_WordAt.f k2 t373 t374 (wrap64 ((wrap64 (2 * (rd t400 (ji58)))) + (Int.tmod x8_2 2)))).bind fun t405 => (if t404.toList = t405.toList then (laws_FnUnsure.l0 k2 t400 (wrap64 (x8_2 + 1)) t373 t374 t395 t396) else (some false)))) else (none)) else (none)) = some r := by first | (rw [hji58] at H; exact H) | (simp only [hji58] at H ⊢; exact H)
         have hji58w : (IntKind.i64.wrap (Int.tdiv x8_2 2)) = ji58 := (i64_w _).trans hji58
         by_cases c59 : 0 ≤ (ji58)
         ·rw [if_pos c59] at H
          have c59b0 : decide (0 ≤ (ji58)) = true := decide_eq_true c59
          clear c59
          by_cases c60 : (ji58) < (t400.length : Int)
          ·rw [if_pos c60] at H
           have c60b0 : decide ((ji58) < (t400.length : Int)) = true := decide_eq_true c60
           clear c60
           replace H := Option.bind_eq_some_iff.mp H
           obtain ⟨t404, A610, H⟩ := H
           replace H : ((spec_WordAt.f k2 t373 t374 (wrap64 ((wrap64 (2 * (rd t400 (ji58)))) + (Int.tmod x8_2 2)))).bind fun t405 => (if t404.toList = t405.toList then (laws_FnUnsure.l0 k2 t400 (wrap64 (x8_2 + 1)) t373 t374 t395 t396) else (some false))) = some r := H
           have A61 := Am A610
           clear A610
           replace H := Option.bind_eq_some_iff.mp H
           obtain ⟨t405, A620, H⟩ := H
           replace H : (if t404.toList = t405.toList then (laws_FnUnsure.l0 k2 t400 (wrap64 (x8_2 + 1)) t373 t374 t395 t396) else (some false)) = some r := H
           have A62 := Am A620
           clear A620
           by_cases c63 : t404.toList = t405.toList
           ·rw [if_pos c63] at H
            have c63b0 : (t404.toList == t405.toList) = true := beq_iff_eq.mpr c63
            have c63b1 : (t404.toList != t405.toList) = false := bne_eq_false_iff_eq.mpr c63
            clear c63
            have H' := Am H
            clear H
            obtain ⟨Ao64, co64, eo64⟩ := Kd.R_slice HO_7.out
            subst eo64
            have p403 : 0 ≤ ((ji58) : Int) := of_decide_eq_true (by first | (with_reducible assumption) | assumption)
            have q403 : (ji58) < (t400.length : Int) := of_decide_eq_true (by first | (with_reducible assumption) | assumption)
            obtain ⟨ad403, e403, hx403_0⟩ := Kd.at_int (Kd.R_reads' HO_7.out).2.2 (ji58) p403 q403
            cases e403
            replace p403 := eq_true p403
            replace q403 := eq_true q403
            try go_wp2
            have n0_ := Am (re HO_7.out)
            have n1_ := Am (re HO_379001.out)
            have n2_ := Am (re HO_384001.out)
            have n3_ := Am (re HO_400001.out)
            have n4_ := Am (ke BK378.out)
            have n5_ := Am (ke BK383.out)
            have n6_ := Am (ke BK399.out)
            have n7_ := Am (be HB.out)
            clear HO_7
            clear HO_379001
            clear HO_384001
            clear HO_400001
            clear BK378
            clear BK383
            clear BK399
            clear HB
            have HO_7 := n0_
            have HO_379001 := n1_
            have HO_384001 := n2_
            have HO_400001 := n3_
            have BK378 := n4_
            have BK383 := n5_
            have BK399 := n6_
            have HB := n7_
            clear n0_ n1_ n2_ n3_ n4_ n5_ n6_ n7_
            refine start_ (n := 7) (S := fun w' => w'.cell? ⟨gb399, 0, none⟩ = some (.string t395) ∧ w'.cell? ⟨gb399, 1, none⟩ = some (.slice Ao54 t396.length co54) ∧ w'.cell? ⟨gb378, 0, none⟩ = some (.string t373) ∧ w'.cell? ⟨gb378, 1, none⟩ = some (.slice Ao13 t374.length co13)) (ds := []) #[false, false, false, false, false, false, false] (by kernel_rfl) rfl rfl ⟨(kc BK399.out 0).trans rfl, (kc BK399.out 1).trans rfl, (kc BK378.out 0).trans rfl, (kc BK378.out 1).trans rfl⟩ (fun hHeld => ?_)
            generalize wr.drew = w65 at HO_7 HO_379001 HO_384001 HO_400001 BK378 BK383 BK399 HB hHeld ⊢
            refine yA 1 (some 63) rfl rfl ?_
            refine yA 4 (some 66) rfl rfl ?_
            refine yT 0 (some 62) rfl rfl hHeld ?_
            refine yT 3 (some 65) rfl rfl hHeld ?_
            refine yO 2 (some 64) rfl rfl (fun K hK => ?_)
            refine goes_ Try.func18 (by kernel_rfl) rfl #[.agg #[.string t395, .slice Ao54 t396.length co54], .int .i64 (wrap64 ((wrap64 (2 * (rd t400 (ji58)))) + (Int.tmod x8_2 2)))] (by rfl) rfl rfl (by (try simp only [List.map_toArray, List.map_cons, List.map_nil]); first | done | (simp only [hji58]; rfl) | rfl | (simp only [List.length_drop, List.length_take]; rfl)) ?_
            with_reducible refine (spec_WordAt.calls k2 t395 _ _ t396 (wrap64 ((wrap64 (2 * (rd t400 (ji58)))) + (Int.tmod x8_2 2))) t404 _ ?side1 ?side2 A61.out).mono ?_
            (case side1 => repeat (first | exact (Kd.R_reads' HO_400001.out).2.2 | (with_reducible first | refine ca ?_ _ | refine cn ?_ _ | refine ce ?_)))
            (case side2 => exact (Kd.R_reads' HO_400001.out).2.1)
            rintro e w66 ⟨rfl, hb⟩
            refine ⟨_, rfl, ?_⟩
            have n0_ := Am (rb (by (with_reducible repeat (first | apply ra | apply rn | apply re)); exact HO_7.out) hb)
            have n1_ := Am (rb (by (with_reducible repeat (first | apply ra | apply rn | apply re)); exact HO_379001.out) hb)
            have n2_ := Am (rb (by (with_reducible repeat (first | apply ra | apply rn | apply re)); exact HO_384001.out) hb)
            have n3_ := Am (rb (by (with_reducible repeat (first | apply ra | apply rn | apply re)); exact HO_400001.out) hb)
            have n4_ := Am (zK BK378 hb)
            have n5_ := Am (zK BK383 hb)
            have n6_ := Am (zK BK399 hb)
            have n7_ := Am (bq zG hb)
            clear HO_7
            clear HO_379001
            clear HO_384001
            clear HO_400001
            clear BK378
            clear BK383
            clear BK399
            clear HB
            have HO_7 := n0_
            have HO_379001 := n1_
            have HO_384001 := n2_
            have HO_400001 := n3_
            have BK378 := n4_
            have BK383 := n5_
            have BK399 := n6_
            have HB := n7_
            clear n0_ n1_ n2_ n3_ n4_ n5_ n6_ n7_
            (try clear hb)
            (try clear hb2)
            (try clear hk)
            (try clear hi)
            refine hK.out _ _ ⟨(kc BK399.out 0).trans rfl, (kc BK399.out 1).trans rfl, (kc BK378.out 0).trans rfl, (kc BK378.out 1).trans rfl⟩ (fun hHeld => ?_)
            clear hK K
            refine zN (some 64) ?_
            refine yO 5 (some 67) rfl rfl (fun K hK => ?_)
            refine goes_ Try.func18 (by kernel_rfl) rfl #[.agg #[.string t373, .slice Ao13 t374.length co13], .int .i64 (wrap64 ((wrap64 (2 * (rd t400 (ji58)))) + (Int.tmod x8_2 2)))] (by rfl) rfl rfl (by (try simp only [List.map_toArray, List.map_cons, List.map_nil]); first | done | (simp only [hji58]; rfl) | rfl | (simp only [List.length_drop, List.length_take]; rfl)) ?_
            with_reducible refine (spec_WordAt.calls k2 t373 _ _ t374 (wrap64 ((wrap64 (2 * (rd t400 (ji58)))) + (Int.tmod x8_2 2))) t405 _ ?side1 ?side2 A62.out).mono ?_
            (case side1 => repeat (first | exact (Kd.R_reads' HO_379001.out).2.2 | (with_reducible first | refine ca ?_ _ | refine cn ?_ _ | refine ce ?_)))
            (case side2 => exact (Kd.R_reads' HO_379001.out).2.1)
            rintro e w67 ⟨rfl, hb⟩
            refine ⟨_, rfl, ?_⟩
            have n0_ := Am (rb (by (with_reducible repeat (first | apply ra | apply rn | apply re)); exact HO_7.out) hb)
            have n1_ := Am (rb (by (with_reducible repeat (first | apply ra | apply rn | apply re)); exact HO_379001.out) hb)
            have n2_ := Am (rb (by (with_reducible repeat (first | apply ra | apply rn | apply re)); exact HO_384001.out) hb)
            have n3_ := Am (rb (by (with_reducible repeat (first | apply ra | apply rn | apply re)); exact HO_400001.out) hb)
            have n4_ := Am (zK BK378 hb)
            have n5_ := Am (zK BK383 hb)
            have n6_ := Am (zK BK399 hb)
            have n7_ := Am (bq zG hb)
            clear HO_7
            clear HO_379001
            clear HO_384001
            clear HO_400001
            clear BK378
            clear BK383
            clear BK399
            clear HB
            have HO_7 := n0_
            have HO_379001 := n1_
            have HO_384001 := n2_
            have HO_400001 := n3_
            have BK378 := n4_
            have BK383 := n5_
            have BK399 := n6_
            have HB := n7_
            clear n0_ n1_ n2_ n3_ n4_ n5_ n6_ n7_
            (try clear hb)
            (try clear hb2)
            (try clear hk)
            (try clear hi)
            refine hK.out _ _ ⟨(kc BK399.out 0).trans rfl, (kc BK399.out 1).trans rfl, (kc BK378.out 0).trans rfl, (kc BK378.out 1).trans rfl⟩ (fun hHeld => ?_)
            clear hK K
            refine zN (some 67) ?_
            refine yA 6 (some 68) rfl rfl ?_
            refine done_ (by kernel_rfl) ?_
            try go_wp2
            go_roundg k2
            case measure => have := HJ8.out; have := HK2.out; omega
            case rel => exact ⟨(wrap64 (x8_2 + 1)), (by first | rfl | (simp; done) | (simp [*]; done)), H', ⟨by have := HJ8.out; have := HK2.out; omega⟩, ⟨by (with_reducible repeat (first | apply ra | apply rn | apply re)); exact HO_7.out⟩, ⟨by (with_reducible repeat (first | apply ra | apply rn | apply re)); exact HO_379001.out⟩, ⟨by (with_reducible repeat (first | apply ra | apply rn | apply re)); exact HO_384001.out⟩, ⟨by (with_reducible repeat (first | apply ra | apply rn | apply re)); exact HO_400001.out⟩, ⟨by (with_reducible repeat (first | refine kn ?_ _ | refine ke ?_ | refine ka ?_ _)); exact BK378.out⟩, ⟨by (with_reducible repeat (first | refine kn ?_ _ | refine ke ?_ | refine ka ?_ _)); exact BK383.out⟩, ⟨by (with_reducible repeat (first | refine kn ?_ _ | refine ke ?_ | refine ka ?_ _)); exact BK399.out⟩, ⟨zG⟩⟩
           ·rw [if_neg c63] at H
            have c63b0 : (t404.toList == t405.toList) = false := beq_eq_false_iff_ne.mpr c63
            have c63b1 : (t404.toList != t405.toList) = true := bne_iff_ne.mpr c63
            obtain rfl := Option.some.inj H
            obtain ⟨Ao68, co68, eo68⟩ := Kd.R_slice HO_7.out
            subst eo68
            have p403 : 0 ≤ ((ji58) : Int) := of_decide_eq_true (by first | (with_reducible assumption) | assumption)
            have q403 : (ji58) < (t400.length : Int) := of_decide_eq_true (by first | (with_reducible assumption) | assumption)
            obtain ⟨ad403, e403, hx403_0⟩ := Kd.at_int (Kd.R_reads' HO_7.out).2.2 (ji58) p403 q403
            cases e403
            replace p403 := eq_true p403
            replace q403 := eq_true q403
            try go_wp2
            have n0_ := Am (re HO_7.out)
            have n1_ := Am (re HO_379001.out)
            have n2_ := Am (re HO_384001.out)
            have n3_ := Am (re HO_400001.out)
            have n4_ := Am (ke BK378.out)
            have n5_ := Am (ke BK383.out)
            have n6_ := Am (ke BK399.out)
            have n7_ := Am (be HB.out)
            clear HO_7
            clear HO_379001
            clear HO_384001
            clear HO_400001
            clear BK378
            clear BK383
            clear BK399
            clear HB
            have HO_7 := n0_
            have HO_379001 := n1_
            have HO_384001 := n2_
            have HO_400001 := n3_
            have BK378 := n4_
            have BK383 := n5_
            have BK399 := n6_
            have HB := n7_
            clear n0_ n1_ n2_ n3_ n4_ n5_ n6_ n7_
            refine start_ (n := 7) (S := fun w' => w'.cell? ⟨gb399, 0, none⟩ = some (.string t395) ∧ w'.cell? ⟨gb399, 1, none⟩ = some (.slice Ao54 t396.length co54) ∧ w'.cell? ⟨gb378, 0, none⟩ = some (.string t373) ∧ w'.cell? ⟨gb378, 1, none⟩ = some (.slice Ao13 t374.length co13)) (ds := []) #[false, false, false, false, false, false, false] (by kernel_rfl) rfl rfl ⟨(kc BK399.out 0).trans rfl, (kc BK399.out 1).trans rfl, (kc BK378.out 0).trans rfl, (kc BK378.out 1).trans rfl⟩ (fun hHeld => ?_)
            generalize wr.drew = w69 at HO_7 HO_379001 HO_384001 HO_400001 BK378 BK383 BK399 HB hHeld ⊢
            refine yA 1 (some 63) rfl rfl ?_
            refine yA 4 (some 66) rfl rfl ?_
            refine yT 0 (some 62) rfl rfl hHeld ?_
            refine yT 3 (some 65) rfl rfl hHeld ?_
            refine yO 2 (some 64) rfl rfl (fun K hK => ?_)
            refine goes_ Try.func18 (by kernel_rfl) rfl #[.agg #[.string t395, .slice Ao54 t396.length co54], .int .i64 (wrap64 ((wrap64 (2 * (rd t400 (ji58)))) + (Int.tmod x8_2 2)))] (by rfl) rfl rfl (by (try simp only [List.map_toArray, List.map_cons, List.map_nil]); first | done | (simp only [hji58]; rfl) | rfl | (simp only [List.length_drop, List.length_take]; rfl)) ?_
            with_reducible refine (spec_WordAt.calls k2 t395 _ _ t396 (wrap64 ((wrap64 (2 * (rd t400 (ji58)))) + (Int.tmod x8_2 2))) t404 _ ?side1 ?side2 A61.out).mono ?_
            (case side1 => repeat (first | exact (Kd.R_reads' HO_400001.out).2.2 | (with_reducible first | refine ca ?_ _ | refine cn ?_ _ | refine ce ?_)))
            (case side2 => exact (Kd.R_reads' HO_400001.out).2.1)
            rintro e w70 ⟨rfl, hb⟩
            refine ⟨_, rfl, ?_⟩
            have n0_ := Am (rb (by (with_reducible repeat (first | apply ra | apply rn | apply re)); exact HO_7.out) hb)
            have n1_ := Am (rb (by (with_reducible repeat (first | apply ra | apply rn | apply re)); exact HO_379001.out) hb)
            have n2_ := Am (rb (by (with_reducible repeat (first | apply ra | apply rn | apply re)); exact HO_384001.out) hb)
            have n3_ := Am (rb (by (with_reducible repeat (first | apply ra | apply rn | apply re)); exact HO_400001.out) hb)
            have n4_ := Am (zK BK378 hb)
            have n5_ := Am (zK BK383 hb)
            have n6_ := Am (zK BK399 hb)
            have n7_ := Am (bq zG hb)
            clear HO_7
            clear HO_379001
            clear HO_384001
            clear HO_400001
            clear BK378
            clear BK383
            clear BK399
            clear HB
            have HO_7 := n0_
            have HO_379001 := n1_
            have HO_384001 := n2_
            have HO_400001 := n3_
            have BK378 := n4_
            have BK383 := n5_
            have BK399 := n6_
            have HB := n7_
            clear n0_ n1_ n2_ n3_ n4_ n5_ n6_ n7_
            (try clear hb)
            (try clear hb2)
            (try clear hk)
            (try clear hi)
            refine hK.out _ _ ⟨(kc BK399.out 0).trans rfl, (kc BK399.out 1).trans rfl, (kc BK378.out 0).trans rfl, (kc BK378.out 1).trans rfl⟩ (fun hHeld => ?_)
            clear hK K
            refine zN (some 64) ?_
            refine yO 5 (some 67) rfl rfl (fun K hK => ?_)
            refine goes_ Try.func18 (by kernel_rfl) rfl #[.agg #[.string t373, .slice Ao13 t374.length co13], .int .i64 (wrap64 ((wrap64 (2 * (rd t400 (ji58)))) + (Int.tmod x8_2 2)))] (by rfl) rfl rfl (by (try simp only [List.map_toArray, List.map_cons, List.map_nil]); first | done | (simp only [hji58]; rfl) | rfl | (simp only [List.length_drop, List.length_take]; rfl)) ?_
            with_reducible refine (spec_WordAt.calls k2 t373 _ _ t374 (wrap64 ((wrap64 (2 * (rd t400 (ji58)))) + (Int.tmod x8_2 2))) t405 _ ?side1 ?side2 A62.out).mono ?_
            (case side1 => repeat (first | exact (Kd.R_reads' HO_379001.out).2.2 | (with_reducible first | refine ca ?_ _ | refine cn ?_ _ | refine ce ?_)))
            (case side2 => exact (Kd.R_reads' HO_379001.out).2.1)
            rintro e w71 ⟨rfl, hb⟩
            refine ⟨_, rfl, ?_⟩
            have n0_ := Am (rb (by (with_reducible repeat (first | apply ra | apply rn | apply re)); exact HO_7.out) hb)
            have n1_ := Am (rb (by (with_reducible repeat (first | apply ra | apply rn | apply re)); exact HO_379001.out) hb)
            have n2_ := Am (rb (by (with_reducible repeat (first | apply ra | apply rn | apply re)); exact HO_384001.out) hb)
            have n3_ := Am (rb (by (with_reducible repeat (first | apply ra | apply rn | apply re)); exact HO_400001.out) hb)
            have n4_ := Am (zK BK378 hb)
            have n5_ := Am (zK BK383 hb)
            have n6_ := Am (zK BK399 hb)
            have n7_ := Am (bq zG hb)
            clear HO_7
            clear HO_379001
            clear HO_384001
            clear HO_400001
            clear BK378
            clear BK383
            clear BK399
            clear HB
            have HO_7 := n0_
            have HO_379001 := n1_
            have HO_384001 := n2_
            have HO_400001 := n3_
            have BK378 := n4_
            have BK383 := n5_
            have BK399 := n6_
            have HB := n7_
            clear n0_ n1_ n2_ n3_ n4_ n5_ n6_ n7_
            (try clear hb)
            (try clear hb2)
            (try clear hk)
            (try clear hi)
            refine hK.out _ _ ⟨(kc BK399.out 0).trans rfl, (kc BK399.out 1).trans rfl, (kc BK378.out 0).trans rfl, (kc BK378.out 1).trans rfl⟩ (fun hHeld => ?_)
            clear hK K
            refine zN (some 67) ?_
            refine yA 6 (some 68) rfl rfl ?_
            refine done_ (by kernel_rfl) ?_
            try go_wp2
            go_ret
            exact ⟨by first | rfl | (simp [errW_none, errW_some] <;> rfl) | (simp only [← hji58]; first | rfl | (simp [errW_none, errW_some] <;> rfl)) | (simp [*, errW_none, errW_some] <;> rfl), zG⟩
          ·rw [if_neg c60] at H
           exact absurd H (by simp)
         ·rw [if_neg c59] at H
          exact absurd H (by simp)
        ·rw [if_neg c57] at H
         have c57b0 : decide (x8_2 < (wrap64 (2 * (t400.length : Int)))) = false := decide_eq_false c57
         clear c57
         replace H := Option.bind_eq_some_iff.mp H
         obtain ⟨t406, A720, H⟩ := H
         replace H : ((laws_sameInts.f k2 t400 t406).bind fun t409 => (if t409 = true then ((impl_Unsure.f k2 t395 t396).bind fun t410 => (if (t410.length : Int) = 0 then ((impl_MemoryNew.f 1).bind fun bt413 => (some ((bt413.1.size : Int) == 16))) else (some false))) else (some false))) = some r := H
         have A72 := Am A720
         clear A720
         replace H := Option.bind_eq_some_iff.mp H
         obtain ⟨t409, A730, H⟩ := H
         replace H : (if t409 = true then ((impl_Unsure.f k2 t395 t396).bind fun t410 => (if (t410.length : Int) = 0 then ((impl_MemoryNew.f 1).bind fun bt413 => (some ((bt413.1.size : Int) == 16))) else (some false))) else (some false)) = some r := H
         have A73 := Am A730
         clear A730
         by_cases c74 : t409 = true
         ·subst c74
          have H1 : ((impl_Unsure.f k2 t395 t396).bind fun t410 => (if (t410.length : Int) = 0 then ((impl_MemoryNew.f 1).bind fun bt413 => (some ((bt413.1.size : Int) == 16))) else (some false))) = some r := by rw [if_pos rfl] at H; exact H
          clear H
          have H := H1
          clear H1
          replace H := Option.bind_eq_some_iff.mp H
          obtain ⟨t410, A750, H⟩ := H
          replace H : (if (t410.length : Int) = 0 then ((impl_MemoryNew.f 1).bind fun bt413 => (some ((bt413.1.size : Int) == 16))) else (some false)) = some r := H
          have A75 := Am A750
          clear A750
          by_cases c76 : (t410.length : Int) = 0
          ·rw [if_pos c76] at H
           have c76b0 : ((t410.length : Int) == 0) = true := beq_iff_eq.mpr c76
           have c76b1 : ((t410.length : Int) != 0) = false := bne_eq_false_iff_eq.mpr c76
           clear c76
           replace H := Option.bind_eq_some_iff.mp H
           obtain ⟨⟨t413, t414⟩, A770, H⟩ := H
           replace H : (some ((t413.size : Int) == 16)) = some r := H
           have A77 := Am A770
           clear A770
           obtain rfl := Option.some.inj H
           obtain ⟨Ao78, co78, eo78⟩ := Kd.R_slice HO_7.out
           subst eo78
           have hnb79 := NB378_383.out
           have hnc79 := NB383_378.out
           have hnb80 := NB378_399.out
           have hnc80 := NB399_378.out
           obtain ⟨hcz81_0, hcz81_1⟩ := kc2 (w := wr) BK378.out
           have hfz81_0 := kf BK378.out
           go_wp2_with (first | ((with_reducible refine gate_callee (f := 20) rfl ?_); refine zC (some 71) rfl rfl Try.func20 rfl #[.agg #[.string t373, .slice Ao13 t374.length co13]] rfl ?_; (with_reducible refine (spec_Unsure.calls k2 t373 _ _ t374 t406 _ ?side1 ?side2 A72.out).mono ?_); (case side1 => repeat (first | exact (Kd.R_reads' HO_379001.out).2.2 | (with_reducible first | refine ca ?_ _ | refine cn ?_ _ | refine ce ?_))); (case side2 => exact (Kd.R_reads' HO_379001.out).2.1); rintro e w82 ⟨v407, rfl, ho0, hb⟩; refine ⟨_, rfl, ?_⟩; have n0_ := Am (Kd.R_elder' (by (with_reducible repeat (first | apply ra | apply rn | apply re)); exact HO_7.out) (Kd.R_base ho0) hb); have n1_ := Am (rb (by (with_reducible repeat (first | apply ra | apply rn | apply re)); exact HO_379001.out) hb); have n2_ := Am (rb (by (with_reducible repeat (first | apply ra | apply rn | apply re)); exact HO_384001.out) hb); have n3_ := Am (rb (by (with_reducible repeat (first | apply ra | apply rn | apply re)); exact HO_400001.out) hb); have n4_ := Am (Kd.R_lower (Kd.R_new' ho0 (Kd.R_lt (by (with_reducible repeat (first | apply ra | apply rn | apply re)); exact HO_7.out))) (bz zG)); have n5_ := Am (zK BK378 hb); have n6_ := Am (zK BK383 hb); have n7_ := Am (zK BK399 hb); have n8_ := Am (bq zG hb); clear HO_7; clear HO_379001; clear HO_384001; clear HO_400001; clear BK378; clear BK383; clear BK399; clear HB; have HO_7 := n0_; have HO_379001 := n1_; have HO_384001 := n2_; have HO_400001 := n3_; have HO408 := n4_; have BK378 := n5_; have BK383 := n6_; have BK399 := n7_; have HB := n8_; clear n0_ n1_ n2_ n3_ n4_ n5_ n6_ n7_ n8_; (try clear hb ho0); obtain ⟨Ao83, co83, eo83⟩ := Kd.R_slice HO408.out; subst eo83) | ((with_reducible refine gate_callee (f := 19) rfl ?_); refine zC (some 72) rfl rfl Try.func19 rfl #[.slice Ao78 t400.length co78, .slice Ao83 t406.length co83] rfl ?_; (with_reducible refine (laws_sameInts.calls k2 _ _ t400 _ _ t406 true _ ?side1 ?side2 ?side3 ?side4 A73.out).mono ?_); (case side1 => repeat (first | exact (Kd.R_reads' HO_7.out).2.2 | (with_reducible first | refine ca ?_ _ | refine cn ?_ _ | refine ce ?_))); (case side2 => exact (Kd.R_reads' HO_7.out).2.1); (case side3 => repeat (first | exact (Kd.R_reads' HO408.out).2.2 | (with_reducible first | refine ca ?_ _ | refine cn ?_ _ | refine ce ?_))); (case side4 => exact (Kd.R_reads' HO408.out).2.1); rintro e w' ⟨rfl, ⟨nd, rfl⟩⟩; refine ⟨_, rfl, ?_⟩; have hnb84 := NB399_383.out; have hnc84 := NB383_399.out; obtain ⟨hcz85_0, hcz85_1⟩ := kc2 (w := w82) BK399.out; have hfz85_0 := kf BK399.out) | (go_at_call 17; (with_reducible refine (impl_Unsure.calls k2 t395 _ _ t396 t410 _ ?side1 ?side2 A75.out).mono ?_); (case side1 => repeat (first | exact (Kd.R_reads' HO_400001.out).2.2 | (with_reducible first | refine ca ?_ _ | refine cn ?_ _ | refine ce ?_))); (case side2 => exact (Kd.R_reads' HO_400001.out).2.1); rintro e w86 ⟨v411, rfl, ho0, hb⟩; have n0_ := Am (Kd.R_elder' (by (with_reducible repeat (first | apply ra | apply rn | apply re)); exact HO_7.out) (Kd.R_base ho0) hb); have n1_ := Am (rb (by (with_reducible repeat (first | apply ra | apply rn | apply re)); exact HO_379001.out) hb); have n2_ := Am (rb (by (with_reducible repeat (first | apply ra | apply rn | apply re)); exact HO_384001.out) hb); have n3_ := Am (rb (by (with_reducible repeat (first | apply ra | apply rn | apply re)); exact HO_400001.out) hb); have n4_ := Am (Kd.R_elder' (by (with_reducible repeat (first | apply ra | apply rn | apply re)); exact HO408.out) (Kd.R_base ho0) hb); have n5_ := Am (Kd.R_lower (Kd.R_new' (Kd.R_new' ho0 (Kd.R_lt (by (with_reducible repeat (first | apply ra | apply rn | apply re)); exact HO_7.out))) (Kd.R_lt (by (with_reducible repeat (first | apply ra | apply rn | apply re)); exact HO408.out))) (bz zG)); have n6_ := Am (zK BK378 hb); have n7_ := Am (zK BK383 hb); have n8_ := Am (zK BK399 hb); have n9_ := Am (bq zG hb); clear HO_7; clear HO_379001; clear HO_384001; clear HO_400001; clear HO408; clear BK378; clear BK383; clear BK399; clear HB; have HO_7 := n0_; have HO_379001 := n1_; have HO_384001 := n2_; have HO_400001 := n3_; have HO408 := n4_; have HO412 := n5_; have BK378 := n6_; have BK383 := n7_; have BK399 := n8_; have HB := n9_; clear n0_ n1_ n2_ n3_ n4_ n5_ n6_ n7_ n8_ n9_; (try clear hb ho0); obtain ⟨Ao87, co87, eo87⟩ := Kd.R_slice HO412.out; subst eo87) | (go_at_call 16; (with_reducible refine (impl_MemoryNew.calls 1 t413 t414 _ A77.out).mono ?_); rintro e w88 ⟨v415, rfl, ho0, hb⟩; obtain ⟨_, _, rfl⟩ := Kd.R_slice ho0; have n0_ := Am (rb (by (with_reducible repeat (first | apply ra | apply rn | apply re)); exact HO_7.out) hb); have n1_ := Am (Kd.R_elder' (by (with_reducible repeat (first | apply ra | apply rn | apply re)); exact HO_379001.out) (Kd.R_base ho0) hb); have n2_ := Am (Kd.R_elder' (by (with_reducible repeat (first | apply ra | apply rn | apply re)); exact HO_384001.out) (Kd.R_base ho0) hb); have n3_ := Am (Kd.R_elder' (by (with_reducible repeat (first | apply ra | apply rn | apply re)); exact HO_400001.out) (Kd.R_base ho0) hb); have n4_ := Am (rb (by (with_reducible repeat (first | apply ra | apply rn | apply re)); exact HO408.out) hb); have n5_ := Am (rb (by (with_reducible repeat (first | apply ra | apply rn | apply re)); exact HO412.out) hb); have n6_ := Am (Kd.R_lower (Kd.R_new' (Kd.R_new' (Kd.R_new' ho0 (Kd.R_lt (by (with_reducible repeat (first | apply ra | apply rn | apply re)); exact HO_379001.out))) (Kd.R_lt (by (with_reducible repeat (first | apply ra | apply rn | apply re)); exact HO_384001.out))) (Kd.R_lt (by (with_reducible repeat (first | apply ra | apply rn | apply re)); exact HO_400001.out))) (bz zG)); have n7_ := Am (zK BK378 hb); have n8_ := Am (zK BK383 hb); have n9_ := Am (zK BK399 hb); have n10_ := Am (bq zG hb); clear HO_7; clear HO_379001; clear HO_384001; clear HO_400001; clear HO408; clear HO412; clear BK378; clear BK383; clear BK399; clear HB; have HO_7 := n0_; have HO_379001 := n1_; have HO_384001 := n2_; have HO_400001 := n3_; have HO408 := n4_; have HO412 := n5_; have HO416 := n6_; have BK378 := n7_; have BK383 := n8_; have BK399 := n9_; have HB := n10_; clear n0_ n1_ n2_ n3_ n4_ n5_ n6_ n7_ n8_ n9_ n10_; (try clear hb ho0)))
           go_ret
           exact ⟨zR, zG⟩
          ·rw [if_neg c76] at H
           have c76b0 : ((t410.length : Int) == 0) = false := beq_eq_false_iff_ne.mpr c76
           have c76b1 : ((t410.length : Int) != 0) = true := bne_iff_ne.mpr c76
           have c76b2 : ¬ (t410 = []) := fun h_ => c76 (by rw [h_]; rfl)
           obtain rfl := Option.some.inj H
           obtain ⟨Ao89, co89, eo89⟩ := Kd.R_slice HO_7.out
           subst eo89
           have hnb90 := NB378_383.out
           have hnc90 := NB383_378.out
           have hnb91 := NB378_399.out
           have hnc91 := NB399_378.out
           obtain ⟨hcz92_0, hcz92_1⟩ := kc2 (w := wr) BK378.out
           have hfz92_0 := kf BK378.out
           go_wp2_with (first | ((with_reducible refine gate_callee (f := 20) rfl ?_); refine zC (some 71) rfl rfl Try.func20 rfl #[.agg #[.string t373, .slice Ao13 t374.length co13]] rfl ?_; (with_reducible refine (spec_Unsure.calls k2 t373 _ _ t374 t406 _ ?side1 ?side2 A72.out).mono ?_); (case side1 => repeat (first | exact (Kd.R_reads' HO_379001.out).2.2 | (with_reducible first | refine ca ?_ _ | refine cn ?_ _ | refine ce ?_))); (case side2 => exact (Kd.R_reads' HO_379001.out).2.1); rintro e w93 ⟨v407, rfl, ho0, hb⟩; refine ⟨_, rfl, ?_⟩; have n0_ := Am (Kd.R_elder' (by (with_reducible repeat (first | apply ra | apply rn | apply re)); exact HO_7.out) (Kd.R_base ho0) hb); have n1_ := Am (rb (by (with_reducible repeat (first | apply ra | apply rn | apply re)); exact HO_379001.out) hb); have n2_ := Am (rb (by (with_reducible repeat (first | apply ra | apply rn | apply re)); exact HO_384001.out) hb); have n3_ := Am (rb (by (with_reducible repeat (first | apply ra | apply rn | apply re)); exact HO_400001.out) hb); have n4_ := Am (Kd.R_lower (Kd.R_new' ho0 (Kd.R_lt (by (with_reducible repeat (first | apply ra | apply rn | apply re)); exact HO_7.out))) (bz zG)); have n5_ := Am (zK BK378 hb); have n6_ := Am (zK BK383 hb); have n7_ := Am (zK BK399 hb); have n8_ := Am (bq zG hb); clear HO_7; clear HO_379001; clear HO_384001; clear HO_400001; clear BK378; clear BK383; clear BK399; clear HB; have HO_7 := n0_; have HO_379001 := n1_; have HO_384001 := n2_; have HO_400001 := n3_; have HO408 := n4_; have BK378 := n5_; have BK383 := n6_; have BK399 := n7_; have HB := n8_; clear n0_ n1_ n2_ n3_ n4_ n5_ n6_ n7_ n8_; (try clear hb ho0); obtain ⟨Ao94, co94, eo94⟩ := Kd.R_slice HO408.out; subst eo94) | ((with_reducible refine gate_callee (f := 19) rfl ?_); refine zC (some 72) rfl rfl Try.func19 rfl #[.slice Ao89 t400.length co89, .slice Ao94 t406.length co94] rfl ?_; (with_reducible refine (laws_sameInts.calls k2 _ _ t400 _ _ t406 true _ ?side1 ?side2 ?side3 ?side4 A73.out).mono ?_); (case side1 => repeat (first | exact (Kd.R_reads' HO_7.out).2.2 | (with_reducible first | refine ca ?_ _ | refine cn ?_ _ | refine ce ?_))); (case side2 => exact (Kd.R_reads' HO_7.out).2.1); (case side3 => repeat (first | exact (Kd.R_reads' HO408.out).2.2 | (with_reducible first | refine ca ?_ _ | refine cn ?_ _ | refine ce ?_))); (case side4 => exact (Kd.R_reads' HO408.out).2.1); rintro e w' ⟨rfl, ⟨nd, rfl⟩⟩; refine ⟨_, rfl, ?_⟩; have hnb95 := NB399_383.out; have hnc95 := NB383_399.out; obtain ⟨hcz96_0, hcz96_1⟩ := kc2 (w := w93) BK399.out; have hfz96_0 := kf BK399.out) | (go_at_call 17; (with_reducible refine (impl_Unsure.calls k2 t395 _ _ t396 t410 _ ?side1 ?side2 A75.out).mono ?_); (case side1 => repeat (first | exact (Kd.R_reads' HO_400001.out).2.2 | (with_reducible first | refine ca ?_ _ | refine cn ?_ _ | refine ce ?_))); (case side2 => exact (Kd.R_reads' HO_400001.out).2.1); rintro e w97 ⟨v411, rfl, ho0, hb⟩; have n0_ := Am (Kd.R_elder' (by (with_reducible repeat (first | apply ra | apply rn | apply re)); exact HO_7.out) (Kd.R_base ho0) hb); have n1_ := Am (rb (by (with_reducible repeat (first | apply ra | apply rn | apply re)); exact HO_379001.out) hb); have n2_ := Am (rb (by (with_reducible repeat (first | apply ra | apply rn | apply re)); exact HO_384001.out) hb); have n3_ := Am (rb (by (with_reducible repeat (first | apply ra | apply rn | apply re)); exact HO_400001.out) hb); have n4_ := Am (Kd.R_elder' (by (with_reducible repeat (first | apply ra | apply rn | apply re)); exact HO408.out) (Kd.R_base ho0) hb); have n5_ := Am (Kd.R_lower (Kd.R_new' (Kd.R_new' ho0 (Kd.R_lt (by (with_reducible repeat (first | apply ra | apply rn | apply re)); exact HO_7.out))) (Kd.R_lt (by (with_reducible repeat (first | apply ra | apply rn | apply re)); exact HO408.out))) (bz zG)); have n6_ := Am (zK BK378 hb); have n7_ := Am (zK BK383 hb); have n8_ := Am (zK BK399 hb); have n9_ := Am (bq zG hb); clear HO_7; clear HO_379001; clear HO_384001; clear HO_400001; clear HO408; clear BK378; clear BK383; clear BK399; clear HB; have HO_7 := n0_; have HO_379001 := n1_; have HO_384001 := n2_; have HO_400001 := n3_; have HO408 := n4_; have HO412 := n5_; have BK378 := n6_; have BK383 := n7_; have BK399 := n8_; have HB := n9_; clear n0_ n1_ n2_ n3_ n4_ n5_ n6_ n7_ n8_ n9_; (try clear hb ho0); obtain ⟨Ao98, co98, eo98⟩ := Kd.R_slice HO412.out; subst eo98))
           go_ret
           exact ⟨zR, zG⟩
         ·replace c74 := Bool.eq_false_iff.mpr c74
          subst c74
          have H1 : (some false) = some r := by rw [if_neg (show ¬ (false = true) by decide)] at H; exact H
          clear H
          have H := H1
          clear H1
          obtain rfl := Option.some.inj H
          obtain ⟨Ao99, co99, eo99⟩ := Kd.R_slice HO_7.out
          subst eo99
          have hnb100 := NB378_383.out
          have hnc100 := NB383_378.out
          have hnb101 := NB378_399.out
          have hnc101 := NB399_378.out
          obtain ⟨hcz102_0, hcz102_1⟩ := kc2 (w := wr) BK378.out
          have hfz102_0 := kf BK378.out
          go_wp2_with (first | ((with_reducible refine gate_callee (f := 20) rfl ?_); refine zC (some 71) rfl rfl Try.func20 rfl #[.agg #[.string t373, .slice Ao13 t374.length co13]] rfl ?_; (with_reducible refine (spec_Unsure.calls k2 t373 _ _ t374 t406 _ ?side1 ?side2 A72.out).mono ?_); (case side1 => repeat (first | exact (Kd.R_reads' HO_379001.out).2.2 | (with_reducible first | refine ca ?_ _ | refine cn ?_ _ | refine ce ?_))); (case side2 => exact (Kd.R_reads' HO_379001.out).2.1); rintro e w103 ⟨v407, rfl, ho0, hb⟩; refine ⟨_, rfl, ?_⟩; have n0_ := Am (Kd.R_elder' (by (with_reducible repeat (first | apply ra | apply rn | apply re)); exact HO_7.out) (Kd.R_base ho0) hb); have n1_ := Am (rb (by (with_reducible repeat (first | apply ra | apply rn | apply re)); exact HO_379001.out) hb); have n2_ := Am (rb (by (with_reducible repeat (first | apply ra | apply rn | apply re)); exact HO_384001.out) hb); have n3_ := Am (rb (by (with_reducible repeat (first | apply ra | apply rn | apply re)); exact HO_400001.out) hb); have n4_ := Am (Kd.R_lower (Kd.R_new' ho0 (Kd.R_lt (by (with_reducible repeat (first | apply ra | apply rn | apply re)); exact HO_7.out))) (bz zG)); have n5_ := Am (zK BK378 hb); have n6_ := Am (zK BK383 hb); have n7_ := Am (zK BK399 hb); have n8_ := Am (bq zG hb); clear HO_7; clear HO_379001; clear HO_384001; clear HO_400001; clear BK378; clear BK383; clear BK399; clear HB; have HO_7 := n0_; have HO_379001 := n1_; have HO_384001 := n2_; have HO_400001 := n3_; have HO408 := n4_; have BK378 := n5_; have BK383 := n6_; have BK399 := n7_; have HB := n8_; clear n0_ n1_ n2_ n3_ n4_ n5_ n6_ n7_ n8_; (try clear hb ho0); obtain ⟨Ao104, co104, eo104⟩ := Kd.R_slice HO408.out; subst eo104) | ((with_reducible refine gate_callee (f := 19) rfl ?_); refine zC (some 72) rfl rfl Try.func19 rfl #[.slice Ao99 t400.length co99, .slice Ao104 t406.length co104] rfl ?_; (with_reducible refine (laws_sameInts.calls k2 _ _ t400 _ _ t406 false _ ?side1 ?side2 ?side3 ?side4 A73.out).mono ?_); (case side1 => repeat (first | exact (Kd.R_reads' HO_7.out).2.2 | (with_reducible first | refine ca ?_ _ | refine cn ?_ _ | refine ce ?_))); (case side2 => exact (Kd.R_reads' HO_7.out).2.1); (case side3 => repeat (first | exact (Kd.R_reads' HO408.out).2.2 | (with_reducible first | refine ca ?_ _ | refine cn ?_ _ | refine ce ?_))); (case side4 => exact (Kd.R_reads' HO408.out).2.1); rintro e w' ⟨rfl, ⟨nd, rfl⟩⟩; refine ⟨_, rfl, ?_⟩))
          go_ret
          exact ⟨zR, zG⟩
  ·replace c8 := Bool.eq_false_iff.mpr c8
   subst c8
   have H1 : (some false) = some r := by rw [if_neg (show ¬ (false = true) by decide)] at H; exact H
   clear H
   have H := H1
   clear H1
   obtain rfl := Option.some.inj H
   go_enter Try.func4, Try.ntmps4
   try go_wp2_with (first | ((with_reducible refine gate_callee (f := 12) rfl ?_); refine zC (some 11) rfl rfl Try.func12 rfl #[.slice A0 l0.length c0] rfl ?_; (with_reducible refine (laws_big.calls _ _ l0 false _ ?side1 ?side2 A2.out).mono ?_); (case side1 => repeat (first | exact HR0.out | (with_reducible first | refine ca ?_ _ | refine cn ?_ _ | refine ce ?_))); (case side2 => exact HC0.out); rintro e w' ⟨rfl, ⟨nd, rfl⟩⟩; refine ⟨_, rfl, ?_⟩) | ((with_reducible refine gate_callee (f := 13) rfl ?_); refine zC (some 14) rfl rfl Try.func13 rfl #[.slice A0 l0.length c0] rfl ?_; (with_reducible refine (spec_DrawFallenMemory.calls k _ _ l0 t373 t374 t377 _ ?side1 ?side2 A4.out).mono ?_); (case side1 => repeat (first | exact HR0.out | (with_reducible first | refine ca ?_ _ | refine cn ?_ _ | refine ce ?_))); (case side2 => exact HC0.out); rintro e w105 ⟨v375, rfl, ho0, hb⟩; refine ⟨_, rfl, ?_⟩; have HO376 := Am (Kd.R_lower ho0 (bz zB)); replace HB := Am (bq zB hb); (try clear hb ho0)) | ((with_reducible refine gate_dst (N := 3) rfl ?_); (try (refine gate_guard (by rfl) ?_; dsimp only)); refine box_event ?hg (N := 3) ?hd (cs := #[.string (⟨#[]⟩ : ByteArray), .slice none 0 0]) (t := 28) ?hr ?_; (case hd => rfl); (case hg => rfl); (case hr => first | (go_simp; done) | (go_simp; rfl)); intro gb378 hg w106 hbox hb; replace HO376 := Am (rb (by (with_reducible repeat (first | apply ra | apply rn | apply re)); exact HO376.out) hb); have BK378 := Am (hbox); have GW378 := Am ((by rw [hg]; exact (bz zB) : w.heap.size ≤ gb378)); have GE378 := Am ((by rw [hg]; exact (bz zB) : w.heap.size ≤ gb378)); replace HB := Am (bq zB hb); clear hb hbox hg; obtain ⟨hcz107_0, hcz107_1⟩ := kc2 (w := w106) BK378.out; have hfz107_0 := kf BK378.out; obtain ⟨Ao108, co108, eo108⟩ := Kd.R_slice HO376.out; subst eo108) | ((with_reducible refine gate_callee (f := 8) rfl ?_); refine zC (some 19) rfl rfl Try.func8 rfl #[.agg #[.string t373, .slice Ao108 t374.length co108], .int .i64 t377] rfl ?_; (with_reducible refine (impl_FallenMemory.calls k t373 _ _ t374 t377 t379 t380 _ ?side1 ?side2 A5.out).mono ?_); (case side1 => refine (Kd.R_reads' (e := 49) (base := w.heap.size) (ok := fun k_ => True) (n := t374.length) (c := co108) ?_).2.2; exact (by (with_reducible repeat (first | apply ra | apply rn | apply re)); exact (Kd.R_mono (Kd.R_far (p := ⟨gb378, 1, none⟩) (Kd.R_far (p := ⟨gb378, 0, none⟩) (Kd.R_types HO376.out BK378.out (by decide)) (fun _ hk => hk.2) (.string t373)) (fun _ hk => hk.2) (.slice Ao108 t374.length co108)) (fun _ h_ => h_.1)))); (case side2 => exact (Kd.R_reads' HO376.out).2.1); rintro e w109 ⟨v381, rfl, ho0, hb⟩; refine ⟨_, rfl, ?_⟩; have n0_ := Am (Kd.R_elder' (by (with_reducible repeat (first | apply ra | apply rn | apply re)); exact (Kd.R_mono (Kd.R_far (p := ⟨gb378, 1, none⟩) (Kd.R_far (p := ⟨gb378, 0, none⟩) (Kd.R_types HO376.out BK378.out (by decide)) (fun _ hk => hk.2) (.string t373)) (fun _ hk => hk.2) (.slice Ao108 t374.length co108)) (fun _ h_ => h_.1))) (Kd.R_base ho0) hb); have n1_ := Am (Kd.R_lower (Kd.R_new' ho0 (Kd.R_lt (by (with_reducible repeat (first | apply ra | apply rn | apply re)); exact (Kd.R_mono (Kd.R_far (p := ⟨gb378, 1, none⟩) (Kd.R_far (p := ⟨gb378, 0, none⟩) (Kd.R_types HO376.out BK378.out (by decide)) (fun _ hk => hk.2) (.string t373)) (fun _ hk => hk.2) (.slice Ao108 t374.length co108)) (fun _ h_ => h_.1))))) (bz zG)); have n2_ := Am (kb (g := gb378) (o := o14b3 t373 Ao108 t374.length co108) (by (with_reducible repeat (first | refine kn ?_ _ | refine ke ?_ | refine ka ?_ _)); refine kp (cs := #[.string t373, .slice none 0 0]) ?_ 1 _ rfl; (with_reducible repeat (first | refine kn ?_ _ | refine ke ?_ | refine ka ?_ _)); refine kp (cs := #[.string (⟨#[]⟩ : ByteArray), .slice none 0 0]) ?_ 0 _ rfl; (with_reducible repeat (first | refine kn ?_ _ | refine ke ?_ | refine ka ?_ _)); exact BK378.out) hb); have n3_ := Am (bq zG hb); clear HO376; clear BK378; clear HB; have HO376 := n0_; have HO382 := n1_; have BK378 := n2_; have HB := n3_; clear n0_ n1_ n2_ n3_; (try clear hb ho0)) | ((with_reducible refine gate_dst (N := 5) rfl ?_); (try (refine gate_guard (by rfl) ?_; dsimp only)); refine box_event ?hg (N := 5) ?hd (cs := #[.string (⟨#[]⟩ : ByteArray), .slice none 0 0]) (t := 28) ?hr ?_; (case hd => rfl); (case hg => rfl); (case hr => first | (go_simp; done) | (go_simp; rfl)); intro gb383 hg w110 hbox hb; have n0_ := Am (rb (by (with_reducible repeat (first | apply ra | apply rn | apply re)); exact HO376.out) hb); have n1_ := Am (rb (by (with_reducible repeat (first | apply ra | apply rn | apply re)); exact HO382.out) hb); have n2_ := Am (zK BK378 hb); have n3_ := Am (bq zG hb); have n4_ := Am (hbox); have n5_ := Am ((by rw [hg]; exact (bz zG) : w.heap.size ≤ gb383)); have n6_ := Am ((by rw [hg]; exact (bz zG) : w.heap.size ≤ gb383)); have n7_ := Am ((by rw [hg]; exact Nat.ne_of_lt (zL BK378) : gb378 ≠ gb383)); have n8_ := Am ((by rw [hg]; exact Nat.ne_of_gt (zL BK378) : gb383 ≠ gb378)); clear HO376; clear HO382; clear BK378; clear HB; have HO376 := n0_; have HO382 := n1_; have BK378 := n2_; have HB := n3_; have BK383 := n4_; have GW383 := n5_; have GE383 := n6_; have NB378_383 := n7_; have NB383_378 := n8_; clear n0_ n1_ n2_ n3_ n4_ n5_ n6_ n7_ n8_; clear hb hbox hg; have hnb111 := NB383_378.out; have hnc111 := NB378_383.out; obtain ⟨hcz112_0, hcz112_1⟩ := kc2 (w := w110) BK383.out; have hfz112_0 := kf BK383.out; obtain ⟨Ao113, co113, eo113⟩ := Kd.R_slice HO382.out; subst eo113))
   have n0_ : Aside0 (Kd.R k49 49 ((w110.setCell ⟨gb383, 0, none⟩ (.string t379)).setCell ⟨gb383, 1, none⟩ (.slice Ao113 t380.length co113)) w.heap.size (fun k_ => some k_ ≠ (.slice Ao113 t380.length co113 : Value).ownBlock) (.slice Ao108 t374.length co108) t374) := ⟨by (with_reducible repeat (first | apply ra | apply rn | apply re)); exact Kd.R_mono (Kd.R_far (p := ⟨gb383, 1, none⟩) (Kd.R_far (p := ⟨gb383, 0, none⟩) (Kd.R_types HO376.out BK383.out (by decide)) (fun _ hk => hk.2) (.string t379)) (fun _ hk => hk.2) (.slice Ao113 t380.length co113)) (fun _ hk => hk.1.2)⟩
   have n1_ : Aside0 (Kd.R k49 49 ((w110.setCell ⟨gb383, 0, none⟩ (.string t379)).setCell ⟨gb383, 1, none⟩ (.slice Ao113 t380.length co113)) w.heap.size (fun k_ => some k_ ≠ (.slice Ao108 t374.length co108 : Value).ownBlock) (.slice Ao113 t380.length co113) t380) := ⟨by (with_reducible repeat (first | apply ra | apply rn | apply re)); exact Kd.R_mono (Kd.R_far (p := ⟨gb383, 1, none⟩) (Kd.R_far (p := ⟨gb383, 0, none⟩) (Kd.R_types HO382.out BK383.out (by decide)) (fun _ hk => hk.2) (.string t379)) (fun _ hk => hk.2) (.slice Ao113 t380.length co113)) (fun _ hk => hk.1.2)⟩
   have n2_ : Aside0 (((w110.setCell ⟨gb383, 0, none⟩ (.string t379)).setCell ⟨gb383, 1, none⟩ (.slice Ao113 t380.length co113)).heap[gb378]? = some (.cells #[.string t373, .slice Ao108 t374.length co108] 28 (0, 0))) := ⟨by (with_reducible repeat (first | refine kn ?_ _ | refine ke ?_ | refine ka ?_ _)); refine blk_far ?_ NB378_383.out _; (with_reducible repeat (first | refine kn ?_ _ | refine ke ?_ | refine ka ?_ _)); refine blk_far ?_ NB378_383.out _; (with_reducible repeat (first | refine kn ?_ _ | refine ke ?_ | refine ka ?_ _)); exact BK378.out⟩
   have n3_ : Aside0 (((w110.setCell ⟨gb383, 0, none⟩ (.string t379)).setCell ⟨gb383, 1, none⟩ (.slice Ao113 t380.length co113)).heap[gb383]? = some (.cells #[.string t379, .slice Ao113 t380.length co113] 28 (0, 0))) := ⟨by (with_reducible repeat (first | refine kn ?_ _ | refine ke ?_ | refine ka ?_ _)); refine kp (cs := #[.string t379, .slice none 0 0]) ?_ 1 _ rfl; (with_reducible repeat (first | refine kn ?_ _ | refine ke ?_ | refine ka ?_ _)); refine kp (cs := #[.string (⟨#[]⟩ : ByteArray), .slice none 0 0]) ?_ 0 _ rfl; (with_reducible repeat (first | refine kn ?_ _ | refine ke ?_ | refine ka ?_ _)); exact BK383.out⟩
   have n4_ : Aside0 (Below w.heap.size w ((w110.setCell ⟨gb383, 0, none⟩ (.string t379)).setCell ⟨gb383, 1, none⟩ (.slice Ao113 t380.length co113))) := ⟨zG⟩
   (try clear HO376)
   (try clear HO382)
   (try clear BK378)
   (try clear BK383)
   (try clear HB)
   generalize ((w110.setCell ⟨gb383, 0, none⟩ (.string t379)).setCell ⟨gb383, 1, none⟩ (.slice Ao113 t380.length co113)) = w114 at n0_ n1_ n2_ n3_ n4_ ⊢
   have HO376 := n0_
   have HO382 := n1_
   have BK378 := n2_
   have BK383 := n3_
   have HB := n4_
   clear n0_ n1_ n2_ n3_ n4_
   have n0_ := Am (re HO376.out)
   have n1_ := Am (re HO382.out)
   have n2_ := Am (ke BK378.out)
   have n3_ := Am (ke BK383.out)
   have n4_ := Am (be HB.out)
   clear HO376
   clear HO382
   clear BK378
   clear BK383
   clear HB
   have HO376 := n0_
   have HO382 := n1_
   have BK378 := n2_
   have BK383 := n3_
   have HB := n4_
   clear n0_ n1_ n2_ n3_ n4_
   refine start_ (n := 6) (S := fun w' => w'.cell? ⟨gb383, 0, none⟩ = some (.string t379) ∧ w'.cell? ⟨gb383, 1, none⟩ = some (.slice Ao113 t380.length co113) ∧ w'.cell? ⟨gb378, 0, none⟩ = some (.string t373) ∧ w'.cell? ⟨gb378, 1, none⟩ = some (.slice Ao108 t374.length co108)) (ds := []) #[false, false, false, false, false, false] (by kernel_rfl) rfl rfl ⟨(kc BK383.out 0).trans rfl, (kc BK383.out 1).trans rfl, (kc BK378.out 0).trans rfl, (kc BK378.out 1).trans rfl⟩ (fun hHeld => ?_)
   generalize w114.drew = w115 at HO376 HO382 BK378 BK383 HB hHeld ⊢
   refine yA 2 (some 22) rfl rfl ?_
   refine yT 0 (some 20) rfl rfl hHeld ?_
   refine yT 1 (some 21) rfl rfl hHeld ?_
   refine yO 3 (some 23) rfl rfl (fun K hK => ?_)
   refine goes_ Try.func6 (by kernel_rfl) rfl #[.agg #[.string t373, .slice Ao108 t374.length co108], .int .i64 t377] (by rfl) rfl rfl (by (try simp only [List.map_toArray, List.map_cons, List.map_nil]); first | done | rfl | (simp only [List.length_drop, List.length_take]; rfl)) ?_
   with_reducible refine (spec_FallenMemory.calls k t373 _ _ t374 t377 t384 t385 _ ?side1 ?side2 A6.out).mono ?_
   (case side1 => repeat (first | exact (Kd.R_reads' HO376.out).2.2 | (with_reducible first | refine ca ?_ _ | refine cn ?_ _ | refine ce ?_)))
   (case side2 => exact (Kd.R_reads' HO376.out).2.1)
   rintro e w116 ⟨v386, rfl, ho0, hb⟩
   refine ⟨_, rfl, ?_⟩
   have n0_ := Am (Kd.R_elder' (by (with_reducible repeat (first | apply ra | apply rn | apply re)); exact HO376.out) (Kd.R_base ho0) hb)
   have n1_ := Am (Kd.R_elder' (by (with_reducible repeat (first | apply ra | apply rn | apply re)); exact HO382.out) (Kd.R_base ho0) hb)
   have n2_ := Am (Kd.R_lower (Kd.R_new' (Kd.R_new' ho0 (Kd.R_lt (by (with_reducible repeat (first | apply ra | apply rn | apply re)); exact HO376.out))) (Kd.R_lt (by (with_reducible repeat (first | apply ra | apply rn | apply re)); exact HO382.out))) (bz zG))
   have n3_ := Am (zK BK378 hb)
   have n4_ := Am (zK BK383 hb)
   have n5_ := Am (bq zG hb)
   clear HO376
   clear HO382
   clear BK378
   clear BK383
   clear HB
   have HO376 := n0_
   have HO382 := n1_
   have HO387 := n2_
   have BK378 := n3_
   have BK383 := n4_
   have HB := n5_
   clear n0_ n1_ n2_ n3_ n4_ n5_
   (try clear hb)
   (try clear hb2)
   (try clear hk)
   (try clear hi)
   (try clear ho0)
   obtain ⟨Ao117, co117, eo117⟩ := Kd.R_slice HO387.out
   (first | subst eo117 | (injection eo117 with f1_ f2_ f3_; have f4_ := f1_.symm; have f5_ := f3_.symm; clear f1_ f2_ f3_; subst f4_; subst f5_))
   refine hK.out _ _ ⟨(kc BK383.out 0).trans rfl, (kc BK383.out 1).trans rfl, (kc BK378.out 0).trans rfl, (kc BK378.out 1).trans rfl⟩ (fun hHeld => ?_)
   clear hK K
   refine zN (some 23) ?_
   refine yO 4 (some 24) rfl rfl (fun K hK => ?_)
   refine goes_ Try.func14 (by kernel_rfl) rfl #[.agg #[.string t379, .slice Ao113 t380.length co113], .agg #[.string t384, .slice Ao117 t385.length co117]] (by rfl) rfl rfl (by (try simp only [List.map_toArray, List.map_cons, List.map_nil]); first | done | rfl | (simp only [List.length_drop, List.length_take]; rfl)) ?_
   with_reducible refine (laws_sameMemory.calls k t379 _ _ t380 t384 _ _ t385 false _ ?side1 ?side2 ?side3 ?side4 A7.out).mono ?_
   (case side1 => repeat (first | exact (Kd.R_reads' HO382.out).2.2 | (with_reducible first | refine ca ?_ _ | refine cn ?_ _ | refine ce ?_)))
   (case side2 => exact (Kd.R_reads' HO382.out).2.1)
   (case side3 => repeat (first | exact (Kd.R_reads' HO387.out).2.2 | (with_reducible first | refine ca ?_ _ | refine cn ?_ _ | refine ce ?_)))
   (case side4 => exact (Kd.R_reads' HO387.out).2.1)
   rintro e w118 ⟨rfl, hb⟩
   refine ⟨_, rfl, ?_⟩
   have n0_ := Am (rb (by (with_reducible repeat (first | apply ra | apply rn | apply re)); exact HO376.out) hb)
   have n1_ := Am (rb (by (with_reducible repeat (first | apply ra | apply rn | apply re)); exact HO382.out) hb)
   have n2_ := Am (rb (by (with_reducible repeat (first | apply ra | apply rn | apply re)); exact HO387.out) hb)
   have n3_ := Am (zK BK378 hb)
   have n4_ := Am (zK BK383 hb)
   have n5_ := Am (bq zG hb)
   clear HO376
   clear HO382
   clear HO387
   clear BK378
   clear BK383
   clear HB
   have HO376 := n0_
   have HO382 := n1_
   have HO387 := n2_
   have BK378 := n3_
   have BK383 := n4_
   have HB := n5_
   clear n0_ n1_ n2_ n3_ n4_ n5_
   (try clear hb)
   (try clear hb2)
   (try clear hk)
   (try clear hi)
   refine hK.out _ _ ⟨(kc BK383.out 0).trans rfl, (kc BK383.out 1).trans rfl, (kc BK378.out 0).trans rfl, (kc BK378.out 1).trans rfl⟩ (fun hHeld => ?_)
   clear hK K
   refine zN (some 24) ?_
   refine yA 5 (some 25) rfl rfl ?_
   refine done_ (by kernel_rfl) ?_
   try go_wp2
   go_ret
   exact ⟨zR, zG⟩

/-- THE ONE PURE STATEMENT of laws_FnUnsure: yours. -/
def laws_FnUnsure.Pure : Prop := ∀ (l0 : List Int), l0.length ≤ maxLen → l0.length * 1 ≤ 140737488351232 → (∀ x ∈ l0, (Lit.int .u8 x).wf = true) → ∃ k, laws_FnUnsure.f k l0 = some true
theorem laws_FnUnsure.walk (P : laws_FnUnsure.Pure) (a0 : Option Addr) (len0 cap0 : Nat) (z0 : List Int) (w : World) (w0 : (a0 = none ∧ len0 = 0 ∧ cap0 = 0 ∧ z0 = []) ∨ ∃ x, a0 = some x ∧ len0 ≤ cap0 ∧ cap0 ≤ maxLen ∧ z0.length = cap0 ∧ (∀ i, i < z0.length → w.cell? (x.add i) = some (.int .u8 (z0.getD i 0))) ∧ ∀ n ∈ z0, (Lit.int .u8 n).wf = true) (y0 : len0 * 1 ≤ 140737488351232) :
  Calls Try.prog 4 #[.slice a0 len0 cap0] w fun e w' => e = .returned (.bool true) ∧ Below w.heap.size w w' := by
 obtain ⟨l0, rfl, hr0, hm0, hw0, hc0⟩ := ReadsInt.ofRowC w0
 obtain ⟨k, h⟩ := P l0 hm0 y0 hw0
 refine (laws_FnUnsure.calls k _ _ l0 true w (Kd.C_of_reads (d := (0 : Int)) (h1 := fun _ => rfl) hr0) hc0 h).mono ?_
 rintro e w' ⟨rfl, hd⟩
 exact ⟨rfl, hd⟩

end Go.Proofs.Ytnmkcognggeioaa.QFnUnsure
