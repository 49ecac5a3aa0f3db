/- Go functions as Lean functions, and their contracts. Own text: written by wip/gen/pr.py (a turned copy of the print). -/
import Derived.Test.YtconffflmbakgaaQFnExactMaskedWordx0
import Derived.Test.YtconffflmbakgaaQFnExactMaskedWordx5
import Derived.Test.YtconffflmbakgaaQFnExactMaskedWordx6
namespace Go.Proofs.Ytconffflmbakgaa.QFnExactMaskedWord
open Go.RowKit Go.Proofs.YtconffflmbakgaaW.PrintWords Go.Proofs.YtconffflmbakgaaW.PrintLast Go.Proofs.YtconffflmbakgaaW.PrintMore
attribute [local go_sem] max2_int min2_int max_two min_two max_three min_three max_four min_four   -- for this text's walks alone
open Go.Proofs.YtconffflmbakgaaW.PrintWords renaming below_alloc → ba, pw_below_drewN → bn, below_drew1 → be, below_set → bs, blk_drewN → kn, blk_drew → ke, blk_alloc → ka, blk_below → kb, blk_frozen → kf, blk_cell → kc, below_step → bq, below_size → bz, blk_lt → kl
open Go.Proofs.YtconffflmbakgaaW.PrintWords.Kd renaming C_alloc → ca, C_drewN → cn, C_drew → ce, C_below → cb
open Go.Proofs.YtconffflmbakgaaW.PrintWords.Aside0 renaming mk → Am
set_option linter.unusedVariables false
set_option linter.unusedSimpArgs false

def o7b0 (p0 : ByteArray) (p1 : Option Addr) (p2 p3 : Nat) : Obj := .cells #[.string p0, .slice p1 p2 p3] 33 (0, 0)
def o7b1 (p0 : Int) (p1 : Int) (p2 : Int) (p3 : Int) : Obj := .cells #[.int .i64 p0, .int .i64 p1, .int .i64 p2, .int .i64 p3] 29 (0, 0)
/-! ### impl_GeoOk: function 104 -/
def impl_GeoOk.f (a0_0 : Int) (a0_1 : Int) (a0_2 : Int) (a0_3 : Int) : Option (Bool) := (impl_within.f a0_0 1 3).bind fun t208 => (if t208 = true then ((impl_within.f a0_1 5 12).bind fun t209 => (if t209 = true then ((impl_within.f a0_2 2 6).bind fun t210 => (if t210 = true then ((impl_within.f a0_3 1 (wrap64 (a0_1 - 4))).bind fun t211 => (some t211)) else (some false))) else (some false))) else (some false))
set_option maxHeartbeats 8000000 in
set_option maxRecDepth 100000 in
theorem impl_GeoOk.calls (a0_0 : Int) (a0_1 : Int) (a0_2 : Int) (a0_3 : Int) (r : Bool) (w : World) (h : impl_GeoOk.f a0_0 a0_1 a0_2 a0_3 = some r) :
  Calls Try.prog 104 #[.agg #[.int .i64 a0_0, .int .i64 a0_1, .int .i64 a0_2, .int .i64 a0_3]] w fun e w' => e = .returned (.bool r) ∧ Below w.heap.size w w' := by
 have hu29 := Try.underlying29
 have HB := Am (Below.refl w.heap.size w)
 have H : ((impl_within.f a0_0 1 3).bind fun t208 => (if t208 = true then ((impl_within.f a0_1 5 12).bind fun t209 => (if t209 = true then ((impl_within.f a0_2 2 6).bind fun t210 => (if t210 = true then ((impl_within.f a0_3 1 (wrap64 (a0_1 - 4))).bind fun t211 => (some t211)) else (some false))) else (some false))) else (some false))) = some r := h
 clear h
 replace H := Option.bind_eq_some_iff.mp H
 obtain ⟨t208, A20, H⟩ := H
 replace H : (if t208 = true then ((impl_within.f a0_1 5 12).bind fun t209 => (if t209 = true then ((impl_within.f a0_2 2 6).bind fun t210 => (if t210 = true then ((impl_within.f a0_3 1 (wrap64 (a0_1 - 4))).bind fun t211 => (some t211)) else (some false))) else (some false))) else (some false)) = some r := H
 have A2 := Am A20
 clear A20
 by_cases c3 : t208 = true
 ·subst c3
  have H1 : ((impl_within.f a0_1 5 12).bind fun t209 => (if t209 = true then ((impl_within.f a0_2 2 6).bind fun t210 => (if t210 = true then ((impl_within.f a0_3 1 (wrap64 (a0_1 - 4))).bind fun t211 => (some t211)) else (some false))) else (some false))) = some r := by rw [if_pos rfl] at H; exact H
  clear H
  have H := H1
  clear H1
  replace H := Option.bind_eq_some_iff.mp H
  obtain ⟨t209, A40, H⟩ := H
  replace H : (if t209 = true then ((impl_within.f a0_2 2 6).bind fun t210 => (if t210 = true then ((impl_within.f a0_3 1 (wrap64 (a0_1 - 4))).bind fun t211 => (some t211)) else (some false))) else (some false)) = some r := H
  have A4 := Am A40
  clear A40
  by_cases c5 : t209 = true
  ·subst c5
   have H1 : ((impl_within.f a0_2 2 6).bind fun t210 => (if t210 = true then ((impl_within.f a0_3 1 (wrap64 (a0_1 - 4))).bind fun t211 => (some t211)) else (some false))) = some r := by rw [if_pos rfl] at H; exact H
   clear H
   have H := H1
   clear H1
   replace H := Option.bind_eq_some_iff.mp H
   obtain ⟨t210, A60, H⟩ := H
   replace H : (if t210 = true then ((impl_within.f a0_3 1 (wrap64 (a0_1 - 4))).bind fun t211 => (some t211)) else (some false)) = some r := H
   have A6 := Am A60
   clear A60
   by_cases c7 : t210 = true
   ·subst c7
    have H1 : ((impl_within.f a0_3 1 (wrap64 (a0_1 - 4))).bind fun t211 => (some t211)) = some r := by rw [if_pos rfl] at H; exact H
    clear H
    have H := H1
    clear H1
    replace H := Option.bind_eq_some_iff.mp H
    obtain ⟨t211, A80, H⟩ := H
    replace H : (some t211) = some r := H
    have A8 := Am A80
    clear A80
    obtain rfl := Option.some.inj H
    go_enter Try.func104, Try.ntmps104
    go_wp2_with (first | ((with_reducible refine gate_dst (N := 1) rfl ?_); refine box_event ?hg (N := 1) ?hd (cs := #[.int .i64 a0_0, .int .i64 a0_1, .int .i64 a0_2, .int .i64 a0_3]) (t := 29) ?hr ?_; (case hd => rfl); (case hg => rfl); (case hr => first | (go_simp; done) | (go_simp; rfl)); intro gb207 hg w9 hbox hb; have BK207 := Am (hbox); have GW207 := Am ((by rw [hg]; exact (bz (by repeat (first | (with_reducible first | exact HB.out | apply ba | apply bn | apply be) | exact HB.out))) : w.heap.size ≤ gb207)); have GE207 := Am ((by rw [hg]; exact (bz (by repeat (first | (with_reducible first | exact HB.out | apply ba | apply bn | apply be) | exact HB.out))) : w.heap.size ≤ gb207)); replace HB := Am (bq (by repeat (first | (with_reducible first | exact HB.out | apply ba | apply bn | apply be) | exact HB.out)) hb); clear hb hbox hg; have hcz10_0 : w9.cell? ⟨gb207, 0, none⟩ = some (.int .i64 a0_0) := (kc BK207.out 0).trans rfl; have hcz10_1 : w9.cell? ⟨gb207, 1, none⟩ = some (.int .i64 a0_1) := (kc BK207.out 1).trans rfl; have hcz10_2 : w9.cell? ⟨gb207, 2, none⟩ = some (.int .i64 a0_2) := (kc BK207.out 2).trans rfl; have hcz10_3 : w9.cell? ⟨gb207, 3, none⟩ = some (.int .i64 a0_3) := (kc BK207.out 3).trans rfl; have hfz10_0 := kf BK207.out 0; have hfz10_1 := kf BK207.out 1; have hfz10_2 := kf BK207.out 2; have hfz10_3 := kf BK207.out 3) | ((with_reducible refine gate_callee (f := 59) rfl ?_); refine goesL_ (some 5) rfl rfl Try.func59 (by kernel_rfl) rfl #[.int .i64 a0_0, .int .i64 1, .int .i64 3] rfl (by (try simp only [List.map_toArray, List.map_cons, List.map_nil]); first | done | rfl | (simp only [List.length_drop, List.length_take]; rfl)) ?_; (with_reducible refine (impl_within.calls a0_0 1 3 true _ A2.out).mono ?_); rintro e w' ⟨rfl, ⟨nd, rfl⟩⟩; refine ⟨_, rfl, ?_⟩) | (go_at_call 59; (with_reducible refine (impl_within.calls a0_1 5 12 true _ A4.out).mono ?_); rintro e w' ⟨rfl, ⟨nd, rfl⟩⟩) | (go_at_call 59; (with_reducible refine (impl_within.calls a0_2 2 6 true _ A6.out).mono ?_); rintro e w' ⟨rfl, ⟨nd, rfl⟩⟩) | (go_at_call 59; (with_reducible refine (impl_within.calls a0_3 1 (wrap64 (a0_1 - 4)) t211 _ A8.out).mono ?_); rintro e w' ⟨rfl, ⟨nd, rfl⟩⟩))
    go_ret
    exact ⟨by first | rfl | (simp [errW_none, errW_some] <;> rfl) | (simp [*, errW_none, errW_some] <;> rfl), by repeat (first | (with_reducible first | exact HB.out | apply ba | apply bn | apply be | refine bs ?_ GE207.out) | exact HB.out)⟩
   ·replace c7 := Bool.eq_false_iff.mpr c7
    subst c7
    have H1 : (some false) = some r := by rw [if_neg (show ¬ (false = true) by decide)] at H; exact H
    clear H
    have H := H1
    clear H1
    obtain rfl := Option.some.inj H
    go_enter Try.func104, Try.ntmps104
    go_wp2_with (first | ((with_reducible refine gate_dst (N := 1) rfl ?_); refine box_event ?hg (N := 1) ?hd (cs := #[.int .i64 a0_0, .int .i64 a0_1, .int .i64 a0_2, .int .i64 a0_3]) (t := 29) ?hr ?_; (case hd => rfl); (case hg => rfl); (case hr => first | (go_simp; done) | (go_simp; rfl)); intro gb207 hg w11 hbox hb; have BK207 := Am (hbox); have GW207 := Am ((by rw [hg]; exact (bz (by repeat (first | (with_reducible first | exact HB.out | apply ba | apply bn | apply be) | exact HB.out))) : w.heap.size ≤ gb207)); have GE207 := Am ((by rw [hg]; exact (bz (by repeat (first | (with_reducible first | exact HB.out | apply ba | apply bn | apply be) | exact HB.out))) : w.heap.size ≤ gb207)); replace HB := Am (bq (by repeat (first | (with_reducible first | exact HB.out | apply ba | apply bn | apply be) | exact HB.out)) hb); clear hb hbox hg; have hcz12_0 : w11.cell? ⟨gb207, 0, none⟩ = some (.int .i64 a0_0) := (kc BK207.out 0).trans rfl; have hcz12_1 : w11.cell? ⟨gb207, 1, none⟩ = some (.int .i64 a0_1) := (kc BK207.out 1).trans rfl; have hcz12_2 : w11.cell? ⟨gb207, 2, none⟩ = some (.int .i64 a0_2) := (kc BK207.out 2).trans rfl; have hcz12_3 : w11.cell? ⟨gb207, 3, none⟩ = some (.int .i64 a0_3) := (kc BK207.out 3).trans rfl; have hfz12_0 := kf BK207.out 0; have hfz12_1 := kf BK207.out 1; have hfz12_2 := kf BK207.out 2; have hfz12_3 := kf BK207.out 3) | ((with_reducible refine gate_callee (f := 59) rfl ?_); refine goesL_ (some 5) rfl rfl Try.func59 (by kernel_rfl) rfl #[.int .i64 a0_0, .int .i64 1, .int .i64 3] rfl (by (try simp only [List.map_toArray, List.map_cons, List.map_nil]); first | done | rfl | (simp only [List.length_drop, List.length_take]; rfl)) ?_; (with_reducible refine (impl_within.calls a0_0 1 3 true _ A2.out).mono ?_); rintro e w' ⟨rfl, ⟨nd, rfl⟩⟩; refine ⟨_, rfl, ?_⟩) | (go_at_call 59; (with_reducible refine (impl_within.calls a0_1 5 12 true _ A4.out).mono ?_); rintro e w' ⟨rfl, ⟨nd, rfl⟩⟩) | (go_at_call 59; (with_reducible refine (impl_within.calls a0_2 2 6 false _ A6.out).mono ?_); rintro e w' ⟨rfl, ⟨nd, rfl⟩⟩))
    go_ret
    exact ⟨by first | rfl | (simp [errW_none, errW_some] <;> rfl) | (simp [*, errW_none, errW_some] <;> rfl), by repeat (first | (with_reducible first | exact HB.out | apply ba | apply bn | apply be | refine bs ?_ GE207.out) | exact HB.out)⟩
  ·replace c5 := Bool.eq_false_iff.mpr c5
   subst c5
   have H1 : (some false) = some r := by rw [if_neg (show ¬ (false = true) by decide)] at H; exact H
   clear H
   have H := H1
   clear H1
   obtain rfl := Option.some.inj H
   go_enter Try.func104, Try.ntmps104
   go_wp2_with (first | ((with_reducible refine gate_dst (N := 1) rfl ?_); refine box_event ?hg (N := 1) ?hd (cs := #[.int .i64 a0_0, .int .i64 a0_1, .int .i64 a0_2, .int .i64 a0_3]) (t := 29) ?hr ?_; (case hd => rfl); (case hg => rfl); (case hr => first | (go_simp; done) | (go_simp; rfl)); intro gb207 hg w13 hbox hb; have BK207 := Am (hbox); have GW207 := Am ((by rw [hg]; exact (bz (by repeat (first | (with_reducible first | exact HB.out | apply ba | apply bn | apply be) | exact HB.out))) : w.heap.size ≤ gb207)); have GE207 := Am ((by rw [hg]; exact (bz (by repeat (first | (with_reducible first | exact HB.out | apply ba | apply bn | apply be) | exact HB.out))) : w.heap.size ≤ gb207)); replace HB := Am (bq (by repeat (first | (with_reducible first | exact HB.out | apply ba | apply bn | apply be) | exact HB.out)) hb); clear hb hbox hg; have hcz14_0 : w13.cell? ⟨gb207, 0, none⟩ = some (.int .i64 a0_0) := (kc BK207.out 0).trans rfl; have hcz14_1 : w13.cell? ⟨gb207, 1, none⟩ = some (.int .i64 a0_1) := (kc BK207.out 1).trans rfl; have hcz14_2 : w13.cell? ⟨gb207, 2, none⟩ = some (.int .i64 a0_2) := (kc BK207.out 2).trans rfl; have hcz14_3 : w13.cell? ⟨gb207, 3, none⟩ = some (.int .i64 a0_3) := (kc BK207.out 3).trans rfl; have hfz14_0 := kf BK207.out 0; have hfz14_1 := kf BK207.out 1; have hfz14_2 := kf BK207.out 2; have hfz14_3 := kf BK207.out 3) | ((with_reducible refine gate_callee (f := 59) rfl ?_); refine goesL_ (some 5) rfl rfl Try.func59 (by kernel_rfl) rfl #[.int .i64 a0_0, .int .i64 1, .int .i64 3] rfl (by (try simp only [List.map_toArray, List.map_cons, List.map_nil]); first | done | rfl | (simp only [List.length_drop, List.length_take]; rfl)) ?_; (with_reducible refine (impl_within.calls a0_0 1 3 true _ A2.out).mono ?_); rintro e w' ⟨rfl, ⟨nd, rfl⟩⟩; refine ⟨_, rfl, ?_⟩) | (go_at_call 59; (with_reducible refine (impl_within.calls a0_1 5 12 false _ A4.out).mono ?_); rintro e w' ⟨rfl, ⟨nd, rfl⟩⟩))
   go_ret
   exact ⟨by first | rfl | (simp [errW_none, errW_some] <;> rfl) | (simp [*, errW_none, errW_some] <;> rfl), by repeat (first | (with_reducible first | exact HB.out | apply ba | apply bn | apply be | refine bs ?_ GE207.out) | exact HB.out)⟩
 ·replace c3 := Bool.eq_false_iff.mpr c3
  subst c3
  have H1 : (some false) = some r := by rw [if_neg (show ¬ (false = true) by decide)] at H; exact H
  clear H
  have H := H1
  clear H1
  obtain rfl := Option.some.inj H
  go_enter Try.func104, Try.ntmps104
  go_wp2_with (first | ((with_reducible refine gate_dst (N := 1) rfl ?_); refine box_event ?hg (N := 1) ?hd (cs := #[.int .i64 a0_0, .int .i64 a0_1, .int .i64 a0_2, .int .i64 a0_3]) (t := 29) ?hr ?_; (case hd => rfl); (case hg => rfl); (case hr => first | (go_simp; done) | (go_simp; rfl)); intro gb207 hg w15 hbox hb; have BK207 := Am (hbox); have GW207 := Am ((by rw [hg]; exact (bz (by repeat (first | (with_reducible first | exact HB.out | apply ba | apply bn | apply be) | exact HB.out))) : w.heap.size ≤ gb207)); have GE207 := Am ((by rw [hg]; exact (bz (by repeat (first | (with_reducible first | exact HB.out | apply ba | apply bn | apply be) | exact HB.out))) : w.heap.size ≤ gb207)); replace HB := Am (bq (by repeat (first | (with_reducible first | exact HB.out | apply ba | apply bn | apply be) | exact HB.out)) hb); clear hb hbox hg; have hcz16_0 : w15.cell? ⟨gb207, 0, none⟩ = some (.int .i64 a0_0) := (kc BK207.out 0).trans rfl; have hcz16_1 : w15.cell? ⟨gb207, 1, none⟩ = some (.int .i64 a0_1) := (kc BK207.out 1).trans rfl; have hcz16_2 : w15.cell? ⟨gb207, 2, none⟩ = some (.int .i64 a0_2) := (kc BK207.out 2).trans rfl; have hcz16_3 : w15.cell? ⟨gb207, 3, none⟩ = some (.int .i64 a0_3) := (kc BK207.out 3).trans rfl; have hfz16_0 := kf BK207.out 0; have hfz16_1 := kf BK207.out 1; have hfz16_2 := kf BK207.out 2; have hfz16_3 := kf BK207.out 3) | ((with_reducible refine gate_callee (f := 59) rfl ?_); refine goesL_ (some 5) rfl rfl Try.func59 (by kernel_rfl) rfl #[.int .i64 a0_0, .int .i64 1, .int .i64 3] rfl (by (try simp only [List.map_toArray, List.map_cons, List.map_nil]); first | done | rfl | (simp only [List.length_drop, List.length_take]; rfl)) ?_; (with_reducible refine (impl_within.calls a0_0 1 3 false _ A2.out).mono ?_); rintro e w' ⟨rfl, ⟨nd, rfl⟩⟩; refine ⟨_, rfl, ?_⟩))
  go_ret
  exact ⟨by first | rfl | (simp [errW_none, errW_some] <;> rfl) | (simp [*, errW_none, errW_some] <;> rfl), by repeat (first | (with_reducible first | exact HB.out | apply ba | apply bn | apply be | refine bs ?_ GE207.out) | exact HB.out)⟩

/-! ### impl_Geo_partWords: function 60 -/
def impl_Geo_partWords.f (a0_0 : Int) (a0_1 : Int) (a0_2 : Int) (a0_3 : Int) : Option (Int) := some (wrap64 ((wrap64 (38 + (wrap64 (8 * a0_2)))) + (wrap64 (4 * a0_1))))
set_option maxHeartbeats 8000000 in
set_option maxRecDepth 100000 in
theorem impl_Geo_partWords.calls (a0_0 : Int) (a0_1 : Int) (a0_2 : Int) (a0_3 : Int) (r : Int) (w : World) (h : impl_Geo_partWords.f a0_0 a0_1 a0_2 a0_3 = some r) :
  Calls Try.prog 60 #[.agg #[.int .i64 a0_0, .int .i64 a0_1, .int .i64 a0_2, .int .i64 a0_3]] w fun e w' => e = .returned (.int .i64 r) ∧ Below w.heap.size w w' := by
 have hu29 := Try.underlying29
 have HB := Am (Below.refl w.heap.size w)
 have H : (some (wrap64 ((wrap64 (38 + (wrap64 (8 * a0_2)))) + (wrap64 (4 * a0_1))))) = some r := h
 clear h
 obtain rfl := Option.some.inj H
 go_enter Try.func60, Try.ntmps60
 go_wp2_with (first | ((with_reducible refine gate_dst (N := 1) rfl ?_); refine box_event ?hg (N := 1) ?hd (cs := #[.int .i64 a0_0, .int .i64 a0_1, .int .i64 a0_2, .int .i64 a0_3]) (t := 29) ?hr ?_; (case hd => rfl); (case hg => rfl); (case hr => first | (go_simp; done) | (go_simp; rfl)); intro gb212 hg w2 hbox hb; have BK212 := Am (hbox); have GW212 := Am ((by rw [hg]; exact (bz (by repeat (first | (with_reducible first | exact HB.out | apply ba | apply bn | apply be) | exact HB.out))) : w.heap.size ≤ gb212)); have GE212 := Am ((by rw [hg]; exact (bz (by repeat (first | (with_reducible first | exact HB.out | apply ba | apply bn | apply be) | exact HB.out))) : w.heap.size ≤ gb212)); replace HB := Am (bq (by repeat (first | (with_reducible first | exact HB.out | apply ba | apply bn | apply be) | exact HB.out)) hb); clear hb hbox hg; have hcz3_0 : w2.cell? ⟨gb212, 0, none⟩ = some (.int .i64 a0_0) := (kc BK212.out 0).trans rfl; have hcz3_1 : w2.cell? ⟨gb212, 1, none⟩ = some (.int .i64 a0_1) := (kc BK212.out 1).trans rfl; have hcz3_2 : w2.cell? ⟨gb212, 2, none⟩ = some (.int .i64 a0_2) := (kc BK212.out 2).trans rfl; have hcz3_3 : w2.cell? ⟨gb212, 3, none⟩ = some (.int .i64 a0_3) := (kc BK212.out 3).trans rfl; have hfz3_0 := kf BK212.out 0; have hfz3_1 := kf BK212.out 1; have hfz3_2 := kf BK212.out 2; have hfz3_3 := kf BK212.out 3))
 go_ret
 exact ⟨by first | rfl | (simp [errW_none, errW_some] <;> rfl) | (simp [*, errW_none, errW_some] <;> rfl), by repeat (first | (with_reducible first | exact HB.out | apply ba | apply bn | apply be | refine bs ?_ GE212.out) | exact HB.out)⟩

/-! ### impl_Geo_lines: function 105 -/
def impl_Geo_lines.f (a0_0 : Int) (a0_1 : Int) (a0_2 : Int) (a0_3 : Int) : Option (Int) := (impl_Geo_partWords.f a0_0 a0_1 a0_2 a0_3).bind fun t214 => (some (wrap64 (Int.tdiv (wrap64 (a0_0 * t214)) 2)))
set_option maxHeartbeats 8000000 in
set_option maxRecDepth 100000 in
theorem impl_Geo_lines.calls (a0_0 : Int) (a0_1 : Int) (a0_2 : Int) (a0_3 : Int) (r : Int) (w : World) (h : impl_Geo_lines.f a0_0 a0_1 a0_2 a0_3 = some r) :
  Calls Try.prog 105 #[.agg #[.int .i64 a0_0, .int .i64 a0_1, .int .i64 a0_2, .int .i64 a0_3]] w fun e w' => e = .returned (.int .i64 r) ∧ Below w.heap.size w w' := by
 have hu29 := Try.underlying29
 have HB := Am (Below.refl w.heap.size w)
 have H : ((impl_Geo_partWords.f a0_0 a0_1 a0_2 a0_3).bind fun t214 => (some (wrap64 (Int.tdiv (wrap64 (a0_0 * t214)) 2)))) = some r := h
 clear h
 replace H := Option.bind_eq_some_iff.mp H
 obtain ⟨t214, A20, H⟩ := H
 replace H : (some (wrap64 (Int.tdiv (wrap64 (a0_0 * t214)) 2))) = some r := H
 have A2 := Am A20
 clear A20
 obtain rfl := Option.some.inj H
 go_enter Try.func105, Try.ntmps105
 try go_wp2_with (first | ((with_reducible refine gate_dst (N := 1) rfl ?_); refine box_event ?hg (N := 1) ?hd (cs := #[.int .i64 a0_0, .int .i64 a0_1, .int .i64 a0_2, .int .i64 a0_3]) (t := 29) ?hr ?_; (case hd => rfl); (case hg => rfl); (case hr => first | (go_simp; done) | (go_simp; rfl)); intro gb213 hg w3 hbox hb; have BK213 := Am (hbox); have GW213 := Am ((by rw [hg]; exact (bz (by repeat (first | (with_reducible first | exact HB.out | apply ba | apply bn | apply be) | exact HB.out))) : w.heap.size ≤ gb213)); have GE213 := Am ((by rw [hg]; exact (bz (by repeat (first | (with_reducible first | exact HB.out | apply ba | apply bn | apply be) | exact HB.out))) : w.heap.size ≤ gb213)); replace HB := Am (bq (by repeat (first | (with_reducible first | exact HB.out | apply ba | apply bn | apply be) | exact HB.out)) hb); clear hb hbox hg))
 have n0_ := Am (ke BK213.out)
 have n1_ := Am (be HB.out)
 clear BK213
 clear HB
 have BK213 := n0_
 have HB := n1_
 clear n0_ n1_
 refine start_ (n := 7) (S := fun w' => w'.cell? ⟨gb213, 0, none⟩ = some (.int .i64 a0_0) ∧ w'.cell? ⟨gb213, 1, none⟩ = some (.int .i64 a0_1) ∧ w'.cell? ⟨gb213, 2, none⟩ = some (.int .i64 a0_2) ∧ w'.cell? ⟨gb213, 3, none⟩ = some (.int .i64 a0_3)) (ds := []) #[false, false, false, false, false, false, false] (by kernel_rfl) rfl rfl ⟨(kc BK213.out 0).trans rfl, (kc BK213.out 1).trans rfl, (kc BK213.out 2).trans rfl, (kc BK213.out 3).trans rfl⟩ (fun hHeld => ?_)
 generalize w3.drew = w4 at BK213 HB hHeld ⊢
 refine yA 0 (some 3) rfl rfl ?_
 refine yT 1 (some 4) rfl rfl hHeld ?_
 refine yT 2 (some 5) rfl rfl hHeld ?_
 refine yO 3 (some 6) rfl rfl (fun K hK => ?_)
 refine goes_ Try.func60 (by kernel_rfl) rfl #[.agg #[.int .i64 a0_0, .int .i64 a0_1, .int .i64 a0_2, .int .i64 a0_3]] (by rfl) rfl rfl (by (try simp only [List.map_toArray, List.map_cons, List.map_nil]); first | done | rfl | (simp only [List.length_drop, List.length_take]; rfl)) ?_
 with_reducible refine (impl_Geo_partWords.calls a0_0 a0_1 a0_2 a0_3 t214 _ A2.out).mono ?_
 rintro e w5 ⟨rfl, hb⟩
 refine ⟨_, rfl, ?_⟩
 have n0_ := Am (kb (g := gb213) (o := .cells #[.int .i64 a0_0, .int .i64 a0_1, .int .i64 a0_2, .int .i64 a0_3] 29 (0, 0)) (by (with_reducible repeat (first | refine kn ?_ _ | refine ke ?_ | refine ka ?_ _)); exact BK213.out) hb)
 have n1_ := Am (bq (by repeat (first | (with_reducible first | exact HB.out | apply ba | apply bn | apply be | refine bs ?_ GE213.out) | exact HB.out)) hb)
 clear BK213
 clear HB
 have BK213 := n0_
 have HB := n1_
 clear n0_ n1_
 (try clear hb)
 (try clear hb2)
 (try clear hk)
 (try clear hi)
 refine hK.out _ _ ⟨(kc BK213.out 0).trans rfl, (kc BK213.out 1).trans rfl, (kc BK213.out 2).trans rfl, (kc BK213.out 3).trans rfl⟩ (fun hHeld => ?_)
 clear hK K
 refine zN (some 6) ?_
 refine yA 4 (some 7) rfl rfl ?_
 refine yA 5 (some 8) rfl rfl ?_
 refine yA 6 (some 2) rfl rfl ?_
 refine done_ (by kernel_rfl) ?_
 try go_wp2
 go_ret
 exact ⟨by first | rfl | (simp [errW_none, errW_some] <;> rfl) | (simp [*, errW_none, errW_some] <;> rfl), by repeat (first | (with_reducible first | exact HB.out | apply ba | apply bn | apply be | refine bs ?_ GE213.out) | exact HB.out)⟩

/-! ### impl_isPlaced: function 58 -/
def impl_isPlaced.f (k : Nat) (a0_0 : ByteArray) (l0_1 : List (S155)) (a1_0 : Int) (a1_1 : Int) (a1_2 : Int) (a1_3 : Int) : Option (Bool) := (impl_MemoryOk.f k a0_0 l0_1).bind fun t217 => (if t217 = true then ((impl_GeoOk.f a1_0 a1_1 a1_2 a1_3).bind fun t218 => (if t218 = true then ((impl_Geo_lines.f a1_0 a1_1 a1_2 a1_3).bind fun t219 => (some (decide ((wrap64 ((a0_0.size : Int) / 16)) ≥ t219)))) else (some false))) else (some false))
theorem impl_isPlaced.mono : ∀ a0 a1 a2 a3 a4 a5 k, LeO (impl_isPlaced.f k a0 a1 a2 a3 a4 a5) (impl_isPlaced.f (k + 1) a0 a1 a2 a3 a4 a5) := by
 intro a0 a1 a2 a3 a4 a5 k
 unfold impl_isPlaced.f
 repeat' first
   | (with_reducible exact impl_MemoryOk.mono _ _ _)
   | (with_reducible exact LeO.refl _)
   | (with_reducible exact LeO.none _)
   | (with_reducible refine LeO.ite ?_ ?_)
   | (with_reducible refine LeO.bind ?_ (fun _ => ?_))
   | exact impl_MemoryOk.mono _ _ _
   | exact LeO.none _
   | refine LeO.ite ?_ ?_
   | refine LeO.bind ?_ (fun _ => ?_)
def impl_isPlaced.T1 : Bool × List (List Nat × List Nat) := (true, [([], []), ([0], [0]), ([1, 1], [1]), ([2], [2]), ([3, 2, 2], [2, 3]), ([2, 4], [2, 4]), ([5, 4], [5]), ([6], [6]), ([7, 6], [6, 7]), ([8, 6], [6, 8]), ([9, 6], [6, 9]), ([6], [6]), ([11, 6, 6], [6, 11]), ([10, 12, 6], [6, 10, 12]), ([6, 13], [6, 13]), ([14, 12, 0, 1, 2, 3, 4, 5, 6, 7, 8, 9, 10, 11, 12, 13, 14], [14])])
def impl_isPlaced.B1 : List Nat := [0, 1, 3, 7, 15, 31, 63, 127, 255, 511, 1023, 127, 2175, 8191, 16383, 32767]
theorem impl_isPlaced.tab1 : rtab .any (opsOf Try.f58 1) = impl_isPlaced.T1 := by kernel_rfl
theorem impl_isPlaced.bits1 : waitsOk impl_isPlaced.T1.2 impl_isPlaced.B1 = true := by kernel_rfl
set_option maxHeartbeats 8000000 in
set_option maxRecDepth 100000 in
theorem impl_isPlaced.calls (k : Nat) (a0_0 : ByteArray) (A0_1 : Option Addr) (c0_1 : Nat) (l0_1 : List (S155)) (a1_0 : Int) (a1_1 : Int) (a1_2 : Int) (a1_3 : Int) (r : Bool) (w : World) (hr0_1 : Kd.C k155 w A0_1 l0_1.length l0_1) (hc0_1 : l0_1.length ≤ c0_1) (h : impl_isPlaced.f k a0_0 l0_1 a1_0 a1_1 a1_2 a1_3 = some r) :
  Calls Try.prog 58 #[.agg #[.string a0_0, .slice A0_1 l0_1.length c0_1], .agg #[.int .i64 a1_0, .int .i64 a1_1, .int .i64 a1_2, .int .i64 a1_3]] w fun e w' => e = .returned (.bool r) ∧ Below w.heap.size w w' := by
 have hu33 := Try.underlying33
 have hu29 := Try.underlying29
 have HR0_1 := Am hr0_1
 have HC0_1 := Am hc0_1
 clear hr0_1 hc0_1
 have HB := Am (Below.refl w.heap.size w)
 have H : ((impl_MemoryOk.f k a0_0 l0_1).bind fun t217 => (if t217 = true then ((impl_GeoOk.f a1_0 a1_1 a1_2 a1_3).bind fun t218 => (if t218 = true then ((impl_Geo_lines.f a1_0 a1_1 a1_2 a1_3).bind fun t219 => (some (decide ((wrap64 ((a0_0.size : Int) / 16)) ≥ t219)))) else (some false))) else (some false))) = some r := h
 clear h
 replace H := Option.bind_eq_some_iff.mp H
 obtain ⟨t217, A30, H⟩ := H
 replace H : (if t217 = true then ((impl_GeoOk.f a1_0 a1_1 a1_2 a1_3).bind fun t218 => (if t218 = true then ((impl_Geo_lines.f a1_0 a1_1 a1_2 a1_3).bind fun t219 => (some (decide ((wrap64 ((a0_0.size : Int) / 16)) ≥ t219)))) else (some false))) else (some false)) = some r := H
 have A3 := Am A30
 clear A30
 by_cases c4 : t217 = true
 ·subst c4
  have H1 : ((impl_GeoOk.f a1_0 a1_1 a1_2 a1_3).bind fun t218 => (if t218 = true then ((impl_Geo_lines.f a1_0 a1_1 a1_2 a1_3).bind fun t219 => (some (decide ((wrap64 ((a0_0.size : Int) / 16)) ≥ t219)))) else (some false))) = some r := by rw [if_pos rfl] at H; exact H
  clear H
  have H := H1
  clear H1
  replace H := Option.bind_eq_some_iff.mp H
  obtain ⟨t218, A50, H⟩ := H
  replace H : (if t218 = true then ((impl_Geo_lines.f a1_0 a1_1 a1_2 a1_3).bind fun t219 => (some (decide ((wrap64 ((a0_0.size : Int) / 16)) ≥ t219)))) else (some false)) = some r := H
  have A5 := Am A50
  clear A50
  by_cases c6 : t218 = true
  ·subst c6
   have H1 : ((impl_Geo_lines.f a1_0 a1_1 a1_2 a1_3).bind fun t219 => (some (decide ((wrap64 ((a0_0.size : Int) / 16)) ≥ t219)))) = some r := by rw [if_pos rfl] at H; exact H
   clear H
   have H := H1
   clear H1
   replace H := Option.bind_eq_some_iff.mp H
   obtain ⟨t219, A70, H⟩ := H
   replace H : (some (decide ((wrap64 ((a0_0.size : Int) / 16)) ≥ t219))) = some r := H
   have A7 := Am A70
   clear A70
   obtain rfl := Option.some.inj H
   go_enter Try.func58, Try.ntmps58
   try go_wp2_with (first | ((with_reducible refine gate_dst (N := 2) rfl ?_); (try (refine gate_guard (by rfl) ?_; dsimp only)); refine box_event ?hg (N := 2) ?hd (cs := #[.string a0_0, .slice A0_1 l0_1.length c0_1]) (t := 33) ?hr ?_; (case hd => rfl); (case hg => rfl); (case hr => first | (go_simp; done) | (go_simp; rfl)); intro gb215 hg w8 hbox hb; have BK215 := Am (hbox); have GW215 := Am ((by rw [hg]; exact (bz (by repeat (first | (with_reducible first | exact HB.out | apply ba | apply bn | apply be) | exact HB.out))) : w.heap.size ≤ gb215)); have GE215 := Am ((by rw [hg]; exact (bz (by repeat (first | (with_reducible first | exact HB.out | apply ba | apply bn | apply be) | exact HB.out))) : w.heap.size ≤ gb215)); replace HB := Am (bq (by repeat (first | (with_reducible first | exact HB.out | apply ba | apply bn | apply be) | exact HB.out)) hb); clear hb hbox hg) | ((with_reducible refine gate_dst (N := 3) rfl ?_); (try (refine gate_guard (by rfl) ?_; dsimp only)); refine box_event ?hg (N := 3) ?hd (cs := #[.int .i64 a1_0, .int .i64 a1_1, .int .i64 a1_2, .int .i64 a1_3]) (t := 29) ?hr ?_; (case hd => rfl); (case hg => rfl); (case hr => first | (go_simp; done) | (go_simp; rfl)); intro gb216 hg w9 hbox hb; have n0_ := Am (kb (g := gb215) (o := o7b0 a0_0 A0_1 l0_1.length c0_1) (by (with_reducible repeat (first | refine kn ?_ _ | refine ke ?_ | refine ka ?_ _)); exact BK215.out) hb); have n1_ := Am (bq (by repeat (first | (with_reducible first | exact HB.out | apply ba | apply bn | apply be | refine bs ?_ GE215.out) | exact HB.out)) hb); have n2_ := Am (hbox); have n3_ := Am ((by rw [hg]; exact (bz (by repeat (first | (with_reducible first | exact HB.out | apply ba | apply bn | apply be | refine bs ?_ GE215.out) | exact HB.out))) : w.heap.size ≤ gb216)); have n4_ := Am ((by rw [hg]; exact (bz (by repeat (first | (with_reducible first | exact HB.out | apply ba | apply bn | apply be | refine bs ?_ GE215.out) | exact HB.out))) : w.heap.size ≤ gb216)); have n5_ := Am ((by rw [hg]; exact Nat.ne_of_lt (kl (g := gb215) (o := o7b0 a0_0 A0_1 l0_1.length c0_1) (by (with_reducible repeat (first | refine kn ?_ _ | refine ke ?_ | refine ka ?_ _)); exact BK215.out)) : gb215 ≠ gb216)); have n6_ := Am ((by rw [hg]; exact Nat.ne_of_gt (kl (g := gb215) (o := o7b0 a0_0 A0_1 l0_1.length c0_1) (by (with_reducible repeat (first | refine kn ?_ _ | refine ke ?_ | refine ka ?_ _)); exact BK215.out)) : gb216 ≠ gb215)); clear BK215; clear HB; have BK215 := n0_; have HB := n1_; have BK216 := n2_; have GW216 := n3_; have GE216 := n4_; have NB215_216 := n5_; have NB216_215 := n6_; clear n0_ n1_ n2_ n3_ n4_ n5_ n6_; clear hb hbox hg))
   have n0_ := Am (ke BK215.out)
   have n1_ := Am (ke BK216.out)
   have n2_ := Am (be HB.out)
   clear BK215
   clear BK216
   clear HB
   have BK215 := n0_
   have BK216 := n1_
   have HB := n2_
   clear n0_ n1_ n2_
   refine start_ (n := 16) (S := fun w' => w'.cell? ⟨gb215, 0, none⟩ = some (.string a0_0) ∧ w'.cell? ⟨gb215, 1, none⟩ = some (.slice A0_1 l0_1.length c0_1) ∧ w'.cell? ⟨gb216, 0, none⟩ = some (.int .i64 a1_0) ∧ w'.cell? ⟨gb216, 1, none⟩ = some (.int .i64 a1_1) ∧ w'.cell? ⟨gb216, 2, none⟩ = some (.int .i64 a1_2) ∧ w'.cell? ⟨gb216, 3, none⟩ = some (.int .i64 a1_3)) (ds := []) #[false, false, false, false, false, false, false, false, false, false, false, false, false, false, false, false] (by kernel_rfl) rfl rfl ⟨(kc BK215.out 0).trans rfl, (kc BK215.out 1).trans rfl, (kc BK216.out 0).trans rfl, (kc BK216.out 1).trans rfl, (kc BK216.out 2).trans rfl, (kc BK216.out 3).trans rfl⟩ (fun hHeld => ?_); refine with_tabW impl_isPlaced.tab1 impl_isPlaced.bits1 (fun HT_ HW_ => ?_)
   generalize w9.drew = w10 at BK215 BK216 HB hHeld ⊢
   refine zT 0 (some 5) HT_.out HW_.out rfl rfl hHeld ?_
   refine zO 1 (some 6) HT_.out rfl rfl (fun K hK => ?_)
   refine goes_ Try.func103 (by kernel_rfl) rfl #[.agg #[.string a0_0, .slice A0_1 l0_1.length c0_1]] (by rfl) rfl rfl (by (try simp only [List.map_toArray, List.map_cons, List.map_nil]); first | done | rfl | (simp only [List.length_drop, List.length_take]; rfl)) ?_
   with_reducible refine (impl_MemoryOk.calls k a0_0 _ _ l0_1 true _ ?side1 ?side2 A3.out).mono ?_
   (case side1 => repeat (first | exact (cb HR0_1.out HB.out) | (with_reducible first | refine ca ?_ _ | refine cn ?_ _ | refine ce ?_)))
   (case side2 => exact HC0_1.out)
   rintro e w11 ⟨rfl, hb⟩
   refine ⟨_, rfl, ?_⟩
   have n0_ := Am (kb (g := gb215) (o := o7b0 a0_0 A0_1 l0_1.length c0_1) (by (with_reducible repeat (first | refine kn ?_ _ | refine ke ?_ | refine ka ?_ _)); exact BK215.out) hb)
   have n1_ := Am (kb (g := gb216) (o := o7b1 a1_0 a1_1 a1_2 a1_3) (by (with_reducible repeat (first | refine kn ?_ _ | refine ke ?_ | refine ka ?_ _)); exact BK216.out) hb)
   have n2_ := Am (bq (by repeat (first | (with_reducible first | exact HB.out | apply ba | apply bn | apply be | refine bs ?_ GE215.out | refine bs ?_ GE216.out) | exact HB.out)) hb)
   clear BK215
   clear BK216
   clear HB
   have BK215 := n0_
   have BK216 := n1_
   have HB := n2_
   clear n0_ n1_ n2_
   (try clear hb)
   (try clear hb2)
   (try clear hk)
   (try clear hi)
   refine hK.out _ _ ⟨(kc BK215.out 0).trans rfl, (kc BK215.out 1).trans rfl, (kc BK216.out 0).trans rfl, (kc BK216.out 1).trans rfl, (kc BK216.out 2).trans rfl, (kc BK216.out 3).trans rfl⟩ (fun hHeld => ?_)
   clear hK K
   refine zN (some 6) ?_
   refine zA 2 (some 7) HT_.out rfl rfl ?_
   refine zT 3 (some 8) HT_.out HW_.out rfl rfl hHeld ?_
   refine zO 4 (some 9) HT_.out rfl rfl (fun K hK => ?_)
   refine goes_ Try.func104 (by kernel_rfl) rfl #[.agg #[.int .i64 a1_0, .int .i64 a1_1, .int .i64 a1_2, .int .i64 a1_3]] (by rfl) rfl rfl (by (try simp only [List.map_toArray, List.map_cons, List.map_nil]); first | done | rfl | (simp only [List.length_drop, List.length_take]; rfl)) ?_
   with_reducible refine (impl_GeoOk.calls a1_0 a1_1 a1_2 a1_3 true _ A5.out).mono ?_
   rintro e w12 ⟨rfl, hb⟩
   refine ⟨_, rfl, ?_⟩
   have n0_ := Am (kb (g := gb215) (o := o7b0 a0_0 A0_1 l0_1.length c0_1) (by (with_reducible repeat (first | refine kn ?_ _ | refine ke ?_ | refine ka ?_ _)); exact BK215.out) hb)
   have n1_ := Am (kb (g := gb216) (o := o7b1 a1_0 a1_1 a1_2 a1_3) (by (with_reducible repeat (first | refine kn ?_ _ | refine ke ?_ | refine ka ?_ _)); exact BK216.out) hb)
   have n2_ := Am (bq (by repeat (first | (with_reducible first | exact HB.out | apply ba | apply bn | apply be | refine bs ?_ GE215.out | refine bs ?_ GE216.out) | exact HB.out)) hb)
   clear BK215
   clear BK216
   clear HB
   have BK215 := n0_
   have BK216 := n1_
   have HB := n2_
   clear n0_ n1_ n2_
   (try clear hb)
   (try clear hb2)
   (try clear hk)
   (try clear hi)
   refine hK.out _ _ ⟨(kc BK215.out 0).trans rfl, (kc BK215.out 1).trans rfl, (kc BK216.out 0).trans rfl, (kc BK216.out 1).trans rfl, (kc BK216.out 2).trans rfl, (kc BK216.out 3).trans rfl⟩ (fun hHeld => ?_)
   clear hK K
   refine zN (some 9) ?_
   refine zA 5 (some 10) HT_.out rfl rfl ?_
   refine zA 6 (some 11) HT_.out rfl rfl ?_
   refine zA 7 (some 12) HT_.out rfl rfl ?_
   refine zT 8 (some 13) HT_.out HW_.out rfl rfl hHeld ?_
   refine zA 9 (some 14) HT_.out rfl rfl ?_
   refine zA 10 (some 15) HT_.out rfl rfl ?_
   refine zT 11 (some 16) HT_.out HW_.out rfl rfl hHeld ?_
   refine zO 12 (some 17) HT_.out rfl rfl (fun K hK => ?_)
   refine goes_ Try.func105 (by kernel_rfl) rfl #[.agg #[.int .i64 a1_0, .int .i64 a1_1, .int .i64 a1_2, .int .i64 a1_3]] (by rfl) rfl rfl (by (try simp only [List.map_toArray, List.map_cons, List.map_nil]); first | done | rfl | (simp only [List.length_drop, List.length_take]; rfl)) ?_
   with_reducible refine (impl_Geo_lines.calls a1_0 a1_1 a1_2 a1_3 t219 _ A7.out).mono ?_
   rintro e w13 ⟨rfl, hb⟩
   refine ⟨_, rfl, ?_⟩
   have n0_ := Am (kb (g := gb215) (o := o7b0 a0_0 A0_1 l0_1.length c0_1) (by (with_reducible repeat (first | refine kn ?_ _ | refine ke ?_ | refine ka ?_ _)); exact BK215.out) hb)
   have n1_ := Am (kb (g := gb216) (o := o7b1 a1_0 a1_1 a1_2 a1_3) (by (with_reducible repeat (first | refine kn ?_ _ | refine ke ?_ | refine ka ?_ _)); exact BK216.out) hb)
   have n2_ := Am (bq (by repeat (first | (with_reducible first | exact HB.out | apply ba | apply bn | apply be | refine bs ?_ GE215.out | refine bs ?_ GE216.out) | exact HB.out)) hb)
   clear BK215
   clear BK216
   clear HB
   have BK215 := n0_
   have BK216 := n1_
   have HB := n2_
   clear n0_ n1_ n2_
   (try clear hb)
   (try clear hb2)
   (try clear hk)
   (try clear hi)
   refine hK.out _ _ ⟨(kc BK215.out 0).trans rfl, (kc BK215.out 1).trans rfl, (kc BK216.out 0).trans rfl, (kc BK216.out 1).trans rfl, (kc BK216.out 2).trans rfl, (kc BK216.out 3).trans rfl⟩ (fun hHeld => ?_)
   clear hK K
   refine zN (some 17) ?_
   refine zA 13 (some 18) HT_.out rfl rfl ?_
   refine zA 14 (some 19) HT_.out rfl rfl ?_
   refine zA 15 (some 4) HT_.out rfl rfl ?_
   refine done_ (done_of HT_.out (by kernel_rfl)) ?_
   try go_wp2
   go_ret
   exact ⟨by first | rfl | (simp [errW_none, errW_some] <;> rfl) | (simp [*, errW_none, errW_some] <;> rfl), by repeat (first | (with_reducible first | exact HB.out | apply ba | apply bn | apply be | refine bs ?_ GE215.out | refine bs ?_ GE216.out) | exact HB.out)⟩
  ·replace c6 := Bool.eq_false_iff.mpr c6
   subst c6
   have H1 : (some false) = some r := by rw [if_neg (show ¬ (false = true) by decide)] at H; exact H
   clear H
   have H := H1
   clear H1
   obtain rfl := Option.some.inj H
   go_enter Try.func58, Try.ntmps58
   try go_wp2_with (first | ((with_reducible refine gate_dst (N := 2) rfl ?_); (try (refine gate_guard (by rfl) ?_; dsimp only)); refine box_event ?hg (N := 2) ?hd (cs := #[.string a0_0, .slice A0_1 l0_1.length c0_1]) (t := 33) ?hr ?_; (case hd => rfl); (case hg => rfl); (case hr => first | (go_simp; done) | (go_simp; rfl)); intro gb215 hg w14 hbox hb; have BK215 := Am (hbox); have GW215 := Am ((by rw [hg]; exact (bz (by repeat (first | (with_reducible first | exact HB.out | apply ba | apply bn | apply be) | exact HB.out))) : w.heap.size ≤ gb215)); have GE215 := Am ((by rw [hg]; exact (bz (by repeat (first | (with_reducible first | exact HB.out | apply ba | apply bn | apply be) | exact HB.out))) : w.heap.size ≤ gb215)); replace HB := Am (bq (by repeat (first | (with_reducible first | exact HB.out | apply ba | apply bn | apply be) | exact HB.out)) hb); clear hb hbox hg) | ((with_reducible refine gate_dst (N := 3) rfl ?_); (try (refine gate_guard (by rfl) ?_; dsimp only)); refine box_event ?hg (N := 3) ?hd (cs := #[.int .i64 a1_0, .int .i64 a1_1, .int .i64 a1_2, .int .i64 a1_3]) (t := 29) ?hr ?_; (case hd => rfl); (case hg => rfl); (case hr => first | (go_simp; done) | (go_simp; rfl)); intro gb216 hg w15 hbox hb; have n0_ := Am (kb (g := gb215) (o := o7b0 a0_0 A0_1 l0_1.length c0_1) (by (with_reducible repeat (first | refine kn ?_ _ | refine ke ?_ | refine ka ?_ _)); exact BK215.out) hb); have n1_ := Am (bq (by repeat (first | (with_reducible first | exact HB.out | apply ba | apply bn | apply be | refine bs ?_ GE215.out) | exact HB.out)) hb); have n2_ := Am (hbox); have n3_ := Am ((by rw [hg]; exact (bz (by repeat (first | (with_reducible first | exact HB.out | apply ba | apply bn | apply be | refine bs ?_ GE215.out) | exact HB.out))) : w.heap.size ≤ gb216)); have n4_ := Am ((by rw [hg]; exact (bz (by repeat (first | (with_reducible first | exact HB.out | apply ba | apply bn | apply be | refine bs ?_ GE215.out) | exact HB.out))) : w.heap.size ≤ gb216)); have n5_ := Am ((by rw [hg]; exact Nat.ne_of_lt (kl (g := gb215) (o := o7b0 a0_0 A0_1 l0_1.length c0_1) (by (with_reducible repeat (first | refine kn ?_ _ | refine ke ?_ | refine ka ?_ _)); exact BK215.out)) : gb215 ≠ gb216)); have n6_ := Am ((by rw [hg]; exact Nat.ne_of_gt (kl (g := gb215) (o := o7b0 a0_0 A0_1 l0_1.length c0_1) (by (with_reducible repeat (first | refine kn ?_ _ | refine ke ?_ | refine ka ?_ _)); exact BK215.out)) : gb216 ≠ gb215)); clear BK215; clear HB; have BK215 := n0_; have HB := n1_; have BK216 := n2_; have GW216 := n3_; have GE216 := n4_; have NB215_216 := n5_; have NB216_215 := n6_; clear n0_ n1_ n2_ n3_ n4_ n5_ n6_; clear hb hbox hg))
   have n0_ := Am (ke BK215.out)
   have n1_ := Am (ke BK216.out)
   have n2_ := Am (be HB.out)
   clear BK215
   clear BK216
   clear HB
   have BK215 := n0_
   have BK216 := n1_
   have HB := n2_
   clear n0_ n1_ n2_
   refine start_ (n := 16) (S := fun w' => w'.cell? ⟨gb215, 0, none⟩ = some (.string a0_0) ∧ w'.cell? ⟨gb215, 1, none⟩ = some (.slice A0_1 l0_1.length c0_1) ∧ w'.cell? ⟨gb216, 0, none⟩ = some (.int .i64 a1_0) ∧ w'.cell? ⟨gb216, 1, none⟩ = some (.int .i64 a1_1) ∧ w'.cell? ⟨gb216, 2, none⟩ = some (.int .i64 a1_2) ∧ w'.cell? ⟨gb216, 3, none⟩ = some (.int .i64 a1_3)) (ds := []) #[false, false, false, false, false, false, false, false, false, false, false, false, false, false, false, false] (by kernel_rfl) rfl rfl ⟨(kc BK215.out 0).trans rfl, (kc BK215.out 1).trans rfl, (kc BK216.out 0).trans rfl, (kc BK216.out 1).trans rfl, (kc BK216.out 2).trans rfl, (kc BK216.out 3).trans rfl⟩ (fun hHeld => ?_); refine with_tabW impl_isPlaced.tab1 impl_isPlaced.bits1 (fun HT_ HW_ => ?_)
   generalize w15.drew = w16 at BK215 BK216 HB hHeld ⊢
   refine zT 0 (some 5) HT_.out HW_.out rfl rfl hHeld ?_
   refine zO 1 (some 6) HT_.out rfl rfl (fun K hK => ?_)
   refine goes_ Try.func103 (by kernel_rfl) rfl #[.agg #[.string a0_0, .slice A0_1 l0_1.length c0_1]] (by rfl) rfl rfl (by (try simp only [List.map_toArray, List.map_cons, List.map_nil]); first | done | rfl | (simp only [List.length_drop, List.length_take]; rfl)) ?_
   with_reducible refine (impl_MemoryOk.calls k a0_0 _ _ l0_1 true _ ?side1 ?side2 A3.out).mono ?_
   (case side1 => repeat (first | exact (cb HR0_1.out HB.out) | (with_reducible first | refine ca ?_ _ | refine cn ?_ _ | refine ce ?_)))
   (case side2 => exact HC0_1.out)
   rintro e w17 ⟨rfl, hb⟩
   refine ⟨_, rfl, ?_⟩
   have n0_ := Am (kb (g := gb215) (o := o7b0 a0_0 A0_1 l0_1.length c0_1) (by (with_reducible repeat (first | refine kn ?_ _ | refine ke ?_ | refine ka ?_ _)); exact BK215.out) hb)
   have n1_ := Am (kb (g := gb216) (o := o7b1 a1_0 a1_1 a1_2 a1_3) (by (with_reducible repeat (first | refine kn ?_ _ | refine ke ?_ | refine ka ?_ _)); exact BK216.out) hb)
   have n2_ := Am (bq (by repeat (first | (with_reducible first | exact HB.out | apply ba | apply bn | apply be | refine bs ?_ GE215.out | refine bs ?_ GE216.out) | exact HB.out)) hb)
   clear BK215
   clear BK216
   clear HB
   have BK215 := n0_
   have BK216 := n1_
   have HB := n2_
   clear n0_ n1_ n2_
   (try clear hb)
   (try clear hb2)
   (try clear hk)
   (try clear hi)
   refine hK.out _ _ ⟨(kc BK215.out 0).trans rfl, (kc BK215.out 1).trans rfl, (kc BK216.out 0).trans rfl, (kc BK216.out 1).trans rfl, (kc BK216.out 2).trans rfl, (kc BK216.out 3).trans rfl⟩ (fun hHeld => ?_)
   clear hK K
   refine zN (some 6) ?_
   refine zA 2 (some 7) HT_.out rfl rfl ?_
   refine zT 3 (some 8) HT_.out HW_.out rfl rfl hHeld ?_
   refine zO 4 (some 9) HT_.out rfl rfl (fun K hK => ?_)
   refine goes_ Try.func104 (by kernel_rfl) rfl #[.agg #[.int .i64 a1_0, .int .i64 a1_1, .int .i64 a1_2, .int .i64 a1_3]] (by rfl) rfl rfl (by (try simp only [List.map_toArray, List.map_cons, List.map_nil]); first | done | rfl | (simp only [List.length_drop, List.length_take]; rfl)) ?_
   with_reducible refine (impl_GeoOk.calls a1_0 a1_1 a1_2 a1_3 false _ A5.out).mono ?_
   rintro e w18 ⟨rfl, hb⟩
   refine ⟨_, rfl, ?_⟩
   have n0_ := Am (kb (g := gb215) (o := o7b0 a0_0 A0_1 l0_1.length c0_1) (by (with_reducible repeat (first | refine kn ?_ _ | refine ke ?_ | refine ka ?_ _)); exact BK215.out) hb)
   have n1_ := Am (kb (g := gb216) (o := o7b1 a1_0 a1_1 a1_2 a1_3) (by (with_reducible repeat (first | refine kn ?_ _ | refine ke ?_ | refine ka ?_ _)); exact BK216.out) hb)
   have n2_ := Am (bq (by repeat (first | (with_reducible first | exact HB.out | apply ba | apply bn | apply be | refine bs ?_ GE215.out | refine bs ?_ GE216.out) | exact HB.out)) hb)
   clear BK215
   clear BK216
   clear HB
   have BK215 := n0_
   have BK216 := n1_
   have HB := n2_
   clear n0_ n1_ n2_
   (try clear hb)
   (try clear hb2)
   (try clear hk)
   (try clear hi)
   refine hK.out _ _ ⟨(kc BK215.out 0).trans rfl, (kc BK215.out 1).trans rfl, (kc BK216.out 0).trans rfl, (kc BK216.out 1).trans rfl, (kc BK216.out 2).trans rfl, (kc BK216.out 3).trans rfl⟩ (fun hHeld => ?_)
   clear hK K
   refine zN (some 9) ?_
   refine zA 5 (some 10) HT_.out rfl rfl ?_
   refine zA 6 (some 11) HT_.out rfl rfl ?_
   refine zI 7 (some 12) HT_.out rfl rfl ?_
   refine zI 8 (some 13) HT_.out rfl rfl ?_
   refine zI 9 (some 14) HT_.out rfl rfl ?_
   refine zI 10 (some 15) HT_.out rfl rfl ?_
   refine zI 11 (some 16) HT_.out rfl rfl ?_
   refine zI 12 (some 17) HT_.out rfl rfl ?_
   refine zI 13 (some 18) HT_.out rfl rfl ?_
   refine zA 14 (some 19) HT_.out rfl rfl ?_
   refine zA 15 (some 4) HT_.out rfl rfl ?_
   refine done_ (done_of HT_.out (by kernel_rfl)) ?_
   try go_wp2
   go_ret
   exact ⟨by first | rfl | (simp [errW_none, errW_some] <;> rfl) | (simp [*, errW_none, errW_some] <;> rfl), by repeat (first | (with_reducible first | exact HB.out | apply ba | apply bn | apply be | refine bs ?_ GE215.out | refine bs ?_ GE216.out) | exact HB.out)⟩
 ·replace c4 := Bool.eq_false_iff.mpr c4
  subst c4
  have H1 : (some false) = some r := by rw [if_neg (show ¬ (false = true) by decide)] at H; exact H
  clear H
  have H := H1
  clear H1
  obtain rfl := Option.some.inj H
  go_enter Try.func58, Try.ntmps58
  try go_wp2_with (first | ((with_reducible refine gate_dst (N := 2) rfl ?_); (try (refine gate_guard (by rfl) ?_; dsimp only)); refine box_event ?hg (N := 2) ?hd (cs := #[.string a0_0, .slice A0_1 l0_1.length c0_1]) (t := 33) ?hr ?_; (case hd => rfl); (case hg => rfl); (case hr => first | (go_simp; done) | (go_simp; rfl)); intro gb215 hg w19 hbox hb; have BK215 := Am (hbox); have GW215 := Am ((by rw [hg]; exact (bz (by repeat (first | (with_reducible first | exact HB.out | apply ba | apply bn | apply be) | exact HB.out))) : w.heap.size ≤ gb215)); have GE215 := Am ((by rw [hg]; exact (bz (by repeat (first | (with_reducible first | exact HB.out | apply ba | apply bn | apply be) | exact HB.out))) : w.heap.size ≤ gb215)); replace HB := Am (bq (by repeat (first | (with_reducible first | exact HB.out | apply ba | apply bn | apply be) | exact HB.out)) hb); clear hb hbox hg) | ((with_reducible refine gate_dst (N := 3) rfl ?_); (try (refine gate_guard (by rfl) ?_; dsimp only)); refine box_event ?hg (N := 3) ?hd (cs := #[.int .i64 a1_0, .int .i64 a1_1, .int .i64 a1_2, .int .i64 a1_3]) (t := 29) ?hr ?_; (case hd => rfl); (case hg => rfl); (case hr => first | (go_simp; done) | (go_simp; rfl)); intro gb216 hg w20 hbox hb; have n0_ := Am (kb (g := gb215) (o := o7b0 a0_0 A0_1 l0_1.length c0_1) (by (with_reducible repeat (first | refine kn ?_ _ | refine ke ?_ | refine ka ?_ _)); exact BK215.out) hb); have n1_ := Am (bq (by repeat (first | (with_reducible first | exact HB.out | apply ba | apply bn | apply be | refine bs ?_ GE215.out) | exact HB.out)) hb); have n2_ := Am (hbox); have n3_ := Am ((by rw [hg]; exact (bz (by repeat (first | (with_reducible first | exact HB.out | apply ba | apply bn | apply be | refine bs ?_ GE215.out) | exact HB.out))) : w.heap.size ≤ gb216)); have n4_ := Am ((by rw [hg]; exact (bz (by repeat (first | (with_reducible first | exact HB.out | apply ba | apply bn | apply be | refine bs ?_ GE215.out) | exact HB.out))) : w.heap.size ≤ gb216)); have n5_ := Am ((by rw [hg]; exact Nat.ne_of_lt (kl (g := gb215) (o := o7b0 a0_0 A0_1 l0_1.length c0_1) (by (with_reducible repeat (first | refine kn ?_ _ | refine ke ?_ | refine ka ?_ _)); exact BK215.out)) : gb215 ≠ gb216)); have n6_ := Am ((by rw [hg]; exact Nat.ne_of_gt (kl (g := gb215) (o := o7b0 a0_0 A0_1 l0_1.length c0_1) (by (with_reducible repeat (first | refine kn ?_ _ | refine ke ?_ | refine ka ?_ _)); exact BK215.out)) : gb216 ≠ gb215)); clear BK215; clear HB; have BK215 := n0_; have HB := n1_; have BK216 := n2_; have GW216 := n3_; have GE216 := n4_; have NB215_216 := n5_; have NB216_215 := n6_; clear n0_ n1_ n2_ n3_ n4_ n5_ n6_; clear hb hbox hg))
  have n0_ := Am (ke BK215.out)
  have n1_ := Am (ke BK216.out)
  have n2_ := Am (be HB.out)
  clear BK215
  clear BK216
  clear HB
  have BK215 := n0_
  have BK216 := n1_
  have HB := n2_
  clear n0_ n1_ n2_
  refine start_ (n := 16) (S := fun w' => w'.cell? ⟨gb215, 0, none⟩ = some (.string a0_0) ∧ w'.cell? ⟨gb215, 1, none⟩ = some (.slice A0_1 l0_1.length c0_1)) (ds := []) #[false, false, false, false, false, false, false, false, false, false, false, false, false, false, false, false] (by kernel_rfl) rfl rfl ⟨(kc BK215.out 0).trans rfl, (kc BK215.out 1).trans rfl⟩ (fun hHeld => ?_); refine with_tabW impl_isPlaced.tab1 impl_isPlaced.bits1 (fun HT_ HW_ => ?_)
  generalize w20.drew = w21 at BK215 BK216 HB hHeld ⊢
  refine zT 0 (some 5) HT_.out HW_.out rfl rfl hHeld ?_
  refine zO 1 (some 6) HT_.out rfl rfl (fun K hK => ?_)
  refine goes_ Try.func103 (by kernel_rfl) rfl #[.agg #[.string a0_0, .slice A0_1 l0_1.length c0_1]] (by rfl) rfl rfl (by (try simp only [List.map_toArray, List.map_cons, List.map_nil]); first | done | rfl | (simp only [List.length_drop, List.length_take]; rfl)) ?_
  with_reducible refine (impl_MemoryOk.calls k a0_0 _ _ l0_1 false _ ?side1 ?side2 A3.out).mono ?_
  (case side1 => repeat (first | exact (cb HR0_1.out HB.out) | (with_reducible first | refine ca ?_ _ | refine cn ?_ _ | refine ce ?_)))
  (case side2 => exact HC0_1.out)
  rintro e w22 ⟨rfl, hb⟩
  refine ⟨_, rfl, ?_⟩
  have n0_ := Am (kb (g := gb215) (o := o7b0 a0_0 A0_1 l0_1.length c0_1) (by (with_reducible repeat (first | refine kn ?_ _ | refine ke ?_ | refine ka ?_ _)); exact BK215.out) hb)
  have n1_ := Am (kb (g := gb216) (o := o7b1 a1_0 a1_1 a1_2 a1_3) (by (with_reducible repeat (first | refine kn ?_ _ | refine ke ?_ | refine ka ?_ _)); exact BK216.out) hb)
  have n2_ := Am (bq (by repeat (first | (with_reducible first | exact HB.out | apply ba | apply bn | apply be | refine bs ?_ GE215.out | refine bs ?_ GE216.out) | exact HB.out)) hb)
  clear BK215
  clear BK216
  clear HB
  have BK215 := n0_
  have BK216 := n1_
  have HB := n2_
  clear n0_ n1_ n2_
  (try clear hb)
  (try clear hb2)
  (try clear hk)
  (try clear hi)
  refine hK.out _ _ ⟨(kc BK215.out 0).trans rfl, (kc BK215.out 1).trans rfl⟩ (fun hHeld => ?_)
  clear hK K
  refine zN (some 6) ?_
  refine zA 2 (some 7) HT_.out rfl rfl ?_
  refine zI 3 (some 8) HT_.out rfl rfl ?_
  refine zI 4 (some 9) HT_.out rfl rfl ?_
  refine zA 5 (some 10) HT_.out rfl rfl ?_
  refine zA 6 (some 11) HT_.out rfl rfl ?_
  refine zI 7 (some 12) HT_.out rfl rfl ?_
  refine zI 8 (some 13) HT_.out rfl rfl ?_
  refine zI 9 (some 14) HT_.out rfl rfl ?_
  refine zI 10 (some 15) HT_.out rfl rfl ?_
  refine zI 11 (some 16) HT_.out rfl rfl ?_
  refine zI 12 (some 17) HT_.out rfl rfl ?_
  refine zI 13 (some 18) HT_.out rfl rfl ?_
  refine zA 14 (some 19) HT_.out rfl rfl ?_
  refine zA 15 (some 4) HT_.out rfl rfl ?_
  refine done_ (done_of HT_.out (by kernel_rfl)) ?_
  try go_wp2
  go_ret
  exact ⟨by first | rfl | (simp [errW_none, errW_some] <;> rfl) | (simp [*, errW_none, errW_some] <;> rfl), by repeat (first | (with_reducible first | exact HB.out | apply ba | apply bn | apply be | refine bs ?_ GE215.out | refine bs ?_ GE216.out) | exact HB.out)⟩

/-! ### cmp_isNaN_int: function 167 -/
def cmp_isNaN_int.f (a0 : Int) : Option (Bool) := some (a0 != a0)
set_option maxHeartbeats 8000000 in
set_option maxRecDepth 100000 in
theorem cmp_isNaN_int.calls (a0 : Int) (r : Bool) (w : World) (h : cmp_isNaN_int.f a0 = some r) :
  Calls Try.prog 167 #[.int .i64 a0] w fun e w' => e = .returned (.bool r) ∧ Drawn0 w w' := by
 have H : (some (a0 != a0)) = some r := h
 clear h
 obtain rfl := Option.some.inj H
 go_enter Try.func167, Try.ntmps167
 go_wp2
 go_ret
 exact ⟨by first | rfl | (simp; done) | (simp [*]; done), by repeat (first | exact Drawn0.refl _ | apply Drawn0.step)⟩

/-! ### cmp_Compare_int: function 162 -/
def cmp_Compare_int.f (a0 : Int) (a1 : Int) : Option (Int) := (cmp_isNaN_int.f a0).bind fun t220 => ((cmp_isNaN_int.f a1).bind fun t221 => (if t220 = true then (if t221 = true then (some 0) else (some (-1))) else (if t221 = true then (some 1) else (if a0 < a1 then (some (-1)) else (if a0 > a1 then (some 1) else (some 0))))))
set_option maxHeartbeats 8000000 in
set_option maxRecDepth 100000 in
theorem cmp_Compare_int.calls (a0 : Int) (a1 : Int) (r : Int) (w : World) (h : cmp_Compare_int.f a0 a1 = some r) :
  Calls Try.prog 162 #[.int .i64 a0, .int .i64 a1] w fun e w' => e = .returned (.int .i64 r) ∧ Drawn0 w w' := by
 have H : ((cmp_isNaN_int.f a0).bind fun t220 => ((cmp_isNaN_int.f a1).bind fun t221 => (if t220 = true then (if t221 = true then (some 0) else (some (-1))) else (if t221 = true then (some 1) else (if a0 < a1 then (some (-1)) else (if a0 > a1 then (some 1) else (some 0))))))) = some r := h
 clear h
 replace H := Option.bind_eq_some_iff.mp H
 obtain ⟨t220, A30, H⟩ := H
 replace H : ((cmp_isNaN_int.f a1).bind fun t221 => (if t220 = true then (if t221 = true then (some 0) else (some (-1))) else (if t221 = true then (some 1) else (if a0 < a1 then (some (-1)) else (if a0 > a1 then (some 1) else (some 0)))))) = some r := H
 have A3 := Am A30
 clear A30
 replace H := Option.bind_eq_some_iff.mp H
 obtain ⟨t221, A40, H⟩ := H
 replace H : (if t220 = true then (if t221 = true then (some 0) else (some (-1))) else (if t221 = true then (some 1) else (if a0 < a1 then (some (-1)) else (if a0 > a1 then (some 1) else (some 0))))) = some r := H
 have A4 := Am A40
 clear A40
 by_cases c5 : t220 = true
 ·subst c5
  have H1 : (if t221 = true then (some 0) else (some (-1))) = some r := by rw [if_pos rfl] at H; exact H
  clear H
  have H := H1
  clear H1
  by_cases c6 : t221 = true
  ·subst c6
   have H1 : (some 0) = some r := by rw [if_pos rfl] at H; exact H
   clear H
   have H := H1
   clear H1
   obtain rfl := Option.some.inj H
   go_enter Try.func162, Try.ntmps162
   go_wp2_with (first | ((with_reducible refine gate_callee (f := 167) rfl ?_); refine goesL_ (some 8) rfl rfl Try.func167 (by kernel_rfl) rfl #[.int .i64 a0] rfl (by (try simp only [List.map_toArray, List.map_cons, List.map_nil]); first | done | rfl | (simp only [List.length_drop, List.length_take]; rfl)) ?_; (with_reducible refine (cmp_isNaN_int.calls a0 true _ A3.out).mono ?_); rintro e w' ⟨rfl, ⟨nd, rfl⟩⟩; refine ⟨_, rfl, ?_⟩) | ((with_reducible refine gate_callee (f := 167) rfl ?_); refine goesL_ (some 10) rfl rfl Try.func167 (by kernel_rfl) rfl #[.int .i64 a1] rfl (by (try simp only [List.map_toArray, List.map_cons, List.map_nil]); first | done | rfl | (simp only [List.length_drop, List.length_take]; rfl)) ?_; (with_reducible refine (cmp_isNaN_int.calls a1 true _ A4.out).mono ?_); rintro e w' ⟨rfl, ⟨nd, rfl⟩⟩; refine ⟨_, rfl, ?_⟩))
   go_ret
   exact ⟨by first | rfl | (simp; done) | (simp [*]; done), by repeat (first | exact Drawn0.refl _ | apply Drawn0.step)⟩
  ·replace c6 := Bool.eq_false_iff.mpr c6
   subst c6
   have H1 : (some (-1)) = some r := by rw [if_neg (show ¬ (false = true) by decide)] at H; exact H
   clear H
   have H := H1
   clear H1
   obtain rfl := Option.some.inj H
   go_enter Try.func162, Try.ntmps162
   go_wp2_with (first | ((with_reducible refine gate_callee (f := 167) rfl ?_); refine goesL_ (some 8) rfl rfl Try.func167 (by kernel_rfl) rfl #[.int .i64 a0] rfl (by (try simp only [List.map_toArray, List.map_cons, List.map_nil]); first | done | rfl | (simp only [List.length_drop, List.length_take]; rfl)) ?_; (with_reducible refine (cmp_isNaN_int.calls a0 true _ A3.out).mono ?_); rintro e w' ⟨rfl, ⟨nd, rfl⟩⟩; refine ⟨_, rfl, ?_⟩) | ((with_reducible refine gate_callee (f := 167) rfl ?_); refine goesL_ (some 10) rfl rfl Try.func167 (by kernel_rfl) rfl #[.int .i64 a1] rfl (by (try simp only [List.map_toArray, List.map_cons, List.map_nil]); first | done | rfl | (simp only [List.length_drop, List.length_take]; rfl)) ?_; (with_reducible refine (cmp_isNaN_int.calls a1 false _ A4.out).mono ?_); rintro e w' ⟨rfl, ⟨nd, rfl⟩⟩; refine ⟨_, rfl, ?_⟩))
   go_ret
   exact ⟨by first | rfl | (simp; done) | (simp [*]; done), by repeat (first | exact Drawn0.refl _ | apply Drawn0.step)⟩
 ·replace c5 := Bool.eq_false_iff.mpr c5
  subst c5
  have H1 : (if t221 = true then (some 1) else (if a0 < a1 then (some (-1)) else (if a0 > a1 then (some 1) else (some 0)))) = some r := by rw [if_neg (show ¬ (false = true) by decide)] at H; exact H
  clear H
  have H := H1
  clear H1
  by_cases c7 : t221 = true
  ·subst c7
   have H1 : (some 1) = some r := by rw [if_pos rfl] at H; exact H
   clear H
   have H := H1
   clear H1
   obtain rfl := Option.some.inj H
   go_enter Try.func162, Try.ntmps162
   go_wp2_with (first | ((with_reducible refine gate_callee (f := 167) rfl ?_); refine goesL_ (some 8) rfl rfl Try.func167 (by kernel_rfl) rfl #[.int .i64 a0] rfl (by (try simp only [List.map_toArray, List.map_cons, List.map_nil]); first | done | rfl | (simp only [List.length_drop, List.length_take]; rfl)) ?_; (with_reducible refine (cmp_isNaN_int.calls a0 false _ A3.out).mono ?_); rintro e w' ⟨rfl, ⟨nd, rfl⟩⟩; refine ⟨_, rfl, ?_⟩) | ((with_reducible refine gate_callee (f := 167) rfl ?_); refine goesL_ (some 10) rfl rfl Try.func167 (by kernel_rfl) rfl #[.int .i64 a1] rfl (by (try simp only [List.map_toArray, List.map_cons, List.map_nil]); first | done | rfl | (simp only [List.length_drop, List.length_take]; rfl)) ?_; (with_reducible refine (cmp_isNaN_int.calls a1 true _ A4.out).mono ?_); rintro e w' ⟨rfl, ⟨nd, rfl⟩⟩; refine ⟨_, rfl, ?_⟩))
   go_ret
   exact ⟨by first | rfl | (simp; done) | (simp [*]; done), by repeat (first | exact Drawn0.refl _ | apply Drawn0.step)⟩
  ·replace c7 := Bool.eq_false_iff.mpr c7
   subst c7
   have H1 : (if a0 < a1 then (some (-1)) else (if a0 > a1 then (some 1) else (some 0))) = some r := by rw [if_neg (show ¬ (false = true) by decide)] at H; exact H
   clear H
   have H := H1
   clear H1
   by_cases c8 : a0 < a1
   ·rw [if_pos c8] at H
    have c8b0 : decide (a0 < a1) = true := decide_eq_true c8
    clear c8
    obtain rfl := Option.some.inj H
    go_enter Try.func162, Try.ntmps162
    go_wp2_with (first | ((with_reducible refine gate_callee (f := 167) rfl ?_); refine goesL_ (some 8) rfl rfl Try.func167 (by kernel_rfl) rfl #[.int .i64 a0] rfl (by (try simp only [List.map_toArray, List.map_cons, List.map_nil]); first | done | rfl | (simp only [List.length_drop, List.length_take]; rfl)) ?_; (with_reducible refine (cmp_isNaN_int.calls a0 false _ A3.out).mono ?_); rintro e w' ⟨rfl, ⟨nd, rfl⟩⟩; refine ⟨_, rfl, ?_⟩) | ((with_reducible refine gate_callee (f := 167) rfl ?_); refine goesL_ (some 10) rfl rfl Try.func167 (by kernel_rfl) rfl #[.int .i64 a1] rfl (by (try simp only [List.map_toArray, List.map_cons, List.map_nil]); first | done | rfl | (simp only [List.length_drop, List.length_take]; rfl)) ?_; (with_reducible refine (cmp_isNaN_int.calls a1 false _ A4.out).mono ?_); rintro e w' ⟨rfl, ⟨nd, rfl⟩⟩; refine ⟨_, rfl, ?_⟩))
    go_ret
    exact ⟨by first | rfl | (simp; done) | (simp [*]; done), by repeat (first | exact Drawn0.refl _ | apply Drawn0.step)⟩
   ·rw [if_neg c8] at H
    have c8b0 : decide (a0 < a1) = false := decide_eq_false c8
    clear c8
    by_cases c9 : a0 > a1
    ·rw [if_pos c9] at H
     have c9b0 : decide (a1 < a0) = true := decide_eq_true c9
     clear c9
     obtain rfl := Option.some.inj H
     go_enter Try.func162, Try.ntmps162
     go_wp2_with (first | ((with_reducible refine gate_callee (f := 167) rfl ?_); refine goesL_ (some 8) rfl rfl Try.func167 (by kernel_rfl) rfl #[.int .i64 a0] rfl (by (try simp only [List.map_toArray, List.map_cons, List.map_nil]); first | done | rfl | (simp only [List.length_drop, List.length_take]; rfl)) ?_; (with_reducible refine (cmp_isNaN_int.calls a0 false _ A3.out).mono ?_); rintro e w' ⟨rfl, ⟨nd, rfl⟩⟩; refine ⟨_, rfl, ?_⟩) | ((with_reducible refine gate_callee (f := 167) rfl ?_); refine goesL_ (some 10) rfl rfl Try.func167 (by kernel_rfl) rfl #[.int .i64 a1] rfl (by (try simp only [List.map_toArray, List.map_cons, List.map_nil]); first | done | rfl | (simp only [List.length_drop, List.length_take]; rfl)) ?_; (with_reducible refine (cmp_isNaN_int.calls a1 false _ A4.out).mono ?_); rintro e w' ⟨rfl, ⟨nd, rfl⟩⟩; refine ⟨_, rfl, ?_⟩))
     go_ret
     exact ⟨by first | rfl | (simp; done) | (simp [*]; done), by repeat (first | exact Drawn0.refl _ | apply Drawn0.step)⟩
    ·rw [if_neg c9] at H
     have c9b0 : decide (a1 < a0) = false := decide_eq_false c9
     clear c9
     obtain rfl := Option.some.inj H
     go_enter Try.func162, Try.ntmps162
     go_wp2_with (first | ((with_reducible refine gate_callee (f := 167) rfl ?_); refine goesL_ (some 8) rfl rfl Try.func167 (by kernel_rfl) rfl #[.int .i64 a0] rfl (by (try simp only [List.map_toArray, List.map_cons, List.map_nil]); first | done | rfl | (simp only [List.length_drop, List.length_take]; rfl)) ?_; (with_reducible refine (cmp_isNaN_int.calls a0 false _ A3.out).mono ?_); rintro e w' ⟨rfl, ⟨nd, rfl⟩⟩; refine ⟨_, rfl, ?_⟩) | ((with_reducible refine gate_callee (f := 167) rfl ?_); refine goesL_ (some 10) rfl rfl Try.func167 (by kernel_rfl) rfl #[.int .i64 a1] rfl (by (try simp only [List.map_toArray, List.map_cons, List.map_nil]); first | done | rfl | (simp only [List.length_drop, List.length_take]; rfl)) ?_; (with_reducible refine (cmp_isNaN_int.calls a1 false _ A4.out).mono ?_); rintro e w' ⟨rfl, ⟨nd, rfl⟩⟩; refine ⟨_, rfl, ?_⟩))
     go_ret
     exact ⟨by first | rfl | (simp; done) | (simp [*]; done), by repeat (first | exact Drawn0.refl _ | apply Drawn0.step)⟩

/-! ### impl_Memory_findCell_1: function 161 -/
def impl_Memory_findCell_1.f (a0_0 : Int) (a0_1 : ByteArray) (a0_2 : Bool) (a1 : Int) : Option (Int) := (cmp_Compare_int.f a0_0 a1).bind fun t223 => (some t223)
set_option maxHeartbeats 8000000 in
set_option maxRecDepth 100000 in
theorem impl_Memory_findCell_1.calls (a0_0 : Int) (a0_1 : ByteArray) (a0_2 : Bool) (a1 : Int) (r : Int) (w : World) (h : impl_Memory_findCell_1.f a0_0 a0_1 a0_2 a1 = some r) :
  Calls Try.prog 161 #[.agg #[.int .i64 a0_0, .string a0_1, .bool a0_2], .int .i64 a1] w fun e w' => e = .returned (.int .i64 r) ∧ Below w.heap.size w w' := by
 have hu155 := Try.underlying155
 have HB := Am (Below.refl w.heap.size w)
 have H : ((cmp_Compare_int.f a0_0 a1).bind fun t223 => (some t223)) = some r := h
 clear h
 replace H := Option.bind_eq_some_iff.mp H
 obtain ⟨t223, A30, H⟩ := H
 replace H : (some t223) = some r := H
 have A3 := Am A30
 clear A30
 obtain rfl := Option.some.inj H
 go_enter Try.func161, Try.ntmps161
 go_wp2_with (first | ((with_reducible refine gate_dst (N := 2) rfl ?_); refine box_event ?hg (N := 2) ?hd (cs := #[.int .i64 a0_0, .string a0_1, .bool a0_2]) (t := 155) ?hr ?_; (case hd => rfl); (case hg => rfl); (case hr => first | (go_simp; done) | (go_simp; rfl)); intro gb222 hg w4 hbox hb; have BK222 := Am (hbox); have GW222 := Am ((by rw [hg]; exact (bz (by repeat (first | (with_reducible first | exact HB.out | apply ba | apply bn | apply be) | exact HB.out))) : w.heap.size ≤ gb222)); have GE222 := Am ((by rw [hg]; exact (bz (by repeat (first | (with_reducible first | exact HB.out | apply ba | apply bn | apply be) | exact HB.out))) : w.heap.size ≤ gb222)); replace HB := Am (bq (by repeat (first | (with_reducible first | exact HB.out | apply ba | apply bn | apply be) | exact HB.out)) hb); clear hb hbox hg; have hcz5_0 : w4.cell? ⟨gb222, 0, none⟩ = some (.int .i64 a0_0) := (kc BK222.out 0).trans rfl; have hcz5_1 : w4.cell? ⟨gb222, 1, none⟩ = some (.string a0_1) := (kc BK222.out 1).trans rfl; have hcz5_2 : w4.cell? ⟨gb222, 2, none⟩ = some (.bool a0_2) := (kc BK222.out 2).trans rfl; have hfz5_0 := kf BK222.out 0; have hfz5_1 := kf BK222.out 1; have hfz5_2 := kf BK222.out 2) | ((with_reducible refine gate_callee (f := 162) rfl ?_); refine goesL_ (some 8) rfl rfl Try.func162 (by kernel_rfl) rfl #[.int .i64 a0_0, .int .i64 a1] rfl (by (try simp only [List.map_toArray, List.map_cons, List.map_nil]); first | done | rfl | (simp only [List.length_drop, List.length_take]; rfl)) ?_; (with_reducible refine (cmp_Compare_int.calls a0_0 a1 t223 _ A3.out).mono ?_); rintro e w' ⟨rfl, ⟨nd, rfl⟩⟩; refine ⟨_, rfl, ?_⟩))
 go_ret
 exact ⟨by first | rfl | (simp [errW_none, errW_some] <;> rfl) | (simp [*, errW_none, errW_some] <;> rfl), by repeat (first | (with_reducible first | exact HB.out | apply ba | apply bn | apply be | refine bs ?_ GE222.out) | exact HB.out)⟩

end Go.Proofs.Ytconffflmbakgaa.QFnExactMaskedWord
