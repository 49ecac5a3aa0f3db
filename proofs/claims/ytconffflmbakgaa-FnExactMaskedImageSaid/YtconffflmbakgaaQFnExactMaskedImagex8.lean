/- Go functions as Lean functions, and their contracts. Own text: written by wip/gen/pr.py (a turned copy of the print). -/
import Derived.Test.YtconffflmbakgaaQFnExactMaskedImagex0
import Derived.Test.YtconffflmbakgaaQFnExactMaskedImagex6
import Derived.Test.YtconffflmbakgaaQFnExactMaskedImagex7
namespace Go.Proofs.Ytconffflmbakgaa.QFnExactMaskedImage
open Go.RowKit Go.Proofs.YtconffflmbakgaaW.PrintWords Go.Proofs.YtconffflmbakgaaW.PrintLast Go.Proofs.YtconffflmbakgaaW.PrintMore
attribute [local go_sem] max2_int min2_int max_two min_two max_three min_three max_four min_four   -- for this text's walks alone
open Go.Proofs.YtconffflmbakgaaW.PrintWords renaming below_alloc → ba, pw_below_drewN → bn, below_drew1 → be, below_set → bs, blk_drewN → kn, blk_drew → ke, blk_alloc → ka, blk_below → kb, blk_frozen → kf, blk_cell → kc, below_step → bq, below_size → bz, blk_lt → kl
open Go.Proofs.YtconffflmbakgaaW.PrintWords.Kd renaming C_alloc → ca, C_drewN → cn, C_drew → ce, C_below → cb
open Go.Proofs.YtconffflmbakgaaW.PrintWords.Aside0 renaming mk → Am
set_option linter.unusedVariables false
set_option linter.unusedSimpArgs false

def o8b0 (p0 : ByteArray) (p1 : Option Addr) (p2 p3 : Nat) : Obj := .cells #[.string p0, .slice p1 p2 p3] 33 (0, 0)
def o8b1 (p0 : Int) (p1 : Int) (p2 : Int) (p3 : Int) : Obj := .cells #[.int .i64 p0, .int .i64 p1, .int .i64 p2, .int .i64 p3] 29 (0, 0)
/-! ### impl_GeoOk: function 104 -/
def impl_GeoOk.f (a0_0 : Int) (a0_1 : Int) (a0_2 : Int) (a0_3 : Int) : Option (Bool) := (impl_within.f a0_0 1 3).bind fun t227 => (if t227 = true then ((impl_within.f a0_1 5 12).bind fun t228 => (if t228 = true then ((impl_within.f a0_2 2 6).bind fun t229 => (if t229 = true then ((impl_within.f a0_3 1 (wrap64 (a0_1 - 4))).bind fun t230 => (some t230)) else (some false))) else (some false))) else (some false))
set_option maxHeartbeats 8000000 in
set_option maxRecDepth 100000 in
theorem impl_GeoOk.calls (a0_0 : Int) (a0_1 : Int) (a0_2 : Int) (a0_3 : Int) (r : Bool) (w : World) (h : impl_GeoOk.f a0_0 a0_1 a0_2 a0_3 = some r) :
  Calls Try.prog 104 #[.agg #[.int .i64 a0_0, .int .i64 a0_1, .int .i64 a0_2, .int .i64 a0_3]] w fun e w' => e = .returned (.bool r) ∧ Below w.heap.size w w' := by
 have hu29 := Try.underlying29
 have HB := Am (Below.refl w.heap.size w)
 have H : ((impl_within.f a0_0 1 3).bind fun t227 => (if t227 = true then ((impl_within.f a0_1 5 12).bind fun t228 => (if t228 = true then ((impl_within.f a0_2 2 6).bind fun t229 => (if t229 = true then ((impl_within.f a0_3 1 (wrap64 (a0_1 - 4))).bind fun t230 => (some t230)) else (some false))) else (some false))) else (some false))) = some r := h
 clear h
 replace H := Option.bind_eq_some_iff.mp H
 obtain ⟨t227, A20, H⟩ := H
 replace H : (if t227 = true then ((impl_within.f a0_1 5 12).bind fun t228 => (if t228 = true then ((impl_within.f a0_2 2 6).bind fun t229 => (if t229 = true then ((impl_within.f a0_3 1 (wrap64 (a0_1 - 4))).bind fun t230 => (some t230)) else (some false))) else (some false))) else (some false)) = some r := H
 have A2 := Am A20
 clear A20
 by_cases c3 : t227 = true
 ·subst c3
  have H1 : ((impl_within.f a0_1 5 12).bind fun t228 => (if t228 = true then ((impl_within.f a0_2 2 6).bind fun t229 => (if t229 = true then ((impl_within.f a0_3 1 (wrap64 (a0_1 - 4))).bind fun t230 => (some t230)) else (some false))) else (some false))) = some r := by rw [if_pos rfl] at H; exact H
  clear H
  have H := H1
  clear H1
  replace H := Option.bind_eq_some_iff.mp H
  obtain ⟨t228, A40, H⟩ := H
  replace H : (if t228 = true then ((impl_within.f a0_2 2 6).bind fun t229 => (if t229 = true then ((impl_within.f a0_3 1 (wrap64 (a0_1 - 4))).bind fun t230 => (some t230)) else (some false))) else (some false)) = some r := H
  have A4 := Am A40
  clear A40
  by_cases c5 : t228 = true
  ·subst c5
   have H1 : ((impl_within.f a0_2 2 6).bind fun t229 => (if t229 = true then ((impl_within.f a0_3 1 (wrap64 (a0_1 - 4))).bind fun t230 => (some t230)) else (some false))) = some r := by rw [if_pos rfl] at H; exact H
   clear H
   have H := H1
   clear H1
   replace H := Option.bind_eq_some_iff.mp H
   obtain ⟨t229, A60, H⟩ := H
   replace H : (if t229 = true then ((impl_within.f a0_3 1 (wrap64 (a0_1 - 4))).bind fun t230 => (some t230)) else (some false)) = some r := H
   have A6 := Am A60
   clear A60
   by_cases c7 : t229 = true
   ·subst c7
    have H1 : ((impl_within.f a0_3 1 (wrap64 (a0_1 - 4))).bind fun t230 => (some t230)) = some r := by rw [if_pos rfl] at H; exact H
    clear H
    have H := H1
    clear H1
    replace H := Option.bind_eq_some_iff.mp H
    obtain ⟨t230, A80, H⟩ := H
    replace H : (some t230) = some r := H
    have A8 := Am A80
    clear A80
    obtain rfl := Option.some.inj H
    go_enter Try.func104, Try.ntmps104
    go_wp2_with (first | ((with_reducible refine gate_dst (N := 1) rfl ?_); refine box_event ?hg (N := 1) ?hd (cs := #[.int .i64 a0_0, .int .i64 a0_1, .int .i64 a0_2, .int .i64 a0_3]) (t := 29) ?hr ?_; (case hd => rfl); (case hg => rfl); (case hr => first | (go_simp; done) | (go_simp; rfl)); intro gb226 hg w9 hbox hb; have BK226 := Am (hbox); have GW226 := Am ((by rw [hg]; exact (bz zB) : w.heap.size ≤ gb226)); have GE226 := Am ((by rw [hg]; exact (bz zB) : w.heap.size ≤ gb226)); replace HB := Am (bq zB hb); clear hb hbox hg; obtain ⟨hcz10_0, hcz10_1, hcz10_2, hcz10_3⟩ := kc4 (w := w9) BK226.out; have hfz10_0 := kf BK226.out) | ((with_reducible refine gate_callee (f := 59) rfl ?_); refine zC (some 5) rfl rfl Try.func59 rfl #[.int .i64 a0_0, .int .i64 1, .int .i64 3] rfl ?_; (with_reducible refine (impl_within.calls a0_0 1 3 true _ A2.out).mono ?_); rintro e w' ⟨rfl, ⟨nd, rfl⟩⟩; refine ⟨_, rfl, ?_⟩) | (go_at_call 59; (with_reducible refine (impl_within.calls a0_1 5 12 true _ A4.out).mono ?_); rintro e w' ⟨rfl, ⟨nd, rfl⟩⟩) | (go_at_call 59; (with_reducible refine (impl_within.calls a0_2 2 6 true _ A6.out).mono ?_); rintro e w' ⟨rfl, ⟨nd, rfl⟩⟩) | (go_at_call 59; (with_reducible refine (impl_within.calls a0_3 1 (wrap64 (a0_1 - 4)) t230 _ A8.out).mono ?_); rintro e w' ⟨rfl, ⟨nd, rfl⟩⟩))
    go_ret
    exact ⟨zR, zG⟩
   ·replace c7 := Bool.eq_false_iff.mpr c7
    subst c7
    have H1 : (some false) = some r := by rw [if_neg (show ¬ (false = true) by decide)] at H; exact H
    clear H
    have H := H1
    clear H1
    obtain rfl := Option.some.inj H
    go_enter Try.func104, Try.ntmps104
    go_wp2_with (first | ((with_reducible refine gate_dst (N := 1) rfl ?_); refine box_event ?hg (N := 1) ?hd (cs := #[.int .i64 a0_0, .int .i64 a0_1, .int .i64 a0_2, .int .i64 a0_3]) (t := 29) ?hr ?_; (case hd => rfl); (case hg => rfl); (case hr => first | (go_simp; done) | (go_simp; rfl)); intro gb226 hg w11 hbox hb; have BK226 := Am (hbox); have GW226 := Am ((by rw [hg]; exact (bz zB) : w.heap.size ≤ gb226)); have GE226 := Am ((by rw [hg]; exact (bz zB) : w.heap.size ≤ gb226)); replace HB := Am (bq zB hb); clear hb hbox hg; obtain ⟨hcz12_0, hcz12_1, hcz12_2, hcz12_3⟩ := kc4 (w := w11) BK226.out; have hfz12_0 := kf BK226.out) | ((with_reducible refine gate_callee (f := 59) rfl ?_); refine zC (some 5) rfl rfl Try.func59 rfl #[.int .i64 a0_0, .int .i64 1, .int .i64 3] rfl ?_; (with_reducible refine (impl_within.calls a0_0 1 3 true _ A2.out).mono ?_); rintro e w' ⟨rfl, ⟨nd, rfl⟩⟩; refine ⟨_, rfl, ?_⟩) | (go_at_call 59; (with_reducible refine (impl_within.calls a0_1 5 12 true _ A4.out).mono ?_); rintro e w' ⟨rfl, ⟨nd, rfl⟩⟩) | (go_at_call 59; (with_reducible refine (impl_within.calls a0_2 2 6 false _ A6.out).mono ?_); rintro e w' ⟨rfl, ⟨nd, rfl⟩⟩))
    go_ret
    exact ⟨zR, zG⟩
  ·replace c5 := Bool.eq_false_iff.mpr c5
   subst c5
   have H1 : (some false) = some r := by rw [if_neg (show ¬ (false = true) by decide)] at H; exact H
   clear H
   have H := H1
   clear H1
   obtain rfl := Option.some.inj H
   go_enter Try.func104, Try.ntmps104
   go_wp2_with (first | ((with_reducible refine gate_dst (N := 1) rfl ?_); refine box_event ?hg (N := 1) ?hd (cs := #[.int .i64 a0_0, .int .i64 a0_1, .int .i64 a0_2, .int .i64 a0_3]) (t := 29) ?hr ?_; (case hd => rfl); (case hg => rfl); (case hr => first | (go_simp; done) | (go_simp; rfl)); intro gb226 hg w13 hbox hb; have BK226 := Am (hbox); have GW226 := Am ((by rw [hg]; exact (bz zB) : w.heap.size ≤ gb226)); have GE226 := Am ((by rw [hg]; exact (bz zB) : w.heap.size ≤ gb226)); replace HB := Am (bq zB hb); clear hb hbox hg; obtain ⟨hcz14_0, hcz14_1, hcz14_2, hcz14_3⟩ := kc4 (w := w13) BK226.out; have hfz14_0 := kf BK226.out) | ((with_reducible refine gate_callee (f := 59) rfl ?_); refine zC (some 5) rfl rfl Try.func59 rfl #[.int .i64 a0_0, .int .i64 1, .int .i64 3] rfl ?_; (with_reducible refine (impl_within.calls a0_0 1 3 true _ A2.out).mono ?_); rintro e w' ⟨rfl, ⟨nd, rfl⟩⟩; refine ⟨_, rfl, ?_⟩) | (go_at_call 59; (with_reducible refine (impl_within.calls a0_1 5 12 false _ A4.out).mono ?_); rintro e w' ⟨rfl, ⟨nd, rfl⟩⟩))
   go_ret
   exact ⟨zR, zG⟩
 ·replace c3 := Bool.eq_false_iff.mpr c3
  subst c3
  have H1 : (some false) = some r := by rw [if_neg (show ¬ (false = true) by decide)] at H; exact H
  clear H
  have H := H1
  clear H1
  obtain rfl := Option.some.inj H
  go_enter Try.func104, Try.ntmps104
  go_wp2_with (first | ((with_reducible refine gate_dst (N := 1) rfl ?_); refine box_event ?hg (N := 1) ?hd (cs := #[.int .i64 a0_0, .int .i64 a0_1, .int .i64 a0_2, .int .i64 a0_3]) (t := 29) ?hr ?_; (case hd => rfl); (case hg => rfl); (case hr => first | (go_simp; done) | (go_simp; rfl)); intro gb226 hg w15 hbox hb; have BK226 := Am (hbox); have GW226 := Am ((by rw [hg]; exact (bz zB) : w.heap.size ≤ gb226)); have GE226 := Am ((by rw [hg]; exact (bz zB) : w.heap.size ≤ gb226)); replace HB := Am (bq zB hb); clear hb hbox hg; obtain ⟨hcz16_0, hcz16_1, hcz16_2, hcz16_3⟩ := kc4 (w := w15) BK226.out; have hfz16_0 := kf BK226.out) | ((with_reducible refine gate_callee (f := 59) rfl ?_); refine zC (some 5) rfl rfl Try.func59 rfl #[.int .i64 a0_0, .int .i64 1, .int .i64 3] rfl ?_; (with_reducible refine (impl_within.calls a0_0 1 3 false _ A2.out).mono ?_); rintro e w' ⟨rfl, ⟨nd, rfl⟩⟩; refine ⟨_, rfl, ?_⟩))
  go_ret
  exact ⟨zR, zG⟩

/-! ### impl_Geo_partWords: function 60 -/
def impl_Geo_partWords.f (a0_0 : Int) (a0_1 : Int) (a0_2 : Int) (a0_3 : Int) : Option (Int) := some (wrap64 ((wrap64 (38 + (wrap64 (8 * a0_2)))) + (wrap64 (4 * a0_1))))
set_option maxHeartbeats 8000000 in
set_option maxRecDepth 100000 in
theorem impl_Geo_partWords.calls (a0_0 : Int) (a0_1 : Int) (a0_2 : Int) (a0_3 : Int) (r : Int) (w : World) (h : impl_Geo_partWords.f a0_0 a0_1 a0_2 a0_3 = some r) :
  Calls Try.prog 60 #[.agg #[.int .i64 a0_0, .int .i64 a0_1, .int .i64 a0_2, .int .i64 a0_3]] w fun e w' => e = .returned (.int .i64 r) ∧ Below w.heap.size w w' := by
 have hu29 := Try.underlying29
 have HB := Am (Below.refl w.heap.size w)
 have H : (some (wrap64 ((wrap64 (38 + (wrap64 (8 * a0_2)))) + (wrap64 (4 * a0_1))))) = some r := h
 clear h
 obtain rfl := Option.some.inj H
 go_enter Try.func60, Try.ntmps60
 go_wp2_with (first | ((with_reducible refine gate_dst (N := 1) rfl ?_); refine box_event ?hg (N := 1) ?hd (cs := #[.int .i64 a0_0, .int .i64 a0_1, .int .i64 a0_2, .int .i64 a0_3]) (t := 29) ?hr ?_; (case hd => rfl); (case hg => rfl); (case hr => first | (go_simp; done) | (go_simp; rfl)); intro gb231 hg w2 hbox hb; have BK231 := Am (hbox); have GW231 := Am ((by rw [hg]; exact (bz zB) : w.heap.size ≤ gb231)); have GE231 := Am ((by rw [hg]; exact (bz zB) : w.heap.size ≤ gb231)); replace HB := Am (bq zB hb); clear hb hbox hg; obtain ⟨hcz3_0, hcz3_1, hcz3_2, hcz3_3⟩ := kc4 (w := w2) BK231.out; have hfz3_0 := kf BK231.out))
 go_ret
 exact ⟨zR, zG⟩

/-! ### impl_Geo_lines: function 105 -/
def impl_Geo_lines.f (a0_0 : Int) (a0_1 : Int) (a0_2 : Int) (a0_3 : Int) : Option (Int) := (impl_Geo_partWords.f a0_0 a0_1 a0_2 a0_3).bind fun t233 => (some (wrap64 (Int.tdiv (wrap64 (a0_0 * t233)) 2)))
set_option maxHeartbeats 8000000 in
set_option maxRecDepth 100000 in
theorem impl_Geo_lines.calls (a0_0 : Int) (a0_1 : Int) (a0_2 : Int) (a0_3 : Int) (r : Int) (w : World) (h : impl_Geo_lines.f a0_0 a0_1 a0_2 a0_3 = some r) :
  Calls Try.prog 105 #[.agg #[.int .i64 a0_0, .int .i64 a0_1, .int .i64 a0_2, .int .i64 a0_3]] w fun e w' => e = .returned (.int .i64 r) ∧ Below w.heap.size w w' := by
 have hu29 := Try.underlying29
 have HB := Am (Below.refl w.heap.size w)
 have H : ((impl_Geo_partWords.f a0_0 a0_1 a0_2 a0_3).bind fun t233 => (some (wrap64 (Int.tdiv (wrap64 (a0_0 * t233)) 2)))) = some r := h
 clear h
 replace H := Option.bind_eq_some_iff.mp H
 obtain ⟨t233, A20, H⟩ := H
 replace H : (some (wrap64 (Int.tdiv (wrap64 (a0_0 * t233)) 2))) = some r := H
 have A2 := Am A20
 clear A20
 obtain rfl := Option.some.inj H
 go_enter Try.func105, Try.ntmps105
 try go_wp2_with (first | ((with_reducible refine gate_dst (N := 1) rfl ?_); refine box_event ?hg (N := 1) ?hd (cs := #[.int .i64 a0_0, .int .i64 a0_1, .int .i64 a0_2, .int .i64 a0_3]) (t := 29) ?hr ?_; (case hd => rfl); (case hg => rfl); (case hr => first | (go_simp; done) | (go_simp; rfl)); intro gb232 hg w3 hbox hb; have BK232 := Am (hbox); have GW232 := Am ((by rw [hg]; exact (bz zB) : w.heap.size ≤ gb232)); have GE232 := Am ((by rw [hg]; exact (bz zB) : w.heap.size ≤ gb232)); replace HB := Am (bq zB hb); clear hb hbox hg))
 have n0_ := Am (ke BK232.out)
 have n1_ := Am (be HB.out)
 clear BK232
 clear HB
 have BK232 := n0_
 have HB := n1_
 clear n0_ n1_
 refine start_ (n := 7) (S := fun w' => w'.cell? ⟨gb232, 0, none⟩ = some (.int .i64 a0_0) ∧ w'.cell? ⟨gb232, 1, none⟩ = some (.int .i64 a0_1) ∧ w'.cell? ⟨gb232, 2, none⟩ = some (.int .i64 a0_2) ∧ w'.cell? ⟨gb232, 3, none⟩ = some (.int .i64 a0_3)) (ds := []) #[false, false, false, false, false, false, false] (by kernel_rfl) rfl rfl ⟨(kc BK232.out 0).trans rfl, (kc BK232.out 1).trans rfl, (kc BK232.out 2).trans rfl, (kc BK232.out 3).trans rfl⟩ (fun hHeld => ?_)
 generalize w3.drew = w4 at BK232 HB hHeld ⊢
 refine yA 0 (some 3) rfl rfl ?_
 refine yT 1 (some 4) rfl rfl hHeld ?_
 refine yT 2 (some 5) rfl rfl hHeld ?_
 refine yO 3 (some 6) rfl rfl (fun K hK => ?_)
 refine goes_ Try.func60 (by kernel_rfl) rfl #[.agg #[.int .i64 a0_0, .int .i64 a0_1, .int .i64 a0_2, .int .i64 a0_3]] (by rfl) rfl rfl (by (try simp only [List.map_toArray, List.map_cons, List.map_nil]); first | done | rfl | (simp only [List.length_drop, List.length_take]; rfl)) ?_
 with_reducible refine (impl_Geo_partWords.calls a0_0 a0_1 a0_2 a0_3 t233 _ A2.out).mono ?_
 rintro e w5 ⟨rfl, hb⟩
 refine ⟨_, rfl, ?_⟩
 have n0_ := Am (zK BK232 hb)
 have n1_ := Am (bq zG hb)
 clear BK232
 clear HB
 have BK232 := n0_
 have HB := n1_
 clear n0_ n1_
 (try clear hb)
 (try clear hb2)
 (try clear hk)
 (try clear hi)
 refine hK.out _ _ ⟨(kc BK232.out 0).trans rfl, (kc BK232.out 1).trans rfl, (kc BK232.out 2).trans rfl, (kc BK232.out 3).trans rfl⟩ (fun hHeld => ?_)
 clear hK K
 refine zN (some 6) ?_
 refine yA 4 (some 7) rfl rfl ?_
 refine yA 5 (some 8) rfl rfl ?_
 refine yA 6 (some 2) rfl rfl ?_
 refine done_ (by kernel_rfl) ?_
 try go_wp2
 go_ret
 exact ⟨zR, zG⟩

/-! ### impl_isPlaced: function 58 -/
def impl_isPlaced.f (k : Nat) (a0_0 : ByteArray) (l0_1 : List (S155)) (a1_0 : Int) (a1_1 : Int) (a1_2 : Int) (a1_3 : Int) : Option (Bool) := (impl_MemoryOk.f k a0_0 l0_1).bind fun t236 => (if t236 = true then ((impl_GeoOk.f a1_0 a1_1 a1_2 a1_3).bind fun t237 => (if t237 = true then ((impl_Geo_lines.f a1_0 a1_1 a1_2 a1_3).bind fun t238 => (some (decide ((wrap64 ((a0_0.size : Int) / 16)) ≥ t238)))) else (some false))) else (some false))
theorem impl_isPlaced.mono : ∀ a0 a1 a2 a3 a4 a5 k, LeO (impl_isPlaced.f k a0 a1 a2 a3 a4 a5) (impl_isPlaced.f (k + 1) a0 a1 a2 a3 a4 a5) := by
 intro a0 a1 a2 a3 a4 a5 k
 unfold impl_isPlaced.f
 repeat' first
   | (with_reducible exact impl_MemoryOk.mono _ _ _)
   | (with_reducible exact LeO.refl _)
   | (with_reducible exact LeO.none _)
   | (with_reducible refine LeO.ite ?_ ?_)
   | (with_reducible refine LeO.bind ?_ (fun _ => ?_))
   | exact impl_MemoryOk.mono _ _ _
   | exact LeO.none _
   | refine LeO.ite ?_ ?_
   | refine LeO.bind ?_ (fun _ => ?_)
def impl_isPlaced.T1 : Bool × List (List Nat × List Nat) := (true, [([], []), ([0], [0]), ([1, 1], [1]), ([2], [2]), ([3, 2, 2], [2, 3]), ([2, 4], [2, 4]), ([5, 4], [5]), ([6], [6]), ([7, 6], [6, 7]), ([8, 6], [6, 8]), ([9, 6], [6, 9]), ([6], [6]), ([11, 6, 6], [6, 11]), ([10, 12, 6], [6, 10, 12]), ([6, 13], [6, 13]), ([14, 12, 0, 1, 2, 3, 4, 5, 6, 7, 8, 9, 10, 11, 12, 13, 14], [14])])
def impl_isPlaced.B1 : List Nat := [0, 1, 3, 7, 15, 31, 63, 127, 255, 511, 1023, 127, 2175, 8191, 16383, 32767]
theorem impl_isPlaced.tab1 : rtab .any (opsOf Try.f58 1) = impl_isPlaced.T1 := by kernel_rfl
theorem impl_isPlaced.bits1 : waitsOk impl_isPlaced.T1.2 impl_isPlaced.B1 = true := by kernel_rfl
set_option maxHeartbeats 8000000 in
set_option maxRecDepth 100000 in
theorem impl_isPlaced.calls (k : Nat) (a0_0 : ByteArray) (A0_1 : Option Addr) (c0_1 : Nat) (l0_1 : List (S155)) (a1_0 : Int) (a1_1 : Int) (a1_2 : Int) (a1_3 : Int) (r : Bool) (w : World) (hr0_1 : Kd.C k155 w A0_1 l0_1.length l0_1) (hc0_1 : l0_1.length ≤ c0_1) (h : impl_isPlaced.f k a0_0 l0_1 a1_0 a1_1 a1_2 a1_3 = some r) :
  Calls Try.prog 58 #[.agg #[.string a0_0, .slice A0_1 l0_1.length c0_1], .agg #[.int .i64 a1_0, .int .i64 a1_1, .int .i64 a1_2, .int .i64 a1_3]] w fun e w' => e = .returned (.bool r) ∧ Below w.heap.size w w' := by
 have hu33 := Try.underlying33
 have hu29 := Try.underlying29
 have HR0_1 := Am hr0_1
 have HC0_1 := Am hc0_1
 clear hr0_1 hc0_1
 have HB := Am (Below.refl w.heap.size w)
 have H : ((impl_MemoryOk.f k a0_0 l0_1).bind fun t236 => (if t236 = true then ((impl_GeoOk.f a1_0 a1_1 a1_2 a1_3).bind fun t237 => (if t237 = true then ((impl_Geo_lines.f a1_0 a1_1 a1_2 a1_3).bind fun t238 => (some (decide ((wrap64 ((a0_0.size : Int) / 16)) ≥ t238)))) else (some false))) else (some false))) = some r := h
 clear h
 replace H := Option.bind_eq_some_iff.mp H
 obtain ⟨t236, A30, H⟩ := H
 replace H : (if t236 = true then ((impl_GeoOk.f a1_0 a1_1 a1_2 a1_3).bind fun t237 => (if t237 = true then ((impl_Geo_lines.f a1_0 a1_1 a1_2 a1_3).bind fun t238 => (some (decide ((wrap64 ((a0_0.size : Int) / 16)) ≥ t238)))) else (some false))) else (some false)) = some r := H
 have A3 := Am A30
 clear A30
 by_cases c4 : t236 = true
 ·subst c4
  have H1 : ((impl_GeoOk.f a1_0 a1_1 a1_2 a1_3).bind fun t237 => (if t237 = true then ((impl_Geo_lines.f a1_0 a1_1 a1_2 a1_3).bind fun t238 => (some (decide ((wrap64 ((a0_0.size : Int) / 16)) ≥ t238)))) else (some false))) = some r := by rw [if_pos rfl] at H; exact H
  clear H
  have H := H1
  clear H1
  replace H := Option.bind_eq_some_iff.mp H
  obtain ⟨t237, A50, H⟩ := H
  replace H : (if t237 = true then ((impl_Geo_lines.f a1_0 a1_1 a1_2 a1_3).bind fun t238 => (some (decide ((wrap64 ((a0_0.size : Int) / 16)) ≥ t238)))) else (some false)) = some r := H
  have A5 := Am A50
  clear A50
  by_cases c6 : t237 = true
  ·subst c6
   have H1 : ((impl_Geo_lines.f a1_0 a1_1 a1_2 a1_3).bind fun t238 => (some (decide ((wrap64 ((a0_0.size : Int) / 16)) ≥ t238)))) = some r := by rw [if_pos rfl] at H; exact H
   clear H
   have H := H1
   clear H1
   replace H := Option.bind_eq_some_iff.mp H
   obtain ⟨t238, A70, H⟩ := H
   replace H : (some (decide ((wrap64 ((a0_0.size : Int) / 16)) ≥ t238))) = some r := H
   have A7 := Am A70
   clear A70
   obtain rfl := Option.some.inj H
   go_enter Try.func58, Try.ntmps58
   try go_wp2_with (first | ((with_reducible refine gate_dst (N := 2) rfl ?_); (try (refine gate_guard (by rfl) ?_; dsimp only)); refine box_event ?hg (N := 2) ?hd (cs := #[.string a0_0, .slice A0_1 l0_1.length c0_1]) (t := 33) ?hr ?_; (case hd => rfl); (case hg => rfl); (case hr => first | (go_simp; done) | (go_simp; rfl)); intro gb234 hg w8 hbox hb; have BK234 := Am (hbox); have GW234 := Am ((by rw [hg]; exact (bz zB) : w.heap.size ≤ gb234)); have GE234 := Am ((by rw [hg]; exact (bz zB) : w.heap.size ≤ gb234)); replace HB := Am (bq zB hb); clear hb hbox hg) | ((with_reducible refine gate_dst (N := 3) rfl ?_); (try (refine gate_guard (by rfl) ?_; dsimp only)); refine box_event ?hg (N := 3) ?hd (cs := #[.int .i64 a1_0, .int .i64 a1_1, .int .i64 a1_2, .int .i64 a1_3]) (t := 29) ?hr ?_; (case hd => rfl); (case hg => rfl); (case hr => first | (go_simp; done) | (go_simp; rfl)); intro gb235 hg w9 hbox hb; have n0_ := Am (zK BK234 hb); have n1_ := Am (bq zG hb); have n2_ := Am (hbox); have n3_ := Am ((by rw [hg]; exact (bz zG) : w.heap.size ≤ gb235)); have n4_ := Am ((by rw [hg]; exact (bz zG) : w.heap.size ≤ gb235)); have n5_ := Am ((by rw [hg]; exact Nat.ne_of_lt (zL BK234) : gb234 ≠ gb235)); have n6_ := Am ((by rw [hg]; exact Nat.ne_of_gt (zL BK234) : gb235 ≠ gb234)); clear BK234; clear HB; have BK234 := n0_; have HB := n1_; have BK235 := n2_; have GW235 := n3_; have GE235 := n4_; have NB234_235 := n5_; have NB235_234 := n6_; clear n0_ n1_ n2_ n3_ n4_ n5_ n6_; clear hb hbox hg))
   have n0_ := Am (ke BK234.out)
   have n1_ := Am (ke BK235.out)
   have n2_ := Am (be HB.out)
   clear BK234
   clear BK235
   clear HB
   have BK234 := n0_
   have BK235 := n1_
   have HB := n2_
   clear n0_ n1_ n2_
   refine start_ (n := 16) (S := fun w' => w'.cell? ⟨gb234, 0, none⟩ = some (.string a0_0) ∧ w'.cell? ⟨gb234, 1, none⟩ = some (.slice A0_1 l0_1.length c0_1) ∧ w'.cell? ⟨gb235, 0, none⟩ = some (.int .i64 a1_0) ∧ w'.cell? ⟨gb235, 1, none⟩ = some (.int .i64 a1_1) ∧ w'.cell? ⟨gb235, 2, none⟩ = some (.int .i64 a1_2) ∧ w'.cell? ⟨gb235, 3, none⟩ = some (.int .i64 a1_3)) (ds := []) #[false, false, false, false, false, false, false, false, false, false, false, false, false, false, false, false] (by kernel_rfl) rfl rfl ⟨(kc BK234.out 0).trans rfl, (kc BK234.out 1).trans rfl, (kc BK235.out 0).trans rfl, (kc BK235.out 1).trans rfl, (kc BK235.out 2).trans rfl, (kc BK235.out 3).trans rfl⟩ (fun hHeld => ?_); refine with_tabW impl_isPlaced.tab1 impl_isPlaced.bits1 (fun HT_ HW_ => ?_)
   generalize w9.drew = w10 at BK234 BK235 HB hHeld ⊢
   refine zT 0 (some 5) HT_.out HW_.out rfl rfl hHeld ?_
   refine zO 1 (some 6) HT_.out rfl rfl (fun K hK => ?_)
   refine goes_ Try.func103 (by kernel_rfl) rfl #[.agg #[.string a0_0, .slice A0_1 l0_1.length c0_1]] (by rfl) rfl rfl (by (try simp only [List.map_toArray, List.map_cons, List.map_nil]); first | done | rfl | (simp only [List.length_drop, List.length_take]; rfl)) ?_
   with_reducible refine (impl_MemoryOk.calls k a0_0 _ _ l0_1 true _ ?side1 ?side2 A3.out).mono ?_
   (case side1 => repeat (first | exact (cb HR0_1.out HB.out) | (with_reducible first | refine ca ?_ _ | refine cn ?_ _ | refine ce ?_)))
   (case side2 => exact HC0_1.out)
   rintro e w11 ⟨rfl, hb⟩
   refine ⟨_, rfl, ?_⟩
   have n0_ := Am (zK BK234 hb)
   have n1_ := Am (zK BK235 hb)
   have n2_ := Am (bq zG hb)
   clear BK234
   clear BK235
   clear HB
   have BK234 := n0_
   have BK235 := n1_
   have HB := n2_
   clear n0_ n1_ n2_
   (try clear hb)
   (try clear hb2)
   (try clear hk)
   (try clear hi)
   refine hK.out _ _ ⟨(kc BK234.out 0).trans rfl, (kc BK234.out 1).trans rfl, (kc BK235.out 0).trans rfl, (kc BK235.out 1).trans rfl, (kc BK235.out 2).trans rfl, (kc BK235.out 3).trans rfl⟩ (fun hHeld => ?_)
   clear hK K
   refine zN (some 6) ?_
   refine zA 2 (some 7) HT_.out rfl rfl ?_
   refine zT 3 (some 8) HT_.out HW_.out rfl rfl hHeld ?_
   refine zO 4 (some 9) HT_.out rfl rfl (fun K hK => ?_)
   refine goes_ Try.func104 (by kernel_rfl) rfl #[.agg #[.int .i64 a1_0, .int .i64 a1_1, .int .i64 a1_2, .int .i64 a1_3]] (by rfl) rfl rfl (by (try simp only [List.map_toArray, List.map_cons, List.map_nil]); first | done | rfl | (simp only [List.length_drop, List.length_take]; rfl)) ?_
   with_reducible refine (impl_GeoOk.calls a1_0 a1_1 a1_2 a1_3 true _ A5.out).mono ?_
   rintro e w12 ⟨rfl, hb⟩
   refine ⟨_, rfl, ?_⟩
   have n0_ := Am (zK BK234 hb)
   have n1_ := Am (zK BK235 hb)
   have n2_ := Am (bq zG hb)
   clear BK234
   clear BK235
   clear HB
   have BK234 := n0_
   have BK235 := n1_
   have HB := n2_
   clear n0_ n1_ n2_
   (try clear hb)
   (try clear hb2)
   (try clear hk)
   (try clear hi)
   refine hK.out _ _ ⟨(kc BK234.out 0).trans rfl, (kc BK234.out 1).trans rfl, (kc BK235.out 0).trans rfl, (kc BK235.out 1).trans rfl, (kc BK235.out 2).trans rfl, (kc BK235.out 3).trans rfl⟩ (fun hHeld => ?_)
   clear hK K
   refine zN (some 9) ?_
   refine zA 5 (some 10) HT_.out rfl rfl ?_
   refine zA 6 (some 11) HT_.out rfl rfl ?_
   refine zA 7 (some 12) HT_.out rfl rfl ?_
   refine zT 8 (some 13) HT_.out HW_.out rfl rfl hHeld ?_
   refine zA 9 (some 14) HT_.out rfl rfl ?_
   refine zA 10 (some 15) HT_.out rfl rfl ?_
   refine zT 11 (some 16) HT_.out HW_.out rfl rfl hHeld ?_
   refine zO 12 (some 17) HT_.out rfl rfl (fun K hK => ?_)
   refine goes_ Try.func105 (by kernel_rfl) rfl #[.agg #[.int .i64 a1_0, .int .i64 a1_1, .int .i64 a1_2, .int .i64 a1_3]] (by rfl) rfl rfl (by (try simp only [List.map_toArray, List.map_cons, List.map_nil]); first | done | rfl | (simp only [List.length_drop, List.length_take]; rfl)) ?_
   with_reducible refine (impl_Geo_lines.calls a1_0 a1_1 a1_2 a1_3 t238 _ A7.out).mono ?_
   rintro e w13 ⟨rfl, hb⟩
   refine ⟨_, rfl, ?_⟩
   have n0_ := Am (zK BK234 hb)
   have n1_ := Am (zK BK235 hb)
   have n2_ := Am (bq zG hb)
   clear BK234
   clear BK235
   clear HB
   have BK234 := n0_
   have BK235 := n1_
   have HB := n2_
   clear n0_ n1_ n2_
   (try clear hb)
   (try clear hb2)
   (try clear hk)
   (try clear hi)
   refine hK.out _ _ ⟨(kc BK234.out 0).trans rfl, (kc BK234.out 1).trans rfl, (kc BK235.out 0).trans rfl, (kc BK235.out 1).trans rfl, (kc BK235.out 2).trans rfl, (kc BK235.out 3).trans rfl⟩ (fun hHeld => ?_)
   clear hK K
   refine zN (some 17) ?_
   refine zA 13 (some 18) HT_.out rfl rfl ?_
   refine zA 14 (some 19) HT_.out rfl rfl ?_
   refine zA 15 (some 4) HT_.out rfl rfl ?_
   refine done_ (done_of HT_.out (by kernel_rfl)) ?_
   try go_wp2
   go_ret
   exact ⟨zR, zG⟩
  ·replace c6 := Bool.eq_false_iff.mpr c6
   subst c6
   have H1 : (some false) = some r := by rw [if_neg (show ¬ (false = true) by decide)] at H; exact H
   clear H
   have H := H1
   clear H1
   obtain rfl := Option.some.inj H
   go_enter Try.func58, Try.ntmps58
   try go_wp2_with (first | ((with_reducible refine gate_dst (N := 2) rfl ?_); (try (refine gate_guard (by rfl) ?_; dsimp only)); refine box_event ?hg (N := 2) ?hd (cs := #[.string a0_0, .slice A0_1 l0_1.length c0_1]) (t := 33) ?hr ?_; (case hd => rfl); (case hg => rfl); (case hr => first | (go_simp; done) | (go_simp; rfl)); intro gb234 hg w14 hbox hb; have BK234 := Am (hbox); have GW234 := Am ((by rw [hg]; exact (bz zB) : w.heap.size ≤ gb234)); have GE234 := Am ((by rw [hg]; exact (bz zB) : w.heap.size ≤ gb234)); replace HB := Am (bq zB hb); clear hb hbox hg) | ((with_reducible refine gate_dst (N := 3) rfl ?_); (try (refine gate_guard (by rfl) ?_; dsimp only)); refine box_event ?hg (N := 3) ?hd (cs := #[.int .i64 a1_0, .int .i64 a1_1, .int .i64 a1_2, .int .i64 a1_3]) (t := 29) ?hr ?_; (case hd => rfl); (case hg => rfl); (case hr => first | (go_simp; done) | (go_simp; rfl)); intro gb235 hg w15 hbox hb; have n0_ := Am (zK BK234 hb); have n1_ := Am (bq zG hb); have n2_ := Am (hbox); have n3_ := Am ((by rw [hg]; exact (bz zG) : w.heap.size ≤ gb235)); have n4_ := Am ((by rw [hg]; exact (bz zG) : w.heap.size ≤ gb235)); have n5_ := Am ((by rw [hg]; exact Nat.ne_of_lt (zL BK234) : gb234 ≠ gb235)); have n6_ := Am ((by rw [hg]; exact Nat.ne_of_gt (zL BK234) : gb235 ≠ gb234)); clear BK234; clear HB; have BK234 := n0_; have HB := n1_; have BK235 := n2_; have GW235 := n3_; have GE235 := n4_; have NB234_235 := n5_; have NB235_234 := n6_; clear n0_ n1_ n2_ n3_ n4_ n5_ n6_; clear hb hbox hg))
   have n0_ := Am (ke BK234.out)
   have n1_ := Am (ke BK235.out)
   have n2_ := Am (be HB.out)
   clear BK234
   clear BK235
   clear HB
   have BK234 := n0_
   have BK235 := n1_
   have HB := n2_
   clear n0_ n1_ n2_
   refine start_ (n := 16) (S := fun w' => w'.cell? ⟨gb234, 0, none⟩ = some (.string a0_0) ∧ w'.cell? ⟨gb234, 1, none⟩ = some (.slice A0_1 l0_1.length c0_1) ∧ w'.cell? ⟨gb235, 0, none⟩ = some (.int .i64 a1_0) ∧ w'.cell? ⟨gb235, 1, none⟩ = some (.int .i64 a1_1) ∧ w'.cell? ⟨gb235, 2, none⟩ = some (.int .i64 a1_2) ∧ w'.cell? ⟨gb235, 3, none⟩ = some (.int .i64 a1_3)) (ds := []) #[false, false, false, false, false, false, false, false, false, false, false, false, false, false, false, false] (by kernel_rfl) rfl rfl ⟨(kc BK234.out 0).trans rfl, (kc BK234.out 1).trans rfl, (kc BK235.out 0).trans rfl, (kc BK235.out 1).trans rfl, (kc BK235.out 2).trans rfl, (kc BK235.out 3).trans rfl⟩ (fun hHeld => ?_); refine with_tabW impl_isPlaced.tab1 impl_isPlaced.bits1 (fun HT_ HW_ => ?_)
   generalize w15.drew = w16 at BK234 BK235 HB hHeld ⊢
   refine zT 0 (some 5) HT_.out HW_.out rfl rfl hHeld ?_
   refine zO 1 (some 6) HT_.out rfl rfl (fun K hK => ?_)
   refine goes_ Try.func103 (by kernel_rfl) rfl #[.agg #[.string a0_0, .slice A0_1 l0_1.length c0_1]] (by rfl) rfl rfl (by (try simp only [List.map_toArray, List.map_cons, List.map_nil]); first | done | rfl | (simp only [List.length_drop, List.length_take]; rfl)) ?_
   with_reducible refine (impl_MemoryOk.calls k a0_0 _ _ l0_1 true _ ?side1 ?side2 A3.out).mono ?_
   (case side1 => repeat (first | exact (cb HR0_1.out HB.out) | (with_reducible first | refine ca ?_ _ | refine cn ?_ _ | refine ce ?_)))
   (case side2 => exact HC0_1.out)
   rintro e w17 ⟨rfl, hb⟩
   refine ⟨_, rfl, ?_⟩
   have n0_ := Am (zK BK234 hb)
   have n1_ := Am (zK BK235 hb)
   have n2_ := Am (bq zG hb)
   clear BK234
   clear BK235
   clear HB
   have BK234 := n0_
   have BK235 := n1_
   have HB := n2_
   clear n0_ n1_ n2_
   (try clear hb)
   (try clear hb2)
   (try clear hk)
   (try clear hi)
   refine hK.out _ _ ⟨(kc BK234.out 0).trans rfl, (kc BK234.out 1).trans rfl, (kc BK235.out 0).trans rfl, (kc BK235.out 1).trans rfl, (kc BK235.out 2).trans rfl, (kc BK235.out 3).trans rfl⟩ (fun hHeld => ?_)
   clear hK K
   refine zN (some 6) ?_
   refine zA 2 (some 7) HT_.out rfl rfl ?_
   refine zT 3 (some 8) HT_.out HW_.out rfl rfl hHeld ?_
   refine zO 4 (some 9) HT_.out rfl rfl (fun K hK => ?_)
   refine goes_ Try.func104 (by kernel_rfl) rfl #[.agg #[.int .i64 a1_0, .int .i64 a1_1, .int .i64 a1_2, .int .i64 a1_3]] (by rfl) rfl rfl (by (try simp only [List.map_toArray, List.map_cons, List.map_nil]); first | done | rfl | (simp only [List.length_drop, List.length_take]; rfl)) ?_
   with_reducible refine (impl_GeoOk.calls a1_0 a1_1 a1_2 a1_3 false _ A5.out).mono ?_
   rintro e w18 ⟨rfl, hb⟩
   refine ⟨_, rfl, ?_⟩
   have n0_ := Am (zK BK234 hb)
   have n1_ := Am (zK BK235 hb)
   have n2_ := Am (bq zG hb)
   clear BK234
   clear BK235
   clear HB
   have BK234 := n0_
   have BK235 := n1_
   have HB := n2_
   clear n0_ n1_ n2_
   (try clear hb)
   (try clear hb2)
   (try clear hk)
   (try clear hi)
   refine hK.out _ _ ⟨(kc BK234.out 0).trans rfl, (kc BK234.out 1).trans rfl, (kc BK235.out 0).trans rfl, (kc BK235.out 1).trans rfl, (kc BK235.out 2).trans rfl, (kc BK235.out 3).trans rfl⟩ (fun hHeld => ?_)
   clear hK K
   refine zN (some 9) ?_
   refine zA 5 (some 10) HT_.out rfl rfl ?_
   refine zA 6 (some 11) HT_.out rfl rfl ?_
   refine zI 7 (some 12) HT_.out rfl rfl ?_
   refine zI 8 (some 13) HT_.out rfl rfl ?_
   refine zI 9 (some 14) HT_.out rfl rfl ?_
   refine zI 10 (some 15) HT_.out rfl rfl ?_
   refine zI 11 (some 16) HT_.out rfl rfl ?_
   refine zI 12 (some 17) HT_.out rfl rfl ?_
   refine zI 13 (some 18) HT_.out rfl rfl ?_
   refine zA 14 (some 19) HT_.out rfl rfl ?_
   refine zA 15 (some 4) HT_.out rfl rfl ?_
   refine done_ (done_of HT_.out (by kernel_rfl)) ?_
   try go_wp2
   go_ret
   exact ⟨zR, zG⟩
 ·replace c4 := Bool.eq_false_iff.mpr c4
  subst c4
  have H1 : (some false) = some r := by rw [if_neg (show ¬ (false = true) by decide)] at H; exact H
  clear H
  have H := H1
  clear H1
  obtain rfl := Option.some.inj H
  go_enter Try.func58, Try.ntmps58
  try go_wp2_with (first | ((with_reducible refine gate_dst (N := 2) rfl ?_); (try (refine gate_guard (by rfl) ?_; dsimp only)); refine box_event ?hg (N := 2) ?hd (cs := #[.string a0_0, .slice A0_1 l0_1.length c0_1]) (t := 33) ?hr ?_; (case hd => rfl); (case hg => rfl); (case hr => first | (go_simp; done) | (go_simp; rfl)); intro gb234 hg w19 hbox hb; have BK234 := Am (hbox); have GW234 := Am ((by rw [hg]; exact (bz zB) : w.heap.size ≤ gb234)); have GE234 := Am ((by rw [hg]; exact (bz zB) : w.heap.size ≤ gb234)); replace HB := Am (bq zB hb); clear hb hbox hg) | ((with_reducible refine gate_dst (N := 3) rfl ?_); (try (refine gate_guard (by rfl) ?_; dsimp only)); refine box_event ?hg (N := 3) ?hd (cs := #[.int .i64 a1_0, .int .i64 a1_1, .int .i64 a1_2, .int .i64 a1_3]) (t := 29) ?hr ?_; (case hd => rfl); (case hg => rfl); (case hr => first | (go_simp; done) | (go_simp; rfl)); intro gb235 hg w20 hbox hb; have n0_ := Am (zK BK234 hb); have n1_ := Am (bq zG hb); have n2_ := Am (hbox); have n3_ := Am ((by rw [hg]; exact (bz zG) : w.heap.size ≤ gb235)); have n4_ := Am ((by rw [hg]; exact (bz zG) : w.heap.size ≤ gb235)); have n5_ := Am ((by rw [hg]; exact Nat.ne_of_lt (zL BK234) : gb234 ≠ gb235)); have n6_ := Am ((by rw [hg]; exact Nat.ne_of_gt (zL BK234) : gb235 ≠ gb234)); clear BK234; clear HB; have BK234 := n0_; have HB := n1_; have BK235 := n2_; have GW235 := n3_; have GE235 := n4_; have NB234_235 := n5_; have NB235_234 := n6_; clear n0_ n1_ n2_ n3_ n4_ n5_ n6_; clear hb hbox hg))
  have n0_ := Am (ke BK234.out)
  have n1_ := Am (ke BK235.out)
  have n2_ := Am (be HB.out)
  clear BK234
  clear BK235
  clear HB
  have BK234 := n0_
  have BK235 := n1_
  have HB := n2_
  clear n0_ n1_ n2_
  refine start_ (n := 16) (S := fun w' => w'.cell? ⟨gb234, 0, none⟩ = some (.string a0_0) ∧ w'.cell? ⟨gb234, 1, none⟩ = some (.slice A0_1 l0_1.length c0_1)) (ds := []) #[false, false, false, false, false, false, false, false, false, false, false, false, false, false, false, false] (by kernel_rfl) rfl rfl ⟨(kc BK234.out 0).trans rfl, (kc BK234.out 1).trans rfl⟩ (fun hHeld => ?_); refine with_tabW impl_isPlaced.tab1 impl_isPlaced.bits1 (fun HT_ HW_ => ?_)
  generalize w20.drew = w21 at BK234 BK235 HB hHeld ⊢
  refine zT 0 (some 5) HT_.out HW_.out rfl rfl hHeld ?_
  refine zO 1 (some 6) HT_.out rfl rfl (fun K hK => ?_)
  refine goes_ Try.func103 (by kernel_rfl) rfl #[.agg #[.string a0_0, .slice A0_1 l0_1.length c0_1]] (by rfl) rfl rfl (by (try simp only [List.map_toArray, List.map_cons, List.map_nil]); first | done | rfl | (simp only [List.length_drop, List.length_take]; rfl)) ?_
  with_reducible refine (impl_MemoryOk.calls k a0_0 _ _ l0_1 false _ ?side1 ?side2 A3.out).mono ?_
  (case side1 => repeat (first | exact (cb HR0_1.out HB.out) | (with_reducible first | refine ca ?_ _ | refine cn ?_ _ | refine ce ?_)))
  (case side2 => exact HC0_1.out)
  rintro e w22 ⟨rfl, hb⟩
  refine ⟨_, rfl, ?_⟩
  have n0_ := Am (zK BK234 hb)
  have n1_ := Am (zK BK235 hb)
  have n2_ := Am (bq zG hb)
  clear BK234
  clear BK235
  clear HB
  have BK234 := n0_
  have BK235 := n1_
  have HB := n2_
  clear n0_ n1_ n2_
  (try clear hb)
  (try clear hb2)
  (try clear hk)
  (try clear hi)
  refine hK.out _ _ ⟨(kc BK234.out 0).trans rfl, (kc BK234.out 1).trans rfl⟩ (fun hHeld => ?_)
  clear hK K
  refine zN (some 6) ?_
  refine zA 2 (some 7) HT_.out rfl rfl ?_
  refine zI 3 (some 8) HT_.out rfl rfl ?_
  refine zI 4 (some 9) HT_.out rfl rfl ?_
  refine zA 5 (some 10) HT_.out rfl rfl ?_
  refine zA 6 (some 11) HT_.out rfl rfl ?_
  refine zI 7 (some 12) HT_.out rfl rfl ?_
  refine zI 8 (some 13) HT_.out rfl rfl ?_
  refine zI 9 (some 14) HT_.out rfl rfl ?_
  refine zI 10 (some 15) HT_.out rfl rfl ?_
  refine zI 11 (some 16) HT_.out rfl rfl ?_
  refine zI 12 (some 17) HT_.out rfl rfl ?_
  refine zI 13 (some 18) HT_.out rfl rfl ?_
  refine zA 14 (some 19) HT_.out rfl rfl ?_
  refine zA 15 (some 4) HT_.out rfl rfl ?_
  refine done_ (done_of HT_.out (by kernel_rfl)) ?_
  try go_wp2
  go_ret
  exact ⟨zR, zG⟩

/-! ### cmp_isNaN_int: function 167 -/
def cmp_isNaN_int.f (a0 : Int) : Option (Bool) := some (a0 != a0)
set_option maxHeartbeats 8000000 in
set_option maxRecDepth 100000 in
theorem cmp_isNaN_int.calls (a0 : Int) (r : Bool) (w : World) (h : cmp_isNaN_int.f a0 = some r) :
  Calls Try.prog 167 #[.int .i64 a0] w fun e w' => e = .returned (.bool r) ∧ Drawn0 w w' := by
 have H : (some (a0 != a0)) = some r := h
 clear h
 obtain rfl := Option.some.inj H
 go_enter Try.func167, Try.ntmps167
 go_wp2
 go_ret
 exact ⟨by first | rfl | (simp; done) | (simp [*]; done), by repeat (first | exact Drawn0.refl _ | apply Drawn0.step)⟩

/-! ### cmp_Compare_int: function 162 -/
def cmp_Compare_int.f (a0 : Int) (a1 : Int) : Option (Int) := (cmp_isNaN_int.f a0).bind fun t239 => ((cmp_isNaN_int.f a1).bind fun t240 => (if t239 = true then (if t240 = true then (some 0) else (some (-1))) else (if t240 = true then (some 1) else (if a0 < a1 then (some (-1)) else (if a0 > a1 then (some 1) else (some 0))))))
set_option maxHeartbeats 8000000 in
set_option maxRecDepth 100000 in
theorem cmp_Compare_int.calls (a0 : Int) (a1 : Int) (r : Int) (w : World) (h : cmp_Compare_int.f a0 a1 = some r) :
  Calls Try.prog 162 #[.int .i64 a0, .int .i64 a1] w fun e w' => e = .returned (.int .i64 r) ∧ Drawn0 w w' := by
 have H : ((cmp_isNaN_int.f a0).bind fun t239 => ((cmp_isNaN_int.f a1).bind fun t240 => (if t239 = true then (if t240 = true then (some 0) else (some (-1))) else (if t240 = true then (some 1) else (if a0 < a1 then (some (-1)) else (if a0 > a1 then (some 1) else (some 0))))))) = some r := h
 clear h
 replace H := Option.bind_eq_some_iff.mp H
 obtain ⟨t239, A30, H⟩ := H
 replace H : ((cmp_isNaN_int.f a1).bind fun t240 => (if t239 = true then (if t240 = true then (some 0) else (some (-1))) else (if t240 = true then (some 1) else (if a0 < a1 then (some (-1)) else (if a0 > a1 then (some 1) else (some 0)))))) = some r := H
 have A3 := Am A30
 clear A30
 replace H := Option.bind_eq_some_iff.mp H
 obtain ⟨t240, A40, H⟩ := H
 replace H : (if t239 = true then (if t240 = true then (some 0) else (some (-1))) else (if t240 = true then (some 1) else (if a0 < a1 then (some (-1)) else (if a0 > a1 then (some 1) else (some 0))))) = some r := H
 have A4 := Am A40
 clear A40
 by_cases c5 : t239 = true
 ·subst c5
  have H1 : (if t240 = true then (some 0) else (some (-1))) = some r := by rw [if_pos rfl] at H; exact H
  clear H
  have H := H1
  clear H1
  by_cases c6 : t240 = true
  ·subst c6
   have H1 : (some 0) = some r := by rw [if_pos rfl] at H; exact H
   clear H
   have H := H1
   clear H1
   obtain rfl := Option.some.inj H
   go_enter Try.func162, Try.ntmps162
   go_wp2_with (first | ((with_reducible refine gate_callee (f := 167) rfl ?_); refine zC (some 8) rfl rfl Try.func167 rfl #[.int .i64 a0] rfl ?_; (with_reducible refine (cmp_isNaN_int.calls a0 true _ A3.out).mono ?_); rintro e w' ⟨rfl, ⟨nd, rfl⟩⟩; refine ⟨_, rfl, ?_⟩) | ((with_reducible refine gate_callee (f := 167) rfl ?_); refine zC (some 10) rfl rfl Try.func167 rfl #[.int .i64 a1] rfl ?_; (with_reducible refine (cmp_isNaN_int.calls a1 true _ A4.out).mono ?_); rintro e w' ⟨rfl, ⟨nd, rfl⟩⟩; refine ⟨_, rfl, ?_⟩))
   go_ret
   exact ⟨by first | rfl | (simp; done) | (simp [*]; done), by repeat (first | exact Drawn0.refl _ | apply Drawn0.step)⟩
  ·replace c6 := Bool.eq_false_iff.mpr c6
   subst c6
   have H1 : (some (-1)) = some r := by rw [if_neg (show ¬ (false = true) by decide)] at H; exact H
   clear H
   have H := H1
   clear H1
   obtain rfl := Option.some.inj H
   go_enter Try.func162, Try.ntmps162
   go_wp2_with (first | ((with_reducible refine gate_callee (f := 167) rfl ?_); refine zC (some 8) rfl rfl Try.func167 rfl #[.int .i64 a0] rfl ?_; (with_reducible refine (cmp_isNaN_int.calls a0 true _ A3.out).mono ?_); rintro e w' ⟨rfl, ⟨nd, rfl⟩⟩; refine ⟨_, rfl, ?_⟩) | ((with_reducible refine gate_callee (f := 167) rfl ?_); refine zC (some 10) rfl rfl Try.func167 rfl #[.int .i64 a1] rfl ?_; (with_reducible refine (cmp_isNaN_int.calls a1 false _ A4.out).mono ?_); rintro e w' ⟨rfl, ⟨nd, rfl⟩⟩; refine ⟨_, rfl, ?_⟩))
   go_ret
   exact ⟨by first | rfl | (simp; done) | (simp [*]; done), by repeat (first | exact Drawn0.refl _ | apply Drawn0.step)⟩
 ·replace c5 := Bool.eq_false_iff.mpr c5
  subst c5
  have H1 : (if t240 = true then (some 1) else (if a0 < a1 then (some (-1)) else (if a0 > a1 then (some 1) else (some 0)))) = some r := by rw [if_neg (show ¬ (false = true) by decide)] at H; exact H
  clear H
  have H := H1
  clear H1
  by_cases c7 : t240 = true
  ·subst c7
   have H1 : (some 1) = some r := by rw [if_pos rfl] at H; exact H
   clear H
   have H := H1
   clear H1
   obtain rfl := Option.some.inj H
   go_enter Try.func162, Try.ntmps162
   go_wp2_with (first | ((with_reducible refine gate_callee (f := 167) rfl ?_); refine zC (some 8) rfl rfl Try.func167 rfl #[.int .i64 a0] rfl ?_; (with_reducible refine (cmp_isNaN_int.calls a0 false _ A3.out).mono ?_); rintro e w' ⟨rfl, ⟨nd, rfl⟩⟩; refine ⟨_, rfl, ?_⟩) | ((with_reducible refine gate_callee (f := 167) rfl ?_); refine zC (some 10) rfl rfl Try.func167 rfl #[.int .i64 a1] rfl ?_; (with_reducible refine (cmp_isNaN_int.calls a1 true _ A4.out).mono ?_); rintro e w' ⟨rfl, ⟨nd, rfl⟩⟩; refine ⟨_, rfl, ?_⟩))
   go_ret
   exact ⟨by first | rfl | (simp; done) | (simp [*]; done), by repeat (first | exact Drawn0.refl _ | apply Drawn0.step)⟩
  ·replace c7 := Bool.eq_false_iff.mpr c7
   subst c7
   have H1 : (if a0 < a1 then (some (-1)) else (if a0 > a1 then (some 1) else (some 0))) = some r := by rw [if_neg (show ¬ (false = true) by decide)] at H; exact H
   clear H
   have H := H1
   clear H1
   by_cases c8 : a0 < a1
   ·rw [if_pos c8] at H
    have c8b0 : decide (a0 < a1) = true := decide_eq_true c8
    clear c8
    obtain rfl := Option.some.inj H
    go_enter Try.func162, Try.ntmps162
    go_wp2_with (first | ((with_reducible refine gate_callee (f := 167) rfl ?_); refine zC (some 8) rfl rfl Try.func167 rfl #[.int .i64 a0] rfl ?_; (with_reducible refine (cmp_isNaN_int.calls a0 false _ A3.out).mono ?_); rintro e w' ⟨rfl, ⟨nd, rfl⟩⟩; refine ⟨_, rfl, ?_⟩) | ((with_reducible refine gate_callee (f := 167) rfl ?_); refine zC (some 10) rfl rfl Try.func167 rfl #[.int .i64 a1] rfl ?_; (with_reducible refine (cmp_isNaN_int.calls a1 false _ A4.out).mono ?_); rintro e w' ⟨rfl, ⟨nd, rfl⟩⟩; refine ⟨_, rfl, ?_⟩))
    go_ret
    exact ⟨by first | rfl | (simp; done) | (simp [*]; done), by repeat (first | exact Drawn0.refl _ | apply Drawn0.step)⟩
   ·rw [if_neg c8] at H
    have c8b0 : decide (a0 < a1) = false := decide_eq_false c8
    clear c8
    by_cases c9 : a0 > a1
    ·rw [if_pos c9] at H
     have c9b0 : decide (a1 < a0) = true := decide_eq_true c9
     clear c9
     obtain rfl := Option.some.inj H
     go_enter Try.func162, Try.ntmps162
     go_wp2_with (first | ((with_reducible refine gate_callee (f := 167) rfl ?_); refine zC (some 8) rfl rfl Try.func167 rfl #[.int .i64 a0] rfl ?_; (with_reducible refine (cmp_isNaN_int.calls a0 false _ A3.out).mono ?_); rintro e w' ⟨rfl, ⟨nd, rfl⟩⟩; refine ⟨_, rfl, ?_⟩) | ((with_reducible refine gate_callee (f := 167) rfl ?_); refine zC (some 10) rfl rfl Try.func167 rfl #[.int .i64 a1] rfl ?_; (with_reducible refine (cmp_isNaN_int.calls a1 false _ A4.out).mono ?_); rintro e w' ⟨rfl, ⟨nd, rfl⟩⟩; refine ⟨_, rfl, ?_⟩))
     go_ret
     exact ⟨by first | rfl | (simp; done) | (simp [*]; done), by repeat (first | exact Drawn0.refl _ | apply Drawn0.step)⟩
    ·rw [if_neg c9] at H
     have c9b0 : decide (a1 < a0) = false := decide_eq_false c9
     clear c9
     obtain rfl := Option.some.inj H
     go_enter Try.func162, Try.ntmps162
     go_wp2_with (first | ((with_reducible refine gate_callee (f := 167) rfl ?_); refine zC (some 8) rfl rfl Try.func167 rfl #[.int .i64 a0] rfl ?_; (with_reducible refine (cmp_isNaN_int.calls a0 false _ A3.out).mono ?_); rintro e w' ⟨rfl, ⟨nd, rfl⟩⟩; refine ⟨_, rfl, ?_⟩) | ((with_reducible refine gate_callee (f := 167) rfl ?_); refine zC (some 10) rfl rfl Try.func167 rfl #[.int .i64 a1] rfl ?_; (with_reducible refine (cmp_isNaN_int.calls a1 false _ A4.out).mono ?_); rintro e w' ⟨rfl, ⟨nd, rfl⟩⟩; refine ⟨_, rfl, ?_⟩))
     go_ret
     exact ⟨by first | rfl | (simp; done) | (simp [*]; done), by repeat (first | exact Drawn0.refl _ | apply Drawn0.step)⟩

/-! ### impl_Memory_findCell_1: function 161 -/
def impl_Memory_findCell_1.f (a0_0 : Int) (a0_1 : ByteArray) (a0_2 : Bool) (a1 : Int) : Option (Int) := (cmp_Compare_int.f a0_0 a1).bind fun t242 => (some t242)
set_option maxHeartbeats 8000000 in
set_option maxRecDepth 100000 in
theorem impl_Memory_findCell_1.calls (a0_0 : Int) (a0_1 : ByteArray) (a0_2 : Bool) (a1 : Int) (r : Int) (w : World) (h : impl_Memory_findCell_1.f a0_0 a0_1 a0_2 a1 = some r) :
  Calls Try.prog 161 #[.agg #[.int .i64 a0_0, .string a0_1, .bool a0_2], .int .i64 a1] w fun e w' => e = .returned (.int .i64 r) ∧ Below w.heap.size w w' := by
 have hu155 := Try.underlying155
 have HB := Am (Below.refl w.heap.size w)
 have H : ((cmp_Compare_int.f a0_0 a1).bind fun t242 => (some t242)) = some r := h
 clear h
 replace H := Option.bind_eq_some_iff.mp H
 obtain ⟨t242, A30, H⟩ := H
 replace H : (some t242) = some r := H
 have A3 := Am A30
 clear A30
 obtain rfl := Option.some.inj H
 go_enter Try.func161, Try.ntmps161
 go_wp2_with (first | ((with_reducible refine gate_dst (N := 2) rfl ?_); refine box_event ?hg (N := 2) ?hd (cs := #[.int .i64 a0_0, .string a0_1, .bool a0_2]) (t := 155) ?hr ?_; (case hd => rfl); (case hg => rfl); (case hr => first | (go_simp; done) | (go_simp; rfl)); intro gb241 hg w4 hbox hb; have BK241 := Am (hbox); have GW241 := Am ((by rw [hg]; exact (bz zB) : w.heap.size ≤ gb241)); have GE241 := Am ((by rw [hg]; exact (bz zB) : w.heap.size ≤ gb241)); replace HB := Am (bq zB hb); clear hb hbox hg; obtain ⟨hcz5_0, hcz5_1, hcz5_2⟩ := kc3 (w := w4) BK241.out; have hfz5_0 := kf BK241.out) | ((with_reducible refine gate_callee (f := 162) rfl ?_); refine zC (some 8) rfl rfl Try.func162 rfl #[.int .i64 a0_0, .int .i64 a1] rfl ?_; (with_reducible refine (cmp_Compare_int.calls a0_0 a1 t242 _ A3.out).mono ?_); rintro e w' ⟨rfl, ⟨nd, rfl⟩⟩; refine ⟨_, rfl, ?_⟩))
 go_ret
 exact ⟨zR, zG⟩

end Go.Proofs.Ytconffflmbakgaa.QFnExactMaskedImage
