/- Go functions as Lean functions, and their contracts. Own text: written by wip/gen/pr.py (a turned copy of the print). -/
import Derived.Test.YtconffflmbakgaaQFnExactMaskedImagex0
import Derived.Test.YtconffflmbakgaaQFnExactMaskedImagex8
import Derived.Test.YtconffflmbakgaaQFnExactMaskedImagex11
namespace Go.Proofs.Ytconffflmbakgaa.QFnExactMaskedImage
open Go.RowKit Go.Proofs.YtconffflmbakgaaW.PrintWords Go.Proofs.YtconffflmbakgaaW.PrintLast Go.Proofs.YtconffflmbakgaaW.PrintMore
attribute [local go_sem] max2_int min2_int max_two min_two max_three min_three max_four min_four   -- for this text's walks alone
open Go.Proofs.YtconffflmbakgaaW.PrintWords renaming below_alloc → ba, pw_below_drewN → bn, below_drew1 → be, below_set → bs, blk_drewN → kn, blk_drew → ke, blk_alloc → ka, blk_below → kb, blk_frozen → kf, blk_cell → kc, below_step → bq, below_size → bz, blk_lt → kl, blk_put → kp
open Go.Proofs.YtconffflmbakgaaW.PrintWords.Kd renaming C_alloc → ca, C_drewN → cn, C_drew → ce, C_below → cb
open Go.Proofs.YtconffflmbakgaaW.PrintWords.Aside0 renaming mk → Am
set_option linter.unusedVariables false
set_option linter.unusedSimpArgs false

def o12b0 (p0 : ByteArray) (p1 : Option Addr) (p2 p3 : Nat) : Obj := .cells #[.string p0, .slice p1 p2 p3] 33 (0, 0)
def o12b1 (p0 : Int) (p1 : Int) (p2 : Int) (p3 : Int) : Obj := .cells #[.int .i64 p0, .int .i64 p1, .int .i64 p2, .int .i64 p3] 29 (0, 0)
/-! ### impl_MaskedImage: function 43 -/
theorem lays166_ : Go.Proofs.Lays.n166 Try.prog Try.lays105_ren := { mixed := Try.lays105.mixed, f166 := Try.lays105.f166, f240 := Try.lays105.f240, f276 := Try.lays105.f276, t0 := Try.lays105.t0, a0 := Try.lays105.a0, z0 := Try.lays105.z0, v0 := Try.lays105.v0, t3 := Try.lays105.t3, a3 := Try.lays105.a3, z3 := Try.lays105.z3, v3 := Try.lays105.v3, t4 := Try.lays105.t4, a4 := Try.lays105.a4, z4 := Try.lays105.z4, v4 := Try.lays105.v4, t9 := Try.lays105.t9, a9 := Try.lays105.a9, z9 := Try.lays105.z9, v9 := Try.lays105.v9, t20 := Try.lays105.t20, a20 := Try.lays105.a20, z20 := Try.lays105.z20, v20 := Try.lays105.v20, t37 := Try.lays105.t37, a37 := Try.lays105.a37, z37 := Try.lays105.z37, v37 := Try.lays105.v37, t70 := Try.lays105.t70, a70 := Try.lays105.a70, z70 := Try.lays105.z70, v70 := Try.lays105.v70, t72 := Try.lays105.t72, a72 := Try.lays105.a72, z72 := Try.lays105.z72, v72 := Try.lays105.v72, t75 := Try.lays105.t75, a75 := Try.lays105.a75, z75 := Try.lays105.z75, v75 := Try.lays105.v75, t164 := Try.lays105.t164, a164 := Try.lays105.a164, z164 := Try.lays105.z164, v164 := Try.lays105.v164 }
theorem lays169_ : Go.Proofs.Lays.n169 Try.prog Try.lays105_ren := { mixed := Try.lays105.mixed, f169 := Try.lays105.f169, t0 := Try.lays105.t0, a0 := Try.lays105.a0, z0 := Try.lays105.z0, v0 := Try.lays105.v0, t3 := Try.lays105.t3, a3 := Try.lays105.a3, z3 := Try.lays105.z3, v3 := Try.lays105.v3, t9 := Try.lays105.t9, a9 := Try.lays105.a9, z9 := Try.lays105.z9, v9 := Try.lays105.v9, t37 := Try.lays105.t37, a37 := Try.lays105.a37, z37 := Try.lays105.z37, v37 := Try.lays105.v37, t70 := Try.lays105.t70, a70 := Try.lays105.a70, z70 := Try.lays105.z70, v70 := Try.lays105.v70, t72 := Try.lays105.t72, a72 := Try.lays105.a72, z72 := Try.lays105.z72, v72 := Try.lays105.v72, t127 := Try.lays105.t127, a127 := Try.lays105.a127, z127 := Try.lays105.z127, v127 := Try.lays105.v127 }
theorem bld_below {T e B b : Nat} {bs : List Value} {w w1 : World} (h : Lib.IsBuilderF T e B b bs w) (hb : Below w.heap.size w w1) : Lib.IsBuilderF T e B b bs w1 := by
 have key : ∀ p, Lib.BuilderAtF T e B b p bs w → Lib.BuilderAtF T e B b p bs w1 := by
  rintro p ⟨h1, v, h2, h3, h4⟩
  refine ⟨h1, v, kb h2 hb, ?_, h4⟩
  obtain ⟨h5, h6⟩ := h3
  refine ⟨h5, ?_⟩
  rcases h6 with h6 | ⟨g, cap, cur, fz, e1, e2, e3, e4⟩
  ·exact .inl h6
  ·exact .inr ⟨g, cap, cur, fz, e1, e2, kb e3 hb, e4⟩
 exact h.imp (key _) (key _)
theorem bld_new {T e b : Nat} {w : World} (h : w.heap[b]? = some (.cells #[.pointer none, .slice none 0 0] T (0, 0))) : Lib.IsBuilderF T e b b (Lib.byteCells (⟨#[]⟩ : ByteArray).data.toList) w := .inl ⟨Nat.le_refl _, _, h, World.ownsRowF_nil w b e 1, by simp [Value.ownBlock]⟩
theorem bld_cells (x s : ByteArray) : Lib.byteCells x.data.toList ++ Lib.strCells s = Lib.byteCells (x ++ s).data.toList := by
 rw [Lib.strCells_eq, ← Lib.byteCells_append, ByteArray.data_append, Array.toList_append]
theorem bld_on {b : Nat} {w W W1 : World} (h : Below w.heap.size w W) (hb : Below b W W1) (hB : w.heap.size ≤ b) : Below w.heap.size w W1 := h.trans ⟨hb.os, hb.tape, hb.output, hb.size, fun i hi => hb.block i (by omega)⟩
theorem bld_blk {b g : Nat} {o : Obj} {W W1 : World} (h : W.heap[g]? = some o) (hb : Below b W W1) (hg : g < b) : W1.heap[g]? = some o := (hb.block g hg).trans h
theorem ws_call (b : Nat) (x s : ByteArray) (w : World) (h : Lib.IsBuilderF 141 5 b b (Lib.byteCells x.data.toList) w) (hlen : x.size + s.size ≤ 140737488355328) (hB : b ≤ w.heap.size) : Calls Try.prog 93 #[.pointer (some ⟨b, 0, none⟩), .string s] w fun e w' => e = .returned (.tuple #[.int .i64 s.size, .nilIface]) ∧ Lib.IsBuilderF 141 5 b b (Lib.byteCells (x ++ s).data.toList) w' ∧ Below b w w' := by
 refine (Any.Builder_WriteString_f lays166_ Try.Builder_Extra_105 b b _ s w h (by rw [Lib.byteCells_length, ← Lib.size_eq]; exact hlen) hB).mono ?_
 rintro e w' ⟨rfl, h1, h2⟩
 exact ⟨rfl, by rw [← bld_cells]; exact .inr h1, h2⟩
theorem str_call (b : Nat) (x : ByteArray) (w : World) (h : Lib.IsBuilderF 141 5 b b (Lib.byteCells x.data.toList) w) (hB : b ≤ w.heap.size) : Calls Try.prog 94 #[.pointer (some ⟨b, 0, none⟩)] w fun e w' => e = .returned (.string x) ∧ Below b w w' := by
 refine (Any.Builder_String_any_f lays169_ Try.Builder_Extra_105 b b x.data.toList w h hB).mono ?_
 rintro e w' ⟨rfl, _, h2⟩
 exact ⟨rfl, h2⟩
def impl_MaskedImage.l0 : Nat → ByteArray → Int → Int → ByteArray → List (S155) → Int → Int → Int → Int → Option (ByteArray)
 | 0, _, _, _, _, _, _, _, _, _ => none
 | k + 1, x5, x16, x17, x303000, x303001, x304000, x304001, x304002, x304003 => if x17 < x16 then ((impl_maskedWord.f k x304000 x304001 x304002 x304003 x17 x303000 ([] : List (S155))).bind fun t306 => (if x5.size + t306.size ≤ 140737488355328 then (impl_MaskedImage.l0 k (x5 ++ t306) x16 (wrap64 (x17 + 1)) x303000 x303001 x304000 x304001 x304002 x304003) else (none))) else (some x5)
def impl_MaskedImage.f (k : Nat) (a0_0 : ByteArray) (l0_1 : List (S155)) (a1_0 : Int) (a1_1 : Int) (a1_2 : Int) (a1_3 : Int) : Option (ByteArray) := (impl_isPlaced.f k a0_0 l0_1 a1_0 a1_1 a1_2 a1_3).bind fun t304 => (if t304 = true then ((impl_Geo_partWords.f a1_0 a1_1 a1_2 a1_3).bind fun t305 => (impl_MaskedImage.l0 k (⟨#[]⟩ : ByteArray) (wrap64 (a1_0 * t305)) 0 a0_0 l0_1 a1_0 a1_1 a1_2 a1_3)) else (some (⟨#[]⟩ : ByteArray)))
theorem impl_MaskedImage.mono_l : ∀ k, (∀ y0 y1 y2 y3 y4 y5 y6 y7 y8, LeO (impl_MaskedImage.l0 k y0 y1 y2 y3 y4 y5 y6 y7 y8) (impl_MaskedImage.l0 (k + 1) y0 y1 y2 y3 y4 y5 y6 y7 y8))
 | 0 => fun _ _ _ _ _ _ _ _ _ r h => by simp [impl_MaskedImage.l0] at h
 | k + 1 => by
  have ih0 := impl_MaskedImage.mono_l k
  ·intro y0 y1 y2 y3 y4 y5 y6 y7 y8
   unfold impl_MaskedImage.l0
   repeat' first
   | (with_reducible exact ih0 _ _ _ _ _ _ _ _ _)
   | (with_reducible exact impl_isPlaced.mono _ _ _ _ _ _ _)
   | (with_reducible exact impl_maskedWord.mono _ _ _ _ _ _ _ _)
   | (with_reducible exact LeO.refl _)
   | (with_reducible exact LeO.none _)
   | (with_reducible refine LeO.ite ?_ ?_)
   | (with_reducible refine LeO.bind ?_ (fun _ => ?_))
   | exact ih0 _ _ _ _ _ _ _ _ _
   | exact impl_isPlaced.mono _ _ _ _ _ _ _
   | exact impl_maskedWord.mono _ _ _ _ _ _ _ _
   | exact LeO.none _
   | refine LeO.ite ?_ ?_
   | refine LeO.bind ?_ (fun _ => ?_)
theorem impl_MaskedImage.mono : ∀ a0 a1 a2 a3 a4 a5 k, LeO (impl_MaskedImage.f k a0 a1 a2 a3 a4 a5) (impl_MaskedImage.f (k + 1) a0 a1 a2 a3 a4 a5) := by
 intro a0 a1 a2 a3 a4 a5 k
 have ih0 := impl_MaskedImage.mono_l k
 unfold impl_MaskedImage.f
 repeat' first
   | (with_reducible exact ih0 _ _ _ _ _ _ _ _ _)
   | (with_reducible exact impl_isPlaced.mono _ _ _ _ _ _ _)
   | (with_reducible exact impl_maskedWord.mono _ _ _ _ _ _ _ _)
   | (with_reducible exact LeO.refl _)
   | (with_reducible exact LeO.none _)
   | (with_reducible refine LeO.ite ?_ ?_)
   | (with_reducible refine LeO.bind ?_ (fun _ => ?_))
   | exact ih0 _ _ _ _ _ _ _ _ _
   | exact impl_isPlaced.mono _ _ _ _ _ _ _
   | exact impl_maskedWord.mono _ _ _ _ _ _ _ _
   | exact LeO.none _
   | refine LeO.ite ?_ ?_
   | refine LeO.bind ?_ (fun _ => ?_)
set_option maxHeartbeats 8000000 in
set_option maxRecDepth 100000 in
theorem impl_MaskedImage.calls (k : Nat) (a0_0 : ByteArray) (A0_1 : Option Addr) (c0_1 : Nat) (l0_1 : List (S155)) (a1_0 : Int) (a1_1 : Int) (a1_2 : Int) (a1_3 : Int) (r : ByteArray) (w : World) (hr0_1 : Kd.C k155 w A0_1 l0_1.length l0_1) (hc0_1 : l0_1.length ≤ c0_1) (h : impl_MaskedImage.f k a0_0 l0_1 a1_0 a1_1 a1_2 a1_3 = some r) :
  Calls Try.prog 43 #[.agg #[.string a0_0, .slice A0_1 l0_1.length c0_1], .agg #[.int .i64 a1_0, .int .i64 a1_1, .int .i64 a1_2, .int .i64 a1_3]] w fun e w' => e = .returned (.string r) ∧ Below w.heap.size w w' := by
 have hu33 := Try.underlying33
 have hu29 := Try.underlying29
 have HR0_1 := Am hr0_1
 have HC0_1 := Am hc0_1
 clear hr0_1 hc0_1
 have HB := Am (Below.refl w.heap.size w)
 have H : ((impl_isPlaced.f k a0_0 l0_1 a1_0 a1_1 a1_2 a1_3).bind fun t304 => (if t304 = true then ((impl_Geo_partWords.f a1_0 a1_1 a1_2 a1_3).bind fun t305 => (impl_MaskedImage.l0 k (⟨#[]⟩ : ByteArray) (wrap64 (a1_0 * t305)) 0 a0_0 l0_1 a1_0 a1_1 a1_2 a1_3)) else (some (⟨#[]⟩ : ByteArray)))) = some r := h
 clear h
 replace H := Option.bind_eq_some_iff.mp H
 obtain ⟨t304, A30, H⟩ := H
 replace H : (if t304 = true then ((impl_Geo_partWords.f a1_0 a1_1 a1_2 a1_3).bind fun t305 => (impl_MaskedImage.l0 k (⟨#[]⟩ : ByteArray) (wrap64 (a1_0 * t305)) 0 a0_0 l0_1 a1_0 a1_1 a1_2 a1_3)) else (some (⟨#[]⟩ : ByteArray))) = some r := H
 have A3 := Am A30
 clear A30
 by_cases c4 : t304 = true
 ·subst c4
  have H1 : ((impl_Geo_partWords.f a1_0 a1_1 a1_2 a1_3).bind fun t305 => (impl_MaskedImage.l0 k (⟨#[]⟩ : ByteArray) (wrap64 (a1_0 * t305)) 0 a0_0 l0_1 a1_0 a1_1 a1_2 a1_3)) = some r := by rw [if_pos rfl] at H; exact H
  clear H
  have H := H1
  clear H1
  replace H := Option.bind_eq_some_iff.mp H
  obtain ⟨t305, A50, H⟩ := H
  replace H : (impl_MaskedImage.l0 k (⟨#[]⟩ : ByteArray) (wrap64 (a1_0 * t305)) 0 a0_0 l0_1 a1_0 a1_1 a1_2 a1_3) = some r := H
  have A5 := Am A50
  clear A50
  have H' := Am H
  clear H
  go_enter Try.func43, Try.ntmps43
  try go_wp2_with (first | ((with_reducible refine gate_dst (N := 2) rfl ?_); refine box_event ?hg (N := 2) ?hd (cs := #[.string a0_0, .slice A0_1 l0_1.length c0_1]) (t := 33) ?hr ?_; (case hd => rfl); (case hg => rfl); (case hr => first | (go_simp; done) | (go_simp; rfl)); intro gb302 hg w6 hbox hb; have BK302 := Am (hbox); have GW302 := Am ((by rw [hg]; exact (bz zB) : w.heap.size ≤ gb302)); have GE302 := Am ((by rw [hg]; exact (bz zB) : w.heap.size ≤ gb302)); replace HB := Am (bq zB hb); clear hb hbox hg) | ((with_reducible refine gate_dst (N := 3) rfl ?_); refine box_event ?hg (N := 3) ?hd (cs := #[.int .i64 a1_0, .int .i64 a1_1, .int .i64 a1_2, .int .i64 a1_3]) (t := 29) ?hr ?_; (case hd => rfl); (case hg => rfl); (case hr => first | (go_simp; done) | (go_simp; rfl)); intro gb303 hg w7 hbox hb; have n0_ := Am (zK BK302 hb); have n1_ := Am (bq zG hb); have n2_ := Am (hbox); have n3_ := Am ((by rw [hg]; exact (bz zG) : w.heap.size ≤ gb303)); have n4_ := Am ((by rw [hg]; exact (bz zG) : w.heap.size ≤ gb303)); have n5_ := Am ((by rw [hg]; exact Nat.ne_of_lt (zL BK302) : gb302 ≠ gb303)); have n6_ := Am ((by rw [hg]; exact Nat.ne_of_gt (zL BK302) : gb303 ≠ gb302)); clear BK302; clear HB; have BK302 := n0_; have HB := n1_; have BK303 := n2_; have GW303 := n3_; have GE303 := n4_; have NB302_303 := n5_; have NB303_302 := n6_; clear n0_ n1_ n2_ n3_ n4_ n5_ n6_; clear hb hbox hg; have hnb8 := NB302_303.out; have hnc8 := NB303_302.out; obtain ⟨hcz9_0, hcz9_1⟩ := kc2 (w := w7) BK302.out; have hfz9_0 := kf BK302.out; obtain ⟨hcz10_0, hcz10_1, hcz10_2, hcz10_3⟩ := kc4 (w := w7) BK303.out; have hfz10_0 := kf BK303.out) | ((with_reducible refine gate_callee (f := 58) rfl ?_); refine zC (some 9) rfl rfl Try.func58 rfl #[.agg #[.string a0_0, .slice A0_1 l0_1.length c0_1], .agg #[.int .i64 a1_0, .int .i64 a1_1, .int .i64 a1_2, .int .i64 a1_3]] rfl ?_; (with_reducible refine (impl_isPlaced.calls k a0_0 _ _ l0_1 a1_0 a1_1 a1_2 a1_3 true _ ?side1 ?side2 A3.out).mono ?_); (case side1 => repeat (first | exact (cb HR0_1.out HB.out) | (with_reducible first | refine ca ?_ _ | refine cn ?_ _ | refine ce ?_))); (case side2 => exact HC0_1.out); rintro e w11 ⟨rfl, hb⟩; refine ⟨_, rfl, ?_⟩; have n0_ := Am (zK BK302 hb); have n1_ := Am (zK BK303 hb); have n2_ := Am (bq zG hb); clear BK302; clear BK303; clear HB; have BK302 := n0_; have BK303 := n1_; have HB := n2_; clear n0_ n1_ n2_; (try clear hb)) | ((with_reducible refine gate_dst (N := 5) rfl ?_); (try (refine gate_guard (by rfl) ?_; dsimp only)); refine box_event ?hg (N := 5) ?hd (cs := #[.pointer none, .slice none 0 0]) (t := 141) ?hr ?_; (case hd => rfl); (case hg => rfl); (case hr => first | (go_simp; done) | (go_simp; rfl)); intro gbO hg wO hbox hb; have nO_ := Am hbox; have GEO := Am (by rw [hg]; exact bz (by repeat (first | (with_reducible first | exact HB.out | apply ba | apply bn | apply be | refine bs ?_ (Aside0.out (by assumption))) | exact HB.out)) : w.heap.size ≤ gbO); have LO302 := Am (by rw [hg]; exact kl (by (with_reducible repeat (first | refine kn ?_ _ | refine ke ?_ | refine ka ?_ _)); exact BK302.out) : gb302 < gbO); have m302_ := Am (kb (by (with_reducible repeat (first | refine kn ?_ _ | refine ke ?_ | refine ka ?_ _)); exact BK302.out) hb); have LO303 := Am (by rw [hg]; exact kl (by (with_reducible repeat (first | refine kn ?_ _ | refine ke ?_ | refine ka ?_ _)); exact BK303.out) : gb303 < gbO); have m303_ := Am (kb (by (with_reducible repeat (first | refine kn ?_ _ | refine ke ?_ | refine ka ?_ _)); exact BK303.out) hb); have nB_ := Am (bq (by repeat (first | (with_reducible first | exact HB.out | apply ba | apply bn | apply be | refine bs ?_ (Aside0.out (by assumption))) | exact HB.out)) hb); clear HB BK302 BK303; have HB := nB_; have BKO := nO_; have BK302 := m302_; have BK303 := m303_; clear nB_ nO_ m302_ m303_ hb hbox hg; have hcO0 : wO.cell? ⟨gbO, 0, none⟩ = some (.pointer none) := (kc BKO.out 0).trans rfl; have hcO1 : wO.cell? ⟨gbO, 1, none⟩ = some (.slice none 0 0) := (kc BKO.out 1).trans rfl; have hfO := kf BKO.out))
  have m302_ := Am (blk_far (p := ⟨gbO, 1, none⟩) (blk_far (p := ⟨gbO, 0, none⟩) BK302.out (Nat.ne_of_lt LO302.out) (.pointer none)) (Nat.ne_of_lt LO302.out) (.slice none 0 0))
  have m303_ := Am (blk_far (p := ⟨gbO, 1, none⟩) (blk_far (p := ⟨gbO, 0, none⟩) BK303.out (Nat.ne_of_lt LO303.out) (.pointer none)) (Nat.ne_of_lt LO303.out) (.slice none 0 0))
  have nB_ := Am (bs (j := 1) (v := .slice none 0 0) (bs (j := 0) (v := .pointer none) HB.out GEO.out) GEO.out)
  have nO_ := Am (kp (cs := #[.pointer none, .slice none 0 0]) (kp (cs := #[.pointer none, .slice none 0 0]) BKO.out 0 (.pointer none) (by rfl)) 1 (.slice none 0 0) (by rfl))
  clear HB BKO hcO0 hcO1 hfO BK302 BK303
  have BK302 := m302_
  have BK303 := m303_
  have HB := nB_
  have BKO := nO_
  clear nB_ nO_ m302_ m303_
  generalize ((wO.setCell ⟨gbO, 0, none⟩ (.pointer none)).setCell ⟨gbO, 1, none⟩ (.slice none 0 0)) = wP at HB BKO BK302 BK303 ⊢
  have n0_ := Am (ke BK302.out)
  have n1_ := Am (ke BK303.out)
  have nO_ := Am (ke BKO.out)
  have n2_ := Am (be HB.out)
  clear BK302
  clear BK303
  clear BKO
  clear HB
  have BK302 := n0_
  have BK303 := n1_
  have BKO := nO_
  have HB := n2_
  clear n0_ n1_ n2_ nO_
  refine start_ (n := 6) (S := fun w' => w'.cell? ⟨gb303, 0, none⟩ = some (.int .i64 a1_0) ∧ w'.cell? ⟨gb303, 1, none⟩ = some (.int .i64 a1_1) ∧ w'.cell? ⟨gb303, 2, none⟩ = some (.int .i64 a1_2) ∧ w'.cell? ⟨gb303, 3, none⟩ = some (.int .i64 a1_3)) (ds := []) #[false, false, false, false, false, false] (by kernel_rfl) rfl rfl ⟨(kc BK303.out 0).trans rfl, (kc BK303.out 1).trans rfl, (kc BK303.out 2).trans rfl, (kc BK303.out 3).trans rfl⟩ (fun hHeld => ?_)
  generalize wP.drew = w12 at BKO BK302 BK303 HB hHeld ⊢
  refine yA 0 (some 12) rfl rfl ?_
  refine yA 5 (some 17) rfl rfl ?_
  refine yT 1 (some 13) rfl rfl hHeld ?_
  refine yT 2 (some 14) rfl rfl hHeld ?_
  refine yO 3 (some 15) rfl rfl (fun K hK => ?_)
  refine goes_ Try.func60 (by kernel_rfl) rfl #[.agg #[.int .i64 a1_0, .int .i64 a1_1, .int .i64 a1_2, .int .i64 a1_3]] (by rfl) rfl rfl (by (try simp only [List.map_toArray, List.map_cons, List.map_nil]); first | done | rfl | (simp only [List.length_drop, List.length_take]; rfl)) ?_
  with_reducible refine (impl_Geo_partWords.calls a1_0 a1_1 a1_2 a1_3 t305 _ A5.out).mono ?_
  rintro e w13 ⟨rfl, hb⟩
  refine ⟨_, rfl, ?_⟩
  have n0_ := Am (zK BK302 hb)
  have n1_ := Am (zK BK303 hb)
  have nO_ := Am (kb (by (with_reducible repeat (first | refine kn ?_ _ | refine ke ?_ | refine ka ?_ _)); exact BKO.out) hb)
  have n2_ := Am (bq zG hb)
  clear BK302
  clear BK303
  clear BKO
  clear HB
  have BK302 := n0_
  have BK303 := n1_
  have BKO := nO_
  have HB := n2_
  clear n0_ n1_ n2_ nO_
  (try clear hb)
  (try clear hb2)
  (try clear hk)
  (try clear hi)
  refine hK.out _ _ ⟨(kc BK303.out 0).trans rfl, (kc BK303.out 1).trans rfl, (kc BK303.out 2).trans rfl, (kc BK303.out 3).trans rfl⟩ (fun hHeld => ?_)
  clear hK K
  refine zN (some 15) ?_
  refine yA 4 (some 16) rfl rfl ?_
  refine done_ (by kernel_rfl) ?_
  try go_wp2
  go_loopg [17] k (fun kq v17 w' => ∃ (x5_1 : ByteArray) (x17_1 : Int), v17 = .int .i64 x17_1 ∧ Aside0 (impl_MaskedImage.l0 kq x5_1 (wrap64 (a1_0 * t305)) x17_1 a0_0 l0_1 a1_0 a1_1 a1_2 a1_3 = some r) ∧ Aside0 (kq ≤ k) ∧ Aside0 (w'.heap[gb302]? = some (.cells #[.string a0_0, (.slice A0_1 l0_1.length c0_1)] 33 (0, 0))) ∧ Aside0 (w'.heap[gb303]? = some (.cells #[.int .i64 a1_0, .int .i64 a1_1, .int .i64 a1_2, .int .i64 a1_3] 29 (0, 0))) ∧ Aside0 (Lib.IsBuilderF 141 5 gbO gbO (Lib.byteCells x5_1.data.toList) w') ∧ Aside0 (gbO ≤ w'.heap.size) ∧ Aside0 (Below w.heap.size w w'))
  case atStart => exact ⟨((⟨#[]⟩ : ByteArray)), (0), (by first | rfl | (simp; done) | (simp [*]; done)), H', ⟨Nat.le_refl _⟩, ⟨by (with_reducible repeat (first | refine kn ?_ _ | refine ke ?_ | refine ka ?_ _)); exact BK302.out⟩, ⟨by (with_reducible repeat (first | refine kn ?_ _ | refine ke ?_ | refine ka ?_ _)); exact BK303.out⟩, ⟨bld_new (by (with_reducible repeat (first | refine kn ?_ _ | refine ke ?_ | refine ka ?_ _)); exact BKO.out)⟩, ⟨Nat.le_of_lt (kl (by (with_reducible repeat (first | refine kn ?_ _ | refine ke ?_ | refine ka ?_ _)); exact BKO.out))⟩, ⟨by first | exact HB.out | repeat (first | (with_reducible first | exact HB.out | apply ba | apply bn | apply be) | exact HB.out)⟩⟩
  case round =>
   clear H'
   try clear p2; try clear c4; try clear c5; try clear c6; try clear p6; try clear c8; try clear hcz10_0; try clear hcz10_1; try clear hcz10_2; try clear hcz10_3; try clear hcz9_0; try clear hcz9_1; try clear hfz10_0; try clear hfz10_1; try clear hfz10_2; try clear hfz10_3; try clear hfz9_0; try clear hfz9_1
   obtain ⟨x5_1, x17_1, rfl, HA, HK1, BK302, BK303, HBD, HSZ, HB⟩ := hrel
   cases gk with
   | zero => exact absurd HA.out (by simp [impl_MaskedImage.l0])
   | succ k1 =>
    have H := HA.out
    clear HA
    simp only [impl_MaskedImage.l0] at H
    by_cases c14 : x17_1 < (wrap64 (a1_0 * t305))
    ·rw [if_pos c14] at H
     have c14b0 : decide (x17_1 < (wrap64 (a1_0 * t305))) = true := decide_eq_true c14
     clear c14
     replace H := Option.bind_eq_some_iff.mp H
     obtain ⟨t306, A150, H⟩ := H
     replace H : (if x5_1.size + t306.size ≤ 140737488355328 then (impl_MaskedImage.l0 k1 (x5_1 ++ t306) (wrap64 (a1_0 * t305)) (wrap64 (x17_1 + 1)) a0_0 l0_1 a1_0 a1_1 a1_2 a1_3) else (none)) = some r := H
     have A15 := Am A150
     clear A150
     by_cases c16 : x5_1.size + t306.size ≤ 140737488355328
     ·rw [if_pos c16] at H
      have cOlen := c16
      have c16b0 := eq_true c16
      have c16b1 : decide (x5_1.size + t306.size ≤ 140737488355328) = true := decide_eq_true c16
      try have c16b2 : (9223372036854775807 < x5_1.size + t306.size) = False := eq_false (Nat.not_lt.2 c16)
      try (have c16b3 := c16b2; simp only [ByteArray.size_extract, Nat.sub_zero] at c16b3)
      try clear c16
      have H' := Am H
      clear H
      have hnb17 := NB303_302.out
      have hnc17 := NB302_303.out
      obtain ⟨hcz18_0, hcz18_1, hcz18_2, hcz18_3⟩ := kc4 (w := wr) BK303.out
      have hfz18_0 := kf BK303.out
      obtain ⟨hcz19_0, hcz19_1⟩ := kc2 (w := wr) BK302.out
      have hfz19_0 := kf BK302.out
      go_wp2_with (first | ((with_reducible refine gate_callee (f := 61) rfl ?_); refine zC (some 25) rfl rfl Try.func61 rfl #[.agg #[.int .i64 a1_0, .int .i64 a1_1, .int .i64 a1_2, .int .i64 a1_3], .int .i64 x17_1, .agg #[.string a0_0, .slice none 0 0]] rfl ?_; (refine (impl_maskedWord.calls k1 a1_0 a1_1 a1_2 a1_3 x17_1 a0_0 _ _ ([] : List (S155)) t306 _ ?side1 ?side2 A15.out).mono ?_); (case side1 => exact Kd.C_nil _ _); (case side2 => exact Nat.le_refl _); rintro e w20 ⟨rfl, hb⟩; refine ⟨_, rfl, ?_⟩; have n0_ := Am (zK BK302 hb); have n1_ := Am (zK BK303 hb); have nD_ := Am (bld_below (by exact HBD.out) hb); have nS_ := Am (Nat.le_trans HSZ.out hb.size); have n2_ := Am (bq zG hb); clear BK302; clear BK303; clear HB HBD HSZ; have HBD := nD_; have HSZ := nS_; have BK302 := n0_; have BK303 := n1_; have HB := n2_; clear nD_ nS_ n0_ n1_ n2_; (try clear hb)) | ((with_reducible refine gate_callee (f := 93) rfl ?_); refine goesL_ (some 26) rfl rfl Try.func93 (by kernel_rfl) rfl #[.pointer (some ⟨gbO, 0, none⟩), .string (t306)] rfl (by (try simp only [List.map_toArray, List.map_cons, List.map_nil]); first | done | rfl) ?_; refine (ws_call gbO x5_1 (t306) _ (by exact HBD.out) cOlen HSZ.out).mono ?_; rintro e wQ ⟨rfl, hbd, hb⟩; refine ⟨_, rfl, ?_⟩; have m302_ := Am (bld_blk (by (with_reducible repeat (first | refine kn ?_ _ | refine ke ?_ | refine ka ?_ _)); exact BK302.out) hb LO302.out); have m303_ := Am (bld_blk (by (with_reducible repeat (first | refine kn ?_ _ | refine ke ?_ | refine ka ?_ _)); exact BK303.out) hb LO303.out); have nD_ := Am hbd; have nS_ := Am (Nat.le_trans HSZ.out hb.size); have nB_ := Am (bld_on (by repeat (first | (with_reducible first | exact HB.out | apply ba | apply bn | apply be | refine bs ?_ (Aside0.out (by assumption))) | exact HB.out)) hb GEO.out); clear HB HBD HSZ BK302 BK303; have HB := nB_; have HBD := nD_; have HSZ := nS_; have BK302 := m302_; have BK303 := m303_; clear nB_ nD_ nS_ m302_ m303_ hb hbd))
      go_roundg k1
      case measure => have := HK1.out; omega
      case rel => exact ⟨(x5_1 ++ t306), (wrap64 (x17_1 + 1)), (by first | rfl | (simp; done) | (simp [*]; done)), H', ⟨by have := HK1.out; omega⟩, ⟨by (with_reducible repeat (first | refine kn ?_ _ | refine ke ?_ | refine ka ?_ _)); exact BK302.out⟩, ⟨by (with_reducible repeat (first | refine kn ?_ _ | refine ke ?_ | refine ka ?_ _)); exact BK303.out⟩, HBD, HSZ, ⟨by first | exact HB.out | repeat (first | (with_reducible first | exact HB.out | apply ba | apply bn | apply be) | exact HB.out)⟩⟩
     ·rw [if_neg c16] at H
      exact absurd H (by simp)
    ·rw [if_neg c14] at H
     have c14b0 : decide (x17_1 < (wrap64 (a1_0 * t305))) = false := decide_eq_false c14
     clear c14
     obtain rfl := Option.some.inj H
     go_wp2_with (first | ((with_reducible refine gate_callee (f := 94) rfl ?_); refine goesL_ (some 28) rfl rfl Try.func94 (by kernel_rfl) rfl #[.pointer (some ⟨gbO, 0, none⟩)] rfl (by (try simp only [List.map_toArray, List.map_cons, List.map_nil]); first | done | rfl) ?_; refine (str_call gbO x5_1 _ (by exact HBD.out) HSZ.out).mono ?_; rintro e wR ⟨rfl, hb⟩; refine ⟨_, rfl, ?_⟩; have nB_ := Am (bld_on (by repeat (first | (with_reducible first | exact HB.out | apply ba | apply bn | apply be | refine bs ?_ (Aside0.out (by assumption))) | exact HB.out)) hb GEO.out); clear HB; have HB := nB_; clear nB_ hb))
     go_ret
     exact ⟨zR, zG⟩
 ·replace c4 := Bool.eq_false_iff.mpr c4
  subst c4
  have H1 : (some (⟨#[]⟩ : ByteArray)) = some r := by rw [if_neg (show ¬ (false = true) by decide)] at H; exact H
  clear H
  have H := H1
  clear H1
  obtain rfl := Option.some.inj H
  go_enter Try.func43, Try.ntmps43
  go_wp2_with (first | ((with_reducible refine gate_dst (N := 2) rfl ?_); refine box_event ?hg (N := 2) ?hd (cs := #[.string a0_0, .slice A0_1 l0_1.length c0_1]) (t := 33) ?hr ?_; (case hd => rfl); (case hg => rfl); (case hr => first | (go_simp; done) | (go_simp; rfl)); intro gb302 hg w21 hbox hb; have BK302 := Am (hbox); have GW302 := Am ((by rw [hg]; exact (bz zB) : w.heap.size ≤ gb302)); have GE302 := Am ((by rw [hg]; exact (bz zB) : w.heap.size ≤ gb302)); replace HB := Am (bq zB hb); clear hb hbox hg) | ((with_reducible refine gate_dst (N := 3) rfl ?_); refine box_event ?hg (N := 3) ?hd (cs := #[.int .i64 a1_0, .int .i64 a1_1, .int .i64 a1_2, .int .i64 a1_3]) (t := 29) ?hr ?_; (case hd => rfl); (case hg => rfl); (case hr => first | (go_simp; done) | (go_simp; rfl)); intro gb303 hg w22 hbox hb; have n0_ := Am (zK BK302 hb); have n1_ := Am (bq zG hb); have n2_ := Am (hbox); have n3_ := Am ((by rw [hg]; exact (bz zG) : w.heap.size ≤ gb303)); have n4_ := Am ((by rw [hg]; exact (bz zG) : w.heap.size ≤ gb303)); have n5_ := Am ((by rw [hg]; exact Nat.ne_of_lt (zL BK302) : gb302 ≠ gb303)); have n6_ := Am ((by rw [hg]; exact Nat.ne_of_gt (zL BK302) : gb303 ≠ gb302)); clear BK302; clear HB; have BK302 := n0_; have HB := n1_; have BK303 := n2_; have GW303 := n3_; have GE303 := n4_; have NB302_303 := n5_; have NB303_302 := n6_; clear n0_ n1_ n2_ n3_ n4_ n5_ n6_; clear hb hbox hg; have hnb23 := NB302_303.out; have hnc23 := NB303_302.out; obtain ⟨hcz24_0, hcz24_1⟩ := kc2 (w := w22) BK302.out; have hfz24_0 := kf BK302.out; obtain ⟨hcz25_0, hcz25_1, hcz25_2, hcz25_3⟩ := kc4 (w := w22) BK303.out; have hfz25_0 := kf BK303.out) | ((with_reducible refine gate_callee (f := 58) rfl ?_); refine zC (some 9) rfl rfl Try.func58 rfl #[.agg #[.string a0_0, .slice A0_1 l0_1.length c0_1], .agg #[.int .i64 a1_0, .int .i64 a1_1, .int .i64 a1_2, .int .i64 a1_3]] rfl ?_; (with_reducible refine (impl_isPlaced.calls k a0_0 _ _ l0_1 a1_0 a1_1 a1_2 a1_3 false _ ?side1 ?side2 A3.out).mono ?_); (case side1 => repeat (first | exact (cb HR0_1.out HB.out) | (with_reducible first | refine ca ?_ _ | refine cn ?_ _ | refine ce ?_))); (case side2 => exact HC0_1.out); rintro e w26 ⟨rfl, hb⟩; refine ⟨_, rfl, ?_⟩; have n0_ := Am (zK BK302 hb); have n1_ := Am (zK BK303 hb); have n2_ := Am (bq zG hb); clear BK302; clear BK303; clear HB; have BK302 := n0_; have BK303 := n1_; have HB := n2_; clear n0_ n1_ n2_; (try clear hb)))
  go_ret
  exact ⟨zR, zG⟩

end Go.Proofs.Ytconffflmbakgaa.QFnExactMaskedImage
