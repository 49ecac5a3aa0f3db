/- Go functions as Lean functions, and their contracts. Own text: written by wip/gen/pr.py (a turned copy of the print). -/
import Derived.Test.YtnmkcognggeioaaQFnExactFallenMemoryx0
import Derived.Test.YtnmkcognggeioaaQFnExactFallenMemoryx4
import Derived.Test.YtnmkcognggeioaaQFnExactFallenMemoryx5
namespace Go.Proofs.Ytnmkcognggeioaa.QFnExactFallenMemory
open Go.RowKit Go.Proofs.YtnmkcognggeioaaW.PrintWords Go.Proofs.YtnmkcognggeioaaW.PrintLast Go.Proofs.YtnmkcognggeioaaW.PrintMore
attribute [local go_sem] max2_int min2_int max_two min_two max_three min_three max_four min_four   -- for this text's walks alone
open Go.Proofs.YtnmkcognggeioaaW.PrintWords renaming below_alloc → ba, pw_below_drewN → bn, below_drew1 → be, below_set → bs, blk_drewN → kn, blk_drew → ke, blk_alloc → ka, blk_below → kb, blk_frozen → kf, blk_cell → kc, below_step → bq, below_size → bz, blk_lt → kl, blk_put → kp
open Go.Proofs.YtnmkcognggeioaaW.PrintWords.Kd renaming R_alloc → ra, R_drewN → rn, R_drew → re, C_alloc → ca, C_drewN → cn, C_drew → ce, R_below → rb, C_below → cb
open Go.Proofs.YtnmkcognggeioaaW.PrintWords.Aside0 renaming mk → Am
set_option linter.unusedVariables false
set_option linter.unusedSimpArgs false

theorem cl6 {w w2 : World} {a : Addr} {v : Value} (h : Aside0 (Below w.heap.size w w2)) (e : w.cell? a = some v) : w2.cell? a = some v := (h.out.cell (World.block_lt_of_cell? w _ e)).trans e
def o6b0 (p0 : Int) (p1 : ByteArray) (p2 : Bool) : Obj := .cells #[.int .i64 p0, .string p1, .bool p2] 49 (0, 0)
def o6b1 (p0 : ByteArray) (p1 : Option Addr) (p2 p3 : Nat) : Obj := .cells #[.string p0, .slice p1 p2 p3] 28 (0, 0)
/-! ### impl_FallenMemory: function 8 (own text) -/
def bitP (p i : Int) : Bool := if i ≤ 62 then (Go.bits .and .i64 (shr .i64 p i) 1 == 1) else false
set_option maxHeartbeats 8000000 in
set_option maxRecDepth 100000 in
theorem fall1.calls (i p : Int) (x : S49) (bx : Addr) (w : World) (hbx : w.cell? bx = some (.int .i64 p)) (h0 : 0 ≤ i) :
  Calls Try.prog 45 #[.int .i64 i, .agg #[.int .i64 x.f0, .string x.f1, .bool x.f2], .pointer (some bx)] w fun e w' => e = .returned (.bool (bitP p i)) ∧ Below w.heap.size w w' := by
 have hu49 := Try.underlying49
 have HBX := Am hbx
 clear hbx
 have HB := Am (Below.refl w.heap.size w)
 unfold bitP
 by_cases c : i ≤ 62
 ·rw [if_pos c]
  have cb : decide (i ≤ 62) = true := decide_eq_true c
  have h0b : decide (0 ≤ i) = true := decide_eq_true h0
  have h1b : ¬ (i < 0) := by omega
  clear c
  go_enter Try.func45, Try.ntmps45
  go_wp2_with (first | ((with_reducible refine gate_dst (N := 4) rfl ?_); (try (refine gate_guard (by rfl) ?_; dsimp only)); refine box_event ?hg (N := 4) ?hd (cs := #[.int .i64 x.f0, .string x.f1, .bool x.f2]) (t := 49) ?hr ?_; (case hd => rfl); (case hg => rfl); (case hr => first | (go_simp; done) | (go_simp; rfl)); intro gb166 hg w15 hbox hb; have hbx_ := (hb.cell (World.block_lt_of_cell? w _ HBX.out)).trans HBX.out; replace HB := Am hb; clear hb hbox hg))
  go_ret
  exact ⟨by first | rfl | (simp; done), HB.out⟩
 ·rw [if_neg c]
  have cb : decide (i ≤ 62) = false := decide_eq_false c
  clear c
  go_enter Try.func45, Try.ntmps45
  go_wp2_with (first | ((with_reducible refine gate_dst (N := 4) rfl ?_); (try (refine gate_guard (by rfl) ?_; dsimp only)); refine box_event ?hg (N := 4) ?hd (cs := #[.int .i64 x.f0, .string x.f1, .bool x.f2]) (t := 49) ?hr ?_; (case hd => rfl); (case hg => rfl); (case hr => first | (go_simp; done) | (go_simp; rfl)); intro gb166 hg w15 hbox hb; replace HB := Am hb; clear hb hbox hg))
  go_ret
  exact ⟨by first | rfl | (simp; done), HB.out⟩
/-- Block g of this world begins with the text's bytes, and they may be written. -/
def BA (w : World) (g : Nat) (K : ByteArray) : Prop := (∀ j b, K.data.toList[j]? = some b → w.cell? ⟨g, j, none⟩ = some (.int .u8 (b.toNat : Int))) ∧ (∀ j, j < K.data.toList.length → w.frozen? ⟨g, j, none⟩ = false) ∧ g < w.heap.size
theorem BA.same {w w1 : World} {g : Nat} {K : ByteArray} (h : BA w g K) (e : w1.heap[g]? = w.heap[g]?) : BA w1 g K := by
 obtain ⟨h1, h2, h3⟩ := h
 refine ⟨fun j b hj => ?_, fun j hj => ?_, ?_⟩
 ·rw [← h1 j b hj]; simp only [World.cell?, e]
 ·rw [← h2 j hj]; simp only [World.frozen?, e]
 ·rcases Nat.lt_or_ge g w1.heap.size with h | h
  ·exact h
  ·rw [Array.getElem?_eq_none h, Array.getElem?_eq_getElem h3] at e; cases e
theorem BA.below_ {w w1 : World} {g : Nat} {K : ByteArray} (h : BA w g K) (hb : Below w.heap.size w w1) : BA w1 g K := h.same (hb.block g h.2.2)
theorem BA.alloc_ {w : World} {g : Nat} {K : ByteArray} (h : BA w g K) (o : Obj) : BA (w.alloc o) g K := h.below_ (ba (Below.refl _ _) o)
theorem BA.drew_ {w : World} {g : Nat} {K : ByteArray} (h : BA w g K) : BA w.drew g K := h
theorem BA.drewN_ {w : World} {g : Nat} {K : ByteArray} (h : BA w g K) (n : Nat) : BA (w.drewN n) g K := h
theorem BA.far_ {w : World} {g : Nat} {K : ByteArray} (h : BA w g K) {p : Addr} (hp : g ≠ p.block) (u : Value) : BA (w.setCell p u) g K := h.same (Below.heap_setCell w p u g hp)
theorem BA.new_ (w : World) (K : ByteArray) : BA (Lib.bytesWorld w 5 K) w.heap.size K := by
 have hb := Lib.bytesWorld_at_new w 5 K
 have hs : K.data.toList.length = K.size := (Lib.size_eq K).symm
 have hc : K.size ≤ (Lib.bytesCells w 5 K).size := by unfold Lib.bytesCells; rw [Array.size_append, Array.size_map]; exact Nat.le_add_right _ _
 refine ⟨fun j b hj => ?_, fun j hj => ?_, ?_⟩
 ·have hj' := (List.getElem?_eq_some_iff.1 hj).1
  rw [Lib.bytesWorld_cell w 5 K j (by omega)]
  rw [List.getD_eq_getElem?_getD, hj]; rfl
 ·simp only [World.frozen?, hb]
  rw [decide_eq_false (by omega)]
  rfl
 ·rw [Lib.bytesWorld_size]; omega
/-- A text laid over the bytes. -/
def putB (K x : ByteArray) (o : Nat) : ByteArray := ⟨(K.data.toList.take o ++ (x.data.toList ++ K.data.toList.drop (o + x.data.toList.length))).toArray⟩
theorem putB_list (K x : ByteArray) (o : Nat) : (putB K x o).data.toList = K.data.toList.take o ++ (x.data.toList ++ K.data.toList.drop (o + x.data.toList.length)) := by unfold putB; rfl
theorem putB_length (K x : ByteArray) (o : Nat) (h : o + x.data.toList.length ≤ K.data.toList.length) : (putB K x o).data.toList.length = K.data.toList.length := by
 rw [putB_list]; simp only [List.length_append, List.length_take, List.length_drop]; omega
theorem BA.put_ {w : World} {g : Nat} {K x : ByteArray} {o : Nat} (h : BA w g K) (hf : o + x.data.toList.length ≤ K.data.toList.length) : BA (w.setCells g o (x.data.toList.map fun b => Value.int .u8 (b.toNat : Int))) g (putB K x o) := by
 obtain ⟨h1, h2, h3⟩ := h
 have hl := putB_length K x o hf
 have hin : ∀ j, j < K.data.toList.length → (w.cell? ⟨g, j, none⟩).isSome = true := fun j hj => by rw [h1 j _ (List.getElem?_eq_getElem hj)]; rfl
 refine ⟨fun j b hj => ?_, fun j hj => ?_, ?_⟩
 ·rw [putB_list] at hj
  have htk : (K.data.toList.take o).length = o := by rw [List.length_take]; omega
  rcases Nat.lt_or_ge j o with hlt | hge
  ·rw [List.getElem?_append_left (by omega), List.getElem?_take_of_lt hlt] at hj
   rw [World.cell?_setCells_out g _ o w _ (fun _ _ => Or.inl hlt)]
   exact h1 j b hj
  ·rw [List.getElem?_append_right (by omega), htk] at hj
   rcases Nat.lt_or_ge (j - o) x.data.toList.length with hlt | hge2
   ·rw [List.getElem?_append_left hlt] at hj
    have := World.cell?_setCells_in g (x.data.toList.map fun b => Value.int .u8 (b.toNat : Int)) o w (fun j' hj' => hin _ (by rw [List.length_map] at hj'; omega)) (j - o) (by rw [List.length_map]; exact hlt)
    rw [show o + (j - o) = j by omega] at this
    rw [this, List.getElem_map]
    rw [List.getElem?_eq_getElem hlt] at hj
    rw [Option.some.inj hj]
   ·rw [List.getElem?_append_right hge2, List.getElem?_drop] at hj
    rw [World.cell?_setCells_out g _ o w _ (fun _ _ => Or.inr (by rw [List.length_map]; show o + x.data.toList.length ≤ j; omega))]
    refine h1 j b ?_
    rw [← hj]; congr 1; omega
 ·rw [World.frozen?_setCells]; exact h2 j (by omega)
 ·have : ∀ (vs : List Value) (o : Nat) (w : World), (w.setCells g o vs).heap.size = w.heap.size := by
   intro vs
   induction vs with
   | nil => intro o w; rfl
   | cons v r ih => intro o w; rw [World.setCells, ih]; simp [World.setCell]
  rw [this]; exact h3
theorem setCells_far {w : World} {g : Nat} {g' : Nat} (hne : g' ≠ g) : ∀ (vs : List Value) (o : Nat) (w : World), (w.setCells g o vs).heap[g']? = w.heap[g']?
 | [], _, _ => rfl
 | v :: r, o, w => by rw [World.setCells, setCells_far (w := w) hne r (o + 1), Below.heap_setCell w ⟨g, o, none⟩ v g' hne]
theorem setCells_below {B g : Nat} {w0 w : World} (h : Below B w0 w) (hg : B ≤ g) (vs : List Value) (o : Nat) : Below B w0 (w.setCells g o vs) := by
 induction vs generalizing o w with
 | nil => exact h
 | cons v r ih => rw [World.setCells]; exact ih (h.setCell (p := ⟨g, o, none⟩) hg v) _
theorem setCells_kept {S : Nat → Prop} {g : Nat} {w0 w : World} (h : Kept w0 w S) (hg : S g ∨ w0.heap.size ≤ g) (vs : List Value) (o : Nat) : Kept w0 (w.setCells g o vs) S := by
 induction vs generalizing o w with
 | nil => exact h
 | cons v r ih => rw [World.setCells]; exact ih (h.setCell (p := ⟨g, o, none⟩) hg v) _
/-- A cell that fits the durable contents. -/
def okC (n : Nat) (x : S49) : Prop := 0 ≤ x.f0 ∧ x.f0 * 16 + 16 ≤ (n : Int) ∧ x.f1.size = 16
/-- What the first n cells make of the contents. -/
def fallN (p : Int) (l : List S49) (K : ByteArray) : Nat → ByteArray
 | 0 => K
 | n + 1 => if bitP p (n : Int) = true then putB (fallN p l K n) (rd_T49 l (n : Int)).f1 ((rd_T49 l (n : Int)).f0 * 16).toNat else fallN p l K n
theorem fallN_length (p : Int) (l : List S49) (K : ByteArray) (hv : ∀ i : Nat, i < l.length → okC K.size (rd_T49 l (i : Int))) : ∀ n, n ≤ l.length → (fallN p l K n).data.toList.length = K.data.toList.length
 | 0, _ => rfl
 | n + 1, h => by
  have ih := fallN_length p l K hv n (by omega)
  obtain ⟨h0, h1, h2⟩ := hv n (by omega)
  have e1 := Lib.size_eq (rd_T49 l (n : Int)).f1
  have e2 := Lib.size_eq K
  unfold fallN
  by_cases c : bitP p (n : Int) = true
  ·rw [if_pos c, putB_length _ _ _ (by omega)]; exact ih
  ·rw [if_neg c]; exact ih
theorem BA.back_ {w : World} {g n : Nat} {K : ByteArray} (h : BA w g K) (hn : K.data.toList.length = n) (cap : Nat) : (convert 34 9 (.slice (some ⟨g, 0, none⟩) n cap)).run Try.prog w = .ok (.string K) w := by
 subst hn
 have := run_convert_bytes_back (P := Try.prog) w 34 9 5 ⟨g, 0, none⟩ cap K.data.toList Try.underlying34 Try.underlying5 Try.underlying9 (fun j hj => by
  rw [add_plain]
  exact h.1 j _ (List.getElem?_eq_getElem hj))
 rw [this]
set_option maxHeartbeats 8000000 in
set_option maxRecDepth 100000 in
theorem keep.calls (g : Nat) (bx : Addr) (p : Int) (K : ByteArray) (A : Option Addr) (c : Nat) (l : List S49) (w0 w : World) (hB : Below w0.heap.size w0 w) (hg0 : w0.heap.size ≤ g) (hblk : w.heap[g]? = some (.cells #[.string K, .slice A l.length c] 28 (0, 0)))
  (hbx : w.cell? bx = some (.int .i64 p)) (hR : Kd.C k49 w A l.length l) (hK : K.size ≤ 1073741824) (hl : l.length ≤ 1073741824) (hv : ∀ i : Nat, i < l.length → okC K.size (rd_T49 l (i : Int))) :
  Calls Try.prog 44 #[.pointer (some ⟨g, 0, none⟩), .func (.func 45) #[] #[.pointer (some bx)], .bool false] w fun e w' => e = .returned (.tuple #[]) ∧ ∃ g7, w'.heap[g]? = some (.cells #[.string (fallN p l K l.length), .slice (some ⟨g7, 0, none⟩) 0 0] 28 (0, 0)) ∧ w'.heap[g7]? = some (.cells #[] 49 (0, 0)) ∧ w.heap.size ≤ g7 ∧ Below w0.heap.size w0 w' ∧ Kept w w' (fun k_ => k_ = g) := by
 have hu28 := Try.underlying28
 have hu49 := Try.underlying49
 have hcv : ∀ (w : World) (s : ByteArray), (convert 9 34 (.string s)).run Try.prog w = .ok (.slice (some ⟨w.heap.size, 0, none⟩) s.size (grownCap w s.size 0 5)) (Lib.bytesWorld w 5 s) := fun w s => Lib.run_convert_string_bytes w 9 34 5 s Try.underlying9 Try.underlying34 Try.underlying5
 have HW := Am hB
 have HR := Am hR
 have BK := Am hblk
 have HX := Am hbx
 have hlt : g < w.heap.size := kl hblk
 have HB1 := Am (ba (bytes_below (Below.refl w.heap.size w) (Nat.le_refl _) 5 K) (.cells #[] 49))
 have B71 := Am (blk_new (Lib.bytesWorld w 5 K) (.cells #[] 49))
 have G7 := Am (show w.heap.size ≠ (Lib.bytesWorld w 5 K).heap.size by rw [Lib.bytesWorld_size]; omega)
 have BY1 := Am ((BA.new_ w K).alloc_ (.cells #[] 49))
 have hcz0 : w.cell? ⟨g, 0, none⟩ = some (.string K) := (kc BK.out 0).trans rfl
 have hcz1 : ((Lib.bytesWorld w 5 K).alloc (.cells #[] 49)).cell? ⟨g, 1, none⟩ = some (.slice A l.length c) := (HB1.out.cell hlt).trans ((kc BK.out 1).trans rfl)
 clear hB hR hblk hbx
 go_enter Try.func44, Try.ntmps44
 go_wp2
 go_loopg [7, 21] l.length (fun kq v7 v21 w' => v7 = .slice (some ⟨(Lib.bytesWorld w 5 K).heap.size, 0, none⟩) 0 0 ∧ v21 = .int .i64 ((l.length - kq : Nat) : Int) ∧ Aside0 (kq ≤ l.length) ∧ Aside0 (BA w' w.heap.size (fallN p l K (l.length - kq))) ∧ Aside0 (w'.heap[(Lib.bytesWorld w 5 K).heap.size]? = some (.cells #[] 49 (0, 0))) ∧ Aside0 (Below w.heap.size w w'))
 case atStart => exact ⟨rfl, by simp, ⟨Nat.le_refl _⟩, ⟨by rw [Nat.sub_self]; exact BY1.out⟩, B71, HB1⟩
 case round =>
  obtain ⟨rfl, rfl, HK, BY, B7, HB⟩ := hrel
  clear hcz0 hcz1 BY1 HB1 B71
  cases gk with
  | zero =>
   have c1 : decide (((l.length - 0 : Nat) : Int) < (l.length : Int)) = false := decide_eq_false (by omega)
   have hcb := fun cap => BA.back_ (n := K.size) BY.out (by rw [Nat.sub_zero, fallN_length p l K hv _ (Nat.le_refl _)]; exact (Lib.size_eq K).symm) cap
   have BG := Am (kb BK.out HB.out)
   have hcw0 : wr.cell? ⟨g, 0, none⟩ = some (.string K) := (kc BG.out 0).trans rfl
   have hcw1 : wr.cell? ⟨g, 1, none⟩ = some (.slice A l.length c) := (kc BG.out 1).trans rfl
   have hfw0 := kf BG.out 0
   have hfw1 := kf BG.out 1
   go_wp2
   go_end0
   refine ⟨rfl, _, kp (cs := #[.string (fallN p l K l.length), .slice A l.length c]) (kp (cs := #[.string K, .slice A l.length c]) BG.out 0 _ (by rfl)) 1 _ (by rfl), blk_far (blk_far B7.out (by show (Lib.bytesWorld w 5 K).heap.size ≠ g; rw [Lib.bytesWorld_size]; omega) _) (by show (Lib.bytesWorld w 5 K).heap.size ≠ g; rw [Lib.bytesWorld_size]; omega) _, by rw [Lib.bytesWorld_size]; omega, ?_, ?_⟩
   ·exact bs (bs (bq HW.out HB.out) hg0) hg0
   ·exact Kept.setCell (S := fun k_ => k_ = g) (p := ⟨g, 1, none⟩) (Kept.setCell (S := fun k_ => k_ = g) (p := ⟨g, 0, none⟩) (Kept.of_below HB.out _) (Or.inl rfl) _) (Or.inl rfl) _
  | succ k1 =>
   have hk1 := HK.out
   obtain ⟨i, hie⟩ : ∃ i : Nat, l.length - (k1 + 1) = i := ⟨_, rfl⟩
   rw [hie] at BY ⊢
   have hi : i < l.length := by omega
   have c1 : decide ((i : Int) < (l.length : Int)) = true := decide_eq_true (by omega)
   have c2 : decide ((0 : Int) ≤ (i : Int)) = true := decide_eq_true (by omega)
   obtain ⟨ad, e0, hx0, hx1, hx2⟩ := at_T49 HR.out (i : Int) (by omega) (by omega)
   cases e0
   simp only [Int.toNat_natCast] at hx0 hx1 hx2
   replace hx0 := cl6 HB hx0
   replace hx1 := cl6 HB hx1
   replace hx2 := cl6 HB hx2
   have hp0 := eq_true (show (0 : Int) ≤ (i : Int) by omega)
   have hp1 := eq_true (show (i : Int) < (l.length : Int) by omega)
   have hwr : IntKind.i64.wrap ((i : Int) + 1) = ((l.length - k1 : Nat) : Int) := by rw [i64_w]; unfold wrap64; omega
   obtain ⟨ho0, ho1, ho2⟩ := hv i hi
   obtain ⟨o, ho⟩ : ∃ o : Nat, (rd_T49 l (i : Int)).f0 * 16 = (o : Int) := ⟨((rd_T49 l (i : Int)).f0 * 16).toNat, by omega⟩
   have hmw : IntKind.i64.wrap (o : Int) = (o : Int) := by rw [i64_w]; unfold wrap64; omega
   have hoK : o + 16 ≤ K.size := by omega
   have hcap : K.size ≤ grownCap w K.size 0 5 := grownCap_ge w K.size 0 5
   have hq0 : (o ≤ K.size) = True := eq_true (by omega)
   have hq1 : (grownCap w K.size 0 5 = o) = False := eq_false (by omega)
   have hsz1 : ∀ w : World, (Go.sizeOf 5).run Try.prog w = .ok 1 w := fun w => by
    cases hq : Try.prog.info? 5 with
    | none => have := info5; rw [hq] at this; cases this
    | some i5 =>
     have h5 : i5.size = 1 := by have := info5; rw [hq] at this; simp at this; exact this.2.1
     simp [Go.sizeOf, typeInfo, hq, h5]
   have hfl : (fallN p l K i).data.toList.length = K.size := (fallN_length p l K hv i (by omega)).trans (Lib.size_eq K).symm
   have hxl : (rd_T49 l (i : Int)).f1.data.toList.length = 16 := (Lib.size_eq _).symm.trans ho2
   by_cases cb : bitP p (i : Int) = true
   ·have hbool : decide (bitP p (i : Int) = true) = true := decide_eq_true cb
    go_wp2_with (first | ((with_reducible refine gate_dst (N := 9) rfl ?_); (try (refine gate_guard (by rfl) ?_; dsimp only)); refine box_event ?hg (N := 9) ?hd (cs := #[.int .i64 0, .string (⟨#[]⟩ : ByteArray), .bool false]) (t := 49) ?hr ?_; (case hd => rfl); (case hg => rfl); (case hr => first | (go_simp; done) | (go_simp; rfl)); intro gb hg w15 hbox hb; have n0_ := Am (bq HB.out hb); have n1_ := Am (BA.below_ BY.out hb); have n2_ := Am hbox; have n7_ := Am (kb B7.out hb); have N7 := Am (by rw [hg]; exact Nat.ne_of_lt (kl B7.out) : (Lib.bytesWorld w 5 K).heap.size ≠ gb); have GE := Am (by rw [hg]; exact HB.out.size : w.heap.size ≤ gb); have NG := Am (by rw [hg]; exact Nat.ne_of_lt BY.out.2.2 : w.heap.size ≠ gb); clear HB BY B7; have HB := n0_; have BY := n1_; have BC := n2_; have B7 := n7_; clear n0_ n1_ n2_ n7_ hb hbox hg; have hcy0 : w15.cell? ⟨gb, 0, none⟩ = some (.int .i64 0) := (kc BC.out 0).trans rfl; have hcy1 : w15.cell? ⟨gb, 1, none⟩ = some (.string (⟨#[]⟩ : ByteArray)) := (kc BC.out 1).trans rfl; have hcy2 : w15.cell? ⟨gb, 2, none⟩ = some (.bool false) := (kc BC.out 2).trans rfl; have hfy0 := kf BC.out 0; have hfy1 := kf BC.out 1; have hfy2 := kf BC.out 2; have hne_ : gb ≠ bx.block := by have h1_ := World.block_lt_of_cell? w _ HX.out; have h2_ := GE.out; omega) | (go_at_call 45; refine (fall1.calls _ p (rd_T49 l (i : Int)) bx _ ?sx ?sy).mono ?_; (case sx => (repeat rw [World.cell?_setCell_other _ _ _ _ (fun e_ => hne_ (congrArg Addr.block e_))]); exact (HB.out.cell (World.block_lt_of_cell? w _ HX.out)).trans HX.out); (case sy => omega); rintro e w20 ⟨rfl, hb⟩; have n0_ := Am (bq (bs (bs (bs HB.out GE.out) GE.out) GE.out) hb); have n1_ := Am (BA.below_ (BA.far_ (BA.far_ (BA.far_ BY.out NG.out _) NG.out _) NG.out _) hb); have n2_ := Am (kb (kp (cs := #[.int .i64 (rd_T49 l (i : Int)).f0, .string (rd_T49 l (i : Int)).f1, .bool false]) (kp (cs := #[.int .i64 (rd_T49 l (i : Int)).f0, .string (⟨#[]⟩ : ByteArray), .bool false]) (kp (cs := #[.int .i64 0, .string (⟨#[]⟩ : ByteArray), .bool false]) BC.out 0 (.int .i64 (rd_T49 l (i : Int)).f0) (by rfl)) 1 (.string (rd_T49 l (i : Int)).f1) (by rfl)) 2 (.bool (rd_T49 l (i : Int)).f2) (by rfl)) hb); have n7_ := Am (kb (blk_far (blk_far (blk_far B7.out N7.out _) N7.out _) N7.out _) hb); clear HB BY BC B7; have HB := n0_; have BY := n1_; have BC := n2_; have B7 := n7_; clear n0_ n1_ n2_ n7_ hb; have hcq0 : w20.cell? ⟨gb, 0, none⟩ = some (.int .i64 (rd_T49 l (i : Int)).f0) := (kc BC.out 0).trans rfl; have hcq1 : w20.cell? ⟨gb, 1, none⟩ = some (.string (rd_T49 l (i : Int)).f1) := (kc BC.out 1).trans rfl))
    go_region_law (refine step_copy_string rfl (.tmp 34) (.tmp 36) 34 9 rfl 5 Try.underlying34 hsz1 w.heap.size o (K.size - o) (grownCap w K.size 0 5 - o) (by simp [Act.eval, Act.put]) (rd_T49 l (i : Int)).f1 (by simp [Act.eval, Act.put]) (by omega) (fun j hj => by show (w20.cell? _).isSome = true; rw [BY.out.1 (o + j) _ (List.getElem?_eq_getElem (by omega))]; rfl) (fun j hj => by show w20.frozen? _ = false; exact BY.out.2.1 _ (by omega)) ?_)
    all_goals (
     have BZ := Am (BA.put_ (x := (rd_T49 l (i : Int)).f1) (o := o) (BA.drew_ BY.out) (by omega))
     have HZ := Am (setCells_below (be HB.out) (Nat.le_refl _) ((rd_T49 l (i : Int)).f1.data.toList.map fun b => Value.int .u8 (b.toNat : Int)) o)
     have BW := Am ((setCells_far (w := w20) G7.out.symm ((rd_T49 l (i : Int)).f1.data.toList.map fun b => Value.int .u8 (b.toNat : Int)) o w20.drew).trans (show w20.drew.heap[(Lib.bytesWorld w 5 K).heap.size]? = _ from B7.out))
     clear hcq0 hcq1
     generalize w20.drew.setCells w.heap.size o ((rd_T49 l (i : Int)).f1.data.toList.map fun b => Value.int .u8 (b.toNat : Int)) = w30 at BZ HZ BW ⊢
     go_wp2
     go_roundg k1
     case measure => omega
     case rel => exact ⟨rfl, rfl, ⟨by omega⟩, ⟨by rw [show l.length - k1 = i + 1 by omega]; unfold fallN; rw [if_pos cb, ho, Int.toNat_natCast]; exact BZ.out⟩, BW, HZ⟩)
   ·have cb' := Bool.eq_false_iff.2 cb
    go_wp2_with (first | ((with_reducible refine gate_dst (N := 9) rfl ?_); (try (refine gate_guard (by rfl) ?_; dsimp only)); refine box_event ?hg (N := 9) ?hd (cs := #[.int .i64 0, .string (⟨#[]⟩ : ByteArray), .bool false]) (t := 49) ?hr ?_; (case hd => rfl); (case hg => rfl); (case hr => first | (go_simp; done) | (go_simp; rfl)); intro gb hg w15 hbox hb; have n0_ := Am (bq HB.out hb); have n1_ := Am (BA.below_ BY.out hb); have n2_ := Am hbox; have n7_ := Am (kb B7.out hb); have N7 := Am (by rw [hg]; exact Nat.ne_of_lt (kl B7.out) : (Lib.bytesWorld w 5 K).heap.size ≠ gb); have GE := Am (by rw [hg]; exact HB.out.size : w.heap.size ≤ gb); have NG := Am (by rw [hg]; exact Nat.ne_of_lt BY.out.2.2 : w.heap.size ≠ gb); clear HB BY B7; have HB := n0_; have BY := n1_; have BC := n2_; have B7 := n7_; clear n0_ n1_ n2_ n7_ hb hbox hg; have hcy0 : w15.cell? ⟨gb, 0, none⟩ = some (.int .i64 0) := (kc BC.out 0).trans rfl; have hcy1 : w15.cell? ⟨gb, 1, none⟩ = some (.string (⟨#[]⟩ : ByteArray)) := (kc BC.out 1).trans rfl; have hcy2 : w15.cell? ⟨gb, 2, none⟩ = some (.bool false) := (kc BC.out 2).trans rfl; have hfy0 := kf BC.out 0; have hfy1 := kf BC.out 1; have hfy2 := kf BC.out 2; have hne_ : gb ≠ bx.block := by have h1_ := World.block_lt_of_cell? w _ HX.out; have h2_ := GE.out; omega) | (go_at_call 45; refine (fall1.calls _ p (rd_T49 l (i : Int)) bx _ ?sx ?sy).mono ?_; (case sx => (repeat rw [World.cell?_setCell_other _ _ _ _ (fun e_ => hne_ (congrArg Addr.block e_))]); exact (HB.out.cell (World.block_lt_of_cell? w _ HX.out)).trans HX.out); (case sy => omega); rintro e w20 ⟨rfl, hb⟩; have n0_ := Am (bq (bs (bs (bs HB.out GE.out) GE.out) GE.out) hb); have n1_ := Am (BA.below_ (BA.far_ (BA.far_ (BA.far_ BY.out NG.out _) NG.out _) NG.out _) hb); have n2_ := Am (kb (kp (cs := #[.int .i64 (rd_T49 l (i : Int)).f0, .string (rd_T49 l (i : Int)).f1, .bool false]) (kp (cs := #[.int .i64 (rd_T49 l (i : Int)).f0, .string (⟨#[]⟩ : ByteArray), .bool false]) (kp (cs := #[.int .i64 0, .string (⟨#[]⟩ : ByteArray), .bool false]) BC.out 0 (.int .i64 (rd_T49 l (i : Int)).f0) (by rfl)) 1 (.string (rd_T49 l (i : Int)).f1) (by rfl)) 2 (.bool (rd_T49 l (i : Int)).f2) (by rfl)) hb); have n7_ := Am (kb (blk_far (blk_far (blk_far B7.out N7.out _) N7.out _) N7.out _) hb); clear HB BY BC B7; have HB := n0_; have BY := n1_; have BC := n2_; have B7 := n7_; clear n0_ n1_ n2_ n7_ hb; have hcq0 : w20.cell? ⟨gb, 0, none⟩ = some (.int .i64 (rd_T49 l (i : Int)).f0) := (kc BC.out 0).trans rfl; have hcq1 : w20.cell? ⟨gb, 1, none⟩ = some (.string (rd_T49 l (i : Int)).f1) := (kc BC.out 1).trans rfl))
    go_roundg k1
    case measure => omega
    case rel => exact ⟨rfl, rfl, ⟨by omega⟩, ⟨by rw [show l.length - k1 = i + 1 by omega]; unfold fallN; rw [if_neg cb]; exact BY.out⟩, B7, HB⟩
set_option maxHeartbeats 8000000 in
set_option maxRecDepth 100000 in
theorem fall.calls (g : Nat) (p : Int) (K : ByteArray) (A : Option Addr) (c : Nat) (l : List S49) (w0 w : World) (hB : Below w0.heap.size w0 w) (hg0 : w0.heap.size ≤ g) (hblk : w.heap[g]? = some (.cells #[.string K, .slice A l.length c] 28 (0, 0)))
  (hR : Kd.C k49 w A l.length l) (hK : K.size ≤ 1073741824) (hl : l.length ≤ 1073741824) (hv : ∀ i : Nat, i < l.length → okC K.size (rd_T49 l (i : Int))) :
  Calls Try.prog 27 #[.pointer (some ⟨g, 0, none⟩), .int .i64 p] w fun e w' => e = .returned (.tuple #[]) ∧ ∃ g7, w'.heap[g]? = some (.cells #[.string (fallN p l K l.length), .slice (some ⟨g7, 0, none⟩) 0 0] 28 (0, 0)) ∧ w'.heap[g7]? = some (.cells #[] 49 (0, 0)) ∧ w.heap.size ≤ g7 ∧ Below w0.heap.size w0 w' ∧ Kept w w' (fun k_ => k_ = g) := by
 have HB := Am hB
 have HR := Am hR
 have BK := Am hblk
 clear hB hR hblk
 go_enter Try.func27, Try.ntmps27
 go_wp2_with (first | ((with_reducible refine gate_dst (N := 3) rfl ?_); (try (refine gate_guard (by rfl) ?_; dsimp only)); refine box_event ?hg (N := 3) ?hd (cs := #[.int .i64 p]) (t := 3) ?hr ?_; (case hd => rfl); (case hg => rfl); (case hr => first | (go_simp; done) | (go_simp; rfl)); intro gb hg w2 hbox hb; have n0_ := Am (bq HB.out hb); have n1_ := Am (kb BK.out hb); have n2_ := Am (cb HR.out hb); have BX := Am hbox; have HK2 := Am (Kept.of_below hb (fun k_ => k_ = g)); clear HB BK HR; have HB := n0_; have BK := n1_; have HR := n2_; clear n0_ n1_ n2_ hb hbox hg) | ((with_reducible refine gate_callee (f := 44) rfl ?_); refine zC (some 6) rfl rfl Try.func44 rfl #[.pointer (some ⟨g, 0, none⟩), .func (.func 45) #[] #[.pointer (some ⟨gb, 0, none⟩)], .bool false] rfl ?_; refine (keep.calls g ⟨gb, 0, none⟩ p K A c l w0 w2 HB.out hg0 BK.out ((kc BX.out 0).trans rfl) HR.out hK hl hv).mono ?_; rintro e w3 ⟨rfl, g7, h1_, h2_, h3_, h4_, h5_⟩; refine ⟨_, rfl, ?_⟩; have n0_ := Am h1_; have n1_ := Am h2_; have n2_ := Am (show w.heap.size ≤ g7 from Nat.le_trans HK2.out.1 h3_); have n3_ := Am h4_; have n4_ := Am (Kept.then_ HK2.out h5_ (fun _ e_ => .inl e_)); clear h1_ h2_ h3_ h4_ h5_ HB BK HR HK2))
 go_end0
 exact ⟨rfl, g7, n0_.out, n1_.out, n2_.out, n3_.out, n4_.out⟩
def okB (K : ByteArray) (l : List S49) : Bool := decide (K.size ≤ 1073741824) && (decide (l.length ≤ 1073741824) && (List.range l.length).all (fun i => decide (0 ≤ (rd_T49 l (i : Int)).f0 ∧ (rd_T49 l (i : Int)).f0 * 16 + 16 ≤ (K.size : Int) ∧ (rd_T49 l (i : Int)).f1.size = 16)))
theorem okB_ok {K : ByteArray} {l : List S49} (h : okB K l = true) : K.size ≤ 1073741824 ∧ l.length ≤ 1073741824 ∧ ∀ i : Nat, i < l.length → okC K.size (rd_T49 l (i : Int)) := by
 unfold okB at h
 simp only [Bool.and_eq_true, decide_eq_true_eq, List.all_eq_true, List.mem_range] at h
 exact ⟨h.1, h.2.1, fun i hi => h.2.2 i hi⟩
theorem R_empty {α : Type} (d : Kd α) (e : Nat) (w : World) (base g : Nat) (hb : base ≤ g) (h : w.heap[g]? = some (.cells #[] e (0, 0))) : d.R e w base (fun _ => True) (.slice (some ⟨g, 0, none⟩) 0 0) [] := ⟨fun _ _ => trivial, [], ⟨by simp, .inr ⟨g, 0, #[], rfl, hb, h, Nat.le_refl _, Nat.zero_le _, by simp, by simp⟩⟩, Reps.none _ _⟩
def impl_FallenMemory.f (k : Nat) (a0_0 : ByteArray) (l0_1 : List (S49)) (a1 : Int) : Option (ByteArray × (List (S49))) := (impl_copyMemory.f a0_0 l0_1).bind fun bt => (impl_MemoryOk.f k a0_0 l0_1).bind fun t => (if t = true then (if 0 ≤ a1 then (if okB bt.1 bt.2 = true then (some (fallN a1 bt.2 bt.1 bt.2.length, ([] : List S49))) else (none)) else (some (bt.1, bt.2))) else (some (bt.1, bt.2)))
set_option maxHeartbeats 8000000 in
set_option maxRecDepth 100000 in
theorem impl_FallenMemory.calls (k : Nat) (a0_0 : ByteArray) (A0_1 : Option Addr) (c0_1 : Nat) (l0_1 : List (S49)) (a1 : Int) (r1 : ByteArray) (r2 : List (S49)) (w : World) (hr0_1 : Kd.C k49 w A0_1 l0_1.length l0_1) (hc0_1 : l0_1.length ≤ c0_1) (h : impl_FallenMemory.f k a0_0 l0_1 a1 = some (r1, r2)) :
  Calls Try.prog 8 #[.agg #[.string a0_0, .slice A0_1 l0_1.length c0_1], .int .i64 a1] w fun e w' => ∃ v1_ : Value, e = .returned (.agg #[.string r1, v1_]) ∧ Kd.R k49 49 w' w.heap.size (fun _ => True) v1_ r2 ∧ Below w.heap.size w w' := by
 have hu28 := Try.underlying28
 have hu49 := Try.underlying49
 have HR0_1 := Am hr0_1
 have HC0_1 := Am hc0_1
 clear hr0_1 hc0_1
 have HB := Am (Below.refl w.heap.size w)
 unfold impl_FallenMemory.f at h
 replace h := Option.bind_eq_some_iff.mp h
 obtain ⟨⟨t1, t2⟩, A10, h⟩ := h
 replace h := Option.bind_eq_some_iff.mp h
 obtain ⟨t, A20, h⟩ := h
 have A1 := Am A10
 have A2 := Am A20
 clear A10 A20
 by_cases ct : t = true
 ·subst ct
  rw [if_pos rfl] at h
  by_cases ca : 0 ≤ a1
  ·rw [if_pos ca] at h
   have cab : decide (0 ≤ a1) = true := decide_eq_true ca
   clear ca
   by_cases ck : okB t1 t2 = true
   ·rw [if_pos ck] at h
    obtain ⟨hok1, hok2, hok3⟩ := okB_ok ck
    clear ck
    simp only [Option.some.injEq, Prod.mk.injEq] at h
    obtain ⟨rfl, rfl⟩ := h
    go_enter Try.func8, Try.ntmps8
    go_wp2_with (first | ((with_reducible refine gate_dst (N := 2) rfl ?_); (try (refine gate_guard (by rfl) ?_; dsimp only)); refine box_event ?hg (N := 2) ?hd (cs := #[.string a0_0, .slice A0_1 l0_1.length c0_1]) (t := 28) ?hr ?_; (case hd => rfl); (case hg => rfl); (case hr => first | (go_simp; done) | (go_simp; rfl)); intro g2 hg w2 hbox hb; have n0_ := Am (bq (by repeat (first | (with_reducible first | exact HB.out | apply ba | apply bn | apply be | refine bs ?_ (Aside0.out (by assumption))) | exact HB.out)) hb); have n1_ := Am hbox; have Gg2 := Am (by rw [hg]; exact (bz (by repeat (first | (with_reducible first | exact HB.out | apply ba | apply bn | apply be | refine bs ?_ (Aside0.out (by assumption))) | exact HB.out))) : w.heap.size ≤ g2); clear HB ; have HB := n0_; have Bg2 := n1_; clear n0_ n1_  hb hbox hg) | ((with_reducible refine gate_dst (N := 4) rfl ?_); (try (refine gate_guard (by rfl) ?_; dsimp only)); refine box_event ?hg (N := 4) ?hd (cs := #[.string (⟨#[]⟩ : ByteArray), .slice none 0 0]) (t := 28) ?hr ?_; (case hd => rfl); (case hg => rfl); (case hr => first | (go_simp; done) | (go_simp; rfl)); intro g4 hg w4 hbox hb; have n0_ := Am (bq (by repeat (first | (with_reducible first | exact HB.out | apply ba | apply bn | apply be | refine bs ?_ (Aside0.out (by assumption))) | exact HB.out)) hb); have n1_ := Am hbox; have Gg4 := Am (by rw [hg]; exact (bz (by repeat (first | (with_reducible first | exact HB.out | apply ba | apply bn | apply be | refine bs ?_ (Aside0.out (by assumption))) | exact HB.out))) : w.heap.size ≤ g4); have Ng2_g4 := Am (by rw [hg]; exact Nat.ne_of_lt (kl Bg2.out) : g2 ≠ g4); have mBg2_ := Am (kb Bg2.out hb); clear HB Bg2; have HB := n0_; have Bg4 := n1_; have Bg2 := mBg2_; clear n0_ n1_ mBg2_ hb hbox hg; have hcp0 : w4.cell? ⟨g2, 0, none⟩ = some (.string a0_0) := (kc Bg2.out 0).trans rfl; have hfp0 := kf Bg2.out 0; have hcp1 : w4.cell? ⟨g2, 1, none⟩ = some (.slice A0_1 l0_1.length c0_1) := (kc Bg2.out 1).trans rfl; have hfp1 := kf Bg2.out 1) | ((with_reducible refine gate_callee (f := 25) rfl ?_); refine zC (some 7) rfl rfl Try.func25 rfl #[.agg #[.string a0_0, .slice A0_1 l0_1.length c0_1]] rfl ?_; (with_reducible refine (impl_copyMemory.calls a0_0 _ _ l0_1 t1 t2 _ ?side1 ?side2 A1.out).mono ?_); (case side1 => exact (cb HR0_1.out HB.out)); (case side2 => exact HC0_1.out); rintro e w6 ⟨v6, rfl, ho0, hb⟩; obtain ⟨A5, c5, rfl⟩ := Kd.R_slice ho0; refine ⟨_, rfl, ?_⟩; have n0_ := Am (Kd.R_lower ho0 (bz HB.out)); have n1_ := Am (bq HB.out hb); have n2_ := Am (kb Bg2.out hb); have n3_ := Am (kb Bg4.out hb); clear HB Bg2 Bg4; have HO := n0_; have HB := n1_; have Bg2 := n2_; have Bg4 := n3_; clear n0_ n1_ n2_ n3_ ho0 hb) | ((with_reducible refine gate_dst (N := 5) rfl ?_); (try (refine gate_guard (by rfl) ?_; dsimp only)); refine box_event ?hg (N := 5) ?hd (cs := #[.string (⟨#[]⟩ : ByteArray), .slice none 0 0]) (t := 28) ?hr ?_; (case hd => rfl); (case hg => rfl); (case hr => first | (go_simp; done) | (go_simp; rfl)); intro g5 hg w7 hbox hb; have n0_ := Am (bq (by repeat (first | (with_reducible first | exact HB.out | apply ba | apply bn | apply be | refine bs ?_ (Aside0.out (by assumption))) | exact HB.out)) hb); have n1_ := Am hbox; have Gg5 := Am (by rw [hg]; exact (bz (by repeat (first | (with_reducible first | exact HB.out | apply ba | apply bn | apply be | refine bs ?_ (Aside0.out (by assumption))) | exact HB.out))) : w.heap.size ≤ g5); have Ng2_g5 := Am (by rw [hg]; exact Nat.ne_of_lt (kl Bg2.out) : g2 ≠ g5); have mBg2_ := Am (kb Bg2.out hb); have Ng4_g5 := Am (by rw [hg]; exact Nat.ne_of_lt (kl Bg4.out) : g4 ≠ g5); have mBg4_ := Am (kb Bg4.out hb); have nO_ := Am (by rw [hg]; exact rb (Kd.R_elderB HO.out _ (Nat.le_refl _)) hb : Kd.R k49 49 w7 w.heap.size (fun k => True ∧ k ≠ g5) (.slice A5 t2.length c5) t2); clear HO; have HO := nO_; clear nO_; clear HB Bg2 Bg4; have HB := n0_; have Bg5 := n1_; have Bg2 := mBg2_; have Bg4 := mBg4_; clear n0_ n1_ mBg2_ mBg4_ hb hbox hg; have hco0 : w7.cell? ⟨g5, 0, none⟩ = some (.string (⟨#[]⟩ : ByteArray)) := (kc Bg5.out 0).trans rfl; have hfo0 := kf Bg5.out 0; have hco1 : w7.cell? ⟨g5, 1, none⟩ = some (.slice none 0 0) := (kc Bg5.out 1).trans rfl; have hfo1 := kf Bg5.out 1; have hcq0 : w7.cell? ⟨g2, 0, none⟩ = some (.string a0_0) := (kc Bg2.out 0).trans rfl; have hfq0 := kf Bg2.out 0; have hcq1 : w7.cell? ⟨g2, 1, none⟩ = some (.slice A0_1 l0_1.length c0_1) := (kc Bg2.out 1).trans rfl; have hfq1 := kf Bg2.out 1; have hn25 := Ng2_g5.out; have hn52 := Ng2_g5.out.symm) | ((with_reducible refine gate_callee (f := 26) rfl ?_); refine zC (some 9) rfl rfl Try.func26 rfl #[.agg #[.string a0_0, .slice A0_1 l0_1.length c0_1]] rfl ?_; (with_reducible refine (impl_MemoryOk.calls k a0_0 _ _ l0_1 true _ ?side1 ?side2 A2.out).mono ?_); (case side1 => exact (cb HR0_1.out (bs (bs HB.out Gg5.out) Gg5.out))); (case side2 => exact HC0_1.out); rintro e w10 ⟨rfl, hb⟩; refine ⟨_, rfl, ?_⟩; have n0_ := Am (rb (Kd.R_far (p := ⟨g5, 1, none⟩) (Kd.R_far (p := ⟨g5, 0, none⟩) HO.out (fun _ hk => hk.2) (.string t1)) (fun _ hk => hk.2) (.slice A5 t2.length c5)) hb); have n1_ := Am (bq (bs (bs HB.out Gg5.out) Gg5.out) hb); have n4_ := Am (kb (blk_far (blk_far Bg4.out Ng4_g5.out _) Ng4_g5.out _) hb); have n5_ := Am (kb (kp (cs := #[.string t1, .slice none 0 0]) (kp (cs := #[.string (⟨#[]⟩ : ByteArray), .slice none 0 0]) Bg5.out 0 (.string t1) (by rfl)) 1 (.slice A5 t2.length c5) (by rfl)) hb); clear HB HO Bg4 Bg5; have HO := n0_; have HB := n1_; have Bg4 := n4_; have Bg5 := n5_; clear n0_ n1_ n4_ n5_ hb; have hcr0 : w10.cell? ⟨g5, 0, none⟩ = some (.string t1) := (kc Bg5.out 0).trans rfl; have hfr0 := kf Bg5.out 0; have hcr1 : w10.cell? ⟨g5, 1, none⟩ = some (.slice A5 t2.length c5) := (kc Bg5.out 1).trans rfl; have hfr1 := kf Bg5.out 1; have hcs0 : w10.cell? ⟨g4, 0, none⟩ = some (.string (⟨#[]⟩ : ByteArray)) := (kc Bg4.out 0).trans rfl; have hfs0 := kf Bg4.out 0; have hcs1 : w10.cell? ⟨g4, 1, none⟩ = some (.slice none 0 0) := (kc Bg4.out 1).trans rfl; have hfs1 := kf Bg4.out 1; have hn45 := Ng4_g5.out; have hn54 := Ng4_g5.out.symm) | ((with_reducible refine gate_callee (f := 27) rfl ?_); refine zC (some 15) rfl rfl Try.func27 rfl #[.pointer (some ⟨g5, 0, none⟩), .int .i64 a1] rfl ?_; refine (fall.calls g5 a1 t1 A5 c5 t2 w w10 HB.out Gg5.out Bg5.out (Kd.R_reads' HO.out).2.2 hok1 hok2 hok3).mono ?_; rintro e w12 ⟨rfl, g7, hg5, hg7, hge, hb, hk⟩; refine ⟨_, rfl, ?_⟩; have n0_ := Am hg5; have n1_ := Am hg7; have n2_ := Am hb; have n4_ := Am (blk_kept Bg4.out hk Ng4_g5.out); have L4 := Am (show g4 ≠ g7 by have h1_ := kl Bg4.out; omega); have L7 := Am (show w.heap.size ≤ g7 by have h1_ := bz HB.out; omega); clear HB Bg4 Bg5 HO; have HB := n2_; have Bg4 := n4_; have Bg5 := n0_; have B7 := n1_; clear n0_ n1_ n2_ n4_ hg5 hg7 hge hb hk; have hct0 : w12.cell? ⟨g5, 0, none⟩ = some (.string (fallN a1 t2 t1 t2.length)) := (kc Bg5.out 0).trans rfl; have hft0 := kf Bg5.out 0; have hct1 : w12.cell? ⟨g5, 1, none⟩ = some (.slice (some ⟨g7, 0, none⟩) 0 0) := (kc Bg5.out 1).trans rfl; have hft1 := kf Bg5.out 1; have hcu0 : w12.cell? ⟨g4, 0, none⟩ = some (.string (⟨#[]⟩ : ByteArray)) := (kc Bg4.out 0).trans rfl; have hfu0 := kf Bg4.out 0; have hcu1 : w12.cell? ⟨g4, 1, none⟩ = some (.slice none 0 0) := (kc Bg4.out 1).trans rfl; have hfu1 := kf Bg4.out 1))
    refine bodyPost_ret (results_cell_row rfl _ _ g4 28 #[.string (fallN a1 t2 t1 t2.length), .slice (some ⟨g7, 0, none⟩) 0 0] (0, 0) _ rfl (by (with_reducible repeat (first | refine kn ?_ _ | refine ke ?_ | refine ka ?_ _)); refine kp (cs := #[.string (fallN a1 t2 t1 t2.length), .slice none 0 0]) ?_ 1 _ rfl; (with_reducible repeat (first | refine kn ?_ _ | refine ke ?_ | refine ka ?_ _)); refine kp (cs := #[.string (⟨#[]⟩ : ByteArray), .slice none 0 0]) ?_ 0 _ rfl; (with_reducible repeat (first | refine kn ?_ _ | refine ke ?_ | refine ka ?_ _)); exact Bg4.out) Try.underlying28 rfl (by kernel_rfl)) rfl ?_
    exact ⟨_, rfl, R_empty k49 49 _ _ g7 L7.out (blk_far (blk_far B7.out L4.out.symm _) L4.out.symm _), bs (bs HB.out Gg4.out) Gg4.out⟩
   ·rw [if_neg ck] at h
    exact absurd h (by simp)
  ·rw [if_neg ca] at h
   have cab : decide (0 ≤ a1) = false := decide_eq_false ca
   clear ca
   simp only [Option.some.injEq, Prod.mk.injEq] at h
   obtain ⟨rfl, rfl⟩ := h
   go_enter Try.func8, Try.ntmps8
   go_wp2_with (first | ((with_reducible refine gate_dst (N := 2) rfl ?_); (try (refine gate_guard (by rfl) ?_; dsimp only)); refine box_event ?hg (N := 2) ?hd (cs := #[.string a0_0, .slice A0_1 l0_1.length c0_1]) (t := 28) ?hr ?_; (case hd => rfl); (case hg => rfl); (case hr => first | (go_simp; done) | (go_simp; rfl)); intro g2 hg w2 hbox hb; have n0_ := Am (bq (by repeat (first | (with_reducible first | exact HB.out | apply ba | apply bn | apply be | refine bs ?_ (Aside0.out (by assumption))) | exact HB.out)) hb); have n1_ := Am hbox; have Gg2 := Am (by rw [hg]; exact (bz (by repeat (first | (with_reducible first | exact HB.out | apply ba | apply bn | apply be | refine bs ?_ (Aside0.out (by assumption))) | exact HB.out))) : w.heap.size ≤ g2); clear HB ; have HB := n0_; have Bg2 := n1_; clear n0_ n1_  hb hbox hg) | ((with_reducible refine gate_dst (N := 4) rfl ?_); (try (refine gate_guard (by rfl) ?_; dsimp only)); refine box_event ?hg (N := 4) ?hd (cs := #[.string (⟨#[]⟩ : ByteArray), .slice none 0 0]) (t := 28) ?hr ?_; (case hd => rfl); (case hg => rfl); (case hr => first | (go_simp; done) | (go_simp; rfl)); intro g4 hg w4 hbox hb; have n0_ := Am (bq (by repeat (first | (with_reducible first | exact HB.out | apply ba | apply bn | apply be | refine bs ?_ (Aside0.out (by assumption))) | exact HB.out)) hb); have n1_ := Am hbox; have Gg4 := Am (by rw [hg]; exact (bz (by repeat (first | (with_reducible first | exact HB.out | apply ba | apply bn | apply be | refine bs ?_ (Aside0.out (by assumption))) | exact HB.out))) : w.heap.size ≤ g4); have Ng2_g4 := Am (by rw [hg]; exact Nat.ne_of_lt (kl Bg2.out) : g2 ≠ g4); have mBg2_ := Am (kb Bg2.out hb); clear HB Bg2; have HB := n0_; have Bg4 := n1_; have Bg2 := mBg2_; clear n0_ n1_ mBg2_ hb hbox hg; have hcp0 : w4.cell? ⟨g2, 0, none⟩ = some (.string a0_0) := (kc Bg2.out 0).trans rfl; have hfp0 := kf Bg2.out 0; have hcp1 : w4.cell? ⟨g2, 1, none⟩ = some (.slice A0_1 l0_1.length c0_1) := (kc Bg2.out 1).trans rfl; have hfp1 := kf Bg2.out 1) | ((with_reducible refine gate_callee (f := 25) rfl ?_); refine zC (some 7) rfl rfl Try.func25 rfl #[.agg #[.string a0_0, .slice A0_1 l0_1.length c0_1]] rfl ?_; (with_reducible refine (impl_copyMemory.calls a0_0 _ _ l0_1 t1 t2 _ ?side1 ?side2 A1.out).mono ?_); (case side1 => exact (cb HR0_1.out HB.out)); (case side2 => exact HC0_1.out); rintro e w6 ⟨v6, rfl, ho0, hb⟩; obtain ⟨A5, c5, rfl⟩ := Kd.R_slice ho0; refine ⟨_, rfl, ?_⟩; have n0_ := Am (Kd.R_lower ho0 (bz HB.out)); have n1_ := Am (bq HB.out hb); have n2_ := Am (kb Bg2.out hb); have n3_ := Am (kb Bg4.out hb); clear HB Bg2 Bg4; have HO := n0_; have HB := n1_; have Bg2 := n2_; have Bg4 := n3_; clear n0_ n1_ n2_ n3_ ho0 hb) | ((with_reducible refine gate_dst (N := 5) rfl ?_); (try (refine gate_guard (by rfl) ?_; dsimp only)); refine box_event ?hg (N := 5) ?hd (cs := #[.string (⟨#[]⟩ : ByteArray), .slice none 0 0]) (t := 28) ?hr ?_; (case hd => rfl); (case hg => rfl); (case hr => first | (go_simp; done) | (go_simp; rfl)); intro g5 hg w7 hbox hb; have n0_ := Am (bq (by repeat (first | (with_reducible first | exact HB.out | apply ba | apply bn | apply be | refine bs ?_ (Aside0.out (by assumption))) | exact HB.out)) hb); have n1_ := Am hbox; have Gg5 := Am (by rw [hg]; exact (bz (by repeat (first | (with_reducible first | exact HB.out | apply ba | apply bn | apply be | refine bs ?_ (Aside0.out (by assumption))) | exact HB.out))) : w.heap.size ≤ g5); have Ng2_g5 := Am (by rw [hg]; exact Nat.ne_of_lt (kl Bg2.out) : g2 ≠ g5); have mBg2_ := Am (kb Bg2.out hb); have Ng4_g5 := Am (by rw [hg]; exact Nat.ne_of_lt (kl Bg4.out) : g4 ≠ g5); have mBg4_ := Am (kb Bg4.out hb); have nO_ := Am (by rw [hg]; exact rb (Kd.R_elderB HO.out _ (Nat.le_refl _)) hb : Kd.R k49 49 w7 w.heap.size (fun k => True ∧ k ≠ g5) (.slice A5 t2.length c5) t2); clear HO; have HO := nO_; clear nO_; clear HB Bg2 Bg4; have HB := n0_; have Bg5 := n1_; have Bg2 := mBg2_; have Bg4 := mBg4_; clear n0_ n1_ mBg2_ mBg4_ hb hbox hg; have hco0 : w7.cell? ⟨g5, 0, none⟩ = some (.string (⟨#[]⟩ : ByteArray)) := (kc Bg5.out 0).trans rfl; have hfo0 := kf Bg5.out 0; have hco1 : w7.cell? ⟨g5, 1, none⟩ = some (.slice none 0 0) := (kc Bg5.out 1).trans rfl; have hfo1 := kf Bg5.out 1; have hcq0 : w7.cell? ⟨g2, 0, none⟩ = some (.string a0_0) := (kc Bg2.out 0).trans rfl; have hfq0 := kf Bg2.out 0; have hcq1 : w7.cell? ⟨g2, 1, none⟩ = some (.slice A0_1 l0_1.length c0_1) := (kc Bg2.out 1).trans rfl; have hfq1 := kf Bg2.out 1; have hn25 := Ng2_g5.out; have hn52 := Ng2_g5.out.symm) | ((with_reducible refine gate_callee (f := 26) rfl ?_); refine zC (some 9) rfl rfl Try.func26 rfl #[.agg #[.string a0_0, .slice A0_1 l0_1.length c0_1]] rfl ?_; (with_reducible refine (impl_MemoryOk.calls k a0_0 _ _ l0_1 true _ ?side1 ?side2 A2.out).mono ?_); (case side1 => exact (cb HR0_1.out (bs (bs HB.out Gg5.out) Gg5.out))); (case side2 => exact HC0_1.out); rintro e w10 ⟨rfl, hb⟩; refine ⟨_, rfl, ?_⟩; have n0_ := Am (rb (Kd.R_far (p := ⟨g5, 1, none⟩) (Kd.R_far (p := ⟨g5, 0, none⟩) HO.out (fun _ hk => hk.2) (.string t1)) (fun _ hk => hk.2) (.slice A5 t2.length c5)) hb); have n1_ := Am (bq (bs (bs HB.out Gg5.out) Gg5.out) hb); have n4_ := Am (kb (blk_far (blk_far Bg4.out Ng4_g5.out _) Ng4_g5.out _) hb); have n5_ := Am (kb (kp (cs := #[.string t1, .slice none 0 0]) (kp (cs := #[.string (⟨#[]⟩ : ByteArray), .slice none 0 0]) Bg5.out 0 (.string t1) (by rfl)) 1 (.slice A5 t2.length c5) (by rfl)) hb); clear HB HO Bg4 Bg5; have HO := n0_; have HB := n1_; have Bg4 := n4_; have Bg5 := n5_; clear n0_ n1_ n4_ n5_ hb; have hcr0 : w10.cell? ⟨g5, 0, none⟩ = some (.string t1) := (kc Bg5.out 0).trans rfl; have hfr0 := kf Bg5.out 0; have hcr1 : w10.cell? ⟨g5, 1, none⟩ = some (.slice A5 t2.length c5) := (kc Bg5.out 1).trans rfl; have hfr1 := kf Bg5.out 1; have hcs0 : w10.cell? ⟨g4, 0, none⟩ = some (.string (⟨#[]⟩ : ByteArray)) := (kc Bg4.out 0).trans rfl; have hfs0 := kf Bg4.out 0; have hcs1 : w10.cell? ⟨g4, 1, none⟩ = some (.slice none 0 0) := (kc Bg4.out 1).trans rfl; have hfs1 := kf Bg4.out 1; have hn45 := Ng4_g5.out; have hn54 := Ng4_g5.out.symm))
   refine bodyPost_ret (results_cell_row rfl _ _ g4 28 #[.string t1, .slice A5 t2.length c5] (0, 0) _ rfl (by (with_reducible repeat (first | refine kn ?_ _ | refine ke ?_ | refine ka ?_ _)); refine kp (cs := #[.string t1, .slice none 0 0]) ?_ 1 _ rfl; (with_reducible repeat (first | refine kn ?_ _ | refine ke ?_ | refine ka ?_ _)); refine kp (cs := #[.string (⟨#[]⟩ : ByteArray), .slice none 0 0]) ?_ 0 _ rfl; (with_reducible repeat (first | refine kn ?_ _ | refine ke ?_ | refine ka ?_ _)); exact Bg4.out) Try.underlying28 rfl (by kernel_rfl)) rfl ?_
   exact ⟨_, rfl, by (with_reducible repeat (first | apply ra | apply rn | apply re)); exact Kd.R_mono (Kd.R_far (p := ⟨g4, 1, none⟩) (Kd.R_far (p := ⟨g4, 0, none⟩) (Kd.R_types HO.out Bg4.out (by decide)) (fun _ hk => hk.2) (.string t1)) (fun _ hk => hk.2) (.slice A5 t2.length c5)) (fun _ hk => trivial), bs (bs HB.out Gg4.out) Gg4.out⟩
 ·replace ct := Bool.eq_false_iff.mpr ct
  subst ct
  rw [if_neg (show ¬ (false = true) by decide)] at h
  simp only [Option.some.injEq, Prod.mk.injEq] at h
  obtain ⟨rfl, rfl⟩ := h
  go_enter Try.func8, Try.ntmps8
  go_wp2_with (first | ((with_reducible refine gate_dst (N := 2) rfl ?_); (try (refine gate_guard (by rfl) ?_; dsimp only)); refine box_event ?hg (N := 2) ?hd (cs := #[.string a0_0, .slice A0_1 l0_1.length c0_1]) (t := 28) ?hr ?_; (case hd => rfl); (case hg => rfl); (case hr => first | (go_simp; done) | (go_simp; rfl)); intro g2 hg w2 hbox hb; have n0_ := Am (bq (by repeat (first | (with_reducible first | exact HB.out | apply ba | apply bn | apply be | refine bs ?_ (Aside0.out (by assumption))) | exact HB.out)) hb); have n1_ := Am hbox; have Gg2 := Am (by rw [hg]; exact (bz (by repeat (first | (with_reducible first | exact HB.out | apply ba | apply bn | apply be | refine bs ?_ (Aside0.out (by assumption))) | exact HB.out))) : w.heap.size ≤ g2); clear HB ; have HB := n0_; have Bg2 := n1_; clear n0_ n1_  hb hbox hg) | ((with_reducible refine gate_dst (N := 4) rfl ?_); (try (refine gate_guard (by rfl) ?_; dsimp only)); refine box_event ?hg (N := 4) ?hd (cs := #[.string (⟨#[]⟩ : ByteArray), .slice none 0 0]) (t := 28) ?hr ?_; (case hd => rfl); (case hg => rfl); (case hr => first | (go_simp; done) | (go_simp; rfl)); intro g4 hg w4 hbox hb; have n0_ := Am (bq (by repeat (first | (with_reducible first | exact HB.out | apply ba | apply bn | apply be | refine bs ?_ (Aside0.out (by assumption))) | exact HB.out)) hb); have n1_ := Am hbox; have Gg4 := Am (by rw [hg]; exact (bz (by repeat (first | (with_reducible first | exact HB.out | apply ba | apply bn | apply be | refine bs ?_ (Aside0.out (by assumption))) | exact HB.out))) : w.heap.size ≤ g4); have Ng2_g4 := Am (by rw [hg]; exact Nat.ne_of_lt (kl Bg2.out) : g2 ≠ g4); have mBg2_ := Am (kb Bg2.out hb); clear HB Bg2; have HB := n0_; have Bg4 := n1_; have Bg2 := mBg2_; clear n0_ n1_ mBg2_ hb hbox hg; have hcp0 : w4.cell? ⟨g2, 0, none⟩ = some (.string a0_0) := (kc Bg2.out 0).trans rfl; have hfp0 := kf Bg2.out 0; have hcp1 : w4.cell? ⟨g2, 1, none⟩ = some (.slice A0_1 l0_1.length c0_1) := (kc Bg2.out 1).trans rfl; have hfp1 := kf Bg2.out 1) | ((with_reducible refine gate_callee (f := 25) rfl ?_); refine zC (some 7) rfl rfl Try.func25 rfl #[.agg #[.string a0_0, .slice A0_1 l0_1.length c0_1]] rfl ?_; (with_reducible refine (impl_copyMemory.calls a0_0 _ _ l0_1 t1 t2 _ ?side1 ?side2 A1.out).mono ?_); (case side1 => exact (cb HR0_1.out HB.out)); (case side2 => exact HC0_1.out); rintro e w6 ⟨v6, rfl, ho0, hb⟩; obtain ⟨A5, c5, rfl⟩ := Kd.R_slice ho0; refine ⟨_, rfl, ?_⟩; have n0_ := Am (Kd.R_lower ho0 (bz HB.out)); have n1_ := Am (bq HB.out hb); have n2_ := Am (kb Bg2.out hb); have n3_ := Am (kb Bg4.out hb); clear HB Bg2 Bg4; have HO := n0_; have HB := n1_; have Bg2 := n2_; have Bg4 := n3_; clear n0_ n1_ n2_ n3_ ho0 hb) | ((with_reducible refine gate_dst (N := 5) rfl ?_); (try (refine gate_guard (by rfl) ?_; dsimp only)); refine box_event ?hg (N := 5) ?hd (cs := #[.string (⟨#[]⟩ : ByteArray), .slice none 0 0]) (t := 28) ?hr ?_; (case hd => rfl); (case hg => rfl); (case hr => first | (go_simp; done) | (go_simp; rfl)); intro g5 hg w7 hbox hb; have n0_ := Am (bq (by repeat (first | (with_reducible first | exact HB.out | apply ba | apply bn | apply be | refine bs ?_ (Aside0.out (by assumption))) | exact HB.out)) hb); have n1_ := Am hbox; have Gg5 := Am (by rw [hg]; exact (bz (by repeat (first | (with_reducible first | exact HB.out | apply ba | apply bn | apply be | refine bs ?_ (Aside0.out (by assumption))) | exact HB.out))) : w.heap.size ≤ g5); have Ng2_g5 := Am (by rw [hg]; exact Nat.ne_of_lt (kl Bg2.out) : g2 ≠ g5); have mBg2_ := Am (kb Bg2.out hb); have Ng4_g5 := Am (by rw [hg]; exact Nat.ne_of_lt (kl Bg4.out) : g4 ≠ g5); have mBg4_ := Am (kb Bg4.out hb); have nO_ := Am (by rw [hg]; exact rb (Kd.R_elderB HO.out _ (Nat.le_refl _)) hb : Kd.R k49 49 w7 w.heap.size (fun k => True ∧ k ≠ g5) (.slice A5 t2.length c5) t2); clear HO; have HO := nO_; clear nO_; clear HB Bg2 Bg4; have HB := n0_; have Bg5 := n1_; have Bg2 := mBg2_; have Bg4 := mBg4_; clear n0_ n1_ mBg2_ mBg4_ hb hbox hg; have hco0 : w7.cell? ⟨g5, 0, none⟩ = some (.string (⟨#[]⟩ : ByteArray)) := (kc Bg5.out 0).trans rfl; have hfo0 := kf Bg5.out 0; have hco1 : w7.cell? ⟨g5, 1, none⟩ = some (.slice none 0 0) := (kc Bg5.out 1).trans rfl; have hfo1 := kf Bg5.out 1; have hcq0 : w7.cell? ⟨g2, 0, none⟩ = some (.string a0_0) := (kc Bg2.out 0).trans rfl; have hfq0 := kf Bg2.out 0; have hcq1 : w7.cell? ⟨g2, 1, none⟩ = some (.slice A0_1 l0_1.length c0_1) := (kc Bg2.out 1).trans rfl; have hfq1 := kf Bg2.out 1; have hn25 := Ng2_g5.out; have hn52 := Ng2_g5.out.symm) | ((with_reducible refine gate_callee (f := 26) rfl ?_); refine zC (some 9) rfl rfl Try.func26 rfl #[.agg #[.string a0_0, .slice A0_1 l0_1.length c0_1]] rfl ?_; (with_reducible refine (impl_MemoryOk.calls k a0_0 _ _ l0_1 false _ ?side1 ?side2 A2.out).mono ?_); (case side1 => exact (cb HR0_1.out (bs (bs HB.out Gg5.out) Gg5.out))); (case side2 => exact HC0_1.out); rintro e w10 ⟨rfl, hb⟩; refine ⟨_, rfl, ?_⟩; have n0_ := Am (rb (Kd.R_far (p := ⟨g5, 1, none⟩) (Kd.R_far (p := ⟨g5, 0, none⟩) HO.out (fun _ hk => hk.2) (.string t1)) (fun _ hk => hk.2) (.slice A5 t2.length c5)) hb); have n1_ := Am (bq (bs (bs HB.out Gg5.out) Gg5.out) hb); have n4_ := Am (kb (blk_far (blk_far Bg4.out Ng4_g5.out _) Ng4_g5.out _) hb); have n5_ := Am (kb (kp (cs := #[.string t1, .slice none 0 0]) (kp (cs := #[.string (⟨#[]⟩ : ByteArray), .slice none 0 0]) Bg5.out 0 (.string t1) (by rfl)) 1 (.slice A5 t2.length c5) (by rfl)) hb); clear HB HO Bg4 Bg5; have HO := n0_; have HB := n1_; have Bg4 := n4_; have Bg5 := n5_; clear n0_ n1_ n4_ n5_ hb; have hcr0 : w10.cell? ⟨g5, 0, none⟩ = some (.string t1) := (kc Bg5.out 0).trans rfl; have hfr0 := kf Bg5.out 0; have hcr1 : w10.cell? ⟨g5, 1, none⟩ = some (.slice A5 t2.length c5) := (kc Bg5.out 1).trans rfl; have hfr1 := kf Bg5.out 1; have hcs0 : w10.cell? ⟨g4, 0, none⟩ = some (.string (⟨#[]⟩ : ByteArray)) := (kc Bg4.out 0).trans rfl; have hfs0 := kf Bg4.out 0; have hcs1 : w10.cell? ⟨g4, 1, none⟩ = some (.slice none 0 0) := (kc Bg4.out 1).trans rfl; have hfs1 := kf Bg4.out 1; have hn45 := Ng4_g5.out; have hn54 := Ng4_g5.out.symm))
  refine bodyPost_ret (results_cell_row rfl _ _ g4 28 #[.string t1, .slice A5 t2.length c5] (0, 0) _ rfl (by (with_reducible repeat (first | refine kn ?_ _ | refine ke ?_ | refine ka ?_ _)); refine kp (cs := #[.string t1, .slice none 0 0]) ?_ 1 _ rfl; (with_reducible repeat (first | refine kn ?_ _ | refine ke ?_ | refine ka ?_ _)); refine kp (cs := #[.string (⟨#[]⟩ : ByteArray), .slice none 0 0]) ?_ 0 _ rfl; (with_reducible repeat (first | refine kn ?_ _ | refine ke ?_ | refine ka ?_ _)); exact Bg4.out) Try.underlying28 rfl (by kernel_rfl)) rfl ?_
  exact ⟨_, rfl, by (with_reducible repeat (first | apply ra | apply rn | apply re)); exact Kd.R_mono (Kd.R_far (p := ⟨g4, 1, none⟩) (Kd.R_far (p := ⟨g4, 0, none⟩) (Kd.R_types HO.out Bg4.out (by decide)) (fun _ hk => hk.2) (.string t1)) (fun _ hk => hk.2) (.slice A5 t2.length c5)) (fun _ hk => trivial), bs (bs HB.out Gg4.out) Gg4.out⟩
theorem impl_FallenMemory.mono : ∀ a0_0 l0_1 a1 k, LeO (impl_FallenMemory.f k a0_0 l0_1 a1) (impl_FallenMemory.f (k + 1) a0_0 l0_1 a1) := by
 intro a0_0 l0_1 a1 k
 unfold impl_FallenMemory.f
 refine LeO.bind (LeO.refl _) (fun bt => LeO.bind (impl_MemoryOk.mono _ _ _) (fun t => LeO.refl _))

/-! ### laws_eqCell: function 46 -/
def laws_eqCell.f (a0_0 : Int) (a0_1 : ByteArray) (a0_2 : Bool) (a1_0 : Int) (a1_1 : ByteArray) (a1_2 : Bool) : Option (Bool) := if a0_0 = a1_0 then (if a0_1.toList = a1_1.toList then (if (a0_2 != a1_2) = true then (some false) else (some true)) else (some false)) else (some false)
set_option maxHeartbeats 8000000 in
set_option maxRecDepth 100000 in
theorem laws_eqCell.calls (a0_0 : Int) (a0_1 : ByteArray) (a0_2 : Bool) (a1_0 : Int) (a1_1 : ByteArray) (a1_2 : Bool) (r : Bool) (w : World) (h : laws_eqCell.f a0_0 a0_1 a0_2 a1_0 a1_1 a1_2 = some r) :
  Calls Try.prog 46 #[.agg #[.int .i64 a0_0, .string a0_1, .bool a0_2], .agg #[.int .i64 a1_0, .string a1_1, .bool a1_2]] w fun e w' => e = .returned (.bool r) ∧ Below w.heap.size w w' := by
 have hu49 := Try.underlying49
 have HB := Am (Below.refl w.heap.size w)
 have H : (if a0_0 = a1_0 then (if a0_1.toList = a1_1.toList then (if (a0_2 != a1_2) = true then (some false) else (some true)) else (some false)) else (some false)) = some r := h
 clear h
 by_cases c3 : a0_0 = a1_0
 ·rw [if_pos c3] at H
  have c3b0 : (a0_0 == a1_0) = true := beq_iff_eq.mpr c3
  have c3b1 : (a0_0 != a1_0) = false := bne_eq_false_iff_eq.mpr c3
  clear c3
  by_cases c4 : a0_1.toList = a1_1.toList
  ·rw [if_pos c4] at H
   have c4b0 : (a0_1.toList == a1_1.toList) = true := beq_iff_eq.mpr c4
   have c4b1 : (a0_1.toList != a1_1.toList) = false := bne_eq_false_iff_eq.mpr c4
   clear c4
   by_cases c5 : (a0_2 != a1_2) = true
   ·rw [if_pos c5] at H
    have c5b0 : (a0_2 != a1_2) = true := c5
    (try (have c5b1 : decide (a0_2 = a1_2) = false := by simpa using c5))
    (try (have c5b2 : (a0_2 == a1_2) = false := by simpa using c5))
    (try (have c5b3 : ¬ (a0_2 = a1_2) := by simpa using c5))
    clear c5
    obtain rfl := Option.some.inj H
    go_enter Try.func46, Try.ntmps46
    go_wp2_with (first | ((with_reducible refine gate_dst (N := 2) rfl ?_); refine box_event ?hg (N := 2) ?hd (cs := #[.int .i64 a0_0, .string a0_1, .bool a0_2]) (t := 49) ?hr ?_; (case hd => rfl); (case hg => rfl); (case hr => first | (go_simp; done) | (go_simp; rfl)); intro gb169 hg w6 hbox hb; have BK169 := Am (hbox); have GW169 := Am ((by rw [hg]; exact (bz zB) : w.heap.size ≤ gb169)); have GE169 := Am ((by rw [hg]; exact (bz zB) : w.heap.size ≤ gb169)); replace HB := Am (bq zB hb); clear hb hbox hg) | ((with_reducible refine gate_dst (N := 3) rfl ?_); refine box_event ?hg (N := 3) ?hd (cs := #[.int .i64 a1_0, .string a1_1, .bool a1_2]) (t := 49) ?hr ?_; (case hd => rfl); (case hg => rfl); (case hr => first | (go_simp; done) | (go_simp; rfl)); intro gb170 hg w7 hbox hb; have n0_ := Am (zK BK169 hb); have n1_ := Am (bq zG hb); have n2_ := Am (hbox); have n3_ := Am ((by rw [hg]; exact (bz zG) : w.heap.size ≤ gb170)); have n4_ := Am ((by rw [hg]; exact (bz zG) : w.heap.size ≤ gb170)); have n5_ := Am ((by rw [hg]; exact Nat.ne_of_lt (zL BK169) : gb169 ≠ gb170)); have n6_ := Am ((by rw [hg]; exact Nat.ne_of_gt (zL BK169) : gb170 ≠ gb169)); clear BK169; clear HB; have BK169 := n0_; have HB := n1_; have BK170 := n2_; have GW170 := n3_; have GE170 := n4_; have NB169_170 := n5_; have NB170_169 := n6_; clear n0_ n1_ n2_ n3_ n4_ n5_ n6_; clear hb hbox hg; have hnb8 := NB169_170.out; have hnc8 := NB170_169.out; obtain ⟨hcz9_0, hcz9_1, hcz9_2⟩ := kc3 (w := w7) BK169.out; have hfz9_0 := kf BK169.out; obtain ⟨hcz10_0, hcz10_1, hcz10_2⟩ := kc3 (w := w7) BK170.out; have hfz10_0 := kf BK170.out))
    go_ret
    exact ⟨zR, zG⟩
   ·rw [if_neg c5] at H
    have c5b0 : (a0_2 != a1_2) = false := by simpa using c5
    (try (have c5b1 : decide (a0_2 = a1_2) = true := by simpa using c5))
    (try (have c5b2 : (a0_2 == a1_2) = true := by simpa using c5))
    clear c5
    obtain rfl := Option.some.inj H
    go_enter Try.func46, Try.ntmps46
    go_wp2_with (first | ((with_reducible refine gate_dst (N := 2) rfl ?_); refine box_event ?hg (N := 2) ?hd (cs := #[.int .i64 a0_0, .string a0_1, .bool a0_2]) (t := 49) ?hr ?_; (case hd => rfl); (case hg => rfl); (case hr => first | (go_simp; done) | (go_simp; rfl)); intro gb169 hg w11 hbox hb; have BK169 := Am (hbox); have GW169 := Am ((by rw [hg]; exact (bz zB) : w.heap.size ≤ gb169)); have GE169 := Am ((by rw [hg]; exact (bz zB) : w.heap.size ≤ gb169)); replace HB := Am (bq zB hb); clear hb hbox hg) | ((with_reducible refine gate_dst (N := 3) rfl ?_); refine box_event ?hg (N := 3) ?hd (cs := #[.int .i64 a1_0, .string a1_1, .bool a1_2]) (t := 49) ?hr ?_; (case hd => rfl); (case hg => rfl); (case hr => first | (go_simp; done) | (go_simp; rfl)); intro gb170 hg w12 hbox hb; have n0_ := Am (zK BK169 hb); have n1_ := Am (bq zG hb); have n2_ := Am (hbox); have n3_ := Am ((by rw [hg]; exact (bz zG) : w.heap.size ≤ gb170)); have n4_ := Am ((by rw [hg]; exact (bz zG) : w.heap.size ≤ gb170)); have n5_ := Am ((by rw [hg]; exact Nat.ne_of_lt (zL BK169) : gb169 ≠ gb170)); have n6_ := Am ((by rw [hg]; exact Nat.ne_of_gt (zL BK169) : gb170 ≠ gb169)); clear BK169; clear HB; have BK169 := n0_; have HB := n1_; have BK170 := n2_; have GW170 := n3_; have GE170 := n4_; have NB169_170 := n5_; have NB170_169 := n6_; clear n0_ n1_ n2_ n3_ n4_ n5_ n6_; clear hb hbox hg; have hnb13 := NB169_170.out; have hnc13 := NB170_169.out; obtain ⟨hcz14_0, hcz14_1, hcz14_2⟩ := kc3 (w := w12) BK169.out; have hfz14_0 := kf BK169.out; obtain ⟨hcz15_0, hcz15_1, hcz15_2⟩ := kc3 (w := w12) BK170.out; have hfz15_0 := kf BK170.out))
    go_ret
    exact ⟨zR, zG⟩
  ·rw [if_neg c4] at H
   have c4b0 : (a0_1.toList == a1_1.toList) = false := beq_eq_false_iff_ne.mpr c4
   have c4b1 : (a0_1.toList != a1_1.toList) = true := bne_iff_ne.mpr c4
   obtain rfl := Option.some.inj H
   go_enter Try.func46, Try.ntmps46
   go_wp2_with (first | ((with_reducible refine gate_dst (N := 2) rfl ?_); refine box_event ?hg (N := 2) ?hd (cs := #[.int .i64 a0_0, .string a0_1, .bool a0_2]) (t := 49) ?hr ?_; (case hd => rfl); (case hg => rfl); (case hr => first | (go_simp; done) | (go_simp; rfl)); intro gb169 hg w16 hbox hb; have BK169 := Am (hbox); have GW169 := Am ((by rw [hg]; exact (bz zB) : w.heap.size ≤ gb169)); have GE169 := Am ((by rw [hg]; exact (bz zB) : w.heap.size ≤ gb169)); replace HB := Am (bq zB hb); clear hb hbox hg) | ((with_reducible refine gate_dst (N := 3) rfl ?_); refine box_event ?hg (N := 3) ?hd (cs := #[.int .i64 a1_0, .string a1_1, .bool a1_2]) (t := 49) ?hr ?_; (case hd => rfl); (case hg => rfl); (case hr => first | (go_simp; done) | (go_simp; rfl)); intro gb170 hg w17 hbox hb; have n0_ := Am (zK BK169 hb); have n1_ := Am (bq zG hb); have n2_ := Am (hbox); have n3_ := Am ((by rw [hg]; exact (bz zG) : w.heap.size ≤ gb170)); have n4_ := Am ((by rw [hg]; exact (bz zG) : w.heap.size ≤ gb170)); have n5_ := Am ((by rw [hg]; exact Nat.ne_of_lt (zL BK169) : gb169 ≠ gb170)); have n6_ := Am ((by rw [hg]; exact Nat.ne_of_gt (zL BK169) : gb170 ≠ gb169)); clear BK169; clear HB; have BK169 := n0_; have HB := n1_; have BK170 := n2_; have GW170 := n3_; have GE170 := n4_; have NB169_170 := n5_; have NB170_169 := n6_; clear n0_ n1_ n2_ n3_ n4_ n5_ n6_; clear hb hbox hg; have hnb18 := NB169_170.out; have hnc18 := NB170_169.out; obtain ⟨hcz19_0, hcz19_1, hcz19_2⟩ := kc3 (w := w17) BK169.out; have hfz19_0 := kf BK169.out; obtain ⟨hcz20_0, hcz20_1, hcz20_2⟩ := kc3 (w := w17) BK170.out; have hfz20_0 := kf BK170.out))
   go_ret
   exact ⟨zR, zG⟩
 ·rw [if_neg c3] at H
  have c3b0 : (a0_0 == a1_0) = false := beq_eq_false_iff_ne.mpr c3
  have c3b1 : (a0_0 != a1_0) = true := bne_iff_ne.mpr c3
  obtain rfl := Option.some.inj H
  go_enter Try.func46, Try.ntmps46
  go_wp2_with (first | ((with_reducible refine gate_dst (N := 2) rfl ?_); refine box_event ?hg (N := 2) ?hd (cs := #[.int .i64 a0_0, .string a0_1, .bool a0_2]) (t := 49) ?hr ?_; (case hd => rfl); (case hg => rfl); (case hr => first | (go_simp; done) | (go_simp; rfl)); intro gb169 hg w21 hbox hb; have BK169 := Am (hbox); have GW169 := Am ((by rw [hg]; exact (bz zB) : w.heap.size ≤ gb169)); have GE169 := Am ((by rw [hg]; exact (bz zB) : w.heap.size ≤ gb169)); replace HB := Am (bq zB hb); clear hb hbox hg) | ((with_reducible refine gate_dst (N := 3) rfl ?_); refine box_event ?hg (N := 3) ?hd (cs := #[.int .i64 a1_0, .string a1_1, .bool a1_2]) (t := 49) ?hr ?_; (case hd => rfl); (case hg => rfl); (case hr => first | (go_simp; done) | (go_simp; rfl)); intro gb170 hg w22 hbox hb; have n0_ := Am (zK BK169 hb); have n1_ := Am (bq zG hb); have n2_ := Am (hbox); have n3_ := Am ((by rw [hg]; exact (bz zG) : w.heap.size ≤ gb170)); have n4_ := Am ((by rw [hg]; exact (bz zG) : w.heap.size ≤ gb170)); have n5_ := Am ((by rw [hg]; exact Nat.ne_of_lt (zL BK169) : gb169 ≠ gb170)); have n6_ := Am ((by rw [hg]; exact Nat.ne_of_gt (zL BK169) : gb170 ≠ gb169)); clear BK169; clear HB; have BK169 := n0_; have HB := n1_; have BK170 := n2_; have GW170 := n3_; have GE170 := n4_; have NB169_170 := n5_; have NB170_169 := n6_; clear n0_ n1_ n2_ n3_ n4_ n5_ n6_; clear hb hbox hg; have hnb23 := NB169_170.out; have hnc23 := NB170_169.out; obtain ⟨hcz24_0, hcz24_1, hcz24_2⟩ := kc3 (w := w22) BK169.out; have hfz24_0 := kf BK169.out; obtain ⟨hcz25_0, hcz25_1, hcz25_2⟩ := kc3 (w := w22) BK170.out; have hfz25_0 := kf BK170.out))
  go_ret
  exact ⟨zR, zG⟩

/-! ### laws_eqCellS: function 28 -/
def laws_eqCellS.l0 : Nat → List (S49) → List (S49) → Int → Option (Bool)
 | 0, _, _, _ => none
 | k + 1, x0, x1, x5 => if x5 < (x0.length : Int) then (if 0 ≤ x5 then (if x5 < (x1.length : Int) then ((laws_eqCell.f ((rd_T49 x0 x5).f0) ((rd_T49 x0 x5).f1) ((rd_T49 x0 x5).f2) ((rd_T49 x1 x5).f0) ((rd_T49 x1 x5).f1) ((rd_T49 x1 x5).f2)).bind fun t173 => (if t173 = true then (laws_eqCellS.l0 k x0 x1 (wrap64 (x5 + 1))) else (some false))) else (none)) else (none)) else (some true)
def laws_eqCellS.f (k : Nat) (l0 : List (S49)) (l1 : List (S49)) : Option (Bool) := if (l0.length : Int) = (l1.length : Int) then (laws_eqCellS.l0 k l0 l1 0) else (some false)
theorem laws_eqCellS.mono_l : ∀ k, (∀ y0 y1 y2, LeO (laws_eqCellS.l0 k y0 y1 y2) (laws_eqCellS.l0 (k + 1) y0 y1 y2))
 | 0 => fun _ _ _ r h => by simp [laws_eqCellS.l0] at h
 | k + 1 => by
  have ih0 := laws_eqCellS.mono_l k
  ·intro y0 y1 y2
   unfold laws_eqCellS.l0
   repeat' first
   | (with_reducible exact ih0 _ _ _)
   | (with_reducible exact LeO.refl _)
   | (with_reducible exact LeO.none _)
   | (with_reducible refine LeO.ite ?_ ?_)
   | (with_reducible refine LeO.bind ?_ (fun _ => ?_))
   | exact ih0 _ _ _
   | exact LeO.none _
   | refine LeO.ite ?_ ?_
   | refine LeO.bind ?_ (fun _ => ?_)
theorem laws_eqCellS.mono : ∀ a0 a1 k, LeO (laws_eqCellS.f k a0 a1) (laws_eqCellS.f (k + 1) a0 a1) := by
 intro a0 a1 k
 have ih0 := laws_eqCellS.mono_l k
 unfold laws_eqCellS.f
 repeat' first
   | (with_reducible exact ih0 _ _ _)
   | (with_reducible exact LeO.refl _)
   | (with_reducible exact LeO.none _)
   | (with_reducible refine LeO.ite ?_ ?_)
   | (with_reducible refine LeO.bind ?_ (fun _ => ?_))
   | exact ih0 _ _ _
   | exact LeO.none _
   | refine LeO.ite ?_ ?_
   | refine LeO.bind ?_ (fun _ => ?_)
def laws_eqCellS.T6 : Bool × List (List Nat × List Nat) := (true, [([], []), ([], []), ([0, 1], [0, 1]), ([2], [2]), ([], []), ([], []), ([4, 5], [4, 5]), ([6], [6]), ([3, 7], [3, 7]), ([8], [8])])
def laws_eqCellS.B6 : List Nat := [0, 0, 3, 7, 0, 0, 48, 112, 255, 511]
theorem laws_eqCellS.tab6 : rtab .any (opsOf Try.f28 6) = laws_eqCellS.T6 := by kernel_rfl
theorem laws_eqCellS.bits6 : waitsOk laws_eqCellS.T6.2 laws_eqCellS.B6 = true := by kernel_rfl
set_option maxHeartbeats 8000000 in
set_option maxRecDepth 100000 in
theorem laws_eqCellS.calls (k : Nat) (A0 : Option Addr) (c0 : Nat) (l0 : List (S49)) (A1 : Option Addr) (c1 : Nat) (l1 : List (S49)) (r : Bool) (w : World) (hr0 : Kd.C k49 w A0 l0.length l0) (hc0 : l0.length ≤ c0) (hr1 : Kd.C k49 w A1 l1.length l1) (hc1 : l1.length ≤ c1) (h : laws_eqCellS.f k l0 l1 = some r) :
  Calls Try.prog 28 #[.slice A0 l0.length c0, .slice A1 l1.length c1] w fun e w' => e = .returned (.bool r) ∧ Below w.heap.size w w' := by
 have hu49 := Try.underlying49
 have HR0 := Am hr0
 have HC0 := Am hc0
 clear hr0 hc0
 have HR1 := Am hr1
 have HC1 := Am hc1
 clear hr1 hc1
 have HB := Am (Below.refl w.heap.size w)
 have H : (if (l0.length : Int) = (l1.length : Int) then (laws_eqCellS.l0 k l0 l1 0) else (some false)) = some r := h
 clear h
 by_cases c3 : (l0.length : Int) = (l1.length : Int)
 ·rw [if_pos c3] at H
  have c3b0 : ((l0.length : Int) == (l1.length : Int)) = true := beq_iff_eq.mpr c3
  have c3b1 : ((l0.length : Int) != (l1.length : Int)) = false := bne_eq_false_iff_eq.mpr c3
  have c3b2 : (l0.length == l1.length) = true := by first | simpa using c3 | (simp at c3 ⊢; omega)
  clear c3
  have H' := Am H
  clear H
  go_enter Try.func28, Try.ntmps28
  go_wp2
  go_loopg [5] k (fun kq v5 w' => ∃ (x5_1 : Int), v5 = .int .i64 x5_1 ∧ Aside0 (laws_eqCellS.l0 kq l0 l1 x5_1 = some r) ∧ Aside0 (kq ≤ k) ∧ Aside0 (Below w.heap.size w w'))
  case atStart => exact ⟨(0), (by first | rfl | (simp; done) | (simp [*]; done)), H', ⟨Nat.le_refl _⟩, ⟨zB⟩⟩
  case round =>
   clear H'
   try clear c1; try clear c2; try clear p2; try clear c3; try clear c3b0; try clear c3b1; try clear c3b2
   obtain ⟨x5_1, rfl, HA, HK1, HB⟩ := hrel
   cases gk with
   | zero => exact absurd HA.out (by simp [laws_eqCellS.l0])
   | succ k1 =>
    have H := HA.out
    clear HA
    simp only [laws_eqCellS.l0] at H
    by_cases c4 : x5_1 < (l0.length : Int)
    ·rw [if_pos c4] at H
     have c4b0 : decide (x5_1 < (l0.length : Int)) = true := decide_eq_true c4
     clear c4
     by_cases c5 : 0 ≤ x5_1
     ·rw [if_pos c5] at H
      have c5b0 : decide (0 ≤ x5_1) = true := decide_eq_true c5
      clear c5
      by_cases c6 : x5_1 < (l1.length : Int)
      ·rw [if_pos c6] at H
       have c6b0 : decide (x5_1 < (l1.length : Int)) = true := decide_eq_true c6
       clear c6
       replace H := Option.bind_eq_some_iff.mp H
       obtain ⟨t173, A70, H⟩ := H
       replace H : (if t173 = true then (laws_eqCellS.l0 k1 l0 l1 (wrap64 (x5_1 + 1))) else (some false)) = some r := H
       have A7 := Am A70
       clear A70
       by_cases c8 : t173 = true
       ·subst c8
        have H1 : (laws_eqCellS.l0 k1 l0 l1 (wrap64 (x5_1 + 1))) = some r := by rw [if_pos rfl] at H; exact H
        clear H
        have H := H1
        clear H1
        have H' := Am H
        clear H
        try go_wp2
        have n0_ := Am (be HB.out)
        clear HB
        have HB := n0_
        clear n0_
        have p171 : 0 ≤ (x5_1 : Int) := of_decide_eq_true (by first | (with_reducible assumption) | assumption)
        have q171 : x5_1 < (l0.length : Int) := of_decide_eq_true (by first | (with_reducible assumption) | assumption)
        obtain ⟨ad171, e171, hx171_0, hx171_1, hx171_2⟩ := at_T49 HR0.out x5_1 p171 q171
        have hw171_2 := hx171_2
        have hw171_1 := hx171_1
        have hw171_0 := hx171_0
        cases e171
        replace hx171_0 := cl6 HB hx171_0
        replace hx171_1 := cl6 HB hx171_1
        replace hx171_2 := cl6 HB hx171_2
        replace p171 := eq_true p171
        replace q171 := eq_true q171
        have p172 : 0 ≤ (x5_1 : Int) := of_decide_eq_true (by first | (with_reducible assumption) | assumption)
        have q172 : x5_1 < (l1.length : Int) := of_decide_eq_true (by first | (with_reducible assumption) | assumption)
        obtain ⟨ad172, e172, hx172_0, hx172_1, hx172_2⟩ := at_T49 HR1.out x5_1 p172 q172
        have hw172_2 := hx172_2
        have hw172_1 := hx172_1
        have hw172_0 := hx172_0
        cases e172
        replace hx172_0 := cl6 HB hx172_0
        replace hx172_1 := cl6 HB hx172_1
        replace hx172_2 := cl6 HB hx172_2
        replace p172 := eq_true p172
        replace q172 := eq_true q172
        refine start_ (n := 10) (S := fun w' => w'.cell? (ad171.add ((x5_1).toNat * 3)) = some (.int .i64 ((rd_T49 l0 x5_1).f0)) ∧ w'.cell? ⟨(ad171.add ((x5_1).toNat * 3)).block, (ad171.add ((x5_1).toNat * 3)).off + 1, none⟩ = some (.string ((rd_T49 l0 x5_1).f1)) ∧ w'.cell? ⟨(ad171.add ((x5_1).toNat * 3)).block, (ad171.add ((x5_1).toNat * 3)).off + 2, none⟩ = some (.bool ((rd_T49 l0 x5_1).f2)) ∧ w'.cell? (ad172.add ((x5_1).toNat * 3)) = some (.int .i64 ((rd_T49 l1 x5_1).f0)) ∧ w'.cell? ⟨(ad172.add ((x5_1).toNat * 3)).block, (ad172.add ((x5_1).toNat * 3)).off + 1, none⟩ = some (.string ((rd_T49 l1 x5_1).f1)) ∧ w'.cell? ⟨(ad172.add ((x5_1).toNat * 3)).block, (ad172.add ((x5_1).toNat * 3)).off + 2, none⟩ = some (.bool ((rd_T49 l1 x5_1).f2))) (ds := []) #[false, false, false, false, false, false, false, false, false, false] (by kernel_rfl) rfl rfl ⟨(cl6 HB hw171_0), (cl6 HB hw171_1), (cl6 HB hw171_2), (cl6 HB hw172_0), (cl6 HB hw172_1), (cl6 HB hw172_2)⟩ (fun hHeld => ?_); refine with_tabW laws_eqCellS.tab6 laws_eqCellS.bits6 (fun HT_ HW_ => ?_)
        generalize wr.drew = w9 at HB hx171_0 hx171_1 hx171_2 hx172_0 hx172_1 hx172_2 hHeld ⊢
        refine zA 0 (some 17) HT_.out rfl rfl ?_
        refine zA 1 (some 18) HT_.out rfl rfl ?_
        refine zA 2 (some 19) HT_.out rfl rfl ?_
        refine zA 4 (some 21) HT_.out rfl rfl ?_
        refine zA 5 (some 22) HT_.out rfl rfl ?_
        refine zA 6 (some 23) HT_.out rfl rfl ?_
        refine zT 3 (some 20) HT_.out HW_.out rfl rfl hHeld ?_
        refine zT 7 (some 24) HT_.out HW_.out rfl rfl hHeld ?_
        refine zO 8 (some 25) HT_.out rfl rfl (fun K hK => ?_)
        refine goes_ Try.func46 (by kernel_rfl) rfl #[.agg #[.int .i64 ((rd_T49 l0 x5_1).f0), .string ((rd_T49 l0 x5_1).f1), .bool ((rd_T49 l0 x5_1).f2)], .agg #[.int .i64 ((rd_T49 l1 x5_1).f0), .string ((rd_T49 l1 x5_1).f1), .bool ((rd_T49 l1 x5_1).f2)]] (by rfl) rfl rfl (by (try simp only [List.map_toArray, List.map_cons, List.map_nil]); first | done | rfl | (simp only [List.length_drop, List.length_take]; rfl)) ?_
        with_reducible refine (laws_eqCell.calls ((rd_T49 l0 x5_1).f0) ((rd_T49 l0 x5_1).f1) ((rd_T49 l0 x5_1).f2) ((rd_T49 l1 x5_1).f0) ((rd_T49 l1 x5_1).f1) ((rd_T49 l1 x5_1).f2) true _ A7.out).mono ?_
        rintro e w10 ⟨rfl, hb⟩
        refine ⟨_, rfl, ?_⟩
        have n0_ := Am (bq zB hb)
        clear HB
        have HB := n0_
        clear n0_
        (try clear hb)
        (try clear hb2)
        (try clear hk)
        (try clear hi)
        refine hK.out _ _ ⟨(cl6 HB hw171_0 :), (cl6 HB hw171_1 :), (cl6 HB hw171_2 :), (cl6 HB hw172_0 :), (cl6 HB hw172_1 :), (cl6 HB hw172_2 :)⟩ (fun hHeld => ?_)
        clear hK K
        refine zN (some 25) ?_
        refine zA 9 (some 26) HT_.out rfl rfl ?_
        refine done_ (done_of HT_.out (by kernel_rfl)) ?_
        try go_wp2
        go_roundg k1
        case measure => have := HK1.out; omega
        case rel => exact ⟨(wrap64 (x5_1 + 1)), (by first | rfl | (simp; done) | (simp [*]; done)), H', ⟨by have := HK1.out; omega⟩, ⟨zB⟩⟩
       ·replace c8 := Bool.eq_false_iff.mpr c8
        subst c8
        have H1 : (some false) = some r := by rw [if_neg (show ¬ (false = true) by decide)] at H; exact H
        clear H
        have H := H1
        clear H1
        obtain rfl := Option.some.inj H
        try go_wp2
        have n0_ := Am (be HB.out)
        clear HB
        have HB := n0_
        clear n0_
        have p171 : 0 ≤ (x5_1 : Int) := of_decide_eq_true (by first | (with_reducible assumption) | assumption)
        have q171 : x5_1 < (l0.length : Int) := of_decide_eq_true (by first | (with_reducible assumption) | assumption)
        obtain ⟨ad171, e171, hx171_0, hx171_1, hx171_2⟩ := at_T49 HR0.out x5_1 p171 q171
        have hw171_2 := hx171_2
        have hw171_1 := hx171_1
        have hw171_0 := hx171_0
        cases e171
        replace hx171_0 := cl6 HB hx171_0
        replace hx171_1 := cl6 HB hx171_1
        replace hx171_2 := cl6 HB hx171_2
        replace p171 := eq_true p171
        replace q171 := eq_true q171
        have p172 : 0 ≤ (x5_1 : Int) := of_decide_eq_true (by first | (with_reducible assumption) | assumption)
        have q172 : x5_1 < (l1.length : Int) := of_decide_eq_true (by first | (with_reducible assumption) | assumption)
        obtain ⟨ad172, e172, hx172_0, hx172_1, hx172_2⟩ := at_T49 HR1.out x5_1 p172 q172
        have hw172_2 := hx172_2
        have hw172_1 := hx172_1
        have hw172_0 := hx172_0
        cases e172
        replace hx172_0 := cl6 HB hx172_0
        replace hx172_1 := cl6 HB hx172_1
        replace hx172_2 := cl6 HB hx172_2
        replace p172 := eq_true p172
        replace q172 := eq_true q172
        refine start_ (n := 10) (S := fun w' => w'.cell? (ad171.add ((x5_1).toNat * 3)) = some (.int .i64 ((rd_T49 l0 x5_1).f0)) ∧ w'.cell? ⟨(ad171.add ((x5_1).toNat * 3)).block, (ad171.add ((x5_1).toNat * 3)).off + 1, none⟩ = some (.string ((rd_T49 l0 x5_1).f1)) ∧ w'.cell? ⟨(ad171.add ((x5_1).toNat * 3)).block, (ad171.add ((x5_1).toNat * 3)).off + 2, none⟩ = some (.bool ((rd_T49 l0 x5_1).f2)) ∧ w'.cell? (ad172.add ((x5_1).toNat * 3)) = some (.int .i64 ((rd_T49 l1 x5_1).f0)) ∧ w'.cell? ⟨(ad172.add ((x5_1).toNat * 3)).block, (ad172.add ((x5_1).toNat * 3)).off + 1, none⟩ = some (.string ((rd_T49 l1 x5_1).f1)) ∧ w'.cell? ⟨(ad172.add ((x5_1).toNat * 3)).block, (ad172.add ((x5_1).toNat * 3)).off + 2, none⟩ = some (.bool ((rd_T49 l1 x5_1).f2))) (ds := []) #[false, false, false, false, false, false, false, false, false, false] (by kernel_rfl) rfl rfl ⟨(cl6 HB hw171_0), (cl6 HB hw171_1), (cl6 HB hw171_2), (cl6 HB hw172_0), (cl6 HB hw172_1), (cl6 HB hw172_2)⟩ (fun hHeld => ?_); refine with_tabW laws_eqCellS.tab6 laws_eqCellS.bits6 (fun HT_ HW_ => ?_)
        generalize wr.drew = w11 at HB hx171_0 hx171_1 hx171_2 hx172_0 hx172_1 hx172_2 hHeld ⊢
        refine zA 0 (some 17) HT_.out rfl rfl ?_
        refine zA 1 (some 18) HT_.out rfl rfl ?_
        refine zA 2 (some 19) HT_.out rfl rfl ?_
        refine zA 4 (some 21) HT_.out rfl rfl ?_
        refine zA 5 (some 22) HT_.out rfl rfl ?_
        refine zA 6 (some 23) HT_.out rfl rfl ?_
        refine zT 3 (some 20) HT_.out HW_.out rfl rfl hHeld ?_
        refine zT 7 (some 24) HT_.out HW_.out rfl rfl hHeld ?_
        refine zO 8 (some 25) HT_.out rfl rfl (fun K hK => ?_)
        refine goes_ Try.func46 (by kernel_rfl) rfl #[.agg #[.int .i64 ((rd_T49 l0 x5_1).f0), .string ((rd_T49 l0 x5_1).f1), .bool ((rd_T49 l0 x5_1).f2)], .agg #[.int .i64 ((rd_T49 l1 x5_1).f0), .string ((rd_T49 l1 x5_1).f1), .bool ((rd_T49 l1 x5_1).f2)]] (by rfl) rfl rfl (by (try simp only [List.map_toArray, List.map_cons, List.map_nil]); first | done | rfl | (simp only [List.length_drop, List.length_take]; rfl)) ?_
        with_reducible refine (laws_eqCell.calls ((rd_T49 l0 x5_1).f0) ((rd_T49 l0 x5_1).f1) ((rd_T49 l0 x5_1).f2) ((rd_T49 l1 x5_1).f0) ((rd_T49 l1 x5_1).f1) ((rd_T49 l1 x5_1).f2) false _ A7.out).mono ?_
        rintro e w12 ⟨rfl, hb⟩
        refine ⟨_, rfl, ?_⟩
        have n0_ := Am (bq zB hb)
        clear HB
        have HB := n0_
        clear n0_
        (try clear hb)
        (try clear hb2)
        (try clear hk)
        (try clear hi)
        refine hK.out _ _ ⟨(cl6 HB hw171_0 :), (cl6 HB hw171_1 :), (cl6 HB hw171_2 :), (cl6 HB hw172_0 :), (cl6 HB hw172_1 :), (cl6 HB hw172_2 :)⟩ (fun hHeld => ?_)
        clear hK K
        refine zN (some 25) ?_
        refine zA 9 (some 26) HT_.out rfl rfl ?_
        refine done_ (done_of HT_.out (by kernel_rfl)) ?_
        try go_wp2
        go_ret
        exact ⟨zR, zB⟩
      ·rw [if_neg c6] at H
       exact absurd H (by simp)
     ·rw [if_neg c5] at H
      exact absurd H (by simp)
    ·rw [if_neg c4] at H
     have c4b0 : decide (x5_1 < (l0.length : Int)) = false := decide_eq_false c4
     clear c4
     obtain rfl := Option.some.inj H
     go_wp2
     go_ret
     exact ⟨zR, zB⟩
 ·rw [if_neg c3] at H
  have c3b0 : ((l0.length : Int) == (l1.length : Int)) = false := beq_eq_false_iff_ne.mpr c3
  have c3b1 : ((l0.length : Int) != (l1.length : Int)) = true := bne_iff_ne.mpr c3
  have c3b2 : (l0.length == l1.length) = false := by first | simpa using c3 | (simp at c3 ⊢; omega)
  obtain rfl := Option.some.inj H
  go_enter Try.func28, Try.ntmps28
  go_wp2
  go_ret
  exact ⟨zR, zB⟩

/-! ### laws_eqMemory: function 9 -/
def laws_eqMemory.f (k : Nat) (a0_0 : ByteArray) (l0_1 : List (S49)) (a1_0 : ByteArray) (l1_1 : List (S49)) : Option (Bool) := if a0_0.toList = a1_0.toList then ((laws_eqCellS.f k l0_1 l1_1).bind fun t176 => (if t176 = true then (some true) else (some false))) else (some false)
theorem laws_eqMemory.mono : ∀ a0 a1 a2 a3 k, LeO (laws_eqMemory.f k a0 a1 a2 a3) (laws_eqMemory.f (k + 1) a0 a1 a2 a3) := by
 intro a0 a1 a2 a3 k
 unfold laws_eqMemory.f
 repeat' first
   | (with_reducible exact laws_eqCellS.mono _ _ _)
   | (with_reducible exact LeO.refl _)
   | (with_reducible exact LeO.none _)
   | (with_reducible refine LeO.ite ?_ ?_)
   | (with_reducible refine LeO.bind ?_ (fun _ => ?_))
   | exact laws_eqCellS.mono _ _ _
   | exact LeO.none _
   | refine LeO.ite ?_ ?_
   | refine LeO.bind ?_ (fun _ => ?_)
set_option maxHeartbeats 8000000 in
set_option maxRecDepth 100000 in
theorem laws_eqMemory.calls (k : Nat) (a0_0 : ByteArray) (A0_1 : Option Addr) (c0_1 : Nat) (l0_1 : List (S49)) (a1_0 : ByteArray) (A1_1 : Option Addr) (c1_1 : Nat) (l1_1 : List (S49)) (r : Bool) (w : World) (hr0_1 : Kd.C k49 w A0_1 l0_1.length l0_1) (hc0_1 : l0_1.length ≤ c0_1) (hr1_1 : Kd.C k49 w A1_1 l1_1.length l1_1) (hc1_1 : l1_1.length ≤ c1_1) (h : laws_eqMemory.f k a0_0 l0_1 a1_0 l1_1 = some r) :
  Calls Try.prog 9 #[.agg #[.string a0_0, .slice A0_1 l0_1.length c0_1], .agg #[.string a1_0, .slice A1_1 l1_1.length c1_1]] w fun e w' => e = .returned (.bool r) ∧ Below w.heap.size w w' := by
 have hu28 := Try.underlying28
 have HR0_1 := Am hr0_1
 have HC0_1 := Am hc0_1
 clear hr0_1 hc0_1
 have HR1_1 := Am hr1_1
 have HC1_1 := Am hc1_1
 clear hr1_1 hc1_1
 have HB := Am (Below.refl w.heap.size w)
 have H : (if a0_0.toList = a1_0.toList then ((laws_eqCellS.f k l0_1 l1_1).bind fun t176 => (if t176 = true then (some true) else (some false))) else (some false)) = some r := h
 clear h
 by_cases c3 : a0_0.toList = a1_0.toList
 ·rw [if_pos c3] at H
  have c3b0 : (a0_0.toList == a1_0.toList) = true := beq_iff_eq.mpr c3
  have c3b1 : (a0_0.toList != a1_0.toList) = false := bne_eq_false_iff_eq.mpr c3
  clear c3
  replace H := Option.bind_eq_some_iff.mp H
  obtain ⟨t176, A40, H⟩ := H
  replace H : (if t176 = true then (some true) else (some false)) = some r := H
  have A4 := Am A40
  clear A40
  by_cases c5 : t176 = true
  ·subst c5
   have H1 : (some true) = some r := by rw [if_pos rfl] at H; exact H
   clear H
   have H := H1
   clear H1
   obtain rfl := Option.some.inj H
   go_enter Try.func9, Try.ntmps9
   go_wp2_with (first | ((with_reducible refine gate_dst (N := 2) rfl ?_); refine box_event ?hg (N := 2) ?hd (cs := #[.string a0_0, .slice A0_1 l0_1.length c0_1]) (t := 28) ?hr ?_; (case hd => rfl); (case hg => rfl); (case hr => first | (go_simp; done) | (go_simp; rfl)); intro gb174 hg w6 hbox hb; have BK174 := Am (hbox); have GW174 := Am ((by rw [hg]; exact (bz zB) : w.heap.size ≤ gb174)); have GE174 := Am ((by rw [hg]; exact (bz zB) : w.heap.size ≤ gb174)); replace HB := Am (bq zB hb); clear hb hbox hg) | ((with_reducible refine gate_dst (N := 3) rfl ?_); refine box_event ?hg (N := 3) ?hd (cs := #[.string a1_0, .slice A1_1 l1_1.length c1_1]) (t := 28) ?hr ?_; (case hd => rfl); (case hg => rfl); (case hr => first | (go_simp; done) | (go_simp; rfl)); intro gb175 hg w7 hbox hb; have n0_ := Am (zK BK174 hb); have n1_ := Am (bq zG hb); have n2_ := Am (hbox); have n3_ := Am ((by rw [hg]; exact (bz zG) : w.heap.size ≤ gb175)); have n4_ := Am ((by rw [hg]; exact (bz zG) : w.heap.size ≤ gb175)); have n5_ := Am ((by rw [hg]; exact Nat.ne_of_lt (zL BK174) : gb174 ≠ gb175)); have n6_ := Am ((by rw [hg]; exact Nat.ne_of_gt (zL BK174) : gb175 ≠ gb174)); clear BK174; clear HB; have BK174 := n0_; have HB := n1_; have BK175 := n2_; have GW175 := n3_; have GE175 := n4_; have NB174_175 := n5_; have NB175_174 := n6_; clear n0_ n1_ n2_ n3_ n4_ n5_ n6_; clear hb hbox hg; have hnb8 := NB174_175.out; have hnc8 := NB175_174.out; obtain ⟨hcz9_0, hcz9_1⟩ := kc2 (w := w7) BK174.out; have hfz9_0 := kf BK174.out; obtain ⟨hcz10_0, hcz10_1⟩ := kc2 (w := w7) BK175.out; have hfz10_0 := kf BK175.out) | ((with_reducible refine gate_callee (f := 28) rfl ?_); refine zC (some 14) rfl rfl Try.func28 rfl #[.slice A0_1 l0_1.length c0_1, .slice A1_1 l1_1.length c1_1] rfl ?_; (with_reducible refine (laws_eqCellS.calls k _ _ l0_1 _ _ l1_1 true _ ?side1 ?side2 ?side3 ?side4 A4.out).mono ?_); (case side1 => repeat (first | exact (cb HR0_1.out HB.out) | (with_reducible first | refine ca ?_ _ | refine cn ?_ _ | refine ce ?_))); (case side2 => exact HC0_1.out); (case side3 => repeat (first | exact (cb HR1_1.out HB.out) | (with_reducible first | refine ca ?_ _ | refine cn ?_ _ | refine ce ?_))); (case side4 => exact HC1_1.out); rintro e w11 ⟨rfl, hb⟩; refine ⟨_, rfl, ?_⟩; have n0_ := Am (zK BK174 hb); have n1_ := Am (zK BK175 hb); have n2_ := Am (bq zG hb); clear BK174; clear BK175; clear HB; have BK174 := n0_; have BK175 := n1_; have HB := n2_; clear n0_ n1_ n2_; (try clear hb)))
   go_ret
   exact ⟨zR, zG⟩
  ·replace c5 := Bool.eq_false_iff.mpr c5
   subst c5
   have H1 : (some false) = some r := by rw [if_neg (show ¬ (false = true) by decide)] at H; exact H
   clear H
   have H := H1
   clear H1
   obtain rfl := Option.some.inj H
   go_enter Try.func9, Try.ntmps9
   go_wp2_with (first | ((with_reducible refine gate_dst (N := 2) rfl ?_); refine box_event ?hg (N := 2) ?hd (cs := #[.string a0_0, .slice A0_1 l0_1.length c0_1]) (t := 28) ?hr ?_; (case hd => rfl); (case hg => rfl); (case hr => first | (go_simp; done) | (go_simp; rfl)); intro gb174 hg w12 hbox hb; have BK174 := Am (hbox); have GW174 := Am ((by rw [hg]; exact (bz zB) : w.heap.size ≤ gb174)); have GE174 := Am ((by rw [hg]; exact (bz zB) : w.heap.size ≤ gb174)); replace HB := Am (bq zB hb); clear hb hbox hg) | ((with_reducible refine gate_dst (N := 3) rfl ?_); refine box_event ?hg (N := 3) ?hd (cs := #[.string a1_0, .slice A1_1 l1_1.length c1_1]) (t := 28) ?hr ?_; (case hd => rfl); (case hg => rfl); (case hr => first | (go_simp; done) | (go_simp; rfl)); intro gb175 hg w13 hbox hb; have n0_ := Am (zK BK174 hb); have n1_ := Am (bq zG hb); have n2_ := Am (hbox); have n3_ := Am ((by rw [hg]; exact (bz zG) : w.heap.size ≤ gb175)); have n4_ := Am ((by rw [hg]; exact (bz zG) : w.heap.size ≤ gb175)); have n5_ := Am ((by rw [hg]; exact Nat.ne_of_lt (zL BK174) : gb174 ≠ gb175)); have n6_ := Am ((by rw [hg]; exact Nat.ne_of_gt (zL BK174) : gb175 ≠ gb174)); clear BK174; clear HB; have BK174 := n0_; have HB := n1_; have BK175 := n2_; have GW175 := n3_; have GE175 := n4_; have NB174_175 := n5_; have NB175_174 := n6_; clear n0_ n1_ n2_ n3_ n4_ n5_ n6_; clear hb hbox hg; have hnb14 := NB174_175.out; have hnc14 := NB175_174.out; obtain ⟨hcz15_0, hcz15_1⟩ := kc2 (w := w13) BK174.out; have hfz15_0 := kf BK174.out; obtain ⟨hcz16_0, hcz16_1⟩ := kc2 (w := w13) BK175.out; have hfz16_0 := kf BK175.out) | ((with_reducible refine gate_callee (f := 28) rfl ?_); refine zC (some 14) rfl rfl Try.func28 rfl #[.slice A0_1 l0_1.length c0_1, .slice A1_1 l1_1.length c1_1] rfl ?_; (with_reducible refine (laws_eqCellS.calls k _ _ l0_1 _ _ l1_1 false _ ?side1 ?side2 ?side3 ?side4 A4.out).mono ?_); (case side1 => repeat (first | exact (cb HR0_1.out HB.out) | (with_reducible first | refine ca ?_ _ | refine cn ?_ _ | refine ce ?_))); (case side2 => exact HC0_1.out); (case side3 => repeat (first | exact (cb HR1_1.out HB.out) | (with_reducible first | refine ca ?_ _ | refine cn ?_ _ | refine ce ?_))); (case side4 => exact HC1_1.out); rintro e w17 ⟨rfl, hb⟩; refine ⟨_, rfl, ?_⟩; have n0_ := Am (zK BK174 hb); have n1_ := Am (zK BK175 hb); have n2_ := Am (bq zG hb); clear BK174; clear BK175; clear HB; have BK174 := n0_; have BK175 := n1_; have HB := n2_; clear n0_ n1_ n2_; (try clear hb)))
   go_ret
   exact ⟨zR, zG⟩
 ·rw [if_neg c3] at H
  have c3b0 : (a0_0.toList == a1_0.toList) = false := beq_eq_false_iff_ne.mpr c3
  have c3b1 : (a0_0.toList != a1_0.toList) = true := bne_iff_ne.mpr c3
  obtain rfl := Option.some.inj H
  go_enter Try.func9, Try.ntmps9
  go_wp2_with (first | ((with_reducible refine gate_dst (N := 2) rfl ?_); refine box_event ?hg (N := 2) ?hd (cs := #[.string a0_0, .slice A0_1 l0_1.length c0_1]) (t := 28) ?hr ?_; (case hd => rfl); (case hg => rfl); (case hr => first | (go_simp; done) | (go_simp; rfl)); intro gb174 hg w18 hbox hb; have BK174 := Am (hbox); have GW174 := Am ((by rw [hg]; exact (bz zB) : w.heap.size ≤ gb174)); have GE174 := Am ((by rw [hg]; exact (bz zB) : w.heap.size ≤ gb174)); replace HB := Am (bq zB hb); clear hb hbox hg) | ((with_reducible refine gate_dst (N := 3) rfl ?_); refine box_event ?hg (N := 3) ?hd (cs := #[.string a1_0, .slice A1_1 l1_1.length c1_1]) (t := 28) ?hr ?_; (case hd => rfl); (case hg => rfl); (case hr => first | (go_simp; done) | (go_simp; rfl)); intro gb175 hg w19 hbox hb; have n0_ := Am (zK BK174 hb); have n1_ := Am (bq zG hb); have n2_ := Am (hbox); have n3_ := Am ((by rw [hg]; exact (bz zG) : w.heap.size ≤ gb175)); have n4_ := Am ((by rw [hg]; exact (bz zG) : w.heap.size ≤ gb175)); have n5_ := Am ((by rw [hg]; exact Nat.ne_of_lt (zL BK174) : gb174 ≠ gb175)); have n6_ := Am ((by rw [hg]; exact Nat.ne_of_gt (zL BK174) : gb175 ≠ gb174)); clear BK174; clear HB; have BK174 := n0_; have HB := n1_; have BK175 := n2_; have GW175 := n3_; have GE175 := n4_; have NB174_175 := n5_; have NB175_174 := n6_; clear n0_ n1_ n2_ n3_ n4_ n5_ n6_; clear hb hbox hg; have hnb20 := NB174_175.out; have hnc20 := NB175_174.out; obtain ⟨hcz21_0, hcz21_1⟩ := kc2 (w := w19) BK174.out; have hfz21_0 := kf BK174.out; obtain ⟨hcz22_0, hcz22_1⟩ := kc2 (w := w19) BK175.out; have hfz22_0 := kf BK175.out))
  go_ret
  exact ⟨zR, zG⟩

end Go.Proofs.Ytnmkcognggeioaa.QFnExactFallenMemory
