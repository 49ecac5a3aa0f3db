/- Go functions as Lean functions, and their contracts. Own text: written by wip/gen/pr.py (a turned copy of the print). -/
import Derived.Test.YtnmkcognggeioaaQFnUnsurex0
import Derived.Test.YtnmkcognggeioaaQFnUnsurex2
import Derived.Test.YtnmkcognggeioaaQFnUnsurex5
import Derived.Test.YtnmkcognggeioaaQFnUnsurex6
namespace Go.Proofs.Ytnmkcognggeioaa.QFnUnsure
open Go.RowKit Go.Proofs.YtnmkcognggeioaaW.PrintWords Go.Proofs.YtnmkcognggeioaaW.PrintLast Go.Proofs.YtnmkcognggeioaaW.PrintMore
attribute [local go_sem] max2_int min2_int max_two min_two max_three min_three max_four min_four   -- for this text's walks alone
open Go.Proofs.YtnmkcognggeioaaW.PrintWords renaming below_alloc → ba, pw_below_drewN → bn, below_drew1 → be, below_set → bs, blk_drewN → kn, blk_drew → ke, blk_alloc → ka, blk_below → kb, blk_frozen → kf, blk_cell → kc, below_step → bq, below_size → bz, blk_lt → kl, blk_grown → kg, blk_put → kp
open Go.Proofs.YtnmkcognggeioaaW.PrintWords.Kd renaming R_alloc → ra, R_drewN → rn, R_drew → re, R_below → rb, C_below → cb
open Go.Proofs.YtnmkcognggeioaaW.PrintWords.Aside0 renaming mk → Am
set_option linter.unusedVariables false
set_option linter.unusedSimpArgs false

/-! ### impl_FallenMemory: function 8 (own text) -/
theorem cl7 {w w2 : World} {a : Addr} {v : Value} (h : Aside0 (Below w.heap.size w w2)) (e : w.cell? a = some v) : w2.cell? a = some v := (h.out.cell (World.block_lt_of_cell? w _ e)).trans e
def bitP (p i : Int) : Bool := if i ≤ 62 then (Go.bits .and .i64 (shr .i64 p i) 1 == 1) else false
set_option maxHeartbeats 8000000 in
set_option maxRecDepth 100000 in
theorem fall1.calls (i p : Int) (x : S49) (bx : Addr) (w : World) (hbx : w.cell? bx = some (.int .i64 p)) (h0 : 0 ≤ i) :
  Calls Try.prog 45 #[.int .i64 i, .agg #[.int .i64 x.f0, .string x.f1, .bool x.f2], .pointer (some bx)] w fun e w' => e = .returned (.bool (bitP p i)) ∧ Below w.heap.size w w' := by
 have hu49 := Try.underlying49
 have HBX := Am hbx
 clear hbx
 have HB := Am (Below.refl w.heap.size w)
 unfold bitP
 by_cases c : i ≤ 62
 ·rw [if_pos c]
  have cb : decide (i ≤ 62) = true := decide_eq_true c
  have h0b : decide (0 ≤ i) = true := decide_eq_true h0
  have h1b : ¬ (i < 0) := by omega
  clear c
  go_enter Try.func45, Try.ntmps45
  go_wp2_with (first | ((with_reducible refine gate_dst (N := 4) rfl ?_); (try (refine gate_guard (by rfl) ?_; dsimp only)); refine box_event ?hg (N := 4) ?hd (cs := #[.int .i64 x.f0, .string x.f1, .bool x.f2]) (t := 49) ?hr ?_; (case hd => rfl); (case hg => rfl); (case hr => first | (go_simp; done) | (go_simp; rfl)); intro gb166 hg w15 hbox hb; have hbx_ := (hb.cell (World.block_lt_of_cell? w _ HBX.out)).trans HBX.out; replace HB := Am hb; clear hb hbox hg))
  go_ret
  exact ⟨by first | rfl | (simp; done), HB.out⟩
 ·rw [if_neg c]
  have cb : decide (i ≤ 62) = false := decide_eq_false c
  clear c
  go_enter Try.func45, Try.ntmps45
  go_wp2_with (first | ((with_reducible refine gate_dst (N := 4) rfl ?_); (try (refine gate_guard (by rfl) ?_; dsimp only)); refine box_event ?hg (N := 4) ?hd (cs := #[.int .i64 x.f0, .string x.f1, .bool x.f2]) (t := 49) ?hr ?_; (case hd => rfl); (case hg => rfl); (case hr => first | (go_simp; done) | (go_simp; rfl)); intro gb166 hg w15 hbox hb; replace HB := Am hb; clear hb hbox hg))
  go_ret
  exact ⟨by first | rfl | (simp; done), HB.out⟩
/-- Block g of this world begins with the text's bytes, and they may be written. -/
def BA (w : World) (g : Nat) (K : ByteArray) : Prop := (∀ j b, K.data.toList[j]? = some b → w.cell? ⟨g, j, none⟩ = some (.int .u8 (b.toNat : Int))) ∧ (∀ j, j < K.data.toList.length → w.frozen? ⟨g, j, none⟩ = false) ∧ g < w.heap.size
theorem BA.same {w w1 : World} {g : Nat} {K : ByteArray} (h : BA w g K) (e : w1.heap[g]? = w.heap[g]?) : BA w1 g K := by
 obtain ⟨h1, h2, h3⟩ := h
 refine ⟨fun j b hj => ?_, fun j hj => ?_, ?_⟩
 ·rw [← h1 j b hj]; simp only [World.cell?, e]
 ·rw [← h2 j hj]; simp only [World.frozen?, e]
 ·rcases Nat.lt_or_ge g w1.heap.size with h | h
  ·exact h
  ·rw [Array.getElem?_eq_none h, Array.getElem?_eq_getElem h3] at e; cases e
theorem BA.below_ {w w1 : World} {g : Nat} {K : ByteArray} (h : BA w g K) (hb : Below w.heap.size w w1) : BA w1 g K := h.same (hb.block g h.2.2)
theorem BA.alloc_ {w : World} {g : Nat} {K : ByteArray} (h : BA w g K) (o : Obj) : BA (w.alloc o) g K := h.below_ (ba (Below.refl _ _) o)
theorem BA.drew_ {w : World} {g : Nat} {K : ByteArray} (h : BA w g K) : BA w.drew g K := h
theorem BA.drewN_ {w : World} {g : Nat} {K : ByteArray} (h : BA w g K) (n : Nat) : BA (w.drewN n) g K := h
theorem BA.far_ {w : World} {g : Nat} {K : ByteArray} (h : BA w g K) {p : Addr} (hp : g ≠ p.block) (u : Value) : BA (w.setCell p u) g K := h.same (Below.heap_setCell w p u g hp)
theorem BA.new_ (w : World) (K : ByteArray) : BA (Lib.bytesWorld w 5 K) w.heap.size K := by
 have hb := Lib.bytesWorld_at_new w 5 K
 have hs : K.data.toList.length = K.size := (Lib.size_eq K).symm
 have hc : K.size ≤ (Lib.bytesCells w 5 K).size := by unfold Lib.bytesCells; rw [Array.size_append, Array.size_map]; exact Nat.le_add_right _ _
 refine ⟨fun j b hj => ?_, fun j hj => ?_, ?_⟩
 ·have hj' := (List.getElem?_eq_some_iff.1 hj).1
  rw [Lib.bytesWorld_cell w 5 K j (by omega)]
  rw [List.getD_eq_getElem?_getD, hj]; rfl
 ·simp only [World.frozen?, hb]
  rw [decide_eq_false (by omega)]
  rfl
 ·rw [Lib.bytesWorld_size]; omega
/-- A text laid over the bytes. -/
def putB (K x : ByteArray) (o : Nat) : ByteArray := ⟨(K.data.toList.take o ++ (x.data.toList ++ K.data.toList.drop (o + x.data.toList.length))).toArray⟩
theorem putB_list (K x : ByteArray) (o : Nat) : (putB K x o).data.toList = K.data.toList.take o ++ (x.data.toList ++ K.data.toList.drop (o + x.data.toList.length)) := by unfold putB; rfl
theorem putB_length (K x : ByteArray) (o : Nat) (h : o + x.data.toList.length ≤ K.data.toList.length) : (putB K x o).data.toList.length = K.data.toList.length := by
 rw [putB_list]; simp only [List.length_append, List.length_take, List.length_drop]; omega
theorem BA.put_ {w : World} {g : Nat} {K x : ByteArray} {o : Nat} (h : BA w g K) (hf : o + x.data.toList.length ≤ K.data.toList.length) : BA (w.setCells g o (x.data.toList.map fun b => Value.int .u8 (b.toNat : Int))) g (putB K x o) := by
 obtain ⟨h1, h2, h3⟩ := h
 have hl := putB_length K x o hf
 have hin : ∀ j, j < K.data.toList.length → (w.cell? ⟨g, j, none⟩).isSome = true := fun j hj => by rw [h1 j _ (List.getElem?_eq_getElem hj)]; rfl
 refine ⟨fun j b hj => ?_, fun j hj => ?_, ?_⟩
 ·rw [putB_list] at hj
  have htk : (K.data.toList.take o).length = o := by rw [List.length_take]; omega
  rcases Nat.lt_or_ge j o with hlt | hge
  ·rw [List.getElem?_append_left (by omega), List.getElem?_take_of_lt hlt] at hj
   rw [World.cell?_setCells_out g _ o w _ (fun _ _ => Or.inl hlt)]
   exact h1 j b hj
  ·rw [List.getElem?_append_right (by omega), htk] at hj
   rcases Nat.lt_or_ge (j - o) x.data.toList.length with hlt | hge2
   ·rw [List.getElem?_append_left hlt] at hj
    have := World.cell?_setCells_in g (x.data.toList.map fun b => Value.int .u8 (b.toNat : Int)) o w (fun j' hj' => hin _ (by rw [List.length_map] at hj'; omega)) (j - o) (by rw [List.length_map]; exact hlt)
    rw [show o + (j - o) = j by omega] at this
    rw [this, List.getElem_map]
    rw [List.getElem?_eq_getElem hlt] at hj
    rw [Option.some.inj hj]
   ·rw [List.getElem?_append_right hge2, List.getElem?_drop] at hj
    rw [World.cell?_setCells_out g _ o w _ (fun _ _ => Or.inr (by rw [List.length_map]; show o + x.data.toList.length ≤ j; omega))]
    refine h1 j b ?_
    rw [← hj]; congr 1; omega
 ·rw [World.frozen?_setCells]; exact h2 j (by omega)
 ·have : ∀ (vs : List Value) (o : Nat) (w : World), (w.setCells g o vs).heap.size = w.heap.size := by
   intro vs
   induction vs with
   | nil => intro o w; rfl
   | cons v r ih => intro o w; rw [World.setCells, ih]; simp [World.setCell]
  rw [this]; exact h3
theorem setCells_far {w : World} {g : Nat} {g' : Nat} (hne : g' ≠ g) : ∀ (vs : List Value) (o : Nat) (w : World), (w.setCells g o vs).heap[g']? = w.heap[g']?
 | [], _, _ => rfl
 | v :: r, o, w => by rw [World.setCells, setCells_far (w := w) hne r (o + 1), Below.heap_setCell w ⟨g, o, none⟩ v g' hne]
theorem setCells_below {B g : Nat} {w0 w : World} (h : Below B w0 w) (hg : B ≤ g) (vs : List Value) (o : Nat) : Below B w0 (w.setCells g o vs) := by
 induction vs generalizing o w with
 | nil => exact h
 | cons v r ih => rw [World.setCells]; exact ih (h.setCell (p := ⟨g, o, none⟩) hg v) _
theorem setCells_kept {S : Nat → Prop} {g : Nat} {w0 w : World} (h : Kept w0 w S) (hg : S g ∨ w0.heap.size ≤ g) (vs : List Value) (o : Nat) : Kept w0 (w.setCells g o vs) S := by
 induction vs generalizing o w with
 | nil => exact h
 | cons v r ih => rw [World.setCells]; exact ih (h.setCell (p := ⟨g, o, none⟩) hg v) _
/-- A cell that fits the durable contents. -/
def okC (n : Nat) (x : S49) : Prop := 0 ≤ x.f0 ∧ x.f0 * 16 + 16 ≤ (n : Int) ∧ x.f1.size = 16
/-- What the first n cells make of the contents. -/
def fallN (p : Int) (l : List S49) (K : ByteArray) : Nat → ByteArray
 | 0 => K
 | n + 1 => if bitP p (n : Int) = true then putB (fallN p l K n) (rd_T49 l (n : Int)).f1 ((rd_T49 l (n : Int)).f0 * 16).toNat else fallN p l K n
theorem fallN_length (p : Int) (l : List S49) (K : ByteArray) (hv : ∀ i : Nat, i < l.length → okC K.size (rd_T49 l (i : Int))) : ∀ n, n ≤ l.length → (fallN p l K n).data.toList.length = K.data.toList.length
 | 0, _ => rfl
 | n + 1, h => by
  have ih := fallN_length p l K hv n (by omega)
  obtain ⟨h0, h1, h2⟩ := hv n (by omega)
  have e1 := Lib.size_eq (rd_T49 l (n : Int)).f1
  have e2 := Lib.size_eq K
  unfold fallN
  by_cases c : bitP p (n : Int) = true
  ·rw [if_pos c, putB_length _ _ _ (by omega)]; exact ih
  ·rw [if_neg c]; exact ih
theorem BA.back_ {w : World} {g n : Nat} {K : ByteArray} (h : BA w g K) (hn : K.data.toList.length = n) (cap : Nat) : (convert 34 9 (.slice (some ⟨g, 0, none⟩) n cap)).run Try.prog w = .ok (.string K) w := by
 subst hn
 have := run_convert_bytes_back (P := Try.prog) w 34 9 5 ⟨g, 0, none⟩ cap K.data.toList Try.underlying34 Try.underlying5 Try.underlying9 (fun j hj => by
  rw [add_plain]
  exact h.1 j _ (List.getElem?_eq_getElem hj))
 rw [this]
set_option maxHeartbeats 8000000 in
set_option maxRecDepth 100000 in
theorem keep.calls (g : Nat) (bx : Addr) (p : Int) (K : ByteArray) (A : Option Addr) (c : Nat) (l : List S49) (w0 w : World) (hB : Below w0.heap.size w0 w) (hg0 : w0.heap.size ≤ g) (hblk : w.heap[g]? = some (.cells #[.string K, .slice A l.length c] 28 (0, 0)))
  (hbx : w.cell? bx = some (.int .i64 p)) (hR : Kd.C k49 w A l.length l) (hK : K.size ≤ 1073741824) (hl : l.length ≤ 1073741824) (hv : ∀ i : Nat, i < l.length → okC K.size (rd_T49 l (i : Int))) :
  Calls Try.prog 44 #[.pointer (some ⟨g, 0, none⟩), .func (.func 45) #[] #[.pointer (some bx)], .bool false] w fun e w' => e = .returned (.tuple #[]) ∧ ∃ g7, w'.heap[g]? = some (.cells #[.string (fallN p l K l.length), .slice (some ⟨g7, 0, none⟩) 0 0] 28 (0, 0)) ∧ w'.heap[g7]? = some (.cells #[] 49 (0, 0)) ∧ w.heap.size ≤ g7 ∧ Below w0.heap.size w0 w' ∧ Kept w w' (fun k_ => k_ = g) := by
 have hu28 := Try.underlying28
 have hu49 := Try.underlying49
 have hcv : ∀ (w : World) (s : ByteArray), (convert 9 34 (.string s)).run Try.prog w = .ok (.slice (some ⟨w.heap.size, 0, none⟩) s.size (grownCap w s.size 0 5)) (Lib.bytesWorld w 5 s) := fun w s => Lib.run_convert_string_bytes w 9 34 5 s Try.underlying9 Try.underlying34 Try.underlying5
 have HW := Am hB
 have HR := Am hR
 have BK := Am hblk
 have HX := Am hbx
 have hlt : g < w.heap.size := kl hblk
 have HB1 := Am (ba (bytes_below (Below.refl w.heap.size w) (Nat.le_refl _) 5 K) (.cells #[] 49))
 have B71 := Am (blk_new (Lib.bytesWorld w 5 K) (.cells #[] 49))
 have G7 := Am (show w.heap.size ≠ (Lib.bytesWorld w 5 K).heap.size by rw [Lib.bytesWorld_size]; omega)
 have BY1 := Am ((BA.new_ w K).alloc_ (.cells #[] 49))
 have hcz0 : w.cell? ⟨g, 0, none⟩ = some (.string K) := (kc BK.out 0).trans rfl
 have hcz1 : ((Lib.bytesWorld w 5 K).alloc (.cells #[] 49)).cell? ⟨g, 1, none⟩ = some (.slice A l.length c) := (HB1.out.cell hlt).trans ((kc BK.out 1).trans rfl)
 clear hB hR hblk hbx
 go_enter Try.func44, Try.ntmps44
 go_wp2
 go_loopg [7, 21] l.length (fun kq v7 v21 w' => v7 = .slice (some ⟨(Lib.bytesWorld w 5 K).heap.size, 0, none⟩) 0 0 ∧ v21 = .int .i64 ((l.length - kq : Nat) : Int) ∧ Aside0 (kq ≤ l.length) ∧ Aside0 (BA w' w.heap.size (fallN p l K (l.length - kq))) ∧ Aside0 (w'.heap[(Lib.bytesWorld w 5 K).heap.size]? = some (.cells #[] 49 (0, 0))) ∧ Aside0 (Below w.heap.size w w'))
 case atStart => exact ⟨rfl, by simp, ⟨Nat.le_refl _⟩, ⟨by rw [Nat.sub_self]; exact BY1.out⟩, B71, HB1⟩
 case round =>
  obtain ⟨rfl, rfl, HK, BY, B7, HB⟩ := hrel
  clear hcz0 hcz1 BY1 HB1 B71
  cases gk with
  | zero =>
   have c1 : decide (((l.length - 0 : Nat) : Int) < (l.length : Int)) = false := decide_eq_false (by omega)
   have hcb := fun cap => BA.back_ (n := K.size) BY.out (by rw [Nat.sub_zero, fallN_length p l K hv _ (Nat.le_refl _)]; exact (Lib.size_eq K).symm) cap
   have BG := Am (kb BK.out HB.out)
   have hcw0 : wr.cell? ⟨g, 0, none⟩ = some (.string K) := (kc BG.out 0).trans rfl
   have hcw1 : wr.cell? ⟨g, 1, none⟩ = some (.slice A l.length c) := (kc BG.out 1).trans rfl
   have hfw0 := kf BG.out 0
   have hfw1 := kf BG.out 1
   go_wp2
   go_end0
   refine ⟨rfl, _, kp (cs := #[.string (fallN p l K l.length), .slice A l.length c]) (kp (cs := #[.string K, .slice A l.length c]) BG.out 0 _ (by rfl)) 1 _ (by rfl), blk_far (blk_far B7.out (by show (Lib.bytesWorld w 5 K).heap.size ≠ g; rw [Lib.bytesWorld_size]; omega) _) (by show (Lib.bytesWorld w 5 K).heap.size ≠ g; rw [Lib.bytesWorld_size]; omega) _, by rw [Lib.bytesWorld_size]; omega, ?_, ?_⟩
   ·exact bs (bs (bq HW.out HB.out) hg0) hg0
   ·exact Kept.setCell (S := fun k_ => k_ = g) (p := ⟨g, 1, none⟩) (Kept.setCell (S := fun k_ => k_ = g) (p := ⟨g, 0, none⟩) (Kept.of_below HB.out _) (Or.inl rfl) _) (Or.inl rfl) _
  | succ k1 =>
   have hk1 := HK.out
   obtain ⟨i, hie⟩ : ∃ i : Nat, l.length - (k1 + 1) = i := ⟨_, rfl⟩
   rw [hie] at BY ⊢
   have hi : i < l.length := by omega
   have c1 : decide ((i : Int) < (l.length : Int)) = true := decide_eq_true (by omega)
   have c2 : decide ((0 : Int) ≤ (i : Int)) = true := decide_eq_true (by omega)
   obtain ⟨ad, e0, hx0, hx1, hx2⟩ := at_T49 HR.out (i : Int) (by omega) (by omega)
   cases e0
   simp only [Int.toNat_natCast] at hx0 hx1 hx2
   replace hx0 := cl7 HB hx0
   replace hx1 := cl7 HB hx1
   replace hx2 := cl7 HB hx2
   have hp0 := eq_true (show (0 : Int) ≤ (i : Int) by omega)
   have hp1 := eq_true (show (i : Int) < (l.length : Int) by omega)
   have hwr : IntKind.i64.wrap ((i : Int) + 1) = ((l.length - k1 : Nat) : Int) := by rw [i64_w]; unfold wrap64; omega
   obtain ⟨ho0, ho1, ho2⟩ := hv i hi
   obtain ⟨o, ho⟩ : ∃ o : Nat, (rd_T49 l (i : Int)).f0 * 16 = (o : Int) := ⟨((rd_T49 l (i : Int)).f0 * 16).toNat, by omega⟩
   have hmw : IntKind.i64.wrap (o : Int) = (o : Int) := by rw [i64_w]; unfold wrap64; omega
   have hoK : o + 16 ≤ K.size := by omega
   have hcap : K.size ≤ grownCap w K.size 0 5 := grownCap_ge w K.size 0 5
   have hq0 : (o ≤ K.size) = True := eq_true (by omega)
   have hq1 : (grownCap w K.size 0 5 = o) = False := eq_false (by omega)
   have hsz1 : ∀ w : World, (Go.sizeOf 5).run Try.prog w = .ok 1 w := fun w => by
    cases hq : Try.prog.info? 5 with
    | none => have := info5; rw [hq] at this; cases this
    | some i5 =>
     have h5 : i5.size = 1 := by have := info5; rw [hq] at this; simp at this; exact this.2.1
     simp [Go.sizeOf, typeInfo, hq, h5]
   have hfl : (fallN p l K i).data.toList.length = K.size := (fallN_length p l K hv i (by omega)).trans (Lib.size_eq K).symm
   have hxl : (rd_T49 l (i : Int)).f1.data.toList.length = 16 := (Lib.size_eq _).symm.trans ho2
   by_cases cb : bitP p (i : Int) = true
   ·have hbool : decide (bitP p (i : Int) = true) = true := decide_eq_true cb
    go_wp2_with (first | ((with_reducible refine gate_dst (N := 9) rfl ?_); (try (refine gate_guard (by rfl) ?_; dsimp only)); refine box_event ?hg (N := 9) ?hd (cs := #[.int .i64 0, .string (⟨#[]⟩ : ByteArray), .bool false]) (t := 49) ?hr ?_; (case hd => rfl); (case hg => rfl); (case hr => first | (go_simp; done) | (go_simp; rfl)); intro gb hg w15 hbox hb; have n0_ := Am (bq HB.out hb); have n1_ := Am (BA.below_ BY.out hb); have n2_ := Am hbox; have n7_ := Am (kb B7.out hb); have N7 := Am (by rw [hg]; exact Nat.ne_of_lt (kl B7.out) : (Lib.bytesWorld w 5 K).heap.size ≠ gb); have GE := Am (by rw [hg]; exact HB.out.size : w.heap.size ≤ gb); have NG := Am (by rw [hg]; exact Nat.ne_of_lt BY.out.2.2 : w.heap.size ≠ gb); clear HB BY B7; have HB := n0_; have BY := n1_; have BC := n2_; have B7 := n7_; clear n0_ n1_ n2_ n7_ hb hbox hg; have hcy0 : w15.cell? ⟨gb, 0, none⟩ = some (.int .i64 0) := (kc BC.out 0).trans rfl; have hcy1 : w15.cell? ⟨gb, 1, none⟩ = some (.string (⟨#[]⟩ : ByteArray)) := (kc BC.out 1).trans rfl; have hcy2 : w15.cell? ⟨gb, 2, none⟩ = some (.bool false) := (kc BC.out 2).trans rfl; have hfy0 := kf BC.out 0; have hfy1 := kf BC.out 1; have hfy2 := kf BC.out 2; have hne_ : gb ≠ bx.block := by have h1_ := World.block_lt_of_cell? w _ HX.out; have h2_ := GE.out; omega) | (go_at_call 45; refine (fall1.calls _ p (rd_T49 l (i : Int)) bx _ ?sx ?sy).mono ?_; (case sx => (repeat rw [World.cell?_setCell_other _ _ _ _ (fun e_ => hne_ (congrArg Addr.block e_))]); exact (HB.out.cell (World.block_lt_of_cell? w _ HX.out)).trans HX.out); (case sy => omega); rintro e w20 ⟨rfl, hb⟩; have n0_ := Am (bq (bs (bs (bs HB.out GE.out) GE.out) GE.out) hb); have n1_ := Am (BA.below_ (BA.far_ (BA.far_ (BA.far_ BY.out NG.out _) NG.out _) NG.out _) hb); have n2_ := Am (kb (kp (cs := #[.int .i64 (rd_T49 l (i : Int)).f0, .string (rd_T49 l (i : Int)).f1, .bool false]) (kp (cs := #[.int .i64 (rd_T49 l (i : Int)).f0, .string (⟨#[]⟩ : ByteArray), .bool false]) (kp (cs := #[.int .i64 0, .string (⟨#[]⟩ : ByteArray), .bool false]) BC.out 0 (.int .i64 (rd_T49 l (i : Int)).f0) (by rfl)) 1 (.string (rd_T49 l (i : Int)).f1) (by rfl)) 2 (.bool (rd_T49 l (i : Int)).f2) (by rfl)) hb); have n7_ := Am (kb (blk_far (blk_far (blk_far B7.out N7.out _) N7.out _) N7.out _) hb); clear HB BY BC B7; have HB := n0_; have BY := n1_; have BC := n2_; have B7 := n7_; clear n0_ n1_ n2_ n7_ hb; have hcq0 : w20.cell? ⟨gb, 0, none⟩ = some (.int .i64 (rd_T49 l (i : Int)).f0) := (kc BC.out 0).trans rfl; have hcq1 : w20.cell? ⟨gb, 1, none⟩ = some (.string (rd_T49 l (i : Int)).f1) := (kc BC.out 1).trans rfl))
    go_region_law (refine step_copy_string rfl (.tmp 34) (.tmp 36) 34 9 rfl 5 Try.underlying34 hsz1 w.heap.size o (K.size - o) (grownCap w K.size 0 5 - o) (by simp [Act.eval, Act.put]) (rd_T49 l (i : Int)).f1 (by simp [Act.eval, Act.put]) (by omega) (fun j hj => by show (w20.cell? _).isSome = true; rw [BY.out.1 (o + j) _ (List.getElem?_eq_getElem (by omega))]; rfl) (fun j hj => by show w20.frozen? _ = false; exact BY.out.2.1 _ (by omega)) ?_)
    all_goals (
     have BZ := Am (BA.put_ (x := (rd_T49 l (i : Int)).f1) (o := o) (BA.drew_ BY.out) (by omega))
     have HZ := Am (setCells_below (be HB.out) (Nat.le_refl _) ((rd_T49 l (i : Int)).f1.data.toList.map fun b => Value.int .u8 (b.toNat : Int)) o)
     have BW := Am ((setCells_far (w := w20) G7.out.symm ((rd_T49 l (i : Int)).f1.data.toList.map fun b => Value.int .u8 (b.toNat : Int)) o w20.drew).trans (show w20.drew.heap[(Lib.bytesWorld w 5 K).heap.size]? = _ from B7.out))
     clear hcq0 hcq1
     generalize w20.drew.setCells w.heap.size o ((rd_T49 l (i : Int)).f1.data.toList.map fun b => Value.int .u8 (b.toNat : Int)) = w30 at BZ HZ BW ⊢
     go_wp2
     go_roundg k1
     case measure => omega
     case rel => exact ⟨rfl, rfl, ⟨by omega⟩, ⟨by rw [show l.length - k1 = i + 1 by omega]; unfold fallN; rw [if_pos cb, ho, Int.toNat_natCast]; exact BZ.out⟩, BW, HZ⟩)
   ·have cb' := Bool.eq_false_iff.2 cb
    go_wp2_with (first | ((with_reducible refine gate_dst (N := 9) rfl ?_); (try (refine gate_guard (by rfl) ?_; dsimp only)); refine box_event ?hg (N := 9) ?hd (cs := #[.int .i64 0, .string (⟨#[]⟩ : ByteArray), .bool false]) (t := 49) ?hr ?_; (case hd => rfl); (case hg => rfl); (case hr => first | (go_simp; done) | (go_simp; rfl)); intro gb hg w15 hbox hb; have n0_ := Am (bq HB.out hb); have n1_ := Am (BA.below_ BY.out hb); have n2_ := Am hbox; have n7_ := Am (kb B7.out hb); have N7 := Am (by rw [hg]; exact Nat.ne_of_lt (kl B7.out) : (Lib.bytesWorld w 5 K).heap.size ≠ gb); have GE := Am (by rw [hg]; exact HB.out.size : w.heap.size ≤ gb); have NG := Am (by rw [hg]; exact Nat.ne_of_lt BY.out.2.2 : w.heap.size ≠ gb); clear HB BY B7; have HB := n0_; have BY := n1_; have BC := n2_; have B7 := n7_; clear n0_ n1_ n2_ n7_ hb hbox hg; have hcy0 : w15.cell? ⟨gb, 0, none⟩ = some (.int .i64 0) := (kc BC.out 0).trans rfl; have hcy1 : w15.cell? ⟨gb, 1, none⟩ = some (.string (⟨#[]⟩ : ByteArray)) := (kc BC.out 1).trans rfl; have hcy2 : w15.cell? ⟨gb, 2, none⟩ = some (.bool false) := (kc BC.out 2).trans rfl; have hfy0 := kf BC.out 0; have hfy1 := kf BC.out 1; have hfy2 := kf BC.out 2; have hne_ : gb ≠ bx.block := by have h1_ := World.block_lt_of_cell? w _ HX.out; have h2_ := GE.out; omega) | (go_at_call 45; refine (fall1.calls _ p (rd_T49 l (i : Int)) bx _ ?sx ?sy).mono ?_; (case sx => (repeat rw [World.cell?_setCell_other _ _ _ _ (fun e_ => hne_ (congrArg Addr.block e_))]); exact (HB.out.cell (World.block_lt_of_cell? w _ HX.out)).trans HX.out); (case sy => omega); rintro e w20 ⟨rfl, hb⟩; have n0_ := Am (bq (bs (bs (bs HB.out GE.out) GE.out) GE.out) hb); have n1_ := Am (BA.below_ (BA.far_ (BA.far_ (BA.far_ BY.out NG.out _) NG.out _) NG.out _) hb); have n2_ := Am (kb (kp (cs := #[.int .i64 (rd_T49 l (i : Int)).f0, .string (rd_T49 l (i : Int)).f1, .bool false]) (kp (cs := #[.int .i64 (rd_T49 l (i : Int)).f0, .string (⟨#[]⟩ : ByteArray), .bool false]) (kp (cs := #[.int .i64 0, .string (⟨#[]⟩ : ByteArray), .bool false]) BC.out 0 (.int .i64 (rd_T49 l (i : Int)).f0) (by rfl)) 1 (.string (rd_T49 l (i : Int)).f1) (by rfl)) 2 (.bool (rd_T49 l (i : Int)).f2) (by rfl)) hb); have n7_ := Am (kb (blk_far (blk_far (blk_far B7.out N7.out _) N7.out _) N7.out _) hb); clear HB BY BC B7; have HB := n0_; have BY := n1_; have BC := n2_; have B7 := n7_; clear n0_ n1_ n2_ n7_ hb; have hcq0 : w20.cell? ⟨gb, 0, none⟩ = some (.int .i64 (rd_T49 l (i : Int)).f0) := (kc BC.out 0).trans rfl; have hcq1 : w20.cell? ⟨gb, 1, none⟩ = some (.string (rd_T49 l (i : Int)).f1) := (kc BC.out 1).trans rfl))
    go_roundg k1
    case measure => omega
    case rel => exact ⟨rfl, rfl, ⟨by omega⟩, ⟨by rw [show l.length - k1 = i + 1 by omega]; unfold fallN; rw [if_neg cb]; exact BY.out⟩, B7, HB⟩
set_option maxHeartbeats 8000000 in
set_option maxRecDepth 100000 in
theorem fall.calls (g : Nat) (p : Int) (K : ByteArray) (A : Option Addr) (c : Nat) (l : List S49) (w0 w : World) (hB : Below w0.heap.size w0 w) (hg0 : w0.heap.size ≤ g) (hblk : w.heap[g]? = some (.cells #[.string K, .slice A l.length c] 28 (0, 0)))
  (hR : Kd.C k49 w A l.length l) (hK : K.size ≤ 1073741824) (hl : l.length ≤ 1073741824) (hv : ∀ i : Nat, i < l.length → okC K.size (rd_T49 l (i : Int))) :
  Calls Try.prog 27 #[.pointer (some ⟨g, 0, none⟩), .int .i64 p] w fun e w' => e = .returned (.tuple #[]) ∧ ∃ g7, w'.heap[g]? = some (.cells #[.string (fallN p l K l.length), .slice (some ⟨g7, 0, none⟩) 0 0] 28 (0, 0)) ∧ w'.heap[g7]? = some (.cells #[] 49 (0, 0)) ∧ w.heap.size ≤ g7 ∧ Below w0.heap.size w0 w' ∧ Kept w w' (fun k_ => k_ = g) := by
 have HB := Am hB
 have HR := Am hR
 have BK := Am hblk
 clear hB hR hblk
 go_enter Try.func27, Try.ntmps27
 go_wp2_with (first | ((with_reducible refine gate_dst (N := 3) rfl ?_); (try (refine gate_guard (by rfl) ?_; dsimp only)); refine box_event ?hg (N := 3) ?hd (cs := #[.int .i64 p]) (t := 3) ?hr ?_; (case hd => rfl); (case hg => rfl); (case hr => first | (go_simp; done) | (go_simp; rfl)); intro gb hg w2 hbox hb; have n0_ := Am (bq HB.out hb); have n1_ := Am (kb BK.out hb); have n2_ := Am (cb HR.out hb); have BX := Am hbox; have HK2 := Am (Kept.of_below hb (fun k_ => k_ = g)); clear HB BK HR; have HB := n0_; have BK := n1_; have HR := n2_; clear n0_ n1_ n2_ hb hbox hg) | ((with_reducible refine gate_callee (f := 44) rfl ?_); refine zC (some 6) rfl rfl Try.func44 rfl #[.pointer (some ⟨g, 0, none⟩), .func (.func 45) #[] #[.pointer (some ⟨gb, 0, none⟩)], .bool false] rfl ?_; refine (keep.calls g ⟨gb, 0, none⟩ p K A c l w0 w2 HB.out hg0 BK.out ((kc BX.out 0).trans rfl) HR.out hK hl hv).mono ?_; rintro e w3 ⟨rfl, g7, h1_, h2_, h3_, h4_, h5_⟩; refine ⟨_, rfl, ?_⟩; have n0_ := Am h1_; have n1_ := Am h2_; have n2_ := Am (show w.heap.size ≤ g7 from Nat.le_trans HK2.out.1 h3_); have n3_ := Am h4_; have n4_ := Am (Kept.then_ HK2.out h5_ (fun _ e_ => .inl e_)); clear h1_ h2_ h3_ h4_ h5_ HB BK HR HK2))
 go_end0
 exact ⟨rfl, g7, n0_.out, n1_.out, n2_.out, n3_.out, n4_.out⟩
def okB (K : ByteArray) (l : List S49) : Bool := decide (K.size ≤ 1073741824) && (decide (l.length ≤ 1073741824) && (List.range l.length).all (fun i => decide (0 ≤ (rd_T49 l (i : Int)).f0 ∧ (rd_T49 l (i : Int)).f0 * 16 + 16 ≤ (K.size : Int) ∧ (rd_T49 l (i : Int)).f1.size = 16)))
theorem okB_ok {K : ByteArray} {l : List S49} (h : okB K l = true) : K.size ≤ 1073741824 ∧ l.length ≤ 1073741824 ∧ ∀ i : Nat, i < l.length → okC K.size (rd_T49 l (i : Int)) := by
 unfold okB at h
 simp only [Bool.and_eq_true, decide_eq_true_eq, List.all_eq_true, List.mem_range] at h
 exact ⟨h.1, h.2.1, fun i hi => h.2.2 i hi⟩
theorem R_empty {α : Type} (d : Kd α) (e : Nat) (w : World) (base g : Nat) (hb : base ≤ g) (h : w.heap[g]? = some (.cells #[] e (0, 0))) : d.R e w base (fun _ => True) (.slice (some ⟨g, 0, none⟩) 0 0) [] := ⟨fun _ _ => trivial, [], ⟨by simp, .inr ⟨g, 0, #[], rfl, hb, h, Nat.le_refl _, Nat.zero_le _, by simp, by simp⟩⟩, Reps.none _ _⟩
def impl_FallenMemory.f (k : Nat) (a0_0 : ByteArray) (l0_1 : List (S49)) (a1 : Int) : Option (ByteArray × (List (S49))) := (impl_copyMemory.f a0_0 l0_1).bind fun bt => (impl_MemoryOk.f k a0_0 l0_1).bind fun t => (if t = true then (if 0 ≤ a1 then (if okB bt.1 bt.2 = true then (some (fallN a1 bt.2 bt.1 bt.2.length, ([] : List S49))) else (none)) else (some (bt.1, bt.2))) else (some (bt.1, bt.2)))
set_option maxHeartbeats 8000000 in
set_option maxRecDepth 100000 in
theorem impl_FallenMemory.calls (k : Nat) (a0_0 : ByteArray) (A0_1 : Option Addr) (c0_1 : Nat) (l0_1 : List (S49)) (a1 : Int) (r1 : ByteArray) (r2 : List (S49)) (w : World) (hr0_1 : Kd.C k49 w A0_1 l0_1.length l0_1) (hc0_1 : l0_1.length ≤ c0_1) (h : impl_FallenMemory.f k a0_0 l0_1 a1 = some (r1, r2)) :
  Calls Try.prog 8 #[.agg #[.string a0_0, .slice A0_1 l0_1.length c0_1], .int .i64 a1] w fun e w' => ∃ v1_ : Value, e = .returned (.agg #[.string r1, v1_]) ∧ Kd.R k49 49 w' w.heap.size (fun _ => True) v1_ r2 ∧ Below w.heap.size w w' := by
 have hu28 := Try.underlying28
 have hu49 := Try.underlying49
 have HR0_1 := Am hr0_1
 have HC0_1 := Am hc0_1
 clear hr0_1 hc0_1
 have HB := Am (Below.refl w.heap.size w)
 unfold impl_FallenMemory.f at h
 replace h := Option.bind_eq_some_iff.mp h
 obtain ⟨⟨t1, t2⟩, A10, h⟩ := h
 replace h := Option.bind_eq_some_iff.mp h
 obtain ⟨t, A20, h⟩ := h
 have A1 := Am A10
 have A2 := Am A20
 clear A10 A20
 by_cases ct : t = true
 ·subst ct
  rw [if_pos rfl] at h
  by_cases ca : 0 ≤ a1
  ·rw [if_pos ca] at h
   have cab : decide (0 ≤ a1) = true := decide_eq_true ca
   clear ca
   by_cases ck : okB t1 t2 = true
   ·rw [if_pos ck] at h
    obtain ⟨hok1, hok2, hok3⟩ := okB_ok ck
    clear ck
    simp only [Option.some.injEq, Prod.mk.injEq] at h
    obtain ⟨rfl, rfl⟩ := h
    go_enter Try.func8, Try.ntmps8
    go_wp2_with (first | ((with_reducible refine gate_dst (N := 2) rfl ?_); (try (refine gate_guard (by rfl) ?_; dsimp only)); refine box_event ?hg (N := 2) ?hd (cs := #[.string a0_0, .slice A0_1 l0_1.length c0_1]) (t := 28) ?hr ?_; (case hd => rfl); (case hg => rfl); (case hr => first | (go_simp; done) | (go_simp; rfl)); intro g2 hg w2 hbox hb; have n0_ := Am (bq (by repeat (first | (with_reducible first | exact HB.out | apply ba | apply bn | apply be | refine bs ?_ (Aside0.out (by assumption))) | exact HB.out)) hb); have n1_ := Am hbox; have Gg2 := Am (by rw [hg]; exact (bz (by repeat (first | (with_reducible first | exact HB.out | apply ba | apply bn | apply be | refine bs ?_ (Aside0.out (by assumption))) | exact HB.out))) : w.heap.size ≤ g2); clear HB ; have HB := n0_; have Bg2 := n1_; clear n0_ n1_  hb hbox hg) | ((with_reducible refine gate_dst (N := 4) rfl ?_); (try (refine gate_guard (by rfl) ?_; dsimp only)); refine box_event ?hg (N := 4) ?hd (cs := #[.string (⟨#[]⟩ : ByteArray), .slice none 0 0]) (t := 28) ?hr ?_; (case hd => rfl); (case hg => rfl); (case hr => first | (go_simp; done) | (go_simp; rfl)); intro g4 hg w4 hbox hb; have n0_ := Am (bq (by repeat (first | (with_reducible first | exact HB.out | apply ba | apply bn | apply be | refine bs ?_ (Aside0.out (by assumption))) | exact HB.out)) hb); have n1_ := Am hbox; have Gg4 := Am (by rw [hg]; exact (bz (by repeat (first | (with_reducible first | exact HB.out | apply ba | apply bn | apply be | refine bs ?_ (Aside0.out (by assumption))) | exact HB.out))) : w.heap.size ≤ g4); have Ng2_g4 := Am (by rw [hg]; exact Nat.ne_of_lt (kl Bg2.out) : g2 ≠ g4); have mBg2_ := Am (kb Bg2.out hb); clear HB Bg2; have HB := n0_; have Bg4 := n1_; have Bg2 := mBg2_; clear n0_ n1_ mBg2_ hb hbox hg; have hcp0 : w4.cell? ⟨g2, 0, none⟩ = some (.string a0_0) := (kc Bg2.out 0).trans rfl; have hfp0 := kf Bg2.out 0; have hcp1 : w4.cell? ⟨g2, 1, none⟩ = some (.slice A0_1 l0_1.length c0_1) := (kc Bg2.out 1).trans rfl; have hfp1 := kf Bg2.out 1) | ((with_reducible refine gate_callee (f := 25) rfl ?_); refine zC (some 7) rfl rfl Try.func25 rfl #[.agg #[.string a0_0, .slice A0_1 l0_1.length c0_1]] rfl ?_; (with_reducible refine (impl_copyMemory.calls a0_0 _ _ l0_1 t1 t2 _ ?side1 ?side2 A1.out).mono ?_); (case side1 => exact (cb HR0_1.out HB.out)); (case side2 => exact HC0_1.out); rintro e w6 ⟨v6, rfl, ho0, hb⟩; obtain ⟨A5, c5, rfl⟩ := Kd.R_slice ho0; refine ⟨_, rfl, ?_⟩; have n0_ := Am (Kd.R_lower ho0 (bz HB.out)); have n1_ := Am (bq HB.out hb); have n2_ := Am (kb Bg2.out hb); have n3_ := Am (kb Bg4.out hb); clear HB Bg2 Bg4; have HO := n0_; have HB := n1_; have Bg2 := n2_; have Bg4 := n3_; clear n0_ n1_ n2_ n3_ ho0 hb) | ((with_reducible refine gate_dst (N := 5) rfl ?_); (try (refine gate_guard (by rfl) ?_; dsimp only)); refine box_event ?hg (N := 5) ?hd (cs := #[.string (⟨#[]⟩ : ByteArray), .slice none 0 0]) (t := 28) ?hr ?_; (case hd => rfl); (case hg => rfl); (case hr => first | (go_simp; done) | (go_simp; rfl)); intro g5 hg w7 hbox hb; have n0_ := Am (bq (by repeat (first | (with_reducible first | exact HB.out | apply ba | apply bn | apply be | refine bs ?_ (Aside0.out (by assumption))) | exact HB.out)) hb); have n1_ := Am hbox; have Gg5 := Am (by rw [hg]; exact (bz (by repeat (first | (with_reducible first | exact HB.out | apply ba | apply bn | apply be | refine bs ?_ (Aside0.out (by assumption))) | exact HB.out))) : w.heap.size ≤ g5); have Ng2_g5 := Am (by rw [hg]; exact Nat.ne_of_lt (kl Bg2.out) : g2 ≠ g5); have mBg2_ := Am (kb Bg2.out hb); have Ng4_g5 := Am (by rw [hg]; exact Nat.ne_of_lt (kl Bg4.out) : g4 ≠ g5); have mBg4_ := Am (kb Bg4.out hb); have nO_ := Am (by rw [hg]; exact rb (Kd.R_elderB HO.out _ (Nat.le_refl _)) hb : Kd.R k49 49 w7 w.heap.size (fun k => True ∧ k ≠ g5) (.slice A5 t2.length c5) t2); clear HO; have HO := nO_; clear nO_; clear HB Bg2 Bg4; have HB := n0_; have Bg5 := n1_; have Bg2 := mBg2_; have Bg4 := mBg4_; clear n0_ n1_ mBg2_ mBg4_ hb hbox hg; have hco0 : w7.cell? ⟨g5, 0, none⟩ = some (.string (⟨#[]⟩ : ByteArray)) := (kc Bg5.out 0).trans rfl; have hfo0 := kf Bg5.out 0; have hco1 : w7.cell? ⟨g5, 1, none⟩ = some (.slice none 0 0) := (kc Bg5.out 1).trans rfl; have hfo1 := kf Bg5.out 1; have hcq0 : w7.cell? ⟨g2, 0, none⟩ = some (.string a0_0) := (kc Bg2.out 0).trans rfl; have hfq0 := kf Bg2.out 0; have hcq1 : w7.cell? ⟨g2, 1, none⟩ = some (.slice A0_1 l0_1.length c0_1) := (kc Bg2.out 1).trans rfl; have hfq1 := kf Bg2.out 1; have hn25 := Ng2_g5.out; have hn52 := Ng2_g5.out.symm) | ((with_reducible refine gate_callee (f := 26) rfl ?_); refine zC (some 9) rfl rfl Try.func26 rfl #[.agg #[.string a0_0, .slice A0_1 l0_1.length c0_1]] rfl ?_; (with_reducible refine (impl_MemoryOk.calls k a0_0 _ _ l0_1 true _ ?side1 ?side2 A2.out).mono ?_); (case side1 => exact (cb HR0_1.out (bs (bs HB.out Gg5.out) Gg5.out))); (case side2 => exact HC0_1.out); rintro e w10 ⟨rfl, hb⟩; refine ⟨_, rfl, ?_⟩; have n0_ := Am (rb (Kd.R_far (p := ⟨g5, 1, none⟩) (Kd.R_far (p := ⟨g5, 0, none⟩) HO.out (fun _ hk => hk.2) (.string t1)) (fun _ hk => hk.2) (.slice A5 t2.length c5)) hb); have n1_ := Am (bq (bs (bs HB.out Gg5.out) Gg5.out) hb); have n4_ := Am (kb (blk_far (blk_far Bg4.out Ng4_g5.out _) Ng4_g5.out _) hb); have n5_ := Am (kb (kp (cs := #[.string t1, .slice none 0 0]) (kp (cs := #[.string (⟨#[]⟩ : ByteArray), .slice none 0 0]) Bg5.out 0 (.string t1) (by rfl)) 1 (.slice A5 t2.length c5) (by rfl)) hb); clear HB HO Bg4 Bg5; have HO := n0_; have HB := n1_; have Bg4 := n4_; have Bg5 := n5_; clear n0_ n1_ n4_ n5_ hb; have hcr0 : w10.cell? ⟨g5, 0, none⟩ = some (.string t1) := (kc Bg5.out 0).trans rfl; have hfr0 := kf Bg5.out 0; have hcr1 : w10.cell? ⟨g5, 1, none⟩ = some (.slice A5 t2.length c5) := (kc Bg5.out 1).trans rfl; have hfr1 := kf Bg5.out 1; have hcs0 : w10.cell? ⟨g4, 0, none⟩ = some (.string (⟨#[]⟩ : ByteArray)) := (kc Bg4.out 0).trans rfl; have hfs0 := kf Bg4.out 0; have hcs1 : w10.cell? ⟨g4, 1, none⟩ = some (.slice none 0 0) := (kc Bg4.out 1).trans rfl; have hfs1 := kf Bg4.out 1; have hn45 := Ng4_g5.out; have hn54 := Ng4_g5.out.symm) | ((with_reducible refine gate_callee (f := 27) rfl ?_); refine zC (some 15) rfl rfl Try.func27 rfl #[.pointer (some ⟨g5, 0, none⟩), .int .i64 a1] rfl ?_; refine (fall.calls g5 a1 t1 A5 c5 t2 w w10 HB.out Gg5.out Bg5.out (Kd.R_reads' HO.out).2.2 hok1 hok2 hok3).mono ?_; rintro e w12 ⟨rfl, g7, hg5, hg7, hge, hb, hk⟩; refine ⟨_, rfl, ?_⟩; have n0_ := Am hg5; have n1_ := Am hg7; have n2_ := Am hb; have n4_ := Am (blk_kept Bg4.out hk Ng4_g5.out); have L4 := Am (show g4 ≠ g7 by have h1_ := kl Bg4.out; omega); have L7 := Am (show w.heap.size ≤ g7 by have h1_ := bz HB.out; omega); clear HB Bg4 Bg5 HO; have HB := n2_; have Bg4 := n4_; have Bg5 := n0_; have B7 := n1_; clear n0_ n1_ n2_ n4_ hg5 hg7 hge hb hk; have hct0 : w12.cell? ⟨g5, 0, none⟩ = some (.string (fallN a1 t2 t1 t2.length)) := (kc Bg5.out 0).trans rfl; have hft0 := kf Bg5.out 0; have hct1 : w12.cell? ⟨g5, 1, none⟩ = some (.slice (some ⟨g7, 0, none⟩) 0 0) := (kc Bg5.out 1).trans rfl; have hft1 := kf Bg5.out 1; have hcu0 : w12.cell? ⟨g4, 0, none⟩ = some (.string (⟨#[]⟩ : ByteArray)) := (kc Bg4.out 0).trans rfl; have hfu0 := kf Bg4.out 0; have hcu1 : w12.cell? ⟨g4, 1, none⟩ = some (.slice none 0 0) := (kc Bg4.out 1).trans rfl; have hfu1 := kf Bg4.out 1))
    refine bodyPost_ret (results_cell_row rfl _ _ g4 28 #[.string (fallN a1 t2 t1 t2.length), .slice (some ⟨g7, 0, none⟩) 0 0] (0, 0) _ rfl (by (with_reducible repeat (first | refine kn ?_ _ | refine ke ?_ | refine ka ?_ _)); refine kp (cs := #[.string (fallN a1 t2 t1 t2.length), .slice none 0 0]) ?_ 1 _ rfl; (with_reducible repeat (first | refine kn ?_ _ | refine ke ?_ | refine ka ?_ _)); refine kp (cs := #[.string (⟨#[]⟩ : ByteArray), .slice none 0 0]) ?_ 0 _ rfl; (with_reducible repeat (first | refine kn ?_ _ | refine ke ?_ | refine ka ?_ _)); exact Bg4.out) Try.underlying28 rfl (by kernel_rfl)) rfl ?_
    exact ⟨_, rfl, R_empty k49 49 _ _ g7 L7.out (blk_far (blk_far B7.out L4.out.symm _) L4.out.symm _), bs (bs HB.out Gg4.out) Gg4.out⟩
   ·rw [if_neg ck] at h
    exact absurd h (by simp)
  ·rw [if_neg ca] at h
   have cab : decide (0 ≤ a1) = false := decide_eq_false ca
   clear ca
   simp only [Option.some.injEq, Prod.mk.injEq] at h
   obtain ⟨rfl, rfl⟩ := h
   go_enter Try.func8, Try.ntmps8
   go_wp2_with (first | ((with_reducible refine gate_dst (N := 2) rfl ?_); (try (refine gate_guard (by rfl) ?_; dsimp only)); refine box_event ?hg (N := 2) ?hd (cs := #[.string a0_0, .slice A0_1 l0_1.length c0_1]) (t := 28) ?hr ?_; (case hd => rfl); (case hg => rfl); (case hr => first | (go_simp; done) | (go_simp; rfl)); intro g2 hg w2 hbox hb; have n0_ := Am (bq (by repeat (first | (with_reducible first | exact HB.out | apply ba | apply bn | apply be | refine bs ?_ (Aside0.out (by assumption))) | exact HB.out)) hb); have n1_ := Am hbox; have Gg2 := Am (by rw [hg]; exact (bz (by repeat (first | (with_reducible first | exact HB.out | apply ba | apply bn | apply be | refine bs ?_ (Aside0.out (by assumption))) | exact HB.out))) : w.heap.size ≤ g2); clear HB ; have HB := n0_; have Bg2 := n1_; clear n0_ n1_  hb hbox hg) | ((with_reducible refine gate_dst (N := 4) rfl ?_); (try (refine gate_guard (by rfl) ?_; dsimp only)); refine box_event ?hg (N := 4) ?hd (cs := #[.string (⟨#[]⟩ : ByteArray), .slice none 0 0]) (t := 28) ?hr ?_; (case hd => rfl); (case hg => rfl); (case hr => first | (go_simp; done) | (go_simp; rfl)); intro g4 hg w4 hbox hb; have n0_ := Am (bq (by repeat (first | (with_reducible first | exact HB.out | apply ba | apply bn | apply be | refine bs ?_ (Aside0.out (by assumption))) | exact HB.out)) hb); have n1_ := Am hbox; have Gg4 := Am (by rw [hg]; exact (bz (by repeat (first | (with_reducible first | exact HB.out | apply ba | apply bn | apply be | refine bs ?_ (Aside0.out (by assumption))) | exact HB.out))) : w.heap.size ≤ g4); have Ng2_g4 := Am (by rw [hg]; exact Nat.ne_of_lt (kl Bg2.out) : g2 ≠ g4); have mBg2_ := Am (kb Bg2.out hb); clear HB Bg2; have HB := n0_; have Bg4 := n1_; have Bg2 := mBg2_; clear n0_ n1_ mBg2_ hb hbox hg; have hcp0 : w4.cell? ⟨g2, 0, none⟩ = some (.string a0_0) := (kc Bg2.out 0).trans rfl; have hfp0 := kf Bg2.out 0; have hcp1 : w4.cell? ⟨g2, 1, none⟩ = some (.slice A0_1 l0_1.length c0_1) := (kc Bg2.out 1).trans rfl; have hfp1 := kf Bg2.out 1) | ((with_reducible refine gate_callee (f := 25) rfl ?_); refine zC (some 7) rfl rfl Try.func25 rfl #[.agg #[.string a0_0, .slice A0_1 l0_1.length c0_1]] rfl ?_; (with_reducible refine (impl_copyMemory.calls a0_0 _ _ l0_1 t1 t2 _ ?side1 ?side2 A1.out).mono ?_); (case side1 => exact (cb HR0_1.out HB.out)); (case side2 => exact HC0_1.out); rintro e w6 ⟨v6, rfl, ho0, hb⟩; obtain ⟨A5, c5, rfl⟩ := Kd.R_slice ho0; refine ⟨_, rfl, ?_⟩; have n0_ := Am (Kd.R_lower ho0 (bz HB.out)); have n1_ := Am (bq HB.out hb); have n2_ := Am (kb Bg2.out hb); have n3_ := Am (kb Bg4.out hb); clear HB Bg2 Bg4; have HO := n0_; have HB := n1_; have Bg2 := n2_; have Bg4 := n3_; clear n0_ n1_ n2_ n3_ ho0 hb) | ((with_reducible refine gate_dst (N := 5) rfl ?_); (try (refine gate_guard (by rfl) ?_; dsimp only)); refine box_event ?hg (N := 5) ?hd (cs := #[.string (⟨#[]⟩ : ByteArray), .slice none 0 0]) (t := 28) ?hr ?_; (case hd => rfl); (case hg => rfl); (case hr => first | (go_simp; done) | (go_simp; rfl)); intro g5 hg w7 hbox hb; have n0_ := Am (bq (by repeat (first | (with_reducible first | exact HB.out | apply ba | apply bn | apply be | refine bs ?_ (Aside0.out (by assumption))) | exact HB.out)) hb); have n1_ := Am hbox; have Gg5 := Am (by rw [hg]; exact (bz (by repeat (first | (with_reducible first | exact HB.out | apply ba | apply bn | apply be | refine bs ?_ (Aside0.out (by assumption))) | exact HB.out))) : w.heap.size ≤ g5); have Ng2_g5 := Am (by rw [hg]; exact Nat.ne_of_lt (kl Bg2.out) : g2 ≠ g5); have mBg2_ := Am (kb Bg2.out hb); have Ng4_g5 := Am (by rw [hg]; exact Nat.ne_of_lt (kl Bg4.out) : g4 ≠ g5); have mBg4_ := Am (kb Bg4.out hb); have nO_ := Am (by rw [hg]; exact rb (Kd.R_elderB HO.out _ (Nat.le_refl _)) hb : Kd.R k49 49 w7 w.heap.size (fun k => True ∧ k ≠ g5) (.slice A5 t2.length c5) t2); clear HO; have HO := nO_; clear nO_; clear HB Bg2 Bg4; have HB := n0_; have Bg5 := n1_; have Bg2 := mBg2_; have Bg4 := mBg4_; clear n0_ n1_ mBg2_ mBg4_ hb hbox hg; have hco0 : w7.cell? ⟨g5, 0, none⟩ = some (.string (⟨#[]⟩ : ByteArray)) := (kc Bg5.out 0).trans rfl; have hfo0 := kf Bg5.out 0; have hco1 : w7.cell? ⟨g5, 1, none⟩ = some (.slice none 0 0) := (kc Bg5.out 1).trans rfl; have hfo1 := kf Bg5.out 1; have hcq0 : w7.cell? ⟨g2, 0, none⟩ = some (.string a0_0) := (kc Bg2.out 0).trans rfl; have hfq0 := kf Bg2.out 0; have hcq1 : w7.cell? ⟨g2, 1, none⟩ = some (.slice A0_1 l0_1.length c0_1) := (kc Bg2.out 1).trans rfl; have hfq1 := kf Bg2.out 1; have hn25 := Ng2_g5.out; have hn52 := Ng2_g5.out.symm) | ((with_reducible refine gate_callee (f := 26) rfl ?_); refine zC (some 9) rfl rfl Try.func26 rfl #[.agg #[.string a0_0, .slice A0_1 l0_1.length c0_1]] rfl ?_; (with_reducible refine (impl_MemoryOk.calls k a0_0 _ _ l0_1 true _ ?side1 ?side2 A2.out).mono ?_); (case side1 => exact (cb HR0_1.out (bs (bs HB.out Gg5.out) Gg5.out))); (case side2 => exact HC0_1.out); rintro e w10 ⟨rfl, hb⟩; refine ⟨_, rfl, ?_⟩; have n0_ := Am (rb (Kd.R_far (p := ⟨g5, 1, none⟩) (Kd.R_far (p := ⟨g5, 0, none⟩) HO.out (fun _ hk => hk.2) (.string t1)) (fun _ hk => hk.2) (.slice A5 t2.length c5)) hb); have n1_ := Am (bq (bs (bs HB.out Gg5.out) Gg5.out) hb); have n4_ := Am (kb (blk_far (blk_far Bg4.out Ng4_g5.out _) Ng4_g5.out _) hb); have n5_ := Am (kb (kp (cs := #[.string t1, .slice none 0 0]) (kp (cs := #[.string (⟨#[]⟩ : ByteArray), .slice none 0 0]) Bg5.out 0 (.string t1) (by rfl)) 1 (.slice A5 t2.length c5) (by rfl)) hb); clear HB HO Bg4 Bg5; have HO := n0_; have HB := n1_; have Bg4 := n4_; have Bg5 := n5_; clear n0_ n1_ n4_ n5_ hb; have hcr0 : w10.cell? ⟨g5, 0, none⟩ = some (.string t1) := (kc Bg5.out 0).trans rfl; have hfr0 := kf Bg5.out 0; have hcr1 : w10.cell? ⟨g5, 1, none⟩ = some (.slice A5 t2.length c5) := (kc Bg5.out 1).trans rfl; have hfr1 := kf Bg5.out 1; have hcs0 : w10.cell? ⟨g4, 0, none⟩ = some (.string (⟨#[]⟩ : ByteArray)) := (kc Bg4.out 0).trans rfl; have hfs0 := kf Bg4.out 0; have hcs1 : w10.cell? ⟨g4, 1, none⟩ = some (.slice none 0 0) := (kc Bg4.out 1).trans rfl; have hfs1 := kf Bg4.out 1; have hn45 := Ng4_g5.out; have hn54 := Ng4_g5.out.symm))
   refine bodyPost_ret (results_cell_row rfl _ _ g4 28 #[.string t1, .slice A5 t2.length c5] (0, 0) _ rfl (by (with_reducible repeat (first | refine kn ?_ _ | refine ke ?_ | refine ka ?_ _)); refine kp (cs := #[.string t1, .slice none 0 0]) ?_ 1 _ rfl; (with_reducible repeat (first | refine kn ?_ _ | refine ke ?_ | refine ka ?_ _)); refine kp (cs := #[.string (⟨#[]⟩ : ByteArray), .slice none 0 0]) ?_ 0 _ rfl; (with_reducible repeat (first | refine kn ?_ _ | refine ke ?_ | refine ka ?_ _)); exact Bg4.out) Try.underlying28 rfl (by kernel_rfl)) rfl ?_
   exact ⟨_, rfl, by (with_reducible repeat (first | apply ra | apply rn | apply re)); exact Kd.R_mono (Kd.R_far (p := ⟨g4, 1, none⟩) (Kd.R_far (p := ⟨g4, 0, none⟩) (Kd.R_types HO.out Bg4.out (by decide)) (fun _ hk => hk.2) (.string t1)) (fun _ hk => hk.2) (.slice A5 t2.length c5)) (fun _ hk => trivial), bs (bs HB.out Gg4.out) Gg4.out⟩
 ·replace ct := Bool.eq_false_iff.mpr ct
  subst ct
  rw [if_neg (show ¬ (false = true) by decide)] at h
  simp only [Option.some.injEq, Prod.mk.injEq] at h
  obtain ⟨rfl, rfl⟩ := h
  go_enter Try.func8, Try.ntmps8
  go_wp2_with (first | ((with_reducible refine gate_dst (N := 2) rfl ?_); (try (refine gate_guard (by rfl) ?_; dsimp only)); refine box_event ?hg (N := 2) ?hd (cs := #[.string a0_0, .slice A0_1 l0_1.length c0_1]) (t := 28) ?hr ?_; (case hd => rfl); (case hg => rfl); (case hr => first | (go_simp; done) | (go_simp; rfl)); intro g2 hg w2 hbox hb; have n0_ := Am (bq (by repeat (first | (with_reducible first | exact HB.out | apply ba | apply bn | apply be | refine bs ?_ (Aside0.out (by assumption))) | exact HB.out)) hb); have n1_ := Am hbox; have Gg2 := Am (by rw [hg]; exact (bz (by repeat (first | (with_reducible first | exact HB.out | apply ba | apply bn | apply be | refine bs ?_ (Aside0.out (by assumption))) | exact HB.out))) : w.heap.size ≤ g2); clear HB ; have HB := n0_; have Bg2 := n1_; clear n0_ n1_  hb hbox hg) | ((with_reducible refine gate_dst (N := 4) rfl ?_); (try (refine gate_guard (by rfl) ?_; dsimp only)); refine box_event ?hg (N := 4) ?hd (cs := #[.string (⟨#[]⟩ : ByteArray), .slice none 0 0]) (t := 28) ?hr ?_; (case hd => rfl); (case hg => rfl); (case hr => first | (go_simp; done) | (go_simp; rfl)); intro g4 hg w4 hbox hb; have n0_ := Am (bq (by repeat (first | (with_reducible first | exact HB.out | apply ba | apply bn | apply be | refine bs ?_ (Aside0.out (by assumption))) | exact HB.out)) hb); have n1_ := Am hbox; have Gg4 := Am (by rw [hg]; exact (bz (by repeat (first | (with_reducible first | exact HB.out | apply ba | apply bn | apply be | refine bs ?_ (Aside0.out (by assumption))) | exact HB.out))) : w.heap.size ≤ g4); have Ng2_g4 := Am (by rw [hg]; exact Nat.ne_of_lt (kl Bg2.out) : g2 ≠ g4); have mBg2_ := Am (kb Bg2.out hb); clear HB Bg2; have HB := n0_; have Bg4 := n1_; have Bg2 := mBg2_; clear n0_ n1_ mBg2_ hb hbox hg; have hcp0 : w4.cell? ⟨g2, 0, none⟩ = some (.string a0_0) := (kc Bg2.out 0).trans rfl; have hfp0 := kf Bg2.out 0; have hcp1 : w4.cell? ⟨g2, 1, none⟩ = some (.slice A0_1 l0_1.length c0_1) := (kc Bg2.out 1).trans rfl; have hfp1 := kf Bg2.out 1) | ((with_reducible refine gate_callee (f := 25) rfl ?_); refine zC (some 7) rfl rfl Try.func25 rfl #[.agg #[.string a0_0, .slice A0_1 l0_1.length c0_1]] rfl ?_; (with_reducible refine (impl_copyMemory.calls a0_0 _ _ l0_1 t1 t2 _ ?side1 ?side2 A1.out).mono ?_); (case side1 => exact (cb HR0_1.out HB.out)); (case side2 => exact HC0_1.out); rintro e w6 ⟨v6, rfl, ho0, hb⟩; obtain ⟨A5, c5, rfl⟩ := Kd.R_slice ho0; refine ⟨_, rfl, ?_⟩; have n0_ := Am (Kd.R_lower ho0 (bz HB.out)); have n1_ := Am (bq HB.out hb); have n2_ := Am (kb Bg2.out hb); have n3_ := Am (kb Bg4.out hb); clear HB Bg2 Bg4; have HO := n0_; have HB := n1_; have Bg2 := n2_; have Bg4 := n3_; clear n0_ n1_ n2_ n3_ ho0 hb) | ((with_reducible refine gate_dst (N := 5) rfl ?_); (try (refine gate_guard (by rfl) ?_; dsimp only)); refine box_event ?hg (N := 5) ?hd (cs := #[.string (⟨#[]⟩ : ByteArray), .slice none 0 0]) (t := 28) ?hr ?_; (case hd => rfl); (case hg => rfl); (case hr => first | (go_simp; done) | (go_simp; rfl)); intro g5 hg w7 hbox hb; have n0_ := Am (bq (by repeat (first | (with_reducible first | exact HB.out | apply ba | apply bn | apply be | refine bs ?_ (Aside0.out (by assumption))) | exact HB.out)) hb); have n1_ := Am hbox; have Gg5 := Am (by rw [hg]; exact (bz (by repeat (first | (with_reducible first | exact HB.out | apply ba | apply bn | apply be | refine bs ?_ (Aside0.out (by assumption))) | exact HB.out))) : w.heap.size ≤ g5); have Ng2_g5 := Am (by rw [hg]; exact Nat.ne_of_lt (kl Bg2.out) : g2 ≠ g5); have mBg2_ := Am (kb Bg2.out hb); have Ng4_g5 := Am (by rw [hg]; exact Nat.ne_of_lt (kl Bg4.out) : g4 ≠ g5); have mBg4_ := Am (kb Bg4.out hb); have nO_ := Am (by rw [hg]; exact rb (Kd.R_elderB HO.out _ (Nat.le_refl _)) hb : Kd.R k49 49 w7 w.heap.size (fun k => True ∧ k ≠ g5) (.slice A5 t2.length c5) t2); clear HO; have HO := nO_; clear nO_; clear HB Bg2 Bg4; have HB := n0_; have Bg5 := n1_; have Bg2 := mBg2_; have Bg4 := mBg4_; clear n0_ n1_ mBg2_ mBg4_ hb hbox hg; have hco0 : w7.cell? ⟨g5, 0, none⟩ = some (.string (⟨#[]⟩ : ByteArray)) := (kc Bg5.out 0).trans rfl; have hfo0 := kf Bg5.out 0; have hco1 : w7.cell? ⟨g5, 1, none⟩ = some (.slice none 0 0) := (kc Bg5.out 1).trans rfl; have hfo1 := kf Bg5.out 1; have hcq0 : w7.cell? ⟨g2, 0, none⟩ = some (.string a0_0) := (kc Bg2.out 0).trans rfl; have hfq0 := kf Bg2.out 0; have hcq1 : w7.cell? ⟨g2, 1, none⟩ = some (.slice A0_1 l0_1.length c0_1) := (kc Bg2.out 1).trans rfl; have hfq1 := kf Bg2.out 1; have hn25 := Ng2_g5.out; have hn52 := Ng2_g5.out.symm) | ((with_reducible refine gate_callee (f := 26) rfl ?_); refine zC (some 9) rfl rfl Try.func26 rfl #[.agg #[.string a0_0, .slice A0_1 l0_1.length c0_1]] rfl ?_; (with_reducible refine (impl_MemoryOk.calls k a0_0 _ _ l0_1 false _ ?side1 ?side2 A2.out).mono ?_); (case side1 => exact (cb HR0_1.out (bs (bs HB.out Gg5.out) Gg5.out))); (case side2 => exact HC0_1.out); rintro e w10 ⟨rfl, hb⟩; refine ⟨_, rfl, ?_⟩; have n0_ := Am (rb (Kd.R_far (p := ⟨g5, 1, none⟩) (Kd.R_far (p := ⟨g5, 0, none⟩) HO.out (fun _ hk => hk.2) (.string t1)) (fun _ hk => hk.2) (.slice A5 t2.length c5)) hb); have n1_ := Am (bq (bs (bs HB.out Gg5.out) Gg5.out) hb); have n4_ := Am (kb (blk_far (blk_far Bg4.out Ng4_g5.out _) Ng4_g5.out _) hb); have n5_ := Am (kb (kp (cs := #[.string t1, .slice none 0 0]) (kp (cs := #[.string (⟨#[]⟩ : ByteArray), .slice none 0 0]) Bg5.out 0 (.string t1) (by rfl)) 1 (.slice A5 t2.length c5) (by rfl)) hb); clear HB HO Bg4 Bg5; have HO := n0_; have HB := n1_; have Bg4 := n4_; have Bg5 := n5_; clear n0_ n1_ n4_ n5_ hb; have hcr0 : w10.cell? ⟨g5, 0, none⟩ = some (.string t1) := (kc Bg5.out 0).trans rfl; have hfr0 := kf Bg5.out 0; have hcr1 : w10.cell? ⟨g5, 1, none⟩ = some (.slice A5 t2.length c5) := (kc Bg5.out 1).trans rfl; have hfr1 := kf Bg5.out 1; have hcs0 : w10.cell? ⟨g4, 0, none⟩ = some (.string (⟨#[]⟩ : ByteArray)) := (kc Bg4.out 0).trans rfl; have hfs0 := kf Bg4.out 0; have hcs1 : w10.cell? ⟨g4, 1, none⟩ = some (.slice none 0 0) := (kc Bg4.out 1).trans rfl; have hfs1 := kf Bg4.out 1; have hn45 := Ng4_g5.out; have hn54 := Ng4_g5.out.symm))
  refine bodyPost_ret (results_cell_row rfl _ _ g4 28 #[.string t1, .slice A5 t2.length c5] (0, 0) _ rfl (by (with_reducible repeat (first | refine kn ?_ _ | refine ke ?_ | refine ka ?_ _)); refine kp (cs := #[.string t1, .slice none 0 0]) ?_ 1 _ rfl; (with_reducible repeat (first | refine kn ?_ _ | refine ke ?_ | refine ka ?_ _)); refine kp (cs := #[.string (⟨#[]⟩ : ByteArray), .slice none 0 0]) ?_ 0 _ rfl; (with_reducible repeat (first | refine kn ?_ _ | refine ke ?_ | refine ka ?_ _)); exact Bg4.out) Try.underlying28 rfl (by kernel_rfl)) rfl ?_
  exact ⟨_, rfl, by (with_reducible repeat (first | apply ra | apply rn | apply re)); exact Kd.R_mono (Kd.R_far (p := ⟨g4, 1, none⟩) (Kd.R_far (p := ⟨g4, 0, none⟩) (Kd.R_types HO.out Bg4.out (by decide)) (fun _ hk => hk.2) (.string t1)) (fun _ hk => hk.2) (.slice A5 t2.length c5)) (fun _ hk => trivial), bs (bs HB.out Gg4.out) Gg4.out⟩
theorem impl_FallenMemory.mono : ∀ a0_0 l0_1 a1 k, LeO (impl_FallenMemory.f k a0_0 l0_1 a1) (impl_FallenMemory.f (k + 1) a0_0 l0_1 a1) := by
 intro a0_0 l0_1 a1 k
 unfold impl_FallenMemory.f
 refine LeO.bind (LeO.refl _) (fun bt => LeO.bind (impl_MemoryOk.mono _ _ _) (fun t => LeO.refl _))

/-! ### laws_big: function 12 -/
def laws_big.f (l0 : List Int) : Option (Bool) := some (decide ((l0.length : Int) > 1048576))
set_option maxHeartbeats 8000000 in
set_option maxRecDepth 100000 in
theorem laws_big.calls (A0 : Option Addr) (c0 : Nat) (l0 : List Int) (r : Bool) (w : World) (hr0 : Kd.C (Kd.int .u8) w A0 l0.length l0) (hc0 : l0.length ≤ c0) (h : laws_big.f l0 = some r) :
  Calls Try.prog 12 #[.slice A0 l0.length c0] w fun e w' => e = .returned (.bool r) ∧ Drawn0 w w' := by
 have HR0 := Am hr0
 have HC0 := Am hc0
 clear hr0 hc0
 have H : (some (decide ((l0.length : Int) > 1048576))) = some r := h
 clear h
 obtain rfl := Option.some.inj H
 go_enter Try.func12, Try.ntmps12
 go_wp2
 go_ret
 exact ⟨by first | rfl | (simp; done) | (simp [*]; done), by repeat (first | exact Drawn0.refl _ | apply Drawn0.step)⟩

/-- A state of type 72 at block g of W; what its slices lead to came in by w0. -/
def IsS72 (w0 W : World) (g : Nat) (f0 : List Int) (f1 : Int) (f2 : Int) : Prop := ∃ A0 c0, W.heap[g]? = some (.cells #[.slice A0 f0.length c0, .int .i64 f1, .int .i64 f2] 72 (0, 0)) ∧ w0.heap.size ≤ g ∧ Kd.C (Kd.int .u8) w0 A0 f0.length f0
theorem IsS72.grown {w0 W : World} {g : Nat} {f0 : List Int} {f1 : Int} {f2 : Int} {W1 : World} {row : Option Nat} (h : IsS72 w0 W g f0 f1 f2) (hw : W.grownBy W1 row) (hne : some g ≠ row) : IsS72 w0 W1 g f0 f1 f2 := by
 obtain ⟨A0, c0, hb, hg, hr0⟩ := h
 exact ⟨A0, c0, kg hb hw hne, hg, hr0⟩
theorem IsS72.own_neN {w0 W : World} {g : Nat} {f0 : List Int} {f1 : Int} {f2 : Int} {α : Type} {d : Kd α} {e : Nat} {base : Nat} {ok : Nat → Prop} {v : Value} {xs : List α} (h : IsS72 w0 W g f0 f1 f2) (ho : Kd.N d e W base ok v xs) (ht : e ≠ 72) : some g ≠ v.ownBlock := by
 obtain ⟨A0, c0, hb, hg, hr0⟩ := h
 exact Kd.N_ne ho hb ht
theorem IsS72.fresh {w0 W : World} {g : Nat} {f0 : List Int} {f1 : Int} {f2 : Int} (h : IsS72 w0 W g f0 f1 f2) : ∀ k, W.heap.size ≤ k → k ≠ g := by
 obtain ⟨A0, c0, hb, hg, hr0⟩ := h
 exact Kd.freshB hb
theorem IsS72.kept {w0 W : World} {g : Nat} {f0 : List Int} {f1 : Int} {f2 : Int} {W1 : World} {S : Nat → Prop} (h : IsS72 w0 W g f0 f1 f2) (hk : Kept W W1 S) (hne : ¬ S g) : IsS72 w0 W1 g f0 f1 f2 := by
 obtain ⟨A0, c0, hb, hg, hr0⟩ := h
 exact ⟨A0, c0, blk_kept hb hk hne, hg, hr0⟩
theorem IsS72.below {w0 W : World} {g : Nat} {f0 : List Int} {f1 : Int} {f2 : Int} {W1 : World} (h : IsS72 w0 W g f0 f1 f2) (hw : Below W.heap.size W W1) : IsS72 w0 W1 g f0 f1 f2 := h.grown (grown_of_below hw none) (by simp)
theorem IsS72.alloc {w0 W : World} {g : Nat} {f0 : List Int} {f1 : Int} {f2 : Int} (h : IsS72 w0 W g f0 f1 f2) (o : Obj) : IsS72 w0 (W.alloc o) g f0 f1 f2 := h.below (ba (Below.refl _ _) o)
theorem IsS72.drewN {w0 W : World} {g : Nat} {f0 : List Int} {f1 : Int} {f2 : Int} (h : IsS72 w0 W g f0 f1 f2) (m : Nat) : IsS72 w0 (W.drewN m) g f0 f1 f2 := h
theorem IsS72.drew {w0 W : World} {g : Nat} {f0 : List Int} {f1 : Int} {f2 : Int} (h : IsS72 w0 W g f0 f1 f2) : IsS72 w0 W.drew g f0 f1 f2 := h
theorem IsS72.at_ {w0 W : World} {g : Nat} {f0 : List Int} {f1 : Int} {f2 : Int} {w' : World} {m : Nat} (hq : W.drewN m = w') (h : IsS72 w0 W g f0 f1 f2) : IsS72 w0 w' g f0 f1 f2 := by subst hq; exact IsS72.drewN h m
theorem IsS72.apart {w0 W : World} {g : Nat} {f0 : List Int} {f1 : Int} {f2 : Int} {α : Type} {d : Kd α} {e : Nat} {base : Nat} {ok : Nat → Prop} {v : Value} {xs : List α} (h : IsS72 w0 W g f0 f1 f2) (ho : d.R e W base ok v xs) (ht : ∀ q, q ∈ e :: d.E → q ≠ 72) : d.R e W base (fun k => ok k ∧ k ≠ g) v xs := by
 obtain ⟨A0, c0, hb, hg, hr0⟩ := h
 exact Kd.R_types ho hb ht
theorem IsS72.own_ne {w0 W : World} {g : Nat} {f0 : List Int} {f1 : Int} {f2 : Int} {α : Type} {d : Kd α} {e : Nat} {base : Nat} {ok : Nat → Prop} {v : Value} {xs : List α} (h : IsS72 w0 W g f0 f1 f2) (ho : d.R e W base ok v xs) (ht : e ≠ 72) : some g ≠ v.ownBlock := by
 obtain ⟨A0, c0, hb, hg, hr0⟩ := h
 exact Kd.R_ne ho hb ht
theorem IsS72.apartQ {w0 W : World} {g : Nat} {f0 : List Int} {f1 : Int} {f2 : Int} {α : Type} {d : Kd α} {e : Nat} {base : Nat} {ok : Nat → Prop} {v : Value} {xs : List α} (h : IsS72 w0 W g f0 f1 f2) (ho : d.Q e W base ok v xs) (ht : ∀ q, q ∈ e :: d.E → q ≠ 72) : d.Q e W base (fun k => ok k ∧ k ≠ g) v xs := by
 obtain ⟨A0, c0, hb, hg, hr0⟩ := h
 exact Kd.Q_types ho hb ht
theorem IsS72.own_neQ {w0 W : World} {g : Nat} {f0 : List Int} {f1 : Int} {f2 : Int} {α : Type} {d : Kd α} {e : Nat} {base : Nat} {ok : Nat → Prop} {v : Value} {xs : List α} (h : IsS72 w0 W g f0 f1 f2) (ho : d.Q e W base ok v xs) (ht : e ≠ 72) : some g ≠ v.ownBlock := by
 obtain ⟨A0, c0, hb, hg, hr0⟩ := h
 exact Kd.Q_ne ho hb ht
theorem IsS72.apartS {w0 W : World} {g : Nat} {f0 : List Int} {f1 : Int} {f2 : Int} {α : Type} {d : Kd α} {e : Nat} {base : Nat} {ok : Nat → Prop} {v : Value} {xs : List α} (h : IsS72 w0 W g f0 f1 f2) (ho : d.S e W base ok v xs) (ht : ∀ q, q ∈ e :: d.E → q ≠ 72) : d.S e W base (fun k => ok k ∧ k ≠ g) v xs := by
 obtain ⟨A0, c0, hb, hg, hr0⟩ := h
 exact Kd.S_types ho hb ht
theorem IsS72.own_neS {w0 W : World} {g : Nat} {f0 : List Int} {f1 : Int} {f2 : Int} {α : Type} {d : Kd α} {e : Nat} {base : Nat} {ok : Nat → Prop} {v : Value} {xs : List α} (h : IsS72 w0 W g f0 f1 f2) (ho : d.S e W base ok v xs) (ht : e ≠ 72) : some g ≠ v.ownBlock := by
 obtain ⟨A0, c0, hb, hg, hr0⟩ := h
 exact Kd.S_ne ho hb ht
theorem IsS72.lt {w0 W : World} {g : Nat} {f0 : List Int} {f1 : Int} {f2 : Int} (h : IsS72 w0 W g f0 f1 f2) : g < W.heap.size := by
 obtain ⟨A0, c0, hb, hg, hr0⟩ := h
 exact kl hb
theorem IsS72.ge {w0 W : World} {g : Nat} {f0 : List Int} {f1 : Int} {f2 : Int} (h : IsS72 w0 W g f0 f1 f2) : w0.heap.size ≤ g := by
 obtain ⟨A0, c0, hb, hg, hr0⟩ := h
 exact hg
theorem IsS72.ne_blk {w0 W : World} {g : Nat} {f0 : List Int} {f1 : Int} {f2 : Int} {a : Nat} {cs : Array Value} {t : TypeId} {fr : Nat × Nat} (h : IsS72 w0 W g f0 f1 f2) (hb2 : W.heap[a]? = some (.cells cs t fr)) (ht : t ≠ 72) : g ≠ a := by
 obtain ⟨A0, c0, hb, hg, hr0⟩ := h
 rintro rfl
 rw [hb] at hb2
 injection hb2 with hb2
 injection hb2 with _ ht2
 exact ht ht2.symm
theorem IsS72.far {w0 W : World} {g : Nat} {f0 : List Int} {f1 : Int} {f2 : Int} {p : Addr} (h : IsS72 w0 W g f0 f1 f2) (hne : g ≠ p.block) (u : Value) : IsS72 w0 (W.setCell p u) g f0 f1 f2 := by
 obtain ⟨A0, c0, hb, hg, hr0⟩ := h
 exact ⟨A0, c0, blk_far hb hne u, hg, hr0⟩
theorem cellS72_0 {W : World} {g : Nat} {A0 : Option Addr} {c0 : Nat} {f0 : List Int} {f1 : Int} {f2 : Int} (h : W.heap[g]? = some (.cells #[.slice A0 f0.length c0, .int .i64 f1, .int .i64 f2] 72 (0, 0))) : W.cell? ⟨g, 0, none⟩ = some (.slice A0 f0.length c0) := (kc h 0).trans rfl
theorem cellS72_1 {W : World} {g : Nat} {A0 : Option Addr} {c0 : Nat} {f0 : List Int} {f1 : Int} {f2 : Int} (h : W.heap[g]? = some (.cells #[.slice A0 f0.length c0, .int .i64 f1, .int .i64 f2] 72 (0, 0))) : W.cell? ⟨g, 1, none⟩ = some (.int .i64 f1) := (kc h 1).trans rfl
theorem IsS72.set_1 {w0 W : World} {g : Nat} {f0 : List Int} {f1 : Int} {f2 : Int} (h : IsS72 w0 W g f0 f1 f2) (x : Int) : IsS72 w0 (W.setCell ⟨g, 1, none⟩ (.int .i64 x)) g f0 x f2 := by
 obtain ⟨A0, c0, hb, hg, hr0⟩ := h
 exact ⟨A0, c0, by simpa using blk_set hb 1 (.int .i64 x), hg, hr0⟩
theorem cellS72_2 {W : World} {g : Nat} {A0 : Option Addr} {c0 : Nat} {f0 : List Int} {f1 : Int} {f2 : Int} (h : W.heap[g]? = some (.cells #[.slice A0 f0.length c0, .int .i64 f1, .int .i64 f2] 72 (0, 0))) : W.cell? ⟨g, 2, none⟩ = some (.int .i64 f2) := (kc h 2).trans rfl
theorem IsS72.set_2 {w0 W : World} {g : Nat} {f0 : List Int} {f1 : Int} {f2 : Int} (h : IsS72 w0 W g f0 f1 f2) (x : Int) : IsS72 w0 (W.setCell ⟨g, 2, none⟩ (.int .i64 x)) g f0 f1 x := by
 obtain ⟨A0, c0, hb, hg, hr0⟩ := h
 exact ⟨A0, c0, by simpa using blk_set hb 2 (.int .i64 x), hg, hr0⟩
theorem IsS72.new (w0 W : World) (A0 : Option Addr) (c0 : Nat) (f0 : List Int) (f1 : Int) (f2 : Int) (hB : Below w0.heap.size w0 W) (hr0 : Kd.C (Kd.int .u8) w0 A0 f0.length f0) : IsS72 w0 (W.alloc (.cells #[.slice A0 f0.length c0, .int .i64 f1, .int .i64 f2] 72)) W.heap.size f0 f1 f2 := ⟨A0, c0, by simpa using heap_alloc_new W _, hB.size, hr0⟩

/-! ### spec_l01New: function 31 -/
def spec_l01New.l0 : Nat → List Int → Int → Int → Option (List Int × Int × Int)
 | 0, _, _, _ => none
 | k + 1, x0, x3, x4 => if x4 < (x0.length : Int) then (if x4 < 4000 then (if 0 ≤ x4 then (spec_l01New.l0 k x0 (Go.bits .and .i64 (wrap64 ((wrap64 ((wrap64 (x3 * 131)) + (wrap64 (rd x0 x4)))) + 7)) 1073741823) (wrap64 (x4 + 1))) else (none)) else (some (x0, 0, x3))) else (some (x0, 0, x3))
def spec_l01New.f (k : Nat) (l0 : List Int) : Option (List Int × Int × Int) := spec_l01New.l0 k l0 (wrap64 (94701 + (l0.length : Int))) 0
theorem spec_l01New.mono_l : ∀ k, (∀ y0 y1 y2, LeO (spec_l01New.l0 k y0 y1 y2) (spec_l01New.l0 (k + 1) y0 y1 y2))
 | 0 => fun _ _ _ r h => by simp [spec_l01New.l0] at h
 | k + 1 => by
  have ih0 := spec_l01New.mono_l k
  ·intro y0 y1 y2
   unfold spec_l01New.l0
   repeat' first
   | (with_reducible exact ih0 _ _ _)
   | (with_reducible exact LeO.refl _)
   | (with_reducible exact LeO.none _)
   | (with_reducible refine LeO.ite ?_ ?_)
   | (with_reducible refine LeO.bind ?_ (fun _ => ?_))
   | exact ih0 _ _ _
   | exact LeO.none _
   | refine LeO.ite ?_ ?_
   | refine LeO.bind ?_ (fun _ => ?_)
theorem spec_l01New.mono : ∀ a0 k, LeO (spec_l01New.f k a0) (spec_l01New.f (k + 1) a0) := by
 intro a0 k
 have ih0 := spec_l01New.mono_l k
 unfold spec_l01New.f
 repeat' first
   | (with_reducible exact ih0 _ _ _)
   | (with_reducible exact LeO.refl _)
   | (with_reducible exact LeO.none _)
   | (with_reducible refine LeO.ite ?_ ?_)
   | (with_reducible refine LeO.bind ?_ (fun _ => ?_))
   | exact ih0 _ _ _
   | exact LeO.none _
   | refine LeO.ite ?_ ?_
   | refine LeO.bind ?_ (fun _ => ?_)
set_option maxHeartbeats 8000000 in
set_option maxRecDepth 100000 in
theorem spec_l01New.calls (k : Nat) (A0 : Option Addr) (c0 : Nat) (l0 : List Int) (r1 : List Int) (r2 : Int) (r3 : Int) (w0 w : World) (hB : Below w0.heap.size w0 w) (hr0 : Kd.C (Kd.int .u8) w0 A0 l0.length l0) (hc0 : l0.length ≤ c0) (h : spec_l01New.f k l0 = some (r1, r2, r3)) :
  Calls Try.prog 31 #[.slice A0 l0.length c0] w fun e w' => ∃ g_ : Nat, e = .returned (.pointer (some ⟨g_, 0, none⟩)) ∧ IsS72 w0 w' g_ r1 r2 r3 ∧ Below w0.heap.size w0 w' ∧ Below w.heap.size w w' := by
 have hu72 := Try.underlying72
 have HR0 := Am hr0
 have HC0 := Am hc0
 clear hr0 hc0
 have HBW := Am (Below.refl w.heap.size w)
 have HW0 := Am hB.size
 have HB := Am hB
 clear hB
 have H : (spec_l01New.l0 k l0 (wrap64 (94701 + (l0.length : Int))) 0) = some (r1, r2, r3) := h
 clear h
 have H' := Am H
 clear H
 go_enter Try.func31, Try.ntmps31
 go_wp2
 go_loopg [3, 4] k (fun kq v3 v4 w' => ∃ (x3_1 : Int) (x4_1 : Int), v3 = .int .i64 x3_1 ∧ v4 = .int .i64 x4_1 ∧ Aside0 (spec_l01New.l0 kq l0 x3_1 x4_1 = some (r1, r2, r3)) ∧ Aside0 (kq ≤ k) ∧ Aside0 (Below w0.heap.size w0 w') ∧ Aside0 (Below w.heap.size w w'))
 case atStart => exact ⟨(wrap64 (94701 + (l0.length : Int))), (0), (by first | rfl | (simp; done) | (simp [*]; done)), (by first | rfl | (simp; done) | (simp [*]; done)), H', ⟨Nat.le_refl _⟩, ⟨zB⟩, ⟨by repeat (first | (with_reducible first | exact HBW.out | apply ba | apply bn | apply be) | exact HBW.out)⟩⟩
 case round =>
  clear H'
  obtain ⟨x3_1, x4_1, rfl, rfl, HA, HK1, HB, HBW⟩ := hrel
  cases gk with
  | zero => exact absurd HA.out (by simp [spec_l01New.l0])
  | succ k1 =>
   have H := HA.out
   clear HA
   simp only [spec_l01New.l0] at H
   by_cases c2 : x4_1 < (l0.length : Int)
   ·rw [if_pos c2] at H
    have c2b0 : decide (x4_1 < (l0.length : Int)) = true := decide_eq_true c2
    clear c2
    by_cases c3 : x4_1 < 4000
    ·rw [if_pos c3] at H
     have c3b0 : decide (x4_1 < 4000) = true := decide_eq_true c3
     clear c3
     by_cases c4 : 0 ≤ x4_1
     ·rw [if_pos c4] at H
      have c4b0 : decide (0 ≤ x4_1) = true := decide_eq_true c4
      clear c4
      have H' := Am H
      clear H
      have p147 : 0 ≤ (x4_1 : Int) := of_decide_eq_true (by first | (with_reducible assumption) | assumption)
      have q147 : x4_1 < (l0.length : Int) := of_decide_eq_true (by first | (with_reducible assumption) | assumption)
      obtain ⟨ad147, e147, hx147_0⟩ := Kd.at_int HR0.out x4_1 p147 q147
      cases e147
      replace hx147_0 := pw_cell_below HB.out hx147_0
      replace p147 := eq_true p147
      replace q147 := eq_true q147
      go_wp2
      go_roundg k1
      case measure => have := HK1.out; omega
      case rel => exact ⟨(Go.bits .and .i64 (wrap64 ((wrap64 ((wrap64 (x3_1 * 131)) + (wrap64 (rd l0 x4_1)))) + 7)) 1073741823), (wrap64 (x4_1 + 1)), (by first | rfl | (simp; done) | (simp [*]; done)), (by first | rfl | (simp; done) | (simp [*]; done)), H', ⟨by have := HK1.out; omega⟩, ⟨zB⟩, ⟨by repeat (first | (with_reducible first | exact HBW.out | apply ba | apply bn | apply be) | exact HBW.out)⟩⟩
     ·rw [if_neg c4] at H
      exact absurd H (by simp)
    ·rw [if_neg c3] at H
     have c3b0 : decide (x4_1 < 4000) = false := decide_eq_false c3
     clear c3
     simp only [Option.some.injEq, Prod.mk.injEq] at H
     obtain ⟨rfl, rfl, rfl⟩ := H
     go_wp2_with (first | ((with_reducible refine gate_dst (N := 31) rfl ?_); refine box_event ?hg (N := 31) ?hd (cs := #[.slice A0 l0.length c0, .int .i64 0, .int .i64 x3_1]) (t := 72) ?hr ?_; (case hd => rfl); (case hg => rfl); (case hr => first | (go_simp; done) | (go_simp; rfl)); intro gb148 hg w5 hbox hb; replace HB := Am (bq zB hb); have BK148 := Am (hbox); have GW148 := Am ((by rw [hg]; exact (bz (by repeat (first | (with_reducible first | exact HBW.out | apply ba | apply bn | apply be) | exact HBW.out))) : w.heap.size ≤ gb148)); have GE148 := Am ((Nat.le_trans HW0.out (by rw [hg]; exact (bz (by repeat (first | (with_reducible first | exact HBW.out | apply ba | apply bn | apply be) | exact HBW.out))) : w.heap.size ≤ gb148) : w0.heap.size ≤ gb148)); replace HBW := Am (bq HBW.out hb); clear hb hbox hg))
     go_ret
     exact ⟨_, rfl, (show IsS72 w0 _ gb148 l0 0 x3_1 from ⟨_, _, by (with_reducible repeat (first | refine kn ?_ _ | refine ke ?_ | refine ka ?_ _)); exact BK148.out, GE148.out, HR0.out⟩), zG, by repeat (first | (with_reducible first | exact HBW.out | apply ba | apply bn | apply be | refine bs ?_ GW148.out) | exact HBW.out)⟩
   ·rw [if_neg c2] at H
    have c2b0 : decide (x4_1 < (l0.length : Int)) = false := decide_eq_false c2
    clear c2
    simp only [Option.some.injEq, Prod.mk.injEq] at H
    obtain ⟨rfl, rfl, rfl⟩ := H
    go_wp2_with (first | ((with_reducible refine gate_dst (N := 31) rfl ?_); refine box_event ?hg (N := 31) ?hd (cs := #[.slice A0 l0.length c0, .int .i64 0, .int .i64 x3_1]) (t := 72) ?hr ?_; (case hd => rfl); (case hg => rfl); (case hr => first | (go_simp; done) | (go_simp; rfl)); intro gb149 hg w6 hbox hb; replace HB := Am (bq zB hb); have BK149 := Am (hbox); have GW149 := Am ((by rw [hg]; exact (bz (by repeat (first | (with_reducible first | exact HBW.out | apply ba | apply bn | apply be) | exact HBW.out))) : w.heap.size ≤ gb149)); have GE149 := Am ((Nat.le_trans HW0.out (by rw [hg]; exact (bz (by repeat (first | (with_reducible first | exact HBW.out | apply ba | apply bn | apply be) | exact HBW.out))) : w.heap.size ≤ gb149) : w0.heap.size ≤ gb149)); replace HBW := Am (bq HBW.out hb); clear hb hbox hg))
    go_ret
    exact ⟨_, rfl, (show IsS72 w0 _ gb149 l0 0 x3_1 from ⟨_, _, by (with_reducible repeat (first | refine kn ?_ _ | refine ke ?_ | refine ka ?_ _)); exact BK149.out, GE149.out, HR0.out⟩), zG, by repeat (first | (with_reducible first | exact HBW.out | apply ba | apply bn | apply be | refine bs ?_ GW149.out) | exact HBW.out)⟩

/-! ### spec_l01Byte: function 58 -/
def spec_l01Byte.f (s0_0 : List Int) (s0_1 : Int) (s0_2 : Int) : Option (Int × Int × Int) := if s0_1 < (s0_0.length : Int) then (if 0 ≤ s0_1 then (some (Go.bits .and .i64 (wrap64 ((Go.bits .and .i64 (Go.bits .xor .i64 ((wrap64 ((wrap64 (s0_2 * 6364136223846793005)) + 1442695040888963407)) / 8589934592) ((wrap64 ((wrap64 (s0_2 * 6364136223846793005)) + 1442695040888963407)) / 35184372088832)) 255) + (wrap64 (rd s0_0 s0_1)))) 255, wrap64 (s0_1 + 1), wrap64 ((wrap64 (s0_2 * 6364136223846793005)) + 1442695040888963407))) else (none)) else (some (Go.bits .and .i64 (Go.bits .xor .i64 ((wrap64 ((wrap64 (s0_2 * 6364136223846793005)) + 1442695040888963407)) / 8589934592) ((wrap64 ((wrap64 (s0_2 * 6364136223846793005)) + 1442695040888963407)) / 35184372088832)) 255, s0_1, wrap64 ((wrap64 (s0_2 * 6364136223846793005)) + 1442695040888963407)))
set_option maxHeartbeats 8000000 in
set_option maxRecDepth 100000 in
theorem spec_l01Byte.calls (g : Nat) (s0_0 : List Int) (s0_1 : Int) (s0_2 : Int) (r1 : Int) (r2 : Int) (r3 : Int) (w0 w : World) (hI : IsS72 w0 w g s0_0 s0_1 s0_2) (hB : Below w0.heap.size w0 w) (h : spec_l01Byte.f s0_0 s0_1 s0_2 = some (r1, r2, r3)) :
  Calls Try.prog 58 #[.pointer (some ⟨g, 0, none⟩)] w fun e w' => e = .returned (.int .i64 r1) ∧ IsS72 w0 w' g s0_0 r2 r3 ∧ Below w0.heap.size w0 w' ∧ KeepBut w w' g none := by
 have HI0 := Am hI
 have HK := Am (KeepBut.refl w g none)
 have HL := Am hB.size
 clear hI
 have HW0 := Am hB.size
 have HB := Am hB
 clear hB
 have H : (if s0_1 < (s0_0.length : Int) then (if 0 ≤ s0_1 then (some (Go.bits .and .i64 (wrap64 ((Go.bits .and .i64 (Go.bits .xor .i64 ((wrap64 ((wrap64 (s0_2 * 6364136223846793005)) + 1442695040888963407)) / 8589934592) ((wrap64 ((wrap64 (s0_2 * 6364136223846793005)) + 1442695040888963407)) / 35184372088832)) 255) + (wrap64 (rd s0_0 s0_1)))) 255, wrap64 (s0_1 + 1), wrap64 ((wrap64 (s0_2 * 6364136223846793005)) + 1442695040888963407))) else (none)) else (some (Go.bits .and .i64 (Go.bits .xor .i64 ((wrap64 ((wrap64 (s0_2 * 6364136223846793005)) + 1442695040888963407)) / 8589934592) ((wrap64 ((wrap64 (s0_2 * 6364136223846793005)) + 1442695040888963407)) / 35184372088832)) 255, s0_1, wrap64 ((wrap64 (s0_2 * 6364136223846793005)) + 1442695040888963407)))) = some (r1, r2, r3) := h
 clear h
 by_cases c2 : s0_1 < (s0_0.length : Int)
 ·rw [if_pos c2] at H
  have c2b0 : decide (s0_1 < (s0_0.length : Int)) = true := decide_eq_true c2
  clear c2
  by_cases c3 : 0 ≤ s0_1
  ·rw [if_pos c3] at H
   have c3b0 : decide (0 ≤ s0_1) = true := decide_eq_true c3
   clear c3
   simp only [Option.some.injEq, Prod.mk.injEq] at H
   obtain ⟨rfl, rfl, rfl⟩ := H
   obtain ⟨ASz4_0, cSz4_0, HGz4, hgz4, HSz4_0⟩ := HI0.out
   have hcz4_0 := cellS72_0 HGz4
   have hcz4_1 := cellS72_1 HGz4
   have hcz4_2 := cellS72_2 HGz4
   have hfz4_1 := kf HGz4 1
   have hfz4_2 := kf HGz4 2
   clear HGz4 hgz4
   have p150 : 0 ≤ (s0_1 : Int) := of_decide_eq_true (by first | (with_reducible assumption) | assumption)
   have q150 : s0_1 < (s0_0.length : Int) := of_decide_eq_true (by first | (with_reducible assumption) | assumption)
   obtain ⟨ad150, e150, hx150_0⟩ := Kd.at_int HSz4_0 s0_1 p150 q150
   cases e150
   have hn150_0 : ad150.block ≠ g := Nat.ne_of_lt (Nat.lt_of_lt_of_le (by have := World.block_lt_of_cell? _ _ hx150_0; first | rwa [add_block] at this | exact this) (IsS72.ge HI0.out))
   replace hx150_0 := pw_cell_below HB.out hx150_0
   replace hx150_0 := cfx (p := ⟨g, 2, none⟩) (.int .i64 (wrap64 ((wrap64 (s0_2 * 6364136223846793005)) + 1442695040888963407))) hx150_0 hn150_0
   (try have hy150_0 := fun (n_ : Nat) => (show (((w.drewN n_).setCell ⟨g, 2, none⟩ (.int .i64 (wrap64 ((wrap64 (s0_2 * 6364136223846793005)) + 1442695040888963407))))).cell? _ = some _ from hx150_0))
   clear hn150_0
   replace p150 := eq_true p150
   replace q150 := eq_true q150
   go_enter Try.func58, Try.ntmps58
   go_wp2
   repeat (go_quiet (fail); try go_wp2)
   go_ret
   exact ⟨zR, by repeat (first | (with_reducible first | exact HI0.out | apply IsS72.alloc | apply IsS72.drewN | apply IsS72.drew | apply IsS72.set_1 | apply IsS72.set_2) | exact HI0.out), by repeat (first | (with_reducible first | exact HB.out | apply ba | apply bn | apply be | refine bs ?_ (IsS72.ge HI0.out)) | exact HB.out), by repeat (first | (with_reducible first | exact HK.out | apply KeepBut.set_ | apply keep_drewN | apply keep_drew | apply keep_alloc) | exact HK.out)⟩
  ·rw [if_neg c3] at H
   exact absurd H (by simp)
 ·rw [if_neg c2] at H
  have c2b0 : decide (s0_1 < (s0_0.length : Int)) = false := decide_eq_false c2
  clear c2
  simp only [Option.some.injEq, Prod.mk.injEq] at H
  obtain ⟨rfl, rfl, rfl⟩ := H
  obtain ⟨ASz5_0, cSz5_0, HGz5, hgz5, HSz5_0⟩ := HI0.out
  have hcz5_0 := cellS72_0 HGz5
  have hcz5_1 := cellS72_1 HGz5
  have hcz5_2 := cellS72_2 HGz5
  have hfz5_1 := kf HGz5 1
  have hfz5_2 := kf HGz5 2
  clear HGz5 hgz5
  go_enter Try.func58, Try.ntmps58
  go_wp2
  repeat (go_quiet (fail); try go_wp2)
  go_ret
  exact ⟨zR, by repeat (first | (with_reducible first | exact HI0.out | apply IsS72.alloc | apply IsS72.drewN | apply IsS72.drew | apply IsS72.set_1 | apply IsS72.set_2) | exact HI0.out), by repeat (first | (with_reducible first | exact HB.out | apply ba | apply bn | apply be | refine bs ?_ (IsS72.ge HI0.out)) | exact HB.out), by repeat (first | (with_reducible first | exact HK.out | apply KeepBut.set_ | apply keep_drewN | apply keep_drew | apply keep_alloc) | exact HK.out)⟩

/-! ### spec_l01Below: function 49 -/
def spec_l01Below.f (s0_0 : List Int) (s0_1 : Int) (s0_2 : Int) (a1 : Int) : Option (Int × Int × Int) := if a1 ≤ 0 then (some (0, s0_1, s0_2)) else (if a1 ≤ 256 then ((spec_l01Byte.f s0_0 s0_1 s0_2).bind fun bt151 => (if a1 = 0 then (none) else (some (Int.tmod bt151.1 a1, bt151.2.1, bt151.2.2)))) else ((spec_l01Byte.f s0_0 s0_1 s0_2).bind fun bt154 => ((spec_l01Byte.f s0_0 bt154.2.1 bt154.2.2).bind fun bt157 => ((spec_l01Byte.f s0_0 bt157.2.1 bt157.2.2).bind fun bt160 => ((spec_l01Byte.f s0_0 bt160.2.1 bt160.2.2).bind fun bt163 => (if a1 = 0 then (none) else (some (Int.tmod (wrap64 ((wrap64 ((wrap64 ((wrap64 (bt154.1 * 16777216)) + (wrap64 (bt157.1 * 65536)))) + (wrap64 (bt160.1 * 256)))) + bt163.1)) a1, bt163.2.1, bt163.2.2))))))))
set_option maxHeartbeats 8000000 in
set_option maxRecDepth 100000 in
theorem spec_l01Below.calls (g : Nat) (s0_0 : List Int) (s0_1 : Int) (s0_2 : Int) (a1 : Int) (r1 : Int) (r2 : Int) (r3 : Int) (w0 w : World) (hI : IsS72 w0 w g s0_0 s0_1 s0_2) (hB : Below w0.heap.size w0 w) (h : spec_l01Below.f s0_0 s0_1 s0_2 a1 = some (r1, r2, r3)) :
  Calls Try.prog 49 #[.pointer (some ⟨g, 0, none⟩), .int .i64 a1] w fun e w' => e = .returned (.int .i64 r1) ∧ IsS72 w0 w' g s0_0 r2 r3 ∧ Below w0.heap.size w0 w' ∧ KeepBut w w' g none := by
 have HI0 := Am hI
 have HK := Am (KeepBut.refl w g none)
 have HL := Am hB.size
 clear hI
 have HW0 := Am hB.size
 have HB := Am hB
 clear hB
 have H : (if a1 ≤ 0 then (some (0, s0_1, s0_2)) else (if a1 ≤ 256 then ((spec_l01Byte.f s0_0 s0_1 s0_2).bind fun bt151 => (if a1 = 0 then (none) else (some (Int.tmod bt151.1 a1, bt151.2.1, bt151.2.2)))) else ((spec_l01Byte.f s0_0 s0_1 s0_2).bind fun bt154 => ((spec_l01Byte.f s0_0 bt154.2.1 bt154.2.2).bind fun bt157 => ((spec_l01Byte.f s0_0 bt157.2.1 bt157.2.2).bind fun bt160 => ((spec_l01Byte.f s0_0 bt160.2.1 bt160.2.2).bind fun bt163 => (if a1 = 0 then (none) else (some (Int.tmod (wrap64 ((wrap64 ((wrap64 ((wrap64 (bt154.1 * 16777216)) + (wrap64 (bt157.1 * 65536)))) + (wrap64 (bt160.1 * 256)))) + bt163.1)) a1, bt163.2.1, bt163.2.2))))))))) = some (r1, r2, r3) := h
 clear h
 by_cases c3 : a1 ≤ 0
 ·rw [if_pos c3] at H
  have c3b0 : decide (a1 ≤ 0) = true := decide_eq_true c3
  clear c3
  simp only [Option.some.injEq, Prod.mk.injEq] at H
  obtain ⟨rfl, rfl, rfl⟩ := H
  go_enter Try.func49, Try.ntmps49
  go_wp2
  go_ret
  exact ⟨zR, by repeat (first | (with_reducible first | exact HI0.out | apply IsS72.alloc | apply IsS72.drewN | apply IsS72.drew | apply IsS72.set_1 | apply IsS72.set_2) | exact HI0.out), by repeat (first | (with_reducible first | exact HB.out | apply ba | apply bn | apply be | refine bs ?_ (IsS72.ge HI0.out)) | exact HB.out), by repeat (first | (with_reducible first | exact HK.out | apply KeepBut.set_ | apply keep_drewN | apply keep_drew | apply keep_alloc) | exact HK.out)⟩
 ·rw [if_neg c3] at H
  have c3b0 : decide (a1 ≤ 0) = false := decide_eq_false c3
  clear c3
  by_cases c4 : a1 ≤ 256
  ·rw [if_pos c4] at H
   have c4b0 : decide (a1 ≤ 256) = true := decide_eq_true c4
   clear c4
   replace H := Option.bind_eq_some_iff.mp H
   obtain ⟨⟨t151, t152, t153⟩, A50, H⟩ := H
   replace H : (if a1 = 0 then (none) else (some (Int.tmod t151 a1, t152, t153))) = some (r1, r2, r3) := H
   have A5 := Am A50
   clear A50
   by_cases c6 : a1 = 0
   ·rw [if_pos c6] at H
    exact absurd H (by simp)
   ·rw [if_neg c6] at H
    have c6b0 : (a1 == 0) = false := beq_eq_false_iff_ne.mpr c6
    have c6b1 : (a1 != 0) = true := bne_iff_ne.mpr c6
    simp only [Option.some.injEq, Prod.mk.injEq] at H
    obtain ⟨rfl, rfl, rfl⟩ := H
    go_enter Try.func49, Try.ntmps49
    go_wp2_with (first | ((with_reducible refine gate_callee (f := 58) rfl ?_); refine zC (some 14) rfl rfl Try.func58 rfl #[.pointer (some ⟨g, 0, none⟩)] rfl ?_; (with_reducible refine (spec_l01Byte.calls g s0_0 s0_1 s0_2 t151 t152 t153 w0 _ ?side1 ?side2 A5.out).mono ?_); (case side1 => repeat (first | (with_reducible first | exact HI0.out | apply IsS72.alloc | apply IsS72.drewN | apply IsS72.drew | apply IsS72.set_1 | apply IsS72.set_2) | exact HI0.out)); (case side2 => repeat (first | (with_reducible first | exact HB.out | apply ba | apply bn | apply be | refine bs ?_ (IsS72.ge HI0.out)) | exact HB.out)); rintro e w7 ⟨rfl, hi, hb, hk⟩; refine ⟨_, rfl, ?_⟩; replace HK := Am (KeepBut.trans (by repeat (first | (with_reducible first | exact HK.out | apply KeepBut.set_ | apply keep_drewN | apply keep_drew | apply keep_alloc) | exact HK.out)) hk (.inl rfl)); replace HB := Am (hb); replace HI0 := Am (hi); (try clear hb hk hi)))
    go_ret
    exact ⟨zR, by repeat (first | (with_reducible first | exact HI0.out | apply IsS72.alloc | apply IsS72.drewN | apply IsS72.drew | apply IsS72.set_1 | apply IsS72.set_2) | exact HI0.out), by repeat (first | (with_reducible first | exact HB.out | apply ba | apply bn | apply be | refine bs ?_ (IsS72.ge HI0.out)) | exact HB.out), by repeat (first | (with_reducible first | exact HK.out | apply KeepBut.set_ | apply keep_drewN | apply keep_drew | apply keep_alloc) | exact HK.out)⟩
  ·rw [if_neg c4] at H
   have c4b0 : decide (a1 ≤ 256) = false := decide_eq_false c4
   clear c4
   replace H := Option.bind_eq_some_iff.mp H
   obtain ⟨⟨t154, t155, t156⟩, A80, H⟩ := H
   replace H : ((spec_l01Byte.f s0_0 t155 t156).bind fun bt157 => ((spec_l01Byte.f s0_0 bt157.2.1 bt157.2.2).bind fun bt160 => ((spec_l01Byte.f s0_0 bt160.2.1 bt160.2.2).bind fun bt163 => (if a1 = 0 then (none) else (some (Int.tmod (wrap64 ((wrap64 ((wrap64 ((wrap64 (t154 * 16777216)) + (wrap64 (bt157.1 * 65536)))) + (wrap64 (bt160.1 * 256)))) + bt163.1)) a1, bt163.2.1, bt163.2.2)))))) = some (r1, r2, r3) := H
   have A8 := Am A80
   clear A80
   replace H := Option.bind_eq_some_iff.mp H
   obtain ⟨⟨t157, t158, t159⟩, A90, H⟩ := H
   replace H : ((spec_l01Byte.f s0_0 t158 t159).bind fun bt160 => ((spec_l01Byte.f s0_0 bt160.2.1 bt160.2.2).bind fun bt163 => (if a1 = 0 then (none) else (some (Int.tmod (wrap64 ((wrap64 ((wrap64 ((wrap64 (t154 * 16777216)) + (wrap64 (t157 * 65536)))) + (wrap64 (bt160.1 * 256)))) + bt163.1)) a1, bt163.2.1, bt163.2.2))))) = some (r1, r2, r3) := H
   have A9 := Am A90
   clear A90
   replace H := Option.bind_eq_some_iff.mp H
   obtain ⟨⟨t160, t161, t162⟩, A100, H⟩ := H
   replace H : ((spec_l01Byte.f s0_0 t161 t162).bind fun bt163 => (if a1 = 0 then (none) else (some (Int.tmod (wrap64 ((wrap64 ((wrap64 ((wrap64 (t154 * 16777216)) + (wrap64 (t157 * 65536)))) + (wrap64 (t160 * 256)))) + bt163.1)) a1, bt163.2.1, bt163.2.2)))) = some (r1, r2, r3) := H
   have A10 := Am A100
   clear A100
   replace H := Option.bind_eq_some_iff.mp H
   obtain ⟨⟨t163, t164, t165⟩, A110, H⟩ := H
   replace H : (if a1 = 0 then (none) else (some (Int.tmod (wrap64 ((wrap64 ((wrap64 ((wrap64 (t154 * 16777216)) + (wrap64 (t157 * 65536)))) + (wrap64 (t160 * 256)))) + t163)) a1, t164, t165))) = some (r1, r2, r3) := H
   have A11 := Am A110
   clear A110
   by_cases c12 : a1 = 0
   ·rw [if_pos c12] at H
    exact absurd H (by simp)
   ·rw [if_neg c12] at H
    have c12b0 : (a1 == 0) = false := beq_eq_false_iff_ne.mpr c12
    have c12b1 : (a1 != 0) = true := bne_iff_ne.mpr c12
    simp only [Option.some.injEq, Prod.mk.injEq] at H
    obtain ⟨rfl, rfl, rfl⟩ := H
    go_enter Try.func49, Try.ntmps49
    go_wp2_with (first | ((with_reducible refine gate_callee (f := 58) rfl ?_); refine zC (some 18) rfl rfl Try.func58 rfl #[.pointer (some ⟨g, 0, none⟩)] rfl ?_; (with_reducible refine (spec_l01Byte.calls g s0_0 s0_1 s0_2 t154 t155 t156 w0 _ ?side1 ?side2 A8.out).mono ?_); (case side1 => repeat (first | (with_reducible first | exact HI0.out | apply IsS72.alloc | apply IsS72.drewN | apply IsS72.drew | apply IsS72.set_1 | apply IsS72.set_2) | exact HI0.out)); (case side2 => repeat (first | (with_reducible first | exact HB.out | apply ba | apply bn | apply be | refine bs ?_ (IsS72.ge HI0.out)) | exact HB.out)); rintro e w13 ⟨rfl, hi, hb, hk⟩; refine ⟨_, rfl, ?_⟩; replace HK := Am (KeepBut.trans (by repeat (first | (with_reducible first | exact HK.out | apply KeepBut.set_ | apply keep_drewN | apply keep_drew | apply keep_alloc) | exact HK.out)) hk (.inl rfl)); replace HB := Am (hb); replace HI0 := Am (hi); (try clear hb hk hi)) | ((with_reducible refine gate_callee (f := 58) rfl ?_); refine zC (some 20) rfl rfl Try.func58 rfl #[.pointer (some ⟨g, 0, none⟩)] rfl ?_; (with_reducible refine (spec_l01Byte.calls g s0_0 t155 t156 t157 t158 t159 w0 _ ?side1 ?side2 A9.out).mono ?_); (case side1 => repeat (first | (with_reducible first | exact HI0.out | apply IsS72.alloc | apply IsS72.drewN | apply IsS72.drew | apply IsS72.set_1 | apply IsS72.set_2) | exact HI0.out)); (case side2 => repeat (first | (with_reducible first | exact HB.out | apply ba | apply bn | apply be | refine bs ?_ (IsS72.ge HI0.out)) | exact HB.out)); rintro e w14 ⟨rfl, hi, hb, hk⟩; refine ⟨_, rfl, ?_⟩; replace HK := Am (KeepBut.trans (by repeat (first | (with_reducible first | exact HK.out | apply KeepBut.set_ | apply keep_drewN | apply keep_drew | apply keep_alloc) | exact HK.out)) hk (.inl rfl)); replace HB := Am (hb); replace HI0 := Am (hi); (try clear hb hk hi)) | ((with_reducible refine gate_callee (f := 58) rfl ?_); refine zC (some 22) rfl rfl Try.func58 rfl #[.pointer (some ⟨g, 0, none⟩)] rfl ?_; (with_reducible refine (spec_l01Byte.calls g s0_0 t158 t159 t160 t161 t162 w0 _ ?side1 ?side2 A10.out).mono ?_); (case side1 => repeat (first | (with_reducible first | exact HI0.out | apply IsS72.alloc | apply IsS72.drewN | apply IsS72.drew | apply IsS72.set_1 | apply IsS72.set_2) | exact HI0.out)); (case side2 => repeat (first | (with_reducible first | exact HB.out | apply ba | apply bn | apply be | refine bs ?_ (IsS72.ge HI0.out)) | exact HB.out)); rintro e w15 ⟨rfl, hi, hb, hk⟩; refine ⟨_, rfl, ?_⟩; replace HK := Am (KeepBut.trans (by repeat (first | (with_reducible first | exact HK.out | apply KeepBut.set_ | apply keep_drewN | apply keep_drew | apply keep_alloc) | exact HK.out)) hk (.inl rfl)); replace HB := Am (hb); replace HI0 := Am (hi); (try clear hb hk hi)) | ((with_reducible refine gate_callee (f := 58) rfl ?_); refine zC (some 24) rfl rfl Try.func58 rfl #[.pointer (some ⟨g, 0, none⟩)] rfl ?_; (with_reducible refine (spec_l01Byte.calls g s0_0 t161 t162 t163 t164 t165 w0 _ ?side1 ?side2 A11.out).mono ?_); (case side1 => repeat (first | (with_reducible first | exact HI0.out | apply IsS72.alloc | apply IsS72.drewN | apply IsS72.drew | apply IsS72.set_1 | apply IsS72.set_2) | exact HI0.out)); (case side2 => repeat (first | (with_reducible first | exact HB.out | apply ba | apply bn | apply be | refine bs ?_ (IsS72.ge HI0.out)) | exact HB.out)); rintro e w16 ⟨rfl, hi, hb, hk⟩; refine ⟨_, rfl, ?_⟩; replace HK := Am (KeepBut.trans (by repeat (first | (with_reducible first | exact HK.out | apply KeepBut.set_ | apply keep_drewN | apply keep_drew | apply keep_alloc) | exact HK.out)) hk (.inl rfl)); replace HB := Am (hb); replace HI0 := Am (hi); (try clear hb hk hi)))
    go_ret
    exact ⟨zR, by repeat (first | (with_reducible first | exact HI0.out | apply IsS72.alloc | apply IsS72.drewN | apply IsS72.drew | apply IsS72.set_1 | apply IsS72.set_2) | exact HI0.out), by repeat (first | (with_reducible first | exact HB.out | apply ba | apply bn | apply be | refine bs ?_ (IsS72.ge HI0.out)) | exact HB.out), by repeat (first | (with_reducible first | exact HK.out | apply KeepBut.set_ | apply keep_drewN | apply keep_drew | apply keep_alloc) | exact HK.out)⟩

/-! ### spec_l01PickInt: function 33 -/
def spec_l01PickInt.f (s0_0 : List Int) (s0_1 : Int) (s0_2 : Int) (l1 : List Int) : Option (Int × Int × Int) := (spec_l01Below.f s0_0 s0_1 s0_2 (l1.length : Int)).bind fun bt166 => (if 0 ≤ bt166.1 then (if bt166.1 < (l1.length : Int) then (some (rd l1 bt166.1, bt166.2.1, bt166.2.2)) else (none)) else (none))
set_option maxHeartbeats 8000000 in
set_option maxRecDepth 100000 in
theorem spec_l01PickInt.calls (g : Nat) (s0_0 : List Int) (s0_1 : Int) (s0_2 : Int) (A1 : Option Addr) (c1 : Nat) (l1 : List Int) (r1 : Int) (r2 : Int) (r3 : Int) (w0 w : World) (hI : IsS72 w0 w g s0_0 s0_1 s0_2) (hB : Below w0.heap.size w0 w) (hr1 : Kd.C (Kd.int .i64) w A1 l1.length l1) (hc1 : l1.length ≤ c1) (hf1 : ∀ ad, A1 = some ad → 0 < l1.length → ad.block ≠ g) (h : spec_l01PickInt.f s0_0 s0_1 s0_2 l1 = some (r1, r2, r3)) :
  Calls Try.prog 33 #[.pointer (some ⟨g, 0, none⟩), .slice A1 l1.length c1] w fun e w' => e = .returned (.int .i64 r1) ∧ IsS72 w0 w' g s0_0 r2 r3 ∧ Below w0.heap.size w0 w' ∧ KeepBut w w' g none := by
 have HR1 := Am hr1
 have HC1 := Am hc1
 clear hr1 hc1
 have HI0 := Am hI
 have HK := Am (KeepBut.refl w g none)
 have HL := Am hB.size
 clear hI
 have HW0 := Am hB.size
 have HB := Am hB
 clear hB
 have H : ((spec_l01Below.f s0_0 s0_1 s0_2 (l1.length : Int)).bind fun bt166 => (if 0 ≤ bt166.1 then (if bt166.1 < (l1.length : Int) then (some (rd l1 bt166.1, bt166.2.1, bt166.2.2)) else (none)) else (none))) = some (r1, r2, r3) := h
 clear h
 replace H := Option.bind_eq_some_iff.mp H
 obtain ⟨⟨t166, t167, t168⟩, A30, H⟩ := H
 replace H : (if 0 ≤ t166 then (if t166 < (l1.length : Int) then (some (rd l1 t166, t167, t168)) else (none)) else (none)) = some (r1, r2, r3) := H
 have A3 := Am A30
 clear A30
 by_cases c4 : 0 ≤ t166
 ·rw [if_pos c4] at H
  have c4b0 : decide (0 ≤ t166) = true := decide_eq_true c4
  clear c4
  by_cases c5 : t166 < (l1.length : Int)
  ·rw [if_pos c5] at H
   have c5b0 : decide (t166 < (l1.length : Int)) = true := decide_eq_true c5
   clear c5
   simp only [Option.some.injEq, Prod.mk.injEq] at H
   obtain ⟨rfl, rfl, rfl⟩ := H
   go_enter Try.func33, Try.ntmps33
   go_wp2_with (first | ((with_reducible refine gate_callee (f := 49) rfl ?_); refine zC (some 9) rfl rfl Try.func49 rfl #[.pointer (some ⟨g, 0, none⟩), .int .i64 (l1.length : Int)] rfl ?_; (with_reducible refine (spec_l01Below.calls g s0_0 s0_1 s0_2 (l1.length : Int) t166 t167 t168 w0 _ ?side1 ?side2 A3.out).mono ?_); (case side1 => repeat (first | (with_reducible first | exact HI0.out | apply IsS72.alloc | apply IsS72.drewN | apply IsS72.drew | apply IsS72.set_1 | apply IsS72.set_2) | exact HI0.out)); (case side2 => repeat (first | (with_reducible first | exact HB.out | apply ba | apply bn | apply be | refine bs ?_ (IsS72.ge HI0.out)) | exact HB.out)); rintro e w6 ⟨rfl, hi, hb, hk⟩; refine ⟨_, rfl, ?_⟩; replace HK := Am (KeepBut.trans (by repeat (first | (with_reducible first | exact HK.out | apply KeepBut.set_ | apply keep_drewN | apply keep_drew | apply keep_alloc) | exact HK.out)) hk (.inl rfl)); replace HB := Am (hb); replace HI0 := Am (hi); (try clear hb hk hi); have p169 : 0 ≤ (t166 : Int) := of_decide_eq_true (by first | (with_reducible assumption) | assumption); have q169 : t166 < (l1.length : Int) := of_decide_eq_true (by first | (with_reducible assumption) | assumption); obtain ⟨ad169, e169, hx169_0⟩ := Kd.at_int HR1.out t166 p169 q169; cases e169; replace hx169_0 := keep_cell HK.out hx169_0 (by first | (rw [add_block]; exact hf1 _ rfl (by omega)) | exact hf1 _ rfl (by omega) | exact hf1 ad169 rfl (by omega)); replace p169 := eq_true p169; replace q169 := eq_true q169))
   go_ret
   exact ⟨zR, by repeat (first | (with_reducible first | exact HI0.out | apply IsS72.alloc | apply IsS72.drewN | apply IsS72.drew | apply IsS72.set_1 | apply IsS72.set_2) | exact HI0.out), by repeat (first | (with_reducible first | exact HB.out | apply ba | apply bn | apply be | refine bs ?_ (IsS72.ge HI0.out)) | exact HB.out), by repeat (first | (with_reducible first | exact HK.out | apply KeepBut.set_ | apply keep_drewN | apply keep_drew | apply keep_alloc) | exact HK.out)⟩
  ·rw [if_neg c5] at H
   exact absurd H (by simp)
 ·rw [if_neg c4] at H
  exact absurd H (by simp)

/-! ### spec_l01Long: function 50 -/
def spec_l01Long.l0 : Nat → Int → Int → List Int → Int → Option (ByteArray)
 | 0, _, _, _, _ => none
 | k + 1, x0, x1, x5, x6 => if x6 < x0 then (if 0 ≤ x6 then (if x6 < (x5.length : Int) then (spec_l01Long.l0 k x0 x1 (x5.set (x6 : Int).toNat x1) (wrap64 (x6 + 1))) else (none)) else (none)) else (some (strOfNums x5))
def spec_l01Long.f (k : Nat) (a0 : Int) (a1 : Int) : Option (ByteArray) := if 0 ≤ a0 then (if (a0 : Int).toNat ≤ 281474976710656 then (spec_l01Long.l0 k a0 a1 (List.replicate (a0 : Int).toNat 0) 0) else (none)) else (none)
theorem spec_l01Long.mono_l : ∀ k, (∀ y0 y1 y2 y3, LeO (spec_l01Long.l0 k y0 y1 y2 y3) (spec_l01Long.l0 (k + 1) y0 y1 y2 y3))
 | 0 => fun _ _ _ _ r h => by simp [spec_l01Long.l0] at h
 | k + 1 => by
  have ih0 := spec_l01Long.mono_l k
  ·intro y0 y1 y2 y3
   unfold spec_l01Long.l0
   repeat' first
   | (with_reducible exact ih0 _ _ _ _)
   | (with_reducible exact LeO.refl _)
   | (with_reducible exact LeO.none _)
   | (with_reducible refine LeO.ite ?_ ?_)
   | (with_reducible refine LeO.bind ?_ (fun _ => ?_))
   | exact ih0 _ _ _ _
   | exact LeO.none _
   | refine LeO.ite ?_ ?_
   | refine LeO.bind ?_ (fun _ => ?_)
theorem spec_l01Long.mono : ∀ a0 a1 k, LeO (spec_l01Long.f k a0 a1) (spec_l01Long.f (k + 1) a0 a1) := by
 intro a0 a1 k
 have ih0 := spec_l01Long.mono_l k
 unfold spec_l01Long.f
 repeat' first
   | (with_reducible exact ih0 _ _ _ _)
   | (with_reducible exact LeO.refl _)
   | (with_reducible exact LeO.none _)
   | (with_reducible refine LeO.ite ?_ ?_)
   | (with_reducible refine LeO.bind ?_ (fun _ => ?_))
   | exact ih0 _ _ _ _
   | exact LeO.none _
   | refine LeO.ite ?_ ?_
   | refine LeO.bind ?_ (fun _ => ?_)
set_option maxHeartbeats 8000000 in
set_option maxRecDepth 100000 in
theorem spec_l01Long.calls (k : Nat) (a0 : Int) (a1 : Int) (r : ByteArray) (w : World) (h : spec_l01Long.f k a0 a1 = some r) :
  Calls Try.prog 50 #[.int .i64 a0, .int .u8 a1] w fun e w' => e = .returned (.string r) ∧ Below w.heap.size w w' := by
 have HB := Am (Below.refl w.heap.size w)
 have H : (if 0 ≤ a0 then (if (a0 : Int).toNat ≤ 281474976710656 then (spec_l01Long.l0 k a0 a1 (List.replicate (a0 : Int).toNat 0) 0) else (none)) else (none)) = some r := h
 clear h
 by_cases c3 : 0 ≤ a0
 ·rw [if_pos c3] at H
  have c3b0 := eq_true c3
  have c3b1 : decide (0 ≤ a0) = true := decide_eq_true c3
  clear c3
  by_cases c4 : (a0 : Int).toNat ≤ 281474976710656
  ·rw [if_pos c4] at H
   have c4b0 := eq_true c4
   have c4b1 : decide ((a0 : Int).toNat ≤ 281474976710656) = true := decide_eq_true c4
   clear c4
   obtain ⟨y170, hy170⟩ : ∃ y_ : List Int, y_ = (List.replicate (a0 : Int).toNat 0) := ⟨_, rfl⟩
   replace H : (spec_l01Long.l0 k a0 a1 y170 0) = some r := by first | (rw [hy170]; with_reducible exact H) | (have H2_ := (Option.bind_some _ _).symm.trans H; rw [hy170]; with_reducible exact H2_) | (have H2_ := (Option.bind_some _ _).symm.trans H; with_reducible exact H2_) | with_reducible exact H | (rw [hy170]; exact H) | exact H
   have Ny170 := Am hy170
   clear hy170
   have H' := Am H
   clear H
   go_enter Try.func50, Try.ntmps50
   go_wp2_with (first | ((with_reducible refine gate_dst (N := 8) rfl ?_); refine Kd.R_make (Kd.int .u8) _ 5 rfl (N := 8) rfl 34 _ _ rfl a0 rfl rfl Try.underlying34 (.int .u8 0) 1 info5 rfl (by decide) (by omega) 0 (ok := fun _ => True) (okp := fun _ => True) rfl (fun _ hk => hk) trivial (of_decide_eq_true (by first | (with_reducible assumption) | assumption)) (Nat.le_trans (Nat.mul_le_mul_right _ (of_decide_eq_true (by first | (with_reducible assumption) | assumption) : a0.toNat ≤ 281474976710656)) (by omega)) (Below.refl _ _) (Nat.le_refl _) ?_; intro v171 w5 ho6 hb hg_ hnew_; clear hg_ hnew_; (first | rw [← Ny170.out] at ho6 | (simp only [Int.reduceToNat] at ho6; rw [← Ny170.out] at ho6)); have HO172 := Am (Kd.R_lower ho6 (bz zB)); replace HB := Am (bq zB hb); clear hb ho6))
   go_loopg [6] k (fun kq v6 w' => ∃ (x5_1 : List Int) (x6_1 : Int), v6 = .int .i64 x6_1 ∧ Aside0 (spec_l01Long.l0 kq a0 a1 x5_1 x6_1 = some r) ∧ Aside0 (kq ≤ k) ∧ Aside0 (Kd.R (Kd.int .u8) 5 w' w.heap.size (fun _ => True) v171 x5_1) ∧ Aside0 (Below w.heap.size w w'))
   case atStart => exact ⟨(y170), (0), (by first | rfl | (simp; done) | (simp [*]; done)), H', ⟨Nat.le_refl _⟩, ⟨by (with_reducible repeat (first | apply ra | apply rn | apply re)); exact HO172.out⟩, ⟨zB⟩⟩
   case round =>
    clear H'
    try clear p2; try clear c3; try clear c3b0; try clear c3b1; try clear c4; try clear c4b0; try clear c4b1; try clear c5
    obtain ⟨x5_1, x6_1, rfl, HA, HK1, HO_5, HB⟩ := hrel
    cases gk with
    | zero => exact absurd HA.out (by simp [spec_l01Long.l0])
    | succ k1 =>
     have H := HA.out
     clear HA
     simp only [spec_l01Long.l0] at H
     by_cases c7 : x6_1 < a0
     ·rw [if_pos c7] at H
      have c7b0 : decide (x6_1 < a0) = true := decide_eq_true c7
      clear c7
      by_cases c8 : 0 ≤ x6_1
      ·rw [if_pos c8] at H
       have c8b0 : decide (0 ≤ x6_1) = true := decide_eq_true c8
       clear c8
       by_cases c9 : x6_1 < (x5_1.length : Int)
       ·rw [if_pos c9] at H
        have c9b0 : decide (x6_1 < (x5_1.length : Int)) = true := decide_eq_true c9
        clear c9
        obtain ⟨y173, hy173⟩ : ∃ y_ : List Int, y_ = (x5_1.set (x6_1 : Int).toNat a1) := ⟨_, rfl⟩
        replace H : (spec_l01Long.l0 k1 a0 a1 y173 (wrap64 (x6_1 + 1))) = some r := by first | (rw [hy173]; with_reducible exact H) | (have H2_ := (Option.bind_some _ _).symm.trans H; rw [hy173]; with_reducible exact H2_) | (have H2_ := (Option.bind_some _ _).symm.trans H; with_reducible exact H2_) | with_reducible exact H | (rw [hy173]; exact H) | exact H
        have Ny173 := Am hy173
        clear hy173
        have H' := Am H
        clear H
        have p10 : 0 ≤ (x6_1 : Int) := of_decide_eq_true (by first | (with_reducible assumption) | assumption)
        have q10 : (x6_1 : Int) < ((x5_1.length : Int) : Int) := of_decide_eq_true (by first | (with_reducible assumption) | assumption)
        obtain ⟨go10, co10, eo10, gb10, gl10, cl10, HG10⟩ := Kd.R_form HO_5.out (by omega)
        (first | cases eo10 | (injection eo10 with ea_ en_ ec_; (first | subst ea_ | (injection ea_ with ea_; subst ea_)); subst ec_; clear en_))
        have GB10 := Am gb10
        have GG10 := Am HG10
        clear gb10 gl10 HG10
        obtain ⟨hx10_0, hf10_0⟩ := Kd.R_celln 0 HO_5.out (x6_1 : Int) p10 q10
        replace p10 := eq_true p10
        replace q10 := eq_true q10
        have HP11 := Kd.R_putg HO_5.out (x6_1 : Int) a1
        go_wp2_with (first | ((with_reducible refine gate_store (t := 5) (p := 17) rfl ?_); refine store_event (t := 5) (p := 17) (v := ?vo_w12) (w1 := (wr.setCell ⟨go10, (x6_1 : Int).toNat, none⟩ (.int .u8 a1))) ?hg ?ho ?hn ?hr ?_; (case ho => rfl); (case hg => rfl); (case hn => rfl); (case hr => first | (go_simp; done) | (go_simp; rfl)); intro w12 hw; have hg : wr.grownBy w12 (some go10) := (by rw [hw]; exact HP11.2); have hp_ : Kd.R (Kd.int .u8) 5 w12 w.heap.size (fun _ => True) (.slice (some ⟨go10, 0, none⟩) x5_1.length co10) y173 := (by rw [hw, Ny173.out]; exact HP11.1); clear HP11; replace HO_5 := Am (hp_); replace HB := Am ((by rw [hw]; exact bs (HB.out) GB10.out : Below w.heap.size w w12)); clear hg hw hp_))
        go_roundg k1
        case measure => have := HK1.out; omega
        case rel => exact ⟨(y173), (wrap64 (x6_1 + 1)), (by first | rfl | (simp; done) | (simp [*]; done)), H', ⟨by have := HK1.out; omega⟩, ⟨by (with_reducible repeat (first | apply ra | apply rn | apply re)); exact HO_5.out⟩, ⟨zB⟩⟩
       ·rw [if_neg c9] at H
        exact absurd H (by simp)
      ·rw [if_neg c8] at H
       exact absurd H (by simp)
     ·rw [if_neg c7] at H
      have c7b0 : decide (x6_1 < a0) = false := decide_eq_false c7
      clear c7
      obtain rfl := Option.some.inj H
      have hcv13 := own_string (P := Try.prog) Try.underlying34 Try.underlying5 Try.underlying9 (Kd.own_of_R HO_5.out)
      go_wp2
      go_ret
      exact ⟨zR, zB⟩
  ·rw [if_neg c4] at H
   exact absurd H (by simp)
 ·rw [if_neg c3] at H
  exact absurd H (by simp)

/-! ### spec_ZeroText: function 66 -/
def spec_ZeroText.f (k : Nat) (a0 : Int) : Option (ByteArray) := (spec_l01In.f a0 0 20000).bind fun t174 => (if t174 = true then ((spec_l01Long.f k a0 0).bind fun t175 => (some t175)) else (some (⟨#[]⟩ : ByteArray)))
theorem spec_ZeroText.mono : ∀ a0 k, LeO (spec_ZeroText.f k a0) (spec_ZeroText.f (k + 1) a0) := by
 intro a0 k
 unfold spec_ZeroText.f
 repeat' first
   | (with_reducible exact spec_l01Long.mono _ _ _)
   | (with_reducible exact LeO.refl _)
   | (with_reducible exact LeO.none _)
   | (with_reducible refine LeO.ite ?_ ?_)
   | (with_reducible refine LeO.bind ?_ (fun _ => ?_))
   | exact spec_l01Long.mono _ _ _
   | exact LeO.none _
   | refine LeO.ite ?_ ?_
   | refine LeO.bind ?_ (fun _ => ?_)
set_option maxHeartbeats 8000000 in
set_option maxRecDepth 100000 in
theorem spec_ZeroText.calls (k : Nat) (a0 : Int) (r : ByteArray) (w : World) (h : spec_ZeroText.f k a0 = some r) :
  Calls Try.prog 66 #[.int .i64 a0] w fun e w' => e = .returned (.string r) ∧ Below w.heap.size w w' := by
 have HB := Am (Below.refl w.heap.size w)
 have H : ((spec_l01In.f a0 0 20000).bind fun t174 => (if t174 = true then ((spec_l01Long.f k a0 0).bind fun t175 => (some t175)) else (some (⟨#[]⟩ : ByteArray)))) = some r := h
 clear h
 replace H := Option.bind_eq_some_iff.mp H
 obtain ⟨t174, A20, H⟩ := H
 replace H : (if t174 = true then ((spec_l01Long.f k a0 0).bind fun t175 => (some t175)) else (some (⟨#[]⟩ : ByteArray))) = some r := H
 have A2 := Am A20
 clear A20
 by_cases c3 : t174 = true
 ·subst c3
  have H1 : ((spec_l01Long.f k a0 0).bind fun t175 => (some t175)) = some r := by rw [if_pos rfl] at H; exact H
  clear H
  have H := H1
  clear H1
  replace H := Option.bind_eq_some_iff.mp H
  obtain ⟨t175, A40, H⟩ := H
  replace H : (some t175) = some r := H
  have A4 := Am A40
  clear A40
  obtain rfl := Option.some.inj H
  go_enter Try.func66, Try.ntmps66
  go_wp2_with (first | ((with_reducible refine gate_callee (f := 36) rfl ?_); refine zC (some 4) rfl rfl Try.func36 rfl #[.int .i64 a0, .int .i64 0, .int .i64 20000] rfl ?_; (with_reducible refine (spec_l01In.calls a0 0 20000 true _ A2.out).mono ?_); rintro e w' ⟨rfl, ⟨nd, rfl⟩⟩; refine ⟨_, rfl, ?_⟩) | ((with_reducible refine gate_callee (f := 50) rfl ?_); refine zC (some 7) rfl rfl Try.func50 rfl #[.int .i64 a0, .int .u8 0] rfl ?_; (with_reducible refine (spec_l01Long.calls k a0 0 t175 _ A4.out).mono ?_); rintro e w5 ⟨rfl, hb⟩; refine ⟨_, rfl, ?_⟩; replace HB := Am (bq zB hb); (try clear hb)))
  go_ret
  exact ⟨zR, zB⟩
 ·replace c3 := Bool.eq_false_iff.mpr c3
  subst c3
  have H1 : (some (⟨#[]⟩ : ByteArray)) = some r := by rw [if_neg (show ¬ (false = true) by decide)] at H; exact H
  clear H
  have H := H1
  clear H1
  obtain rfl := Option.some.inj H
  go_enter Try.func66, Try.ntmps66
  go_wp2_with (first | ((with_reducible refine gate_callee (f := 36) rfl ?_); refine zC (some 4) rfl rfl Try.func36 rfl #[.int .i64 a0, .int .i64 0, .int .i64 20000] rfl ?_; (with_reducible refine (spec_l01In.calls a0 0 20000 false _ A2.out).mono ?_); rintro e w' ⟨rfl, ⟨nd, rfl⟩⟩; refine ⟨_, rfl, ?_⟩))
  go_ret
  exact ⟨zR, zB⟩

end Go.Proofs.Ytnmkcognggeioaa.QFnUnsure
