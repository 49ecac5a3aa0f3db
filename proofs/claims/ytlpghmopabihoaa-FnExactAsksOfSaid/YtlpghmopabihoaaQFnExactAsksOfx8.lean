/- Go functions as Lean functions, and their contracts. Own text: written by wip/gen/pr.py (a turned copy of the print). -/
import Derived.Test.YtlpghmopabihoaaQFnExactAsksOfx0
import Derived.Test.YtlpghmopabihoaaQFnExactAsksOfx7
namespace Go.Proofs.Ytlpghmopabihoaa.QFnExactAsksOf
open Go.RowKit Go.Proofs.YtlpghmopabihoaaW.PrintWords Go.Proofs.YtlpghmopabihoaaW.PrintLast Go.Proofs.YtlpghmopabihoaaW.PrintMore
attribute [local go_sem] max2_int min2_int max_two min_two max_three min_three max_four min_four   -- for this text's walks alone
open Go.Proofs.YtlpghmopabihoaaW.PrintWords renaming below_alloc → ba, pw_below_drewN → bn, below_drew1 → be, below_set → bs, blk_frozen → kf, blk_cell → kc, below_step → bq, blk_lt → kl
open Go.Proofs.YtlpghmopabihoaaW.PrintWords.Kd renaming R_alloc → ra, R_drewN → rn, R_drew → re, R_below → rb
open Go.Proofs.YtlpghmopabihoaaW.PrintWords.Aside0 renaming mk → Am
set_option linter.unusedVariables false
set_option linter.unusedSimpArgs false

/-! ### laws_markToldS: function 21 (own text: nest.py) -/
/-- A row that may be written: its block's cells are enough; of what they hold nothing is said. -/
def WRow (w : World) (base e : Nat) (v : Value) (n : Nat) : Prop := ∃ xs, w.ownsRow base e 1 v n xs
section
variable {w w1 : World} {base e n m : Nat} {v u : Value}
theorem WRow.below_ (h : WRow w base e v n) (hb : Below w.heap.size w w1) : WRow w1 base e v n := by
 obtain ⟨xs, h⟩ := h
 exact ⟨xs, pw_own_below h hb⟩
theorem WRow.drew_ (h : WRow w base e v n) : WRow w.drew base e v n := h
theorem WRow.drewN_ (h : WRow w base e v n) (k : Nat) : WRow (w.drewN k) base e v n := h
theorem WRow.alloc_ (h : WRow w base e v n) (x : Obj) : WRow (w.alloc x) base e v n := h.below_ (ba (Below.refl _ _) x)
theorem WRow.slice_ (h : WRow w base e v n) : ∃ A c, v = .slice A n c := by
 obtain ⟨xs, h⟩ := h
 exact own_slice h
theorem WRow.own_ (h : WRow w base e v n) {g : Nat} (hg : v.ownBlock = some g) : ∃ c cur, v = .slice (some ⟨g, 0, none⟩) n c ∧ base ≤ g ∧ w.heap[g]? = some (.cells cur e (0, 0)) ∧ n ≤ c ∧ cur.size = c := by
 obtain ⟨xs, hl, h⟩ := h
 rcases h with ⟨rfl, h0⟩ | ⟨g', c, cur, rfl, e2, e3, e4, e5, e6, e7⟩
 ·simp [Value.ownBlock] at hg
 ·have : g' = g := by simpa [Value.ownBlock] using hg
  subst this
  exact ⟨c, cur, rfl, e2, e3, e4, by simpa using e6⟩
theorem WRow.form_ (h : WRow w base e v n) (hn : 0 < n) : ∃ g c cur, v = .slice (some ⟨g, 0, none⟩) n c ∧ base ≤ g ∧ w.heap[g]? = some (.cells cur e (0, 0)) ∧ n ≤ c ∧ cur.size = c := by
 obtain ⟨xs, hl, h⟩ := h
 rcases h with ⟨_, h0⟩ | ⟨g, c, cur, e1, e2, e3, e4, e5, e6, e7⟩
 ·omega
 ·exact ⟨g, c, cur, e1, e2, e3, e4, by simpa using e6⟩
theorem WRow.of_blk (h : WRow w base e v n) (hk : ∀ g, v.ownBlock = some g → ∀ cur, w.heap[g]? = some (.cells cur e (0, 0)) → ∃ cur' : Array Value, w1.heap[g]? = some (.cells cur' e (0, 0)) ∧ cur'.size = cur.size) : WRow w1 base e v n := by
 obtain ⟨xs, hl, h⟩ := h
 rcases h with ⟨h1, h0⟩ | ⟨g, c, cur, e1, e2, e3, e4, e5, e6, e7⟩
 ·exact ⟨xs, hl, .inl ⟨h1, h0⟩⟩
 ·obtain ⟨cur', f1, f2⟩ := hk g (by rw [e1]; rfl) cur e3
  refine ⟨cur'.toList.take (n * 1), ?_, .inr ⟨g, c, cur', e1, e2, f1, e4, e5, by rw [f2, e6], rfl⟩⟩
  have : cur'.toList.length = c * 1 := by rw [Array.length_toList, f2, e6]
  rw [List.length_take]
  omega
theorem WRow.set_ (h : WRow w base e v n) (b j : Nat) (x : Value) : WRow (w.setCell ⟨b, j, none⟩ x) base e v n := by
 refine WRow.of_blk h (fun g hg cur hb => ?_)
 by_cases hgb : g = b
 ·subst hgb
  exact ⟨_, blk_set hb j x, by simp⟩
 ·exact ⟨cur, blk_far hb hgb x, rfl⟩
/-- Another row of the same kind has been written, maybe in the same block. -/
theorem WRow.kept_ (h : WRow w base e v n) (hu : WRow w base e u m) (hu' : WRow w1 base e u m) (hk : Kept w w1 (fun k_ => some k_ = u.ownBlock)) : WRow w1 base e v n := by
 refine WRow.of_blk h (fun g hg cur hb => ?_)
 by_cases hgu : some g = u.ownBlock
 ·obtain ⟨c, cu, q1, q2, q3, q4, q5⟩ := hu.own_ hgu.symm
  obtain ⟨c', cu', r1, r2, r3, r4, r5⟩ := hu'.own_ hgu.symm
  have hc : c' = c := by
   rw [q1] at r1
   injection r1 with _ _ r1
   exact r1.symm
  rw [q3] at hb
  obtain rfl : cu = cur := by
   injection hb with hb
   injection hb
  exact ⟨cu', r3, by omega⟩
 ·exact ⟨cur, blk_kept hb hk hgu, rfl⟩
theorem WRow.cell_ {cur : Array Value} (hb : w.heap[m]? = some (.cells cur e (0, 0))) (i : Nat) (hi : i < cur.size) : (∃ y, w.cell? ⟨m, i, none⟩ = some y) ∧ w.frozen? ⟨m, i, none⟩ = false :=
 ⟨⟨cur[i], by rw [kc hb i, Array.getElem?_eq_getElem hi]⟩, kf hb i⟩
end

def wmS.l0 : Nat → Int → Int → Int → Option Int
 | 0, _, _, _ => none
 | k + 1, n, x1, x5 => if x5 < n then ((laws_markText.f k x1).bind fun _ => (if 0 ≤ x5 then (wmS.l0 k n (wrap64 (x1 + 1)) (wrap64 (x5 + 1))) else (none))) else (some x1)
set_option maxHeartbeats 8000000 in
set_option maxRecDepth 100000 in
theorem wmS.calls (k : Nat) (u : Value) (n : Nat) (a1 r1 : Int) (w0 w : World) (hB : Below w0.heap.size w0 w) (ho0 : WRow w w0.heap.size 9 u n) (h : wmS.l0 k n a1 0 = some r1) :
  Calls Try.prog 88 #[u, .int .i64 a1] w fun e w' => e = .returned (.int .i64 r1) ∧ WRow w' w0.heap.size 9 u n ∧ Below w0.heap.size w0 w' ∧ Kept w w' (fun k_ => some k_ = u.ownBlock) := by
 have HO := Am ho0
 have HK := Am (Kept.refl w (fun k_ => some k_ = u.ownBlock))
 have HB := Am hB
 clear hB ho0
 have H' := Am h
 clear h
 obtain ⟨Ao, co, eo⟩ := WRow.slice_ HO.out
 subst eo
 go_enter Try.func88, Try.ntmps88
 go_wp2
 go_loopg [1, 5] k (fun kq v1 v5 w' => ∃ (x1_1 : Int) (x5_1 : Int), v1 = .int .i64 x1_1 ∧ v5 = .int .i64 x5_1 ∧ Aside0 (wmS.l0 kq n x1_1 x5_1 = some r1) ∧ Aside0 (kq ≤ k) ∧ Aside0 (WRow w' w0.heap.size 9 (.slice Ao n co) n) ∧ Aside0 (Kept w w' (fun k_ => some k_ = (Value.slice Ao n co).ownBlock)) ∧ Aside0 (Below w0.heap.size w0 w'))
 case atStart => exact ⟨a1, 0, (by first | rfl | (simp; done) | (simp [*]; done)), (by first | rfl | (simp; done) | (simp [*]; done)), H', ⟨Nat.le_refl _⟩, ⟨(by repeat (first | exact HO.out | apply WRow.alloc_ | apply WRow.drewN_ | apply WRow.drew_))⟩, ⟨(by repeat (first | (with_reducible first | exact HK.out | apply Kept.alloc | apply Kept.drewN | apply Kept.drew) | exact HK.out))⟩, ⟨(by repeat (first | (with_reducible first | exact HB.out | apply ba | apply bn | apply be) | exact HB.out))⟩⟩
 case round =>
  clear H' HO HK HB
  obtain ⟨x1_1, x5_1, rfl, rfl, HA, HK1, HO, HK, HB⟩ := hrel
  cases gk with
  | zero => exact absurd HA.out (by simp [wmS.l0])
  | succ k1 =>
   have H := HA.out
   clear HA
   simp only [wmS.l0] at H
   by_cases c3 : x5_1 < (n : Int)
   ·rw [if_pos c3] at H
    have c3b0 : decide (x5_1 < (n : Int)) = true := decide_eq_true c3
    replace H := Option.bind_eq_some_iff.mp H
    obtain ⟨t176, A40, H⟩ := H
    replace H : (if 0 ≤ x5_1 then (wmS.l0 k1 n (wrap64 (x1_1 + 1)) (wrap64 (x5_1 + 1))) else (none)) = some r1 := H
    have A4 := Am A40
    clear A40
    by_cases c5 : 0 ≤ x5_1
    ·rw [if_pos c5] at H
     have c5b0 : decide (0 ≤ x5_1) = true := decide_eq_true c5
     have H' := Am H
     clear H
     obtain ⟨g, c', cur, eq_, gb, hb, hn, hs⟩ := WRow.form_ HO.out (by omega)
     obtain ⟨rfl, rfl⟩ : Ao = some ⟨g, 0, none⟩ ∧ co = c' := by injection eq_ with e1 _ e3; exact ⟨e1, e3⟩
     clear eq_ hb hs cur
     have GB := Am gb
     have CI := Am (show x5_1.toNat < n by omega)
     clear gb
     replace c3 := eq_true c3
     replace c5 := eq_true c5
     go_wp2_with (first | ((with_reducible refine gate_callee (f := 87) rfl ?_); refine goesL_ (some 15) rfl rfl Try.func87 (by kernel_rfl) rfl #[.int .i64 x1_1] rfl (by (try simp only [List.map_toArray, List.map_cons, List.map_nil]); first | done | rfl | (simp only [List.length_drop, List.length_take]; rfl)) ?_; (with_reducible refine (laws_markText.calls k1 x1_1 t176 _ A4.out).mono ?_); rintro e w8 ⟨rfl, hb⟩; refine ⟨_, rfl, ?_⟩; replace HO := Am (WRow.below_ (by repeat (first | exact HO.out | apply WRow.alloc_ | apply WRow.drewN_ | apply WRow.drew_)) hb); replace HK := Am (Kept.below (S := (fun k_ => some k_ = (Value.slice (some ⟨g, 0, none⟩) n co).ownBlock)) (by repeat (first | (with_reducible first | exact HK.out | apply Kept.alloc | apply Kept.drewN | apply Kept.drew) | exact HK.out)) hb); replace HB := Am (bq (by repeat (first | (with_reducible first | exact HB.out | apply ba | apply bn | apply be) | exact HB.out)) hb); clear hb; obtain ⟨c2_, cur2_, eq2_, gb2_, hb2_, hn2_, hs2_⟩ := WRow.own_ HO.out (g := g) rfl; have hc2_ : co = c2_ := (by injection eq2_); obtain ⟨⟨y_, hx_⟩, hf_⟩ := WRow.cell_ hb2_ x5_1.toNat (by have := CI.out; omega); clear eq2_ gb2_ hb2_ hn2_ hs2_ hc2_) | ((with_reducible refine gate_store (t := 9) (p := 16) rfl ?_); refine store_event (t := 9) (p := 16) (v := ?vo_w10) (w1 := (w8.setCell ⟨g, (x5_1 : Int).toNat, none⟩ (.string t176))) ?hg ?ho ?hn ?hr ?_; (case ho => rfl); (case hg => rfl); (case hn => rfl); (case hr => first | (go_simp; done) | (go_simp; rfl)); intro w10 hw; replace HO := Am ((by rw [hw]; exact WRow.set_ HO.out _ _ _ : WRow w10 w0.heap.size 9 (.slice (some ⟨g, 0, none⟩) n co) n)); replace HB := Am ((by rw [hw]; exact bs (HB.out) GB.out : Below w0.heap.size w0 w10)); replace HK := Am ((by rw [hw]; exact Kept.setCell (p := ⟨g, (x5_1 : Int).toNat, none⟩) HK.out (Or.inl (show some g = _ from rfl)) _ : Kept w w10 (fun k_ => some k_ = (Value.slice (some ⟨g, 0, none⟩) n co).ownBlock))); clear hw))
     go_roundg k1
     case measure => have := HK1.out; omega
     case rel => exact ⟨(wrap64 (x1_1 + 1)), (wrap64 (x5_1 + 1)), (by first | rfl | (simp; done) | (simp [*]; done)), (by first | rfl | (simp; done) | (simp [*]; done)), H', ⟨by have := HK1.out; omega⟩, ⟨(by repeat (first | exact HO.out | apply WRow.alloc_ | apply WRow.drewN_ | apply WRow.drew_))⟩, ⟨(by repeat (first | (with_reducible first | exact HK.out | apply Kept.alloc | apply Kept.drewN | apply Kept.drew) | exact HK.out))⟩, ⟨(by repeat (first | (with_reducible first | exact HB.out | apply ba | apply bn | apply be) | exact HB.out))⟩⟩
    ·rw [if_neg c5] at H
     exact absurd H (by simp)
   ·rw [if_neg c3] at H
    have c3b0 : decide (x5_1 < (n : Int)) = false := decide_eq_false c3
    clear c3
    obtain rfl := Option.some.inj H
    go_wp2
    go_ret
    exact ⟨by first | rfl | (simp [errW_none, errW_some] <;> rfl) | (simp [*, errW_none, errW_some] <;> rfl), (by repeat (first | exact HO.out | apply WRow.alloc_ | apply WRow.drewN_ | apply WRow.drew_)), (by repeat (first | (with_reducible first | exact HB.out | apply ba | apply bn | apply be) | exact HB.out)), (by repeat (first | (with_reducible first | exact HK.out | apply Kept.alloc | apply Kept.drewN | apply Kept.drew) | exact HK.out))⟩

/-- The row of structs at block g (room c), n of them, in each a row of strings that may be written: apart from g, and in P0. -/
def NI (w : World) (base : Nat) (P0 : Nat → Prop) (g c n : Nat) (ln : Nat → Nat) : Prop := 0 < n → ∃ cur : Array Value, w.heap[g]? = some (.cells cur 125 (0, 0)) ∧ cur.size = c * 8 ∧ ∀ j, j < n → ∃ v, cur[j * 8 + 7]? = some v ∧ WRow w base 9 v (ln j) ∧ ∀ b, v.ownBlock = some b → P0 b ∧ b ≠ g
section
variable {w w1 : World} {base g c n : Nat} {P0 : Nat → Prop} {ln : Nat → Nat}
theorem NI.below_ (h : NI w base P0 g c n ln) (hb : Below w.heap.size w w1) : NI w1 base P0 g c n ln := fun hn => by
 obtain ⟨cur, h1, h2, h3⟩ := h hn
 refine ⟨cur, (hb.block g (kl h1)).trans h1, h2, fun j hj => ?_⟩
 obtain ⟨v, k1, k2, k3⟩ := h3 j hj
 exact ⟨v, k1, k2.below_ hb, k3⟩
theorem NI.drew_ (h : NI w base P0 g c n ln) : NI w.drew base P0 g c n ln := h
theorem NI.drewN_ (h : NI w base P0 g c n ln) (k : Nat) : NI (w.drewN k) base P0 g c n ln := h
theorem NI.alloc_ (h : NI w base P0 g c n ln) (x : Obj) : NI (w.alloc x) base P0 g c n ln := h.below_ (ba (Below.refl _ _) x)
theorem NI.set_ (h : NI w base P0 g c n ln) (i d : Nat) (hd : d < 7) (x : Value) : NI (w.setCell ⟨g, i * 8 + d, none⟩ x) base P0 g c n ln := fun hn => by
 obtain ⟨cur, h1, h2, h3⟩ := h hn
 refine ⟨_, blk_set h1 _ x, by simpa using h2, fun j hj => ?_⟩
 obtain ⟨v, k1, k2, k3⟩ := h3 j hj
 refine ⟨v, ?_, k2.set_ _ _ _, k3⟩
 rw [Array.getElem?_setIfInBounds_ne (by omega)]
 exact k1
theorem NI.cell_ (h : NI w base P0 g c n ln) (hc : n ≤ c) {i : Nat} (hi : i < n) (d : Nat) (hd : d < 8) : (∃ y, w.cell? ⟨g, i * 8 + d, none⟩ = some y) ∧ w.frozen? ⟨g, i * 8 + d, none⟩ = false := by
 obtain ⟨cur, h1, h2, h3⟩ := h (by omega)
 exact WRow.cell_ h1 _ (by rw [h2]; omega)
theorem NI.row_ (h : NI w base P0 g c n ln) {i : Nat} (hi : i < n) : ∃ v, w.cell? ⟨g, i * 8 + 7, none⟩ = some v ∧ WRow w base 9 v (ln i) ∧ ∀ b, v.ownBlock = some b → P0 b ∧ b ≠ g := by
 obtain ⟨cur, h1, h2, h3⟩ := h (by omega)
 obtain ⟨v, k1, k2, k3⟩ := h3 i hi
 exact ⟨v, by rw [kc h1]; exact k1, k2, k3⟩
theorem NI.mark_ (h : NI w base P0 g c n ln) {v : Value} {m : Nat} (hv : WRow w base 9 v m) (hv' : WRow w1 base 9 v m) (hp : ∀ b, v.ownBlock = some b → P0 b ∧ b ≠ g) (hk : Kept w w1 (fun k_ => some k_ = v.ownBlock)) : NI w1 base P0 g c n ln := fun hn => by
 obtain ⟨cur, h1, h2, h3⟩ := h hn
 refine ⟨cur, blk_kept h1 hk (fun e => (hp g e.symm).2 rfl), h2, fun j hj => ?_⟩
 obtain ⟨u, k1, k2, k3⟩ := h3 j hj
 exact ⟨u, k1, k2.kept_ hv hv' hk, k3⟩
/-- A row that a call has made is such a row. -/
theorem NI.of_R {l : List S125} {u : Value} (h : Kd.R k125 125 w base P0 u l) : ∃ A g c, u = .slice A l.length c ∧ (0 < l.length → A = some ⟨g, 0, none⟩ ∧ base ≤ g ∧ P0 g ∧ l.length ≤ c) ∧ NI w base P0 g c l.length (fun j => (rd_T125 l (j : Int)).f3.f4.length) := by
 obtain ⟨h0, inner, ⟨hl, ho⟩, hr⟩ := h
 rcases ho with ⟨rfl, hz⟩ | ⟨g, c, cur, rfl, e2, e3, e4, e5, e6, e7⟩
 ·exact ⟨none, 0, 0, by rw [hz], fun hn => by omega, fun hn => by omega⟩
 ·have hsz : k125.sz = 8 := rfl
  rw [hsz] at e6 e7 hl hr
  refine ⟨some ⟨g, 0, none⟩, g, c, rfl, fun hn => ⟨rfl, e2, h0 g rfl, e4⟩, fun hn => ⟨cur, e3, e6, fun j hj => ?_⟩⟩
  have hg := List.getElem?_eq_getElem hj
  have hM := hr.2 j _ hg
  have hin : ((inner.drop (j * 8)).take 8)[7]? = cur[j * 8 + 7]? := by
   rw [List.getElem?_take_of_lt (by decide), List.getElem?_drop, ← e7, List.getElem?_take_of_lt (by omega), Array.getElem?_toList]
  have hrd : rd_T125 l (j : Int) = l[j] := by
   unfold rd_T125
   rw [List.getD_eq_getElem?_getD, Int.toNat_natCast, hg]; rfl
  obtain ⟨v, hcs, hv⟩ := k125_openM hM
  refine ⟨v, ?_, ?_, fun b hb => ?_⟩
  ·rw [← hin, hcs]; rfl
  ·show WRow w base 9 v ((rd_T125 l (j : Int)).f3.f4.length)
   rw [hrd]
   obtain ⟨_, inn, hoo, _⟩ := hv
   exact ⟨inn, hoo⟩
  ·have := hv.1 b hb
   exact ⟨this.1, fun e => this.2 (by rw [e]; rfl)⟩
end

def wmT.l0 : Nat → List S125 → Int → Int → Option Int
 | 0, _, _, _ => none
 | k + 1, l, x1, x5 => if x5 < (l.length : Int) then (if 0 ≤ x5 then ((laws_markText.f k (wrap64 ((wrap64 ((wrap64 ((wrap64 (x1 + 1)) + 1)) + 1)) + 1))).bind fun _ => ((wmS.l0 k ((rd_T125 l x5).f3.f4.length : Int) (wrap64 ((wrap64 ((wrap64 ((wrap64 ((wrap64 ((wrap64 ((wrap64 (x1 + 1)) + 1)) + 1)) + 1)) + 1)) + 1)) + 1)) 0).bind fun t => (wmT.l0 k l t (wrap64 (x5 + 1))))) else (none)) else (some x1)
def laws_markToldS.f (k : Nat) (l0 : List S125) (a1 : Int) : Option Int := wmT.l0 k l0 a1 0
theorem WRow.at_ {w : World} {base e n : Nat} {v : Value} (h : WRow w base e v n) : WRow w base e v n := h
set_option maxHeartbeats 8000000 in
set_option maxRecDepth 100000 in
theorem laws_markToldS.owned (k : Nat) (P0_ : Nat → Prop) (u : Value) (l0 : List S125) (a1 r1 : Int) (w0 w : World) (hB : Below w0.heap.size w0 w) (ho0 : Kd.R k125 125 w w0.heap.size P0_ u l0) (h : laws_markToldS.f k l0 a1 = some r1) :
  Calls Try.prog 21 #[u, .int .i64 a1] w fun e w' => e = .returned (.int .i64 r1) ∧ Below w0.heap.size w0 w' ∧ Kept w w' P0_ := by
 obtain ⟨Ao, g, co, eo, hA, hN⟩ := NI.of_R ho0
 subst eo
 have HN := Am hN
 have HK := Am (Kept.refl w P0_)
 have HB := Am hB
 have GA := Am hA
 clear hB ho0 hN hA
 have H' := Am (show wmT.l0 k l0 a1 0 = some r1 from h)
 clear h
 go_enter Try.func21, Try.ntmps21
 go_wp2
 go_loopg [1, 5] k (fun kq v1 v5 w' => ∃ (x1_1 : Int) (x5_1 : Int), v1 = .int .i64 x1_1 ∧ v5 = .int .i64 x5_1 ∧ Aside0 (wmT.l0 kq l0 x1_1 x5_1 = some r1) ∧ Aside0 (kq ≤ k) ∧ Aside0 (NI w' w0.heap.size P0_ g co l0.length (fun j => (rd_T125 l0 (j : Int)).f3.f4.length)) ∧ Aside0 (Kept w w' P0_) ∧ Aside0 (Below w0.heap.size w0 w'))
 case atStart => exact ⟨a1, 0, (by first | rfl | (simp; done) | (simp [*]; done)), (by first | rfl | (simp; done) | (simp [*]; done)), H', ⟨Nat.le_refl _⟩, ⟨(by repeat (first | exact HN.out | apply NI.alloc_ | apply NI.drewN_ | apply NI.drew_))⟩, ⟨(by repeat (first | (with_reducible first | exact HK.out | apply Kept.alloc | apply Kept.drewN | apply Kept.drew) | exact HK.out))⟩, ⟨(by repeat (first | (with_reducible first | exact HB.out | apply ba | apply bn | apply be) | exact HB.out))⟩⟩
 case round =>
  clear H' HN HK HB
  obtain ⟨x1_1, x5_1, rfl, rfl, HA, HK1, HN, HK, HB⟩ := hrel
  cases gk with
  | zero => exact absurd HA.out (by simp [wmT.l0])
  | succ k1 =>
   have H := HA.out
   clear HA
   simp only [wmT.l0] at H
   by_cases c3 : x5_1 < (l0.length : Int)
   ·rw [if_pos c3] at H
    have c3b0 : decide (x5_1 < (l0.length : Int)) = true := decide_eq_true c3
    by_cases c5 : 0 ≤ x5_1
    ·rw [if_pos c5] at H
     have c5b0 : decide (0 ≤ x5_1) = true := decide_eq_true c5
     replace H := Option.bind_eq_some_iff.mp H
     obtain ⟨t176, A40, H⟩ := H
     replace H := Option.bind_eq_some_iff.mp H
     obtain ⟨t177, A50, H⟩ := H
     have A4 := Am A40
     have A5 := Am (show wmS.l0 k1 (((rd_T125 l0 ((x5_1.toNat : Nat) : Int)).f3.f4.length : Nat) : Int) (wrap64 ((wrap64 ((wrap64 ((wrap64 ((wrap64 ((wrap64 ((wrap64 (x1_1 + 1)) + 1)) + 1)) + 1)) + 1)) + 1)) + 1)) 0 = some t177 from by rw [Int.toNat_of_nonneg c5]; exact A50)
     clear A40 A50
     have H' := Am H
     clear H
     obtain ⟨eA, gb, gp, gc⟩ := GA.out (by omega)
     subst eA
     have GB := Am gb
     have GP := Am gp
     have CC := Am gc
     have CI := Am (show x5_1.toNat < l0.length by omega)
     clear gb gp gc
     replace c3 := eq_true c3
     replace c5 := eq_true c5
     obtain ⟨⟨y0_, hx0_⟩, hf0_⟩ := NI.cell_ HN.out CC.out CI.out 0 (by decide); (try simp only [Nat.add_zero] at hx0_ hf0_)
     go_wp2_with (first | ((with_reducible refine gate_store (t := 3) (p := 16) rfl ?_); refine store_event (t := 3) (p := 16) (v := ?vo_0) (w1 := (wr.setCell ⟨g, (x5_1 : Int).toNat * 8, none⟩ (.int .i64 (x1_1)))) ?hg ?ho ?hn ?hr ?_; (case ho => rfl); (case hg => rfl); (case hn => rfl); (case hr => first | (go_simp; done) | (go_simp; rfl)); intro w20_ hw; replace HN := Am ((by rw [hw]; exact NI.set_ HN.out (x5_1 : Int).toNat 0 (by decide) _ : NI w20_ w0.heap.size P0_ g co l0.length (fun j => (rd_T125 l0 (j : Int)).f3.f4.length))); replace HB := Am ((by rw [hw]; exact bs (HB.out) GB.out : Below w0.heap.size w0 w20_)); replace HK := Am ((by rw [hw]; exact Kept.setCell (p := ⟨g, (x5_1 : Int).toNat * 8, none⟩) HK.out (Or.inl GP.out) _ : Kept w w20_ P0_)); clear hw; (try clear hx0_ hf0_); obtain ⟨⟨y1_, hx1_⟩, hf1_⟩ := NI.cell_ HN.out CC.out CI.out 1 (by decide); (try simp only [Nat.add_zero] at hx1_ hf1_)) | ((with_reducible refine gate_store (t := 3) (p := 23) rfl ?_); refine store_event (t := 3) (p := 23) (v := ?vo_1) (w1 := (w20_.setCell ⟨g, (x5_1 : Int).toNat * 8 + 1, none⟩ (.int .i64 (wrap64 (x1_1 + 1))))) ?hg ?ho ?hn ?hr ?_; (case ho => rfl); (case hg => rfl); (case hn => rfl); (case hr => first | (go_simp; done) | (go_simp; rfl)); intro w21_ hw; replace HN := Am ((by rw [hw]; exact NI.set_ HN.out (x5_1 : Int).toNat 1 (by decide) _ : NI w21_ w0.heap.size P0_ g co l0.length (fun j => (rd_T125 l0 (j : Int)).f3.f4.length))); replace HB := Am ((by rw [hw]; exact bs (HB.out) GB.out : Below w0.heap.size w0 w21_)); replace HK := Am ((by rw [hw]; exact Kept.setCell (p := ⟨g, (x5_1 : Int).toNat * 8 + 1, none⟩) HK.out (Or.inl GP.out) _ : Kept w w21_ P0_)); clear hw; (try clear hx1_ hf1_); obtain ⟨⟨y2_, hx2_⟩, hf2_⟩ := NI.cell_ HN.out CC.out CI.out 2 (by decide); (try simp only [Nat.add_zero] at hx2_ hf2_)) | ((with_reducible refine gate_store (t := 4) (p := 32) rfl ?_); refine store_event (t := 4) (p := 32) (v := ?vo_2) (w1 := (w21_.setCell ⟨g, (x5_1 : Int).toNat * 8 + 2, none⟩ (.bool ((Int.tmod (wrap64 ((wrap64 (x1_1 + 1)) + 1)) 3) == 0)))) ?hg ?ho ?hn ?hr ?_; (case ho => rfl); (case hg => rfl); (case hn => rfl); (case hr => first | (go_simp; done) | (go_simp; rfl)); intro w22_ hw; replace HN := Am ((by rw [hw]; exact NI.set_ HN.out (x5_1 : Int).toNat 2 (by decide) _ : NI w22_ w0.heap.size P0_ g co l0.length (fun j => (rd_T125 l0 (j : Int)).f3.f4.length))); replace HB := Am ((by rw [hw]; exact bs (HB.out) GB.out : Below w0.heap.size w0 w22_)); replace HK := Am ((by rw [hw]; exact Kept.setCell (p := ⟨g, (x5_1 : Int).toNat * 8 + 2, none⟩) HK.out (Or.inl GP.out) _ : Kept w w22_ P0_)); clear hw; (try clear hx2_ hf2_); obtain ⟨⟨y3_, hx3_⟩, hf3_⟩ := NI.cell_ HN.out CC.out CI.out 3 (by decide); (try simp only [Nat.add_zero] at hx3_ hf3_)) | ((with_reducible refine gate_store (t := 3) (p := 40) rfl ?_); refine store_event (t := 3) (p := 40) (v := ?vo_3) (w1 := (w22_.setCell ⟨g, (x5_1 : Int).toNat * 8 + 3, none⟩ (.int .i64 (wrap64 ((wrap64 ((wrap64 (x1_1 + 1)) + 1)) + 1))))) ?hg ?ho ?hn ?hr ?_; (case ho => rfl); (case hg => rfl); (case hn => rfl); (case hr => first | (go_simp; done) | (go_simp; rfl)); intro w23_ hw; replace HN := Am ((by rw [hw]; exact NI.set_ HN.out (x5_1 : Int).toNat 3 (by decide) _ : NI w23_ w0.heap.size P0_ g co l0.length (fun j => (rd_T125 l0 (j : Int)).f3.f4.length))); replace HB := Am ((by rw [hw]; exact bs (HB.out) GB.out : Below w0.heap.size w0 w23_)); replace HK := Am ((by rw [hw]; exact Kept.setCell (p := ⟨g, (x5_1 : Int).toNat * 8 + 3, none⟩) HK.out (Or.inl GP.out) _ : Kept w w23_ P0_)); clear hw; (try clear hx3_ hf3_)) | ((with_reducible refine gate_callee (f := 87) rfl ?_); refine goesL_ (some 46) rfl rfl Try.func87 (by kernel_rfl) rfl #[.int .i64 (wrap64 ((wrap64 ((wrap64 ((wrap64 (x1_1 + 1)) + 1)) + 1)) + 1))] rfl (by (try simp only [List.map_toArray, List.map_cons, List.map_nil]); first | done | rfl | (simp only [List.length_drop, List.length_take]; rfl)) ?_; (with_reducible refine (laws_markText.calls k1 (wrap64 ((wrap64 ((wrap64 ((wrap64 (x1_1 + 1)) + 1)) + 1)) + 1)) t176 _ A4.out).mono ?_); rintro e wt_ ⟨rfl, hb⟩; refine ⟨_, rfl, ?_⟩; replace HN := Am (NI.below_ (by repeat (first | exact HN.out | apply NI.alloc_ | apply NI.drewN_ | apply NI.drew_)) hb); replace HK := Am (Kept.below (S := P0_) (by repeat (first | (with_reducible first | exact HK.out | apply Kept.alloc | apply Kept.drewN | apply Kept.drew) | exact HK.out)) hb); replace HB := Am (bq (by repeat (first | (with_reducible first | exact HB.out | apply ba | apply bn | apply be) | exact HB.out)) hb); clear hb; obtain ⟨⟨y4_, hx4_⟩, hf4_⟩ := NI.cell_ HN.out CC.out CI.out 4 (by decide); (try simp only [Nat.add_zero] at hx4_ hf4_)) | ((with_reducible refine gate_store (t := 9) (p := 49) rfl ?_); refine store_event (t := 9) (p := 49) (v := ?vo_4) (w1 := (wt_.setCell ⟨g, (x5_1 : Int).toNat * 8 + 4, none⟩ (.string t176))) ?hg ?ho ?hn ?hr ?_; (case ho => rfl); (case hg => rfl); (case hn => rfl); (case hr => first | (go_simp; done) | (go_simp; rfl)); intro w24_ hw; replace HN := Am ((by rw [hw]; exact NI.set_ HN.out (x5_1 : Int).toNat 4 (by decide) _ : NI w24_ w0.heap.size P0_ g co l0.length (fun j => (rd_T125 l0 (j : Int)).f3.f4.length))); replace HB := Am ((by rw [hw]; exact bs (HB.out) GB.out : Below w0.heap.size w0 w24_)); replace HK := Am ((by rw [hw]; exact Kept.setCell (p := ⟨g, (x5_1 : Int).toNat * 8 + 4, none⟩) HK.out (Or.inl GP.out) _ : Kept w w24_ P0_)); clear hw; (try clear hx4_ hf4_); obtain ⟨⟨y5_, hx5_⟩, hf5_⟩ := NI.cell_ HN.out CC.out CI.out 5 (by decide); (try simp only [Nat.add_zero] at hx5_ hf5_)) | ((with_reducible refine gate_store (t := 3) (p := 57) rfl ?_); refine store_event (t := 3) (p := 57) (v := ?vo_5) (w1 := (w24_.setCell ⟨g, (x5_1 : Int).toNat * 8 + 5, none⟩ (.int .i64 (wrap64 ((wrap64 ((wrap64 ((wrap64 ((wrap64 (x1_1 + 1)) + 1)) + 1)) + 1)) + 1))))) ?hg ?ho ?hn ?hr ?_; (case ho => rfl); (case hg => rfl); (case hn => rfl); (case hr => first | (go_simp; done) | (go_simp; rfl)); intro w25_ hw; replace HN := Am ((by rw [hw]; exact NI.set_ HN.out (x5_1 : Int).toNat 5 (by decide) _ : NI w25_ w0.heap.size P0_ g co l0.length (fun j => (rd_T125 l0 (j : Int)).f3.f4.length))); replace HB := Am ((by rw [hw]; exact bs (HB.out) GB.out : Below w0.heap.size w0 w25_)); replace HK := Am ((by rw [hw]; exact Kept.setCell (p := ⟨g, (x5_1 : Int).toNat * 8 + 5, none⟩) HK.out (Or.inl GP.out) _ : Kept w w25_ P0_)); clear hw; (try clear hx5_ hf5_); obtain ⟨⟨y6_, hx6_⟩, hf6_⟩ := NI.cell_ HN.out CC.out CI.out 6 (by decide); (try simp only [Nat.add_zero] at hx6_ hf6_)) | ((with_reducible refine gate_store (t := 4) (p := 67) rfl ?_); refine store_event (t := 4) (p := 67) (v := ?vo_6) (w1 := (w25_.setCell ⟨g, (x5_1 : Int).toNat * 8 + 6, none⟩ (.bool ((Int.tmod (wrap64 ((wrap64 ((wrap64 ((wrap64 ((wrap64 ((wrap64 (x1_1 + 1)) + 1)) + 1)) + 1)) + 1)) + 1)) 3) == 0)))) ?hg ?ho ?hn ?hr ?_; (case ho => rfl); (case hg => rfl); (case hn => rfl); (case hr => first | (go_simp; done) | (go_simp; rfl)); intro w26_ hw; replace HN := Am ((by rw [hw]; exact NI.set_ HN.out (x5_1 : Int).toNat 6 (by decide) _ : NI w26_ w0.heap.size P0_ g co l0.length (fun j => (rd_T125 l0 (j : Int)).f3.f4.length))); replace HB := Am ((by rw [hw]; exact bs (HB.out) GB.out : Below w0.heap.size w0 w26_)); replace HK := Am ((by rw [hw]; exact Kept.setCell (p := ⟨g, (x5_1 : Int).toNat * 8 + 6, none⟩) HK.out (Or.inl GP.out) _ : Kept w w26_ P0_)); clear hw; (try clear hx6_ hf6_); obtain ⟨vj, hx_, hw_, hp_⟩ := NI.row_ HN.out CI.out) | ((with_reducible refine gate_callee (f := 88) rfl ?_); refine goesL_ (some 77) rfl rfl Try.func88 (by kernel_rfl) rfl #[vj, .int .i64 (wrap64 ((wrap64 ((wrap64 ((wrap64 ((wrap64 ((wrap64 ((wrap64 (x1_1 + 1)) + 1)) + 1)) + 1)) + 1)) + 1)) + 1))] rfl (by (try simp only [List.map_toArray, List.map_cons, List.map_nil]); first | done | rfl | (simp only [List.length_drop, List.length_take]; rfl)) ?_; (refine (wmS.calls k1 vj _ (wrap64 ((wrap64 ((wrap64 ((wrap64 ((wrap64 ((wrap64 ((wrap64 (x1_1 + 1)) + 1)) + 1)) + 1)) + 1)) + 1)) + 1)) t177 w0 _ (by repeat (first | (with_reducible first | exact HB.out | apply ba | apply bn | apply be) | exact HB.out)) (WRow.at_ hw_) A5.out).mono ?_); rintro e w9 ⟨rfl, ho, hb, hk⟩; refine ⟨_, rfl, ?_⟩; replace HN := Am (NI.mark_ (by repeat (first | exact HN.out | apply NI.alloc_ | apply NI.drewN_ | apply NI.drew_)) (WRow.at_ hw_) ho hp_ hk); replace HB := Am hb; replace HK := Am (Kept.then_ (by repeat (first | (with_reducible first | exact HK.out | apply Kept.alloc | apply Kept.drewN | apply Kept.drew) | exact HK.out)) hk (fun k_ e_ => .inl (hp_ k_ e_.symm).1)); clear ho hb hk hw_ hp_ hx_))
     go_roundg k1
     case measure => have := HK1.out; omega
     case rel => exact ⟨t177, (wrap64 (x5_1 + 1)), (by first | rfl | (simp; done) | (simp [*]; done)), (by first | rfl | (simp; done) | (simp [*]; done)), H', ⟨by have := HK1.out; omega⟩, ⟨(by repeat (first | exact HN.out | apply NI.alloc_ | apply NI.drewN_ | apply NI.drew_))⟩, ⟨(by repeat (first | (with_reducible first | exact HK.out | apply Kept.alloc | apply Kept.drewN | apply Kept.drew) | exact HK.out))⟩, ⟨(by repeat (first | (with_reducible first | exact HB.out | apply ba | apply bn | apply be) | exact HB.out))⟩⟩
    ·rw [if_neg c5] at H
     exact absurd H (by simp)
   ·rw [if_neg c3] at H
    have c3b0 : decide (x5_1 < (l0.length : Int)) = false := decide_eq_false c3
    clear c3
    obtain rfl := Option.some.inj H
    go_wp2
    go_ret
    exact ⟨by first | rfl | (simp [errW_none, errW_some] <;> rfl) | (simp [*, errW_none, errW_some] <;> rfl), (by repeat (first | (with_reducible first | exact HB.out | apply ba | apply bn | apply be) | exact HB.out)), (by repeat (first | (with_reducible first | exact HK.out | apply Kept.alloc | apply Kept.drewN | apply Kept.drew) | exact HK.out))⟩

theorem wmS.mono_l : ∀ k, (∀ y0 y1 y2, LeO (wmS.l0 k y0 y1 y2) (wmS.l0 (k + 1) y0 y1 y2))
 | 0 => fun _ _ _ r h => by simp [wmS.l0] at h
 | k + 1 => by
  have ih0 := wmS.mono_l k
  ·intro y0 y1 y2
   unfold wmS.l0
   repeat' first
   | (with_reducible exact ih0 _ _ _)
   | (with_reducible exact laws_markText.mono _ _)
   | (with_reducible exact LeO.refl _)
   | (with_reducible exact LeO.none _)
   | (with_reducible refine LeO.ite ?_ ?_)
   | (with_reducible refine LeO.bind ?_ (fun _ => ?_))
   | exact ih0 _ _ _
   | exact laws_markText.mono _ _
   | exact LeO.none _
   | refine LeO.ite ?_ ?_
   | refine LeO.bind ?_ (fun _ => ?_)
theorem wmT.mono_l : ∀ k, (∀ y0 y1 y2, LeO (wmT.l0 k y0 y1 y2) (wmT.l0 (k + 1) y0 y1 y2))
 | 0 => fun _ _ _ r h => by simp [wmT.l0] at h
 | k + 1 => by
  have ih0 := wmT.mono_l k
  ·intro y0 y1 y2
   unfold wmT.l0
   repeat' first
   | (with_reducible exact ih0 _ _ _)
   | (with_reducible exact laws_markText.mono _ _)
   | (with_reducible exact wmS.mono_l _ _ _ _)
   | (with_reducible exact LeO.refl _)
   | (with_reducible exact LeO.none _)
   | (with_reducible refine LeO.ite ?_ ?_)
   | (with_reducible refine LeO.bind ?_ (fun _ => ?_))
   | exact ih0 _ _ _
   | exact laws_markText.mono _ _
   | exact wmS.mono_l _ _ _ _
   | exact LeO.none _
   | refine LeO.ite ?_ ?_
   | refine LeO.bind ?_ (fun _ => ?_)
theorem laws_markToldS.mono : ∀ a0 a1 k, LeO (laws_markToldS.f k a0 a1) (laws_markToldS.f (k + 1) a0 a1) := fun a0 a1 k => wmT.mono_l k a0 a1 0

/-! ### laws_markAskS: function 22 -/
def laws_markAskS.l0 : Nat → List (S42) → Int → Int → Option (Int × (List (S42)))
 | 0, _, _, _ => none
 | k + 1, x0, x1, x5 => if x5 < (x0.length : Int) then (if 0 ≤ x5 then ((some (x0.set (x5 : Int).toNat (⟨x1, (rd_T42 x0 x5).f1, (rd_T42 x0 x5).f2, (rd_T42 x0 x5).f3, (rd_T42 x0 x5).f4, (rd_T42 x0 x5).f5⟩ : S42) : List (S42))).bind fun y247 => ((laws_markText.f k (wrap64 (x1 + 1))).bind fun t248 => ((some (y247.set (x5 : Int).toNat (⟨(rd_T42 y247 x5).f0, t248, (rd_T42 y247 x5).f2, (rd_T42 y247 x5).f3, (rd_T42 y247 x5).f4, (rd_T42 y247 x5).f5⟩ : S42) : List (S42))).bind fun y249 => ((laws_markText.f k (wrap64 ((wrap64 (x1 + 1)) + 1))).bind fun t250 => ((some (y249.set (x5 : Int).toNat (⟨(rd_T42 y249 x5).f0, (rd_T42 y249 x5).f1, t250, (rd_T42 y249 x5).f3, (rd_T42 y249 x5).f4, (rd_T42 y249 x5).f5⟩ : S42) : List (S42))).bind fun y251 => ((some (y251.set (x5 : Int).toNat (⟨(rd_T42 y251 x5).f0, (rd_T42 y251 x5).f1, (rd_T42 y251 x5).f2, wrap64 ((wrap64 ((wrap64 (x1 + 1)) + 1)) + 1), (rd_T42 y251 x5).f4, (rd_T42 y251 x5).f5⟩ : S42) : List (S42))).bind fun y252 => ((some (y252.set (x5 : Int).toNat (⟨(rd_T42 y252 x5).f0, (rd_T42 y252 x5).f1, (rd_T42 y252 x5).f2, (rd_T42 y252 x5).f3, wrap64 ((wrap64 ((wrap64 ((wrap64 (x1 + 1)) + 1)) + 1)) + 1), (rd_T42 y252 x5).f5⟩ : S42) : List (S42))).bind fun y253 => ((laws_markText.f k (wrap64 ((wrap64 ((wrap64 ((wrap64 ((wrap64 (x1 + 1)) + 1)) + 1)) + 1)) + 1))).bind fun t254 => (laws_markAskS.l0 k (y253.set (x5 : Int).toNat (⟨(rd_T42 y253 x5).f0, (rd_T42 y253 x5).f1, (rd_T42 y253 x5).f2, (rd_T42 y253 x5).f3, (rd_T42 y253 x5).f4, t254⟩ : S42)) (wrap64 ((wrap64 ((wrap64 ((wrap64 ((wrap64 ((wrap64 (x1 + 1)) + 1)) + 1)) + 1)) + 1)) + 1)) (wrap64 (x5 + 1))))))))))) else (none)) else (some (x1, x0))
def laws_markAskS.f (k : Nat) (l0 : List (S42)) (a1 : Int) : Option (Int × (List (S42))) := laws_markAskS.l0 k l0 a1 0
theorem laws_markAskS.mono_l : ∀ k, (∀ y0 y1 y2, LeO (laws_markAskS.l0 k y0 y1 y2) (laws_markAskS.l0 (k + 1) y0 y1 y2))
 | 0 => fun _ _ _ r h => by simp [laws_markAskS.l0] at h
 | k + 1 => by
  have ih0 := laws_markAskS.mono_l k
  ·intro y0 y1 y2
   unfold laws_markAskS.l0
   repeat' first
   | (with_reducible exact ih0 _ _ _)
   | (with_reducible exact laws_markText.mono _ _)
   | (with_reducible exact LeO.refl _)
   | (with_reducible exact LeO.none _)
   | (with_reducible refine LeO.ite ?_ ?_)
   | (with_reducible refine LeO.bind ?_ (fun _ => ?_))
   | exact ih0 _ _ _
   | exact laws_markText.mono _ _
   | exact LeO.none _
   | refine LeO.ite ?_ ?_
   | refine LeO.bind ?_ (fun _ => ?_)
theorem laws_markAskS.mono : ∀ a0 a1 k, LeO (laws_markAskS.f k a0 a1) (laws_markAskS.f (k + 1) a0 a1) := by
 intro a0 a1 k
 have ih0 := laws_markAskS.mono_l k
 unfold laws_markAskS.f
 repeat' first
   | (with_reducible exact ih0 _ _ _)
   | (with_reducible exact laws_markText.mono _ _)
   | (with_reducible exact LeO.refl _)
   | (with_reducible exact LeO.none _)
   | (with_reducible refine LeO.ite ?_ ?_)
   | (with_reducible refine LeO.bind ?_ (fun _ => ?_))
   | exact ih0 _ _ _
   | exact laws_markText.mono _ _
   | exact LeO.none _
   | refine LeO.ite ?_ ?_
   | refine LeO.bind ?_ (fun _ => ?_)
set_option maxHeartbeats 8000000 in
set_option maxRecDepth 100000 in
theorem laws_markAskS.calls (k : Nat) (P0_ : Nat → Prop) (u9000_ : Value) (l0 : List (S42)) (a1 : Int) (r1 : Int) (r2 : List (S42)) (w0 w : World) (hB : Below w0.heap.size w0 w) (ho0 : Kd.R k42 42 w w0.heap.size P0_ u9000_ l0) (h : laws_markAskS.f k l0 a1 = some (r1, r2)) :
  Calls Try.prog 22 #[u9000_, .int .i64 a1] w fun e w' => e = .returned (.int .i64 r1) ∧ Kd.R k42 42 w' w0.heap.size (fun k_ => (P0_ k_ ∨ w.heap.size ≤ k_)) u9000_ r2 ∧ Below w0.heap.size w0 w' ∧ Kept w w' (fun k_ => P0_ k_) := by
 have HO0 := Am (show Kd.R k42 42 w w0.heap.size (fun k_ => (P0_ k_ ∨ w.heap.size ≤ k_)) u9000_ l0 from Kd.R_mono ho0 (fun k_ hk => (.inl hk)))
 have HK := Am (Kept.refl w (fun k_ => P0_ k_))
 have HW0 := Am hB.size
 have HB := Am hB
 clear hB
 have H : (laws_markAskS.l0 k l0 a1 0) = some (r1, r2) := h
 clear h
 have H' := Am H
 clear H
 go_enter Try.func22, Try.ntmps22
 go_wp2
 go_loopg [1, 5] k (fun kq v1 v5 w' => ∃ (x0_1 : List (S42)) (x1_1 : Int) (x5_1 : Int), v1 = .int .i64 x1_1 ∧ v5 = .int .i64 x5_1 ∧ Aside0 (laws_markAskS.l0 kq x0_1 x1_1 x5_1 = some (r1, r2)) ∧ Aside0 (kq ≤ k) ∧ Aside0 (Kd.R k42 42 w' w0.heap.size (fun k_ => (P0_ k_ ∨ w.heap.size ≤ k_)) u9000_ x0_1) ∧ Aside0 (Kept w w' (fun k_ => P0_ k_)) ∧ Aside0 (Below w0.heap.size w0 w'))
 case atStart => exact ⟨(l0), (a1), (0), (by first | rfl | (simp; done) | (simp [*]; done)), (by first | rfl | (simp; done) | (simp [*]; done)), H', ⟨Nat.le_refl _⟩, ⟨by (with_reducible repeat (first | apply ra | apply rn | apply re)); exact HO0.out⟩, ⟨by repeat (first | (with_reducible first | exact HK.out | apply Kept.alloc | apply Kept.drewN | apply Kept.drew) | exact HK.out)⟩, ⟨by repeat (first | (with_reducible first | exact HB.out | apply ba | apply bn | apply be) | exact HB.out)⟩⟩
 case round =>
  clear H'
  try clear c2
  try clear p2
  obtain ⟨x0_1, x1_1, x5_1, rfl, rfl, HA, HK1, HO_0, HK, HB⟩ := hrel
  cases gk with
  | zero => exact absurd HA.out (by simp [laws_markAskS.l0])
  | succ k1 =>
   have H := HA.out
   clear HA
   simp only [laws_markAskS.l0] at H
   by_cases c3 : x5_1 < (x0_1.length : Int)
   ·rw [if_pos c3] at H
    have c3b0 : decide (x5_1 < (x0_1.length : Int)) = true := decide_eq_true c3
    clear c3
    by_cases c4 : 0 ≤ x5_1
    ·rw [if_pos c4] at H
     have c4b0 : decide (0 ≤ x5_1) = true := decide_eq_true c4
     clear c4
     obtain ⟨y247, hy247⟩ : ∃ y_ : List (S42), y_ = (x0_1.set (x5_1 : Int).toNat (⟨x1_1, (rd_T42 x0_1 x5_1).f1, (rd_T42 x0_1 x5_1).f2, (rd_T42 x0_1 x5_1).f3, (rd_T42 x0_1 x5_1).f4, (rd_T42 x0_1 x5_1).f5⟩ : S42)) := ⟨_, rfl⟩
     replace H : ((laws_markText.f k1 (wrap64 (x1_1 + 1))).bind fun t248 => ((some (y247.set (x5_1 : Int).toNat (⟨(rd_T42 y247 x5_1).f0, t248, (rd_T42 y247 x5_1).f2, (rd_T42 y247 x5_1).f3, (rd_T42 y247 x5_1).f4, (rd_T42 y247 x5_1).f5⟩ : S42) : List (S42))).bind fun y249 => ((laws_markText.f k1 (wrap64 ((wrap64 (x1_1 + 1)) + 1))).bind fun t250 => ((some (y249.set (x5_1 : Int).toNat (⟨(rd_T42 y249 x5_1).f0, (rd_T42 y249 x5_1).f1, t250, (rd_T42 y249 x5_1).f3, (rd_T42 y249 x5_1).f4, (rd_T42 y249 x5_1).f5⟩ : S42) : List (S42))).bind fun y251 => ((some (y251.set (x5_1 : Int).toNat (⟨(rd_T42 y251 x5_1).f0, (rd_T42 y251 x5_1).f1, (rd_T42 y251 x5_1).f2, wrap64 ((wrap64 ((wrap64 (x1_1 + 1)) + 1)) + 1), (rd_T42 y251 x5_1).f4, (rd_T42 y251 x5_1).f5⟩ : S42) : List (S42))).bind fun y252 => ((some (y252.set (x5_1 : Int).toNat (⟨(rd_T42 y252 x5_1).f0, (rd_T42 y252 x5_1).f1, (rd_T42 y252 x5_1).f2, (rd_T42 y252 x5_1).f3, wrap64 ((wrap64 ((wrap64 ((wrap64 (x1_1 + 1)) + 1)) + 1)) + 1), (rd_T42 y252 x5_1).f5⟩ : S42) : List (S42))).bind fun y253 => ((laws_markText.f k1 (wrap64 ((wrap64 ((wrap64 ((wrap64 ((wrap64 (x1_1 + 1)) + 1)) + 1)) + 1)) + 1))).bind fun t254 => (laws_markAskS.l0 k1 (y253.set (x5_1 : Int).toNat (⟨(rd_T42 y253 x5_1).f0, (rd_T42 y253 x5_1).f1, (rd_T42 y253 x5_1).f2, (rd_T42 y253 x5_1).f3, (rd_T42 y253 x5_1).f4, t254⟩ : S42)) (wrap64 ((wrap64 ((wrap64 ((wrap64 ((wrap64 ((wrap64 (x1_1 + 1)) + 1)) + 1)) + 1)) + 1)) + 1)) (wrap64 (x5_1 + 1)))))))))) = some (r1, r2) := by first | (rw [hy247]; with_reducible exact H) | (have H2_ := (Option.bind_some _ _).symm.trans H; rw [hy247]; with_reducible exact H2_) | (have H2_ := (Option.bind_some _ _).symm.trans H; with_reducible exact H2_) | with_reducible exact H | (rw [hy247]; exact H) | exact H
     have Ny247 := Am hy247
     clear hy247
     replace H := Option.bind_eq_some_iff.mp H
     obtain ⟨t248, A60, H⟩ := H
     replace H : ((some (y247.set (x5_1 : Int).toNat (⟨(rd_T42 y247 x5_1).f0, t248, (rd_T42 y247 x5_1).f2, (rd_T42 y247 x5_1).f3, (rd_T42 y247 x5_1).f4, (rd_T42 y247 x5_1).f5⟩ : S42) : List (S42))).bind fun y249 => ((laws_markText.f k1 (wrap64 ((wrap64 (x1_1 + 1)) + 1))).bind fun t250 => ((some (y249.set (x5_1 : Int).toNat (⟨(rd_T42 y249 x5_1).f0, (rd_T42 y249 x5_1).f1, t250, (rd_T42 y249 x5_1).f3, (rd_T42 y249 x5_1).f4, (rd_T42 y249 x5_1).f5⟩ : S42) : List (S42))).bind fun y251 => ((some (y251.set (x5_1 : Int).toNat (⟨(rd_T42 y251 x5_1).f0, (rd_T42 y251 x5_1).f1, (rd_T42 y251 x5_1).f2, wrap64 ((wrap64 ((wrap64 (x1_1 + 1)) + 1)) + 1), (rd_T42 y251 x5_1).f4, (rd_T42 y251 x5_1).f5⟩ : S42) : List (S42))).bind fun y252 => ((some (y252.set (x5_1 : Int).toNat (⟨(rd_T42 y252 x5_1).f0, (rd_T42 y252 x5_1).f1, (rd_T42 y252 x5_1).f2, (rd_T42 y252 x5_1).f3, wrap64 ((wrap64 ((wrap64 ((wrap64 (x1_1 + 1)) + 1)) + 1)) + 1), (rd_T42 y252 x5_1).f5⟩ : S42) : List (S42))).bind fun y253 => ((laws_markText.f k1 (wrap64 ((wrap64 ((wrap64 ((wrap64 ((wrap64 (x1_1 + 1)) + 1)) + 1)) + 1)) + 1))).bind fun t254 => (laws_markAskS.l0 k1 (y253.set (x5_1 : Int).toNat (⟨(rd_T42 y253 x5_1).f0, (rd_T42 y253 x5_1).f1, (rd_T42 y253 x5_1).f2, (rd_T42 y253 x5_1).f3, (rd_T42 y253 x5_1).f4, t254⟩ : S42)) (wrap64 ((wrap64 ((wrap64 ((wrap64 ((wrap64 ((wrap64 (x1_1 + 1)) + 1)) + 1)) + 1)) + 1)) + 1)) (wrap64 (x5_1 + 1))))))))) = some (r1, r2) := H
     have A6 := Am A60
     clear A60
     obtain ⟨y249, hy249⟩ : ∃ y_ : List (S42), y_ = (y247.set (x5_1 : Int).toNat (⟨(rd_T42 y247 x5_1).f0, t248, (rd_T42 y247 x5_1).f2, (rd_T42 y247 x5_1).f3, (rd_T42 y247 x5_1).f4, (rd_T42 y247 x5_1).f5⟩ : S42)) := ⟨_, rfl⟩
     replace H : ((laws_markText.f k1 (wrap64 ((wrap64 (x1_1 + 1)) + 1))).bind fun t250 => ((some (y249.set (x5_1 : Int).toNat (⟨(rd_T42 y249 x5_1).f0, (rd_T42 y249 x5_1).f1, t250, (rd_T42 y249 x5_1).f3, (rd_T42 y249 x5_1).f4, (rd_T42 y249 x5_1).f5⟩ : S42) : List (S42))).bind fun y251 => ((some (y251.set (x5_1 : Int).toNat (⟨(rd_T42 y251 x5_1).f0, (rd_T42 y251 x5_1).f1, (rd_T42 y251 x5_1).f2, wrap64 ((wrap64 ((wrap64 (x1_1 + 1)) + 1)) + 1), (rd_T42 y251 x5_1).f4, (rd_T42 y251 x5_1).f5⟩ : S42) : List (S42))).bind fun y252 => ((some (y252.set (x5_1 : Int).toNat (⟨(rd_T42 y252 x5_1).f0, (rd_T42 y252 x5_1).f1, (rd_T42 y252 x5_1).f2, (rd_T42 y252 x5_1).f3, wrap64 ((wrap64 ((wrap64 ((wrap64 (x1_1 + 1)) + 1)) + 1)) + 1), (rd_T42 y252 x5_1).f5⟩ : S42) : List (S42))).bind fun y253 => ((laws_markText.f k1 (wrap64 ((wrap64 ((wrap64 ((wrap64 ((wrap64 (x1_1 + 1)) + 1)) + 1)) + 1)) + 1))).bind fun t254 => (laws_markAskS.l0 k1 (y253.set (x5_1 : Int).toNat (⟨(rd_T42 y253 x5_1).f0, (rd_T42 y253 x5_1).f1, (rd_T42 y253 x5_1).f2, (rd_T42 y253 x5_1).f3, (rd_T42 y253 x5_1).f4, t254⟩ : S42)) (wrap64 ((wrap64 ((wrap64 ((wrap64 ((wrap64 ((wrap64 (x1_1 + 1)) + 1)) + 1)) + 1)) + 1)) + 1)) (wrap64 (x5_1 + 1)))))))) = some (r1, r2) := by first | (rw [hy249]; with_reducible exact H) | (have H2_ := (Option.bind_some _ _).symm.trans H; rw [hy249]; with_reducible exact H2_) | (have H2_ := (Option.bind_some _ _).symm.trans H; with_reducible exact H2_) | with_reducible exact H | (rw [hy249]; exact H) | exact H
     have Ny249 := Am hy249
     clear hy249
     replace H := Option.bind_eq_some_iff.mp H
     obtain ⟨t250, A80, H⟩ := H
     replace H : ((some (y249.set (x5_1 : Int).toNat (⟨(rd_T42 y249 x5_1).f0, (rd_T42 y249 x5_1).f1, t250, (rd_T42 y249 x5_1).f3, (rd_T42 y249 x5_1).f4, (rd_T42 y249 x5_1).f5⟩ : S42) : List (S42))).bind fun y251 => ((some (y251.set (x5_1 : Int).toNat (⟨(rd_T42 y251 x5_1).f0, (rd_T42 y251 x5_1).f1, (rd_T42 y251 x5_1).f2, wrap64 ((wrap64 ((wrap64 (x1_1 + 1)) + 1)) + 1), (rd_T42 y251 x5_1).f4, (rd_T42 y251 x5_1).f5⟩ : S42) : List (S42))).bind fun y252 => ((some (y252.set (x5_1 : Int).toNat (⟨(rd_T42 y252 x5_1).f0, (rd_T42 y252 x5_1).f1, (rd_T42 y252 x5_1).f2, (rd_T42 y252 x5_1).f3, wrap64 ((wrap64 ((wrap64 ((wrap64 (x1_1 + 1)) + 1)) + 1)) + 1), (rd_T42 y252 x5_1).f5⟩ : S42) : List (S42))).bind fun y253 => ((laws_markText.f k1 (wrap64 ((wrap64 ((wrap64 ((wrap64 ((wrap64 (x1_1 + 1)) + 1)) + 1)) + 1)) + 1))).bind fun t254 => (laws_markAskS.l0 k1 (y253.set (x5_1 : Int).toNat (⟨(rd_T42 y253 x5_1).f0, (rd_T42 y253 x5_1).f1, (rd_T42 y253 x5_1).f2, (rd_T42 y253 x5_1).f3, (rd_T42 y253 x5_1).f4, t254⟩ : S42)) (wrap64 ((wrap64 ((wrap64 ((wrap64 ((wrap64 ((wrap64 (x1_1 + 1)) + 1)) + 1)) + 1)) + 1)) + 1)) (wrap64 (x5_1 + 1))))))) = some (r1, r2) := H
     have A8 := Am A80
     clear A80
     obtain ⟨y251, hy251⟩ : ∃ y_ : List (S42), y_ = (y249.set (x5_1 : Int).toNat (⟨(rd_T42 y249 x5_1).f0, (rd_T42 y249 x5_1).f1, t250, (rd_T42 y249 x5_1).f3, (rd_T42 y249 x5_1).f4, (rd_T42 y249 x5_1).f5⟩ : S42)) := ⟨_, rfl⟩
     replace H : ((some (y251.set (x5_1 : Int).toNat (⟨(rd_T42 y251 x5_1).f0, (rd_T42 y251 x5_1).f1, (rd_T42 y251 x5_1).f2, wrap64 ((wrap64 ((wrap64 (x1_1 + 1)) + 1)) + 1), (rd_T42 y251 x5_1).f4, (rd_T42 y251 x5_1).f5⟩ : S42) : List (S42))).bind fun y252 => ((some (y252.set (x5_1 : Int).toNat (⟨(rd_T42 y252 x5_1).f0, (rd_T42 y252 x5_1).f1, (rd_T42 y252 x5_1).f2, (rd_T42 y252 x5_1).f3, wrap64 ((wrap64 ((wrap64 ((wrap64 (x1_1 + 1)) + 1)) + 1)) + 1), (rd_T42 y252 x5_1).f5⟩ : S42) : List (S42))).bind fun y253 => ((laws_markText.f k1 (wrap64 ((wrap64 ((wrap64 ((wrap64 ((wrap64 (x1_1 + 1)) + 1)) + 1)) + 1)) + 1))).bind fun t254 => (laws_markAskS.l0 k1 (y253.set (x5_1 : Int).toNat (⟨(rd_T42 y253 x5_1).f0, (rd_T42 y253 x5_1).f1, (rd_T42 y253 x5_1).f2, (rd_T42 y253 x5_1).f3, (rd_T42 y253 x5_1).f4, t254⟩ : S42)) (wrap64 ((wrap64 ((wrap64 ((wrap64 ((wrap64 ((wrap64 (x1_1 + 1)) + 1)) + 1)) + 1)) + 1)) + 1)) (wrap64 (x5_1 + 1)))))) = some (r1, r2) := by first | (rw [hy251]; with_reducible exact H) | (have H2_ := (Option.bind_some _ _).symm.trans H; rw [hy251]; with_reducible exact H2_) | (have H2_ := (Option.bind_some _ _).symm.trans H; with_reducible exact H2_) | with_reducible exact H | (rw [hy251]; exact H) | exact H
     have Ny251 := Am hy251
     clear hy251
     obtain ⟨y252, hy252⟩ : ∃ y_ : List (S42), y_ = (y251.set (x5_1 : Int).toNat (⟨(rd_T42 y251 x5_1).f0, (rd_T42 y251 x5_1).f1, (rd_T42 y251 x5_1).f2, wrap64 ((wrap64 ((wrap64 (x1_1 + 1)) + 1)) + 1), (rd_T42 y251 x5_1).f4, (rd_T42 y251 x5_1).f5⟩ : S42)) := ⟨_, rfl⟩
     replace H : ((some (y252.set (x5_1 : Int).toNat (⟨(rd_T42 y252 x5_1).f0, (rd_T42 y252 x5_1).f1, (rd_T42 y252 x5_1).f2, (rd_T42 y252 x5_1).f3, wrap64 ((wrap64 ((wrap64 ((wrap64 (x1_1 + 1)) + 1)) + 1)) + 1), (rd_T42 y252 x5_1).f5⟩ : S42) : List (S42))).bind fun y253 => ((laws_markText.f k1 (wrap64 ((wrap64 ((wrap64 ((wrap64 ((wrap64 (x1_1 + 1)) + 1)) + 1)) + 1)) + 1))).bind fun t254 => (laws_markAskS.l0 k1 (y253.set (x5_1 : Int).toNat (⟨(rd_T42 y253 x5_1).f0, (rd_T42 y253 x5_1).f1, (rd_T42 y253 x5_1).f2, (rd_T42 y253 x5_1).f3, (rd_T42 y253 x5_1).f4, t254⟩ : S42)) (wrap64 ((wrap64 ((wrap64 ((wrap64 ((wrap64 ((wrap64 (x1_1 + 1)) + 1)) + 1)) + 1)) + 1)) + 1)) (wrap64 (x5_1 + 1))))) = some (r1, r2) := by first | (rw [hy252]; with_reducible exact H) | (have H2_ := (Option.bind_some _ _).symm.trans H; rw [hy252]; with_reducible exact H2_) | (have H2_ := (Option.bind_some _ _).symm.trans H; with_reducible exact H2_) | with_reducible exact H | (rw [hy252]; exact H) | exact H
     have Ny252 := Am hy252
     clear hy252
     obtain ⟨y253, hy253⟩ : ∃ y_ : List (S42), y_ = (y252.set (x5_1 : Int).toNat (⟨(rd_T42 y252 x5_1).f0, (rd_T42 y252 x5_1).f1, (rd_T42 y252 x5_1).f2, (rd_T42 y252 x5_1).f3, wrap64 ((wrap64 ((wrap64 ((wrap64 (x1_1 + 1)) + 1)) + 1)) + 1), (rd_T42 y252 x5_1).f5⟩ : S42)) := ⟨_, rfl⟩
     replace H : ((laws_markText.f k1 (wrap64 ((wrap64 ((wrap64 ((wrap64 ((wrap64 (x1_1 + 1)) + 1)) + 1)) + 1)) + 1))).bind fun t254 => (laws_markAskS.l0 k1 (y253.set (x5_1 : Int).toNat (⟨(rd_T42 y253 x5_1).f0, (rd_T42 y253 x5_1).f1, (rd_T42 y253 x5_1).f2, (rd_T42 y253 x5_1).f3, (rd_T42 y253 x5_1).f4, t254⟩ : S42)) (wrap64 ((wrap64 ((wrap64 ((wrap64 ((wrap64 ((wrap64 (x1_1 + 1)) + 1)) + 1)) + 1)) + 1)) + 1)) (wrap64 (x5_1 + 1)))) = some (r1, r2) := by first | (rw [hy253]; with_reducible exact H) | (have H2_ := (Option.bind_some _ _).symm.trans H; rw [hy253]; with_reducible exact H2_) | (have H2_ := (Option.bind_some _ _).symm.trans H; with_reducible exact H2_) | with_reducible exact H | (rw [hy253]; exact H) | exact H
     have Ny253 := Am hy253
     clear hy253
     replace H := Option.bind_eq_some_iff.mp H
     obtain ⟨t254, A120, H⟩ := H
     replace H : (laws_markAskS.l0 k1 (y253.set (x5_1 : Int).toNat (⟨(rd_T42 y253 x5_1).f0, (rd_T42 y253 x5_1).f1, (rd_T42 y253 x5_1).f2, (rd_T42 y253 x5_1).f3, (rd_T42 y253 x5_1).f4, t254⟩ : S42)) (wrap64 ((wrap64 ((wrap64 ((wrap64 ((wrap64 ((wrap64 (x1_1 + 1)) + 1)) + 1)) + 1)) + 1)) + 1)) (wrap64 (x5_1 + 1))) = some (r1, r2) := H
     have A12 := Am A120
     clear A120
     obtain ⟨y255, hy255⟩ : ∃ y_ : List (S42), y_ = (y253.set (x5_1 : Int).toNat (⟨(rd_T42 y253 x5_1).f0, (rd_T42 y253 x5_1).f1, (rd_T42 y253 x5_1).f2, (rd_T42 y253 x5_1).f3, (rd_T42 y253 x5_1).f4, t254⟩ : S42)) := ⟨_, rfl⟩
     replace H : (laws_markAskS.l0 k1 y255 (wrap64 ((wrap64 ((wrap64 ((wrap64 ((wrap64 ((wrap64 (x1_1 + 1)) + 1)) + 1)) + 1)) + 1)) + 1)) (wrap64 (x5_1 + 1))) = some (r1, r2) := by first | (rw [hy255]; with_reducible exact H) | (have H2_ := (Option.bind_some _ _).symm.trans H; rw [hy255]; with_reducible exact H2_) | (have H2_ := (Option.bind_some _ _).symm.trans H; with_reducible exact H2_) | with_reducible exact H | (rw [hy255]; exact H) | exact H
     have Ny255 := Am hy255
     clear hy255
     have H' := Am H
     clear H
     obtain ⟨Ao14, co14, eo14⟩ := Kd.R_slice HO_0.out
     subst eo14
     have p5 : 0 ≤ (x5_1 : Int) := of_decide_eq_true (by first | (with_reducible assumption) | assumption)
     have q5 : (x5_1 : Int) < ((x0_1.length : Int) : Int) := of_decide_eq_true (by first | (with_reducible assumption) | assumption)
     obtain ⟨go5, co5, eo5, gb5, gl5, cl5, HG5⟩ := Kd.R_form HO_0.out (by omega)
     (first | cases eo5 | (injection eo5 with ea_ en_ ec_; (first | subst ea_ | (injection ea_ with ea_; subst ea_)); subst ec_; clear en_))
     have GB5 := Am gb5
     have GG5 := Am HG5
     clear gb5 gl5 HG5
     have HMgo5 := Am (show (P0_ go5 ∨ w.heap.size ≤ go5) from (HO_0.out.1 _ rfl))
     obtain ⟨ce5, hcl5, hM5, hcc5, hfr5⟩ := Kd.R_elem HO_0.out z42 (x5_1 : Int) p5 q5
     obtain rfl := k42_openM hM5
     have hx5_0 : wr.cell? ⟨go5, (x5_1 : Int).toNat * 6, none⟩ = some (.int .i64 ((rd_T42 x0_1 x5_1).f0)) := hcc5 0 _ rfl
     have hx5_1 : wr.cell? ⟨go5, (x5_1 : Int).toNat * 6 + 1, none⟩ = some (.string ((rd_T42 x0_1 x5_1).f1)) := hcc5 1 _ rfl
     have hx5_2 : wr.cell? ⟨go5, (x5_1 : Int).toNat * 6 + 2, none⟩ = some (.string ((rd_T42 x0_1 x5_1).f2)) := hcc5 2 _ rfl
     have hx5_3 : wr.cell? ⟨go5, (x5_1 : Int).toNat * 6 + 3, none⟩ = some (.int .i64 ((rd_T42 x0_1 x5_1).f3)) := hcc5 3 _ rfl
     have hx5_4 : wr.cell? ⟨go5, (x5_1 : Int).toNat * 6 + 4, none⟩ = some (.int .i64 ((rd_T42 x0_1 x5_1).f4)) := hcc5 4 _ rfl
     have hx5_5 : wr.cell? ⟨go5, (x5_1 : Int).toNat * 6 + 5, none⟩ = some (.string ((rd_T42 x0_1 x5_1).f5)) := hcc5 5 _ rfl
     have hf5_0 : wr.frozen? ⟨go5, (x5_1 : Int).toNat * 6, none⟩ = false := hfr5 0
     have hf5_1 : wr.frozen? ⟨go5, (x5_1 : Int).toNat * 6 + 1, none⟩ = false := hfr5 1
     have hf5_2 : wr.frozen? ⟨go5, (x5_1 : Int).toNat * 6 + 2, none⟩ = false := hfr5 2
     have hf5_3 : wr.frozen? ⟨go5, (x5_1 : Int).toNat * 6 + 3, none⟩ = false := hfr5 3
     have hf5_4 : wr.frozen? ⟨go5, (x5_1 : Int).toNat * 6 + 4, none⟩ = false := hfr5 4
     have hf5_5 : wr.frozen? ⟨go5, (x5_1 : Int).toNat * 6 + 5, none⟩ = false := hfr5 5
     clear hcl5 hcc5 hfr5 hM5
     replace p5 := eq_true p5
     replace q5 := eq_true q5
     have HX15 := Am (show Kd.R k42 42 wr w0.heap.size (fun k_ => (P0_ k_ ∨ w.heap.size ≤ k_)) (.slice (some ⟨go5, 0, none⟩) x0_1.length co14) x0_1 from (by (with_reducible repeat (first | apply ra | apply rn | apply re)); exact HO_0.out))
     obtain ⟨ce15, hcl15, hM15, hcc15, hfr15⟩ := Kd.R_elem HX15.out z42 (x5_1 : Int) (of_decide_eq_true (by first | (with_reducible assumption) | assumption)) (by have h_ : (x5_1 : Int) < ((x0_1.length : Int) : Int) := of_decide_eq_true (by first | (with_reducible assumption) | assumption); first | exact h_ | (have e_ := (Kd.R_reads' HO_0.out).1; omega) | simpa using h_)
     obtain rfl := k42_openM hM15
     have HP15 := Kd.R_seg HX15.out (x5_1 : Int) (of_decide_eq_true (by first | (with_reducible assumption) | assumption)) (by have h_ : (x5_1 : Int) < ((x0_1.length : Int) : Int) := of_decide_eq_true (by first | (with_reducible assumption) | assumption); first | exact h_ | (have e_ := (Kd.R_reads' HO_0.out).1; omega) | simpa using h_) (seg := [.int .i64 x1_1]) (j := 0) hcl15 hcc15 (show 1 ≤ 6 from by decide) (x' := (⟨x1_1, (rd_T42 x0_1 x5_1).f1, (rd_T42 x0_1 x5_1).f2, (rd_T42 x0_1 x5_1).f3, (rd_T42 x0_1 x5_1).f4, (rd_T42 x0_1 x5_1).f5⟩ : S42)) (k42_mkM _ _ _ (⟨x1_1, (rd_T42 x0_1 x5_1).f1, (rd_T42 x0_1 x5_1).f2, (rd_T42 x0_1 x5_1).f3, (rd_T42 x0_1 x5_1).f4, (rd_T42 x0_1 x5_1).f5⟩ : S42) ) (fun _ hk => hk)
     have hx15_0 := hcc15 0 _ rfl
     (try simp only [show (k42).sz = 6 from rfl, Nat.mul_one, Nat.add_zero] at hx15_0)
     have hf15_0 := hfr15 0
     (try simp only [show (k42).sz = 6 from rfl, Nat.mul_one, Nat.add_zero] at hf15_0)
     clear hcl15 hcc15 hfr15 hM15
     go_wp2_with (first | ((with_reducible refine gate_store (t := 3) (p := 16) rfl ?_); refine store_event (t := 3) (p := 16) (v := ?vo_w16) (w1 := (wr.setCell ⟨go5, (x5_1 : Int).toNat * 6, none⟩ (.int .i64 x1_1))) ?hg ?ho ?hn ?hr ?_; (case ho => rfl); (case hg => rfl); (case hn => rfl); (case hr => first | (go_simp; done) | (go_simp; rfl)); intro w16 hw; have hg : wr.grownBy w16 (some go5) := (by rw [hw]; exact HP15.2); have hp_ : Kd.R k42 42 w16 w0.heap.size (fun k_ => (P0_ k_ ∨ w.heap.size ≤ k_)) (.slice (some ⟨go5, 0, none⟩) x0_1.length co14) y247 := (by rw [hw, Ny247.out]; exact HP15.1); clear HP15; replace HB := Am ((by rw [hw]; exact bs (HB.out) GB5.out : Below w0.heap.size w0 w16)); replace HK := Am (Kept.of_grown (S := (fun k_ => P0_ k_)) hg (by repeat (first | (with_reducible first | exact HK.out | apply Kept.alloc | apply Kept.drewN | apply Kept.drew) | exact HK.out)) (fun k_ e_ => (HO_0.out.1 k_ e_))); replace HO_0 := Am (hp_); clear hg hw hp_) | ((with_reducible refine gate_callee (f := 87) rfl ?_); refine goesL_ (some 22) rfl rfl Try.func87 (by kernel_rfl) rfl #[.int .i64 (wrap64 (x1_1 + 1))] rfl (by (try simp only [List.map_toArray, List.map_cons, List.map_nil]); first | done | rfl | (simp only [List.length_drop, List.length_take]; rfl)) ?_; (with_reducible refine (laws_markText.calls k1 (wrap64 (x1_1 + 1)) t248 _ A6.out).mono ?_); rintro e w17 ⟨rfl, hb⟩; refine ⟨_, rfl, ?_⟩; replace HO_0 := Am (rb (by (with_reducible repeat (first | apply ra | apply rn | apply re)); exact HO_0.out) hb); replace HK := Am (Kept.below (S := (fun k_ => P0_ k_)) (by repeat (first | (with_reducible first | exact HK.out | apply Kept.alloc | apply Kept.drewN | apply Kept.drew) | exact HK.out)) hb); replace HB := Am (bq (by repeat (first | (with_reducible first | exact HB.out | apply ba | apply bn | apply be) | exact HB.out)) hb); (try clear hb); have p7 : 0 ≤ (x5_1 : Int) := of_decide_eq_true (by first | (with_reducible assumption) | assumption); have q7 : (x5_1 : Int) < ((x0_1.length : Int) : Int) := of_decide_eq_true (by first | (with_reducible assumption) | assumption); obtain ⟨ce7, hcl7, hM7, hcc7, hfr7⟩ := Kd.R_elem HO_0.out z42 (x5_1 : Int) p7 q7; obtain rfl := k42_openM hM7; have hx7_0 : w17.cell? ⟨go5, (x5_1 : Int).toNat * 6, none⟩ = some (.int .i64 ((rd_T42 y247 x5_1).f0)) := hcc7 0 _ rfl; have hx7_1 : w17.cell? ⟨go5, (x5_1 : Int).toNat * 6 + 1, none⟩ = some (.string ((rd_T42 y247 x5_1).f1)) := hcc7 1 _ rfl; have hx7_2 : w17.cell? ⟨go5, (x5_1 : Int).toNat * 6 + 2, none⟩ = some (.string ((rd_T42 y247 x5_1).f2)) := hcc7 2 _ rfl; have hx7_3 : w17.cell? ⟨go5, (x5_1 : Int).toNat * 6 + 3, none⟩ = some (.int .i64 ((rd_T42 y247 x5_1).f3)) := hcc7 3 _ rfl; have hx7_4 : w17.cell? ⟨go5, (x5_1 : Int).toNat * 6 + 4, none⟩ = some (.int .i64 ((rd_T42 y247 x5_1).f4)) := hcc7 4 _ rfl; have hx7_5 : w17.cell? ⟨go5, (x5_1 : Int).toNat * 6 + 5, none⟩ = some (.string ((rd_T42 y247 x5_1).f5)) := hcc7 5 _ rfl; have hf7_0 : w17.frozen? ⟨go5, (x5_1 : Int).toNat * 6, none⟩ = false := hfr7 0; have hf7_1 : w17.frozen? ⟨go5, (x5_1 : Int).toNat * 6 + 1, none⟩ = false := hfr7 1; have hf7_2 : w17.frozen? ⟨go5, (x5_1 : Int).toNat * 6 + 2, none⟩ = false := hfr7 2; have hf7_3 : w17.frozen? ⟨go5, (x5_1 : Int).toNat * 6 + 3, none⟩ = false := hfr7 3; have hf7_4 : w17.frozen? ⟨go5, (x5_1 : Int).toNat * 6 + 4, none⟩ = false := hfr7 4; have hf7_5 : w17.frozen? ⟨go5, (x5_1 : Int).toNat * 6 + 5, none⟩ = false := hfr7 5; clear hcl7 hcc7 hfr7 hM7; replace p7 := eq_true p7; replace q7 := eq_true q7; have HX18 := Am (show Kd.R k42 42 w17 w0.heap.size (fun k_ => (P0_ k_ ∨ w.heap.size ≤ k_)) (.slice (some ⟨go5, 0, none⟩) x0_1.length co14) y247 from (by (with_reducible repeat (first | apply ra | apply rn | apply re)); exact HO_0.out)); obtain ⟨ce18, hcl18, hM18, hcc18, hfr18⟩ := Kd.R_elem HX18.out z42 (x5_1 : Int) (of_decide_eq_true (by first | (with_reducible assumption) | assumption)) (by have h_ : (x5_1 : Int) < ((x0_1.length : Int) : Int) := of_decide_eq_true (by first | (with_reducible assumption) | assumption); first | exact h_ | (have e_ := (Kd.R_reads' HO_0.out).1; omega) | simpa using h_); obtain rfl := k42_openM hM18; have HP18 := Kd.R_seg HX18.out (x5_1 : Int) (of_decide_eq_true (by first | (with_reducible assumption) | assumption)) (by have h_ : (x5_1 : Int) < ((x0_1.length : Int) : Int) := of_decide_eq_true (by first | (with_reducible assumption) | assumption); first | exact h_ | (have e_ := (Kd.R_reads' HO_0.out).1; omega) | simpa using h_) (seg := [.string t248]) (j := 1) hcl18 hcc18 (show 2 ≤ 6 from by decide) (x' := (⟨(rd_T42 y247 x5_1).f0, t248, (rd_T42 y247 x5_1).f2, (rd_T42 y247 x5_1).f3, (rd_T42 y247 x5_1).f4, (rd_T42 y247 x5_1).f5⟩ : S42)) (k42_mkM _ _ _ (⟨(rd_T42 y247 x5_1).f0, t248, (rd_T42 y247 x5_1).f2, (rd_T42 y247 x5_1).f3, (rd_T42 y247 x5_1).f4, (rd_T42 y247 x5_1).f5⟩ : S42) ) (fun _ hk => hk); have hx18_1 := hcc18 1 _ rfl; (try simp only [show (k42).sz = 6 from rfl, Nat.mul_one, Nat.add_zero] at hx18_1); have hf18_1 := hfr18 1; (try simp only [show (k42).sz = 6 from rfl, Nat.mul_one, Nat.add_zero] at hf18_1); clear hcl18 hcc18 hfr18 hM18) | ((with_reducible refine gate_store (t := 9) (p := 24) rfl ?_); refine store_event (t := 9) (p := 24) (v := ?vo_w19) (w1 := (w17.setCell ⟨go5, (x5_1 : Int).toNat * 6 + 1, none⟩ (.string t248))) ?hg ?ho ?hn ?hr ?_; (case ho => rfl); (case hg => rfl); (case hn => rfl); (case hr => first | (go_simp; done) | (go_simp; rfl)); intro w19 hw; have hg : w17.grownBy w19 (some go5) := (by rw [hw]; exact HP18.2); have hp_ : Kd.R k42 42 w19 w0.heap.size (fun k_ => (P0_ k_ ∨ w.heap.size ≤ k_)) (.slice (some ⟨go5, 0, none⟩) x0_1.length co14) y249 := (by rw [hw, Ny249.out]; exact HP18.1); clear HP18; replace HB := Am ((by rw [hw]; exact bs (HB.out) GB5.out : Below w0.heap.size w0 w19)); replace HK := Am (Kept.of_grown (S := (fun k_ => P0_ k_)) hg (by repeat (first | (with_reducible first | exact HK.out | apply Kept.alloc | apply Kept.drewN | apply Kept.drew) | exact HK.out)) (fun k_ e_ => (HO_0.out.1 k_ e_))); replace HO_0 := Am (hp_); clear hg hw hp_) | ((with_reducible refine gate_callee (f := 87) rfl ?_); refine goesL_ (some 30) rfl rfl Try.func87 (by kernel_rfl) rfl #[.int .i64 (wrap64 ((wrap64 (x1_1 + 1)) + 1))] rfl (by (try simp only [List.map_toArray, List.map_cons, List.map_nil]); first | done | rfl | (simp only [List.length_drop, List.length_take]; rfl)) ?_; (with_reducible refine (laws_markText.calls k1 (wrap64 ((wrap64 (x1_1 + 1)) + 1)) t250 _ A8.out).mono ?_); rintro e w20 ⟨rfl, hb⟩; refine ⟨_, rfl, ?_⟩; replace HO_0 := Am (rb (by (with_reducible repeat (first | apply ra | apply rn | apply re)); exact HO_0.out) hb); replace HK := Am (Kept.below (S := (fun k_ => P0_ k_)) (by repeat (first | (with_reducible first | exact HK.out | apply Kept.alloc | apply Kept.drewN | apply Kept.drew) | exact HK.out)) hb); replace HB := Am (bq (by repeat (first | (with_reducible first | exact HB.out | apply ba | apply bn | apply be) | exact HB.out)) hb); (try clear hb); have p9 : 0 ≤ (x5_1 : Int) := of_decide_eq_true (by first | (with_reducible assumption) | assumption); have q9 : (x5_1 : Int) < ((x0_1.length : Int) : Int) := of_decide_eq_true (by first | (with_reducible assumption) | assumption); obtain ⟨ce9, hcl9, hM9, hcc9, hfr9⟩ := Kd.R_elem HO_0.out z42 (x5_1 : Int) p9 q9; obtain rfl := k42_openM hM9; have hx9_0 : w20.cell? ⟨go5, (x5_1 : Int).toNat * 6, none⟩ = some (.int .i64 ((rd_T42 y249 x5_1).f0)) := hcc9 0 _ rfl; have hx9_1 : w20.cell? ⟨go5, (x5_1 : Int).toNat * 6 + 1, none⟩ = some (.string ((rd_T42 y249 x5_1).f1)) := hcc9 1 _ rfl; have hx9_2 : w20.cell? ⟨go5, (x5_1 : Int).toNat * 6 + 2, none⟩ = some (.string ((rd_T42 y249 x5_1).f2)) := hcc9 2 _ rfl; have hx9_3 : w20.cell? ⟨go5, (x5_1 : Int).toNat * 6 + 3, none⟩ = some (.int .i64 ((rd_T42 y249 x5_1).f3)) := hcc9 3 _ rfl; have hx9_4 : w20.cell? ⟨go5, (x5_1 : Int).toNat * 6 + 4, none⟩ = some (.int .i64 ((rd_T42 y249 x5_1).f4)) := hcc9 4 _ rfl; have hx9_5 : w20.cell? ⟨go5, (x5_1 : Int).toNat * 6 + 5, none⟩ = some (.string ((rd_T42 y249 x5_1).f5)) := hcc9 5 _ rfl; have hf9_0 : w20.frozen? ⟨go5, (x5_1 : Int).toNat * 6, none⟩ = false := hfr9 0; have hf9_1 : w20.frozen? ⟨go5, (x5_1 : Int).toNat * 6 + 1, none⟩ = false := hfr9 1; have hf9_2 : w20.frozen? ⟨go5, (x5_1 : Int).toNat * 6 + 2, none⟩ = false := hfr9 2; have hf9_3 : w20.frozen? ⟨go5, (x5_1 : Int).toNat * 6 + 3, none⟩ = false := hfr9 3; have hf9_4 : w20.frozen? ⟨go5, (x5_1 : Int).toNat * 6 + 4, none⟩ = false := hfr9 4; have hf9_5 : w20.frozen? ⟨go5, (x5_1 : Int).toNat * 6 + 5, none⟩ = false := hfr9 5; clear hcl9 hcc9 hfr9 hM9; replace p9 := eq_true p9; replace q9 := eq_true q9; have HX21 := Am (show Kd.R k42 42 w20 w0.heap.size (fun k_ => (P0_ k_ ∨ w.heap.size ≤ k_)) (.slice (some ⟨go5, 0, none⟩) x0_1.length co14) y249 from (by (with_reducible repeat (first | apply ra | apply rn | apply re)); exact HO_0.out)); obtain ⟨ce21, hcl21, hM21, hcc21, hfr21⟩ := Kd.R_elem HX21.out z42 (x5_1 : Int) (of_decide_eq_true (by first | (with_reducible assumption) | assumption)) (by have h_ : (x5_1 : Int) < ((x0_1.length : Int) : Int) := of_decide_eq_true (by first | (with_reducible assumption) | assumption); first | exact h_ | (have e_ := (Kd.R_reads' HO_0.out).1; omega) | simpa using h_); obtain rfl := k42_openM hM21; have HP21 := Kd.R_seg HX21.out (x5_1 : Int) (of_decide_eq_true (by first | (with_reducible assumption) | assumption)) (by have h_ : (x5_1 : Int) < ((x0_1.length : Int) : Int) := of_decide_eq_true (by first | (with_reducible assumption) | assumption); first | exact h_ | (have e_ := (Kd.R_reads' HO_0.out).1; omega) | simpa using h_) (seg := [.string t250]) (j := 2) hcl21 hcc21 (show 3 ≤ 6 from by decide) (x' := (⟨(rd_T42 y249 x5_1).f0, (rd_T42 y249 x5_1).f1, t250, (rd_T42 y249 x5_1).f3, (rd_T42 y249 x5_1).f4, (rd_T42 y249 x5_1).f5⟩ : S42)) (k42_mkM _ _ _ (⟨(rd_T42 y249 x5_1).f0, (rd_T42 y249 x5_1).f1, t250, (rd_T42 y249 x5_1).f3, (rd_T42 y249 x5_1).f4, (rd_T42 y249 x5_1).f5⟩ : S42) ) (fun _ hk => hk); have hx21_2 := hcc21 2 _ rfl; (try simp only [show (k42).sz = 6 from rfl, Nat.mul_one, Nat.add_zero] at hx21_2); have hf21_2 := hfr21 2; (try simp only [show (k42).sz = 6 from rfl, Nat.mul_one, Nat.add_zero] at hf21_2); clear hcl21 hcc21 hfr21 hM21) | ((with_reducible refine gate_store (t := 9) (p := 32) rfl ?_); refine store_event (t := 9) (p := 32) (v := ?vo_w22) (w1 := (w20.setCell ⟨go5, (x5_1 : Int).toNat * 6 + 2, none⟩ (.string t250))) ?hg ?ho ?hn ?hr ?_; (case ho => rfl); (case hg => rfl); (case hn => rfl); (case hr => first | (go_simp; done) | (go_simp; rfl)); intro w22 hw; have hg : w20.grownBy w22 (some go5) := (by rw [hw]; exact HP21.2); have hp_ : Kd.R k42 42 w22 w0.heap.size (fun k_ => (P0_ k_ ∨ w.heap.size ≤ k_)) (.slice (some ⟨go5, 0, none⟩) x0_1.length co14) y251 := (by rw [hw, Ny251.out]; exact HP21.1); clear HP21; replace HB := Am ((by rw [hw]; exact bs (HB.out) GB5.out : Below w0.heap.size w0 w22)); replace HK := Am (Kept.of_grown (S := (fun k_ => P0_ k_)) hg (by repeat (first | (with_reducible first | exact HK.out | apply Kept.alloc | apply Kept.drewN | apply Kept.drew) | exact HK.out)) (fun k_ e_ => (HO_0.out.1 k_ e_))); replace HO_0 := Am (hp_); clear hg hw hp_; have p10 : 0 ≤ (x5_1 : Int) := of_decide_eq_true (by first | (with_reducible assumption) | assumption); have q10 : (x5_1 : Int) < ((x0_1.length : Int) : Int) := of_decide_eq_true (by first | (with_reducible assumption) | assumption); obtain ⟨ce10, hcl10, hM10, hcc10, hfr10⟩ := Kd.R_elem HO_0.out z42 (x5_1 : Int) p10 q10; obtain rfl := k42_openM hM10; have hx10_0 : w22.cell? ⟨go5, (x5_1 : Int).toNat * 6, none⟩ = some (.int .i64 ((rd_T42 y251 x5_1).f0)) := hcc10 0 _ rfl; have hx10_1 : w22.cell? ⟨go5, (x5_1 : Int).toNat * 6 + 1, none⟩ = some (.string ((rd_T42 y251 x5_1).f1)) := hcc10 1 _ rfl; have hx10_2 : w22.cell? ⟨go5, (x5_1 : Int).toNat * 6 + 2, none⟩ = some (.string ((rd_T42 y251 x5_1).f2)) := hcc10 2 _ rfl; have hx10_3 : w22.cell? ⟨go5, (x5_1 : Int).toNat * 6 + 3, none⟩ = some (.int .i64 ((rd_T42 y251 x5_1).f3)) := hcc10 3 _ rfl; have hx10_4 : w22.cell? ⟨go5, (x5_1 : Int).toNat * 6 + 4, none⟩ = some (.int .i64 ((rd_T42 y251 x5_1).f4)) := hcc10 4 _ rfl; have hx10_5 : w22.cell? ⟨go5, (x5_1 : Int).toNat * 6 + 5, none⟩ = some (.string ((rd_T42 y251 x5_1).f5)) := hcc10 5 _ rfl; have hf10_0 : w22.frozen? ⟨go5, (x5_1 : Int).toNat * 6, none⟩ = false := hfr10 0; have hf10_1 : w22.frozen? ⟨go5, (x5_1 : Int).toNat * 6 + 1, none⟩ = false := hfr10 1; have hf10_2 : w22.frozen? ⟨go5, (x5_1 : Int).toNat * 6 + 2, none⟩ = false := hfr10 2; have hf10_3 : w22.frozen? ⟨go5, (x5_1 : Int).toNat * 6 + 3, none⟩ = false := hfr10 3; have hf10_4 : w22.frozen? ⟨go5, (x5_1 : Int).toNat * 6 + 4, none⟩ = false := hfr10 4; have hf10_5 : w22.frozen? ⟨go5, (x5_1 : Int).toNat * 6 + 5, none⟩ = false := hfr10 5; clear hcl10 hcc10 hfr10 hM10; replace p10 := eq_true p10; replace q10 := eq_true q10; have HX23 := Am (show Kd.R k42 42 w22 w0.heap.size (fun k_ => (P0_ k_ ∨ w.heap.size ≤ k_)) (.slice (some ⟨go5, 0, none⟩) x0_1.length co14) y251 from (by (with_reducible repeat (first | apply ra | apply rn | apply re)); exact HO_0.out)); obtain ⟨ce23, hcl23, hM23, hcc23, hfr23⟩ := Kd.R_elem HX23.out z42 (x5_1 : Int) (of_decide_eq_true (by first | (with_reducible assumption) | assumption)) (by have h_ : (x5_1 : Int) < ((x0_1.length : Int) : Int) := of_decide_eq_true (by first | (with_reducible assumption) | assumption); first | exact h_ | (have e_ := (Kd.R_reads' HO_0.out).1; omega) | simpa using h_); obtain rfl := k42_openM hM23; have HP23 := Kd.R_seg HX23.out (x5_1 : Int) (of_decide_eq_true (by first | (with_reducible assumption) | assumption)) (by have h_ : (x5_1 : Int) < ((x0_1.length : Int) : Int) := of_decide_eq_true (by first | (with_reducible assumption) | assumption); first | exact h_ | (have e_ := (Kd.R_reads' HO_0.out).1; omega) | simpa using h_) (seg := [.int .i64 (wrap64 ((wrap64 ((wrap64 (x1_1 + 1)) + 1)) + 1))]) (j := 3) hcl23 hcc23 (show 4 ≤ 6 from by decide) (x' := (⟨(rd_T42 y251 x5_1).f0, (rd_T42 y251 x5_1).f1, (rd_T42 y251 x5_1).f2, wrap64 ((wrap64 ((wrap64 (x1_1 + 1)) + 1)) + 1), (rd_T42 y251 x5_1).f4, (rd_T42 y251 x5_1).f5⟩ : S42)) (k42_mkM _ _ _ (⟨(rd_T42 y251 x5_1).f0, (rd_T42 y251 x5_1).f1, (rd_T42 y251 x5_1).f2, wrap64 ((wrap64 ((wrap64 (x1_1 + 1)) + 1)) + 1), (rd_T42 y251 x5_1).f4, (rd_T42 y251 x5_1).f5⟩ : S42) ) (fun _ hk => hk); have hx23_3 := hcc23 3 _ rfl; (try simp only [show (k42).sz = 6 from rfl, Nat.mul_one, Nat.add_zero] at hx23_3); have hf23_3 := hfr23 3; (try simp only [show (k42).sz = 6 from rfl, Nat.mul_one, Nat.add_zero] at hf23_3); clear hcl23 hcc23 hfr23 hM23) | ((with_reducible refine gate_store (t := 3) (p := 39) rfl ?_); refine store_event (t := 3) (p := 39) (v := ?vo_w24) (w1 := (w22.setCell ⟨go5, (x5_1 : Int).toNat * 6 + 3, none⟩ (.int .i64 (wrap64 ((wrap64 ((wrap64 (x1_1 + 1)) + 1)) + 1))))) ?hg ?ho ?hn ?hr ?_; (case ho => rfl); (case hg => rfl); (case hn => rfl); (case hr => first | (go_simp; done) | (go_simp; rfl)); intro w24 hw; have hg : w22.grownBy w24 (some go5) := (by rw [hw]; exact HP23.2); have hp_ : Kd.R k42 42 w24 w0.heap.size (fun k_ => (P0_ k_ ∨ w.heap.size ≤ k_)) (.slice (some ⟨go5, 0, none⟩) x0_1.length co14) y252 := (by rw [hw, Ny252.out]; exact HP23.1); clear HP23; replace HB := Am ((by rw [hw]; exact bs (HB.out) GB5.out : Below w0.heap.size w0 w24)); replace HK := Am (Kept.of_grown (S := (fun k_ => P0_ k_)) hg (by repeat (first | (with_reducible first | exact HK.out | apply Kept.alloc | apply Kept.drewN | apply Kept.drew) | exact HK.out)) (fun k_ e_ => (HO_0.out.1 k_ e_))); replace HO_0 := Am (hp_); clear hg hw hp_; have p11 : 0 ≤ (x5_1 : Int) := of_decide_eq_true (by first | (with_reducible assumption) | assumption); have q11 : (x5_1 : Int) < ((x0_1.length : Int) : Int) := of_decide_eq_true (by first | (with_reducible assumption) | assumption); obtain ⟨ce11, hcl11, hM11, hcc11, hfr11⟩ := Kd.R_elem HO_0.out z42 (x5_1 : Int) p11 q11; obtain rfl := k42_openM hM11; have hx11_0 : w24.cell? ⟨go5, (x5_1 : Int).toNat * 6, none⟩ = some (.int .i64 ((rd_T42 y252 x5_1).f0)) := hcc11 0 _ rfl; have hx11_1 : w24.cell? ⟨go5, (x5_1 : Int).toNat * 6 + 1, none⟩ = some (.string ((rd_T42 y252 x5_1).f1)) := hcc11 1 _ rfl; have hx11_2 : w24.cell? ⟨go5, (x5_1 : Int).toNat * 6 + 2, none⟩ = some (.string ((rd_T42 y252 x5_1).f2)) := hcc11 2 _ rfl; have hx11_3 : w24.cell? ⟨go5, (x5_1 : Int).toNat * 6 + 3, none⟩ = some (.int .i64 ((rd_T42 y252 x5_1).f3)) := hcc11 3 _ rfl; have hx11_4 : w24.cell? ⟨go5, (x5_1 : Int).toNat * 6 + 4, none⟩ = some (.int .i64 ((rd_T42 y252 x5_1).f4)) := hcc11 4 _ rfl; have hx11_5 : w24.cell? ⟨go5, (x5_1 : Int).toNat * 6 + 5, none⟩ = some (.string ((rd_T42 y252 x5_1).f5)) := hcc11 5 _ rfl; have hf11_0 : w24.frozen? ⟨go5, (x5_1 : Int).toNat * 6, none⟩ = false := hfr11 0; have hf11_1 : w24.frozen? ⟨go5, (x5_1 : Int).toNat * 6 + 1, none⟩ = false := hfr11 1; have hf11_2 : w24.frozen? ⟨go5, (x5_1 : Int).toNat * 6 + 2, none⟩ = false := hfr11 2; have hf11_3 : w24.frozen? ⟨go5, (x5_1 : Int).toNat * 6 + 3, none⟩ = false := hfr11 3; have hf11_4 : w24.frozen? ⟨go5, (x5_1 : Int).toNat * 6 + 4, none⟩ = false := hfr11 4; have hf11_5 : w24.frozen? ⟨go5, (x5_1 : Int).toNat * 6 + 5, none⟩ = false := hfr11 5; clear hcl11 hcc11 hfr11 hM11; replace p11 := eq_true p11; replace q11 := eq_true q11; have HX25 := Am (show Kd.R k42 42 w24 w0.heap.size (fun k_ => (P0_ k_ ∨ w.heap.size ≤ k_)) (.slice (some ⟨go5, 0, none⟩) x0_1.length co14) y252 from (by (with_reducible repeat (first | apply ra | apply rn | apply re)); exact HO_0.out)); obtain ⟨ce25, hcl25, hM25, hcc25, hfr25⟩ := Kd.R_elem HX25.out z42 (x5_1 : Int) (of_decide_eq_true (by first | (with_reducible assumption) | assumption)) (by have h_ : (x5_1 : Int) < ((x0_1.length : Int) : Int) := of_decide_eq_true (by first | (with_reducible assumption) | assumption); first | exact h_ | (have e_ := (Kd.R_reads' HO_0.out).1; omega) | simpa using h_); obtain rfl := k42_openM hM25; have HP25 := Kd.R_seg HX25.out (x5_1 : Int) (of_decide_eq_true (by first | (with_reducible assumption) | assumption)) (by have h_ : (x5_1 : Int) < ((x0_1.length : Int) : Int) := of_decide_eq_true (by first | (with_reducible assumption) | assumption); first | exact h_ | (have e_ := (Kd.R_reads' HO_0.out).1; omega) | simpa using h_) (seg := [.int .i64 (wrap64 ((wrap64 ((wrap64 ((wrap64 (x1_1 + 1)) + 1)) + 1)) + 1))]) (j := 4) hcl25 hcc25 (show 5 ≤ 6 from by decide) (x' := (⟨(rd_T42 y252 x5_1).f0, (rd_T42 y252 x5_1).f1, (rd_T42 y252 x5_1).f2, (rd_T42 y252 x5_1).f3, wrap64 ((wrap64 ((wrap64 ((wrap64 (x1_1 + 1)) + 1)) + 1)) + 1), (rd_T42 y252 x5_1).f5⟩ : S42)) (k42_mkM _ _ _ (⟨(rd_T42 y252 x5_1).f0, (rd_T42 y252 x5_1).f1, (rd_T42 y252 x5_1).f2, (rd_T42 y252 x5_1).f3, wrap64 ((wrap64 ((wrap64 ((wrap64 (x1_1 + 1)) + 1)) + 1)) + 1), (rd_T42 y252 x5_1).f5⟩ : S42) ) (fun _ hk => hk); have hx25_4 := hcc25 4 _ rfl; (try simp only [show (k42).sz = 6 from rfl, Nat.mul_one, Nat.add_zero] at hx25_4); have hf25_4 := hfr25 4; (try simp only [show (k42).sz = 6 from rfl, Nat.mul_one, Nat.add_zero] at hf25_4); clear hcl25 hcc25 hfr25 hM25) | ((with_reducible refine gate_store (t := 3) (p := 46) rfl ?_); refine store_event (t := 3) (p := 46) (v := ?vo_w26) (w1 := (w24.setCell ⟨go5, (x5_1 : Int).toNat * 6 + 4, none⟩ (.int .i64 (wrap64 ((wrap64 ((wrap64 ((wrap64 (x1_1 + 1)) + 1)) + 1)) + 1))))) ?hg ?ho ?hn ?hr ?_; (case ho => rfl); (case hg => rfl); (case hn => rfl); (case hr => first | (go_simp; done) | (go_simp; rfl)); intro w26 hw; have hg : w24.grownBy w26 (some go5) := (by rw [hw]; exact HP25.2); have hp_ : Kd.R k42 42 w26 w0.heap.size (fun k_ => (P0_ k_ ∨ w.heap.size ≤ k_)) (.slice (some ⟨go5, 0, none⟩) x0_1.length co14) y253 := (by rw [hw, Ny253.out]; exact HP25.1); clear HP25; replace HB := Am ((by rw [hw]; exact bs (HB.out) GB5.out : Below w0.heap.size w0 w26)); replace HK := Am (Kept.of_grown (S := (fun k_ => P0_ k_)) hg (by repeat (first | (with_reducible first | exact HK.out | apply Kept.alloc | apply Kept.drewN | apply Kept.drew) | exact HK.out)) (fun k_ e_ => (HO_0.out.1 k_ e_))); replace HO_0 := Am (hp_); clear hg hw hp_) | ((with_reducible refine gate_callee (f := 87) rfl ?_); refine goesL_ (some 52) rfl rfl Try.func87 (by kernel_rfl) rfl #[.int .i64 (wrap64 ((wrap64 ((wrap64 ((wrap64 ((wrap64 (x1_1 + 1)) + 1)) + 1)) + 1)) + 1))] rfl (by (try simp only [List.map_toArray, List.map_cons, List.map_nil]); first | done | rfl | (simp only [List.length_drop, List.length_take]; rfl)) ?_; (with_reducible refine (laws_markText.calls k1 (wrap64 ((wrap64 ((wrap64 ((wrap64 ((wrap64 (x1_1 + 1)) + 1)) + 1)) + 1)) + 1)) t254 _ A12.out).mono ?_); rintro e w27 ⟨rfl, hb⟩; refine ⟨_, rfl, ?_⟩; replace HO_0 := Am (rb (by (with_reducible repeat (first | apply ra | apply rn | apply re)); exact HO_0.out) hb); replace HK := Am (Kept.below (S := (fun k_ => P0_ k_)) (by repeat (first | (with_reducible first | exact HK.out | apply Kept.alloc | apply Kept.drewN | apply Kept.drew) | exact HK.out)) hb); replace HB := Am (bq (by repeat (first | (with_reducible first | exact HB.out | apply ba | apply bn | apply be) | exact HB.out)) hb); (try clear hb); have p13 : 0 ≤ (x5_1 : Int) := of_decide_eq_true (by first | (with_reducible assumption) | assumption); have q13 : (x5_1 : Int) < ((x0_1.length : Int) : Int) := of_decide_eq_true (by first | (with_reducible assumption) | assumption); obtain ⟨ce13, hcl13, hM13, hcc13, hfr13⟩ := Kd.R_elem HO_0.out z42 (x5_1 : Int) p13 q13; obtain rfl := k42_openM hM13; have hx13_0 : w27.cell? ⟨go5, (x5_1 : Int).toNat * 6, none⟩ = some (.int .i64 ((rd_T42 y253 x5_1).f0)) := hcc13 0 _ rfl; have hx13_1 : w27.cell? ⟨go5, (x5_1 : Int).toNat * 6 + 1, none⟩ = some (.string ((rd_T42 y253 x5_1).f1)) := hcc13 1 _ rfl; have hx13_2 : w27.cell? ⟨go5, (x5_1 : Int).toNat * 6 + 2, none⟩ = some (.string ((rd_T42 y253 x5_1).f2)) := hcc13 2 _ rfl; have hx13_3 : w27.cell? ⟨go5, (x5_1 : Int).toNat * 6 + 3, none⟩ = some (.int .i64 ((rd_T42 y253 x5_1).f3)) := hcc13 3 _ rfl; have hx13_4 : w27.cell? ⟨go5, (x5_1 : Int).toNat * 6 + 4, none⟩ = some (.int .i64 ((rd_T42 y253 x5_1).f4)) := hcc13 4 _ rfl; have hx13_5 : w27.cell? ⟨go5, (x5_1 : Int).toNat * 6 + 5, none⟩ = some (.string ((rd_T42 y253 x5_1).f5)) := hcc13 5 _ rfl; have hf13_0 : w27.frozen? ⟨go5, (x5_1 : Int).toNat * 6, none⟩ = false := hfr13 0; have hf13_1 : w27.frozen? ⟨go5, (x5_1 : Int).toNat * 6 + 1, none⟩ = false := hfr13 1; have hf13_2 : w27.frozen? ⟨go5, (x5_1 : Int).toNat * 6 + 2, none⟩ = false := hfr13 2; have hf13_3 : w27.frozen? ⟨go5, (x5_1 : Int).toNat * 6 + 3, none⟩ = false := hfr13 3; have hf13_4 : w27.frozen? ⟨go5, (x5_1 : Int).toNat * 6 + 4, none⟩ = false := hfr13 4; have hf13_5 : w27.frozen? ⟨go5, (x5_1 : Int).toNat * 6 + 5, none⟩ = false := hfr13 5; clear hcl13 hcc13 hfr13 hM13; replace p13 := eq_true p13; replace q13 := eq_true q13; have HX28 := Am (show Kd.R k42 42 w27 w0.heap.size (fun k_ => (P0_ k_ ∨ w.heap.size ≤ k_)) (.slice (some ⟨go5, 0, none⟩) x0_1.length co14) y253 from (by (with_reducible repeat (first | apply ra | apply rn | apply re)); exact HO_0.out)); obtain ⟨ce28, hcl28, hM28, hcc28, hfr28⟩ := Kd.R_elem HX28.out z42 (x5_1 : Int) (of_decide_eq_true (by first | (with_reducible assumption) | assumption)) (by have h_ : (x5_1 : Int) < ((x0_1.length : Int) : Int) := of_decide_eq_true (by first | (with_reducible assumption) | assumption); first | exact h_ | (have e_ := (Kd.R_reads' HO_0.out).1; omega) | simpa using h_); obtain rfl := k42_openM hM28; have HP28 := Kd.R_seg HX28.out (x5_1 : Int) (of_decide_eq_true (by first | (with_reducible assumption) | assumption)) (by have h_ : (x5_1 : Int) < ((x0_1.length : Int) : Int) := of_decide_eq_true (by first | (with_reducible assumption) | assumption); first | exact h_ | (have e_ := (Kd.R_reads' HO_0.out).1; omega) | simpa using h_) (seg := [.string t254]) (j := 5) hcl28 hcc28 (show 6 ≤ 6 from by decide) (x' := (⟨(rd_T42 y253 x5_1).f0, (rd_T42 y253 x5_1).f1, (rd_T42 y253 x5_1).f2, (rd_T42 y253 x5_1).f3, (rd_T42 y253 x5_1).f4, t254⟩ : S42)) (k42_mkM _ _ _ (⟨(rd_T42 y253 x5_1).f0, (rd_T42 y253 x5_1).f1, (rd_T42 y253 x5_1).f2, (rd_T42 y253 x5_1).f3, (rd_T42 y253 x5_1).f4, t254⟩ : S42) ) (fun _ hk => hk); have hx28_5 := hcc28 5 _ rfl; (try simp only [show (k42).sz = 6 from rfl, Nat.mul_one, Nat.add_zero] at hx28_5); have hf28_5 := hfr28 5; (try simp only [show (k42).sz = 6 from rfl, Nat.mul_one, Nat.add_zero] at hf28_5); clear hcl28 hcc28 hfr28 hM28) | ((with_reducible refine gate_store (t := 9) (p := 54) rfl ?_); refine store_event (t := 9) (p := 54) (v := ?vo_w29) (w1 := (w27.setCell ⟨go5, (x5_1 : Int).toNat * 6 + 5, none⟩ (.string t254))) ?hg ?ho ?hn ?hr ?_; (case ho => rfl); (case hg => rfl); (case hn => rfl); (case hr => first | (go_simp; done) | (go_simp; rfl)); intro w29 hw; have hg : w27.grownBy w29 (some go5) := (by rw [hw]; exact HP28.2); have hp_ : Kd.R k42 42 w29 w0.heap.size (fun k_ => (P0_ k_ ∨ w.heap.size ≤ k_)) (.slice (some ⟨go5, 0, none⟩) x0_1.length co14) y255 := (by rw [hw, Ny255.out]; exact HP28.1); clear HP28; replace HB := Am ((by rw [hw]; exact bs (HB.out) GB5.out : Below w0.heap.size w0 w29)); replace HK := Am (Kept.of_grown (S := (fun k_ => P0_ k_)) hg (by repeat (first | (with_reducible first | exact HK.out | apply Kept.alloc | apply Kept.drewN | apply Kept.drew) | exact HK.out)) (fun k_ e_ => (HO_0.out.1 k_ e_))); replace HO_0 := Am (hp_); clear hg hw hp_))
     go_roundg k1
     case measure => have := HK1.out; omega
     case rel => exact ⟨(y255), (wrap64 ((wrap64 ((wrap64 ((wrap64 ((wrap64 ((wrap64 (x1_1 + 1)) + 1)) + 1)) + 1)) + 1)) + 1)), (wrap64 (x5_1 + 1)), (by first | rfl | (simp; done) | (simp [*]; done)), (by first | rfl | (simp; done) | (simp [*]; done)), H', ⟨by have := HK1.out; omega⟩, ⟨by (with_reducible repeat (first | apply ra | apply rn | apply re)); exact HO_0.out⟩, ⟨by repeat (first | (with_reducible first | exact HK.out | apply Kept.alloc | apply Kept.drewN | apply Kept.drew) | exact HK.out)⟩, ⟨by repeat (first | (with_reducible first | exact HB.out | apply ba | apply bn | apply be) | exact HB.out)⟩⟩
    ·rw [if_neg c4] at H
     exact absurd H (by simp)
   ·rw [if_neg c3] at H
    have c3b0 : decide (x5_1 < (x0_1.length : Int)) = false := decide_eq_false c3
    clear c3
    simp only [Option.some.injEq, Prod.mk.injEq] at H
    obtain ⟨rfl, rfl⟩ := H
    obtain ⟨Ao30, co30, eo30⟩ := Kd.R_slice HO_0.out
    subst eo30
    go_wp2
    go_ret
    exact ⟨by first | rfl | (simp [errW_none, errW_some] <;> rfl) | (simp [*, errW_none, errW_some] <;> rfl), by (with_reducible repeat (first | apply ra | apply rn | apply re)); exact HO_0.out, by repeat (first | (with_reducible first | exact HB.out | apply ba | apply bn | apply be) | exact HB.out), by repeat (first | (with_reducible first | exact HK.out | apply Kept.alloc | apply Kept.drewN | apply Kept.drew) | exact HK.out)⟩

end Go.Proofs.Ytlpghmopabihoaa.QFnExactAsksOf
