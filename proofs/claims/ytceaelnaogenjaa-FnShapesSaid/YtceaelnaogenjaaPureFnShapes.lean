/-
  FnShapes: the pure part: what the law computes is true, whatever the input.
-/
import Derived.Test.YtceaelnaogenjaaOpenFnShapes
import Derived.Test.YtceaelnaogenjaaVKit
import Derived.Test.YtceaelnaogenjaaVKit2
namespace Go.Proofs.Ytceaelnaogenjaa.Pure
open Go.RowKit Go.Proofs.YtceaelnaogenjaaW.PrintWords Go.Proofs.YtceaelnaogenjaaW.PrintLast Go.Proofs.YtceaelnaogenjaaW.PrintMore Go.Proofs.Ytceaelnaogenjaa.QFnShapes Go.Proofs.Ytceaelnaogenjaa.Kit
set_option linter.unusedVariables false
set_option linter.unusedSimpArgs false

theorem long_ev (n : Nat) (x : Int) (hn : n ≤ 1048576) : Ev (fun k => spec_l01Long.f k (n : Int) x) (strOfNums (List.replicate n x)) := by
  unfold spec_l01Long.f
  refine ev_pos (by omega) (ev_pos (by simp; omega) ?_)
  have hz : (List.replicate n x).length = n := by simp
  have key := fill_ev' (z := List.replicate n x) strOfNums (List.replicate n (0 : Int)) (by simp) (fun k y i => spec_l01Long.l0 k (n : Int) x y i) ?_ ?_
  · simpa using key
  · intro k y hy
    rw [hz]
    simp only [spec_l01Long.l0, if_neg (Int.lt_irrefl _)]
  · intro y i a hget hlt hy r ih
    rw [hz] at hlt hy
    have ha : a = x := by
      have := List.mem_of_getElem? hget
      exact List.eq_of_mem_replicate this
    subst ha
    have e : wrap64 ((i : Int) + 1) = (i : Int) + 1 := w64 (by omega) (by omega)
    refine ev_succ ?_
    simp only [spec_l01Long.l0, if_pos (show (i : Int) < (n : Int) by omega), if_pos (show (0 : Int) ≤ (i : Int) by omega), if_pos (show (i : Int) < (y.length : Int) by omega), Int.toNat_natCast, e]
    exact ih

def allz (a : ByteArray) (x : Int) : Bool := a.data.toList.all fun b => decide ((b.toNat : Int) = x)
theorem all_ok (a : ByteArray) (x : Int) (h : a.size ≤ 1048576) : Ev (fun k => spec_l26All.f k a x) (allz a x) := by
  unfold spec_l26All.f
  refine all_ev (xs := a.data.toList) (fun b => decide ((b.toNat : Int) = x)) (fun k i => spec_l26All.l0 k a x i) ?_ ?_
  · intro k
    rw [ba_size]
    simp only [spec_l26All.l0, if_neg (Int.lt_irrefl _)]
  · intro i b hget hlt
    rw [ba_size] at hlt
    have e : wrap64 ((i : Int) + 1) = (i : Int) + 1 := w64 (by omega) (by omega)
    have hb := bt_get hget
    refine ⟨fun hp r ih => ev_succ ?_, fun hp => ev_succ ?_⟩
    · simp only [decide_eq_true_eq] at hp
      simp only [spec_l26All.l0, if_pos (show (i : Int) < (a.size : Int) by omega), if_pos (show (0 : Int) ≤ (i : Int) by omega), hb, if_pos hp, e]
      exact ih
    · simp only [decide_eq_false_iff_not] at hp
      simp only [spec_l26All.l0, if_pos (show (i : Int) < (a.size : Int) by omega), if_pos (show (0 : Int) ≤ (i : Int) by omega), hb, if_neg hp]
      exact Ev.now _

def zw : ByteArray := (⟨#[]⟩ : ByteArray) ++ zeros 8
theorem zeroWord_ok : impl_zeroWord.f = some zw := by
  unfold impl_zeroWord.f impl_padded.f
  rw [if_pos ⟨by decide, by decide, by decide⟩]
  rfl
theorem zw_data : zw.data.toList = List.replicate 8 0 := by
  unfold zw zeros
  rw [ba_append]
  simp
theorem allz_zw (a : ByteArray) (h : a.size = 8) : (allz a 0 = true) ↔ a.toList = zw.toList := by
  rw [tl, tl, zw_data, List.eq_replicate_iff]
  unfold allz
  simp only [List.all_eq_true, decide_eq_true_eq]
  constructor
  · intro h1
    refine ⟨by rw [ba_size]; exact h, fun b hb => ?_⟩
    have := h1 b hb
    have h2 : b.toNat = 0 := by omega
    exact UInt8.toNat_inj.1 (by simpa using h2)
  · rintro ⟨-, h1⟩ b hb
    rw [h1 b hb]; rfl
theorem rec_core (a : ByteArray) (h : a.size ≤ 1048576) : ∃ r, Ev (fun k => spec_MaskRec.f k a) r ∧ impl_MaskRec.f a = some r := by
  unfold spec_MaskRec.f impl_MaskRec.f
  by_cases h8 : (a.size : Int) = 8
  · simp only [if_pos h8, zeroWord_ok, Option.bind_some]
    have h8' : a.size = 8 := by omega
    have he : (a.extract 0 4).size = 4 := by simp [h8']
    by_cases hz : allz a 0 = true
    · refine ⟨a, Ev.bind (all_ok a 0 h) (ev_pos hz (Ev.now _)), ?_⟩
      rw [if_pos ((allz_zw a h8').1 hz)]
    · refine ⟨a.extract 0 4 ++ strOfNums (List.replicate 4 255), Ev.bind (all_ok a 0 h) (ev_neg hz ?_), ?_⟩
      · refine ev_pos (by omega) (ev_pos (by omega) (Ev.bind (long_ev 4 255 (by omega)) (ev_pos ?_ (Ev.now _))))
        rw [he, nums_size]; simp
      · rw [if_neg (fun e => hz ((allz_zw a h8').2 e)), if_pos (by omega), if_pos (by omega), if_pos (by rw [he]; omega)]
        rfl
  · simp only [if_neg h8]
    exact ⟨a, Ev.now _, rfl⟩

theorem son_size (y : List Int) : (strOfNums y).size = y.length := nums_size y
theorem ex_bind {α β : Type} {f : Nat → Option α} {v : α} {g : Nat → α → Option β} {P : β → Prop} (h : Ev f v) (h2 : ∃ r, Ev (fun k => g k v) r ∧ P r) : ∃ r, Ev (fun k => (f k).bind (g k)) r ∧ P r := by
  obtain ⟨r, a, b⟩ := h2
  exact ⟨r, Ev.bind h a, b⟩
def Sm (l : List S65) : Prop := ∀ z ∈ l, z.f2.f5.size ≤ 1048576
theorem sm_add {l : List S65} {z : S65} (h : Sm l) (hz : z.f2.f5.size ≤ 1048576) : Sm (l ++ [z]) := fun x hx => by
  rcases List.mem_append.1 hx with hx | hx
  · exact h x hx
  · rw [List.mem_singleton] at hx; subst hx; exact hz
theorem and_byte (x : Int) : 0 ≤ Go.bits .and .i64 x 255 ∧ Go.bits .and .i64 x 255 ≤ 255 := by
  simp only [Go.bits]
  have h : (BitVec.ofInt 64 x &&& BitVec.ofInt 64 255).toNat ≤ 255 := by
    rw [BitVec.toNat_and]; exact Nat.le_trans Nat.and_le_right (by decide)
  have e : IntKind.i64.bits = 64 := rfl
  rw [e, IntKind.wrap_i64]
  omega
theorem byte_ex (bs : List Int) (hn : bs.length ≤ 1048576) (p s : Int) (h0 : 0 ≤ p) (h1 : p ≤ bs.length) : ∃ v p' s', spec_l01Byte.f bs p s = some (v, p', s') ∧ 0 ≤ v ∧ v ≤ 255 ∧ 0 ≤ p' ∧ p' ≤ bs.length := by
  unfold spec_l01Byte.f
  by_cases h : p < bs.length
  · rw [if_pos h, if_pos h0]
    have e : wrap64 (p + 1) = p + 1 := w64 (by omega) (by omega)
    exact ⟨_, _, _, rfl, (and_byte _).1, (and_byte _).2, by rw [e]; omega, by rw [e]; omega⟩
  · rw [if_neg h]
    exact ⟨_, _, _, rfl, (and_byte _).1, (and_byte _).2, h0, h1⟩
theorem below_ex (bs : List Int) (hn : bs.length ≤ 1048576) (p s a : Int) (h0 : 0 ≤ p) (h1 : p ≤ bs.length) : ∃ v p' s', spec_l01Below.f bs p s a = some (v, p', s') ∧ 0 ≤ v ∧ (0 < a → v < a) ∧ (a ≤ 0 → v = 0) ∧ 0 ≤ p' ∧ p' ≤ bs.length := by
  unfold spec_l01Below.f
  by_cases ha : a ≤ 0
  · rw [if_pos ha]; exact ⟨_, _, _, rfl, by omega, by omega, fun _ => rfl, h0, h1⟩
  · rw [if_neg ha]
    obtain ⟨v1, p1, s1, e1, b1, c1, d1, f1⟩ := byte_ex bs hn p s h0 h1
    obtain ⟨v2, p2, s2, e2, b2, c2, d2, f2⟩ := byte_ex bs hn p1 s1 d1 f1
    obtain ⟨v3, p3, s3, e3, b3, c3, d3, f3⟩ := byte_ex bs hn p2 s2 d2 f2
    obtain ⟨v4, p4, s4, e4, b4, c4, d4, f4⟩ := byte_ex bs hn p3 s3 d3 f3
    have hz : ¬ a = 0 := by omega
    by_cases hb : a ≤ 256
    · simp only [if_pos hb, e1, Option.bind_some, if_neg hz]
      exact ⟨_, _, _, rfl, Int.tmod_nonneg _ b1, fun h => Int.tmod_lt_of_pos _ h, fun h => absurd h ha, d1, f1⟩
    · simp only [if_neg hb, e1, e2, e3, e4, Option.bind_some, if_neg hz]
      refine ⟨_, _, _, rfl, Int.tmod_nonneg _ ?_, fun h => Int.tmod_lt_of_pos _ h, fun h => absurd h ha, d4, f4⟩
      rw [w64 (x := v1 * 16777216) (by omega) (by omega), w64 (x := v2 * 65536) (by omega) (by omega), w64 (x := v3 * 256) (by omega) (by omega), w64 (x := v1 * 16777216 + v2 * 65536) (by omega) (by omega), w64 (x := v1 * 16777216 + v2 * 65536 + v3 * 256) (by omega) (by omega), w64 (by omega) (by omega)]
      omega
theorem rd_mem {l : List Int} {v : Int} (h0 : 0 ≤ v) (h1 : v < l.length) : rd l v ∈ l := by
  have hlt : v.toNat < l.length := by omega
  unfold rd
  rw [List.getD_eq_getElem?_getD, List.getElem?_eq_getElem hlt]
  exact List.getElem_mem hlt
theorem pickint_ex (bs : List Int) (hn : bs.length ≤ 1048576) (p s : Int) (l : List Int) (hl : 0 < l.length) (h0 : 0 ≤ p) (h1 : p ≤ bs.length) : ∃ v p' s', spec_l01PickInt.f bs p s l = some (v, p', s') ∧ v ∈ l ∧ 0 ≤ p' ∧ p' ≤ bs.length := by
  obtain ⟨v, p', s', e, b, c, _, d, f⟩ := below_ex bs hn p s (l.length : Int) h0 h1
  have c' := c (by omega)
  unfold spec_l01PickInt.f
  rw [e]
  simp only [Option.bind_some, if_pos b, if_pos c']
  exact ⟨_, _, _, rfl, rd_mem b c', d, f⟩
theorem once_ex (bs : List Int) (hn : bs.length ≤ 1048576) (p s a : Int) (h0 : 0 ≤ p) (h1 : p ≤ bs.length) : ∃ v p' s', spec_l01Once.f bs p s a = some (v, p', s') ∧ 0 ≤ p' ∧ p' ≤ bs.length := by
  obtain ⟨v, p', s', e, b, c, _, d, f⟩ := below_ex bs hn p s a h0 h1
  unfold spec_l01Once.f
  rw [e]
  exact ⟨_, _, _, rfl, d, f⟩
theorem rdOf_mem {α : Type} {x : α} {l : List α} {v : Int} (h0 : 0 ≤ v) (h1 : v < l.length) : rdOf x l v ∈ l := by
  have hlt : v.toNat < l.length := by omega
  unfold rdOf
  rw [List.getD_eq_getElem?_getD, List.getElem?_eq_getElem hlt]
  exact List.getElem_mem hlt
theorem pick_ex (bs : List Int) (hn : bs.length ≤ 1048576) (p s : Int) (l : List ByteArray) (hl : 0 < l.length) (h0 : 0 ≤ p) (h1 : p ≤ bs.length) : ∃ v p' s', spec_l01Pick.f bs p s l = some (v, p', s') ∧ v ∈ l ∧ 0 ≤ p' ∧ p' ≤ bs.length := by
  obtain ⟨v, p', s', e, b, c, _, d, f⟩ := below_ex bs hn p s (l.length : Int) h0 h1
  have c' := c (by omega)
  unfold spec_l01Pick.f
  rw [e]
  simp only [Option.bind_some, if_pos b, if_pos c']
  exact ⟨_, _, _, rfl, rdOf_mem b c', d, f⟩
theorem pick1_ex (bs : List Int) (hn : bs.length ≤ 1048576) (p s : Int) (l : List ByteArray) (hl : 0 < l.length) (h0 : 0 ≤ p) (h1 : p ≤ bs.length) : ∃ v p' s', ((spec_l01Pick.f bs p s l).bind fun b => (some (b.1, b.2.1, b.2.2))) = some (v, p', s') ∧ 0 ≤ p' ∧ p' ≤ bs.length := by
  obtain ⟨v, p', s', e, _, d, f⟩ := pick_ex bs hn p s l hl h0 h1
  rw [e]
  exact ⟨_, _, _, rfl, d, f⟩
theorem path_ex (bs : List Int) (hn : bs.length ≤ 1048576) (p s : Int) (h0 : 0 ≤ p) (h1 : p ≤ bs.length) : ∃ v p' s', spec_l15Path.f bs p s = some (v, p', s') ∧ 0 ≤ p' ∧ p' ≤ bs.length := by
  unfold spec_l15Path.f
  exact pick1_ex bs hn p s _ (by decide) h0 h1
theorem any_ex (bs : List Int) (hn : bs.length ≤ 1048576) (p s : Int) (h0 : 0 ≤ p) (h1 : p ≤ bs.length) : ∃ v p' s', spec_l15Any.f bs p s = some (v, p', s') ∧ 0 ≤ p' ∧ p' ≤ bs.length := by
  unfold spec_l15Any.f
  obtain ⟨v, p', s', e, d, f⟩ := once_ex bs hn p s 5 h0 h1
  rw [e]
  simp only [Option.bind_some]
  split
  · exact pick1_ex bs hn p' s' _ (by decide) d f
  · obtain ⟨v, p', s', e, d, f⟩ := path_ex bs hn p' s' d f
    rw [e]
    exact ⟨_, _, _, rfl, d, f⟩
theorem newl_ex (l0 : List Int) : ∀ (m : Nat) (h i : Int), (4000 - i).toNat ≤ m → 0 ≤ i → ∃ s, Ev (fun k => spec_l01New.l0 k l0 h i) (l0, 0, s) := by
  intro m
  induction m with
  | zero =>
    intro h i hm hi
    refine ⟨h, ev_succ ?_⟩
    simp only [spec_l01New.l0, if_neg (show ¬ i < 4000 by omega), ite_self]
    exact Ev.now _
  | succ m ih =>
    intro h i hm hi
    by_cases h1 : i < (l0.length : Int)
    · by_cases h2 : i < 4000
      · have g2 : wrap64 (i + 1) = i + 1 := w64 (by omega) (by omega)
        obtain ⟨s, hs⟩ := ih (Go.bits .and .i64 (wrap64 ((wrap64 ((wrap64 (h * 131)) + (wrap64 (rd l0 i)))) + 7)) 1073741823) (i + 1) (by omega) (by omega)
        refine ⟨s, ev_succ ?_⟩
        simp only [spec_l01New.l0, if_pos h1, if_pos h2, if_pos hi, g2]
        exact hs
      · refine ⟨h, ev_succ ?_⟩
        simp only [spec_l01New.l0, if_neg h2, ite_self]
        exact Ev.now _
    · refine ⟨h, ev_succ ?_⟩
      simp only [spec_l01New.l0, if_neg h1]
      exact Ev.now _
theorem new_ex (l0 : List Int) : ∃ s, Ev (fun k => spec_l01New.f k l0) (l0, 0, s) := newl_ex l0 4000 _ 0 (by omega) (by omega)
theorem now_of {α : Type} {g : Option α} {r : α} (h : g = some r) : Ev (fun _ => g) r := ⟨0, fun _ _ => h⟩
theorem textl_ex (bs : List Int) (hn : bs.length ≤ 1048576) (a : Int) (ha : a ≤ 5000) : ∀ (m : Nat) (y : List Int) (i p s : Int), (a - i).toNat ≤ m → 0 ≤ i → i ≤ 5000 → y.length + m ≤ 20000 → 0 ≤ p → p ≤ bs.length → ∃ v p' s', Ev (fun k => spec_l01Text.l0 k a y i bs p s) (v, p', s') ∧ 0 ≤ p' ∧ p' ≤ bs.length ∧ v.size ≤ 20000 := by
  intro m
  induction m with
  | zero =>
    intro y i p s hm hi hi2 hy h0 h1
    refine ⟨strOfNums y, p, s, ev_succ ?_, h0, h1, by rw [son_size]; omega⟩
    simp only [spec_l01Text.l0, if_neg (show ¬ i < a by omega)]
    exact Ev.now _
  | succ m ih =>
    intro y i p s hm hi hi2 hy h0 h1
    by_cases hc : i < a
    · obtain ⟨v1, p1, s1, e1, b1, c1, d1, f1⟩ := byte_ex bs hn p s h0 h1
      have g1 : y.length < 140737488355328 := by omega
      have g2 : wrap64 (i + 1) = i + 1 := w64 (by omega) (by omega)
      obtain ⟨v2, p2, s2, e2, d2, f2, z2⟩ := ih (y ++ [v1 % 256]) (i + 1) p1 s1 (by omega) (by omega) (by omega) (by rw [List.length_append]; simp only [List.length_cons, List.length_nil]; omega) d1 f1
      refine ⟨v2, p2, s2, ev_succ ?_, d2, f2, z2⟩
      simp only [spec_l01Text.l0, if_pos hc, e1, Option.bind_some, if_pos g1, g2]
      exact e2
    · refine ⟨strOfNums y, p, s, ev_succ ?_, h0, h1, by rw [son_size]; omega⟩
      simp only [spec_l01Text.l0, if_neg hc]
      exact Ev.now _
theorem text_ex (bs : List Int) (hn : bs.length ≤ 1048576) (p s a : Int) (h0 : 0 ≤ p) (h1 : p ≤ bs.length) : ∃ v p' s', Ev (fun k => spec_l01Text.f k bs p s a) (v, p', s') ∧ 0 ≤ p' ∧ p' ≤ bs.length ∧ v.size ≤ 20000 := by
  unfold spec_l01Text.f
  by_cases ha : a > 5000
  · obtain ⟨v, p', s', e, d, f, z⟩ := textl_ex bs hn 5000 (by omega) 5000 [] 0 p s (by omega) (by omega) (by omega) (by simp) h0 h1
    exact ⟨v, p', s', ev_pos ha (ev_succ (by simpa only [spec_l01Text.j0] using e)), d, f, z⟩
  · obtain ⟨v, p', s', e, d, f, z⟩ := textl_ex bs hn a (by omega) 5000 [] 0 p s (by omega) (by omega) (by omega) (by simp) h0 h1
    exact ⟨v, p', s', ev_neg ha (ev_succ (by simpa only [spec_l01Text.j0] using e)), d, f, z⟩
theorem askj_ex (bs : List Int) (hn : bs.length ≤ 1048576) (p s q0 : Int) (q1 q2 : ByteArray) (q3 q4 : Int) (q5 : ByteArray) (h0 : 0 ≤ p) (h1 : p ≤ bs.length) (hq : q5.size ≤ 1048576) : ∃ a0 a1 a2 a3 a4 a5 p' s', Ev (fun k => spec_l17Ask.j0 k bs p s q0 q1 q2 q3 q4 q5) (a0, a1, a2, a3, a4, a5, p', s') ∧ 0 ≤ p' ∧ p' ≤ bs.length ∧ a5.size ≤ 1048576 := by
  by_cases k5 : q0 = 5
  · obtain ⟨v, p', s', e, d, f⟩ := path_ex bs hn p s h0 h1
    refine ⟨q0, q1, v, q3, q4, q5, p', s', ev_succ ?_, d, f, hq⟩
    simp only [spec_l17Ask.j0, if_pos k5, e, Option.bind_some]
    exact Ev.now _
  · by_cases k6 : q0 = 6
    · obtain ⟨v, p', s', e, _, d, f⟩ := pickint_ex bs hn p s [0, 1, 5, 32, 100, 200] (by decide) h0 h1
      obtain ⟨v2, p2, s2, e2, _, d2, f2⟩ := pickint_ex bs hn p' s' [0, 1, 10, 40, 128, 1000] (by decide) d f
      refine ⟨q0, q1, q2, v, v2, q5, p2, s2, ev_succ ?_, d2, f2, hq⟩
      simp only [spec_l17Ask.j0, if_neg k5, if_pos k6, e, e2, Option.bind_some]
      exact Ev.now _
    · by_cases k7 : q0 = 7
      · obtain ⟨v, p', s', e, _, d, f⟩ := pickint_ex bs hn p s [0, 0, 0, 1, 5, 30, 32, 33, 64, 100] (by decide) h0 h1
        obtain ⟨v2, p2, s2, e2, _, d2, f2⟩ := pickint_ex bs hn p' s' [0, 1, 2, 5, 20, 32, 40] (by decide) d f
        obtain ⟨v3, p3, s3, e3, d3, f3, z3⟩ := text_ex bs hn p2 s2 v2 d2 f2
        refine ⟨q0, q1, q2, v, q4, v3, p3, s3, ev_succ ?_, d3, f3, by omega⟩
        simp only [spec_l17Ask.j0, if_neg k5, if_neg k6, if_pos k7, e, e2, Option.bind_some]
        exact Ev.bind e3 (Ev.now _)
      · by_cases k8 : q0 = 8
        · obtain ⟨v, p', s', e, _, d, f⟩ := pickint_ex bs hn p s [0, 1, 5, 31, 32, 33, 64, 70, 128, 129] (by decide) h0 h1
          refine ⟨q0, q1, q2, q3, v, q5, p', s', ev_succ ?_, d, f, hq⟩
          simp only [spec_l17Ask.j0, if_neg k5, if_neg k6, if_neg k7, if_pos k8, e, Option.bind_some]
          exact Ev.now _
        · refine ⟨q0, q1, q2, q3, q4, q5, p, s, ev_succ ?_, h0, h1, hq⟩
          simp only [spec_l17Ask.j0, if_neg k5, if_neg k6, if_neg k7, if_neg k8]
          exact Ev.now _
theorem ask_ex (bs : List Int) (hn : bs.length ≤ 1048576) (p s : Int) (h0 : 0 ≤ p) (h1 : p ≤ bs.length) : ∃ a0 a1 a2 a3 a4 a5 p' s', Ev (fun k => spec_l17Ask.f k bs p s) (a0, a1, a2, a3, a4, a5, p', s') ∧ 0 ≤ p' ∧ p' ≤ bs.length ∧ a5.size ≤ 1048576 := by
  obtain ⟨v, p1, s1, e1, _, d1, f1⟩ := pickint_ex bs hn p s [1, 1, 1, 2, 2, 3, 4, 5, 5, 6, 7, 7, 7, 7, 7, 8, 8, 9, 10, 11] (by decide) h0 h1
  obtain ⟨v2, p2, s2, e2, d2, f2⟩ := path_ex bs hn p1 s1 d1 f1
  obtain ⟨v3, p3, s3, e3, d3, f3⟩ := once_ex bs hn p2 s2 12 d2 f2
  unfold spec_l17Ask.f
  simp only [e1, e2, e3, Option.bind_some]
  by_cases h : v3 = true
  · obtain ⟨v4, p4, s4, e4, d4, f4⟩ := any_ex bs hn p3 s3 d3 f3
    simp only [if_pos h, e4, Option.bind_some]
    exact askj_ex bs hn _ _ _ _ _ _ _ _ d4 f4 (Nat.zero_le _)
  · simp only [if_neg h]
    exact askj_ex bs hn _ _ _ _ _ _ _ _ d3 f3 (Nat.zero_le _)
theorem act_ex (bs : List Int) (hn : bs.length ≤ 1048576) (p s : Int) (h0 : 0 ≤ p) (h1 : p ≤ bs.length) : ∃ r p' s', Ev (fun k => spec_l24Act.f k bs p s) r ∧ r.2.2.2.2.2.2.2.2.2.1 = p' ∧ r.2.2.2.2.2.2.2.2.2.2 = s' ∧ 0 ≤ p' ∧ p' ≤ bs.length ∧ r.2.2.2.2.2.2.2.1.size ≤ 1048576 := by
  obtain ⟨v, p1, s1, e1, _, d1, f1⟩ := pickint_ex bs hn p s [1, 1, 2, 2, 2, 2, 2, 2, 2, 2] (by decide) h0 h1
  obtain ⟨v2, p2, s2, e2, _, _, _, d2, f2⟩ := below_ex bs hn p1 s1 2 d1 f1
  obtain ⟨v3, p3, s3, e3, d3, f3⟩ := once_ex bs hn p2 s2 30 d2 f2
  unfold spec_l24Act.f
  simp only [e1, e2, e3, Option.bind_some]
  by_cases h : v3 = true
  · obtain ⟨v4, p4, s4, e4, _, d4, f4⟩ := pickint_ex bs hn p3 s3 [0, 1, 2, 5, 255, 1023] (by decide) d3 f3
    simp only [if_pos h, e4, Option.bind_some, if_neg (show ¬ (3 : Int) = 1 by decide)]
    exact ⟨_, _, _, Ev.now _, rfl, rfl, d4, f4, Nat.zero_le _⟩
  · simp only [if_neg h]
    by_cases h2 : v = 1
    · simp only [if_pos h2]
      obtain ⟨a0, a1, a2, a3, a4, a5, p4, s4, e4, d4, f4, z4⟩ := ask_ex bs hn p3 s3 d3 f3
      exact ⟨_, _, _, Ev.bind e4 (Ev.now _), rfl, rfl, d4, f4, z4⟩
    · simp only [if_neg h2]
      exact ⟨_, _, _, Ev.now _, rfl, rfl, d3, f3, Nat.zero_le _⟩
theorem acts1_ex (bs : List Int) (hn : bs.length ≤ 1048576) (a i : Int) (M : Nat) (N : Int) (c0 c1 c2 : Int) (c3 c4 : ByteArray) (c5 c6 : Int) (c7 : ByteArray) (c8 : Int) (hN : N ≤ 100)
    (out : ∀ (y : List S65) (p s : Int), (y.length ≤ M ∧ Sm y) → 0 ≤ p → p ≤ bs.length → ∃ r : List S65 × Int × Int, Ev (fun k => spec_l24Acts.l0 k y a (wrap64 (i + 1)) bs p s) r ∧ (r.1.length ≤ 1048576 ∧ Sm r.1) ∧ 0 ≤ r.2.1 ∧ r.2.1 ≤ bs.length) :
    ∀ (m : Nat) (y : List S65) (j p s : Int), (N - j).toNat ≤ m → 0 ≤ j → (y.length + m ≤ M ∧ Sm y) → M ≤ 100000 → 0 ≤ p → p ≤ bs.length → ∃ r : List S65 × Int × Int, Ev (fun k => spec_l24Acts.l1 k y a i N j bs p s c0 c1 c2 c3 c4 c5 c6 c7 c8) r ∧ (r.1.length ≤ 1048576 ∧ Sm r.1) ∧ 0 ≤ r.2.1 ∧ r.2.1 ≤ bs.length := by
  intro m
  induction m with
  | zero =>
    intro y j p s hm hj hy hM h0 h1
    obtain ⟨r, hr, hr2⟩ := out y p s ⟨by omega, hy.2⟩ h0 h1
    refine ⟨r, ev_succ ?_, hr2⟩
    simp only [spec_l24Acts.l1, if_neg (show ¬ j < N by omega)]
    exact hr
  | succ m ih =>
    intro y j p s hm hj hy hM h0 h1
    by_cases hc : j < N
    · obtain ⟨v3, p3, s3, e3, d3, f3⟩ := once_ex bs hn p s 6 h0 h1
      have g1 : y.length < 1466015503701 := by omega
      have g2 : wrap64 (j + 1) = j + 1 := w64 (by omega) (by omega)
      by_cases h : v3 = true
      · obtain ⟨r, hr, hr2⟩ := ih (y ++ [(⟨2, wrap64 (1 - c1), (⟨0, (⟨#[]⟩ : ByteArray), (⟨#[]⟩ : ByteArray), 0, 0, (⟨#[]⟩ : ByteArray)⟩ : S32), 0⟩ : S65)]) (j + 1) p3 s3 (by omega) (by omega) ⟨by rw [List.length_append]; simp only [List.length_cons, List.length_nil]; omega, sm_add hy.2 (Nat.zero_le _)⟩ hM d3 f3
        refine ⟨r, ev_succ ?_, hr2⟩
        simp only [spec_l24Acts.l1, if_pos hc, e3, Option.bind_some, if_pos h, if_pos g1, g2]
        exact hr
      · obtain ⟨r, hr, hr2⟩ := ih (y ++ [(⟨2, c1, (⟨0, (⟨#[]⟩ : ByteArray), (⟨#[]⟩ : ByteArray), 0, 0, (⟨#[]⟩ : ByteArray)⟩ : S32), 0⟩ : S65)]) (j + 1) p3 s3 (by omega) (by omega) ⟨by rw [List.length_append]; simp only [List.length_cons, List.length_nil]; omega, sm_add hy.2 (Nat.zero_le _)⟩ hM d3 f3
        refine ⟨r, ev_succ ?_, hr2⟩
        simp only [spec_l24Acts.l1, if_pos hc, e3, Option.bind_some, if_neg h, if_pos g1, g2]
        exact hr
    · obtain ⟨r, hr, hr2⟩ := out y p s ⟨by omega, hy.2⟩ h0 h1
      refine ⟨r, ev_succ ?_, hr2⟩
      simp only [spec_l24Acts.l1, if_neg hc]
      exact hr
theorem acts0_end (bs : List Int) (a i p s : Int) (y : List S65) (hy : y.length ≤ 100000 ∧ Sm y) (hc : ¬ i < a) (h0 : 0 ≤ p) (h1 : p ≤ bs.length) : ∃ r : List S65 × Int × Int, Ev (fun k => spec_l24Acts.l0 k y a i bs p s) r ∧ (r.1.length ≤ 1048576 ∧ Sm r.1) ∧ 0 ≤ r.2.1 ∧ r.2.1 ≤ bs.length := by
  by_cases h : (y.length : Int) > 200
  · refine ⟨(y.take 200, p, s), ev_succ ?_, ⟨by show (y.take 200).length ≤ _; rw [List.length_take]; omega, fun z hz => hy.2 z (List.mem_of_mem_take hz)⟩, h0, h1⟩
    simp only [spec_l24Acts.l0, if_neg hc, if_pos h, if_pos (show 200 ≤ (y.length : Int) by omega)]
    exact Ev.now _
  · refine ⟨(y, p, s), ev_succ ?_, ⟨by show y.length ≤ _; omega, hy.2⟩, h0, h1⟩
    simp only [spec_l24Acts.l0, if_neg hc, if_neg h]
    exact Ev.now _
theorem acts0_ex (bs : List Int) (hn : bs.length ≤ 1048576) (a : Int) (ha : a ≤ 100) : ∀ (m : Nat) (y : List S65) (i p s : Int), (a - i).toNat ≤ m → 0 ≤ i → i ≤ 100 → (y.length + 101 * m ≤ 20000 ∧ Sm y) → 0 ≤ p → p ≤ bs.length → ∃ r : List S65 × Int × Int, Ev (fun k => spec_l24Acts.l0 k y a i bs p s) r ∧ (r.1.length ≤ 1048576 ∧ Sm r.1) ∧ 0 ≤ r.2.1 ∧ r.2.1 ≤ bs.length := by
  intro m
  induction m with
  | zero =>
    intro y i p s hm hi hi2 hy h0 h1
    exact acts0_end bs a i p s y ⟨by omega, hy.2⟩ (by omega) h0 h1
  | succ m ih =>
    intro y i p s hm hi hi2 hy h0 h1
    by_cases hc : i < a
    · obtain ⟨b, p1, s1, e1, q1, q2, d1, f1, z1⟩ := act_ex bs hn p s h0 h1
      have g1 : y.length < 1466015503701 := by omega
      have g2 : wrap64 (i + 1) = i + 1 := w64 (by omega) (by omega)
      have hlen : ∀ z : S65, (y ++ [z]).length = y.length + 1 := fun z => by rw [List.length_append]; rfl
      by_cases hk : b.1 = 1
      · obtain ⟨v, p2, s2, e2, hv, d2, f2⟩ := pickint_ex bs hn p1 s1 [0, 3, 10, 25, 60, 60, 60] (by decide) d1 f1
        have hv2 : v ≤ 100 := by
          simp only [List.mem_cons, List.not_mem_nil, or_false] at hv
          omega
        obtain ⟨r, hr, hr2⟩ := acts1_ex bs hn a i (y.length + 1 + 100) v b.1 b.2.1 b.2.2.1 b.2.2.2.1 b.2.2.2.2.1 b.2.2.2.2.2.1 b.2.2.2.2.2.2.1 b.2.2.2.2.2.2.2.1 b.2.2.2.2.2.2.2.2.1 hv2 (fun y' p' s' hy' q0 q1 => by
          rw [g2]
          exact ih y' (i + 1) p' s' (by omega) (by omega) (by omega) ⟨by omega, hy'.2⟩ q0 q1) 100 (y ++ [(⟨b.1, b.2.1, (⟨b.2.2.1, b.2.2.2.1, b.2.2.2.2.1, b.2.2.2.2.2.1, b.2.2.2.2.2.2.1, b.2.2.2.2.2.2.2.1⟩ : S32), b.2.2.2.2.2.2.2.2.1⟩ : S65)]) 0 p2 s2 (by omega) (by omega) ⟨by rw [hlen]; omega, sm_add hy.2 z1⟩ (by omega) d2 f2
        refine ⟨r, ev_succ ?_, hr2⟩
        simp only [spec_l24Acts.l0, if_pos hc]
        refine Ev.bind e1 ?_
        simp only [if_pos g1, Option.bind_some, if_pos hk, q1, q2, e2]
        exact hr
      · obtain ⟨r, hr, hr2⟩ := ih (y ++ [(⟨b.1, b.2.1, (⟨b.2.2.1, b.2.2.2.1, b.2.2.2.2.1, b.2.2.2.2.2.1, b.2.2.2.2.2.2.1, b.2.2.2.2.2.2.2.1⟩ : S32), b.2.2.2.2.2.2.2.2.1⟩ : S65)]) (i + 1) p1 s1 (by omega) (by omega) (by omega) ⟨by rw [hlen]; omega, sm_add hy.2 z1⟩ d1 f1
        refine ⟨r, ev_succ ?_, hr2⟩
        simp only [spec_l24Acts.l0, if_pos hc]
        refine Ev.bind e1 ?_
        simp only [if_pos g1, Option.bind_some, if_neg hk, q1, q2, g2]
        exact hr
    · exact acts0_end bs a i p s y ⟨by omega, hy.2⟩ hc h0 h1
theorem acts_ex (bs : List Int) (hn : bs.length ≤ 1048576) (p s a : Int) (ha0 : 0 < a) (ha : a ≤ 100) (h0 : 0 ≤ p) (h1 : p ≤ bs.length) : ∃ r : List S65 × Int × Int, Ev (fun k => spec_l24Acts.f k bs p s a) r ∧ (r.1.length ≤ 1048576 ∧ Sm r.1) ∧ 0 ≤ r.2.1 ∧ r.2.1 ≤ bs.length := by
  obtain ⟨v, p', s', e, b, c, _, d, f⟩ := below_ex bs hn p s a h0 h1
  have c' := c ha0
  unfold spec_l24Acts.f
  simp only [e, Option.bind_some]
  exact acts0_ex bs hn v (by omega) 100 [] 0 p' s' (by omega) (by omega) (by omega) ⟨by simp, fun z hz => absurd hz (by simp)⟩ d f

theorem any17_ex (bs : List Int) (hn : bs.length ≤ 1048576) (p s : Int) (h0 : 0 ≤ p) (h1 : p ≤ bs.length) : ∃ r, Ev (fun k => spec_l17Any.f k bs p s) r ∧ 0 ≤ r.2.2.2.2.2.2.1 ∧ r.2.2.2.2.2.2.1 ≤ bs.length ∧ r.2.2.2.2.2.1.size ≤ 1048576 := by
  obtain ⟨a0, a1, a2, a3, a4, a5, p1, s1, e1, d1, f1, z1⟩ := ask_ex bs hn p s h0 h1
  obtain ⟨v, p2, s2, e2, _, _, _, d2, f2⟩ := below_ex bs hn p1 s1 12 d1 f1
  unfold spec_l17Any.f
  by_cases c0 : v = 0
  · obtain ⟨u, p3, s3, e3, _, d3, f3⟩ := pickint_ex bs hn p2 s2 [0, 12, (-1)] (by decide) d2 f2
    refine ex_bind e1 ?_
    simp only [e2, e3, Option.bind_some, if_pos c0]
    exact ⟨_, Ev.now _, d3, f3, z1⟩
  · by_cases c1 : v = 1
    · obtain ⟨u, p3, s3, e3, d3, f3⟩ := any_ex bs hn p2 s2 d2 f2
      refine ex_bind e1 ?_
      simp only [e2, e3, Option.bind_some, if_neg c0, if_pos c1]
      exact ⟨_, Ev.now _, d3, f3, z1⟩
    · by_cases c2 : v = 2
      · obtain ⟨u, p3, s3, e3, d3, f3⟩ := any_ex bs hn p2 s2 d2 f2
        refine ex_bind e1 ?_
        simp only [e2, e3, Option.bind_some, if_neg c0, if_neg c1, if_pos c2]
        exact ⟨_, Ev.now _, d3, f3, z1⟩
      · by_cases c3 : v = 3
        · obtain ⟨u, p3, s3, e3, _, d3, f3⟩ := pickint_ex bs hn p2 s2 [(-1), 9223372036854775807, 127, 128, 129] (by decide) d2 f2
          refine ex_bind e1 ?_
          simp only [e2, e3, Option.bind_some, if_neg c0, if_neg c1, if_neg c2, if_pos c3]
          exact ⟨_, Ev.now _, d3, f3, z1⟩
        · by_cases c4 : v = 4
          · obtain ⟨u, p3, s3, e3, _, d3, f3⟩ := pickint_ex bs hn p2 s2 [(-1), 9223372036854775807] (by decide) d2 f2
            refine ex_bind e1 ?_
            simp only [e2, e3, Option.bind_some, if_neg c0, if_neg c1, if_neg c2, if_neg c3, if_pos c4]
            exact ⟨_, Ev.now _, d3, f3, z1⟩
          · by_cases c5 : v = 5
            · obtain ⟨u, p3, s3, e3, hu, d3, f3⟩ := pickint_ex bs hn p2 s2 [128, 129, 200, 201] (by decide) d2 f2
              have hu2 : 0 ≤ u ∧ u ≤ 201 := by
                simp only [List.mem_cons, List.not_mem_nil, or_false] at hu
                omega
              obtain ⟨n, rfl⟩ : ∃ n : Nat, u = (n : Int) := ⟨u.toNat, by omega⟩
              refine ex_bind e1 ?_
              simp only [e2, e3, Option.bind_some, if_neg c0, if_neg c1, if_neg c2, if_neg c3, if_neg c4, if_pos c5]
              exact ⟨_, Ev.bind (long_ev n 97 (by omega)) (Ev.now _), d3, f3, by show (strOfNums (List.replicate n 97)).size ≤ _; rw [son_size, List.length_replicate]; omega⟩
            · refine ⟨?w, Ev.bind e1 ?_, ?_⟩
              rotate_left
              · simp only [e2, Option.bind_some, if_neg c0, if_neg c1, if_neg c2, if_neg c3, if_neg c4, if_neg c5]
                exact Ev.now _
              · exact ⟨d2, f2, z1⟩
theorem shape_draw (bs : List Int) (hn : bs.length ≤ 1048576) : ∃ r, Ev (fun k => spec_DrawSameShape.f k bs) r ∧ r.2.2.2.2.2.1.size ≤ 1048576 := by
  obtain ⟨s, hs⟩ := new_ex bs
  obtain ⟨r, e1, d1, f1, z1⟩ := any17_ex bs hn 0 s (by omega) (by omega)
  obtain ⟨v, p2, s2, e2, _, _, _, d2, f2⟩ := below_ex bs hn r.2.2.2.2.2.2.1 r.2.2.2.2.2.2.2 4 d1 f1
  unfold spec_DrawSameShape.f
  refine ex_bind hs (ex_bind e1 ?_)
  simp only [e2, Option.bind_some]
  by_cases c0 : v = 0
  · obtain ⟨q, e3, _⟩ := any17_ex bs hn p2 s2 d2 f2
    simp only [if_pos c0]
    exact ⟨_, Ev.bind e3 (Ev.now _), z1⟩
  · by_cases c1 : v = 1
    · obtain ⟨t, p3, s3, e3, _⟩ := text_ex bs hn p2 s2 (r.2.2.2.2.2.1.size : Int) d2 f2
      simp only [if_neg c0, if_pos c1]
      exact ⟨_, Ev.bind e3 (Ev.now _), z1⟩
    · by_cases c2 : v = 2
      · simp only [if_neg c0, if_neg c1, if_pos c2]
        exact ⟨_, Ev.now _, z1⟩
      · simp only [if_neg c0, if_neg c1, if_neg c2]
        exact ⟨_, Ev.now _, z1⟩
theorem rd65_mem {xs : List S65} {i : Nat} (h : i < xs.length) : rd_T65 xs (i : Int) ∈ xs := by
  unfold rd_T65
  rw [Int.toNat_natCast, List.getD_eq_getElem?_getD, List.getElem?_eq_getElem h]
  exact List.getElem_mem h
theorem other_ev (xs : List S65) (t : Int) (hl : xs.length ≤ 1048576) (hs : Sm xs) : ∀ d i : Nat, i + d = xs.length → ∀ y : List S65, y.length ≤ i → ∃ r, Ev (fun k => spec_l26Other.l0 k xs t y (i : Int)) r ∧ r.length ≤ 1048576
  | 0, i, h, y, hy => ⟨y, ev_succ (ev_some fun k => by rw [spec_l26Other.l0, if_neg (by omega)]), by omega⟩
  | d + 1, i, h, y, hy => by
    have e1 : wrap64 ((i : Int) + 1) = ((i + 1 : Nat) : Int) := by rw [w64 (by omega) (by omega)]; omega
    have ih := fun z : S65 => other_ev xs t hl hs d (i + 1) (by omega) (y ++ [z]) (by rw [List.length_append]; simp only [List.length_cons, List.length_nil]; omega)
    have hz := hs _ (rd65_mem (show i < xs.length by omega))
    have hq : l26T.f (i : Int) (rd_T65 xs (i : Int)).f2.f5 = some (othN (addF (i : Int)) (rd_T65 xs (i : Int)).f2.f5 (rd_T65 xs (i : Int)).f2.f5.size) := by
      unfold l26T.f; rw [if_pos (by omega)]
    by_cases c1 : (rd_T65 xs (i : Int)).f0 = 1
    · by_cases c2 : (rd_T65 xs (i : Int)).f1 = t
      · obtain ⟨r, hr, hr2⟩ := ih _
        refine ⟨r, ev_succ ?_, hr2⟩
        simp only [spec_l26Other.l0, if_pos (show (i : Int) < (xs.length : Int) by omega), if_pos (show (0 : Int) ≤ (i : Int) by omega), if_pos c1, if_pos c2, hq, Option.bind_some, if_pos (show y.length < 1466015503701 by omega), e1]
        exact hr
      · obtain ⟨r, hr, hr2⟩ := ih _
        refine ⟨r, ev_succ ?_, hr2⟩
        simp only [spec_l26Other.l0, if_pos (show (i : Int) < (xs.length : Int) by omega), if_pos (show (0 : Int) ≤ (i : Int) by omega), if_pos c1, if_neg c2, if_pos (show y.length < 1466015503701 by omega), e1]
        exact hr
    · obtain ⟨r, hr, hr2⟩ := ih _
      refine ⟨r, ev_succ ?_, hr2⟩
      simp only [spec_l26Other.l0, if_pos (show (i : Int) < (xs.length : Int) by omega), if_pos (show (0 : Int) ≤ (i : Int) by omega), if_neg c1, if_pos (show y.length < 1466015503701 by omega), e1]
      exact hr
theorem other_ex (xs : List S65) (t : Int) (hl : xs.length ≤ 1048576) (hs : Sm xs) : ∃ r, Ev (fun k => spec_l26Other.f k xs t) r ∧ r.length ≤ 1048576 := by
  unfold spec_l26Other.f
  exact other_ev xs t hl hs xs.length 0 (by omega) [] (by simp)
theorem acts_draw (bs : List Int) (hn : bs.length ≤ 1048576) : ∃ r, Ev (fun k => spec_DrawSameActs.f k bs) r ∧ r.1.length ≤ 1048576 := by
  obtain ⟨s, hs⟩ := new_ex bs
  obtain ⟨r, e1, ⟨z1, z2⟩, d1, f1⟩ := acts_ex bs hn 0 s 4 (by omega) (by omega) (by omega) (by omega)
  obtain ⟨v, p2, s2, e2, _, _, _, d2, f2⟩ := below_ex bs hn r.2.1 r.2.2 2 d1 f1
  obtain ⟨o, e3, z3⟩ := other_ex r.1 v z1 z2
  obtain ⟨u, p4, s4, e4, _, _, _, d4, f4⟩ := below_ex bs hn p2 s2 5 d2 f2
  unfold spec_DrawSameActs.f
  refine ex_bind hs (ex_bind e1 ?_)
  simp only [e2, Option.bind_some]
  refine ex_bind e3 ?_
  simp only [e4, Option.bind_some]
  by_cases c0 : u = 0
  · obtain ⟨o2, e5, z5⟩ := other_ex r.1 (wrap64 (1 - v)) z1 z2
    simp only [if_pos c0]
    exact ⟨_, Ev.bind e5 (Ev.now _), z1⟩
  · by_cases c1 : u = 1
    · simp only [if_neg c0, if_pos c1, if_pos (show o.length < 1466015503701 by omega)]
      exact ⟨_, Ev.now _, z1⟩
    · simp only [if_neg c0, if_neg c1]
      exact ⟨_, Ev.now _, z1⟩
theorem rec_draw (bs : List Int) (hn : bs.length ≤ 1048576) : ∃ r, Ev (fun k => spec_DrawMaskRec.f k bs) r ∧ r.size ≤ 1048576 := by
  obtain ⟨s, hs⟩ := new_ex bs
  obtain ⟨t1, p1, s1, e1, d1, f1, z1⟩ := text_ex bs hn 0 s 8 (by omega) (by omega)
  obtain ⟨t2, p2, s2, e2, d2, f2, z2⟩ := text_ex bs hn p1 s1 7 d1 f1
  obtain ⟨t3, p3, s3, e3, d3, f3, z3⟩ := text_ex bs hn p2 s2 8 d2 f2
  obtain ⟨v, p4, s4, e4, hv, _⟩ := pick_ex bs hn p3 s3 [t1, t2, strOfNums (List.replicate 8 0), t3] (by simp) d3 f3
  unfold spec_DrawMaskRec.f
  refine ⟨v, Ev.bind hs (Ev.bind e1 (Ev.bind e2 (Ev.bind (long_ev 8 0 (by omega)) (Ev.bind e3 ?_)))), ?_⟩
  · simp only [e4, Option.bind_some]
    exact Ev.now _
  · simp only [List.mem_cons, List.not_mem_nil, or_false] at hv
    have hz : (strOfNums (List.replicate 8 0)).size = 8 := by rw [son_size, List.length_replicate]
    rcases hv with rfl | rfl | rfl | rfl <;> omega
def eqs (a b : ByteArray) : Bool := decide (a.toList = b.toList)
theorem eqs_if {γ : Type} (a b : ByteArray) (x y : γ) : (if a.toList = b.toList then x else y) = if eqs a b = true then x else y := by
  unfold eqs
  simp only [decide_eq_true_eq]
theorem all2_len {α : Type} (e : α → α → Bool) : ∀ xs ys : List α, xs.length ≠ ys.length → all2 e xs ys = false
  | [], [], h => absurd rfl h
  | [], _ :: _, _ => rfl
  | _ :: _, [], _ => rfl
  | a :: x, b :: y, h => by
    simp only [all2, all2_len e x y (fun e => h (by simp [e])), Bool.and_false]
def shape (a b : S65) : Bool := decide ((a.f2.f5.size : Int) = (b.f2.f5.size : Int)) && ((a.f2.f0 == b.f2.f0) && ((a.f2.f1.toList == b.f2.f1.toList) && ((a.f2.f2.toList == b.f2.f2.toList) && ((a.f2.f3 == b.f2.f3) && (a.f2.f4 == b.f2.f4)))))
def short (a b : S65) : Bool := ((a.f0 == b.f0) && ((a.f1 == b.f1) && (a.f3 == b.f3)))
def long (a b : S65) : Bool := ((a.f0 == b.f0) && ((a.f1 == b.f1) && (((a.f2.f0 == b.f2.f0) && ((a.f2.f1.toList == b.f2.f1.toList) && ((a.f2.f2.toList == b.f2.f2.toList) && ((a.f2.f3 == b.f2.f3) && ((a.f2.f4 == b.f2.f4) && (a.f2.f5.toList == b.f2.f5.toList)))))) && (a.f3 == b.f3))))
theorem nshort (a b : S65) : (!(a.f0 == b.f0) || (!(a.f1 == b.f1) || !(a.f3 == b.f3))) = !short a b := by
  unfold short
  simp only [Bool.not_and]
theorem nlong (a b : S65) : (!(a.f0 == b.f0) || (!(a.f1 == b.f1) || ((!(a.f2.f0 == b.f2.f0) || (!(a.f2.f1.toList == b.f2.f1.toList) || (!(a.f2.f2.toList == b.f2.f2.toList) || (!(a.f2.f3 == b.f2.f3) || (!(a.f2.f4 == b.f2.f4) || !(a.f2.f5.toList == b.f2.f5.toList)))))) || !(a.f3 == b.f3)))) = !long a b := by
  unfold long
  simp only [Bool.not_and]
def actE (t : Int) (a b : S65) : Bool := if a.f0 = 1 then if a.f1 = t then if shape a b = true then short a b else long a b else long a b else long a b
theorem spec_shape (a b : S65) : spec_SameShape.f a.f2.f0 a.f2.f1 a.f2.f2 a.f2.f3 a.f2.f4 a.f2.f5 b.f2.f0 b.f2.f1 b.f2.f2 b.f2.f3 b.f2.f4 b.f2.f5 = some (shape a b) := by
  unfold spec_SameShape.f shape
  by_cases c : (a.f2.f5.size : Int) = (b.f2.f5.size : Int)
  · simp only [if_pos c, decide_eq_true c, Bool.true_and]
  · simp only [if_neg c, decide_eq_false c, Bool.false_and]
theorem impl_shape (a b : S65) : impl_SameShape.f a.f2.f0 a.f2.f1 a.f2.f2 a.f2.f3 a.f2.f4 a.f2.f5 b.f2.f0 b.f2.f1 b.f2.f2 b.f2.f3 b.f2.f4 b.f2.f5 = some (shape a b) := by
  unfold impl_SameShape.f shape
  by_cases c : (a.f2.f5.size : Int) = (b.f2.f5.size : Int)
  · simp only [if_pos c, decide_eq_true c, Bool.true_and]
  · simp only [if_neg c, decide_eq_false c, Bool.false_and]
theorem impl_one (t : Int) (a b : S65) : impl_SameActs_1.f a.f0 a.f1 a.f2.f0 a.f2.f1 a.f2.f2 a.f2.f3 a.f2.f4 a.f2.f5 a.f3 b.f0 b.f1 b.f2.f0 b.f2.f1 b.f2.f2 b.f2.f3 b.f2.f4 b.f2.f5 b.f3 t = some (actE t a b) := by
  unfold impl_SameActs_1.f actE
  rw [impl_shape]
  simp only [Option.bind_some]
  by_cases c0 : a.f0 = 1
  · by_cases c1 : a.f1 = t
    · by_cases c2 : shape a b = true
      · simp only [if_pos c0, if_pos c1, if_pos c2, short]
      · simp only [if_pos c0, if_pos c1, if_neg c2, long]
    · simp only [if_pos c0, if_neg c1, long]
  · simp only [if_neg c0, long]
theorem flip {γ : Type} (c : Bool) (x y : γ) : (if (!c) = true then x else y) = if c = true then y else x := by cases c <;> rfl
theorem spec_step (xs ys : List S65) (t : Int) (hl : xs.length = ys.length) (h1 : xs.length ≤ 1048576) (i : Nat) (a b : S65) (ha : xs[i]? = some a) (hb : ys[i]? = some b) (hlt : i < xs.length) (k : Nat) :
    spec_SameActs.l0 (k + 1 + 1) xs ys t (i : Int) = if actE t a b = true then spec_SameActs.l0 k xs ys t ((i : Int) + 1) else some false := by
  have e1 : wrap64 ((i : Int) + 1) = (i : Int) + 1 := w64 (by omega) (by omega)
  have hr : rd_T65 xs (i : Int) = a := getD_get i a ha
  have hr' : rd_T65 ys (i : Int) = b := getD_get i b hb
  rw [spec_SameActs.l0]
  simp only [hr, hr', if_pos (show (i : Int) < (xs.length : Int) by omega), if_pos (show (0 : Int) ≤ (i : Int) by omega), if_pos (show (i : Int) < (ys.length : Int) by omega), spec_shape, Option.bind_some]
  unfold actE
  by_cases c0 : a.f0 = 1
  · by_cases c1 : a.f1 = t
    · simp only [if_pos c0, if_pos c1]
      rw [spec_SameActs.j1, nshort, nlong, flip, flip, e1]
      by_cases c2 : shape a b = true
      · simp only [if_pos c2]
      · simp only [if_neg c2]
    · simp only [if_pos c0, if_neg c1]
      rw [spec_SameActs.j1, nlong, flip, e1]
      simp only [Bool.false_eq_true, if_false]
  · simp only [if_neg c0]
    rw [spec_SameActs.j1, nlong, flip, e1]
    simp only [Bool.false_eq_true, if_false]
theorem core (xs ys : List S65) (t : Int) (h1 : xs.length ≤ 1048576) : Ev (fun k => spec_SameActs.f k xs ys t) (all2 (actE t) xs ys) ∧ Ev (fun k => impl_SameActs.f k xs ys t) (all2 (actE t) xs ys) := by
  unfold spec_SameActs.f impl_SameActs.f impl_Act.f
  by_cases hl : (xs.length : Int) = (ys.length : Int)
  · simp only [if_pos hl]
    refine ⟨all2_ev (actE t) (fun k i => spec_SameActs.l0 k xs ys t i) (by omega) ?_ ?_, Ev.bind (all2_ev (actE t) (fun k i => impl_Act.l0 k ys t xs xs.length i) (by omega) ?_ ?_) (Ev.now _)⟩
    · intro k
      rw [spec_SameActs.l0]
      simp only [if_neg (Int.lt_irrefl _)]
    · intro i a b ha hb hlt
      have hs := spec_step xs ys t (by omega) h1 i a b ha hb hlt
      refine ⟨fun he r ih => ev_succ (ev_succ ?_), fun he => ev_succ (ev_succ ?_)⟩
      · simp only [hs, he, if_true]
        exact ih
      · simp only [hs, he, Bool.false_eq_true, if_false]
        exact Ev.now _
    · intro k
      simp only [impl_Act.l0, if_neg (Int.lt_irrefl _)]
    · intro i a b ha hb hlt
      have e1 : wrap64 ((i : Int) + 1) = (i : Int) + 1 := w64 (by omega) (by omega)
      have hr : rd_T65 xs (i : Int) = a := getD_get i a ha
      have hr' : rd_T65 ys (i : Int) = b := getD_get i b hb
      refine ⟨fun he r ih => ev_succ ?_, fun he => ev_succ ?_⟩
      all_goals simp only [impl_Act.l0, e1, hr, hr', if_pos (show (i : Int) < (xs.length : Int) by omega), if_pos (show (0 : Int) ≤ (i : Int) by omega), if_pos (show (i : Int) < (ys.length : Int) by omega), impl_one, Option.bind_some, he, Bool.false_eq_true, if_true, if_false]
      · exact ih
      · exact Ev.now _
  · simp only [if_neg hl]
    rw [all2_len (actE t) xs ys (by omega)]
    exact ⟨Ev.now _, Ev.bind (Ev.now _) (Ev.now _)⟩

theorem shape_same (a b : S32) : spec_SameShape.f a.f0 a.f1 a.f2 a.f3 a.f4 a.f5 b.f0 b.f1 b.f2 b.f3 b.f4 b.f5 = impl_SameShape.f a.f0 a.f1 a.f2 a.f3 a.f4 a.f5 b.f0 b.f1 b.f2 b.f3 b.f4 b.f5 := rfl
theorem all2_refl {α : Type} (e : α → α → Bool) (h : ∀ a, e a a = true) : ∀ xs : List α, all2 e xs xs = true
  | [] => rfl
  | a :: x => by simp only [all2, h a, all2_refl e h x, Bool.and_true]
theorem act_refl (t : Int) (a : S65) : actE t a a = true := by
  unfold actE short long
  simp
theorem next_ne (x : Int) : ¬ x = wrap64 (x + 1) := by unfold wrap64; omega
theorem shapes_ev (a0 : Int) (a1 a2 : ByteArray) (a3 a4 : Int) (a5 : ByteArray) (b0 : Int) (b1 b2 : ByteArray) (b3 b4 : Int) (b5 : ByteArray) : ∃ v, impl_SameShape.f a0 a1 a2 a3 a4 a5 b0 b1 b2 b3 b4 b5 = some v ∧ spec_SameShape.f a0 a1 a2 a3 a4 a5 b0 b1 b2 b3 b4 b5 = some v := by
  unfold impl_SameShape.f spec_SameShape.f
  by_cases c : (a5.size : Int) = (b5.size : Int)
  · simp only [if_pos c]; exact ⟨_, rfl, rfl⟩
  · simp only [if_neg c]; exact ⟨_, rfl, rfl⟩
theorem shape_off (a0 : Int) (a1 a2 : ByteArray) (a3 a4 : Int) (a5 : ByteArray) : impl_SameShape.f a0 a1 a2 a3 a4 a5 a0 a1 a2 (wrap64 (a3 + 1)) a4 a5 = some false := by
  unfold impl_SameShape.f
  rw [if_pos rfl]
  simp [next_ne]
theorem shape_text (a0 : Int) (a1 a2 : ByteArray) (a3 a4 : Int) (a5 b5 : ByteArray) (h : b5.size = a5.size) : impl_SameShape.f a0 a1 a2 a3 a4 a5 a0 a1 a2 a3 a4 b5 = some true := by
  unfold impl_SameShape.f
  rw [if_pos (by rw [h])]
  simp
theorem rec_size {a r : ByteArray} (h : impl_MaskRec.f a = some r) : r.size = a.size := by
  unfold impl_MaskRec.f at h
  by_cases h8 : (a.size : Int) = 8
  · rw [if_pos h8, zeroWord_ok] at h
    simp only [Option.bind_some] at h
    have h8' : a.size = 8 := by omega
    have he : (a.extract 0 4).size = 4 := by simp [h8']
    split at h
    · obtain rfl := Option.some.inj h; rfl
    · rw [if_pos (by omega), if_pos (by omega), if_pos (by rw [he]; omega)] at h
      obtain rfl := Option.some.inj h
      rw [ByteArray.size_append, he, h8']; rfl
  · rw [if_neg h8] at h
    obtain rfl := Option.some.inj h; rfl
theorem FnShapes : Go.Proofs.Ytceaelnaogenjaa.QFnShapes.Stated := by
  intro l0 y0
  unfold laws_FnShapes.f laws_big.f
  refine Ev.rounds (Ev.bind (Ev.now _) ?_)
  by_cases hb : (l0.length : Int) > 1048576
  · exact ev_pos (decide_eq_true hb) (Ev.now _)
  refine ev_neg (by simpa using hb) ?_
  have hn : l0.length ≤ 1048576 := by omega
  obtain ⟨r, hr, zr⟩ := shape_draw l0 hn
  obtain ⟨x, hx, zx⟩ := acts_draw l0 hn
  obtain ⟨s, hs, zs⟩ := rec_draw l0 hn
  obtain ⟨q, hq1, hq2⟩ := rec_core s zs
  obtain ⟨v, hv1, hv2⟩ := shapes_ev r.1 r.2.1 r.2.2.1 r.2.2.2.1 r.2.2.2.2.1 r.2.2.2.2.2.1 r.2.2.2.2.2.2.1 r.2.2.2.2.2.2.2.1 r.2.2.2.2.2.2.2.2.1 r.2.2.2.2.2.2.2.2.2.1 r.2.2.2.2.2.2.2.2.2.2.1 r.2.2.2.2.2.2.2.2.2.2.2
  have ho : laws_others.f r.2.2.2.2.2.1 = some (othN xorF r.2.2.2.2.2.1 r.2.2.2.2.2.1.size) := by unfold laws_others.f; rw [if_pos (by omega)]
  obtain ⟨g1, g2⟩ := core x.1 x.2.1 x.2.2 zx
  obtain ⟨_, g4⟩ := core x.1 x.1 x.2.2 zx
  rw [all2_refl _ (act_refl _)] at g4
  refine Ev.bind hr (Ev.bind hx ?_)
  simp only [ho, Option.bind_some]
  refine Ev.bind hs ?_
  simp only [hq2, hv1, hv2, Option.bind_some, beq_self_eq_true, if_true, shape_off, Bool.false_eq_true, if_false, shape_text _ _ _ _ _ _ _ (othN_size xorF r.2.2.2.2.2.1 r.2.2.2.2.2.1.size)]
  refine Ev.bind g2 (Ev.bind g1 (ev_pos (by simp) (Ev.bind g4 (ev_pos rfl ?_))))
  refine ev_pos (by rw [rec_size hq2]) (Ev.bind hq1 ?_)
  simp only [beq_self_eq_true]
  exact Ev.now _
end Go.Proofs.Ytceaelnaogenjaa.Pure
