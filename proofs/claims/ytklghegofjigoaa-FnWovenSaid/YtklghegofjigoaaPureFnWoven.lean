/-
  FnWoven: the pure part: what the law computes is true, whatever the input.
-/
import Derived.Test.YtklghegofjigoaaOpenFnWoven
import Derived.Test.YtklghegofjigoaaKit
namespace Go.Proofs.Ytklghegofjigoaa.Pure
open Go.RowKit Go.Proofs.YtklghegofjigoaaW.PrintWords Go.Proofs.YtklghegofjigoaaW.PrintLast Go.Proofs.Ytklghegofjigoaa.QFnWoven Go.Proofs.Ytklghegofjigoaa.Kit
set_option linter.unusedVariables false
set_option linter.unusedSimpArgs false

theorem and_byte (x : Int) : 0 ≤ Go.bits .and .i64 x 255 ∧ Go.bits .and .i64 x 255 ≤ 255 := by
  simp only [Go.bits]
  have h : (BitVec.ofInt 64 x &&& BitVec.ofInt 64 255).toNat ≤ 255 := by
    rw [BitVec.toNat_and]; exact Nat.le_trans Nat.and_le_right (by decide)
  have e : IntKind.i64.bits = 64 := rfl
  rw [e, IntKind.wrap_i64]
  omega
theorem byte_ex (bs : List Int) (hn : bs.length ≤ 1048576) (p s : Int) (h0 : 0 ≤ p) (h1 : p ≤ bs.length) : ∃ v p' s', spec_l01Byte.f bs p s = some (v, p', s') ∧ 0 ≤ v ∧ v ≤ 255 ∧ 0 ≤ p' ∧ p' ≤ bs.length := by
  unfold spec_l01Byte.f
  by_cases h : p < bs.length
  · rw [if_pos h, if_pos h0]
    have e : wrap64 (p + 1) = p + 1 := w64 (by omega) (by omega)
    exact ⟨_, _, _, rfl, (and_byte _).1, (and_byte _).2, by rw [e]; omega, by rw [e]; omega⟩
  · rw [if_neg h]
    exact ⟨_, _, _, rfl, (and_byte _).1, (and_byte _).2, h0, h1⟩
theorem below_ex (bs : List Int) (hn : bs.length ≤ 1048576) (p s a : Int) (h0 : 0 ≤ p) (h1 : p ≤ bs.length) : ∃ v p' s', spec_l01Below.f bs p s a = some (v, p', s') ∧ 0 ≤ v ∧ (0 < a → v < a) ∧ (a ≤ 0 → v = 0) ∧ 0 ≤ p' ∧ p' ≤ bs.length := by
  unfold spec_l01Below.f
  by_cases ha : a ≤ 0
  · rw [if_pos ha]; exact ⟨_, _, _, rfl, by omega, by omega, fun _ => rfl, h0, h1⟩
  · rw [if_neg ha]
    obtain ⟨v1, p1, s1, e1, b1, c1, d1, f1⟩ := byte_ex bs hn p s h0 h1
    obtain ⟨v2, p2, s2, e2, b2, c2, d2, f2⟩ := byte_ex bs hn p1 s1 d1 f1
    obtain ⟨v3, p3, s3, e3, b3, c3, d3, f3⟩ := byte_ex bs hn p2 s2 d2 f2
    obtain ⟨v4, p4, s4, e4, b4, c4, d4, f4⟩ := byte_ex bs hn p3 s3 d3 f3
    have hz : ¬ a = 0 := by omega
    by_cases hb : a ≤ 256
    · simp only [if_pos hb, e1, Option.bind_some, if_neg hz]
      exact ⟨_, _, _, rfl, Int.tmod_nonneg _ b1, fun h => Int.tmod_lt_of_pos _ h, fun h => absurd h ha, d1, f1⟩
    · simp only [if_neg hb, e1, e2, e3, e4, Option.bind_some, if_neg hz]
      refine ⟨_, _, _, rfl, Int.tmod_nonneg _ ?_, fun h => Int.tmod_lt_of_pos _ h, fun h => absurd h ha, d4, f4⟩
      rw [w64 (x := v1 * 16777216) (by omega) (by omega), w64 (x := v2 * 65536) (by omega) (by omega), w64 (x := v3 * 256) (by omega) (by omega), w64 (x := v1 * 16777216 + v2 * 65536) (by omega) (by omega), w64 (x := v1 * 16777216 + v2 * 65536 + v3 * 256) (by omega) (by omega), w64 (by omega) (by omega)]
      omega

theorem rd_mem {l : List Int} {v : Int} (h0 : 0 ≤ v) (h1 : v < l.length) : rd l v ∈ l := by
  have hlt : v.toNat < l.length := by omega
  unfold rd
  rw [List.getD_eq_getElem?_getD, List.getElem?_eq_getElem hlt]
  exact List.getElem_mem hlt
theorem pickint_ex (bs : List Int) (hn : bs.length ≤ 1048576) (p s : Int) (l : List Int) (hl : 0 < l.length) (h0 : 0 ≤ p) (h1 : p ≤ bs.length) : ∃ v p' s', spec_l01PickInt.f bs p s l = some (v, p', s') ∧ v ∈ l ∧ 0 ≤ p' ∧ p' ≤ bs.length := by
  obtain ⟨v, p', s', e, b, c, _, d, f⟩ := below_ex bs hn p s (l.length : Int) h0 h1
  have c' := c (by omega)
  unfold spec_l01PickInt.f
  rw [e]
  simp only [Option.bind_some, if_pos b, if_pos c']
  exact ⟨_, _, _, rfl, rd_mem b c', d, f⟩
theorem once_ex (bs : List Int) (hn : bs.length ≤ 1048576) (p s a : Int) (h0 : 0 ≤ p) (h1 : p ≤ bs.length) : ∃ v p' s', spec_l01Once.f bs p s a = some (v, p', s') ∧ 0 ≤ p' ∧ p' ≤ bs.length := by
  obtain ⟨v, p', s', e, b, c, _, d, f⟩ := below_ex bs hn p s a h0 h1
  unfold spec_l01Once.f
  rw [e]
  exact ⟨_, _, _, rfl, d, f⟩
theorem rdOf_mem {α : Type} {x : α} {l : List α} {v : Int} (h0 : 0 ≤ v) (h1 : v < l.length) : rdOf x l v ∈ l := by
  have hlt : v.toNat < l.length := by omega
  unfold rdOf
  rw [List.getD_eq_getElem?_getD, List.getElem?_eq_getElem hlt]
  exact List.getElem_mem hlt
theorem pick_ex (bs : List Int) (hn : bs.length ≤ 1048576) (p s : Int) (l : List ByteArray) (hl : 0 < l.length) (h0 : 0 ≤ p) (h1 : p ≤ bs.length) : ∃ v p' s', spec_l01Pick.f bs p s l = some (v, p', s') ∧ v ∈ l ∧ 0 ≤ p' ∧ p' ≤ bs.length := by
  obtain ⟨v, p', s', e, b, c, _, d, f⟩ := below_ex bs hn p s (l.length : Int) h0 h1
  have c' := c (by omega)
  unfold spec_l01Pick.f
  rw [e]
  simp only [Option.bind_some, if_pos b, if_pos c']
  exact ⟨_, _, _, rfl, rdOf_mem b c', d, f⟩
theorem pick1_ex (bs : List Int) (hn : bs.length ≤ 1048576) (p s : Int) (l : List ByteArray) (hl : 0 < l.length) (h0 : 0 ≤ p) (h1 : p ≤ bs.length) : ∃ v p' s', ((spec_l01Pick.f bs p s l).bind fun b => (some (b.1, b.2.1, b.2.2))) = some (v, p', s') ∧ 0 ≤ p' ∧ p' ≤ bs.length := by
  obtain ⟨v, p', s', e, _, d, f⟩ := pick_ex bs hn p s l hl h0 h1
  rw [e]
  exact ⟨_, _, _, rfl, d, f⟩
theorem path_ex (bs : List Int) (hn : bs.length ≤ 1048576) (p s : Int) (h0 : 0 ≤ p) (h1 : p ≤ bs.length) : ∃ v p' s', spec_l15Path.f bs p s = some (v, p', s') ∧ 0 ≤ p' ∧ p' ≤ bs.length := by
  unfold spec_l15Path.f
  exact pick1_ex bs hn p s _ (by decide) h0 h1
theorem any_ex (bs : List Int) (hn : bs.length ≤ 1048576) (p s : Int) (h0 : 0 ≤ p) (h1 : p ≤ bs.length) : ∃ v p' s', spec_l15Any.f bs p s = some (v, p', s') ∧ 0 ≤ p' ∧ p' ≤ bs.length := by
  unfold spec_l15Any.f
  obtain ⟨v, p', s', e, d, f⟩ := once_ex bs hn p s 5 h0 h1
  rw [e]
  simp only [Option.bind_some]
  split
  · exact pick1_ex bs hn p' s' _ (by decide) d f
  · obtain ⟨v, p', s', e, d, f⟩ := path_ex bs hn p' s' d f
    rw [e]
    exact ⟨_, _, _, rfl, d, f⟩
theorem textl_ex (bs : List Int) (hn : bs.length ≤ 1048576) (a : Int) (ha : a ≤ 5000) : ∀ (m : Nat) (y : List Int) (i p s : Int), (a - i).toNat ≤ m → 0 ≤ i → i ≤ 5000 → y.length + m ≤ 20000 → 0 ≤ p → p ≤ bs.length → ∃ v p' s', Ev (fun k => spec_l01Text.l0 k a y i bs p s) (v, p', s') ∧ 0 ≤ p' ∧ p' ≤ bs.length := by
  intro m
  induction m with
  | zero =>
    intro y i p s hm hi hi2 hy h0 h1
    refine ⟨strOfNums y, p, s, ev_succ ?_, h0, h1⟩
    simp only [spec_l01Text.l0, if_neg (show ¬ i < a by omega)]
    exact Ev.now _
  | succ m ih =>
    intro y i p s hm hi hi2 hy h0 h1
    by_cases hc : i < a
    · obtain ⟨v1, p1, s1, e1, b1, c1, d1, f1⟩ := byte_ex bs hn p s h0 h1
      have g1 : y.length < 140737488355328 := by omega
      have g2 : wrap64 (i + 1) = i + 1 := w64 (by omega) (by omega)
      obtain ⟨v2, p2, s2, e2, d2, f2⟩ := ih (y ++ [v1 % 256]) (i + 1) p1 s1 (by omega) (by omega) (by omega) (by rw [List.length_append]; simp only [List.length_cons, List.length_nil]; omega) d1 f1
      refine ⟨v2, p2, s2, ev_succ ?_, d2, f2⟩
      simp only [spec_l01Text.l0, if_pos hc, e1, Option.bind_some, if_pos g1, g2]
      exact e2
    · refine ⟨strOfNums y, p, s, ev_succ ?_, h0, h1⟩
      simp only [spec_l01Text.l0, if_neg hc]
      exact Ev.now _
theorem text_ex (bs : List Int) (hn : bs.length ≤ 1048576) (p s a : Int) (h0 : 0 ≤ p) (h1 : p ≤ bs.length) : ∃ v p' s', Ev (fun k => spec_l01Text.f k bs p s a) (v, p', s') ∧ 0 ≤ p' ∧ p' ≤ bs.length := by
  unfold spec_l01Text.f
  by_cases ha : a > 5000
  · obtain ⟨v, p', s', e, d, f⟩ := textl_ex bs hn 5000 (by omega) 5000 [] 0 p s (by omega) (by omega) (by omega) (by simp) h0 h1
    exact ⟨v, p', s', ev_pos ha (ev_succ (by simpa only [spec_l01Text.j0] using e)), d, f⟩
  · obtain ⟨v, p', s', e, d, f⟩ := textl_ex bs hn a (by omega) 5000 [] 0 p s (by omega) (by omega) (by omega) (by simp) h0 h1
    exact ⟨v, p', s', ev_neg ha (ev_succ (by simpa only [spec_l01Text.j0] using e)), d, f⟩
theorem now_of {α : Type} {g : Option α} {r : α} (h : g = some r) : Ev (fun _ => g) r := ⟨0, fun _ _ => h⟩
theorem askj_ex (bs : List Int) (hn : bs.length ≤ 1048576) (p s q0 : Int) (q1 q2 : ByteArray) (q3 q4 : Int) (q5 : ByteArray) (h0 : 0 ≤ p) (h1 : p ≤ bs.length) : ∃ a0 a1 a2 a3 a4 a5 p' s', Ev (fun k => spec_l17Ask.j0 k bs p s q0 q1 q2 q3 q4 q5) (a0, a1, a2, a3, a4, a5, p', s') ∧ 0 ≤ p' ∧ p' ≤ bs.length := by
  by_cases k5 : q0 = 5
  · obtain ⟨v, p', s', e, d, f⟩ := path_ex bs hn p s h0 h1
    refine ⟨q0, q1, v, q3, q4, q5, p', s', ev_succ ?_, d, f⟩
    simp only [spec_l17Ask.j0, if_pos k5, e, Option.bind_some]
    exact Ev.now _
  · by_cases k6 : q0 = 6
    · obtain ⟨v, p', s', e, _, d, f⟩ := pickint_ex bs hn p s [0, 1, 5, 32, 100, 200] (by decide) h0 h1
      obtain ⟨v2, p2, s2, e2, _, d2, f2⟩ := pickint_ex bs hn p' s' [0, 1, 10, 40, 128, 1000] (by decide) d f
      refine ⟨q0, q1, q2, v, v2, q5, p2, s2, ev_succ ?_, d2, f2⟩
      simp only [spec_l17Ask.j0, if_neg k5, if_pos k6, e, e2, Option.bind_some]
      exact Ev.now _
    · by_cases k7 : q0 = 7
      · obtain ⟨v, p', s', e, _, d, f⟩ := pickint_ex bs hn p s [0, 0, 0, 1, 5, 30, 32, 33, 64, 100] (by decide) h0 h1
        obtain ⟨v2, p2, s2, e2, _, d2, f2⟩ := pickint_ex bs hn p' s' [0, 1, 2, 5, 20, 32, 40] (by decide) d f
        obtain ⟨v3, p3, s3, e3, d3, f3⟩ := text_ex bs hn p2 s2 v2 d2 f2
        refine ⟨q0, q1, q2, v, q4, v3, p3, s3, ev_succ ?_, d3, f3⟩
        simp only [spec_l17Ask.j0, if_neg k5, if_neg k6, if_pos k7, e, e2, Option.bind_some]
        exact Ev.bind e3 (Ev.now _)
      · by_cases k8 : q0 = 8
        · obtain ⟨v, p', s', e, _, d, f⟩ := pickint_ex bs hn p s [0, 1, 5, 31, 32, 33, 64, 70, 128, 129] (by decide) h0 h1
          refine ⟨q0, q1, q2, q3, v, q5, p', s', ev_succ ?_, d, f⟩
          simp only [spec_l17Ask.j0, if_neg k5, if_neg k6, if_neg k7, if_pos k8, e, Option.bind_some]
          exact Ev.now _
        · refine ⟨q0, q1, q2, q3, q4, q5, p, s, ev_succ ?_, h0, h1⟩
          simp only [spec_l17Ask.j0, if_neg k5, if_neg k6, if_neg k7, if_neg k8]
          exact Ev.now _
theorem ask_ex (bs : List Int) (hn : bs.length ≤ 1048576) (p s : Int) (h0 : 0 ≤ p) (h1 : p ≤ bs.length) : ∃ a0 a1 a2 a3 a4 a5 p' s', Ev (fun k => spec_l17Ask.f k bs p s) (a0, a1, a2, a3, a4, a5, p', s') ∧ 0 ≤ p' ∧ p' ≤ bs.length := by
  obtain ⟨v, p1, s1, e1, _, d1, f1⟩ := pickint_ex bs hn p s [1, 1, 1, 2, 2, 3, 4, 5, 5, 6, 7, 7, 7, 7, 7, 8, 8, 9, 10, 11] (by decide) h0 h1
  obtain ⟨v2, p2, s2, e2, d2, f2⟩ := path_ex bs hn p1 s1 d1 f1
  obtain ⟨v3, p3, s3, e3, d3, f3⟩ := once_ex bs hn p2 s2 12 d2 f2
  unfold spec_l17Ask.f
  simp only [e1, e2, e3, Option.bind_some]
  by_cases h : v3 = true
  · obtain ⟨v4, p4, s4, e4, d4, f4⟩ := any_ex bs hn p3 s3 d3 f3
    simp only [if_pos h, e4, Option.bind_some]
    exact askj_ex bs hn _ _ _ _ _ _ _ _ d4 f4
  · simp only [if_neg h]
    exact askj_ex bs hn _ _ _ _ _ _ _ _ d3 f3
theorem act_ex (bs : List Int) (hn : bs.length ≤ 1048576) (p s : Int) (h0 : 0 ≤ p) (h1 : p ≤ bs.length) : ∃ r p' s', Ev (fun k => spec_l24Act.f k bs p s) r ∧ r.2.2.2.2.2.2.2.2.2.1 = p' ∧ r.2.2.2.2.2.2.2.2.2.2 = s' ∧ 0 ≤ p' ∧ p' ≤ bs.length := by
  obtain ⟨v, p1, s1, e1, _, d1, f1⟩ := pickint_ex bs hn p s [1, 1, 2, 2, 2, 2, 2, 2, 2, 2] (by decide) h0 h1
  obtain ⟨v2, p2, s2, e2, _, _, _, d2, f2⟩ := below_ex bs hn p1 s1 2 d1 f1
  obtain ⟨v3, p3, s3, e3, d3, f3⟩ := once_ex bs hn p2 s2 30 d2 f2
  unfold spec_l24Act.f
  simp only [e1, e2, e3, Option.bind_some]
  by_cases h : v3 = true
  · obtain ⟨v4, p4, s4, e4, _, d4, f4⟩ := pickint_ex bs hn p3 s3 [0, 1, 2, 5, 255, 1023] (by decide) d3 f3
    simp only [if_pos h, e4, Option.bind_some, if_neg (show ¬ (3 : Int) = 1 by decide)]
    exact ⟨_, _, _, Ev.now _, rfl, rfl, d4, f4⟩
  · simp only [if_neg h]
    by_cases h2 : v = 1
    · simp only [if_pos h2]
      obtain ⟨a0, a1, a2, a3, a4, a5, p4, s4, e4, d4, f4⟩ := ask_ex bs hn p3 s3 d3 f3
      exact ⟨_, _, _, Ev.bind e4 (Ev.now _), rfl, rfl, d4, f4⟩
    · simp only [if_neg h2]
      exact ⟨_, _, _, Ev.now _, rfl, rfl, d3, f3⟩
theorem acts1_ex (bs : List Int) (hn : bs.length ≤ 1048576) (a i : Int) (M : Nat) (N : Int) (c0 c1 c2 : Int) (c3 c4 : ByteArray) (c5 c6 : Int) (c7 : ByteArray) (c8 : Int) (hN : N ≤ 100)
    (out : ∀ (y : List S33) (p s : Int), y.length ≤ M → 0 ≤ p → p ≤ bs.length → ∃ r : List S33 × Int × Int, Ev (fun k => spec_l24Acts.l0 k y a (wrap64 (i + 1)) bs p s) r ∧ r.1.length ≤ 1048576 ∧ 0 ≤ r.2.1 ∧ r.2.1 ≤ bs.length) :
    ∀ (m : Nat) (y : List S33) (j p s : Int), (N - j).toNat ≤ m → 0 ≤ j → y.length + m ≤ M → M ≤ 100000 → 0 ≤ p → p ≤ bs.length → ∃ r : List S33 × Int × Int, Ev (fun k => spec_l24Acts.l1 k y a i N j bs p s c0 c1 c2 c3 c4 c5 c6 c7 c8) r ∧ r.1.length ≤ 1048576 ∧ 0 ≤ r.2.1 ∧ r.2.1 ≤ bs.length := by
  intro m
  induction m with
  | zero =>
    intro y j p s hm hj hy hM h0 h1
    obtain ⟨r, hr, hr2⟩ := out y p s (by omega) h0 h1
    refine ⟨r, ev_succ ?_, hr2⟩
    simp only [spec_l24Acts.l1, if_neg (show ¬ j < N by omega)]
    exact hr
  | succ m ih =>
    intro y j p s hm hj hy hM h0 h1
    by_cases hc : j < N
    · obtain ⟨v3, p3, s3, e3, d3, f3⟩ := once_ex bs hn p s 6 h0 h1
      have g1 : y.length < 1466015503701 := by omega
      have g2 : wrap64 (j + 1) = j + 1 := w64 (by omega) (by omega)
      by_cases h : v3 = true
      · obtain ⟨r, hr, hr2⟩ := ih (y ++ [(⟨2, wrap64 (1 - c1), (⟨0, (⟨#[]⟩ : ByteArray), (⟨#[]⟩ : ByteArray), 0, 0, (⟨#[]⟩ : ByteArray)⟩ : S31), 0⟩ : S33)]) (j + 1) p3 s3 (by omega) (by omega) (by rw [List.length_append]; simp only [List.length_cons, List.length_nil]; omega) hM d3 f3
        refine ⟨r, ev_succ ?_, hr2⟩
        simp only [spec_l24Acts.l1, if_pos hc, e3, Option.bind_some, if_pos h, if_pos g1, g2]
        exact hr
      · obtain ⟨r, hr, hr2⟩ := ih (y ++ [(⟨2, c1, (⟨0, (⟨#[]⟩ : ByteArray), (⟨#[]⟩ : ByteArray), 0, 0, (⟨#[]⟩ : ByteArray)⟩ : S31), 0⟩ : S33)]) (j + 1) p3 s3 (by omega) (by omega) (by rw [List.length_append]; simp only [List.length_cons, List.length_nil]; omega) hM d3 f3
        refine ⟨r, ev_succ ?_, hr2⟩
        simp only [spec_l24Acts.l1, if_pos hc, e3, Option.bind_some, if_neg h, if_pos g1, g2]
        exact hr
    · obtain ⟨r, hr, hr2⟩ := out y p s (by omega) h0 h1
      refine ⟨r, ev_succ ?_, hr2⟩
      simp only [spec_l24Acts.l1, if_neg hc]
      exact hr
theorem acts0_end (bs : List Int) (a i p s : Int) (y : List S33) (hy : y.length ≤ 100000) (hc : ¬ i < a) (h0 : 0 ≤ p) (h1 : p ≤ bs.length) : ∃ r : List S33 × Int × Int, Ev (fun k => spec_l24Acts.l0 k y a i bs p s) r ∧ r.1.length ≤ 1048576 ∧ 0 ≤ r.2.1 ∧ r.2.1 ≤ bs.length := by
  by_cases h : (y.length : Int) > 200
  · refine ⟨(y.take 200, p, s), ev_succ ?_, by show (y.take 200).length ≤ _; rw [List.length_take]; omega, h0, h1⟩
    simp only [spec_l24Acts.l0, if_neg hc, if_pos h, if_pos (show 200 ≤ (y.length : Int) by omega)]
    exact Ev.now _
  · refine ⟨(y, p, s), ev_succ ?_, by show y.length ≤ _; omega, h0, h1⟩
    simp only [spec_l24Acts.l0, if_neg hc, if_neg h]
    exact Ev.now _
theorem acts0_ex (bs : List Int) (hn : bs.length ≤ 1048576) (a : Int) (ha : a ≤ 100) : ∀ (m : Nat) (y : List S33) (i p s : Int), (a - i).toNat ≤ m → 0 ≤ i → i ≤ 100 → y.length + 101 * m ≤ 20000 → 0 ≤ p → p ≤ bs.length → ∃ r : List S33 × Int × Int, Ev (fun k => spec_l24Acts.l0 k y a i bs p s) r ∧ r.1.length ≤ 1048576 ∧ 0 ≤ r.2.1 ∧ r.2.1 ≤ bs.length := by
  intro m
  induction m with
  | zero =>
    intro y i p s hm hi hi2 hy h0 h1
    exact acts0_end bs a i p s y (by omega) (by omega) h0 h1
  | succ m ih =>
    intro y i p s hm hi hi2 hy h0 h1
    by_cases hc : i < a
    · obtain ⟨b, p1, s1, e1, q1, q2, d1, f1⟩ := act_ex bs hn p s h0 h1
      have g1 : y.length < 1466015503701 := by omega
      have g2 : wrap64 (i + 1) = i + 1 := w64 (by omega) (by omega)
      have hlen : ∀ z : S33, (y ++ [z]).length = y.length + 1 := fun z => by rw [List.length_append]; rfl
      by_cases hk : b.1 = 1
      · obtain ⟨v, p2, s2, e2, hv, d2, f2⟩ := pickint_ex bs hn p1 s1 [0, 3, 10, 25, 60, 60, 60] (by decide) d1 f1
        have hv2 : v ≤ 100 := by
          simp only [List.mem_cons, List.not_mem_nil, or_false] at hv
          omega
        obtain ⟨r, hr, hr2⟩ := acts1_ex bs hn a i (y.length + 1 + 100) v b.1 b.2.1 b.2.2.1 b.2.2.2.1 b.2.2.2.2.1 b.2.2.2.2.2.1 b.2.2.2.2.2.2.1 b.2.2.2.2.2.2.2.1 b.2.2.2.2.2.2.2.2.1 hv2 (fun y' p' s' hy' q0 q1 => by
          rw [g2]
          exact ih y' (i + 1) p' s' (by omega) (by omega) (by omega) (by omega) q0 q1) 100 (y ++ [(⟨b.1, b.2.1, (⟨b.2.2.1, b.2.2.2.1, b.2.2.2.2.1, b.2.2.2.2.2.1, b.2.2.2.2.2.2.1, b.2.2.2.2.2.2.2.1⟩ : S31), b.2.2.2.2.2.2.2.2.1⟩ : S33)]) 0 p2 s2 (by omega) (by omega) (by rw [hlen]; omega) (by omega) d2 f2
        refine ⟨r, ev_succ ?_, hr2⟩
        simp only [spec_l24Acts.l0, if_pos hc]
        refine Ev.bind e1 ?_
        simp only [if_pos g1, Option.bind_some, if_pos hk, q1, q2, e2]
        exact hr
      · obtain ⟨r, hr, hr2⟩ := ih (y ++ [(⟨b.1, b.2.1, (⟨b.2.2.1, b.2.2.2.1, b.2.2.2.2.1, b.2.2.2.2.2.1, b.2.2.2.2.2.2.1, b.2.2.2.2.2.2.2.1⟩ : S31), b.2.2.2.2.2.2.2.2.1⟩ : S33)]) (i + 1) p1 s1 (by omega) (by omega) (by omega) (by rw [hlen]; omega) d1 f1
        refine ⟨r, ev_succ ?_, hr2⟩
        simp only [spec_l24Acts.l0, if_pos hc]
        refine Ev.bind e1 ?_
        simp only [if_pos g1, Option.bind_some, if_neg hk, q1, q2, g2]
        exact hr
    · exact acts0_end bs a i p s y (by omega) hc h0 h1
theorem acts_ex (bs : List Int) (hn : bs.length ≤ 1048576) (p s a : Int) (ha0 : 0 < a) (ha : a ≤ 100) (h0 : 0 ≤ p) (h1 : p ≤ bs.length) : ∃ r : List S33 × Int × Int, Ev (fun k => spec_l24Acts.f k bs p s a) r ∧ r.1.length ≤ 1048576 ∧ 0 ≤ r.2.1 ∧ r.2.1 ≤ bs.length := by
  obtain ⟨v, p', s', e, b, c, _, d, f⟩ := below_ex bs hn p s a h0 h1
  have c' := c ha0
  unfold spec_l24Acts.f
  simp only [e, Option.bind_some]
  exact acts0_ex bs hn v (by omega) 100 [] 0 p' s' (by omega) (by omega) (by omega) (by simp) d f
theorem newl_ex (l0 : List Int) : ∀ (m : Nat) (h i : Int), (4000 - i).toNat ≤ m → 0 ≤ i → ∃ s, Ev (fun k => spec_l01New.l0 k l0 h i) (l0, 0, s) := by
  intro m
  induction m with
  | zero =>
    intro h i hm hi
    refine ⟨h, ev_succ ?_⟩
    simp only [spec_l01New.l0, if_neg (show ¬ i < 4000 by omega), ite_self]
    exact Ev.now _
  | succ m ih =>
    intro h i hm hi
    by_cases h1 : i < (l0.length : Int)
    · by_cases h2 : i < 4000
      · have g2 : wrap64 (i + 1) = i + 1 := w64 (by omega) (by omega)
        obtain ⟨s, hs⟩ := ih (Go.bits .and .i64 (wrap64 ((wrap64 ((wrap64 (h * 131)) + (wrap64 (rd l0 i)))) + 7)) 1073741823) (i + 1) (by omega) (by omega)
        refine ⟨s, ev_succ ?_⟩
        simp only [spec_l01New.l0, if_pos h1, if_pos h2, if_pos hi, g2]
        exact hs
      · refine ⟨h, ev_succ ?_⟩
        simp only [spec_l01New.l0, if_neg h2, ite_self]
        exact Ev.now _
    · refine ⟨h, ev_succ ?_⟩
      simp only [spec_l01New.l0, if_neg h1]
      exact Ev.now _
theorem new_ex (l0 : List Int) : ∃ s, Ev (fun k => spec_l01New.f k l0) (l0, 0, s) := newl_ex l0 4000 _ 0 (by omega) (by omega)
def pick (t : Int) (x : S33) : List S33 := if x.f1 = t ∧ (x.f0 = 1 ∨ x.f0 = 2) then [x] else []
theorem pick_le (t : Int) (x : S33) : (pick t x).length ≤ 1 := by unfold pick; split <;> simp
theorem spec_ev (xs : List S33) (t : Int) (hl : xs.length ≤ 4194304) : Ev (fun k => spec_OnlyOf.f k xs t) (xs.flatMap (pick t)) := by
  refine collect_ev (pick t) (pick_le t) (fun k y i => spec_OnlyOf.l0 k xs t y i) ?_ ?_
  · intro k y
    simp only [spec_OnlyOf.l0, if_neg (Int.lt_irrefl _)]
  · intro y i a hget hlt hy r ih
    have f1 : (i : Int) < (xs.length : Int) := by omega
    have f2 : (0 : Int) ≤ (i : Int) := by omega
    have f3 : y.length < 1466015503701 := by omega
    have e1 : wrap64 ((i : Int) + 1) = (i : Int) + 1 := w64 (by omega) (by omega)
    have hr : rd_T33 xs (i : Int) = a := getD_get i a hget
    refine ev_succ ?_
    simp only [spec_OnlyOf.l0, e1, hr, if_pos f1, if_pos f2, if_pos f3]
    unfold pick at ih
    by_cases h1 : a.f1 = t
    · by_cases h2 : a.f0 = 1
      · rw [if_pos ⟨h1, Or.inl h2⟩] at ih
        simp only [if_pos h1, if_pos h2]
        exact ih
      · by_cases h3 : a.f0 = 2
        · rw [if_pos ⟨h1, Or.inr h3⟩] at ih
          simp only [if_pos h1, if_neg h2, if_pos h3]
          exact ih
        · rw [if_neg (fun h => h.2.elim h2 h3), List.append_nil] at ih
          simp only [if_pos h1, if_neg h2, if_neg h3]
          exact ih
    · rw [if_neg (fun h => h1 h.1), List.append_nil] at ih
      simp only [if_neg h1]
      exact ih
theorem impl_ev (xs : List S33) (t : Int) (hl : xs.length ≤ 4194304) : Ev (fun k => impl_OnlyOf.f k xs t) (xs.flatMap (pick t)) := by
  refine collect_ev (pick t) (pick_le t) (fun k y i => impl_OnlyOf.l0 k t y xs xs.length i) ?_ ?_
  · intro k y
    simp only [impl_OnlyOf.l0, if_neg (Int.lt_irrefl _)]
  · intro y i a hget hlt hy r ih
    have f1 : (i : Int) < (xs.length : Int) := by omega
    have f2 : (0 : Int) ≤ (i : Int) := by omega
    have f3 : y.length < 1466015503701 := by omega
    have e1 : wrap64 ((i : Int) + 1) = (i : Int) + 1 := w64 (by omega) (by omega)
    have hr : rd_T33 xs (i : Int) = a := getD_get i a hget
    refine ev_succ ?_
    simp only [impl_OnlyOf.l0, e1, hr, if_pos f1, if_pos f2, if_pos f3]
    unfold pick at ih
    by_cases h1 : a.f1 = t
    · by_cases h2 : a.f0 = 1
      · rw [if_pos ⟨h1, Or.inl h2⟩] at ih
        simp only [if_pos h1, if_pos h2]
        exact ih
      · by_cases h3 : a.f0 = 2
        · rw [if_pos ⟨h1, Or.inr h3⟩] at ih
          simp only [if_pos h1, if_neg h2, if_pos h3]
          exact ih
        · rw [if_neg (fun h => h.2.elim h2 h3), List.append_nil] at ih
          simp only [if_neg h2, if_neg h3]
          exact ih
    · rw [if_neg (fun h => h1 h.1), List.append_nil] at ih
      simp only [if_neg h1, ite_self]
      exact ih
def od (ps : List Int) (i : Nat) : Bool := decide (i < ps.length) && !(decide (Int.tmod (rd ps (i : Int)) 2 = 0))
def wv (ps : List Int) : Nat → List S33 → List S33 → Nat → List S33
  | 0, _, _, _ => []
  | _ + 1, [], [], _ => []
  | n + 1, [], b :: y, i => b :: wv ps n [] y (i + 1)
  | n + 1, a :: x, [], i => a :: wv ps n x [] (i + 1)
  | n + 1, a :: x, b :: y, i => if od ps i then b :: wv ps n (a :: x) y (i + 1) else a :: wv ps n x (b :: y) (i + 1)
theorem impl_w (ps : List Int) : ∀ n x y out (i : Nat), x.length + y.length ≤ n → n + i ≤ 4194304 → out.length ≤ i → Ev (fun k => impl_Woven.l0 k x y ps out (i : Int)) (out ++ wv ps n x y i) := by
  intro n
  induction n with
  | zero =>
    intro x y out i hn hi ho
    have hx : x = [] := List.length_eq_zero_iff.1 (by omega)
    have hy : y = [] := List.length_eq_zero_iff.1 (by omega)
    subst hx hy
    refine ev_succ ?_
    have e0 : wrap64 ((([] : List S33).length : Int) + (([] : List S33).length : Int)) = 0 := w64 (x := (0 : Int)) (by decide) (by decide)
    simp only [impl_Woven.l0, e0]
    refine ev_neg (by decide) ?_
    rw [wv, List.append_nil]
    exact Ev.now _
  | succ n ih =>
    intro x y out i hn hi ho
    have g2 : (0 : Int) ≤ (i : Int) := by omega
    have g6 : out.length < 1466015503701 := by omega
    match x, y, hn with
    | [], [], _ =>
      refine ev_succ ?_
      have e0 : wrap64 ((([] : List S33).length : Int) + (([] : List S33).length : Int)) = 0 := w64 (x := (0 : Int)) (by decide) (by decide)
      simp only [impl_Woven.l0, e0]
      refine ev_neg (by decide) ?_
      rw [wv, List.append_nil]
      exact Ev.now _
    | [], b :: y, hn =>
      have hl : (([] : List S33).length : Int) = 0 := rfl
      have g4 : (0 : Int) < ((b :: y).length : Int) := by rw [List.length_cons]; omega
      have g5 : (1 : Int) ≤ ((b :: y).length : Int) := by omega
      have hr : rd_T33 (b :: y) 0 = b := rfl
      have hd : (b :: y).drop 1 = y := rfl
      have key := ih [] y (out ++ [b]) (i + 1) (by simp at hn ⊢; omega) (by omega) (by simp; omega)
      have hb : (b :: y).length ≤ 4194304 := by simp at hn ⊢; omega
      have e1 : wrap64 ((i : Int) + 1) = ((i + 1 : Nat) : Int) := by rw [w64 (by omega) (by omega)]; omega
      have e2 : wrap64 ((([] : List S33).length : Int) + ((b :: y).length : Int)) = ((b :: y).length : Int) := by rw [hl, Int.zero_add]; exact w64 (by omega) (by omega)
      refine ev_succ ?_
      simp only [impl_Woven.l0, e2]
      refine ev_pos g4 ?_
      rw [wv]
      by_cases h : (i : Int) < (ps.length : Int)
      · refine ev_pos h (ev_pos g2 (ev_pos hl (ev_pos g4 (ev_pos g6 (ev_pos g5 ?_)))))
        rw [e1, hr, hd]
        refine ev_eq key ?_
        simp
      · refine ev_neg h (ev_pos hl (ev_pos g4 (ev_pos g6 (ev_pos g5 ?_))))
        rw [e1, hr, hd]
        refine ev_eq key ?_
        simp
    | a :: x, [], hn =>
      have hl : ¬ ((a :: x).length : Int) = 0 := by rw [List.length_cons]; omega
      have hl' : ¬ (([] : List S33).length : Int) > 0 := by decide
      have g4 : (0 : Int) < ((a :: x).length : Int) := by rw [List.length_cons]; omega
      have g5 : (1 : Int) ≤ ((a :: x).length : Int) := by omega
      have hr : rd_T33 (a :: x) 0 = a := rfl
      have hd : (a :: x).drop 1 = x := rfl
      have key := ih x [] (out ++ [a]) (i + 1) (by simp at hn ⊢; omega) (by omega) (by simp; omega)
      have hb : (a :: x).length ≤ 4194304 := by simp at hn ⊢; omega
      have e1 : wrap64 ((i : Int) + 1) = ((i + 1 : Nat) : Int) := by rw [w64 (by omega) (by omega)]; omega
      have e2 : wrap64 (((a :: x).length : Int) + (([] : List S33).length : Int)) = ((a :: x).length : Int) := by rw [show (([] : List S33).length : Int) = 0 from rfl, Int.add_zero]; exact w64 (by omega) (by omega)
      refine ev_succ ?_
      simp only [impl_Woven.l0, e2]
      refine ev_pos g4 ?_
      rw [wv]
      by_cases h : (i : Int) < (ps.length : Int)
      · refine ev_pos h (ev_pos g2 (ev_neg hl ?_))
        by_cases ht : Int.tmod (rd ps (i : Int)) 2 = 0
        · refine ev_pos ht (ev_pos g4 (ev_pos g6 (ev_pos g5 ?_)))
          rw [e1, hr, hd]
          refine ev_eq key ?_
          simp
        · refine ev_neg ht (ev_neg hl' (ev_pos g4 (ev_pos g6 (ev_pos g5 ?_))))
          rw [e1, hr, hd]
          refine ev_eq key ?_
          simp
      · refine ev_neg h (ev_neg hl (ev_pos g4 (ev_pos g6 (ev_pos g5 ?_))))
        rw [e1, hr, hd]
        refine ev_eq key ?_
        simp
    | a :: x, b :: y, hn =>
      have hl : ¬ ((a :: x).length : Int) = 0 := by rw [List.length_cons]; omega
      have g4 : (0 : Int) < ((a :: x).length : Int) := by rw [List.length_cons]; omega
      have g5 : (1 : Int) ≤ ((a :: x).length : Int) := by omega
      have m4 : (0 : Int) < ((b :: y).length : Int) := by rw [List.length_cons]; omega
      have m5 : (1 : Int) ≤ ((b :: y).length : Int) := by omega
      have hr : rd_T33 (a :: x) 0 = a := rfl
      have hd : (a :: x).drop 1 = x := rfl
      have hr' : rd_T33 (b :: y) 0 = b := rfl
      have hd' : (b :: y).drop 1 = y := rfl
      have key := ih x (b :: y) (out ++ [a]) (i + 1) (by simp at hn ⊢; omega) (by omega) (by simp; omega)
      have key' := ih (a :: x) y (out ++ [b]) (i + 1) (by simp at hn ⊢; omega) (by omega) (by simp; omega)
      have hb : (a :: x).length + (b :: y).length ≤ 4194304 := by omega
      have e1 : wrap64 ((i : Int) + 1) = ((i + 1 : Nat) : Int) := by rw [w64 (by omega) (by omega)]; omega
      have e2 : wrap64 (((a :: x).length : Int) + ((b :: y).length : Int)) = ((a :: x).length : Int) + ((b :: y).length : Int) := w64 (by omega) (by omega)
      refine ev_succ ?_
      simp only [impl_Woven.l0, e2]
      refine ev_pos (show ((a :: x).length : Int) + ((b :: y).length : Int) > 0 from Int.add_pos g4 m4) ?_
      rw [wv]
      by_cases h : (i : Int) < (ps.length : Int)
      · refine ev_pos h (ev_pos g2 (ev_neg hl ?_))
        have h' : i < ps.length := Int.ofNat_lt.1 h
        by_cases ht : Int.tmod (rd ps (i : Int)) 2 = 0
        · refine ev_pos ht (ev_pos g4 (ev_pos g6 (ev_pos g5 ?_)))
          rw [e1, hr, hd]
          refine ev_eq key ?_
          simp [od, ht]
        · refine ev_neg ht (ev_pos m4 (ev_pos m4 (ev_pos g6 (ev_pos m5 ?_))))
          rw [e1, hr', hd']
          refine ev_eq key' ?_
          simp [od, ht, h']
      · refine ev_neg h (ev_neg hl (ev_pos g4 (ev_pos g6 (ev_pos g5 ?_))))
        have h' : ¬ i < ps.length := fun q => h (Int.ofNat_lt.2 q)
        rw [e1, hr, hd]
        refine ev_eq key ?_
        simp [od, h']
theorem spec_AsksIn_ev (xs : List S33) (hl : xs.length ≤ 4194304) : Ev (fun k => spec_AsksIn.f k xs) ((xs.filter fun x => decide (x.f0 = 1)).length : Int) := by
  refine count_ev (xs := xs) (fun x => decide (x.f0 = 1)) (fun k c i => spec_AsksIn.l0 k xs c i) (by omega) ?_ ?_
  · intro k c
    simp only [spec_AsksIn.l0, if_neg (Int.lt_irrefl _)]
  · intro k c i a hget hlt h1 h2
    have e1 : wrap64 ((i : Int) + 1) = (i : Int) + 1 := w64 (by omega) (by omega)
    have e2 : wrap64 (c + 1) = c + 1 := w64 (by omega) (by omega)
    have hr : rd_T33 xs (i : Int) = a := getD_get i a hget
    simp only [spec_AsksIn.l0, e1, e2, hr, if_pos (show (i : Int) < (xs.length : Int) by omega), if_pos (show (0 : Int) ≤ (i : Int) by omega), decide_eq_true_eq]
theorem impl_AsksIn_ev (xs : List S33) (hl : xs.length ≤ 4194304) : Ev (fun k => impl_AsksIn.f k xs) ((xs.filter fun x => decide (x.f0 = 1)).length : Int) := by
  refine count_ev (xs := xs) (fun x => decide (x.f0 = 1)) (fun k c i => impl_AsksIn.l0 k c xs xs.length i) (by omega) ?_ ?_
  · intro k c
    simp only [impl_AsksIn.l0, if_neg (Int.lt_irrefl _)]
  · intro k c i a hget hlt h1 h2
    have e1 : wrap64 ((i : Int) + 1) = (i : Int) + 1 := w64 (by omega) (by omega)
    have e2 : wrap64 (c + 1) = c + 1 := w64 (by omega) (by omega)
    have hr : rd_T33 xs (i : Int) = a := getD_get i a hget
    simp only [impl_AsksIn.l0, e1, e2, hr, if_pos (show (i : Int) < (xs.length : Int) by omega), if_pos (show (0 : Int) ≤ (i : Int) by omega), decide_eq_true_eq]

theorem wv_all (ps : List Int) (q : S33 → Bool) : ∀ n x y i, x.length + y.length ≤ n → (∀ e ∈ x, pick 0 e = [e] ∧ pick 1 e = []) → (∀ e ∈ y, pick 1 e = [e] ∧ pick 0 e = []) → (wv ps n x y i).flatMap (pick 0) = x ∧ (wv ps n x y i).flatMap (pick 1) = y ∧ (wv ps n x y i).length = x.length + y.length ∧ ((wv ps n x y i).filter q).length = (x.filter q).length + (y.filter q).length := by
  intro n
  induction n with
  | zero =>
    intro x y i hn hx hy
    have h1 : x = [] := List.length_eq_zero_iff.1 (by omega)
    have h2 : y = [] := List.length_eq_zero_iff.1 (by omega)
    subst h1 h2
    simp [wv]
  | succ n ih =>
    intro x y i hn hx hy
    have left : ∀ (b : S33) (y' : List S33), y = b :: y' → (b :: wv ps n x y' (i + 1)).flatMap (pick 0) = x ∧ (b :: wv ps n x y' (i + 1)).flatMap (pick 1) = y ∧ (b :: wv ps n x y' (i + 1)).length = x.length + y.length ∧ ((b :: wv ps n x y' (i + 1)).filter q).length = (x.filter q).length + (y.filter q).length := by
      rintro b y' rfl
      obtain ⟨k1, k2, k3, k4⟩ := ih x y' (i + 1) (by simp only [List.length_cons] at hn; omega) hx (fun e he => hy e (List.mem_cons_of_mem _ he))
      obtain ⟨p1, p0⟩ := hy b List.mem_cons_self
      refine ⟨by simp [p0, k1], by simp [p1, k2], by simp only [List.length_cons, k3]; omega, ?_⟩
      simp only [List.filter_cons]
      split <;> simp only [List.length_cons, k4] <;> omega
    have right : ∀ (a : S33) (x' : List S33), x = a :: x' → (a :: wv ps n x' y (i + 1)).flatMap (pick 0) = x ∧ (a :: wv ps n x' y (i + 1)).flatMap (pick 1) = y ∧ (a :: wv ps n x' y (i + 1)).length = x.length + y.length ∧ ((a :: wv ps n x' y (i + 1)).filter q).length = (x.filter q).length + (y.filter q).length := by
      rintro a x' rfl
      obtain ⟨k1, k2, k3, k4⟩ := ih x' y (i + 1) (by simp only [List.length_cons] at hn; omega) (fun e he => hx e (List.mem_cons_of_mem _ he)) hy
      obtain ⟨p1, p0⟩ := hx a List.mem_cons_self
      refine ⟨by simp [p1, k1], by simp [p0, k2], by simp only [List.length_cons, k3]; omega, ?_⟩
      simp only [List.filter_cons]
      split <;> simp only [List.length_cons, k4] <;> omega
    match x, y, left, right with
    | [], [], _, _ => simp [wv]
    | [], b :: y, left, _ => rw [wv]; exact left b y rfl
    | a :: x, [], _, right => rw [wv]; exact right a x rfl
    | a :: x, b :: y, left, right =>
      rw [wv]
      split
      · exact left b y rfl
      · exact right a x rfl
theorem pick_of {t : Int} {A : List S33} {e : S33} (h : e ∈ A.flatMap (pick t)) : e.f1 = t ∧ (e.f0 = 1 ∨ e.f0 = 2) := by
  obtain ⟨a, _, ha⟩ := List.mem_flatMap.1 h
  unfold pick at ha
  split at ha
  · rename_i hc
    rw [List.mem_singleton.1 ha]
    exact hc
  · simp at ha
theorem pick_self {t : Int} {e : S33} (h : e.f1 = t ∧ (e.f0 = 1 ∨ e.f0 = 2)) : pick t e = [e] := by unfold pick; rw [if_pos h]
theorem pick_not {t : Int} {e : S33} (h : ¬ e.f1 = t) : pick t e = [] := by unfold pick; rw [if_neg (fun q => h q.1)]
theorem flat_len {f : S33 → List S33} (hf : ∀ a, (f a).length ≤ 1) (l : List S33) : (l.flatMap f).length ≤ l.length := by
  induction l with
  | nil => simp
  | cons a l ih => have := hf a; simp only [List.flatMap_cons, List.length_append, List.length_cons]; omega
theorem loop1 (x y out b : List S33) (hb : b = y) (hy : y.length ≤ 1048576) (h : Ev (fun k => (impl_AsksIn.f k out).bind fun t430 => ((spec_AsksIn.f k x).bind fun t431 => ((spec_AsksIn.f k y).bind fun t432 => (if t430 = (wrap64 (t431 + t432)) then ((impl_AsksIn.f k (([(⟨1, 0, (⟨0, (⟨#[]⟩ : ByteArray), (⟨#[]⟩ : ByteArray), 0, 0, (⟨#[]⟩ : ByteArray)⟩ : S31), 0⟩ : S33)] : List (S33)))).bind fun t436 => (some (t436 == 1))) else (some false))))) true) : Ev (fun k => laws_FnWoven.l1 k x y out b 0) true := by
  subst hb
  refine loop (xs := b) (fun k (_ : Unit) i => laws_FnWoven.l1 k x b out b i) (fun _ _ => true) (fun _ _ _ => True) ?_ ?_ () trivial
  · intro _ _
    refine ev_succ ?_
    simp only [laws_FnWoven.l1, if_neg (Int.lt_irrefl _)]
    exact h
  · intro _ i a rest hd hlt hget _ ih
    have f1 : (i : Int) < (b.length : Int) := by omega
    have f2 : (0 : Int) ≤ (i : Int) := by omega
    have e1 : wrap64 ((i : Int) + 1) = (i : Int) + 1 := w64 (by omega) (by omega)
    refine ev_succ ?_
    simp only [laws_FnWoven.l1, if_pos f1, if_pos f2, beq_self_eq_true, Bool.not_true, Bool.or_false, Bool.false_eq_true, if_false, e1]
    exact ih () trivial
theorem loop0 (x y out a b : List S33) (ha : a = x) (hx : x.length ≤ 1048576) (h : Ev (fun k => laws_FnWoven.l1 k x y out b 0) true) : Ev (fun k => laws_FnWoven.l0 k x y out a b 0) true := by
  subst ha
  refine loop (xs := a) (fun k (_ : Unit) i => laws_FnWoven.l0 k a y out a b i) (fun _ _ => true) (fun _ _ _ => True) ?_ ?_ () trivial
  · intro _ _
    refine ev_succ ?_
    simp only [laws_FnWoven.l0, if_neg (Int.lt_irrefl _)]
    exact h
  · intro _ i e rest hd hlt hget _ ih
    have f1 : (i : Int) < (a.length : Int) := by omega
    have f2 : (0 : Int) ≤ (i : Int) := by omega
    have e1 : wrap64 ((i : Int) + 1) = (i : Int) + 1 := w64 (by omega) (by omega)
    refine ev_succ ?_
    simp only [laws_FnWoven.l0, if_pos f1, if_pos f2, beq_self_eq_true, Bool.not_true, Bool.or_false, Bool.false_eq_true, if_false, e1]
    exact ih () trivial
theorem drawl_ex (bs : List Int) (hn : bs.length ≤ 1048576) (x y : List S33) : ∀ (m : Nat) (ps : List Int) (i p s : Int), (30 - i).toNat ≤ m → 0 ≤ i → ps.length + m ≤ 1000 → 0 ≤ p → p ≤ bs.length → ∃ ps', Ev (fun k => spec_DrawWoven.l0 k x y ps i bs p s) (x, y, ps') ∧ ps'.length ≤ 1000 := by
  intro m
  induction m with
  | zero =>
    intro ps i p s hm hi hl h0 h1
    obtain ⟨v, p1, s1, e1, b1, c1, _, d1, f1⟩ := below_ex bs hn p s 30 h0 h1
    have c1' := c1 (by omega)
    refine ⟨ps, ev_succ ?_, by omega⟩
    simp only [spec_DrawWoven.l0, e1, Option.bind_some, if_neg (show ¬ i < v by omega)]
    exact Ev.now _
  | succ m ih =>
    intro ps i p s hm hi hl h0 h1
    obtain ⟨v, p1, s1, e1, b1, c1, _, d1, f1⟩ := below_ex bs hn p s 30 h0 h1
    have c1' := c1 (by omega)
    by_cases hc : i < v
    · obtain ⟨v2, p2, s2, e2, _, d2, f2⟩ := pickint_ex bs hn p1 s1 [0, 1, 0, 1, (-1), 7] (by decide) d1 f1
      have g1 : ps.length < 17592186044416 := by omega
      have g2 : wrap64 (i + 1) = i + 1 := w64 (by omega) (by omega)
      obtain ⟨ps', h', hl'⟩ := ih (ps ++ [v2]) (i + 1) p2 s2 (by omega) (by omega) (by rw [List.length_append]; simp only [List.length_cons, List.length_nil]; omega) d2 f2
      refine ⟨ps', ev_succ ?_, hl'⟩
      simp only [spec_DrawWoven.l0, e1, Option.bind_some, if_pos hc, e2, if_pos g1, g2]
      exact h'
    · refine ⟨ps, ev_succ ?_, by omega⟩
      simp only [spec_DrawWoven.l0, e1, Option.bind_some, if_neg hc]
      exact Ev.now _
theorem draw_ex (l0 : List Int) (hn : l0.length ≤ 1048576) : ∃ x y ps, Ev (fun k => spec_DrawWoven.f k l0) (x, y, ps) ∧ x.length ≤ 1048576 ∧ y.length ≤ 1048576 ∧ (∀ e ∈ x, e.f1 = 0 ∧ (e.f0 = 1 ∨ e.f0 = 2)) ∧ (∀ e ∈ y, e.f1 = 1 ∧ (e.f0 = 1 ∨ e.f0 = 2)) := by
  obtain ⟨s, hs⟩ := new_ex l0
  obtain ⟨r, hr, r1, r2, r3⟩ := acts_ex l0 hn 0 s 4 (by omega) (by omega) (by omega) (by omega)
  obtain ⟨u, hu, u1, u2, u3⟩ := acts_ex l0 hn r.2.1 r.2.2 4 (by omega) (by omega) r2 r3
  have ho := spec_ev r.1 0 (by omega)
  have ho2 := spec_ev u.1 1 (by omega)
  have hlx := flat_len (pick_le 0) r.1
  have hly := flat_len (pick_le 1) u.1
  obtain ⟨ps, hp, _⟩ := drawl_ex l0 hn (r.1.flatMap (pick 0)) (u.1.flatMap (pick 1)) 30 [] 0 u.2.1 u.2.2 (by omega) (by omega) (by simp) u2 u3
  refine ⟨_, _, ps, ?_, Nat.le_trans hlx r1, Nat.le_trans hly u1, fun e he => pick_of he, fun e he => pick_of he⟩
  unfold spec_DrawWoven.f
  refine Ev.bind hs (Ev.bind hr (Ev.bind ho (Ev.bind hu (Ev.bind ho2 ?_))))
  exact hp
theorem FnWoven : Go.Proofs.Ytklghegofjigoaa.QFnWoven.Stated := by
  intro l0 y0
  unfold laws_FnWoven.f
  refine Ev.rounds (Ev.bind (now_of (r := decide ((l0.length : Int) > 1048576)) rfl) ?_)
  by_cases hb : (l0.length : Int) > 1048576
  · exact ev_pos (decide_eq_true hb) (Ev.now _)
  · refine ev_neg (by simpa using hb) ?_
    obtain ⟨x, y, ps, hd, hx, hy, hpx, hpy⟩ := draw_ex l0 (by omega)
    refine Ev.bind hd ?_
    have hw := impl_w ps (x.length + y.length) x y [] 0 (Nat.le_refl _) (by omega) (Nat.le_refl _)
    rw [List.nil_append] at hw
    obtain ⟨k1, k2, k3, k4⟩ := wv_all ps (fun x => decide (x.f0 = 1)) (x.length + y.length) x y 0 (Nat.le_refl _) (fun e he => ⟨pick_self (hpx e he), pick_not (by rw [(hpx e he).1]; decide)⟩) (fun e he => ⟨pick_self (hpy e he), pick_not (by rw [(hpy e he).1]; decide)⟩)
    generalize hz : wv ps (x.length + y.length) x y 0 = z at hw k1 k2 k3 k4
    have hzl : z.length ≤ 4194304 := by omega
    have h0 := impl_ev z 0 hzl
    have h1 := impl_ev z 1 hzl
    rw [k1] at h0
    rw [k2] at h1
    have c0 := impl_AsksIn_ev z hzl
    have c1 := spec_AsksIn_ev x (by omega)
    have c2 := spec_AsksIn_ev y (by omega)
    have c3 := impl_AsksIn_ev [(⟨1, 0, (⟨0, (⟨#[]⟩ : ByteArray), (⟨#[]⟩ : ByteArray), 0, 0, (⟨#[]⟩ : ByteArray)⟩ : S31), 0⟩ : S33)] (by decide)
    have fx := List.length_filter_le (fun x : S33 => decide (x.f0 = 1)) x
    have fy := List.length_filter_le (fun x : S33 => decide (x.f0 = 1)) y
    refine Ev.bind hw (Ev.bind h0 (Ev.bind h1 ?_))
    have e1 : wrap64 ((x.length : Int) + (y.length : Int)) = (x.length : Int) + (y.length : Int) := w64 (by omega) (by omega)
    have e2 : (z.length : Int) = (x.length : Int) + (y.length : Int) := by omega
    have e3 : ∀ n m : Nat, n ≤ 1048576 → m ≤ 1048576 → wrap64 ((n : Int) + (m : Int)) = (n : Int) + (m : Int) := fun n m _ _ => w64 (by omega) (by omega)
    rw [e1]
    refine ev_pos e2 (ev_pos rfl (ev_succ ?_))
    simp only [laws_FnWoven.j0, bne_self_eq_false, Bool.false_eq_true, if_false]
    refine loop0 _ _ _ _ _ rfl hx (loop1 _ _ _ _ rfl hy ?_)
    refine Ev.bind c0 (Ev.bind c1 (Ev.bind c2 ?_))
    rw [e3 _ _ (Nat.le_trans fx hx) (Nat.le_trans fy hy)]
    refine ev_pos (by rw [k4]; omega) ?_
    exact Ev.bind c3 (Ev.now _)
end Go.Proofs.Ytklghegofjigoaa.Pure
