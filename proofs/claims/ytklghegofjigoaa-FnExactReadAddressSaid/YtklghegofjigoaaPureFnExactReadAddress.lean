/-
  FnExactReadAddress: the pure part: what the law computes is true, whatever the input.
-/
import Derived.Test.YtklghegofjigoaaOpenFnExactReadAddress
import Derived.Test.YtklghegofjigoaaKit2
namespace Go.Proofs.Ytklghegofjigoaa.Pure
open Go.RowKit Go.Proofs.YtklghegofjigoaaW.PrintWords Go.Proofs.YtklghegofjigoaaW.PrintLast Go.Proofs.YtklghegofjigoaaW.PrintMore Go.Proofs.Ytklghegofjigoaa.QFnExactReadAddress Go.Proofs.Ytklghegofjigoaa.Kit
set_option linter.unusedVariables false
set_option linter.unusedSimpArgs false

theorem long_ev (n : Nat) (x : Int) (hn : n ≤ 1048576) : Ev (fun k => spec_l01Long.f k (n : Int) x) (strOfNums (List.replicate n x)) := by
  unfold spec_l01Long.f
  refine ev_pos (by omega) (ev_pos (by simp; omega) ?_)
  have hz : (List.replicate n x).length = n := by simp
  have key := fill_ev' (z := List.replicate n x) strOfNums (List.replicate n (0 : Int)) (by simp) (fun k y i => spec_l01Long.l0 k (n : Int) x y i) ?_ ?_
  · simpa using key
  · intro k y hy
    rw [hz]
    simp only [spec_l01Long.l0, if_neg (Int.lt_irrefl _)]
  · intro y i a hget hlt hy r ih
    rw [hz] at hlt hy
    have ha : a = x := by
      have := List.mem_of_getElem? hget
      exact List.eq_of_mem_replicate this
    subst ha
    have e : wrap64 ((i : Int) + 1) = (i : Int) + 1 := w64 (by omega) (by omega)
    refine ev_succ ?_
    simp only [spec_l01Long.l0, if_pos (show (i : Int) < (n : Int) by omega), if_pos (show (0 : Int) ≤ (i : Int) by omega), if_pos (show (i : Int) < (y.length : Int) by omega), Int.toNat_natCast, e]
    exact ih

theorem in_ev (a b c : Int) : spec_l01In.f a b c = some (decide (b ≤ a ∧ a ≤ c)) := by
  unfold spec_l01In.f
  split <;> simp <;> omega
theorem within_ev (a b c : Int) : impl_within.f a b c = some (decide (b ≤ a ∧ a ≤ c)) := by
  unfold impl_within.f
  split <;> simp <;> omega
theorem spec_numl (n : Int) (hn : 0 ≤ n) : ∀ (m : Nat) (y : List Int), m ≤ 7 → y.length + m ≤ 100 → Ev (fun k => spec_NumText.l0 k n y ((m : Int) - 1)) (strOfNums (y ++ dg n m))
  | 0, y, _, _ => by
    refine ev_succ ?_
    simp only [spec_NumText.l0, if_neg (show ¬ ((0 : Nat) : Int) - 1 ≥ 0 by omega), dg, List.append_nil]
    exact Ev.now _
  | m + 1, y, hm, hy => by
    have e1 : (((m + 1 : Nat) : Int) - 1) = (m : Int) := by omega
    have e2 : IntKind.u64.wrap (m : Int) = m := wrapu (by omega) (by omega)
    have e3 : IntKind.u64.wrap (8 * (m : Int)) = 8 * m := wrapu (by omega) (by omega)
    have e4 : wrap64 ((m : Int) - 1) = (m : Int) - 1 := w64 (by omega) (by omega)
    have ih := spec_numl n hn m (y ++ [(n / 2 ^ (8 * m)) % 256]) (by omega) (by rw [List.length_append]; simp; omega)
    rw [e1]
    refine ev_succ ?_
    simp only [spec_NumText.l0, if_pos (show (m : Int) ≥ 0 by omega), e2, e3, e4, if_pos (show (0 : Int) ≤ 8 * (m : Int) by omega), if_pos (show y.length < 140737488355328 by omega), shr_i64 n m (by omega)]
    simpa [dg, List.append_assoc] using ih

theorem spec_num (n : Int) (w : Nat) (hw : 1 ≤ w ∧ w ≤ 7) (hn : n ≤ 9223372036854775807) : Ev (fun k => spec_NumText.f k n (w : Int)) (if 0 ≤ n ∧ n < 2 ^ (8 * w) then strOfNums (dg n w) else ⟨#[]⟩) := by
  unfold spec_NumText.f
  by_cases h0 : n < 0
  · refine ev_pos h0 (ev_succ ?_)
    simp only [spec_NumText.j0, if_true]
    rw [if_neg (by omega)]
    exact Ev.now _
  · refine ev_neg h0 ?_
    rw [in_ev]
    have e2 : IntKind.u64.wrap (w : Int) = w := wrapu (by omega) (by omega)
    have e3 : IntKind.u64.wrap (8 * (w : Int)) = 8 * w := wrapu (by omega) (by omega)
    refine Ev.bind (Ev.now _) (ev_pos (by simp; omega) ?_)
    rw [e2, e3, shr_i64 n w (by omega)]
    refine ev_pos (by omega) (ev_succ ?_)
    simp only [spec_NumText.j0, decide_eq_true_eq]
    have hp : (0 : Int) < 2 ^ (8 * w) := Int.pow_pos (by decide)
    by_cases hb : n / 2 ^ (8 * w) > 0
    · rw [if_neg (fun h => by have := Int.ediv_eq_zero_of_lt h.1 h.2; omega)]
      simp only [if_pos hb]
      exact Ev.now _
    · have hlt : n < 2 ^ (8 * w) := by
        have h1 : n / 2 ^ (8 * w) ≤ 0 := by omega
        have h2 : n / 2 ^ (8 * w) < 1 := by omega
        have := (Int.ediv_lt_iff_lt_mul hp).1 h2
        omega
      rw [if_pos ⟨by omega, hlt⟩]
      simp only [if_neg hb]
      have e4 : wrap64 ((w : Int) - 1) = (w : Int) - 1 := w64 (by omega) (by omega)
      rw [e4]
      simpa using spec_numl n (by omega) w [] (by omega) (by simp; omega)
theorem shl_one (w : Nat) (hw : 1 ≤ w ∧ w ≤ 7) : shl .i64 1 (8 * (w : Int)) = 2 ^ (8 * w) := by
  obtain ⟨h1, h2⟩ := hw
  have : w = 1 ∨ w = 2 ∨ w = 3 ∨ w = 4 ∨ w = 5 ∨ w = 6 ∨ w = 7 := by omega
  rcases this with rfl | rfl | rfl | rfl | rfl | rfl | rfl <;> decide
theorem impl_num (n : Int) (w : Nat) (hw : 1 ≤ w ∧ w ≤ 7) (hn : n ≤ 9223372036854775807) : Ev (fun k => impl_NumText.f k n (w : Int)) (if 0 ≤ n ∧ n < 2 ^ (8 * w) then strOfNums (dg n w) else ⟨#[]⟩) := by
  unfold impl_NumText.f
  by_cases h0 : n < 0
  · refine ev_pos h0 (ev_succ ?_)
    simp only [impl_NumText.j0, if_true]
    rw [if_neg (by omega)]
    exact Ev.now _
  · refine ev_neg h0 ?_
    rw [within_ev]
    have e3 : wrap64 (8 * (w : Int)) = 8 * w := w64 (by omega) (by omega)
    refine Ev.bind (Ev.now _) (ev_pos (by simp; omega) ?_)
    rw [e3, shl_one w hw]
    refine ev_pos (by omega) (ev_succ ?_)
    simp only [impl_NumText.j0, decide_eq_true_eq]
    by_cases hb : n ≥ 2 ^ (8 * w)
    · rw [if_neg (by omega)]
      simp only [if_pos hb]
      exact Ev.now _
    · rw [if_pos (by omega)]
      simp only [if_neg hb]
      refine ev_pos (by omega) (ev_pos (by simp; omega) ?_)
      simp only [Option.bind_some, Int.toNat_natCast, List.length_replicate]
      have key := fill_ev' (z := dg n w) strOfNums (List.replicate w (0 : Int)) (by simp [dg_length]) (fun k y i => impl_NumText.l0 k n (w : Int) y (w : Int) i) ?_ ?_
      · exact key
      · intro k y hy
        rw [dg_length]
        simp only [impl_NumText.l0, if_neg (Int.lt_irrefl _)]
      · clear hb
        intro y i a hget hlt hy r ih
        rw [dg_length] at hlt hy
        rw [dg_get n w i hlt] at hget
        obtain rfl := Option.some.inj hget
        have e4 : wrap64 ((w : Int) - 1) = (w : Int) - 1 := w64 (by omega) (by omega)
        have e5 : (w : Int) - 1 - (i : Int) = ((w - 1 - i : Nat) : Int) := by omega
        have e6 : wrap64 (((w - 1 - i : Nat) : Int)) = ((w - 1 - i : Nat) : Int) := w64 (by omega) (by omega)
        have e7 : wrap64 (8 * ((w - 1 - i : Nat) : Int)) = 8 * ((w - 1 - i : Nat) : Int) := w64 (by omega) (by omega)
        have e : wrap64 ((i : Int) + 1) = (i : Int) + 1 := w64 (by omega) (by omega)
        refine ev_succ ?_
        simp only [impl_NumText.l0, if_pos (show (i : Int) < (w : Int) by omega), if_pos (show (0 : Int) ≤ (i : Int) by omega), if_pos (show (i : Int) < (y.length : Int) by omega), Int.toNat_natCast, e, e4, e5, e6, e7, shr_i64 n (w - 1 - i) (by omega)]
        refine ev_pos (by omega) ?_
        exact ih

theorem or_byte (s b : Int) (h0 : 0 ≤ s) (h1 : s < 36028797018963968) (h2 : 0 ≤ b) (h3 : b ≤ 255) : Go.bits .or .i64 (s * 256) b = 256 * s + b := by
  rw [bits_join .i64 63 (by decide) (fun n h1 h2 => by rw [IntKind.wrap_i64]; omega) 8 (s * 256) b (by omega) (by omega) (by omega) h2 (by omega) (by omega)]
  omega
def val (l : List UInt8) : Int := l.foldl (fun s b => 256 * s + (b.toNat : Int)) 0
theorem val_bounds (l : List UInt8) : ∀ (s : Int), 0 ≤ s → 0 ≤ l.foldl (fun s b => 256 * s + (b.toNat : Int)) s ∧ l.foldl (fun s b => 256 * s + (b.toNat : Int)) s < (s + 1) * 256 ^ l.length := by
  induction l with
  | nil => intro s h; simp; omega
  | cons b l ih =>
    intro s h
    have hb : (b.toNat : Int) ≤ 255 := by have := b.toNat_lt; omega
    have hs : 256 * s + (b.toNat : Int) + 1 ≤ (s + 1) * 256 := by omega
    have := ih (256 * s + (b.toNat : Int)) (by omega)
    refine ⟨this.1, Int.lt_of_lt_of_le this.2 ?_⟩
    rw [List.length_cons, Int.pow_succ, Int.mul_comm ((256 : Int) ^ l.length), ← Int.mul_assoc]
    exact Int.mul_le_mul_of_nonneg_right hs (Int.pow_nonneg (by decide))
theorem pow_small (i : Nat) (h : i ≤ 6) : (256 : Int) ^ i ≤ 281474976710656 := by
  have : i = 0 ∨ i = 1 ∨ i = 2 ∨ i = 3 ∨ i = 4 ∨ i = 5 ∨ i = 6 := by omega
  rcases this with rfl | rfl | rfl | rfl | rfl | rfl | rfl <;> decide
theorem win_get {a : ByteArray} {at_ w i : Nat} {b : UInt8} (h : ((a.data.toList.drop at_).take w)[i]? = some b) : i < w ∧ bt a ((at_ : Int) + (i : Int)) = (b.toNat : Int) := by
  have hi : i < w := by
    have := (List.getElem?_eq_some_iff.1 h).1
    rw [List.length_take] at this; omega
  rw [List.getElem?_take, if_pos hi, List.getElem?_drop] at h
  refine ⟨hi, ?_⟩
  have := bt_get h
  rw [← this]
  congr 1
theorem win_len {a : ByteArray} {at_ w : Nat} (h : at_ + w ≤ a.size) : ((a.data.toList.drop at_).take w).length = w := by
  rw [List.length_take, List.length_drop, ba_size]; omega
theorem step_bound (s : Int) (i w : Nat) (b : Int) (hi : i < w) (hw : w ≤ 7) (h1 : 0 ≤ s) (h2 : s < 256 ^ i) (hb0 : 0 ≤ b) (hb : b ≤ 255) : s < 281474976710656 ∧ 256 * s + b < 256 ^ (i + 1) := by
  have hp := pow_small i (by omega)
  rw [Int.pow_succ]
  generalize (256 : Int) ^ i = q at hp h2 ⊢
  omega
theorem w256 (s b : Int) (h1 : 0 ≤ s) (h2 : s < 281474976710656) (h3 : 0 ≤ b) (h4 : b ≤ 255) : wrap64 (256 * s + b) = 256 * s + b := w64 (by omega) (by omega)
theorem spec_numat (a : ByteArray) (at_ w : Nat) (hw : 1 ≤ w ∧ w ≤ 7) (ha : a.size ≤ 1048576) (hat : at_ ≤ 1048576) : Ev (fun k => spec_NumAt.f k a (at_ : Int) (w : Int)) (if at_ + w ≤ a.size then (val ((a.data.toList.drop at_).take w), true) else (0, false)) := by
  unfold spec_NumAt.f
  rw [in_ev, in_ev]
  have e0 : wrap64 ((a.size : Int) - (w : Int)) = (a.size : Int) - w := w64 (by omega) (by omega)
  rw [e0]
  refine Ev.bind (Ev.now _) (ev_pos (by simp; omega) (Ev.bind (Ev.now _) (ev_succ ?_)))
  by_cases h : at_ + w ≤ a.size
  · rw [if_pos h]
    simp only [spec_NumAt.j0, show (decide ((0 : Int) ≤ (at_ : Int) ∧ (at_ : Int) ≤ (a.size : Int) - (w : Int))) = true by simp; omega, Bool.not_true, Bool.false_eq_true, if_false]
    have hl := win_len h
    have key := fold_ev (xs := (a.data.toList.drop at_).take w) (fun k s i => spec_NumAt.l0 k a (at_ : Int) (w : Int) s ((at_ : Int) + i)) (fun s b => 256 * s + (b.toNat : Int)) (fun s => (s, true)) (fun s i => 0 ≤ s ∧ Aside0 (s < 256 ^ i)) ?_ ?_ 0 ⟨by omega, ⟨by decide⟩⟩
    · have key' : Ev (fun k => spec_NumAt.l0 k a (at_ : Int) (w : Int) 0 ((at_ : Int) + 0)) (val ((a.data.toList.drop at_).take w), true) := key
      rw [Int.add_zero] at key'
      exact key'
    · intro k s _
      rw [hl]
      have e1 : wrap64 ((at_ : Int) + (w : Int)) = (at_ : Int) + w := w64 (by omega) (by omega)
      simp only [spec_NumAt.l0, e1, if_neg (Int.lt_irrefl _)]
    · intro s i b hget hlt ⟨h1, h2⟩
      obtain ⟨hi, hbt⟩ := win_get hget
      have hb : (b.toNat : Int) ≤ 255 := by have := b.toNat_lt; omega
      obtain ⟨h3, h4⟩ := step_bound s i w (b.toNat : Int) hi hw.2 h1 h2.out (by omega) hb
      have H4 := Aside0.mk h4
      clear h4 h2
      have f1 : (at_ : Int) + (i : Int) < (at_ : Int) + (w : Int) := by omega
      have f2 : (0 : Int) ≤ (at_ : Int) + (i : Int) := by omega
      have f3 : (at_ : Int) + (i : Int) < (a.size : Int) := by omega
      have e1 : wrap64 ((at_ : Int) + (w : Int)) = (at_ : Int) + w := w64 (by omega) (by omega)
      have e2 : wrap64 ((at_ : Int) + (i : Int) + 1) = (at_ : Int) + ((i : Int) + 1) := by rw [w64 (by omega) (by omega)]; omega
      have e3 : wrap64 (256 * s) = 256 * s := w64 (by omega) (by omega)
      have e4 : wrap64 (b.toNat : Int) = (b.toNat : Int) := w64 (by omega) (by omega)
      have e5 : wrap64 (256 * s + (b.toNat : Int)) = 256 * s + (b.toNat : Int) := w256 s _ h1 h3 (Int.natCast_nonneg _) hb
      refine ⟨fun r ih => ev_succ ?_, Int.add_nonneg (Int.mul_nonneg (by decide) h1) (Int.natCast_nonneg _), H4⟩
      simp only [spec_NumAt.l0, e1, e2, hbt, e3, e4, e5, if_pos f1, if_pos f2, if_pos f3]
      exact ih
  · rw [if_neg h]
    simp only [spec_NumAt.j0, show (decide ((0 : Int) ≤ (at_ : Int) ∧ (at_ : Int) ≤ (a.size : Int) - (w : Int))) = false by simp; omega, Bool.not_false, if_true]
    exact Ev.now _
theorem impl_numat (a : ByteArray) (at_ w : Nat) (hw : 1 ≤ w ∧ w ≤ 7) (ha : a.size ≤ 1048576) (hat : at_ ≤ 1048576) : Ev (fun k => impl_NumAt.f k a (at_ : Int) (w : Int)) (if at_ + w ≤ a.size then (val ((a.data.toList.drop at_).take w), true) else (0, false)) := by
  unfold impl_NumAt.f
  rw [within_ev]
  have e0 : wrap64 ((a.size : Int) - (w : Int)) = (a.size : Int) - w := w64 (by omega) (by omega)
  rw [e0]
  refine ev_neg (by omega) (Ev.bind (Ev.now _) (ev_pos (by simp; omega) (ev_succ ?_)))
  by_cases h : at_ + w ≤ a.size
  · rw [if_pos h]
    simp only [impl_NumAt.j0, decide_eq_true_eq, if_neg (show ¬ (at_ : Int) > (a.size : Int) - (w : Int) by omega)]
    have hl := win_len h
    have key := fold_ev (xs := (a.data.toList.drop at_).take w) (fun k s i => impl_NumAt.l0 k a (at_ : Int) s (w : Int) i) (fun s b => 256 * s + (b.toNat : Int)) (fun s => (s, true)) (fun s i => 0 ≤ s ∧ Aside0 (s < 256 ^ i)) ?_ ?_ 0 ⟨by omega, ⟨by decide⟩⟩
    · exact key
    · intro k s _
      rw [hl]
      simp only [impl_NumAt.l0, if_neg (Int.lt_irrefl _)]
    · intro s i b hget hlt ⟨h1, h2⟩
      obtain ⟨hi, hbt⟩ := win_get hget
      have hb : (b.toNat : Int) ≤ 255 := by have := b.toNat_lt; omega
      obtain ⟨h3, h4⟩ := step_bound s i w (b.toNat : Int) hi hw.2 h1 h2.out (by omega) hb
      have H4 := Aside0.mk h4
      clear h4 h2
      have f1 : (i : Int) < (w : Int) := by omega
      have f2 : (0 : Int) ≤ (at_ : Int) + (i : Int) := by omega
      have f3 : (at_ : Int) + (i : Int) < (a.size : Int) := by omega
      have e1 : wrap64 ((at_ : Int) + (i : Int)) = (at_ : Int) + i := w64 (by omega) (by omega)
      have e2 : wrap64 ((i : Int) + 1) = (i : Int) + 1 := w64 (by omega) (by omega)
      have e3 : wrap64 (s * 256) = s * 256 := w64 (by omega) (by omega)
      have e4 : wrap64 (b.toNat : Int) = (b.toNat : Int) := w64 (by omega) (by omega)
      refine ⟨fun r ih => ev_succ ?_, Int.add_nonneg (Int.mul_nonneg (by decide) h1) (Int.natCast_nonneg _), H4⟩
      simp only [impl_NumAt.l0, e1, e2, hbt, e3, e4, or_byte s (b.toNat : Int) h1 (Int.lt_trans h3 (by decide)) (Int.natCast_nonneg _) hb, if_pos f1, if_pos f2, if_pos f3]
      exact ih
  · rw [if_neg h]
    simp only [impl_NumAt.j0, decide_eq_true_eq, if_pos (show (at_ : Int) > (a.size : Int) - (w : Int) by omega)]
    exact Ev.now _

theorem addr (n : Int) (hn : n ≤ 9223372036854775807) : ∃ r, Ev (fun k => spec_AddressWord.f k n) r ∧ Ev (fun k => impl_AddressWord.f k n) r := by
  unfold spec_AddressWord.f impl_AddressWord.f
  have h1 := spec_num n 4 (by omega) hn
  have h2 := impl_num n 4 (by omega) hn
  generalize hx : (if 0 ≤ n ∧ n < 2 ^ (8 * 4) then strOfNums (dg n 4) else (⟨#[]⟩ : ByteArray)) = x at h1 h2
  by_cases he : x.toList = ([] : List UInt8)
  · exact ⟨⟨#[]⟩, Ev.bind h1 (ev_pos he (Ev.now _)), Ev.bind h2 (ev_pos he (Ev.now _))⟩
  · have hs : x.size = 4 := by
      rw [← hx]
      split
      · rw [nums_size, dg_length]
      · rename_i h
        rw [if_neg h] at hx
        subst hx
        exact absurd (by rw [tl]) he
    have hz : x ++ strOfNums (List.replicate 4 0) = x ++ zeros 4 := by
      congr 1
    refine ⟨x ++ zeros 4, Ev.bind h1 (ev_neg he ?_), Ev.bind h2 (ev_neg he ?_)⟩
    · refine Ev.bind ?_ (Ev.now _)
      unfold spec_WordText.f spec_ZeroText.f
      have e : wrap64 (8 - (x.size : Int)) = 4 := by rw [hs]; exact w64 (by omega) (by omega)
      rw [e, in_ev]
      refine ev_neg (by omega) (Ev.bind (Ev.bind (Ev.now _) (ev_pos (by decide) (Ev.bind (long_ev 4 0 (by omega)) (Ev.now _)))) (ev_pos ?_ ?_))
      · rw [nums_size, hs]; simp
      · rw [hz]; exact Ev.now _
    · unfold impl_WordText.f impl_padded.f
      rw [if_neg (by omega), if_pos ⟨by omega, by omega, by omega⟩, hs]
      exact Ev.now _

theorem core (a : ByteArray) (ha : a.size ≤ 1048576) : ∃ r, Ev (fun k => spec_ReadAddress.f k a) r ∧ Ev (fun k => impl_ReadAddress.f k a) r := by
  unfold spec_ReadAddress.f impl_ReadAddress.f
  have h1 := spec_numat a 0 4 (by omega) ha (by omega)
  have h2 := impl_numat a 0 4 (by omega) ha (by omega)
  by_cases h : 0 + 4 ≤ a.size
  · rw [if_pos h] at h1 h2
    have hv := val_bounds ((a.data.toList.drop 0).take 4) 0 (by omega)
    rw [win_len h] at hv
    have hv2 : val ((a.data.toList.drop 0).take 4) < 4294967296 := by have := hv.2; unfold val; simpa using this
    clear hv
    obtain ⟨x, hx1, hx2⟩ := addr (val ((a.data.toList.drop 0).take 4)) (by omega)
    by_cases he : x.toList = a.toList
    · exact ⟨_, Ev.bind h1 (ev_pos rfl (Ev.bind hx1 (ev_pos he (Ev.now _)))), Ev.bind h2 (ev_pos rfl (Ev.bind hx2 (ev_pos he (Ev.now _))))⟩
    · exact ⟨_, Ev.bind h1 (ev_pos rfl (Ev.bind hx1 (ev_neg he (Ev.now _)))), Ev.bind h2 (ev_pos rfl (Ev.bind hx2 (ev_neg he (Ev.now _))))⟩
  · rw [if_neg h] at h1 h2
    exact ⟨_, Ev.bind h1 (ev_neg (by simp) (Ev.now _)), Ev.bind h2 (ev_neg (by simp) (Ev.now _))⟩
theorem FnExactReadAddress : Go.Proofs.Ytklghegofjigoaa.QFnExactReadAddress.Stated := by
  intro a0 y0
  unfold laws_FnExactReadAddress.f
  refine Ev.rounds ?_
  by_cases hc : (a0.size : Int) > 1048576
  · exact ev_pos hc (Ev.now _)
  · refine ev_neg hc ?_
    obtain ⟨r, h1, h2⟩ := core a0 (by omega)
    refine Ev.bind h1 (Ev.bind h2 ?_)
    exact ev_pos rfl (ev_neg (by simp) (Ev.now _))
end Go.Proofs.Ytklghegofjigoaa.Pure
