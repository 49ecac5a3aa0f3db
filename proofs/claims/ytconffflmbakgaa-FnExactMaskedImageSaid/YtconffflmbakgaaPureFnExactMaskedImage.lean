/-
  FnExactMaskedImage: the pure part: what the law computes is true, whatever the input.
-/
import Derived.Test.YtconffflmbakgaaFamFnExactMaskedImage
import Derived.Test.YtconffflmbakgaaVKit2
namespace Go.Proofs.Ytconffflmbakgaa.Pure
open Go.RowKit Go.Proofs.YtconffflmbakgaaW.PrintWords Go.Proofs.YtconffflmbakgaaW.PrintLast Go.Proofs.YtconffflmbakgaaW.PrintMore Go.Proofs.Ytconffflmbakgaa.QFnExactMaskedImage Go.Proofs.Ytconffflmbakgaa.Kit
set_option linter.unusedVariables false
set_option linter.unusedSimpArgs false

theorem long_ev (n : Nat) (x : Int) (hn : n ≤ 1048576) : Ev (fun k => spec_l01Long.f k (n : Int) x) (strOfNums (List.replicate n x)) := by
  unfold spec_l01Long.f
  refine ev_pos (by omega) (ev_pos (by simp; omega) ?_)
  have hz : (List.replicate n x).length = n := by simp
  have key := fill_ev' (z := List.replicate n x) strOfNums (List.replicate n (0 : Int)) (by simp) (fun k y i => spec_l01Long.l0 k (n : Int) x y i) ?_ ?_
  · simpa using key
  · intro k y hy
    rw [hz]
    simp only [spec_l01Long.l0, if_neg (Int.lt_irrefl _)]
  · intro y i a hget hlt hy r ih
    rw [hz] at hlt hy
    have ha : a = x := by
      have := List.mem_of_getElem? hget
      exact List.eq_of_mem_replicate this
    subst ha
    have e : wrap64 ((i : Int) + 1) = (i : Int) + 1 := w64 (by omega) (by omega)
    refine ev_succ ?_
    simp only [spec_l01Long.l0, if_pos (show (i : Int) < (n : Int) by omega), if_pos (show (0 : Int) ≤ (i : Int) by omega), if_pos (show (i : Int) < (y.length : Int) by omega), Int.toNat_natCast, e]
    exact ih

def allz (a : ByteArray) (x : Int) : Bool := a.data.toList.all fun b => decide ((b.toNat : Int) = x)
theorem all_ok (a : ByteArray) (x : Int) (h : a.size ≤ 1048576) : Ev (fun k => spec_l26All.f k a x) (allz a x) := by
  unfold spec_l26All.f
  refine all_ev (xs := a.data.toList) (fun b => decide ((b.toNat : Int) = x)) (fun k i => spec_l26All.l0 k a x i) ?_ ?_
  · intro k
    rw [ba_size]
    simp only [spec_l26All.l0, if_neg (Int.lt_irrefl _)]
  · intro i b hget hlt
    rw [ba_size] at hlt
    have e : wrap64 ((i : Int) + 1) = (i : Int) + 1 := w64 (by omega) (by omega)
    have hb := bt_get hget
    refine ⟨fun hp r ih => ev_succ ?_, fun hp => ev_succ ?_⟩
    · simp only [decide_eq_true_eq] at hp
      simp only [spec_l26All.l0, if_pos (show (i : Int) < (a.size : Int) by omega), if_pos (show (0 : Int) ≤ (i : Int) by omega), hb, if_pos hp, e]
      exact ih
    · simp only [decide_eq_false_iff_not] at hp
      simp only [spec_l26All.l0, if_pos (show (i : Int) < (a.size : Int) by omega), if_pos (show (0 : Int) ≤ (i : Int) by omega), hb, if_neg hp]
      exact Ev.now _

def zw : ByteArray := (⟨#[]⟩ : ByteArray) ++ zeros 8
theorem zeroWord_ok : impl_zeroWord.f = some zw := by
  unfold impl_zeroWord.f impl_padded.f
  rw [if_pos ⟨by decide, by decide, by decide⟩]
  rfl
theorem zw_data : zw.data.toList = List.replicate 8 0 := by
  unfold zw zeros
  rw [ba_append]
  simp
theorem allz_zw (a : ByteArray) (h : a.size = 8) : (allz a 0 = true) ↔ a.toList = zw.toList := by
  rw [tl, tl, zw_data, List.eq_replicate_iff]
  unfold allz
  simp only [List.all_eq_true, decide_eq_true_eq]
  constructor
  · intro h1
    refine ⟨by rw [ba_size]; exact h, fun b hb => ?_⟩
    have := h1 b hb
    have h2 : b.toNat = 0 := by omega
    exact UInt8.toNat_inj.1 (by simpa using h2)
  · rintro ⟨-, h1⟩ b hb
    rw [h1 b hb]; rfl
theorem rec_core (a : ByteArray) (h : a.size ≤ 1048576) : ∃ r, Ev (fun k => spec_MaskRec.f k a) r ∧ impl_MaskRec.f a = some r ∧ r.size ≤ a.size := by
  unfold spec_MaskRec.f impl_MaskRec.f
  by_cases h8 : (a.size : Int) = 8
  · simp only [if_pos h8, zeroWord_ok, Option.bind_some]
    have h8' : a.size = 8 := by omega
    have he : (a.extract 0 4).size = 4 := by simp [h8']
    by_cases hz : allz a 0 = true
    · refine ⟨a, Ev.bind (all_ok a 0 h) (ev_pos hz (Ev.now _)), ?_, Nat.le_refl _⟩
      rw [if_pos ((allz_zw a h8').1 hz)]
    · refine ⟨a.extract 0 4 ++ strOfNums (List.replicate 4 255), Ev.bind (all_ok a 0 h) (ev_neg hz ?_), ?_, by rw [ByteArray.size_append, he, nums_size]; simp; omega⟩
      · refine ev_pos (by omega) (ev_pos (by omega) (Ev.bind (long_ev 4 255 (by omega)) (ev_pos ?_ (Ev.now _))))
        rw [he, nums_size]; simp
      · rw [if_neg (fun e => hz ((allz_zw a h8').2 e)), if_pos (by omega), if_pos (by omega), if_pos (by rw [he]; omega)]
        rfl
  · simp only [if_neg h8]
    exact ⟨a, Ev.now _, rfl, Nat.le_refl _⟩

theorem in_ev (a b c : Int) : spec_l01In.f a b c = some (decide (b ≤ a ∧ a ≤ c)) := by
  unfold spec_l01In.f
  split <;> simp <;> omega
theorem within_ev (a b c : Int) : impl_within.f a b c = some (decide (b ≤ a ∧ a ≤ c)) := by
  unfold impl_within.f
  split <;> simp <;> omega
theorem spec_numl (n : Int) (hn : 0 ≤ n) : ∀ (m : Nat) (y : List Int), m ≤ 7 → y.length + m ≤ 100 → Ev (fun k => spec_NumText.l0 k n y ((m : Int) - 1)) (strOfNums (y ++ dg n m))
  | 0, y, _, _ => by
    refine ev_succ ?_
    simp only [spec_NumText.l0, if_neg (show ¬ ((0 : Nat) : Int) - 1 ≥ 0 by omega), dg, List.append_nil]
    exact Ev.now _
  | m + 1, y, hm, hy => by
    have e1 : (((m + 1 : Nat) : Int) - 1) = (m : Int) := by omega
    have e2 : IntKind.u64.wrap (m : Int) = m := wrapu (by omega) (by omega)
    have e3 : IntKind.u64.wrap (8 * (m : Int)) = 8 * m := wrapu (by omega) (by omega)
    have e4 : wrap64 ((m : Int) - 1) = (m : Int) - 1 := w64 (by omega) (by omega)
    have ih := spec_numl n hn m (y ++ [(n / 2 ^ (8 * m)) % 256]) (by omega) (by rw [List.length_append]; simp; omega)
    rw [e1]
    refine ev_succ ?_
    simp only [spec_NumText.l0, if_pos (show (m : Int) ≥ 0 by omega), e2, e3, e4, if_pos (show (0 : Int) ≤ 8 * (m : Int) by omega), if_pos (show y.length < 140737488355328 by omega), shr_i64 n m (by omega)]
    simpa [dg, List.append_assoc] using ih

theorem spec_num (n : Int) (w : Nat) (hw : 1 ≤ w ∧ w ≤ 7) (hn : n ≤ 9223372036854775807) : Ev (fun k => spec_NumText.f k n (w : Int)) (if 0 ≤ n ∧ n < 2 ^ (8 * w) then strOfNums (dg n w) else ⟨#[]⟩) := by
  unfold spec_NumText.f
  by_cases h0 : n < 0
  · refine ev_pos h0 (ev_succ ?_)
    simp only [spec_NumText.j0, if_true]
    rw [if_neg (by omega)]
    exact Ev.now _
  · refine ev_neg h0 ?_
    rw [in_ev]
    have e2 : IntKind.u64.wrap (w : Int) = w := wrapu (by omega) (by omega)
    have e3 : IntKind.u64.wrap (8 * (w : Int)) = 8 * w := wrapu (by omega) (by omega)
    refine Ev.bind (Ev.now _) (ev_pos (by simp; omega) ?_)
    rw [e2, e3, shr_i64 n w (by omega)]
    refine ev_pos (by omega) (ev_succ ?_)
    simp only [spec_NumText.j0, decide_eq_true_eq]
    have hp : (0 : Int) < 2 ^ (8 * w) := Int.pow_pos (by decide)
    by_cases hb : n / 2 ^ (8 * w) > 0
    · rw [if_neg (fun h => by have := Int.ediv_eq_zero_of_lt h.1 h.2; omega)]
      simp only [if_pos hb]
      exact Ev.now _
    · have hlt : n < 2 ^ (8 * w) := by
        have h1 : n / 2 ^ (8 * w) ≤ 0 := by omega
        have h2 : n / 2 ^ (8 * w) < 1 := by omega
        have := (Int.ediv_lt_iff_lt_mul hp).1 h2
        omega
      rw [if_pos ⟨by omega, hlt⟩]
      simp only [if_neg hb]
      have e4 : wrap64 ((w : Int) - 1) = (w : Int) - 1 := w64 (by omega) (by omega)
      rw [e4]
      simpa using spec_numl n (by omega) w [] (by omega) (by simp; omega)
theorem shl_one (w : Nat) (hw : 1 ≤ w ∧ w ≤ 7) : shl .i64 1 (8 * (w : Int)) = 2 ^ (8 * w) := by
  obtain ⟨h1, h2⟩ := hw
  have : w = 1 ∨ w = 2 ∨ w = 3 ∨ w = 4 ∨ w = 5 ∨ w = 6 ∨ w = 7 := by omega
  rcases this with rfl | rfl | rfl | rfl | rfl | rfl | rfl <;> decide
theorem impl_num (n : Int) (w : Nat) (hw : 1 ≤ w ∧ w ≤ 7) (hn : n ≤ 9223372036854775807) : Ev (fun k => impl_NumText.f k n (w : Int)) (if 0 ≤ n ∧ n < 2 ^ (8 * w) then strOfNums (dg n w) else ⟨#[]⟩) := by
  unfold impl_NumText.f
  by_cases h0 : n < 0
  · refine ev_pos h0 (ev_succ ?_)
    simp only [impl_NumText.j0, if_true]
    rw [if_neg (by omega)]
    exact Ev.now _
  · refine ev_neg h0 ?_
    rw [within_ev]
    have e3 : wrap64 (8 * (w : Int)) = 8 * w := w64 (by omega) (by omega)
    refine Ev.bind (Ev.now _) (ev_pos (by simp; omega) ?_)
    rw [e3, shl_one w hw]
    refine ev_pos (by omega) (ev_succ ?_)
    simp only [impl_NumText.j0, decide_eq_true_eq]
    by_cases hb : n ≥ 2 ^ (8 * w)
    · rw [if_neg (by omega)]
      simp only [if_pos hb]
      exact Ev.now _
    · rw [if_pos (by omega)]
      simp only [if_neg hb]
      refine ev_pos (by omega) (ev_pos (by simp; omega) ?_)
      simp only [Option.bind_some, Int.toNat_natCast, List.length_replicate]
      have key := fill_ev' (z := dg n w) strOfNums (List.replicate w (0 : Int)) (by simp [dg_length]) (fun k y i => impl_NumText.l0 k n (w : Int) y (w : Int) i) ?_ ?_
      · exact key
      · intro k y hy
        rw [dg_length]
        simp only [impl_NumText.l0, if_neg (Int.lt_irrefl _)]
      · clear hb
        intro y i a hget hlt hy r ih
        rw [dg_length] at hlt hy
        rw [dg_get n w i hlt] at hget
        obtain rfl := Option.some.inj hget
        have e4 : wrap64 ((w : Int) - 1) = (w : Int) - 1 := w64 (by omega) (by omega)
        have e5 : (w : Int) - 1 - (i : Int) = ((w - 1 - i : Nat) : Int) := by omega
        have e6 : wrap64 (((w - 1 - i : Nat) : Int)) = ((w - 1 - i : Nat) : Int) := w64 (by omega) (by omega)
        have e7 : wrap64 (8 * ((w - 1 - i : Nat) : Int)) = 8 * ((w - 1 - i : Nat) : Int) := w64 (by omega) (by omega)
        have e : wrap64 ((i : Int) + 1) = (i : Int) + 1 := w64 (by omega) (by omega)
        refine ev_succ ?_
        simp only [impl_NumText.l0, if_pos (show (i : Int) < (w : Int) by omega), if_pos (show (0 : Int) ≤ (i : Int) by omega), if_pos (show (i : Int) < (y.length : Int) by omega), Int.toNat_natCast, e, e4, e5, e6, e7, shr_i64 n (w - 1 - i) (by omega)]
        refine ev_pos (by omega) ?_
        exact ih

theorem or_byte (s b : Int) (h0 : 0 ≤ s) (h1 : s < 36028797018963968) (h2 : 0 ≤ b) (h3 : b ≤ 255) : Go.bits .or .i64 (s * 256) b = 256 * s + b := by
  rw [bits_join .i64 63 (by decide) (fun n h1 h2 => by rw [IntKind.wrap_i64]; omega) 8 (s * 256) b (by omega) (by omega) (by omega) h2 (by omega) (by omega)]
  omega
def val (l : List UInt8) : Int := l.foldl (fun s b => 256 * s + (b.toNat : Int)) 0
theorem val_bounds (l : List UInt8) : ∀ (s : Int), 0 ≤ s → 0 ≤ l.foldl (fun s b => 256 * s + (b.toNat : Int)) s ∧ l.foldl (fun s b => 256 * s + (b.toNat : Int)) s < (s + 1) * 256 ^ l.length := by
  induction l with
  | nil => intro s h; simp; omega
  | cons b l ih =>
    intro s h
    have hb : (b.toNat : Int) ≤ 255 := by have := b.toNat_lt; omega
    have hs : 256 * s + (b.toNat : Int) + 1 ≤ (s + 1) * 256 := by omega
    have := ih (256 * s + (b.toNat : Int)) (by omega)
    refine ⟨this.1, Int.lt_of_lt_of_le this.2 ?_⟩
    rw [List.length_cons, Int.pow_succ, Int.mul_comm ((256 : Int) ^ l.length), ← Int.mul_assoc]
    exact Int.mul_le_mul_of_nonneg_right hs (Int.pow_nonneg (by decide))
theorem pow_small (i : Nat) (h : i ≤ 6) : (256 : Int) ^ i ≤ 281474976710656 := by
  have : i = 0 ∨ i = 1 ∨ i = 2 ∨ i = 3 ∨ i = 4 ∨ i = 5 ∨ i = 6 := by omega
  rcases this with rfl | rfl | rfl | rfl | rfl | rfl | rfl <;> decide
theorem win_get {a : ByteArray} {at_ w i : Nat} {b : UInt8} (h : ((a.data.toList.drop at_).take w)[i]? = some b) : i < w ∧ bt a ((at_ : Int) + (i : Int)) = (b.toNat : Int) := by
  have hi : i < w := by
    have := (List.getElem?_eq_some_iff.1 h).1
    rw [List.length_take] at this; omega
  rw [List.getElem?_take, if_pos hi, List.getElem?_drop] at h
  refine ⟨hi, ?_⟩
  have := bt_get h
  rw [← this]
  congr 1
theorem win_len {a : ByteArray} {at_ w : Nat} (h : at_ + w ≤ a.size) : ((a.data.toList.drop at_).take w).length = w := by
  rw [List.length_take, List.length_drop, ba_size]; omega
theorem step_bound (s : Int) (i w : Nat) (b : Int) (hi : i < w) (hw : w ≤ 7) (h1 : 0 ≤ s) (h2 : s < 256 ^ i) (hb0 : 0 ≤ b) (hb : b ≤ 255) : s < 281474976710656 ∧ 256 * s + b < 256 ^ (i + 1) := by
  have hp := pow_small i (by omega)
  rw [Int.pow_succ]
  generalize (256 : Int) ^ i = q at hp h2 ⊢
  omega
theorem w256 (s b : Int) (h1 : 0 ≤ s) (h2 : s < 281474976710656) (h3 : 0 ≤ b) (h4 : b ≤ 255) : wrap64 (256 * s + b) = 256 * s + b := w64 (by omega) (by omega)
theorem spec_numat (a : ByteArray) (at_ w : Nat) (hw : 1 ≤ w ∧ w ≤ 7) (ha : a.size ≤ 1048576) (hat : at_ ≤ 1048576) : Ev (fun k => spec_NumAt.f k a (at_ : Int) (w : Int)) (if at_ + w ≤ a.size then (val ((a.data.toList.drop at_).take w), true) else (0, false)) := by
  unfold spec_NumAt.f
  rw [in_ev, in_ev]
  have e0 : wrap64 ((a.size : Int) - (w : Int)) = (a.size : Int) - w := w64 (by omega) (by omega)
  rw [e0]
  refine Ev.bind (Ev.now _) (ev_pos (by simp; omega) (Ev.bind (Ev.now _) (ev_succ ?_)))
  by_cases h : at_ + w ≤ a.size
  · rw [if_pos h]
    simp only [spec_NumAt.j0, show (decide ((0 : Int) ≤ (at_ : Int) ∧ (at_ : Int) ≤ (a.size : Int) - (w : Int))) = true by simp; omega, Bool.not_true, Bool.false_eq_true, if_false]
    have hl := win_len h
    have key := fold_ev (xs := (a.data.toList.drop at_).take w) (fun k s i => spec_NumAt.l0 k a (at_ : Int) (w : Int) s ((at_ : Int) + i)) (fun s b => 256 * s + (b.toNat : Int)) (fun s => (s, true)) (fun s i => 0 ≤ s ∧ Aside0 (s < 256 ^ i)) ?_ ?_ 0 ⟨by omega, ⟨by decide⟩⟩
    · have key' : Ev (fun k => spec_NumAt.l0 k a (at_ : Int) (w : Int) 0 ((at_ : Int) + 0)) (val ((a.data.toList.drop at_).take w), true) := key
      rw [Int.add_zero] at key'
      exact key'
    · intro k s _
      rw [hl]
      have e1 : wrap64 ((at_ : Int) + (w : Int)) = (at_ : Int) + w := w64 (by omega) (by omega)
      simp only [spec_NumAt.l0, e1, if_neg (Int.lt_irrefl _)]
    · intro s i b hget hlt ⟨h1, h2⟩
      obtain ⟨hi, hbt⟩ := win_get hget
      have hb : (b.toNat : Int) ≤ 255 := by have := b.toNat_lt; omega
      obtain ⟨h3, h4⟩ := step_bound s i w (b.toNat : Int) hi hw.2 h1 h2.out (by omega) hb
      have H4 := Aside0.mk h4
      clear h4 h2
      have f1 : (at_ : Int) + (i : Int) < (at_ : Int) + (w : Int) := by omega
      have f2 : (0 : Int) ≤ (at_ : Int) + (i : Int) := by omega
      have f3 : (at_ : Int) + (i : Int) < (a.size : Int) := by omega
      have e1 : wrap64 ((at_ : Int) + (w : Int)) = (at_ : Int) + w := w64 (by omega) (by omega)
      have e2 : wrap64 ((at_ : Int) + (i : Int) + 1) = (at_ : Int) + ((i : Int) + 1) := by rw [w64 (by omega) (by omega)]; omega
      have e3 : wrap64 (256 * s) = 256 * s := w64 (by omega) (by omega)
      have e4 : wrap64 (b.toNat : Int) = (b.toNat : Int) := w64 (by omega) (by omega)
      have e5 : wrap64 (256 * s + (b.toNat : Int)) = 256 * s + (b.toNat : Int) := w256 s _ h1 h3 (Int.natCast_nonneg _) hb
      refine ⟨fun r ih => ev_succ ?_, Int.add_nonneg (Int.mul_nonneg (by decide) h1) (Int.natCast_nonneg _), H4⟩
      simp only [spec_NumAt.l0, e1, e2, hbt, e3, e4, e5, if_pos f1, if_pos f2, if_pos f3]
      exact ih
  · rw [if_neg h]
    simp only [spec_NumAt.j0, show (decide ((0 : Int) ≤ (at_ : Int) ∧ (at_ : Int) ≤ (a.size : Int) - (w : Int))) = false by simp; omega, Bool.not_false, if_true]
    exact Ev.now _
theorem impl_numat (a : ByteArray) (at_ w : Nat) (hw : 1 ≤ w ∧ w ≤ 7) (ha : a.size ≤ 1048576) (hat : at_ ≤ 1048576) : Ev (fun k => impl_NumAt.f k a (at_ : Int) (w : Int)) (if at_ + w ≤ a.size then (val ((a.data.toList.drop at_).take w), true) else (0, false)) := by
  unfold impl_NumAt.f
  rw [within_ev]
  have e0 : wrap64 ((a.size : Int) - (w : Int)) = (a.size : Int) - w := w64 (by omega) (by omega)
  rw [e0]
  refine ev_neg (by omega) (Ev.bind (Ev.now _) (ev_pos (by simp; omega) (ev_succ ?_)))
  by_cases h : at_ + w ≤ a.size
  · rw [if_pos h]
    simp only [impl_NumAt.j0, decide_eq_true_eq, if_neg (show ¬ (at_ : Int) > (a.size : Int) - (w : Int) by omega)]
    have hl := win_len h
    have key := fold_ev (xs := (a.data.toList.drop at_).take w) (fun k s i => impl_NumAt.l0 k a (at_ : Int) s (w : Int) i) (fun s b => 256 * s + (b.toNat : Int)) (fun s => (s, true)) (fun s i => 0 ≤ s ∧ Aside0 (s < 256 ^ i)) ?_ ?_ 0 ⟨by omega, ⟨by decide⟩⟩
    · exact key
    · intro k s _
      rw [hl]
      simp only [impl_NumAt.l0, if_neg (Int.lt_irrefl _)]
    · intro s i b hget hlt ⟨h1, h2⟩
      obtain ⟨hi, hbt⟩ := win_get hget
      have hb : (b.toNat : Int) ≤ 255 := by have := b.toNat_lt; omega
      obtain ⟨h3, h4⟩ := step_bound s i w (b.toNat : Int) hi hw.2 h1 h2.out (by omega) hb
      have H4 := Aside0.mk h4
      clear h4 h2
      have f1 : (i : Int) < (w : Int) := by omega
      have f2 : (0 : Int) ≤ (at_ : Int) + (i : Int) := by omega
      have f3 : (at_ : Int) + (i : Int) < (a.size : Int) := by omega
      have e1 : wrap64 ((at_ : Int) + (i : Int)) = (at_ : Int) + i := w64 (by omega) (by omega)
      have e2 : wrap64 ((i : Int) + 1) = (i : Int) + 1 := w64 (by omega) (by omega)
      have e3 : wrap64 (s * 256) = s * 256 := w64 (by omega) (by omega)
      have e4 : wrap64 (b.toNat : Int) = (b.toNat : Int) := w64 (by omega) (by omega)
      refine ⟨fun r ih => ev_succ ?_, Int.add_nonneg (Int.mul_nonneg (by decide) h1) (Int.natCast_nonneg _), H4⟩
      simp only [impl_NumAt.l0, e1, e2, hbt, e3, e4, or_byte s (b.toNat : Int) h1 (Int.lt_trans h3 (by decide)) (Int.natCast_nonneg _) hb, if_pos f1, if_pos f2, if_pos f3]
      exact ih
  · rw [if_neg h]
    simp only [impl_NumAt.j0, decide_eq_true_eq, if_pos (show (at_ : Int) > (a.size : Int) - (w : Int) by omega)]
    exact Ev.now _

theorem addr (n : Int) (hn : n ≤ 9223372036854775807) : ∃ r, Ev (fun k => spec_AddressWord.f k n) r ∧ Ev (fun k => impl_AddressWord.f k n) r := by
  unfold spec_AddressWord.f impl_AddressWord.f
  have h1 := spec_num n 4 (by omega) hn
  have h2 := impl_num n 4 (by omega) hn
  generalize hx : (if 0 ≤ n ∧ n < 2 ^ (8 * 4) then strOfNums (dg n 4) else (⟨#[]⟩ : ByteArray)) = x at h1 h2
  by_cases he : x.toList = ([] : List UInt8)
  · exact ⟨⟨#[]⟩, Ev.bind h1 (ev_pos he (Ev.now _)), Ev.bind h2 (ev_pos he (Ev.now _))⟩
  · have hs : x.size = 4 := by
      rw [← hx]
      split
      · rw [nums_size, dg_length]
      · rename_i h
        rw [if_neg h] at hx
        subst hx
        exact absurd (by rw [tl]) he
    have hz : x ++ strOfNums (List.replicate 4 0) = x ++ zeros 4 := by
      congr 1
    refine ⟨x ++ zeros 4, Ev.bind h1 (ev_neg he ?_), Ev.bind h2 (ev_neg he ?_)⟩
    · refine Ev.bind ?_ (Ev.now _)
      unfold spec_WordText.f spec_ZeroText.f
      have e : wrap64 (8 - (x.size : Int)) = 4 := by rw [hs]; exact w64 (by omega) (by omega)
      rw [e, in_ev]
      refine ev_neg (by omega) (Ev.bind (Ev.bind (Ev.now _) (ev_pos (by decide) (Ev.bind (long_ev 4 0 (by omega)) (Ev.now _)))) (ev_pos ?_ ?_))
      · rw [nums_size, hs]; simp
      · rw [hz]; exact Ev.now _
    · unfold impl_WordText.f impl_padded.f
      rw [if_neg (by omega), if_pos ⟨by omega, by omega, by omega⟩, hs]
      exact Ev.now _
theorem read_core (a : ByteArray) (ha : a.size ≤ 1048576) : ∃ r, Ev (fun k => spec_ReadAddress.f k a) r ∧ Ev (fun k => impl_ReadAddress.f k a) r := by
  unfold spec_ReadAddress.f impl_ReadAddress.f
  have h1 := spec_numat a 0 4 (by omega) ha (by omega)
  have h2 := impl_numat a 0 4 (by omega) ha (by omega)
  by_cases h : 0 + 4 ≤ a.size
  · rw [if_pos h] at h1 h2
    have hv := val_bounds ((a.data.toList.drop 0).take 4) 0 (by omega)
    rw [win_len h] at hv
    have hv2 : val ((a.data.toList.drop 0).take 4) < 4294967296 := by have := hv.2; unfold val; simpa using this
    clear hv
    obtain ⟨x, hx1, hx2⟩ := addr (val ((a.data.toList.drop 0).take 4)) (by omega)
    by_cases he : x.toList = a.toList
    · exact ⟨_, Ev.bind h1 (ev_pos rfl (Ev.bind hx1 (ev_pos he (Ev.now _)))), Ev.bind h2 (ev_pos rfl (Ev.bind hx2 (ev_pos he (Ev.now _))))⟩
    · exact ⟨_, Ev.bind h1 (ev_pos rfl (Ev.bind hx1 (ev_neg he (Ev.now _)))), Ev.bind h2 (ev_pos rfl (Ev.bind hx2 (ev_neg he (Ev.now _))))⟩
  · rw [if_neg h] at h1 h2
    exact ⟨_, Ev.bind h1 (ev_neg (by simp) (Ev.now _)), Ev.bind h2 (ev_neg (by simp) (Ev.now _))⟩

def geoB (t p i q : Int) : Bool := decide (1 ≤ t ∧ t ≤ 3 ∧ 5 ≤ p ∧ p ≤ 12 ∧ 2 ≤ i ∧ i ≤ 6 ∧ 1 ≤ q ∧ q ≤ p - 4)
theorem geoB_iff {t p i q : Int} : geoB t p i q = true ↔ (1 ≤ t ∧ t ≤ 3 ∧ 5 ≤ p ∧ p ≤ 12 ∧ 2 ≤ i ∧ i ≤ 6 ∧ 1 ≤ q ∧ q ≤ p - 4) := by simp [geoB]
theorem spec_geo (t p i q : Int) : spec_GeoOk.f t p i q = some (geoB t p i q) := by
  unfold spec_GeoOk.f geoB
  simp only [in_ev, Option.bind_some, decide_eq_true_eq]
  by_cases h1 : 1 ≤ t ∧ t ≤ 3
  · by_cases h2 : 5 ≤ p ∧ p ≤ 12
    · have e : wrap64 (p - 4) = p - 4 := w64 (by omega) (by omega)
      by_cases h3 : 2 ≤ i ∧ i ≤ 6
      · simp only [if_pos h1, if_pos h2, if_pos h3, e]
        congr 1
        simp only [decide_eq_decide]
        omega
      · simp only [if_pos h1, if_pos h2, if_neg h3]
        symm; congr 1; simp only [decide_eq_false_iff_not]; omega
    · simp only [if_pos h1, if_neg h2]
      symm; congr 1; simp only [decide_eq_false_iff_not]; omega
  · simp only [if_neg h1]
    symm; congr 1; simp only [decide_eq_false_iff_not]; omega
theorem impl_geo (t p i q : Int) : impl_GeoOk.f t p i q = some (geoB t p i q) := by
  rw [← spec_geo]
  unfold spec_GeoOk.f impl_GeoOk.f
  simp only [in_ev, within_ev]

theorem geo_small {t p i q : Int} (h : geoB t p i q = true) : 74 ≤ 38 + 8 * i + 4 * p ∧ 38 + 8 * i + 4 * p ≤ 134 ∧ 0 ≤ t * (38 + 8 * i + 4 * p) ∧ t * (38 + 8 * i + 4 * p) ≤ 402 ∧ t * (38 + 8 * i + 4 * p) = 2 * (t * (19 + 4 * i + 2 * p)) := by
  rw [geoB_iff] at h
  have h1 : t = 1 ∨ t = 2 ∨ t = 3 := by omega
  rcases h1 with rfl | rfl | rfl <;> omega
theorem words_eq {t p i q : Int} (h : geoB t p i q = true) : wrap64 ((wrap64 (38 + (wrap64 (8 * i)))) + (wrap64 (4 * p))) = 38 + 8 * i + 4 * p := by
  rw [geoB_iff] at h
  have e2 : wrap64 (8 * i) = 8 * i := w64 (by omega) (by omega)
  have e3 : wrap64 (4 * p) = 4 * p := w64 (by omega) (by omega)
  have e4 : wrap64 (38 + 8 * i) = 38 + 8 * i := w64 (by omega) (by omega)
  rw [e2, e3, e4]
  exact w64 (by omega) (by omega)
theorem spec_words {t p i q : Int} (h : geoB t p i q = true) : spec_PartWords.f t p i q = some (38 + 8 * i + 4 * p) := by
  unfold spec_PartWords.f
  simp only [spec_geo, Option.bind_some, if_pos h, words_eq h]
theorem spec_words0 {t p i q : Int} (h : ¬ geoB t p i q = true) : spec_PartWords.f t p i q = some 0 := by
  unfold spec_PartWords.f
  simp only [spec_geo, Option.bind_some, if_neg h]
theorem impl_words {t p i q : Int} (h : geoB t p i q = true) : impl_Geo_partWords.f t p i q = some (38 + 8 * i + 4 * p) := by
  unfold impl_Geo_partWords.f
  rw [words_eq h]
def kindOf (i m : Int) : Int := if m = 0 then 1 else if m = 2 then 2 else if m < 4 then 0 else if m < 36 then 3 else if m < 38 then 4 else if m < 38 + 8 * i then 5 else 6
theorem kind_if (x i m : Int) : (if m = 0 then some (x, (1 : Int)) else if m = 2 then some (x, 2) else if m < 4 then some (x, 0) else if m < 36 then some (x, 3) else if m < 38 then some (x, 4) else if m < 38 + 8 * i then some (x, 5) else some (x, 6)) = some (x, kindOf i m) := by
  by_cases h0 : m = 0
  · simp only [kindOf, if_pos h0]
  by_cases h1 : m = 2
  · simp only [kindOf, if_neg h0, if_pos h1]
  by_cases h2 : m < 4
  · simp only [kindOf, if_neg h0, if_neg h1, if_pos h2]
  by_cases h3 : m < 36
  · simp only [kindOf, if_neg h0, if_neg h1, if_neg h2, if_pos h3]
  by_cases h4 : m < 38
  · simp only [kindOf, if_neg h0, if_neg h1, if_neg h2, if_neg h3, if_pos h4]
  by_cases h5 : m < 38 + 8 * i
  · simp only [kindOf, if_neg h0, if_neg h1, if_neg h2, if_neg h3, if_neg h4, if_pos h5]
  · simp only [kindOf, if_neg h0, if_neg h1, if_neg h2, if_neg h3, if_neg h4, if_neg h5]
def partR (t p i a : Int) : Int × Int := if 0 ≤ a ∧ a ≤ t * (38 + 8 * i + 4 * p) - 1 then (wrap64 (Int.tdiv a (38 + 8 * i + 4 * p)), kindOf i (Int.tmod a (38 + 8 * i + 4 * p))) else (-1, 0)
theorem spec_part {t p i q : Int} (h : geoB t p i q = true) (a : Int) : Ev (fun k => spec_PartAt.f k t p i q a) (partR t p i a) := by
  have hg := geoB_iff.1 h
  have hs := geo_small h
  have e1 : wrap64 (t * (38 + 8 * i + 4 * p)) = t * (38 + 8 * i + 4 * p) := w64 (by omega) (by omega)
  have e2 : wrap64 (t * (38 + 8 * i + 4 * p) - 1) = t * (38 + 8 * i + 4 * p) - 1 := w64 (by omega) (by omega)
  have e3 : wrap64 (8 * i) = 8 * i := w64 (by omega) (by omega)
  have e4 : wrap64 (38 + 8 * i) = 38 + 8 * i := w64 (by omega) (by omega)
  have hn : ¬ (38 + 8 * i + 4 * p = 0) := by omega
  unfold spec_PartAt.f
  simp only [spec_words h, Option.bind_some, if_neg hn, e1, e2, in_ev]
  refine ev_succ (ev_some fun k => ?_)
  simp only [spec_PartAt.j0]
  unfold partR
  by_cases hr : 0 ≤ a ∧ a ≤ t * (38 + 8 * i + 4 * p) - 1
  · simp only [decide_eq_true hr, Bool.not_true, Bool.false_eq_true, if_false, if_neg hn, if_pos hr, e3, e4]
    exact kind_if _ _ _
  · simp only [decide_eq_false hr, Bool.not_false, if_true, if_neg hr]
theorem spec_part0 {t p i q : Int} (h : ¬ geoB t p i q = true) (a : Int) : Ev (fun k => spec_PartAt.f k t p i q a) (-1, 0) := by
  unfold spec_PartAt.f
  simp only [spec_words0 h, Option.bind_some, if_true]
  refine ev_succ (ev_some fun k => ?_)
  simp only [spec_PartAt.j0, if_true]
theorem impl_part {t p i q : Int} (h : geoB t p i q = true) (a : Int) : Ev (fun k => impl_PartAt.f k t p i q a) (partR t p i a) := by
  have hg := geoB_iff.1 h
  have hs := geo_small h
  have e1 : wrap64 (t * (38 + 8 * i + 4 * p)) = t * (38 + 8 * i + 4 * p) := w64 (by omega) (by omega)
  have e2 : wrap64 (t * (38 + 8 * i + 4 * p) - 1) = t * (38 + 8 * i + 4 * p) - 1 := w64 (by omega) (by omega)
  have e3 : wrap64 (8 * i) = 8 * i := w64 (by omega) (by omega)
  have e4 : wrap64 (38 + 8 * i) = 38 + 8 * i := w64 (by omega) (by omega)
  have hn : ¬ (38 + 8 * i + 4 * p = 0) := by omega
  unfold impl_PartAt.f
  simp only [impl_geo, Option.bind_some, if_pos h, impl_words h, e1, e2, within_ev]
  refine ev_succ (ev_some fun k => ?_)
  simp only [impl_PartAt.j0, impl_words h, Option.bind_some, if_neg hn]
  unfold partR
  by_cases hr : 0 ≤ a ∧ a ≤ t * (38 + 8 * i + 4 * p) - 1
  · simp only [decide_eq_true hr, Bool.not_true, Bool.false_eq_true, if_false, if_pos hr, e3, e4]
    exact kind_if _ _ _
  · simp only [decide_eq_false hr, Bool.not_false, if_true, if_neg hr]
def recB (t p i a : Int) : Bool := if (partR t p i a).2 = 5 then decide (2 ≤ Int.tmod (wrap64 ((Int.tmod a (38 + 8 * i + 4 * p)) - 38)) 8 ∧ Int.tmod (wrap64 ((Int.tmod a (38 + 8 * i + 4 * p)) - 38)) 8 ≤ 5) else false
theorem spec_rec {t p i q : Int} (h : geoB t p i q = true) (a : Int) : Ev (fun k => spec_l26Rec.f k t p i q a) (recB t p i a) := by
  have hs := geo_small h
  have hn : ¬ (38 + 8 * i + 4 * p = 0) := by omega
  unfold spec_l26Rec.f recB
  refine Ev.bind (spec_part h a) ?_
  by_cases c : (partR t p i a).2 = 5
  · simp only [if_pos c, spec_words h, Option.bind_some, if_neg hn, in_ev]
    exact Ev.now _
  · simp only [if_neg c]
    exact Ev.now _
theorem impl_rec {t p i q : Int} (h : geoB t p i q = true) (a : Int) : Ev (fun k => impl_isRecAt.f k t p i q a) (recB t p i a) := by
  have hs := geo_small h
  have hn : ¬ (38 + 8 * i + 4 * p = 0) := by omega
  unfold impl_isRecAt.f recB
  refine Ev.bind (impl_part h a) ?_
  simp only [impl_words h, Option.bind_some, if_neg hn, within_ev]
  by_cases c : (partR t p i a).2 = 5
  · simp only [if_pos c]
    exact Ev.now _
  · simp only [if_neg c]
    exact Ev.now _

def okAt (K : ByteArray) (xs : List S155) (i : Nat) : Bool := decide (0 ≤ (rd_T155 xs (i : Int)).f0 ∧ (rd_T155 xs (i : Int)).f0 ≤ (K.size : Int) / 16 - 1) && (decide (((rd_T155 xs (i : Int)).f1.size : Int) = 16) && decide (i = 0 ∨ (rd_T155 xs ((i : Int) - 1)).f0 < (rd_T155 xs (i : Int)).f0))
def okFrom (K : ByteArray) (xs : List S155) : Nat → Nat → Bool
  | _, 0 => true
  | i, d + 1 => okAt K xs i && okFrom K xs (i + 1) d
theorem spec_cells (K : ByteArray) (xs : List S155) (hK : K.size ≤ 1048576) (hl : xs.length ≤ 1048576) : ∀ d i : Nat, i + d = xs.length → Ev (fun k => spec_MemoryOk.l0 k (i : Int) K xs) (okFrom K xs i d)
  | 0, i, h => by
    refine ev_succ (ev_some fun k => ?_)
    rw [spec_MemoryOk.l0, if_neg (by omega)]
    rfl
  | d + 1, i, h => by
    have ih := spec_cells K xs hK hl d (i + 1) (by omega)
    have e1 : wrap64 ((i : Int) + 1) = ((i + 1 : Nat) : Int) := by rw [w64 (by omega) (by omega)]; rfl
    have e2 : wrap64 ((K.size : Int) / 16) = (K.size : Int) / 16 := w64 (by omega) (by omega)
    have e3 : wrap64 ((K.size : Int) / 16 - 1) = (K.size : Int) / 16 - 1 := w64 (by omega) (by omega)
    have e4 : wrap64 ((i : Int) - 1) = (i : Int) - 1 := w64 (by omega) (by omega)
    refine ev_succ ?_
    unfold okFrom okAt
    simp only [spec_MemoryOk.l0, spec_l10Size.f, in_ev, Option.bind_some, if_pos (show (i : Int) < (xs.length : Int) by omega), if_pos (show (0 : Int) ≤ (i : Int) by omega), if_neg (show ¬ ((16 : Int) = 0) by decide), e1, e2, e3, e4, decide_eq_true_eq]
    by_cases c1 : 0 ≤ (rd_T155 xs (i : Int)).f0 ∧ (rd_T155 xs (i : Int)).f0 ≤ (K.size : Int) / 16 - 1
    · by_cases c2 : ((rd_T155 xs (i : Int)).f1.size : Int) = 16
      · simp only [if_pos c1, if_pos c2, decide_eq_true c1, decide_eq_true c2, Bool.true_and]
        by_cases c3 : (i : Int) > 0
        · simp only [if_pos c3, if_pos (show 0 ≤ (i : Int) - 1 by omega), if_pos (show (i : Int) - 1 < (xs.length : Int) by omega)]
          by_cases c4 : (rd_T155 xs ((i : Int) - 1)).f0 ≥ (rd_T155 xs (i : Int)).f0
          · simp only [if_pos c4, decide_eq_false (show ¬ (i = 0 ∨ (rd_T155 xs ((i : Int) - 1)).f0 < (rd_T155 xs (i : Int)).f0) by omega), Bool.false_and]
            exact Ev.now _
          · simp only [if_neg c4, decide_eq_true (show (i = 0 ∨ (rd_T155 xs ((i : Int) - 1)).f0 < (rd_T155 xs (i : Int)).f0) by omega), Bool.true_and]
            exact ih
        · simp only [if_neg c3, decide_eq_true (show (i = 0 ∨ (rd_T155 xs ((i : Int) - 1)).f0 < (rd_T155 xs (i : Int)).f0) by omega), Bool.true_and]
          exact ih
      · simp only [if_pos c1, if_neg c2, decide_eq_false c2, Bool.false_and, Bool.and_false]
        exact Ev.now _
    · simp only [if_neg c1, decide_eq_false c1, Bool.false_and]
      exact Ev.now _
def sizeB (K : ByteArray) : Bool := decide ((K.size : Int) % 16 = 0) && decide ((K.size : Int) ≤ 16000)
theorem impl_cells (K : ByteArray) (xs : List S155) (hK : K.size ≤ 1048576) (hl : xs.length ≤ 1048576) : ∀ d i : Nat, i + d = xs.length → Ev (fun k => impl_MemoryOk.l0 k xs (xs.length : Int) (i : Int) K xs) (okFrom K xs i d && sizeB K)
  | 0, i, h => by
    refine ev_succ (ev_some fun k => ?_)
    rw [impl_MemoryOk.l0, if_neg (by omega)]
    unfold okFrom sizeB
    by_cases c : (K.size : Int) % 16 = 0
    · simp only [if_pos c, decide_eq_true c, Bool.true_and]
    · simp only [if_neg c, decide_eq_false c, Bool.false_and, Bool.true_and]
  | d + 1, i, h => by
    have ih := impl_cells K xs hK hl d (i + 1) (by omega)
    have e1 : wrap64 ((i : Int) + 1) = ((i + 1 : Nat) : Int) := by rw [w64 (by omega) (by omega)]; rfl
    have e2 : wrap64 ((K.size : Int) / 16) = (K.size : Int) / 16 := w64 (by omega) (by omega)
    have e3 : wrap64 ((K.size : Int) / 16 - 1) = (K.size : Int) / 16 - 1 := w64 (by omega) (by omega)
    have e4 : wrap64 ((i : Int) - 1) = (i : Int) - 1 := w64 (by omega) (by omega)
    refine ev_succ ?_
    unfold okFrom okAt
    simp only [impl_MemoryOk.l0, within_ev, Option.bind_some, if_pos (show (i : Int) < (xs.length : Int) by omega), if_pos (show (0 : Int) ≤ (i : Int) by omega), e1, e2, e3, e4, decide_eq_true_eq]
    by_cases c1 : 0 ≤ (rd_T155 xs (i : Int)).f0 ∧ (rd_T155 xs (i : Int)).f0 ≤ (K.size : Int) / 16 - 1
    · by_cases c2 : ((rd_T155 xs (i : Int)).f1.size : Int) = 16
      · simp only [if_pos c1, if_pos c2, decide_eq_true c1, decide_eq_true c2, Bool.true_and]
        by_cases c3 : (i : Int) > 0
        · simp only [if_pos c3, if_pos (show 0 ≤ (i : Int) - 1 by omega), if_pos (show (i : Int) - 1 < (xs.length : Int) by omega)]
          by_cases c4 : (rd_T155 xs (i : Int)).f0 ≤ (rd_T155 xs ((i : Int) - 1)).f0
          · simp only [if_pos c4, decide_eq_false (show ¬ (i = 0 ∨ (rd_T155 xs ((i : Int) - 1)).f0 < (rd_T155 xs (i : Int)).f0) by omega), Bool.false_and]
            exact Ev.now _
          · simp only [if_neg c4, decide_eq_true (show (i = 0 ∨ (rd_T155 xs ((i : Int) - 1)).f0 < (rd_T155 xs (i : Int)).f0) by omega), Bool.true_and]
            exact ih
        · simp only [if_neg c3, decide_eq_true (show (i = 0 ∨ (rd_T155 xs ((i : Int) - 1)).f0 < (rd_T155 xs (i : Int)).f0) by omega), Bool.true_and]
          exact ih
      · simp only [if_pos c1, if_neg c2, decide_eq_false c2, Bool.false_and, Bool.and_false]
        exact Ev.now _
    · simp only [if_neg c1, decide_eq_false c1, Bool.false_and]
      exact Ev.now _
def memB (K : ByteArray) (xs : List S155) : Bool := okFrom K xs 0 xs.length && sizeB K
theorem impl_mem (K : ByteArray) (xs : List S155) (hK : K.size ≤ 1048576) (hl : xs.length ≤ 1048576) : Ev (fun k => impl_MemoryOk.f k K xs) (memB K xs) := by
  unfold impl_MemoryOk.f
  exact impl_cells K xs hK hl xs.length 0 (by omega)
theorem spec_mem (K : ByteArray) (xs : List S155) (hK : K.size ≤ 1048576) (hl : xs.length ≤ 1048576) : Ev (fun k => spec_MemoryOk.f k K xs) (memB K xs) := by
  unfold spec_MemoryOk.f memB sizeB
  simp only [spec_l10Size.f, Option.bind_some, if_neg (show ¬ ((16 : Int) = 0) by decide), show wrap64 (1000 * 16) = 16000 from w64 (by omega) (by omega)]
  by_cases c : (K.size : Int) % 16 = 0
  · simp only [if_pos c, decide_eq_true c, Bool.true_and]
    refine ev_succ ?_
    simp only [spec_MemoryOk.j0, decide_eq_true_eq]
    by_cases c2 : (K.size : Int) > 16000
    · simp only [if_pos c2, decide_eq_false (show ¬ (K.size : Int) ≤ 16000 by omega), Bool.and_false]
      exact Ev.now _
    · simp only [if_neg c2, decide_eq_true (show (K.size : Int) ≤ 16000 by omega), Bool.and_true]
      exact spec_cells K xs hK hl xs.length 0 (by omega)
  · simp only [if_neg c, decide_eq_false c, Bool.false_and, Bool.and_false]
    refine ev_succ (ev_some fun k => ?_)
    simp only [spec_MemoryOk.j0, if_true]
theorem lines_eq {t p i q : Int} (h : geoB t p i q = true) : wrap64 (Int.tdiv (wrap64 (t * (38 + 8 * i + 4 * p))) 2) = t * (19 + 4 * i + 2 * p) := by
  have hs := geo_small h
  have e1 : wrap64 (t * (38 + 8 * i + 4 * p)) = t * (38 + 8 * i + 4 * p) := w64 (by omega) (by omega)
  rw [e1, hs.2.2.2.2, Int.mul_tdiv_cancel_left _ (by decide)]
  exact w64 (by omega) (by omega)
theorem spec_lines {t p i q : Int} (h : geoB t p i q = true) : spec_LinesIn.f t p i q = some (t * (19 + 4 * i + 2 * p)) := by
  unfold spec_LinesIn.f
  simp only [spec_words h, Option.bind_some, lines_eq h]
theorem impl_lines {t p i q : Int} (h : geoB t p i q = true) : impl_Geo_lines.f t p i q = some (t * (19 + 4 * i + 2 * p)) := by
  unfold impl_Geo_lines.f
  simp only [impl_words h, Option.bind_some, lines_eq h]
def placed (K : ByteArray) (xs : List S155) (t p i q : Int) : Bool := memB K xs && (geoB t p i q && decide (t * (19 + 4 * i + 2 * p) ≤ (K.size : Int) / 16))
theorem spec_placed (K : ByteArray) (xs : List S155) (t p i q : Int) (hK : K.size ≤ 1048576) (hl : xs.length ≤ 1048576) : Ev (fun k => spec_l19Has.f k K xs t p i q) (placed K xs t p i q) := by
  unfold spec_l19Has.f placed
  simp only [spec_geo, Option.bind_some]
  by_cases hg : geoB t p i q = true
  · have hs := geo_small hg
    simp only [if_pos hg]
    refine Ev.bind (spec_mem K xs hK hl) ?_
    by_cases hm : memB K xs = true
    · simp only [if_pos hm, spec_l10Words.f, spec_lines hg, Option.bind_some, hm, hg, Bool.true_and]
      rw [w64 (show -9223372036854775808 ≤ (K.size : Int) / 8 by omega) (by omega), w64 (show -9223372036854775808 ≤ 2 * (t * (19 + 4 * i + 2 * p)) by omega) (by omega)]
      refine ev_eq (Ev.now _) ?_
      simp only [decide_eq_decide]
      omega
    · simp only [if_neg hm, Bool.eq_false_iff.mpr hm, Bool.false_and]
      exact Ev.now _
  · simp only [if_neg hg, Bool.eq_false_iff.mpr hg, Bool.false_and, Bool.and_false]
    exact Ev.now _
theorem impl_placed (K : ByteArray) (xs : List S155) (t p i q : Int) (hK : K.size ≤ 1048576) (hl : xs.length ≤ 1048576) : Ev (fun k => impl_isPlaced.f k K xs t p i q) (placed K xs t p i q) := by
  unfold impl_isPlaced.f placed
  refine Ev.bind (impl_mem K xs hK hl) ?_
  by_cases hm : memB K xs = true
  · simp only [if_pos hm, impl_geo, Option.bind_some, hm, Bool.true_and]
    by_cases hg : geoB t p i q = true
    · simp only [if_pos hg, impl_lines hg, Option.bind_some, hg, Bool.true_and]
      rw [w64 (show -9223372036854775808 ≤ (K.size : Int) / 16 by omega) (by omega)]
      exact Ev.now _
    · simp only [if_neg hg, Bool.eq_false_iff.mpr hg, Bool.false_and]
      exact Ev.now _
  · simp only [if_neg hm, Bool.eq_false_iff.mpr hm, Bool.false_and]
    exact Ev.now _

def word (K : ByteArray) (a : Nat) : ByteArray := K.extract (a * 8) ((a + 1) * 8)
theorem word_size (K : ByteArray) (a : Nat) (h : (a + 1) * 8 ≤ K.size) : (word K a).size = 8 := by
  unfold word
  rw [ByteArray.size_extract]
  omega
theorem spec_kept (K : ByteArray) (xs : List S155) (a : Nat) (hK : K.size ≤ 1048576) (h : (a + 1) * 8 ≤ K.size) : spec_l26Kept.f K xs (a : Int) = some (word K a) := by
  have e1 : wrap64 ((a : Int) * 8) = ((a * 8 : Nat) : Int) := by rw [w64 (by omega) (by omega)]; omega
  have e2 : wrap64 ((a : Int) + 1) = ((a + 1 : Nat) : Int) := by rw [w64 (by omega) (by omega)]; omega
  have e3 : wrap64 (((a + 1 : Nat) : Int) * 8) = (((a + 1) * 8 : Nat) : Int) := by rw [w64 (by omega) (by omega)]; omega
  unfold spec_l26Kept.f word
  rw [e1, e2, e3, if_pos (by omega), if_pos (by omega), if_pos (by omega)]
  rfl
theorem impl_line (K : ByteArray) (l : Nat) (hK : K.size ≤ 1048576) (h : (l + 1) * 16 ≤ K.size) : Ev (fun k => impl_Memory_line.f k K ([] : List S155) (l : Int)) (K.extract (l * 16) ((l + 1) * 16)) := by
  have e1 : wrap64 ((l : Int) * 16) = ((l * 16 : Nat) : Int) := by rw [w64 (by omega) (by omega)]; omega
  have e2 : wrap64 ((l : Int) + 1) = ((l + 1 : Nat) : Int) := by rw [w64 (by omega) (by omega)]; omega
  have e3 : wrap64 (((l + 1 : Nat) : Int) * 16) = (((l + 1) * 16 : Nat) : Int) := by rw [w64 (by omega) (by omega)]; omega
  unfold impl_Memory_line.f impl_Memory_findCell.f impl_Cell_int.f
  have h1 : Ev (fun k => impl_Cell_int.l0 k ([] : List S155) (l : Int) (([] : List S155).length : Int) 0 (([] : List S155).length : Int)) ((0 : Int), false) := by
    refine ev_succ (ev_some fun k => ?_)
    rw [impl_Cell_int.l0, if_neg (by simp), if_neg (by simp)]
  refine Ev.bind (Ev.bind h1 (Ev.now _)) ?_
  simp only [Bool.false_eq_true, if_false]
  rw [e1, e2, e3, if_pos (by omega), if_pos (by omega), if_pos (by omega)]
  exact Ev.now _
theorem impl_word (K : ByteArray) (a : Nat) (hK : K.size ≤ 1048576) (h16 : K.size % 16 = 0) (h : (a + 1) * 8 ≤ K.size) : Ev (fun k => impl_Memory_word.f k K ([] : List S155) (a : Int)) (word K a) := by
  have e0 : Int.tdiv (a : Int) 2 = ((a / 2 : Nat) : Int) := by rw [Int.tdiv_eq_ediv_of_nonneg (by omega)]; omega
  have e1 : wrap64 ((a / 2 : Nat) : Int) = ((a / 2 : Nat) : Int) := w64 (by omega) (by omega)
  have e2 : Int.tmod (a : Int) 2 = ((a % 2 : Nat) : Int) := by rw [Int.tmod_eq_emod_of_nonneg (by omega)]; omega
  have e3 : wrap64 (((a % 2 : Nat) : Int) * 8) = ((a % 2 * 8 : Nat) : Int) := by rw [w64 (by omega) (by omega)]; omega
  have e4 : wrap64 (((a % 2 * 8 : Nat) : Int) + 8) = ((a % 2 * 8 + 8 : Nat) : Int) := by rw [w64 (by omega) (by omega)]; omega
  have hL : (a / 2 + 1) * 16 ≤ K.size := by omega
  have hs : (K.extract (a / 2 * 16) ((a / 2 + 1) * 16)).size = 16 := by rw [ByteArray.size_extract]; omega
  unfold impl_Memory_word.f
  rw [e0, e1]
  refine Ev.bind (impl_line K (a / 2) hK hL) ?_
  rw [e2, e3, e4, hs, if_pos (by omega), if_pos (by omega), if_pos (by omega)]
  refine ev_eq (Ev.now _) ?_
  unfold word
  rw [Int.toNat_natCast, Int.toNat_natCast, ByteArray.extract_extract]
  congr 1 <;> omega
theorem word_text (a : ByteArray) (h : a.size = 1) : ∃ r, Ev (fun k => spec_WordText.f k a) r ∧ impl_WordText.f a = some r ∧ r.size ≤ 8 := by
  refine ⟨a ++ zeros 7, ?_, ?_, by rw [ByteArray.size_append, h]; exact Nat.le_refl _⟩
  · unfold spec_WordText.f spec_ZeroText.f
    have e : wrap64 (8 - (a.size : Int)) = 7 := by rw [h]; exact w64 (by omega) (by omega)
    rw [e, in_ev]
    refine ev_neg (by omega) (Ev.bind (Ev.bind (Ev.now _) (ev_pos (by decide) (Ev.bind (long_ev 7 0 (by omega)) (Ev.now _)))) (ev_pos ?_ ?_))
    · rw [nums_size, h]; simp
    · refine ev_eq (Ev.now _) ?_
      congr 1
  · unfold impl_WordText.f impl_padded.f
    rw [if_neg (by omega), if_pos ⟨by omega, by omega, by omega⟩, h]
    rfl
theorem coreW (t p i q : Int) (n : Nat) (K : ByteArray) (xs : List S155) (hK : K.size ≤ 1048576) (hl : xs.length ≤ 1048576) (hP : placed K xs t p i q = true) (hr : 0 ≤ (n : Int) ∧ (n : Int) ≤ t * (38 + 8 * i + 4 * p) - 1) : ∃ r, Ev (fun k => spec_MaskedWord.f k t p i q (n : Int) K xs) r ∧ Ev (fun k => impl_maskedWord.f k t p i q (n : Int) K ([] : List S155)) r ∧ r.size ≤ 8 := by
  have hsp := spec_placed K xs t p i q hK hl
  have hpart : ∃ y : Int × Int, Ev (fun k => spec_PartAt.f k t p i q (n : Int)) y ∧ (geoB t p i q = true → y = partR t p i (n : Int)) := by
    by_cases hg : geoB t p i q = true
    · exact ⟨_, spec_part hg _, fun _ => rfl⟩
    · exact ⟨_, spec_part0 hg _, fun h => absurd h hg⟩
  obtain ⟨y, hy, hyr⟩ := hpart
  unfold spec_MaskedWord.f
  have hP' := hP
  unfold placed memB sizeB at hP'
  simp only [Bool.and_eq_true, decide_eq_true_eq] at hP'
  obtain ⟨⟨_, h16, _⟩, hg, hL⟩ := hP'
  have hs := geo_small hg
  have hn : ¬ (38 + 8 * i + 4 * p = 0) := by omega
  have hyr := hyr hg
  have e1 : wrap64 (2 * (t * (19 + 4 * i + 2 * p))) = t * (38 + 8 * i + 4 * p) := by rw [w64 (by omega) (by omega)]; omega
  have e2 : wrap64 (t * (38 + 8 * i + 4 * p) - 1) = t * (38 + 8 * i + 4 * p) - 1 := w64 (by omega) (by omega)
  have e3 : wrap64 (t * (38 + 8 * i + 4 * p)) = t * (38 + 8 * i + 4 * p) := w64 (by omega) (by omega)
  have hW : (n + 1) * 8 ≤ K.size := by omega
  have h16' : K.size % 16 = 0 := by omega
  have hsz := word_size K n hW
  suffices H : ∃ r, Ev (fun k => spec_MaskedWord.j0 k (n : Int) y.2 false t p i q K xs) r ∧ Ev (fun k => impl_maskedWord.f k t p i q (n : Int) K ([] : List S155)) r ∧ r.size ≤ 8 by
    obtain ⟨r, H1, H2, H3⟩ := H
    refine ⟨r, Ev.bind hy (Ev.bind hsp (ev_pos hP ?_)), H2, H3⟩
    simp only [spec_lines hg, Option.bind_some, e1, e2, in_ev, decide_eq_true hr, Bool.not_true]
    exact H1
  unfold impl_maskedWord.f
  have hip2 := impl_part hg (n : Int)
  rw [← hyr] at hip2
  have hiw := impl_word K n hK h16' hW
  generalize hk : y.2 = kd
  have main : ∀ (S I : Nat → Option ByteArray), (∃ r, Ev S r ∧ Ev I r ∧ r.size ≤ 8) → (∀ k, spec_MaskedWord.j0 (k + 1) (n : Int) kd false t p i q K xs = S k) → (∀ k, (if y.2 = 1 then (if 0 ≤ 1 then (if 1 ≤ ((word K n).size : Int) then ((impl_WordText.f ((word K n).extract 0 1)).bind fun t273 => (some t273)) else (none)) else (none)) else (if y.2 = 5 then ((impl_isRecAt.f k t p i q (n : Int)).bind fun t274 => (if t274 = true then ((impl_MaskRec.f (word K n)).bind fun t275 => (some t275)) else (some (word K n)))) else (if y.2 = 6 then ((impl_zeroWord.f).bind fun t276 => (if (word K n).toList = t276.toList then (some (word K n)) else (some (⟨#[255, 255, 255, 255, 255, 255, 255, 255]⟩ : ByteArray)))) else (if y.2 = 3 then ((impl_Geo_partWords.f t p i q).bind fun t277 => (if t277 = 0 then (none) else (if (Int.tmod (wrap64 ((Int.tmod (n : Int) t277) - 4)) 2) = 0 then (some (word K n)) else ((impl_Memory_word.f k K ([] : List S155) (wrap64 ((n : Int) - 1))).bind fun t278 => ((impl_ReadAddress.f k t278).bind fun bt279 => (if bt279.2 = true then ((impl_isRecAt.f k t p i q bt279.1).bind fun t281 => (if t281 = true then ((impl_MaskRec.f (word K n)).bind fun t282 => (some t282)) else (some (word K n)))) else (some (word K n)))))))) else (some (word K n)))))) = I k) → ∃ r, Ev (fun k => spec_MaskedWord.j0 k (n : Int) kd false t p i q K xs) r ∧ Ev (fun k => (impl_Memory_word.f k K ([] : List S155) (n : Int)).bind fun t270 => ((impl_PartAt.f k t p i q (n : Int)).bind fun bt271 => (if bt271.2 = 1 then (if 0 ≤ 1 then (if 1 ≤ (t270.size : Int) then ((impl_WordText.f (t270.extract 0 1)).bind fun t273 => (some t273)) else (none)) else (none)) else (if bt271.2 = 5 then ((impl_isRecAt.f k t p i q (n : Int)).bind fun t274 => (if t274 = true then ((impl_MaskRec.f t270).bind fun t275 => (some t275)) else (some t270))) else (if bt271.2 = 6 then ((impl_zeroWord.f).bind fun t276 => (if t270.toList = t276.toList then (some t270) else (some (⟨#[255, 255, 255, 255, 255, 255, 255, 255]⟩ : ByteArray)))) else (if bt271.2 = 3 then ((impl_Geo_partWords.f t p i q).bind fun t277 => (if t277 = 0 then (none) else (if (Int.tmod (wrap64 ((Int.tmod (n : Int) t277) - 4)) 2) = 0 then (some t270) else ((impl_Memory_word.f k K ([] : List S155) (wrap64 ((n : Int) - 1))).bind fun t278 => ((impl_ReadAddress.f k t278).bind fun bt279 => (if bt279.2 = true then ((impl_isRecAt.f k t p i q bt279.1).bind fun t281 => (if t281 = true then ((impl_MaskRec.f t270).bind fun t282 => (some t282)) else (some t270))) else (some t270))))))) else (some t270))))))) r ∧ r.size ≤ 8 := by
    rintro S I ⟨r, hS, hI, hZ⟩ h1 h2
    refine ⟨r, ev_succ ?_, Ev.bind hiw (Ev.bind hip2 ?_), hZ⟩
    · simp only [h1]; exact hS
    · simp only [h2]; exact hI
  by_cases k1 : kd = 1
  · obtain ⟨r, w1, w2, w3⟩ := word_text ((word K n).extract 0 1) (by rw [ByteArray.size_extract]; omega)
    refine main (fun k => (spec_WordText.f k ((word K n).extract 0 1)).bind fun t171 => some t171) (fun _ => some r) ⟨r, Ev.bind w1 (Ev.now r), Ev.now r, by first | omega | (rw [nums_size]; simp)⟩ (fun k => ?_) (fun k => ?_)
    · simp only [spec_MaskedWord.j0, Bool.false_eq_true, if_false, spec_kept K xs n hK hW, Option.bind_some, if_pos k1, hsz, if_pos (show (0 : Nat) ≤ 1 by decide), if_pos (show (1 : Int) ≤ ((8 : Nat) : Int) by decide)]
    · simp only [hk, if_pos k1, hsz, if_pos (show (0 : Nat) ≤ 1 by decide), if_pos (show (1 : Int) ≤ ((8 : Nat) : Int) by decide), w2, Option.bind_some]
  by_cases k5 : kd = 5
  · obtain ⟨r, w1, w2, w3⟩ := rec_core (word K n) (by omega)
    by_cases hb : recB t p i (n : Int) = true
    · refine main (fun k => (spec_l26Rec.f k t p i q (n : Int)).bind fun t172 => if t172 = true then (spec_MaskRec.f k (word K n)).bind fun t173 => some t173 else some (word K n)) (fun k => (impl_isRecAt.f k t p i q (n : Int)).bind fun t274 => if t274 = true then some r else some (word K n)) ⟨r, Ev.bind (spec_rec hg (n : Int)) (ev_pos hb (Ev.bind w1 (Ev.now r))), Ev.bind (impl_rec hg (n : Int)) (ev_pos hb (Ev.now r)), by first | omega | (rw [nums_size]; simp)⟩ (fun k => ?_) (fun k => ?_)
      · simp only [spec_MaskedWord.j0, Bool.false_eq_true, if_false, spec_kept K xs n hK hW, Option.bind_some, if_neg k1, if_pos k5]
        try rfl
      · simp only [hk, if_neg k1, if_pos k5, w2, Option.bind_some]
        try rfl
    · refine main (fun k => (spec_l26Rec.f k t p i q (n : Int)).bind fun t172 => if t172 = true then (spec_MaskRec.f k (word K n)).bind fun t173 => some t173 else some (word K n)) (fun k => (impl_isRecAt.f k t p i q (n : Int)).bind fun t274 => if t274 = true then some r else some (word K n)) ⟨word K n, Ev.bind (spec_rec hg (n : Int)) (ev_neg hb (Ev.now (word K n))), Ev.bind (impl_rec hg (n : Int)) (ev_neg hb (Ev.now (word K n))), by first | omega | (rw [nums_size]; simp)⟩ (fun k => ?_) (fun k => ?_)
      · simp only [spec_MaskedWord.j0, Bool.false_eq_true, if_false, spec_kept K xs n hK hW, Option.bind_some, if_neg k1, if_pos k5]
        try rfl
      · simp only [hk, if_neg k1, if_pos k5, w2, Option.bind_some]
        try rfl
  by_cases k6 : kd = 6
  · by_cases hz : allz (word K n) 0 = true
    · refine main (fun k => (spec_l26All.f k (word K n) 0).bind fun t174 => if t174 = true then some (word K n) else (spec_l01Long.f k 8 255).bind fun t175 => some t175) (fun _ => some (word K n)) ⟨word K n, Ev.bind (all_ok (word K n) 0 (by omega)) (ev_pos hz (Ev.now (word K n))), Ev.now (word K n), by first | omega | (rw [nums_size]; simp)⟩ (fun k => ?_) (fun k => ?_)
      · simp only [spec_MaskedWord.j0, Bool.false_eq_true, if_false, spec_kept K xs n hK hW, Option.bind_some, if_neg k1, if_neg k5, if_pos k6]
        try rfl
      · simp only [hk, if_neg k1, if_neg k5, if_pos k6, zeroWord_ok, Option.bind_some, if_pos ((allz_zw _ hsz).1 hz)]
    · refine main (fun k => (spec_l26All.f k (word K n) 0).bind fun t174 => if t174 = true then some (word K n) else (spec_l01Long.f k 8 255).bind fun t175 => some t175) (fun _ => some (strOfNums (List.replicate 8 255))) ⟨strOfNums (List.replicate 8 255), Ev.bind (all_ok (word K n) 0 (by omega)) (ev_neg hz (Ev.bind (long_ev 8 255 (by omega)) (Ev.now _))), Ev.now _, by first | omega | (rw [nums_size]; simp)⟩ (fun k => ?_) (fun k => ?_)
      · simp only [spec_MaskedWord.j0, Bool.false_eq_true, if_false, spec_kept K xs n hK hW, Option.bind_some, if_neg k1, if_neg k5, if_pos k6]
        try rfl
      · simp only [hk, if_neg k1, if_neg k5, if_pos k6, zeroWord_ok, Option.bind_some, if_neg (fun e => hz ((allz_zw _ hsz).2 e))]
        try rfl
  by_cases k3 : kd = 3
  · have hk3 : kindOf i (Int.tmod (n : Int) (38 + 8 * i + 4 * p)) = 3 := by
      have := hk.symm.trans (congrArg Prod.snd hyr)
      unfold partR at this
      rw [if_pos hr] at this
      rw [← k3]
      exact this.symm
    have hm0 : Int.tmod (n : Int) (38 + 8 * i + 4 * p) = (n : Int) % (38 + 8 * i + 4 * p) := Int.tmod_eq_emod_of_nonneg (by omega)
    have hmn := Int.emod_nonneg (n : Int) hn
    have hmle : (n : Int) % (38 + 8 * i + 4 * p) ≤ (n : Int) := by
      have := Int.mul_ediv_add_emod (n : Int) (38 + 8 * i + 4 * p)
      have h2 : 0 ≤ (38 + 8 * i + 4 * p) * ((n : Int) / (38 + 8 * i + 4 * p)) := Int.mul_nonneg (by omega) (Int.ediv_nonneg (by omega) (by omega))
      omega
    have hm : 4 ≤ (n : Int) % (38 + 8 * i + 4 * p) ∧ (n : Int) % (38 + 8 * i + 4 * p) < 36 := by
      rw [hm0] at hk3
      unfold kindOf at hk3
      by_cases a0 : (n : Int) % (38 + 8 * i + 4 * p) = 0
      · rw [if_pos a0] at hk3; omega
      by_cases a1 : (n : Int) % (38 + 8 * i + 4 * p) = 2
      · rw [if_neg a0, if_pos a1] at hk3; omega
      by_cases a2 : (n : Int) % (38 + 8 * i + 4 * p) < 4
      · rw [if_neg a0, if_neg a1, if_pos a2] at hk3; omega
      by_cases a3 : (n : Int) % (38 + 8 * i + 4 * p) < 36
      · omega
      by_cases a4 : (n : Int) % (38 + 8 * i + 4 * p) < 38
      · rw [if_neg a0, if_neg a1, if_neg a2, if_neg a3, if_pos a4] at hk3; omega
      by_cases a5 : (n : Int) % (38 + 8 * i + 4 * p) < 38 + 8 * i
      · rw [if_neg a0, if_neg a1, if_neg a2, if_neg a3, if_neg a4, if_pos a5] at hk3; omega
      · rw [if_neg a0, if_neg a1, if_neg a2, if_neg a3, if_neg a4, if_neg a5] at hk3; omega
    generalize (n : Int) % (38 + 8 * i + 4 * p) = m at hm0 hm hmle hmn
    have e5 : wrap64 (m - 4) = m - 4 := w64 (by omega) (by omega)
    have p1 : Int.tmod m 2 = m % 2 := Int.tmod_eq_emod_of_nonneg (by omega)
    have p2 : Int.tmod (m - 4) 2 = (m - 4) % 2 := Int.tmod_eq_emod_of_nonneg (by omega)
    by_cases hpar : m % 2 = 1
    · obtain ⟨n', rfl⟩ : ∃ n', n = n' + 1 := ⟨n - 1, by omega⟩
      have e6 : wrap64 (((n' + 1 : Nat) : Int) - 1) = (n' : Int) := by rw [w64 (by omega) (by omega)]; omega
      have hW2 : (n' + 1) * 8 ≤ K.size := by omega
      have hiw2 := impl_word K n' hK h16' hW2
      obtain ⟨b, r1, r2⟩ := read_core (word K n') (by have := word_size K n' hW2; omega)
      obtain ⟨r, w1, w2, w3⟩ := rec_core (word K (n' + 1)) (by omega)
      by_cases hb2 : b.2 = true
      · by_cases hb : recB t p i b.1 = true
        · refine main (fun k => (spec_ReadAddress.f k (word K n')).bind fun bt178 => if bt178.2 = true then (spec_l26Rec.f k t p i q bt178.1).bind fun t180 => if t180 = true then (spec_MaskRec.f k (word K (n' + 1))).bind fun t181 => some t181 else some (word K (n' + 1)) else some (word K (n' + 1))) (fun k => (impl_Memory_word.f k K ([] : List S155) (n' : Int)).bind fun t278 => (impl_ReadAddress.f k t278).bind fun bt279 => if bt279.2 = true then (impl_isRecAt.f k t p i q bt279.1).bind fun t281 => if t281 = true then some r else some (word K (n' + 1)) else some (word K (n' + 1))) ⟨r, Ev.bind r1 (ev_pos hb2 (Ev.bind (spec_rec hg b.1) (ev_pos hb (Ev.bind w1 (Ev.now r))))), Ev.bind hiw2 (Ev.bind r2 (ev_pos hb2 (Ev.bind (impl_rec hg b.1) (ev_pos hb (Ev.now r))))), by first | omega | (rw [nums_size]; simp)⟩ (fun k => ?_) (fun k => ?_)
          · simp only [spec_MaskedWord.j0, Bool.false_eq_true, if_false, spec_kept K xs _ hK hW, Option.bind_some, if_neg k1, if_neg k5, if_neg k6, if_pos k3, spec_words hg, if_neg hn, hm0, p1, if_pos hpar, e6, spec_kept K xs n' hK hW2]
            try rfl
          · simp only [hk, if_neg k1, if_neg k5, if_neg k6, if_pos k3, impl_words hg, Option.bind_some, if_neg hn, hm0, e5, p2, if_neg (show ¬ (m - 4) % 2 = 0 by omega), e6, w2]
            try rfl
        · refine main (fun k => (spec_ReadAddress.f k (word K n')).bind fun bt178 => if bt178.2 = true then (spec_l26Rec.f k t p i q bt178.1).bind fun t180 => if t180 = true then (spec_MaskRec.f k (word K (n' + 1))).bind fun t181 => some t181 else some (word K (n' + 1)) else some (word K (n' + 1))) (fun k => (impl_Memory_word.f k K ([] : List S155) (n' : Int)).bind fun t278 => (impl_ReadAddress.f k t278).bind fun bt279 => if bt279.2 = true then (impl_isRecAt.f k t p i q bt279.1).bind fun t281 => if t281 = true then some r else some (word K (n' + 1)) else some (word K (n' + 1))) ⟨word K (n' + 1), Ev.bind r1 (ev_pos hb2 (Ev.bind (spec_rec hg b.1) (ev_neg hb (Ev.now (word K (n' + 1)))))), Ev.bind hiw2 (Ev.bind r2 (ev_pos hb2 (Ev.bind (impl_rec hg b.1) (ev_neg hb (Ev.now (word K (n' + 1))))))), by first | omega | (rw [nums_size]; simp)⟩ (fun k => ?_) (fun k => ?_)
          · simp only [spec_MaskedWord.j0, Bool.false_eq_true, if_false, spec_kept K xs _ hK hW, Option.bind_some, if_neg k1, if_neg k5, if_neg k6, if_pos k3, spec_words hg, if_neg hn, hm0, p1, if_pos hpar, e6, spec_kept K xs n' hK hW2]
            try rfl
          · simp only [hk, if_neg k1, if_neg k5, if_neg k6, if_pos k3, impl_words hg, Option.bind_some, if_neg hn, hm0, e5, p2, if_neg (show ¬ (m - 4) % 2 = 0 by omega), e6, w2]
            try rfl
      · refine main (fun k => (spec_ReadAddress.f k (word K n')).bind fun bt178 => if bt178.2 = true then (spec_l26Rec.f k t p i q bt178.1).bind fun t180 => if t180 = true then (spec_MaskRec.f k (word K (n' + 1))).bind fun t181 => some t181 else some (word K (n' + 1)) else some (word K (n' + 1))) (fun k => (impl_Memory_word.f k K ([] : List S155) (n' : Int)).bind fun t278 => (impl_ReadAddress.f k t278).bind fun bt279 => if bt279.2 = true then (impl_isRecAt.f k t p i q bt279.1).bind fun t281 => if t281 = true then some r else some (word K (n' + 1)) else some (word K (n' + 1))) ⟨word K (n' + 1), Ev.bind r1 (ev_neg hb2 (Ev.now (word K (n' + 1)))), Ev.bind hiw2 (Ev.bind r2 (ev_neg hb2 (Ev.now (word K (n' + 1))))), by first | omega | (rw [nums_size]; simp)⟩ (fun k => ?_) (fun k => ?_)
        · simp only [spec_MaskedWord.j0, Bool.false_eq_true, if_false, spec_kept K xs _ hK hW, Option.bind_some, if_neg k1, if_neg k5, if_neg k6, if_pos k3, spec_words hg, if_neg hn, hm0, p1, if_pos hpar, e6, spec_kept K xs n' hK hW2]
          try rfl
        · simp only [hk, if_neg k1, if_neg k5, if_neg k6, if_pos k3, impl_words hg, Option.bind_some, if_neg hn, hm0, e5, p2, if_neg (show ¬ (m - 4) % 2 = 0 by omega), e6, w2]
          try rfl
    · refine main (fun _ => some (word K n)) (fun _ => some (word K n)) ⟨word K n, Ev.now (word K n), Ev.now (word K n), by first | omega | (rw [nums_size]; simp)⟩ (fun k => ?_) (fun k => ?_)
      · simp only [spec_MaskedWord.j0, Bool.false_eq_true, if_false, spec_kept K xs n hK hW, Option.bind_some, if_neg k1, if_neg k5, if_neg k6, if_pos k3, spec_words hg, if_neg hn, hm0, p1, if_neg hpar]
      · simp only [hk, if_neg k1, if_neg k5, if_neg k6, if_pos k3, impl_words hg, Option.bind_some, if_neg hn, hm0, e5, p2, if_pos (show (m - 4) % 2 = 0 by omega)]
  · refine main (fun _ => some (word K n)) (fun _ => some (word K n)) ⟨word K n, Ev.now (word K n), Ev.now (word K n), by first | omega | (rw [nums_size]; simp)⟩ (fun k => ?_) (fun k => ?_)
    · simp only [spec_MaskedWord.j0, Bool.false_eq_true, if_false, spec_kept K xs n hK hW, Option.bind_some, if_neg k1, if_neg k5, if_neg k6, if_neg k3]
    · simp only [hk, if_neg k1, if_neg k5, if_neg k6, if_neg k3]

theorem nums_more (y : List Int) (s : ByteArray) : strOfNums (y ++ bytesOf s) = strOfNums y ++ s := by
  apply ByteArray.ext; simp [strOfNums, bytesOf, Function.comp_def]
theorem image_nat {a b n N d : Nat} (h1 : a ≤ 8 * n) (h2 : n + (d + 1) = N) (h3 : N ≤ 402) (h4 : b ≤ 8) : a + b < 140737488355328 ∧ a + b ≤ 140737488355328 ∧ a + b ≤ 8 * (n + 1) ∧ (n : Int) < (N : Int) ∧ wrap64 ((n : Int) + 1) = ((n + 1 : Nat) : Int) := by
  refine ⟨by omega, by omega, by omega, by omega, ?_⟩
  rw [w64 (by omega) (by omega)]
  omega
theorem image_loop (t p i q : Int) (K : ByteArray) (xs : List S155) (hK : K.size ≤ 1048576) (hl : xs.length ≤ 1048576) (hP : placed K xs t p i q = true) (hg : geoB t p i q = true) (N : Nat) (hN : t * (38 + 8 * i + 4 * p) = (N : Int)) (hs : wrap64 (2 * (t * (19 + 4 * i + 2 * p))) = (N : Int)) (hN2 : N ≤ 402) :
    ∀ d n : Nat, n + d = N → ∀ y : List Int, y.length ≤ 8 * n → ∃ r, Ev (fun k => spec_MaskedImage.l0 k y (n : Int) K xs t p i q) r ∧ Ev (fun k => impl_MaskedImage.l0 k (strOfNums y) (N : Int) (n : Int) K xs t p i q) r
  | 0, n, h, y, hy => by
    refine ⟨strOfNums y, ev_succ (ev_some fun k => ?_), ev_succ (ev_some fun k => ?_)⟩
    · simp only [spec_MaskedImage.l0, spec_lines hg, Option.bind_some, hs, if_neg (show ¬ (n : Int) < (N : Int) by omega)]
    · simp only [impl_MaskedImage.l0, if_neg (show ¬ (n : Int) < (N : Int) by omega)]
  | d + 1, n, h, y, hy => by
    obtain ⟨r0, h1, h2, h3⟩ := coreW t p i q n K xs hK hl hP (by omega)
    have hb : (bytesOf r0).length = r0.size := by unfold bytesOf; rw [List.length_map, Array.length_toList]; rfl
    obtain ⟨c1, c2, c3, c4, c5⟩ := image_nat hy h hN2 h3
    obtain ⟨r, g1, g2⟩ := image_loop t p i q K xs hK hl hP hg N hN hs hN2 d (n + 1) (by omega) (y ++ bytesOf r0) (by rw [List.length_append, hb]; exact c3)
    rw [nums_more] at g2
    have e1 : wrap64 ((n : Int) + 1) = ((n + 1 : Nat) : Int) := c5
    have c2 : (strOfNums y).size + r0.size ≤ 140737488355328 := by rw [nums_size]; exact c2
    refine ⟨r, ev_succ ?_, ev_succ ?_⟩
    · simp only [spec_MaskedImage.l0, spec_lines hg, Option.bind_some, hs, if_pos c4, e1]
      exact Ev.bind h1 (ev_pos c1 g1)
    · simp only [impl_MaskedImage.l0, if_pos c4, e1]
      exact Ev.bind h2 (ev_pos c2 g2)
theorem image_core (t p i q : Int) (K : ByteArray) (xs : List S155) (hK : K.size ≤ 1048576) (hl : xs.length ≤ 1048576) : ∃ r, Ev (fun k => spec_MaskedImage.f k K xs t p i q) r ∧ Ev (fun k => impl_MaskedImage.f k K xs t p i q) r := by
  have hsp := spec_placed K xs t p i q hK hl
  have hip := impl_placed K xs t p i q hK hl
  unfold spec_MaskedImage.f impl_MaskedImage.f
  by_cases hP : placed K xs t p i q = true
  · have hP' := hP
    unfold placed memB sizeB at hP'
    simp only [Bool.and_eq_true, decide_eq_true_eq] at hP'
    obtain ⟨_, hg, hL⟩ := hP'
    have hs := geo_small hg
    obtain ⟨M, hM⟩ : ∃ M : Nat, t * (38 + 8 * i + 4 * p) = (M : Int) := ⟨(t * (38 + 8 * i + 4 * p)).toNat, by omega⟩
    have e1 : wrap64 (2 * (t * (19 + 4 * i + 2 * p))) = (M : Int) := by rw [w64 (by omega) (by omega)]; omega
    have e3 : wrap64 (t * (38 + 8 * i + 4 * p)) = (M : Int) := by rw [hM]; exact w64 (by omega) (by omega)
    obtain ⟨r, h1, h2⟩ := image_loop t p i q K xs hK hl hP hg M hM e1 (by omega) M 0 (by omega) [] (by simp)
    refine ⟨r, Ev.bind hsp (ev_pos hP h1), Ev.bind hip (ev_pos hP ?_)⟩
    simp only [impl_words hg, Option.bind_some, e3]
    exact h2
  · exact ⟨⟨#[]⟩, Ev.bind hsp (ev_neg hP (Ev.now _)), Ev.bind hip (ev_neg hP (Ev.now _))⟩
theorem FnExactMaskedImage : Go.Proofs.Ytconffflmbakgaa.QFnExactMaskedImage.Stated := by
  intro K l t p i q yK yl y0 y1 y2 y3
  unfold laws_FnExactMaskedImage.f
  refine Ev.rounds (Ev.bind (szMemory_sz K l yK yl 1048576 (by decide) (by decide)) ?_)
  refine (Classical.em _).elim (fun hc => ev_pos hc (Ev.now _)) (fun hc => ev_neg hc ?_)
  have hW := szv_nonneg hc
  have hto := toMemory_to K l (by omega)
  have hgeo := toGeo_to t p i q (by decide)
  obtain ⟨r, hs, hi⟩ := image_core t p i q K (l.map c149) (by omega) (by rw [List.length_map]; omega)
  refine Ev.bind hto (Ev.bind hgeo (Ev.bind hs (Ev.bind hto (Ev.bind hgeo (Ev.bind hi ?_)))))
  refine ev_pos rfl (Ev.bind hto ?_)
  refine Ev.bind (eqMemory_eq K (l.map c149) (by have := cws149 l; omega)) ?_
  exact ev_pos rfl (Ev.now _)
end Go.Proofs.Ytconffflmbakgaa.Pure
