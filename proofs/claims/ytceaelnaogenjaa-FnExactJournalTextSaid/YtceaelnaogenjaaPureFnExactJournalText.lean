/-
  FnExactJournalText: the pure part: what the law computes is true, whatever the input.
-/
import Derived.Test.YtceaelnaogenjaaFamFnExactJournalText
import Derived.Test.YtceaelnaogenjaaKit2
namespace Go.Proofs.Ytceaelnaogenjaa.Pure
open Go.RowKit Go.Proofs.YtceaelnaogenjaaW.PrintWords Go.Proofs.YtceaelnaogenjaaW.PrintLast Go.Proofs.YtceaelnaogenjaaW.PrintMore Go.Proofs.Ytceaelnaogenjaa.QFnExactJournalText Go.Proofs.Ytceaelnaogenjaa.Kit
set_option linter.unusedVariables false
set_option linter.unusedSimpArgs false

theorem long_ev (n : Nat) (x : Int) (hn : n ≤ 1048576) : Ev (fun k => spec_l01Long.f k (n : Int) x) (strOfNums (List.replicate n x)) := by
  unfold spec_l01Long.f
  refine ev_pos (by omega) (ev_pos (by simp; omega) ?_)
  have hz : (List.replicate n x).length = n := by simp
  have key := fill_ev' (z := List.replicate n x) strOfNums (List.replicate n (0 : Int)) (by simp) (fun k y i => spec_l01Long.l0 k (n : Int) x y i) ?_ ?_
  · simpa using key
  · intro k y hy
    rw [hz]
    simp only [spec_l01Long.l0, if_neg (Int.lt_irrefl _)]
  · intro y i a hget hlt hy r ih
    rw [hz] at hlt hy
    have ha : a = x := by
      have := List.mem_of_getElem? hget
      exact List.eq_of_mem_replicate this
    subst ha
    have e : wrap64 ((i : Int) + 1) = (i : Int) + 1 := w64 (by omega) (by omega)
    refine ev_succ ?_
    simp only [spec_l01Long.l0, if_pos (show (i : Int) < (n : Int) by omega), if_pos (show (0 : Int) ≤ (i : Int) by omega), if_pos (show (i : Int) < (y.length : Int) by omega), Int.toNat_natCast, e]
    exact ih

theorem in_ev (a b c : Int) : spec_l01In.f a b c = some (decide (b ≤ a ∧ a ≤ c)) := by
  unfold spec_l01In.f
  split <;> simp <;> omega
theorem within_ev (a b c : Int) : impl_within.f a b c = some (decide (b ≤ a ∧ a ≤ c)) := by
  unfold impl_within.f
  split <;> simp <;> omega
theorem spec_numl (n : Int) (hn : 0 ≤ n) : ∀ (m : Nat) (y : List Int), m ≤ 7 → y.length + m ≤ 100 → Ev (fun k => spec_NumText.l0 k n y ((m : Int) - 1)) (strOfNums (y ++ dg n m))
  | 0, y, _, _ => by
    refine ev_succ ?_
    simp only [spec_NumText.l0, if_neg (show ¬ ((0 : Nat) : Int) - 1 ≥ 0 by omega), dg, List.append_nil]
    exact Ev.now _
  | m + 1, y, hm, hy => by
    have e1 : (((m + 1 : Nat) : Int) - 1) = (m : Int) := by omega
    have e2 : IntKind.u64.wrap (m : Int) = m := wrapu (by omega) (by omega)
    have e3 : IntKind.u64.wrap (8 * (m : Int)) = 8 * m := wrapu (by omega) (by omega)
    have e4 : wrap64 ((m : Int) - 1) = (m : Int) - 1 := w64 (by omega) (by omega)
    have ih := spec_numl n hn m (y ++ [(n / 2 ^ (8 * m)) % 256]) (by omega) (by rw [List.length_append]; simp; omega)
    rw [e1]
    refine ev_succ ?_
    simp only [spec_NumText.l0, if_pos (show (m : Int) ≥ 0 by omega), e2, e3, e4, if_pos (show (0 : Int) ≤ 8 * (m : Int) by omega), if_pos (show y.length < 140737488355328 by omega), shr_i64 n m (by omega)]
    simpa [dg, List.append_assoc] using ih

theorem spec_num (n : Int) (w : Nat) (hw : 1 ≤ w ∧ w ≤ 7) (hn : n ≤ 9223372036854775807) : Ev (fun k => spec_NumText.f k n (w : Int)) (if 0 ≤ n ∧ n < 2 ^ (8 * w) then strOfNums (dg n w) else ⟨#[]⟩) := by
  unfold spec_NumText.f
  by_cases h0 : n < 0
  · refine ev_pos h0 (ev_succ ?_)
    simp only [spec_NumText.j0, if_true]
    rw [if_neg (by omega)]
    exact Ev.now _
  · refine ev_neg h0 ?_
    rw [in_ev]
    have e2 : IntKind.u64.wrap (w : Int) = w := wrapu (by omega) (by omega)
    have e3 : IntKind.u64.wrap (8 * (w : Int)) = 8 * w := wrapu (by omega) (by omega)
    refine Ev.bind (Ev.now _) (ev_pos (by simp; omega) ?_)
    rw [e2, e3, shr_i64 n w (by omega)]
    refine ev_pos (by omega) (ev_succ ?_)
    simp only [spec_NumText.j0, decide_eq_true_eq]
    have hp : (0 : Int) < 2 ^ (8 * w) := Int.pow_pos (by decide)
    by_cases hb : n / 2 ^ (8 * w) > 0
    · rw [if_neg (fun h => by have := Int.ediv_eq_zero_of_lt h.1 h.2; omega)]
      simp only [if_pos hb]
      exact Ev.now _
    · have hlt : n < 2 ^ (8 * w) := by
        have h1 : n / 2 ^ (8 * w) ≤ 0 := by omega
        have h2 : n / 2 ^ (8 * w) < 1 := by omega
        have := (Int.ediv_lt_iff_lt_mul hp).1 h2
        omega
      rw [if_pos ⟨by omega, hlt⟩]
      simp only [if_neg hb]
      have e4 : wrap64 ((w : Int) - 1) = (w : Int) - 1 := w64 (by omega) (by omega)
      rw [e4]
      simpa using spec_numl n (by omega) w [] (by omega) (by simp; omega)
theorem shl_one (w : Nat) (hw : 1 ≤ w ∧ w ≤ 7) : shl .i64 1 (8 * (w : Int)) = 2 ^ (8 * w) := by
  obtain ⟨h1, h2⟩ := hw
  have : w = 1 ∨ w = 2 ∨ w = 3 ∨ w = 4 ∨ w = 5 ∨ w = 6 ∨ w = 7 := by omega
  rcases this with rfl | rfl | rfl | rfl | rfl | rfl | rfl <;> decide
theorem impl_num (n : Int) (w : Nat) (hw : 1 ≤ w ∧ w ≤ 7) (hn : n ≤ 9223372036854775807) : Ev (fun k => impl_NumText.f k n (w : Int)) (if 0 ≤ n ∧ n < 2 ^ (8 * w) then strOfNums (dg n w) else ⟨#[]⟩) := by
  unfold impl_NumText.f
  by_cases h0 : n < 0
  · refine ev_pos h0 (ev_succ ?_)
    simp only [impl_NumText.j0, if_true]
    rw [if_neg (by omega)]
    exact Ev.now _
  · refine ev_neg h0 ?_
    rw [within_ev]
    have e3 : wrap64 (8 * (w : Int)) = 8 * w := w64 (by omega) (by omega)
    refine Ev.bind (Ev.now _) (ev_pos (by simp; omega) ?_)
    rw [e3, shl_one w hw]
    refine ev_pos (by omega) (ev_succ ?_)
    simp only [impl_NumText.j0, decide_eq_true_eq]
    by_cases hb : n ≥ 2 ^ (8 * w)
    · rw [if_neg (by omega)]
      simp only [if_pos hb]
      exact Ev.now _
    · rw [if_pos (by omega)]
      simp only [if_neg hb]
      refine ev_pos (by omega) (ev_pos (by simp; omega) ?_)
      simp only [Option.bind_some, Int.toNat_natCast, List.length_replicate]
      have key := fill_ev' (z := dg n w) strOfNums (List.replicate w (0 : Int)) (by simp [dg_length]) (fun k y i => impl_NumText.l0 k n (w : Int) y (w : Int) i) ?_ ?_
      · exact key
      · intro k y hy
        rw [dg_length]
        simp only [impl_NumText.l0, if_neg (Int.lt_irrefl _)]
      · clear hb
        intro y i a hget hlt hy r ih
        rw [dg_length] at hlt hy
        rw [dg_get n w i hlt] at hget
        obtain rfl := Option.some.inj hget
        have e4 : wrap64 ((w : Int) - 1) = (w : Int) - 1 := w64 (by omega) (by omega)
        have e5 : (w : Int) - 1 - (i : Int) = ((w - 1 - i : Nat) : Int) := by omega
        have e6 : wrap64 (((w - 1 - i : Nat) : Int)) = ((w - 1 - i : Nat) : Int) := w64 (by omega) (by omega)
        have e7 : wrap64 (8 * ((w - 1 - i : Nat) : Int)) = 8 * ((w - 1 - i : Nat) : Int) := w64 (by omega) (by omega)
        have e : wrap64 ((i : Int) + 1) = (i : Int) + 1 := w64 (by omega) (by omega)
        refine ev_succ ?_
        simp only [impl_NumText.l0, if_pos (show (i : Int) < (w : Int) by omega), if_pos (show (0 : Int) ≤ (i : Int) by omega), if_pos (show (i : Int) < (y.length : Int) by omega), Int.toNat_natCast, e, e4, e5, e6, e7, shr_i64 n (w - 1 - i) (by omega)]
        refine ev_pos (by omega) ?_
        exact ih

theorem addr (n : Int) (hn : n ≤ 9223372036854775807) : ∃ r, Ev (fun k => spec_AddressWord.f k n) r ∧ Ev (fun k => impl_AddressWord.f k n) r ∧ r.size ≤ 8 := by
  unfold spec_AddressWord.f impl_AddressWord.f
  have h1 := spec_num n 4 (by omega) hn
  have h2 := impl_num n 4 (by omega) hn
  generalize hx : (if 0 ≤ n ∧ n < 2 ^ (8 * 4) then strOfNums (dg n 4) else (⟨#[]⟩ : ByteArray)) = x at h1 h2
  by_cases he : x.toList = ([] : List UInt8)
  · exact ⟨⟨#[]⟩, Ev.bind h1 (ev_pos he (Ev.now _)), Ev.bind h2 (ev_pos he (Ev.now _)), Nat.zero_le _⟩
  · have hs : x.size = 4 := by
      rw [← hx]
      split
      · rw [nums_size, dg_length]
      · rename_i h
        rw [if_neg h] at hx
        subst hx
        exact absurd (by rw [tl]) he
    have hz : x ++ strOfNums (List.replicate 4 0) = x ++ zeros 4 := by
      congr 1
    refine ⟨x ++ zeros 4, Ev.bind h1 (ev_neg he ?_), Ev.bind h2 (ev_neg he ?_), by rw [ByteArray.size_append, hs]; exact Nat.le_refl _⟩
    · refine Ev.bind ?_ (Ev.now _)
      unfold spec_WordText.f spec_ZeroText.f
      have e : wrap64 (8 - (x.size : Int)) = 4 := by rw [hs]; exact w64 (by omega) (by omega)
      rw [e, in_ev]
      refine ev_neg (by omega) (Ev.bind (Ev.bind (Ev.now _) (ev_pos (by decide) (Ev.bind (long_ev 4 0 (by omega)) (Ev.now _)))) (ev_pos ?_ ?_))
      · rw [nums_size, hs]; simp
      · rw [hz]; exact Ev.now _
    · unfold impl_WordText.f impl_padded.f
      rw [if_neg (by omega), if_pos ⟨by omega, by omega, by omega⟩, hs]
      exact Ev.now _

theorem nums_more (y : List Int) (s : ByteArray) : strOfNums (y ++ bytesOf s) = strOfNums y ++ s := by
  apply ByteArray.ext; simp [strOfNums, bytesOf, Function.comp_def]
theorem bytes_length (s : ByteArray) : (bytesOf s).length = s.size := by unfold bytesOf; rw [List.length_map, Array.length_toList]; rfl
theorem journal_nat {a b c d M L : Nat} (h1 : a + 8 * (d + 1) + (c + M) ≤ 16777216) (h2 : b ≤ 8) : a + b < 140737488355328 ∧ a + b + c < 140737488355328 ∧ b + c ≤ 9223372036854775807 ∧ a + (b + c) ≤ 140737488355328 ∧ a + b + c + 8 * d + M ≤ 16777216 := by omega
theorem drop_rd {xs : List S46} {i : Nat} (h : i < xs.length) : xs.drop i = rd_T46 xs (i : Int) :: xs.drop (i + 1) := by
  rw [List.drop_eq_getElem_cons h]
  congr 1
  unfold rd_T46
  rw [Int.toNat_natCast, List.getD_eq_getElem?_getD, List.getElem?_eq_getElem h]
  rfl
theorem journal_loop (l : List S46) (hl : l.length ≤ 1048576) (hf : ∀ i : Nat, i < l.length → (rd_T46 l (i : Int)).f0 ≤ 9223372036854775807) : ∀ d i : Nat, i + d = l.length → ∀ y : List Int, y.length + 8 * d + ((l.drop i).map w46).sum ≤ 16777216 →
    ∃ r, Ev (fun k => spec_JournalText.l0 k l y (i : Int)) r ∧ Ev (fun k => impl_JournalText.l0 k (strOfNums y) l (l.length : Int) (i : Int)) r
  | 0, i, h, y, hy => by
    refine ⟨strOfNums y, ev_succ (ev_some fun k => ?_), ev_succ (ev_some fun k => ?_)⟩
    · rw [spec_JournalText.l0, if_neg (by omega)]
    · rw [impl_JournalText.l0, if_neg (by omega)]
  | d + 1, i, h, y, hy => by
    obtain ⟨r0, h1, h2, h3⟩ := addr (rd_T46 l (i : Int)).f0 (hf i (by omega))
    have p0 : (i : Int) < (l.length : Int) := by omega
    have p1 : (0 : Int) ≤ (i : Int) := by omega
    have e1 : wrap64 ((i : Int) + 1) = ((i + 1 : Nat) : Int) := by rw [w64 (by omega) (by omega)]; omega
    rw [drop_rd (show i < l.length by omega), List.map_cons, List.sum_cons] at hy
    have hwd : w46 (rd_T46 l (i : Int)) = (rd_T46 l (i : Int)).f1.size := rfl
    rw [hwd] at hy
    obtain ⟨c1, c2, c3, c4, c5⟩ := journal_nat (L := 0) hy h3
    have b1 := bytes_length r0
    have b2 := bytes_length (rd_T46 l (i : Int)).f1
    obtain ⟨r, g1, g2⟩ := journal_loop l hl hf d (i + 1) (by omega) (y ++ bytesOf r0 ++ bytesOf (rd_T46 l (i : Int)).f1) (by rw [List.length_append, List.length_append, b1, b2]; exact c5)
    rw [nums_more, nums_more, ByteArray.append_assoc] at g2
    refine ⟨r, ev_succ ?_, ev_succ ?_⟩
    · simp only [spec_JournalText.l0, if_pos p0, if_pos p1, e1]
      refine Ev.bind h1 (ev_pos c1 ?_)
      simp only [Option.bind_some]
      exact ev_pos (by rw [List.length_append, b1]; exact c2) g1
    · simp only [impl_JournalText.l0, if_pos p0, if_pos p1, e1]
      exact Ev.bind h2 (ev_pos c3 (ev_pos (by rw [nums_size, ByteArray.size_append]; exact c4) g2))
theorem FnExactJournalText : Go.Proofs.Ytceaelnaogenjaa.QFnExactJournalText.Stated := by
  intro l yl
  unfold laws_FnExactJournalText.f
  refine Ev.rounds (Ev.bind (szWriteS_sz l yl 1048576 (by decide) (by decide)) ?_)
  refine (Classical.em _).elim (fun hc => ev_pos hc (Ev.now _)) (fun hc => ev_neg hc ?_)
  have hW := szv_nonneg hc
  have hto := toWriteS_to l (by omega)
  have hcw := cws44 l
  have hlen : (l.map c44).length = l.length := List.length_map ..
  have hf : ∀ i : Nat, i < (l.map c44).length → (rd_T46 (l.map c44) (i : Int)).f0 ≤ 9223372036854775807 := fun i hi => by
    have hi' : i < l.length := by omega
    have hm := yl.2 _ (List.getElem_mem hi')
    have e : rd_T46 (l.map c44) (i : Int) = c44 l[i] := by
      unfold rd_T46
      rw [Int.toNat_natCast, List.getD_eq_getElem?_getD, List.getElem?_map, List.getElem?_eq_getElem hi']
      rfl
    rw [e]
    have hw := hm.1
    simp [Lit.wf, IntKind.min, IntKind.max, IntKind.signed, IntKind.bits] at hw
    show l[i].f0 ≤ _
    omega
  have hwt : (l.map c44).length + ((l.map c44).map w46).sum ≤ 1048576 := by omega
  clear hcw hW hc
  obtain ⟨r, hs, hi⟩ := journal_loop (l.map c44) (by omega) hf (l.map c44).length 0 (by omega) [] (by simp only [List.drop_zero, List.length_nil]; omega)
  have hs' : Ev (fun k => spec_JournalText.f k (l.map c44)) r := hs
  have hi' : Ev (fun k => impl_JournalText.f k (l.map c44)) r := hi
  refine Ev.bind hto (Ev.bind hs' (Ev.bind hto (Ev.bind hi' ?_)))
  refine ev_pos rfl (Ev.bind hto ?_)
  exact Ev.bind (eqWriteS_eq (l.map c44) hwt) (ev_pos rfl (Ev.now _))
end Go.Proofs.Ytceaelnaogenjaa.Pure
