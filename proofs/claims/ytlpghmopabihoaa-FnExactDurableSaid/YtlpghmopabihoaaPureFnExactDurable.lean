/-
  FnExactDurable: the pure part: what the law computes is true, whatever the input.
-/
import Derived.Test.YtlpghmopabihoaaFamFnExactDurable
import Derived.Test.YtlpghmopabihoaaKit2
namespace Go.Proofs.Ytlpghmopabihoaa.Pure
open Go.RowKit Go.Proofs.YtlpghmopabihoaaW.PrintWords Go.Proofs.YtlpghmopabihoaaW.PrintLast Go.Proofs.YtlpghmopabihoaaW.PrintMore Go.Proofs.Ytlpghmopabihoaa.QFnExactDurable Go.Proofs.Ytlpghmopabihoaa.Kit
set_option linter.unusedVariables false
set_option linter.unusedSimpArgs false

def ln (a : S164) : Int := wrap64 (Int.tdiv a.f0 2)
def ins (n : Int) : List Int → List Int
  | [] => [n]
  | a :: l => if a < n then a :: ins n l else if a = n then a :: l else n :: a :: l
def istep (y : List Int) (a : S164) : List Int := if a.f0 ≥ 0 then y ++ [ln a] else y
def sstep (y : List Int) (a : S164) : List Int := if a.f0 < 0 then y else ins (ln a) y
def srt (y : List Int) : List Int := y.mergeSort fun a b => decide (a ≤ b)
theorem mem_ins (n x : Int) : ∀ l : List Int, x ∈ ins n l ↔ x = n ∨ x ∈ l
  | [] => by simp [ins]
  | a :: l => by
    have ih := mem_ins n x l
    unfold ins
    split
    · rw [List.mem_cons, ih, List.mem_cons]
      constructor
      · rintro (h | h | h)
        · exact Or.inr (Or.inl h)
        · exact Or.inl h
        · exact Or.inr (Or.inr h)
      · rintro (h | h | h)
        · exact Or.inr (Or.inl h)
        · exact Or.inl h
        · exact Or.inr (Or.inr h)
    · split
      · rename_i h1 h2
        subst h2
        simp
      · simp
theorem pw_ins (n : Int) : ∀ l : List Int, l.Pairwise (· < ·) → (ins n l).Pairwise (· < ·)
  | [], _ => by simp [ins]
  | a :: l, h => by
    have h' := List.pairwise_cons.1 h
    have ih := pw_ins n l h'.2
    unfold ins
    split
    · rename_i h1
      refine List.pairwise_cons.2 ⟨fun x hx => ?_, ih⟩
      rcases (mem_ins n x l).1 hx with rfl | hx
      · exact h1
      · exact h'.1 x hx
    · split
      · exact h
      · rename_i h1 h2
        refine List.pairwise_cons.2 ⟨fun x hx => ?_, h⟩
        rcases List.mem_cons.1 hx with rfl | hx
        · omega
        · have := h'.1 x hx
          omega
theorem len_ins (n : Int) : ∀ l : List Int, (ins n l).length ≤ l.length + 1
  | [] => by simp [ins]
  | a :: l => by
    have ih := len_ins n l
    unfold ins
    split
    · simp only [List.length_cons]; omega
    · split <;> simp
theorem eq_of_pw : ∀ (l m : List Int), l.Pairwise (· < ·) → m.Pairwise (· < ·) → (∀ x, x ∈ l ↔ x ∈ m) → l = m
  | [], [], _, _, _ => rfl
  | [], b :: m, _, _, h => absurd ((h b).2 List.mem_cons_self) (by simp)
  | a :: l, [], _, _, h => absurd ((h a).1 List.mem_cons_self) (by simp)
  | a :: l, b :: m, hl, hm, h => by
    have h1 := List.pairwise_cons.1 hl
    have h2 := List.pairwise_cons.1 hm
    have hab : a = b := by
      rcases List.mem_cons.1 ((h a).1 List.mem_cons_self) with e | e
      · exact e
      · rcases List.mem_cons.1 ((h b).2 List.mem_cons_self) with e' | e'
        · exact e'.symm
        · have q1 := h2.1 a e
          have q2 := h1.1 b e'
          omega
    subst hab
    congr 1
    refine eq_of_pw l m h1.2 h2.2 (fun x => ⟨fun hx => ?_, fun hx => ?_⟩)
    · rcases List.mem_cons.1 ((h x).1 (List.mem_cons_of_mem _ hx)) with e | e
      · have := h1.1 x hx; omega
      · exact e
    · rcases List.mem_cons.1 ((h x).2 (List.mem_cons_of_mem _ hx)) with e | e
      · have := h2.1 x hx; omega
      · exact e
theorem cp (l : List Int) (hs : ∀ i j, i ≤ j → j < l.length → l.toArray[i]! ≤ l.toArray[j]!) : ∀ m, m ≤ l.length → (∀ x, x ∈ Lib.compactUpTo l.toArray m ↔ ∃ j, j < m ∧ l.toArray[j]! = x) ∧ (Lib.compactUpTo l.toArray m).Pairwise (· < ·) := by
  intro m
  induction m with
  | zero => intro _; exact ⟨fun x => by simp [Lib.compactUpTo], by simp [Lib.compactUpTo]⟩
  | succ m ih =>
    intro hm
    obtain ⟨h1, h2⟩ := ih (by omega)
    rw [Lib.compactUpTo_succ]
    by_cases hk : Lib.keeps l.toArray m = true
    · rw [if_pos hk]
      have hlt : ∀ j, j < m → l.toArray[j]! < l.toArray[m]! := by
        intro j hj
        have q1 := hs j (m - 1) (by omega) (by omega)
        have q2 := hs (m - 1) m (by omega) (by omega)
        have q3 : l.toArray[m]! ≠ l.toArray[m - 1]! := by
          have := of_decide_eq_true hk
          rcases this with e | e
          · omega
          · exact e
        omega
      refine ⟨fun x => ?_, List.pairwise_append.2 ⟨h2, by simp, fun a ha b hb => ?_⟩⟩
      · rw [List.mem_append, h1, List.mem_singleton]
        constructor
        · rintro (⟨j, hj, e⟩ | e)
          · exact ⟨j, by omega, e⟩
          · exact ⟨m, by omega, e.symm⟩
        · rintro ⟨j, hj, e⟩
          by_cases hjm : j = m
          · subst hjm; exact Or.inr e.symm
          · exact Or.inl ⟨j, by omega, e⟩
      · rw [List.mem_singleton.1 hb]
        obtain ⟨j, hj, e⟩ := (h1 a).1 ha
        rw [← e]
        exact hlt j hj
    · have hk' : ¬ (m = 0 ∨ l.toArray[m]! ≠ l.toArray[m - 1]!) := fun q => hk (decide_eq_true q)
      rw [if_neg hk, List.append_nil]
      refine ⟨fun x => ?_, h2⟩
      rw [h1]
      constructor
      · rintro ⟨j, hj, e⟩
        exact ⟨j, by omega, e⟩
      · rintro ⟨j, hj, e⟩
        by_cases hjm : j = m
        · subst hjm
          have hne : ¬ j = 0 := fun q => hk' (Or.inl q)
          have heq : l.toArray[j]! = l.toArray[j - 1]! := Classical.byContradiction fun q => hk' (Or.inr q)
          exact ⟨j - 1, by omega, by rw [← heq]; exact e⟩
        · exact ⟨j, by omega, e⟩
theorem cp_srt (y : List Int) : (∀ x, x ∈ Lib.compact (srt y) ↔ x ∈ y) ∧ (Lib.compact (srt y)).Pairwise (· < ·) := by
  have hp : (srt y).Pairwise fun a b => decide (a ≤ b) = true := List.pairwise_mergeSort (fun a b c h1 h2 => by simp at h1 h2 ⊢; omega) (fun a b => by simp; omega) y
  have hb : ∀ j, j < (srt y).length → (srt y).toArray[j]! = (srt y)[j]! := fun j hj => by simp
  have hg : ∀ j (hj : j < (srt y).length), (srt y).toArray[j]! = (srt y)[j] := fun j hj => by simp [hj]
  have hs : ∀ i j, i ≤ j → j < (srt y).length → (srt y).toArray[i]! ≤ (srt y).toArray[j]! := by
    intro i j hij hj
    rw [hg i (by omega), hg j hj]
    by_cases e : i = j
    · subst e; exact Int.le_refl _
    · have := List.pairwise_iff_getElem.1 hp i j (by omega) hj (by omega)
      simpa using this
  obtain ⟨h1, h2⟩ := cp (srt y) hs (srt y).length (Nat.le_refl _)
  refine ⟨fun x => ?_, h2⟩
  have h3 : x ∈ Lib.compact (srt y) ↔ ∃ j, j < (srt y).length ∧ (srt y).toArray[j]! = x := h1 x
  rw [h3, ← List.mem_mergeSort (le := fun a b => decide (a ≤ b)) (l := y)]
  constructor
  · rintro ⟨j, hj, e⟩
    rw [hg j hj] at e
    exact List.mem_iff_getElem.2 ⟨j, hj, e⟩
  · intro hx
    obtain ⟨j, hj, e⟩ := List.mem_iff_getElem.1 hx
    exact ⟨j, hj, by rw [hg j hj]; exact e⟩
theorem i_mem (x : Int) : ∀ (X : List S164) (y : List Int), x ∈ X.foldl istep y ↔ x ∈ y ∨ ∃ a, a ∈ X ∧ 0 ≤ a.f0 ∧ ln a = x
  | [], y => by simp
  | a :: X, y => by
    rw [List.foldl_cons, i_mem x X]
    unfold istep
    constructor
    · rintro (h | ⟨b, hb, h1, h2⟩)
      · split at h
        · rename_i h0
          rcases List.mem_append.1 h with h | h
          · exact Or.inl h
          · exact Or.inr ⟨a, List.mem_cons_self, h0, (List.mem_singleton.1 h).symm⟩
        · exact Or.inl h
      · exact Or.inr ⟨b, List.mem_cons_of_mem _ hb, h1, h2⟩
    · rintro (h | ⟨b, hb, h1, h2⟩)
      · left
        split
        · exact List.mem_append.2 (Or.inl h)
        · exact h
      · rcases List.mem_cons.1 hb with rfl | hb
        · left
          rw [if_pos h1]
          exact List.mem_append.2 (Or.inr (by rw [h2]; exact List.mem_cons_self))
        · exact Or.inr ⟨b, hb, h1, h2⟩
theorem s_mem (x : Int) : ∀ (X : List S164) (y : List Int), x ∈ X.foldl sstep y ↔ x ∈ y ∨ ∃ a, a ∈ X ∧ 0 ≤ a.f0 ∧ ln a = x
  | [], y => by simp
  | a :: X, y => by
    rw [List.foldl_cons, s_mem x X]
    unfold sstep
    constructor
    · rintro (h | ⟨b, hb, h1, h2⟩)
      · split at h
        · exact Or.inl h
        · rename_i h0
          rcases (mem_ins _ _ _).1 h with h | h
          · exact Or.inr ⟨a, List.mem_cons_self, by omega, h.symm⟩
          · exact Or.inl h
      · exact Or.inr ⟨b, List.mem_cons_of_mem _ hb, h1, h2⟩
    · rintro (h | ⟨b, hb, h1, h2⟩)
      · left
        split
        · exact h
        · exact (mem_ins _ _ _).2 (Or.inr h)
      · rcases List.mem_cons.1 hb with rfl | hb
        · left
          rw [if_neg (by omega)]
          exact (mem_ins _ _ _).2 (Or.inl h2.symm)
        · exact Or.inr ⟨b, hb, h1, h2⟩
theorem s_pw : ∀ (X : List S164) (y : List Int), y.Pairwise (· < ·) → (X.foldl sstep y).Pairwise (· < ·)
  | [], y, h => h
  | a :: X, y, h => by
    rw [List.foldl_cons]
    refine s_pw X _ ?_
    unfold sstep
    split
    · exact h
    · exact pw_ins _ _ h
theorem s_len : ∀ (X : List S164) (y : List Int), (X.foldl sstep y).length ≤ y.length + X.length
  | [], y => by simp
  | a :: X, y => by
    rw [List.foldl_cons]
    have h := s_len X (sstep y a)
    have h2 : (sstep y a).length ≤ y.length + 1 := by
      unfold sstep
      split
      · omega
      · exact len_ins _ _
    simp only [List.length_cons]
    omega
theorem same (X : List S164) : Lib.compact (srt (X.foldl istep [])) = X.foldl sstep [] := by
  obtain ⟨h1, h2⟩ := cp_srt (X.foldl istep [])
  refine eq_of_pw _ _ h2 (s_pw X [] List.Pairwise.nil) (fun x => ?_)
  rw [h1, i_mem, s_mem]
theorem impl_LinesOf_ev (X : List S164) (hl : X.length ≤ 1048576) : Ev (fun k => impl_LinesOf.f k X) (X.foldl sstep []) := by
  rw [← same]
  unfold impl_LinesOf.f
  refine fold_ev (xs := X) (fun k y i => impl_LinesOf.l0 k y X X.length i) istep (fun y => Lib.compact (srt y)) (fun y i => y.length ≤ i) ?_ ?_ [] (Nat.le_refl _)
  · intro k y hy
    simp only [impl_LinesOf.l0, if_neg (Int.lt_irrefl _), if_pos (show y.length ≤ 17592186044416 by omega)]
    rfl
  · intro y i a hget hlt hy
    have hr : rd_T164 X (i : Int) = a := getD_get i a hget
    have f1 : (i : Int) < (X.length : Int) := by omega
    have f2 : (0 : Int) ≤ (i : Int) := by omega
    have f3 : y.length < 17592186044416 := by omega
    have e1 : wrap64 ((i : Int) + 1) = (i : Int) + 1 := w64 (by omega) (by omega)
    refine ⟨fun r ih => ?_, ?_⟩
    · refine ev_succ ?_
      simp only [impl_LinesOf.l0, e1, hr, if_pos f1, if_pos f2, if_pos f3]
      unfold istep at ih
      by_cases h : a.f0 ≥ 0
      · rw [if_pos h] at ih
        simp only [if_pos h]
        exact ih
      · rw [if_neg h] at ih
        simp only [if_neg h]
        exact ih
    · unfold istep
      split
      · rw [List.length_append, List.length_cons, List.length_nil]; omega
      · omega
theorem ins_ev (X : List S164) (i : Nat) (n : Int) (r : List Int) : ∀ (rest pre : List Int), (pre ++ rest).length ≤ 1048576 → Ev (fun k => spec_LinesOf.l0 k X (pre ++ ins n rest) (wrap64 ((i : Int) + 1))) r → Ev (fun k => spec_LinesOf.l1 k X (pre ++ rest) (i : Int) n (pre.length : Int)) r := by
  intro rest
  induction rest with
  | nil =>
    intro pre hl h
    rw [List.append_nil] at hl ⊢
    have g1 : (0 : Int) ≤ (pre.length : Int) := by omega
    have g2 : (pre.length : Int) ≤ (pre.length : Int) := Int.le_refl _
    have ht : pre.take ((pre.length : Int)).toNat = pre := by rw [Int.toNat_natCast, List.take_length]
    have hd : pre.drop ((pre.length : Int)).toNat = [] := by rw [Int.toNat_natCast, List.drop_length]
    have s1 : ([] : List Int).length + pre.length < 17592186044416 := by rw [List.length_nil]; omega
    have s2 : ([] ++ pre : List Int).length < 17592186044416 := by rw [List.nil_append]; omega
    have s3 : (([] ++ pre ++ [n] : List Int)).length + ([] : List Int).length < 17592186044416 := by simp; omega
    refine ev_succ ?_
    simp only [spec_LinesOf.l1, if_neg (Int.lt_irrefl _), Option.bind_some, if_pos g1, if_pos g2, ht, hd, if_pos s1, if_pos s2, if_pos s3]
    refine Ev.congr (fun k => ?_) h
    simp [ins]
  | cons a rest ih =>
    intro pre hl h
    have hlen : (pre ++ a :: rest).length = pre.length + rest.length + 1 := by simp; omega
    have g0 : (pre.length : Int) < ((pre ++ a :: rest).length : Int) := by omega
    have g1 : (0 : Int) ≤ (pre.length : Int) := by omega
    have g2 : (pre.length : Int) ≤ ((pre ++ a :: rest).length : Int) := by omega
    have hr : rd (pre ++ a :: rest) (pre.length : Int) = a := by unfold rd; simp
    have ht : (pre ++ a :: rest).take ((pre.length : Int)).toNat = pre := by rw [Int.toNat_natCast, List.take_left]
    have hd : (pre ++ a :: rest).drop ((pre.length : Int)).toNat = a :: rest := by rw [Int.toNat_natCast, List.drop_left]
    have s1 : ([] : List Int).length + pre.length < 17592186044416 := by rw [List.length_nil]; omega
    have s2 : ([] ++ pre : List Int).length < 17592186044416 := by rw [List.nil_append]; omega
    have s3 : (([] ++ pre ++ [n] : List Int)).length + (a :: rest).length < 17592186044416 := by simp at hl ⊢; omega
    have e1 : wrap64 ((pre.length : Int) + 1) = ((pre ++ [a]).length : Int) := by rw [w64 (by omega) (by omega)]; simp
    refine ev_succ ?_
    by_cases h1 : a < n
    · simp only [spec_LinesOf.l1, if_pos g0, if_pos g1, hr, if_pos h1, e1]
      have key := ih (pre ++ [a]) (by simp at hl ⊢; omega) (by
        refine Ev.congr (fun k => ?_) h
        simp [ins, h1])
      refine Ev.congr (fun k => ?_) key
      simp
    · by_cases h2 : a = n
      · simp only [spec_LinesOf.l1, if_pos g0, if_pos g1, hr, if_neg h1, if_pos h2]
        refine Ev.congr (fun k => ?_) h
        simp [ins, h1, h2]
      · simp only [spec_LinesOf.l1, if_pos g0, if_pos g1, hr, if_neg h1, if_neg h2, Option.bind_some, if_pos g2, ht, hd, if_pos s1, if_pos s2, if_pos s3]
        refine Ev.congr (fun k => ?_) h
        simp [ins, h1, h2]
theorem spec_LinesOf_ev (X : List S164) (hl : X.length ≤ 1048576) : Ev (fun k => spec_LinesOf.f k X) (X.foldl sstep []) := by
  unfold spec_LinesOf.f
  refine fold_ev (xs := X) (fun k y i => spec_LinesOf.l0 k X y i) sstep (fun y => y) (fun y i => y.length ≤ i) ?_ ?_ [] (Nat.le_refl _)
  · intro k y hy
    simp only [spec_LinesOf.l0, if_neg (Int.lt_irrefl _)]
  · intro y i a hget hlt hy
    have hr : rd_T164 X (i : Int) = a := getD_get i a hget
    have f1 : (i : Int) < (X.length : Int) := by omega
    have f2 : (0 : Int) ≤ (i : Int) := by omega
    have e1 : wrap64 ((i : Int) + 1) = (i : Int) + 1 := w64 (by omega) (by omega)
    refine ⟨fun r ih => ?_, ?_⟩
    · refine ev_succ ?_
      unfold sstep at ih
      by_cases h : a.f0 < 0
      · rw [if_pos h] at ih
        simp only [spec_LinesOf.l0, e1, hr, if_pos f1, if_pos f2, if_pos h]
        exact ih
      · rw [if_neg h] at ih
        simp only [spec_LinesOf.l0, hr, if_pos f1, if_pos f2, if_neg h]
        have := ins_ev X i (ln a) r y [] (by rw [List.nil_append]; omega) (by rw [e1, List.nil_append]; exact ih)
        exact this
    · unfold sstep
      split
      · omega
      · have := len_ins (ln a) y; omega
theorem mark_ev4 {β : Type} {l : List β} (mk : Int → β → β) (adv : β → Nat) (P : β → Prop) (g : Nat → List β × Int → Int → Option (Int × List β))
    (hnil : ∀ k (s : List β × Int), g (k + 1) s (s.1.length : Int) = some (s.2, s.1))
    (hcons : ∀ (y : List β) (c : Int) (i : Nat) a, y[i]? = some a → i < y.length → y.length ≤ 4194304 → P a → 1 ≤ c → c + (adv a : Int) ≤ 1125899906842624 → ∀ r, Ev (fun k => g k (y.set i (mk c a), c + (adv a : Int)) ((i : Int) + 1)) r → Ev (fun k => g k (y, c) (i : Int)) r)
    (hl : l.length ≤ 4194304) (hP : ∀ a ∈ l, P a) (c0 : Int) (h1 : 1 ≤ c0) (h2 : c0 + ((l.map adv).sum : Int) ≤ 1125899906842624) :
    Ev (fun k => g k (l, c0) 0) (c0 + ((l.map adv).sum : Int), markAll mk adv c0 l) := by
  refine loop (xs := l) g (fun s rest => (s.2 + ((rest.map adv).sum : Int), s.1.take (l.length - rest.length) ++ markAll mk adv s.2 rest))
    (fun s i rest => s.1.length = l.length ∧ i + rest.length = l.length ∧ s.1.drop i = rest ∧ (∀ a ∈ rest, P a) ∧ 1 ≤ s.2 ∧ s.2 + ((rest.map adv).sum : Int) ≤ 1125899906842624) ?_ ?_ (l, c0) ⟨rfl, by simp, rfl, hP, h1, h2⟩ |> fun h => by simpa using h
  · intro s ⟨hs1, _⟩
    refine ev_succ (ev_some fun k => ?_)
    rw [← hs1, hnil k s]
    simp [markAll, ← hs1]
  · intro s i a rest hd hlt hget ⟨hs1, hs2, hs3, hs4, hs5, hs6⟩ ih
    have hgi := get_of_drop hs3
    have hr1 : i + 1 + rest.length = l.length := by simp only [List.length_cons] at hs2; omega
    simp only [List.map_cons, List.sum_cons] at hs6
    have key := ih (s.1.set i (mk s.2 a), s.2 + (adv a : Int)) ⟨by simpa using hs1, hr1, ?_, fun b hb => hs4 b (List.mem_cons_of_mem _ hb), by omega, by omega⟩
    · refine hcons s.1 s.2 i a hgi (by omega) (by omega) (hs4 a List.mem_cons_self) hs5 (by omega) _ (ev_eq key ?_)
      have e1 : l.length - rest.length = i + 1 := by omega
      have e2 : l.length - (a :: rest).length = i := by simp only [List.length_cons]; omega
      simp only [e1, e2, List.map_cons, List.sum_cons, markAll]
      rw [set_take_succ (by omega)]
      simp [Int.add_assoc]
    · have := drop_of_drop hs3
      rw [← this]
      simp [List.drop_set]
theorem markStepS_at4 (l : List (S73)) (h : l.length ≤ 4194304) (c0 : Int) (h0 : 1 ≤ c0) (h0' : c0 ≤ 1099511627776) : Ev (fun k => laws_markStepS.f k l c0) (c0 + (((l.map fun _ => (3 : Nat)).sum : Nat) : Int), markAll mkStepS (fun _ => 3) c0 l) := by
  have hsum := sum_const 3 l
  refine mark_ev4 mkStepS (fun _ => 3) (fun _ => True) (fun k s i => laws_markStepS.l0 k s.1 s.2 i) ?_ ?_ h (fun _ _ => trivial) c0 h0 (by omega)
  · intro k s
    simp only [laws_markStepS.l0, if_neg (Int.lt_irrefl _)]
  · intro y c i a hget hlt hy _ h1 h2 r ih
    have e : wrap64 ((i : Int) + 1) = (i : Int) + 1 := w64 (by omega) (by omega)
    have hr : rd_T73 y (i : Int) = a := getD_get i a hget
    have hs : ∀ v, rd_T73 (y.set i v) (i : Int) = v := fun v => getD_get i v (by simp [hlt])
    have v1 : wrap64 (c + 1) = c + 1 := w64 (by omega) (by omega)
    have v2 : wrap64 (c + 1 + 1) = c + 1 + 1 := w64 (by omega) (by omega)
    have v3 : wrap64 (c + 1 + 1 + 1) = c + 1 + 1 + 1 := w64 (by omega) (by omega)
    have hc : c + ((3 : Nat) : Int) = c + 1 + 1 + 1 := by omega
    (try dsimp only at ih)
    rw [hc] at ih
    refine ev_succ ?_
    simp only [laws_markStepS.l0, if_pos (show (i : Int) < (y.length : Int) by omega), if_pos (show (0 : Int) ≤ (i : Int) by omega), Option.bind_some, Int.toNat_natCast, List.set_set, e, hr, hs, v1, v2, v3]
    refine Ev.bind (mt_ev (c + 1 + 1) (by omega)) ?_
    (try simp only [Option.bind_some, Int.toNat_natCast, List.set_set, e, hr, hs, v1, v2, v3])
    exact ih
theorem heldStepS_hd4 (l : List (S73)) (h : l.length ≤ 4194304) : Ev (fun k => laws_heldStepS.f k (markAll mkStepS (fun _ => 3) 1 l) 1) (1 + (((l.map fun _ => (3 : Nat)).sum : Nat) : Int)) := by
  have hsum := sum_const 3 l
  have hxl := markAll_length mkStepS (fun _ => 3) l 1
  refine held_ev (l := l) mkStepS (fun _ => 3) (fun _ => True) 1 _ rfl (fun k c i => laws_heldStepS.l0 k (markAll mkStepS (fun _ => 3) 1 l) c i) ?_ ?_ (fun _ _ => trivial) (by omega) (by omega)
  · intro k c
    simp only [laws_heldStepS.l0, if_neg (Int.lt_irrefl _)]
  · intro c i a hget hlt _ h1 h2 r ih
    have e : wrap64 ((i : Int) + 1) = (i : Int) + 1 := w64 (by omega) (by omega)
    have hr : rd_T73 (markAll mkStepS (fun _ => 3) 1 l) (i : Int) = mkStepS c a := getD_get i _ hget
    have v1 : wrap64 (c + 1) = c + 1 := w64 (by omega) (by omega)
    have v2 : wrap64 (c + 1 + 1) = c + 1 + 1 := w64 (by omega) (by omega)
    have v3 : wrap64 (c + 1 + 1 + 1) = c + 1 + 1 + 1 := w64 (by omega) (by omega)
    have hc : c + ((3 : Nat) : Int) = c + 1 + 1 + 1 := by omega
    (try dsimp only at ih)
    rw [hc] at ih
    refine ev_succ ?_
    simp only [laws_heldStepS.l0, if_pos (show (i : Int) < ((markAll mkStepS (fun _ => 3) 1 l).length : Int) by omega), if_pos (show (0 : Int) ≤ (i : Int) by omega), e, hr, mkStepS, eq_self, ↓reduceIte, v1, v2, v3]
    refine Ev.bind (mt_ev (c + 1 + 1) (by omega)) ?_
    (try simp only [eq_self, ↓reduceIte, bne_self_eq_false, Bool.false_eq_true, e, hr, mkStepS, v1, v2, v3])
    exact ih

def dur (X : List S164) (L : List Int) : List S73 := X.map (fun a => (⟨1, a.f0, a.f1⟩ : S73)) ++ L.map (fun n => (⟨2, n, (⟨#[]⟩ : ByteArray)⟩ : S73)) ++ [(⟨3, 0, (⟨#[]⟩ : ByteArray)⟩ : S73)]
theorem foldl_app {α β : Type} (f : α → β) : ∀ (l : List α) (y : List β), l.foldl (fun y a => y ++ [f a]) y = y ++ l.map f
  | [], y => by simp
  | a :: l, y => by rw [List.foldl_cons, foldl_app f l]; simp
theorem spec_Durable_l1 (L : List Int) (hL : L.length ≤ 1048576) (y : List S73) (hy : y.length ≤ 1048576) : Ev (fun k => spec_Durable.l1 k y L 0) (y ++ L.map (fun n => (⟨2, n, (⟨#[]⟩ : ByteArray)⟩ : S73)) ++ [(⟨3, 0, (⟨#[]⟩ : ByteArray)⟩ : S73)]) := by
  rw [← foldl_app]
  refine fold_ev (xs := L) (fun k y i => spec_Durable.l1 k y L i) (fun y n => y ++ [(⟨2, n, (⟨#[]⟩ : ByteArray)⟩ : S73)]) (fun y => y ++ [(⟨3, 0, (⟨#[]⟩ : ByteArray)⟩ : S73)]) (fun y i => y.length ≤ 1048576 + i) ?_ ?_ y (by omega)
  · intro k y hy
    simp only [spec_Durable.l1, if_neg (Int.lt_irrefl _), if_pos (show y.length < 4398046511104 by omega)]
  · intro y i a hget hlt hy
    have hr : rd L (i : Int) = a := by unfold rd; rw [List.getD_eq_getElem?_getD, Int.toNat_natCast, hget]; rfl
    have f1 : (i : Int) < (L.length : Int) := by omega
    have f2 : (0 : Int) ≤ (i : Int) := by omega
    have f3 : y.length < 4398046511104 := by omega
    have e1 : wrap64 ((i : Int) + 1) = (i : Int) + 1 := w64 (by omega) (by omega)
    refine ⟨fun r ih => ?_, by rw [List.length_append, List.length_cons, List.length_nil]; omega⟩
    refine ev_succ ?_
    simp only [spec_Durable.l1, e1, hr, if_pos f1, if_pos f2, if_pos f3]
    exact ih
theorem impl_Durable_l1 (L : List Int) (hL : L.length ≤ 1048576) (y : List S73) (hy : y.length ≤ 1048576) : Ev (fun k => impl_Durable.l1 k y L L.length 0) (y ++ L.map (fun n => (⟨2, n, (⟨#[]⟩ : ByteArray)⟩ : S73)) ++ [(⟨3, 0, (⟨#[]⟩ : ByteArray)⟩ : S73)]) := by
  rw [← foldl_app]
  refine fold_ev (xs := L) (fun k y i => impl_Durable.l1 k y L L.length i) (fun y n => y ++ [(⟨2, n, (⟨#[]⟩ : ByteArray)⟩ : S73)]) (fun y => y ++ [(⟨3, 0, (⟨#[]⟩ : ByteArray)⟩ : S73)]) (fun y i => y.length ≤ 1048576 + i) ?_ ?_ y (by omega)
  · intro k y hy
    simp only [impl_Durable.l1, if_neg (Int.lt_irrefl _), if_pos (show y.length < 4398046511104 by omega)]
  · intro y i a hget hlt hy
    have hr : rd L (i : Int) = a := by unfold rd; rw [List.getD_eq_getElem?_getD, Int.toNat_natCast, hget]; rfl
    have f1 : (i : Int) < (L.length : Int) := by omega
    have f2 : (0 : Int) ≤ (i : Int) := by omega
    have f3 : y.length < 4398046511104 := by omega
    have e1 : wrap64 ((i : Int) + 1) = (i : Int) + 1 := w64 (by omega) (by omega)
    refine ⟨fun r ih => ?_, by rw [List.length_append, List.length_cons, List.length_nil]; omega⟩
    refine ev_succ ?_
    simp only [impl_Durable.l1, e1, hr, if_pos f1, if_pos f2, if_pos f3]
    exact ih
theorem spec_Durable_l0 (X : List S164) (hl : X.length ≤ 1048576) : Ev (fun k => spec_Durable.l0 k X [] 0) (dur X (X.foldl sstep [])) := by
  have hz := s_len X []
  rw [List.length_nil, Nat.zero_add] at hz
  refine loop (xs := X) (fun k y i => spec_Durable.l0 k X y i) (fun y rest => y ++ rest.map (fun a => (⟨1, a.f0, a.f1⟩ : S73)) ++ (X.foldl sstep []).map (fun n => (⟨2, n, (⟨#[]⟩ : ByteArray)⟩ : S73)) ++ [(⟨3, 0, (⟨#[]⟩ : ByteArray)⟩ : S73)]) (fun y i _ => y.length ≤ i) ?_ ?_ [] (Nat.le_refl _) |> fun h => by simpa [dur] using h
  · intro y hy
    refine ev_succ ?_
    simp only [spec_Durable.l0, if_neg (Int.lt_irrefl _)]
    refine Ev.bind (spec_LinesOf_ev X hl) ?_
    refine ev_eq (spec_Durable_l1 _ (by omega) y (by omega)) ?_
    simp
  · intro y i a rest hd hlt hget hy ih
    have hr : rd_T164 X (i : Int) = a := getD_get i a hget
    have f1 : (i : Int) < (X.length : Int) := by omega
    have f2 : (0 : Int) ≤ (i : Int) := by omega
    have f3 : y.length < 4398046511104 := by omega
    have e1 : wrap64 ((i : Int) + 1) = (i : Int) + 1 := w64 (by omega) (by omega)
    refine ev_succ ?_
    simp only [spec_Durable.l0, e1, hr, if_pos f1, if_pos f2, if_pos f3]
    refine ev_eq (ih (y ++ [(⟨1, a.f0, a.f1⟩ : S73)]) (by rw [List.length_append, List.length_cons, List.length_nil]; omega)) ?_
    simp
theorem impl_Durable_l0 (X : List S164) (hl : X.length ≤ 1048576) : Ev (fun k => impl_Durable.l0 k X [] X X.length 0) (dur X (X.foldl sstep [])) := by
  have hz := s_len X []
  rw [List.length_nil, Nat.zero_add] at hz
  refine loop (xs := X) (fun k y i => impl_Durable.l0 k X y X X.length i) (fun y rest => y ++ rest.map (fun a => (⟨1, a.f0, a.f1⟩ : S73)) ++ (X.foldl sstep []).map (fun n => (⟨2, n, (⟨#[]⟩ : ByteArray)⟩ : S73)) ++ [(⟨3, 0, (⟨#[]⟩ : ByteArray)⟩ : S73)]) (fun y i _ => y.length ≤ i) ?_ ?_ [] (Nat.le_refl _) |> fun h => by simpa [dur] using h
  · intro y hy
    refine ev_succ ?_
    simp only [impl_Durable.l0, if_neg (Int.lt_irrefl _)]
    refine Ev.bind (impl_LinesOf_ev X hl) ?_
    refine ev_eq (impl_Durable_l1 _ (by omega) y (by omega)) ?_
    simp
  · intro y i a rest hd hlt hget hy ih
    have hr : rd_T164 X (i : Int) = a := getD_get i a hget
    have f1 : (i : Int) < (X.length : Int) := by omega
    have f2 : (0 : Int) ≤ (i : Int) := by omega
    have f3 : y.length < 4398046511104 := by omega
    have e1 : wrap64 ((i : Int) + 1) = (i : Int) + 1 := w64 (by omega) (by omega)
    refine ev_succ ?_
    simp only [impl_Durable.l0, e1, hr, if_pos f1, if_pos f2, if_pos f3]
    refine ev_eq (ih (y ++ [(⟨1, a.f0, a.f1⟩ : S73)]) (by rw [List.length_append, List.length_cons, List.length_nil]; omega)) ?_
    simp

theorem core (X : List S164) (hl : X.length ≤ 1048576) : ∃ z : List S73, Ev (fun k => spec_Durable.f k X) z ∧ Ev (fun k => impl_Durable.f k X) z ∧ z.length ≤ 4194304 ∧ ∀ a ∈ z, a.f2.size ≤ 1048576 ∨ ∃ b ∈ X, a.f2 = b.f1 := by
  by_cases h0 : (X.length : Int) = 0
  · refine ⟨[], ?_, ?_, by simp, by simp⟩
    · unfold spec_Durable.f
      simp only [Option.bind_some, if_pos h0]
      exact Ev.now _
    · unfold impl_Durable.f
      simp only [if_pos h0]
      exact Ev.now _
  · have hz := s_len X []
    rw [List.length_nil, Nat.zero_add] at hz
    refine ⟨dur X (X.foldl sstep []), ?_, ?_, ?_, ?_⟩
    · unfold spec_Durable.f
      simp only [Option.bind_some, if_neg h0]
      exact spec_Durable_l0 X hl
    · unfold impl_Durable.f
      simp only [if_neg h0]
      exact impl_Durable_l0 X hl
    · simp only [dur, List.length_append, List.length_map, List.length_cons, List.length_nil]; omega
    · intro a ha
      simp only [dur, List.mem_append, List.mem_map, List.mem_singleton] at ha
      rcases ha with (⟨b, hb, rfl⟩ | ⟨n, hn, rfl⟩) | rfl
      · exact Or.inr ⟨b, hb, rfl⟩
      · exact Or.inl (Nat.zero_le _)
      · exact Or.inl (Nat.zero_le _)
theorem eqSteps (l : List S73) (h : l.length ≤ 4194304) : Ev (fun k => laws_eqStepS.f k l l) true := by
  have H := eq_list (l := l) (L0 := laws_eqStepS.l0) (step := fun k x y => laws_eqStep.f x.f0 x.f1 x.f2 y.f0 y.f1 y.f2) (rd := rd_T73) (fun _ _ _ _ => rfl) getD_get (by omega) (fun a ha => by
    unfold laws_eqStep.f
    exact (eqf_if (eqf_if (eqf_if eqf_end))))
  exact H
theorem FnExactDurable : Go.Proofs.Ytlpghmopabihoaa.QFnExactDurable.Stated := by
  intro l0 y0
  unfold laws_FnExactDurable.f
  refine Ev.rounds (Ev.bind (szWriteS_sz l0 y0 1048576 (by decide) (by decide)) ?_)
  refine (Classical.em _).elim (fun hc => ev_pos hc (Ev.now _)) (fun hc => ev_neg hc ?_)
  have hW := szv_nonneg hc
  have hto := toWriteS_to l0 (by omega)
  have hW' : (l0.map c163).length + ((l0.map c163).map w164).sum ≤ 1048576 := by rw [cws163]; omega
  have hL : (l0.map c163).length ≤ 1048576 := by omega
  obtain ⟨z, hs, hi, hz, _⟩ := core (l0.map c163) hL
  have heW := eqSteps z hz
  have hmk := markWriteS_mk (l0.map c163) hL
  have hmk2 := markStepS_at4 z hz 1 (by decide) (by decide)
  have hhd := heldStepS_hd4 z hz
  refine Ev.bind hto ?_
  refine Ev.bind hs ?_
  refine Ev.bind hto ?_
  refine Ev.bind hi ?_
  refine Ev.bind heW ?_
  refine ev_pos rfl ?_
  refine Ev.bind hto ?_
  refine Ev.bind (eqWriteS_eq (l0.map c163) hW') ?_
  refine ev_pos rfl ?_
  refine Ev.bind hmk ?_
  refine ev_neg (by omega) ?_
  refine Ev.bind heW ?_
  refine ev_succ ?_
  simp only [laws_FnExactDurable.j0, Bool.not_true, Bool.false_eq_true, if_false]
  refine Ev.bind hmk2 ?_
  refine Ev.bind hhd ?_
  refine ev_neg (by omega) ?_
  refine ev_pos rfl ?_
  refine Ev.bind hto ?_
  refine Ev.bind hi ?_
  refine Ev.bind heW ?_
  refine ev_pos rfl ?_
  refine Ev.bind hhd ?_
  refine ev_neg (by omega) ?_
  exact ev_pos rfl (Ev.now _)
end Go.Proofs.Ytlpghmopabihoaa.Pure
