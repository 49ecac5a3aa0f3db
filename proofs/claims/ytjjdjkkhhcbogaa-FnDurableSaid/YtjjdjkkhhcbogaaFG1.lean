/-
  Writes, lines, steps: plain lists.
-/
import Derived.Test.YtjjdjkkhhcbogaaFM1
import Derived.Lib.SlicesCompact
namespace Go.Proofs.Ytjjdjkkhhcbogaa.DM
set_option linter.unusedVariables false
set_option linter.unusedSimpArgs false
def ln (a : Write) : Int := IntKind.i64.wrap (Int.tdiv a.At 2)
def ins (n : Int) : List Int → List Int
  | [] => [n]
  | a :: l => if a < n then a :: ins n l else if a = n then a :: l else n :: a :: l
def istep (y : List Int) (a : Write) : List Int := if a.At ≥ 0 then y ++ [ln a] else y
def sstep (y : List Int) (a : Write) : List Int := if a.At < 0 then y else ins (ln a) y
def srt (y : List Int) : List Int := y.mergeSort fun a b => decide (a ≤ b)
theorem mem_ins (n x : Int) : ∀ l : List Int, x ∈ ins n l ↔ x = n ∨ x ∈ l
  | [] => by simp [ins]
  | a :: l => by
    have ih := mem_ins n x l
    unfold ins
    split
    · rw [List.mem_cons, ih, List.mem_cons]
      constructor
      · rintro (h | h | h)
        · exact Or.inr (Or.inl h)
        · exact Or.inl h
        · exact Or.inr (Or.inr h)
      · rintro (h | h | h)
        · exact Or.inr (Or.inl h)
        · exact Or.inl h
        · exact Or.inr (Or.inr h)
    · split
      · rename_i h1 h2
        subst h2
        simp
      · simp
theorem pw_ins (n : Int) : ∀ l : List Int, l.Pairwise (· < ·) → (ins n l).Pairwise (· < ·)
  | [], _ => by simp [ins]
  | a :: l, h => by
    have h' := List.pairwise_cons.1 h
    have ih := pw_ins n l h'.2
    unfold ins
    split
    · rename_i h1
      refine List.pairwise_cons.2 ⟨fun x hx => ?_, ih⟩
      rcases (mem_ins n x l).1 hx with rfl | hx
      · exact h1
      · exact h'.1 x hx
    · split
      · exact h
      · rename_i h1 h2
        refine List.pairwise_cons.2 ⟨fun x hx => ?_, h⟩
        rcases List.mem_cons.1 hx with rfl | hx
        · omega
        · have := h'.1 x hx
          omega
theorem len_ins (n : Int) : ∀ l : List Int, (ins n l).length ≤ l.length + 1
  | [] => by simp [ins]
  | a :: l => by
    have ih := len_ins n l
    unfold ins
    split
    · simp only [List.length_cons]; omega
    · split <;> simp
theorem eq_of_pw : ∀ (l m : List Int), l.Pairwise (· < ·) → m.Pairwise (· < ·) → (∀ x, x ∈ l ↔ x ∈ m) → l = m
  | [], [], _, _, _ => rfl
  | [], b :: m, _, _, h => absurd ((h b).2 List.mem_cons_self) (by simp)
  | a :: l, [], _, _, h => absurd ((h a).1 List.mem_cons_self) (by simp)
  | a :: l, b :: m, hl, hm, h => by
    have h1 := List.pairwise_cons.1 hl
    have h2 := List.pairwise_cons.1 hm
    have hab : a = b := by
      rcases List.mem_cons.1 ((h a).1 List.mem_cons_self) with e | e
      · exact e
      · rcases List.mem_cons.1 ((h b).2 List.mem_cons_self) with e' | e'
        · exact e'.symm
        · have q1 := h2.1 a e
          have q2 := h1.1 b e'
          omega
    subst hab
    congr 1
    refine eq_of_pw l m h1.2 h2.2 (fun x => ⟨fun hx => ?_, fun hx => ?_⟩)
    · rcases List.mem_cons.1 ((h x).1 (List.mem_cons_of_mem _ hx)) with e | e
      · have := h1.1 x hx; omega
      · exact e
    · rcases List.mem_cons.1 ((h x).2 (List.mem_cons_of_mem _ hx)) with e | e
      · have := h2.1 x hx; omega
      · exact e
theorem cp (l : List Int) (hs : ∀ i j, i ≤ j → j < l.length → l.toArray[i]! ≤ l.toArray[j]!) : ∀ m, m ≤ l.length → (∀ x, x ∈ Lib.compactUpTo l.toArray m ↔ ∃ j, j < m ∧ l.toArray[j]! = x) ∧ (Lib.compactUpTo l.toArray m).Pairwise (· < ·) := by
  intro m
  induction m with
  | zero => intro _; exact ⟨fun x => by simp [Lib.compactUpTo], by simp [Lib.compactUpTo]⟩
  | succ m ih =>
    intro hm
    obtain ⟨h1, h2⟩ := ih (by omega)
    rw [Lib.compactUpTo_succ]
    by_cases hk : Lib.keeps l.toArray m = true
    · rw [if_pos hk]
      have hlt : ∀ j, j < m → l.toArray[j]! < l.toArray[m]! := by
        intro j hj
        have q1 := hs j (m - 1) (by omega) (by omega)
        have q2 := hs (m - 1) m (by omega) (by omega)
        have q3 : l.toArray[m]! ≠ l.toArray[m - 1]! := by
          have := of_decide_eq_true hk
          rcases this with e | e
          · omega
          · exact e
        omega
      refine ⟨fun x => ?_, List.pairwise_append.2 ⟨h2, by simp, fun a ha b hb => ?_⟩⟩
      · rw [List.mem_append, h1, List.mem_singleton]
        constructor
        · rintro (⟨j, hj, e⟩ | e)
          · exact ⟨j, by omega, e⟩
          · exact ⟨m, by omega, e.symm⟩
        · rintro ⟨j, hj, e⟩
          by_cases hjm : j = m
          · subst hjm; exact Or.inr e.symm
          · exact Or.inl ⟨j, by omega, e⟩
      · rw [List.mem_singleton.1 hb]
        obtain ⟨j, hj, e⟩ := (h1 a).1 ha
        rw [← e]
        exact hlt j hj
    · have hk' : ¬ (m = 0 ∨ l.toArray[m]! ≠ l.toArray[m - 1]!) := fun q => hk (decide_eq_true q)
      rw [if_neg hk, List.append_nil]
      refine ⟨fun x => ?_, h2⟩
      rw [h1]
      constructor
      · rintro ⟨j, hj, e⟩
        exact ⟨j, by omega, e⟩
      · rintro ⟨j, hj, e⟩
        by_cases hjm : j = m
        · subst hjm
          have hne : ¬ j = 0 := fun q => hk' (Or.inl q)
          have heq : l.toArray[j]! = l.toArray[j - 1]! := Classical.byContradiction fun q => hk' (Or.inr q)
          exact ⟨j - 1, by omega, by rw [← heq]; exact e⟩
        · exact ⟨j, by omega, e⟩
theorem cp_srt (y : List Int) : (∀ x, x ∈ Lib.compact (srt y) ↔ x ∈ y) ∧ (Lib.compact (srt y)).Pairwise (· < ·) := by
  have hp : (srt y).Pairwise fun a b => decide (a ≤ b) = true := List.pairwise_mergeSort (fun a b c h1 h2 => by simp at h1 h2 ⊢; omega) (fun a b => by simp; omega) y
  have hb : ∀ j, j < (srt y).length → (srt y).toArray[j]! = (srt y)[j]! := fun j hj => by simp
  have hg : ∀ j (hj : j < (srt y).length), (srt y).toArray[j]! = (srt y)[j] := fun j hj => by simp [hj]
  have hs : ∀ i j, i ≤ j → j < (srt y).length → (srt y).toArray[i]! ≤ (srt y).toArray[j]! := by
    intro i j hij hj
    rw [hg i (by omega), hg j hj]
    by_cases e : i = j
    · subst e; exact Int.le_refl _
    · have := List.pairwise_iff_getElem.1 hp i j (by omega) hj (by omega)
      simpa using this
  obtain ⟨h1, h2⟩ := cp (srt y) hs (srt y).length (Nat.le_refl _)
  refine ⟨fun x => ?_, h2⟩
  have h3 : x ∈ Lib.compact (srt y) ↔ ∃ j, j < (srt y).length ∧ (srt y).toArray[j]! = x := h1 x
  rw [h3, ← List.mem_mergeSort (le := fun a b => decide (a ≤ b)) (l := y)]
  constructor
  · rintro ⟨j, hj, e⟩
    rw [hg j hj] at e
    exact List.mem_iff_getElem.2 ⟨j, hj, e⟩
  · intro hx
    obtain ⟨j, hj, e⟩ := List.mem_iff_getElem.1 hx
    exact ⟨j, hj, by rw [hg j hj]; exact e⟩
theorem i_mem (x : Int) : ∀ (X : List Write) (y : List Int), x ∈ X.foldl istep y ↔ x ∈ y ∨ ∃ a, a ∈ X ∧ 0 ≤ a.At ∧ ln a = x
  | [], y => by simp
  | a :: X, y => by
    rw [List.foldl_cons, i_mem x X]
    unfold istep
    constructor
    · rintro (h | ⟨b, hb, h1, h2⟩)
      · split at h
        · rename_i h0
          rcases List.mem_append.1 h with h | h
          · exact Or.inl h
          · exact Or.inr ⟨a, List.mem_cons_self, h0, (List.mem_singleton.1 h).symm⟩
        · exact Or.inl h
      · exact Or.inr ⟨b, List.mem_cons_of_mem _ hb, h1, h2⟩
    · rintro (h | ⟨b, hb, h1, h2⟩)
      · left
        split
        · exact List.mem_append.2 (Or.inl h)
        · exact h
      · rcases List.mem_cons.1 hb with rfl | hb
        · left
          rw [if_pos h1]
          exact List.mem_append.2 (Or.inr (by rw [h2]; exact List.mem_cons_self))
        · exact Or.inr ⟨b, hb, h1, h2⟩
theorem s_mem (x : Int) : ∀ (X : List Write) (y : List Int), x ∈ X.foldl sstep y ↔ x ∈ y ∨ ∃ a, a ∈ X ∧ 0 ≤ a.At ∧ ln a = x
  | [], y => by simp
  | a :: X, y => by
    rw [List.foldl_cons, s_mem x X]
    unfold sstep
    constructor
    · rintro (h | ⟨b, hb, h1, h2⟩)
      · split at h
        · exact Or.inl h
        · rename_i h0
          rcases (mem_ins _ _ _).1 h with h | h
          · exact Or.inr ⟨a, List.mem_cons_self, by omega, h.symm⟩
          · exact Or.inl h
      · exact Or.inr ⟨b, List.mem_cons_of_mem _ hb, h1, h2⟩
    · rintro (h | ⟨b, hb, h1, h2⟩)
      · left
        split
        · exact h
        · exact (mem_ins _ _ _).2 (Or.inr h)
      · rcases List.mem_cons.1 hb with rfl | hb
        · left
          rw [if_neg (by omega)]
          exact (mem_ins _ _ _).2 (Or.inl h2.symm)
        · exact Or.inr ⟨b, hb, h1, h2⟩
theorem s_pw : ∀ (X : List Write) (y : List Int), y.Pairwise (· < ·) → (X.foldl sstep y).Pairwise (· < ·)
  | [], y, h => h
  | a :: X, y, h => by
    rw [List.foldl_cons]
    refine s_pw X _ ?_
    unfold sstep
    split
    · exact h
    · exact pw_ins _ _ h
theorem s_len : ∀ (X : List Write) (y : List Int), (X.foldl sstep y).length ≤ y.length + X.length
  | [], y => by simp
  | a :: X, y => by
    rw [List.foldl_cons]
    have h := s_len X (sstep y a)
    have h2 : (sstep y a).length ≤ y.length + 1 := by
      unfold sstep
      split
      · omega
      · exact len_ins _ _
    simp only [List.length_cons]
    omega
theorem same (X : List Write) : Lib.compact (srt (X.foldl istep [])) = X.foldl sstep [] := by
  obtain ⟨h1, h2⟩ := cp_srt (X.foldl istep [])
  refine eq_of_pw _ _ h2 (s_pw X [] List.Pairwise.nil) (fun x => ?_)
  rw [h1, i_mem, s_mem]
def linesOf (ws : List Write) : List Int := ws.foldl sstep []
theorem linesOf_len (ws : List Write) : (linesOf ws).length ≤ ws.length := by have := s_len ws []; simpa [linesOf] using this
def durable (ws : List Write) : List Step := if ws.length = 0 then [] else ws.map (fun w => ⟨1, w.At, w.Word⟩) ++ (linesOf ws).map (fun x => ⟨2, x, ByteArray.empty⟩) ++ [⟨3, 0, ByteArray.empty⟩]
theorem durable_len (ws : List Write) : (durable ws).length ≤ 2 * ws.length + 1 := by
  unfold durable
  split
  · simp
  · have := linesOf_len ws; simp; omega
end Go.Proofs.Ytjjdjkkhhcbogaa.DM
