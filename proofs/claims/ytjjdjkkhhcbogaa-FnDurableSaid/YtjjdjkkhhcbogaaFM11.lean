/-
  The memory by the reference and by the program: plain lists.
-/
import Derived.Test.YtjjdjkkhhcbogaaFM10
namespace Go.Proofs.Ytjjdjkkhhcbogaa.DM
set_option linter.unusedVariables false
set_option linter.unusedSimpArgs false
abbrev Sorted (l : List Cell) : Prop := l.Pairwise fun a b => a.Line < b.Line
theorem memOk_iff (k : ByteArray) (l : List Cell) : memOk k l = true ↔ k.size % 16 = 0 ∧ k.size ≤ 16000 ∧ (∀ c ∈ l, fitsC k.size c) ∧ Sorted l := by
  constructor
  · intro h
    obtain ⟨h1, h2, h3⟩ := memOk_all h
    refine ⟨h1, h2, memOk_fits h, List.pairwise_iff_getElem.2 fun i j hi hj hij => ?_⟩
    have step : ∀ (d i : Nat) (h : i + d + 1 < l.length), (l[i]'(by omega)).Line < l[i + d + 1].Line := fun d => by
      induction d with
      | zero => intro i h; exact okAt_lt h (h3 _ h)
      | succ d ih =>
        intro i h
        have g1 := ih i (by omega)
        have g2 := okAt_lt (i := i + d + 1) h (h3 _ h)
        exact Int.lt_trans g1 g2
    have := step (j - i - 1) i (by omega)
    have e : i + (j - i - 1) + 1 = j := by omega
    simp only [e] at this
    exact this
  · rintro ⟨h1, h2, h3, h4⟩
    simp only [memOk, Bool.and_eq_true, List.all_eq_true, List.mem_range, beq_iff_eq, decide_eq_true_eq]
    refine ⟨⟨fun i hi => ?_, h1⟩, h2⟩
    have hci : l[i]? = some l[i] := List.getElem?_eq_getElem hi
    obtain ⟨f1, f2, f3⟩ := h3 _ (List.getElem_mem hi)
    have hA : inB l[i].Line 0 ((k.size : Int) / 16 - 1) = true := by
      simp only [inB, Bool.and_eq_true, decide_eq_true_eq]; exact ⟨f1, by omega⟩
    by_cases h0 : 0 < i
    · have hp : l[i - 1]? = some (l[i - 1]'(by omega)) := List.getElem?_eq_getElem (by omega)
      have := List.pairwise_iff_getElem.1 h4 (i - 1) i (by omega) hi (by omega)
      simp [okAt, hci, hA, f3, h0, hp]
      omega
    · simp [okAt, hci, hA, f3, h0]
section
variable {l : List Cell} {line : Int}
theorem lineLt_eq {i : Nat} (h : i < l.length) : lineLt l line i = decide (l[i].Line < line) := by
  simp only [lineLt, List.getElem?_eq_getElem h, cmpI]
  by_cases h1 : l[i].Line < line
  · simp [h1]
  · simp only [h1, if_false]
    split <;> simp
theorem bs_ok (h : Sorted l) : ∀ (d lo hi : Nat), d = hi - lo → lo ≤ hi → hi ≤ l.length → (∀ i (h : i < l.length), i < lo → l[i].Line < line) → (∀ i (h : i < l.length), hi ≤ i → line ≤ l[i].Line) →
    (∀ i (h : i < l.length), i < bs (lineLt l line) lo hi → l[i].Line < line) ∧ (∀ i (h : i < l.length), bs (lineLt l line) lo hi ≤ i → line ≤ l[i].Line) := fun d => by
  induction d using Nat.strongRecOn with
  | _ d ih =>
    intro lo hi hd hle hhi h1 h2
    rw [bs]
    split
    · rename_i hlt
      have hm : (lo + hi) / 2 < l.length := by omega
      rw [lineLt_eq hm]
      split
      · rename_i hp
        have hp : l[(lo + hi) / 2].Line < line := by simpa using hp
        refine ih (hi - ((lo + hi) / 2 + 1)) (by omega) _ _ rfl (by omega) hhi (fun i hi' hlt' => ?_) h2
        by_cases he : i = (lo + hi) / 2
        · subst he; exact hp
        · have := List.pairwise_iff_getElem.1 h i ((lo + hi) / 2) hi' hm (by omega)
          omega
      · rename_i hp
        have hp : ¬ l[(lo + hi) / 2].Line < line := by simpa using hp
        refine ih ((lo + hi) / 2 - lo) (by omega) _ _ rfl (by omega) (by omega) h1 (fun i hi' hge => ?_)
        by_cases he : i = (lo + hi) / 2
        · subst he; omega
        · have := List.pairwise_iff_getElem.1 h ((lo + hi) / 2) i hm hi' (by omega)
          omega
    · have : lo = hi := by omega
      subst this
      exact ⟨h1, h2⟩
theorem ix_lt (h : Sorted l) {i : Nat} (hi : i < l.length) (hx : i < ixOf l line) : l[i].Line < line := (bs_ok h _ 0 l.length rfl (Nat.zero_le _) (Nat.le_refl _) (fun i _ h => absurd h (Nat.not_lt_zero _)) (fun i h h' => absurd h (by omega))).1 i hi hx
theorem ix_ge (h : Sorted l) {i : Nat} (hi : i < l.length) (hx : ixOf l line ≤ i) : line ≤ l[i].Line := (bs_ok h _ 0 l.length rfl (Nat.zero_le _) (Nat.le_refl _) (fun i _ h => absurd h (Nat.not_lt_zero _)) (fun i h h' => absurd h (by omega))).2 i hi hx
theorem hasL_at (h : hasL l line = true) : (l[ixOf l line]'(hasL_lt h)).Line = line := by
  have hi := hasL_lt h
  simp only [hasL, foundAt, List.getElem?_eq_getElem hi, cmpI, beq_iff_eq] at h
  split at h
  · cases h
  · split at h
    · cases h
    · omega
theorem hasL_not (h : hasL l line = false) (hi : ixOf l line < l.length) : l[ixOf l line].Line ≠ line := fun e => by
  simp only [hasL, foundAt, List.getElem?_eq_getElem hi, cmpI, e] at h
  simp at h
theorem notL (hs : Sorted l) (h : hasL l line = false) {i : Nat} (hi : i < l.length) : l[i].Line ≠ line := fun e => by
  have hge : ixOf l line ≤ i := Nat.le_of_not_lt fun hlt => by have := ix_lt hs hi hlt; omega
  have hxl : ixOf l line < l.length := Nat.lt_of_le_of_lt hge hi
  have h1 := ix_ge hs hxl (Nat.le_refl _)
  have h2 := hasL_not h hxl
  by_cases he : ixOf l line = i
  · subst he; exact h2 e
  · have := List.pairwise_iff_getElem.1 hs (ixOf l line) i hxl hi (by omega)
    omega
theorem cellFrom_skip : ∀ (d i t : Nat), d = t - i → i ≤ t → t ≤ l.length → (∀ j (h : j < l.length), i ≤ j → j < t → l[j].Line ≠ line) → cellFrom l line i = cellFrom l line t
  | 0, i, t, hd, hit, ht, h => by
    have : i = t := by omega
    rw [this]
  | d + 1, i, t, hd, hit, ht, h => by
    have hi : i < l.length := by omega
    rw [cellFrom, dif_pos hi, if_neg (h i hi (Nat.le_refl _) (by omega))]
    exact cellFrom_skip d (i + 1) t (by omega) (by omega) ht fun j hj h1 h2 => h j hj (by omega) h2
theorem cellIx_eq (hs : Sorted l) : cellIx l line = if hasL l line then (ixOf l line : Int) else -1 := by
  split
  · rename_i h
    have hi := hasL_lt h
    rw [cellIx, cellFrom_skip (ixOf l line) 0 (ixOf l line) (by omega) (Nat.zero_le _) (by omega) (fun j hj _ hlt => by have := ix_lt hs hj hlt; omega), cellFrom, dif_pos hi, if_pos (hasL_at h)]
  · rename_i h
    have h : hasL l line = false := by simpa using h
    rw [cellIx, cellFrom_skip l.length 0 l.length (by omega) (Nat.zero_le _) (Nat.le_refl _) (fun j hj _ _ => notL hs h hj), cellFrom, dif_neg (Nat.lt_irrefl _)]
theorem lineS_eq (hs : Sorted l) (k : ByteArray) : lineS k l line = lineAt k l line := by
  unfold lineS lineAt
  rw [cellIx_eq hs]
  cases h : hasL l line with
  | true => simp <;> rfl
  | false => simp
theorem putAt_eq (hs : Sorted l) (k : ByteArray) (n : Nat) (w : ByteArray) : putAt k l n w = putAtI k l n w := by simp only [putAt, putAtI, lineS_eq hs]
theorem fillS_true (x : Cell) : ∀ (l : List Cell), (∀ c ∈ l, c.Line ≠ x.Line) → fillS x true l = l
  | [], _ => rfl
  | c :: l, h => by
    have := fillS_true x l fun c' hc' => h c' (List.mem_cons_of_mem _ hc')
    simp [fillS, h c List.mem_cons_self, this]
theorem fillS_skip (x : Cell) : ∀ (a b : List Cell), (∀ c ∈ a, c.Line < x.Line) → fillS x false (a ++ b) = a ++ fillS x false b
  | [], b, _ => rfl
  | c :: a, b, h => by
    have hc := h c List.mem_cons_self
    have h1 : ¬ x.Line ≤ c.Line := by omega
    have h2 : ¬ c.Line = x.Line := by omega
    have := fillS_skip x a b fun c' hc' => h c' (List.mem_cons_of_mem _ hc')
    simp [fillS, h1, h2, this]
theorem fillS_lay (hs : Sorted l) (x : Cell) : fillS x false l = layC l x := by
  have htl : ∀ c ∈ l.take (ixOf l x.Line), c.Line < x.Line := fun c hc => by
    obtain ⟨i, hi, rfl⟩ := List.getElem_of_mem hc
    rw [List.length_take] at hi
    rw [List.getElem_take]
    exact ix_lt hs (by omega) (by omega)
  have hle := ixOf_le l x.Line
  have h0 : fillS x false l = l.take (ixOf l x.Line) ++ fillS x false (l.drop (ixOf l x.Line)) := by
    conv => lhs; rw [← List.take_append_drop (ixOf l x.Line) l]
    exact fillS_skip x _ _ htl
  rw [h0]
  unfold layC
  cases hh : hasL l x.Line with
  | true =>
    have hi := hasL_lt hh
    rw [if_pos rfl, List.set_eq_take_append_cons_drop, if_pos hi, List.drop_eq_getElem_cons hi]
    congr 1
    have e := hasL_at hh
    have hrest := fillS_true x (l.drop (ixOf l x.Line + 1)) fun c hc => by
      obtain ⟨j, hj, rfl⟩ := List.getElem_of_mem hc
      rw [List.length_drop] at hj
      rw [List.getElem_drop]
      have := List.pairwise_iff_getElem.1 hs (ixOf l x.Line) (ixOf l x.Line + 1 + j) hi (by omega) (by omega)
      omega
    simp [fillS, e, hrest]
  | false =>
    rw [if_neg (by simp)]
    congr 1
    by_cases hi : ixOf l x.Line < l.length
    · rw [List.drop_eq_getElem_cons hi]
      have h1 := ix_ge (line := x.Line) hs hi (Nat.le_refl _)
      have h2 := hasL_not hh hi
      have hrest := fillS_true x (l.drop (ixOf l x.Line + 1)) fun c hc => by
        obtain ⟨j, hj, rfl⟩ := List.getElem_of_mem hc
        rw [List.length_drop] at hj
        rw [List.getElem_drop]
        exact notL hs hh (by omega)
      simp [fillS, h1, h2, hrest]
    · rw [List.drop_eq_nil_of_le (by omega)]; rfl
theorem flushL_eq (hs : Sorted l) : flushL l line = if 0 ≤ cellIx l line then flushAt l (cellIx l line).toNat else l := by
  rw [cellIx_eq hs]
  unfold flushL flushAt
  cases h : hasL l line with
  | true => simp <;> rfl
  | false => simp
end
theorem layC_ok {k : ByteArray} {l : List Cell} {x : Cell} (h : memOk k l = true) (hx : fitsC k.size x) : memOk k (layC l x) = true := by
  obtain ⟨h1, h2, h3, hs⟩ := (memOk_iff k l).1 h
  refine (memOk_iff _ _).2 ⟨h1, h2, ?_, ?_⟩
  · intro c hc
    unfold layC at hc
    split at hc
    · rcases List.mem_or_eq_of_mem_set hc with hc | rfl
      · exact h3 c hc
      · exact hx
    · rcases List.mem_append.1 hc with hc | hc
      · exact h3 c (List.mem_of_mem_take hc)
      · rcases List.mem_cons.1 hc with rfl | hc
        · exact hx
        · exact h3 c (List.mem_of_mem_drop hc)
  · have htl : ∀ c ∈ l.take (ixOf l x.Line), c.Line < x.Line := fun c hc => by
      obtain ⟨i, hi, rfl⟩ := List.getElem_of_mem hc
      rw [List.length_take] at hi
      rw [List.getElem_take]
      exact ix_lt hs (by omega) (by omega)
    have hcut : ∀ i, (∀ c ∈ l.drop i, x.Line < c.Line) → ixOf l x.Line ≤ i → Sorted (l.take (ixOf l x.Line) ++ x :: l.drop i) := fun i hd hxi => by
      have hs' := hs
      refine List.pairwise_append.2 ⟨hs.sublist (List.take_sublist _ _), List.pairwise_cons.2 ⟨hd, hs.sublist (List.drop_sublist _ _)⟩, fun a ha b hb => ?_⟩
      rcases List.mem_cons.1 hb with rfl | hb
      · exact htl a ha
      · exact Int.lt_trans (htl a ha) (hd b hb)
    unfold layC
    split
    · rename_i hh
      have hi := hasL_lt hh
      rw [List.set_eq_take_append_cons_drop, if_pos hi]
      refine hcut _ (fun c hc => ?_) (by omega)
      obtain ⟨j, hj, rfl⟩ := List.getElem_of_mem hc
      rw [List.length_drop] at hj
      rw [List.getElem_drop]
      have := List.pairwise_iff_getElem.1 hs (ixOf l x.Line) (ixOf l x.Line + 1 + j) hi (by omega) (by omega)
      have e := hasL_at hh
      omega
    · rename_i hh
      have hh : hasL l x.Line = false := by simpa using hh
      refine hcut _ (fun c hc => ?_) (Nat.le_refl _)
      obtain ⟨j, hj, rfl⟩ := List.getElem_of_mem hc
      rw [List.length_drop] at hj
      rw [List.getElem_drop]
      have g1 := ix_ge (line := x.Line) hs (i := ixOf l x.Line + j) (by omega) (by omega)
      have g2 := notL hs hh (i := ixOf l x.Line + j) (by omega)
      omega
theorem storeM_eq {k : ByteArray} {l : List Cell} (h : memOk k l = true) (x : Int) (w : ByteArray) : storeM ⟨k, l⟩ x w = if w.size = 8 then (if inB x 0 ((k.size : Int) / 8 - 1) then ⟨k, layC l (putAtI k l x.toNat w)⟩ else ⟨k, l⟩) else ⟨k, l⟩ := by
  have hs := ((memOk_iff k l).1 h).2.2.2
  simp only [storeM, h, if_true, putAt_eq hs, fillS_lay hs]
theorem flushM_eq {k : ByteArray} {l : List Cell} (h : memOk k l = true) (x : Int) : flushM ⟨k, l⟩ x = ⟨k, flushL l x⟩ := by
  have hs := ((memOk_iff k l).1 h).2.2.2
  simp only [flushM, h, if_true, flushL_eq hs]
  split <;> rfl
theorem fenceM_eq {k : ByteArray} {l : List Cell} (h : memOk k l = true) : fenceM ⟨k, l⟩ = ⟨keptS k l, leftC l⟩ := by simp [fenceM, h]
theorem wordIn_size {s w : ByteArray} {r : Nat} (hs : s.size = 16) (hw : w.size = 8) (hr : r ≤ 8) : (wordIn s w r).size = 16 := by
  unfold wordIn
  rw [ByteArray.size_append, ByteArray.size_append, ByteArray.size_extract, ByteArray.size_extract]
  omega
theorem putAtI_fits {k : ByteArray} {l : List Cell} (h : memOk k l = true) {n : Nat} {w : ByteArray} (hw : w.size = 8) (hn : n < k.size / 8) : fitsC k.size (putAtI k l n w) := by
  obtain ⟨h1, h2, -⟩ := memOk_all h
  exact ⟨by simp only [putAtI]; omega, by simp only [putAtI]; omega, wordIn_size (lineAt_size h _ (by omega) (by omega)) hw (by omega)⟩
theorem storeM_ok {k : ByteArray} {l : List Cell} (h : memOk k l = true) (x : Int) (w : ByteArray) : memOk (storeM ⟨k, l⟩ x w).Kept (storeM ⟨k, l⟩ x w).Cells = true := by
  rw [storeM_eq h]
  split
  · split
    · rename_i hw hin
      simp only [inB, Bool.and_eq_true, decide_eq_true_eq] at hin
      exact layC_ok h (putAtI_fits h hw (by omega))
    · exact h
  · exact h
theorem flushL_ok {k : ByteArray} {l : List Cell} (h : memOk k l = true) (x : Int) : memOk k (flushL l x) = true := by
  obtain ⟨h1, h2, h3, hs⟩ := (memOk_iff k l).1 h
  unfold flushL
  split
  · rename_i hh
    have hi := hasL_lt hh
    rw [List.getElem?_eq_getElem hi]
    refine (memOk_iff _ _).2 ⟨h1, h2, fun c hc => ?_, ?_⟩
    · rcases List.mem_or_eq_of_mem_set hc with hc | rfl
      · exact h3 c hc
      · exact (show fitsC k.size l[ixOf l x] from h3 _ (List.getElem_mem hi))
    · have e : (l.set (ixOf l x) (Cell.flush l[ixOf l x])).map Cell.Line = l.map Cell.Line := by
        rw [List.map_set]
        have : (Cell.flush l[ixOf l x]).Line = (l.map Cell.Line)[ixOf l x]'(by simpa using hi) := by simp [Cell.flush]
        rw [this, List.set_getElem_self]
      have g : ∀ l : List Cell, Sorted l ↔ (l.map Cell.Line).Pairwise (· < ·) := fun l => (List.pairwise_map).symm
      rw [g, e, ← g]
      exact hs
  · exact h
theorem fence_ok {k : ByteArray} {l : List Cell} (h : memOk k l = true) : memOk (keptS k l) (leftC l) = true := by
  obtain ⟨h1, h2, h3, hs⟩ := (memOk_iff k l).1 h
  have hz := keptS_size h3
  exact (memOk_iff _ _).2 ⟨by rw [hz]; exact h1, by rw [hz]; exact h2, fun c hc => by rw [hz]; exact h3 c (List.mem_filter.1 hc).1, hs.sublist List.filter_sublist⟩
theorem stepM_ok {m : Memory} (h : memOk m.Kept m.Cells = true) (s : Step) : memOk (stepM m s).Kept (stepM m s).Cells = true := by
  unfold stepM
  split
  · exact storeM_ok h _ _
  · split
    · rw [show m = ⟨m.Kept, m.Cells⟩ from rfl, flushM_eq h]; exact flushL_ok h _
    · split
      · rw [show m = ⟨m.Kept, m.Cells⟩ from rfl, fenceM_eq h]; exact fence_ok h
      · exact h
theorem stepsM_ok : ∀ (L : List Step) {m : Memory}, memOk m.Kept m.Cells = true → memOk (stepsM m L).Kept (stepsM m L).Cells = true
  | [], m, h => h
  | s :: L, m, h => stepsM_ok L (stepM_ok h s)
theorem stepM_bad {m : Memory} (h : memOk m.Kept m.Cells = false) (s : Step) : stepM m s = m := by
  unfold stepM storeM flushM fenceM
  simp [h]
theorem stepsM_bad : ∀ (L : List Step) {m : Memory}, memOk m.Kept m.Cells = false → stepsM m L = m
  | [], m, _ => rfl
  | s :: L, m, h => by
    show stepsM (stepM m s) L = m
    rw [stepM_bad h]
    exact stepsM_bad L h
end Go.Proofs.Ytjjdjkkhhcbogaa.DM
