/-
  What the steps of writes leave in a memory, for FnDurable: plain lists.
-/
import Derived.Test.YtjjdjkkhhcbogaaFG1
import Derived.Test.YtjjdjkkhhcbogaaFW16
namespace Go.Proofs.Ytjjdjkkhhcbogaa.DM
set_option linter.unusedVariables false
set_option linter.unusedSimpArgs false
theorem word_line {m m' : Memory} (hk : m'.Kept.size = m.Kept.size) (hok : memOk m.Kept m.Cells = true) (hok' : memOk m'.Kept m'.Cells = true) (n : Nat) (h : lineAt m'.Kept m'.Cells ((n / 2 : Nat) : Int) = lineAt m.Kept m.Cells ((n / 2 : Nat) : Int)) : wordM m' n = wordM m n := by
  unfold wordM inM cutM
  rw [Int.toNat_natCast, hk, hok, hok', h]
theorem cut_other {s w : ByteArray} {r r' : Nat} (hs : s.size = 16) (hw : w.size = 8) (h : r = 0 ∧ r' = 8 ∨ r = 8 ∧ r' = 0) : (wordIn s w r).extract r' (r' + 8) = s.extract r' (r' + 8) := by
  apply bytes_ext
  have h1 : s.data.toList.length = 16 := by rw [Array.length_toList]; exact hs
  have h2 : w.data.toList.length = 8 := by rw [Array.length_toList]; exact hw
  rw [extract_list, extract_list]
  simp only [wordIn, ByteArray.data_append, Array.toList_append, extract_list, List.drop_zero, hs]
  generalize s.data.toList = a at *
  generalize w.data.toList = b at *
  rcases h with ⟨rfl, rfl⟩ | ⟨rfl, rfl⟩
  · simp only [List.take_zero, List.nil_append, Nat.zero_add]
    rw [List.take_append, List.drop_append, h2]
    simp [List.take_of_length_le, List.drop_of_length_le, h1, h2]
  · simp only [Nat.zero_add, List.drop_zero]
    rw [List.append_assoc, List.take_append_of_le_length (by rw [List.length_take]; omega), List.take_take, Nat.min_self]
theorem word_store_ne {k : ByteArray} {l : List Cell} (hok : memOk k l = true) {a n : Nat} {w : ByteArray} (hw : w.size = 8) (ha : a < k.size / 8) (hn : n < k.size / 8) (hne : n ≠ a) : wordM (storeM ⟨k, l⟩ a w) n = wordM ⟨k, l⟩ n := by
  have hok2 := storeM_ok hok a w
  rw [store_cells hok hw ha] at hok2 ⊢
  have hs := ((memOk_iff _ _).1 hok).2.2.2
  have hs2 := ((memOk_iff _ _).1 hok2).2.2.2
  have hx : putAt k l a w ∈ fillS (putAt k l a w) false l := (mem_fill _ _ _ _).2 (.inl ⟨rfl, rfl⟩)
  have hxl : (putAt k l a w).Line = ((a / 2 : Nat) : Int) := rfl
  have hls := lineAt_size hok ((a / 2 : Nat) : Int) (by omega) (by have := (memOk_all hok).1; omega)
  by_cases hl : n / 2 = a / 2
  · have i1 : inM ⟨k, fillS (putAt k l a w) false l⟩ n = true := by simp only [inM, inB, Bool.and_eq_true, decide_eq_true_eq]; exact ⟨hok2, by omega⟩
    have i2 : inM ⟨k, l⟩ n = true := by simp only [inM, inB, Bool.and_eq_true, decide_eq_true_eq]; exact ⟨hok, by omega⟩
    rw [wordM, wordM, if_pos i1, if_pos i2]
    simp only [cutM, Int.toNat_natCast, hl]
    have e := lineAt_mem (k := k) hs2 hx
    rw [hxl] at e
    rw [e]
    show (wordIn (lineS k l ((a / 2 : Nat) : Int)) w (a % 2 * 8)).extract _ _ = _
    rw [lineS_eq hs]
    exact cut_other hls hw (by omega)
  · refine word_line (m := ⟨k, l⟩) (m' := ⟨k, fillS (putAt k l a w) false l⟩) rfl hok hok2 n ?_
    by_cases h : ∃ c ∈ l, c.Line = ((n / 2 : Nat) : Int)
    · obtain ⟨c, hc, he⟩ := h
      have hc2 : c ∈ fillS (putAt k l a w) false l := (mem_fill _ _ _ _).2 (.inr ⟨hc, by rw [hxl, he]; omega⟩)
      show lineAt k (fillS (putAt k l a w) false l) _ = lineAt k l _
      rw [← he, lineAt_mem hs hc, lineAt_mem hs2 hc2]
    · show lineAt k (fillS (putAt k l a w) false l) _ = lineAt k l _
      rw [lineAt_not (fun c hc e => h ⟨c, hc, e⟩), lineAt_not]
      intro c hc e
      rcases (mem_fill _ _ _ _).1 hc with ⟨-, rfl⟩ | ⟨hc, -⟩
      · rw [hxl] at e; omega
      · exact h ⟨c, hc, e⟩
theorem flushL_map {l : List Cell} (hs : Sorted l) (x : Int) : flushL l x = l.map fun c => if c.Line = x then c.flush else c := by
  unfold flushL
  cases hh : hasL l x with
  | true =>
    have hi := hasL_lt hh
    have ha := hasL_at hh
    simp only [if_true, List.getElem?_eq_getElem hi]
    refine List.ext_getElem (by simp) fun j h1 h2 => ?_
    have hj : j < l.length := by simpa using h2
    rw [List.getElem_set, List.getElem_map]
    by_cases hij : ixOf l x = j
    · subst hij; rw [if_pos rfl, if_pos ha]
    · rw [if_neg hij, if_neg]
      intro e
      rcases Nat.lt_or_gt_of_ne hij with h | h
      · have := List.pairwise_iff_getElem.1 hs _ _ hi hj h; omega
      · have := List.pairwise_iff_getElem.1 hs _ _ hj hi h; omega
  | false =>
    simp only [Bool.false_eq_true, if_false]
    refine (List.ext_getElem (by simp) fun j h1 h2 => ?_).symm
    have hj : j < l.length := by simpa using h1
    rw [List.getElem_map, if_neg (notL hs hh hj)]
theorem flush_word {k : ByteArray} {l : List Cell} (hok : memOk k l = true) (x : Int) (n : Nat) : wordM ⟨k, flushL l x⟩ n = wordM ⟨k, l⟩ n := by
  have hok2 := flushL_ok hok x
  have hs := ((memOk_iff _ _).1 hok).2.2.2
  have hs2 := ((memOk_iff _ _).1 hok2).2.2.2
  refine word_line (m := ⟨k, l⟩) (m' := ⟨k, flushL l x⟩) rfl hok hok2 n ?_
  show lineAt k (flushL l x) _ = lineAt k l _
  by_cases h : ∃ c ∈ l, c.Line = ((n / 2 : Nat) : Int)
  · obtain ⟨c, hc, he⟩ := h
    have hc2 : (if c.Line = x then c.flush else c) ∈ flushL l x := by rw [flushL_map hs]; exact List.mem_map_of_mem hc
    have e1 : (if c.Line = x then c.flush else c).Line = c.Line := by split <;> rfl
    have e2 : (if c.Line = x then c.flush else c).Text = c.Text := by split <;> rfl
    have := lineAt_mem (k := k) hs2 hc2
    rw [e1, e2, he] at this
    rw [this, ← he, lineAt_mem hs hc]
  · rw [lineAt_not (fun c hc e => h ⟨c, hc, e⟩), lineAt_not]
    intro c hc e
    rw [flushL_map hs, List.mem_map] at hc
    obtain ⟨c0, hc0, rfl⟩ := hc
    refine h ⟨c0, hc0, ?_⟩
    rw [← e]; split <;> rfl
theorem fence_word {k : ByteArray} {l : List Cell} (hok : memOk k l = true) (n : Nat) : wordM ⟨keptS k l, leftC l⟩ n = wordM ⟨k, l⟩ n := by
  have hok2 := fence_ok hok
  obtain ⟨h16, hle, hf, hs⟩ := (memOk_iff _ _).1 hok
  have hs2 := ((memOk_iff _ _).1 hok2).2.2.2
  refine word_line (m := ⟨k, l⟩) (m' := ⟨keptS k l, leftC l⟩) (keptS_size hf) hok hok2 n ?_
  show lineAt (keptS k l) (leftC l) _ = lineAt k l _
  by_cases h : ∃ c ∈ l, c.Line = ((n / 2 : Nat) : Int)
  · obtain ⟨c, hc, he⟩ := h
    cases hfl : c.Flushed with
    | false =>
      have hc2 : c ∈ leftC l := by simp only [leftC, List.mem_filter]; exact ⟨hc, by simp [hfl]⟩
      rw [← he, lineAt_mem hs2 hc2, lineAt_mem hs hc]
    | true =>
      rw [lineAt_not (l := leftC l), ← he, lineAt_mem hs hc, he]
      · apply bytes_ext
        rw [seg_line, kept_seg hf]
        refine lastOf_mem id Cell.Flushed (n / 2) c.Text.data.toList _ _ (fun d hd hdl => ?_) ⟨c, hc, hfl, he⟩
        have : d = c := uniq hs hd hc (by simp only [id] at hdl; rw [hdl, he])
        rw [this]; rfl
      · intro d hd e
        simp only [leftC, List.mem_filter] at hd
        have : d = c := uniq hs hd.1 hc (by rw [e, he])
        rw [this, hfl] at hd
        simp at hd
  · rw [lineAt_not (l := leftC l), lineAt_not (l := l) (fun c hc e => h ⟨c, hc, e⟩)]
    · apply bytes_ext
      rw [seg_line, seg_line, kept_seg hf, lastOf_none]
      intro c hc _ e
      exact h ⟨c, hc, e⟩
    · intro d hd e
      simp only [leftC, List.mem_filter] at hd
      exact h ⟨d, hd.1, e⟩
def stosOf (ws : List Write) : List Step := ws.map fun w => ⟨1, w.At, w.Word⟩
def flusOf (xs : List Int) : List Step := xs.map fun x => ⟨2, x, ByteArray.empty⟩
def lastW (ws : List Write) (n : Nat) (d : ByteArray) : ByteArray := ws.foldl (fun d w => if w.At = (n : Int) ∧ w.Word.size = 8 then w.Word else d) d
theorem stos_ok : ∀ (ws : List Write) {m : Memory}, memOk m.Kept m.Cells = true → memOk (stepsM m (stosOf ws)).Kept (stepsM m (stosOf ws)).Cells = true ∧ (stepsM m (stosOf ws)).Kept.size = m.Kept.size ∧
    (∀ c ∈ (stepsM m (stosOf ws)).Cells, (∃ c0 ∈ m.Cells, c0.Line = c.Line) ∨ ∃ w ∈ ws, 0 ≤ w.At ∧ w.At < 2000 ∧ c.Line = w.At / 2) ∧ ∀ n, n < m.Kept.size / 8 → wordM (stepsM m (stosOf ws)) n = lastW ws n (wordM m n)
  | [], m, h => ⟨h, rfl, fun c hc => .inl ⟨c, hc, rfl⟩, fun n _ => rfl⟩
  | w :: ws, m, h => by
    have hst : stepsM m (stosOf (w :: ws)) = stepsM (storeM m w.At w.Word) (stosOf ws) := rfl
    obtain ⟨k, l⟩ := m
    have h1 := storeM_ok h w.At w.Word
    obtain ⟨g1, g2, g3, g4⟩ := stos_ok ws h1
    have hsz := (storeM_bd ⟨k, l⟩ w.At w.Word).1
    have hle := (memOk_all h).2.1
    simp only at hsz h hle
    rw [hst]
    refine ⟨g1, g2.trans hsz, ?_, ?_⟩
    · intro c hc
      rcases g3 c hc with ⟨c0, hc0, he⟩ | ⟨w', hw', h0, hlt, he⟩
      · by_cases hw : w.Word.size = 8
        · by_cases hi : inB w.At 0 ((k.size : Int) / 8 - 1) = true
          · have hin : inM ⟨k, l⟩ w.At = true := by simp only [inM, Bool.and_eq_true]; exact ⟨h, hi⟩
            obtain ⟨-, n, hn, hnl⟩ := inM_nat hin
            simp only at hnl
            rw [hn, store_cells h hw hnl] at hc0
            rcases (mem_fill _ _ _ _).1 hc0 with ⟨-, rfl⟩ | ⟨hc0, -⟩
            · refine .inr ⟨w, List.mem_cons_self, by omega, by omega, ?_⟩
              rw [← he, hn]
              show ((n / 2 : Nat) : Int) = _
              omega
            · exact .inl ⟨c0, hc0, he⟩
          · have : storeM ⟨k, l⟩ w.At w.Word = ⟨k, l⟩ := by rw [storeM_eq h, if_pos hw, if_neg hi]
            rw [this] at hc0
            exact .inl ⟨c0, hc0, he⟩
        · have : storeM ⟨k, l⟩ w.At w.Word = ⟨k, l⟩ := by rw [storeM_eq h, if_neg hw]
          rw [this] at hc0
          exact .inl ⟨c0, hc0, he⟩
      · exact .inr ⟨w', List.mem_cons_of_mem _ hw', h0, hlt, he⟩
    · intro n hn
      rw [g4 n (by rw [hsz]; exact hn)]
      show lastW ws n _ = lastW ws n (if w.At = (n : Int) ∧ w.Word.size = 8 then w.Word else wordM ⟨k, l⟩ n)
      congr 1
      simp only at hn
      by_cases hw : w.Word.size = 8
      · by_cases hi : inB w.At 0 ((k.size : Int) / 8 - 1) = true
        · have hin : inM ⟨k, l⟩ w.At = true := by simp only [inM, Bool.and_eq_true]; exact ⟨h, hi⟩
          obtain ⟨-, a, ha, hal⟩ := inM_nat hin
          simp only at hal
          rw [ha]
          by_cases hna : n = a
          · subst hna
            rw [if_pos ⟨rfl, hw⟩]
            exact word_store h hw hal
          · rw [if_neg (by omega)]
            exact word_store_ne h hw hal hn hna
        · have : storeM ⟨k, l⟩ w.At w.Word = ⟨k, l⟩ := by rw [storeM_eq h, if_pos hw, if_neg hi]
          rw [this, if_neg]
          rintro ⟨e, -⟩
          refine hi ?_
          simp only [inB, Bool.and_eq_true, decide_eq_true_eq]
          omega
      · have : storeM ⟨k, l⟩ w.At w.Word = ⟨k, l⟩ := by rw [storeM_eq h, if_neg hw]
        rw [this, if_neg (fun e => hw e.2)]
theorem flus_ok : ∀ (xs : List Int) {k : ByteArray} {l : List Cell}, memOk k l = true → ∃ l', stepsM ⟨k, l⟩ (flusOf xs) = ⟨k, l'⟩ ∧ memOk k l' = true ∧ (∀ n : Nat, wordM ⟨k, l'⟩ n = wordM ⟨k, l⟩ n) ∧
    ∀ c ∈ l', ∃ c0 ∈ l, c.Line = c0.Line ∧ ((c0.Flushed = true ∨ c.Line ∈ xs) → c.Flushed = true)
  | [], k, l, h => ⟨l, rfl, h, fun n => rfl, fun c hc => ⟨c, hc, rfl, fun h => h.elim id (fun h => by cases h)⟩⟩
  | x :: xs, k, l, h => by
    have hst : stepsM ⟨k, l⟩ (flusOf (x :: xs)) = stepsM (flushM ⟨k, l⟩ x) (flusOf xs) := rfl
    rw [flushM_eq h] at hst
    have hs := ((memOk_iff _ _).1 h).2.2.2
    obtain ⟨l', e, h1, h2, h3⟩ := flus_ok xs (flushL_ok h x)
    refine ⟨l', hst.trans e, h1, fun n => (h2 n).trans (flush_word h x n), fun c hc => ?_⟩
    obtain ⟨c1, hc1, hl, hfl⟩ := h3 c hc
    rw [flushL_map hs, List.mem_map] at hc1
    obtain ⟨c0, hc0, rfl⟩ := hc1
    have e1 : (if c0.Line = x then c0.flush else c0).Line = c0.Line := by split <;> rfl
    rw [e1] at hl
    refine ⟨c0, hc0, hl, fun hor => hfl ?_⟩
    rcases hor with hor | hor
    · left; split
      · rfl
      · exact hor
    · rcases List.mem_cons.1 hor with hx | hx
      · left; rw [if_pos (hl ▸ hx)]; rfl
      · exact .inr hx
theorem lastW_skip (n : Nat) : ∀ (ws : List Write) (d : ByteArray), (∀ w ∈ ws, w.At ≠ (n : Int)) → lastW ws n d = d
  | [], d, _ => rfl
  | w :: ws, d, h => by
    show lastW ws n (if _ then _ else _) = d
    rw [if_neg (fun e => h w List.mem_cons_self e.1)]
    exact lastW_skip n ws d fun w' hw' => h w' (List.mem_cons_of_mem _ hw')
theorem mem_lines {ws : List Write} {w : Write} (hw : w ∈ ws) (h0 : 0 ≤ w.At) (h1 : w.At < 2000) : w.At / 2 ∈ linesOf ws := by
  refine (s_mem _ _ _).2 (.inr ⟨w, hw, h0, ?_⟩)
  unfold ln
  rw [Int.tdiv_eq_ediv_of_nonneg h0, wr _ (by omega) (by omega)]
theorem fall_zero {k : ByteArray} {l : List Cell} (hok : memOk k l = true) (hl : l = []) : fallM ⟨k, l⟩ 0 = ⟨k, []⟩ := by
  subst hl
  have : fallM ⟨k, []⟩ 0 = ⟨keptF 0 k [], []⟩ := by simp [fallM, hok]
  rw [this]
  rfl
/-- The law of durable writes, of what its functions compute. -/
theorem durable_law {ws : List Write} {m : Memory} (hok : memOk m.Kept m.Cells = true) (hc : m.Cells = []) (i : Nat) (hi : i < ws.length) (h0 : 0 ≤ ws[i].At) (h1 : ws[i].At < m.Kept.size / 8) (hw : ws[i].Word.size = 8)
    (hlast : ∀ k (hk : k < ws.length), i < k → ws[k].At ≠ ws[i].At) : wordM (fallM (stepsM m (durable ws)) 0) ws[i].At = ws[i].Word := by
  have hd : durable ws = stosOf ws ++ flusOf (linesOf ws) ++ [⟨3, 0, ByteArray.empty⟩] := by
    unfold durable; rw [if_neg (by omega)]; rfl
  obtain ⟨g1, g2, g3, g4⟩ := stos_ok ws hok
  have hle := (memOk_all hok).2.1
  have e1 : stepsM m (durable ws) = fenceM (stepsM (stepsM m (stosOf ws)) (flusOf (linesOf ws))) := by
    rw [hd]; unfold stepsM; rw [List.foldl_append, List.foldl_append]; rfl
  rw [e1]
  obtain ⟨a, ha⟩ := Int.eq_ofNat_of_zero_le h0
  have g5 := g4 a (by omega)
  generalize hM : stepsM m (stosOf ws) = M at *
  obtain ⟨k, l⟩ := M
  simp only at g1 g2 g3
  obtain ⟨l', e2, f1, f2, f3⟩ := flus_ok (linesOf ws) g1
  rw [e2, fenceM_eq f1]
  have hleft : leftC l' = [] := by
    unfold leftC
    rw [List.filter_eq_nil_iff]
    intro c hc'
    obtain ⟨c0, hc0, hl, hfl⟩ := f3 c hc'
    have : c.Flushed = true := hfl (.inr (by
      rcases g3 c0 hc0 with ⟨c1, hc1, -⟩ | ⟨w, hw, h0, hlt, he⟩
      · rw [hc] at hc1; cases hc1
      · rw [hl, he]; exact mem_lines hw h0 hlt))
    simp [this]
  have hok3 := fence_ok f1
  have hwd := fence_word f1 a
  rw [hleft] at hok3 hwd ⊢
  rw [fall_zero hok3 rfl, ha, hwd, f2 a, g5]
  have hsp : ws = ws.take i ++ ws[i] :: ws.drop (i + 1) := by rw [List.getElem_cons_drop, List.take_append_drop]
  have : lastW ws a (wordM m a) = lastW (ws.drop (i + 1)) a ws[i].Word := by
    conv => lhs; rw [hsp]
    unfold lastW
    rw [List.foldl_append, List.foldl_cons, if_pos ⟨ha, hw⟩]
  rw [this]
  refine lastW_skip a _ _ fun w hw' => ?_
  obtain ⟨j, hj, rfl⟩ := List.getElem_of_mem hw'
  rw [List.length_drop] at hj
  rw [List.getElem_drop, ← ha]
  exact hlast (i + 1 + j) (by omega) (by omega)
end Go.Proofs.Ytjjdjkkhhcbogaa.DM
