/-
  Lines of a memory: what is laid over what (plain lists), for FnStores and FnDurable.
-/
import Derived.Test.YtjjdjkkhhcbogaaFM11
import Derived.Test.YtjjdjkkhhcbogaaFW14
namespace Go.Proofs.Ytjjdjkkhhcbogaa.DM
set_option linter.unusedVariables false
set_option linter.unusedSimpArgs false
/-- The bytes of a line. -/
def seg (kb : List UInt8) (n : Nat) : List UInt8 := (kb.drop (n * 16)).take 16
theorem seg_ovl {kb : List UInt8} {c : Cell} (h : fitsC kb.length c) (n : Nat) : seg (ovl kb c) n = if (n : Int) = c.Line then c.Text.data.toList else seg kb n := by
  obtain ⟨h0, h1, h2⟩ := h
  obtain ⟨m, hm⟩ := Int.eq_ofNat_of_zero_le h0
  have hl : c.Text.data.toList.length = 16 := by rw [Array.length_toList]; exact h2
  have he : (c.Line * 16).toNat = m * 16 := by omega
  have hle : (m + 1) * 16 ≤ kb.length := by omega
  unfold seg ovl
  rw [he, h2, hm]
  have htl : (kb.take (m * 16)).length = m * 16 := by rw [List.length_take]; omega
  rcases Nat.lt_trichotomy n m with hlt | rfl | hgt
  · rw [if_neg (by omega), List.drop_append_of_le_length (by omega), List.take_append_of_le_length (by rw [List.length_drop]; omega), List.drop_take, List.take_take, Nat.min_eq_left (by omega)]
  · rw [if_pos rfl, List.drop_append_of_le_length (by omega), List.drop_of_length_le (by omega), List.nil_append, List.take_append_of_le_length (by omega), List.take_of_length_le (by omega)]
  · rw [if_neg (by omega)]
    have e1 : n * 16 = (kb.take (m * 16)).length + (n * 16 - m * 16) := by omega
    conv => lhs; rw [e1, List.drop_length_add_append]
    have e2 : n * 16 - m * 16 = c.Text.data.toList.length + (n * 16 - m * 16 - 16) := by omega
    rw [e2, List.drop_length_add_append, List.drop_drop]
    congr 2
    omega
/-- The last cell of a line, of those that are picked. -/
def lastOf {α : Type} (f : α → Cell) (pick : α → Bool) (n : Nat) (l : List α) (d : List UInt8) : List UInt8 := l.foldl (fun d c => if pick c && (f c).Line == n then (f c).Text.data.toList else d) d
theorem seg_fold {α : Type} (f : α → Cell) (pick : α → Bool) (n : Nat) : ∀ (l : List α) (kb : List UInt8), (∀ c ∈ l, fitsC kb.length (f c)) → seg (l.foldl (fun kb c => if pick c then ovl kb (f c) else kb) kb) n = lastOf f pick n l (seg kb n)
  | [], kb, _ => rfl
  | c :: l, kb, h => by
    have h1 := ovl_len (h c List.mem_cons_self)
    simp only [List.foldl_cons, lastOf]
    cases hp : pick c with
    | true =>
      rw [if_pos rfl, seg_fold f pick n l _ (fun c' hc' => by rw [h1]; exact h c' (List.mem_cons_of_mem _ hc')), seg_ovl (h c List.mem_cons_self)]
      show lastOf f pick n l _ = lastOf f pick n l _
      congr 1
      by_cases hn : (n : Int) = (f c).Line
      · rw [if_pos hn]; simp [hn]
      · rw [if_neg hn]
        have hn' : ¬ (f c).Line = (n : Int) := fun e => hn e.symm
        simp [hn']
    | false =>
      rw [if_neg (by simp)]
      simp only [Bool.false_and]
      exact seg_fold f pick n l kb fun c' hc' => h c' (List.mem_cons_of_mem _ hc')
theorem uniq {l : List Cell} (hs : Sorted l) {a b : Cell} (ha : a ∈ l) (hb : b ∈ l) (h : a.Line = b.Line) : a = b := by
  obtain ⟨i, hi, rfl⟩ := List.getElem_of_mem ha
  obtain ⟨j, hj, rfl⟩ := List.getElem_of_mem hb
  rcases Nat.lt_trichotomy i j with h1 | rfl | h1
  · have := List.pairwise_iff_getElem.1 hs i j hi hj h1; omega
  · rfl
  · have := List.pairwise_iff_getElem.1 hs j i hj hi h1; omega
theorem lineAt_mem {k : ByteArray} {l : List Cell} (hs : Sorted l) {c : Cell} (hc : c ∈ l) : lineAt k l c.Line = c.Text := by
  unfold lineAt
  cases hh : hasL l c.Line with
  | true =>
    have hi := hasL_lt hh
    have e := uniq hs (List.getElem_mem hi) hc (hasL_at hh)
    rw [if_pos rfl, List.getElem?_eq_getElem hi, e]
  | false =>
    obtain ⟨i, hi, rfl⟩ := List.getElem_of_mem hc
    exact absurd rfl (notL hs hh hi)
theorem lineAt_not {k : ByteArray} {l : List Cell} {n : Int} (h : ∀ c ∈ l, c.Line ≠ n) : lineAt k l n = k.extract (n * 16).toNat ((n + 1) * 16).toNat := by
  unfold lineAt
  cases hh : hasL l n with
  | true => exact absurd (hasL_at hh) (h _ (List.getElem_mem (hasL_lt hh)))
  | false => rw [if_neg (by simp)]
theorem mem_fill (x : Cell) : ∀ (l : List Cell) (b : Bool) (c : Cell), c ∈ fillS x b l ↔ (b = false ∧ c = x) ∨ (c ∈ l ∧ c.Line ≠ x.Line)
  | [], b, c => by cases b <;> simp [fillS]
  | d :: l, b, c => by
    have h1 := mem_fill x l true c
    have h2 := mem_fill x l false c
    have hdc : c = d → c.Line = d.Line := fun e => by rw [e]
    cases b <;> by_cases hd : d.Line = x.Line <;> by_cases hle : x.Line ≤ d.Line <;> simp only [fillS, hd, hle, List.mem_append, List.mem_cons, h1, h2] <;> simp <;> grind
theorem cut_word {s w : ByteArray} {r : Nat} (hs : s.size = 16) (hw : w.size = 8) (hr : r ≤ 8) : (wordIn s w r).extract r (r + 8) = w := by
  apply bytes_ext
  have h1 : s.data.toList.length = 16 := by rw [Array.length_toList]; exact hs
  have h2 : w.data.toList.length = 8 := by rw [Array.length_toList]; exact hw
  rw [extract_list]
  simp only [wordIn, ByteArray.data_append, Array.toList_append, extract_list, List.drop_zero]
  have e1 : (s.data.toList.take r).length = r := by rw [List.length_take]; omega
  rw [List.append_assoc, List.take_append, List.drop_append, e1, List.take_of_length_le (by omega), List.drop_of_length_le (by omega), e1, Nat.sub_self, List.nil_append, List.drop_zero, show r + 8 - r = 8 by omega, List.take_append_of_le_length (by omega), List.take_of_length_le (by omega)]
theorem store_cells {k : ByteArray} {l : List Cell} (hok : memOk k l = true) {n : Nat} {w : ByteArray} (hw : w.size = 8) (hn : n < k.size / 8) : storeM ⟨k, l⟩ n w = ⟨k, fillS (putAt k l n w) false l⟩ := by
  have hi : inB (n : Int) 0 ((k.size : Int) / 8 - 1) = true := by simp [inB]; omega
  simp [storeM, hok, hw, hi]
theorem word_store {k : ByteArray} {l : List Cell} (hok : memOk k l = true) {n : Nat} {w : ByteArray} (hw : w.size = 8) (hn : n < k.size / 8) : wordM (storeM ⟨k, l⟩ n w) n = w := by
  have hok2 := storeM_ok hok n w
  rw [store_cells hok hw hn] at hok2 ⊢
  have hi : inB (n : Int) 0 ((k.size : Int) / 8 - 1) = true := by simp [inB]; omega
  have hin : inM ⟨k, fillS (putAt k l n w) false l⟩ n = true := by simp only [inM, Bool.and_eq_true]; exact ⟨hok2, hi⟩
  rw [wordM, if_pos hin]
  have hs := ((memOk_iff _ _).1 hok2).2.2.2
  have hx : putAt k l n w ∈ fillS (putAt k l n w) false l := (mem_fill _ _ _ _).2 (.inl ⟨rfl, rfl⟩)
  have hl := lineAt_mem (k := k) hs hx
  have he : (putAt k l n w).Line = ((n / 2 : Nat) : Int) := rfl
  rw [he] at hl
  simp only [cutM, Int.toNat_natCast, hl]
  obtain ⟨hm16, hsz, _⟩ := memOk_all hok
  have hls := lineAt_size hok ((n / 2 : Nat) : Int) (by omega) (by omega)
  rw [← lineS_eq ((memOk_iff _ _).1 hok).2.2.2] at hls
  exact cut_word hls hw (by omega)
theorem lastOf_none {α : Type} (f : α → Cell) (pick : α → Bool) (n : Nat) : ∀ (l : List α) (d : List UInt8), (∀ c ∈ l, pick c = true → (f c).Line ≠ n) → lastOf f pick n l d = d
  | [], d, _ => rfl
  | c :: l, d, h => by
    have ih := lastOf_none f pick n l
    simp only [lastOf, List.foldl_cons] at ih ⊢
    have hc : (pick c && (f c).Line == n) = false := by
      cases hp : pick c with
      | true => simpa using h c List.mem_cons_self hp
      | false => rfl
    rw [hc, if_neg (by simp)]
    exact ih d fun c' hc' => h c' (List.mem_cons_of_mem _ hc')
theorem lastOf_or {α : Type} (f : α → Cell) (pick : α → Bool) (n : Nat) (t : List UInt8) : ∀ (l : List α) (d : List UInt8), (∀ c ∈ l, (f c).Line = n → (f c).Text.data.toList = t) → lastOf f pick n l d = t ∨ lastOf f pick n l d = d
  | [], d, _ => .inr rfl
  | c :: l, d, h => by
    have ih := lastOf_or f pick n t l
    simp only [lastOf, List.foldl_cons] at ih ⊢
    by_cases hc : (pick c && (f c).Line == n) = true
    · rw [if_pos hc]
      simp only [Bool.and_eq_true, beq_iff_eq] at hc
      rw [h c List.mem_cons_self hc.2]
      rcases ih t (fun c' hc' => h c' (List.mem_cons_of_mem _ hc')) with h1 | h1
      · exact .inl h1
      · exact .inl h1
    · rw [if_neg hc]
      exact ih d fun c' hc' => h c' (List.mem_cons_of_mem _ hc')
theorem lastOf_mem {α : Type} (f : α → Cell) (pick : α → Bool) (n : Nat) (t : List UInt8) : ∀ (l : List α) (d : List UInt8), (∀ c ∈ l, (f c).Line = n → (f c).Text.data.toList = t) → (∃ c ∈ l, pick c = true ∧ (f c).Line = n) → lastOf f pick n l d = t
  | [], d, _, ⟨c, hc, _⟩ => by cases hc
  | c :: l, d, h, hex => by
    have hr := fun c' hc' => h c' (List.mem_cons_of_mem c hc')
    by_cases hc : (pick c && (f c).Line == n) = true
    · have hlo := lastOf_or f pick n t l (f c).Text.data.toList hr
      show lastOf f pick n l (if _ then _ else d) = t
      rw [if_pos hc]
      simp only [Bool.and_eq_true, beq_iff_eq] at hc
      rw [h c List.mem_cons_self hc.2] at hlo ⊢
      rcases hlo with h1 | h1 <;> exact h1
    · show lastOf f pick n l (if _ then _ else d) = t
      rw [if_neg hc]
      refine lastOf_mem f pick n t l d hr ?_
      obtain ⟨c', hc', hp, hl⟩ := hex
      rcases List.mem_cons.1 hc' with rfl | hc'
      · exact absurd (by simp [hp, hl]) hc
      · exact ⟨c', hc', hp, hl⟩
theorem seg_line (k : ByteArray) (n : Nat) : (k.extract ((n : Int) * 16).toNat (((n : Int) + 1) * 16).toNat).data.toList = seg k.data.toList n := by
  have e1 : ((n : Int) * 16).toNat = n * 16 := by omega
  have e2 : (((n : Int) + 1) * 16).toNat = n * 16 + 16 := by omega
  rw [e1, e2, extract_list, seg, List.drop_take, show n * 16 + 16 - n * 16 = 16 by omega]
theorem kb_len (k : ByteArray) : k.data.toList.length = k.size := Array.length_toList
theorem kept_seg {k : ByteArray} {l : List Cell} (hf : ∀ c ∈ l, fitsC k.size c) (n : Nat) : seg (keptS k l).data.toList n = lastOf id Cell.Flushed n l (seg k.data.toList n) := by
  have := seg_fold id Cell.Flushed n l k.data.toList (fun c hc => by rw [kb_len]; exact hf c hc)
  simpa [keptS, keptB] using this
theorem fall_seg {k : ByteArray} {l : List Cell} (p : Int) (hf : ∀ c ∈ l, fitsC k.size c) (n : Nat) : seg (keptF p k l).data.toList n = lastOf Prod.fst (fun c => bitP p c.2) n l.zipIdx (seg k.data.toList n) := by
  have := seg_fold Prod.fst (fun c => bitP p c.2) n l.zipIdx k.data.toList (fun c hc => by rw [kb_len]; exact hf c.1 (mem_zip hc))
  simpa [keptF, keptP] using this
theorem keptF_size {k : ByteArray} {l : List Cell} (p : Int) (hf : ∀ c ∈ l, fitsC k.size c) : (keptF p k l).size = k.size := by
  have h := keptP_len p l.zipIdx k.data.toList (fun c hc => by rw [kb_len]; exact hf c.1 (mem_zip hc))
  rw [kb_len] at h
  show (keptP p l.zipIdx k.data.toList).toArray.size = _
  simpa using h
theorem word_kept {K s : ByteArray} {n : Nat} (h16 : K.size % 16 = 0) (hle : K.size ≤ 16000) (hn : n < K.size / 8) (hs : seg K.data.toList (n / 2) = s.data.toList) : wordM ⟨K, []⟩ n = s.extract (n % 2 * 8) (n % 2 * 8 + 8) := by
  have hok : memOk K [] = true := (memOk_iff _ _).2 ⟨h16, hle, by simp, .nil⟩
  have hi : inB (n : Int) 0 ((K.size : Int) / 8 - 1) = true := by simp [inB]; omega
  have hin : inM ⟨K, []⟩ n = true := by simp only [inM, Bool.and_eq_true]; exact ⟨hok, hi⟩
  rw [wordM, if_pos hin]
  have hl : lineAt K [] ((n / 2 : Nat) : Int) = s := by
    rw [lineAt_not (by simp)]
    apply bytes_ext
    rw [seg_line, hs]
  simp only [cutM, Int.toNat_natCast, hl]
/-- What is flushed, fenced and fallen: the line is there. -/
theorem word_safe {k : ByteArray} {l : List Cell} (hok : memOk k l = true) {x : Cell} (hx : x ∈ l) {n : Nat} (hn : n < k.size / 8) (hxl : x.Line = ((n / 2 : Nat) : Int)) (p : Int) (hp : 0 ≤ p) :
    wordM (fallM (fenceM (flushM ⟨k, l⟩ ((n / 2 : Nat) : Int))) p) n = x.Text.extract (n % 2 * 8) (n % 2 * 8 + 8) ∧ (fallM (fenceM (flushM ⟨k, l⟩ ((n / 2 : Nat) : Int))) p).Cells = [] ∧ (fallM (fenceM (flushM ⟨k, l⟩ ((n / 2 : Nat) : Int))) p).Kept.size = k.size := by
  obtain ⟨h16, hle, hf, hs⟩ := (memOk_iff _ _).1 hok
  have hfo := flushL_ok hok ((n / 2 : Nat) : Int)
  obtain ⟨-, -, hf2, hs2⟩ := (memOk_iff _ _).1 hfo
  -- the cell stands, flushed
  have hx2 : ∃ y ∈ flushL l ((n / 2 : Nat) : Int), y.Line = ((n / 2 : Nat) : Int) ∧ y.Text = x.Text ∧ y.Flushed = true := by
    have hh : hasL l ((n / 2 : Nat) : Int) = true := by
      cases h : hasL l ((n / 2 : Nat) : Int) with
      | true => rfl
      | false =>
        obtain ⟨i, hi, rfl⟩ := List.getElem_of_mem hx
        exact absurd hxl (notL hs h hi)
    have hi := hasL_lt hh
    have he : l[ixOf l ((n / 2 : Nat) : Int)] = x := uniq hs (List.getElem_mem hi) hx (by rw [hasL_at hh, hxl])
    refine ⟨x.flush, ?_, hxl, rfl, rfl⟩
    simp only [flushL, hh, if_true, List.getElem?_eq_getElem hi, he]
    exact List.mem_iff_getElem.2 ⟨ixOf l ((n / 2 : Nat) : Int), by rw [List.length_set]; exact hi, by simp⟩
  obtain ⟨y, hy, hyl, hyt, hyf⟩ := hx2
  rw [flushM_eq hok, fenceM_eq hfo]
  have hok3 := fence_ok hfo
  obtain ⟨h16c, hlec, hf3, hs3⟩ := (memOk_iff _ _).1 hok3
  have hK : (keptS k (flushL l ((n / 2 : Nat) : Int))).size = k.size := keptS_size hf2
  have hfall : fallM ⟨keptS k (flushL l ((n / 2 : Nat) : Int)), leftC (flushL l ((n / 2 : Nat) : Int))⟩ p = ⟨keptF p (keptS k (flushL l ((n / 2 : Nat) : Int))) (leftC (flushL l ((n / 2 : Nat) : Int))), []⟩ := by
    simp only [fallM, hok3, Bool.true_and, hp, decide_true, if_true]
  rw [hfall]
  refine ⟨?_, rfl, ?_⟩
  · refine word_kept (by rw [keptF_size p hf3]; exact h16c) (by rw [keptF_size p hf3]; exact hlec) (by rw [keptF_size p hf3, hK]; exact hn) ?_
    rw [fall_seg p hf3, lastOf_none, kept_seg hf2]
    · refine lastOf_mem id Cell.Flushed (n / 2) x.Text.data.toList _ _ (fun c hc hl => ?_) ⟨y, hy, hyf, hyl⟩
      have : c = y := uniq hs2 hc hy (by simp only [id] at hl; rw [hl, hyl])
      rw [this]; simp only [id, hyt]
    · intro c hc _ hl
      have hm := mem_zip hc
      simp only [leftC, List.mem_filter] at hm
      have : c.1 = y := uniq hs2 hm.1 hy (by rw [hl, hyl])
      rw [this, hyf] at hm
      simp at hm
  · rw [keptF_size p hf3, hK]
/-- What is fallen at once: the word is the new one or the old one. -/
theorem word_fall {k : ByteArray} {l : List Cell} (hok : memOk k l = true) {x : Cell} (hx : x ∈ l) {n : Nat} (hn : n < k.size / 8) (hxl : x.Line = ((n / 2 : Nat) : Int)) (p : Int) (hp : 0 ≤ p) :
    wordM (fallM ⟨k, l⟩ p) n = x.Text.extract (n % 2 * 8) (n % 2 * 8 + 8) ∨ wordM (fallM ⟨k, l⟩ p) n = wordM ⟨k, []⟩ n := by
  obtain ⟨h16, hle, hf, hs⟩ := (memOk_iff _ _).1 hok
  have hfall : fallM ⟨k, l⟩ p = ⟨keptF p k l, []⟩ := by simp only [fallM, hok, Bool.true_and, hp, decide_true, if_true]
  rw [hfall]
  have hsz := keptF_size p hf
  have hseg := fall_seg p hf (n / 2)
  rcases lastOf_or Prod.fst (fun c : Cell × Nat => bitP p c.2) (n / 2) x.Text.data.toList l.zipIdx (seg k.data.toList (n / 2)) (fun c hc hl => by
    have : c.1 = x := uniq hs (mem_zip hc) hx (by rw [hl, hxl])
    rw [this]) with h | h
  · left
    exact word_kept (by rw [hsz]; exact h16) (by rw [hsz]; exact hle) (by rw [hsz]; exact hn) (hseg.trans h)
  · right
    have e : seg k.data.toList (n / 2) = (k.extract (((n / 2 : Nat) : Int) * 16).toNat ((((n / 2 : Nat) : Int) + 1) * 16).toNat).data.toList := (seg_line k (n / 2)).symm
    rw [word_kept (by rw [hsz]; exact h16) (by rw [hsz]; exact hle) (by rw [hsz]; exact hn) ((hseg.trans h).trans e), word_kept h16 hle hn e]
theorem cutM_size {m : Memory} {n : Nat} (hok : memOk m.Kept m.Cells = true) (hn : n < m.Kept.size / 8) : (cutM m n).size = 8 := by
  obtain ⟨h16, _, _⟩ := memOk_all hok
  have hls := lineAt_size hok ((n / 2 : Nat) : Int) (by omega) (by omega)
  simp only [cutM, Int.toNat_natCast, ByteArray.size_extract, hls]
  omega
theorem wordM_ne {m : Memory} {a : Int} (h : inM m a = true) : ((wordM m a).toList == []) = false := by
  obtain ⟨hok, n, rfl, hn⟩ := inM_nat h
  have hs := cutM_size hok hn
  rw [wordM, if_pos h, ByteArray.toList_eq]
  cases hl : (cutM m (n : Int)).data.toList with
  | nil =>
    exfalso
    have : (cutM m (n : Int)).size = 0 := by show (cutM m (n : Int)).data.size = 0; rw [← Array.length_toList, hl]; rfl
    omega
  | cons x xs => rfl
/-- The law of stores, of what its functions compute. -/
theorem stores_law {k : ByteArray} {l : List Cell} (hok : memOk k l = true) {n : Nat} {w : ByteArray} (hw : w.size = 8) (hn : n < k.size / 8) (p q : Int) (hp : 0 ≤ p) (hq : 0 ≤ q) :
    memOk (storeM ⟨k, l⟩ n w).Kept (storeM ⟨k, l⟩ n w).Cells = true ∧ wordM (storeM ⟨k, l⟩ n w) n = w ∧ wordM (fallM (fenceM (flushM (storeM ⟨k, l⟩ n w) ((n / 2 : Nat) : Int))) p) n = w ∧
      (wordM (fallM (storeM ⟨k, l⟩ n w) q) n = w ∨ wordM (fallM (storeM ⟨k, l⟩ n w) q) n = wordM ⟨k, []⟩ n) ∧ (fallM (fenceM (flushM (storeM ⟨k, l⟩ n w) ((n / 2 : Nat) : Int))) p).Cells = [] ∧ (fallM (fenceM (flushM (storeM ⟨k, l⟩ n w) ((n / 2 : Nat) : Int))) p).Kept.size = k.size := by
  have hok2 := storeM_ok hok n w
  have hws := word_store hok hw hn
  rw [store_cells hok hw hn] at hok2 hws ⊢
  have hx : putAt k l n w ∈ fillS (putAt k l n w) false l := (mem_fill _ _ _ _).2 (.inl ⟨rfl, rfl⟩)
  have hls := lineAt_size hok ((n / 2 : Nat) : Int) (by have := (memOk_all hok).1; omega) (by have := (memOk_all hok).1; omega)
  rw [← lineS_eq ((memOk_iff _ _).1 hok).2.2.2] at hls
  have hcut : (putAt k l n w).Text.extract (n % 2 * 8) (n % 2 * 8 + 8) = w := cut_word hls hw (by omega)
  obtain ⟨g1, g2, g3⟩ := word_safe hok2 hx hn rfl p hp
  have g4 := word_fall hok2 hx hn rfl q hq
  rw [hcut] at g1 g4
  exact ⟨hok2, hws, g1, g4, g2, g3⟩
end Go.Proofs.Ytjjdjkkhhcbogaa.DM
