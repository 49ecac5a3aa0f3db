/-
  A path is what its names make; what is under a folder is longer (plain lists).
-/
import Derived.Test.YtciieaidbiejmaaA2
namespace Go.Proofs.Ytciieaidbiejmaa.DM
set_option linter.unusedVariables false
set_option linter.unusedSimpArgs false
theorem bytes_ext {a b : ByteArray} (h : a.data.toList = b.data.toList) : a = b := ByteArray.ext (Array.ext' h)
theorem extract_list (a : ByteArray) (i j : Nat) : (a.extract i j).data.toList = (a.data.toList.take j).drop i := by
  rw [ByteArray.data_extract]
  simp [List.drop_take]
theorem append_list (a b : ByteArray) : (a ++ b).data.toList = a.data.toList ++ b.data.toList := by simp [ByteArray.data_append]
theorem size_list (a : ByteArray) : a.data.toList.length = a.size := Array.length_toList
theorem get_list (a : ByteArray) (i : Nat) : a[i]? = a.data.toList[i]? := by
  by_cases h : i < a.size
  · rw [getElem?_pos a i h, List.getElem?_eq_getElem (by rw [size_list]; exact h)]
    congr 1
  · rw [getElem?_neg a i h, List.getElem?_eq_none (by rw [size_list]; omega)]
theorem joinN_snoc (l : List ByteArray) (x : ByteArray) : joinN (l ++ [x]) = (joinN l ++ rootB) ++ x := by unfold joinN; rw [List.foldl_append]; rfl
theorem close_seg {s : ByteArray} {b i : Nat} (hb : 1 ≤ b) (hbi : b ≤ i) (hi : i ≤ s.size) (h47 : s[b - 1]? = some 47) : (s.extract 0 (b - 1) ++ rootB) ++ s.extract b i = s.extract 0 i := by
  apply bytes_ext
  rw [append_list, append_list, extract_list, extract_list, extract_list]
  rw [get_list] at h47
  have hl := size_list s
  generalize s.data.toList = L at *
  have h1 : b - 1 < L.length := by omega
  have h2 : L[b - 1] = 47 := by rw [List.getElem?_eq_getElem h1] at h47; exact Option.some.inj h47
  simp only [List.drop_zero]
  have e1 : L.take b = L.take (b - 1) ++ [(47 : UInt8)] := by
    have := List.take_add_one (l := L) (i := b - 1)
    rw [show b - 1 + 1 = b by omega, List.getElem?_eq_getElem h1, h2] at this
    exact this
  show L.take (b - 1) ++ [(47 : UInt8)] ++ (L.take i).drop b = L.take i
  rw [← e1]
  have := List.take_append_drop b (L.take i)
  rwa [List.take_take, Nat.min_eq_left hbi] at this
theorem splW_join {s : ByteArray} : ∀ (f i b : Nat) (lg : Bool) (out ns : List ByteArray), f = s.size + 1 - i → 1 ≤ b → b ≤ i → i ≤ s.size → s[b - 1]? = some 47 → joinN out = s.extract 0 (b - 1) → splW s f i b lg out = (ns, 0) → joinN ns = s
  | 0, i, b, lg, out, ns, hf, hb, hbi, hi, h47, hj, h => by omega
  | f + 1, i, b, lg, out, ns, hf, hb, hbi, hi, h47, hj, h => by
    have hcl := close_seg hb hbi hi h47
    rw [splW] at h
    have hns : joinN (out ++ [s.extract b i]) = s.extract 0 i := by rw [joinN_snoc, hj, hcl]
    by_cases hlt : i < s.size
    · cases hc : s[i]? with
      | none => rw [getElem?_pos s i hlt] at hc; cases hc
      | some c =>
        rw [hc] at h
        simp only at h
        split at h
        · rename_i hc47
          subst hc47
          split at h
          · cases h
          · exact splW_join f (i + 1) (i + 1) _ _ ns (by omega) (by omega) (by omega) (by omega) hc hns h
        · split at h
          · exact splW_join f (i + 1) b lg out ns (by omega) hb (by omega) (by omega) h47 hj h
          · cases h
    · have hie : i = s.size := by omega
      have hc : s[i]? = none := by rw [getElem?_neg]; omega
      rw [hc] at h
      simp only at h
      split at h
      · cases h
      · have hf0 : f = 0 := by omega
        subst hf0
        rw [splW] at h
        split at h
        · simp at h
        · simp only [Prod.mk.injEq, and_true] at h
          rw [← h, hns, hie]
          apply bytes_ext
          rw [extract_list, List.drop_zero, List.take_of_length_le (by rw [size_list]; omega)]
theorem splitP_join {s : ByteArray} {ns : List ByteArray} (h : splitP s = (ns, 0)) : s = joinP ns := by
  unfold splitP at h
  split at h
  · simp at h
  · rename_i h60
    cases h0 : s[0]? with
    | none => rw [h0] at h; simp at h
    | some c =>
      rw [h0] at h
      simp only at h
      split at h
      · rename_i hc
        subst hc
        split at h
        · rename_i hr
          simp only [Prod.mk.injEq, and_true] at h
          rw [← h, hr]; rfl
        · rename_i hr
          have hpos : 0 < s.size := by
            by_cases hz : 0 < s.size
            · exact hz
            · rw [getElem?_neg s 0 hz] at h0; cases h0
          have hj := splW_join s.size 1 1 false [] ns (by omega) (by omega) (by omega) (by omega) h0 (by apply bytes_ext; rw [extract_list]; simp [joinN]) h
          unfold joinP
          rw [hj, if_neg]
          intro hz
          have : ns = [] := List.eq_nil_of_length_eq_zero hz
          rw [this] at hj
          have h1 : (joinN []).size = 0 := by simp [joinN]
          rw [hj] at h1
          omega
      · simp at h
theorem joinN_sum : ∀ (l : List ByteArray), (joinN l).size = (l.map fun x => x.size + 1).sum := by
  intro l
  have key : ∀ (l : List ByteArray) (s : ByteArray), (l.foldl (fun s n => (s ++ rootB) ++ n) s).size = s.size + (l.map fun x => x.size + 1).sum := by
    intro l
    induction l with
    | nil => intro s; simp
    | cons x l ih =>
      intro s
      rw [List.foldl_cons, ih, ByteArray.size_append, ByteArray.size_append, rootB_size, List.map_cons, List.sum_cons]; omega
  have := key l ByteArray.empty
  simpa [joinN] using this
theorem preP_take {a b : List ByteArray} (h : preP a b b.length = true) (hl : b.length ≤ a.length) : b = a.take b.length := by
  refine List.ext_getElem? fun j => ?_
  by_cases hj : j < b.length
  · have := List.all_eq_true.1 h j (List.mem_range.2 hj)
    rw [List.getElem?_take, if_pos hj]
    simpa using (of_decide_eq_true this).symm
  · rw [List.getElem?_eq_none (by omega), List.getElem?_take, if_neg hj]
theorem under_size {p f : ByteArray} (h : isUnder p f = true) : f.size ≤ p.size := by
  unfold isUnder at h
  simp only [Bool.and_eq_true, decide_eq_true_eq] at h
  obtain ⟨h1, h2, h3, h4⟩ := h
  have e1 : splitP p = ((splitP p).1, 0) := by rw [← h1]
  have e2 : splitP f = ((splitP f).1, 0) := by rw [← h2]
  have j1 := splitP_join e1
  have j2 := splitP_join e2
  have ht := preP_take h4 (Nat.le_of_lt h3)
  generalize (splitP p).1 = x at *
  generalize (splitP f).1 = y at *
  have s1 : p.size = (x.map fun x => x.size + 1).sum := by rw [j1]; unfold joinP; rw [if_neg (by omega), joinN_sum]
  have hx : (x.map fun x => x.size + 1).sum = ((x.take y.length).map fun x => x.size + 1).sum + ((x.drop y.length).map fun x => x.size + 1).sum := by
    conv => lhs; rw [← List.take_append_drop y.length x]
    rw [List.map_append, List.sum_append]
  rw [← ht] at hx
  have hd : 1 ≤ ((x.drop y.length).map fun x => x.size + 1).sum := by
    rw [List.drop_eq_getElem_cons h3, List.map_cons, List.sum_cons]; omega
  have s2 : f.size ≤ (y.map fun x => x.size + 1).sum + 1 := by
    rw [j2]
    unfold joinP
    split
    · rw [rootB_size]; omega
    · rw [joinN_sum]; omega
  omega
end Go.Proofs.Ytciieaidbiejmaa.DM
