/-
  Places, states of pages, words: plain data.
-/
import Derived.Test.YtjjdjkkhhcbogaaFG1
namespace Go.Proofs.Ytjjdjkkhhcbogaa.DM
set_option linter.unusedVariables false
set_option linter.unusedSimpArgs false
theorem inB_iff {x a b : Int} : inB x a b = true ↔ a ≤ x ∧ x ≤ b := by simp [inB]
def geoOk (g : Geo) : Bool := inB g.Tenants 1 3 && (inB g.Pages 5 12 && (inB g.Inodes 2 6 && inB g.Quota 1 (g.Pages - 4)))
structure GeoIn (g : Geo) : Prop where
  t : 1 ≤ g.Tenants ∧ g.Tenants ≤ 3
  p : 5 ≤ g.Pages ∧ g.Pages ≤ 12
  i : 2 ≤ g.Inodes ∧ g.Inodes ≤ 6
  q : 1 ≤ g.Quota ∧ g.Quota ≤ g.Pages - 4
theorem geoIn {g : Geo} (h : geoOk g = true) : GeoIn g := by
  simp only [geoOk, Bool.and_eq_true, inB_iff] at h
  exact ⟨h.1, h.2.1, h.2.2.1, h.2.2.2⟩
def pw (g : Geo) : Int := 38 + 8 * g.Inodes + 4 * g.Pages
def tenOk (g : Geo) (t : Int) : Bool := geoOk g && inB t 0 (g.Tenants - 1)
theorem tenIn {g : Geo} {t : Int} (h : tenOk g t = true) : GeoIn g ∧ 0 ≤ t ∧ t ≤ g.Tenants - 1 := by
  simp only [tenOk, Bool.and_eq_true, inB_iff] at h
  exact ⟨geoIn h.1, h.2⟩
def placeIn (g : Geo) (t x : Int) : Int := if tenOk g t = true then t * pw g + x else -1
def pageAt (g : Geo) (t p : Int) : Int := if inB p 0 (g.Pages - 1) = true then placeIn g t (38 + 8 * g.Inodes + 4 * p) else -1
def inodeAt (g : Geo) (t i : Int) : Int := if inB i 0 (g.Inodes - 1) = true then placeIn g t (38 + 8 * i) else -1
/-- pages with a state, of the first n. -/
def pagesW (l : List Int) (s : Int) (n : Nat) : List Int := ((List.range n).filter fun i => match l[i]? with | some x => x == s | none => false).map fun (i : Nat) => (i : Int)
theorem pagesW_succ (l : List Int) (s : Int) (i : Nat) (h : i < l.length) : pagesW l s (i + 1) = pagesW l s i ++ (if l[i] = s then [(i : Int)] else []) := by
  simp only [pagesW, List.range_succ, List.filter_append, List.map_append]
  congr 1
  by_cases hb : l[i] = s <;> simp [h, hb]
theorem pagesW_len (l : List Int) (s : Int) (n : Nat) : (pagesW l s n).length ≤ n := by
  have := List.length_filter_le (fun i => match l[i]? with | some x => x == s | none => false) (List.range n)
  simpa [pagesW] using this
theorem pagesW_in (l : List Int) (s : Int) (n : Nat) : ∀ x ∈ pagesW l s n, 0 ≤ x ∧ x < n := fun x hx => by
  simp only [pagesW, List.mem_map, List.mem_filter, List.mem_range] at hx
  obtain ⟨i, ⟨h, -⟩, rfl⟩ := hx
  omega
abbrev pagesWith (l : List Int) (s : Int) : List Int := pagesW l s l.length
def stAll (l : List Int) : Bool := l.all fun x => inB x 0 2
def stOk (l : List Int) (n : Int) : Bool := stAll l && (decide ((l.length : Int) = n) && inB n 1 12)
def withSt (o : List Int) (s : Int) : List Int → List Int
  | [] => o
  | p :: ps => withSt (if inB p 0 ((o.length : Int) - 1) = true then o.set p.toNat s else o) s ps
theorem withSt_len (s : Int) : ∀ (ps o : List Int), (withSt o s ps).length = o.length
  | [], o => rfl
  | p :: ps, o => by
    rw [withSt, withSt_len s ps]
    split <;> simp
theorem withSt_snoc (s : Int) : ∀ (ps o : List Int) (p : Int), withSt o s (ps ++ [p]) = if inB p 0 (((withSt o s ps).length : Int) - 1) = true then (withSt o s ps).set p.toNat s else withSt o s ps
  | [], o, p => rfl
  | q :: ps, o, p => by rw [List.cons_append, withSt, withSt_snoc s ps]; rfl
theorem withSt_all (s : Int) (hs : inB s 0 2 = true) : ∀ (ps o : List Int), stAll o = true → stAll (withSt o s ps) = true
  | [], o, h => h
  | p :: ps, o, h => by
    rw [withSt]
    refine withSt_all s hs ps _ ?_
    split
    · simp only [stAll, List.all_eq_true] at h ⊢
      intro x hx
      rcases List.mem_or_eq_of_mem_set hx with hx | rfl
      · exact h x hx
      · exact hs
    · exact h
/-- zero bytes, text made longer by zero bytes. -/
def zeros (n : Nat) : ByteArray := ⟨(List.replicate n (0 : UInt8)).toArray⟩
@[simp] theorem zeros_size (n : Nat) : (zeros n).size = n := by show (List.replicate n (0 : UInt8)).toArray.size = n; simp
def padB (b : ByteArray) (n : Nat) : ByteArray := b ++ zeros (n - b.size)
@[simp] theorem padB_size (b : ByteArray) (n : Nat) : (padB b n).size = max b.size n := by rw [padB, ByteArray.size_append, zeros_size]; omega
def wordsN (b : ByteArray) (n : Nat) : List ByteArray := (List.range n).map fun k => padB (b.extract (8 * k) (min (8 * k + 8) b.size)) 8
theorem wordsN_succ (b : ByteArray) (n : Nat) : wordsN b (n + 1) = wordsN b n ++ [padB (b.extract (8 * n) (min (8 * n + 8) b.size)) 8] := by simp [wordsN, List.range_succ]
@[simp] theorem wordsN_len (b : ByteArray) (n : Nat) : (wordsN b n).length = n := by simp [wordsN]
abbrev wordsB (b : ByteArray) : List ByteArray := wordsN b ((b.size + 7) / 8)
theorem bytes_ext {a b : ByteArray} (h : a.data.toList = b.data.toList) : a = b := ByteArray.ext (Array.ext' h)
theorem extract_list (a : ByteArray) (i j : Nat) : (a.extract i j).data.toList = (a.data.toList.take j).drop i := by
  rw [ByteArray.data_extract]
  simp [List.drop_take]
theorem padB_8 {b : ByteArray} (h : b.size = 8) : padB b 8 = b := by
  apply bytes_ext
  simp [padB, h, zeros]
theorem wordsB_16 {b : ByteArray} (h : b.size = 16) : wordsB b = [b.extract 0 8, b.extract 8 16] := by
  have e : (b.size + 7) / 8 = 2 := by rw [h]
  simp only [wordsB, wordsN, e, List.range, List.range.loop, List.map_cons, List.map_nil, h]
  rw [padB_8 (by rw [ByteArray.size_extract]; omega), padB_8 (by rw [ByteArray.size_extract]; omega)]
  rfl
def u8 (n : Int) : UInt8 := UInt8.ofNat n.toNat
theorem u8_nat {n : Int} (h0 : 0 ≤ n) (h1 : n ≤ 255) : ((u8 n).toNat : Int) = n := by
  unfold u8; simp; omega
def stL (l : List Int) (i : Nat) : List UInt8 := (l.take i).map u8
theorem stL_succ (l : List Int) (i : Nat) (h : i < l.length) : stL l (i + 1) = stL l i ++ [u8 l[i]] := by
  unfold stL; rw [take_succ' l i h, List.map_append]; rfl
@[simp] theorem stL_len (l : List Int) (i : Nat) : (stL l i).length = min i l.length := by simp [stL]
@[simp] theorem stL_take (l : List Int) (i : Nat) : (stL l i).take i = stL l i := List.take_of_length_le (by simp; omega)
def stFill (l : List Int) (i : Nat) : List UInt8 := stL l i ++ List.replicate (16 - i) 0
theorem stFill_len (l : List Int) (i : Nat) (h : i ≤ l.length) (h1 : i ≤ 16) : (stFill l i).length = 16 := by simp [stFill]; omega
theorem stFill_set (l : List Int) (i : Nat) (h : i < l.length) (h1 : i < 16) : (stFill l i).set i (u8 l[i]) = stFill l (i + 1) := by
  unfold stFill
  rw [stL_succ l i h, List.set_append_right _ _ (by simp; omega)]
  have e : i - (stL l i).length = 0 := by simp; omega
  rw [e, show 16 - i = (16 - (i + 1)) + 1 by omega, List.replicate_succ]
  simp
def stB (l : List Int) : ByteArray := ⟨(l.map u8).toArray⟩
@[simp] theorem stB_size (l : List Int) : (stB l).size = l.length := by show (l.map _).toArray.size = _; simp
def stWords (l : List Int) : List ByteArray := if stOk l l.length = true then [(padB (stB l) 16).extract 0 8, (padB (stB l) 16).extract 8 16] else []
theorem stWords_fill {l : List Int} (h : stOk l l.length = true) : stWords l = [⟨((stFill l l.length).take 8).toArray⟩, ⟨((stFill l l.length).drop 8).toArray⟩] := by
  have hl : l.length ≤ 12 := by simp only [stOk, Bool.and_eq_true, inB_iff] at h; omega
  have hf : (padB (stB l) 16).data.toList = stFill l l.length := by
    rw [padB, stB_size]
    simp [stB, zeros, stFill, stL]
  simp only [stWords, h, if_true, List.cons.injEq, and_true]
  have h16 := stFill_len l l.length (Nat.le_refl _) (by omega)
  constructor
  · apply bytes_ext
    rw [extract_list, hf]; simp
  · apply bytes_ext
    rw [extract_list, hf, List.take_of_length_le (by omega)]
theorem stWords_words {l : List Int} (h : stOk l l.length = true) : wordsB (padB (stB l) 16) = stWords l := by
  have hl : l.length ≤ 12 := by simp only [stOk, Bool.and_eq_true, inB_iff] at h; omega
  rw [wordsB_16 (by simp; omega)]
  simp [stWords, h]
/-- words written one behind the other. -/
def writesFrom (at_ : Int) (ws : List ByteArray) (n : Nat) : List Write := (List.range n).map fun (k : Nat) => ⟨at_ + (k : Int), match ws[k]? with | some w => w | none => ByteArray.empty⟩
theorem writesFrom_succ (at_ : Int) (ws : List ByteArray) (i : Nat) (h : i < ws.length) : writesFrom at_ ws (i + 1) = writesFrom at_ ws i ++ [⟨at_ + i, ws[i]⟩] := by
  simp [writesFrom, List.range_succ, h]
@[simp] theorem writesFrom_len (at_ : Int) (ws : List ByteArray) (n : Nat) : (writesFrom at_ ws n).length = n := by simp [writesFrom]
abbrev writesOf (at_ : Int) (ws : List ByteArray) : List Write := writesFrom at_ ws ws.length
def zero4 : List ByteArray := wordsB (zeros 32)
theorem zero4_len : zero4.length = 4 := by simp [zero4]
def zeroPages (g : Geo) (t : Int) : List Int → List Write
  | [] => []
  | p :: ps => writesOf (pageAt g t p) zero4 ++ zeroPages g t ps
theorem zeroPages_snoc (g : Geo) (t : Int) : ∀ (ps : List Int) (p : Int), zeroPages g t (ps ++ [p]) = zeroPages g t ps ++ writesOf (pageAt g t p) zero4
  | [], p => by simp [zeroPages]
  | q :: ps, p => by simp [zeroPages, zeroPages_snoc g t ps p]
def scrub (g : Geo) (t : Int) (st : List Int) : List Step :=
  if (pagesWith st 1).length = 0 then [] else if tenOk g t = true then (if stOk st g.Pages = true then durable (zeroPages g t (pagesWith st 1)) ++ durable (writesOf (placeIn g t 36) (stWords (withSt st 0 (pagesWith st 1)))) else []) else []
end Go.Proofs.Ytjjdjkkhhcbogaa.DM
