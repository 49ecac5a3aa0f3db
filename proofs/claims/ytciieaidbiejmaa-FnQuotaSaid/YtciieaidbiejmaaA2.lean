/-
  What asks keep: counts of items and of pages, lengths of paths and of texts (plain lists).
-/
import Derived.Test.YtciieaidbiejmaaA1
namespace Go.Proofs.Ytciieaidbiejmaa.DM
set_option linter.unusedVariables false
set_option linter.unusedSimpArgs false
theorem pagesIn_cons (x : Item) (l : List Item) : pagesIn (x :: l) = pagesX x + pagesIn l := by simp [pagesIn]
theorem pagesIn_append (a b : List Item) : pagesIn (a ++ b) = pagesIn a + pagesIn b := by simp [pagesIn]
theorem pagesIn_set : ∀ (l : List Item) (k : Nat) (h : k < l.length) (y : Item), pagesIn (l.set k y) + pagesX l[k] = pagesIn l + pagesX y
  | x :: l, 0, h, y => by simp only [List.set_cons_zero, pagesIn_cons, List.getElem_cons_zero]; omega
  | x :: l, k + 1, h, y => by
    have := pagesIn_set l k (by simpa using h) y
    simp only [List.set_cons_succ, pagesIn_cons, List.getElem_cons_succ]; omega
theorem pagesIn_filter (p : Item → Bool) : ∀ l : List Item, pagesIn (l.filter p) ≤ pagesIn l
  | [] => Nat.le_refl _
  | x :: l => by
    have := pagesIn_filter p l
    rw [List.filter_cons]
    split <;> simp only [pagesIn_cons] <;> omega
theorem setT_some {l : List Item} {k : Nat} (h : k < l.length) (t : ByteArray) : setT l k t = l.set k ⟨l[k].Path, l[k].Dir, t⟩ := by
  unfold setT; rw [List.getElem?_eq_getElem h]
theorem setT_len (l : List Item) (k : Nat) (t : ByteArray) : (setT l k t).length = l.length := by
  unfold setT; split <;> simp
theorem putF_len (x : Item) : ∀ (b : Bool) (l : List Item), (putF x b l).length ≤ l.length + (if b then 0 else 1)
  | b, [] => by cases b <;> simp [putF]
  | b, c :: l => by
    have h := putF_len x (b || gtS c.Path x.Path) l
    unfold putF
    rw [List.length_append, List.length_append, List.length_cons]
    revert h
    generalize gtS c.Path x.Path = g
    intro h
    cases b <;> cases g <;> by_cases he : c.Path = x.Path <;> simp [he] at h ⊢ <;> omega
theorem putF_pages (x : Item) : ∀ (b : Bool) (l : List Item), pagesIn (putF x b l) ≤ pagesIn l + (if b then 0 else pagesX x)
  | b, [] => by cases b <;> simp [putF, pagesIn_cons, pagesIn]
  | b, c :: l => by
    have h := putF_pages x (b || gtS c.Path x.Path) l
    unfold putF
    rw [pagesIn_append, pagesIn_append, pagesIn_cons]
    have hn : pagesIn [] = 0 := rfl
    revert h
    generalize gtS c.Path x.Path = g
    intro h
    cases b <;> cases g <;> by_cases he : c.Path = x.Path <;> simp [he, pagesIn_cons, hn] at h ⊢ <;> omega
theorem putF_mem (x : Item) : ∀ (b : Bool) (l : List Item) (y : Item), y ∈ putF x b l → y = x ∨ y ∈ l
  | b, [], y, h => by cases b <;> simp [putF] at h; exact .inl h
  | b, c :: l, y, h => by
    unfold putF at h
    rcases List.mem_append.1 h with h | h
    · rcases List.mem_append.1 h with h | h
      · split at h
        · exact .inl (List.mem_singleton.1 h)
        · cases h
      · split at h
        · cases h
        · exact .inr (List.mem_singleton.1 h ▸ List.mem_cons_self)
    · rcases putF_mem x _ l y h with h | h
      · exact .inl h
      · exact .inr (List.mem_cons_of_mem _ h)
theorem insP_perm (x : Item) (out : List Item) : (insP x out).Perm (x :: out) := by
  unfold insP
  refine List.perm_middle.trans ?_
  rw [List.take_append_drop]
theorem movedI_perm (l : List Item) (fr to : ByteArray) : (movedI l fr to).Perm (l.map (mvI fr to)) := by
  have key : ∀ (l out : List Item), (l.foldl (fun out x => insP (mvI fr to x) out) out).Perm (out ++ l.map (mvI fr to)) := by
    intro l
    induction l with
    | nil => intro out; simp
    | cons x l ih =>
      intro out
      rw [List.foldl_cons, List.map_cons]
      refine (ih _).trans ?_
      refine ((insP_perm _ _).append_right _).trans ?_
      rw [List.cons_append]
      exact List.perm_middle.symm
  simpa [movedI] using key l []
theorem mvI_pages (fr to : ByteArray) (x : Item) : pagesX (mvI fr to x) = pagesX x := by
  unfold mvI
  split
  · rfl
  · split <;> rfl
theorem pagesIn_perm {a b : List Item} (h : a.Perm b) : pagesIn a = pagesIn b := (h.map _).sum_nat
theorem movedI_pages (l : List Item) (fr to : ByteArray) : pagesIn (movedI l fr to) = pagesIn l := by
  rw [pagesIn_perm (movedI_perm l fr to)]
  unfold pagesIn
  rw [List.map_map]
  congr 1
  exact List.map_congr_left fun x _ => mvI_pages fr to x
theorem movedI_len (l : List Item) (fr to : ByteArray) : (movedI l fr to).length = l.length := by
  rw [(movedI_perm l fr to).length_eq, List.length_map]
theorem fileM_items (g : Geo) (l : List Item) (k : Nat) (a : Ask) : (fileM g l k a).1 = l ∨ ∃ t, (fileM g l k a).1 = (textsM g l k t).1 ∧ (t = textWith (textAt l k) a.Off a.Text ∨ t = textCut (textAt l k) a.Len) := by
  unfold fileM
  split
  · split <;> exact .inl rfl
  · split
    · split
      · exact .inl rfl
      · split <;> exact .inr ⟨_, rfl, .inl rfl⟩
    · split
      · exact .inl rfl
      · exact .inr ⟨_, rfl, .inr rfl⟩
/-- What an ask makes of the items. -/
theorem askedM_items (g : Geo) (l : List Item) (a : Ask) : (askedM g l a).1 = l ∨ ((askedM g l a).1 = putF ⟨a.Path, a.Kind == 2, ByteArray.empty⟩ false l ∧ newCode g l a = 0) ∨ (∃ p, (askedM g l a).1 = dropI l p) ∨
    ((askedM g l a).1 = movedI l a.Path a.To ∧ (placeFor l a.To = 0 ∨ placeFor l a.To = 7)) ∨ ∃ k t, (askedM g l a).1 = (textsM g l k t).1 ∧ (t = textWith (textAt l k) a.Off a.Text ∨ t = textCut (textAt l k) a.Len) := by
  unfold askedM
  split
  · exact .inl rfl
  split
  · unfold newM
    split
    · exact .inl rfl
    · rename_i h; exact .inr (.inl ⟨rfl, by simpa using h⟩)
  split
  · exact .inl rfl
  unfold askDrop
  split
  · unfold unlinkM
    split
    · exact .inl rfl
    · exact .inr (.inr (.inl ⟨_, rfl⟩))
  split
  · unfold rmdirM
    split
    · exact .inl rfl
    · split
      · exact .inl rfl
      · split
        · exact .inl rfl
        · exact .inr (.inr (.inl ⟨_, rfl⟩))
  split
  · unfold renameM
    split
    · exact .inl rfl
    · split
      · exact .inl rfl
      · split
        · exact .inl rfl
        · rename_i h
          refine .inr (.inr (.inr (.inl ⟨rfl, ?_⟩)))
          by_cases h0 : placeFor l a.To = 0
          · exact .inl h0
          · by_cases h7 : placeFor l a.To = 7
            · exact .inr h7
            · exact absurd ⟨h0, .inl h7⟩ h
  unfold askFile
  split
  · split
    · exact .inl rfl
    · rcases fileM_items g l (itemIx l a.Path) a with h | ⟨t, h, ht⟩
      · exact .inl h
      · exact .inr (.inr (.inr (.inr ⟨_, t, h, ht⟩)))
  unfold askRest
  split
  · split <;> exact .inl rfl
  split
  · split <;> exact .inl rfl
  exact .inl rfl
/-- Counts within what a geometry has. -/
def Fits (g : Geo) (l : List Item) : Prop := (pagesIn l : Int) ≤ g.Quota ∧ (l.length : Int) + 1 ≤ g.Inodes
theorem Fits.asked {g : Geo} {l : List Item} (h : Fits g l) (a : Ask) : Fits g (askedM g l a).1 := by
  obtain ⟨h1, h2⟩ := h
  rcases askedM_items g l a with e | ⟨e, hc⟩ | ⟨p, e⟩ | ⟨e, -⟩ | ⟨k, t, e, -⟩
  · rw [e]; exact ⟨h1, h2⟩
  · rw [e]
    have p1 := putF_len ⟨a.Path, a.Kind == 2, ByteArray.empty⟩ false l
    have p2 := putF_pages ⟨a.Path, a.Kind == 2, ByteArray.empty⟩ false l
    have p3 : pagesX ⟨a.Path, a.Kind == 2, ByteArray.empty⟩ = 0 := by unfold pagesX pagesFor; split <;> simp
    rw [p3] at p2
    simp only [Bool.false_eq_true, if_false] at p1 p2
    refine ⟨by omega, ?_⟩
    unfold newCode at hc
    split at hc
    · omega
    · rename_i hn
      have : ¬ g.Inodes ≤ (l.length : Int) + 1 := fun hle => hn ⟨hc, hle⟩
      omega
  · rw [e]
    have p1 := pagesIn_filter (fun x => !onP p x) l
    have p2 := List.length_filter_le (fun x => !onP p x) l
    unfold dropI
    exact ⟨by omega, by omega⟩
  · rw [e]
    exact ⟨by rw [movedI_pages]; exact h1, by rw [movedI_len]; exact h2⟩
  · rw [e]
    unfold textsM
    split
    · exact ⟨h1, h2⟩
    · exact ⟨by simp only; omega, by simp only [setT_len]; exact h2⟩
/-- Lengths of paths and of texts. -/
def Short (B : Nat) (l : List Item) : Prop := ∀ x ∈ l, x.Path.size ≤ B ∧ x.Text.size ≤ 128
theorem splitP_size {s : ByteArray} (h : (splitP s).2 = 0) : s.size ≤ 60 := by
  unfold splitP at h
  split at h
  · simp at h
  · omega
theorem placeFor_size {l : List Item} {p : ByteArray} (h : placeFor l p = 0 ∨ placeFor l p = 7) : p.size ≤ 60 := by
  by_cases h0 : (splitP p).2 = 0
  · exact splitP_size h0
  · have hs : ∀ s : ByteArray, (splitP s).2 = 0 ∨ (splitP s).2 = 1 ∨ (splitP s).2 = 2 := by
      intro s
      have key : ∀ (f i b : Nat) (lg : Bool) (out : List ByteArray), (splW s f i b lg out).2 = 0 ∨ (splW s f i b lg out).2 = 1 ∨ (splW s f i b lg out).2 = 2 := by
        intro f
        induction f with
        | zero => intro i b lg out; unfold splW; split <;> simp
        | succ f ih =>
          intro i b lg out
          unfold splW
          split
          · split
            · split
              · simp
              · exact ih _ _ _ _
            · split
              · exact ih _ _ _ _
              · simp
          · split
            · simp
            · exact ih _ _ _ _
      unfold splitP
      split
      · simp
      · split
        · simp
        · split
          · split
            · simp
            · exact key _ _ _ _ _
          · simp
    have hp : placeFor l p = (splitP p).2 := by unfold placeFor; rw [if_pos h0]
    rw [hp] at h
    have := hs p
    omega
theorem textWith_size (old : ByteArray) (off : Int) (t : ByteArray) (h : old.size ≤ 128) : (textWith old off t).size ≤ 128 := by
  unfold textWith
  split
  · exact h
  split
  · exact h
  split
  · exact h
  split
  · exact h
  rename_i h0 h1 h2 h3
  have hp : (padT old off.toNat).size ≤ 128 := by
    unfold padT
    split
    · rw [ByteArray.size_append, zeros_size]; omega
    · exact h
  split
  · rw [ByteArray.size_append, ByteArray.size_extract]; omega
  · rw [ByteArray.size_append, ByteArray.size_append, ByteArray.size_extract, ByteArray.size_extract]; omega
theorem textCut_size (old : ByteArray) (n : Int) (h : old.size ≤ 128) : (textCut old n).size ≤ 128 := by
  unfold textCut
  split
  · exact h
  · rename_i hb
    have hb2 := inB_iff.1 (by simpa using hb : inB n 0 128 = true)
    split
    · rw [ByteArray.size_extract]; omega
    · rw [ByteArray.size_append, zeros_size]; omega
theorem textAt_size {B : Nat} {l : List Item} (h : Short B l) (k : Nat) : (textAt l k).size ≤ 128 := by
  unfold textAt
  split
  · rename_i x hx; exact (h x (List.mem_of_getElem? hx)).2
  · simp
theorem Short.asked {B : Nat} {g : Geo} {l : List Item} (h : Short B l) (a : Ask) : Short (B + 60) (askedM g l a).1 := by
  have hw : Short (B + 60) l := fun x hx => ⟨by have := (h x hx).1; omega, (h x hx).2⟩
  rcases askedM_items g l a with e | ⟨e, hc⟩ | ⟨p, e⟩ | ⟨e, hp⟩ | ⟨k, t, e, ht⟩
  · rw [e]; exact hw
  · rw [e]
    intro x hx
    rcases putF_mem _ _ _ _ hx with rfl | hx
    · have hpl : placeFor l a.Path = 0 := by
        unfold newCode at hc
        split at hc
        · simp at hc
        · exact hc
      have := placeFor_size (.inl hpl)
      exact ⟨by simp only; omega, by simp⟩
    · exact hw x hx
  · rw [e]
    intro x hx
    exact hw x (List.mem_filter.1 hx).1
  · rw [e]
    intro x hx
    have hx2 := (movedI_perm l a.Path a.To).mem_iff.1 hx
    obtain ⟨y, hy, rfl⟩ := List.mem_map.1 hx2
    have hs := placeFor_size hp
    have h2 := h y hy
    unfold mvI
    split
    · refine ⟨?_, h2.2⟩
      show (a.To ++ y.Path.extract a.Path.size y.Path.size).size ≤ _
      rw [ByteArray.size_append, ByteArray.size_extract]; omega
    · split
      · refine ⟨?_, h2.2⟩
        show (a.To ++ y.Path.extract a.Path.size y.Path.size).size ≤ _
        rw [ByteArray.size_append, ByteArray.size_extract]; omega
      · exact ⟨by omega, h2.2⟩
  · rw [e]
    unfold textsM
    split
    · exact hw
    · show Short (B + 60) (setT l k t)
      unfold setT
      split
      · rename_i x hx
        have hxm := List.mem_of_getElem? hx
        have hto := textAt_size h k
        intro y hy
        rcases List.mem_or_eq_of_mem_set hy with hy | rfl
        · exact hw y hy
        · refine ⟨(hw x hxm).1, ?_⟩
          rcases ht with rfl | rfl
          · exact textWith_size _ _ _ hto
          · exact textCut_size _ _ hto
      · exact hw
theorem asked_len (g : Geo) (l : List Item) (a : Ask) : (askedM g l a).1.length ≤ l.length + 1 := by
  rcases askedM_items g l a with e | ⟨e, hc⟩ | ⟨p, e⟩ | ⟨e, hp⟩ | ⟨k, t, e, ht⟩
  · rw [e]; omega
  · rw [e]; have := putF_len ⟨a.Path, a.Kind == 2, ByteArray.empty⟩ false l; simpa using this
  · rw [e]; have := List.length_filter_le (fun x => !onP p x) l; unfold dropI; omega
  · rw [e, movedI_len]; omega
  · rw [e]; unfold textsM; split
    · simp
    · simp [setT_len]
/-- The law of the quota. -/
theorem quota_law {g : Geo} {l : List Item} {a : Ask} (hf : Fits g l) (hq : 0 ≤ g.Quota) (hk : a.Kind = 7) (h0 : 0 ≤ itemAt l a.Path) (hd : ∀ x, l[itemIx l a.Path]? = some x → x.Dir = false) (hr : (askedM g l a).2.Code = 0 ∨ (askedM g l a).2.Code = 13) :
    ((askedM g l a).2.Code = 13) ↔ brought (g.Quota - pagesIn l) 0 g.Quota < (pagesFor (textWith (textAt l (itemIx l a.Path)) a.Off a.Text).size : Int) - pagesFor (textAt l (itemIx l a.Path)).size := by
  obtain ⟨h1, h2⟩ := hf
  have hix : itemIx l a.Path < l.length := by
    unfold itemAt at h0
    split at h0
    · assumption
    · omega
  have hdx := hd _ (List.getElem?_eq_getElem hix)
  have hbr : brought (g.Quota - pagesIn l) 0 g.Quota = g.Quota - pagesIn l := by unfold brought; rw [if_neg (by omega), if_neg (by omega), if_neg (by omega)]
  have hlu : lookUp l a.Path = 0 := by
    unfold lookUp
    split
    · rfl
    · simp [h0]
  have htx : textAt l (itemIx l a.Path) = l[itemIx l a.Path].Text := by unfold textAt; rw [List.getElem?_eq_getElem hix]
  rw [hbr]
  have e1 : askedM g l a = if askGood a = false then (l, failsR 16) else if isDirV l a.Path = true then (l, failsR 5) else fileM g l (itemIx l a.Path) a := by
    unfold askedM askDrop askFile
    simp [hk, hlu]
  rw [e1] at hr ⊢
  split at hr
  · simp [failsR] at hr
  rename_i hgood
  rw [if_neg hgood]
  split at hr
  · simp [failsR] at hr
  rename_i hdir
  rw [if_neg hdir]
  unfold fileM at hr ⊢
  simp only [hk, show ¬ (7 : Int) = 6 by omega, if_false, if_true] at hr ⊢
  split at hr
  · simp [failsR] at hr
  rename_i hrg
  rw [if_neg hrg]
  have hp := pagesIn_set l (itemIx l a.Path) hix ⟨l[itemIx l a.Path].Path, l[itemIx l a.Path].Dir, textWith (textAt l (itemIx l a.Path)) a.Off a.Text⟩
  have hpx : pagesX l[itemIx l a.Path] = pagesFor (textAt l (itemIx l a.Path)).size := by rw [htx]; unfold pagesX; rw [hdx]; simp
  have hpy : pagesX ⟨l[itemIx l a.Path].Path, l[itemIx l a.Path].Dir, textWith (textAt l (itemIx l a.Path)) a.Off a.Text⟩ = pagesFor (textWith (textAt l (itemIx l a.Path)) a.Off a.Text).size := by unfold pagesX; rw [hdx]; simp
  rw [hpx, hpy, ← setT_some hix] at hp
  unfold textsM
  by_cases hqq : g.Quota < (pagesIn (setT l (itemIx l a.Path) (textWith (textAt l (itemIx l a.Path)) a.Off a.Text)) : Int)
  · rw [if_pos hqq]
    simp only [failsR]
    simp
    omega
  · rw [if_neg hqq]
    simp
    omega
end Go.Proofs.Ytciieaidbiejmaa.DM
