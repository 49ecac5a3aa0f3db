/-
  Paths, views and asks: what the functions compute, in plain lists.
-/
import Derived.Test.YtciieaidbiejmaaLT1
namespace Go.Proofs.Ytciieaidbiejmaa.DM
set_option linter.unusedVariables false
set_option linter.unusedSimpArgs false
set_option maxRecDepth 4000
def zeros (n : Nat) : ByteArray := ⟨(List.replicate n (0 : UInt8)).toArray⟩
@[simp] theorem zeros_size (n : Nat) : (zeros n).size = n := by show (List.replicate n (0 : UInt8)).toArray.size = n; simp
abbrev rootB : ByteArray := ⟨#[47]⟩
def nameC (c : UInt8) : Bool := inB c.toNat 97 122 || inB c.toNat 48 57
/-- The walk of SplitPath. -/
def splW (s : ByteArray) : Nat → Nat → Nat → Bool → List ByteArray → List ByteArray × Int
  | 0, _, _, lg, out => if lg then ([], 2) else (out, 0)
  | f + 1, i, b, lg, out => match s[i]? with
    | some c => if c = 47 then (if b = i then ([], 1) else splW s f (i + 1) (i + 1) (lg || decide (7 < (i : Int) - b)) (out ++ [s.extract b i]))
      else if nameC c then splW s f (i + 1) b lg out else ([], 1)
    | none => if b = i then ([], 1) else splW s f (i + 1) (i + 1) (lg || decide (7 < (i : Int) - b)) (out ++ [s.extract b i])
def splitP (s : ByteArray) : List ByteArray × Int :=
  if 60 < s.size then ([], 1) else match s[0]? with
    | none => ([], 1)
    | some c => if c = 47 then (if s = rootB then ([], 0) else splW s s.size 1 1 false []) else ([], 1)
theorem splW_len (s : ByteArray) : ∀ (f i b : Nat) (lg : Bool) (out : List ByteArray), (splW s f i b lg out).1.length ≤ out.length + f
  | 0, i, b, lg, out => by unfold splW; split <;> simp
  | f + 1, i, b, lg, out => by
    have h1 := splW_len s f (i + 1) (i + 1) (lg || decide (7 < (i : Int) - b)) (out ++ [s.extract b i])
    have h2 := splW_len s f (i + 1) b lg out
    simp only [List.length_append, List.length_singleton] at h1
    unfold splW
    split
    · split
      · split
        · simp
        · omega
      · split
        · omega
        · simp
    · split
      · simp
      · omega
theorem splW_size (s : ByteArray) (B : Nat) (hB : s.size ≤ B) : ∀ (f i b : Nat) (lg : Bool) (out : List ByteArray), (∀ x ∈ out, x.size ≤ B) → ∀ x ∈ (splW s f i b lg out).1, x.size ≤ B
  | 0, i, b, lg, out, h, x, hx => by unfold splW at hx; split at hx <;> simp at hx; exact h x hx
  | f + 1, i, b, lg, out, h, x, hx => by
    have h1 : ∀ y ∈ out ++ [s.extract b i], y.size ≤ B := fun y hy => by
      rcases List.mem_append.1 hy with hy | hy
      · exact h y hy
      · rw [List.mem_singleton.1 hy, ByteArray.size_extract]; omega
    unfold splW at hx
    split at hx
    · split at hx
      · split at hx
        · simp at hx
        · exact splW_size s B hB f _ _ _ _ h1 x hx
      · split at hx
        · exact splW_size s B hB f _ _ _ _ h x hx
        · simp at hx
    · split at hx
      · simp at hx
      · exact splW_size s B hB f _ _ _ _ h1 x hx
theorem splitP_bd (s : ByteArray) : (splitP s).1.length ≤ 60 ∧ ∀ x ∈ (splitP s).1, x.size ≤ 60 := by
  unfold splitP
  split
  · simp
  · rename_i h60
    split
    · simp
    · split
      · split
        · simp
        · have h1 := splW_len s s.size 1 1 false []
          refine ⟨by simp at h1; omega, splW_size s 60 (by omega) _ _ _ _ _ (by simp)⟩
      · simp
def joinN (l : List ByteArray) : ByteArray := l.foldl (fun s n => (s ++ rootB) ++ n) ByteArray.empty
def joinP (l : List ByteArray) : ByteArray := if l.length = 0 then rootB else joinN l
theorem joinN_succ (l : List ByteArray) (i : Nat) (h : i < l.length) : joinN (l.take (i + 1)) = (joinN (l.take i) ++ rootB) ++ l[i] := by
  unfold joinN
  rw [List.take_add_one, List.getElem?_eq_getElem h, List.foldl_append]; rfl
theorem rootB_size : rootB.size = 1 := rfl
theorem joinN_size : ∀ (l : List ByteArray) (B : Nat), (∀ x ∈ l, x.size ≤ B) → (joinN l).size ≤ l.length * (B + 1) := by
  intro l B
  have key : ∀ (l : List ByteArray) (s : ByteArray), (∀ x ∈ l, x.size ≤ B) → (l.foldl (fun s n => (s ++ rootB) ++ n) s).size ≤ s.size + l.length * (B + 1) := by
    intro l
    induction l with
    | nil => intro s _; simp
    | cons x l ih =>
      intro s h
      have h1 := ih ((s ++ rootB) ++ x) fun y hy => h y (List.mem_cons_of_mem _ hy)
      have h2 := h x List.mem_cons_self
      have h3 : ((s ++ rootB) ++ x).size = s.size + 1 + x.size := by rw [ByteArray.size_append, ByteArray.size_append, rootB_size]
      rw [List.foldl_cons, List.length_cons, Nat.succ_mul]
      omega
  intro h
  have := key l ByteArray.empty h
  simpa [joinN] using this
theorem joinP_size (l : List ByteArray) (hl : l.length ≤ 60) (h : ∀ x ∈ l, x.size ≤ 60) : (joinP l).size ≤ 3660 := by
  have h1 := joinN_size l 60 h
  unfold joinP
  split
  · rw [rootB_size]; omega
  · have : l.length * 61 ≤ 60 * 61 := Nat.mul_le_mul_right _ hl
    omega
def parentOf (s : ByteArray) : ByteArray := if (splitP s).2 ≠ 0 ∨ (splitP s).1.length = 0 then ByteArray.empty else joinP ((splitP s).1.take ((splitP s).1.length - 1))
def lastOf (s : ByteArray) : ByteArray := if (splitP s).2 ≠ 0 ∨ (splitP s).1.length = 0 then ByteArray.empty else (splitP s).1.getD ((splitP s).1.length - 1) ByteArray.empty
theorem parentOf_size (s : ByteArray) : (parentOf s).size ≤ 3660 := by
  have h := splitP_bd s
  unfold parentOf
  split
  · simp
  · exact joinP_size _ (by rw [List.length_take]; omega) fun x hx => h.2 x (List.mem_of_mem_take hx)
theorem lastOf_size (s : ByteArray) : (lastOf s).size ≤ 60 := by
  have h := splitP_bd s
  unfold lastOf
  split
  · simp
  · rename_i hn
    have hl : (splitP s).1.length - 1 < (splitP s).1.length := by omega
    rw [List.getD_eq_getElem?_getD, List.getElem?_eq_getElem hl]
    exact h.2 _ (List.getElem_mem hl)
def preP (a b : List ByteArray) (i : Nat) : Bool := (List.range i).all fun j => decide (a[j]? = b[j]?)
theorem preP_succ (a b : List ByteArray) (i : Nat) : preP a b (i + 1) = (preP a b i && decide (a[i]? = b[i]?)) := by simp [preP, List.range_succ]
theorem preP_no {a b : List ByteArray} {i j : Nat} (h : decide (a[i]? = b[i]?) = false) (hi : i < j) : preP a b j = false := by
  unfold preP
  rw [List.all_eq_false]
  exact ⟨i, List.mem_range.2 hi, by simp [h]⟩
def isUnder (p f : ByteArray) : Bool := decide ((splitP p).2 = 0) && (decide ((splitP f).2 = 0) && (decide ((splitP f).1.length < (splitP p).1.length) && preP (splitP p).1 (splitP f).1 (splitP f).1.length))
/-- Views. -/
def onP (p : ByteArray) (x : Item) : Bool := decide (x.Path = p)
def itemIx (l : List Item) (p : ByteArray) : Nat := l.findIdx (onP p)
def itemAt (l : List Item) (p : ByteArray) : Int := if itemIx l p < l.length then (itemIx l p : Int) else -1
theorem itemAt_hit {l : List Item} {p : ByteArray} {i : Nat} (hi : i < l.length) (hn : ∀ j (hj : j < l.length), j < i → l[j].Path ≠ p) (h : l[i].Path = p) : itemAt l p = i := by
  have e : itemIx l p = i := by
    unfold itemIx
    rw [List.findIdx_eq hi]
    refine ⟨by simp [onP, h], fun j hj => ?_⟩
    have := hn j (by omega) hj
    simpa [onP] using this
  unfold itemAt
  rw [e, if_pos hi]
theorem itemAt_no {l : List Item} {p : ByteArray} (hn : ∀ j (hj : j < l.length), l[j].Path ≠ p) : itemAt l p = -1 := by
  unfold itemAt
  rw [if_neg]
  intro h
  have := List.findIdx_getElem (p := onP p) (xs := l) (w := h)
  have h2 : onP p l[itemIx l p] = true := this
  exact hn _ h (by simpa [onP] using h2)
theorem itemAt_cases (l : List Item) (p : ByteArray) : (itemAt l p = -1 ∧ ∀ x ∈ l, x.Path ≠ p) ∨ ∃ i : Nat, itemAt l p = (i : Int) ∧ ∃ h : i < l.length, l[i].Path = p ∧ itemIx l p = i := by
  by_cases h : itemIx l p < l.length
  · right
    refine ⟨itemIx l p, by unfold itemAt; rw [if_pos h], h, ?_, rfl⟩
    have := List.findIdx_getElem (p := onP p) (xs := l) (w := h)
    have h2 : onP p l[itemIx l p] = true := this
    simpa [onP] using h2
  · left
    refine ⟨by unfold itemAt; rw [if_neg h], fun x hx e => h ?_⟩
    unfold itemIx
    exact List.findIdx_lt_length_of_exists ⟨x, hx, by simp [onP, e]⟩
def isKid (f : ByteArray) (x : Item) : Bool := decide (parentOf x.Path = f) && !decide (f = ByteArray.empty)
def kidsOf (l : List Item) (f : ByteArray) : List ByteArray := (l.filter (isKid f)).map fun x => lastOf x.Path
theorem kidsOf_succ (l : List Item) (f : ByteArray) (i : Nat) (h : i < l.length) : kidsOf (l.take (i + 1)) f = if isKid f l[i] then kidsOf (l.take i) f ++ [lastOf l[i].Path] else kidsOf (l.take i) f := by
  unfold kidsOf
  rw [List.take_add_one, List.getElem?_eq_getElem h, List.filter_append, List.map_append]
  simp only [Option.toList_some]
  cases hk : isKid f l[i] <;> simp [List.filter_cons, hk]
theorem kidsOf_len (l : List Item) (f : ByteArray) : (kidsOf l f).length ≤ l.length := by
  unfold kidsOf; rw [List.length_map]; exact List.length_filter_le _ _
def pagesFor (n : Nat) : Nat := (n + 31) / 32
def pagesX (x : Item) : Nat := if x.Dir = true then 0 else pagesFor x.Text.size
def pagesIn (l : List Item) : Nat := (l.map pagesX).sum
theorem pagesIn_succ (l : List Item) (i : Nat) (h : i < l.length) : pagesIn (l.take (i + 1)) = pagesIn (l.take i) + pagesX l[i] := by
  unfold pagesIn
  rw [List.take_add_one, List.getElem?_eq_getElem h, List.map_append, List.sum_append]; simp
def isDirV (l : List Item) (p : ByteArray) : Bool := if p = rootB then true else match l[itemIx l p]? with | some x => x.Dir | none => false
/-- The walk of LookUp over the folders above. -/
def lookW (l : List Item) (ns : List ByteArray) : Nat → Nat → Int
  | 0, _ => 3
  | f + 1, i => if itemAt l (joinP (ns.take i)) < 0 then 3 else if isDirV l (joinP (ns.take i)) = false then 4 else lookW l ns f (i + 1)
def lookUp (l : List Item) (p : ByteArray) : Int := if p = rootB then 0 else if 0 ≤ itemAt l p then 0 else if (splitP p).2 ≠ 0 then (splitP p).2 else lookW l (splitP p).1 ((splitP p).1.length - 1) 1
def placeFor (l : List Item) (p : ByteArray) : Int :=
  if (splitP p).2 ≠ 0 then (splitP p).2 else if p = rootB then 6 else if lookUp l (parentOf p) ≠ 0 then lookUp l (parentOf p)
  else if isDirV l (parentOf p) = false then 4 else if 0 ≤ itemAt l p then 6 else if 6 ≤ (kidsOf l (parentOf p)).length then 7 else 0
def padT (old : ByteArray) (off : Nat) : ByteArray := if old.size < off then old ++ zeros (off - old.size) else old
def textWith (old : ByteArray) (off : Int) (t : ByteArray) : ByteArray :=
  if t = ByteArray.empty then old else if off < 0 then old else if 128 - (t.size : Int) < off then old else if 128 < old.size then old
  else if (padT old off.toNat).size < off.toNat + t.size then (padT old off.toNat).extract 0 off.toNat ++ t
  else ((padT old off.toNat).extract 0 off.toNat ++ t) ++ (padT old off.toNat).extract (off.toNat + t.size) (padT old off.toNat).size
def textCut (old : ByteArray) (n : Int) : ByteArray := if inB n 0 128 = false then old else if n ≤ old.size then old.extract 0 n.toNat else old ++ zeros (n.toNat - old.size)
def ltS (a b : ByteArray) : Bool := Op.bytesLess a.toList b.toList
def gtS (a b : ByteArray) : Bool := !(ltS a b || a.toList == b.toList)
def leS (a b : ByteArray) : Bool := ltS a b || a.toList == b.toList
/-- What is put in comes ahead of the first item with a greater path, in place of those with its path. -/
def putF (x : Item) : Bool → List Item → List Item
  | b, [] => if b then [] else [x]
  | b, c :: l => ((if !b && gtS c.Path x.Path then [x] else []) ++ (if c.Path = x.Path then [] else [c])) ++ putF x (b || gtS c.Path x.Path) l
def dropI (l : List Item) (p : ByteArray) : List Item := l.filter fun x => !onP p x
theorem dropI_succ (l : List Item) (p : ByteArray) (i : Nat) (h : i < l.length) : dropI (l.take (i + 1)) p = if l[i].Path = p then dropI (l.take i) p else dropI (l.take i) p ++ [l[i]] := by
  unfold dropI
  rw [List.take_add_one, List.getElem?_eq_getElem h, List.filter_append]
  simp only [Option.toList_some]
  by_cases hk : l[i].Path = p <;> simp [List.filter_cons, onP, hk]
def mvI (fr to : ByteArray) (x : Item) : Item := if x.Path = fr then ⟨to ++ x.Path.extract fr.size x.Path.size, x.Dir, x.Text⟩ else if isUnder x.Path fr = true then ⟨to ++ x.Path.extract fr.size x.Path.size, x.Dir, x.Text⟩ else x
def runN (p : ByteArray) (out : List Item) : Nat := (out.takeWhile fun y => leS y.Path p).length
def insP (x : Item) (out : List Item) : List Item := out.take (runN x.Path out) ++ x :: out.drop (runN x.Path out)
def movedI (l : List Item) (fr to : ByteArray) : List Item := l.foldl (fun out x => insP (mvI fr to x) out) []
theorem insP_len (x : Item) (out : List Item) : (insP x out).length = out.length + 1 := by
  have h : runN x.Path out ≤ out.length := by unfold runN; exact (List.takeWhile_sublist _).length_le
  unfold insP
  rw [List.length_append, List.length_cons, List.length_take, List.length_drop]; omega
theorem movedI_succ (l : List Item) (fr to : ByteArray) (i : Nat) (h : i < l.length) : movedI (l.take (i + 1)) fr to = insP (mvI fr to l[i]) (movedI (l.take i) fr to) := by
  unfold movedI
  rw [List.take_add_one, List.getElem?_eq_getElem h, List.foldl_append]; rfl
/-- Results. -/
def failsR (c : Int) : Result := ⟨c, ByteArray.empty, 0, false, []⟩
def setT (l : List Item) (k : Nat) (t : ByteArray) : List Item := match l[k]? with | some x => l.set k ⟨x.Path, x.Dir, t⟩ | none => l
def textsM (g : Geo) (l : List Item) (k : Nat) (t : ByteArray) : List Item × Int := if g.Quota < pagesIn (setT l k t) then (l, 13) else (setT l k t, 0)
def brought (n lo hi : Int) : Int := if hi < lo then lo else if n < lo then lo else if hi < n then hi else n
def textAt (l : List Item) (k : Nat) : ByteArray := match l[k]? with | some x => x.Text | none => ByteArray.empty
def readT (old : ByteArray) (off len : Int) : ByteArray := old.extract (brought off 0 old.size).toNat (if len < (old.size : Int) - brought off 0 old.size then brought off 0 old.size + len else (old.size : Int)).toNat
def fileM (g : Geo) (l : List Item) (k : Nat) (a : Ask) : List Item × Result :=
  if a.Kind = 6 then (if a.Off < 0 ∨ a.Len < 0 then (l, failsR 12) else (l, ⟨0, readT (textAt l k) a.Off a.Len, 0, false, []⟩))
  else if a.Kind = 7 then (if a.Off < 0 ∨ 128 - (a.Text.size : Int) < a.Off then (l, failsR 12)
    else if (textsM g l k (textWith (textAt l k) a.Off a.Text)).2 ≠ 0 then ((textsM g l k (textWith (textAt l k) a.Off a.Text)).1, failsR (textsM g l k (textWith (textAt l k) a.Off a.Text)).2)
    else ((textsM g l k (textWith (textAt l k) a.Off a.Text)).1, ⟨0, ByteArray.empty, a.Text.size, false, []⟩))
  else if inB a.Len 0 128 = false then (l, failsR 12) else ((textsM g l k (textCut (textAt l k) a.Len)).1, failsR (textsM g l k (textCut (textAt l k) a.Len)).2)
def renameM (l : List Item) (a : Ask) : List Item × Result :=
  if a.Path = rootB then (l, failsR 9) else if isUnder a.To a.Path = true then (l, failsR 11)
  else if placeFor l a.To ≠ 0 ∧ (placeFor l a.To ≠ 7 ∨ parentOf a.To ≠ parentOf a.Path) then (l, failsR (placeFor l a.To)) else (movedI l a.Path a.To, failsR 0)
def newCode (g : Geo) (l : List Item) (a : Ask) : Int := if placeFor l a.Path = 0 ∧ g.Inodes ≤ (l.length : Int) + 1 then 8 else placeFor l a.Path
def newM (g : Geo) (l : List Item) (a : Ask) : List Item × Result := if newCode g l a ≠ 0 then (l, failsR (newCode g l a)) else (putF ⟨a.Path, a.Kind == 2, ByteArray.empty⟩ false l, failsR 0)
def askGood (a : Ask) : Bool := inB a.Kind 1 11 && decide ((a.Text.size : Int) ≤ 200)
def askRest (g : Geo) (l : List Item) (a : Ask) : List Item × Result :=
  if a.Kind = 9 then (if isDirV l a.Path = true then (l, ⟨0, ByteArray.empty, 0, true, []⟩) else (l, ⟨0, ByteArray.empty, (textAt l (itemIx l a.Path)).size, false, []⟩))
  else if a.Kind = 10 then (if isDirV l a.Path = false then (l, failsR 4) else (l, ⟨0, ByteArray.empty, 0, false, kidsOf l a.Path⟩))
  else (l, failsR 0)
def askFile (g : Geo) (l : List Item) (a : Ask) : List Item × Result := if a.Kind = 6 ∨ a.Kind = 7 ∨ a.Kind = 8 then (if isDirV l a.Path = true then (l, failsR 5) else fileM g l (itemIx l a.Path) a) else askRest g l a
def unlinkM (l : List Item) (a : Ask) : List Item × Result := if isDirV l a.Path = true then (l, failsR 5) else (dropI l a.Path, failsR 0)
def rmdirM (l : List Item) (a : Ask) : List Item × Result := if a.Path = rootB then (l, failsR 9) else if isDirV l a.Path = false then (l, failsR 4) else if 0 < (kidsOf l a.Path).length then (l, failsR 10) else (dropI l a.Path, failsR 0)
def askDrop (g : Geo) (l : List Item) (a : Ask) : List Item × Result := if a.Kind = 3 then unlinkM l a else if a.Kind = 4 then rmdirM l a else if a.Kind = 5 then renameM l a else askFile g l a
def askedM (g : Geo) (l : List Item) (a : Ask) : List Item × Result := if askGood a = false then (l, failsR 16) else if a.Kind = 1 ∨ a.Kind = 2 then newM g l a else if lookUp l a.Path ≠ 0 then (l, failsR (lookUp l a.Path)) else askDrop g l a
end Go.Proofs.Ytciieaidbiejmaa.DM
