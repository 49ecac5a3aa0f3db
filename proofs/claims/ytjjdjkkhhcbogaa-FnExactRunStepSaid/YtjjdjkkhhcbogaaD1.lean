/-
  DM 1. A machine of values alone: trees in place of memory. What a Go function computes is told over trees; that the model's machine does the same is proved once (DM 2 to 6).
  No toy and no law of the program stands here. Own work of this claim's session.
-/
import Derived.Calls
import Derived.Orders
import Derived.WalkKit
namespace Go.Proofs.Ytjjdjkkhhcbogaa.DM
set_option linter.unusedVariables false

/-- A value of one cell that holds no address. -/
def plain : Value → Bool
  | .bool _ | .int _ _ | .string _ | .nilFunc | .pointer none => true
  | _ => false
/-- Data that is only read. -/
inductive RT where
  | sc (v : Value)
  | sl (n : Nat) (cs : List RT)
  | fn (f : Nat) (caps : List RT)
  deriving Inhabited
/-- Data of the call's own; 'α' tells where a row of cells lies, 'β' a value as it stands in memory. -/
inductive T (α β : Type) where
  | sc (v : Value)
  | ro (u : β) (r : RT)
  | ow (a : α) (sz n : Nat) (cs : List (T α β))
  | hold (cs : List (T α β))
  | gone (u : β)
/-- Where a row lies: block, first cell, room in elements; or nowhere (an empty slice without room). -/
inductive AD where
  | blk (b o c : Nat)
  | emp (a : Option Addr)
abbrev A := T AD Value
abbrev D := T Unit Unit
namespace T
variable {α β γ δ : Type}
instance : Inhabited (T α β) := ⟨.hold []⟩
mutual
def map (f : α → γ) (g : β → δ) : T α β → T γ δ
  | .sc v => .sc v
  | .ro u r => .ro (g u) r
  | .ow a sz n cs => .ow (f a) sz n (mapL f g cs)
  | .hold cs => .hold (mapL f g cs)
  | .gone u => .gone (g u)
def mapL (f : α → γ) (g : β → δ) : List (T α β) → List (T γ δ)
  | [] => []
  | c :: r => map f g c :: mapL f g r
end
theorem mapL_eq (f : α → γ) (g : β → δ) : ∀ l : List (T α β), mapL f g l = l.map (map f g)
  | [] => rfl
  | c :: r => by rw [mapL, mapL_eq f g r, List.map_cons]
/-- The cells of a row. -/
def cells : T α β → List (T α β)
  | .ow _ _ _ cs => cs
  | .hold cs => cs
  | _ => []
def withCells : T α β → List (T α β) → T α β
  | .ow a sz n _, cs => .ow a sz n cs
  | .hold _, cs => .hold cs
  | t, _ => t
def isHold : T α β → Bool
  | .hold _ => true
  | _ => false
def get : T α β → List Nat → Option (T α β)
  | t, [] => some t
  | t, i :: p => match t.cells[i]? with
    | some c => get c p
    | none => none
def put : T α β → List Nat → T α β → T α β
  | _, [], x => x
  | t, i :: p, x => match t.cells[i]? with
    | some c => t.withCells (t.cells.set i (put c p x))
    | none => t
theorem map_cells (f : α → γ) (g : β → δ) (t : T α β) : (t.map f g).cells = t.cells.map (map f g) := by
  cases t <;> simp [map, cells, mapL_eq]
theorem map_withCells (f : α → γ) (g : β → δ) (t : T α β) (cs : List (T α β)) : (t.withCells cs).map f g = (t.map f g).withCells (cs.map (map f g)) := by
  cases t <;> simp [map, withCells, mapL_eq]
theorem get_map (f : α → γ) (g : β → δ) : ∀ (p : List Nat) (t : T α β), (t.map f g).get p = (t.get p).map (map f g)
  | [], t => by simp [get]
  | i :: p, t => by
    simp only [get, map_cells, List.getElem?_map]
    cases t.cells[i]? with
    | none => rfl
    | some c => exact get_map f g p c
theorem put_map (f : α → γ) (g : β → δ) : ∀ (p : List Nat) (t x : T α β), (t.put p x).map f g = (t.map f g).put p (x.map f g)
  | [], t, x => by simp [put]
  | i :: p, t, x => by
    simp only [put, map_cells, List.getElem?_map]
    cases h : t.cells[i]? with
    | none => rfl
    | some c =>
      show (t.withCells _).map f g = _
      rw [map_withCells, List.map_set, put_map f g p c x]
      rfl
theorem withCells_cells (t : T α β) (cs : List (T α β)) (h : t.cells ≠ []) : (t.withCells cs).cells = cs := by
  cases t <;> simp_all [cells, withCells]
end T
/-- An address tree with its addresses struck. -/
def er (t : A) : D := t.map (fun _ => ()) (fun _ => ())
/-- The value that stands in memory for a tree. -/
def T.val : A → Value
  | .sc v => v
  | .ro u _ => u
  | .ow (.blk b o c) _ n _ => .slice (some ⟨b, o, none⟩) n c
  | .ow (.emp a) _ _ _ => .slice a 0 0
  | .hold _ => .tuple #[]
  | .gone u => u
mutual
/-- The blocks that a tree owns. -/
def T.blocks : A → List Nat
  | .ow (.blk b _ _) _ _ cs => b :: T.blocksL cs
  | .ow (.emp _) _ _ cs => T.blocksL cs
  | .hold cs => T.blocksL cs
  | _ => []
def T.blocksL : List A → List Nat
  | [] => []
  | c :: r => T.blocks c ++ T.blocksL r
end
theorem T.blocksL_eq : ∀ l : List A, T.blocksL l = l.flatMap T.blocks
  | [] => rfl
  | c :: r => by rw [T.blocksL, T.blocksL_eq r, List.flatMap_cons]
/-- The block of the row itself. -/
def T.own : A → List Nat
  | .ow (.blk b _ _) _ _ _ => [b]
  | _ => []
theorem T.blocks_eq (t : A) : t.blocks = t.own ++ t.cells.flatMap T.blocks := by
  cases t with
  | ow a sz n cs => cases a <;> simp [T.blocks, T.own, T.cells, T.blocksL_eq]
  | hold cs => simp [T.blocks, T.own, T.cells, T.blocksL_eq]
  | _ => simp [T.blocks, T.own, T.cells]

/-- What stays as it was: the blocks that data which is only read may lie in; all blocks that are kept; cells that are kept in blocks that are not; values told beforehand. -/
structure Fr where
  ro : Nat → Prop
  kp : Nat → Prop
  fx : Nat → Nat → Prop
  gv : Nat → Value
/-- What a cell value reads as, in the blocks of S0 as they stood in w0. -/
inductive RoC (S0 : Fr) (w0 : World) : Value → RT → Prop
  | sc (v : Value) : plain v = true → RoC S0 w0 v (.sc v)
  | sl (a : Addr) (n c : Nat) (cs : List RT) (vs : List Value) : a.spot = none → S0.ro a.block → n ≤ c → vs.length = cs.length →
      (∀ (i : Nat) (v : Value), vs[i]? = some v → w0.cell? ⟨a.block, a.off + i, none⟩ = some v) →
      (∀ (i : Nat) (v : Value) (r : RT), vs[i]? = some v → cs[i]? = some r → RoC S0 w0 v r) → RoC S0 w0 (.slice (some a) n c) (.sl n cs)
  | em (a : Option Addr) (c : Nat) : RoC S0 w0 (.slice a 0 c) (.sl 0 [])
  | fn (f : Nat) (ps : List Addr) (caps : List RT) : ps.length = caps.length →
      (∀ (i : Nat) (a : Addr) (r : RT), ps[i]? = some a → caps[i]? = some r → RoC S0 w0 (.slice (some a) 1 1) r) → RoC S0 w0 (.func (.func f) #[] (ps.map fun a => Value.pointer (some a)).toArray) (.fn f caps)

/-- How far a row's block is known not to be fixed: a row of one cell a piece may be a string's bytes, whose end is told so. -/
def fzTo (sz n : Nat) : Nat := if sz = 1 then n else n + 1
theorem le_fzTo (sz n : Nat) : n ≤ fzTo sz n := by unfold fzTo; split <;> omega
theorem fzTo_congr {a b n : Nat} (h : a = 1 ↔ b = 1) : fzTo a n = fzTo b n := by
  unfold fzTo
  by_cases ha : a = 1
  · rw [if_pos ha, if_pos (h.1 ha)]
  · rw [if_neg ha, if_neg fun hb => ha (h.2 hb)]
theorem lt_fzTo {sz n i : Nat} (h : i < n) : i < fzTo sz n := Nat.lt_of_lt_of_le h (le_fzTo sz n)
/-- A tree stands in memory as it tells. -/
inductive Ok (S0 : Fr) (w0 w : World) : A → Prop
  | sc (v : Value) : plain v = true → Ok S0 w0 w (.sc v)
  | ro (u : Value) (r : RT) : RoC S0 w0 u r → Ok S0 w0 w (.ro u r)
  | ow (b o c sz n : Nat) (cs : List A) (cur : Array Value) (ty : TypeId) (fz : Nat × Nat) : w.heap[b]? = some (.cells cur ty fz) → (∀ i, i < fzTo sz cur.size → ¬ (fz.1 ≤ i ∧ i < fz.2)) →
      o + c * sz ≤ cur.size ∧ 0 < sz ∧ (∀ j, j < c * sz → ¬ S0.fx b (o + j)) → n ≤ c → c ≤ maxLen → cs.length = n * sz → (∀ (i : Nat) (x : A), cs[i]? = some x → cur[o + i]? = some x.val) → (∀ x ∈ cs, Ok S0 w0 w x) → (∀ x ∈ cs, x.isHold = false) →
      Ok S0 w0 w (.ow (.blk b o c) sz n cs)
  | em (a : Option Addr) (sz : Nat) : Ok S0 w0 w (.ow (.emp a) sz 0 [])
  | hold (cs : List A) : (∀ x ∈ cs, Ok S0 w0 w x) → (∀ x ∈ cs, x.isHold = false) → Ok S0 w0 w (.hold cs)
  | gone (u : Value) : u.oneCell' = true → Ok S0 w0 w (.gone u)
section
variable {S0 : Fr} {w0 w w' : World}
theorem Ok.cell {t x : A} (h : Ok S0 w0 w t) (hx : x ∈ t.cells) : Ok S0 w0 w x := by
  cases h with
  | ow b o c sz n cs cur ty fz _ _ _ _ _ _ _ h1 _ => exact h1 x hx
  | hold cs h1 _ => exact h1 x hx
  | _ => simp [T.cells] at hx
theorem Ok.notHold {t x : A} (h : Ok S0 w0 w t) (hx : x ∈ t.cells) : x.isHold = false := by
  cases h with
  | ow b o c sz n cs cur ty fz _ _ _ _ _ _ _ _ h1 => exact h1 x hx
  | hold cs _ h1 => exact h1 x hx
  | _ => simp [T.cells] at hx
theorem Ok.get {p : List Nat} : ∀ {t x : A}, Ok S0 w0 w t → t.get p = some x → Ok S0 w0 w x := by
  induction p with
  | nil => intro t x h hx; simp [T.get] at hx; exact hx ▸ h
  | cons i p ih =>
    intro t x h hx
    simp only [T.get] at hx
    cases hc : t.cells[i]? with
    | none => rw [hc] at hx; cases hx
    | some c => rw [hc] at hx; exact ih (h.cell (List.mem_of_getElem? hc)) hx
/-- A tree is kept where its blocks are. -/
theorem Ok.frame {t : A} (h : Ok S0 w0 w t) : (∀ b ∈ t.blocks, w'.heap[b]? = w.heap[b]?) → Ok S0 w0 w' t := by
  induction h with
  | sc v hv => intro _; exact .sc v hv
  | ro u r hr => intro _; exact .ro u r hr
  | ow b o c sz n cs cur ty fz h1 h2 h3 h4 h5 h6 h7 h8 h9 ih =>
    intro hf
    refine .ow b o c sz n cs cur ty fz (by rw [hf b (by simp [T.blocks])]; exact h1) h2 h3 h4 h5 h6 h7 (fun x hx => ih x hx fun b' hb' => hf b' ?_) h9
    rw [T.blocks_eq]
    exact List.mem_append_right _ (List.mem_flatMap.2 ⟨x, hx, hb'⟩)
  | em a sz => intro _; exact .em a sz
  | hold cs h1 h2 ih =>
    intro hf
    refine .hold cs (fun x hx => ih x hx fun b' hb' => hf b' ?_) h2
    rw [T.blocks_eq]
    exact List.mem_append_right _ (List.mem_flatMap.2 ⟨x, hx, hb'⟩)
  | gone u hu => intro _; exact .gone u hu
theorem RoC.one {v : Value} {r : RT} (h : RoC S0 w0 v r) : v.oneCell' = true := by
  cases h with
  | sc v hv => cases v <;> simp_all [plain, Value.oneCell']
  | _ => rfl
theorem Ok.one {t : A} (h : Ok S0 w0 w t) (hh : t.isHold = false) : t.val.oneCell' = true := by
  cases h with
  | sc v hv => exact (RoC.sc (S0 := S0) (w0 := w0) v hv).one
  | ro u r hr => exact hr.one
  | hold cs _ _ => simp [T.isHold] at hh
  | gone u hu => exact hu
  | _ => rfl
theorem get_mem_blocks {p : List Nat} : ∀ {t x : A}, t.get p = some x → ∀ b ∈ x.blocks, b ∈ t.blocks := by
  induction p with
  | nil => intro t x hx b hb; simp [T.get] at hx; exact hx ▸ hb
  | cons i p ih =>
    intro t x hx b hb
    simp only [T.get] at hx
    cases hc : t.cells[i]? with
    | none => rw [hc] at hx; cases hx
    | some c =>
      rw [hc] at hx
      rw [T.blocks_eq]
      exact List.mem_append_right _ (List.mem_flatMap.2 ⟨c, List.mem_of_getElem? hc, ih hx b hb⟩)
theorem get_own_mem {p : List Nat} {t x : A} (h : t.get p = some x) {b : Nat} (hb : b ∈ x.own) : b ∈ t.blocks :=
  get_mem_blocks h b (by rw [T.blocks_eq]; exact List.mem_append_left _ hb)
theorem nodup_flat {l : List A} (h : (l.flatMap T.blocks).Nodup) : ∀ {i j : Nat} {x y : A}, l[i]? = some x → l[j]? = some y → i ≠ j → ∀ b ∈ x.blocks, b ∉ y.blocks := by
  induction l with
  | nil => intro i j x y hx; simp at hx
  | cons a l ih =>
    intro i j x y hx hy hij b hb hb'
    rw [List.flatMap_cons, List.nodup_append] at h
    cases i with
    | zero =>
      cases j with
      | zero => exact hij rfl
      | succ j =>
        simp at hx hy
        subst hx
        exact h.2.2 b hb b (List.mem_flatMap.2 ⟨y, List.mem_of_getElem? hy, hb'⟩) rfl
    | succ i =>
      cases j with
      | zero =>
        simp at hx hy
        subst hy
        exact h.2.2 b hb' b (List.mem_flatMap.2 ⟨x, List.mem_of_getElem? hx, hb⟩) rfl
      | succ j => exact ih h.2.1 (by simpa using hx) (by simpa using hy) (by omega) b hb hb'
theorem nodup_cell {l : List A} (h : (l.flatMap T.blocks).Nodup) : ∀ {x : A}, x ∈ l → x.blocks.Nodup := by
  induction l with
  | nil => intro x hx; cases hx
  | cons a l ih =>
    intro x hx
    rw [List.flatMap_cons, List.nodup_append] at h
    rcases List.mem_cons.1 hx with rfl | hx
    · exact h.1
    · exact ih h.2.1 hx
theorem nodup_cells {t : A} (h : t.blocks.Nodup) : (t.cells.flatMap T.blocks).Nodup := by
  rw [T.blocks_eq, List.nodup_append] at h
  exact h.2.1
theorem nodup_get {p : List Nat} : ∀ {t x : A}, t.blocks.Nodup → t.get p = some x → x.blocks.Nodup := by
  induction p with
  | nil => intro t x h hx; simp [T.get] at hx; exact hx ▸ h
  | cons i p ih =>
    intro t x h hx
    simp only [T.get] at hx
    cases hc : t.cells[i]? with
    | none => rw [hc] at hx; cases hx
    | some c => rw [hc] at hx; exact ih (nodup_cell (nodup_cells h) (List.mem_of_getElem? hc)) hx
theorem set_ok {l : List A} {i : Nat} {c y : A} (hc : l[i]? = some c) : ∀ x, x ∈ l.set i y → x = y ∨ ∃ j, j ≠ i ∧ l[j]? = some x := by
  intro x hx
  obtain ⟨j, hj, hxj⟩ := List.getElem_of_mem hx
  rw [List.length_set] at hj
  by_cases hij : j = i
  · subst hij; rw [List.getElem_set_self] at hxj; exact .inl hxj.symm
  · rw [List.getElem_set_ne (by omega)] at hxj; exact .inr ⟨j, hij, by rw [List.getElem?_eq_getElem hj, hxj]⟩
/-- A part of a tree is laid anew: what else the tree holds stands as it stood where its blocks are kept. -/
theorem Ok.put {p : List Nat} : ∀ {t x y : A}, Ok S0 w0 w t → t.blocks.Nodup → t.get p = some x → Ok S0 w0 w' y → y.val = x.val → (y.isHold = x.isHold) →
    (∀ b ∈ t.blocks, b ∉ x.blocks → w'.heap[b]? = w.heap[b]?) → Ok S0 w0 w' (t.put p y) := by
  induction p with
  | nil => intro t x y _ _ _ hy _ _ _; simpa [T.put] using hy
  | cons i p ih =>
    intro t x y h hn hx hy hv hk hf
    simp only [T.get] at hx
    cases hc : t.cells[i]? with
    | none => rw [hc] at hx; cases hx
    | some c =>
      rw [hc] at hx
      have hcm := List.mem_of_getElem? hc
      have hsub : ∀ b ∈ c.blocks, b ∈ t.blocks := fun b hb => by rw [T.blocks_eq]; exact List.mem_append_right _ (List.mem_flatMap.2 ⟨c, hcm, hb⟩)
      have hcy : Ok S0 w0 w' (c.put p y) := ih (h.cell hcm) (nodup_cell (nodup_cells hn) hcm) hx hy hv hk (fun b hb hbx => hf b (hsub b hb) hbx)
      have hcv : (c.put p y).val = c.val ∧ (c.put p y).isHold = c.isHold := by
        cases p with
        | nil => simp [T.get] at hx; subst hx; exact ⟨hv, hk⟩
        | cons j q =>
          simp only [T.put]
          cases c.cells[j]? with
          | none => exact ⟨rfl, rfl⟩
          | some d =>
            show (c.withCells _).val = c.val ∧ (c.withCells _).isHold = c.isHold
            cases c with
            | ow a sz n cs => cases a <;> exact ⟨rfl, rfl⟩
            | _ => exact ⟨rfl, rfl⟩
      have hoth : ∀ j d, j ≠ i → t.cells[j]? = some d → Ok S0 w0 w' d := fun j d hj hd => by
        refine (h.cell (List.mem_of_getElem? hd)).frame (fun b hb => hf b ?_ ?_)
        · rw [T.blocks_eq]; exact List.mem_append_right _ (List.mem_flatMap.2 ⟨d, List.mem_of_getElem? hd, hb⟩)
        · intro hbx
          exact nodup_flat (nodup_cells hn) hd hc hj b hb (get_mem_blocks hx b hbx)
      have hall : ∀ x_ ∈ t.cells.set i (c.put p y), Ok S0 w0 w' x_ := fun x_ hx_ => by
        rcases set_ok (y := c.put p y) hc x_ hx_ with rfl | ⟨j, hj, hd⟩
        · exact hcy
        · exact hoth j x_ hj hd
      have hnh : ∀ x_ ∈ t.cells.set i (c.put p y), x_.isHold = false := fun x_ hx_ => by
        rcases set_ok (y := c.put p y) hc x_ hx_ with rfl | ⟨j, hj, hd⟩
        · rw [hcv.2]; exact h.notHold hcm
        · exact h.notHold (List.mem_of_getElem? hd)
      simp only [T.put, hc]
      cases h with
      | ow b o c_ sz n cs cur ty fz h1 h2 h3 h4 h5 h6 h7 h8 h9 =>
        simp only [T.cells] at hc hall hnh hcm ⊢
        have hbx : b ∉ x.blocks := fun hb => by
          have h0 := get_mem_blocks hx b hb
          rw [T.blocks_eq] at hn
          simp only [T.own, T.cells, List.singleton_append, List.nodup_cons] at hn
          exact hn.1 (List.mem_flatMap.2 ⟨c, hcm, h0⟩)
        refine .ow b o c_ sz n _ cur ty fz (by rw [hf b (by simp [T.blocks]) hbx]; exact h1) h2 h3 h4 h5 (by rw [List.length_set]; exact h6) (fun j x_ hj => ?_) hall hnh
        by_cases hij : j = i
        · subst hij
          rw [List.getElem?_set_self (List.getElem?_eq_some_iff.1 hc).1] at hj
          rw [← Option.some.inj hj, hcv.1]
          exact h7 j c hc
        · rw [List.getElem?_set_ne (by omega)] at hj
          exact h7 j x_ hj
      | hold cs h1 h2 => exact .hold _ hall hnh
      | _ => simp [T.cells] at hc
end
end Go.Proofs.Ytjjdjkkhhcbogaa.DM
