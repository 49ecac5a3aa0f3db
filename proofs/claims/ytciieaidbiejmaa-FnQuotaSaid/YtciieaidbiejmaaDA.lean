import Derived.Calls
import Derived.Orders
import Derived.WalkKit
import Derived.Laws.IdiomCopy
import Derived.Laws.Append
import Derived.Laws.AppendOwn
import Derived.ArgAppend
/-
  DM 0. What is known of the package variables all along: here nothing.
-/
namespace Go.Proofs.Ytciieaidbiejmaa.DM
set_option linter.unusedVariables false
/-- The blocks of the variables that are known. -/
def tabG : List Nat := []
def tabP (w : World) : Prop := True
theorem tab_keep {w w' : World} (hk : ∀ k ∈ tabG, w'.heap[k]? = w.heap[k]?) (h : tabP w) : tabP w' := trivial
theorem tab_lt {w : World} (h : tabP w) : ∀ k ∈ tabG, k < w.heap.size := fun k hk => by cases hk
end Go.Proofs.Ytciieaidbiejmaa.DM

/-
  DM 1. A machine of values alone: trees in place of memory. What a Go function computes is told over trees; that the model's machine does the same is proved once (DM 2 to 6).
  No toy and no law of the program stands here. Own work of this claim's session.
-/
namespace Go.Proofs.Ytciieaidbiejmaa.DM
set_option linter.unusedVariables false

/-- A value of one cell that holds no address. -/
def plain : Value → Bool
  | .bool _ | .int _ _ | .string _ | .nilFunc | .pointer none => true
  | _ => false
/-- Data that is only read. -/
inductive RT where
  | sc (v : Value)
  | sl (n : Nat) (cs : List RT)
  | fn (f : Nat) (caps : List RT)
  deriving Inhabited
/-- Data of the call's own; 'α' tells where a row of cells lies, 'β' a value az it stands in memory. -/
inductive T (α β : Type) where
  | sc (v : Value)
  | ro (u : β) (r : RT)
  | ow (a : α) (sz n : Nat) (cs : List (T α β))
  | hold (cs : List (T α β))
  | gone (u : β)
/-- Where a row lies: block, first cell, room in elements; or nowhere (an empty slice without room). -/
inductive AD where
  | blk (b o c : Nat)
  | emp (a : Option Addr)
abbrev A := T AD Value
abbrev D := T Unit Unit
namespace T
variable {α β γ δ : Type}
instance : Inhabited (T α β) := ⟨.hold []⟩
mutual
def map (f : α → γ) (g : β → δ) : T α β → T γ δ
  | .sc v => .sc v
  | .ro u r => .ro (g u) r
  | .ow a sz n cs => .ow (f a) sz n (mapL f g cs)
  | .hold cs => .hold (mapL f g cs)
  | .gone u => .gone (g u)
def mapL (f : α → γ) (g : β → δ) : List (T α β) → List (T γ δ)
  | [] => []
  | c :: r => map f g c :: mapL f g r
end
theorem mapL_eq (f : α → γ) (g : β → δ) : ∀ l : List (T α β), mapL f g l = l.map (map f g)
  | [] => rfl
  | c :: r => by rw [mapL, mapL_eq f g r, List.map_cons]
/-- The cells of a row. -/
def cells : T α β → List (T α β)
  | .ow _ _ _ cs => cs
  | .hold cs => cs
  | _ => []
def withCells : T α β → List (T α β) → T α β
  | .ow a sz n _, cs => .ow a sz n cs
  | .hold _, cs => .hold cs
  | t, _ => t
def isHold : T α β → Bool
  | .hold _ => true
  | _ => false
def get : T α β → List Nat → Option (T α β)
  | t, [] => some t
  | t, i :: p => match t.cells[i]? with
    | some c => get c p
    | none => none
def put : T α β → List Nat → T α β → T α β
  | _, [], x => x
  | t, i :: p, x => match t.cells[i]? with
    | some c => t.withCells (t.cells.set i (put c p x))
    | none => t
theorem map_cells (f : α → γ) (g : β → δ) (t : T α β) : (t.map f g).cells = t.cells.map (map f g) := by
  cases t <;> simp [map, cells, mapL_eq]
theorem map_withCells (f : α → γ) (g : β → δ) (t : T α β) (cs : List (T α β)) : (t.withCells cs).map f g = (t.map f g).withCells (cs.map (map f g)) := by
  cases t <;> simp [map, withCells, mapL_eq]
theorem get_map (f : α → γ) (g : β → δ) : ∀ (p : List Nat) (t : T α β), (t.map f g).get p = (t.get p).map (map f g)
  | [], t => by simp [get]
  | i :: p, t => by
    simp only [get, map_cells, List.getElem?_map]
    cases t.cells[i]? with
    | none => rfl
    | some c => exact get_map f g p c
theorem put_map (f : α → γ) (g : β → δ) : ∀ (p : List Nat) (t x : T α β), (t.put p x).map f g = (t.map f g).put p (x.map f g)
  | [], t, x => by simp [put]
  | i :: p, t, x => by
    simp only [put, map_cells, List.getElem?_map]
    cases h : t.cells[i]? with
    | none => rfl
    | some c =>
      show (t.withCells _).map f g = _
      rw [map_withCells, List.map_set, put_map f g p c x]
      rfl
theorem withCells_cells (t : T α β) (cs : List (T α β)) (h : t.cells ≠ []) : (t.withCells cs).cells = cs := by
  cases t <;> simp_all [cells, withCells]
end T
/-- An address tree with its addresses struck. -/
def er (t : A) : D := t.map (fun _ => ()) (fun _ => ())
/-- The value that stands in memory for a tree. -/
def T.val : A → Value
  | .sc v => v
  | .ro u _ => u
  | .ow (.blk b o c) _ n _ => .slice (some ⟨b, o, none⟩) n c
  | .ow (.emp a) _ _ _ => .slice a 0 0
  | .hold _ => .tuple #[]
  | .gone u => u
mutual
/-- The blocks that a tree owns. -/
def T.blocks : A → List Nat
  | .ow (.blk b _ _) _ _ cs => b :: T.blocksL cs
  | .ow (.emp _) _ _ cs => T.blocksL cs
  | .hold cs => T.blocksL cs
  | _ => []
def T.blocksL : List A → List Nat
  | [] => []
  | c :: r => T.blocks c ++ T.blocksL r
end
theorem T.blocksL_eq : ∀ l : List A, T.blocksL l = l.flatMap T.blocks
  | [] => rfl
  | c :: r => by rw [T.blocksL, T.blocksL_eq r, List.flatMap_cons]
/-- The block of the row itself. -/
def T.own : A → List Nat
  | .ow (.blk b _ _) _ _ _ => [b]
  | _ => []
theorem T.blocks_eq (t : A) : t.blocks = t.own ++ t.cells.flatMap T.blocks := by
  cases t with
  | ow a sz n cs => cases a <;> simp [T.blocks, T.own, T.cells, T.blocksL_eq]
  | hold cs => simp [T.blocks, T.own, T.cells, T.blocksL_eq]
  | _ => simp [T.blocks, T.own, T.cells]

/-- What stays az it was: the blocks that data which is only read may lie in; all blocks that are kept; cells that are kept in blocks that are not; values told beforehand. -/
structure Fr where
  ro : Nat → Prop
  kp : Nat → Prop
  fx : Nat → Nat → Prop
  gv : Nat → Value
/-- What a cell value reads az, in the blocks of S0 az they stood in w0. -/
inductive RoC (S0 : Fr) (w0 : World) : Value → RT → Prop
  | sc (v : Value) : plain v = true → RoC S0 w0 v (.sc v)
  | sl (a : Addr) (n c : Nat) (cs : List RT) (vs : List Value) : a.spot = none → S0.ro a.block → n ≤ c → vs.length = cs.length →
      (∀ (i : Nat) (v : Value), vs[i]? = some v → w0.cell? ⟨a.block, a.off + i, none⟩ = some v) →
      (∀ (i : Nat) (v : Value) (r : RT), vs[i]? = some v → cs[i]? = some r → RoC S0 w0 v r) → RoC S0 w0 (.slice (some a) n c) (.sl n cs)
  | em (a : Option Addr) (c : Nat) : RoC S0 w0 (.slice a 0 c) (.sl 0 [])
  | fn (f : Nat) (ps : List Addr) (caps : List RT) : ps.length = caps.length →
      (∀ (i : Nat) (a : Addr) (r : RT), ps[i]? = some a → caps[i]? = some r → RoC S0 w0 (.slice (some a) 1 1) r) → RoC S0 w0 (.func (.func f) #[] (ps.map fun a => Value.pointer (some a)).toArray) (.fn f caps)

/-- How far a row's block is known not to be fixed: a row of one cell a piece may be a string's bytes, whose end is told so. -/
def fzTo (sz n : Nat) : Nat := if sz = 1 then n else n + 1
theorem le_fzTo (sz n : Nat) : n ≤ fzTo sz n := by unfold fzTo; split <;> omega
theorem fzTo_congr {a b n : Nat} (h : a = 1 ↔ b = 1) : fzTo a n = fzTo b n := by
  unfold fzTo
  by_cases ha : a = 1
  · rw [if_pos ha, if_pos (h.1 ha)]
  · rw [if_neg ha, if_neg fun hb => ha (h.2 hb)]
theorem lt_fzTo {sz n i : Nat} (h : i < n) : i < fzTo sz n := Nat.lt_of_lt_of_le h (le_fzTo sz n)
/-- A tree stands in memory az it tells. -/
inductive Ok (S0 : Fr) (w0 w : World) : A → Prop
  | sc (v : Value) : plain v = true → Ok S0 w0 w (.sc v)
  | ro (u : Value) (r : RT) : RoC S0 w0 u r → Ok S0 w0 w (.ro u r)
  | ow (b o c sz n : Nat) (cs : List A) (cur : Array Value) (ty : TypeId) (fz : Nat × Nat) : w.heap[b]? = some (.cells cur ty fz) → (∀ i, i < fzTo sz cur.size → ¬ (fz.1 ≤ i ∧ i < fz.2)) →
      o + c * sz ≤ cur.size ∧ 0 < sz ∧ (∀ j, j < c * sz → ¬ S0.fx b (o + j)) → n ≤ c → c ≤ maxLen → cs.length = n * sz → (∀ (i : Nat) (x : A), cs[i]? = some x → cur[o + i]? = some x.val) → (∀ x ∈ cs, Ok S0 w0 w x) → (∀ x ∈ cs, x.isHold = false) →
      Ok S0 w0 w (.ow (.blk b o c) sz n cs)
  | em (a : Option Addr) (sz : Nat) : Ok S0 w0 w (.ow (.emp a) sz 0 [])
  | hold (cs : List A) : (∀ x ∈ cs, Ok S0 w0 w x) → (∀ x ∈ cs, x.isHold = false) → Ok S0 w0 w (.hold cs)
  | gone (u : Value) : u.oneCell' = true → Ok S0 w0 w (.gone u)
section
variable {S0 : Fr} {w0 w w' : World}
theorem Ok.cell {t x : A} (h : Ok S0 w0 w t) (hx : x ∈ t.cells) : Ok S0 w0 w x := by
  cases h with
  | ow b o c sz n cs cur ty fz _ _ _ _ _ _ _ h1 _ => exact h1 x hx
  | hold cs h1 _ => exact h1 x hx
  | _ => simp [T.cells] at hx
theorem Ok.notHold {t x : A} (h : Ok S0 w0 w t) (hx : x ∈ t.cells) : x.isHold = false := by
  cases h with
  | ow b o c sz n cs cur ty fz _ _ _ _ _ _ _ _ h1 => exact h1 x hx
  | hold cs _ h1 => exact h1 x hx
  | _ => simp [T.cells] at hx
theorem Ok.get {p : List Nat} : ∀ {t x : A}, Ok S0 w0 w t → t.get p = some x → Ok S0 w0 w x := by
  induction p with
  | nil => intro t x h hx; simp [T.get] at hx; exact hx ▸ h
  | cons i p ih =>
    intro t x h hx
    simp only [T.get] at hx
    cases hc : t.cells[i]? with
    | none => rw [hc] at hx; cases hx
    | some c => rw [hc] at hx; exact ih (h.cell (List.mem_of_getElem? hc)) hx
/-- A tree is kept where its blocks are. -/
theorem Ok.frame {t : A} (h : Ok S0 w0 w t) : (∀ b ∈ t.blocks, w'.heap[b]? = w.heap[b]?) → Ok S0 w0 w' t := by
  induction h with
  | sc v hv => intro _; exact .sc v hv
  | ro u r hr => intro _; exact .ro u r hr
  | ow b o c sz n cs cur ty fz h1 h2 h3 h4 h5 h6 h7 h8 h9 ih =>
    intro hf
    refine .ow b o c sz n cs cur ty fz (by rw [hf b (by simp [T.blocks])]; exact h1) h2 h3 h4 h5 h6 h7 (fun x hx => ih x hx fun b' hb' => hf b' ?_) h9
    rw [T.blocks_eq]
    exact List.mem_append_right _ (List.mem_flatMap.2 ⟨x, hx, hb'⟩)
  | em a sz => intro _; exact .em a sz
  | hold cs h1 h2 ih =>
    intro hf
    refine .hold cs (fun x hx => ih x hx fun b' hb' => hf b' ?_) h2
    rw [T.blocks_eq]
    exact List.mem_append_right _ (List.mem_flatMap.2 ⟨x, hx, hb'⟩)
  | gone u hu => intro _; exact .gone u hu
theorem RoC.one {v : Value} {r : RT} (h : RoC S0 w0 v r) : v.oneCell' = true := by
  cases h with
  | sc v hv => cases v <;> simp_all [plain, Value.oneCell']
  | _ => rfl
theorem Ok.one {t : A} (h : Ok S0 w0 w t) (hh : t.isHold = false) : t.val.oneCell' = true := by
  cases h with
  | sc v hv => exact (RoC.sc (S0 := S0) (w0 := w0) v hv).one
  | ro u r hr => exact hr.one
  | hold cs _ _ => simp [T.isHold] at hh
  | gone u hu => exact hu
  | _ => rfl
theorem get_mem_blocks {p : List Nat} : ∀ {t x : A}, t.get p = some x → ∀ b ∈ x.blocks, b ∈ t.blocks := by
  induction p with
  | nil => intro t x hx b hb; simp [T.get] at hx; exact hx ▸ hb
  | cons i p ih =>
    intro t x hx b hb
    simp only [T.get] at hx
    cases hc : t.cells[i]? with
    | none => rw [hc] at hx; cases hx
    | some c =>
      rw [hc] at hx
      rw [T.blocks_eq]
      exact List.mem_append_right _ (List.mem_flatMap.2 ⟨c, List.mem_of_getElem? hc, ih hx b hb⟩)
theorem get_own_mem {p : List Nat} {t x : A} (h : t.get p = some x) {b : Nat} (hb : b ∈ x.own) : b ∈ t.blocks :=
  get_mem_blocks h b (by rw [T.blocks_eq]; exact List.mem_append_left _ hb)
theorem nodup_flat {l : List A} (h : (l.flatMap T.blocks).Nodup) : ∀ {i j : Nat} {x y : A}, l[i]? = some x → l[j]? = some y → i ≠ j → ∀ b ∈ x.blocks, b ∉ y.blocks := by
  induction l with
  | nil => intro i j x y hx; simp at hx
  | cons a l ih =>
    intro i j x y hx hy hij b hb hb'
    rw [List.flatMap_cons, List.nodup_append] at h
    cases i with
    | zero =>
      cases j with
      | zero => exact hij rfl
      | succ j =>
        simp at hx hy
        subst hx
        exact h.2.2 b hb b (List.mem_flatMap.2 ⟨y, List.mem_of_getElem? hy, hb'⟩) rfl
    | succ i =>
      cases j with
      | zero =>
        simp at hx hy
        subst hy
        exact h.2.2 b hb' b (List.mem_flatMap.2 ⟨x, List.mem_of_getElem? hx, hb⟩) rfl
      | succ j => exact ih h.2.1 (by simpa using hx) (by simpa using hy) (by omega) b hb hb'
theorem nodup_cell {l : List A} (h : (l.flatMap T.blocks).Nodup) : ∀ {x : A}, x ∈ l → x.blocks.Nodup := by
  induction l with
  | nil => intro x hx; cases hx
  | cons a l ih =>
    intro x hx
    rw [List.flatMap_cons, List.nodup_append] at h
    rcases List.mem_cons.1 hx with rfl | hx
    · exact h.1
    · exact ih h.2.1 hx
theorem nodup_cells {t : A} (h : t.blocks.Nodup) : (t.cells.flatMap T.blocks).Nodup := by
  rw [T.blocks_eq, List.nodup_append] at h
  exact h.2.1
theorem nodup_get {p : List Nat} : ∀ {t x : A}, t.blocks.Nodup → t.get p = some x → x.blocks.Nodup := by
  induction p with
  | nil => intro t x h hx; simp [T.get] at hx; exact hx ▸ h
  | cons i p ih =>
    intro t x h hx
    simp only [T.get] at hx
    cases hc : t.cells[i]? with
    | none => rw [hc] at hx; cases hx
    | some c => rw [hc] at hx; exact ih (nodup_cell (nodup_cells h) (List.mem_of_getElem? hc)) hx
theorem set_ok {l : List A} {i : Nat} {c y : A} (hc : l[i]? = some c) : ∀ x, x ∈ l.set i y → x = y ∨ ∃ j, j ≠ i ∧ l[j]? = some x := by
  intro x hx
  obtain ⟨j, hj, hxj⟩ := List.getElem_of_mem hx
  rw [List.length_set] at hj
  by_cases hij : j = i
  · subst hij; rw [List.getElem_set_self] at hxj; exact .inl hxj.symm
  · rw [List.getElem_set_ne (by omega)] at hxj; exact .inr ⟨j, hij, by rw [List.getElem?_eq_getElem hj, hxj]⟩
/-- A part of a tree is laid anew: what else the tree holds stands az it stood where its blocks are kept. -/
theorem Ok.put {p : List Nat} : ∀ {t x y : A}, Ok S0 w0 w t → t.blocks.Nodup → t.get p = some x → Ok S0 w0 w' y → y.val = x.val → (y.isHold = x.isHold) →
    (∀ b ∈ t.blocks, b ∉ x.blocks → w'.heap[b]? = w.heap[b]?) → Ok S0 w0 w' (t.put p y) := by
  induction p with
  | nil => intro t x y _ _ _ hy _ _ _; simpa [T.put] using hy
  | cons i p ih =>
    intro t x y h hn hx hy hv hk hf
    simp only [T.get] at hx
    cases hc : t.cells[i]? with
    | none => rw [hc] at hx; cases hx
    | some c =>
      rw [hc] at hx
      have hcm := List.mem_of_getElem? hc
      have hsub : ∀ b ∈ c.blocks, b ∈ t.blocks := fun b hb => by rw [T.blocks_eq]; exact List.mem_append_right _ (List.mem_flatMap.2 ⟨c, hcm, hb⟩)
      have hcy : Ok S0 w0 w' (c.put p y) := ih (h.cell hcm) (nodup_cell (nodup_cells hn) hcm) hx hy hv hk (fun b hb hbx => hf b (hsub b hb) hbx)
      have hcv : (c.put p y).val = c.val ∧ (c.put p y).isHold = c.isHold := by
        cases p with
        | nil => simp [T.get] at hx; subst hx; exact ⟨hv, hk⟩
        | cons j q =>
          simp only [T.put]
          cases c.cells[j]? with
          | none => exact ⟨rfl, rfl⟩
          | some d =>
            show (c.withCells _).val = c.val ∧ (c.withCells _).isHold = c.isHold
            cases c with
            | ow a sz n cs => cases a <;> exact ⟨rfl, rfl⟩
            | _ => exact ⟨rfl, rfl⟩
      have hoth : ∀ j d, j ≠ i → t.cells[j]? = some d → Ok S0 w0 w' d := fun j d hj hd => by
        refine (h.cell (List.mem_of_getElem? hd)).frame (fun b hb => hf b ?_ ?_)
        · rw [T.blocks_eq]; exact List.mem_append_right _ (List.mem_flatMap.2 ⟨d, List.mem_of_getElem? hd, hb⟩)
        · intro hbx
          exact nodup_flat (nodup_cells hn) hd hc hj b hb (get_mem_blocks hx b hbx)
      have hall : ∀ x_ ∈ t.cells.set i (c.put p y), Ok S0 w0 w' x_ := fun x_ hx_ => by
        rcases set_ok (y := c.put p y) hc x_ hx_ with rfl | ⟨j, hj, hd⟩
        · exact hcy
        · exact hoth j x_ hj hd
      have hnh : ∀ x_ ∈ t.cells.set i (c.put p y), x_.isHold = false := fun x_ hx_ => by
        rcases set_ok (y := c.put p y) hc x_ hx_ with rfl | ⟨j, hj, hd⟩
        · rw [hcv.2]; exact h.notHold hcm
        · exact h.notHold (List.mem_of_getElem? hd)
      simp only [T.put, hc]
      cases h with
      | ow b o c_ sz n cs cur ty fz h1 h2 h3 h4 h5 h6 h7 h8 h9 =>
        simp only [T.cells] at hc hall hnh hcm ⊢
        have hbx : b ∉ x.blocks := fun hb => by
          have h0 := get_mem_blocks hx b hb
          rw [T.blocks_eq] at hn
          simp only [T.own, T.cells, List.singleton_append, List.nodup_cons] at hn
          exact hn.1 (List.mem_flatMap.2 ⟨c, hcm, h0⟩)
        refine .ow b o c_ sz n _ cur ty fz (by rw [hf b (by simp [T.blocks]) hbx]; exact h1) h2 h3 h4 h5 (by rw [List.length_set]; exact h6) (fun j x_ hj => ?_) hall hnh
        by_cases hij : j = i
        · subst hij
          rw [List.getElem?_set_self (List.getElem?_eq_some_iff.1 hc).1] at hj
          rw [← Option.some.inj hj, hcv.1]
          exact h7 j c hc
        · rw [List.getElem?_set_ne (by omega)] at hj
          exact h7 j x_ hj
      | hold cs h1 h2 => exact .hold _ hall hnh
      | _ => simp [T.cells] at hc
end
end Go.Proofs.Ytciieaidbiejmaa.DM

/-
  DM 2. The state of the machine of values, and how it answers to the model's: what is held, what a temporary refers to, and the moves that keep it.
-/
namespace Go.Proofs.Ytciieaidbiejmaa.DM
set_option linter.unusedVariables false
set_option linter.unusedSimpArgs false

theorem put_blocks {p : List Nat} : ∀ {t x : A} (y : A), t.get p = some x → ∃ L R, t.blocks = L ++ (x.blocks ++ R) ∧ (t.put p y).blocks = L ++ (y.blocks ++ R) := by
  induction p with
  | nil => intro t x y hx; simp [T.get] at hx; subst hx; exact ⟨[], [], by simp, by simp [T.put]⟩
  | cons i p ih =>
    intro t x y hx
    simp only [T.get] at hx
    cases hc : t.cells[i]? with
    | none => rw [hc] at hx; cases hx
    | some c =>
      rw [hc] at hx
      obtain ⟨L, R, h1, h2⟩ := ih y hx
      have hi := (List.getElem?_eq_some_iff.1 hc).1
      have hci := (List.getElem?_eq_some_iff.1 hc).2
      have hne : t.cells ≠ [] := fun e => by rw [e] at hi; exact absurd hi (by simp)
      have hsplit : t.cells = t.cells.take i ++ (c :: t.cells.drop (i + 1)) := by
        rw [← hci, List.getElem_cons_drop, List.take_append_drop]
      have hset : t.cells.set i (c.put p y) = t.cells.take i ++ (c.put p y :: t.cells.drop (i + 1)) := by
        rw [List.set_eq_take_append_cons_drop, if_pos hi]
      have hown : (t.withCells (t.cells.set i (c.put p y))).own = t.own := by cases t with
        | ow a sz n cs => cases a <;> rfl
        | _ => rfl
      refine ⟨t.own ++ ((t.cells.take i).flatMap T.blocks ++ L), R ++ (t.cells.drop (i + 1)).flatMap T.blocks, ?_, ?_⟩
      · rw [T.blocks_eq]
        conv => lhs; rw [hsplit]
        rw [List.flatMap_append, List.flatMap_cons, h1]
        simp [List.append_assoc]
      · simp only [T.put, hc]
        rw [T.blocks_eq, hown, T.withCells_cells _ _ hne, hset, List.flatMap_append, List.flatMap_cons, h2]
        simp [List.append_assoc]
theorem get_put_same {α β : Type} : ∀ (q r : List Nat) (t y : T α β), (t.get q).isSome = true → (t.put q y).get (q ++ r) = y.get r
  | [], r, t, y, _ => rfl
  | i :: q, r, t, y, h => by
    simp only [T.get] at h
    cases hc : t.cells[i]? with
    | none => rw [hc] at h; cases h
    | some c =>
      rw [hc] at h
      have hi := (List.getElem?_eq_some_iff.1 hc).1
      have hne : t.cells ≠ [] := fun e => by rw [e] at hi; exact absurd hi (by simp)
      simp only [T.put, hc, List.cons_append, T.get, T.withCells_cells _ _ hne, List.getElem?_set_self hi]
      exact get_put_same q r c y h
/-- A node elsewhere is az it was, but for what lies in its cells. -/
theorem get_put_other {α β : Type} : ∀ (q p : List Nat) (t y x : T α β), t.get p = some x → ¬ q <+: p → ∃ cs, (t.put q y).get p = some (x.withCells cs)
  | [], p, t, y, x, _, hn => absurd List.nil_prefix hn
  | i :: q, [], t, y, x, hx, _ => by
    simp [T.get] at hx
    subst hx
    simp only [T.put]
    cases hc : t.cells[i]? with
    | none => exact ⟨t.cells, by cases t <;> rfl⟩
    | some c => exact ⟨_, rfl⟩
  | i :: q, j :: p, t, y, x, hx, hn => by
    simp only [T.get] at hx
    cases hc : t.cells[i]? with
    | none =>
      simp only [T.put, hc]
      refine ⟨x.cells, ?_⟩
      have : x.withCells x.cells = x := by cases x <;> rfl
      rw [this]
      exact hx
    | some c =>
      have hi := (List.getElem?_eq_some_iff.1 hc).1
      have hne : t.cells ≠ [] := fun e => by rw [e] at hi; exact absurd hi (by simp)
      simp only [T.put, hc, T.get, T.withCells_cells _ _ hne]
      by_cases hij : i = j
      · subst hij
        rw [hc] at hx
        rw [List.getElem?_set_self hi]
        exact get_put_other q p c y x hx (fun h => hn (by rw [List.cons_prefix_cons]; exact ⟨rfl, h⟩))
      · rw [List.getElem?_set_ne hij]
        refine ⟨x.cells, ?_⟩
        have : x.withCells x.cells = x := by cases x <;> rfl
        rw [this]
        exact hx
/-- What a temporary may hold, cell by cell: data, a slice or a pointer into the call's own rows, a pointer to what is only read, a function with what it captures; or what is not known. -/
inductive DC where
  | un
  | t (r : RT)
  | nl
  | sl (id : Nat) (p : List Nat) (off n : Nat)
  | pt (id : Nat) (p : List Nat) (off : Nat)
  | rp (cs : List RT)
  | fn (f : Nat) (id : List Nat)
  deriving Inhabited
inductive V1 where
  | one (c : DC)
  | agg (cs : List DC)
  deriving Inhabited
inductive DV where
  | un
  | v (x : V1)
  | tup (xs : List V1)
  deriving Inhabited
structure FS where
  e : Nat → DV
  h : Nat → Option D
  g : Nat → DC
def upd {α : Type} (f : Nat → α) (k : Nat) (v : α) : Nat → α := fun i => if i = k then v else f i
theorem upd_same {α : Type} (f : Nat → α) (k : Nat) (v : α) : upd f k v k = v := by simp [upd]
theorem upd_ne {α : Type} (f : Nat → α) (k i : Nat) (v : α) (h : i ≠ k) : upd f k v i = f i := by simp [upd, h]
/-- References at or below a place. -/
def isAt (id : Nat) (p : List Nat) (i : Nat) (q : List Nat) : Bool := i == id && p.isPrefixOf q
def pzC (id : Nat) (p : List Nat) : DC → DC
  | .sl i q off n => if isAt id p i q then .un else .sl i q off n
  | .pt i q off => if isAt id p i q then .un else .pt i q off
  | .fn f ids => if ids.contains id then .un else .fn f ids
  | c => c
def pz1 (id : Nat) (p : List Nat) : V1 → V1
  | .one c => .one (pzC id p c)
  | .agg cs => .agg (cs.map (pzC id p))
def pzV (id : Nat) (p : List Nat) : DV → DV
  | .un => .un
  | .v x => .v (pz1 id p x)
  | .tup xs => .tup (xs.map (pz1 id p))

abbrev Heap := Nat → Option A
/-- The world is the old one where it is kept. -/
structure Wd (S0 : Fr) (w0 w : World) : Prop where
  fr : ∀ k, S0.kp k → w.heap[k]? = w0.heap[k]?
  s0 : ∀ k, S0.kp k → k < w0.heap.size
  tb : tabP w0 ∧ ∀ k ∈ tabG, S0.kp k
  sz : w0.heap.size ≤ w.heap.size
  rk : ∀ k, S0.ro k → S0.kp k
  fx : ∀ b j, S0.fx b j → b < w0.heap.size ∧ w.cell? ⟨b, j, none⟩ = w0.cell? ⟨b, j, none⟩
  oo : w.os = w0.os ∧ w.output = w0.output ∧ w.tape = w0.tape
/-- What the call holds (the entries of M, and what is in hand: X) stands in memory, each block once, apart from what is only read. -/
structure Inv (S0 : Fr) (w0 : World) (M : Heap) (X : List A) (w : World) : Prop where
  ok : ∀ id t, M id = some t → Ok S0 w0 w t
  nd : ∀ id t, M id = some t → t.blocks.Nodup
  dj : ∀ id id' t t', id ≠ id' → M id = some t → M id' = some t' → ∀ b ∈ t.blocks, b ∉ t'.blocks
  bl : ∀ id t b, M id = some t → b ∈ t.blocks → b < w.heap.size ∧ ¬ S0.kp b
  wd : Wd S0 w0 w
  xo : ∀ x ∈ X, Ok S0 w0 w x ∧ x.isHold = false
  xn : (X.flatMap T.blocks).Nodup
  xd : ∀ id t, M id = some t → ∀ b ∈ t.blocks, b ∉ X.flatMap T.blocks
  xb : ∀ b ∈ X.flatMap T.blocks, b < w.heap.size ∧ ¬ S0.kp b
/-- A node of what is held. -/
def at_ (M : Heap) (id : Nat) (p : List Nat) (x : A) : Prop := ∃ t, M id = some t ∧ t.get p = some x
inductive RelC (S0 : Fr) (w0 : World) (M : Heap) : DC → Value → Prop
  | un (v : Value) : RelC S0 w0 M .un v
  | t (r : RT) (v : Value) : RoC S0 w0 v r → RelC S0 w0 M (.t r) v
  | nl (a : Option Addr) : RelC S0 w0 M .nl (.slice a 0 0)
  | sl (id : Nat) (p : List Nat) (k n b o c sz m : Nat) (cs : List A) : at_ M id p (.ow (.blk b o c) sz m cs) → k + n ≤ m → RelC S0 w0 M (.sl id p (k * sz) n) (.slice (some ⟨b, o + k * sz, none⟩) n (c - k))
  | se (id : Nat) (p : List Nat) (off : Nat) (a : Option Addr) (d : AD) (sz m : Nat) (cs : List A) : at_ M id p (.ow d sz m cs) → RelC S0 w0 M (.sl id p off 0) (.slice a 0 0)
  | pt (id : Nat) (p : List Nat) (off b o c sz m : Nat) (cs : List A) : at_ M id p (.ow (.blk b o c) sz m cs) → RelC S0 w0 M (.pt id p off) (.pointer (some ⟨b, o + off, none⟩))
  | rp (cs : List RT) (a : Addr) : RoC S0 w0 (.slice (some a) 1 1) (.sl 1 cs) → RelC S0 w0 M (.rp cs) (.pointer (some a))
  | fn (f : Nat) (ids : List Nat) (ps : List Addr) : ps.length = ids.length → (∀ (i id : Nat) (a : Addr), ids[i]? = some id → ps[i]? = some a → ∃ b o c sz cs, at_ M id [] (.ow (.blk b o c) sz 1 cs) ∧ a = ⟨b, o, none⟩) →
      RelC S0 w0 M (.fn f ids) (.func (.func f) #[] (ps.map fun a => Value.pointer (some a)).toArray)
def Rel1 (S0 : Fr) (w0 : World) (M : Heap) : V1 → Value → Prop
  | .one c, v => RelC S0 w0 M c v ∧ v.oneCell' = true
  | .agg cs, v => ∃ vs : List Value, v = .agg vs.toArray ∧ vs.length = cs.length ∧ (∀ (i : Nat) (c : DC) (u : Value), cs[i]? = some c → vs[i]? = some u → RelC S0 w0 M c u) ∧ ∀ u ∈ vs, u.oneCell' = true
def RelV (S0 : Fr) (w0 : World) (M : Heap) : DV → Value → Prop
  | .un, _ => True
  | .v x, v => Rel1 S0 w0 M x v
  | .tup xs, v => ∃ vs : List Value, v = .tuple vs.toArray ∧ vs.length = xs.length ∧ ∀ (i : Nat) (x : V1) (u : Value), xs[i]? = some x → vs[i]? = some u → Rel1 S0 w0 M x u
structure RelX (S0 : Fr) (w0 : World) (nt : Nat) (s : FS) (M : Heap) (X : List A) (a : Act) (w : World) : Prop where
  inv : Inv S0 w0 M X w
  er : ∀ id, s.h id = (M id).map er
  en : ∀ i, RelV S0 w0 M (s.e i) (a.tmps.getD i undef)
  nt : a.tmps.size = nt
  df : a.defers = []
  gh : ∀ i, RelC S0 w0 M (s.g i) (S0.gv i)
abbrev Rel (S0 : Fr) (w0 : World) (nt : Nat) (s : FS) (M : Heap) (a : Act) (w : World) : Prop := RelX S0 w0 nt s M [] a w
section
variable {S0 : Fr} {w0 w w' : World} {M M' : Heap}
/-- The refs that a change of the heap leaves: each node that is referred to keeps its place. -/
def Keeps (M M' : Heap) (id : Nat) (p : List Nat) : Prop := ∀ x, at_ M id p x → ∃ cs, at_ M' id p (x.withCells cs)
def refsC : DC → List (Nat × List Nat)
  | .sl i q _ _ => [(i, q)]
  | .pt i q _ => [(i, q)]
  | .fn _ ids => ids.map fun i => (i, [])
  | _ => []
theorem RelC.keep {c : DC} {v : Value} (h : RelC S0 w0 M c v) (hk : ∀ r ∈ refsC c, Keeps M M' r.1 r.2) : RelC S0 w0 M' c v := by
  cases h with
  | un v => exact .un v
  | t r v h => exact .t r v h
  | nl a => exact .nl a
  | sl id p k n b o c sz m cs h1 h2 =>
    obtain ⟨cs', h⟩ := hk (id, p) (by simp [refsC]) _ h1
    exact .sl id p k n b o c sz m cs' h h2
  | se id p off a d sz m cs h1 =>
    obtain ⟨cs', h⟩ := hk (id, p) (by simp [refsC]) _ h1
    exact .se id p off a d sz m cs' h
  | pt id p off b o c sz m cs h1 =>
    obtain ⟨cs', h⟩ := hk (id, p) (by simp [refsC]) _ h1
    exact .pt id p off b o c sz m cs' h
  | rp cs a h => exact .rp cs a h
  | fn f ids ps hl h =>
    refine .fn f ids ps hl (fun i id a hi ha => ?_)
    obtain ⟨b, o, c, sz, cs, h1, h2⟩ := h i id a hi ha
    obtain ⟨cs', h3⟩ := hk (id, []) (by simp only [refsC, List.mem_map]; exact ⟨id, List.mem_of_getElem? hi, rfl⟩) _ h1
    exact ⟨b, o, c, sz, cs', h3, h2⟩
/-- Behind a poisoning at a place, what is left is kept if all other places are. -/
theorem RelC.poison {id : Nat} {p : List Nat} {c : DC} {v : Value} (h : RelC S0 w0 M c v) (hk : ∀ i q, ¬ (i = id ∧ p <+: q) → Keeps M M' i q) (hk0 : ∀ i, i ≠ id → Keeps M M' i []) : RelC S0 w0 M' (pzC id p c) v := by
  cases c with
  | sl i q off n =>
    simp only [pzC]
    split
    · exact .un v
    · rename_i hn
      refine h.keep (fun r hr => ?_)
      simp [refsC] at hr
      subst hr
      exact hk i q (fun ⟨h1, h2⟩ => hn (by simp [isAt, h1, h2]))
  | pt i q off =>
    simp only [pzC]
    split
    · exact .un v
    · rename_i hn
      refine h.keep (fun r hr => ?_)
      simp [refsC] at hr
      subst hr
      exact hk i q (fun ⟨h1, h2⟩ => hn (by simp [isAt, h1, h2]))
  | fn f ids =>
    simp only [pzC]
    split
    · exact .un v
    · rename_i hn
      refine h.keep (fun r hr => ?_)
      simp only [refsC, List.mem_map] at hr
      obtain ⟨i, hi, rfl⟩ := hr
      exact hk0 i (fun e => hn (by simp [← e, hi]))
  | _ => exact h.keep (fun r hr => by simp [refsC] at hr)
theorem Rel1.map {x : V1} {v : Value} {f : DC → DC} (h : Rel1 S0 w0 M x v) (hf : ∀ c v, RelC S0 w0 M c v → RelC S0 w0 M' (f c) v) : Rel1 S0 w0 M' (match x with | .one c => .one (f c) | .agg cs => .agg (cs.map f)) v := by
  cases x with
  | one c => exact ⟨hf c v h.1, h.2⟩
  | agg cs =>
    obtain ⟨vs, rfl, hl, h1, h2⟩ := h
    refine ⟨vs, rfl, by simpa using hl, fun i c u hc hu => ?_, h2⟩
    rw [List.getElem?_map, Option.map_eq_some_iff] at hc
    obtain ⟨c', hc', rfl⟩ := hc
    exact hf c' u (h1 i c' u hc' hu)
theorem RelV.poison {id : Nat} {p : List Nat} {x : DV} {v : Value} (h : RelV S0 w0 M x v) (hk : ∀ i q, ¬ (i = id ∧ p <+: q) → Keeps M M' i q) (hk0 : ∀ i, i ≠ id → Keeps M M' i []) : RelV S0 w0 M' (pzV id p x) v := by
  have h1 : ∀ (x : V1) (v : Value), Rel1 S0 w0 M x v → Rel1 S0 w0 M' (pz1 id p x) v := fun x v h => by
    have := Rel1.map (f := pzC id p) (M' := M') h (fun c v hc => hc.poison hk hk0)
    cases x <;> exact this
  cases x with
  | un => trivial
  | v x => exact h1 x v h
  | tup xs =>
    obtain ⟨vs, rfl, hl, h2⟩ := h
    refine ⟨vs, rfl, by simpa using hl, fun i y u hy hu => ?_⟩
    rw [List.getElem?_map, Option.map_eq_some_iff] at hy
    obtain ⟨y', hy', rfl⟩ := hy
    exact h1 y' u (h2 i y' u hy' hu)
theorem RelV.keep {x : DV} {v : Value} (h : RelV S0 w0 M x v) (hk : ∀ i q, Keeps M M' i q) : RelV S0 w0 M' x v := by
  have h1 : ∀ (x : V1) (v : Value), Rel1 S0 w0 M x v → Rel1 S0 w0 M' x v := fun x v h => by
    have := Rel1.map (f := id) (M' := M') h (fun c v hc => hc.keep fun r _ => hk r.1 r.2)
    cases x with
    | one c => exact this
    | agg cs => simpa using this
  cases x with
  | un => trivial
  | v x => exact h1 x v h
  | tup xs =>
    obtain ⟨vs, rfl, hl, h2⟩ := h
    exact ⟨vs, rfl, hl, fun i y u hy hu => h1 y u (h2 i y u hy hu)⟩
theorem Keeps.refl (id : Nat) (p : List Nat) : Keeps M M id p := fun x h => ⟨x.cells, by cases x <;> exact h⟩
/-- One entry is laid anew. -/
theorem keeps_upd {id : Nat} {t' : Option A} {i : Nat} {q : List Nat} (h : i ≠ id) : Keeps M (upd M id t') i q := fun x ⟨t, ht, hx⟩ => by
  refine ⟨x.cells, t, by rw [upd_ne _ _ _ _ h]; exact ht, ?_⟩
  rw [hx]
  cases x <;> rfl
theorem keeps_put {id : Nat} {t y : A} {p q : List Nat} (ht : M id = some t) (hn : ¬ p <+: q) : Keeps M (upd M id (some (t.put p y))) id q := fun x ⟨t', ht', hx⟩ => by
  rw [ht] at ht'
  obtain rfl := Option.some.inj ht'
  obtain ⟨cs, h⟩ := get_put_other p q t y x hx hn
  exact ⟨cs, _, upd_same _ _ _, h⟩
end
end Go.Proofs.Ytciieaidbiejmaa.DM

/-
  DM 3. The moves that keep what is held: a part taken out, a part laid into a cell, a new row, an entry dropped.
-/
namespace Go.Proofs.Ytciieaidbiejmaa.DM
set_option linter.unusedVariables false
set_option linter.unusedSimpArgs false
section
variable {S0 : Fr} {w0 w w' : World} {M M' : Heap} {X : List A}
/-- A part is taken into hand. -/
theorem Inv.take (h : Inv S0 w0 M X w) {id : Nat} {t x : A} {p : List Nat} (ht : M id = some t) (hx : t.get p = some x) (hh : x.isHold = false) :
    Inv S0 w0 (upd M id (some (t.put p (.gone x.val)))) (X ++ [x]) w := by
  obtain ⟨L, R, h1, h2⟩ := put_blocks (.gone x.val) hx
  simp only [T.blocks, List.nil_append] at h2
  have hnd := h.nd id t ht
  rw [h1] at hnd
  have hsub : ∀ b ∈ (t.put p (.gone x.val)).blocks, b ∈ t.blocks := fun b hb => by rw [h2] at hb; rw [h1]; simp only [List.mem_append] at hb ⊢; rcases hb with hb | hb <;> simp [hb]
  have hxs : ∀ b ∈ x.blocks, b ∈ t.blocks := fun b hb => by rw [h1]; simp [hb]
  have hxd : ∀ b ∈ x.blocks, b ∉ (t.put p (.gone x.val)).blocks := fun b hb hb' => by
    rw [h2] at hb'
    rw [List.nodup_append] at hnd
    rcases List.mem_append.1 hb' with hl | hr
    · exact hnd.2.2 b hl b (List.mem_append_left _ hb) rfl
    · exact (List.nodup_append.1 hnd.2.1).2.2 b hb b hr rfl
  have hlook : ∀ i u, upd M id (some (t.put p (.gone x.val))) i = some u → (i = id ∧ u = t.put p (.gone x.val)) ∨ (i ≠ id ∧ M i = some u) := fun i u hu => by
    by_cases hi : i = id
    · subst hi; rw [upd_same] at hu; exact .inl ⟨rfl, (Option.some.inj hu).symm⟩
    · rw [upd_ne _ _ _ _ hi] at hu; exact .inr ⟨hi, hu⟩
  refine ⟨?_, ?_, ?_, ?_, h.wd, ?_, ?_, ?_, ?_⟩
  · intro i u hu
    rcases hlook i u hu with ⟨rfl, rfl⟩ | ⟨_, hm⟩
    · exact (h.ok i t ht).put (h.nd i t ht) hx (.gone _ (((h.ok i t ht).get hx).one hh)) rfl (by rw [hh]; rfl) (fun _ _ _ => rfl)
    · exact h.ok i u hm
  · intro i u hu
    rcases hlook i u hu with ⟨rfl, rfl⟩ | ⟨_, hm⟩
    · rw [h2]
      rw [List.nodup_append] at hnd ⊢
      exact ⟨hnd.1, (List.nodup_append.1 hnd.2.1).2.1, fun a ha b hb => hnd.2.2 a ha b (List.mem_append_right _ hb)⟩
    · exact h.nd i u hm
  · intro i j u v hij hu hv b hb
    rcases hlook i u hu with ⟨rfl, rfl⟩ | ⟨hi, hm⟩
    · rcases hlook j v hv with ⟨rfl, rfl⟩ | ⟨hj, hm'⟩
      · exact absurd rfl hij
      · exact h.dj i j t v hij ht hm' b (hsub b hb)
    · rcases hlook j v hv with ⟨rfl, rfl⟩ | ⟨hj, hm'⟩
      · exact fun hb' => h.dj i j u t hij hm ht b hb (hsub b hb')
      · exact h.dj i j u v hij hm hm' b hb
  · intro i u b hu hb
    rcases hlook i u hu with ⟨rfl, rfl⟩ | ⟨_, hm⟩
    · exact h.bl i t b ht (hsub b hb)
    · exact h.bl i u b hm hb
  · intro y hy
    rcases List.mem_append.1 hy with hy | hy
    · exact h.xo y hy
    · simp at hy; subst hy; exact ⟨(h.ok id t ht).get hx, hh⟩
  · rw [List.flatMap_append, List.nodup_append]
    refine ⟨h.xn, by simpa using nodup_get (h.nd id t ht) hx, fun a ha b hb hab => ?_⟩
    subst hab
    exact h.xd id t ht a (hxs a (by simpa using hb)) ha
  · intro i u hu b hb
    rw [List.flatMap_append, List.mem_append]
    rintro (hb' | hb')
    · rcases hlook i u hu with ⟨rfl, rfl⟩ | ⟨_, hm⟩
      · exact h.xd i t ht b (hsub b hb) hb'
      · exact h.xd i u hm b hb hb'
    · have hbx : b ∈ x.blocks := by simpa using hb'
      rcases hlook i u hu with ⟨rfl, rfl⟩ | ⟨hi, hm⟩
      · exact hxd b hbx hb
      · exact h.dj i id u t hi hm ht b hb (hxs b hbx)
  · intro b hb
    rw [List.flatMap_append, List.mem_append] at hb
    rcases hb with hb | hb
    · exact h.xb b hb
    · exact h.bl id t b ht (hxs b (by simpa using hb))
theorem Inv.drop (h : Inv S0 w0 M X w) (id : Nat) : Inv S0 w0 (upd M id none) X w := by
  have hlook : ∀ i u, upd M id none i = some u → M i = some u := fun i u hu => by
    by_cases hi : i = id
    · subst hi; rw [upd_same] at hu; cases hu
    · rwa [upd_ne _ _ _ _ hi] at hu
  exact ⟨fun i u hu => h.ok i u (hlook i u hu), fun i u hu => h.nd i u (hlook i u hu), fun i j u v hij hu hv => h.dj i j u v hij (hlook i u hu) (hlook j v hv),
    fun i u b hu => h.bl i u b (hlook i u hu), h.wd, h.xo, h.xn, fun i u hu => h.xd i u (hlook i u hu), h.xb⟩
/-- What owns no block comes to hand. -/
theorem Inv.hand (h : Inv S0 w0 M X w) {x : A} (hx : Ok S0 w0 w x) (hh : x.isHold = false) (hb : x.blocks = []) : Inv S0 w0 M (X ++ [x]) w := by
  refine ⟨h.ok, h.nd, h.dj, h.bl, h.wd, ?_, ?_, ?_, ?_⟩
  · intro y hy
    rcases List.mem_append.1 hy with hy | hy
    · exact h.xo y hy
    · simp at hy; subst hy; exact ⟨hx, hh⟩
  · simp [List.flatMap_append, hb]; simpa using h.xn
  · intro i u hu b hbu; simp [List.flatMap_append, hb]; simpa using h.xd i u hu b hbu
  · intro b hb'; rw [List.flatMap_append] at hb'; simp [hb] at hb'; exact h.xb b (by simpa using hb')
/-- What is in hand is laid az an entry that is no row of memory. -/
theorem Inv.lay (h : Inv S0 w0 M X w) {id : Nat} (hid : M id = none) : Inv S0 w0 (upd M id (some (.hold X))) [] w := by
  have hlook : ∀ i u, upd M id (some (.hold X)) i = some u → (i = id ∧ u = .hold X) ∨ (i ≠ id ∧ M i = some u) := fun i u hu => by
    by_cases hi : i = id
    · subst hi; rw [upd_same] at hu; exact .inl ⟨rfl, (Option.some.inj hu).symm⟩
    · rw [upd_ne _ _ _ _ hi] at hu; exact .inr ⟨hi, hu⟩
  have hb : (T.hold X : A).blocks = X.flatMap T.blocks := by simp [T.blocks, T.blocksL_eq]
  refine ⟨?_, ?_, ?_, ?_, h.wd, by simp, by simp, by simp, by simp⟩
  · intro i u hu
    rcases hlook i u hu with ⟨rfl, rfl⟩ | ⟨_, hm⟩
    · exact .hold X (fun x hx => (h.xo x hx).1) (fun x hx => (h.xo x hx).2)
    · exact h.ok i u hm
  · intro i u hu
    rcases hlook i u hu with ⟨rfl, rfl⟩ | ⟨_, hm⟩
    · rw [hb]; exact h.xn
    · exact h.nd i u hm
  · intro i j u v hij hu hv b hbu hbv
    rcases hlook i u hu with ⟨rfl, rfl⟩ | ⟨hi, hm⟩
    · rcases hlook j v hv with ⟨rfl, rfl⟩ | ⟨hj, hm'⟩
      · exact absurd rfl hij
      · rw [hb] at hbu; exact h.xd j v hm' b hbv hbu
    · rcases hlook j v hv with ⟨rfl, rfl⟩ | ⟨hj, hm'⟩
      · rw [hb] at hbv; exact h.xd i u hm b hbu hbv
      · exact h.dj i j u v hij hm hm' b hbu hbv
  · intro i u b hu hbu
    rcases hlook i u hu with ⟨rfl, rfl⟩ | ⟨_, hm⟩
    · rw [hb] at hbu; exact h.xb b hbu
    · exact h.bl i u b hm hbu
/-- An entry's cells come to hand. -/
theorem Inv.unlay (h : Inv S0 w0 M [] w) {id : Nat} (hid : M id = some (.hold X)) : Inv S0 w0 (upd M id none) X w := by
  have hlook : ∀ i u, upd M id none i = some u → i ≠ id ∧ M i = some u := fun i u hu => by
    by_cases hi : i = id
    · subst hi; rw [upd_same] at hu; cases hu
    · rw [upd_ne _ _ _ _ hi] at hu; exact ⟨hi, hu⟩
  have hb : (T.hold X : A).blocks = X.flatMap T.blocks := by simp [T.blocks, T.blocksL_eq]
  have hok := h.ok id _ hid
  refine ⟨fun i u hu => h.ok i u (hlook i u hu).2, fun i u hu => h.nd i u (hlook i u hu).2, fun i j u v hij hu hv => h.dj i j u v hij (hlook i u hu).2 (hlook j v hv).2,
    fun i u b hu => h.bl i u b (hlook i u hu).2, h.wd, fun x hx => ⟨hok.cell (by simpa [T.cells] using hx), hok.notHold (by simpa [T.cells] using hx)⟩, ?_, ?_, ?_⟩
  · rw [← hb]; exact h.nd id _ hid
  · intro i u hu b hbu; rw [← hb]; exact h.dj i id u _ (hlook i u hu).1 (hlook i u hu).2 hid b hbu
  · intro b hbx; rw [← hb] at hbx; exact h.bl id _ b hid hbx
theorem Wd.world (h : Wd S0 w0 w) (hk : ∀ k, k < w.heap.size → w'.heap[k]? = w.heap[k]?) (hz : w.heap.size ≤ w'.heap.size) (ho : w'.os = w.os ∧ w'.output = w.output ∧ w'.tape = w.tape := by exact ⟨rfl, rfl, rfl⟩) : Wd S0 w0 w' := by
  refine ⟨fun k hk' => ?_, h.s0, h.tb, by have := h.sz; omega, h.rk, fun b j hb => ?_, ho.1.trans h.oo.1, ho.2.1.trans h.oo.2.1, ho.2.2.trans h.oo.2.2⟩
  · rw [hk k (by have := h.s0 k hk'; have := h.sz; omega)]
    exact h.fr k hk'
  · obtain ⟨h1, h2⟩ := h.fx b j hb
    refine ⟨h1, ?_⟩
    rw [← h2]
    simp only [World.cell?, hk b (by have := h.sz; omega)]
/-- The world grows, or changes in blocks that nobody holds. -/
theorem Inv.world (h : Inv S0 w0 M X w) (hk : ∀ k, k < w.heap.size → w'.heap[k]? = w.heap[k]?) (hz : w.heap.size ≤ w'.heap.size) (ho : w'.os = w.os ∧ w'.output = w.output ∧ w'.tape = w.tape := by exact ⟨rfl, rfl, rfl⟩) : Inv S0 w0 M X w' := by
  refine ⟨fun i u hu => (h.ok i u hu).frame fun b hb => hk b (h.bl i u b hu hb).1, h.nd, h.dj, fun i u b hu hb => ⟨by have := (h.bl i u b hu hb).1; omega, (h.bl i u b hu hb).2⟩, h.wd.world hk hz ho,
    fun x hx => ⟨(h.xo x hx).1.frame fun b hb => hk b (h.xb b (List.mem_flatMap.2 ⟨x, hx, hb⟩)).1, (h.xo x hx).2⟩, h.xn, h.xd, fun b hb => ⟨by have := (h.xb b hb).1; omega, (h.xb b hb).2⟩⟩
/-- What is in hand is laid az a new row, behind all blocks there are. -/
theorem Inv.new (h : Inv S0 w0 M X w) {id : Nat} (hid : M id = none) {sz n c : Nat} {ty : TypeId} {cur : Array Value} {fz : Nat × Nat} (hw : w'.heap = w.heap.push (.cells cur ty fz)) (hfz : ∀ i, i < fzTo sz cur.size → ¬ (fz.1 ≤ i ∧ i < fz.2))
    (hc : c * sz ≤ cur.size) (hs0 : 0 < sz) (hn : n ≤ c) (hm : c ≤ maxLen) (hl : X.length = n * sz) (hcur : ∀ (i : Nat) (x : A), X[i]? = some x → cur[i]? = some x.val) (ho : w'.os = w.os ∧ w'.output = w.output ∧ w'.tape = w.tape := by exact ⟨rfl, rfl, rfl⟩) :
    Inv S0 w0 (upd M id (some (.ow (.blk w.heap.size 0 c) sz n X))) [] w' := by
  have hz : w'.heap.size = w.heap.size + 1 := by rw [hw]; simp
  have hk : ∀ k, k < w.heap.size → w'.heap[k]? = w.heap[k]? := fun k hk => by rw [hw, Array.getElem?_push_lt hk, Array.getElem?_eq_getElem hk]
  have h' := h.world hk (by omega) ho
  have hnew : w'.heap[w.heap.size]? = some (.cells cur ty fz) := by rw [hw]; simp
  have hb : (T.ow (.blk w.heap.size 0 c) sz n X : A).blocks = w.heap.size :: X.flatMap T.blocks := by simp [T.blocks, T.blocksL_eq]
  have hlook : ∀ i u, upd M id (some (.ow (.blk w.heap.size 0 c) sz n X)) i = some u → (i = id ∧ u = .ow (.blk w.heap.size 0 c) sz n X) ∨ (i ≠ id ∧ M i = some u) := fun i u hu => by
    by_cases hi : i = id
    · subst hi; rw [upd_same] at hu; exact .inl ⟨rfl, (Option.some.inj hu).symm⟩
    · rw [upd_ne _ _ _ _ hi] at hu; exact .inr ⟨hi, hu⟩
  refine ⟨?_, ?_, ?_, ?_, h'.wd, by simp, by simp, by simp, by simp⟩
  · intro i u hu
    rcases hlook i u hu with ⟨rfl, rfl⟩ | ⟨_, hm'⟩
    · exact .ow _ _ _ _ _ _ cur ty fz hnew hfz ⟨by omega, hs0, fun j _ hfx => by have := (h.wd.fx _ _ hfx).1; have := h.wd.sz; omega⟩ hn hm hl (fun j x hj => by rw [Nat.zero_add]; exact hcur j x hj) (fun x hx => (h'.xo x hx).1) (fun x hx => (h'.xo x hx).2)
    · exact h'.ok i u hm'
  · intro i u hu
    rcases hlook i u hu with ⟨rfl, rfl⟩ | ⟨_, hm'⟩
    · rw [hb, List.nodup_cons]
      exact ⟨fun hb' => absurd (h.xb _ hb').1 (by omega), h.xn⟩
    · exact h.nd i u hm'
  · intro i j u v hij hu hv b hbu hbv
    rcases hlook i u hu with ⟨rfl, rfl⟩ | ⟨hi, hm1⟩
    · rcases hlook j v hv with ⟨rfl, rfl⟩ | ⟨hj, hm2⟩
      · exact absurd rfl hij
      · rw [hb] at hbu
        rcases List.mem_cons.1 hbu with rfl | hbu
        · exact absurd (h.bl j v _ hm2 hbv).1 (by omega)
        · exact h.xd j v hm2 b hbv hbu
    · rcases hlook j v hv with ⟨rfl, rfl⟩ | ⟨hj, hm2⟩
      · rw [hb] at hbv
        rcases List.mem_cons.1 hbv with rfl | hbv
        · exact absurd (h.bl i u _ hm1 hbu).1 (by omega)
        · exact h.xd i u hm1 b hbu hbv
      · exact h.dj i j u v hij hm1 hm2 b hbu hbv
  · intro i u b hu hbu
    rcases hlook i u hu with ⟨rfl, rfl⟩ | ⟨hi, hm1⟩
    · rw [hb] at hbu
      rcases List.mem_cons.1 hbu with rfl | hbu
      · exact ⟨by omega, fun hs => by have := h.wd.s0 _ hs; have := h.wd.sz; omega⟩
      · exact ⟨by have := (h.xb b hbu).1; omega, (h.xb b hbu).2⟩
    · exact h'.bl i u b hm1 hbu
/-- What is in hand first is laid into a cell of a row. -/
theorem Inv.store {x : A} (h : Inv S0 w0 M (x :: X) w) {id : Nat} {t : A} {p : List Nat} {b o c sz n off : Nat} {cs : List A} (ht : M id = some t) (hg : t.get p = some (.ow (.blk b o c) sz n cs)) (ho : off < cs.length) :
    Inv S0 w0 (upd M id (some (t.put p (.ow (.blk b o c) sz n (cs.set off x))))) X (w.setCell ⟨b, o + off, none⟩ x.val) ∧ (w.cell? ⟨b, o + off, none⟩).isSome = true ∧ w.frozen? ⟨b, o + off, none⟩ = false := by
  have hokN := (h.ok id t ht).get hg
  have hbt : b ∈ t.blocks := get_own_mem hg (by simp [T.own])
  obtain ⟨hbs, hbS⟩ := h.bl id t b ht hbt
  obtain ⟨L, R, h1, h2⟩ := put_blocks (.ow (.blk b o c) sz n (cs.set off x)) hg
  have hxf : ∀ b' ∈ x.blocks, b' ∉ t.blocks := fun b' hb' hbt' => h.xd id t ht b' hbt' (by rw [List.flatMap_cons]; exact List.mem_append_left _ hb')
  have hXn := h.xn
  rw [List.flatMap_cons, List.nodup_append] at hXn
  have hcs : (T.ow (.blk b o c) sz n cs : A).blocks = b :: cs.flatMap T.blocks := by simp [T.blocks, T.blocksL_eq]
  have hcs' : (T.ow (.blk b o c) sz n (cs.set off x) : A).blocks = b :: ((cs.take off).flatMap T.blocks ++ (x.blocks ++ (cs.drop (off + 1)).flatMap T.blocks)) := by
    simp [T.blocks, T.blocksL_eq, List.set_eq_take_append_cons_drop, if_pos ho, List.flatMap_append]
  have hsplit : cs.flatMap T.blocks = (cs.take off).flatMap T.blocks ++ ((cs[off]).blocks ++ (cs.drop (off + 1)).flatMap T.blocks) := by
    conv => lhs; rw [← List.take_append_drop off cs, ← List.getElem_cons_drop ho]
    rw [List.flatMap_append, List.flatMap_cons]
  have hne : ∀ k, k ≠ b → (w.setCell ⟨b, o + off, none⟩ x.val).heap[k]? = w.heap[k]? := fun k hk => by
    simp only [World.setCell, Array.getElem?_modify]
    rw [if_neg (fun e => hk e.symm)]
  have hnewsub : ∀ b' ∈ (t.put p (.ow (.blk b o c) sz n (cs.set off x))).blocks, b' ∈ t.blocks ∨ b' ∈ x.blocks := fun b' hb' => by
    rw [h2, hcs'] at hb'
    rw [h1, hcs, hsplit]
    simp only [List.mem_append, List.mem_cons] at hb' ⊢
    rcases hb' with hb' | (hb' | hb' | hb' | hb') | hb' <;> simp [hb']
  have hszs : (w.setCell ⟨b, o + off, none⟩ x.val).heap.size = w.heap.size := by simp [World.setCell]
  have hlook : ∀ i u, upd M id (some (t.put p (.ow (.blk b o c) sz n (cs.set off x)))) i = some u → (i = id ∧ u = t.put p (.ow (.blk b o c) sz n (cs.set off x))) ∨ (i ≠ id ∧ M i = some u) := fun i u hu => by
    by_cases hi : i = id
    · subst hi; rw [upd_same] at hu; exact .inl ⟨rfl, (Option.some.inj hu).symm⟩
    · rw [upd_ne _ _ _ _ hi] at hu; exact .inr ⟨hi, hu⟩
  have hxnotb : b ∉ x.blocks := fun hb' => hxf b hb' hbt
  cases hokN with
  | ow _ _ _ _ _ _ cur ty fz k1 k2 k3 k4 k5 k6 k7 k8 k9 =>
    have hoc : o + off < cur.size := by
      have := (Array.getElem?_eq_some_iff.1 (k7 off _ (List.getElem?_eq_getElem ho))).1
      exact this
    have hcell : (w.cell? ⟨b, o + off, none⟩).isSome = true := by
      simp only [World.cell?, k1]
      simp [Array.getElem?_eq_getElem hoc]
    have hfroz : w.frozen? ⟨b, o + off, none⟩ = false := by
      simp only [World.frozen?, k1]
      have := k2 (o + off) (lt_fzTo hoc)
      simp only [Bool.and_eq_false_iff, decide_eq_false_iff_not]
      by_cases hh : fz.1 ≤ o + off
      · right; exact fun h' => this ⟨hh, h'⟩
      · left; exact hh
    have hblk : (w.setCell ⟨b, o + off, none⟩ x.val).heap[b]? = some (.cells (cur.setIfInBounds (o + off) x.val) ty fz) := by
      simp only [World.setCell, Array.getElem?_modify, if_pos rfl, k1, Option.map_some]
      simp
    have hxo := h.xo x (by simp)
    have hokx : Ok S0 w0 (w.setCell ⟨b, o + off, none⟩ x.val) x := hxo.1.frame fun b' hb' => hne b' (fun e => hxnotb (e ▸ hb'))
    have hchild : ∀ j y, cs[j]? = some y → Ok S0 w0 (w.setCell ⟨b, o + off, none⟩ x.val) y := fun j y hj => by
      refine (k8 y (List.mem_of_getElem? hj)).frame fun b' hb' => hne b' ?_
      intro e
      subst e
      have hnd := nodup_get (h.nd id t ht) hg
      rw [hcs, List.nodup_cons] at hnd
      exact hnd.1 (List.mem_flatMap.2 ⟨y, List.mem_of_getElem? hj, hb'⟩)
    have hoff : cs[off]? = some cs[off] := List.getElem?_eq_getElem ho
    have hokN' : Ok S0 w0 (w.setCell ⟨b, o + off, none⟩ x.val) (.ow (.blk b o c) sz n (cs.set off x)) := by
      refine .ow b o c sz n _ _ ty fz hblk (by simpa using k2) (by simpa using k3) k4 k5 (by rw [List.length_set]; exact k6) (fun j y hj => ?_) (fun y hy => ?_) (fun y hy => ?_)
      · by_cases hjo : j = off
        · subst hjo
          rw [List.getElem?_set_self ho] at hj
          rw [← Option.some.inj hj, Array.getElem?_setIfInBounds_self_of_lt hoc]
        · rw [List.getElem?_set_ne (by omega)] at hj
          rw [Array.getElem?_setIfInBounds_ne (by omega)]
          exact k7 j y hj
      · rcases set_ok (y := x) hoff y hy with rfl | ⟨j, _, hj⟩
        · exact hokx
        · exact hchild j y hj
      · rcases set_ok (y := x) hoff y hy with rfl | ⟨j, _, hj⟩
        · exact hxo.2
        · exact k9 y (List.mem_of_getElem? hj)
    refine ⟨⟨?_, ?_, ?_, ?_, ⟨?_, h.wd.s0, h.wd.tb, by rw [hszs]; exact h.wd.sz, h.wd.rk, ?_, h.wd.oo⟩, ?_, hXn.2.1, ?_, ?_⟩, hcell, hfroz⟩
    · intro i u hu
      rcases hlook i u hu with ⟨rfl, rfl⟩ | ⟨hi, hm⟩
      · refine (h.ok i t ht).put (h.nd i t ht) hg hokN' rfl rfl (fun b' hb' hnb => hne b' (fun e => hnb ?_))
        subst e
        rw [hcs]; exact List.mem_cons_self
      · exact (h.ok i u hm).frame fun b' hb' => hne b' (fun e => h.dj i id u t hi hm ht b' hb' (e ▸ hbt))
    · intro i u hu
      rcases hlook i u hu with ⟨rfl, rfl⟩ | ⟨hi, hm⟩
      · have hn := h.nd i t ht
        rw [h1, hcs, hsplit] at hn
        rw [h2, hcs']
        have hxn := hXn.1
        have hd : ∀ b' ∈ x.blocks, b' ∉ L ++ ((b :: ((cs.take off).flatMap T.blocks ++ ((cs[off]).blocks ++ (cs.drop (off + 1)).flatMap T.blocks))) ++ R) := fun b' hb' => by
          have := hxf b' hb'
          rwa [h1, hcs, hsplit] at this
        simp only [List.nodup_append, List.nodup_cons, List.mem_append, List.mem_cons, not_or, ne_eq] at hn hd ⊢
        refine ⟨hn.1, ⟨⟨⟨?_, ?_, ?_⟩, hn.2.1.1.2.1, ⟨hxn, hn.2.1.1.2.2.1.2.1, ?_⟩, ?_⟩, hn.2.1.2.1, ?_⟩, ?_⟩
        · exact hn.2.1.1.1.1
        · exact hxnotb
        · exact hn.2.1.1.1.2.2
        · intro a ha b' hb' e; subst e; exact (hd a ha).2.1.2.2.2 hb'
        · intro a ha b' hb' e
          subst e
          rcases hb' with hb' | hb'
          · exact (hd a hb').2.1.2.1 ha
          · exact hn.2.1.1.2.2.2 a ha a (.inr hb') rfl
        · intro a ha b' hb' e
          subst e
          rcases ha with rfl | ha | ha | ha
          · exact hn.2.1.2.2 a (.inl rfl) a hb' rfl
          · exact hn.2.1.2.2 a (.inr (.inl ha)) a hb' rfl
          · exact (hd a ha).2.2 hb'
          · exact hn.2.1.2.2 a (.inr (.inr (.inr ha))) a hb' rfl
        · intro a ha b' hb' e
          subst e
          rcases hb' with (rfl | hb' | hb' | hb') | hb'
          · exact hn.2.2 a ha a (.inl (.inl rfl)) rfl
          · exact hn.2.2 a ha a (.inl (.inr (.inl hb'))) rfl
          · exact (hd a hb').1 ha
          · exact hn.2.2 a ha a (.inl (.inr (.inr (.inr hb')))) rfl
          · exact hn.2.2 a ha a (.inr hb') rfl
      · exact h.nd i u hm
    · intro i j u v hij hu hv b' hbu hbv
      rcases hlook i u hu with ⟨rfl, rfl⟩ | ⟨hi, hm1⟩
      · rcases hlook j v hv with ⟨rfl, rfl⟩ | ⟨hj, hm2⟩
        · exact absurd rfl hij
        · rcases hnewsub b' hbu with hb' | hb'
          · exact h.dj i j t v hij ht hm2 b' hb' hbv
          · exact h.xd j v hm2 b' hbv (by rw [List.flatMap_cons]; exact List.mem_append_left _ hb')
      · rcases hlook j v hv with ⟨rfl, rfl⟩ | ⟨hj, hm2⟩
        · rcases hnewsub b' hbv with hb' | hb'
          · exact h.dj i j u t hij hm1 ht b' hbu hb'
          · exact h.xd i u hm1 b' hbu (by rw [List.flatMap_cons]; exact List.mem_append_left _ hb')
        · exact h.dj i j u v hij hm1 hm2 b' hbu hbv
    · intro i u b' hu hbu
      rw [hszs]
      rcases hlook i u hu with ⟨rfl, rfl⟩ | ⟨hi, hm1⟩
      · rcases hnewsub b' hbu with hb' | hb'
        · exact h.bl i t b' ht hb'
        · exact h.xb b' (by rw [List.flatMap_cons]; exact List.mem_append_left _ hb')
      · exact h.bl i u b' hm1 hbu
    · intro k hk
      rw [hne k (fun e => hbS (e ▸ hk))]
      exact h.wd.fr k hk
    · intro b' j hfx
      obtain ⟨h1_, h2_⟩ := h.wd.fx b' j hfx
      refine ⟨h1_, ?_⟩
      rw [← h2_]
      refine World.cell?_setCell_other _ _ _ _ (fun e => ?_)
      simp only [Addr.mk.injEq, and_true] at e
      obtain ⟨rfl, rfl⟩ := e
      exact k3.2.2 off (by rw [k6] at ho; exact Nat.lt_of_lt_of_le ho (Nat.mul_le_mul_right _ k4)) hfx
    · intro y hy
      refine ⟨(h.xo y (List.mem_cons_of_mem _ hy)).1.frame fun b' hb' => hne b' (fun e => ?_), (h.xo y (List.mem_cons_of_mem _ hy)).2⟩
      subst e
      exact h.xd id t ht b' hbt (by rw [List.flatMap_cons]; exact List.mem_append_right _ (List.mem_flatMap.2 ⟨y, hy, hb'⟩))
    · intro i u hu b' hbu hbX
      rcases hlook i u hu with ⟨rfl, rfl⟩ | ⟨hi, hm1⟩
      · rcases hnewsub b' hbu with hb' | hb'
        · exact h.xd i t ht b' hb' (by rw [List.flatMap_cons]; exact List.mem_append_right _ hbX)
        · exact hXn.2.2 b' hb' b' hbX rfl
      · exact h.xd i u hm1 b' hbu (by rw [List.flatMap_cons]; exact List.mem_append_right _ hbX)
    · intro b' hb'
      rw [hszs]
      exact h.xb b' (by rw [List.flatMap_cons]; exact List.mem_append_right _ hb')
end
end Go.Proofs.Ytciieaidbiejmaa.DM

/-
  DM 4. What each operation does to values: the step of the machine of values.
-/
namespace Go.Proofs.Ytciieaidbiejmaa.DM
set_option linter.unusedVariables false
set_option linter.unusedSimpArgs false
variable (P : Program)
def mapO {α β : Type} (f : α → Option β) : List α → Option (List β)
  | [] => some []
  | x :: xs => match f x, mapO f xs with
    | some y, some ys => some (y :: ys)
    | _, _ => none
def szT (t : TypeId) : Option Nat := (P.info? t).map (·.size)
/-- Is a variable of the type one of several cells? -/
def aggT (t : TypeId) : Option Bool := (P.underlying t).map fun | .struct _ => true | .array _ _ => true | _ => false
def zcD (v : Value) : Option D := if plain v then some (.sc v) else match v with | .slice none 0 0 => some (.ow () 0 0 []) | _ => none
def zcC (v : Value) : Option DC := if plain v then some (.t (.sc v)) else match v with | .slice none 0 0 => some .nl | _ => none
def zeroT (t : TypeId) : Option (List Value) := ((P.info? t).bind (·.zero)).map (·.cells.toList)
def cst (v : Value) : DV := match v with
  | .agg cs => match mapO zcC cs.toList with | some l => .v (.agg l) | none => .un
  | v => match zcC v with | some c => .v (.one c) | none => .un
def ev (e : Nat → DV) : Operand → DV
  | .tmp t => e t
  | .const v => cst v
  | .func f => .v (.one (.fn f []))
  | .global _ => .un
def asSc : DV → Option Value
  | .v (.one (.t (.sc v))) => some v
  | _ => none
def asInt : DV → Option Int
  | .v (.one (.t (.sc (.int _ n)))) => some n
  | _ => none
/-- The cells of a value. -/
def dcs : DV → Option (List DC)
  | .v (.one c) => some [c]
  | .v (.agg cs) => some cs
  | _ => none
def FS.set (s : FS) (dst : Option Nat) (v : DV) : FS := match dst with
  | some d => ⟨upd s.e d v, s.h, s.g⟩
  | none => s
def dstOk (nt : Nat) (dst : Option Nat) : Bool := match dst with
  | some d => decide (d < nt)
  | none => true
def FS.poison (s : FS) (id : Nat) (p : List Nat) : FS := ⟨fun i => pzV id p (s.e i), s.h, fun i => pzC id p (s.g i)⟩
/-- A cell az it is read out of place i of a row. -/
def rdC (id : Nat) (p : List Nat) (i : Nat) : D → Option DC
  | .sc v => some (.t (.sc v))
  | .ro _ r => some (.t r)
  | .ow _ _ n _ => some (.sl id (p ++ [i]) 0 n)
  | _ => none
def rdCs (id : Nat) (p : List Nat) : Nat → List D → Option (List DC)
  | _, [] => some []
  | i, x :: xs => match rdC id p i x, rdCs id p (i + 1) xs with
    | some c, some cs => some (c :: cs)
    | _, _ => none
/-- A row is taken out of its place. -/
def FS.take (s : FS) (id : Nat) (p : List Nat) (root : D) : FS := ⟨fun i => pzV id p (s.e i), upd s.h id (match p with | [] => none | _ => some (root.put p (.gone ()))), fun i => pzC id p (s.g i)⟩
def absorb (s : FS) : DC → Option (D × FS)
  | .t (.sc v) => some (.sc v, s)
  | .t r => some (.ro () r, s)
  | .nl => some (.ow () 0 0 [], s)
  | .un => some (.gone (), s)
  | .sl id p off n => match s.h id with
    | some root => match root.get p with
      | some (.ow _ sz m cs) => if off + n * sz ≤ cs.length then some (.ow () sz n ((cs.drop off).take (n * sz)), s.take id p root) else none
      | _ => none
    | none => none
  | _ => none
/-- What is no more referred to when a cell has been taken. -/
def pzOf : DC → DC → DC
  | .sl id p _ _ => pzC id p
  | _ => fun c => c
def absorbL : FS → List DC → Option (List D × FS)
  | s, [] => some ([], s)
  | s, c :: cs => match absorb s c with
    | some (x, s1) => match absorbL s1 (cs.map (pzOf c)) with
      | some (xs, s2) => some (x :: xs, s2)
      | none => none
    | none => none
termination_by _ cs => cs.length
decreasing_by simp
def isOw : D → Bool
  | .ow .. => true
  | _ => false
/-- A value is laid into one cell of a row; what is no more referred to. -/
def storeC (s : FS) (id : Nat) (p : List Nat) (off : Nat) (c : DC) : Option (FS × (DC → DC)) :=
  match absorb s c, pzOf c (.pt id p off) with
  | some (x, s1), .pt _ _ _ => match s1.h id with
    | some root => match root.get p with
      | some (.ow _ sz n cs) => match cs[off]? with
        | some old => if isOw old then some (⟨fun i => pzV id (p ++ [off]) (s1.e i), upd s1.h id (some (root.put p (.ow () sz n (cs.set off x)))), fun i => pzC id (p ++ [off]) (s1.g i)⟩, fun d => pzC id (p ++ [off]) (pzOf c d))
          else some (⟨s1.e, upd s1.h id (some (root.put p (.ow () sz n (cs.set off x)))), s1.g⟩, pzOf c)
        | none => none
      | _ => none
    | none => none
  | _, _ => none
def storeL : FS → Nat → List Nat → Nat → List DC → Option FS
  | s, _, _, _, [] => some s
  | s, id, p, off, c :: cs => match storeC s id p off c with
    | some (s1, f) => storeL s1 id p (off + 1) (cs.map f)
    | none => none
termination_by _ _ _ _ cs => cs.length
decreasing_by simp
/-- A new row, of what is in hand. -/
def FS.row (s : FS) (d : Nat) (v : DV) (sz n : Nat) (xs : List D) : Option FS :=
  match s.h d with
  | none => some ⟨upd s.e d v, upd s.h d (some (.ow () sz n xs)), s.g⟩
  | some _ => none
def fillC (place : Nat → Option (Nat × Nat)) (z : List DC) : List (Nat × List DC) → Option (List DC)
  | [] => some z
  | (i, cs) :: rest => match place i with
    | some (off, size) => if cs.length = size ∧ off + size ≤ z.length then fillC place (z.take off ++ (cs ++ z.drop (off + size))) rest else none
    | none => none
def partsC (e : Nat → DV) : List (Nat × Operand) → Option (List (Nat × List DC))
  | [] => some []
  | (i, x) :: r => match dcs (ev e x), partsC e r with
    | some cs, some l => some ((i, cs) :: l)
    | _, _ => none
def placesT (fs : List Field) : Option (List (Nat × Nat)) := mapO (fun f => (szT P f.type).map fun n => (f.offset, n)) fs
def intBin (op : BinOp) (k : IntKind) (a b : Int) : Option Value := match op with
  | .add => some (.int k (k.wrap (a + b)))
  | .sub => some (.int k (k.wrap (a - b)))
  | .mul => some (.int k (k.wrap (a * b)))
  | .quo => if b = 0 then none else some (.int k (k.wrap (a.tdiv b)))
  | .rem => if b = 0 then none else some (.int k (a.tmod b))
  | .and => some (.int k (k.wrap (BitVec.ofInt k.bits a &&& BitVec.ofInt k.bits b).toNat))
  | .or => some (.int k (k.wrap (BitVec.ofInt k.bits a ||| BitVec.ofInt k.bits b).toNat))
  | .xor => some (.int k (k.wrap (BitVec.ofInt k.bits a ^^^ BitVec.ofInt k.bits b).toNat))
  | .eql => some (.bool (a == b))
  | .neq => some (.bool (a != b))
  | .lss => some (.bool (decide (a < b)))
  | .leq => some (.bool (decide (a ≤ b)))
  | .gtr => some (.bool (decide (a > b)))
  | .geq => some (.bool (decide (a ≥ b)))
  | _ => none
def strBin (op : BinOp) (x y : ByteArray) : Option Value := match op with
  | .add => if ((x.size + y.size : Nat) : Int) > IntKind.i64.max then none else some (.string (x ++ y))
  | .eql => some (.bool (x.toList == y.toList))
  | .neq => some (.bool (!(x.toList == y.toList)))
  | .lss => some (.bool (Op.bytesLess x.toList y.toList))
  | .leq => some (.bool (Op.bytesLess x.toList y.toList || x.toList == y.toList))
  | .gtr => some (.bool (!(Op.bytesLess x.toList y.toList || x.toList == y.toList)))
  | .geq => some (.bool (!(Op.bytesLess x.toList y.toList)))
  | _ => none
def scBin (op : BinOp) (ty : TypeId) : Value → Value → Option Value
  | .int k a, .int k' b => match op with
    | .shl => if b < 0 then none else some (.int k (k.wrap (a * 2 ^ (min b.toNat k.bits))))
    | .shr => if b < 0 then none else some (.int k (a.fdiv (2 ^ (min b.toNat k.bits))))
    | _ => if k = k' then intBin op k a b else none
  | .string x, .string y => strBin op x y
  | .bool x, .bool y => match P.underlying ty, op with
    | some .bool, .eql => some (.bool (x == y))
    | some .bool, .neq => some (.bool (!(x == y)))
    | _, _ => none
  | _, _ => none
def scUn (op : UnOp) : Value → Option Value
  | .bool b => match op with | .not => some (.bool (!b)) | _ => none
  | .int k n => match op with | .neg => some (.int k (k.wrap (0 - n))) | _ => none
  | _ => none
def sliceB (lo hi : Option DV) (n : Nat) : Option (Nat × Nat) :=
  match (match hi with | some v => asInt v | none => some (n : Int)), (match lo with | some v => asInt v | none => some 0) with
  | some h, some l => if 0 ≤ h ∧ h ≤ n ∧ 0 ≤ l ∧ l ≤ h then some (l.toNat, h.toNat) else none
  | _, _ => none
def elemT (t : TypeId) : Option (TypeId × Nat) := match P.underlying t with
  | some (.slice e) => (szT P e).map fun n => (e, n)
  | _ => none
/-- What an operation yields that changes nothing but its own temporary. -/
def quietV (s : FS) : Op → Option DV
  | .move x => some (ev s.e x)
  | .assign x => some (ev s.e x)
  | .pick c a b => match asSc (ev s.e c) with
    | some (.bool t) => some (if t then ev s.e a else ev s.e b)
    | _ => none
  | .build t parts => match zeroT P t, P.underlying t, partsC s.e parts.toList with
    | some z, some (.struct fs), some ps => match mapO zcC z, placesT P fs.toList with
      | some zs, some pl => (fillC (pl[·]?) zs ps).map fun cs => .v (.agg cs)
      | _, _ => none
    | _, _, _ => none
  | .load t x => match ev s.e x, szT P t, aggT P t with
    | .v (.one (.pt id p off)), some k, some g => match s.h id with
      | some root => match root.get p with
        | some (.ow _ _ _ cs) => if g then (if off + k ≤ cs.length then (rdCs id p off ((cs.drop off).take k)).map fun l => .v (.agg l) else none)
          else match cs[off]? with
            | some c => (rdC id p off c).map fun c => .v (.one c)
            | none => none
        | _ => none
      | none => none
    | .v (.one (.rp cs)), some k, some g => if g then (if k ≤ cs.length then some (.v (.agg ((cs.take k).map .t))) else none)
        else match cs[0]? with
          | some c => some (.v (.one (.t c)))
          | none => none
    | _, _, _ => none
  | .nilCheck x => match ev s.e x with
    | .v (.one (.pt id p off)) => some (.v (.one (.pt id p off)))
    | .v (.one (.rp cs)) => some (.v (.one (.rp cs)))
    | _ => none
  | .binOp op ty x y _ => match asSc (ev s.e x), asSc (ev s.e y) with
    | some a, some b => (scBin P op ty a b).map fun v => .v (.one (.t (.sc v)))
    | _, _ => none
  | .unOp op _ x => match asSc (ev s.e x) with
    | some a => (scUn op a).map fun v => .v (.one (.t (.sc v)))
    | none => none
  | .convert src dst x => match asSc (ev s.e x), P.underlying src, P.underlying dst with
    | some (.int _ n), some _, some (.int k) => some (.v (.one (.t (.sc (.int k (k.wrap n))))))
    | some (.string b), some _, some .string => some (.v (.one (.t (.sc (.string b)))))
    | _, _, _ => none
  | .slice t x lo hi none => match ev s.e x with
    | .v (.one (.t (.sc (.string b)))) => match P.underlying t, sliceB (lo.map (ev s.e)) (hi.map (ev s.e)) b.size with
      | some .string, some (l, h) => some (.v (.one (.t (.sc (.string (b.extract l h))))))
      | _, _ => none
    | .v (.one (.t (.sl n cs))) => match elemT P t, sliceB (lo.map (ev s.e)) (hi.map (ev s.e)) n with
      | some (_, sz), some (l, h) => if cs.length = n * sz then some (.v (.one (.t (.sl (h - l) ((cs.drop (l * sz)).take ((h - l) * sz)))))) else none
      | _, _ => none
    | .v (.one (.sl id p off n)) => match elemT P t, sliceB (lo.map (ev s.e)) (hi.map (ev s.e)) n, s.h id with
      | some (_, sz), some (l, h), some root => match root.get p with
        | some (.ow _ sz' _ _) => if sz = sz' ∧ 0 < sz then some (.v (.one (.sl id p (off + l * sz) (h - l)))) else none
        | _ => none
      | _, _, _ => none
    | .v (.one .nl) => match elemT P t, sliceB (lo.map (ev s.e)) (hi.map (ev s.e)) 0 with
      | some _, some _ => some (.v (.one .nl))
      | _, _ => none
    | _ => none
  | .fieldAddr t x f => match P.underlying t with
    | some (.struct fs) => match fs[f]? with
      | some fd => match szT P fd.type, ev s.e x with
        | some (_ + 1), .v (.one (.pt id p off)) => some (.v (.one (.pt id p (off + fd.offset))))
        | some (_ + 1), .v (.one (.rp cs)) => some (.v (.one (.rp (cs.drop fd.offset))))
        | _, _ => none
      | none => none
    | _ => none
  | .indexAddr t x i => match elemT P t, asInt (ev s.e i), ev s.e x with
    | some (_, sz), some n, .v (.one (.sl id p off m)) => if 0 ≤ n ∧ n < m then some (.v (.one (.pt id p (off + n.toNat * sz)))) else none
    | some (_, sz), some n, .v (.one (.t (.sl m cs))) => if 0 ≤ n ∧ n < m then some (.v (.one (.rp (cs.drop (n.toNat * sz))))) else none
    | _, _, _ => none
  | .index t x i => match P.underlying t, asInt (ev s.e i), asSc (ev s.e x) with
    | some .string, some n, some (.string b) => if 0 ≤ n then (match b[n.toNat]? with | some c => some (.v (.one (.t (.sc (.int .u8 c.toNat))))) | none => none) else none
    | _, _, _ => none
  | .extract x i => match ev s.e x with
    | .tup xs => match xs[i]? with | some c => some (.v c) | none => none
    | _ => none
  | .field t x f => match P.underlying t with
    | some (.struct fs) => match fs[f]? with
      | some fd => match szT P fd.type, aggT P fd.type, ev s.e x with
        | some k, some true, .v (.agg cs) => if fd.offset + k ≤ cs.length then some (.v (.agg ((cs.drop fd.offset).take k))) else none
        | some _, some false, .v (.agg cs) => match cs[fd.offset]? with | some c => some (.v (.one c)) | none => none
        | _, _, _ => none
      | none => none
    | _ => none
  | .call { callee := .builtin .len, args, argTypes } => match args.toList, argTypes.toList with
    | [x], [t] => match ev s.e x, P.underlying t with
      | .v (.one (.t (.sc (.string b)))), some .string => some (.v (.one (.t (.sc (.int .i64 b.size)))))
      | .v (.one (.t (.sl n _))), some (.slice _) => some (.v (.one (.t (.sc (.int .i64 n)))))
      | .v (.one (.sl _ _ _ n)), some (.slice _) => some (.v (.one (.t (.sc (.int .i64 n)))))
      | .v (.one .nl), some (.slice _) => some (.v (.one (.t (.sc (.int .i64 0)))))
      | _, _ => none
    | _, _ => none
  | _ => none
end Go.Proofs.Ytciieaidbiejmaa.DM

/-
  DM 5. The quiet operations: the model's machine yields what the machine of values yields.
-/
namespace Go.Proofs.Ytciieaidbiejmaa.DM
set_option linter.unusedVariables false
set_option linter.unusedSimpArgs false
theorem mapO_some {α β : Type} {f : α → Option β} : ∀ {l : List α} {r : List β}, mapO f l = some r → r.length = l.length ∧ ∀ (i : Nat) (x : α) (y : β), l[i]? = some x → r[i]? = some y → f x = some y
  | [], r, h => by simp only [mapO, Option.some.injEq] at h; subst h; exact ⟨rfl, fun i x y hx => by simp at hx⟩
  | x :: xs, r, h => by
    simp only [mapO] at h
    split at h
    · rename_i y ys h1 h2
      simp only [Option.some.injEq] at h
      subst h
      obtain ⟨e1, e2⟩ := mapO_some h2
      refine ⟨by simp [e1], fun i a b ha hb => ?_⟩
      cases i with
      | zero => simp at ha hb; subst ha; subst hb; exact h1
      | succ i => exact e2 i a b (by simpa using ha) (by simpa using hb)
    · cases h
section
variable {S0 : Fr} {w0 w w' : World} {M M' : Heap} {P : Program}
theorem plain_one {v : Value} (h : plain v = true) : v.oneCell' = true := by cases v <;> simp_all [plain, Value.oneCell']
theorem zcC_ok {v : Value} {c : DC} (h : zcC v = some c) : RelC S0 w0 M c v ∧ v.oneCell' = true := by
  unfold zcC at h
  split at h
  · rename_i hp
    obtain rfl := Option.some.inj h
    exact ⟨.t _ _ (.sc v hp), plain_one hp⟩
  · split at h
    · obtain rfl := Option.some.inj h
      exact ⟨.nl none, rfl⟩
    · cases h
theorem cst_ok (v : Value) : RelV S0 w0 M (cst v) v := by
  unfold cst
  split
  · rename_i cs
    split
    · rename_i l hl
      obtain ⟨h1, h2⟩ := mapO_some hl
      refine ⟨cs.toList, by simp, h1.symm, fun i c u hc hu => (zcC_ok (h2 i u c hu hc)).1, fun u hu => ?_⟩
      obtain ⟨i, hi, rfl⟩ := List.getElem_of_mem hu
      exact (zcC_ok (S0 := S0) (w0 := w0) (M := M) (h2 i _ _ (List.getElem?_eq_getElem hi) (List.getElem?_eq_getElem (by omega)))).2
    · trivial
  · split
    · rename_i c hc
      exact zcC_ok hc
    · trivial
theorem ev_ok {nt : Nat} {s : FS} {a : Act} (hR : Rel S0 w0 nt s M a w) (x : Operand) : RelV S0 w0 M (ev s.e x) (a.eval x) := by
  cases x with
  | tmp t => exact hR.en t
  | const v => exact cst_ok v
  | func f => exact ⟨.fn f [] [] rfl (fun i id a h => by simp at h), rfl⟩
  | global g => trivial
theorem asSc_ok {x : DV} {v u : Value} (h : asSc x = some v) (hr : RelV S0 w0 M x u) : u = v ∧ plain v = true := by
  unfold asSc at h
  split at h
  · obtain rfl := Option.some.inj h
    cases hr.1 with
    | t r v h => cases h with
      | sc v hv => exact ⟨rfl, hv⟩
  · cases h
theorem asInt_ok {x : DV} {n : Int} {u : Value} (h : asInt x = some n) (hr : RelV S0 w0 M x u) : ∃ k, u = .int k n := by
  unfold asInt at h
  split at h
  · rename_i k m
    obtain rfl := Option.some.inj h
    cases hr.1 with
    | t r v h => cases h with
      | sc v hv => exact ⟨_, rfl⟩
  · cases h
theorem sc_ok {v : Value} (h : plain v = true) : RelV S0 w0 M (.v (.one (.t (.sc v)))) v := ⟨.t _ _ (.sc v h), plain_one h⟩
theorem dcs_ok {x : DV} {cs : List DC} {u : Value} (h : dcs x = some cs) (hr : RelV S0 w0 M x u) :
    u.cells.toList.length = cs.length ∧ (∀ (i : Nat) (c : DC) (v : Value), cs[i]? = some c → u.cells.toList[i]? = some v → RelC S0 w0 M c v) ∧ ∀ v ∈ u.cells.toList, v.oneCell' = true := by
  unfold dcs at h
  split at h
  · rename_i c
    obtain rfl := Option.some.inj h
    obtain ⟨h1, h2⟩ := hr
    have hc : u.cells.toList = [u] := by cases u <;> simp_all [Value.cells, Value.oneCell']
    rw [hc]
    refine ⟨rfl, fun i c' v hc' hv => ?_, fun v hv => by simp at hv; subst hv; exact h2⟩
    cases i with
    | zero => simp at hc' hv; subst hc'; subst hv; exact h1
    | succ i => simp at hc'
  · rename_i cs'
    obtain rfl := Option.some.inj h
    obtain ⟨vs, rfl, h1, h2, h3⟩ := hr
    simp only [Value.cells]
    exact ⟨h1, h2, h3⟩
  · cases h
theorem szT_ok {t : TypeId} {n : Nat} (h : szT P t = some n) (w : World) : (sizeOf t).run P w = .ok n w := by
  unfold szT at h
  obtain ⟨i, hi, rfl⟩ := Option.map_eq_some_iff.1 h
  simp [sizeOf, typeInfo, hi]
theorem zeroT_ok {t : TypeId} {z : List Value} (h : zeroT P t = some z) : ∃ v, (∀ w, (zeroValue t).run P w = .ok v w) ∧ v.cells.toList = z := by
  unfold zeroT at h
  obtain ⟨v, hv, rfl⟩ := Option.map_eq_some_iff.1 h
  obtain ⟨i, hi, hz⟩ := Option.bind_eq_some_iff.1 hv
  exact ⟨v, fun w => by simp [zeroValue, typeInfo, hi, hz], rfl⟩
theorem aggT_ok {t : TypeId} {g : Bool} (h : aggT P t = some g) (w : World) : (isAgg t).run P w = .ok g w := by
  unfold aggT at h
  obtain ⟨d, hd, rfl⟩ := Option.map_eq_some_iff.1 h
  simp only [isAgg, Sem.run_bind, run_underlying hd, Result.andThen_ok]
  cases d <;> rfl
theorem elemT_ok {t e : TypeId} {n : Nat} (h : elemT P t = some (e, n)) : P.underlying t = some (.slice e) ∧ szT P e = some n := by
  unfold elemT at h
  split at h
  · rename_i e' he
    obtain ⟨m, hm, hh⟩ := Option.map_eq_some_iff.1 h
    simp only [Prod.mk.injEq] at hh
    obtain ⟨rfl, rfl⟩ := hh
    exact ⟨he, hm⟩
  · cases h
theorem intBin_ok {op : BinOp} {k : IntKind} {x y : Int} {r : Value} (h : intBin op k x y = some r) (w : World) (ty : TypeId) :
    (binOp op ty (.int k x) (.int k y)).run P w = .ok r w ∧ plain r = true := by
  cases op <;> simp only [intBin, Option.some.injEq, reduceCtorEq] at h <;> first
    | (subst h; exact ⟨by simp [binOp, Op.intArith, Op.intCmp, Op.intBits], rfl⟩)
    | (split at h
       · cases h
       · rename_i hb; obtain rfl := Option.some.inj h; exact ⟨by simp [binOp, Op.intDiv, hb], rfl⟩)
theorem strBin_ok {op : BinOp} {x y : ByteArray} {r : Value} (h : strBin op x y = some r) (w : World) (ty : TypeId) :
    (binOp op ty (.string x) (.string y)).run P w = .ok r w ∧ plain r = true := by
  cases op <;> simp only [strBin, Option.some.injEq, reduceCtorEq] at h <;> first
    | (subst h; exact ⟨by simp [binOp, Op.stringOp], rfl⟩)
    | (split at h
       · cases h
       · rename_i hb; obtain rfl := Option.some.inj h; exact ⟨by simp only [binOp, Op.stringOp]; rw [if_neg hb]; rfl, rfl⟩)
theorem eqGuard_plain {op : BinOp} {t : TypeId} {x y : Operand} {a b : Value} (ha : plain a = true) (w : World) : (eqGuard op t x y a b).run P w = .ok () w := by
  unfold eqGuard
  split <;> (cases a <;> first | (simp [plain] at ha; done) | simp)
theorem eq_bool {ty : TypeId} (hu : P.underlying ty = some .bool) (x y : Bool) (w : World) : (Op.equal ty (.bool x) (.bool y)).run P w = .ok (x == y) w := by
  show (Op.equalIn (9999 + 1) ty (.bool x) (.bool y)).run P w = _
  rw [Op.equalIn]
  simp only [Sem.run_bind, run_underlying hu, Result.andThen_ok]
  rfl
theorem scBin_ok {op : BinOp} {ty : TypeId} {x y r : Value} (h : scBin P op ty x y = some r) (w : World) : (binOp op ty x y).run P w = .ok r w ∧ plain r = true := by
  unfold scBin at h
  split at h
  · rename_i k a k' b
    split at h
    · split at h
      · cases h
      · rename_i hb
        obtain rfl := Option.some.inj h
        exact ⟨by simp [binOp, Op.shift, hb], rfl⟩
    · split at h
      · cases h
      · rename_i hb
        obtain rfl := Option.some.inj h
        exact ⟨by simp [binOp, Op.shift, hb], rfl⟩
    · split at h
      · rename_i hk
        subst hk
        exact intBin_ok h w ty
      · cases h
  · exact strBin_ok h w ty
  · rename_i x y
    split at h
    · rename_i hu
      obtain rfl := Option.some.inj h
      exact ⟨by show (do pure (Value.bool (← Op.equal ty (.bool x) (.bool y))) : Sem Value).run P w = _; simp only [Sem.run_bind, eq_bool hu, Result.andThen_ok]; rfl, rfl⟩
    · rename_i hu
      obtain rfl := Option.some.inj h
      exact ⟨by show (do pure (Value.bool (!(← Op.equal ty (.bool x) (.bool y)))) : Sem Value).run P w = _; simp only [Sem.run_bind, eq_bool hu, Result.andThen_ok]; rfl, rfl⟩
    · cases h
  · cases h
theorem scUn_ok {op : UnOp} {x r : Value} (h : scUn op x = some r) (w : World) : (Op.unary op x).run P w = .ok r w ∧ plain r = true := by
  unfold scUn at h
  split at h
  · split at h
    · obtain rfl := Option.some.inj h; exact ⟨rfl, rfl⟩
    · cases h
  · split at h
    · obtain rfl := Option.some.inj h; exact ⟨by simp [Op.unary, Op.intArith], rfl⟩
    · cases h
  · cases h
end
end Go.Proofs.Ytciieaidbiejmaa.DM

/-
  DM 6. The quiet operations, one by one: the model yields what the machine of values yields.
-/
namespace Go.Proofs.Ytciieaidbiejmaa.DM
set_option linter.unusedVariables false
set_option linter.unusedSimpArgs false
theorem get_append {α β : Type} : ∀ (p : List Nat) (i : Nat) (t x : T α β), t.get p = some x → t.get (p ++ [i]) = x.cells[i]?
  | [], i, t, x, h => by
    simp [T.get] at h; subst h
    simp only [List.nil_append, T.get]
    cases t.cells[i]? <;> rfl
  | j :: p, i, t, x, h => by
    simp only [T.get, List.cons_append] at h ⊢
    cases hc : t.cells[j]? with
    | none => rw [hc] at h; cases h
    | some c => rw [hc] at h; exact get_append p i c x h
section
variable {S0 : Fr} {w0 w w' : World} {M M' : Heap} {P : Program} {nt : Nat} {s : FS} {a : Act}
theorem add_eq (b o n : Nat) : (⟨b, o, none⟩ : Addr).add n = ⟨b, o + n, none⟩ := by unfold Addr.add; split <;> simp_all
theorem addr_eq {a : Addr} (h : a.spot = none) (n : Nat) : a.add n = ⟨a.block, a.off + n, none⟩ := by
  obtain ⟨b, o, s⟩ := a
  simp only at h
  subst h
  exact add_eq b o n
/-- A node of the heap of values stands for a node of memory. -/
theorem node_ok {X : List A} (hR : RelX S0 w0 nt s M X a w) {id : Nat} {root : D} {p : List Nat} {x : D} (hr : s.h id = some root) (hg : root.get p = some x) : ∃ y, at_ M id p y ∧ er y = x ∧ Ok S0 w0 w y := by
  have h := hR.er id
  rw [hr] at h
  cases hm : M id with
  | none => rw [hm] at h; cases h
  | some t =>
    rw [hm] at h
    have hroot : root = er t := by simpa using h
    subst hroot
    unfold er at hg
    rw [T.get_map] at hg
    obtain ⟨y, hy, rfl⟩ := Option.map_eq_some_iff.1 hg
    exact ⟨y, ⟨t, hm, hy⟩, rfl, (hR.inv.ok id t hm).get hy⟩
theorem er_ow {y : A} {sz n : Nat} {cs : List D} (h : er y = .ow () sz n cs) : ∃ d csA, y = .ow d sz n csA ∧ csA.map er = cs := by
  cases y with
  | ow d sz' n' csA =>
    simp only [er, T.map, T.mapL_eq, T.ow.injEq] at h
    obtain ⟨_, rfl, rfl, h⟩ := h
    exact ⟨d, csA, rfl, h⟩
  | _ => simp [er, T.map] at h
theorem at_unique {id : Nat} {p : List Nat} {x y : A} (h1 : at_ M id p x) (h2 : at_ M id p y) : x = y := by
  obtain ⟨t, ht, hx⟩ := h1
  obtain ⟨t', ht', hy⟩ := h2
  rw [ht] at ht'
  obtain rfl := Option.some.inj ht'
  rw [hx] at hy
  exact Option.some.inj hy
theorem at_child {id : Nat} {p : List Nat} {x y : A} {i : Nat} (h : at_ M id p x) (hy : x.cells[i]? = some y) : at_ M id (p ++ [i]) y := by
  obtain ⟨t, ht, hx⟩ := h
  exact ⟨t, ht, by rw [get_append p i t x hx]; exact hy⟩
theorem rdC_ok {id : Nat} {p : List Nat} {i : Nat} {y : A} {c : DC} (hat : at_ M id (p ++ [i]) y) (hok : Ok S0 w0 w y) (h : rdC id p i (er y) = some c) : RelC S0 w0 M c y.val ∧ y.val.oneCell' = true := by
  cases y with
  | sc v =>
    simp only [er, T.map, rdC, Option.some.injEq] at h
    subst h
    cases hok with
    | sc v hv => exact ⟨.t _ _ (.sc v hv), plain_one hv⟩
  | ro u r =>
    simp only [er, T.map, rdC, Option.some.injEq] at h
    subst h
    cases hok with
    | ro u r hr => exact ⟨.t _ _ hr, hr.one⟩
  | ow d sz n cs =>
    simp only [er, T.map, rdC, Option.some.injEq] at h
    subst h
    cases d with
    | blk b o c =>
      refine ⟨?_, rfl⟩
      have hn : n ≤ c := by cases hok; assumption
      have h0 := RelC.sl (S0 := S0) (w0 := w0) id (p ++ [i]) 0 n b o c sz n cs hat (by omega)
      rw [Nat.zero_mul, Nat.add_zero, Nat.sub_zero] at h0
      exact h0
    | emp e =>
      refine ⟨?_, rfl⟩
      cases hok with
      | em a sz => exact .se id (p ++ [i]) 0 e _ _ _ _ hat
  | hold cs => simp [er, T.map, rdC] at h
  | gone u => simp [er, T.map, rdC] at h
theorem rdCs_ok {id : Nat} {p : List Nat} : ∀ {xs : List D} {i : Nat} {l : List DC}, rdCs id p i xs = some l → l.length = xs.length ∧ ∀ (j : Nat) (x : D) (c : DC), xs[j]? = some x → l[j]? = some c → rdC id p (i + j) x = some c
  | [], i, l, h => by simp only [rdCs, Option.some.injEq] at h; subst h; exact ⟨rfl, fun j x c hx => by simp at hx⟩
  | x :: xs, i, l, h => by
    simp only [rdCs] at h
    split at h
    · rename_i c cs h1 h2
      obtain rfl := Option.some.inj h
      obtain ⟨e1, e2⟩ := rdCs_ok h2
      refine ⟨by simp [e1], fun j y d hy hd => ?_⟩
      cases j with
      | zero => simp at hy hd; subst hy; subst hd; exact h1
      | succ j =>
        have := e2 j y d (by simpa using hy) (by simpa using hd)
        rwa [show i + (j + 1) = i + 1 + j by omega]
    · cases h
theorem quiet_load {t : TypeId} {x : Operand} {v : DV} (hR : Rel S0 w0 nt s M a w) (h : quietV P s (.load t x) = some v) : ∃ u, (Instr.loadAt t (a.eval x)).run P w = .ok u w ∧ RelV S0 w0 M v u := by
  have hx := ev_ok hR x
  simp only [quietV] at h
  split at h
  · rename_i id p off k g e1 e2 e3
    rw [e1] at hx
    obtain ⟨hc, -⟩ := hx
    generalize hu : a.eval x = u at hc ⊢
    split at h
    · rename_i root hr
      split at h
      · rename_i sz n cs hg
        obtain ⟨y, hat, hery, hok⟩ := node_ok hR hr hg
        obtain ⟨d, csA, rfl, hcs⟩ := er_ow hery
        cases hc with
        | pt id p off b o c sz' m cs' hat' =>
          have hE := at_unique hat hat'
          simp only [T.ow.injEq] at hE
          obtain ⟨rfl, rfl, rfl, rfl⟩ := hE
          cases hok with
          | ow _ _ _ _ _ _ cur ty fz k1 k2 k3 k4 k5 k6 k7 k8 k9 =>
            have hcell : ∀ j y, csA[j]? = some y → w.cell? ⟨b, o + j, none⟩ = some y.val := fun j y hj => by
              simp only [World.cell?, k1]
              simpa using k7 j y hj
            split at h
            · rename_i hg'
              simp only [hg'] at e3
              split at h
              · rename_i hle
                obtain ⟨l, hl, rfl⟩ := Option.map_eq_some_iff.1 h
                obtain ⟨f1, f2⟩ := rdCs_ok hl
                have hlen : cs.length = csA.length := by rw [← hcs, List.length_map]
                have hk : ((csA.drop off).take k).length = k := by rw [List.length_take, List.length_drop]; omega
                have hrun := run_loadCells_list (P := P) (w := w) (⟨b, o + off, none⟩ : Addr) (((csA.drop off).take k).map T.val) (fun j u hj => by
                  rw [add_eq]
                  rw [List.getElem?_map, Option.map_eq_some_iff] at hj
                  obtain ⟨y, hy, rfl⟩ := hj
                  have hjk : j < k := by have := (List.getElem?_eq_some_iff.1 hy).1; omega
                  rw [List.getElem?_take_of_lt hjk, List.getElem?_drop] at hy
                  rw [Nat.add_assoc]
                  exact hcell _ y hy)
                rw [List.length_map, hk] at hrun
                refine ⟨.agg (((csA.drop off).take k).map T.val).toArray, ?_, _, rfl, ?_, ?_, ?_⟩
                · simp only [Instr.loadAt, Instr.sureAddr, loadVar, Sem.run_bind, Sem.run_pure, Result.andThen_ok, aggT_ok e3, if_true, szT_ok e2, hrun]
                · rw [List.length_map, hk, f1, List.length_take, List.length_drop]; omega
                · intro j c' u hc' hu'
                  rw [List.getElem?_map, Option.map_eq_some_iff] at hu'
                  obtain ⟨y, hy, rfl⟩ := hu'
                  have hjk : j < k := by have := (List.getElem?_eq_some_iff.1 hy).1; omega
                  rw [List.getElem?_take_of_lt hjk, List.getElem?_drop] at hy
                  have hxj : ((cs.drop off).take k)[j]? = some (er y) := by
                    rw [List.getElem?_take_of_lt hjk, List.getElem?_drop, ← hcs, List.getElem?_map, hy]; rfl
                  exact (rdC_ok (at_child hat hy) (k8 y (List.mem_of_getElem? hy)) (f2 j _ c' hxj hc')).1
                · intro u hu'
                  obtain ⟨y, hy, rfl⟩ := List.mem_map.1 hu'
                  have hy' := List.mem_of_mem_drop (List.mem_of_mem_take hy)
                  exact (k8 y hy').one (k9 y hy')
              · cases h
            · rename_i hg'
              have hg0 : g = false := by simpa using hg'
              subst hg0
              split at h
              · rename_i c1 hc1
                obtain ⟨c2, hc2, rfl⟩ := Option.map_eq_some_iff.1 h
                rw [← hcs, List.getElem?_map, Option.map_eq_some_iff] at hc1
                obtain ⟨y, hy, rfl⟩ := hc1
                obtain ⟨g1, g2⟩ := rdC_ok (at_child hat hy) (k8 y (List.mem_of_getElem? hy)) hc2
                refine ⟨y.val, ?_, g1, g2⟩
                simp only [Instr.loadAt, Instr.sureAddr, loadVar, Sem.run_bind, Sem.run_pure, Result.andThen_ok, aggT_ok e3, Bool.false_eq_true, if_false, run_load, hcell off y hy]
              · cases h
      · cases h
    · cases h
  · rename_i cs k g e1 e2 e3
    rw [e1] at hx
    obtain ⟨hc, -⟩ := hx
    generalize hu : a.eval x = u at hc ⊢
    cases hc with
    | rp cs ad hro =>
      cases hro with
      | sl ad n c cs vs r1 r2 r3 r4 r5 r6 =>
        have hcell : ∀ (j : Nat) (v : Value), vs[j]? = some v → w.cell? (ad.add j) = some v := fun j v hj => by
          rw [addr_eq r1]
          have := r5 j v hj
          simp only [World.cell?] at this ⊢
          rw [hR.inv.wd.fr _ (hR.inv.wd.rk _ r2)]
          exact this
        split at h
        · rename_i hg'
          simp only [hg'] at e3
          split at h
          · rename_i hle
            obtain rfl := Option.some.inj h
            have hk : (vs.take k).length = k := by rw [List.length_take]; omega
            have hrun := run_loadCells_list (P := P) (w := w) ad (vs.take k) (fun j u hj => by
              have hjk : j < k := by have := (List.getElem?_eq_some_iff.1 hj).1; omega
              rw [List.getElem?_take_of_lt hjk] at hj
              exact hcell j u hj)
            rw [hk] at hrun
            refine ⟨.agg (vs.take k).toArray, ?_, _, rfl, by simp [r4], ?_, ?_⟩
            · simp only [Instr.loadAt, Instr.sureAddr, loadVar, Sem.run_bind, Sem.run_pure, Result.andThen_ok, aggT_ok e3, if_true, szT_ok e2, hrun]
            · intro j c' u hc' hu'
              rw [List.getElem?_map, Option.map_eq_some_iff] at hc'
              obtain ⟨r, hr, rfl⟩ := hc'
              have hjk : j < k := by have := (List.getElem?_eq_some_iff.1 hu').1; omega
              rw [List.getElem?_take_of_lt hjk] at hu' hr
              exact .t _ _ (r6 j u r hu' hr)
            · intro u hu'
              have hu2 := List.mem_of_mem_take hu'
              obtain ⟨j, hj, rfl⟩ := List.getElem_of_mem hu2
              exact (r6 j _ _ (List.getElem?_eq_getElem hj) (List.getElem?_eq_getElem (by omega))).one
          · cases h
        · rename_i hg'
          have hg0 : g = false := by simpa using hg'
          subst hg0
          split at h
          · rename_i c1 hc1
            obtain rfl := Option.some.inj h
            have h0 : 0 < vs.length := by rw [r4]; exact (List.getElem?_eq_some_iff.1 hc1).1
            refine ⟨vs[0], ?_, .t _ _ (r6 0 _ _ (List.getElem?_eq_getElem h0) hc1), (r6 0 _ _ (List.getElem?_eq_getElem h0) hc1).one⟩
            have := hcell 0 _ (List.getElem?_eq_getElem h0)
            have ha : ad.add 0 = ad := by simp [Addr.add]
            rw [ha] at this
            simp only [Instr.loadAt, Instr.sureAddr, loadVar, Sem.run_bind, Sem.run_pure, Result.andThen_ok, aggT_ok e3, Bool.false_eq_true, if_false, run_load, this]
          · cases h
  · cases h
end
end Go.Proofs.Ytciieaidbiejmaa.DM

/-
  DM 7. The quiet operations, one by one (second part), and all of them.
-/
namespace Go.Proofs.Ytciieaidbiejmaa.DM
set_option linter.unusedVariables false
set_option linter.unusedSimpArgs false
section
variable {S0 : Fr} {w0 w w' : World} {M M' : Heap} {P : Program} {nt : Nat} {s : FS} {a : Act}
/-- A pointer to what is only read, some cells on. -/
theorem rp_drop {ad : Addr} {cs : List RT} (h : RoC S0 w0 (.slice (some ad) 1 1) (.sl 1 cs)) (n : Nat) : RelC S0 w0 M (.rp (cs.drop n)) (.pointer (some (ad.add n))) := by
  cases h with
  | sl ad _ _ _ vs r1 r2 r3 r4 r5 r6 =>
    rw [addr_eq r1]
    refine .rp _ _ (.sl _ 1 1 _ (vs.drop n) rfl r2 (Nat.le_refl _) (by simp [r4]) (fun i v hi => ?_) (fun i v r hi hr => ?_))
    · rw [List.getElem?_drop] at hi
      have := r5 _ v hi
      rwa [← Nat.add_assoc] at this
    · rw [List.getElem?_drop] at hi hr
      exact r6 _ v r hi hr
theorem quiet_fieldAddr {t : TypeId} {x : Operand} {f : Nat} {v : DV} (hR : Rel S0 w0 nt s M a w) (h : quietV P s (.fieldAddr t x f) = some v) : ∃ u, (Instr.fieldAt t (a.eval x) f).run P w = .ok u w ∧ RelV S0 w0 M v u := by
  have hx := ev_ok hR x
  simp only [quietV] at h
  split at h
  · rename_i fs e1
    split at h
    · rename_i fd e2
      split at h
      · rename_i k id p off e3 e4
        obtain rfl := Option.some.inj h
        rw [e4] at hx
        obtain ⟨hc, -⟩ := hx
        generalize a.eval x = u at hc ⊢
        cases hc with
        | pt id p off b o c sz m cs hat =>
          refine ⟨.pointer (some ⟨b, o + (off + fd.offset), none⟩), ?_, .pt _ _ _ b o c sz m cs hat, rfl⟩
          simp [Instr.fieldAt, run_underlying e1, e2, Instr.sureAddr, fieldPlace, szT_ok e3, add_eq, Nat.add_assoc]
      · rename_i k cs e3 e4
        obtain rfl := Option.some.inj h
        rw [e4] at hx
        obtain ⟨hc, -⟩ := hx
        generalize a.eval x = u at hc ⊢
        cases hc with
        | rp cs ad hro =>
          refine ⟨.pointer (some (ad.add fd.offset)), ?_, rp_drop hro _, rfl⟩
          simp [Instr.fieldAt, run_underlying e1, e2, Instr.sureAddr, fieldPlace, szT_ok e3]
      · cases h
    · cases h
  · cases h
theorem quiet_indexAddr {t : TypeId} {x i : Operand} {v : DV} (hR : Rel S0 w0 nt s M a w) (h : quietV P s (.indexAddr t x i) = some v) : ∃ u, (Instr.indexAt t (a.eval x) (a.eval i)).run P w = .ok u w ∧ RelV S0 w0 M v u := by
  have hx := ev_ok hR x
  have hi := ev_ok hR i
  simp only [quietV] at h
  split at h
  · rename_i e sz n id p off m e1 e2 e3
    obtain ⟨u1, u2⟩ := elemT_ok e1
    obtain ⟨k, hk⟩ := asInt_ok e2 hi
    rw [hk]
    split at h
    · rename_i hn
      obtain rfl := Option.some.inj h
      rw [e3] at hx
      obtain ⟨hc, -⟩ := hx
      generalize a.eval x = u at hc ⊢
      have hm : 0 < m := by omega
      cases hc with
      | sl id p kk _ b o c sz' m' cs hat hle =>
        refine ⟨.pointer (some ⟨b, o + (kk * sz' + n.toNat * sz), none⟩), ?_, .pt _ _ _ b o c sz' m' cs hat, rfl⟩
        simp [Instr.indexAt, asIntOf, run_underlying u1, hn, szT_ok u2, add_eq, Nat.add_assoc]
      | se id p off a0 d sz' m' cs hat => omega
    · cases h
  · rename_i e sz n m cs e1 e2 e3
    obtain ⟨u1, u2⟩ := elemT_ok e1
    obtain ⟨k, hk⟩ := asInt_ok e2 hi
    rw [hk]
    split at h
    · rename_i hn
      obtain rfl := Option.some.inj h
      rw [e3] at hx
      obtain ⟨hc, -⟩ := hx
      generalize a.eval x = u at hc ⊢
      cases hc with
      | t r v hro =>
        cases hro with
        | sl ad n' c cs vs r1 r2 r3 r4 r5 r6 =>
          have h1 : RoC S0 w0 (.slice (some ad) 1 1) (.sl 1 cs) := .sl ad 1 1 cs vs r1 r2 (Nat.le_refl _) r4 r5 r6
          refine ⟨.pointer (some (ad.add (n.toNat * sz))), ?_, rp_drop h1 _, rfl⟩
          simp [Instr.indexAt, asIntOf, run_underlying u1, hn, szT_ok u2]
        | em a0 c => omega
    · cases h
  · cases h
theorem quiet_nilCheck {o : Oper} {x : Operand} {v : DV} (ho : o.op = .nilCheck x) (hR : Rel S0 w0 nt s M a w) (h : quietV P s (.nilCheck x) = some v) : ∃ u, (execOp a.eval o).run P w = .ok (.value u) w ∧ RelV S0 w0 M v u := by
  have hx := ev_ok hR x
  simp only [quietV] at h
  refine ⟨a.eval x, ?_, ?_⟩
  · split at h
    · rename_i e1
      rw [e1] at hx
      obtain ⟨hc, -⟩ := hx
      simp only [execOp, ho]
      generalize a.eval x = u at hc ⊢
      cases hc; rfl
    · rename_i e1
      rw [e1] at hx
      obtain ⟨hc, -⟩ := hx
      simp only [execOp, ho]
      generalize a.eval x = u at hc ⊢
      cases hc; rfl
    · cases h
  · split at h
    · rename_i e1; obtain rfl := Option.some.inj h; rwa [e1] at hx
    · rename_i e1; obtain rfl := Option.some.inj h; rwa [e1] at hx
    · cases h
theorem quiet_extract {x : Operand} {i : Nat} {v : DV} (hR : Rel S0 w0 nt s M a w) (h : quietV P s (.extract x i) = some v) : ∃ u, (Instr.extract (a.eval x) i).run P w = .ok u w ∧ RelV S0 w0 M v u := by
  have hx := ev_ok hR x
  simp only [quietV] at h
  split at h
  · rename_i xs e1
    rw [e1] at hx
    obtain ⟨vs, hv, hl, h1⟩ := hx
    split at h
    · rename_i c hc
      obtain rfl := Option.some.inj h
      have hlt : i < vs.length := by rw [hl]; exact (List.getElem?_eq_some_iff.1 hc).1
      refine ⟨vs[i], ?_, h1 i c _ hc (List.getElem?_eq_getElem hlt)⟩
      rw [hv]
      simp [Instr.extract, List.getElem?_eq_getElem hlt]
    · cases h
  · cases h
theorem quiet_field {t : TypeId} {x : Operand} {f : Nat} {v : DV} (hR : Rel S0 w0 nt s M a w) (h : quietV P s (.field t x f) = some v) : ∃ u, (Instr.field t (a.eval x) f).run P w = .ok u w ∧ RelV S0 w0 M v u := by
  have hx := ev_ok hR x
  simp only [quietV] at h
  split at h
  · rename_i fs e1
    split at h
    · rename_i fd e2
      split at h
      · rename_i k cs e3 e4 e5
        rw [e5] at hx
        obtain ⟨vs, hv, hl, h1, h2⟩ := hx
        rw [hv]
        split at h
        · rename_i hle
          obtain rfl := Option.some.inj h
          refine ⟨.agg ((vs.drop fd.offset).take k).toArray, ?_, _, rfl, by simp [hl], fun i c u hc hu => ?_, fun u hu => h2 u (List.mem_of_mem_drop (List.mem_of_mem_take hu))⟩
          · simp only [Instr.field, Sem.run_bind, run_underlying e1, Result.andThen_ok, e2, part, asAgg, Sem.run_pure, aggT_ok e4, if_true, szT_ok e3]
            simp [List.drop_take]
          · have hik : i < k := by have := (List.getElem?_eq_some_iff.1 hc).1; simp at this; omega
            rw [List.getElem?_take_of_lt hik, List.getElem?_drop] at hc hu
            exact h1 _ c u hc hu
        · cases h
      · rename_i k cs e3 e4 e5
        rw [e5] at hx
        obtain ⟨vs, hv, hl, h1, h2⟩ := hx
        rw [hv]
        split at h
        · rename_i c hc
          obtain rfl := Option.some.inj h
          have hlt : fd.offset < vs.length := by rw [hl]; exact (List.getElem?_eq_some_iff.1 hc).1
          refine ⟨vs[fd.offset], ?_, h1 _ c _ hc (List.getElem?_eq_getElem hlt), h2 _ (List.getElem_mem hlt)⟩
          simp only [Instr.field, Sem.run_bind, run_underlying e1, Result.andThen_ok, e2, part, asAgg, Sem.run_pure, aggT_ok e4, Bool.false_eq_true, if_false]
          simp [List.getElem?_eq_getElem hlt]
        · cases h
      · cases h
    · cases h
  · cases h
theorem bound_ok {d : DV} {n m : Int} {k : Nat} {code : BoundsCode} {u : Value} (h : asInt d = some n) (hr : RelV S0 w0 M d u) (h0 : 0 ≤ n) (h1 : n ≤ k) : (Instr.sliceBound u k code).run P w = .ok n.toNat w := by
  obtain ⟨kk, hk⟩ := asInt_ok h hr
  rw [hk]
  simp [Instr.sliceBound, asIntOf, h0, h1]
theorem sliceB_ok {lo hi : Option Operand} {n c l h : Nat} (isS : Bool) (hR : Rel S0 w0 nt s M a w) (hb : sliceB (lo.map (ev s.e)) (hi.map (ev s.e)) n = some (l, h)) (hnc : n ≤ c) :
    (Instr.sliceBounds isS n c (lo.map a.eval) (hi.map a.eval) none).run P w = .ok (l, h, c) w ∧ l ≤ h ∧ h ≤ n := by
  unfold sliceB at hb
  split at hb
  · rename_i hh ll e1 e2
    split at hb
    · rename_i hc
      obtain ⟨rfl, rfl⟩ : ll.toNat = l ∧ hh.toNat = h := by simpa using hb
      refine ⟨?_, by omega, by omega⟩
      cases hi with
      | none =>
        have e3 : (n : Int) = hh := by simpa using e1
        subst e3
        cases lo with
        | none =>
          have e4 : (0 : Int) = ll := by simpa using e2
          subst e4
          simp [Instr.sliceBounds]
        | some x =>
          have e4 : asInt (ev s.e x) = some ll := by simpa using e2
          have := bound_ok (P := P) (w := w) (m := 0) (k := n) (code := BoundsCode.sliceB) e4 (ev_ok hR x) hc.2.2.1 hc.2.2.2
          simp [Instr.sliceBounds, this]
      | some y =>
        have e3 : asInt (ev s.e y) = some hh := by simpa using e1
        have t1 := fun cd => bound_ok (P := P) (w := w) (m := 0) (k := c) (code := cd) e3 (ev_ok hR y) hc.1 (by omega)
        cases lo with
        | none =>
          have e4 : (0 : Int) = ll := by simpa using e2
          subst e4
          simp [Instr.sliceBounds, t1]
        | some x =>
          have e4 : asInt (ev s.e x) = some ll := by simpa using e2
          have := bound_ok (P := P) (w := w) (m := 0) (k := hh.toNat) (code := BoundsCode.sliceB) e4 (ev_ok hR x) hc.2.2.1 (by omega)
          simp [Instr.sliceBounds, t1, this]
    · cases hb
  · cases hb
theorem quiet_slice {t : TypeId} {x : Operand} {lo hi : Option Operand} {v : DV} (hR : Rel S0 w0 nt s M a w) (h : quietV P s (.slice t x lo hi none) = some v) :
    ∃ u, (Instr.sliceAt t (a.eval x) (lo.map a.eval) (hi.map a.eval) none).run P w = .ok u w ∧ RelV S0 w0 M v u := by
  have hx := ev_ok hR x
  simp only [quietV] at h
  split at h
  · rename_i b e1
    split at h
    · rename_i l hh e2 e3
      obtain rfl := Option.some.inj h
      obtain ⟨b1, b2, b3⟩ := sliceB_ok (P := P) (c := b.size) false hR e3 (Nat.le_refl _)
      rw [e1] at hx
      obtain ⟨hx', hp⟩ := asSc_ok (S0 := S0) (w0 := w0) (M := M) rfl hx
      rw [hx']
      exact ⟨.string (b.extract l hh), by simp [Instr.sliceAt, Instr.slice, run_underlying e2, b1], sc_ok rfl⟩
    · cases h
  · rename_i n cs e1
    split at h
    · rename_i e sz l hh e2 e3
      obtain ⟨u1, u2⟩ := elemT_ok e2
      split at h
      · rename_i hlen
        obtain rfl := Option.some.inj h
        rw [e1] at hx
        obtain ⟨hc, -⟩ := hx
        generalize a.eval x = u at hc ⊢
        cases hc with
        | t r v hro =>
          cases hro with
          | sl ad n' c cs vs r1 r2 r3 r4 r5 r6 =>
            obtain ⟨b1, b2, b3⟩ := sliceB_ok (P := P) (c := c) true hR e3 r3
            refine ⟨_, by simp [Instr.sliceAt, Instr.slice, run_underlying u1, b1, szT_ok u2]; rfl, .t _ _ ?_, rfl⟩
            by_cases hz : hh - l = 0
            · rw [hz, Nat.zero_mul, List.take_zero]; exact .em _ _
            · rw [if_neg (by omega)]
              rw [addr_eq r1]
              refine .sl _ _ _ _ ((vs.drop (l * sz)).take ((hh - l) * sz)) rfl r2 (by omega) (by simp [r4]) (fun i v hi => ?_) (fun i v r hi hr => ?_)
              · have hik : i < (hh - l) * sz := by have := (List.getElem?_eq_some_iff.1 hi).1; simp at this; omega
                rw [List.getElem?_take_of_lt hik, List.getElem?_drop] at hi
                have := r5 _ v hi
                rwa [← Nat.add_assoc] at this
              · have hik : i < (hh - l) * sz := by have := (List.getElem?_eq_some_iff.1 hi).1; simp at this; omega
                rw [List.getElem?_take_of_lt hik, List.getElem?_drop] at hi hr
                exact r6 _ v r hi hr
          | em a0 c =>
            obtain ⟨b1, b2, b3⟩ := sliceB_ok (P := P) (c := c) true hR e3 (Nat.zero_le _)
            refine ⟨_, by simp [Instr.sliceAt, Instr.slice, run_underlying u1, b1, szT_ok u2]; rfl, .t _ _ ?_, rfl⟩
            have hz : hh - l = 0 := by omega
            rw [hz, Nat.zero_mul, List.take_zero]; exact .em _ _
      · cases h
    · cases h
  · rename_i id p off n e1
    split at h
    · rename_i e sz l hh root e2 e3 e4
      obtain ⟨u1, u2⟩ := elemT_ok e2
      split at h
      · rename_i sz' m' cs' hg
        split at h
        · rename_i hsz
          obtain ⟨rfl, hsz0⟩ := hsz
          obtain rfl := Option.some.inj h
          obtain ⟨y, hat, hery, hok⟩ := node_ok hR e4 hg
          obtain ⟨d, csA, rfl, hcs⟩ := er_ow hery
          rw [e1] at hx
          obtain ⟨hc, -⟩ := hx
          generalize a.eval x = u at hc ⊢
          have key : ∀ (A0 : Option Addr), RelV S0 w0 M (.v (.one (.sl id p (off + l * sz) 0))) (.slice A0 0 0) := fun A0 => ⟨.se _ _ _ _ _ _ _ _ hat, rfl⟩
          cases hc with
          | sl id p kk _ b o c sz2 m2 cs2 hat2 hle =>
            have hE := at_unique hat hat2
            simp only [T.ow.injEq] at hE
            obtain ⟨rfl, rfl, rfl, rfl⟩ := hE
            have hmc : m' ≤ c := by cases hok; assumption
            obtain ⟨b1, b2, b3⟩ := sliceB_ok (P := P) (c := c - kk) true hR e3 (by omega)
            refine ⟨_, by simp [Instr.sliceAt, Instr.slice, run_underlying u1, b1, szT_ok u2]; rfl, ?_⟩
            by_cases hz : c - kk = l
            · rw [if_pos hz]
              have h0 : hh - l = 0 := by omega
              have h1 : c - kk - l = 0 := by omega
              rw [h0, h1]
              exact key _
            · rw [if_neg hz, add_eq, Nat.add_assoc, ← Nat.add_mul, Nat.sub_sub]
              exact ⟨.sl id p (kk + l) (hh - l) b o c _ m' csA hat (by omega), rfl⟩
          | se id p off a0 d2 sz2 m2 cs2 hat2 =>
            obtain ⟨b1, b2, b3⟩ := sliceB_ok (P := P) (c := 0) true hR e3 (Nat.le_refl _)
            refine ⟨_, by simp [Instr.sliceAt, Instr.slice, run_underlying u1, b1, szT_ok u2]; rfl, ?_⟩
            have h0 : hh - l = 0 := by omega
            have h1 : l = 0 := by omega
            rw [h0, h1]
            simp only [if_true, Nat.zero_mul, Nat.add_zero, Nat.sub_self]
            exact ⟨.se _ _ _ _ _ _ _ _ hat, rfl⟩
        · cases h
      · cases h
    · cases h
  · rename_i e1
    split at h
    · rename_i e2 e3
      obtain ⟨u1, u2⟩ := elemT_ok e2
      obtain rfl := Option.some.inj h
      rw [e1] at hx
      obtain ⟨hc, -⟩ := hx
      generalize a.eval x = u at hc ⊢
      cases hc with
      | nl a0 =>
        obtain ⟨b1, b2, b3⟩ := sliceB_ok (P := P) (c := 0) true hR e3 (Nat.le_refl _)
        refine ⟨_, by simp [Instr.sliceAt, Instr.slice, run_underlying u1, b1, szT_ok u2]; rfl, ?_⟩
        rename_i x1 x2
        obtain ⟨l, hh⟩ := x2
        simp only at b2 b3 ⊢
        have h0 : hh = 0 := by omega
        have h1 : l = 0 := by omega
        subst h0; subst h1
        simp only [if_true, Nat.sub_self]
        exact ⟨.nl _, rfl⟩
    · cases h
  · cases h
end
end Go.Proofs.Ytciieaidbiejmaa.DM

/-
  DM 8. The quiet operations: all of them.
-/
namespace Go.Proofs.Ytciieaidbiejmaa.DM
set_option linter.unusedVariables false
set_option linter.unusedSimpArgs false
section
variable {S0 : Fr} {w0 w w' : World} {M M' : Heap} {P : Program} {nt : Nat} {s : FS} {a : Act}
/-- A list of cells stands for a list of values. -/
def RelL (S0 : Fr) (w0 : World) (M : Heap) (cs : List DC) (vs : List Value) : Prop :=
  vs.length = cs.length ∧ (∀ (i : Nat) (c : DC) (u : Value), cs[i]? = some c → vs[i]? = some u → RelC S0 w0 M c u) ∧ ∀ u ∈ vs, u.oneCell' = true
theorem RelL.append {c1 c2 : List DC} {v1 v2 : List Value} (h1 : RelL S0 w0 M c1 v1) (h2 : RelL S0 w0 M c2 v2) : RelL S0 w0 M (c1 ++ c2) (v1 ++ v2) := by
  obtain ⟨l1, a1, b1⟩ := h1
  obtain ⟨l2, a2, b2⟩ := h2
  refine ⟨by simp [l1, l2], fun i c u hc hu => ?_, fun u hu => (List.mem_append.1 hu).elim (b1 u) (b2 u)⟩
  by_cases hi : i < c1.length
  · rw [List.getElem?_append_left hi] at hc
    rw [List.getElem?_append_left (by omega)] at hu
    exact a1 i c u hc hu
  · rw [List.getElem?_append_right (by omega)] at hc
    rw [List.getElem?_append_right (by omega), l1] at hu
    exact a2 _ c u hc hu
theorem RelL.take {cs : List DC} {vs : List Value} (h : RelL S0 w0 M cs vs) (n : Nat) : RelL S0 w0 M (cs.take n) (vs.take n) := by
  obtain ⟨l, a1, b⟩ := h
  refine ⟨by simp [l], fun i c u hc hu => ?_, fun u hu => b u (List.mem_of_mem_take hu)⟩
  rw [List.getElem?_take] at hc hu
  split at hc
  · rename_i hi; rw [if_pos hi] at hu; exact a1 i c u hc hu
  · cases hc
theorem RelL.drop {cs : List DC} {vs : List Value} (h : RelL S0 w0 M cs vs) (n : Nat) : RelL S0 w0 M (cs.drop n) (vs.drop n) := by
  obtain ⟨l, a1, b⟩ := h
  refine ⟨by simp [l], fun i c u hc hu => ?_, fun u hu => b u (List.mem_of_mem_drop hu)⟩
  rw [List.getElem?_drop] at hc hu
  exact a1 _ c u hc hu
theorem dcs_rel {x : DV} {cs : List DC} {u : Value} (h : dcs x = some cs) (hr : RelV S0 w0 M x u) : RelL S0 w0 M cs u.cells.toList := dcs_ok h hr
theorem RelL.nil : RelL S0 w0 M [] [] := ⟨rfl, fun i c u h => by simp at h, by simp⟩
theorem RelL.cons {c : DC} {v : Value} {cs : List DC} {vs : List Value} (h : RelC S0 w0 M c v) (h1 : v.oneCell' = true) (hs : RelL S0 w0 M cs vs) : RelL S0 w0 M (c :: cs) (v :: vs) := by
  have : RelL S0 w0 M [c] [v] := ⟨rfl, fun i c' u hc hu => by
    cases i with
    | zero => simp at hc hu; subst hc; subst hu; exact h
    | succ i => simp at hc, by simpa using h1⟩
  exact this.append hs
theorem zeros_rel {z : List Value} {cs : List DC} (h : mapO zcC z = some cs) : RelL S0 w0 M cs z := by
  obtain ⟨l, h1⟩ := mapO_some h
  refine ⟨l.symm, fun i c u hc hu => (zcC_ok (h1 i u c hu hc)).1, fun u hu => ?_⟩
  obtain ⟨i, hi, rfl⟩ := List.getElem_of_mem hu
  exact (zcC_ok (S0 := S0) (w0 := w0) (M := M) (h1 i _ _ (List.getElem?_eq_getElem hi) (List.getElem?_eq_getElem (by omega)))).2
theorem foldl_set (off : Nat) : ∀ (vs : List Value) (j : Nat) (z : Array Value), off + j + vs.length ≤ z.size →
    ((vs.zipIdx j).foldl (fun cs (x : Value × Nat) => cs.setIfInBounds (off + x.2) x.1) z).toList = z.toList.take (off + j) ++ (vs ++ z.toList.drop (off + j + vs.length))
  | [], j, z, h => by simp
  | v :: vs, j, z, h => by
    rw [List.zipIdx_cons, List.foldl_cons, foldl_set off vs (j + 1) _ (by simp at h ⊢; omega)]
    simp only [List.length_cons] at h
    have hlt : off + j < z.toList.length := by simp; omega
    rw [Array.toList_setIfInBounds]
    rw [List.set_eq_take_append_cons_drop, if_pos hlt]
    have e1 : (z.toList.take (off + j)).length = off + j := by rw [List.length_take]; omega
    have e2 : (z.toList.take (off + j) ++ v :: z.toList.drop (off + j + 1)).take (off + (j + 1)) = z.toList.take (off + j) ++ [v] := by
      rw [List.take_append, List.take_of_length_le (by omega), e1]
      rw [show off + (j + 1) - (off + j) = 1 by omega]
      simp
    have e3 : (z.toList.take (off + j) ++ v :: z.toList.drop (off + j + 1)).drop (off + (j + 1) + vs.length) = z.toList.drop (off + j + (vs.length + 1)) := by
      rw [List.drop_append, List.drop_of_length_le (by omega), e1, List.nil_append]
      rw [show off + (j + 1) + vs.length - (off + j) = vs.length + 1 by omega, List.drop_succ_cons, List.drop_drop]
      congr 1; omega
    rw [e2, e3]
    simp [List.append_assoc]
theorem fill_ok {place : Nat → Option (Nat × Nat)} : ∀ {ps : List (Nat × List DC)} {qs : List (Nat × Value)} {z : List DC} {zv : Array Value} {r : List DC}, fillC place z ps = some r → RelL S0 w0 M z zv.toList →
    ps.length = qs.length → (∀ (i : Nat) (p : Nat × List DC) (q : Nat × Value), ps[i]? = some p → qs[i]? = some q → p.1 = q.1 ∧ RelL S0 w0 M p.2 q.2.cells.toList) → ∃ rv, Instr.fill place zv qs = some rv ∧ RelL S0 w0 M r rv.toList
  | [], [], z, zv, r, h, hz, _, _ => by
    simp only [fillC, Option.some.injEq] at h
    subst h
    exact ⟨zv, rfl, hz⟩
  | (i, cs) :: ps, (i', v) :: qs, z, zv, r, h, hz, hl, hp => by
    obtain ⟨e1, hr⟩ := hp 0 _ _ rfl rfl
    simp only at e1 hr
    subst e1
    simp only [fillC] at h
    split at h
    · rename_i off size hpl
      split at h
      · rename_i hc
        have hv : v.cells.size = size := by have := hr.1; simp at this; omega
        have hzl : zv.size = z.length := by simpa using hz.1
        have hz' := (hz.take off).append (hr.append (hz.drop (off + size)))
        have e2 : (v.cells.zipIdx.foldl (fun cs (x : Value × Nat) => cs.setIfInBounds (off + x.2) x.1) zv).toList = zv.toList.take off ++ (v.cells.toList ++ zv.toList.drop (off + size)) := by
          have := foldl_set off v.cells.toList 0 zv (by simp; omega)
          rw [← Array.foldl_toList, Array.toList_zipIdx]
          rw [this]
          simp [hv]
        rw [← e2] at hz'
        obtain ⟨rv, h1, h2⟩ := fill_ok h hz' (by simpa using hl) (fun j p q hj hq => hp (j + 1) p q (by simpa using hj) (by simpa using hq))
        refine ⟨rv, ?_, h2⟩
        rw [Instr.fill]
        simp only [hpl]
        rw [if_neg (by simp only [hv, ne_eq, not_true, Bool.or_eq_true, decide_eq_true_eq, false_or]; omega)]
        exact h1
      · cases h
    · cases h
  | [], _ :: _, _, _, _, _, _, hl, _ => by simp at hl
  | _ :: _, [], _, _, _, _, _, hl, _ => by simp at hl
theorem parts_ok (hR : Rel S0 w0 nt s M a w) : ∀ {l : List (Nat × Operand)} {ps : List (Nat × List DC)}, partsC s.e l = some ps → ps.length = (l.map fun x => (x.1, a.eval x.2)).length ∧
    ∀ (i : Nat) (p : Nat × List DC) (q : Nat × Value), ps[i]? = some p → (l.map fun x => (x.1, a.eval x.2))[i]? = some q → p.1 = q.1 ∧ RelL S0 w0 M p.2 q.2.cells.toList
  | [], ps, h => by simp only [partsC, Option.some.injEq] at h; subst h; exact ⟨rfl, fun i p q hp => by simp at hp⟩
  | (i, x) :: l, ps, h => by
    simp only [partsC] at h
    split at h
    · rename_i cs r h1 h2
      obtain rfl := Option.some.inj h
      obtain ⟨e1, e2⟩ := parts_ok hR h2
      refine ⟨by simpa using e1, fun j p q hp hq => ?_⟩
      cases j with
      | zero => simp at hp hq; subst hp; subst hq; exact ⟨rfl, dcs_rel h1 (ev_ok hR x)⟩
      | succ j => exact e2 j p q (by simpa using hp) (by simpa using hq)
    · cases h
theorem places_run {fs : Array Field} {pl : List (Nat × Nat)} (h : placesT P fs.toList = some pl) (w : World) : (fs.mapM fun f => do pure (f.offset, ← sizeOf f.type) : Sem (Array (Nat × Nat))).run P w = .ok pl.toArray w := by
  have key : ∀ (l : List Field) (pl : List (Nat × Nat)), placesT P l = some pl → (l.mapM fun f => do pure (f.offset, ← sizeOf f.type) : Sem (List (Nat × Nat))).run P w = .ok pl w := by
    intro l
    induction l with
    | nil => intro pl h; simp [placesT, mapO] at h; subst h; rfl
    | cons f l ih =>
      intro pl h
      simp only [placesT, mapO] at h
      split at h
      · rename_i y ys h1 h2
        obtain rfl := Option.some.inj h
        obtain ⟨n, hn, rfl⟩ := Option.map_eq_some_iff.1 h1
        rw [List.mapM_cons]
        simp only [Sem.run_bind, szT_ok hn, Result.andThen_ok, Sem.run_pure, ih ys h2]
      · cases h
  rw [Array.mapM_eq_mapM_toList]
  simp only [Sem.run_map, key _ _ h, Result.andThen_ok]
theorem quiet_build {t : TypeId} {parts : Array (Nat × Operand)} {v : DV} (hR : Rel S0 w0 nt s M a w) (h : quietV P s (.build t parts) = some v) :
    ∃ u, (Instr.build t (parts.map fun (i, x) => (i, a.eval x))).run P w = .ok u w ∧ RelV S0 w0 M v u := by
  simp only [quietV] at h
  split at h
  · rename_i z fs ps e1 e2 e3
    split at h
    · rename_i zs pl e4 e5
      obtain ⟨cs, hcs, rfl⟩ := Option.map_eq_some_iff.1 h
      obtain ⟨zv, hz1, hz2⟩ := zeroT_ok e1
      obtain ⟨p1, p2⟩ := parts_ok hR e3
      obtain ⟨rv, h1, h2⟩ := fill_ok (S0 := S0) (w0 := w0) (M := M) (zv := zv.cells) hcs (by rw [hz2]; exact zeros_rel e4) p1 p2
      refine ⟨.agg rv, ?_, rv.toList, by simp, h2⟩
      have hp : (parts.map fun (x : Nat × Operand) => (x.1, a.eval x.2)).toList = parts.toList.map fun x => (x.1, a.eval x.2) := by simp
      have hpl : ∀ i : Nat, (pl.toArray)[i]? = pl[i]? := fun i => List.getElem?_toArray
      simp only [Instr.build, Sem.run_bind, hz1, Result.andThen_ok, run_underlying e2, places_run e5]
      have hfun : (fun x => pl.toArray[x]?) = (fun x => pl[x]?) := funext hpl
      rw [hfun]
      have : (Array.map (fun x => match x with | (i, x) => (i, a.eval x)) parts).toList = parts.toList.map fun x => (x.1, a.eval x.2) := by simp
      rw [this, h1]
      rfl
    · cases h
  · cases h
theorem quiet_len {args : Array Operand} {ats : Array TypeId} {v : DV} {ty : TypeId} (hR : Rel S0 w0 nt s M a w) (h : quietV P s (.call { callee := .builtin .len, args := args, argTypes := ats }) = some v) :
    ∃ u, (Builtin.len_ ats ty (args.map a.eval)).run P w = .ok u w ∧ RelV S0 w0 M v u := by
  simp only [quietV] at h
  split at h
  · rename_i x t ea et
    have ha : args = #[x] := by rw [← Array.toArray_toList (xs := args), ea]
    have ht : ats = #[t] := by rw [← Array.toArray_toList (xs := ats), et]
    subst ha; subst ht
    have hx := ev_ok hR x
    split at h
    · rename_i b e1 e2
      obtain rfl := Option.some.inj h
      rw [e1] at hx
      obtain ⟨hx', hp⟩ := asSc_ok (S0 := S0) (w0 := w0) (M := M) rfl hx
      exact ⟨.int .i64 b.size, by simp [Builtin.len_, run_underlying e2, hx', goInt], sc_ok rfl⟩
    · rename_i n cs el e1 e2
      obtain rfl := Option.some.inj h
      rw [e1] at hx
      obtain ⟨hc, -⟩ := hx
      refine ⟨.int .i64 n, ?_, sc_ok rfl⟩
      generalize hu : a.eval x = u at hc
      have hfin : ∀ A c, u = .slice A n c → (Builtin.len_ #[t] ty (#[x].map a.eval)).run P w = .ok (.int .i64 n) w := fun A c e => by simp [Builtin.len_, run_underlying e2, hu, e, goInt]
      cases hc with
      | t r v hro => cases hro with
        | sl ad n' c cs vs r1 r2 r3 r4 r5 r6 => exact hfin _ _ rfl
        | em a0 c => exact hfin _ _ rfl
    · rename_i id p off n el e1 e2
      obtain rfl := Option.some.inj h
      rw [e1] at hx
      obtain ⟨hc, -⟩ := hx
      refine ⟨.int .i64 n, ?_, sc_ok rfl⟩
      generalize hu : a.eval x = u at hc
      have hfin : ∀ A c, u = .slice A n c → (Builtin.len_ #[t] ty (#[x].map a.eval)).run P w = .ok (.int .i64 n) w := fun A c e => by simp [Builtin.len_, run_underlying e2, hu, e, goInt]
      cases hc with
      | sl id p kk _ b o c sz m cs hat hle => exact hfin _ _ rfl
      | se id p off a0 d sz m cs hat => exact hfin _ _ rfl
    · rename_i el e1 e2
      obtain rfl := Option.some.inj h
      rw [e1] at hx
      obtain ⟨hc, -⟩ := hx
      refine ⟨.int .i64 0, ?_, sc_ok rfl⟩
      generalize hu : a.eval x = u at hc
      cases hc with
      | nl a0 => simp [Builtin.len_, run_underlying e2, hu, goInt]
    · cases h
  · cases h
/-- THE QUIET OPERATIONS. -/
theorem quiet_ok {o : Oper} {v : DV} (hR : Rel S0 w0 nt s M a w) (h : quietV P s o.op = some v) : ∃ u, (execOp a.eval o).run P w = .ok (.value u) w ∧ RelV S0 w0 M v u := by
  obtain ⟨dst, op, type, pos, after, guard⟩ := o
  simp only at h
  have lift : ∀ (q : Sem Value), (∃ u, q.run P w = .ok u w ∧ RelV S0 w0 M v u) → ∃ u, (do pure (Next.value (← q)) : Sem Next).run P w = .ok (.value u) w ∧ RelV S0 w0 M v u := by
    rintro q ⟨u, h1, h2⟩
    exact ⟨u, by simp [h1], h2⟩
  cases op with
  | move x => simp only [quietV, Option.some.injEq] at h; subst h; exact ⟨a.eval x, rfl, ev_ok hR x⟩
  | assign x => simp only [quietV, Option.some.injEq] at h; subst h; exact ⟨a.eval x, rfl, ev_ok hR x⟩
  | pick c x y =>
    simp only [quietV] at h
    split at h
    · rename_i b hb
      obtain rfl := Option.some.inj h
      have hc := (asSc_ok hb (ev_ok hR c)).1
      refine ⟨if b then a.eval x else a.eval y, ?_, ?_⟩
      · simp only [execOp, hc, Sem.run_bind, asBool, Sem.run_pure, Result.andThen_ok]
      · cases b
        · exact ev_ok hR y
        · exact ev_ok hR x
    · cases h
  | build t parts => exact lift _ (quiet_build hR h)
  | load t x => exact lift _ (quiet_load hR h)
  | nilCheck x => exact quiet_nilCheck rfl hR h
  | binOp op ty x y yt =>
    simp only [quietV] at h
    split at h
    · rename_i p q e1 e2
      obtain ⟨r, hr, rfl⟩ := Option.map_eq_some_iff.1 h
      obtain ⟨f1, g1⟩ := asSc_ok e1 (ev_ok hR x)
      obtain ⟨f2, g2⟩ := asSc_ok e2 (ev_ok hR y)
      obtain ⟨k1, k2⟩ := scBin_ok hr w
      refine lift _ ⟨r, ?_, sc_ok k2⟩
      simp only [f1, f2, Sem.run_bind, eqGuard_plain g1, Result.andThen_ok, k1]
    · cases h
  | unOp op ty x =>
    simp only [quietV] at h
    split at h
    · rename_i p e1
      obtain ⟨r, hr, rfl⟩ := Option.map_eq_some_iff.1 h
      obtain ⟨f1, g1⟩ := asSc_ok e1 (ev_ok hR x)
      obtain ⟨k1, k2⟩ := scUn_ok (P := P) hr w
      refine lift _ ⟨r, ?_, sc_ok k2⟩
      simp only [f1, k1]
    · cases h
  | convert src dst x =>
    simp only [quietV] at h
    split at h
    · rename_i k' n d k e1 e2 e3
      obtain rfl := Option.some.inj h
      obtain ⟨f1, g1⟩ := asSc_ok e1 (ev_ok hR x)
      refine lift _ ⟨_, ?_, sc_ok rfl⟩
      simp only [f1, convert, Sem.run_bind, run_underlying e2, run_underlying e3, Result.andThen_ok, Conv.intToInt]
      rfl
    · rename_i b d e1 e2 e3
      obtain rfl := Option.some.inj h
      obtain ⟨f1, g1⟩ := asSc_ok e1 (ev_ok hR x)
      refine lift _ ⟨_, ?_, sc_ok rfl⟩
      simp only [f1, convert, Sem.run_bind, run_underlying e2, run_underlying e3, Result.andThen_ok]
      rfl
    · cases h
  | slice t x lo hi mx =>
    cases mx with
    | none => exact lift _ (quiet_slice hR h)
    | some m => simp [quietV] at h
  | fieldAddr t x f => exact lift _ (quiet_fieldAddr hR h)
  | field t x f => exact lift _ (quiet_field hR h)
  | indexAddr t x i => exact lift _ (quiet_indexAddr hR h)
  | index t x i =>
    simp only [quietV] at h
    split at h
    · rename_i n b e1 e2 e3
      split at h
      · rename_i hn
        split at h
        · rename_i c hc
          obtain rfl := Option.some.inj h
          obtain ⟨k, hk⟩ := asInt_ok e2 (ev_ok hR i)
          obtain ⟨f1, g1⟩ := asSc_ok e3 (ev_ok hR x)
          refine lift _ ⟨.int .u8 c.toNat, ?_, sc_ok rfl⟩
          simp only [f1, hk, Instr.index, asIntOf, Sem.run_bind, Sem.run_pure, Result.andThen_ok, run_underlying e1, if_pos hn, hc]
        · cases h
      · cases h
    · cases h
  | extract x i => exact lift _ (quiet_extract hR h)
  | call c =>
    obtain ⟨callee, args, ats⟩ := c
    cases callee with
    | builtin b =>
      cases b <;> first
        | (simp [quietV] at h; done)
        | (have := lift _ (quiet_len (ty := type) hR h)
           obtain ⟨u, h1, h2⟩ := this
           refine ⟨u, ?_, h2⟩
           rw [← h1]
           simp [execOp, resolve, invoke, builtin])
    | _ => simp [quietV] at h
  | _ => simp [quietV] at h
end
end Go.Proofs.Ytciieaidbiejmaa.DM

/-
  DM 9. What is taken into hand, what is laid into a cell, and a new row: the state of the machine of values answers to the model's.
-/
namespace Go.Proofs.Ytciieaidbiejmaa.DM
set_option linter.unusedVariables false
set_option linter.unusedSimpArgs false
section
variable {S0 : Fr} {w0 w w' : World} {M M' : Heap} {X : List A} {P : Program} {nt : Nat} {s : FS} {a : Act}
theorem Inv.shrink {x y : A} (h : Inv S0 w0 M (X ++ [x]) w) (hy : Ok S0 w0 w y) (hh : y.isHold = false) (hb : y.blocks.Sublist x.blocks) : Inv S0 w0 M (X ++ [y]) w := by
  have hsub : ∀ b, b ∈ (X ++ [y]).flatMap T.blocks → b ∈ (X ++ [x]).flatMap T.blocks := fun b hb' => by
    rw [List.flatMap_append, List.mem_append] at hb' ⊢
    rcases hb' with h1 | h1
    · exact .inl h1
    · exact .inr (by simpa using hb.subset (by simpa using h1))
  refine ⟨h.ok, h.nd, h.dj, h.bl, h.wd, fun z hz => ?_, ?_, fun i u hu b hbu hbx => h.xd i u hu b hbu (hsub b hbx), fun b hb' => h.xb b (hsub b hb')⟩
  · rcases List.mem_append.1 hz with hz | hz
    · exact h.xo z (List.mem_append_left _ hz)
    · simp at hz; subst hz; exact ⟨hy, hh⟩
  · have := h.xn
    rw [List.flatMap_append] at this ⊢
    refine List.Sublist.nodup ?_ this
    exact List.Sublist.append (List.Sublist.refl _) (by simpa using hb)
theorem flat_sublist {l l' : List A} (h : l'.Sublist l) : (l'.flatMap T.blocks).Sublist (l.flatMap T.blocks) := by
  induction h with
  | slnil => exact List.Sublist.refl _
  | cons a _ ih => rw [List.flatMap_cons]; exact ih.trans (List.sublist_append_right _ _)
  | cons_cons a _ ih => rw [List.flatMap_cons, List.flatMap_cons]; exact List.Sublist.append (List.Sublist.refl _) ih
/-- A part of a row is a row. -/
theorem Ok.part {b o c sz m : Nat} {cs : List A} (h : Ok S0 w0 w (.ow (.blk b o c) sz m cs)) {k n : Nat} (hk : k + n ≤ m) :
    Ok S0 w0 w (.ow (.blk b (o + k * sz) (c - k)) sz n ((cs.drop (k * sz)).take (n * sz))) := by
  cases h with
  | ow _ _ _ _ _ _ cur ty fz k1 k2 k3 k4 k5 k6 k7 k8 k9 =>
    have h1 : k * sz + n * sz ≤ m * sz := by rw [← Nat.add_mul]; exact Nat.mul_le_mul_right _ hk
    have h2 : k * sz + (c - k) * sz = c * sz := by rw [← Nat.add_mul]; congr 1; omega
    obtain ⟨k3, k3', k3f⟩ := k3
    refine .ow _ _ _ _ _ _ cur ty fz k1 k2 ⟨by omega, k3', fun j hj hfx => k3f (k * sz + j) (by omega) (by rw [← Nat.add_assoc]; exact hfx)⟩ (by omega) (by omega) (by rw [List.length_take, List.length_drop, k6]; omega) (fun i x hi => ?_) (fun x hx => k8 x (List.mem_of_mem_drop (List.mem_of_mem_take hx))) (fun x hx => k9 x (List.mem_of_mem_drop (List.mem_of_mem_take hx)))
    have hik : i < n * sz := by have := (List.getElem?_eq_some_iff.1 hi).1; simp at this; omega
    rw [List.getElem?_take_of_lt hik, List.getElem?_drop] at hi
    have := k7 _ x hi
    rwa [← Nat.add_assoc] at this
theorem er_cells (cs : List A) (f : List A → List A) : True := trivial
theorem keeps_take {id : Nat} {t : A} {p : List Nat} {y : A} (ht : M id = some t) : ∀ i q, ¬ (i = id ∧ p <+: q) → Keeps M (upd M id (some (t.put p y))) i q := fun i q hn => by
  by_cases hi : i = id
  · subst hi; exact keeps_put ht (fun h => hn ⟨rfl, h⟩)
  · exact keeps_upd hi
theorem keeps_drop {id : Nat} : ∀ i q, ¬ (i = id ∧ ([] : List Nat) <+: q) → Keeps M (upd M id none) i q := fun i q hn => keeps_upd (fun h => hn ⟨h, List.nil_prefix⟩)
theorem er_upd {id : Nat} {t : Option A} (he : ∀ i, s.h i = (M i).map er) : ∀ i, upd s.h id (t.map er) i = (upd M id t i).map er := fun i => by
  by_cases hi : i = id
  · subst hi; rw [upd_same, upd_same]
  · rw [upd_ne _ _ _ _ hi, upd_ne _ _ _ _ hi]; exact he i
theorem er_put (t y : A) (p : List Nat) : er (t.put p y) = (er t).put p (er y) := T.put_map _ _ p t y
theorem er_gone (u : Value) : er (.gone u) = .gone () := rfl
theorem er_ow_mk (d : AD) (sz n : Nat) (cs : List A) : er (.ow d sz n cs) = .ow () sz n (cs.map er) := by
  simp only [er, T.map, T.mapL_eq]; rfl
/-- The state behind a row's being taken. -/
theorem take_ok (hR : RelX S0 w0 nt s M X a w) {id : Nat} {p : List Nat} {y : A} {root : D} (hat : at_ M id p y) (hr : s.h id = some root) (hh : y.isHold = false) :
    ∃ M1, RelX S0 w0 nt (s.take id p root) M1 (X ++ [y]) a w ∧ (∀ i q, ¬ (i = id ∧ p <+: q) → Keeps M M1 i q) := by
  obtain ⟨t, ht, hg⟩ := hat
  have hroot : root = er t := by have := hR.er id; rw [hr, ht] at this; simpa using this
  subst hroot
  have h1 := hR.inv.take ht hg hh
  cases p with
  | nil =>
    have h2 := h1.drop id
    have hM : upd (upd M id (some (t.put [] (.gone y.val)))) id none = upd M id none := by
      funext i
      by_cases hi : i = id
      · subst hi; simp [upd]
      · simp [upd, hi]
    rw [hM] at h2
    refine ⟨upd M id none, ⟨h2, er_upd (t := none) hR.er, fun i => (hR.en i).poison keeps_drop (fun j hj => keeps_upd hj), hR.nt, hR.df, fun i => (hR.gh i).poison keeps_drop (fun j hj => keeps_upd hj)⟩, keeps_drop⟩
  | cons j q =>
    refine ⟨_, ⟨h1, ?_, fun i => (hR.en i).poison (keeps_take ht) (fun j hj => keeps_upd hj), hR.nt, hR.df, fun i => (hR.gh i).poison (keeps_take ht) (fun j hj => keeps_upd hj)⟩, keeps_take ht⟩
    have := er_upd (id := id) (t := some (t.put (j :: q) (.gone y.val))) hR.er
    simp only [Option.map_some, er_put, er_gone] at this
    exact this
/-- A cell is absorbed: the tree in hand stands for the value; what is referred to elsewhere keeps. -/
theorem absorb_ok (hR : RelX S0 w0 nt s M X a w) {c : DC} {u : Value} {x : D} {s1 : FS} (hc : RelC S0 w0 M c u) (hu : u.oneCell' = true) (h : absorb s c = some (x, s1)) :
    ∃ M1 y, RelX S0 w0 nt s1 M1 (X ++ [y]) a w ∧ er y = x ∧ y.val = u ∧ y.isHold = false ∧ (∀ d v, RelC S0 w0 M d v → RelC S0 w0 M1 (pzOf c d) v) := by
  cases hc with
  | un v =>
    simp only [absorb, Option.some.injEq, Prod.mk.injEq] at h
    obtain ⟨rfl, rfl⟩ := h
    exact ⟨M, .gone u, ⟨hR.inv.hand (.gone u hu) rfl rfl, hR.er, hR.en, hR.nt, hR.df, hR.gh⟩, rfl, rfl, rfl, fun d v h => h⟩
  | t r v hro =>
    cases r with
    | sc v' =>
      simp only [absorb, Option.some.injEq, Prod.mk.injEq] at h
      obtain ⟨rfl, rfl⟩ := h
      cases hro with
      | sc v hv => exact ⟨M, .sc u, ⟨hR.inv.hand (.sc u hv) rfl rfl, hR.er, hR.en, hR.nt, hR.df, hR.gh⟩, rfl, rfl, rfl, fun d v h => h⟩
    | sl n cs =>
      simp only [absorb, Option.some.injEq, Prod.mk.injEq] at h
      obtain ⟨rfl, rfl⟩ := h
      exact ⟨M, .ro u (.sl n cs), ⟨hR.inv.hand (.ro u _ hro) rfl rfl, hR.er, hR.en, hR.nt, hR.df, hR.gh⟩, rfl, rfl, rfl, fun d v h => h⟩
    | fn f caps =>
      simp only [absorb, Option.some.injEq, Prod.mk.injEq] at h
      obtain ⟨rfl, rfl⟩ := h
      exact ⟨M, .ro u (.fn f caps), ⟨hR.inv.hand (.ro u _ hro) rfl rfl, hR.er, hR.en, hR.nt, hR.df, hR.gh⟩, rfl, rfl, rfl, fun d v h => h⟩
  | nl a0 =>
    simp only [absorb, Option.some.injEq, Prod.mk.injEq] at h
    obtain ⟨rfl, rfl⟩ := h
    exact ⟨M, .ow (.emp a0) 0 0 [], ⟨hR.inv.hand (.em a0 0) rfl (by simp [T.blocks, T.blocksL]), hR.er, hR.en, hR.nt, hR.df, hR.gh⟩, rfl, rfl, rfl, fun d v h => h⟩
  | sl id p k n b o c sz m cs hat hle =>
    simp only [absorb] at h
    split at h
    · rename_i root hr
      split at h
      · rename_i sz' m' cs' hg
        split at h
        · rename_i hlen
          simp only [Option.some.injEq, Prod.mk.injEq] at h
          obtain ⟨rfl, rfl⟩ := h
          obtain ⟨y0, hat0, he0, hok0⟩ := node_ok hR hr hg
          have hy := at_unique hat0 hat
          subst hy
          rw [er_ow_mk] at he0
          simp only [T.ow.injEq, true_and] at he0
          obtain ⟨rfl, rfl, rfl⟩ := he0
          obtain ⟨M1, h1, h2⟩ := take_ok hR hat0 hr rfl
          refine ⟨M1, .ow (.blk b (o + k * sz) (c - k)) sz n ((cs.drop (k * sz)).take (n * sz)), ⟨h1.inv.shrink (hok0.part hle) rfl ?_, h1.er, h1.en, h1.nt, h1.df, h1.gh⟩, ?_, rfl, rfl, ?_⟩
          · simp only [T.blocks, T.blocksL_eq]
            exact List.Sublist.cons_cons _ (flat_sublist ((List.take_sublist _ _).trans (List.drop_sublist _ _)))
          · rw [er_ow_mk, List.map_take, List.map_drop]
          · exact fun d v hd => hd.poison h2 (fun i hi => h2 i [] (fun h => hi h.1))
        · cases h
      · cases h
    · cases h
  | se id p off a0 d sz m cs hat =>
    simp only [absorb] at h
    split at h
    · rename_i root hr
      split at h
      · rename_i sz' m' cs' hg
        split at h
        · rename_i hlen
          simp only [Option.some.injEq, Prod.mk.injEq] at h
          obtain ⟨rfl, rfl⟩ := h
          obtain ⟨M1, h1, h2⟩ := take_ok hR hat hr rfl
          refine ⟨M1, .ow (.emp a0) sz' 0 [], ⟨h1.inv.shrink (.em a0 sz') rfl ?_, h1.er, h1.en, h1.nt, h1.df, h1.gh⟩, ?_, rfl, rfl, ?_⟩
          · have hb0 : (T.ow (.emp a0) sz' 0 [] : A).blocks = [] := by simp [T.blocks, T.blocksL]
            rw [hb0]; exact List.nil_sublist _
          · rw [er_ow_mk]; simp
          · exact fun d v hd => hd.poison h2 (fun i hi => h2 i [] (fun h => hi h.1))
        · cases h
      · cases h
    · cases h
  | pt => simp [absorb] at h
  | rp => simp [absorb] at h
  | fn => simp [absorb] at h
theorem RelL.map {cs : List DC} {vs : List Value} {f : DC → DC} (h : RelL S0 w0 M cs vs) (hf : ∀ d v, RelC S0 w0 M d v → RelC S0 w0 M' (f d) v) : RelL S0 w0 M' (cs.map f) vs := by
  obtain ⟨h1, h2, h3⟩ := h
  refine ⟨by simpa using h1, fun i c u hc hu => ?_, h3⟩
  rw [List.getElem?_map, Option.map_eq_some_iff] at hc
  obtain ⟨c', hc', rfl⟩ := hc
  exact hf _ _ (h2 i c' u hc' hu)
theorem RelL.head {c : DC} {v : Value} {cs : List DC} {vs : List Value} (h : RelL S0 w0 M (c :: cs) (v :: vs)) : RelC S0 w0 M c v ∧ v.oneCell' = true ∧ RelL S0 w0 M cs vs := by
  obtain ⟨h1, h2, h3⟩ := h
  exact ⟨h2 0 c v rfl rfl, h3 v (by simp), by simpa using h1, fun i d u hd hu => h2 (i + 1) d u (by simpa using hd) (by simpa using hu), fun u hu => h3 u (List.mem_cons_of_mem _ hu)⟩
/-- A list of cells is absorbed. -/
theorem absorbL_ok : ∀ {cs : List DC} {vs : List Value} {s : FS} {M : Heap} {X : List A} {xs : List D} {s1 : FS}, RelX S0 w0 nt s M X a w → RelL S0 w0 M cs vs → absorbL s cs = some (xs, s1) →
    ∃ M1 ys, RelX S0 w0 nt s1 M1 (X ++ ys) a w ∧ ys.map er = xs ∧ ys.map T.val = vs ∧ (∀ y ∈ ys, y.isHold = false) := by
  intro cs
  induction hn : cs.length generalizing cs with
  | zero =>
    intro vs s M X xs s1 hR hL h
    have : cs = [] := List.length_eq_zero_iff.1 hn
    subst this
    have hv : vs = [] := List.length_eq_zero_iff.1 (by simpa using hL.1)
    subst hv
    simp only [absorbL, Option.some.injEq, Prod.mk.injEq] at h
    obtain ⟨rfl, rfl⟩ := h
    exact ⟨M, [], by simpa using hR, rfl, rfl, by simp⟩
  | succ n ih =>
    intro vs s M X xs s1 hR hL h
    cases cs with
    | nil => simp at hn
    | cons c cs =>
      cases vs with
      | nil => have := hL.1; simp at this
      | cons v vs =>
        obtain ⟨hc, h1, hL'⟩ := hL.head
        rw [absorbL] at h
        split at h
        · rename_i x s2 hx
          split at h
          · rename_i xs2 s3 hxs
            simp only [Option.some.injEq, Prod.mk.injEq] at h
            obtain ⟨rfl, rfl⟩ := h
            obtain ⟨M1, y, hR1, e1, e2, e3, hk⟩ := absorb_ok hR hc h1 hx
            obtain ⟨M2, ys, hR2, f1, f2, f3⟩ := ih (cs := cs.map (pzOf c)) (by simp at hn ⊢; exact hn) hR1 (hL'.map hk) hxs
            refine ⟨M2, y :: ys, by simpa using hR2, by simp [e1, f1], by simp [e2, f2], fun z hz => ?_⟩
            rcases List.mem_cons.1 hz with rfl | hz
            · exact e3
            · exact f3 z hz
          · cases h
        · cases h
/-- One cell is laid. -/
theorem storeC_ok (hR : Rel S0 w0 nt s M a w) {id off : Nat} {p : List Nat} {c : DC} {u ad : Value} {s1 : FS} {f : DC → DC} (hd : RelC S0 w0 M (.pt id p off) ad) (hc : RelC S0 w0 M c u) (h1 : u.oneCell' = true) (h : storeC s id p off c = some (s1, f)) :
    ∃ b o M1, ad = .pointer (some ⟨b, o, none⟩) ∧ Rel S0 w0 nt s1 M1 a (w.setCell ⟨b, o, none⟩ u) ∧ (w.cell? ⟨b, o, none⟩).isSome = true ∧ w.frozen? ⟨b, o, none⟩ = false ∧ (∀ d v, RelC S0 w0 M d v → RelC S0 w0 M1 (f d) v) ∧
      RelC S0 w0 M1 (.pt id p (off + 1)) (.pointer (some ⟨b, o + 1, none⟩)) := by
  unfold storeC at h
  split at h
  · rename_i x s2 i' p' off' hx hpz
    split at h
    · rename_i root hr
      split at h
      · rename_i sz n cs hg
        split at h
        · rename_i old hold
          obtain ⟨M1, y, hR1, e1, e2, e3, hk⟩ := absorb_ok hR hc h1 hx
          have hd1 := hk _ _ hd
          have hpz' : pzOf c (.pt id p off) = .pt id p off := by
            have : pzOf c (.pt id p off) = .pt id p off ∨ pzOf c (.pt id p off) = .un := by
              unfold pzOf
              split
              · simp only [pzC]
                split
                · exact .inr rfl
                · exact .inl rfl
              · exact .inl rfl
            rcases this with h | h
            · exact h
            · rw [h] at hpz; cases hpz
          rw [hpz'] at hd1
          cases hd1 with
          | pt _ _ _ b o c' sz' m' cs' hat =>
            obtain ⟨y0, hat0, he0, hok0⟩ := node_ok hR1 hr hg
            have hy := at_unique hat0 hat
            subst hy
            rw [er_ow_mk] at he0
            simp only [T.ow.injEq, true_and] at he0
            obtain ⟨rfl, rfl, rfl⟩ := he0
            obtain ⟨t, ht, hgt⟩ := hat
            have hroot : root = er t := by have := hR1.er id; rw [hr, ht] at this; simpa using this
            subst hroot
            have holt : off < cs'.length := by have := (List.getElem?_eq_some_iff.1 hold).1; simpa using this
            have hinv : Inv S0 w0 M1 (y :: []) w := by simpa using hR1.inv
            obtain ⟨hI, hcell, hfr⟩ := hinv.store ht hgt holt
            have hkeep : ∀ i q, ¬ (i = id ∧ (p ++ [off]) <+: q) → (isOw old = true ∨ ∀ x0, ¬ (i = id ∧ (p ++ [off]) <+: q ∧ at_ M1 i q x0)) → True := fun _ _ _ _ => trivial
            -- the node itself keeps its place, and so does what lies elsewhere
            have hkeep1 : ∀ i q, ¬ (i = id ∧ (p ++ [off]) <+: q) → Keeps M1 (upd M1 id (some (t.put p (.ow (.blk b o c') sz' m' (cs'.set off y))))) i q := by
              intro i q hn
              by_cases hi : i = id
              · subst hi
                intro x0 hx0
                obtain ⟨t0, ht0, hq0⟩ := hx0
                rw [ht] at ht0
                obtain rfl := Option.some.inj ht0
                by_cases hpq : p <+: q
                · obtain ⟨r, rfl⟩ := hpq
                  have hsome : (t.get p).isSome = true := by rw [hgt]; rfl
                  cases r with
                  | nil =>
                    rw [List.append_nil] at hq0 ⊢
                    rw [hgt] at hq0
                    obtain rfl := Option.some.inj hq0
                    refine ⟨cs'.set off y, _, upd_same _ _ _, ?_⟩
                    have := get_put_same p [] t (.ow (.blk b o c') sz' m' (cs'.set off y)) hsome
                    rw [List.append_nil] at this
                    rw [this]; rfl
                  | cons j r =>
                    have hj : j ≠ off := fun e => hn ⟨rfl, by subst e; rw [show p ++ j :: r = (p ++ [j]) ++ r by simp]; exact List.prefix_append _ _⟩
                    refine ⟨x0.cells, _, upd_same _ _ _, ?_⟩
                    rw [get_put_same p (j :: r) t _ hsome]
                    have h0 := hq0
                    have hx0' : x0.withCells x0.cells = x0 := by cases x0 <;> rfl
                    rw [hx0']
                    have hga : ∀ (p r : List Nat) (t n0 : A), t.get p = some n0 → t.get (p ++ r) = n0.get r := by
                      intro p
                      induction p with
                      | nil => intro r t n0 h; simp [T.get] at h; subst h; rfl
                      | cons k p ih =>
                        intro r t n0 h
                        simp only [T.get, List.cons_append] at h ⊢
                        cases hc : t.cells[k]? with
                        | none => rw [hc] at h; cases h
                        | some c0 => rw [hc] at h; exact ih r c0 n0 h
                    rw [hga p (j :: r) t _ hgt] at h0
                    simp only [T.get, T.cells] at h0 ⊢
                    rw [List.getElem?_set_ne (by omega)]
                    exact h0
                · obtain ⟨cs2, h2⟩ := get_put_other p q t (.ow (.blk b o c') sz' m' (cs'.set off y)) x0 hq0 hpq
                  exact ⟨cs2, _, upd_same _ _ _, h2⟩
              · exact keeps_upd hi
            have hkeep2 : isOw old = false → ∀ i q, i = id → (p ++ [off]) <+: q → ∀ d sz2 m2 cs2, ¬ at_ M1 i q (.ow d sz2 m2 cs2) := by
              intro ho i q hi hpq d sz2 m2 cs2 hat2
              subst hi
              obtain ⟨r, rfl⟩ := hpq
              obtain ⟨t0, ht0, hq0⟩ := hat2
              rw [ht] at ht0
              obtain rfl := Option.some.inj ht0
              have hch := get_append p off t _ hgt
              simp only [T.cells] at hch
              obtain ⟨z, hz⟩ : ∃ z, cs'[off]? = some z := ⟨_, List.getElem?_eq_getElem holt⟩
              rw [hz] at hch
              have hez : er z = old := by rw [List.getElem?_map, hz] at hold; simpa using hold
              have hzow : ∀ d sz n cs, z ≠ .ow d sz n cs := fun d sz n cs e => by
                subst e; rw [er_ow_mk] at hez; subst hez; simp [isOw] at ho
              have hga : ∀ (p r : List Nat) (t n0 : A), t.get p = some n0 → t.get (p ++ r) = n0.get r := by
                intro p
                induction p with
                | nil => intro r t n0 h; simp [T.get] at h; subst h; rfl
                | cons k p ih =>
                  intro r t n0 h
                  simp only [T.get, List.cons_append] at h ⊢
                  cases hc : t.cells[k]? with
                  | none => rw [hc] at h; cases h
                  | some c0 => rw [hc] at h; exact ih r c0 n0 h
              rw [hga _ r t z hch] at hq0
              have hzh : z.isHold = false := hok0.notHold (List.mem_of_getElem? hz)
              cases r with
              | nil => simp [T.get] at hq0; exact hzow _ _ _ _ hq0
              | cons j r =>
                simp only [T.get] at hq0
                cases z with
                | ow d sz n cs => exact hzow _ _ _ _ rfl
                | hold cs => simp [T.isHold] at hzh
                | _ => simp [T.cells] at hq0
            have her : ∀ i, upd s2.h id (some ((er t).put p (.ow () sz' m' ((cs'.map er).set off x)))) i = (upd M1 id (some (t.put p (.ow (.blk b o c') sz' m' (cs'.set off y)))) i).map er := by
              have := er_upd (id := id) (t := some (t.put p (.ow (.blk b o c') sz' m' (cs'.set off y)))) hR1.er
              simp only [Option.map_some, er_put, er_ow_mk, List.map_set, e1] at this
              exact this
            have hkd : isOw old = false → ∀ d v, RelC S0 w0 M1 d v → RelC S0 w0 (upd M1 id (some (t.put p (.ow (.blk b o c') sz' m' (cs'.set off y))))) d v := by
              intro ho d v hdv
              have hkk : ∀ i q, (∃ d sz2 m2 cs2, at_ M1 i q (.ow d sz2 m2 cs2)) → Keeps M1 (upd M1 id (some (t.put p (.ow (.blk b o c') sz' m' (cs'.set off y))))) i q := by
                rintro i q ⟨d, sz2, m2, cs2, hat2⟩
                by_cases hn : i = id ∧ (p ++ [off]) <+: q
                · exact absurd hat2 (hkeep2 ho i q hn.1 hn.2 _ _ _ _)
                · exact hkeep1 i q hn
              refine hdv.keep (fun r hr => hkk r.1 r.2 ?_)
              cases hdv with
              | un v => simp [refsC] at hr
              | t r v h => simp [refsC] at hr
              | nl a => simp [refsC] at hr
              | sl id p k n b o c sz m cs g1 g2 => simp [refsC] at hr; subst hr; exact ⟨_, _, _, _, g1⟩
              | se id p off a d sz m cs g1 => simp [refsC] at hr; subst hr; exact ⟨_, _, _, _, g1⟩
              | pt id p off b o c sz m cs g1 => simp [refsC] at hr; subst hr; exact ⟨_, _, _, _, g1⟩
              | rp cs a h => simp [refsC] at hr
              | fn f ids ps hl g =>
                simp only [refsC, List.mem_map] at hr
                obtain ⟨i, hi, rfl⟩ := hr
                obtain ⟨j, hj, rfl⟩ := List.getElem_of_mem hi
                obtain ⟨b2, o2, c2, sz2, cs2, g1, _⟩ := g j _ _ (List.getElem?_eq_getElem hj) (List.getElem?_eq_getElem (by omega))
                exact ⟨_, _, _, _, g1⟩
            have hptn : RelC S0 w0 (upd M1 id (some (t.put p (.ow (.blk b o c') sz' m' (cs'.set off y))))) (.pt id p (off + 1)) (.pointer (some ⟨b, o + off + 1, none⟩)) := by
              have hsome : (t.get p).isSome = true := by rw [hgt]; rfl
              have := get_put_same p [] t (.ow (.blk b o c') sz' m' (cs'.set off y)) hsome
              rw [List.append_nil] at this
              exact .pt id p (off + 1) b o c' sz' m' _ ⟨_, upd_same _ _ _, this⟩
            rw [e2] at hI
            split at h
            · simp only [Option.some.injEq, Prod.mk.injEq] at h
              obtain ⟨rfl, rfl⟩ := h
              refine ⟨b, o + off, _, rfl, ⟨hI, her, fun i => ?_, hR1.nt, hR1.df, fun i => (hR1.gh i).poison hkeep1 (fun i hi => hkeep1 i [] (fun h => hi h.1))⟩, hcell, hfr, fun d v hdv => (hk d v hdv).poison hkeep1 (fun i hi => hkeep1 i [] (fun h => hi h.1)), hptn⟩
              exact (hR1.en i).poison hkeep1 (fun i hi => hkeep1 i [] (fun h => hi h.1))
            · rename_i hno
              have ho : isOw old = false := by simpa using hno
              simp only [Option.some.injEq, Prod.mk.injEq] at h
              obtain ⟨rfl, rfl⟩ := h
              refine ⟨b, o + off, _, rfl, ⟨hI, her, fun i => ?_, hR1.nt, hR1.df, fun i => hkd ho _ _ (hR1.gh i)⟩, hcell, hfr, fun d v hdv => hkd ho _ _ (hk d v hdv), hptn⟩
              have hen := hR1.en i
              revert hen
              generalize s2.e i = ev0
              intro hen
              have k1 : ∀ (x : V1) (v : Value), Rel1 S0 w0 M1 x v → Rel1 S0 w0 (upd M1 id (some (t.put p (.ow (.blk b o c') sz' m' (cs'.set off y))))) x v := fun x v hx => by
                have := Rel1.map (f := fun c => c) hx (hkd ho)
                cases x with
                | one c => exact this
                | agg cs => simpa using this
              cases ev0 with
              | un => trivial
              | v x => exact k1 x _ hen
              | tup xs =>
                obtain ⟨vs, g0, g1, g2⟩ := hen
                exact ⟨vs, g0, g1, fun i y u hy hu => k1 y u (g2 i y u hy hu)⟩
        · cases h
      · cases h
    · cases h
  · cases h
end
end Go.Proofs.Ytciieaidbiejmaa.DM

/-
  DM 10. Cells laid one behind the other; a row that grows; a new row.
-/
namespace Go.Proofs.Ytciieaidbiejmaa.DM
set_option linter.unusedVariables false
set_option linter.unusedSimpArgs false
theorem setCells_oo (b : Nat) : ∀ (vs : List Value) (o : Nat) (w : World), (w.setCells b o vs).os = w.os ∧ (w.setCells b o vs).output = w.output ∧ (w.setCells b o vs).tape = w.tape
  | [], o, w => ⟨rfl, rfl, rfl⟩
  | v :: vs, o, w => by
    have := setCells_oo b vs (o + 1) (w.setCell ⟨b, o, none⟩ v)
    exact this
section
variable {S0 : Fr} {w0 w w' : World} {M M' : Heap} {X : List A} {P : Program} {nt : Nat} {s : FS} {a : Act}
theorem storeL_ok : ∀ {cs : List DC} {vs : List Value} {s : FS} {M : Heap} {w : World} {id off b o i : Nat} {p : List Nat} {s1 : FS}, Rel S0 w0 nt s M a w → RelL S0 w0 M cs vs → RelC S0 w0 M (.pt id p off) (.pointer (some ⟨b, o + i, none⟩)) →
    storeL s id p off cs = some s1 → ∃ M1 w1, (storeCells ⟨b, o, none⟩ vs i).run P w = .ok () w1 ∧ Rel S0 w0 nt s1 M1 a w1 := by
  intro cs
  induction hn : cs.length generalizing cs with
  | zero =>
    intro vs s M w id off b o i p s1 hR hL hd h
    have : cs = [] := List.length_eq_zero_iff.1 hn
    subst this
    have hv : vs = [] := List.length_eq_zero_iff.1 (by simpa using hL.1)
    subst hv
    simp only [storeL, Option.some.injEq] at h
    subst h
    exact ⟨M, w, rfl, hR⟩
  | succ n ih =>
    intro vs s M w id off b o i p s1 hR hL hd h
    cases cs with
    | nil => simp at hn
    | cons c cs =>
      cases vs with
      | nil => have := hL.1; simp at this
      | cons v vs =>
        obtain ⟨hc, h1, hL'⟩ := hL.head
        rw [storeL] at h
        split at h
        · rename_i s2 f hst
          obtain ⟨b', o', M1, e1, hR1, hcell, hfr, hk, hd1⟩ := storeC_ok hR hd hc h1 hst
          have e2 : (⟨b, o + i, none⟩ : Addr) = ⟨b', o', none⟩ := by simpa using e1
          simp only [Addr.mk.injEq, and_true] at e2
          obtain ⟨rfl, rfl⟩ := e2
          obtain ⟨M2, w2, hrun, hR2⟩ := ih (cs := cs.map f) (by simp at hn ⊢; exact hn) (i := i + 1) hR1 (hL'.map hk) (by rw [← Nat.add_assoc]; exact hd1) h
          refine ⟨M2, w2, ?_, hR2⟩
          have hs : (store ((⟨b, o, none⟩ : Addr).add i) v).run P w = .ok () (w.setCell ⟨b, o + i, none⟩ v) := by
            rw [add_eq, run_store P w _ v _ h1]
            obtain ⟨u, hu⟩ := Option.isSome_iff_exists.1 hcell
            rw [hu]
            simp [hfr]
          simp only [storeCells, Sem.run_bind, hs, Result.andThen_ok]
          exact hrun
        · cases h
theorem addr_spot {b o : Nat} : (⟨b, o, none⟩ : Addr).add 0 = ⟨b, o, none⟩ := rfl
/-- 'store'. -/
theorem store_ok {t : TypeId} {x y : Operand} {id off : Nat} {p : List Nat} {cs : List DC} {s1 : FS} (hR : Rel S0 w0 nt s M a w) (e1 : ev s.e x = .v (.one (.pt id p off))) (e2 : dcs (ev s.e y) = some cs) (e3 : szT P t = some cs.length) (h : storeL s id p off cs = some s1) :
    ∃ w1 M1, (Instr.storeAt t (a.eval x) (a.eval y)).run P w = .ok () w1 ∧ Rel S0 w0 nt s1 M1 a w1 := by
  have hx := ev_ok hR x
  rw [e1] at hx
  obtain ⟨hc, -⟩ := hx
  have hL := dcs_rel e2 (ev_ok hR y)
  generalize hu : a.eval x = u at hc
  cases hc with
  | pt _ _ _ b o c sz m cs' hat =>
    obtain ⟨M1, w1, hrun, hR1⟩ := storeL_ok (P := P) (b := b) (o := o + off) (i := 0) hR hL (.pt id p off b o c sz m cs' hat) h
    refine ⟨w1, M1, ?_, hR1⟩
    have hl : (a.eval y).cells.size = cs.length := by have := hL.1; simpa using this
    simp only [Instr.storeAt, Instr.sureAddr, Sem.run_bind, Sem.run_pure, Result.andThen_ok, storeVar, szT_ok e3, hl, ne_eq, not_true, if_false, hrun]
/-- What a row in hand holds comes to hand in its place. -/
theorem Inv.unwrap {b o c sz n : Nat} {cs Z : List A} (h : Inv S0 w0 M (.ow (.blk b o c) sz n cs :: Z) w) : Inv S0 w0 M (cs ++ Z) w := by
  have hb : (T.ow (.blk b o c) sz n cs : A).blocks = b :: cs.flatMap T.blocks := by simp [T.blocks, T.blocksL_eq]
  have hsub : ∀ k, k ∈ (cs ++ Z).flatMap T.blocks → k ∈ (T.ow (.blk b o c) sz n cs :: Z : List A).flatMap T.blocks := fun k hk => by
    rw [List.flatMap_append, List.mem_append] at hk
    rw [List.flatMap_cons, hb, List.mem_append]
    exact hk.imp (List.mem_cons_of_mem _) id
  have h0 := h.xo _ List.mem_cons_self
  refine ⟨h.ok, h.nd, h.dj, h.bl, h.wd, fun x hx => ?_, ?_, fun i u hu k hk hkx => h.xd i u hu k hk (hsub k hkx), fun k hk => h.xb k (hsub k hk)⟩
  · rcases List.mem_append.1 hx with hx | hx
    · exact ⟨h0.1.cell (by simpa [T.cells] using hx), h0.1.notHold (by simpa [T.cells] using hx)⟩
    · exact h.xo x (List.mem_cons_of_mem _ hx)
  · have := h.xn
    rw [List.flatMap_cons, hb] at this
    rw [List.flatMap_append]
    rw [List.cons_append, List.nodup_cons] at this
    exact this.2
theorem setCells_heap {g : Nat} {t : TypeId} {fz : Nat × Nat} : ∀ (vs : List Value) (o : Nat) (w : World) (cur : Array Value), w.heap[g]? = some (.cells cur t fz) → o + vs.length ≤ cur.size →
    ∃ cur' : Array Value, (w.setCells g o vs).heap[g]? = some (.cells cur' t fz) ∧ cur'.size = cur.size ∧ (∀ i, i < o ∨ o + vs.length ≤ i → cur'[i]? = cur[i]?) ∧ (∀ i, i < vs.length → cur'[o + i]? = vs[i]?)
  | [], o, w, cur, h, hl => ⟨cur, h, rfl, fun _ _ => rfl, fun i hi => by simp at hi⟩
  | v :: vs, o, w, cur, h, hl => by
    simp only [List.length_cons] at hl
    have h1 : (w.setCell ⟨g, o, none⟩ v).heap[g]? = some (.cells (cur.setIfInBounds o v) t fz) := by
      simp only [World.setCell, Array.getElem?_modify, if_pos rfl, h, Option.map_some]; simp
    obtain ⟨cur', e1, e2, e3, e4⟩ := setCells_heap vs (o + 1) _ _ h1 (by simp; omega)
    refine ⟨cur', e1, by simpa using e2, fun i hi => ?_, fun i hi => ?_⟩
    · simp only [List.length_cons] at hi
      rw [e3 i (by omega), Array.getElem?_setIfInBounds_ne (by omega)]
    · cases i with
      | zero => rw [Nat.add_zero, e3 o (by omega), Array.getElem?_setIfInBounds_self_of_lt (by omega)]; rfl
      | succ i =>
        have := e4 i (by simpa using hi)
        rw [show o + (i + 1) = o + 1 + i by omega, this]; simp
theorem setCells_other {g k : Nat} (hk : k ≠ g) : ∀ (vs : List Value) (o : Nat) (w : World), (w.setCells g o vs).heap[k]? = w.heap[k]?
  | [], _, _ => rfl
  | v :: r, o, w => by
    rw [World.setCells, setCells_other hk r (o + 1)]
    simp only [World.setCell, Array.getElem?_modify]
    rw [if_neg (fun e => hk e.symm)]
theorem setCells_size {g : Nat} : ∀ (vs : List Value) (o : Nat) (w : World), (w.setCells g o vs).heap.size = w.heap.size
  | [], _, _ => rfl
  | v :: r, o, w => by rw [World.setCells, setCells_size r (o + 1)]; simp [World.setCell]
/-- A row in hand grows within its room. -/
theorem Inv.grow {id b o c sz n m : Nat} {cs Z : List A} (h : Inv S0 w0 M (.ow (.blk b o c) sz n cs :: Z) w) (hid : M id = none) (hZ : Z.length = m * sz) (hroom : n + m ≤ c) :
    Inv S0 w0 (upd M id (some (.ow (.blk b o c) sz (n + m) (cs ++ Z)))) [] (w.setCells b (o + n * sz) (Z.map T.val)) ∧
    (∀ j, j < (Z.map T.val).length → (w.cell? ⟨b, o + n * sz + j, none⟩).isSome = true) ∧ (∀ j, j < (Z.map T.val).length → w.frozen? ⟨b, o + n * sz + j, none⟩ = false) := by
  have hb : (T.ow (.blk b o c) sz n cs : A).blocks = b :: cs.flatMap T.blocks := by simp [T.blocks, T.blocksL_eq]
  have hb' : (T.ow (.blk b o c) sz (n + m) (cs ++ Z) : A).blocks = b :: (cs.flatMap T.blocks ++ Z.flatMap T.blocks) := by simp [T.blocks, T.blocksL_eq]
  have hxn := h.xn
  rw [List.flatMap_cons, hb] at hxn
  have hbX : b ∈ (T.ow (.blk b o c) sz n cs :: Z : List A).flatMap T.blocks := by rw [List.flatMap_cons, hb]; simp
  obtain ⟨hbs, hbS⟩ := h.xb b hbX
  have h0 := (h.xo _ List.mem_cons_self).1
  have hnotin : b ∉ cs.flatMap T.blocks ++ Z.flatMap T.blocks := by
    rw [List.cons_append, List.nodup_cons] at hxn
    exact hxn.1
  have hu := h.unwrap
  cases h0 with
  | ow _ _ _ _ _ _ cur ty fz k1 k2 k3 k4 k5 k6 k7 k8 k9 =>
    obtain ⟨k3, k3', k3f⟩ := k3
    have hle : o + n * sz + (Z.map T.val).length ≤ cur.size := by
      rw [List.length_map, hZ]
      have : n * sz + m * sz ≤ c * sz := by rw [← Nat.add_mul]; exact Nat.mul_le_mul_right _ hroom
      omega
    obtain ⟨cur', e1, e2, e3, e4⟩ := setCells_heap (Z.map T.val) (o + n * sz) w cur k1 hle
    have hfr : ∀ k, k ≠ b → (w.setCells b (o + n * sz) (Z.map T.val)).heap[k]? = w.heap[k]? := fun k hk => setCells_other hk _ _ _
    have hsz : (w.setCells b (o + n * sz) (Z.map T.val)).heap.size = w.heap.size := setCells_size _ _ _
    have hokc : ∀ x ∈ cs ++ Z, Ok S0 w0 (w.setCells b (o + n * sz) (Z.map T.val)) x := fun x hx => (hu.xo x hx).1.frame fun k hk => hfr k (fun e => by
      subst e
      apply hnotin
      rw [← List.flatMap_append]
      exact List.mem_flatMap.2 ⟨x, hx, hk⟩)
    have hlook : ∀ i u, upd M id (some (.ow (.blk b o c) sz (n + m) (cs ++ Z))) i = some u → (i = id ∧ u = .ow (.blk b o c) sz (n + m) (cs ++ Z)) ∨ (i ≠ id ∧ M i = some u) := fun i u hu => by
      by_cases hi : i = id
      · subst hi; rw [upd_same] at hu; exact .inl ⟨rfl, (Option.some.inj hu).symm⟩
      · rw [upd_ne _ _ _ _ hi] at hu; exact .inr ⟨hi, hu⟩
    have hblx : ∀ k, k ∈ (T.ow (.blk b o c) sz (n + m) (cs ++ Z) : A).blocks → k ∈ (T.ow (.blk b o c) sz n cs :: Z : List A).flatMap T.blocks := fun k hk => by
      rw [hb'] at hk; rw [List.flatMap_cons, hb]; simpa using hk
    refine ⟨⟨?_, ?_, ?_, ?_, ⟨?_, h.wd.s0, h.wd.tb, by rw [hsz]; exact h.wd.sz, h.wd.rk, ?_, (setCells_oo _ _ _ _).1.trans h.wd.oo.1, (setCells_oo _ _ _ _).2.1.trans h.wd.oo.2.1, (setCells_oo _ _ _ _).2.2.trans h.wd.oo.2.2⟩, by simp, by simp, by simp, by simp⟩, ?_, ?_⟩
    · intro i u hu'
      rcases hlook i u hu' with ⟨rfl, rfl⟩ | ⟨hi, hm'⟩
      · refine .ow b o c sz (n + m) _ cur' ty fz e1 (by rw [e2]; exact k2) ⟨by rw [e2]; exact k3, k3', k3f⟩ hroom k5 (by rw [List.length_append, k6, hZ, Nat.add_mul]) (fun j x hj => ?_) hokc (fun x hx => (hu.xo x hx).2)
        by_cases hjl : j < cs.length
        · rw [List.getElem?_append_left hjl] at hj
          rw [e3 (o + j) (.inl (by omega))]
          exact k7 j x hj
        · rw [List.getElem?_append_right (by omega)] at hj
          have hjz := (List.getElem?_eq_some_iff.1 hj).1
          have := e4 (j - cs.length) (by simpa using hjz)
          rw [show o + n * sz + (j - cs.length) = o + j by omega] at this
          rw [this, List.getElem?_map, hj]; rfl
      · exact (h.ok i u hm').frame fun k hk => hfr k (fun e => by subst e; exact h.xd i u hm' _ hk hbX)
    · intro i u hu'
      rcases hlook i u hu' with ⟨rfl, rfl⟩ | ⟨hi, hm'⟩
      · rw [hb']; simpa using hxn
      · exact h.nd i u hm'
    · intro i j u v hij hu' hv k hku hkv
      rcases hlook i u hu' with ⟨rfl, rfl⟩ | ⟨hi, hm1⟩
      · rcases hlook j v hv with ⟨rfl, rfl⟩ | ⟨hj, hm2⟩
        · exact absurd rfl hij
        · exact h.xd j v hm2 k hkv (hblx k hku)
      · rcases hlook j v hv with ⟨rfl, rfl⟩ | ⟨hj, hm2⟩
        · exact h.xd i u hm1 k hku (hblx k hkv)
        · exact h.dj i j u v hij hm1 hm2 k hku hkv
    · intro i u k hu' hk
      rw [hsz]
      rcases hlook i u hu' with ⟨rfl, rfl⟩ | ⟨hi, hm1⟩
      · exact h.xb k (hblx k hk)
      · exact h.bl i u k hm1 hk
    · intro k hk
      rw [hfr k (fun e => hbS (e ▸ hk))]
      exact h.wd.fr k hk
    · intro b' j hfx
      obtain ⟨h1_, h2_⟩ := h.wd.fx b' j hfx
      refine ⟨h1_, ?_⟩
      rw [← h2_]
      refine World.cell?_setCells_out b _ _ _ _ (fun e _ => ?_)
      simp only at e
      subst e
      rw [List.length_map, hZ]
      rcases Nat.lt_or_ge j (o + n * sz) with hlt | hge
      · exact .inl hlt
      · refine .inr (Nat.le_of_not_lt fun hlt => ?_)
        have hle2 : n * sz + m * sz ≤ c * sz := by rw [← Nat.add_mul]; exact Nat.mul_le_mul_right _ hroom
        refine k3f (j - o) (by show j - o < c * sz; simp only at hlt; omega) ?_
        rw [show o + (j - o) = j by omega]
        exact hfx
    · intro j hj
      simp only [World.cell?, k1]
      simp [Array.getElem?_eq_getElem (show o + n * sz + j < cur.size by omega)]
    · intro j hj
      simp only [World.frozen?, k1]
      have := k2 (o + n * sz + j) (lt_fzTo (by omega))
      simp only [Bool.and_eq_false_iff, decide_eq_false_iff_not]
      by_cases hh : fz.1 ≤ o + n * sz + j
      · right; exact fun h' => this ⟨hh, h'⟩
      · left; exact hh
/-- A temporary is laid. -/
theorem RelX.put (hR : RelX S0 w0 nt s M X a w) {d : Nat} {v : DV} {u : Value} (hv : RelV S0 w0 M v u) (hd : d < nt) : RelX S0 w0 nt ⟨upd s.e d v, s.h, s.g⟩ M X (a.put (some d) u) w := by
  refine ⟨hR.inv, hR.er, fun i => ?_, by simp [Act.put, hR.nt], hR.df, hR.gh⟩
  simp only [Act.put]
  by_cases hi : i = d
  · subst hi
    rw [upd_same]
    have : i < a.tmps.size := by rw [hR.nt]; exact hd
    simp [Array.getD, Array.getElem?_setIfInBounds, this]
    exact hv
  · rw [upd_ne _ _ _ _ hi]
    have := hR.en i
    simp only [Array.getD_eq_getD_getElem?] at this ⊢
    rw [Array.getElem?_setIfInBounds_ne (fun e => hi e.symm)]
    exact this
theorem RelX.set (hR : RelX S0 w0 nt s M X a w) {dst : Option Nat} {v : DV} {u : Value} (hv : RelV S0 w0 M v u) (hd : dstOk nt dst = true) : RelX S0 w0 nt (s.set dst v) M X (a.put dst u) w := by
  cases dst with
  | none => exact hR
  | some d => exact hR.put hv (by simpa [dstOk] using hd)
theorem keeps_new {id : Nat} {t : A} (h : M id = none) : ∀ i q, Keeps M (upd M id (some t)) i q := fun i q => by
  by_cases hi : i = id
  · subst hi; intro x ⟨t0, ht0, _⟩; rw [h] at ht0; cases ht0
  · exact keeps_upd hi
/-- A new entry. -/
theorem entry_ok (hR : RelX S0 w0 nt s M X a w) {d : Nat} {t : A} {v : DV} {u : Value} {s1 : FS} {sz n : Nat} {xs : List D} (hd : d < nt) (hs : s.row d v sz n xs = some s1) (ht : er t = .ow () sz n xs)
    (hinv : M d = none → Inv S0 w0 (upd M d (some t)) [] w') (hv : RelV S0 w0 (upd M d (some t)) v u) : Rel S0 w0 nt s1 (upd M d (some t)) (a.put (some d) u) w' := by
  unfold FS.row at hs
  split at hs
  · rename_i hn
    obtain rfl := Option.some.inj hs
    have hM : M d = none := by
      have := hR.er d
      rw [hn] at this
      cases hm : M d with
      | none => rfl
      | some x => rw [hm] at this; cases this
    have h1 : RelX S0 w0 nt ⟨s.e, upd s.h d (some (.ow () sz n xs)), s.g⟩ (upd M d (some t)) [] a w' := by
      refine ⟨hinv hM, ?_, fun i => (hR.en i).keep (keeps_new hM), hR.nt, hR.df, fun i => (hR.gh i).keep (fun r _ => keeps_new hM r.1 r.2)⟩
      have := er_upd (id := d) (t := some t) hR.er
      simp only [Option.map_some, ht] at this
      exact this
    exact h1.put hv hd
  · cases hs
end
end Go.Proofs.Ytciieaidbiejmaa.DM

/-
  DM 11. The operations that lay rows or change them.
-/
namespace Go.Proofs.Ytciieaidbiejmaa.DM
set_option linter.unusedVariables false
set_option linter.unusedSimpArgs false
def roD : RT → D
  | .sc v => .sc v
  | r => .ro () r
def flatD : D → Bool
  | .sc _ => true
  | .ro _ _ => true
  | _ => false
/-- What is appended: the cells, and the state when they have been taken; what is no more referred to. -/
def srcCells (s : FS) (v : DV) (sz : Nat) : Option (Nat × List D × FS × (DC → DC)) := match v with
  | .v (.one (.t (.sc (.string b)))) => if sz = 1 then some (b.size, b.data.toList.map (fun c => .sc (.int .u8 c.toNat)), s, fun c => c) else none
  | .v (.one (.t (.sl m rcs))) => if rcs.length = m * sz then some (m, rcs.map roD, s, fun c => c) else none
  | .v (.one .nl) => some (0, [], s, fun c => c)
  | .v (.one (.sl id p off m)) => match s.h id with
    | some root => match root.get p with
      | some (.ow _ sz' _ cs) => if (sz' = sz ∨ m = 0) ∧ off + m * sz ≤ cs.length then
          (if ((cs.drop off).take (m * sz)).all flatD then some (m, (cs.drop off).take (m * sz), s, fun c => c)
           else match absorb s (.sl id p off m) with
            | some (.ow _ _ _ xs, s1) => some (m, xs, s1, pzOf (.sl id p off m))
            | _ => none)
          else none
      | _ => none
    | none => none
  | _ => none
def isRow : TypeDesc → Bool
  | .slice _ => true
  | .string => true
  | _ => false
variable (P : Program)
def appendF (nt : Nat) (s : FS) (dst : Option Nat) (b x : Operand) (tb tx : TypeId) : Option FS :=
  match dst, elemT P tb, P.underlying tx with
  | some d, some (e, sz), some du => match zeroT P e, isRow du with
    | some z, true => match srcCells s (ev s.e x) sz, ev s.e b with
      | some (m, new, s1, f), .v (.one c) => match absorb s1 (f c) with
        | some (.ow _ sz' n cs, s2) => if d < nt ∧ z.length = sz ∧ 0 < sz ∧ (sz' = sz ∨ (n = 0 ∧ sz' = 0)) ∧ (n + m) * P.bytesOf e ≤ 140737488355328 ∧ n + m ≤ 140737488355328 then s2.row d (.v (.one (.sl d [] 0 (n + m)))) sz (n + m) (cs ++ new) else none
        | _ => none
      | _, _ => none
    | _, _ => none
  | _, _, _ => none
def quietF (nt : Nat) (dst : Option Nat) (op : Op) (s : FS) : Option FS := match quietV P s op with
  | some v => if dstOk nt dst then some (s.set dst v) else none
  | none => none
def stepF (nt : Nat) (o : Oper) (s : FS) : Option FS := match o.op with
  | .alloc t => match o.dst, zeroT P t with
    | some d, some z => match mapO zcD z with
      | some xs => if d < nt ∧ 0 < xs.length then s.row d (.v (.one (.pt d [] 0))) xs.length 1 xs else none
      | none => none
    | _, _ => none
  | .box t x => match o.dst, dcs (ev s.e x) with
    | some d, some cs => match absorbL s cs with
      | some (xs, s1) => if d < nt ∧ 0 < xs.length then s1.row d (.v (.one (.pt d [] 0))) xs.length 1 xs else none
      | none => none
    | _, _ => none
  | .buildSlice t len parts => match elemT P t, partsC s.e parts.toList with
    | some (e, sz), some ps => match zeroT P e with
      | some z => match mapO zcC z, o.dst with
        | some zs, some d => if zs.length = sz ∧ 0 < sz ∧ len * sz ≤ 2 ^ 24 ∧ d < nt then
            (match len with
             | 0 => if ps.length = 0 then some ⟨upd s.e d (.v (.one .nl)), s.h, s.g⟩ else none
             | _ => match fillC (fun i => some (i * sz, sz)) ((List.replicate len zs).flatten) ps with
              | some cs => match absorbL s cs with
                | some (xs, s1) => s1.row d (.v (.one (.sl d [] 0 len))) sz len xs
                | none => none
              | none => none)
            else none
        | _, _ => none
      | none => none
    | _, _ => none
  | .makeSlice t l c => match elemT P t, asInt (ev s.e l), asInt (ev s.e c) with
    | some (e, sz), some n, some n' => match zeroT P e, o.dst with
      | some z, some d => match mapO zcD z with
        | some zs => if zs.length = sz ∧ 0 < sz ∧ n = n' ∧ 0 ≤ n ∧ P.bytesOf e * n ≤ 2 ^ 48 ∧ n ≤ 2 ^ 48 ∧ d < nt then s.row d (.v (.one (.sl d [] 0 n.toNat))) sz n.toNat ((List.replicate n.toNat zs).flatten) else none
        | none => none
      | _, _ => none
    | _, _, _ => none
  | .store t x y => match o.dst, ev s.e x, dcs (ev s.e y) with
    | none, .v (.one (.pt id p off)), some cs => if szT P t = some cs.length then storeL s id p off cs else none
    | _, _, _ => none
  | .call { callee := .builtin .append, args, argTypes } => match args.toList, argTypes.toList with
    | [b, x], [tb, tx] => appendF P nt s o.dst b x tb tx
    | _, _ => none
  | op => quietF P nt o.dst op s
section
variable {S0 : Fr} {w0 w w' : World} {M M' : Heap} {X : List A} {P : Program} {nt : Nat} {s : FS} {a : Act}
theorem zcD_ok {v : Value} {x : D} (h : zcD v = some x) : ∃ y : A, er y = x ∧ y.val = v ∧ (∀ w, Ok S0 w0 w y) ∧ y.blocks = [] ∧ y.isHold = false := by
  unfold zcD at h
  split at h
  · rename_i hp
    obtain rfl := Option.some.inj h
    exact ⟨.sc v, rfl, rfl, fun w => .sc v hp, rfl, rfl⟩
  · split at h
    · obtain rfl := Option.some.inj h
      exact ⟨.ow (.emp none) 0 0 [], rfl, rfl, fun w => .em none 0, by simp [T.blocks, T.blocksL], rfl⟩
    · cases h
theorem zcDs_ok : ∀ {z : List Value} {xs : List D}, mapO zcD z = some xs → ∃ ys : List A, ys.map er = xs ∧ ys.map T.val = z ∧ ∀ y ∈ ys, (∀ w, Ok S0 w0 w y) ∧ y.blocks = [] ∧ y.isHold = false
  | [], xs, h => by simp only [mapO, Option.some.injEq] at h; subst h; exact ⟨[], rfl, rfl, by simp⟩
  | v :: z, xs, h => by
    simp only [mapO] at h
    split at h
    · rename_i x xs' h1 h2
      obtain rfl := Option.some.inj h
      obtain ⟨y, e1, e2, e3, e4, e5⟩ := zcD_ok (S0 := S0) (w0 := w0) h1
      obtain ⟨ys, f1, f2, f3⟩ := zcDs_ok h2
      refine ⟨y :: ys, by simp [e1, f1], by simp [e2, f2], fun z hz => ?_⟩
      rcases List.mem_cons.1 hz with rfl | hz
      · exact ⟨e3, e4, e5⟩
      · exact f3 z hz
    · cases h
theorem Inv.hands : ∀ {Y : List A} {X : List A}, Inv S0 w0 M X w → (∀ y ∈ Y, Ok S0 w0 w y ∧ y.blocks = [] ∧ y.isHold = false) → Inv S0 w0 M (X ++ Y) w
  | [], X, h, _ => by simpa using h
  | y :: Y, X, h, hy => by
    obtain ⟨h1, h2, h3⟩ := hy y List.mem_cons_self
    have := Inv.hands (Y := Y) (h.hand h1 h3 h2) (fun z hz => hy z (List.mem_cons_of_mem _ hz))
    simpa using this
theorem get_self {α β : Type} (t : T α β) : t.get [] = some t := rfl
theorem push_alloc (w : World) (cur : Array Value) (ty : TypeId) : (w.alloc (.cells cur ty)).heap = w.heap.push (.cells cur ty (0, 0)) := rfl
theorem nofz {cur : Array Value} : ∀ i, i < cur.size → ¬ ((0, 0) : Nat × Nat).1 ≤ i ∨ ¬ i < ((0, 0) : Nat × Nat).2 := fun i _ => .inr (by simp)
theorem nofz' {k : Nat} : ∀ i, i < k → ¬ (((0, 0) : Nat × Nat).1 ≤ i ∧ i < ((0, 0) : Nat × Nat).2) := fun i _ h => absurd h.2 (by simp)
theorem alloc_ok {o : Oper} {t : TypeId} {s1 : FS} (ho : o.op = .alloc t) (hR : Rel S0 w0 nt s M a w) (h : stepF P nt o s = some s1) :
    ∃ u w1 M1, (execOp a.eval o).run P w = .ok (.value u) w1 ∧ Rel S0 w0 nt s1 M1 (a.put o.dst u) w1 := by
  simp only [stepF, ho] at h
  split at h
  · rename_i d z hd hz
    split at h
    · rename_i xs hxs
      split at h
      · rename_i hdn
        obtain ⟨hdn, hx0⟩ := hdn
        obtain ⟨zv, hz1, hz2⟩ := zeroT_ok hz
        obtain ⟨ys, e1, e2, e3⟩ := zcDs_ok (S0 := S0) (w0 := w0) hxs
        have hlen : ys.length = xs.length := by rw [← e1, List.length_map]
        have hcur : ∀ (i : Nat) (x : A), ys[i]? = some x → zv.cells[i]? = some x.val := fun i x hi => by
          rw [← Array.getElem?_toList, hz2, ← e2, List.getElem?_map, hi]; rfl
        have hsz : zv.cells.size = xs.length := by rw [← Array.length_toList, hz2, ← e2, List.length_map, hlen]
        rw [hd]
        refine ⟨.pointer (some ⟨w.heap.size, 0, none⟩), w.alloc (.cells zv.cells t), upd M d (some (.ow (.blk w.heap.size 0 1) xs.length 1 ys)), ?_, ?_⟩
        · simp [execOp, ho, Instr.alloc, hz1, newVar, newRow]
        · refine entry_ok hR hdn h ?_ (fun hM => ?_) ⟨.pt d [] 0 w.heap.size 0 1 xs.length 1 ys ⟨_, upd_same _ _ _, get_self _⟩, rfl⟩
          · rw [er_ow_mk, e1]
          · have hI := hR.inv.hands (Y := ys) (fun y hy => ⟨(e3 y hy).1 w, (e3 y hy).2⟩)
            rw [List.nil_append] at hI
            exact hI.new hM (push_alloc w _ t) nofz' (by rw [hsz]; omega) hx0 (Nat.le_refl _) (by simp [maxLen]) (by omega) hcur
      · cases h
    · cases h
  · cases h
theorem box_ok {o : Oper} {t : TypeId} {x : Operand} {s1 : FS} (ho : o.op = .box t x) (hR : Rel S0 w0 nt s M a w) (h : stepF P nt o s = some s1) :
    ∃ u w1 M1, (execOp a.eval o).run P w = .ok (.value u) w1 ∧ Rel S0 w0 nt s1 M1 (a.put o.dst u) w1 := by
  simp only [stepF, ho] at h
  split at h
  · rename_i d cs hd hcs
    split at h
    · rename_i xs s2 hxs
      split at h
      · rename_i hdn
        obtain ⟨hdn, hx0⟩ := hdn
        have hL := dcs_rel hcs (ev_ok hR x)
        obtain ⟨M1, ys, hR1, e1, e2, e3⟩ := absorbL_ok hR hL hxs
        rw [List.nil_append] at hR1
        have hlen : ys.length = xs.length := by rw [← e1, List.length_map]
        have hcur : ∀ (i : Nat) (y : A), ys[i]? = some y → (a.eval x).cells[i]? = some y.val := fun i y hi => by
          rw [← Array.getElem?_toList, ← e2, List.getElem?_map, hi]; rfl
        have hsz : (a.eval x).cells.size = xs.length := by rw [← Array.length_toList, ← e2, List.length_map, hlen]
        rw [hd]
        refine ⟨.pointer (some ⟨w.heap.size, 0, none⟩), w.alloc (.cells (a.eval x).cells t), upd M1 d (some (.ow (.blk w.heap.size 0 1) xs.length 1 ys)), ?_, ?_⟩
        · simp [execOp, ho, Instr.box, newVar, newRow]
        · refine entry_ok hR1 hdn h ?_ (fun hM => ?_) ⟨.pt d [] 0 w.heap.size 0 1 xs.length 1 ys ⟨_, upd_same _ _ _, get_self _⟩, rfl⟩
          · rw [er_ow_mk, e1]
          · exact hR1.inv.new hM (push_alloc w _ t) nofz' (by rw [hsz]; omega) hx0 (Nat.le_refl _) (by simp [maxLen]) (by omega) hcur
      · cases h
    · cases h
  · cases h
theorem rep_get {α : Type} {z : List α} : ∀ (n i : Nat), i < n * z.length → (List.replicate n z).flatten[i]? = z[i % z.length]?
  | 0, i, h => by simp at h
  | n + 1, i, h => by
    rw [List.replicate_succ, List.flatten_cons]
    by_cases hi : i < z.length
    · rw [List.getElem?_append_left hi, Nat.mod_eq_of_lt hi]
    · rw [List.getElem?_append_right (by omega), rep_get n (i - z.length) (by rw [Nat.succ_mul] at h; omega)]
      congr 1
      rw [← Nat.mod_eq_sub_mod (by omega)]
theorem rep_len {α : Type} {z : List α} (n : Nat) : (List.replicate n z).flatten.length = n * z.length := by simp
theorem range_map {z : Array Value} {n : Nat} (hz : 0 < z.size) : ((Array.range (n * z.size)).map (z[· % z.size]!)).toList = (List.replicate n z.toList).flatten := by
  apply List.ext_getElem?
  intro i
  by_cases hi : i < n * z.size
  · rw [rep_get n i (by simpa using hi)]
    have hm : i % z.size < z.size := Nat.mod_lt _ hz
    simp [hi, hm]
  · rw [List.getElem?_eq_none (by simp; omega), List.getElem?_eq_none (by simp; omega)]
theorem mapO_append {α β : Type} {f : α → Option β} : ∀ {l l' : List α} {r r' : List β}, mapO f l = some r → mapO f l' = some r' → mapO f (l ++ l') = some (r ++ r')
  | [], l', r, r', h, h' => by simp only [mapO, Option.some.injEq] at h; subst h; simpa using h'
  | x :: l, l', r, r', h, h' => by
    simp only [mapO] at h
    split at h
    · rename_i y ys h1 h2
      obtain rfl := Option.some.inj h
      simp only [List.cons_append, mapO, h1, mapO_append h2 h']
    · cases h
theorem mapO_rep {α β : Type} {f : α → Option β} {l : List α} {r : List β} (h : mapO f l = some r) : ∀ n, mapO f (List.replicate n l).flatten = some (List.replicate n r).flatten
  | 0 => rfl
  | n + 1 => by rw [List.replicate_succ, List.flatten_cons, List.replicate_succ, List.flatten_cons]; exact mapO_append h (mapO_rep h n)
theorem zeroT_info {t : TypeId} {z : List Value} {n : Nat} (h : zeroT P t = some z) (hs : szT P t = some n) : ∃ i zv, P.info? t = some i ∧ i.zero = some zv ∧ i.size = n ∧ zv.cells.toList = z ∧ i.bytes = P.bytesOf t := by
  unfold szT at hs
  obtain ⟨i, hi, hn⟩ := Option.map_eq_some_iff.1 hs
  unfold zeroT at h
  rw [hi] at h
  obtain ⟨zv, hz, h1⟩ := Option.map_eq_some_iff.1 h
  exact ⟨i, zv, hi, by simpa using hz, hn, h1, by simp [Program.bytesOf, hi]⟩
theorem makeSlice_ok {o : Oper} {t : TypeId} {l c : Operand} {s1 : FS} (ho : o.op = .makeSlice t l c) (hR : Rel S0 w0 nt s M a w) (h : stepF P nt o s = some s1) :
    ∃ u w1 M1, (execOp a.eval o).run P w = .ok (.value u) w1 ∧ Rel S0 w0 nt s1 M1 (a.put o.dst u) w1 := by
  simp only [stepF, ho] at h
  split at h
  · rename_i e sz n n' he hl hc
    split at h
    · rename_i z d hz hd
      split at h
      · rename_i zs hzs
        split at h
        · rename_i hcond
          obtain ⟨c1, cz, rfl, c3, c4, c5, c6⟩ := hcond
          obtain ⟨u1, u2⟩ := elemT_ok he
          obtain ⟨i, zv, i1, i2, i3, i4, i5⟩ := zeroT_info hz u2
          obtain ⟨k1, hk1⟩ := asInt_ok hl (ev_ok hR l)
          obtain ⟨k2, hk2⟩ := asInt_ok hc (ev_ok hR c)
          obtain ⟨ys, e1, e2, e3⟩ := zcDs_ok (S0 := S0) (w0 := w0) (mapO_rep hzs n.toNat)
          have hzl : zs.length = z.length := (mapO_some hzs).1
          have hlen : ys.length = n.toNat * sz := by
            have : ys.length = ((List.replicate n.toNat zs).flatten).length := by rw [← e1, List.length_map]
            rw [this, rep_len, c1]
          have hzvs : zv.cells.size = sz := by rw [← Array.length_toList, i4, ← hzl, c1]
          rw [hd]
          have hcurl : (madeCells zv.cells (n.toNat * sz)).toList = ys.map T.val := by
            rw [e2]
            by_cases h0 : n.toNat * sz = 0
            · have h1 : (madeCells zv.cells (n.toNat * sz)).toList = [] := by rw [h0]; simp [madeCells]
              rw [h1]
              symm
              apply List.eq_nil_of_length_eq_zero
              rw [rep_len, ← hzl, c1]; exact h0
            · have h1 : 0 < zv.cells.size := by
                rw [hzvs]
                rcases Nat.eq_zero_or_pos sz with h2 | h2
                · rw [h2] at h0; simp at h0
                · exact h2
              have := range_map (z := zv.cells) (n := n.toNat) h1
              rw [hzvs, i4] at this
              rw [← this]
              simp [madeCells, hzvs]
          have hrun := run_make (P := P) w t e i zv u1 i1 i2 k1 k2 n n c3 (Int.le_refl _) (by rw [i5]; omega) (by omega)
          rw [i3] at hrun
          refine ⟨.slice (some ⟨w.heap.size, 0, none⟩) n.toNat n.toNat, w.alloc (.cells (madeCells zv.cells (n.toNat * sz)) e), upd M d (some (.ow (.blk w.heap.size 0 n.toNat) sz n.toNat ys)), ?_, ?_⟩
          · simp only [execOp, ho, hk1, hk2, Sem.run_bind, hrun, Result.andThen_ok, Sem.run_pure]
          · refine entry_ok hR c6 h ?_ (fun hM => ?_) ?_
            · rw [er_ow_mk, e1]
            · have hI := hR.inv.hands (Y := ys) (fun y hy => ⟨(e3 y hy).1 w, (e3 y hy).2⟩)
              rw [List.nil_append] at hI
              have hcs : (madeCells zv.cells (n.toNat * sz)).size = n.toNat * sz := by rw [← Array.length_toList, hcurl, List.length_map, hlen]
              exact hI.new hM (push_alloc w _ e) nofz' (by omega) cz (Nat.le_refl _) (by simp only [maxLen]; omega) hlen (fun i x hi => by rw [← Array.getElem?_toList, hcurl, List.getElem?_map, hi]; rfl)
            · have := RelC.sl (S0 := S0) (w0 := w0) (M := upd M d (some (.ow (.blk w.heap.size 0 n.toNat) sz n.toNat ys))) d [] 0 n.toNat w.heap.size 0 n.toNat sz n.toNat ys ⟨_, upd_same _ _ _, get_self _⟩ (by omega)
              rw [Nat.zero_mul, Nat.sub_zero] at this
              exact ⟨this, rfl⟩
        · cases h
      · cases h
    · cases h
  · cases h
theorem buildSlice_ok {o : Oper} {t : TypeId} {len : Nat} {parts : Array (Nat × Operand)} {s1 : FS} (ho : o.op = .buildSlice t len parts) (hR : Rel S0 w0 nt s M a w) (h : stepF P nt o s = some s1) :
    ∃ u w1 M1, (execOp a.eval o).run P w = .ok (.value u) w1 ∧ Rel S0 w0 nt s1 M1 (a.put o.dst u) w1 := by
  simp only [stepF, ho] at h
  split at h
  · rename_i e sz ps he hps
    split at h
    · rename_i z hz
      split at h
      · rename_i zs d hzs hd
        split at h
        · rename_i hcond
          obtain ⟨c1, c2, c3, c4⟩ := hcond
          obtain ⟨u1, u2⟩ := elemT_ok he
          obtain ⟨i, zv, i1, i2, i3, i4, i5⟩ := zeroT_info hz u2
          obtain ⟨p1, p2⟩ := parts_ok hR hps
          have hzl : zs.length = z.length := (mapO_some hzs).1
          have hzvs : zv.cells.size = sz := by rw [← Array.length_toList, i4, ← hzl, c1]
          have hpm : (Array.map (fun x => match x with | (i, x) => (i, a.eval x)) parts).toList = parts.toList.map fun x => (x.1, a.eval x.2) := by simp
          have h24 : ¬ (2 ^ 24 < len * sz) := by omega
          rw [hd]
          split at h
          · split at h
            · rename_i hpl
              obtain rfl := Option.some.inj h
              have hp0 : parts.toList.map (fun x => (x.1, a.eval x.2)) = [] := List.length_eq_zero_iff.1 (by rw [← p1]; exact hpl)
              refine ⟨.slice (some ⟨w.heap.size, 0, none⟩) 0 0, w.alloc (.cells #[] e), M, ?_, ?_⟩
              · simp only [execOp, ho, Instr.buildSlice, Sem.run_bind, run_underlying u1, Result.andThen_ok, sizeOf, typeInfo, run_program, i1, Sem.run_pure, i3, Nat.zero_mul]
                rw [if_neg (by omega)]
                simp only [if_true, Sem.run_pure, Sem.run_bind, Result.andThen_ok, hpm, hp0, Instr.fill, newRow, run_newObj]
                have hr0 : Array.range 0 = #[] := rfl
                simp [hr0]
              · have h1 := hR.inv.world (w' := w.alloc (.cells #[] e)) (fun k hk => by rw [push_alloc, Array.getElem?_push_lt hk, Array.getElem?_eq_getElem hk]) (by rw [push_alloc]; simp)
                have hR1 : Rel S0 w0 nt s M a (w.alloc (.cells #[] e)) := ⟨h1, hR.er, hR.en, hR.nt, hR.df, hR.gh⟩
                exact hR1.put (v := .v (.one .nl)) ⟨.nl _, rfl⟩ c4
            · cases h
          · rename_i hl0
            have hl1 : 0 < len := Nat.pos_of_ne_zero hl0
            split at h
            · rename_i cs hcs
              split at h
              · rename_i xs s2 hxs
                have h0 : 0 < zv.cells.size := by omega
                have hinit : RelL S0 w0 M ((List.replicate len zs).flatten) ((Array.range (len * sz)).map (zv.cells[· % zv.cells.size]!)).toList := by
                  have := range_map (z := zv.cells) (n := len) h0
                  rw [hzvs, i4] at this
                  rw [hzvs, this]
                  exact zeros_rel (mapO_rep hzs len)
                obtain ⟨rv, g1, g2⟩ := fill_ok hcs hinit p1 p2
                obtain ⟨M1, ys, hR1, e1, e2, e3⟩ := absorbL_ok hR g2 hxs
                rw [List.nil_append] at hR1
                have hlen2 : ys.length = rv.size := by
                  have : (ys.map T.val).length = rv.toList.length := by rw [e2]
                  simpa using this
                have hrv : rv.size = len * sz := by
                  have hfl : ∀ (ps : List (Nat × List DC)) (z r : List DC), fillC (fun i => some (i * sz, sz)) z ps = some r → r.length = z.length := by
                    intro ps
                    induction ps with
                    | nil => intro z r h; simp only [fillC, Option.some.injEq] at h; rw [h]
                    | cons p ps ih =>
                      intro z r h
                      obtain ⟨i, c⟩ := p
                      simp only [fillC] at h
                      split at h
                      · rename_i hc
                        rw [ih _ _ h]
                        simp only [List.length_append, List.length_take, List.length_drop]
                        omega
                      · cases h
                  have h1 := hfl _ _ _ hcs
                  have h2 := g2.1
                  rw [h1, rep_len, c1] at h2
                  simpa using h2
                have hcur : ∀ (i : Nat) (y : A), ys[i]? = some y → rv[i]? = some y.val := fun i y hi => by
                  rw [← Array.getElem?_toList, ← e2, List.getElem?_map, hi]; rfl
                have hne0 : len * sz ≠ 0 := Nat.mul_ne_zero (by omega) (by omega)
                have hlm : len ≤ 2 ^ 24 := Nat.le_trans (Nat.le_mul_of_pos_right len c2) c3
                refine ⟨.slice (some ⟨w.heap.size, 0, none⟩) len len, w.alloc (.cells rv e), upd M1 d (some (.ow (.blk w.heap.size 0 len) sz len ys)), ?_, ?_⟩
                · simp only [execOp, ho, Instr.buildSlice, Sem.run_bind, run_underlying u1, Result.andThen_ok, sizeOf, typeInfo, run_program, i1, Sem.run_pure, i3]
                  rw [if_neg (by omega)]
                  simp only [if_neg hne0, zeroValue, typeInfo, Sem.run_pure, Sem.run_bind, run_program, i1, i2, Result.andThen_ok, hpm, g1, newRow, run_newObj]
                  rfl
                · refine entry_ok hR1 c4 h ?_ (fun hM => ?_) ?_
                  · rw [er_ow_mk, e1]
                  · exact hR1.inv.new hM (push_alloc w _ e) nofz' (by omega) c2 (Nat.le_refl _) (by simp only [maxLen]; omega) (by omega) hcur
                  · have := RelC.sl (S0 := S0) (w0 := w0) (M := upd M1 d (some (.ow (.blk w.heap.size 0 len) sz len ys))) d [] 0 len w.heap.size 0 len sz len ys ⟨_, upd_same _ _ _, get_self _⟩ (by omega)
                    rw [Nat.zero_mul, Nat.sub_zero] at this
                    exact ⟨this, rfl⟩
              · cases h
            · cases h
        · cases h
      · cases h
    · cases h
  · cases h
theorem storeop_ok {o : Oper} {t : TypeId} {x y : Operand} {s1 : FS} (ho : o.op = .store t x y) (hR : Rel S0 w0 nt s M a w) (h : stepF P nt o s = some s1) :
    ∃ w1 M1, (execOp a.eval o).run P w = .ok .skip w1 ∧ Rel S0 w0 nt s1 M1 (a.put o.dst undef) w1 := by
  simp only [stepF, ho] at h
  split at h
  · rename_i id p off cs e0 e1 e2
    split at h
    · rename_i e3
      obtain ⟨w1, M1, hrun, hR1⟩ := store_ok hR e1 e2 e3 h
      refine ⟨w1, M1, ?_, by rw [e0]; exact hR1⟩
      simp only [execOp, ho, Sem.run_bind, hrun, Result.andThen_ok, Sem.run_pure]
    · cases h
  · cases h
end
end Go.Proofs.Ytciieaidbiejmaa.DM

/-
  DM 12. 'append'; and every operation that is no call of a Go function.
-/
namespace Go.Proofs.Ytciieaidbiejmaa.DM
set_option linter.unusedVariables false
set_option linter.unusedSimpArgs false
section
variable {S0 : Fr} {w0 w w' : World} {M M' : Heap} {X : List A} {P : Program} {nt : Nat} {s : FS} {a : Act}
theorem Inv.perm {Y : List A} (h : Inv S0 w0 M X w) (hp : X.Perm Y) : Inv S0 w0 M Y w := by
  have hf : (X.flatMap T.blocks).Perm (Y.flatMap T.blocks) := hp.flatMap_right T.blocks
  exact ⟨h.ok, h.nd, h.dj, h.bl, h.wd, fun x hx => h.xo x (hp.symm.subset hx), hf.nodup h.xn, fun i u hu b hb hbx => h.xd i u hu b hb (hf.symm.subset hbx), fun b hb => h.xb b (hf.symm.subset hb)⟩
theorem Inv.entryE (h : Inv S0 w0 M [] w) {id sz : Nat} (a0 : Option Addr) (hid : M id = none) : Inv S0 w0 (upd M id (some (.ow (.emp a0) sz 0 []))) [] w := by
  have hb : (T.ow (.emp a0) sz 0 [] : A).blocks = [] := by simp [T.blocks, T.blocksL]
  have hlook : ∀ i u, upd M id (some (.ow (.emp a0) sz 0 [])) i = some u → (i = id ∧ u = .ow (.emp a0) sz 0 []) ∨ (i ≠ id ∧ M i = some u) := fun i u hu => by
    by_cases hi : i = id
    · subst hi; rw [upd_same] at hu; exact .inl ⟨rfl, (Option.some.inj hu).symm⟩
    · rw [upd_ne _ _ _ _ hi] at hu; exact .inr ⟨hi, hu⟩
  refine ⟨?_, ?_, ?_, ?_, h.wd, by simp, by simp, by simp, by simp⟩
  · intro i u hu
    rcases hlook i u hu with ⟨rfl, rfl⟩ | ⟨_, hm⟩
    · exact .em a0 sz
    · exact h.ok i u hm
  · intro i u hu
    rcases hlook i u hu with ⟨rfl, rfl⟩ | ⟨_, hm⟩
    · rw [hb]; simp
    · exact h.nd i u hm
  · intro i j u v hij hu hv b hbu hbv
    rcases hlook i u hu with ⟨rfl, rfl⟩ | ⟨hi, hm⟩
    · rw [hb] at hbu; cases hbu
    · rcases hlook j v hv with ⟨rfl, rfl⟩ | ⟨hj, hm'⟩
      · rw [hb] at hbv; cases hbv
      · exact h.dj i j u v hij hm hm' b hbu hbv
  · intro i u b hu hbu
    rcases hlook i u hu with ⟨rfl, rfl⟩ | ⟨_, hm⟩
    · rw [hb] at hbu; cases hbu
    · exact h.bl i u b hm hbu
def roA (u : Value) : RT → A
  | .sc v => .sc v
  | r => .ro u r
theorem roA_ok {u : Value} {r : RT} (h : RoC S0 w0 u r) : er (roA u r) = roD r ∧ (roA u r).val = u ∧ (∀ w, Ok S0 w0 w (roA u r)) ∧ (roA u r).blocks = [] ∧ (roA u r).isHold = false := by
  cases r with
  | sc v => cases h with
    | sc v hv => exact ⟨rfl, rfl, fun w => .sc u hv, rfl, rfl⟩
  | sl n cs => exact ⟨rfl, rfl, fun w => .ro u _ h, rfl, rfl⟩
  | fn f caps => exact ⟨rfl, rfl, fun w => .ro u _ h, rfl, rfl⟩
theorem roAs_ok {vs : List Value} {rs : List RT} (hl : vs.length = rs.length) (h : ∀ (i : Nat) (v : Value) (r : RT), vs[i]? = some v → rs[i]? = some r → RoC S0 w0 v r) :
    (List.zipWith roA vs rs).map er = rs.map roD ∧ (List.zipWith roA vs rs).map T.val = vs ∧ ∀ y ∈ List.zipWith roA vs rs, (∀ w, Ok S0 w0 w y) ∧ y.blocks = [] ∧ y.isHold = false := by
  induction vs generalizing rs with
  | nil => cases rs with
    | nil => exact ⟨rfl, rfl, by simp⟩
    | cons r rs => simp at hl
  | cons v vs ih => cases rs with
    | nil => simp at hl
    | cons r rs =>
      obtain ⟨h1, h2, h3⟩ := ih (rs := rs) (by simpa using hl) (fun i v r hv hr => h (i + 1) v r (by simpa using hv) (by simpa using hr))
      obtain ⟨g1, g2, g3⟩ := roA_ok (h 0 v r rfl rfl)
      refine ⟨by simp [g1, h1], by simp [g2, h2], fun y hy => ?_⟩
      simp only [List.zipWith_cons_cons, List.mem_cons] at hy
      rcases hy with rfl | hy
      · exact g3
      · exact h3 y hy
/-- What a value gives when it is appended. -/
structure Src (P : Program) (w : World) (u : Value) (m sz : Nat) (vs : List Value) : Prop where
  len : ∀ w', (Builtin.lenOf u).run P w' = .ok m w'
  cells : ∀ w', w'.heap = w.heap → (Builtin.firstCells sz m u).run P w' = .ok vs.toArray w'
theorem src_slice {ad : Addr} {m c sz : Nat} {vs : List Value} (hl : vs.length = m * sz) (h : ∀ (j : Nat) (v : Value), vs[j]? = some v → w.cell? (ad.add j) = some v) : Src P w (.slice (some ad) m c) m sz vs := by
  refine ⟨fun w' => rfl, fun w' hw => ?_⟩
  exact run_firstCells_some (P := P) w' sz m ad m c vs hl (fun j v hj => by rw [← h j v hj]; simp [World.cell?, hw])
theorem src_empty {A0 : Option Addr} {c sz : Nat} : Src P w (.slice A0 0 c) 0 sz [] := by
  refine ⟨fun w' => rfl, fun w' hw => ?_⟩
  cases A0 with
  | none => rfl
  | some ad => exact run_firstCells_some (P := P) w' sz 0 ad 0 c [] (by simp) (fun j v hj => by simp at hj)
theorem src_ok {v : DV} {u : Value} {m sz : Nat} {new : List D} {s1 : FS} {f : DC → DC} (hR : Rel S0 w0 nt s M a w) (hv : RelV S0 w0 M v u) (h : srcCells s v sz = some (m, new, s1, f)) :
    ∃ M1 zs, RelX S0 w0 nt s1 M1 zs a w ∧ zs.map er = new ∧ Src P w u m sz (zs.map T.val) ∧ zs.length = m * sz ∧ (∀ d v, RelC S0 w0 M d v → RelC S0 w0 M1 (f d) v) := by
  unfold srcCells at h
  split at h
  · rename_i b
    split at h
    · rename_i hs1
      subst hs1
      simp only [Option.some.injEq, Prod.mk.injEq] at h
      obtain ⟨rfl, rfl, rfl, rfl⟩ := h
      obtain ⟨hu, -⟩ := asSc_ok (S0 := S0) (w0 := w0) (M := M) rfl hv
      subst hu
      have hI := hR.inv.hands (Y := b.data.toList.map fun c => (.sc (.int .u8 c.toNat) : A)) (fun y hy => by
        obtain ⟨c, _, rfl⟩ := List.mem_map.1 hy
        exact ⟨.sc _ rfl, rfl, rfl⟩)
      rw [List.nil_append] at hI
      refine ⟨M, _, ⟨hI, hR.er, hR.en, hR.nt, hR.df, hR.gh⟩, by simp [er, T.map], ⟨fun w' => rfl, fun w' hw => ?_⟩, by rw [List.length_map, Nat.mul_one, Array.length_toList]; rfl, fun d v hd => hd⟩
      have he : b.extract 0 b.size = b := by simp
      show (pure ((b.extract 0 b.size).data.map fun c => Value.int .u8 c.toNat) : Sem (Array Value)).run P w' = _
      rw [he, List.map_map]
      have e0 : (b.data.map fun c => Value.int .u8 c.toNat) = (b.data.toList.map (T.val ∘ fun c => (.sc (.int .u8 c.toNat) : A))).toArray := by
        apply Array.ext'; simp [T.val, Function.comp_def]
      rw [e0]; rfl
    · cases h
  · rename_i m' rcs
    split at h
    · rename_i hlen
      simp only [Option.some.injEq, Prod.mk.injEq] at h
      obtain ⟨rfl, rfl, rfl, rfl⟩ := h
      obtain ⟨hc, -⟩ := hv
      cases hc with
      | t r v hro =>
        cases hro with
        | sl ad n c cs vs r1 r2 r3 r4 r5 r6 =>
          obtain ⟨g1, g2, g3⟩ := roAs_ok r4 r6
          have hI := hR.inv.hands (Y := List.zipWith roA vs rcs) (fun y hy => ⟨(g3 y hy).1 w, (g3 y hy).2⟩)
          rw [List.nil_append] at hI
          refine ⟨M, _, ⟨hI, hR.er, hR.en, hR.nt, hR.df, hR.gh⟩, g1, ?_, by simp [r4, hlen], fun d v hd => hd⟩
          rw [g2]
          refine src_slice (by rw [r4, hlen]) (fun j v hj => ?_)
          rw [addr_eq r1]
          have := r5 j v hj
          simp only [World.cell?] at this ⊢
          rw [hR.inv.wd.fr _ (hR.inv.wd.rk _ r2)]
          exact this
        | em a0 c =>
          refine ⟨M, [], hR, rfl, src_empty, by simp, fun d v hd => hd⟩
    · cases h
  · simp only [Option.some.injEq, Prod.mk.injEq] at h
    obtain ⟨rfl, rfl, rfl, rfl⟩ := h
    obtain ⟨hc, -⟩ := hv
    cases hc with
    | nl a0 => exact ⟨M, [], hR, rfl, src_empty, by simp, fun d v hd => hd⟩
  · rename_i id p off m'
    obtain ⟨hc, hc1⟩ := hv
    split at h
    · rename_i root hr
      split at h
      · rename_i sz' n' cs hg
        split at h
        · rename_i hcond
          obtain ⟨hsz, hle⟩ := hcond
          obtain ⟨y0, hat0, he0, hok0⟩ := node_ok hR hr hg
          obtain ⟨d0, csA, rfl, hcs⟩ := er_ow he0
          split at h
          · rename_i hflat
            simp only [Option.some.injEq, Prod.mk.injEq] at h
            obtain ⟨rfl, rfl, rfl, rfl⟩ := h
            have hsub : ∀ y ∈ (csA.drop off).take (m' * sz), Ok S0 w0 w y ∧ y.blocks = [] ∧ y.isHold = false := fun y hy => by
              have hy' := List.mem_of_mem_drop (List.mem_of_mem_take hy)
              have hfl : flatD (er y) = true := by
                have := List.all_eq_true.1 hflat (er y) (by rw [← hcs, ← List.map_drop, ← List.map_take]; exact List.mem_map_of_mem hy)
                exact this
              refine ⟨hok0.cell (by simpa [T.cells] using hy'), ?_, hok0.notHold (by simpa [T.cells] using hy')⟩
              cases y <;> first | rfl | (simp [er, T.map, flatD] at hfl)
            have hI := hR.inv.hands (Y := (csA.drop off).take (m' * sz)) hsub
            rw [List.nil_append] at hI
            have hlenA : csA.length = cs.length := by rw [← hcs, List.length_map]
            refine ⟨M, _, ⟨hI, hR.er, hR.en, hR.nt, hR.df, hR.gh⟩, by rw [List.map_take, List.map_drop, hcs], ?_, by rw [List.length_take, List.length_drop]; omega, fun d v hd => hd⟩
            cases hc with
            | sl id p kk _ b o c sz2 m2 cs2 hat2 hle2 =>
              have hE := at_unique hat0 hat2
              simp only [T.ow.injEq] at hE
              obtain ⟨rfl, rfl, rfl, rfl⟩ := hE
              cases hok0 with
              | ow _ _ _ _ _ _ cur ty fz k1 k2 k3 k4 k5 k6 k7 k8 k9 =>
                refine src_slice (by rw [List.length_map, List.length_take, List.length_drop]; omega) (fun j v hj => ?_)
                rw [List.getElem?_map, Option.map_eq_some_iff] at hj
                obtain ⟨y, hy, rfl⟩ := hj
                have hjk : j < m' * sz := by have := (List.getElem?_eq_some_iff.1 hy).1; simp at this; omega
                rw [List.getElem?_take_of_lt hjk, List.getElem?_drop] at hy
                rw [add_eq]
                simp only [World.cell?, k1]
                rw [Nat.add_assoc]
                simpa using k7 _ y hy
            | se id p off a0 d sz2 m2 cs2 hat2 =>
              rw [Nat.zero_mul, List.take_zero]
              exact src_empty
          · split at h
            · rename_i sz3 n3 xs s2 hab
              simp only [Option.some.injEq, Prod.mk.injEq] at h
              obtain ⟨rfl, rfl, rfl, rfl⟩ := h
              have hrw : RelC S0 w0 M (.sl id p off m') u := hc
              obtain ⟨M1, y, hR1, e1, e2, e3, hk⟩ := absorb_ok hR hc hc1 hab
              rw [List.nil_append] at hR1
              obtain ⟨d1, csB, rfl, hcsB⟩ := er_ow e1
              simp only [absorb, hr, hg] at hab
              rw [if_pos (by
                rcases hsz with h0 | h0
                · rw [h0]; exact hle
                · rw [h0, Nat.zero_mul]; rw [h0, Nat.zero_mul] at hle; exact hle)] at hab
              simp only [Option.some.injEq, Prod.mk.injEq, T.ow.injEq, true_and] at hab
              obtain ⟨⟨hz3, hn3, hxs⟩, hs2⟩ := hab
              subst hz3; subst hn3
              have hxl : xs.length = m' * sz := by
                rw [← hxs, List.length_take, List.length_drop]
                rcases hsz with h0 | h0
                · rw [h0]; omega
                · subst h0; simp
              have hBl : csB.length = m' * sz := by rw [← hxl, ← hcsB, List.length_map]
              cases d1 with
              | blk b o c =>
                have hok1 := (hR1.inv.xo _ List.mem_cons_self).1
                refine ⟨M1, csB, ⟨by simpa using hR1.inv.unwrap, hR1.er, hR1.en, hR1.nt, hR1.df, hR1.gh⟩, hcsB, ?_, hBl, hk⟩
                have hu : u = .slice (some ⟨b, o, none⟩) m' c := by rw [← e2]; rfl
                rw [hu]
                cases hok1 with
                | ow _ _ _ _ _ _ cur ty fz k1 k2 k3 k4 k5 k6 k7 k8 k9 =>
                  refine src_slice (by rw [List.length_map]; exact hBl) (fun j v hj => ?_)
                  rw [List.getElem?_map, Option.map_eq_some_iff] at hj
                  obtain ⟨y, hy, rfl⟩ := hj
                  rw [add_eq]
                  simp only [World.cell?, k1]
                  simpa using k7 _ y hy
              | emp a0 =>
                have hok1 := (hR1.inv.xo _ List.mem_cons_self).1
                cases hok1 with
                | em a sz =>
                  have hI : Inv S0 w0 M1 [] w := by
                    have := hR1.inv
                    refine ⟨this.ok, this.nd, this.dj, this.bl, this.wd, by simp, by simp, by simp, by simp⟩
                  refine ⟨M1, [], ⟨hI, hR1.er, hR1.en, hR1.nt, hR1.df, hR1.gh⟩, hcsB, ?_, hBl, hk⟩
                  have hu : u = .slice a0 0 0 := by rw [← e2]; rfl
                  rw [hu]
                  exact src_empty
            · cases h
        · cases h
      · cases h
    · cases h
  · cases h
theorem app_room {tb tx ty e : TypeId} {i : TypeInfo} {dx : TypeDesc} (ht : P.underlying tb = some (.slice e)) (hx : P.underlying tx = some dx) (hdx : isRow dx = true) (hi : P.info? e = some i)
    {b off n cap m : Nat} {x : Value} {news : List Value} (hs : Src P w x m i.size news) (h1 : ∀ u ∈ news, u.oneCell' = true)
    (hroom : n + m ≤ cap) (hc : ∀ j, j < news.length → (w.cell? ⟨b, off + n * i.size + j, none⟩).isSome = true) (hf : ∀ j, j < news.length → w.frozen? ⟨b, off + n * i.size + j, none⟩ = false) :
    (Builtin.append_ #[tb, tx] ty #[.slice (some ⟨b, off, none⟩) n cap, x]).run P w = .ok (.slice (some ⟨b, off, none⟩) (n + m) cap) (w.setCells b (off + n * i.size) news) := by
  have hst := run_storeCells_cells (P := P) b (off + n * i.size) news 0 w (by simpa using hc) (by simpa using hf) h1
  simp only [Nat.add_zero] at hst
  have hcl := hs.cells w rfl
  cases dx <;> simp [isRow] at hdx <;> simp [Builtin.append_, run_underlying ht, run_underlying hx, sizeOf, typeInfo, hi, hs.len, hroom, hcl, Addr.add_lit, hst]
theorem app_none {tb tx ty e : TypeId} {i : TypeInfo} {dx : TypeDesc} (ht : P.underlying tb = some (.slice e)) (hx : P.underlying tx = some dx) (hdx : isRow dx = true) (hi : P.info? e = some i)
    {A0 : Option Addr} {x : Value} (hs : Src P w x 0 i.size []) : (Builtin.append_ #[tb, tx] ty #[.slice A0 0 0, x]).run P w = .ok (.slice A0 0 0) w := by
  have hcl := hs.cells w rfl
  cases A0 <;> cases dx <;> simp [isRow] at hdx <;> simp [Builtin.append_, run_underlying ht, run_underlying hx, sizeOf, typeInfo, hi, hs.len, hcl, storeCells]
theorem app_grow {tb tx ty e : TypeId} {i : TypeInfo} {z : Value} {dx : TypeDesc} (ht : P.underlying tb = some (.slice e)) (hx : P.underlying tx = some dx) (hdx : isRow dx = true) (hi : P.info? e = some i) (hz : i.zero = some z)
    {A0 : Option Addr} {n cap m : Nat} {x : Value} {olds news : List Value} (hb : Src P w (.slice A0 n cap) n i.size olds) (hs : Src P w x m i.size news)
    (hg : cap < n + m) (h63 : n + m ≤ 140737488355328) (hfit : (n + m) * i.bytes ≤ 140737488355328) :
    (Builtin.append_ #[tb, tx] ty #[.slice A0 n cap, x]).run P w = .ok (.slice (some ⟨w.heap.size, 0, none⟩) (n + m) (grownCap w (n + m) cap e)) (w.drew.alloc (.cells (olds.toArray ++ news.toArray ++ Builtin.zeroCells z.cells (grownCap w (n + m) cap e - (n + m))) e)) := by
  have hn : ¬ (n + m ≤ cap) := by omega
  have h63' : ¬ (9223372036854775807 < ((n : Int) + (m : Int))) := by omega
  have h48' : ¬ (281474976710656 < Builtin.nextslicecap (n + m) cap * i.bytes) := by have := growslice_fits hg hfit; omega
  have h1 := hb.cells w.drew rfl
  have h2 := hs.cells w.drew rfl
  cases dx <;> simp [isRow] at hdx <;> simp [Builtin.append_, run_underlying ht, run_underlying hx, sizeOf, typeInfo, zeroValue, hi, hz, hs.len, hn, h63', h48', Question.forced, h1, h2, newRow, grownCap] <;> (congr 2; apply Array.ext'; simp [List.append_assoc])
theorem append_ok {o : Oper} {b x : Operand} {tb tx : TypeId} {s1 : FS} (ho : o.op = .call { callee := .builtin .append, args := #[b, x], argTypes := #[tb, tx] }) (hR : Rel S0 w0 nt s M a w) (h : appendF P nt s o.dst b x tb tx = some s1) :
    ∃ u w1 M1, (execOp a.eval o).run P w = .ok (.value u) w1 ∧ Rel S0 w0 nt s1 M1 (a.put o.dst u) w1 := by
  have hred : ∀ u w1, (Builtin.append_ #[tb, tx] o.type #[a.eval b, a.eval x]).run P w = .ok u w1 → (execOp a.eval o).run P w = .ok (.value u) w1 := fun u w1 h => by
    simp [execOp, ho, resolve, invoke, builtin, h]
  unfold appendF at h
  split at h
  · rename_i d e sz du hd he hdu
    split at h
    · rename_i z hz hk
      split at h
      · rename_i m new s2 f c hsrc hbc
        split at h
        · rename_i sz' n cs s3 hab
          split at h
          · rename_i hcond
            obtain ⟨c1, c2, c3, c4, c5, c6⟩ := hcond
            obtain ⟨u1, u2⟩ := elemT_ok he
            obtain ⟨i, zv, i1, i2, i3, i4, i5⟩ := zeroT_info hz u2
            have hb := ev_ok hR b
            rw [hbc] at hb
            obtain ⟨hb, hb1⟩ := hb
            obtain ⟨M1, zs, hR1, e1, hS, hzl, hk1⟩ := src_ok hR (ev_ok hR x) hsrc
            obtain ⟨M2, y, hR2, f1, f2, f3, hk2⟩ := absorb_ok hR1 (hk1 _ _ hb) hb1 hab
            have hI : Inv S0 w0 M2 (y :: zs) w := hR2.inv.perm (List.perm_append_comm (l₁ := zs) (l₂ := [y]))
            have hone : ∀ u ∈ zs.map T.val, u.oneCell' = true := fun u hu => by
              obtain ⟨q, hq, rfl⟩ := List.mem_map.1 hu
              have := hI.xo q (List.mem_cons_of_mem _ hq)
              exact this.1.one this.2
            obtain ⟨d0, csA, rfl, hcs⟩ := er_ow f1
            have hR3 : RelX S0 w0 nt s3 M2 (.ow d0 sz' n csA :: zs) a w := ⟨hI, hR2.er, hR2.en, hR2.nt, hR2.df, hR2.gh⟩
            have hzv : zv.cells.size = sz := by rw [← Array.length_toList, i4]; exact c2
            have hok0 := (hI.xo _ List.mem_cons_self).1
            have hM2 : s3.h d = none → M2 d = none := fun hn => by
              have := hR2.er d; rw [hn] at this
              cases hm : M2 d with
              | none => rfl
              | some x => rw [hm] at this; cases this
            have herr : ∀ d1, er (.ow d1 sz (n + m) (csA ++ zs)) = .ow () sz (n + m) (cs ++ new) := fun d1 => by rw [er_ow_mk, List.map_append, hcs, e1]
            have hfit : (n + m) * i.bytes ≤ 140737488355328 := by rw [i5]; exact c5
            have hgrow : ∀ (A0 : Option Addr) (cap : Nat) (olds : List Value) (hu : a.eval b = .slice A0 n cap) (hSb : Src P w (.slice A0 n cap) n sz olds) (holds : olds = csA.map T.val) (hlenA : csA.length = n * sz) (hI2 : Inv S0 w0 M2 (csA ++ zs) w) (hg : cap < n + m),
                ∃ u w1 M1, (execOp a.eval o).run P w = .ok (.value u) w1 ∧ Rel S0 w0 nt s1 M1 (a.put o.dst u) w1 := by
              intro A0 cap olds hu hSb holds hlenA hI2 hg
              have hrun := app_grow (ty := o.type) u1 hdu hk i1 i2 (by rw [i3]; exact hSb) (by rw [i3]; exact hS) hg c6 hfit
              have hge := grownCap_ge w (n + m) cap e
              have hcm : grownCap w (n + m) cap e ≤ maxLen := grownCap_le_maxLen w (n + m) cap e (by simp only [maxLen]; omega)
              rw [← hu] at hrun
              refine ⟨_, _, upd M2 d (some (.ow (.blk w.heap.size 0 (grownCap w (n + m) cap e)) sz (n + m) (csA ++ zs))), hred _ _ hrun, ?_⟩
              rw [hd]
              refine entry_ok (X := csA ++ zs) ⟨hI2, hR2.er, hR2.en, hR2.nt, hR2.df, hR2.gh⟩ c1 h (herr _) (fun hM => ?_) ?_
              · have hl : (csA ++ zs).length = (n + m) * sz := by rw [List.length_append, hlenA, hzl, Nat.add_mul]
                refine hI2.new hM (w' := w.drew.alloc _) (ty := e) (fz := (0, 0)) rfl nofz' ?_ c3 hge hcm hl (fun j q hj => ?_)
                · simp only [Array.size_append, List.size_toArray, size_zeroCells, hzv, holds, List.length_map, hlenA, hzl]
                  rw [← Nat.add_mul, ← Nat.add_mul]
                  exact Nat.mul_le_mul_right _ (by omega)
                · have hjl := (List.getElem?_eq_some_iff.1 hj).1
                  rw [← Array.getElem?_toList, Array.toList_append, Array.toList_append, holds, ← List.map_append]
                  rw [List.getElem?_append_left (by simpa using hjl), List.getElem?_map, hj]; rfl
              · have := RelC.sl (S0 := S0) (w0 := w0) (M := upd M2 d (some (.ow (.blk w.heap.size 0 (grownCap w (n + m) cap e)) sz (n + m) (csA ++ zs)))) d [] 0 (n + m) w.heap.size 0 (grownCap w (n + m) cap e) sz (n + m) (csA ++ zs) ⟨_, upd_same _ _ _, get_self _⟩ (by omega)
                rw [Nat.zero_mul, Nat.sub_zero] at this
                exact ⟨this, rfl⟩
            cases d0 with
            | blk bb oo cc =>
              have hu : a.eval b = .slice (some ⟨bb, oo, none⟩) n cc := f2.symm
              cases hok0 with
              | ow _ _ _ _ _ _ cur ty fz k1 k2 k3 k4 k5 k6 k7 k8 k9 =>
                obtain ⟨k3, k3', k3f⟩ := k3
                have hsz : sz' = sz := by
                  rcases c4 with h0 | ⟨_, h0⟩
                  · exact h0
                  · omega
                subst hsz
                by_cases hroom : n + m ≤ cc
                · by_cases hMd : M2 d = none
                  · obtain ⟨g1, g2, g3⟩ := hI.grow hMd hzl hroom
                    have hrun := app_room (ty := o.type) (cap := cc) u1 hdu hk i1 (by rw [i3]; exact hS) hone hroom (by rw [i3]; exact g2) (by rw [i3]; exact g3)
                    rw [i3, ← hu] at hrun
                    refine ⟨_, _, upd M2 d (some (.ow (.blk bb oo cc) sz' (n + m) (csA ++ zs))), hred _ _ hrun, ?_⟩
                    rw [hd]
                    refine entry_ok hR3 c1 h (herr _) (fun _ => g1) ?_
                    have := RelC.sl (S0 := S0) (w0 := w0) (M := upd M2 d (some (.ow (.blk bb oo cc) sz' (n + m) (csA ++ zs)))) d [] 0 (n + m) bb oo cc sz' (n + m) (csA ++ zs) ⟨_, upd_same _ _ _, get_self _⟩ (by omega)
                    rw [Nat.zero_mul, Nat.sub_zero, Nat.add_zero] at this
                    exact ⟨this, rfl⟩
                  · exfalso
                    unfold FS.row at h
                    split at h
                    · rename_i hn; exact hMd (hM2 hn)
                    · cases h
                · refine hgrow _ cc (csA.map T.val) hu ?_ rfl k6 hI.unwrap (by omega)
                  refine src_slice (by rw [List.length_map]; exact k6) (fun j v hj => ?_)
                  rw [List.getElem?_map, Option.map_eq_some_iff] at hj
                  obtain ⟨q, hq, rfl⟩ := hj
                  rw [add_eq]
                  simp only [World.cell?, k1]
                  simpa using k7 _ q hq
            | emp a0 =>
              have hu : a.eval b = .slice a0 0 0 := f2.symm
              cases hok0 with
              | em a0 sz' =>
                have hI2 : Inv S0 w0 M2 zs w := ⟨hI.ok, hI.nd, hI.dj, hI.bl, hI.wd, fun q hq => hI.xo q (List.mem_cons_of_mem _ hq), by have := hI.xn; simpa [T.blocks, T.blocksL] using this, fun i u hu b hb hbx => hI.xd i u hu b hb (by simpa [T.blocks, T.blocksL] using hbx), fun b hb => hI.xb b (by simpa [T.blocks, T.blocksL] using hb)⟩
                by_cases hm : m = 0
                · subst hm
                  have hz0 : zs = [] := List.length_eq_zero_iff.1 (by rw [hzl]; simp)
                  subst hz0
                  have hrun := app_none (ty := o.type) (A0 := a0) u1 hdu hk i1 (by rw [i3]; exact hS)
                  rw [← hu] at hrun
                  refine ⟨_, _, upd M2 d (some (.ow (.emp a0) sz 0 [])), hred _ _ hrun, ?_⟩
                  rw [hd]
                  refine entry_ok (X := []) ⟨hI2, hR2.er, hR2.en, hR2.nt, hR2.df, hR2.gh⟩ c1 h (herr _) (fun hM => hI2.entryE a0 hM) ?_
                  rw [hu]
                  exact ⟨.se d [] 0 a0 _ _ _ _ ⟨_, upd_same _ _ _, get_self _⟩, rfl⟩
                · exact hgrow a0 0 [] hu src_empty rfl (by simp) (by simpa using hI2) (by omega)
          · cases h
        · cases h
      · cases h
    · cases h
  · cases h
/-- EVERY OPERATION THAT IS NO CALL OF A Go FUNCTION. -/
theorem stepF_ok {o : Oper} {s1 : FS} (hR : Rel S0 w0 nt s M a w) (h : stepF P nt o s = some s1) :
    ∃ u w1 M1, ((execOp a.eval o).run P w = .ok (.value u) w1 ∨ (u = undef ∧ (execOp a.eval o).run P w = .ok .skip w1)) ∧ Rel S0 w0 nt s1 M1 (a.put o.dst u) w1 := by
  have lift : (∃ u w1 M1, (execOp a.eval o).run P w = .ok (.value u) w1 ∧ Rel S0 w0 nt s1 M1 (a.put o.dst u) w1) → ∃ u w1 M1, ((execOp a.eval o).run P w = .ok (.value u) w1 ∨ (u = undef ∧ (execOp a.eval o).run P w = .ok .skip w1)) ∧ Rel S0 w0 nt s1 M1 (a.put o.dst u) w1 := fun ⟨u, w1, M1, h1, h2⟩ => ⟨u, w1, M1, .inl h1, h2⟩
  have quiet : quietF P nt o.dst o.op s = some s1 → ∃ u w1 M1, ((execOp a.eval o).run P w = .ok (.value u) w1 ∨ (u = undef ∧ (execOp a.eval o).run P w = .ok .skip w1)) ∧ Rel S0 w0 nt s1 M1 (a.put o.dst u) w1 := fun h => by
    unfold quietF at h
    split at h
    · rename_i v hv
      split at h
      · rename_i hd
        obtain rfl := Option.some.inj h
        obtain ⟨u, h1, h2⟩ := quiet_ok hR hv
        exact ⟨u, w, M, .inl h1, hR.set h2 hd⟩
      · cases h
    · cases h
  generalize hop : o.op = op at quiet
  cases op with
  | alloc t => exact lift (alloc_ok hop hR h)
  | box t x => exact lift (box_ok hop hR h)
  | buildSlice t l ps => exact lift (buildSlice_ok hop hR h)
  | makeSlice t l c => exact lift (makeSlice_ok hop hR h)
  | store t x y =>
    obtain ⟨w1, M1, h1, h2⟩ := storeop_ok hop hR h
    exact ⟨undef, w1, M1, .inr ⟨rfl, h1⟩, h2⟩
  | call c =>
    obtain ⟨callee, args, ats⟩ := c
    cases callee with
    | builtin b =>
      cases b with
      | append =>
        have h0 := h
        simp only [stepF, hop] at h0
        split at h0
        · rename_i x1 x2 t1 t2 ea et
          have ha : args = #[x1, x2] := by rw [← Array.toArray_toList (xs := args), ea]
          have ht : ats = #[t1, t2] := by rw [← Array.toArray_toList (xs := ats), et]
          subst ha; subst ht
          exact lift (append_ok hop hR h0)
        · cases h0
      | _ => exact quiet (by simpa only [stepF, hop] using h)
    | _ => exact quiet (by simpa only [stepF, hop] using h)
  | _ => exact quiet (by simpa only [stepF, hop] using h)
end
end Go.Proofs.Ytciieaidbiejmaa.DM

/-
  DM 13. Calls: what an argument is to the function that is called; its contract; what the caller holds behind it.
-/
namespace Go.Proofs.Ytciieaidbiejmaa.DM
set_option linter.unusedVariables false
set_option linter.unusedSimpArgs false
/-- A cell of an argument: data that is only read; a row that is lent and comes back; a row that is given away. -/
inductive PC where
  | r (r : RT)
  | m (sz n : Nat) (cs : List D)
  | c (sz n : Nat) (cs : List D)
  deriving Inhabited
inductive PA where
  | one (c : PC)
  | agg (cs : List PC)
  | ptr (cs : List D)
  | rptr (cs : List RT)
  deriving Inhabited
def PC.dc (i j : Nat) : PC → DC
  | .r q => .t q
  | .m _ n _ => .sl i [j] 0 n
  | .c _ n _ => .sl i [j] 0 n
def PC.tree : PC → D
  | .r _ => .gone ()
  | .m sz n cs => .ow () sz n cs
  | .c sz n cs => .ow () sz n cs
def PC.isR : PC → Bool
  | .r _ => true
  | _ => false
def PC.gh (i j : Nat) : PC → DC
  | .m _ n _ => .sl i [j] 0 n
  | _ => .un
def dcsFrom (i : Nat) : Nat → List PC → List DC
  | _, [] => []
  | j, c :: cs => c.dc i j :: dcsFrom i (j + 1) cs
def argV (i : Nat) : PA → DV
  | .one c => .v (.one (c.dc i 0))
  | .agg cs => .v (.agg (dcsFrom i 0 cs))
  | .ptr cs => .v (.one (.pt i [] 0))
  | .rptr cs => .v (.one (.rp cs))
def argH : PA → Option D
  | .one c => if c.isR then none else some (.hold [c.tree])
  | .agg cs => if cs.all PC.isR then none else some (.hold (cs.map PC.tree))
  | .ptr cs => some (.ow () cs.length 1 cs)
  | .rptr _ => none
def argG (i : Nat) : PA → Nat → DC
  | .one c, j => if j = 0 then c.gh i 0 else .un
  | .agg cs, j => match cs[j]? with | some c => c.gh i j | none => .un
  | .ptr _, j => if j = 0 then .pt i [] 0 else .un
  | .rptr _, _ => .un
/-- The state in which a function begins. -/
def initFS (az : List PA) : FS := ⟨fun i => match az[i]? with | some p => argV i p | none => .un, fun i => (az[i]?).bind argH, fun k => match az[k / 64]? with | some p => argG (k / 64) p (k % 64) | none => .un⟩
/-- A lent cell az it comes back. -/
def backC (s : FS) (i j : Nat) : PC → Option PC
  | .m sz n _ => match s.g (i * 64 + j), (s.h i).bind (T.get · [j]) with
    | .sl i' p off n', some (.ow _ sz' n'' cs') => if i' = i ∧ p = [j] ∧ off = 0 ∧ n' = n ∧ sz' = sz ∧ n'' = n then some (.m sz n cs') else none
    | _, _ => none
  | c => some c
def backCs (s : FS) (i : Nat) : Nat → List PC → Option (List PC)
  | _, [] => some []
  | j, c :: cs => match backC s i j c, backCs s i (j + 1) cs with
    | some c', some cs' => some (c' :: cs')
    | _, _ => none
def backA (s : FS) (i : Nat) : PA → Option PA
  | .one c => (backC s i 0 c).map .one
  | .agg cs => (backCs s i 0 cs).map .agg
  | .ptr cs => match s.g (i * 64), s.h i with
    | .pt i' [] 0, some (.ow _ k 1 cs') => if i' = i ∧ k = cs.length ∧ cs'.length = k then some (.ptr cs') else none
    | _, _ => none
  | .rptr cs => some (.rptr cs)
/-- Results: none: a cell; some k: a struct of k cells. -/
def packL : List (Option Nat) → List Value → List Value
  | [], _ => []
  | none :: sh, vs => match vs with
    | v :: vs => v :: packL sh vs
    | [] => []
  | some k :: sh, vs => .agg (vs.take k).toArray :: packL sh (vs.drop k)
def shLen : List (Option Nat) → Nat
  | [] => 0
  | none :: sh => 1 + shLen sh
  | some k :: sh => k + shLen sh
def packV (sh : List (Option Nat)) (vs : List Value) : Value := match packL sh vs with
  | [v] => v
  | l => .tuple l.toArray
/-- A function with a body of its own. -/
def Enters (P : Program) (f : Nat) : Prop := ∃ fn, P.funcs[f]? = some fn ∧ fn.body.isSome = true ∧ (fn.name == "runtime.NumGoroutine") = false
/-- THE CONTRACT of a function at arguments az: results ds (in the shape sh), the arguments behind the call. -/
def Spec (P : Program) (f : Nat) (az : List PA) (sh : List (Option Nat)) (ds : List D) (az' : List PA) : Prop := Enters P f ∧
  ∀ (F : Fr) (w : World) (M : Heap) (vals : List Value), Inv F w M [] w → vals.length = az.length → (∀ id, (initFS az).h id = (M id).map er) →
    (∀ (i : Nat) (pa : PA) (v : Value), az[i]? = some pa → vals[i]? = some v → RelV F w M (argV i pa) v) → (∀ i, RelC F w M ((initFS az).g i) (F.gv i)) →
    Calls P f vals.toArray w fun e w' => ∃ (v : Value) (s1 : FS) (M1 : Heap) (X : List A), e = .returned v ∧ Inv F w M1 X w' ∧ (∀ id, s1.h id = (M1 id).map er) ∧ (∀ i, RelC F w M1 (s1.g i) (F.gv i)) ∧
      X.map er = ds ∧ ds.length = shLen sh ∧ v = packV sh (X.map T.val) ∧ az'.length = az.length ∧ ∀ (i : Nat) (pa : PA), az[i]? = some pa → ∃ pa', az'[i]? = some pa' ∧ backA s1 i pa = some pa'
mutual
/-- Data of the call's own, read alone. -/
def toRT : D → Option RT
  | .sc v => some (.sc v)
  | .ro _ r => some r
  | .ow _ _ n cs => (toRTs cs).map (.sl n)
  | _ => none
def toRTs : List D → Option (List RT)
  | [] => some []
  | x :: xs => match toRT x, toRTs xs with
    | some r, some rs => some (r :: rs)
    | _, _ => none
end
mutual
/-- Nothing that is only read lies in it. -/
def noRo : D → Bool
  | .sc _ => true
  | .ro _ _ => false
  | .ow _ _ _ cs => noRoL cs
  | .hold cs => noRoL cs
  | .gone _ => true
def noRoL : List D → Bool
  | [] => true
  | x :: xs => noRo x && noRoL xs
end
section
variable {S0 : Fr} {w0 w w' : World} {M M' : Heap} {X : List A} {P : Program} {nt : Nat} {s : FS} {a : Act}
theorem toRTs_eq : ∀ {cs : List D} {rs : List RT}, toRTs cs = some rs → rs.length = cs.length ∧ ∀ (i : Nat) (x : D) (r : RT), cs[i]? = some x → rs[i]? = some r → toRT x = some r
  | [], rs, h => by simp only [toRTs, Option.some.injEq] at h; subst h; exact ⟨rfl, fun i x r hx => by simp at hx⟩
  | x :: xs, rs, h => by
    simp only [toRTs] at h
    split at h
    · rename_i r rs' h1 h2
      obtain rfl := Option.some.inj h
      obtain ⟨e1, e2⟩ := toRTs_eq h2
      refine ⟨by simp [e1], fun i y q hy hq => ?_⟩
      cases i with
      | zero => simp at hy hq; subst hy; subst hq; exact h1
      | succ i => exact e2 i y q (by simpa using hy) (by simpa using hq)
    · cases h
theorem noRoL_mem : ∀ {cs : List D}, noRoL cs = true → ∀ x ∈ cs, noRo x = true
  | [], _, x, hx => by cases hx
  | y :: ys, h, x, hx => by
    simp only [noRoL, Bool.and_eq_true] at h
    rcases List.mem_cons.1 hx with rfl | hx
    · exact h.1
    · exact noRoL_mem h.2 x hx
/-- What is only read may be read under a wider frame, in a later world. -/
theorem RoC.wide {S1 : Fr} {w1 : World} {v : Value} {r : RT} (h : RoC S0 w0 v r) (hr : ∀ k, S0.ro k → S1.ro k) (hw : ∀ k, S0.ro k → w1.heap[k]? = w0.heap[k]?) : RoC S1 w1 v r := by
  induction h with
  | sc v hv => exact .sc v hv
  | sl a n c cs vs h1 h2 h3 h4 h5 h6 ih => exact .sl a n c cs vs h1 (hr _ h2) h3 h4 (fun i v hv => by have := h5 i v hv; simp only [World.cell?] at this ⊢; rw [hw _ h2]; exact this) ih
  | em a c => exact .em a c
  | fn f ps caps h1 h2 ih => exact .fn f ps caps h1 ih
/-- A tree that is held, read alone. -/
theorem toRT_ok {S1 : Fr} (hro : ∀ k, S0.ro k → S1.ro k) (hw : ∀ k, S0.ro k → w.heap[k]? = w0.heap[k]?) : ∀ {y : A}, Ok S0 w0 w y → (∀ b ∈ y.blocks, S1.ro b) → ∀ {r : RT}, toRT (er y) = some r → RoC S1 w y.val r := by
  intro y h
  induction h with
  | sc v hv => intro _ r hr; simp only [er, T.map, toRT, Option.some.injEq] at hr; subst hr; exact .sc v hv
  | ro u q hq => intro _ r hr; simp only [er, T.map, toRT, Option.some.injEq] at hr; subst hr; exact hq.wide hro hw
  | ow b o c sz n cs cur ty fz h1 h2 h3 h4 h5 h6 h7 h8 h9 ih =>
    intro hb r hr
    rw [er_ow_mk] at hr
    simp only [toRT] at hr
    obtain ⟨rs, hrs, rfl⟩ := Option.map_eq_some_iff.1 hr
    obtain ⟨e1, e2⟩ := toRTs_eq hrs
    refine .sl ⟨b, o, none⟩ n c rs (cs.map T.val) rfl (hb b (by simp [T.blocks])) h4 (by rw [List.length_map, e1, List.length_map]) (fun i v hv => ?_) (fun i v r hv hr => ?_)
    · rw [List.getElem?_map, Option.map_eq_some_iff] at hv
      obtain ⟨x, hx, rfl⟩ := hv
      simp only [World.cell?, h1]
      simpa using h7 i x hx
    · rw [List.getElem?_map, Option.map_eq_some_iff] at hv
      obtain ⟨x, hx, rfl⟩ := hv
      refine ih x (List.mem_of_getElem? hx) (fun k hk => hb k ?_) (e2 i (er x) r (by rw [List.getElem?_map, hx]; rfl) hr)
      rw [T.blocks_eq]
      exact List.mem_append_right _ (List.mem_flatMap.2 ⟨x, List.mem_of_getElem? hx, hk⟩)
  | em a sz => intro _ r hr; rw [er_ow_mk] at hr; simp only [toRT, List.map_nil, toRTs, Option.map_some, Option.some.injEq] at hr; subst hr; exact .em a 0
  | hold cs _ _ _ => intro _ r hr; simp [er, T.map, toRT] at hr
  | gone u hu => intro _ r hr; simp [er, T.map, toRT] at hr
/-- A tree that a callee leaves is held by the caller. -/
theorem Ok.conv {F : Fr} {w1 : World} {y : A} (h : Ok F w1 w y) (hf : ∀ b j, S0.fx b j → F.fx b j) : ((∀ u r, RoC F w1 u r → RoC S0 w0 u r) ∨ noRo (er y) = true) → Ok S0 w0 w y := by
  induction h with
  | sc v hv => intro _; exact .sc v hv
  | ro u r hr => intro h; rcases h with h | h
                 · exact .ro u r (h u r hr)
                 · simp [er, T.map, noRo] at h
  | ow b o c sz n cs cur ty fz h1 h2 h3 h4 h5 h6 h7 h8 h9 ih =>
    intro h
    refine .ow b o c sz n cs cur ty fz h1 h2 ⟨h3.1, h3.2.1, fun j hj hfx => h3.2.2 j hj (hf _ _ hfx)⟩ h4 h5 h6 h7 (fun x hx => ih x hx ?_) h9
    rcases h with h | h
    · exact .inl h
    · rw [er_ow_mk] at h
      simp only [noRo] at h
      exact .inr (noRoL_mem h _ (List.mem_map_of_mem hx))
  | em a sz => intro _; exact .em a sz
  | hold cs h1 h2 ih =>
    intro h
    refine .hold cs (fun x hx => ih x hx ?_) h2
    rcases h with h | h
    · exact .inl h
    · have : er (.hold cs) = .hold (cs.map er) := by simp only [er, T.map, T.mapL_eq]; rfl
      rw [this] at h
      simp only [noRo] at h
      exact .inr (noRoL_mem h _ (List.mem_map_of_mem hx))
  | gone u hu => intro _; exact .gone u hu
/-- The frame of a callee: what the caller holds besides what is handed over (own) is kept. -/
def calleeFr (S0 : Fr) (w : World) (own : List Nat) (wide : Bool) (fx : Nat → Nat → Prop) (gv : Nat → Value) : Fr :=
  ⟨fun k => if wide then k < w.heap.size ∧ k ∉ own else S0.ro k, fun k => k < w.heap.size ∧ k ∉ own, fun b j => S0.fx b j ∨ fx b j, gv⟩
/-- The world az a callee finds it. -/
theorem callee_wd {own : List Nat} {wide : Bool} {fx : Nat → Nat → Prop} {gv : Nat → Value} (hI : Inv S0 w0 M X w) (hown : ∀ b ∈ own, ¬ S0.kp b) (hfx : ∀ b j, fx b j → b < w.heap.size) : Wd (calleeFr S0 w own wide fx gv) w w := by
  refine ⟨fun _ _ => rfl, fun k hk => hk.1, ⟨tab_keep (fun k hk => hI.wd.fr k (hI.wd.tb.2 k hk)) hI.wd.tb.1, fun k hk => ⟨by have := hI.wd.s0 k (hI.wd.tb.2 k hk); have := hI.wd.sz; omega, fun h => hown k h (hI.wd.tb.2 k hk)⟩⟩, Nat.le_refl _, fun k hk => ?_, fun b j h => ⟨?_, rfl⟩, rfl, rfl, rfl⟩
  · simp only [calleeFr] at hk ⊢
    split at hk
    · exact hk
    · have h1 := hI.wd.rk k hk
      exact ⟨by have := hI.wd.s0 k h1; have := hI.wd.sz; omega, fun h => hown k h h1⟩
  · rcases h with h | h
    · have := (hI.wd.fx b j h).1; have := hI.wd.sz; omega
    · exact hfx b j h
/-- What is only read in the caller is so in the callee. -/
theorem ro_callee {own : List Nat} {wide : Bool} {fx : Nat → Nat → Prop} {gv : Nat → Value} (hI : Inv S0 w0 M X w) (hown : ∀ b ∈ own, ¬ S0.kp b) {v : Value} {r : RT} (h : RoC S0 w0 v r) : RoC (calleeFr S0 w own wide fx gv) w v r :=
  h.wide (fun k hk => by
    simp only [calleeFr]
    split
    · have h1 := hI.wd.rk k hk
      exact ⟨by have := hI.wd.s0 k h1; have := hI.wd.sz; omega, fun h => hown k h h1⟩
    · exact hk) (fun k hk => hI.wd.fr k (hI.wd.rk k hk))
theorem ro_back {own : List Nat} {fx : Nat → Nat → Prop} {gv : Nat → Value} (hI : Inv S0 w0 M X w) {v : Value} {r : RT} (h : RoC (calleeFr S0 w own false fx gv) w v r) : RoC S0 w0 v r :=
  h.wide (fun k hk => by simpa [calleeFr] using hk) (fun k hk => by
    have hk' : S0.ro k := by simpa [calleeFr] using hk
    exact (hI.wd.fr k (hI.wd.rk k hk')).symm)
/-- BEHIND A CALL: what the caller did not hand over stands; what comes back is in hand. -/
theorem call_back {own : List Nat} {wide : Bool} {fx : Nat → Nat → Prop} {gv : Nat → Value} {M1 : Heap} {Y Z : List A} (hI : Inv S0 w0 M X w) (hX : ∀ b, b ∈ own → b ∈ X.flatMap T.blocks)
    (hfx : ∀ b j, S0.fx b j → b ∈ X.flatMap T.blocks → b ∈ own → True) (hc : Inv (calleeFr S0 w own wide fx gv) w M1 Y w') (hZ : ∀ z ∈ Z, Ok (calleeFr S0 w own wide fx gv) w w' z ∧ z.isHold = false)
    (hsub : ∀ b ∈ Z.flatMap T.blocks, b < w'.heap.size ∧ ¬ (calleeFr S0 w own wide fx gv).kp b) (hnd : (Z.flatMap T.blocks).Nodup) (hro : wide = false ∨ ∀ z ∈ Z, noRo (er z) = true) : Inv S0 w0 M Z w' := by
  have hkeep : ∀ k, k < w.heap.size → k ∉ own → w'.heap[k]? = w.heap[k]? := fun k h1 h2 => hc.wd.fr k ⟨h1, h2⟩
  have hMown : ∀ id t, M id = some t → ∀ b ∈ t.blocks, b ∉ own := fun id t ht b hb ho => hI.xd id t ht b hb (hX b ho)
  have hconv : ∀ z ∈ Z, Ok S0 w0 w' z := fun z hz => (hZ z hz).1.conv (fun b j h => .inl h) (by
    rcases hro with rfl | h
    · exact .inl fun u r h => ro_back hI h
    · exact .inr (h z hz))
  have hkp : ∀ b, S0.kp b → b < w.heap.size ∧ b ∉ own := fun b hb => ⟨by have := hI.wd.s0 b hb; have := hI.wd.sz; omega, fun ho => (hI.xb b (hX b ho)).2 hb⟩
  refine ⟨fun id t ht => (hI.ok id t ht).frame fun b hb => hkeep b (hI.bl id t b ht hb).1 (hMown id t ht b hb), hI.nd, hI.dj, fun id t b ht hb => ⟨by have := (hI.bl id t b ht hb).1; have := hc.wd.sz; omega, (hI.bl id t b ht hb).2⟩, ?_, fun z hz => ⟨hconv z hz, (hZ z hz).2⟩, hnd, fun id t ht b hb hbz => ?_, fun b hb => ⟨(hsub b hb).1, fun hk => (hsub b hb).2 (hkp b hk)⟩⟩
  · refine ⟨fun k hk => ?_, hI.wd.s0, hI.wd.tb, by have := hc.wd.sz; have := hI.wd.sz; omega, hI.wd.rk, fun b j h => ?_, hc.wd.oo.1.trans hI.wd.oo.1, hc.wd.oo.2.1.trans hI.wd.oo.2.1, hc.wd.oo.2.2.trans hI.wd.oo.2.2⟩
    · rw [hkeep k (hkp k hk).1 (hkp k hk).2]; exact hI.wd.fr k hk
    · obtain ⟨h1, h2⟩ := hI.wd.fx b j h
      refine ⟨h1, ?_⟩
      rw [← h2]
      exact (hc.wd.fx b j (.inl h)).2
  · exact (hsub b hbz).2 ⟨(hI.bl id t b ht hb).1, hMown id t ht b hb⟩
end
end Go.Proofs.Ytciieaidbiejmaa.DM
