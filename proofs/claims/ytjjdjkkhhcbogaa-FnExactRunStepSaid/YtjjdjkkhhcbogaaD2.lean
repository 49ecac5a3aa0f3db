/-
  DM 2. The state of the machine of values, and how it answers to the model's: what is held, what a temporary refers to, and the moves that keep it.
-/
import Derived.Test.YtjjdjkkhhcbogaaD1
namespace Go.Proofs.Ytjjdjkkhhcbogaa.DM
set_option linter.unusedVariables false
set_option linter.unusedSimpArgs false

theorem put_blocks {p : List Nat} : ∀ {t x : A} (y : A), t.get p = some x → ∃ L R, t.blocks = L ++ (x.blocks ++ R) ∧ (t.put p y).blocks = L ++ (y.blocks ++ R) := by
  induction p with
  | nil => intro t x y hx; simp [T.get] at hx; subst hx; exact ⟨[], [], by simp, by simp [T.put]⟩
  | cons i p ih =>
    intro t x y hx
    simp only [T.get] at hx
    cases hc : t.cells[i]? with
    | none => rw [hc] at hx; cases hx
    | some c =>
      rw [hc] at hx
      obtain ⟨L, R, h1, h2⟩ := ih y hx
      have hi := (List.getElem?_eq_some_iff.1 hc).1
      have hci := (List.getElem?_eq_some_iff.1 hc).2
      have hne : t.cells ≠ [] := fun e => by rw [e] at hi; exact absurd hi (by simp)
      have hsplit : t.cells = t.cells.take i ++ (c :: t.cells.drop (i + 1)) := by
        rw [← hci, List.getElem_cons_drop, List.take_append_drop]
      have hset : t.cells.set i (c.put p y) = t.cells.take i ++ (c.put p y :: t.cells.drop (i + 1)) := by
        rw [List.set_eq_take_append_cons_drop, if_pos hi]
      have hown : (t.withCells (t.cells.set i (c.put p y))).own = t.own := by cases t with
        | ow a sz n cs => cases a <;> rfl
        | _ => rfl
      refine ⟨t.own ++ ((t.cells.take i).flatMap T.blocks ++ L), R ++ (t.cells.drop (i + 1)).flatMap T.blocks, ?_, ?_⟩
      · rw [T.blocks_eq]
        conv => lhs; rw [hsplit]
        rw [List.flatMap_append, List.flatMap_cons, h1]
        simp [List.append_assoc]
      · simp only [T.put, hc]
        rw [T.blocks_eq, hown, T.withCells_cells _ _ hne, hset, List.flatMap_append, List.flatMap_cons, h2]
        simp [List.append_assoc]
theorem get_put_same {α β : Type} : ∀ (q r : List Nat) (t y : T α β), (t.get q).isSome = true → (t.put q y).get (q ++ r) = y.get r
  | [], r, t, y, _ => rfl
  | i :: q, r, t, y, h => by
    simp only [T.get] at h
    cases hc : t.cells[i]? with
    | none => rw [hc] at h; cases h
    | some c =>
      rw [hc] at h
      have hi := (List.getElem?_eq_some_iff.1 hc).1
      have hne : t.cells ≠ [] := fun e => by rw [e] at hi; exact absurd hi (by simp)
      simp only [T.put, hc, List.cons_append, T.get, T.withCells_cells _ _ hne, List.getElem?_set_self hi]
      exact get_put_same q r c y h
/-- A node elsewhere is as it was, but for what lies in its cells. -/
theorem get_put_other {α β : Type} : ∀ (q p : List Nat) (t y x : T α β), t.get p = some x → ¬ q <+: p → ∃ cs, (t.put q y).get p = some (x.withCells cs)
  | [], p, t, y, x, _, hn => absurd List.nil_prefix hn
  | i :: q, [], t, y, x, hx, _ => by
    simp [T.get] at hx
    subst hx
    simp only [T.put]
    cases hc : t.cells[i]? with
    | none => exact ⟨t.cells, by cases t <;> rfl⟩
    | some c => exact ⟨_, rfl⟩
  | i :: q, j :: p, t, y, x, hx, hn => by
    simp only [T.get] at hx
    cases hc : t.cells[i]? with
    | none =>
      simp only [T.put, hc]
      refine ⟨x.cells, ?_⟩
      have : x.withCells x.cells = x := by cases x <;> rfl
      rw [this]
      exact hx
    | some c =>
      have hi := (List.getElem?_eq_some_iff.1 hc).1
      have hne : t.cells ≠ [] := fun e => by rw [e] at hi; exact absurd hi (by simp)
      simp only [T.put, hc, T.get, T.withCells_cells _ _ hne]
      by_cases hij : i = j
      · subst hij
        rw [hc] at hx
        rw [List.getElem?_set_self hi]
        exact get_put_other q p c y x hx (fun h => hn (by rw [List.cons_prefix_cons]; exact ⟨rfl, h⟩))
      · rw [List.getElem?_set_ne hij]
        refine ⟨x.cells, ?_⟩
        have : x.withCells x.cells = x := by cases x <;> rfl
        rw [this]
        exact hx
/-- What a temporary may hold, cell by cell: data, a slice or a pointer into the call's own rows, a pointer to what is only read, a function with what it captures; or what is not known. -/
inductive DC where
  | un
  | t (r : RT)
  | nl
  | sl (id : Nat) (p : List Nat) (off n : Nat)
  | pt (id : Nat) (p : List Nat) (off : Nat)
  | rp (cs : List RT)
  | fn (f : Nat) (id : List Nat)
  deriving Inhabited
inductive V1 where
  | one (c : DC)
  | agg (cs : List DC)
  deriving Inhabited
inductive DV where
  | un
  | v (x : V1)
  | tup (xs : List V1)
  deriving Inhabited
structure FS where
  e : Nat → DV
  h : Nat → Option D
  g : Nat → DC
def upd {α : Type} (f : Nat → α) (k : Nat) (v : α) : Nat → α := fun i => if i = k then v else f i
theorem upd_same {α : Type} (f : Nat → α) (k : Nat) (v : α) : upd f k v k = v := by simp [upd]
theorem upd_ne {α : Type} (f : Nat → α) (k i : Nat) (v : α) (h : i ≠ k) : upd f k v i = f i := by simp [upd, h]
/-- References at or below a place. -/
def isAt (id : Nat) (p : List Nat) (i : Nat) (q : List Nat) : Bool := i == id && p.isPrefixOf q
def pzC (id : Nat) (p : List Nat) : DC → DC
  | .sl i q off n => if isAt id p i q then .un else .sl i q off n
  | .pt i q off => if isAt id p i q then .un else .pt i q off
  | .fn f ids => if ids.contains id then .un else .fn f ids
  | c => c
def pz1 (id : Nat) (p : List Nat) : V1 → V1
  | .one c => .one (pzC id p c)
  | .agg cs => .agg (cs.map (pzC id p))
def pzV (id : Nat) (p : List Nat) : DV → DV
  | .un => .un
  | .v x => .v (pz1 id p x)
  | .tup xs => .tup (xs.map (pz1 id p))

abbrev Heap := Nat → Option A
/-- The world is the old one where it is kept. -/
structure Wd (S0 : Fr) (w0 w : World) : Prop where
  fr : ∀ k, S0.kp k → w.heap[k]? = w0.heap[k]?
  s0 : ∀ k, S0.kp k → k < w0.heap.size
  sz : w0.heap.size ≤ w.heap.size
  rk : ∀ k, S0.ro k → S0.kp k
  fx : ∀ b j, S0.fx b j → b < w0.heap.size ∧ w.cell? ⟨b, j, none⟩ = w0.cell? ⟨b, j, none⟩
  oo : w.os = w0.os ∧ w.output = w0.output ∧ w.tape = w0.tape
/-- What the call holds (the entries of M, and what is in hand: X) stands in memory, each block once, apart from what is only read. -/
structure Inv (S0 : Fr) (w0 : World) (M : Heap) (X : List A) (w : World) : Prop where
  ok : ∀ id t, M id = some t → Ok S0 w0 w t
  nd : ∀ id t, M id = some t → t.blocks.Nodup
  dj : ∀ id id' t t', id ≠ id' → M id = some t → M id' = some t' → ∀ b ∈ t.blocks, b ∉ t'.blocks
  bl : ∀ id t b, M id = some t → b ∈ t.blocks → b < w.heap.size ∧ ¬ S0.kp b
  wd : Wd S0 w0 w
  xo : ∀ x ∈ X, Ok S0 w0 w x ∧ x.isHold = false
  xn : (X.flatMap T.blocks).Nodup
  xd : ∀ id t, M id = some t → ∀ b ∈ t.blocks, b ∉ X.flatMap T.blocks
  xb : ∀ b ∈ X.flatMap T.blocks, b < w.heap.size ∧ ¬ S0.kp b
/-- A node of what is held. -/
def at_ (M : Heap) (id : Nat) (p : List Nat) (x : A) : Prop := ∃ t, M id = some t ∧ t.get p = some x
inductive RelC (S0 : Fr) (w0 : World) (M : Heap) : DC → Value → Prop
  | un (v : Value) : RelC S0 w0 M .un v
  | t (r : RT) (v : Value) : RoC S0 w0 v r → RelC S0 w0 M (.t r) v
  | nl (a : Option Addr) : RelC S0 w0 M .nl (.slice a 0 0)
  | sl (id : Nat) (p : List Nat) (k n b o c sz m : Nat) (cs : List A) : at_ M id p (.ow (.blk b o c) sz m cs) → k + n ≤ m → RelC S0 w0 M (.sl id p (k * sz) n) (.slice (some ⟨b, o + k * sz, none⟩) n (c - k))
  | se (id : Nat) (p : List Nat) (off : Nat) (a : Option Addr) (d : AD) (sz m : Nat) (cs : List A) : at_ M id p (.ow d sz m cs) → RelC S0 w0 M (.sl id p off 0) (.slice a 0 0)
  | pt (id : Nat) (p : List Nat) (off b o c sz m : Nat) (cs : List A) : at_ M id p (.ow (.blk b o c) sz m cs) → RelC S0 w0 M (.pt id p off) (.pointer (some ⟨b, o + off, none⟩))
  | rp (cs : List RT) (a : Addr) : RoC S0 w0 (.slice (some a) 1 1) (.sl 1 cs) → RelC S0 w0 M (.rp cs) (.pointer (some a))
  | fn (f : Nat) (ids : List Nat) (ps : List Addr) : ps.length = ids.length → (∀ (i id : Nat) (a : Addr), ids[i]? = some id → ps[i]? = some a → ∃ b o c sz cs, at_ M id [] (.ow (.blk b o c) sz 1 cs) ∧ a = ⟨b, o, none⟩) →
      RelC S0 w0 M (.fn f ids) (.func (.func f) #[] (ps.map fun a => Value.pointer (some a)).toArray)
def Rel1 (S0 : Fr) (w0 : World) (M : Heap) : V1 → Value → Prop
  | .one c, v => RelC S0 w0 M c v ∧ v.oneCell' = true
  | .agg cs, v => ∃ vs : List Value, v = .agg vs.toArray ∧ vs.length = cs.length ∧ (∀ (i : Nat) (c : DC) (u : Value), cs[i]? = some c → vs[i]? = some u → RelC S0 w0 M c u) ∧ ∀ u ∈ vs, u.oneCell' = true
def RelV (S0 : Fr) (w0 : World) (M : Heap) : DV → Value → Prop
  | .un, _ => True
  | .v x, v => Rel1 S0 w0 M x v
  | .tup xs, v => ∃ vs : List Value, v = .tuple vs.toArray ∧ vs.length = xs.length ∧ ∀ (i : Nat) (x : V1) (u : Value), xs[i]? = some x → vs[i]? = some u → Rel1 S0 w0 M x u
structure RelX (S0 : Fr) (w0 : World) (nt : Nat) (s : FS) (M : Heap) (X : List A) (a : Act) (w : World) : Prop where
  inv : Inv S0 w0 M X w
  er : ∀ id, s.h id = (M id).map er
  en : ∀ i, RelV S0 w0 M (s.e i) (a.tmps.getD i undef)
  nt : a.tmps.size = nt
  df : a.defers = []
  gh : ∀ i, RelC S0 w0 M (s.g i) (S0.gv i)
abbrev Rel (S0 : Fr) (w0 : World) (nt : Nat) (s : FS) (M : Heap) (a : Act) (w : World) : Prop := RelX S0 w0 nt s M [] a w
section
variable {S0 : Fr} {w0 w w' : World} {M M' : Heap}
/-- The refs that a change of the heap leaves: each node that is referred to keeps its place. -/
def Keeps (M M' : Heap) (id : Nat) (p : List Nat) : Prop := ∀ x, at_ M id p x → ∃ cs, at_ M' id p (x.withCells cs)
def refsC : DC → List (Nat × List Nat)
  | .sl i q _ _ => [(i, q)]
  | .pt i q _ => [(i, q)]
  | .fn _ ids => ids.map fun i => (i, [])
  | _ => []
theorem RelC.keep {c : DC} {v : Value} (h : RelC S0 w0 M c v) (hk : ∀ r ∈ refsC c, Keeps M M' r.1 r.2) : RelC S0 w0 M' c v := by
  cases h with
  | un v => exact .un v
  | t r v h => exact .t r v h
  | nl a => exact .nl a
  | sl id p k n b o c sz m cs h1 h2 =>
    obtain ⟨cs', h⟩ := hk (id, p) (by simp [refsC]) _ h1
    exact .sl id p k n b o c sz m cs' h h2
  | se id p off a d sz m cs h1 =>
    obtain ⟨cs', h⟩ := hk (id, p) (by simp [refsC]) _ h1
    exact .se id p off a d sz m cs' h
  | pt id p off b o c sz m cs h1 =>
    obtain ⟨cs', h⟩ := hk (id, p) (by simp [refsC]) _ h1
    exact .pt id p off b o c sz m cs' h
  | rp cs a h => exact .rp cs a h
  | fn f ids ps hl h =>
    refine .fn f ids ps hl (fun i id a hi ha => ?_)
    obtain ⟨b, o, c, sz, cs, h1, h2⟩ := h i id a hi ha
    obtain ⟨cs', h3⟩ := hk (id, []) (by simp only [refsC, List.mem_map]; exact ⟨id, List.mem_of_getElem? hi, rfl⟩) _ h1
    exact ⟨b, o, c, sz, cs', h3, h2⟩
/-- Behind a poisoning at a place, what is left is kept if all other places are. -/
theorem RelC.poison {id : Nat} {p : List Nat} {c : DC} {v : Value} (h : RelC S0 w0 M c v) (hk : ∀ i q, ¬ (i = id ∧ p <+: q) → Keeps M M' i q) (hk0 : ∀ i, i ≠ id → Keeps M M' i []) : RelC S0 w0 M' (pzC id p c) v := by
  cases c with
  | sl i q off n =>
    simp only [pzC]
    split
    · exact .un v
    · rename_i hn
      refine h.keep (fun r hr => ?_)
      simp [refsC] at hr
      subst hr
      exact hk i q (fun ⟨h1, h2⟩ => hn (by simp [isAt, h1, h2]))
  | pt i q off =>
    simp only [pzC]
    split
    · exact .un v
    · rename_i hn
      refine h.keep (fun r hr => ?_)
      simp [refsC] at hr
      subst hr
      exact hk i q (fun ⟨h1, h2⟩ => hn (by simp [isAt, h1, h2]))
  | fn f ids =>
    simp only [pzC]
    split
    · exact .un v
    · rename_i hn
      refine h.keep (fun r hr => ?_)
      simp only [refsC, List.mem_map] at hr
      obtain ⟨i, hi, rfl⟩ := hr
      exact hk0 i (fun e => hn (by simp [← e, hi]))
  | _ => exact h.keep (fun r hr => by simp [refsC] at hr)
theorem Rel1.map {x : V1} {v : Value} {f : DC → DC} (h : Rel1 S0 w0 M x v) (hf : ∀ c v, RelC S0 w0 M c v → RelC S0 w0 M' (f c) v) : Rel1 S0 w0 M' (match x with | .one c => .one (f c) | .agg cs => .agg (cs.map f)) v := by
  cases x with
  | one c => exact ⟨hf c v h.1, h.2⟩
  | agg cs =>
    obtain ⟨vs, rfl, hl, h1, h2⟩ := h
    refine ⟨vs, rfl, by simpa using hl, fun i c u hc hu => ?_, h2⟩
    rw [List.getElem?_map, Option.map_eq_some_iff] at hc
    obtain ⟨c', hc', rfl⟩ := hc
    exact hf c' u (h1 i c' u hc' hu)
theorem RelV.poison {id : Nat} {p : List Nat} {x : DV} {v : Value} (h : RelV S0 w0 M x v) (hk : ∀ i q, ¬ (i = id ∧ p <+: q) → Keeps M M' i q) (hk0 : ∀ i, i ≠ id → Keeps M M' i []) : RelV S0 w0 M' (pzV id p x) v := by
  have h1 : ∀ (x : V1) (v : Value), Rel1 S0 w0 M x v → Rel1 S0 w0 M' (pz1 id p x) v := fun x v h => by
    have := Rel1.map (f := pzC id p) (M' := M') h (fun c v hc => hc.poison hk hk0)
    cases x <;> exact this
  cases x with
  | un => trivial
  | v x => exact h1 x v h
  | tup xs =>
    obtain ⟨vs, rfl, hl, h2⟩ := h
    refine ⟨vs, rfl, by simpa using hl, fun i y u hy hu => ?_⟩
    rw [List.getElem?_map, Option.map_eq_some_iff] at hy
    obtain ⟨y', hy', rfl⟩ := hy
    exact h1 y' u (h2 i y' u hy' hu)
theorem RelV.keep {x : DV} {v : Value} (h : RelV S0 w0 M x v) (hk : ∀ i q, Keeps M M' i q) : RelV S0 w0 M' x v := by
  have h1 : ∀ (x : V1) (v : Value), Rel1 S0 w0 M x v → Rel1 S0 w0 M' x v := fun x v h => by
    have := Rel1.map (f := id) (M' := M') h (fun c v hc => hc.keep fun r _ => hk r.1 r.2)
    cases x with
    | one c => exact this
    | agg cs => simpa using this
  cases x with
  | un => trivial
  | v x => exact h1 x v h
  | tup xs =>
    obtain ⟨vs, rfl, hl, h2⟩ := h
    exact ⟨vs, rfl, hl, fun i y u hy hu => h1 y u (h2 i y u hy hu)⟩
theorem Keeps.refl (id : Nat) (p : List Nat) : Keeps M M id p := fun x h => ⟨x.cells, by cases x <;> exact h⟩
/-- One entry is laid anew. -/
theorem keeps_upd {id : Nat} {t' : Option A} {i : Nat} {q : List Nat} (h : i ≠ id) : Keeps M (upd M id t') i q := fun x ⟨t, ht, hx⟩ => by
  refine ⟨x.cells, t, by rw [upd_ne _ _ _ _ h]; exact ht, ?_⟩
  rw [hx]
  cases x <;> rfl
theorem keeps_put {id : Nat} {t y : A} {p q : List Nat} (ht : M id = some t) (hn : ¬ p <+: q) : Keeps M (upd M id (some (t.put p y))) id q := fun x ⟨t', ht', hx⟩ => by
  rw [ht] at ht'
  obtain rfl := Option.some.inj ht'
  obtain ⟨cs, h⟩ := get_put_other p q t y x hx hn
  exact ⟨cs, _, upd_same _ _ _, h⟩
end
end Go.Proofs.Ytjjdjkkhhcbogaa.DM
