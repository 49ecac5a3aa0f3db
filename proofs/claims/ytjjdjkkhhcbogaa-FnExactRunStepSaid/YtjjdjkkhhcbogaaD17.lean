/-
  DM 17. Places that are lent and come back: the moves.
-/
import Derived.Test.YtjjdjkkhhcbogaaD16
namespace Go.Proofs.Ytjjdjkkhhcbogaa.DM
set_option linter.unusedVariables false
set_option linter.unusedSimpArgs false
theorem get_put_apart {α β : Type} : ∀ (q p : List Nat) (t y : T α β), ¬ q <+: p → ¬ p <+: q → (t.put q y).get p = t.get p
  | [], p, t, y, h, _ => absurd List.nil_prefix h
  | _ :: _, [], t, y, _, h => absurd List.nil_prefix h
  | i :: q, j :: p, t, y, h1, h2 => by
    simp only [T.put]
    cases hc : t.cells[i]? with
    | none => rfl
    | some c =>
      have hi := (List.getElem?_eq_some_iff.1 hc).1
      have hne : t.cells ≠ [] := fun e => by rw [e] at hi; exact absurd hi (by simp)
      simp only [T.get, T.withCells_cells _ _ hne]
      by_cases hij : i = j
      · subst hij
        rw [List.getElem?_set_self hi, hc]
        exact get_put_apart q p c y (fun h => h1 (by rw [List.cons_prefix_cons]; exact ⟨rfl, h⟩)) (fun h => h2 (by rw [List.cons_prefix_cons]; exact ⟨rfl, h⟩))
      · rw [List.getElem?_set_ne hij]
def FS.lend (s : FS) (id : Nat) (p : List Nat) (root : D) : FS := ⟨fun i => pzV id p (s.e i), upd s.h id (some (root.put p (.gone ()))), fun i => pzC id p (s.g i)⟩
/-- A place: entry, path; the cell of the argument. -/
abbrev Pl := Nat × List Nat × Nat
def apartP (l l' : Pl) : Prop := l.1 = l'.1 → ¬ l.2.1 <+: l'.2.1 ∧ ¬ l'.2.1 <+: l.2.1
instance (l l' : Pl) : Decidable (apartP l l') := by unfold apartP; exact inferInstance
inductive Lend : Heap → List Pl → List A → Heap → Prop
  | nil (M : Heap) : Lend M [] [] M
  | cons {M M1 : Heap} {id j : Nat} {p : List Nat} {t x : A} {L : List Pl} {xs : List A} : M id = some t → t.get p = some x → x.isHold = false → Lend (upd M id (some (t.put p (.gone x.val)))) L xs M1 → Lend M ((id, p, j) :: L) (x :: xs) M1
def backM : Heap → List Pl → List A → Heap
  | M, (id, p, _) :: L, y :: ys => backM (match M id with | some t => upd M id (some (t.put p y)) | none => M) L ys
  | M, _, _ => M
section
variable {S0 : Fr} {w0 w w' : World} {M M' M1 : Heap} {X : List A} {P : Program} {nt : Nat} {s : FS} {a : Act}
theorem lend_ok (hR : RelX S0 w0 nt s M X a w) {id : Nat} {p : List Nat} {t y : A} {root : D} (ht : M id = some t) (hg : t.get p = some y) (hr : s.h id = some root) (hh : y.isHold = false) :
    RelX S0 w0 nt (s.lend id p root) (upd M id (some (t.put p (.gone y.val)))) (X ++ [y]) a w := by
  have hroot : root = er t := by have := hR.er id; rw [hr, ht] at this; simpa using this
  subst hroot
  refine ⟨hR.inv.take ht hg hh, ?_, fun i => (hR.en i).poison (keeps_take ht) (fun j hj => keeps_upd hj), hR.nt, hR.df, fun i => (hR.gh i).poison (keeps_take ht) (fun j hj => keeps_upd hj)⟩
  have := er_upd (id := id) (t := some (t.put p (.gone y.val))) hR.er
  simp only [Option.map_some, er_put, er_gone] at this
  exact this
/-- What is in hand first is put back where it was taken. -/
theorem Inv.back {x : A} (h : Inv S0 w0 M (x :: X) w) {id : Nat} {t : A} {p : List Nat} {u : Value} (ht : M id = some t) (hg : t.get p = some (.gone u)) (hv : x.val = u) :
    Inv S0 w0 (upd M id (some (t.put p x))) X w := by
  obtain ⟨L, R, h1, h2⟩ := put_blocks x hg
  simp only [T.blocks, List.nil_append] at h1
  have hxo := h.xo x (by simp)
  have hxf : ∀ b' ∈ x.blocks, b' ∉ t.blocks := fun b' hb' hbt' => h.xd id t ht b' hbt' (by rw [List.flatMap_cons]; exact List.mem_append_left _ hb')
  have hXn := h.xn
  rw [List.flatMap_cons, List.nodup_append] at hXn
  have hsub : ∀ b ∈ (t.put p x).blocks, b ∈ t.blocks ∨ b ∈ x.blocks := fun b hb => by
    rw [h2] at hb; rw [h1]; simp only [List.mem_append] at hb ⊢; rcases hb with hb | hb | hb <;> simp [hb]
  have hlook : ∀ i u', upd M id (some (t.put p x)) i = some u' → (i = id ∧ u' = t.put p x) ∨ (i ≠ id ∧ M i = some u') := fun i u' hu => by
    by_cases hi : i = id
    · subst hi; rw [upd_same] at hu; exact .inl ⟨rfl, (Option.some.inj hu).symm⟩
    · rw [upd_ne _ _ _ _ hi] at hu; exact .inr ⟨hi, hu⟩
  refine ⟨?_, ?_, ?_, ?_, h.wd, fun y hy => h.xo y (List.mem_cons_of_mem _ hy), hXn.2.1, ?_, fun b hb => h.xb b (by rw [List.flatMap_cons]; exact List.mem_append_right _ hb)⟩
  · intro i u' hu
    rcases hlook i u' hu with ⟨rfl, rfl⟩ | ⟨_, hm⟩
    · exact (h.ok i t ht).put (h.nd i t ht) hg hxo.1 hv hxo.2 (fun _ _ _ => rfl)
    · exact h.ok i u' hm
  · intro i u' hu
    rcases hlook i u' hu with ⟨rfl, rfl⟩ | ⟨_, hm⟩
    · have hnd := h.nd i t ht
      rw [h1, List.nodup_append] at hnd
      rw [h2, List.nodup_append, List.nodup_append]
      refine ⟨hnd.1, ⟨hXn.1, hnd.2.1, fun b hb b' hb' e => hxf b hb (by rw [h1, e]; exact List.mem_append_right _ hb')⟩, fun b hb b' hb' e => ?_⟩
      rcases List.mem_append.1 hb' with hb' | hb'
      · exact hxf b' hb' (by rw [h1, ← e]; exact List.mem_append_left _ hb)
      · exact hnd.2.2 b hb b' hb' e
    · exact h.nd i u' hm
  · intro i j u' v hij hu hv' b hb
    rcases hlook i u' hu with ⟨rfl, rfl⟩ | ⟨hi, hm⟩
    · rcases hlook j v hv' with ⟨rfl, rfl⟩ | ⟨hj, hm'⟩
      · exact absurd rfl hij
      · rcases hsub b hb with hb | hb
        · exact h.dj i j t v hij ht hm' b hb
        · exact fun hb' => h.xd j v hm' b hb' (by rw [List.flatMap_cons]; exact List.mem_append_left _ hb)
    · rcases hlook j v hv' with ⟨rfl, rfl⟩ | ⟨hj, hm'⟩
      · intro hb'
        rcases hsub b hb' with hb' | hb'
        · exact h.dj i j u' t hij hm ht b hb hb'
        · exact h.xd i u' hm b hb (by rw [List.flatMap_cons]; exact List.mem_append_left _ hb')
      · exact h.dj i j u' v hij hm hm' b hb
  · intro i u' b hu hb
    rcases hlook i u' hu with ⟨rfl, rfl⟩ | ⟨_, hm⟩
    · rcases hsub b hb with hb | hb
      · exact h.bl i t b ht hb
      · exact h.xb b (by rw [List.flatMap_cons]; exact List.mem_append_left _ hb)
    · exact h.bl i u' b hm hb
  · intro i u' hu b hb hbX
    have hbX' : b ∈ (x :: X).flatMap T.blocks := by rw [List.flatMap_cons]; exact List.mem_append_right _ hbX
    rcases hlook i u' hu with ⟨rfl, rfl⟩ | ⟨_, hm⟩
    · rcases hsub b hb with hb | hb
      · exact h.xd i t ht b hb hbX'
      · exact hXn.2.2 b hb b hbX rfl
    · exact h.xd i u' hm b hb hbX'
theorem at_put_apart {id id' : Nat} {p p' : List Nat} {t x y : A} (ht : M id = some t) (hap : id = id' → ¬ p <+: p' ∧ ¬ p' <+: p) : at_ (upd M id (some (t.put p y))) id' p' x ↔ at_ M id' p' x := by
  unfold at_
  by_cases hi : id' = id
  · subst hi
    obtain ⟨h1, h2⟩ := hap rfl
    constructor
    · rintro ⟨t', ht', hx⟩
      rw [upd_same] at ht'
      obtain rfl := Option.some.inj ht'
      exact ⟨t, ht, by rw [← get_put_apart p p' t y h1 h2]; exact hx⟩
    · rintro ⟨t', ht', hx⟩
      rw [ht] at ht'
      obtain rfl := Option.some.inj ht'
      exact ⟨_, upd_same _ _ _, by rw [get_put_apart p p' t y h1 h2]; exact hx⟩
  · rw [upd_ne _ _ _ _ hi]
theorem at_put_same {id : Nat} {p : List Nat} {t x y : A} (ht : M id = some t) (hg : t.get p = some x) : at_ (upd M id (some (t.put p y))) id p y :=
  ⟨_, upd_same _ _ _, by have := get_put_same p [] t y (by rw [hg]; rfl); simpa [T.get] using this⟩
theorem Lend.len {L : List Pl} {xs : List A} (h : Lend M L xs M1) : xs.length = L.length := by
  induction h with
  | nil => rfl
  | cons _ _ _ _ ih => simp [ih]
/-- The places, before and after the taking; places elsewhere. -/
theorem Lend.far {L : List Pl} {xs : List A} (h : Lend M L xs M1) : ∀ {id' : Nat} {p' : List Nat} {x' : A}, (∀ l ∈ L, l.1 = id' → ¬ l.2.1 <+: p' ∧ ¬ p' <+: l.2.1) → (at_ M1 id' p' x' ↔ at_ M id' p' x') := by
  induction h with
  | nil => intro id' p' x' _; rfl
  | cons ht hg hh _ ih =>
    intro id' p' x' hl
    rw [ih fun l hl' => hl l (List.mem_cons_of_mem _ hl')]
    exact at_put_apart ht (hl _ List.mem_cons_self)
theorem Lend.places {L : List Pl} {xs : List A} (h : Lend M L xs M1) : L.Pairwise apartP → ∀ (k : Nat) (l : Pl) (x : A), L[k]? = some l → xs[k]? = some x → at_ M l.1 l.2.1 x ∧ at_ M1 l.1 l.2.1 (.gone x.val) ∧ x.isHold = false := by
  induction h with
  | nil => intro _ k l x hl; simp at hl
  | cons ht hg hh hL ih =>
    intro hap k l x hl hx
    rw [List.pairwise_cons] at hap
    cases k with
    | zero =>
      simp at hl hx
      subst hl; subst hx
      exact ⟨⟨_, ht, hg⟩, (hL.far fun l hl e => (hap.1 l hl e.symm).symm).2 (at_put_same ht hg), hh⟩
    | succ k =>
      obtain ⟨h1, h2, h3⟩ := ih hap.2 k l x (by simpa using hl) (by simpa using hx)
      exact ⟨(at_put_apart ht fun e => (hap.1 l (List.mem_of_getElem? (by simpa using hl)) e)).1 h1, h2, h3⟩
theorem Lend.inv {L : List Pl} {xs : List A} (h : Lend M L xs M1) : ∀ {X : List A}, Inv S0 w0 M X w → Inv S0 w0 M1 (X ++ xs) w := by
  induction h with
  | nil => intro X hI; simpa using hI
  | cons ht hg hh _ ih => intro X hI; have := ih (hI.take ht hg hh); simpa using this
theorem Keeps.trans {M2 : Heap} {i : Nat} {q : List Nat} (h1 : Keeps M M1 i q) (h2 : Keeps M1 M2 i q) : Keeps M M2 i q := fun x hx => by
  obtain ⟨cs, h⟩ := h1 x hx
  obtain ⟨cs', h'⟩ := h2 _ h
  exact ⟨cs', by cases x <;> exact h'⟩
theorem Lend.keeps {L : List Pl} {xs : List A} (h : Lend M L xs M1) {i : Nat} {q : List Nat} : (∀ l ∈ L, ¬ (i = l.1 ∧ l.2.1 <+: q)) → Keeps M M1 i q := by
  induction h with
  | nil => intro _; exact Keeps.refl i q
  | cons ht hg hh _ ih =>
    intro hl
    exact (keeps_take ht i q (hl _ List.mem_cons_self)).trans (ih fun l hl' => hl l (List.mem_cons_of_mem _ hl'))
theorem backM_far : ∀ {L : List Pl} {ys : List A} {M : Heap} {id' : Nat} {p' : List Nat} {x' : A}, (∀ l ∈ L, l.1 = id' → ¬ l.2.1 <+: p' ∧ ¬ p' <+: l.2.1) → (at_ (backM M L ys) id' p' x' ↔ at_ M id' p' x')
  | [], ys, M, id', p', x', _ => by cases ys <;> rfl
  | l :: L, [], M, id', p', x', _ => by obtain ⟨id, p, j⟩ := l; rfl
  | (id, p, j) :: L, y :: ys, M, id', p', x', hl => by
    rw [backM, backM_far fun l hl' => hl l (List.mem_cons_of_mem _ hl')]
    split
    · rename_i t ht
      exact at_put_apart ht (hl _ List.mem_cons_self)
    · rfl
theorem backM_keeps : ∀ {L : List Pl} {ys : List A} {M : Heap} {i : Nat} {q : List Nat}, (∀ l ∈ L, ¬ (i = l.1 ∧ l.2.1 <+: q)) → Keeps M (backM M L ys) i q
  | [], ys, M, i, q, _ => by cases ys <;> exact Keeps.refl i q
  | l :: L, [], M, i, q, _ => by obtain ⟨id, p, j⟩ := l; exact Keeps.refl i q
  | (id, p, j) :: L, y :: ys, M, i, q, hl => by
    rw [backM]
    refine Keeps.trans ?_ (backM_keeps fun l hl' => hl l (List.mem_cons_of_mem _ hl'))
    split
    · rename_i t ht
      exact keeps_take ht i q (hl _ List.mem_cons_self)
    · exact Keeps.refl i q
/-- All is put back. -/
theorem backM_inv : ∀ {L : List Pl} {ys : List A} {M : Heap} {X : List A}, L.Pairwise apartP → ys.length = L.length → (∀ (k : Nat) (l : Pl) (y : A), L[k]? = some l → ys[k]? = some y → at_ M l.1 l.2.1 (.gone y.val)) → Inv S0 w0 M (ys ++ X) w →
    Inv S0 w0 (backM M L ys) X w ∧ ∀ (k : Nat) (l : Pl) (y : A), L[k]? = some l → ys[k]? = some y → at_ (backM M L ys) l.1 l.2.1 y
  | [], [], M, X, _, _, _, hI => ⟨by simpa [backM] using hI, fun k l y hl => by simp at hl⟩
  | [], _ :: _, M, X, _, hl, _, _ => by simp at hl
  | _ :: _, [], M, X, _, hl, _, _ => by simp at hl
  | (id, p, j) :: L, y :: ys, M, X, hap, hlen, hat, hI => by
    rw [List.pairwise_cons] at hap
    obtain ⟨t, ht, hg⟩ := hat 0 _ y rfl rfl
    simp only at ht hg
    have hI1 := Inv.back (x := y) (X := ys ++ X) (by simpa using hI) ht hg rfl
    have hat1 : ∀ (k : Nat) (l : Pl) (y' : A), L[k]? = some l → ys[k]? = some y' → at_ (upd M id (some (t.put p y))) l.1 l.2.1 (.gone y'.val) := fun k l y' hl hy =>
      (at_put_apart ht fun e => (hap.1 l (List.mem_of_getElem? hl) e)).2 (hat (k + 1) l y' (by simpa using hl) (by simpa using hy))
    obtain ⟨g1, g2⟩ := backM_inv hap.2 (by simpa using hlen) hat1 hI1
    have he : backM M ((id, p, j) :: L) (y :: ys) = backM (upd M id (some (t.put p y))) L ys := by rw [backM, ht]
    rw [he]
    refine ⟨g1, fun k l y' hl hy => ?_⟩
    cases k with
    | zero =>
      simp at hl hy
      subst hl; subst hy
      exact (backM_far fun l hl e => (hap.1 l hl e.symm).symm).2 (at_put_same ht hg)
    | succ k => exact g2 k l y' (by simpa using hl) (by simpa using hy)
/-- The same header; or an empty row without room. -/
def SameHd (x y : A) : Prop := ∃ d sz n cs, x = .ow d sz n cs ∧ ((∃ cs', y = .ow d sz n cs') ∨ (n = 0 ∧ ∃ a, x.val = .slice a 0 0 ∧ y = .ow (.emp a) sz 0 []))
theorem SameHd.val {x y : A} (h : SameHd x y) : y.val = x.val := by
  obtain ⟨d, sz, n, cs, rfl, ⟨cs', rfl⟩ | ⟨rfl, a, h1, rfl⟩⟩ := h
  · cases d <;> rfl
  · rw [h1]; rfl
/-- What is no more referred to when a place has been lent. -/
def pzS (id : Nat) (p : List Nat) : DC → DC
  | .sl i q off n => if isAt id p i q && !(q == p) then .un else .sl i q off n
  | .pt i q off => if isAt id p i q then .un else .pt i q off
  | .fn f ids => if ids.contains id then .un else .fn f ids
  | c => c
def mapV (f : DC → DC) : DV → DV
  | .un => .un
  | .v (.one c) => .v (.one (f c))
  | .v (.agg cs) => .v (.agg (cs.map f))
  | .tup xs => .tup (xs.map fun x => match x with | .one c => .one (f c) | .agg cs => .agg (cs.map f))
theorem RelV.mapV {x : DV} {v : Value} {f : DC → DC} (h : RelV S0 w0 M x v) (hf : ∀ c v, RelC S0 w0 M c v → RelC S0 w0 M' (f c) v) : RelV S0 w0 M' (mapV f x) v := by
  have h1 : ∀ (x : V1) (v : Value), Rel1 S0 w0 M x v → Rel1 S0 w0 M' (match x with | .one c => .one (f c) | .agg cs => .agg (cs.map f)) v := fun x v h => by
    have := Rel1.map (M' := M') h hf
    cases x <;> exact this
  cases x with
  | un => trivial
  | v x => cases x with
    | one c => exact h1 (.one c) v h
    | agg cs => exact h1 (.agg cs) v h
  | tup xs =>
    obtain ⟨vs, rfl, hl, h2⟩ := h
    refine ⟨vs, rfl, by simpa using hl, fun i y u hy hu => ?_⟩
    rw [List.getElem?_map, Option.map_eq_some_iff] at hy
    obtain ⟨y', hy', rfl⟩ := hy
    exact h1 y' u (h2 i y' u hy' hu)
def pzsC (L : List Pl) (c : DC) : DC := L.foldl (fun c l => pzS l.1 l.2.1 c) c
theorem pzS_or (id : Nat) (p : List Nat) (c : DC) : pzS id p c = .un ∨ pzS id p c = c := by
  cases c <;> first | exact .inr rfl | (simp only [pzS]; split <;> first | exact .inl rfl | exact .inr rfl)
theorem pzsC_un : ∀ L : List Pl, pzsC L .un = .un
  | [] => rfl
  | l :: L => pzsC_un L
theorem pzsC_or : ∀ (L : List Pl) (c : DC), pzsC L c = .un ∨ (pzsC L c = c ∧ ∀ l ∈ L, pzS l.1 l.2.1 c = c)
  | [], c => .inr ⟨rfl, by simp⟩
  | l :: L, c => by
    have e : pzsC (l :: L) c = pzsC L (pzS l.1 l.2.1 c) := rfl
    rw [e]
    rcases pzS_or l.1 l.2.1 c with h | h
    · rw [h]; exact .inl (pzsC_un L)
    · rw [h]
      rcases pzsC_or L c with h' | ⟨h1, h2⟩
      · exact .inl h'
      · refine .inr ⟨h1, fun l' hl' => ?_⟩
        rcases List.mem_cons.1 hl' with rfl | hl'
        · exact h
        · exact h2 l' hl'
/-- Behind places that came back: what refers to them or elsewhere holds. -/
theorem RelC.lent {L : List Pl} {c : DC} {v : Value} (h : RelC S0 w0 M c v) (hk : ∀ i q, (∀ l ∈ L, ¬ (i = l.1 ∧ l.2.1 <+: q)) → Keeps M M' i q) (hs : ∀ l ∈ L, ∀ x, at_ M l.1 l.2.1 x → ∃ y, SameHd x y ∧ at_ M' l.1 l.2.1 y) : RelC S0 w0 M' (pzsC L c) v := by
  rcases pzsC_or L c with he | ⟨he, hall⟩
  · rw [he]; exact .un _
  rw [he]
  have hfar : ∀ {i : Nat} {q : List Nat}, (∀ l ∈ L, ¬ isAt l.1 l.2.1 i q = true) → Keeps M M' i q := fun {i q} hn => hk i q fun l hl ⟨h1, h2⟩ => hn l hl (by simp [isAt, h1, h2])
  have hex : ∀ (i : Nat) (q : List Nat), (∃ l ∈ L, isAt l.1 l.2.1 i q = true) ∨ (∀ l ∈ L, ¬ isAt l.1 l.2.1 i q = true) := fun i q => by
    by_cases hh : ∃ l ∈ L, isAt l.1 l.2.1 i q = true
    · exact .inl hh
    · exact .inr fun l hl h => hh ⟨l, hl, h⟩
  cases h with
  | un v => exact .un v
  | t r v h => exact .t r v h
  | nl a => exact .nl a
  | rp cs a h => exact .rp cs a h
  | fn f ids ps hl hp =>
    refine (RelC.fn f ids ps hl hp).keep fun r hr => ?_
    simp only [refsC, List.mem_map] at hr
    obtain ⟨i, hi, rfl⟩ := hr
    refine hk i [] fun l hl' ⟨e, _⟩ => ?_
    have := hall l hl'
    simp only [pzS] at this
    rw [if_pos (by rw [← e]; simpa using hi)] at this
    cases this
  | pt i q off b o c' sz m cs hat =>
    rcases hex i q with ⟨l, hl, h1⟩ | h1
    · have := hall l hl
      simp only [pzS, h1, if_true] at this
      cases this
    · exact (RelC.pt i q off b o c' sz m cs hat).keep fun r hr => by simp [refsC] at hr; subst hr; exact hfar h1
  | sl i q k n b o c' sz m cs hat hle =>
    rcases hex i q with ⟨l, hl, h1⟩ | h1
    · have hq' : q = l.2.1 := by
        have h2 := hall l hl
        simp only [pzS, h1, Bool.true_and] at h2
        by_cases e : q = l.2.1
        · exact e
        · have hb : (!q == l.2.1) = true := by simpa using e
          rw [if_pos hb] at h2
          cases h2
      have hi : i = l.1 := by simp [isAt] at h1; exact h1.1
      subst hi
      rw [hq'] at hat
      obtain ⟨y, ⟨d, sz', n', cs', he, hy⟩, hat'⟩ := hs l hl _ hat
      simp only [T.ow.injEq] at he
      obtain ⟨rfl, rfl, rfl, rfl⟩ := he
      rw [hq']
      rcases hy with ⟨cs2, rfl⟩ | ⟨rfl, a, hva, rfl⟩
      · exact .sl l.1 l.2.1 k n b o c' sz m cs2 hat' hle
      · have hk0 : k = 0 := by omega
        have hn0 : n = 0 := by omega
        subst hk0; subst hn0
        simp only [T.val, Value.slice.injEq] at hva
        obtain ⟨_, _, rfl⟩ := hva
        exact .se l.1 l.2.1 _ _ _ sz 0 [] hat'
    · exact (RelC.sl i q k n b o c' sz m cs hat hle).keep fun r hr => by simp [refsC] at hr; subst hr; exact hfar h1
  | se i q off a d sz m cs hat =>
    rcases hex i q with ⟨l, hl, h1⟩ | h1
    · have hq' : q = l.2.1 := by
        have h2 := hall l hl
        simp only [pzS, h1, Bool.true_and] at h2
        by_cases e : q = l.2.1
        · exact e
        · have hb : (!q == l.2.1) = true := by simpa using e
          rw [if_pos hb] at h2
          cases h2
      have hi : i = l.1 := by simp [isAt] at h1; exact h1.1
      subst hi
      rw [hq'] at hat
      obtain ⟨y, ⟨d', sz', n', cs', he, hy⟩, hat'⟩ := hs l hl _ hat
      rw [hq']
      rcases hy with ⟨cs2, rfl⟩ | ⟨_, a', _, rfl⟩
      · exact .se l.1 l.2.1 off a _ _ _ _ hat'
      · exact .se l.1 l.2.1 off a _ _ _ _ hat'
    · exact (RelC.se i q off a d sz m cs hat).keep fun r hr => by simp [refsC] at hr; subst hr; exact hfar h1
end
end Go.Proofs.Ytjjdjkkhhcbogaa.DM
