/-
  DM 3. The moves that keep what is held: a part taken out, a part laid into a cell, a new row, an entry dropped.
-/
import Derived.Test.YtjjdjkkhhcbogaaD2
namespace Go.Proofs.Ytjjdjkkhhcbogaa.DM
set_option linter.unusedVariables false
set_option linter.unusedSimpArgs false
section
variable {S0 : Fr} {w0 w w' : World} {M M' : Heap} {X : List A}
/-- A part is taken into hand. -/
theorem Inv.take (h : Inv S0 w0 M X w) {id : Nat} {t x : A} {p : List Nat} (ht : M id = some t) (hx : t.get p = some x) (hh : x.isHold = false) :
    Inv S0 w0 (upd M id (some (t.put p (.gone x.val)))) (X ++ [x]) w := by
  obtain ⟨L, R, h1, h2⟩ := put_blocks (.gone x.val) hx
  simp only [T.blocks, List.nil_append] at h2
  have hnd := h.nd id t ht
  rw [h1] at hnd
  have hsub : ∀ b ∈ (t.put p (.gone x.val)).blocks, b ∈ t.blocks := fun b hb => by rw [h2] at hb; rw [h1]; simp only [List.mem_append] at hb ⊢; rcases hb with hb | hb <;> simp [hb]
  have hxs : ∀ b ∈ x.blocks, b ∈ t.blocks := fun b hb => by rw [h1]; simp [hb]
  have hxd : ∀ b ∈ x.blocks, b ∉ (t.put p (.gone x.val)).blocks := fun b hb hb' => by
    rw [h2] at hb'
    rw [List.nodup_append] at hnd
    rcases List.mem_append.1 hb' with hl | hr
    · exact hnd.2.2 b hl b (List.mem_append_left _ hb) rfl
    · exact (List.nodup_append.1 hnd.2.1).2.2 b hb b hr rfl
  have hlook : ∀ i u, upd M id (some (t.put p (.gone x.val))) i = some u → (i = id ∧ u = t.put p (.gone x.val)) ∨ (i ≠ id ∧ M i = some u) := fun i u hu => by
    by_cases hi : i = id
    · subst hi; rw [upd_same] at hu; exact .inl ⟨rfl, (Option.some.inj hu).symm⟩
    · rw [upd_ne _ _ _ _ hi] at hu; exact .inr ⟨hi, hu⟩
  refine ⟨?_, ?_, ?_, ?_, h.wd, ?_, ?_, ?_, ?_⟩
  · intro i u hu
    rcases hlook i u hu with ⟨rfl, rfl⟩ | ⟨_, hm⟩
    · exact (h.ok i t ht).put (h.nd i t ht) hx (.gone _ (((h.ok i t ht).get hx).one hh)) rfl (by rw [hh]; rfl) (fun _ _ _ => rfl)
    · exact h.ok i u hm
  · intro i u hu
    rcases hlook i u hu with ⟨rfl, rfl⟩ | ⟨_, hm⟩
    · rw [h2]
      rw [List.nodup_append] at hnd ⊢
      exact ⟨hnd.1, (List.nodup_append.1 hnd.2.1).2.1, fun a ha b hb => hnd.2.2 a ha b (List.mem_append_right _ hb)⟩
    · exact h.nd i u hm
  · intro i j u v hij hu hv b hb
    rcases hlook i u hu with ⟨rfl, rfl⟩ | ⟨hi, hm⟩
    · rcases hlook j v hv with ⟨rfl, rfl⟩ | ⟨hj, hm'⟩
      · exact absurd rfl hij
      · exact h.dj i j t v hij ht hm' b (hsub b hb)
    · rcases hlook j v hv with ⟨rfl, rfl⟩ | ⟨hj, hm'⟩
      · exact fun hb' => h.dj i j u t hij hm ht b hb (hsub b hb')
      · exact h.dj i j u v hij hm hm' b hb
  · intro i u b hu hb
    rcases hlook i u hu with ⟨rfl, rfl⟩ | ⟨_, hm⟩
    · exact h.bl i t b ht (hsub b hb)
    · exact h.bl i u b hm hb
  · intro y hy
    rcases List.mem_append.1 hy with hy | hy
    · exact h.xo y hy
    · simp at hy; subst hy; exact ⟨(h.ok id t ht).get hx, hh⟩
  · rw [List.flatMap_append, List.nodup_append]
    refine ⟨h.xn, by simpa using nodup_get (h.nd id t ht) hx, fun a ha b hb hab => ?_⟩
    subst hab
    exact h.xd id t ht a (hxs a (by simpa using hb)) ha
  · intro i u hu b hb
    rw [List.flatMap_append, List.mem_append]
    rintro (hb' | hb')
    · rcases hlook i u hu with ⟨rfl, rfl⟩ | ⟨_, hm⟩
      · exact h.xd i t ht b (hsub b hb) hb'
      · exact h.xd i u hm b hb hb'
    · have hbx : b ∈ x.blocks := by simpa using hb'
      rcases hlook i u hu with ⟨rfl, rfl⟩ | ⟨hi, hm⟩
      · exact hxd b hbx hb
      · exact h.dj i id u t hi hm ht b hb (hxs b hbx)
  · intro b hb
    rw [List.flatMap_append, List.mem_append] at hb
    rcases hb with hb | hb
    · exact h.xb b hb
    · exact h.bl id t b ht (hxs b (by simpa using hb))
theorem Inv.drop (h : Inv S0 w0 M X w) (id : Nat) : Inv S0 w0 (upd M id none) X w := by
  have hlook : ∀ i u, upd M id none i = some u → M i = some u := fun i u hu => by
    by_cases hi : i = id
    · subst hi; rw [upd_same] at hu; cases hu
    · rwa [upd_ne _ _ _ _ hi] at hu
  exact ⟨fun i u hu => h.ok i u (hlook i u hu), fun i u hu => h.nd i u (hlook i u hu), fun i j u v hij hu hv => h.dj i j u v hij (hlook i u hu) (hlook j v hv),
    fun i u b hu => h.bl i u b (hlook i u hu), h.wd, h.xo, h.xn, fun i u hu => h.xd i u (hlook i u hu), h.xb⟩
/-- What owns no block comes to hand. -/
theorem Inv.hand (h : Inv S0 w0 M X w) {x : A} (hx : Ok S0 w0 w x) (hh : x.isHold = false) (hb : x.blocks = []) : Inv S0 w0 M (X ++ [x]) w := by
  refine ⟨h.ok, h.nd, h.dj, h.bl, h.wd, ?_, ?_, ?_, ?_⟩
  · intro y hy
    rcases List.mem_append.1 hy with hy | hy
    · exact h.xo y hy
    · simp at hy; subst hy; exact ⟨hx, hh⟩
  · simp [List.flatMap_append, hb]; simpa using h.xn
  · intro i u hu b hbu; simp [List.flatMap_append, hb]; simpa using h.xd i u hu b hbu
  · intro b hb'; rw [List.flatMap_append] at hb'; simp [hb] at hb'; exact h.xb b (by simpa using hb')
/-- What is in hand is laid as an entry that is no row of memory. -/
theorem Inv.lay (h : Inv S0 w0 M X w) {id : Nat} (hid : M id = none) : Inv S0 w0 (upd M id (some (.hold X))) [] w := by
  have hlook : ∀ i u, upd M id (some (.hold X)) i = some u → (i = id ∧ u = .hold X) ∨ (i ≠ id ∧ M i = some u) := fun i u hu => by
    by_cases hi : i = id
    · subst hi; rw [upd_same] at hu; exact .inl ⟨rfl, (Option.some.inj hu).symm⟩
    · rw [upd_ne _ _ _ _ hi] at hu; exact .inr ⟨hi, hu⟩
  have hb : (T.hold X : A).blocks = X.flatMap T.blocks := by simp [T.blocks, T.blocksL_eq]
  refine ⟨?_, ?_, ?_, ?_, h.wd, by simp, by simp, by simp, by simp⟩
  · intro i u hu
    rcases hlook i u hu with ⟨rfl, rfl⟩ | ⟨_, hm⟩
    · exact .hold X (fun x hx => (h.xo x hx).1) (fun x hx => (h.xo x hx).2)
    · exact h.ok i u hm
  · intro i u hu
    rcases hlook i u hu with ⟨rfl, rfl⟩ | ⟨_, hm⟩
    · rw [hb]; exact h.xn
    · exact h.nd i u hm
  · intro i j u v hij hu hv b hbu hbv
    rcases hlook i u hu with ⟨rfl, rfl⟩ | ⟨hi, hm⟩
    · rcases hlook j v hv with ⟨rfl, rfl⟩ | ⟨hj, hm'⟩
      · exact absurd rfl hij
      · rw [hb] at hbu; exact h.xd j v hm' b hbv hbu
    · rcases hlook j v hv with ⟨rfl, rfl⟩ | ⟨hj, hm'⟩
      · rw [hb] at hbv; exact h.xd i u hm b hbu hbv
      · exact h.dj i j u v hij hm hm' b hbu hbv
  · intro i u b hu hbu
    rcases hlook i u hu with ⟨rfl, rfl⟩ | ⟨_, hm⟩
    · rw [hb] at hbu; exact h.xb b hbu
    · exact h.bl i u b hm hbu
/-- An entry's cells come to hand. -/
theorem Inv.unlay (h : Inv S0 w0 M [] w) {id : Nat} (hid : M id = some (.hold X)) : Inv S0 w0 (upd M id none) X w := by
  have hlook : ∀ i u, upd M id none i = some u → i ≠ id ∧ M i = some u := fun i u hu => by
    by_cases hi : i = id
    · subst hi; rw [upd_same] at hu; cases hu
    · rw [upd_ne _ _ _ _ hi] at hu; exact ⟨hi, hu⟩
  have hb : (T.hold X : A).blocks = X.flatMap T.blocks := by simp [T.blocks, T.blocksL_eq]
  have hok := h.ok id _ hid
  refine ⟨fun i u hu => h.ok i u (hlook i u hu).2, fun i u hu => h.nd i u (hlook i u hu).2, fun i j u v hij hu hv => h.dj i j u v hij (hlook i u hu).2 (hlook j v hv).2,
    fun i u b hu => h.bl i u b (hlook i u hu).2, h.wd, fun x hx => ⟨hok.cell (by simpa [T.cells] using hx), hok.notHold (by simpa [T.cells] using hx)⟩, ?_, ?_, ?_⟩
  · rw [← hb]; exact h.nd id _ hid
  · intro i u hu b hbu; rw [← hb]; exact h.dj i id u _ (hlook i u hu).1 (hlook i u hu).2 hid b hbu
  · intro b hbx; rw [← hb] at hbx; exact h.bl id _ b hid hbx
theorem Wd.world (h : Wd S0 w0 w) (hk : ∀ k, k < w.heap.size → w'.heap[k]? = w.heap[k]?) (hz : w.heap.size ≤ w'.heap.size) (ho : w'.os = w.os ∧ w'.output = w.output ∧ w'.tape = w.tape := by exact ⟨rfl, rfl, rfl⟩) : Wd S0 w0 w' := by
  refine ⟨fun k hk' => ?_, h.s0, by have := h.sz; omega, h.rk, fun b j hb => ?_, ho.1.trans h.oo.1, ho.2.1.trans h.oo.2.1, ho.2.2.trans h.oo.2.2⟩
  · rw [hk k (by have := h.s0 k hk'; have := h.sz; omega)]
    exact h.fr k hk'
  · obtain ⟨h1, h2⟩ := h.fx b j hb
    refine ⟨h1, ?_⟩
    rw [← h2]
    simp only [World.cell?, hk b (by have := h.sz; omega)]
/-- The world grows, or changes in blocks that nobody holds. -/
theorem Inv.world (h : Inv S0 w0 M X w) (hk : ∀ k, k < w.heap.size → w'.heap[k]? = w.heap[k]?) (hz : w.heap.size ≤ w'.heap.size) (ho : w'.os = w.os ∧ w'.output = w.output ∧ w'.tape = w.tape := by exact ⟨rfl, rfl, rfl⟩) : Inv S0 w0 M X w' := by
  refine ⟨fun i u hu => (h.ok i u hu).frame fun b hb => hk b (h.bl i u b hu hb).1, h.nd, h.dj, fun i u b hu hb => ⟨by have := (h.bl i u b hu hb).1; omega, (h.bl i u b hu hb).2⟩, h.wd.world hk hz ho,
    fun x hx => ⟨(h.xo x hx).1.frame fun b hb => hk b (h.xb b (List.mem_flatMap.2 ⟨x, hx, hb⟩)).1, (h.xo x hx).2⟩, h.xn, h.xd, fun b hb => ⟨by have := (h.xb b hb).1; omega, (h.xb b hb).2⟩⟩
/-- What is in hand is laid as a new row, behind all blocks there are. -/
theorem Inv.new (h : Inv S0 w0 M X w) {id : Nat} (hid : M id = none) {sz n c : Nat} {ty : TypeId} {cur : Array Value} {fz : Nat × Nat} (hw : w'.heap = w.heap.push (.cells cur ty fz)) (hfz : ∀ i, i < fzTo sz cur.size → ¬ (fz.1 ≤ i ∧ i < fz.2))
    (hc : c * sz ≤ cur.size) (hs0 : 0 < sz) (hn : n ≤ c) (hm : c ≤ maxLen) (hl : X.length = n * sz) (hcur : ∀ (i : Nat) (x : A), X[i]? = some x → cur[i]? = some x.val) (ho : w'.os = w.os ∧ w'.output = w.output ∧ w'.tape = w.tape := by exact ⟨rfl, rfl, rfl⟩) :
    Inv S0 w0 (upd M id (some (.ow (.blk w.heap.size 0 c) sz n X))) [] w' := by
  have hz : w'.heap.size = w.heap.size + 1 := by rw [hw]; simp
  have hk : ∀ k, k < w.heap.size → w'.heap[k]? = w.heap[k]? := fun k hk => by rw [hw, Array.getElem?_push_lt hk, Array.getElem?_eq_getElem hk]
  have h' := h.world hk (by omega) ho
  have hnew : w'.heap[w.heap.size]? = some (.cells cur ty fz) := by rw [hw]; simp
  have hb : (T.ow (.blk w.heap.size 0 c) sz n X : A).blocks = w.heap.size :: X.flatMap T.blocks := by simp [T.blocks, T.blocksL_eq]
  have hlook : ∀ i u, upd M id (some (.ow (.blk w.heap.size 0 c) sz n X)) i = some u → (i = id ∧ u = .ow (.blk w.heap.size 0 c) sz n X) ∨ (i ≠ id ∧ M i = some u) := fun i u hu => by
    by_cases hi : i = id
    · subst hi; rw [upd_same] at hu; exact .inl ⟨rfl, (Option.some.inj hu).symm⟩
    · rw [upd_ne _ _ _ _ hi] at hu; exact .inr ⟨hi, hu⟩
  refine ⟨?_, ?_, ?_, ?_, h'.wd, by simp, by simp, by simp, by simp⟩
  · intro i u hu
    rcases hlook i u hu with ⟨rfl, rfl⟩ | ⟨_, hm'⟩
    · exact .ow _ _ _ _ _ _ cur ty fz hnew hfz ⟨by omega, hs0, fun j _ hfx => by have := (h.wd.fx _ _ hfx).1; have := h.wd.sz; omega⟩ hn hm hl (fun j x hj => by rw [Nat.zero_add]; exact hcur j x hj) (fun x hx => (h'.xo x hx).1) (fun x hx => (h'.xo x hx).2)
    · exact h'.ok i u hm'
  · intro i u hu
    rcases hlook i u hu with ⟨rfl, rfl⟩ | ⟨_, hm'⟩
    · rw [hb, List.nodup_cons]
      exact ⟨fun hb' => absurd (h.xb _ hb').1 (by omega), h.xn⟩
    · exact h.nd i u hm'
  · intro i j u v hij hu hv b hbu hbv
    rcases hlook i u hu with ⟨rfl, rfl⟩ | ⟨hi, hm1⟩
    · rcases hlook j v hv with ⟨rfl, rfl⟩ | ⟨hj, hm2⟩
      · exact absurd rfl hij
      · rw [hb] at hbu
        rcases List.mem_cons.1 hbu with rfl | hbu
        · exact absurd (h.bl j v _ hm2 hbv).1 (by omega)
        · exact h.xd j v hm2 b hbv hbu
    · rcases hlook j v hv with ⟨rfl, rfl⟩ | ⟨hj, hm2⟩
      · rw [hb] at hbv
        rcases List.mem_cons.1 hbv with rfl | hbv
        · exact absurd (h.bl i u _ hm1 hbu).1 (by omega)
        · exact h.xd i u hm1 b hbu hbv
      · exact h.dj i j u v hij hm1 hm2 b hbu hbv
  · intro i u b hu hbu
    rcases hlook i u hu with ⟨rfl, rfl⟩ | ⟨hi, hm1⟩
    · rw [hb] at hbu
      rcases List.mem_cons.1 hbu with rfl | hbu
      · exact ⟨by omega, fun hs => by have := h.wd.s0 _ hs; have := h.wd.sz; omega⟩
      · exact ⟨by have := (h.xb b hbu).1; omega, (h.xb b hbu).2⟩
    · exact h'.bl i u b hm1 hbu
/-- What is in hand first is laid into a cell of a row. -/
theorem Inv.store {x : A} (h : Inv S0 w0 M (x :: X) w) {id : Nat} {t : A} {p : List Nat} {b o c sz n off : Nat} {cs : List A} (ht : M id = some t) (hg : t.get p = some (.ow (.blk b o c) sz n cs)) (ho : off < cs.length) :
    Inv S0 w0 (upd M id (some (t.put p (.ow (.blk b o c) sz n (cs.set off x))))) X (w.setCell ⟨b, o + off, none⟩ x.val) ∧ (w.cell? ⟨b, o + off, none⟩).isSome = true ∧ w.frozen? ⟨b, o + off, none⟩ = false := by
  have hokN := (h.ok id t ht).get hg
  have hbt : b ∈ t.blocks := get_own_mem hg (by simp [T.own])
  obtain ⟨hbs, hbS⟩ := h.bl id t b ht hbt
  obtain ⟨L, R, h1, h2⟩ := put_blocks (.ow (.blk b o c) sz n (cs.set off x)) hg
  have hxf : ∀ b' ∈ x.blocks, b' ∉ t.blocks := fun b' hb' hbt' => h.xd id t ht b' hbt' (by rw [List.flatMap_cons]; exact List.mem_append_left _ hb')
  have hXn := h.xn
  rw [List.flatMap_cons, List.nodup_append] at hXn
  have hcs : (T.ow (.blk b o c) sz n cs : A).blocks = b :: cs.flatMap T.blocks := by simp [T.blocks, T.blocksL_eq]
  have hcs' : (T.ow (.blk b o c) sz n (cs.set off x) : A).blocks = b :: ((cs.take off).flatMap T.blocks ++ (x.blocks ++ (cs.drop (off + 1)).flatMap T.blocks)) := by
    simp [T.blocks, T.blocksL_eq, List.set_eq_take_append_cons_drop, if_pos ho, List.flatMap_append]
  have hsplit : cs.flatMap T.blocks = (cs.take off).flatMap T.blocks ++ ((cs[off]).blocks ++ (cs.drop (off + 1)).flatMap T.blocks) := by
    conv => lhs; rw [← List.take_append_drop off cs, ← List.getElem_cons_drop ho]
    rw [List.flatMap_append, List.flatMap_cons]
  have hne : ∀ k, k ≠ b → (w.setCell ⟨b, o + off, none⟩ x.val).heap[k]? = w.heap[k]? := fun k hk => by
    simp only [World.setCell, Array.getElem?_modify]
    rw [if_neg (fun e => hk e.symm)]
  have hnewsub : ∀ b' ∈ (t.put p (.ow (.blk b o c) sz n (cs.set off x))).blocks, b' ∈ t.blocks ∨ b' ∈ x.blocks := fun b' hb' => by
    rw [h2, hcs'] at hb'
    rw [h1, hcs, hsplit]
    simp only [List.mem_append, List.mem_cons] at hb' ⊢
    rcases hb' with hb' | (hb' | hb' | hb' | hb') | hb' <;> simp [hb']
  have hszs : (w.setCell ⟨b, o + off, none⟩ x.val).heap.size = w.heap.size := by simp [World.setCell]
  have hlook : ∀ i u, upd M id (some (t.put p (.ow (.blk b o c) sz n (cs.set off x)))) i = some u → (i = id ∧ u = t.put p (.ow (.blk b o c) sz n (cs.set off x))) ∨ (i ≠ id ∧ M i = some u) := fun i u hu => by
    by_cases hi : i = id
    · subst hi; rw [upd_same] at hu; exact .inl ⟨rfl, (Option.some.inj hu).symm⟩
    · rw [upd_ne _ _ _ _ hi] at hu; exact .inr ⟨hi, hu⟩
  have hxnotb : b ∉ x.blocks := fun hb' => hxf b hb' hbt
  cases hokN with
  | ow _ _ _ _ _ _ cur ty fz k1 k2 k3 k4 k5 k6 k7 k8 k9 =>
    have hoc : o + off < cur.size := by
      have := (Array.getElem?_eq_some_iff.1 (k7 off _ (List.getElem?_eq_getElem ho))).1
      exact this
    have hcell : (w.cell? ⟨b, o + off, none⟩).isSome = true := by
      simp only [World.cell?, k1]
      simp [Array.getElem?_eq_getElem hoc]
    have hfroz : w.frozen? ⟨b, o + off, none⟩ = false := by
      simp only [World.frozen?, k1]
      have := k2 (o + off) (lt_fzTo hoc)
      simp only [Bool.and_eq_false_iff, decide_eq_false_iff_not]
      by_cases hh : fz.1 ≤ o + off
      · right; exact fun h' => this ⟨hh, h'⟩
      · left; exact hh
    have hblk : (w.setCell ⟨b, o + off, none⟩ x.val).heap[b]? = some (.cells (cur.setIfInBounds (o + off) x.val) ty fz) := by
      simp only [World.setCell, Array.getElem?_modify, if_pos rfl, k1, Option.map_some]
      simp
    have hxo := h.xo x (by simp)
    have hokx : Ok S0 w0 (w.setCell ⟨b, o + off, none⟩ x.val) x := hxo.1.frame fun b' hb' => hne b' (fun e => hxnotb (e ▸ hb'))
    have hchild : ∀ j y, cs[j]? = some y → Ok S0 w0 (w.setCell ⟨b, o + off, none⟩ x.val) y := fun j y hj => by
      refine (k8 y (List.mem_of_getElem? hj)).frame fun b' hb' => hne b' ?_
      intro e
      subst e
      have hnd := nodup_get (h.nd id t ht) hg
      rw [hcs, List.nodup_cons] at hnd
      exact hnd.1 (List.mem_flatMap.2 ⟨y, List.mem_of_getElem? hj, hb'⟩)
    have hoff : cs[off]? = some cs[off] := List.getElem?_eq_getElem ho
    have hokN' : Ok S0 w0 (w.setCell ⟨b, o + off, none⟩ x.val) (.ow (.blk b o c) sz n (cs.set off x)) := by
      refine .ow b o c sz n _ _ ty fz hblk (by simpa using k2) (by simpa using k3) k4 k5 (by rw [List.length_set]; exact k6) (fun j y hj => ?_) (fun y hy => ?_) (fun y hy => ?_)
      · by_cases hjo : j = off
        · subst hjo
          rw [List.getElem?_set_self ho] at hj
          rw [← Option.some.inj hj, Array.getElem?_setIfInBounds_self_of_lt hoc]
        · rw [List.getElem?_set_ne (by omega)] at hj
          rw [Array.getElem?_setIfInBounds_ne (by omega)]
          exact k7 j y hj
      · rcases set_ok (y := x) hoff y hy with rfl | ⟨j, _, hj⟩
        · exact hokx
        · exact hchild j y hj
      · rcases set_ok (y := x) hoff y hy with rfl | ⟨j, _, hj⟩
        · exact hxo.2
        · exact k9 y (List.mem_of_getElem? hj)
    refine ⟨⟨?_, ?_, ?_, ?_, ⟨?_, h.wd.s0, by rw [hszs]; exact h.wd.sz, h.wd.rk, ?_, h.wd.oo⟩, ?_, hXn.2.1, ?_, ?_⟩, hcell, hfroz⟩
    · intro i u hu
      rcases hlook i u hu with ⟨rfl, rfl⟩ | ⟨hi, hm⟩
      · refine (h.ok i t ht).put (h.nd i t ht) hg hokN' rfl rfl (fun b' hb' hnb => hne b' (fun e => hnb ?_))
        subst e
        rw [hcs]; exact List.mem_cons_self
      · exact (h.ok i u hm).frame fun b' hb' => hne b' (fun e => h.dj i id u t hi hm ht b' hb' (e ▸ hbt))
    · intro i u hu
      rcases hlook i u hu with ⟨rfl, rfl⟩ | ⟨hi, hm⟩
      · have hn := h.nd i t ht
        rw [h1, hcs, hsplit] at hn
        rw [h2, hcs']
        have hxn := hXn.1
        have hd : ∀ b' ∈ x.blocks, b' ∉ L ++ ((b :: ((cs.take off).flatMap T.blocks ++ ((cs[off]).blocks ++ (cs.drop (off + 1)).flatMap T.blocks))) ++ R) := fun b' hb' => by
          have := hxf b' hb'
          rwa [h1, hcs, hsplit] at this
        simp only [List.nodup_append, List.nodup_cons, List.mem_append, List.mem_cons, not_or, ne_eq] at hn hd ⊢
        refine ⟨hn.1, ⟨⟨⟨?_, ?_, ?_⟩, hn.2.1.1.2.1, ⟨hxn, hn.2.1.1.2.2.1.2.1, ?_⟩, ?_⟩, hn.2.1.2.1, ?_⟩, ?_⟩
        · exact hn.2.1.1.1.1
        · exact hxnotb
        · exact hn.2.1.1.1.2.2
        · intro a ha b' hb' e; subst e; exact (hd a ha).2.1.2.2.2 hb'
        · intro a ha b' hb' e
          subst e
          rcases hb' with hb' | hb'
          · exact (hd a hb').2.1.2.1 ha
          · exact hn.2.1.1.2.2.2 a ha a (.inr hb') rfl
        · intro a ha b' hb' e
          subst e
          rcases ha with rfl | ha | ha | ha
          · exact hn.2.1.2.2 a (.inl rfl) a hb' rfl
          · exact hn.2.1.2.2 a (.inr (.inl ha)) a hb' rfl
          · exact (hd a ha).2.2 hb'
          · exact hn.2.1.2.2 a (.inr (.inr (.inr ha))) a hb' rfl
        · intro a ha b' hb' e
          subst e
          rcases hb' with (rfl | hb' | hb' | hb') | hb'
          · exact hn.2.2 a ha a (.inl (.inl rfl)) rfl
          · exact hn.2.2 a ha a (.inl (.inr (.inl hb'))) rfl
          · exact (hd a hb').1 ha
          · exact hn.2.2 a ha a (.inl (.inr (.inr (.inr hb')))) rfl
          · exact hn.2.2 a ha a (.inr hb') rfl
      · exact h.nd i u hm
    · intro i j u v hij hu hv b' hbu hbv
      rcases hlook i u hu with ⟨rfl, rfl⟩ | ⟨hi, hm1⟩
      · rcases hlook j v hv with ⟨rfl, rfl⟩ | ⟨hj, hm2⟩
        · exact absurd rfl hij
        · rcases hnewsub b' hbu with hb' | hb'
          · exact h.dj i j t v hij ht hm2 b' hb' hbv
          · exact h.xd j v hm2 b' hbv (by rw [List.flatMap_cons]; exact List.mem_append_left _ hb')
      · rcases hlook j v hv with ⟨rfl, rfl⟩ | ⟨hj, hm2⟩
        · rcases hnewsub b' hbv with hb' | hb'
          · exact h.dj i j u t hij hm1 ht b' hbu hb'
          · exact h.xd i u hm1 b' hbu (by rw [List.flatMap_cons]; exact List.mem_append_left _ hb')
        · exact h.dj i j u v hij hm1 hm2 b' hbu hbv
    · intro i u b' hu hbu
      rw [hszs]
      rcases hlook i u hu with ⟨rfl, rfl⟩ | ⟨hi, hm1⟩
      · rcases hnewsub b' hbu with hb' | hb'
        · exact h.bl i t b' ht hb'
        · exact h.xb b' (by rw [List.flatMap_cons]; exact List.mem_append_left _ hb')
      · exact h.bl i u b' hm1 hbu
    · intro k hk
      rw [hne k (fun e => hbS (e ▸ hk))]
      exact h.wd.fr k hk
    · intro b' j hfx
      obtain ⟨h1_, h2_⟩ := h.wd.fx b' j hfx
      refine ⟨h1_, ?_⟩
      rw [← h2_]
      refine World.cell?_setCell_other _ _ _ _ (fun e => ?_)
      simp only [Addr.mk.injEq, and_true] at e
      obtain ⟨rfl, rfl⟩ := e
      exact k3.2.2 off (by rw [k6] at ho; exact Nat.lt_of_lt_of_le ho (Nat.mul_le_mul_right _ k4)) hfx
    · intro y hy
      refine ⟨(h.xo y (List.mem_cons_of_mem _ hy)).1.frame fun b' hb' => hne b' (fun e => ?_), (h.xo y (List.mem_cons_of_mem _ hy)).2⟩
      subst e
      exact h.xd id t ht b' hbt (by rw [List.flatMap_cons]; exact List.mem_append_right _ (List.mem_flatMap.2 ⟨y, hy, hb'⟩))
    · intro i u hu b' hbu hbX
      rcases hlook i u hu with ⟨rfl, rfl⟩ | ⟨hi, hm1⟩
      · rcases hnewsub b' hbu with hb' | hb'
        · exact h.xd i t ht b' hb' (by rw [List.flatMap_cons]; exact List.mem_append_right _ hbX)
        · exact hXn.2.2 b' hb' b' hbX rfl
      · exact h.xd i u hm1 b' hbu (by rw [List.flatMap_cons]; exact List.mem_append_right _ hbX)
    · intro b' hb'
      rw [hszs]
      exact h.xb b' (by rw [List.flatMap_cons]; exact List.mem_append_right _ hb')
end
end Go.Proofs.Ytjjdjkkhhcbogaa.DM
