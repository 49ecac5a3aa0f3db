/-
  DM 37. Rows in hand: the cells of one are laid anew in its block; a new one out of what is in hand.
-/
import Derived.Test.YtjjdjkkhhcbogaaD36
namespace Go.Proofs.Ytjjdjkkhhcbogaa.DM
set_option linter.unusedVariables false
set_option linter.unusedSimpArgs false
section
variable {S0 : Fr} {w0 w w' : World} {M : Heap} {X : List A}
theorem Inv.row {b o c sz n m : Nat} {cs Z Y : List A} (h : Inv S0 w0 M (.ow (.blk b o c) sz n cs :: Z) w) (hp : (cs ++ Z).Perm Y) (hY : Y.length = m * sz) (hroom : m ≤ c)
    (ho : ∀ k, k ≠ b → w'.heap[k]? = w.heap[k]?) (hs : w'.heap.size = w.heap.size) (hos : w'.os = w.os ∧ w'.output = w.output ∧ w'.tape = w.tape)
    (hcur : ∀ cur ty fz, w.heap[b]? = some (.cells cur ty fz) → o + c * sz ≤ cur.size → ∃ cur', w'.heap[b]? = some (.cells cur' ty fz) ∧ cur'.size = cur.size ∧ (∀ j, (j < o ∨ o + c * sz ≤ j) → cur'[j]? = cur[j]?) ∧ ∀ (j : Nat) (x : A), Y[j]? = some x → cur'[o + j]? = some x.val) :
    Inv S0 w0 M [.ow (.blk b o c) sz m Y] w' := by
  have hb : (T.ow (.blk b o c) sz n cs : A).blocks = b :: cs.flatMap T.blocks := by simp [T.blocks, T.blocksL_eq]
  have hb' : (T.ow (.blk b o c) sz m Y : A).blocks = b :: Y.flatMap T.blocks := by simp [T.blocks, T.blocksL_eq]
  have hf : ((cs ++ Z).flatMap T.blocks).Perm (Y.flatMap T.blocks) := hp.flatMap_right T.blocks
  have hxn := h.xn
  rw [List.flatMap_cons, hb] at hxn
  have hbX : b ∈ (T.ow (.blk b o c) sz n cs :: Z : List A).flatMap T.blocks := by rw [List.flatMap_cons, hb]; simp
  obtain ⟨hbs, hbS⟩ := h.xb b hbX
  have h0 := (h.xo _ List.mem_cons_self).1
  rw [List.cons_append, List.nodup_cons] at hxn
  have hnotin : b ∉ Y.flatMap T.blocks := fun hk => hxn.1 (by
    have := hf.symm.subset hk
    rwa [List.flatMap_append] at this)
  have hu := h.unwrap.perm hp
  have hin : ∀ k, k ∈ (T.ow (.blk b o c) sz m Y : A).blocks → k ∈ (T.ow (.blk b o c) sz n cs :: Z : List A).flatMap T.blocks := fun k hk => by
    rw [hb'] at hk
    rw [List.flatMap_cons, hb]
    rcases List.mem_cons.1 hk with rfl | hk
    · simp
    · have := hf.symm.subset hk
      rw [List.flatMap_append] at this
      exact List.mem_cons_of_mem _ this
  cases h0 with
  | ow _ _ _ _ _ _ cur ty fz k1 k2 k3 k4 k5 k6 k7 k8 k9 =>
    obtain ⟨k3, k3', k3f⟩ := k3
    obtain ⟨cur', e1, e2, e3, e4⟩ := hcur cur ty fz k1 k3
    refine ⟨fun i u hm => (h.ok i u hm).frame fun k hk => ho k (fun e => by subst e; exact h.xd i u hm _ hk hbX), h.nd, h.dj, fun i u k hm hk => by rw [hs]; exact h.bl i u k hm hk, ⟨fun k hk => by rw [ho k (fun e => hbS (e ▸ hk))]; exact h.wd.fr k hk, h.wd.s0, by rw [hs]; exact h.wd.sz, h.wd.rk, ?_, hos.1.trans h.wd.oo.1, hos.2.1.trans h.wd.oo.2.1, hos.2.2.trans h.wd.oo.2.2⟩, ?_, ?_, ?_, ?_⟩
    · intro b' j hfx
      obtain ⟨h1_, h2_⟩ := h.wd.fx b' j hfx
      refine ⟨h1_, ?_⟩
      rw [← h2_]
      by_cases hbb : b' = b
      · subst hbb
        simp only [World.cell?, e1, k1]
        have hj : j < o ∨ o + c * sz ≤ j := by
          rcases Nat.lt_or_ge j o with hlt | hge
          · exact .inl hlt
          · refine .inr (Nat.le_of_not_lt fun hlt => ?_)
            refine k3f (j - o) (by omega) ?_
            rw [show o + (j - o) = j by omega]
            exact hfx
        exact e3 j hj
      · simp only [World.cell?, ho b' hbb]
    · intro x hx
      rw [List.mem_singleton] at hx
      subst hx
      exact ⟨.ow b o c sz m Y cur' ty fz e1 (by rw [e2]; exact k2) ⟨by rw [e2]; exact k3, k3', k3f⟩ hroom k5 hY e4 (fun x hx => (hu.xo x hx).1.frame fun k hk => ho k (fun e => by
        subst e
        exact hnotin (List.mem_flatMap.2 ⟨x, hx, hk⟩))) (fun x hx => (hu.xo x hx).2), rfl⟩
    · simp only [List.flatMap_cons, List.flatMap_nil, List.append_nil]
      rw [hb', List.nodup_cons]
      exact ⟨hnotin, hu.xn⟩
    · intro i u hm k hk hkx
      simp only [List.flatMap_cons, List.flatMap_nil, List.append_nil] at hkx
      exact h.xd i u hm k hk (hin k hkx)
    · intro k hk
      simp only [List.flatMap_cons, List.flatMap_nil, List.append_nil] at hk
      rw [hs]
      exact h.xb k (hin k hk)
theorem Inv.newHand (h : Inv S0 w0 M X w) {sz n c : Nat} {ty : TypeId} {cur : Array Value} (hw : w'.heap = w.heap.push (.cells cur ty (0, 0))) (hc : c * sz ≤ cur.size) (hs0 : 0 < sz) (hn : n ≤ c) (hm : c ≤ maxLen) (hl : X.length = n * sz)
    (hcur : ∀ (i : Nat) (x : A), X[i]? = some x → cur[i]? = some x.val) (ho : w'.os = w.os ∧ w'.output = w.output ∧ w'.tape = w.tape) : Inv S0 w0 M [.ow (.blk w.heap.size 0 c) sz n X] w' := by
  have hz : w'.heap.size = w.heap.size + 1 := by rw [hw]; simp
  have hk : ∀ k, k < w.heap.size → w'.heap[k]? = w.heap[k]? := fun k hk => by rw [hw, Array.getElem?_push_lt hk, Array.getElem?_eq_getElem hk]
  have h' := h.world hk (by omega) ho
  have hnew : w'.heap[w.heap.size]? = some (.cells cur ty (0, 0)) := by rw [hw]; simp
  have hb : (T.ow (.blk w.heap.size 0 c) sz n X : A).blocks = w.heap.size :: X.flatMap T.blocks := by simp [T.blocks, T.blocksL_eq]
  refine ⟨h'.ok, h'.nd, h'.dj, h'.bl, h'.wd, ?_, ?_, ?_, ?_⟩
  · intro x hx
    rw [List.mem_singleton] at hx
    subst hx
    exact ⟨.ow _ _ _ _ _ _ cur ty (0, 0) hnew nofz' ⟨by omega, hs0, fun j _ hfx => by have := (h.wd.fx _ _ hfx).1; have := h.wd.sz; omega⟩ hn hm hl (fun j x hj => by rw [Nat.zero_add]; exact hcur j x hj) (fun x hx => (h'.xo x hx).1) (fun x hx => (h'.xo x hx).2), rfl⟩
  · simp only [List.flatMap_cons, List.flatMap_nil, List.append_nil]
    rw [hb, List.nodup_cons]
    exact ⟨fun hb' => absurd (h.xb _ hb').1 (by omega), h.xn⟩
  · intro i u hm' k hk hkx
    simp only [List.flatMap_cons, List.flatMap_nil, List.append_nil] at hkx
    rw [hb] at hkx
    rcases List.mem_cons.1 hkx with rfl | hkx
    · exact absurd (h.bl i u _ hm' hk).1 (by omega)
    · exact h.xd i u hm' k hk hkx
  · intro k hk'
    simp only [List.flatMap_cons, List.flatMap_nil, List.append_nil] at hk'
    rw [hb] at hk'
    rcases List.mem_cons.1 hk' with rfl | hk'
    · exact ⟨by omega, fun hs => by have := h.wd.s0 _ hs; have := h.wd.sz; omega⟩
    · exact ⟨by have := (h.xb k hk').1; omega, (h.xb k hk').2⟩
end
end Go.Proofs.Ytjjdjkkhhcbogaa.DM
