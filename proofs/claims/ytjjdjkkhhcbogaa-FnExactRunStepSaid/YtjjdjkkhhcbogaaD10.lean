/-
  DM 10. Cells laid one behind the other; a row that grows; a new row.
-/
import Derived.Test.YtjjdjkkhhcbogaaD9
import Derived.Laws.IdiomCopy
import Derived.Laws.Append
import Derived.Laws.AppendOwn
import Derived.ArgAppend
namespace Go.Proofs.Ytjjdjkkhhcbogaa.DM
set_option linter.unusedVariables false
set_option linter.unusedSimpArgs false
theorem setCells_oo (b : Nat) : ∀ (vs : List Value) (o : Nat) (w : World), (w.setCells b o vs).os = w.os ∧ (w.setCells b o vs).output = w.output ∧ (w.setCells b o vs).tape = w.tape
  | [], o, w => ⟨rfl, rfl, rfl⟩
  | v :: vs, o, w => by
    have := setCells_oo b vs (o + 1) (w.setCell ⟨b, o, none⟩ v)
    exact this
section
variable {S0 : Fr} {w0 w w' : World} {M M' : Heap} {X : List A} {P : Program} {nt : Nat} {s : FS} {a : Act}
theorem storeL_ok : ∀ {cs : List DC} {vs : List Value} {s : FS} {M : Heap} {w : World} {id off b o i : Nat} {p : List Nat} {s1 : FS}, Rel S0 w0 nt s M a w → RelL S0 w0 M cs vs → RelC S0 w0 M (.pt id p off) (.pointer (some ⟨b, o + i, none⟩)) →
    storeL s id p off cs = some s1 → ∃ M1 w1, (storeCells ⟨b, o, none⟩ vs i).run P w = .ok () w1 ∧ Rel S0 w0 nt s1 M1 a w1 := by
  intro cs
  induction hn : cs.length generalizing cs with
  | zero =>
    intro vs s M w id off b o i p s1 hR hL hd h
    have : cs = [] := List.length_eq_zero_iff.1 hn
    subst this
    have hv : vs = [] := List.length_eq_zero_iff.1 (by simpa using hL.1)
    subst hv
    simp only [storeL, Option.some.injEq] at h
    subst h
    exact ⟨M, w, rfl, hR⟩
  | succ n ih =>
    intro vs s M w id off b o i p s1 hR hL hd h
    cases cs with
    | nil => simp at hn
    | cons c cs =>
      cases vs with
      | nil => have := hL.1; simp at this
      | cons v vs =>
        obtain ⟨hc, h1, hL'⟩ := hL.head
        rw [storeL] at h
        split at h
        · rename_i s2 f hst
          obtain ⟨b', o', M1, e1, hR1, hcell, hfr, hk, hd1⟩ := storeC_ok hR hd hc h1 hst
          have e2 : (⟨b, o + i, none⟩ : Addr) = ⟨b', o', none⟩ := by simpa using e1
          simp only [Addr.mk.injEq, and_true] at e2
          obtain ⟨rfl, rfl⟩ := e2
          obtain ⟨M2, w2, hrun, hR2⟩ := ih (cs := cs.map f) (by simp at hn ⊢; exact hn) (i := i + 1) hR1 (hL'.map hk) (by rw [← Nat.add_assoc]; exact hd1) h
          refine ⟨M2, w2, ?_, hR2⟩
          have hs : (store ((⟨b, o, none⟩ : Addr).add i) v).run P w = .ok () (w.setCell ⟨b, o + i, none⟩ v) := by
            rw [add_eq, run_store P w _ v _ h1]
            obtain ⟨u, hu⟩ := Option.isSome_iff_exists.1 hcell
            rw [hu]
            simp [hfr]
          simp only [storeCells, Sem.run_bind, hs, Result.andThen_ok]
          exact hrun
        · cases h
theorem addr_spot {b o : Nat} : (⟨b, o, none⟩ : Addr).add 0 = ⟨b, o, none⟩ := rfl
/-- 'store'. -/
theorem store_ok {t : TypeId} {x y : Operand} {id off : Nat} {p : List Nat} {cs : List DC} {s1 : FS} (hR : Rel S0 w0 nt s M a w) (e1 : ev s.e x = .v (.one (.pt id p off))) (e2 : dcs (ev s.e y) = some cs) (e3 : szT P t = some cs.length) (h : storeL s id p off cs = some s1) :
    ∃ w1 M1, (Instr.storeAt t (a.eval x) (a.eval y)).run P w = .ok () w1 ∧ Rel S0 w0 nt s1 M1 a w1 := by
  have hx := ev_ok hR x
  rw [e1] at hx
  obtain ⟨hc, -⟩ := hx
  have hL := dcs_rel e2 (ev_ok hR y)
  generalize hu : a.eval x = u at hc
  cases hc with
  | pt _ _ _ b o c sz m cs' hat =>
    obtain ⟨M1, w1, hrun, hR1⟩ := storeL_ok (P := P) (b := b) (o := o + off) (i := 0) hR hL (.pt id p off b o c sz m cs' hat) h
    refine ⟨w1, M1, ?_, hR1⟩
    have hl : (a.eval y).cells.size = cs.length := by have := hL.1; simpa using this
    simp only [Instr.storeAt, Instr.sureAddr, Sem.run_bind, Sem.run_pure, Result.andThen_ok, storeVar, szT_ok e3, hl, ne_eq, not_true, if_false, hrun]
/-- What a row in hand holds comes to hand in its place. -/
theorem Inv.unwrap {b o c sz n : Nat} {cs Z : List A} (h : Inv S0 w0 M (.ow (.blk b o c) sz n cs :: Z) w) : Inv S0 w0 M (cs ++ Z) w := by
  have hb : (T.ow (.blk b o c) sz n cs : A).blocks = b :: cs.flatMap T.blocks := by simp [T.blocks, T.blocksL_eq]
  have hsub : ∀ k, k ∈ (cs ++ Z).flatMap T.blocks → k ∈ (T.ow (.blk b o c) sz n cs :: Z : List A).flatMap T.blocks := fun k hk => by
    rw [List.flatMap_append, List.mem_append] at hk
    rw [List.flatMap_cons, hb, List.mem_append]
    exact hk.imp (List.mem_cons_of_mem _) id
  have h0 := h.xo _ List.mem_cons_self
  refine ⟨h.ok, h.nd, h.dj, h.bl, h.wd, fun x hx => ?_, ?_, fun i u hu k hk hkx => h.xd i u hu k hk (hsub k hkx), fun k hk => h.xb k (hsub k hk)⟩
  · rcases List.mem_append.1 hx with hx | hx
    · exact ⟨h0.1.cell (by simpa [T.cells] using hx), h0.1.notHold (by simpa [T.cells] using hx)⟩
    · exact h.xo x (List.mem_cons_of_mem _ hx)
  · have := h.xn
    rw [List.flatMap_cons, hb] at this
    rw [List.flatMap_append]
    rw [List.cons_append, List.nodup_cons] at this
    exact this.2
theorem setCells_heap {g : Nat} {t : TypeId} {fz : Nat × Nat} : ∀ (vs : List Value) (o : Nat) (w : World) (cur : Array Value), w.heap[g]? = some (.cells cur t fz) → o + vs.length ≤ cur.size →
    ∃ cur' : Array Value, (w.setCells g o vs).heap[g]? = some (.cells cur' t fz) ∧ cur'.size = cur.size ∧ (∀ i, i < o ∨ o + vs.length ≤ i → cur'[i]? = cur[i]?) ∧ (∀ i, i < vs.length → cur'[o + i]? = vs[i]?)
  | [], o, w, cur, h, hl => ⟨cur, h, rfl, fun _ _ => rfl, fun i hi => by simp at hi⟩
  | v :: vs, o, w, cur, h, hl => by
    simp only [List.length_cons] at hl
    have h1 : (w.setCell ⟨g, o, none⟩ v).heap[g]? = some (.cells (cur.setIfInBounds o v) t fz) := by
      simp only [World.setCell, Array.getElem?_modify, if_pos rfl, h, Option.map_some]; simp
    obtain ⟨cur', e1, e2, e3, e4⟩ := setCells_heap vs (o + 1) _ _ h1 (by simp; omega)
    refine ⟨cur', e1, by simpa using e2, fun i hi => ?_, fun i hi => ?_⟩
    · simp only [List.length_cons] at hi
      rw [e3 i (by omega), Array.getElem?_setIfInBounds_ne (by omega)]
    · cases i with
      | zero => rw [Nat.add_zero, e3 o (by omega), Array.getElem?_setIfInBounds_self_of_lt (by omega)]; rfl
      | succ i =>
        have := e4 i (by simpa using hi)
        rw [show o + (i + 1) = o + 1 + i by omega, this]; simp
theorem setCells_other {g k : Nat} (hk : k ≠ g) : ∀ (vs : List Value) (o : Nat) (w : World), (w.setCells g o vs).heap[k]? = w.heap[k]?
  | [], _, _ => rfl
  | v :: r, o, w => by
    rw [World.setCells, setCells_other hk r (o + 1)]
    simp only [World.setCell, Array.getElem?_modify]
    rw [if_neg (fun e => hk e.symm)]
theorem setCells_size {g : Nat} : ∀ (vs : List Value) (o : Nat) (w : World), (w.setCells g o vs).heap.size = w.heap.size
  | [], _, _ => rfl
  | v :: r, o, w => by rw [World.setCells, setCells_size r (o + 1)]; simp [World.setCell]
/-- A row in hand grows within its room. -/
theorem Inv.grow {id b o c sz n m : Nat} {cs Z : List A} (h : Inv S0 w0 M (.ow (.blk b o c) sz n cs :: Z) w) (hid : M id = none) (hZ : Z.length = m * sz) (hroom : n + m ≤ c) :
    Inv S0 w0 (upd M id (some (.ow (.blk b o c) sz (n + m) (cs ++ Z)))) [] (w.setCells b (o + n * sz) (Z.map T.val)) ∧
    (∀ j, j < (Z.map T.val).length → (w.cell? ⟨b, o + n * sz + j, none⟩).isSome = true) ∧ (∀ j, j < (Z.map T.val).length → w.frozen? ⟨b, o + n * sz + j, none⟩ = false) := by
  have hb : (T.ow (.blk b o c) sz n cs : A).blocks = b :: cs.flatMap T.blocks := by simp [T.blocks, T.blocksL_eq]
  have hb' : (T.ow (.blk b o c) sz (n + m) (cs ++ Z) : A).blocks = b :: (cs.flatMap T.blocks ++ Z.flatMap T.blocks) := by simp [T.blocks, T.blocksL_eq]
  have hxn := h.xn
  rw [List.flatMap_cons, hb] at hxn
  have hbX : b ∈ (T.ow (.blk b o c) sz n cs :: Z : List A).flatMap T.blocks := by rw [List.flatMap_cons, hb]; simp
  obtain ⟨hbs, hbS⟩ := h.xb b hbX
  have h0 := (h.xo _ List.mem_cons_self).1
  have hnotin : b ∉ cs.flatMap T.blocks ++ Z.flatMap T.blocks := by
    rw [List.cons_append, List.nodup_cons] at hxn
    exact hxn.1
  have hu := h.unwrap
  cases h0 with
  | ow _ _ _ _ _ _ cur ty fz k1 k2 k3 k4 k5 k6 k7 k8 k9 =>
    obtain ⟨k3, k3', k3f⟩ := k3
    have hle : o + n * sz + (Z.map T.val).length ≤ cur.size := by
      rw [List.length_map, hZ]
      have : n * sz + m * sz ≤ c * sz := by rw [← Nat.add_mul]; exact Nat.mul_le_mul_right _ hroom
      omega
    obtain ⟨cur', e1, e2, e3, e4⟩ := setCells_heap (Z.map T.val) (o + n * sz) w cur k1 hle
    have hfr : ∀ k, k ≠ b → (w.setCells b (o + n * sz) (Z.map T.val)).heap[k]? = w.heap[k]? := fun k hk => setCells_other hk _ _ _
    have hsz : (w.setCells b (o + n * sz) (Z.map T.val)).heap.size = w.heap.size := setCells_size _ _ _
    have hokc : ∀ x ∈ cs ++ Z, Ok S0 w0 (w.setCells b (o + n * sz) (Z.map T.val)) x := fun x hx => (hu.xo x hx).1.frame fun k hk => hfr k (fun e => by
      subst e
      apply hnotin
      rw [← List.flatMap_append]
      exact List.mem_flatMap.2 ⟨x, hx, hk⟩)
    have hlook : ∀ i u, upd M id (some (.ow (.blk b o c) sz (n + m) (cs ++ Z))) i = some u → (i = id ∧ u = .ow (.blk b o c) sz (n + m) (cs ++ Z)) ∨ (i ≠ id ∧ M i = some u) := fun i u hu => by
      by_cases hi : i = id
      · subst hi; rw [upd_same] at hu; exact .inl ⟨rfl, (Option.some.inj hu).symm⟩
      · rw [upd_ne _ _ _ _ hi] at hu; exact .inr ⟨hi, hu⟩
    have hblx : ∀ k, k ∈ (T.ow (.blk b o c) sz (n + m) (cs ++ Z) : A).blocks → k ∈ (T.ow (.blk b o c) sz n cs :: Z : List A).flatMap T.blocks := fun k hk => by
      rw [hb'] at hk; rw [List.flatMap_cons, hb]; simpa using hk
    refine ⟨⟨?_, ?_, ?_, ?_, ⟨?_, h.wd.s0, by rw [hsz]; exact h.wd.sz, h.wd.rk, ?_, (setCells_oo _ _ _ _).1.trans h.wd.oo.1, (setCells_oo _ _ _ _).2.1.trans h.wd.oo.2.1, (setCells_oo _ _ _ _).2.2.trans h.wd.oo.2.2⟩, by simp, by simp, by simp, by simp⟩, ?_, ?_⟩
    · intro i u hu'
      rcases hlook i u hu' with ⟨rfl, rfl⟩ | ⟨hi, hm'⟩
      · refine .ow b o c sz (n + m) _ cur' ty fz e1 (by rw [e2]; exact k2) ⟨by rw [e2]; exact k3, k3', k3f⟩ hroom k5 (by rw [List.length_append, k6, hZ, Nat.add_mul]) (fun j x hj => ?_) hokc (fun x hx => (hu.xo x hx).2)
        by_cases hjl : j < cs.length
        · rw [List.getElem?_append_left hjl] at hj
          rw [e3 (o + j) (.inl (by omega))]
          exact k7 j x hj
        · rw [List.getElem?_append_right (by omega)] at hj
          have hjz := (List.getElem?_eq_some_iff.1 hj).1
          have := e4 (j - cs.length) (by simpa using hjz)
          rw [show o + n * sz + (j - cs.length) = o + j by omega] at this
          rw [this, List.getElem?_map, hj]; rfl
      · exact (h.ok i u hm').frame fun k hk => hfr k (fun e => by subst e; exact h.xd i u hm' _ hk hbX)
    · intro i u hu'
      rcases hlook i u hu' with ⟨rfl, rfl⟩ | ⟨hi, hm'⟩
      · rw [hb']; simpa using hxn
      · exact h.nd i u hm'
    · intro i j u v hij hu' hv k hku hkv
      rcases hlook i u hu' with ⟨rfl, rfl⟩ | ⟨hi, hm1⟩
      · rcases hlook j v hv with ⟨rfl, rfl⟩ | ⟨hj, hm2⟩
        · exact absurd rfl hij
        · exact h.xd j v hm2 k hkv (hblx k hku)
      · rcases hlook j v hv with ⟨rfl, rfl⟩ | ⟨hj, hm2⟩
        · exact h.xd i u hm1 k hku (hblx k hkv)
        · exact h.dj i j u v hij hm1 hm2 k hku hkv
    · intro i u k hu' hk
      rw [hsz]
      rcases hlook i u hu' with ⟨rfl, rfl⟩ | ⟨hi, hm1⟩
      · exact h.xb k (hblx k hk)
      · exact h.bl i u k hm1 hk
    · intro k hk
      rw [hfr k (fun e => hbS (e ▸ hk))]
      exact h.wd.fr k hk
    · intro b' j hfx
      obtain ⟨h1_, h2_⟩ := h.wd.fx b' j hfx
      refine ⟨h1_, ?_⟩
      rw [← h2_]
      refine World.cell?_setCells_out b _ _ _ _ (fun e _ => ?_)
      simp only at e
      subst e
      rw [List.length_map, hZ]
      rcases Nat.lt_or_ge j (o + n * sz) with hlt | hge
      · exact .inl hlt
      · refine .inr (Nat.le_of_not_lt fun hlt => ?_)
        have hle2 : n * sz + m * sz ≤ c * sz := by rw [← Nat.add_mul]; exact Nat.mul_le_mul_right _ hroom
        refine k3f (j - o) (by show j - o < c * sz; simp only at hlt; omega) ?_
        rw [show o + (j - o) = j by omega]
        exact hfx
    · intro j hj
      simp only [World.cell?, k1]
      simp [Array.getElem?_eq_getElem (show o + n * sz + j < cur.size by omega)]
    · intro j hj
      simp only [World.frozen?, k1]
      have := k2 (o + n * sz + j) (lt_fzTo (by omega))
      simp only [Bool.and_eq_false_iff, decide_eq_false_iff_not]
      by_cases hh : fz.1 ≤ o + n * sz + j
      · right; exact fun h' => this ⟨hh, h'⟩
      · left; exact hh
/-- A temporary is laid. -/
theorem RelX.put (hR : RelX S0 w0 nt s M X a w) {d : Nat} {v : DV} {u : Value} (hv : RelV S0 w0 M v u) (hd : d < nt) : RelX S0 w0 nt ⟨upd s.e d v, s.h, s.g⟩ M X (a.put (some d) u) w := by
  refine ⟨hR.inv, hR.er, fun i => ?_, by simp [Act.put, hR.nt], hR.df, hR.gh⟩
  simp only [Act.put]
  by_cases hi : i = d
  · subst hi
    rw [upd_same]
    have : i < a.tmps.size := by rw [hR.nt]; exact hd
    simp [Array.getD, Array.getElem?_setIfInBounds, this]
    exact hv
  · rw [upd_ne _ _ _ _ hi]
    have := hR.en i
    simp only [Array.getD_eq_getD_getElem?] at this ⊢
    rw [Array.getElem?_setIfInBounds_ne (fun e => hi e.symm)]
    exact this
theorem RelX.set (hR : RelX S0 w0 nt s M X a w) {dst : Option Nat} {v : DV} {u : Value} (hv : RelV S0 w0 M v u) (hd : dstOk nt dst = true) : RelX S0 w0 nt (s.set dst v) M X (a.put dst u) w := by
  cases dst with
  | none => exact hR
  | some d => exact hR.put hv (by simpa [dstOk] using hd)
theorem keeps_new {id : Nat} {t : A} (h : M id = none) : ∀ i q, Keeps M (upd M id (some t)) i q := fun i q => by
  by_cases hi : i = id
  · subst hi; intro x ⟨t0, ht0, _⟩; rw [h] at ht0; cases ht0
  · exact keeps_upd hi
/-- A new entry. -/
theorem entry_ok (hR : RelX S0 w0 nt s M X a w) {d : Nat} {t : A} {v : DV} {u : Value} {s1 : FS} {sz n : Nat} {xs : List D} (hd : d < nt) (hs : s.row d v sz n xs = some s1) (ht : er t = .ow () sz n xs)
    (hinv : M d = none → Inv S0 w0 (upd M d (some t)) [] w') (hv : RelV S0 w0 (upd M d (some t)) v u) : Rel S0 w0 nt s1 (upd M d (some t)) (a.put (some d) u) w' := by
  unfold FS.row at hs
  split at hs
  · rename_i hn
    obtain rfl := Option.some.inj hs
    have hM : M d = none := by
      have := hR.er d
      rw [hn] at this
      cases hm : M d with
      | none => rfl
      | some x => rw [hm] at this; cases this
    have h1 : RelX S0 w0 nt ⟨s.e, upd s.h d (some (.ow () sz n xs)), s.g⟩ (upd M d (some t)) [] a w' := by
      refine ⟨hinv hM, ?_, fun i => (hR.en i).keep (keeps_new hM), hR.nt, hR.df, fun i => (hR.gh i).keep (fun r _ => keeps_new hM r.1 r.2)⟩
      have := er_upd (id := d) (t := some t) hR.er
      simp only [Option.map_some, ht] at this
      exact this
    exact h1.put hv hd
  · cases hs
end
end Go.Proofs.Ytjjdjkkhhcbogaa.DM
