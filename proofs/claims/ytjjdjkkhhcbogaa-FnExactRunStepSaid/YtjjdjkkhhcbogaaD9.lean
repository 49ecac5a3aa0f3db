/-
  DM 9. What is taken into hand, what is laid into a cell, and a new row: the state of the machine of values answers to the model's.
-/
import Derived.Test.YtjjdjkkhhcbogaaD8
namespace Go.Proofs.Ytjjdjkkhhcbogaa.DM
set_option linter.unusedVariables false
set_option linter.unusedSimpArgs false
section
variable {S0 : Fr} {w0 w w' : World} {M M' : Heap} {X : List A} {P : Program} {nt : Nat} {s : FS} {a : Act}
theorem Inv.shrink {x y : A} (h : Inv S0 w0 M (X ++ [x]) w) (hy : Ok S0 w0 w y) (hh : y.isHold = false) (hb : y.blocks.Sublist x.blocks) : Inv S0 w0 M (X ++ [y]) w := by
  have hsub : ∀ b, b ∈ (X ++ [y]).flatMap T.blocks → b ∈ (X ++ [x]).flatMap T.blocks := fun b hb' => by
    rw [List.flatMap_append, List.mem_append] at hb' ⊢
    rcases hb' with h1 | h1
    · exact .inl h1
    · exact .inr (by simpa using hb.subset (by simpa using h1))
  refine ⟨h.ok, h.nd, h.dj, h.bl, h.wd, fun z hz => ?_, ?_, fun i u hu b hbu hbx => h.xd i u hu b hbu (hsub b hbx), fun b hb' => h.xb b (hsub b hb')⟩
  · rcases List.mem_append.1 hz with hz | hz
    · exact h.xo z (List.mem_append_left _ hz)
    · simp at hz; subst hz; exact ⟨hy, hh⟩
  · have := h.xn
    rw [List.flatMap_append] at this ⊢
    refine List.Sublist.nodup ?_ this
    exact List.Sublist.append (List.Sublist.refl _) (by simpa using hb)
theorem flat_sublist {l l' : List A} (h : l'.Sublist l) : (l'.flatMap T.blocks).Sublist (l.flatMap T.blocks) := by
  induction h with
  | slnil => exact List.Sublist.refl _
  | cons a _ ih => rw [List.flatMap_cons]; exact ih.trans (List.sublist_append_right _ _)
  | cons_cons a _ ih => rw [List.flatMap_cons, List.flatMap_cons]; exact List.Sublist.append (List.Sublist.refl _) ih
/-- A part of a row is a row. -/
theorem Ok.part {b o c sz m : Nat} {cs : List A} (h : Ok S0 w0 w (.ow (.blk b o c) sz m cs)) {k n : Nat} (hk : k + n ≤ m) :
    Ok S0 w0 w (.ow (.blk b (o + k * sz) (c - k)) sz n ((cs.drop (k * sz)).take (n * sz))) := by
  cases h with
  | ow _ _ _ _ _ _ cur ty fz k1 k2 k3 k4 k5 k6 k7 k8 k9 =>
    have h1 : k * sz + n * sz ≤ m * sz := by rw [← Nat.add_mul]; exact Nat.mul_le_mul_right _ hk
    have h2 : k * sz + (c - k) * sz = c * sz := by rw [← Nat.add_mul]; congr 1; omega
    obtain ⟨k3, k3', k3f⟩ := k3
    refine .ow _ _ _ _ _ _ cur ty fz k1 k2 ⟨by omega, k3', fun j hj hfx => k3f (k * sz + j) (by omega) (by rw [← Nat.add_assoc]; exact hfx)⟩ (by omega) (by omega) (by rw [List.length_take, List.length_drop, k6]; omega) (fun i x hi => ?_) (fun x hx => k8 x (List.mem_of_mem_drop (List.mem_of_mem_take hx))) (fun x hx => k9 x (List.mem_of_mem_drop (List.mem_of_mem_take hx)))
    have hik : i < n * sz := by have := (List.getElem?_eq_some_iff.1 hi).1; simp at this; omega
    rw [List.getElem?_take_of_lt hik, List.getElem?_drop] at hi
    have := k7 _ x hi
    rwa [← Nat.add_assoc] at this
theorem er_cells (cs : List A) (f : List A → List A) : True := trivial
theorem keeps_take {id : Nat} {t : A} {p : List Nat} {y : A} (ht : M id = some t) : ∀ i q, ¬ (i = id ∧ p <+: q) → Keeps M (upd M id (some (t.put p y))) i q := fun i q hn => by
  by_cases hi : i = id
  · subst hi; exact keeps_put ht (fun h => hn ⟨rfl, h⟩)
  · exact keeps_upd hi
theorem keeps_drop {id : Nat} : ∀ i q, ¬ (i = id ∧ ([] : List Nat) <+: q) → Keeps M (upd M id none) i q := fun i q hn => keeps_upd (fun h => hn ⟨h, List.nil_prefix⟩)
theorem er_upd {id : Nat} {t : Option A} (he : ∀ i, s.h i = (M i).map er) : ∀ i, upd s.h id (t.map er) i = (upd M id t i).map er := fun i => by
  by_cases hi : i = id
  · subst hi; rw [upd_same, upd_same]
  · rw [upd_ne _ _ _ _ hi, upd_ne _ _ _ _ hi]; exact he i
theorem er_put (t y : A) (p : List Nat) : er (t.put p y) = (er t).put p (er y) := T.put_map _ _ p t y
theorem er_gone (u : Value) : er (.gone u) = .gone () := rfl
theorem er_ow_mk (d : AD) (sz n : Nat) (cs : List A) : er (.ow d sz n cs) = .ow () sz n (cs.map er) := by
  simp only [er, T.map, T.mapL_eq]; rfl
/-- The state behind a row's being taken. -/
theorem take_ok (hR : RelX S0 w0 nt s M X a w) {id : Nat} {p : List Nat} {y : A} {root : D} (hat : at_ M id p y) (hr : s.h id = some root) (hh : y.isHold = false) :
    ∃ M1, RelX S0 w0 nt (s.take id p root) M1 (X ++ [y]) a w ∧ (∀ i q, ¬ (i = id ∧ p <+: q) → Keeps M M1 i q) := by
  obtain ⟨t, ht, hg⟩ := hat
  have hroot : root = er t := by have := hR.er id; rw [hr, ht] at this; simpa using this
  subst hroot
  have h1 := hR.inv.take ht hg hh
  cases p with
  | nil =>
    have h2 := h1.drop id
    have hM : upd (upd M id (some (t.put [] (.gone y.val)))) id none = upd M id none := by
      funext i
      by_cases hi : i = id
      · subst hi; simp [upd]
      · simp [upd, hi]
    rw [hM] at h2
    refine ⟨upd M id none, ⟨h2, er_upd (t := none) hR.er, fun i => (hR.en i).poison keeps_drop (fun j hj => keeps_upd hj), hR.nt, hR.df, fun i => (hR.gh i).poison keeps_drop (fun j hj => keeps_upd hj)⟩, keeps_drop⟩
  | cons j q =>
    refine ⟨_, ⟨h1, ?_, fun i => (hR.en i).poison (keeps_take ht) (fun j hj => keeps_upd hj), hR.nt, hR.df, fun i => (hR.gh i).poison (keeps_take ht) (fun j hj => keeps_upd hj)⟩, keeps_take ht⟩
    have := er_upd (id := id) (t := some (t.put (j :: q) (.gone y.val))) hR.er
    simp only [Option.map_some, er_put, er_gone] at this
    exact this
/-- A cell is absorbed: the tree in hand stands for the value; what is referred to elsewhere keeps. -/
theorem absorb_ok (hR : RelX S0 w0 nt s M X a w) {c : DC} {u : Value} {x : D} {s1 : FS} (hc : RelC S0 w0 M c u) (h : absorb s c = some (x, s1)) :
    ∃ M1 y, RelX S0 w0 nt s1 M1 (X ++ [y]) a w ∧ er y = x ∧ y.val = u ∧ y.isHold = false ∧ (∀ d v, RelC S0 w0 M d v → RelC S0 w0 M1 (pzOf c d) v) := by
  cases hc with
  | un v => simp [absorb] at h
  | t r v hro =>
    cases r with
    | sc v' =>
      simp only [absorb, Option.some.injEq, Prod.mk.injEq] at h
      obtain ⟨rfl, rfl⟩ := h
      cases hro with
      | sc v hv => exact ⟨M, .sc u, ⟨hR.inv.hand (.sc u hv) rfl rfl, hR.er, hR.en, hR.nt, hR.df, hR.gh⟩, rfl, rfl, rfl, fun d v h => h⟩
    | sl n cs =>
      simp only [absorb, Option.some.injEq, Prod.mk.injEq] at h
      obtain ⟨rfl, rfl⟩ := h
      exact ⟨M, .ro u (.sl n cs), ⟨hR.inv.hand (.ro u _ hro) rfl rfl, hR.er, hR.en, hR.nt, hR.df, hR.gh⟩, rfl, rfl, rfl, fun d v h => h⟩
    | fn f caps =>
      simp only [absorb, Option.some.injEq, Prod.mk.injEq] at h
      obtain ⟨rfl, rfl⟩ := h
      exact ⟨M, .ro u (.fn f caps), ⟨hR.inv.hand (.ro u _ hro) rfl rfl, hR.er, hR.en, hR.nt, hR.df, hR.gh⟩, rfl, rfl, rfl, fun d v h => h⟩
  | nl a0 =>
    simp only [absorb, Option.some.injEq, Prod.mk.injEq] at h
    obtain ⟨rfl, rfl⟩ := h
    exact ⟨M, .ow (.emp a0) 0 0 [], ⟨hR.inv.hand (.em a0 0) rfl (by simp [T.blocks, T.blocksL]), hR.er, hR.en, hR.nt, hR.df, hR.gh⟩, rfl, rfl, rfl, fun d v h => h⟩
  | sl id p k n b o c sz m cs hat hle =>
    simp only [absorb] at h
    split at h
    · rename_i root hr
      split at h
      · rename_i sz' m' cs' hg
        split at h
        · rename_i hlen
          simp only [Option.some.injEq, Prod.mk.injEq] at h
          obtain ⟨rfl, rfl⟩ := h
          obtain ⟨y0, hat0, he0, hok0⟩ := node_ok hR hr hg
          have hy := at_unique hat0 hat
          subst hy
          rw [er_ow_mk] at he0
          simp only [T.ow.injEq, true_and] at he0
          obtain ⟨rfl, rfl, rfl⟩ := he0
          obtain ⟨M1, h1, h2⟩ := take_ok hR hat0 hr rfl
          refine ⟨M1, .ow (.blk b (o + k * sz) (c - k)) sz n ((cs.drop (k * sz)).take (n * sz)), ⟨h1.inv.shrink (hok0.part hle) rfl ?_, h1.er, h1.en, h1.nt, h1.df, h1.gh⟩, ?_, rfl, rfl, ?_⟩
          · simp only [T.blocks, T.blocksL_eq]
            exact List.Sublist.cons_cons _ (flat_sublist ((List.take_sublist _ _).trans (List.drop_sublist _ _)))
          · rw [er_ow_mk, List.map_take, List.map_drop]
          · exact fun d v hd => hd.poison h2 (fun i hi => h2 i [] (fun h => hi h.1))
        · cases h
      · cases h
    · cases h
  | se id p off a0 d sz m cs hat =>
    simp only [absorb] at h
    split at h
    · rename_i root hr
      split at h
      · rename_i sz' m' cs' hg
        split at h
        · rename_i hlen
          simp only [Option.some.injEq, Prod.mk.injEq] at h
          obtain ⟨rfl, rfl⟩ := h
          obtain ⟨M1, h1, h2⟩ := take_ok hR hat hr rfl
          refine ⟨M1, .ow (.emp a0) sz' 0 [], ⟨h1.inv.shrink (.em a0 sz') rfl ?_, h1.er, h1.en, h1.nt, h1.df, h1.gh⟩, ?_, rfl, rfl, ?_⟩
          · have hb0 : (T.ow (.emp a0) sz' 0 [] : A).blocks = [] := by simp [T.blocks, T.blocksL]
            rw [hb0]; exact List.nil_sublist _
          · rw [er_ow_mk]; simp
          · exact fun d v hd => hd.poison h2 (fun i hi => h2 i [] (fun h => hi h.1))
        · cases h
      · cases h
    · cases h
  | pt => simp [absorb] at h
  | rp => simp [absorb] at h
  | fn => simp [absorb] at h
theorem RelL.map {cs : List DC} {vs : List Value} {f : DC → DC} (h : RelL S0 w0 M cs vs) (hf : ∀ d v, RelC S0 w0 M d v → RelC S0 w0 M' (f d) v) : RelL S0 w0 M' (cs.map f) vs := by
  obtain ⟨h1, h2, h3⟩ := h
  refine ⟨by simpa using h1, fun i c u hc hu => ?_, h3⟩
  rw [List.getElem?_map, Option.map_eq_some_iff] at hc
  obtain ⟨c', hc', rfl⟩ := hc
  exact hf _ _ (h2 i c' u hc' hu)
theorem RelL.head {c : DC} {v : Value} {cs : List DC} {vs : List Value} (h : RelL S0 w0 M (c :: cs) (v :: vs)) : RelC S0 w0 M c v ∧ v.oneCell' = true ∧ RelL S0 w0 M cs vs := by
  obtain ⟨h1, h2, h3⟩ := h
  exact ⟨h2 0 c v rfl rfl, h3 v (by simp), by simpa using h1, fun i d u hd hu => h2 (i + 1) d u (by simpa using hd) (by simpa using hu), fun u hu => h3 u (List.mem_cons_of_mem _ hu)⟩
/-- A list of cells is absorbed. -/
theorem absorbL_ok : ∀ {cs : List DC} {vs : List Value} {s : FS} {M : Heap} {X : List A} {xs : List D} {s1 : FS}, RelX S0 w0 nt s M X a w → RelL S0 w0 M cs vs → absorbL s cs = some (xs, s1) →
    ∃ M1 ys, RelX S0 w0 nt s1 M1 (X ++ ys) a w ∧ ys.map er = xs ∧ ys.map T.val = vs ∧ (∀ y ∈ ys, y.isHold = false) := by
  intro cs
  induction hn : cs.length generalizing cs with
  | zero =>
    intro vs s M X xs s1 hR hL h
    have : cs = [] := List.length_eq_zero_iff.1 hn
    subst this
    have hv : vs = [] := List.length_eq_zero_iff.1 (by simpa using hL.1)
    subst hv
    simp only [absorbL, Option.some.injEq, Prod.mk.injEq] at h
    obtain ⟨rfl, rfl⟩ := h
    exact ⟨M, [], by simpa using hR, rfl, rfl, by simp⟩
  | succ n ih =>
    intro vs s M X xs s1 hR hL h
    cases cs with
    | nil => simp at hn
    | cons c cs =>
      cases vs with
      | nil => have := hL.1; simp at this
      | cons v vs =>
        obtain ⟨hc, h1, hL'⟩ := hL.head
        rw [absorbL] at h
        split at h
        · rename_i x s2 hx
          split at h
          · rename_i xs2 s3 hxs
            simp only [Option.some.injEq, Prod.mk.injEq] at h
            obtain ⟨rfl, rfl⟩ := h
            obtain ⟨M1, y, hR1, e1, e2, e3, hk⟩ := absorb_ok hR hc hx
            obtain ⟨M2, ys, hR2, f1, f2, f3⟩ := ih (cs := cs.map (pzOf c)) (by simp at hn ⊢; exact hn) hR1 (hL'.map hk) hxs
            refine ⟨M2, y :: ys, by simpa using hR2, by simp [e1, f1], by simp [e2, f2], fun z hz => ?_⟩
            rcases List.mem_cons.1 hz with rfl | hz
            · exact e3
            · exact f3 z hz
          · cases h
        · cases h
/-- One cell is laid. -/
theorem storeC_ok (hR : Rel S0 w0 nt s M a w) {id off : Nat} {p : List Nat} {c : DC} {u ad : Value} {s1 : FS} {f : DC → DC} (hd : RelC S0 w0 M (.pt id p off) ad) (hc : RelC S0 w0 M c u) (h1 : u.oneCell' = true) (h : storeC s id p off c = some (s1, f)) :
    ∃ b o M1, ad = .pointer (some ⟨b, o, none⟩) ∧ Rel S0 w0 nt s1 M1 a (w.setCell ⟨b, o, none⟩ u) ∧ (w.cell? ⟨b, o, none⟩).isSome = true ∧ w.frozen? ⟨b, o, none⟩ = false ∧ (∀ d v, RelC S0 w0 M d v → RelC S0 w0 M1 (f d) v) ∧
      RelC S0 w0 M1 (.pt id p (off + 1)) (.pointer (some ⟨b, o + 1, none⟩)) := by
  unfold storeC at h
  split at h
  · rename_i x s2 i' p' off' hx hpz
    split at h
    · rename_i root hr
      split at h
      · rename_i sz n cs hg
        split at h
        · rename_i old hold
          obtain ⟨M1, y, hR1, e1, e2, e3, hk⟩ := absorb_ok hR hc hx
          have hd1 := hk _ _ hd
          have hpz' : pzOf c (.pt id p off) = .pt id p off := by
            have : pzOf c (.pt id p off) = .pt id p off ∨ pzOf c (.pt id p off) = .un := by
              unfold pzOf
              split
              · simp only [pzC]
                split
                · exact .inr rfl
                · exact .inl rfl
              · exact .inl rfl
            rcases this with h | h
            · exact h
            · rw [h] at hpz; cases hpz
          rw [hpz'] at hd1
          cases hd1 with
          | pt _ _ _ b o c' sz' m' cs' hat =>
            obtain ⟨y0, hat0, he0, hok0⟩ := node_ok hR1 hr hg
            have hy := at_unique hat0 hat
            subst hy
            rw [er_ow_mk] at he0
            simp only [T.ow.injEq, true_and] at he0
            obtain ⟨rfl, rfl, rfl⟩ := he0
            obtain ⟨t, ht, hgt⟩ := hat
            have hroot : root = er t := by have := hR1.er id; rw [hr, ht] at this; simpa using this
            subst hroot
            have holt : off < cs'.length := by have := (List.getElem?_eq_some_iff.1 hold).1; simpa using this
            have hinv : Inv S0 w0 M1 (y :: []) w := by simpa using hR1.inv
            obtain ⟨hI, hcell, hfr⟩ := hinv.store ht hgt holt
            have hkeep : ∀ i q, ¬ (i = id ∧ (p ++ [off]) <+: q) → (isOw old = true ∨ ∀ x0, ¬ (i = id ∧ (p ++ [off]) <+: q ∧ at_ M1 i q x0)) → True := fun _ _ _ _ => trivial
            -- the node itself keeps its place, and so does what lies elsewhere
            have hkeep1 : ∀ i q, ¬ (i = id ∧ (p ++ [off]) <+: q) → Keeps M1 (upd M1 id (some (t.put p (.ow (.blk b o c') sz' m' (cs'.set off y))))) i q := by
              intro i q hn
              by_cases hi : i = id
              · subst hi
                intro x0 hx0
                obtain ⟨t0, ht0, hq0⟩ := hx0
                rw [ht] at ht0
                obtain rfl := Option.some.inj ht0
                by_cases hpq : p <+: q
                · obtain ⟨r, rfl⟩ := hpq
                  have hsome : (t.get p).isSome = true := by rw [hgt]; rfl
                  cases r with
                  | nil =>
                    rw [List.append_nil] at hq0 ⊢
                    rw [hgt] at hq0
                    obtain rfl := Option.some.inj hq0
                    refine ⟨cs'.set off y, _, upd_same _ _ _, ?_⟩
                    have := get_put_same p [] t (.ow (.blk b o c') sz' m' (cs'.set off y)) hsome
                    rw [List.append_nil] at this
                    rw [this]; rfl
                  | cons j r =>
                    have hj : j ≠ off := fun e => hn ⟨rfl, by subst e; rw [show p ++ j :: r = (p ++ [j]) ++ r by simp]; exact List.prefix_append _ _⟩
                    refine ⟨x0.cells, _, upd_same _ _ _, ?_⟩
                    rw [get_put_same p (j :: r) t _ hsome]
                    have h0 := hq0
                    have hx0' : x0.withCells x0.cells = x0 := by cases x0 <;> rfl
                    rw [hx0']
                    have hga : ∀ (p r : List Nat) (t n0 : A), t.get p = some n0 → t.get (p ++ r) = n0.get r := by
                      intro p
                      induction p with
                      | nil => intro r t n0 h; simp [T.get] at h; subst h; rfl
                      | cons k p ih =>
                        intro r t n0 h
                        simp only [T.get, List.cons_append] at h ⊢
                        cases hc : t.cells[k]? with
                        | none => rw [hc] at h; cases h
                        | some c0 => rw [hc] at h; exact ih r c0 n0 h
                    rw [hga p (j :: r) t _ hgt] at h0
                    simp only [T.get, T.cells] at h0 ⊢
                    rw [List.getElem?_set_ne (by omega)]
                    exact h0
                · obtain ⟨cs2, h2⟩ := get_put_other p q t (.ow (.blk b o c') sz' m' (cs'.set off y)) x0 hq0 hpq
                  exact ⟨cs2, _, upd_same _ _ _, h2⟩
              · exact keeps_upd hi
            have hkeep2 : isOw old = false → ∀ i q, i = id → (p ++ [off]) <+: q → ∀ d sz2 m2 cs2, ¬ at_ M1 i q (.ow d sz2 m2 cs2) := by
              intro ho i q hi hpq d sz2 m2 cs2 hat2
              subst hi
              obtain ⟨r, rfl⟩ := hpq
              obtain ⟨t0, ht0, hq0⟩ := hat2
              rw [ht] at ht0
              obtain rfl := Option.some.inj ht0
              have hch := get_append p off t _ hgt
              simp only [T.cells] at hch
              obtain ⟨z, hz⟩ : ∃ z, cs'[off]? = some z := ⟨_, List.getElem?_eq_getElem holt⟩
              rw [hz] at hch
              have hez : er z = old := by rw [List.getElem?_map, hz] at hold; simpa using hold
              have hzow : ∀ d sz n cs, z ≠ .ow d sz n cs := fun d sz n cs e => by
                subst e; rw [er_ow_mk] at hez; subst hez; simp [isOw] at ho
              have hga : ∀ (p r : List Nat) (t n0 : A), t.get p = some n0 → t.get (p ++ r) = n0.get r := by
                intro p
                induction p with
                | nil => intro r t n0 h; simp [T.get] at h; subst h; rfl
                | cons k p ih =>
                  intro r t n0 h
                  simp only [T.get, List.cons_append] at h ⊢
                  cases hc : t.cells[k]? with
                  | none => rw [hc] at h; cases h
                  | some c0 => rw [hc] at h; exact ih r c0 n0 h
              rw [hga _ r t z hch] at hq0
              have hzh : z.isHold = false := hok0.notHold (List.mem_of_getElem? hz)
              cases r with
              | nil => simp [T.get] at hq0; exact hzow _ _ _ _ hq0
              | cons j r =>
                simp only [T.get] at hq0
                cases z with
                | ow d sz n cs => exact hzow _ _ _ _ rfl
                | hold cs => simp [T.isHold] at hzh
                | _ => simp [T.cells] at hq0
            have her : ∀ i, upd s2.h id (some ((er t).put p (.ow () sz' m' ((cs'.map er).set off x)))) i = (upd M1 id (some (t.put p (.ow (.blk b o c') sz' m' (cs'.set off y)))) i).map er := by
              have := er_upd (id := id) (t := some (t.put p (.ow (.blk b o c') sz' m' (cs'.set off y)))) hR1.er
              simp only [Option.map_some, er_put, er_ow_mk, List.map_set, e1] at this
              exact this
            have hkd : isOw old = false → ∀ d v, RelC S0 w0 M1 d v → RelC S0 w0 (upd M1 id (some (t.put p (.ow (.blk b o c') sz' m' (cs'.set off y))))) d v := by
              intro ho d v hdv
              have hkk : ∀ i q, (∃ d sz2 m2 cs2, at_ M1 i q (.ow d sz2 m2 cs2)) → Keeps M1 (upd M1 id (some (t.put p (.ow (.blk b o c') sz' m' (cs'.set off y))))) i q := by
                rintro i q ⟨d, sz2, m2, cs2, hat2⟩
                by_cases hn : i = id ∧ (p ++ [off]) <+: q
                · exact absurd hat2 (hkeep2 ho i q hn.1 hn.2 _ _ _ _)
                · exact hkeep1 i q hn
              refine hdv.keep (fun r hr => hkk r.1 r.2 ?_)
              cases hdv with
              | un v => simp [refsC] at hr
              | t r v h => simp [refsC] at hr
              | nl a => simp [refsC] at hr
              | sl id p k n b o c sz m cs g1 g2 => simp [refsC] at hr; subst hr; exact ⟨_, _, _, _, g1⟩
              | se id p off a d sz m cs g1 => simp [refsC] at hr; subst hr; exact ⟨_, _, _, _, g1⟩
              | pt id p off b o c sz m cs g1 => simp [refsC] at hr; subst hr; exact ⟨_, _, _, _, g1⟩
              | rp cs a h => simp [refsC] at hr
              | fn f ids ps hl g =>
                simp only [refsC, List.mem_map] at hr
                obtain ⟨i, hi, rfl⟩ := hr
                obtain ⟨j, hj, rfl⟩ := List.getElem_of_mem hi
                obtain ⟨b2, o2, c2, sz2, cs2, g1, _⟩ := g j _ _ (List.getElem?_eq_getElem hj) (List.getElem?_eq_getElem (by omega))
                exact ⟨_, _, _, _, g1⟩
            have hptn : RelC S0 w0 (upd M1 id (some (t.put p (.ow (.blk b o c') sz' m' (cs'.set off y))))) (.pt id p (off + 1)) (.pointer (some ⟨b, o + off + 1, none⟩)) := by
              have hsome : (t.get p).isSome = true := by rw [hgt]; rfl
              have := get_put_same p [] t (.ow (.blk b o c') sz' m' (cs'.set off y)) hsome
              rw [List.append_nil] at this
              exact .pt id p (off + 1) b o c' sz' m' _ ⟨_, upd_same _ _ _, this⟩
            rw [e2] at hI
            split at h
            · simp only [Option.some.injEq, Prod.mk.injEq] at h
              obtain ⟨rfl, rfl⟩ := h
              refine ⟨b, o + off, _, rfl, ⟨hI, her, fun i => ?_, hR1.nt, hR1.df, fun i => (hR1.gh i).poison hkeep1 (fun i hi => hkeep1 i [] (fun h => hi h.1))⟩, hcell, hfr, fun d v hdv => (hk d v hdv).poison hkeep1 (fun i hi => hkeep1 i [] (fun h => hi h.1)), hptn⟩
              exact (hR1.en i).poison hkeep1 (fun i hi => hkeep1 i [] (fun h => hi h.1))
            · rename_i hno
              have ho : isOw old = false := by simpa using hno
              simp only [Option.some.injEq, Prod.mk.injEq] at h
              obtain ⟨rfl, rfl⟩ := h
              refine ⟨b, o + off, _, rfl, ⟨hI, her, fun i => ?_, hR1.nt, hR1.df, fun i => hkd ho _ _ (hR1.gh i)⟩, hcell, hfr, fun d v hdv => hkd ho _ _ (hk d v hdv), hptn⟩
              have hen := hR1.en i
              revert hen
              generalize s2.e i = ev0
              intro hen
              have k1 : ∀ (x : V1) (v : Value), Rel1 S0 w0 M1 x v → Rel1 S0 w0 (upd M1 id (some (t.put p (.ow (.blk b o c') sz' m' (cs'.set off y))))) x v := fun x v hx => by
                have := Rel1.map (f := fun c => c) hx (hkd ho)
                cases x with
                | one c => exact this
                | agg cs => simpa using this
              cases ev0 with
              | un => trivial
              | v x => exact k1 x _ hen
              | tup xs =>
                obtain ⟨vs, g0, g1, g2⟩ := hen
                exact ⟨vs, g0, g1, fun i y u hy hu => k1 y u (g2 i y u hy hu)⟩
        · cases h
      · cases h
    · cases h
  · cases h
end
end Go.Proofs.Ytjjdjkkhhcbogaa.DM
