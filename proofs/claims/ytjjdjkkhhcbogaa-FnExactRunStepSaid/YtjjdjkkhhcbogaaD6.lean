/-
  DM 6. The quiet operations, one by one: the model yields what the machine of values yields.
-/
import Derived.Test.YtjjdjkkhhcbogaaD5
namespace Go.Proofs.Ytjjdjkkhhcbogaa.DM
set_option linter.unusedVariables false
set_option linter.unusedSimpArgs false
theorem get_append {α β : Type} : ∀ (p : List Nat) (i : Nat) (t x : T α β), t.get p = some x → t.get (p ++ [i]) = x.cells[i]?
  | [], i, t, x, h => by
    simp [T.get] at h; subst h
    simp only [List.nil_append, T.get]
    cases t.cells[i]? <;> rfl
  | j :: p, i, t, x, h => by
    simp only [T.get, List.cons_append] at h ⊢
    cases hc : t.cells[j]? with
    | none => rw [hc] at h; cases h
    | some c => rw [hc] at h; exact get_append p i c x h
section
variable {S0 : Fr} {w0 w w' : World} {M M' : Heap} {P : Program} {nt : Nat} {s : FS} {a : Act}
theorem add_eq (b o n : Nat) : (⟨b, o, none⟩ : Addr).add n = ⟨b, o + n, none⟩ := by unfold Addr.add; split <;> simp_all
theorem addr_eq {a : Addr} (h : a.spot = none) (n : Nat) : a.add n = ⟨a.block, a.off + n, none⟩ := by
  obtain ⟨b, o, s⟩ := a
  simp only at h
  subst h
  exact add_eq b o n
/-- A node of the heap of values stands for a node of memory. -/
theorem node_ok {X : List A} (hR : RelX S0 w0 nt s M X a w) {id : Nat} {root : D} {p : List Nat} {x : D} (hr : s.h id = some root) (hg : root.get p = some x) : ∃ y, at_ M id p y ∧ er y = x ∧ Ok S0 w0 w y := by
  have h := hR.er id
  rw [hr] at h
  cases hm : M id with
  | none => rw [hm] at h; cases h
  | some t =>
    rw [hm] at h
    have hroot : root = er t := by simpa using h
    subst hroot
    unfold er at hg
    rw [T.get_map] at hg
    obtain ⟨y, hy, rfl⟩ := Option.map_eq_some_iff.1 hg
    exact ⟨y, ⟨t, hm, hy⟩, rfl, (hR.inv.ok id t hm).get hy⟩
theorem er_ow {y : A} {sz n : Nat} {cs : List D} (h : er y = .ow () sz n cs) : ∃ d csA, y = .ow d sz n csA ∧ csA.map er = cs := by
  cases y with
  | ow d sz' n' csA =>
    simp only [er, T.map, T.mapL_eq, T.ow.injEq] at h
    obtain ⟨_, rfl, rfl, h⟩ := h
    exact ⟨d, csA, rfl, h⟩
  | _ => simp [er, T.map] at h
theorem at_unique {id : Nat} {p : List Nat} {x y : A} (h1 : at_ M id p x) (h2 : at_ M id p y) : x = y := by
  obtain ⟨t, ht, hx⟩ := h1
  obtain ⟨t', ht', hy⟩ := h2
  rw [ht] at ht'
  obtain rfl := Option.some.inj ht'
  rw [hx] at hy
  exact Option.some.inj hy
theorem at_child {id : Nat} {p : List Nat} {x y : A} {i : Nat} (h : at_ M id p x) (hy : x.cells[i]? = some y) : at_ M id (p ++ [i]) y := by
  obtain ⟨t, ht, hx⟩ := h
  exact ⟨t, ht, by rw [get_append p i t x hx]; exact hy⟩
theorem rdC_ok {id : Nat} {p : List Nat} {i : Nat} {y : A} {c : DC} (hat : at_ M id (p ++ [i]) y) (hok : Ok S0 w0 w y) (h : rdC id p i (er y) = some c) : RelC S0 w0 M c y.val ∧ y.val.oneCell' = true := by
  cases y with
  | sc v =>
    simp only [er, T.map, rdC, Option.some.injEq] at h
    subst h
    cases hok with
    | sc v hv => exact ⟨.t _ _ (.sc v hv), plain_one hv⟩
  | ro u r =>
    simp only [er, T.map, rdC, Option.some.injEq] at h
    subst h
    cases hok with
    | ro u r hr => exact ⟨.t _ _ hr, hr.one⟩
  | ow d sz n cs =>
    simp only [er, T.map, rdC, Option.some.injEq] at h
    subst h
    cases d with
    | blk b o c =>
      refine ⟨?_, rfl⟩
      have hn : n ≤ c := by cases hok; assumption
      have h0 := RelC.sl (S0 := S0) (w0 := w0) id (p ++ [i]) 0 n b o c sz n cs hat (by omega)
      rw [Nat.zero_mul, Nat.add_zero, Nat.sub_zero] at h0
      exact h0
    | emp e =>
      refine ⟨?_, rfl⟩
      cases hok with
      | em a sz => exact .se id (p ++ [i]) 0 e _ _ _ _ hat
  | hold cs => simp [er, T.map, rdC] at h
  | gone u => simp [er, T.map, rdC] at h
theorem rdCs_ok {id : Nat} {p : List Nat} : ∀ {xs : List D} {i : Nat} {l : List DC}, rdCs id p i xs = some l → l.length = xs.length ∧ ∀ (j : Nat) (x : D) (c : DC), xs[j]? = some x → l[j]? = some c → rdC id p (i + j) x = some c
  | [], i, l, h => by simp only [rdCs, Option.some.injEq] at h; subst h; exact ⟨rfl, fun j x c hx => by simp at hx⟩
  | x :: xs, i, l, h => by
    simp only [rdCs] at h
    split at h
    · rename_i c cs h1 h2
      obtain rfl := Option.some.inj h
      obtain ⟨e1, e2⟩ := rdCs_ok h2
      refine ⟨by simp [e1], fun j y d hy hd => ?_⟩
      cases j with
      | zero => simp at hy hd; subst hy; subst hd; exact h1
      | succ j =>
        have := e2 j y d (by simpa using hy) (by simpa using hd)
        rwa [show i + (j + 1) = i + 1 + j by omega]
    · cases h
theorem quiet_load {t : TypeId} {x : Operand} {v : DV} (hR : Rel S0 w0 nt s M a w) (h : quietV P s (.load t x) = some v) : ∃ u, (Instr.loadAt t (a.eval x)).run P w = .ok u w ∧ RelV S0 w0 M v u := by
  have hx := ev_ok hR x
  simp only [quietV] at h
  split at h
  · rename_i id p off k g e1 e2 e3
    rw [e1] at hx
    obtain ⟨hc, -⟩ := hx
    generalize hu : a.eval x = u at hc ⊢
    split at h
    · rename_i root hr
      split at h
      · rename_i sz n cs hg
        obtain ⟨y, hat, hery, hok⟩ := node_ok hR hr hg
        obtain ⟨d, csA, rfl, hcs⟩ := er_ow hery
        cases hc with
        | pt id p off b o c sz' m cs' hat' =>
          have hE := at_unique hat hat'
          simp only [T.ow.injEq] at hE
          obtain ⟨rfl, rfl, rfl, rfl⟩ := hE
          cases hok with
          | ow _ _ _ _ _ _ cur ty fz k1 k2 k3 k4 k5 k6 k7 k8 k9 =>
            have hcell : ∀ j y, csA[j]? = some y → w.cell? ⟨b, o + j, none⟩ = some y.val := fun j y hj => by
              simp only [World.cell?, k1]
              simpa using k7 j y hj
            split at h
            · rename_i hg'
              simp only [hg'] at e3
              split at h
              · rename_i hle
                obtain ⟨l, hl, rfl⟩ := Option.map_eq_some_iff.1 h
                obtain ⟨f1, f2⟩ := rdCs_ok hl
                have hlen : cs.length = csA.length := by rw [← hcs, List.length_map]
                have hk : ((csA.drop off).take k).length = k := by rw [List.length_take, List.length_drop]; omega
                have hrun := run_loadCells_list (P := P) (w := w) (⟨b, o + off, none⟩ : Addr) (((csA.drop off).take k).map T.val) (fun j u hj => by
                  rw [add_eq]
                  rw [List.getElem?_map, Option.map_eq_some_iff] at hj
                  obtain ⟨y, hy, rfl⟩ := hj
                  have hjk : j < k := by have := (List.getElem?_eq_some_iff.1 hy).1; omega
                  rw [List.getElem?_take_of_lt hjk, List.getElem?_drop] at hy
                  rw [Nat.add_assoc]
                  exact hcell _ y hy)
                rw [List.length_map, hk] at hrun
                refine ⟨.agg (((csA.drop off).take k).map T.val).toArray, ?_, _, rfl, ?_, ?_, ?_⟩
                · simp only [Instr.loadAt, Instr.sureAddr, loadVar, Sem.run_bind, Sem.run_pure, Result.andThen_ok, aggT_ok e3, if_true, szT_ok e2, hrun]
                · rw [List.length_map, hk, f1, List.length_take, List.length_drop]; omega
                · intro j c' u hc' hu'
                  rw [List.getElem?_map, Option.map_eq_some_iff] at hu'
                  obtain ⟨y, hy, rfl⟩ := hu'
                  have hjk : j < k := by have := (List.getElem?_eq_some_iff.1 hy).1; omega
                  rw [List.getElem?_take_of_lt hjk, List.getElem?_drop] at hy
                  have hxj : ((cs.drop off).take k)[j]? = some (er y) := by
                    rw [List.getElem?_take_of_lt hjk, List.getElem?_drop, ← hcs, List.getElem?_map, hy]; rfl
                  exact (rdC_ok (at_child hat hy) (k8 y (List.mem_of_getElem? hy)) (f2 j _ c' hxj hc')).1
                · intro u hu'
                  obtain ⟨y, hy, rfl⟩ := List.mem_map.1 hu'
                  have hy' := List.mem_of_mem_drop (List.mem_of_mem_take hy)
                  exact (k8 y hy').one (k9 y hy')
              · cases h
            · rename_i hg'
              have hg0 : g = false := by simpa using hg'
              subst hg0
              split at h
              · rename_i c1 hc1
                obtain ⟨c2, hc2, rfl⟩ := Option.map_eq_some_iff.1 h
                rw [← hcs, List.getElem?_map, Option.map_eq_some_iff] at hc1
                obtain ⟨y, hy, rfl⟩ := hc1
                obtain ⟨g1, g2⟩ := rdC_ok (at_child hat hy) (k8 y (List.mem_of_getElem? hy)) hc2
                refine ⟨y.val, ?_, g1, g2⟩
                simp only [Instr.loadAt, Instr.sureAddr, loadVar, Sem.run_bind, Sem.run_pure, Result.andThen_ok, aggT_ok e3, Bool.false_eq_true, if_false, run_load, hcell off y hy]
              · cases h
      · cases h
    · cases h
  · rename_i cs k g e1 e2 e3
    rw [e1] at hx
    obtain ⟨hc, -⟩ := hx
    generalize hu : a.eval x = u at hc ⊢
    cases hc with
    | rp cs ad hro =>
      cases hro with
      | sl ad n c cs vs r1 r2 r3 r4 r5 r6 =>
        have hcell : ∀ (j : Nat) (v : Value), vs[j]? = some v → w.cell? (ad.add j) = some v := fun j v hj => by
          rw [addr_eq r1]
          have := r5 j v hj
          simp only [World.cell?] at this ⊢
          rw [hR.inv.wd.fr _ (hR.inv.wd.rk _ r2)]
          exact this
        split at h
        · rename_i hg'
          simp only [hg'] at e3
          split at h
          · rename_i hle
            obtain rfl := Option.some.inj h
            have hk : (vs.take k).length = k := by rw [List.length_take]; omega
            have hrun := run_loadCells_list (P := P) (w := w) ad (vs.take k) (fun j u hj => by
              have hjk : j < k := by have := (List.getElem?_eq_some_iff.1 hj).1; omega
              rw [List.getElem?_take_of_lt hjk] at hj
              exact hcell j u hj)
            rw [hk] at hrun
            refine ⟨.agg (vs.take k).toArray, ?_, _, rfl, by simp [r4], ?_, ?_⟩
            · simp only [Instr.loadAt, Instr.sureAddr, loadVar, Sem.run_bind, Sem.run_pure, Result.andThen_ok, aggT_ok e3, if_true, szT_ok e2, hrun]
            · intro j c' u hc' hu'
              rw [List.getElem?_map, Option.map_eq_some_iff] at hc'
              obtain ⟨r, hr, rfl⟩ := hc'
              have hjk : j < k := by have := (List.getElem?_eq_some_iff.1 hu').1; omega
              rw [List.getElem?_take_of_lt hjk] at hu' hr
              exact .t _ _ (r6 j u r hu' hr)
            · intro u hu'
              have hu2 := List.mem_of_mem_take hu'
              obtain ⟨j, hj, rfl⟩ := List.getElem_of_mem hu2
              exact (r6 j _ _ (List.getElem?_eq_getElem hj) (List.getElem?_eq_getElem (by omega))).one
          · cases h
        · rename_i hg'
          have hg0 : g = false := by simpa using hg'
          subst hg0
          split at h
          · rename_i c1 hc1
            obtain rfl := Option.some.inj h
            have h0 : 0 < vs.length := by rw [r4]; exact (List.getElem?_eq_some_iff.1 hc1).1
            refine ⟨vs[0], ?_, .t _ _ (r6 0 _ _ (List.getElem?_eq_getElem h0) hc1), (r6 0 _ _ (List.getElem?_eq_getElem h0) hc1).one⟩
            have := hcell 0 _ (List.getElem?_eq_getElem h0)
            have ha : ad.add 0 = ad := by simp [Addr.add]
            rw [ha] at this
            simp only [Instr.loadAt, Instr.sureAddr, loadVar, Sem.run_bind, Sem.run_pure, Result.andThen_ok, aggT_ok e3, Bool.false_eq_true, if_false, run_load, this]
          · cases h
  · cases h
end
end Go.Proofs.Ytjjdjkkhhcbogaa.DM
