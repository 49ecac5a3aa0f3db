/-
  slices.Insert of one cell, by values.
-/
import Derived.Test.YtjjdjkkhhcbogaaFIns
import Derived.Test.YtjjdjkkhhcbogaaDC
namespace Go.Proofs.Ytjjdjkkhhcbogaa.DM
set_option linter.unusedVariables false
set_option linter.unusedSimpArgs false
theorem insEnters : Enters Try.prog 131 := ⟨_, Try.func131, by kernel_rfl, by kernel_rfl⟩
theorem ins_flat {y : A} (h : flatD (er y) = true) : y.blocks = [] := by
  cases y <;> first | rfl | (simp [er, T.map, flatD] at h)
theorem ins_at {α : Type} (l z : List α) (i n j : Nat) (hl : l.length = n * 3) (hz : z.length = 3) (hi : i < n) : (l.take (i * 3) ++ (z ++ l.drop (i * 3)))[j]? = if j < i * 3 then l[j]? else if j < i * 3 + 3 then z[j - i * 3]? else l[j - 3]? := by
  split
  · rw [List.getElem?_append_left (by rw [List.length_take]; omega), List.getElem?_take_of_lt (by assumption)]
  · rw [List.getElem?_append_right (by rw [List.length_take]; omega), List.length_take, Nat.min_eq_left (by omega)]
    split
    · rw [List.getElem?_append_left (by omega)]
    · rw [List.getElem?_append_right (by omega), List.getElem?_drop]
      congr 1; omega
theorem OpStep.insert {nt : Nat} {s s1 s2 : FS} {o : Oper} {f x y z : Operand} {ats : Array TypeId} {cx : DC} {idz i n : Nat} {cs zs : List D} (ho : o.op = .call { callee := .value f, args := #[x, y, z], argTypes := ats })
    (hc : callArgs s f [x, y, z] = some (131, [.v (.one cx), .v (.one (.t (.sc (.int .i64 (i : Int))))), .v (.one (.sl idz [] 0 1))])) (hab : absorb s cx = some (.ow () 3 n cs, s1)) (hz : s1.h idz = some (.ow () 3 1 zs)) (hflat : zs.all flatD = true) (hpz : pzOf cx (.sl idz [] 0 1) = .sl idz [] 0 1)
    (hi : i < n) (hn : n ≤ 2199023255552) (hf : finish nt s1 o.dst [none] [.ow () 3 (n + 1) (cs.take (i * 3) ++ (zs ++ cs.drop (i * 3)))] = some s2) : OpStep Try.prog nt o s s2 := fun S0 w0 M a w hR next Q hn' => by
  obtain ⟨-, l1, l2⟩ := callArgs_ok hR hc
  refine call_wp (sh := [none]) (s1 := s1) ho hR hc insEnters hf ?_ hn'
  show Calls _ _ (valsOf a f [x, y, z]).toArray _ _
  obtain ⟨u0, u1, u2, hv⟩ : ∃ u0 u1 u2, valsOf a f [x, y, z] = [u0, u1, u2] := by
    match h : valsOf a f [x, y, z], l1 with
    | [u0, u1, u2], _ => exact ⟨_, _, _, rfl⟩
  rw [hv] at l2 ⊢
  have q0 : RelC S0 w0 M cx u0 := (l2 0 _ _ rfl rfl).1
  have q1 : u1 = .int .i64 (i : Int) := (asSc_ok (S0 := S0) (w0 := w0) (M := M) (x := .v (.one (.t (.sc (.int .i64 (i : Int)))))) rfl (l2 1 _ _ rfl rfl)).1
  have q2 : RelC S0 w0 M (.sl idz [] 0 1) u2 := (l2 2 _ _ rfl rfl).1
  subst q1
  obtain ⟨M1, y_, hR1, e1, e2, e3, hk⟩ := absorb_ok hR q0 (l2 0 _ _ rfl rfl).2 hab
  rw [List.nil_append] at hR1
  have q2' := hk _ _ q2
  rw [hpz] at q2'
  obtain ⟨d0, csA, rfl, hcs⟩ := er_ow e1
  have hok := (hR1.inv.xo _ List.mem_cons_self).1
  have q3 : ∀ off one, off = 0 → one = 1 → RelC S0 w0 M1 (.sl idz [] off one) u2 → ∃ vb vo vc csZ, u2 = .slice (some ⟨vb, vo, none⟩) 1 vc ∧ M1 idz = some (.ow (.blk vb vo vc) 3 1 csZ) ∧ csZ.map er = zs := by
    intro off one h0 h1 hq
    have hz' := hR1.er idz
    rw [hz] at hz'
    cases hq with
    | sl _ _ k _ b ob c sz m cs2 hat hle =>
      obtain ⟨t, ht, hg⟩ := hat
      simp only [T.get, Option.some.injEq] at hg
      subst hg
      rw [ht, Option.map_some, er_ow_mk] at hz'
      simp only [Option.some.injEq, T.ow.injEq, true_and] at hz'
      obtain ⟨rfl, rfl, hzz⟩ := hz'
      have hk0 : k = 0 := by omega
      subst hk0; subst h1
      exact ⟨b, ob, c, cs2, by simp, ht, hzz.symm⟩
    | se => omega
  cases d0 with
  | emp a0 =>
    cases hok with
    | em a0 sz => omega
  | blk g og cap =>
  cases hok with
  | ow _ _ _ _ _ _ cur ty fz k1 k2 k3 k4 k5 k6 k7 k8 k9 =>
  obtain ⟨k3, k3', k3f⟩ := k3
  obtain ⟨vb, vo, vc, csZ, rfl, hMz, hzz⟩ := q3 0 1 rfl rfl q2'
  have hokz := hR1.inv.ok idz _ hMz
  cases hokz with
  | ow _ _ _ _ _ _ zcur zty zfz z1 z2 z3 z4 z5 z6 z7 z8 z9 =>
  obtain ⟨z3, z3', z3f⟩ := z3
  have hu0 : u0 = .slice (some ⟨g, og, none⟩) n cap := e2.symm
  subst hu0
  have hvg : vb ≠ g := fun e => hR1.inv.xd idz _ hMz vb (by simp [T.blocks]) (by simp [T.blocks, e])
  have hzf : ∀ q ∈ csZ, Ok S0 w0 w q ∧ q.blocks = [] ∧ q.isHold = false := fun q hq => ⟨z8 q hq, ins_flat (List.all_eq_true.1 hflat _ (by rw [← hzz]; exact List.mem_map_of_mem hq)), z9 q hq⟩
  have hI := hR1.inv.hands hzf
  rw [List.singleton_append] at hI
  have hzl : csZ.length = 3 := by simpa using z6
  have hYl : (csA.take (i * 3) ++ (csZ ++ csA.drop (i * 3))).length = (n + 1) * 3 := by simp only [List.length_append, List.length_take, List.length_drop, k6, hzl]; omega
  have hp : (csA ++ csZ).Perm (csA.take (i * 3) ++ (csZ ++ csA.drop (i * 3))) := by
    conv => lhs; rw [← List.take_append_drop (i * 3) csA, List.append_assoc]
    exact List.Perm.append_left _ List.perm_append_comm
  have herr : ∀ d1, er (.ow d1 3 (n + 1) (csA.take (i * 3) ++ (csZ ++ csA.drop (i * 3)))) = .ow () 3 (n + 1) (cs.take (i * 3) ++ (zs ++ cs.drop (i * 3))) := fun d1 => by rw [er_ow_mk, List.map_append, List.map_append, List.map_take, List.map_drop, hcs, hzz]
  have hat := fun j => ins_at csA csZ i n j k6 hzl hi
  generalize csA.take (i * 3) ++ (csZ ++ csA.drop (i * 3)) = Y at hYl hp herr hat
  have hcell : ∀ j v, (csA.map T.val)[j]? = some v → w.cell? ⟨g, og + j, none⟩ = some v := fun j v hj => by
    rw [List.getElem?_map, Option.map_eq_some_iff] at hj
    obtain ⟨q, hq, rfl⟩ := hj
    simp only [Go.World.cell?, k1]
    simpa using k7 j q hq
  have hvs : ∀ j v, (csZ.map T.val)[j]? = some v → w.cell? ⟨vb, vo + j, none⟩ = some v := fun j v hj => by
    rw [List.getElem?_map, Option.map_eq_some_iff] at hj
    obtain ⟨q, hq, rfl⟩ := hj
    simp only [Go.World.cell?, z1]
    simpa using z7 j q hq
  have h1c : ∀ v ∈ csA.map T.val, v.oneCell' = true := fun v hv => by
    obtain ⟨q, hq, rfl⟩ := List.mem_map.1 hv
    exact (k8 q hq).one (k9 q hq)
  have h1v : ∀ v ∈ csZ.map T.val, v.oneCell' = true := fun v hv => by
    obtain ⟨q, hq, rfl⟩ := List.mem_map.1 hv
    exact (z8 q hq).one (z9 q hq)
  have hcl : (csA.map T.val).length = n * 3 := by rw [List.length_map]; exact k6
  have hvl : (csZ.map T.val).length = 3 := by rw [List.length_map]; exact hzl
  have hdl : ((csA.map T.val).drop (i * 3)).length = (n - i) * 3 := by rw [List.length_drop, hcl]; omega
  have hbs : g < w.heap.size := (hR1.inv.xb g (by simp [T.blocks])).1
  have hvw : vb < w.heap.size := (hR1.inv.bl idz _ vb hMz (by simp [T.blocks])).1
  by_cases hroom : n + 1 ≤ cap
  · have hc3 : og + (n + 1) * 3 ≤ cur.size := by omega
    have hfr : ∀ {b : Nat} {cc : Array Value} {t : TypeId} {zz : Nat × Nat}, w.heap[b]? = some (.cells cc t zz) → (∀ i, i < fzTo 3 cc.size → ¬ (zz.1 ≤ i ∧ i < zz.2)) → ∀ j, j < cc.size + 1 → w.frozen? ⟨b, j, none⟩ = false := fun hb hz j hj => by
      simp only [Go.World.frozen?, hb]
      have := hz j (by unfold fzTo; simpa using hj)
      simp only [Bool.and_eq_false_iff, decide_eq_false_iff_not]
      rename_i zz
      by_cases hh : zz.1 ≤ j
      · right; exact fun h' => this ⟨hh, h'⟩
      · left; exact hh
    refine Calls.mono (ins_shift g og n cap i vb vo vc (csA.map T.val) (csZ.map T.val) w hcl hvl hcell (fun j hj => by
      simp only [Go.World.cell?, k1]
      simp [Array.getElem?_eq_getElem (show og + j < cur.size by omega)]) (fun j hj => hfr k1 k2 _ (by omega)) hvs h1c h1v k5 hn hi hroom hvg (by omega) zty ty zcur.size cur.size (by simp [Go.World.shape?, z1]) (by simp [Go.World.shape?, k1]) (by omega) (hfr z1 z2 _ (by omega)) (hfr z1 z2 _ (by omega))) ?_
    rintro e w' ⟨rfl, rfl⟩
    refine ⟨_, M1, [.ow (.blk g og cap) 3 (n + 1) Y], rfl, ⟨?_, hR1.er, hR1.en, hR1.nt, hR1.df, hR1.gh⟩, by rw [List.map_cons, herr]; rfl, rfl, rfl⟩
    refine hI.row hp hYl hroom (fun k hk => by rw [setCells_other hk, setCells_other hk]; rfl) (by rw [setCells_size, setCells_size]; rfl) (by
      refine ⟨(setCells_oo _ _ _ _).1.trans (setCells_oo _ _ _ _).1, (setCells_oo _ _ _ _).2.1.trans (setCells_oo _ _ _ _).2.1, (setCells_oo _ _ _ _).2.2.trans (setCells_oo _ _ _ _).2.2⟩) (fun cur0 ty0 fz0 h0 hc0 => ?_)
    rw [k1] at h0
    simp only [Option.some.injEq, Obj.cells.injEq] at h0
    obtain ⟨rfl, rfl, rfl⟩ := h0
    obtain ⟨c1, a1, a2, a3, a4⟩ := setCells_heap ((csA.map T.val).drop (i * 3)) (og + (i + 1) * 3) w.drew cur k1 (by rw [hdl]; omega)
    obtain ⟨c2, b1, b2, b3, b4⟩ := setCells_heap (csZ.map T.val) (og + i * 3) _ c1 a1 (by rw [hvl]; omega)
    rw [hdl] at a3 a4
    rw [hvl] at b3 b4
    refine ⟨c2, b1, b2.trans a2, fun j hj => (b3 j (by omega)).trans (a3 j (by omega)), fun j q hj => ?_⟩
    have hjl := (List.getElem?_eq_some_iff.1 hj).1
    rw [hat] at hj
    split at hj
    · rename_i h1
      rw [b3 (og + j) (by omega), a3 (og + j) (by omega)]
      exact k7 j q hj
    · split at hj
      · rename_i h1 h2
        have := b4 (j - i * 3) (by omega)
        rw [show og + i * 3 + (j - i * 3) = og + j by omega] at this
        rw [this, List.getElem?_map, hj]; rfl
      · rename_i h1 h2
        rw [b3 (og + j) (by omega)]
        have := a4 (j - (i + 1) * 3) (by omega)
        rw [show og + (i + 1) * 3 + (j - (i + 1) * 3) = og + j by omega] at this
        rw [this, List.getElem?_drop, List.getElem?_map, show i * 3 + (j - (i + 1) * 3) = j - 3 by omega, hj]; rfl
  · refine Calls.mono (ins_grow g og n cap i vb vo vc (csA.map T.val) (csZ.map T.val) w hcl hvl hbs hvw hcell hvs h1c h1v k5 hn hi k4 (by omega) (by omega)) ?_
    rintro e w' ⟨G, ROW, rfl, hG1, hG2, hRl, hRt, rfl⟩
    refine ⟨_, M1, [.ow (.blk w.heap.size 0 G) 3 (n + 1) Y], rfl, ⟨?_, hR1.er, hR1.en, hR1.nt, hR1.df, hR1.gh⟩, by rw [List.map_cons, herr]; rfl, rfl, rfl⟩
    obtain ⟨c1, a1, a2, a3, a4⟩ := setCells_heap (t := 115) (fz := (0, 0)) (csZ.map T.val) (i * 3) ((w.alloc (.cells ROW 115)).drew) ROW (by show (w.heap.push _)[w.heap.size]? = _; simp) (by rw [hvl]; omega)
    obtain ⟨c2, b1, b2, b3, b4⟩ := setCells_heap (t := 115) (fz := (0, 0)) ((csA.map T.val).drop (i * 3)) ((i + 1) * 3) ((((w.alloc (.cells ROW 115)).drew.setCells w.heap.size (i * 3) (csZ.map T.val)).drew)) c1 a1 (by rw [hdl]; omega)
    rw [hvl] at a3 a4
    rw [hdl] at b3 b4
    refine (hI.unwrap.perm hp).newHand (ty := 115) (cur := c2) ?_ (by rw [b2, a2, hRl]; exact Nat.le_refl _) (by decide) hG1 hG2 hYl (fun j q hj => ?_) ?_
    · apply Array.ext_getElem?
      intro k
      have hs1 : (w.alloc (.cells ROW 115)).drew.heap = w.heap.push (.cells ROW 115 (0, 0)) := rfl
      rcases Nat.lt_trichotomy k w.heap.size with h | h | h
      · rw [setCells_other (by omega)]
        show ((w.alloc (.cells ROW 115)).drew.setCells w.heap.size (i * 3) (csZ.map T.val)).heap[k]? = _
        rw [setCells_other (by omega), hs1, Array.getElem?_push_lt h, Array.getElem?_push_lt h]
      · subst h
        rw [b1]; simp
      · rw [Array.getElem?_eq_none (by
          rw [setCells_size]
          show ((w.alloc (.cells ROW 115)).drew.setCells w.heap.size (i * 3) (csZ.map T.val)).heap.size ≤ k
          rw [setCells_size, hs1]; simp; omega), Array.getElem?_eq_none (by simp; omega)]
    · have hjl := (List.getElem?_eq_some_iff.1 hj).1
      rw [hat] at hj
      split at hj
      · rename_i h1
        rw [b3 j (by omega), a3 j (by omega)]
        have h2 : (ROW.toList.take (i * 3))[j]? = ((csA.map T.val).take (i * 3))[j]? := by rw [hRt]
        rw [List.getElem?_take_of_lt h1, List.getElem?_take_of_lt h1, Array.getElem?_toList] at h2
        rw [h2, List.getElem?_map, hj]; rfl
      · split at hj
        · rename_i h1 h2
          rw [b3 j (by omega)]
          have := a4 (j - i * 3) (by omega)
          rw [show i * 3 + (j - i * 3) = j by omega] at this
          rw [this, List.getElem?_map, hj]; rfl
        · rename_i h1 h2
          have := b4 (j - (i + 1) * 3) (by omega)
          rw [show (i + 1) * 3 + (j - (i + 1) * 3) = j by omega] at this
          rw [this, List.getElem?_drop, List.getElem?_map, show i * 3 + (j - (i + 1) * 3) = j - 3 by omega, hj]; rfl
    · refine ⟨?_, ?_, ?_⟩
      · exact (setCells_oo _ _ _ _).1.trans (setCells_oo _ _ _ _).1
      · exact (setCells_oo _ _ _ _).2.1.trans (setCells_oo _ _ _ _).2.1
      · exact (setCells_oo _ _ _ _).2.2.trans (setCells_oo _ _ _ _).2.2
end Go.Proofs.Ytjjdjkkhhcbogaa.DM
