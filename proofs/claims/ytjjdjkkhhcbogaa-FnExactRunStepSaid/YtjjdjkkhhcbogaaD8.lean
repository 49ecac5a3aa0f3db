/-
  DM 8. The quiet operations: all of them.
-/
import Derived.Test.YtjjdjkkhhcbogaaD7
namespace Go.Proofs.Ytjjdjkkhhcbogaa.DM
set_option linter.unusedVariables false
set_option linter.unusedSimpArgs false
section
variable {S0 : Fr} {w0 w w' : World} {M M' : Heap} {P : Program} {nt : Nat} {s : FS} {a : Act}
/-- A list of cells stands for a list of values. -/
def RelL (S0 : Fr) (w0 : World) (M : Heap) (cs : List DC) (vs : List Value) : Prop :=
  vs.length = cs.length ∧ (∀ (i : Nat) (c : DC) (u : Value), cs[i]? = some c → vs[i]? = some u → RelC S0 w0 M c u) ∧ ∀ u ∈ vs, u.oneCell' = true
theorem RelL.append {c1 c2 : List DC} {v1 v2 : List Value} (h1 : RelL S0 w0 M c1 v1) (h2 : RelL S0 w0 M c2 v2) : RelL S0 w0 M (c1 ++ c2) (v1 ++ v2) := by
  obtain ⟨l1, a1, b1⟩ := h1
  obtain ⟨l2, a2, b2⟩ := h2
  refine ⟨by simp [l1, l2], fun i c u hc hu => ?_, fun u hu => (List.mem_append.1 hu).elim (b1 u) (b2 u)⟩
  by_cases hi : i < c1.length
  · rw [List.getElem?_append_left hi] at hc
    rw [List.getElem?_append_left (by omega)] at hu
    exact a1 i c u hc hu
  · rw [List.getElem?_append_right (by omega)] at hc
    rw [List.getElem?_append_right (by omega), l1] at hu
    exact a2 _ c u hc hu
theorem RelL.take {cs : List DC} {vs : List Value} (h : RelL S0 w0 M cs vs) (n : Nat) : RelL S0 w0 M (cs.take n) (vs.take n) := by
  obtain ⟨l, a1, b⟩ := h
  refine ⟨by simp [l], fun i c u hc hu => ?_, fun u hu => b u (List.mem_of_mem_take hu)⟩
  rw [List.getElem?_take] at hc hu
  split at hc
  · rename_i hi; rw [if_pos hi] at hu; exact a1 i c u hc hu
  · cases hc
theorem RelL.drop {cs : List DC} {vs : List Value} (h : RelL S0 w0 M cs vs) (n : Nat) : RelL S0 w0 M (cs.drop n) (vs.drop n) := by
  obtain ⟨l, a1, b⟩ := h
  refine ⟨by simp [l], fun i c u hc hu => ?_, fun u hu => b u (List.mem_of_mem_drop hu)⟩
  rw [List.getElem?_drop] at hc hu
  exact a1 _ c u hc hu
theorem dcs_rel {x : DV} {cs : List DC} {u : Value} (h : dcs x = some cs) (hr : RelV S0 w0 M x u) : RelL S0 w0 M cs u.cells.toList := dcs_ok h hr
theorem RelL.nil : RelL S0 w0 M [] [] := ⟨rfl, fun i c u h => by simp at h, by simp⟩
theorem RelL.cons {c : DC} {v : Value} {cs : List DC} {vs : List Value} (h : RelC S0 w0 M c v) (h1 : v.oneCell' = true) (hs : RelL S0 w0 M cs vs) : RelL S0 w0 M (c :: cs) (v :: vs) := by
  have : RelL S0 w0 M [c] [v] := ⟨rfl, fun i c' u hc hu => by
    cases i with
    | zero => simp at hc hu; subst hc; subst hu; exact h
    | succ i => simp at hc, by simpa using h1⟩
  exact this.append hs
theorem zeros_rel {z : List Value} {cs : List DC} (h : mapO zcC z = some cs) : RelL S0 w0 M cs z := by
  obtain ⟨l, h1⟩ := mapO_some h
  refine ⟨l.symm, fun i c u hc hu => (zcC_ok (h1 i u c hu hc)).1, fun u hu => ?_⟩
  obtain ⟨i, hi, rfl⟩ := List.getElem_of_mem hu
  exact (zcC_ok (S0 := S0) (w0 := w0) (M := M) (h1 i _ _ (List.getElem?_eq_getElem hi) (List.getElem?_eq_getElem (by omega)))).2
theorem foldl_set (off : Nat) : ∀ (vs : List Value) (j : Nat) (z : Array Value), off + j + vs.length ≤ z.size →
    ((vs.zipIdx j).foldl (fun cs (x : Value × Nat) => cs.setIfInBounds (off + x.2) x.1) z).toList = z.toList.take (off + j) ++ (vs ++ z.toList.drop (off + j + vs.length))
  | [], j, z, h => by simp
  | v :: vs, j, z, h => by
    rw [List.zipIdx_cons, List.foldl_cons, foldl_set off vs (j + 1) _ (by simp at h ⊢; omega)]
    simp only [List.length_cons] at h
    have hlt : off + j < z.toList.length := by simp; omega
    rw [Array.toList_setIfInBounds]
    rw [List.set_eq_take_append_cons_drop, if_pos hlt]
    have e1 : (z.toList.take (off + j)).length = off + j := by rw [List.length_take]; omega
    have e2 : (z.toList.take (off + j) ++ v :: z.toList.drop (off + j + 1)).take (off + (j + 1)) = z.toList.take (off + j) ++ [v] := by
      rw [List.take_append, List.take_of_length_le (by omega), e1]
      rw [show off + (j + 1) - (off + j) = 1 by omega]
      simp
    have e3 : (z.toList.take (off + j) ++ v :: z.toList.drop (off + j + 1)).drop (off + (j + 1) + vs.length) = z.toList.drop (off + j + (vs.length + 1)) := by
      rw [List.drop_append, List.drop_of_length_le (by omega), e1, List.nil_append]
      rw [show off + (j + 1) + vs.length - (off + j) = vs.length + 1 by omega, List.drop_succ_cons, List.drop_drop]
      congr 1; omega
    rw [e2, e3]
    simp [List.append_assoc]
theorem fill_ok {place : Nat → Option (Nat × Nat)} : ∀ {ps : List (Nat × List DC)} {qs : List (Nat × Value)} {z : List DC} {zv : Array Value} {r : List DC}, fillC place z ps = some r → RelL S0 w0 M z zv.toList →
    ps.length = qs.length → (∀ (i : Nat) (p : Nat × List DC) (q : Nat × Value), ps[i]? = some p → qs[i]? = some q → p.1 = q.1 ∧ RelL S0 w0 M p.2 q.2.cells.toList) → ∃ rv, Instr.fill place zv qs = some rv ∧ RelL S0 w0 M r rv.toList
  | [], [], z, zv, r, h, hz, _, _ => by
    simp only [fillC, Option.some.injEq] at h
    subst h
    exact ⟨zv, rfl, hz⟩
  | (i, cs) :: ps, (i', v) :: qs, z, zv, r, h, hz, hl, hp => by
    obtain ⟨e1, hr⟩ := hp 0 _ _ rfl rfl
    simp only at e1 hr
    subst e1
    simp only [fillC] at h
    split at h
    · rename_i off size hpl
      split at h
      · rename_i hc
        have hv : v.cells.size = size := by have := hr.1; simp at this; omega
        have hzl : zv.size = z.length := by simpa using hz.1
        have hz' := (hz.take off).append (hr.append (hz.drop (off + size)))
        have e2 : (v.cells.zipIdx.foldl (fun cs (x : Value × Nat) => cs.setIfInBounds (off + x.2) x.1) zv).toList = zv.toList.take off ++ (v.cells.toList ++ zv.toList.drop (off + size)) := by
          have := foldl_set off v.cells.toList 0 zv (by simp; omega)
          rw [← Array.foldl_toList, Array.toList_zipIdx]
          rw [this]
          simp [hv]
        rw [← e2] at hz'
        obtain ⟨rv, h1, h2⟩ := fill_ok h hz' (by simpa using hl) (fun j p q hj hq => hp (j + 1) p q (by simpa using hj) (by simpa using hq))
        refine ⟨rv, ?_, h2⟩
        rw [Instr.fill]
        simp only [hpl]
        rw [if_neg (by simp only [hv, ne_eq, not_true, Bool.or_eq_true, decide_eq_true_eq, false_or]; omega)]
        exact h1
      · cases h
    · cases h
  | [], _ :: _, _, _, _, _, _, hl, _ => by simp at hl
  | _ :: _, [], _, _, _, _, _, hl, _ => by simp at hl
theorem parts_ok (hR : Rel S0 w0 nt s M a w) : ∀ {l : List (Nat × Operand)} {ps : List (Nat × List DC)}, partsC s.e l = some ps → ps.length = (l.map fun x => (x.1, a.eval x.2)).length ∧
    ∀ (i : Nat) (p : Nat × List DC) (q : Nat × Value), ps[i]? = some p → (l.map fun x => (x.1, a.eval x.2))[i]? = some q → p.1 = q.1 ∧ RelL S0 w0 M p.2 q.2.cells.toList
  | [], ps, h => by simp only [partsC, Option.some.injEq] at h; subst h; exact ⟨rfl, fun i p q hp => by simp at hp⟩
  | (i, x) :: l, ps, h => by
    simp only [partsC] at h
    split at h
    · rename_i cs r h1 h2
      obtain rfl := Option.some.inj h
      obtain ⟨e1, e2⟩ := parts_ok hR h2
      refine ⟨by simpa using e1, fun j p q hp hq => ?_⟩
      cases j with
      | zero => simp at hp hq; subst hp; subst hq; exact ⟨rfl, dcs_rel h1 (ev_ok hR x)⟩
      | succ j => exact e2 j p q (by simpa using hp) (by simpa using hq)
    · cases h
theorem places_run {fs : Array Field} {pl : List (Nat × Nat)} (h : placesT P fs.toList = some pl) (w : World) : (fs.mapM fun f => do pure (f.offset, ← sizeOf f.type) : Sem (Array (Nat × Nat))).run P w = .ok pl.toArray w := by
  have key : ∀ (l : List Field) (pl : List (Nat × Nat)), placesT P l = some pl → (l.mapM fun f => do pure (f.offset, ← sizeOf f.type) : Sem (List (Nat × Nat))).run P w = .ok pl w := by
    intro l
    induction l with
    | nil => intro pl h; simp [placesT, mapO] at h; subst h; rfl
    | cons f l ih =>
      intro pl h
      simp only [placesT, mapO] at h
      split at h
      · rename_i y ys h1 h2
        obtain rfl := Option.some.inj h
        obtain ⟨n, hn, rfl⟩ := Option.map_eq_some_iff.1 h1
        rw [List.mapM_cons]
        simp only [Sem.run_bind, szT_ok hn, Result.andThen_ok, Sem.run_pure, ih ys h2]
      · cases h
  rw [Array.mapM_eq_mapM_toList]
  simp only [Sem.run_map, key _ _ h, Result.andThen_ok]
theorem quiet_build {t : TypeId} {parts : Array (Nat × Operand)} {v : DV} (hR : Rel S0 w0 nt s M a w) (h : quietV P s (.build t parts) = some v) :
    ∃ u, (Instr.build t (parts.map fun (i, x) => (i, a.eval x))).run P w = .ok u w ∧ RelV S0 w0 M v u := by
  simp only [quietV] at h
  split at h
  · rename_i z fs ps e1 e2 e3
    split at h
    · rename_i zs pl e4 e5
      obtain ⟨cs, hcs, rfl⟩ := Option.map_eq_some_iff.1 h
      obtain ⟨zv, hz1, hz2⟩ := zeroT_ok e1
      obtain ⟨p1, p2⟩ := parts_ok hR e3
      obtain ⟨rv, h1, h2⟩ := fill_ok (S0 := S0) (w0 := w0) (M := M) (zv := zv.cells) hcs (by rw [hz2]; exact zeros_rel e4) p1 p2
      refine ⟨.agg rv, ?_, rv.toList, by simp, h2⟩
      have hp : (parts.map fun (x : Nat × Operand) => (x.1, a.eval x.2)).toList = parts.toList.map fun x => (x.1, a.eval x.2) := by simp
      have hpl : ∀ i : Nat, (pl.toArray)[i]? = pl[i]? := fun i => List.getElem?_toArray
      simp only [Instr.build, Sem.run_bind, hz1, Result.andThen_ok, run_underlying e2, places_run e5]
      have hfun : (fun x => pl.toArray[x]?) = (fun x => pl[x]?) := funext hpl
      rw [hfun]
      have : (Array.map (fun x => match x with | (i, x) => (i, a.eval x)) parts).toList = parts.toList.map fun x => (x.1, a.eval x.2) := by simp
      rw [this, h1]
      rfl
    · cases h
  · cases h
theorem quiet_len {args : Array Operand} {ats : Array TypeId} {v : DV} {ty : TypeId} (hR : Rel S0 w0 nt s M a w) (h : quietV P s (.call { callee := .builtin .len, args := args, argTypes := ats }) = some v) :
    ∃ u, (Builtin.len_ ats ty (args.map a.eval)).run P w = .ok u w ∧ RelV S0 w0 M v u := by
  simp only [quietV] at h
  split at h
  · rename_i x t ea et
    have ha : args = #[x] := by rw [← Array.toArray_toList (xs := args), ea]
    have ht : ats = #[t] := by rw [← Array.toArray_toList (xs := ats), et]
    subst ha; subst ht
    have hx := ev_ok hR x
    split at h
    · rename_i b e1 e2
      obtain rfl := Option.some.inj h
      rw [e1] at hx
      obtain ⟨hx', hp⟩ := asSc_ok (S0 := S0) (w0 := w0) (M := M) rfl hx
      exact ⟨.int .i64 b.size, by simp [Builtin.len_, run_underlying e2, hx', goInt], sc_ok rfl⟩
    · rename_i n cs el e1 e2
      obtain rfl := Option.some.inj h
      rw [e1] at hx
      obtain ⟨hc, -⟩ := hx
      refine ⟨.int .i64 n, ?_, sc_ok rfl⟩
      generalize hu : a.eval x = u at hc
      have hfin : ∀ A c, u = .slice A n c → (Builtin.len_ #[t] ty (#[x].map a.eval)).run P w = .ok (.int .i64 n) w := fun A c e => by simp [Builtin.len_, run_underlying e2, hu, e, goInt]
      cases hc with
      | t r v hro => cases hro with
        | sl ad n' c cs vs r1 r2 r3 r4 r5 r6 => exact hfin _ _ rfl
        | em a0 c => exact hfin _ _ rfl
    · rename_i id p off n el e1 e2
      obtain rfl := Option.some.inj h
      rw [e1] at hx
      obtain ⟨hc, -⟩ := hx
      refine ⟨.int .i64 n, ?_, sc_ok rfl⟩
      generalize hu : a.eval x = u at hc
      have hfin : ∀ A c, u = .slice A n c → (Builtin.len_ #[t] ty (#[x].map a.eval)).run P w = .ok (.int .i64 n) w := fun A c e => by simp [Builtin.len_, run_underlying e2, hu, e, goInt]
      cases hc with
      | sl id p kk _ b o c sz m cs hat hle => exact hfin _ _ rfl
      | se id p off a0 d sz m cs hat => exact hfin _ _ rfl
    · rename_i el e1 e2
      obtain rfl := Option.some.inj h
      rw [e1] at hx
      obtain ⟨hc, -⟩ := hx
      refine ⟨.int .i64 0, ?_, sc_ok rfl⟩
      generalize hu : a.eval x = u at hc
      cases hc with
      | nl a0 => simp [Builtin.len_, run_underlying e2, hu, goInt]
    · cases h
  · cases h
/-- THE QUIET OPERATIONS. -/
theorem quiet_ok {o : Oper} {v : DV} (hR : Rel S0 w0 nt s M a w) (h : quietV P s o.op = some v) : ∃ u, (execOp a.eval o).run P w = .ok (.value u) w ∧ RelV S0 w0 M v u := by
  obtain ⟨dst, op, type, pos, after, guard⟩ := o
  simp only at h
  have lift : ∀ (q : Sem Value), (∃ u, q.run P w = .ok u w ∧ RelV S0 w0 M v u) → ∃ u, (do pure (Next.value (← q)) : Sem Next).run P w = .ok (.value u) w ∧ RelV S0 w0 M v u := by
    rintro q ⟨u, h1, h2⟩
    exact ⟨u, by simp [h1], h2⟩
  cases op with
  | move x => simp only [quietV, Option.some.injEq] at h; subst h; exact ⟨a.eval x, rfl, ev_ok hR x⟩
  | assign x => simp only [quietV, Option.some.injEq] at h; subst h; exact ⟨a.eval x, rfl, ev_ok hR x⟩
  | pick c x y =>
    simp only [quietV] at h
    split at h
    · rename_i b hb
      obtain rfl := Option.some.inj h
      have hc := (asSc_ok hb (ev_ok hR c)).1
      refine ⟨if b then a.eval x else a.eval y, ?_, ?_⟩
      · simp only [execOp, hc, Sem.run_bind, asBool, Sem.run_pure, Result.andThen_ok]
      · cases b
        · exact ev_ok hR y
        · exact ev_ok hR x
    · cases h
  | build t parts => exact lift _ (quiet_build hR h)
  | load t x => exact lift _ (quiet_load hR h)
  | nilCheck x => exact quiet_nilCheck rfl hR h
  | binOp op ty x y yt =>
    simp only [quietV] at h
    split at h
    · rename_i p q e1 e2
      obtain ⟨r, hr, rfl⟩ := Option.map_eq_some_iff.1 h
      obtain ⟨f1, g1⟩ := asSc_ok e1 (ev_ok hR x)
      obtain ⟨f2, g2⟩ := asSc_ok e2 (ev_ok hR y)
      obtain ⟨k1, k2⟩ := scBin_ok hr w
      refine lift _ ⟨r, ?_, sc_ok k2⟩
      simp only [f1, f2, Sem.run_bind, eqGuard_plain g1, Result.andThen_ok, k1]
    · cases h
  | unOp op ty x =>
    simp only [quietV] at h
    split at h
    · rename_i p e1
      obtain ⟨r, hr, rfl⟩ := Option.map_eq_some_iff.1 h
      obtain ⟨f1, g1⟩ := asSc_ok e1 (ev_ok hR x)
      obtain ⟨k1, k2⟩ := scUn_ok (P := P) hr w
      refine lift _ ⟨r, ?_, sc_ok k2⟩
      simp only [f1, k1]
    · cases h
  | convert src dst x =>
    simp only [quietV] at h
    split at h
    · rename_i k' n d k e1 e2 e3
      obtain rfl := Option.some.inj h
      obtain ⟨f1, g1⟩ := asSc_ok e1 (ev_ok hR x)
      refine lift _ ⟨_, ?_, sc_ok rfl⟩
      simp only [f1, convert, Sem.run_bind, run_underlying e2, run_underlying e3, Result.andThen_ok, Conv.intToInt]
      rfl
    · rename_i b d e1 e2 e3
      obtain rfl := Option.some.inj h
      obtain ⟨f1, g1⟩ := asSc_ok e1 (ev_ok hR x)
      refine lift _ ⟨_, ?_, sc_ok rfl⟩
      simp only [f1, convert, Sem.run_bind, run_underlying e2, run_underlying e3, Result.andThen_ok]
      rfl
    · cases h
  | slice t x lo hi mx =>
    cases mx with
    | none => exact lift _ (quiet_slice hR h)
    | some m => simp [quietV] at h
  | fieldAddr t x f => exact lift _ (quiet_fieldAddr hR h)
  | field t x f => exact lift _ (quiet_field hR h)
  | indexAddr t x i => exact lift _ (quiet_indexAddr hR h)
  | index t x i =>
    simp only [quietV] at h
    split at h
    · rename_i n b e1 e2 e3
      split at h
      · rename_i hn
        split at h
        · rename_i c hc
          obtain rfl := Option.some.inj h
          obtain ⟨k, hk⟩ := asInt_ok e2 (ev_ok hR i)
          obtain ⟨f1, g1⟩ := asSc_ok e3 (ev_ok hR x)
          refine lift _ ⟨.int .u8 c.toNat, ?_, sc_ok rfl⟩
          simp only [f1, hk, Instr.index, asIntOf, Sem.run_bind, Sem.run_pure, Result.andThen_ok, run_underlying e1, if_pos hn, hc]
        · cases h
      · cases h
    · cases h
  | extract x i => exact lift _ (quiet_extract hR h)
  | call c =>
    obtain ⟨callee, args, ats⟩ := c
    cases callee with
    | builtin b =>
      cases b <;> first
        | (simp [quietV] at h; done)
        | (have := lift _ (quiet_len (ty := type) hR h)
           obtain ⟨u, h1, h2⟩ := this
           refine ⟨u, ?_, h2⟩
           rw [← h1]
           simp [execOp, resolve, invoke, builtin])
    | _ => simp [quietV] at h
  | _ => simp [quietV] at h
end
end Go.Proofs.Ytjjdjkkhhcbogaa.DM
