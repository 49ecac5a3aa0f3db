import Derived.Test.YtciieaidbiejmaaDB
import Derived.Lib.ConvBytes
import Derived.Laws.BytesString
import Derived.Sort.Grow
import Derived.Below
/-
  DM 27. More operations: the test against nil, conversions between strings and bytes, copy.
-/
namespace Go.Proofs.Ytciieaidbiejmaa.DM
set_option linter.unusedVariables false
set_option linter.unusedSimpArgs false
/-- A row, and how many elements it has. -/
def rowLen : DV → Option Nat
  | .v (.one (.t (.sl n _))) => some n
  | .v (.one (.sl _ _ _ n)) => some n
  | .v (.one .nl) => some 0
  | _ => none
section
variable {S0 : Fr} {w0 w w' : World} {M M' M1 : Heap} {X : List A} {P : Program} {nt : Nat} {s s1 : FS} {a : Act}
theorem rowLen_ok {v : DV} {u : Value} {n : Nat} (h : RelV S0 w0 M v u) (hl : rowLen v = some n) : ∃ A0 c, u = .slice A0 n c ∧ (A0 = none → n = 0) := by
  unfold rowLen at hl
  split at hl
  · obtain rfl := Option.some.inj hl
    cases h.1 with
    | t r v hro => cases hro with
      | sl ad n c cs vs r1 => exact ⟨_, _, rfl, by simp⟩
      | em a0 c => exact ⟨_, _, rfl, fun _ => rfl⟩
  · obtain rfl := Option.some.inj hl
    generalize ha : u = u' at h
    cases h.1 with
    | sl => exact ⟨_, _, rfl, by simp⟩
    | se => exact ⟨_, _, rfl, fun _ => rfl⟩
  · obtain rfl := Option.some.inj hl
    cases h.1 with
    | nl a0 => exact ⟨_, _, rfl, fun _ => rfl⟩
  · cases hl
theorem equal_nil {ty e : TypeId} {A0 : Option Addr} {n c : Nat} (hu : P.underlying ty = some (.slice e)) : (Op.equal ty (.slice A0 n c) (.slice none 0 0)).run P w = .ok A0.isNone w := by
  show (Op.equalIn (9999 + 1) ty (.slice A0 n c) (.slice none 0 0)).run P w = _
  unfold Op.equalIn
  rw [Sem.run_bind, run_underlying hu, Result.andThen_ok]
  cases A0 <;> rfl
/-- 'x == nil', of a slice: one of two; if it is nil it has no elements. -/
theorem OpStepE.eqNil {o : Oper} {d n : Nat} {ty e ty' : TypeId} {x : Operand} (ho : o.op = .binOp .eql ty x (.const (.slice none 0 0)) ty') (hd : o.dst = some d) (hdn : d < nt) (hu : P.underlying ty = some (.slice e)) (hx : rowLen (ev s.e x) = some n) :
    OpStepE P nt o s fun s1 => ∃ b : Bool, (b = true → n = 0) ∧ s1 = ⟨upd s.e d (.v (.one (.t (.sc (.bool b))))), s.h, s.g⟩ := fun S0 w0 M a w hR next Q hn => by
  obtain ⟨A0, c, hv, hz⟩ := rowLen_ok (ev_ok hR x) hx
  have hrun : (execOp a.eval o).run P w = .ok (.value (.bool A0.isNone)) w := by
    have h1 : binOp .eql ty (.slice A0 n c) (.slice none 0 0) = (do pure (.bool (← Op.equal ty (.slice A0 n c) (.slice none 0 0)))) := by unfold binOp; rfl
    have h2 : eqGuard .eql ty x (.const (.slice none 0 0)) (.slice A0 n c) (.slice none 0 0) = pure () := by unfold eqGuard; rfl
    have h3 : a.eval (.const (.slice none 0 0)) = .slice none 0 0 := rfl
    simp only [execOp, ho, hv, h3, h1, h2, Sem.run_bind, Sem.run_pure, Result.andThen_ok, equal_nil hu]
  unfold Oper.wp
  rw [hrun, Oper.upon_value, hd]
  exact hn _ M _ _ ⟨A0.isNone, fun h => hz (by simpa using h), rfl⟩ (hR.put ⟨.t _ _ (.sc _ rfl), rfl⟩ hdn)
def bytesD (b : ByteArray) : List D := b.data.toList.map fun c => .sc (.int .u8 c.toNat)
theorem bytesWorld_heap (w : World) (e : TypeId) (s : ByteArray) : (Lib.bytesWorld w e s).heap = w.heap.push (.cells (Lib.bytesCells w e s) e ((Lib.bytesCells w e s).size, (Lib.bytesCells w e s).size + 1)) := by
  apply Array.ext_getElem?
  intro i
  rcases Nat.lt_trichotomy i w.heap.size with h | h | h
  · rw [Lib.bytesWorld_at_old w e s i h, Array.getElem?_push_lt h, Array.getElem?_eq_getElem h]
  · subst h; rw [Lib.bytesWorld_at_new]; simp
  · rw [Array.getElem?_eq_none (by rw [Lib.bytesWorld_size]; omega), Array.getElem?_eq_none (by simp; omega)]
/-- '[]byte(s)'. -/
theorem OpStep.strBytes {o : Oper} {src dst e : TypeId} {u : TypeDesc} {x : Operand} {d : Nat} {b : ByteArray} (ho : o.op = .convert src dst x) (hd : o.dst = some d) (hdn : d < nt) (hs : P.underlying src = some u) (hds : P.underlying dst = some (.slice e)) (he : P.underlying e = some (.int .u8))
    (hx : ev s.e x = .v (.one (.t (.sc (.string b))))) (hb : b.size ≤ 2 ^ 40) (hh : s.h d = none) : OpStep P nt o s ⟨upd s.e d (.v (.one (.sl d [] 0 b.size))), upd s.h d (some (.ow () 1 b.size (bytesD b))), s.g⟩ := fun S0 w0 M a w hR next Q hn => by
  have hv := (asSc_ok (S0 := S0) (w0 := w0) (M := M) (x := .v (.one (.t (.sc (.string b))))) rfl (by rw [← hx]; exact ev_ok hR x)).1
  have hrun : (execOp a.eval o).run P w = .ok (.value (.slice (some ⟨w.heap.size, 0, none⟩) b.size (grownCap w b.size 0 e))) (Lib.bytesWorld w e b) := by
    have := Lib.run_convert_string_bytes (P := P) w src dst e b hs hds he
    simp only [execOp, ho, hv, Sem.run_bind, this, Result.andThen_ok, Sem.run_pure]
  have hge := grownCap_ge w b.size 0 e
  have hcm : grownCap w b.size 0 e ≤ maxLen := grownCap_le_maxLen w b.size 0 e (by simp only [maxLen]; omega)
  have hM : M d = none := by
    have := hR.er d
    rw [hh] at this
    cases hm : M d with
    | none => rfl
    | some t => rw [hm] at this; cases this
  have hI := hR.inv.hands (Y := b.data.toList.map fun c => (.sc (.int .u8 c.toNat) : A)) (fun y hy => by
    obtain ⟨c, _, rfl⟩ := List.mem_map.1 hy
    exact ⟨.sc _ rfl, rfl, rfl⟩)
  rw [List.nil_append] at hI
  have hcs : (Lib.bytesCells w e b).size = grownCap w b.size 0 e := by
    have : b.data.size = b.size := rfl
    simp [Lib.bytesCells, this]; omega
  have hnew := hI.new hM (sz := 1) (n := b.size) (c := grownCap w b.size 0 e) (bytesWorld_heap w e b) (fun i hi h => by have := h.1; simp only at this; have hi : i < (Lib.bytesCells w e b).size := hi; omega) (by omega) (by omega) hge hcm (by rw [List.length_map, Array.length_toList, Nat.mul_one]; rfl) (fun i y hi => by
    rw [List.getElem?_map, Option.map_eq_some_iff] at hi
    obtain ⟨c, hc, rfl⟩ := hi
    have hi' : i < b.data.size := by have := (List.getElem?_eq_some_iff.1 hc).1; simpa using this
    rw [Lib.bytesCells, Array.getElem?_append_left (by simpa using hi')]
    rw [Array.getElem?_toList] at hc
    simp [hc, T.val])
  unfold Oper.wp
  rw [hrun, Oper.upon_value, hd]
  have hR1 : Rel S0 w0 nt ⟨s.e, upd s.h d (some (.ow () 1 b.size (bytesD b))), s.g⟩ (upd M d (some (.ow (.blk w.heap.size 0 (grownCap w b.size 0 e)) 1 b.size (b.data.toList.map fun c => (.sc (.int .u8 c.toNat) : A))))) a (Lib.bytesWorld w e b) := by
    refine ⟨hnew, ?_, fun i => (hR.en i).keep (keeps_new hM), hR.nt, hR.df, fun i => (hR.gh i).keep (fun r _ => keeps_new hM r.1 r.2)⟩
    have := er_upd (id := d) (t := some (.ow (.blk w.heap.size 0 (grownCap w b.size 0 e)) 1 b.size (b.data.toList.map fun c => (.sc (.int .u8 c.toNat) : A)))) hR.er
    simp only [Option.map_some, er_ow_mk, List.map_map] at this
    exact this
  refine hn _ _ _ (hR1.put ⟨?_, rfl⟩ hdn)
  have := RelC.sl (S0 := S0) (w0 := w0) (M := upd M d (some (.ow (.blk w.heap.size 0 (grownCap w b.size 0 e)) 1 b.size (b.data.toList.map fun c => (.sc (.int .u8 c.toNat) : A))))) d [] 0 b.size w.heap.size 0 (grownCap w b.size 0 e) 1 b.size _ ⟨_, upd_same _ _ _, get_self _⟩ (by omega)
  simpa using this
/-- 'string(b)'. -/
theorem OpStep.bytesStr {o : Oper} {src dst e : TypeId} {x : Operand} {d n : Nat} {l : List UInt8} {s' : FS} {f : DC → DC} (ho : o.op = .convert src dst x) (hd : o.dst = some d) (hdn : d < nt) (hs : P.underlying src = some (.slice e)) (hds : P.underlying dst = some .string) (he : P.underlying e = some (.int .u8))
    (hx : rowLen (ev s.e x) = some n) (hsrc : srcCells s (ev s.e x) 1 = some (n, l.map (fun c => .sc (.int .u8 c.toNat)), s', f)) : OpStep P nt o s ⟨upd s.e d (.v (.one (.t (.sc (.string ⟨l.toArray⟩))))), s.h, s.g⟩ := fun S0 w0 M a w hR next Q hn => by
  obtain ⟨A0, c, hv, hz⟩ := rowLen_ok (ev_ok hR x) hx
  obtain ⟨M1, zs, hR1, e1, e2, e3, e4⟩ := src_ok (P := P) hR (ev_ok hR x) hsrc
  have hfold : ∀ (l : List UInt8) (acc : ByteArray), (l.map fun c => (c.toNat : Int)).foldl (fun r n => r.push (UInt8.ofNat n.toNat)) acc = ⟨acc.data ++ l.toArray⟩ := by
    intro l
    induction l with
    | nil => intro acc; simp
    | cons c l ih =>
      intro acc
      rw [List.map_cons, List.foldl_cons, ih]
      apply congrArg ByteArray.mk
      apply Array.ext'
      simp [ByteArray.push]
  have hzv : zs.map T.val = (l.map fun c => (c.toNat : Int)).map (Value.int .u8) := by
    have : ∀ (zs : List A) (l : List UInt8), zs.map er = l.map (fun c => (.sc (.int .u8 c.toNat) : D)) → zs.map T.val = (l.map fun c => (c.toNat : Int)).map (Value.int .u8) := fun zs => by
      induction zs with
      | nil => intro l h; cases l with | nil => rfl | cons _ _ => simp at h
      | cons z zs ih =>
        intro l h
        cases l with
        | nil => simp at h
        | cons c l =>
          simp only [List.map_cons, List.cons.injEq] at h ⊢
          refine ⟨?_, ih l h.2⟩
          cases z with
          | sc v => have := h.1; simp only [er, T.map, T.sc.injEq] at this; rw [this]; rfl
          | _ => have := h.1; simp [er, T.map] at this
    exact this zs l e1
  have hrun : (execOp a.eval o).run P w = .ok (.value (.string ⟨l.toArray⟩)) w := by
    have hb : (Conv.bytesToString (.slice A0 n c)).run P w = .ok (.string ⟨l.toArray⟩) w := by
      cases A0 with
      | none =>
        have hn0 := hz rfl
        have hl0 : l = [] := by
          have := e3
          rw [hn0] at this
          have hzl : zs = [] := List.length_eq_zero_iff.1 (by omega)
          rw [hzl] at e1
          simpa using e1.symm
        subst hl0
        rfl
      | some ad =>
        have hcells := e2.cells w rfl
        rw [hv] at hcells
        have hcells : (loadCells ad n).run P w = .ok (zs.map T.val).toArray w := by simpa [Builtin.firstCells] using hcells
        rw [hzv] at hcells
        rw [run_bytesToString w ad n c _ hcells, hfold]
        simp [ByteArray.empty, ByteArray.emptyWithCapacity]
        rfl
    simp only [execOp, ho, hv, convert, Sem.run_bind, run_underlying hs, run_underlying hds, run_underlying he, Result.andThen_ok, hb, Sem.run_pure]
  unfold Oper.wp
  rw [hrun, Oper.upon_value, hd]
  exact hn _ _ _ (hR.put ⟨.t _ _ (.sc _ rfl), rfl⟩ hdn)
end
end Go.Proofs.Ytciieaidbiejmaa.DM

/-
  DM 28. copy.
-/
namespace Go.Proofs.Ytciieaidbiejmaa.DM
set_option linter.unusedVariables false
set_option linter.unusedSimpArgs false
section
variable {S0 : Fr} {w0 w w' : World} {M M' M1 : Heap} {X : List A} {P : Program} {nt : Nat} {s s1 : FS} {a : Act}
/-- 'copy' of no more than there is room for. -/
theorem OpStep.copy {o : Oper} {x y : Operand} {tx ty e : TypeId} {d id off n m sz : Nat} {p : List Nat} {new : List D} {cs : List DC} {f : DC → DC} (ho : o.op = .call { callee := .builtin .copy, args := #[x, y], argTypes := #[tx, ty] }) (hd : o.dst = some d) (hdn : d < nt)
    (he : elemT P tx = some (e, sz)) (hx : ev s.e x = .v (.one (.sl id p off n))) (hy : srcCells s (ev s.e y) sz = some (m, new, s, f)) (hfl : new.all flatD = true) (hmn : m ≤ n) (hcs : rdCs d [] 0 new = some cs) (hst : storeL s id p off cs = some s1) :
    OpStep P nt o s ⟨upd s1.e d (.v (.one (.t (.sc (.int .i64 m))))), s1.h, s1.g⟩ := fun S0 w0 M a w hR next Q hn => by
  obtain ⟨u1, u2⟩ := elemT_ok he
  obtain ⟨M1, zs, hR1, e1, e2, e3, e4⟩ := src_ok (P := P) hR (ev_ok hR y) hy
  have hzf : ∀ z ∈ zs, flatD (er z) = true := fun z hz => List.all_eq_true.1 hfl _ (by rw [← e1]; exact List.mem_map_of_mem hz)
  have hL : RelL S0 w0 M1 cs (zs.map T.val) := rdZ (M := M1) (d := d) (fun i z hz => .inl (hzf z (List.mem_of_getElem? hz))) hR1.inv.xo (by rw [e1]; exact hcs)
  have hx1 := ev_ok hR1.noX x
  rw [hx] at hx1
  obtain ⟨hc, -⟩ := hx1
  have hmin : Nat.min m n = m := Nat.min_eq_left hmn
  have hlen := e2.len w
  have hcells := e2.cells w rfl
  have hrun : ∃ w1 M2, (Builtin.copy_ #[tx, ty] o.type #[a.eval x, a.eval y]).run P w = .ok (.int .i64 m) w1 ∧ Rel S0 w0 nt s1 M2 a w1 := by
    generalize hu : a.eval x = u at hc
    cases hc with
    | sl _ _ k _ b o' c sz2 m2 cs2 hat hle =>
      obtain ⟨M2, w1, hst1, hR2⟩ := storeL_ok (P := P) (b := b) (o := o' + k * sz2) (i := 0) hR1.noX hL (.pt id p (k * sz2) b o' c sz2 m2 cs2 hat) hst
      refine ⟨w1, M2, ?_, hR2⟩
      simp [Builtin.copy_, run_underlying u1, hlen, hmin, szT_ok u2, hcells, hst1, goInt]
    | se _ _ _ a0 d2 sz2 m2 cs2 hat =>
      have hm0 : m = 0 := by omega
      subst hm0
      have hz0 : zs = [] := List.length_eq_zero_iff.1 (by rw [e3, Nat.zero_mul])
      subst hz0
      have hc0 : cs = [] := List.length_eq_zero_iff.1 (by have := hL.1; simpa using this.symm)
      subst hc0
      simp only [storeL, Option.some.injEq] at hst
      subst hst
      refine ⟨w, M1, ?_, hR1.noX⟩
      cases a0 with
      | none => simp [Builtin.copy_, run_underlying u1, hlen, szT_ok u2, hcells, goInt]
      | some ad => simp [Builtin.copy_, run_underlying u1, hlen, szT_ok u2, hcells, goInt, storeCells]
  obtain ⟨w1, M2, h1, hR2⟩ := hrun
  have hop : (execOp a.eval o).run P w = .ok (.value (.int .i64 m)) w1 := by
    simp only [execOp, ho, resolve, Sem.run_bind, Sem.run_pure, Result.andThen_ok, invoke, builtin, List.map_toArray, List.map_cons, List.map_nil, h1]
  unfold Oper.wp
  rw [hop, Oper.upon_value, hd]
  exact hn _ _ _ (hR2.put ⟨.t _ _ (.sc _ rfl), rfl⟩ hdn)
end
end Go.Proofs.Ytciieaidbiejmaa.DM

/-
  DM 29. An empty row gets a name.
-/
namespace Go.Proofs.Ytciieaidbiejmaa.DM
set_option linter.unusedVariables false
set_option linter.unusedSimpArgs false
section
variable {P : Program} {nt : Nat} {s : FS}
/-- An empty slice in a temporary is a row of the call's own, without room. -/
theorem Ghost.nlRow (t id sz : Nat) (ht : s.e t = .v (.one .nl)) (hh : s.h id = none) : Ghost nt s ⟨upd s.e t (.v (.one (.sl id [] 0 0))), upd s.h id (some (.ow () sz 0 [])), s.g⟩ := fun S0 w0 M a w hR => by
  have hM : M id = none := by
    have := hR.er id
    rw [hh] at this
    cases hm : M id with
    | none => rfl
    | some t => rw [hm] at this; cases this
  have hen := hR.en t
  rw [ht] at hen
  obtain ⟨hc, h1⟩ := hen
  generalize hu : a.tmps.getD t undef = u at hc h1
  cases hc with
  | nl a0 =>
    refine ⟨upd M id (some (.ow (.emp a0) sz 0 [])), hR.inv.entryE a0 hM, ?_, fun i => ?_, hR.nt, hR.df, fun i => (hR.gh i).keep (fun r _ => keeps_new hM r.1 r.2)⟩
    · have := er_upd (id := id) (t := some (.ow (.emp a0) sz 0 [])) hR.er
      simp only [Option.map_some, er_ow_mk, List.map_nil] at this
      exact this
    · by_cases hi : i = t
      · subst hi
        simp only [upd_same]
        rw [hu]
        exact ⟨.se id [] 0 a0 _ _ _ _ ⟨_, upd_same _ _ _, get_self _⟩, rfl⟩
      · simp only
        rw [upd_ne _ _ _ _ hi]
        exact (hR.en i).keep (keeps_new hM)
theorem callArgs_local {s' : FS} {o : Oper} {ops : Array Oper} {f : Operand} {args : Array Operand} {ats : Array TypeId} {g : Nat} {vs : List DV} (ho : o.op = .call { callee := .value f, args := args, argTypes := ats }) (he : ∀ t ∈ o.looksAt ops, s'.e t = s.e t) (hc : callArgs s f args.toList = some (g, vs)) : callArgs s' f args.toList = some (g, vs) := by
  have hev := ev_local he
  have hf : ev s'.e f = ev s.e f := hev f (by simp [ho, Op.operands, Call.operands])
  have ha : args.toList.map (ev s'.e) = args.toList.map (ev s.e) := List.map_congr_left fun x hx => hev x (by simp [ho, Op.operands, Call.operands]; exact .inr (by simpa using hx))
  unfold callArgs at hc ⊢
  rw [hf, ha]
  exact hc
/-- A call with arguments that are read; its results are rows. -/
theorem Cert.callH {ops : Array Oper} {o : Oper} {f : Operand} {args : Array Operand} {ats : Array TypeId} {g d : Nat} {vs : List DV} {az az' : List PA} {sh : List (Option Nat)} {ds : List D} {cs : List DC} {δ : Add} (ho : o.op = .call { callee := .value f, args := args, argTypes := ats }) (hw : wantedD ops o s.e = some true)
    (hd : o.dst = some d) (hdn : d < nt) (hc : callArgs s f args.toList = some (g, vs)) (hS : Spec P g az sh ds az') (hr : rosOk s az.length 0 vs az) (hfl : ds.all flatD = false) (hro : widen az.length 0 vs = false ∨ noRoL ds = true) (hh : s.h d = none) (hrd : rdCs d [] 0 ds = some cs) (hδ : δ = ⟨d, packDV sh cs, some (.hold ds)⟩) :
    Cert P nt ops o (o.looksAt ops) (d :: (refsO s o ++ vs.flatMap refsDV)) δ s := fun s' he hhs => by
  subst hδ
  refine .inl ⟨(wanted_local he).trans hw, OpStep.callN ho (callArgs_local ho he hc) hS (rosOk_local (fun v hv i hi => hhs i (List.mem_cons_of_mem _ (List.mem_append_right _ (List.mem_flatMap.2 ⟨v, hv, hi⟩)))) hr) hro ?_⟩
  have hh' : s'.h d = none := (hhs d List.mem_cons_self).trans hh
  rw [hd]
  simp only [finish, hrd, if_pos hdn, hfl, hh', Bool.false_eq_true, if_false]
  rfl
theorem RegD.heavyF {ops : Array Oper} {N : List (Option Foot) → FS → Prop} {o : Oper} {l : List Oper} {acc : List (Option Foot)} {s1 : FS} (hw : wantedD ops o s.e = some true) (hc : stepF P nt o s = some s1) (hr : RegD P nt ops l (acc ++ [none]) s1 N) : RegD P nt ops (o :: l) acc s N := .inr ⟨s1, .inl ⟨hw, OpStep.of hc⟩, hr⟩
theorem RegD.nil {ops : Array Oper} {N : List (Option Foot) → FS → Prop} {acc : List (Option Foot)} (h : N acc s) : RegD P nt ops [] acc s N := h
end
end Go.Proofs.Ytciieaidbiejmaa.DM

/-
  DM 30. Cells that are only data, laid one behind the other.
-/
namespace Go.Proofs.Ytciieaidbiejmaa.DM
set_option linter.unusedVariables false
set_option linter.unusedSimpArgs false
theorem put_get_self {α β : Type} : ∀ (p : List Nat) (t x : T α β), t.get p = some x → t.put p x = t
  | [], t, x, h => by simp only [T.get, Option.some.injEq] at h; rw [h]; rfl
  | i :: p, t, x, h => by
    simp only [T.get] at h
    simp only [T.put]
    cases hc : t.cells[i]? with
    | none => rfl
    | some c =>
      rw [hc] at h
      simp only [put_get_self p c x h]
      have : t.cells.set i c = t.cells := by
        obtain ⟨h1, h2⟩ := List.getElem?_eq_some_iff.1 hc
        rw [← h2, List.set_getElem_self]
      rw [this]
      cases t <;> rfl
theorem upd_self {α : Type} (f : Nat → α) (k : Nat) (v : α) (h : f k = v) : upd f k v = f := by
  funext i
  by_cases hi : i = k
  · subst hi; rw [upd_same, h]
  · rw [upd_ne _ _ _ _ hi]
theorem storeL_flat : ∀ (rs : List RT) {s : FS} {id off sz n : Nat} {p : List Nat} {root : D} {cs : List D}, s.h id = some root → root.get p = some (.ow () sz n cs) → off + rs.length ≤ cs.length → (∀ (j : Nat) (x : D), off ≤ j → j < off + rs.length → cs[j]? = some x → isOw x = false) →
    storeL s id p off (rs.map .t) = some ⟨s.e, upd s.h id (some (root.put p (.ow () sz n (cs.take off ++ (rs.map roD ++ cs.drop (off + rs.length)))))), s.g⟩
  | [], s, id, off, sz, n, p, root, cs, hr, hg, hl, ho => by
    have h1 : root.put p (.ow () sz n (cs.take off ++ (([] : List RT).map roD ++ cs.drop (off + ([] : List RT).length)))) = root := put_get_self p root _ (by simpa using hg)
    rw [h1, upd_self _ _ _ hr]
    simp [storeL]
  | r :: rs, s, id, off, sz, n, p, root, cs, hr, hg, hl, ho => by
    have hlt : off < cs.length := by simp at hl; omega
    have hold := ho off _ (Nat.le_refl _) (by simp) (List.getElem?_eq_getElem hlt)
    have hab : absorb s (.t r) = some (roD r, s) := by cases r <;> rfl
    have hst : storeC s id p off (.t r) = some (⟨s.e, upd s.h id (some (root.put p (.ow () sz n (cs.set off (roD r))))), s.g⟩, fun c => c) := by
      unfold storeC
      rw [hab]
      simp only [pzOf, hr, hg, List.getElem?_eq_getElem hlt, hold, Bool.false_eq_true, if_false]
    have hsome : (root.get p).isSome = true := by rw [hg]; rfl
    have hg' : (root.put p (.ow () sz n (cs.set off (roD r)))).get p = some (.ow () sz n (cs.set off (roD r))) := by
      have := get_put_same p [] root (.ow () sz n (cs.set off (roD r))) hsome
      simpa [T.get] using this
    have ih := storeL_flat rs (s := ⟨s.e, upd s.h id (some (root.put p (.ow () sz n (cs.set off (roD r))))), s.g⟩) (off := off + 1) (upd_same _ _ _) hg' (by rw [List.length_set]; simp at hl; omega) (fun j x h1 h2 hx => by
      rw [List.getElem?_set_ne (by omega)] at hx
      exact ho j x (by omega) (by simp; omega) hx)
    rw [List.map_cons, storeL, hst]
    simp only [List.map_id']
    rw [ih, upd_upd, put_put]
    congr 5
    have h1 : (cs.set off (roD r)).take (off + 1) = cs.take off ++ [roD r] := by
      have hA : (cs.take off).length = off := by rw [List.length_take]; omega
      have h3 : cs.set off (roD r) = cs.take off ++ roD r :: cs.drop (off + 1) := by rw [List.set_eq_take_append_cons_drop, if_pos hlt]
      generalize roD r = x at h3 ⊢
      rw [h3]
      have h4 := List.take_length_add_append (l₁ := cs.take off) (l₂ := x :: cs.drop (off + 1)) 1
      rw [hA] at h4
      rw [h4]
      rfl
    have h2 : (cs.set off (roD r)).drop (off + 1 + rs.length) = cs.drop (off + (rs.length + 1)) := by
      rw [List.drop_set_of_lt (by omega)]
      congr 1
      omega
    rw [h1, h2]
    simp
theorem rdCs_flat {id : Nat} {p : List Nat} : ∀ (rs : List RT) (i : Nat), rdCs id p i (rs.map roD) = some (rs.map .t)
  | [], i => rfl
  | r :: rs, i => by
    have h1 : rdC id p i (roD r) = some (.t r) := by cases r <;> rfl
    rw [List.map_cons, rdCs, h1, rdCs_flat rs (i + 1)]
    rfl
theorem flat_all (rs : List RT) : (rs.map roD).all flatD = true := by
  rw [List.all_eq_true]
  intro x hx
  obtain ⟨r, _, rfl⟩ := List.mem_map.1 hx
  cases r <;> rfl
abbrev byteD (c : UInt8) : D := .sc (.int .u8 c.toNat)
/-- 'copy' of a string into a row of bytes. -/
theorem OpStep.copyStr {P : Program} {nt : Nat} {s : FS} {o : Oper} {x y : Operand} {tx ty e : TypeId} {d id off n N : Nat} {p : List Nat} {root : D} {l : List UInt8} {b : ByteArray} (ho : o.op = .call { callee := .builtin .copy, args := #[x, y], argTypes := #[tx, ty] }) (hd : o.dst = some d) (hdn : d < nt)
    (he : elemT P tx = some (e, 1)) (hx : ev s.e x = .v (.one (.sl id p off n))) (hy : ev s.e y = .v (.one (.t (.sc (.string b))))) (hh : s.h id = some root) (hg : root.get p = some (.ow () 1 N (l.map byteD))) (hoff : off + n ≤ l.length) (hmn : b.size ≤ n) :
    OpStep P nt o s ⟨upd s.e d (.v (.one (.t (.sc (.int .i64 b.size))))), upd s.h id (some (root.put p (.ow () 1 N ((l.take off ++ (b.data.toList ++ l.drop (off + b.size))).map byteD)))), s.g⟩ := by
  have hbl : (b.data.toList.map fun c => (RT.sc (.int .u8 c.toNat))).length = b.size := by rw [List.length_map, Array.length_toList]; rfl
  have hmap : (b.data.toList.map fun c => (RT.sc (.int .u8 c.toNat))).map roD = b.data.toList.map byteD := by rw [List.map_map]; rfl
  have hsrc : srcCells s (ev s.e y) 1 = some (b.size, (b.data.toList.map fun c => (RT.sc (.int .u8 c.toNat))).map roD, s, fun c => c) := by rw [hy, hmap]; simp [srcCells]
  have hst := storeL_flat (b.data.toList.map fun c => (RT.sc (.int .u8 c.toNat))) (off := off) hh hg (by rw [hbl, List.length_map]; omega) (fun j z h1 h2 hz => by
    rw [List.getElem?_map, Option.map_eq_some_iff] at hz
    obtain ⟨c, _, rfl⟩ := hz
    rfl)
  rw [hmap, hbl] at hst
  have := OpStep.copy ho hd hdn he hx hsrc (flat_all _) hmn (rdCs_flat _ 0) hst
  simpa only [List.map_append, List.map_take, List.map_drop] using this
end Go.Proofs.Ytciieaidbiejmaa.DM

/-
  DM 31. States told by lists; a state that tells less; loops over such states; calls whose arguments are reckoned.
-/
namespace Go.Proofs.Ytciieaidbiejmaa.DM
set_option linter.unusedVariables false
set_option linter.unusedSimpArgs false
def lkE : List (Nat × DV) → Nat → DV
  | [], _ => .un
  | (k, v) :: l, i => if i = k then v else lkE l i
def lkH : List (Nat × D) → Nat → Option D
  | [], _ => none
  | (k, v) :: l, i => if i = k then some v else lkH l i
def lkG : List (Nat × DC) → Nat → DC
  | [], _ => .un
  | (k, v) :: l, i => if i = k then v else lkG l i
/-- A state told by lists. -/
def St (e : List (Nat × DV)) (h : List (Nat × D)) (g : List (Nat × DC)) : FS := ⟨lkE e, lkH h, lkG g⟩
@[simp] theorem St_e (e h g i) : (St e h g).e i = lkE e i := rfl
@[simp] theorem St_h (e h g i) : (St e h g).h i = lkH h i := rfl
@[simp] theorem St_g (e h g i) : (St e h g).g i = lkG g i := rfl
@[simp] theorem lkE_nil (i) : lkE [] i = .un := rfl
@[simp] theorem lkE_cons (k v l i) : lkE ((k, v) :: l) i = if i = k then v else lkE l i := rfl
@[simp] theorem lkH_nil (i) : lkH [] i = none := rfl
@[simp] theorem lkH_cons (k v l i) : lkH ((k, v) :: l) i = if i = k then some v else lkH l i := rfl
@[simp] theorem lkG_nil (i) : lkG [] i = .un := rfl
@[simp] theorem lkG_cons (k v l i) : lkG ((k, v) :: l) i = if i = k then v else lkG l i := rfl
def refs1 : V1 → List Nat
  | .one c => refsDC c
  | .agg cs => cs.flatMap refsDC
def refsA : DV → List Nat
  | .un => []
  | .v x => refs1 x
  | .tup xs => xs.flatMap refs1
/-- What s' tells, s tells too; and the rows that s' refers to are told by both alike. -/
structure Sub (s s' : FS) : Prop where
  e : ∀ i, s'.e i = .un ∨ s'.e i = s.e i
  h : ∀ i, s'.h i = none ∨ s'.h i = s.h i
  g : ∀ i, s'.g i = .un ∨ s'.g i = s.g i
  r : ∀ i, ∀ id ∈ refsA (s'.e i), s'.h id = s.h id
  rg : ∀ i, ∀ id ∈ refsDC (s'.g i), s'.h id = s.h id
theorem Sub.refl (s : FS) : Sub s s := ⟨fun _ => .inr rfl, fun _ => .inr rfl, fun _ => .inr rfl, fun _ _ _ => rfl, fun _ _ _ => rfl⟩
section
variable {S0 : Fr} {w0 w w' : World} {M M' M1 : Heap} {P : Program} {nt : Nat} {s s' s1 : FS} {a : Act}
theorem refsC_DC {c : DC} {r : Nat × List Nat} (h : r ∈ refsC c) : r.1 ∈ refsDC c := by
  cases c with
  | fn f ids =>
    simp only [refsC, List.mem_map] at h
    obtain ⟨i, hi, rfl⟩ := h
    exact hi
  | _ => simp_all [refsC, refsDC]
theorem RelC.ids {c : DC} {v : Value} (h : RelC S0 w0 M c v) (hk : ∀ id ∈ refsDC c, ∀ q, Keeps M M1 id q) : RelC S0 w0 M1 c v :=
  h.keep fun r hr => hk r.1 (refsC_DC hr) r.2
theorem Rel1.ids {x : V1} {v : Value} (h : Rel1 S0 w0 M x v) (hk : ∀ id ∈ refs1 x, ∀ q, Keeps M M1 id q) : Rel1 S0 w0 M1 x v := by
  cases x with
  | one c => exact ⟨h.1.ids hk, h.2⟩
  | agg cs =>
    obtain ⟨vs, rfl, hl, h1, h2⟩ := h
    refine ⟨vs, rfl, hl, fun i c u hc hu => (h1 i c u hc hu).ids fun id hid => hk id ?_, h2⟩
    exact List.mem_flatMap.2 ⟨c, List.mem_of_getElem? hc, hid⟩
theorem RelV.ids {x : DV} {v : Value} (h : RelV S0 w0 M x v) (hk : ∀ id ∈ refsA x, ∀ q, Keeps M M1 id q) : RelV S0 w0 M1 x v := by
  cases x with
  | un => trivial
  | v x => exact Rel1.ids h hk
  | tup xs =>
    obtain ⟨vs, rfl, hl, h1⟩ := h
    refine ⟨vs, rfl, hl, fun i y u hy hu => (h1 i y u hy hu).ids fun id hid => hk id ?_⟩
    exact List.mem_flatMap.2 ⟨y, List.mem_of_getElem? hy, hid⟩
theorem Ghost.sub (hs : Sub s s') : Ghost nt s s' := fun S0 w0 M a w hR => by
  let M1 : Heap := fun i => match s'.h i with | none => none | some _ => M i
  have hM1 : ∀ i t, M1 i = some t → M i = some t := fun i t h => by
    simp only [M1] at h
    split at h
    · cases h
    · exact h
  have hsame : ∀ id, s'.h id = s.h id → M1 id = M id := fun id h => by
    simp only [M1]
    split
    · rename_i hn
      have := hR.er id
      rw [← h, hn] at this
      cases hm : M id with
      | none => rfl
      | some t => rw [hm] at this; cases this
    · rfl
  have hkeep : ∀ id, s'.h id = s.h id → ∀ q, Keeps M M1 id q := fun id h q x ⟨t, ht, hx⟩ => ⟨x.cells, t, by rw [hsame id h]; exact ht, by rw [hx]; cases x <;> rfl⟩
  have hI := hR.inv
  refine ⟨M1, ⟨fun i t h => hI.ok i t (hM1 i t h), fun i t h => hI.nd i t (hM1 i t h), fun i j t t' hij h h' => hI.dj i j t t' hij (hM1 i t h) (hM1 j t' h'), fun i t b h hb => hI.bl i t b (hM1 i t h) hb, hI.wd, hI.xo, hI.xn, fun i t h => hI.xd i t (hM1 i t h), hI.xb⟩, ?_, ?_, hR.nt, hR.df, ?_⟩
  · intro i
    rcases hs.h i with h | h
    · rw [h]; simp only [M1, h]; rfl
    · rw [hsame i h, h]; exact hR.er i
  · intro i
    rcases hs.e i with h | h
    · rw [h]; trivial
    · have := hR.en i
      rw [← h] at this
      exact this.ids fun id hid q => hkeep id (hs.r i id hid) q
  · intro i
    rcases hs.g i with h | h
    · rw [h]; exact .un _
    · have := hR.gh i
      rw [← h] at this
      exact this.ids fun id hid q => hkeep id (hs.rg i id hid) q
def chkE (s : FS) : List (Nat × DV) → Prop
  | [] => True
  | (k, v) :: l => s.e k = v ∧ chkE s l
def chkH (s : FS) : List (Nat × D) → Prop
  | [] => True
  | (k, v) :: l => s.h k = some v ∧ chkH s l
def chkG (s : FS) : List (Nat × DC) → Prop
  | [] => True
  | (k, v) :: l => s.g k = v ∧ chkG s l
def refsIn (h : List (Nat × D)) (ids : List Nat) : Bool := ids.all fun id => h.any fun p => id == p.1
def refsOk (e : List (Nat × DV)) (h : List (Nat × D)) (g : List (Nat × DC)) : Bool := (e.all fun p => refsIn h (refsA p.2)) && (g.all fun p => refsIn h (refsDC p.2))
theorem chkE_at : ∀ {l : List (Nat × DV)} {i : Nat}, chkE s l → (lkE l i = .un) ∨ (lkE l i = s.e i ∧ ∃ p ∈ l, p.2 = lkE l i)
  | [], i, _ => .inl rfl
  | (k, v) :: l, i, h => by
    simp only [lkE]
    split
    · rename_i hi
      subst hi
      exact .inr ⟨h.1.symm, (i, v), List.mem_cons_self, rfl⟩
    · rcases chkE_at (i := i) h.2 with h1 | ⟨h1, p, hp, h2⟩
      · exact .inl h1
      · exact .inr ⟨h1, p, List.mem_cons_of_mem _ hp, h2⟩
theorem chkH_at : ∀ {l : List (Nat × D)} {i : Nat}, chkH s l → (lkH l i = none ∧ ∀ p ∈ l, p.1 ≠ i) ∨ lkH l i = s.h i
  | [], i, _ => .inl ⟨rfl, fun p hp => by cases hp⟩
  | (k, v) :: l, i, h => by
    simp only [lkH]
    split
    · rename_i hi
      subst hi
      exact .inr h.1.symm
    · rename_i hi
      rcases chkH_at (i := i) h.2 with ⟨h1, h2⟩ | h1
      · refine .inl ⟨h1, fun p hp => ?_⟩
        rcases List.mem_cons.1 hp with rfl | hp
        · exact fun e => hi e.symm
        · exact h2 p hp
      · exact .inr h1
theorem chkG_at : ∀ {l : List (Nat × DC)} {i : Nat}, chkG s l → (lkG l i = .un) ∨ (lkG l i = s.g i ∧ ∃ p ∈ l, p.2 = lkG l i)
  | [], i, _ => .inl rfl
  | (k, v) :: l, i, h => by
    simp only [lkG]
    split
    · rename_i hi
      subst hi
      exact .inr ⟨h.1.symm, (i, v), List.mem_cons_self, rfl⟩
    · rcases chkG_at (i := i) h.2 with h1 | ⟨h1, p, hp, h2⟩
      · exact .inl h1
      · exact .inr ⟨h1, p, List.mem_cons_of_mem _ hp, h2⟩
theorem refsIn_at {h : List (Nat × D)} {ids : List Nat} (hr : refsIn h ids = true) (hh : chkH s h) : ∀ id ∈ ids, lkH h id = s.h id := fun id hid => by
  have := List.all_eq_true.1 hr id hid
  obtain ⟨p, hp, he⟩ := List.any_eq_true.1 this
  rcases chkH_at (i := id) hh with ⟨_, h2⟩ | h1
  · exact absurd (by simpa using he : id = p.1).symm (h2 p hp)
  · exact h1
theorem Sub.st {e : List (Nat × DV)} {h : List (Nat × D)} {g : List (Nat × DC)} (he : chkE s e) (hh : chkH s h) (hg : chkG s g) (hr : refsOk e h g = true) : Sub s (St e h g) := by
  simp only [refsOk, Bool.and_eq_true] at hr
  refine ⟨fun i => ?_, fun i => ?_, fun i => ?_, fun i id hid => ?_, fun i id hid => ?_⟩
  · rcases chkE_at (i := i) he with h1 | ⟨h1, _⟩
    · exact .inl h1
    · exact .inr h1
  · rcases chkH_at (i := i) hh with ⟨h1, _⟩ | h1
    · exact .inl h1
    · exact .inr h1
  · rcases chkG_at (i := i) hg with h1 | ⟨h1, _⟩
    · exact .inl h1
    · exact .inr h1
  · rcases chkE_at (i := i) he with h1 | ⟨_, p, hp, h2⟩
    · simp [h1, refsA] at hid
    · refine refsIn_at (List.all_eq_true.1 hr.1 p hp) hh id ?_
      rw [h2]; exact hid
  · rcases chkG_at (i := i) hg with h1 | ⟨_, p, hp, h2⟩
    · simp [h1, refsDC] at hid
    · refine refsIn_at (List.all_eq_true.1 hr.2 p hp) hh id ?_
      rw [h2]; exact hid
/-- The state is told anew by lists. -/
theorem DW.norm {c : Code} {Q : Exit → FS → Prop} (e : List (Nat × DV)) (h : List (Nat × D)) (g : List (Nat × DC)) (he : chkE s e) (hh : chkH s h) (hg : chkG s g) (hr : refsOk e h g = true) (k : DW P nt c (St e h g) Q) : DW P nt c s Q :=
  DW.ghost (Ghost.sub (Sub.st he hh hg hr)) k
/-- A loop over states told by lists: α is what changes from round to round. -/
theorem DW.loopS {α : Type} {c : Code} {Q : Exit → FS → Prop} (I : α → Prop) (m : α → Nat) (ve : α → List (Nat × DV)) (vh : α → List (Nat × D)) (fe : List (Nat × DV)) (fh : List (Nat × D)) (g : List (Nat × DC)) (a0 : α) (hI : I a0)
    (he : chkE s (ve a0 ++ fe)) (hh : chkH s (vh a0 ++ fh)) (hg : chkG s g) (hr : refsOk (ve a0 ++ fe) (vh a0 ++ fh) g = true)
    (round : ∀ a, I a → DW P nt c (St (ve a ++ fe) (vh a ++ fh) g) (thenQ (fun s1 => ∃ a', I a' ∧ m a' < m a ∧ chkE s1 (ve a' ++ fe) ∧ chkH s1 (vh a' ++ fh) ∧ chkG s1 g ∧ refsOk (ve a' ++ fe) (vh a' ++ fh) g = true) Q)) : DW P nt (.loop c) s Q := by
  refine DW.ghost (Ghost.sub (Sub.st he hh hg hr)) ?_
  refine DW.loopG (fun n s => ∃ a, I a ∧ n = m a ∧ s = St (ve a ++ fe) (vh a ++ fh) g) (n0 := m a0) ⟨a0, hI, rfl, rfl⟩ ?_
  rintro n s ⟨a, ha, rfl, rfl⟩
  refine (round a ha).mono fun e s1 h => ?_
  cases e with
  | normal =>
    obtain ⟨a', h1, h2, h3, h4, h5, h6⟩ := h
    exact ⟨_, m a', Ghost.sub (Sub.st h3 h4 h5 h6), h2, a', h1, rfl, rfl⟩
  | _ => exact h
/-- What a condition is. -/
def CondIs (v : Option Value) (t : Bool) : Prop := v = some (.bool t)
theorem DW.condB {c : Operand} {x y : Code} {Q : Exit → FS → Prop} {t : Bool} (hc : CondIs (asSc (ev s.e c)) t) (ht : t = true → DW P nt x s Q) (hf : t = false → DW P nt y s Q) : DW P nt (.cond c x y) s Q := DW.cond hc ht hf
/-- The values of arguments that are read, az the called function has them. -/
def roAll (s : FS) : List DV → Option (List PA)
  | [] => some []
  | v :: vs => match roA_ s v, roAll s vs with
    | some p, some ps => some (p :: ps)
    | _, _ => none
theorem roAll_ok : ∀ {vs : List DV} {az : List PA} {io k : Nat}, roAll s vs = some az → rosOk s io k vs az
  | [], az, io, k, h => by simp only [roAll, Option.some.injEq] at h; subst h; exact trivial
  | v :: vs, az, io, k, h => by
    simp only [roAll] at h
    split at h
    · rename_i p ps h1 h2
      obtain rfl := Option.some.inj h
      exact ⟨fun _ => h1, roAll_ok h2⟩
    · cases h
/-- A call whose arguments are read; they are reckoned. -/
theorem OpStep.callA {o : Oper} {f : Operand} {args : Array Operand} {ats : Array TypeId} {g : Nat} {vs : List DV} {az az' : List PA} {sh : List (Option Nat)} {ds : List D} (ho : o.op = .call { callee := .value f, args := args, argTypes := ats }) (hc : callArgs s f args.toList = some (g, vs))
    (hr : roAll s vs = some az) (hS : Spec P g az sh ds az') (hw : widen az.length 0 vs = false ∨ noRoL ds = true) (hf : finish nt s o.dst sh ds = some s1) : OpStep P nt o s s1 := OpStep.callN ho hc hS (roAll_ok hr) hw hf
theorem Cert.callA {ops : Array Oper} {o : Oper} {f : Operand} {args : Array Operand} {ats : Array TypeId} {g d : Nat} {vs : List DV} {az az' : List PA} {sh : List (Option Nat)} {ds : List D} {cs : List DC} {δ : Add} (ho : o.op = .call { callee := .value f, args := args, argTypes := ats }) (hw : wantedD ops o s.e = some true)
    (hd : o.dst = some d) (hdn : d < nt) (hc : callArgs s f args.toList = some (g, vs)) (hr : roAll s vs = some az) (hS : Spec P g az sh ds az') (hfl : ds.all flatD = true) (hro : widen az.length 0 vs = false ∨ noRoL ds = true) (hrd : rdCs d [] 0 ds = some cs) (hδ : δ = ⟨d, packDV sh cs, none⟩) :
    Cert P nt ops o (o.looksAt ops) (refsO s o ++ vs.flatMap refsDV) δ s := Cert.callN ho hw hd hdn hc hS (roAll_ok hr) hfl hro hrd hδ
end
attribute [simp] chkE chkH chkG roAll callArgs roA_ toRC widen ownV ownC finish packDV packD
end Go.Proofs.Ytciieaidbiejmaa.DM

/-
  DM 32. A struct's value is laid into a variable of its own while rows in it are lent: the rows move along, and go back at the end.
-/
namespace Go.Proofs.Ytciieaidbiejmaa.DM
set_option linter.unusedVariables false
set_option linter.unusedSimpArgs false
/-- Which row of a new variable a ghost is. -/
def boxG (d : Nat) : Nat → List DC → List D → DC → DC
  | i, .sl id p off n :: cs, .ow _ sz m zs :: xs, .sl id' p' off' n' => if id = id' ∧ p = p' ∧ off = 0 ∧ off' = 0 ∧ n = n' ∧ m = n ∧ 0 < n then .sl d [i] 0 n else boxG d (i + 1) cs xs (.sl id' p' off' n')
  | i, _ :: cs, _ :: xs, g => boxG d (i + 1) cs xs g
  | _, _, _, _ => .un
def orG : DC → DC → DC
  | .un, c => c
  | c, _ => c
section
variable {S0 : Fr} {w0 w w' : World} {M M' M1 : Heap} {X : List A} {P : Program} {nt : Nat} {s s1 : FS} {a : Act}
theorem boxG_at {d : Nat} {g : DC} : ∀ {i : Nat} {cs : List DC} {xs : List D}, boxG d i cs xs g = .un ∨ ∃ j id p n sz zs, g = .sl id p 0 n ∧ cs[j]? = some (.sl id p 0 n) ∧ xs[j]? = some (.ow () sz n zs) ∧ 0 < n ∧ boxG d i cs xs g = .sl d [i + j] 0 n := by
  intro i cs
  induction cs generalizing i with
  | nil => intro xs; exact .inl (by cases xs <;> rfl)
  | cons c cs ih =>
    intro xs
    cases xs with
    | nil => left; cases c <;> rfl
    | cons x xs =>
      have key : boxG d i (c :: cs) (x :: xs) g = boxG d (i + 1) cs xs g ∨ ∃ id p n sz zs, g = .sl id p 0 n ∧ c = .sl id p 0 n ∧ x = .ow () sz n zs ∧ 0 < n ∧ boxG d i (c :: cs) (x :: xs) g = .sl d [i] 0 n := by
        cases c with
        | sl id p off n =>
          cases x with
          | ow u sz m zs =>
            cases g with
            | sl id' p' off' n' =>
              simp only [boxG]
              by_cases h : id = id' ∧ p = p' ∧ off = 0 ∧ off' = 0 ∧ n = n' ∧ m = n ∧ 0 < n
              · obtain ⟨rfl, rfl, rfl, rfl, rfl, rfl, h0⟩ := h
                exact .inr ⟨id, p, m, sz, zs, rfl, rfl, rfl, h0, by simp [h0]⟩
              · exact .inl (by rw [if_neg h])
            | _ => exact .inl rfl
          | _ => exact .inl rfl
        | _ => exact .inl rfl
      rcases key with h | ⟨id, p, n, sz, zs, h1, h2, h3, h4, h5⟩
      · rw [h]
        rcases ih (i := i + 1) (xs := xs) with h' | ⟨j, id, p, n, sz, zs, h1, h2, h3, h4, h5⟩
        · exact .inl h'
        · exact .inr ⟨j + 1, id, p, n, sz, zs, h1, by simpa using h2, by simpa using h3, h4, by rw [h5]; congr 2; omega⟩
      · exact .inr ⟨0, id, p, n, sz, zs, h1, by simp [h2], by simp [h3], h4, by simpa using h5⟩
/-- The same row, the same value: but where it is empty. -/
theorem RelC.same {id n : Nat} {p : List Nat} {u v : Value} (hI : ∀ id t, M id = some t → Ok S0 w0 w t) (h0 : 0 < n) (h1 : RelC S0 w0 M (.sl id p 0 n) u) (h2 : RelC S0 w0 M (.sl id p 0 n) v) : u = v := by
  have key : ∀ u, RelC S0 w0 M (.sl id p 0 n) u → ∃ b o c sz m cs, at_ M id p (.ow (.blk b o c) sz m cs) ∧ u = .slice (some ⟨b, o, none⟩) n c := by
    intro u h
    generalize hoff : (0 : Nat) = off at h
    cases h with
    | sl id p k n b o c sz m cs g1 g2 =>
      have hsz : 0 < sz := by
        obtain ⟨t, ht, hx⟩ := g1
        have := (hI id t ht).get hx
        cases this with
        | ow _ _ _ _ _ _ _ _ _ _ _ k3 => exact k3.2.1
      have hk : k = 0 := by
        rcases Nat.eq_zero_or_pos k with h | h
        · exact h
        · have := Nat.mul_pos h hsz; omega
      subst hk
      exact ⟨b, o, c, sz, m, cs, g1, by simp⟩
    | se => omega
  obtain ⟨b, o, c, sz, m, cs, g1, rfl⟩ := key u h1
  obtain ⟨b', o', c', sz', m', cs', g2, rfl⟩ := key v h2
  have := at_unique g1 g2
  simp only [T.ow.injEq, AD.blk.injEq] at this
  obtain ⟨⟨rfl, rfl, rfl⟩, -⟩ := this
  rfl
/-- A struct is laid into a variable of its own; ghosts of rows in it go along. -/
theorem OpStep.boxR {o : Oper} {t : TypeId} {x : Operand} {d : Nat} {cs : List DC} {xs : List D} {s2 : FS} (ho : o.op = .box t x) (hd : o.dst = some d) (hdn : d < nt) (hcs : dcs (ev s.e x) = some cs) (hxs : absorbL s cs = some (xs, s2)) (hx0 : 0 < xs.length) (hnew : s2.h d = none) :
    OpStep P nt o s ⟨upd s2.e d (.v (.one (.pt d [] 0))), upd s2.h d (some (.ow () xs.length 1 xs)), fun k => orG (s2.g k) (boxG d 0 cs xs (s.g k))⟩ := fun S0 w0 M a w hR next Q hn => by
  have h : stepF P nt o s = some ⟨upd s2.e d (.v (.one (.pt d [] 0))), upd s2.h d (some (.ow () xs.length 1 xs)), s2.g⟩ := by
    simp only [stepF, ho, hd, hcs, hxs, hdn, hx0, and_self, if_true, FS.row, hnew]
  have hL := dcs_rel hcs (ev_ok hR x)
  obtain ⟨M1, ys, hR1, e1, e2, e3⟩ := absorbL_ok hR hL hxs
  rw [List.nil_append] at hR1
  have hlen : ys.length = xs.length := by rw [← e1, List.length_map]
  have hcur : ∀ (i : Nat) (y : A), ys[i]? = some y → (a.eval x).cells[i]? = some y.val := fun i y hi => by
    rw [← Array.getElem?_toList, ← e2, List.getElem?_map, hi]; rfl
  have hsz : (a.eval x).cells.size = xs.length := by rw [← Array.length_toList, ← e2, List.length_map, hlen]
  have hM : M1 d = none := by
    have := hR1.er d
    rw [hnew] at this
    cases hm : M1 d with
    | none => rfl
    | some u => rw [hm] at this; cases this
  have hrun : (execOp a.eval o).run P w = .ok (.value (.pointer (some ⟨w.heap.size, 0, none⟩))) (w.alloc (.cells (a.eval x).cells t)) := by simp [execOp, ho, Instr.box, newVar, newRow]
  have hR2 : Rel S0 w0 nt ⟨upd s2.e d (.v (.one (.pt d [] 0))), upd s2.h d (some (.ow () xs.length 1 xs)), s2.g⟩ (upd M1 d (some (.ow (.blk w.heap.size 0 1) xs.length 1 ys))) (a.put (some d) (.pointer (some ⟨w.heap.size, 0, none⟩))) (w.alloc (.cells (a.eval x).cells t)) := by
    exact entry_ok (v := .v (.one (.pt d [] 0))) (sz := xs.length) (n := 1) (xs := xs) hR1 hdn (by simp only [FS.row, hnew]) (by rw [er_ow_mk, e1]) (fun hM => hR1.inv.new hM (push_alloc w _ t) nofz' (by rw [hsz]; omega) hx0 (Nat.le_refl _) (by simp [maxLen]) (by omega) hcur) ⟨.pt d [] 0 w.heap.size 0 1 xs.length 1 ys ⟨_, upd_same _ _ _, get_self _⟩, rfl⟩
  unfold Oper.wp
  rw [hrun, Oper.upon_value, hd]
  refine hn _ _ _ ⟨hR2.inv, hR2.er, hR2.en, hR2.nt, hR2.df, fun k => ?_⟩
  have hg2 := hR2.gh k
  simp only at hg2 ⊢
  cases hs2 : s2.g k with
  | un =>
    simp only [orG]
    rcases boxG_at (d := d) (g := s.g k) (i := 0) (cs := cs) (xs := xs) with h1 | ⟨j, id, p, n, sz, zs, h1, h2, h3, h4, h5⟩
    · rw [h1]; exact .un _
    · rw [h5, Nat.zero_add]
      have hgk := hR.gh k
      rw [h1] at hgk
      have hjv : j < (a.eval x).cells.toList.length := by
        rw [hL.1]; exact (List.getElem?_eq_some_iff.1 h2).1
      have hv := hL.2.1 j _ _ h2 (List.getElem?_eq_getElem hjv)
      have heq := RelC.same hR.inv.ok h4 hgk hv
      have hjy : j < ys.length := by rw [hlen]; exact (List.getElem?_eq_some_iff.1 h3).1
      have hye : er ys[j] = .ow () sz n zs := by
        have : (ys.map er)[j]? = some (.ow () sz n zs) := by rw [e1]; exact h3
        rw [List.getElem?_map, List.getElem?_eq_getElem hjy] at this
        exact Option.some.inj this
      have hyv : ys[j].val = S0.gv k := by
        rw [heq]
        have : (ys.map T.val)[j]? = some ((a.eval x).cells.toList[j]) := by rw [e2]; exact List.getElem?_eq_getElem hjv
        rw [List.getElem?_map, List.getElem?_eq_getElem hjy] at this
        exact Option.some.inj this
      have hat : at_ (upd M1 d (some (.ow (.blk w.heap.size 0 1) xs.length 1 ys))) d [j] ys[j] := ⟨_, upd_same _ _ _, by simp [T.get, T.cells, hjy]⟩
      generalize ys[j] = y at hye hyv hat
      cases y with
      | ow dd sz' n' cs' =>
        rw [er_ow_mk] at hye
        simp only [T.ow.injEq, true_and] at hye
        obtain ⟨rfl, rfl, rfl⟩ := hye
        cases dd with
        | blk b o c =>
          rw [← hyv]
          have := RelC.sl (S0 := S0) (w0 := w0) d [j] 0 n' b o c sz' n' cs' hat (by omega)
          simpa [T.val] using this
        | emp a0 =>
          have hok := hR2.inv.ok _ _ (upd_same _ _ _)
          have hz : n' = 0 := by
            have hk := hok.cell (x := .ow (.emp a0) sz' n' cs') (by
              obtain ⟨t', ht', hx'⟩ := hat
              rw [upd_same] at ht'
              obtain rfl := Option.some.inj ht'
              simp only [T.get, T.cells] at hx'
              split at hx'
              · rename_i c hc; obtain rfl := Option.some.inj hx'; exact List.mem_of_getElem? hc
              · cases hx')
            cases hk; rfl
          omega
      | _ => simp [er, T.map] at hye
  | _ => rw [hs2] at hg2; exact hg2
end
attribute [simp] boxG orG
end Go.Proofs.Ytciieaidbiejmaa.DM

/-
  DM 33. Empty slices are data; a row goes back to where it came from.
-/
namespace Go.Proofs.Ytciieaidbiejmaa.DM
set_option linter.unusedVariables false
set_option linter.unusedSimpArgs false
def emC : DC → DC
  | .sl _ _ _ 0 => .t (.sl 0 [])
  | c => c
/-- References that follow a row into a cell of an argument's entry. -/
def plC (e io j : Nat) : DC → DC
  | .sl i q off n => if i = e then .sl io (j :: q) off n else if isAt io [j] i q then .un else .sl i q off n
  | .pt i q off => if i = e then .pt io (j :: q) off else if isAt io [j] i q then .un else .pt i q off
  | .fn f ids => if ids.contains e || ids.contains io then .un else .fn f ids
  | c => c
section
variable {S0 : Fr} {w0 w w' : World} {M M' M1 : Heap} {X : List A} {P : Program} {nt : Nat} {s s1 : FS} {a : Act}
theorem RelC.empty {c : DC} {v : Value} (h : RelC S0 w0 M c v) : RelC S0 w0 M (emC c) v := by
  cases c with
  | sl id p off n =>
    cases n with
    | zero =>
      simp only [emC]
      generalize hn : (0 : Nat) = n at h
      cases h with
      | sl id p k n b o c sz m cs g1 g2 => subst hn; exact .t _ _ (.em _ _)
      | se => exact .t _ _ (.em _ _)
    | succ n => exact h
  | _ => exact h
/-- Empty slices in a temporary are data. -/
theorem Ghost.empty (t : Nat) : Ghost nt s ⟨upd s.e t (mapV emC (s.e t)), s.h, s.g⟩ := fun S0 w0 M a w hR => ⟨M, hR.inv, hR.er, fun i => by
  by_cases hi : i = t
  · subst hi
    show RelV S0 w0 M (upd s.e i (mapV emC (s.e i)) i) _
    rw [upd_same]
    exact (hR.en i).mapV fun c v h => h.empty
  · show RelV S0 w0 M (upd s.e t (mapV emC (s.e t)) i) _
    rw [upd_ne _ _ _ _ hi]; exact hR.en i, hR.nt, hR.df, hR.gh⟩
/-- A row of its own goes into a cell of an argument's entry. -/
theorem Ghost.plant (e io j : Nat) {cs : List D} {sz n : Nat} {xs : List D} (he : s.h e = some (.ow () sz n xs)) (hio : s.h io = some (.hold cs)) (hj : cs[j]? = some (.gone ())) :
    Ghost nt s ⟨fun i => mapV (plC e io j) (s.e i), upd (upd s.h e none) io (some (.hold (cs.set j (.ow () sz n xs)))), fun i => plC e io j (s.g i)⟩ := fun S0 w0 M a w hR => by
  have hne : e ≠ io := fun h => by rw [h, hio] at he; cases he
  obtain ⟨x, hx, hxe⟩ : ∃ x, M e = some x ∧ er x = .ow () sz n xs := by
    have := hR.er e
    rw [he] at this
    cases hm : M e with
    | none => rw [hm] at this; cases this
    | some x => rw [hm] at this; exact ⟨x, rfl, (Option.some.inj this).symm⟩
  obtain ⟨t, ht, hte⟩ : ∃ t, M io = some t ∧ er t = .hold cs := by
    have := hR.er io
    rw [hio] at this
    cases hm : M io with
    | none => rw [hm] at this; cases this
    | some x => rw [hm] at this; exact ⟨x, rfl, (Option.some.inj this).symm⟩
  obtain ⟨zs, rfl, hzs⟩ : ∃ zs, t = .hold zs ∧ zs.map er = cs := by
    cases t with
    | hold zs => rw [er_hold] at hte; exact ⟨zs, rfl, by simpa using hte⟩
    | _ => simp [er, T.map] at hte
  obtain ⟨u, hu⟩ : ∃ u, zs[j]? = some (.gone u) := by
    rw [← hzs, List.getElem?_map, Option.map_eq_some_iff] at hj
    obtain ⟨y, hy, hye⟩ := hj
    cases y with
    | gone u => exact ⟨u, hy⟩
    | _ => simp [er, T.map] at hye
  have hxh : x.isHold = false := by cases x <;> first | rfl | (simp [er, T.map] at hxe)
  have hjl : j < zs.length := (List.getElem?_eq_some_iff.1 hu).1
  have hxone : x.val.oneCell' = true := (hR.inv.ok e x hx).one hxh
  -- the cell that is waiting holds any value
  have hI0 : Inv S0 w0 (upd M io (some (.hold (zs.set j (.gone x.val))))) [] w := by
    have hI := hR.inv
    have hbl : (T.hold (zs.set j (.gone x.val)) : A).blocks = (T.hold zs : A).blocks := by
      have hsplit : zs = zs.take j ++ (.gone u :: zs.drop (j + 1)) := by
        have := (List.getElem?_eq_some_iff.1 hu).2
        rw [← this, List.getElem_cons_drop, List.take_append_drop]
      have hset : zs.set j (.gone x.val) = zs.take j ++ (.gone x.val :: zs.drop (j + 1)) := by rw [List.set_eq_take_append_cons_drop, if_pos hjl]
      rw [hset]
      conv => rhs; rw [hsplit]
      simp [T.blocks, T.blocksL_eq]
    have hlook : ∀ i v, upd M io (some (.hold (zs.set j (.gone x.val)))) i = some v → (i = io ∧ v = .hold (zs.set j (.gone x.val))) ∨ (i ≠ io ∧ M i = some v) := fun i v hv => by
      by_cases hi : i = io
      · subst hi; rw [upd_same] at hv; exact .inl ⟨rfl, (Option.some.inj hv).symm⟩
      · rw [upd_ne _ _ _ _ hi] at hv; exact .inr ⟨hi, hv⟩
    refine ⟨?_, ?_, ?_, ?_, hI.wd, by simp, by simp, by simp, by simp⟩
    · intro i v hv
      rcases hlook i v hv with ⟨rfl, rfl⟩ | ⟨_, hm⟩
      · have hk := hI.ok _ _ ht
        cases hk with
        | hold _ k1 k2 =>
          refine .hold _ (fun y hy => ?_) (fun y hy => ?_)
          · rcases List.mem_or_eq_of_mem_set hy with h | rfl
            · exact k1 y h
            · exact .gone _ hxone
          · rcases List.mem_or_eq_of_mem_set hy with h | rfl
            · exact k2 y h
            · rfl
      · exact hI.ok i v hm
    · intro i v hv
      rcases hlook i v hv with ⟨rfl, rfl⟩ | ⟨_, hm⟩
      · rw [hbl]; exact hI.nd _ _ ht
      · exact hI.nd i v hm
    · intro i k v v' hik hv hv' b hb hb'
      rcases hlook i v hv with ⟨rfl, rfl⟩ | ⟨hi, hm⟩
      · rcases hlook k v' hv' with ⟨rfl, rfl⟩ | ⟨hk, hm'⟩
        · exact absurd rfl hik
        · rw [hbl] at hb; exact hI.dj _ _ _ _ hik ht hm' b hb hb'
      · rcases hlook k v' hv' with ⟨rfl, rfl⟩ | ⟨hk, hm'⟩
        · rw [hbl] at hb'; exact hI.dj _ _ _ _ hik hm ht b hb hb'
        · exact hI.dj i k v v' hik hm hm' b hb hb'
    · intro i v b hv hb
      rcases hlook i v hv with ⟨rfl, rfl⟩ | ⟨_, hm⟩
      · rw [hbl] at hb; exact hI.bl _ _ b ht hb
      · exact hI.bl i v b hm hb
  -- the row is taken in hand
  have he0 : upd M io (some (.hold (zs.set j (.gone x.val)))) e = some x := by rw [upd_ne _ _ _ _ hne]; exact hx
  have hI1 := (hI0.take (p := []) he0 rfl hxh).drop e
  rw [upd_upd, List.nil_append] at hI1
  have hio1 : upd (upd M io (some (.hold (zs.set j (.gone x.val))))) e none io = some (.hold (zs.set j (.gone x.val))) := by rw [upd_ne _ _ _ _ (Ne.symm hne), upd_same]
  have hI2 := hI1.back (p := [j]) (u := x.val) hio1 (by simp [T.get, T.cells, hjl]) rfl
  have hput : (T.hold (zs.set j (.gone x.val)) : A).put [j] x = .hold (zs.set j x) := by simp [T.put, T.cells, hjl, T.withCells]
  rw [hput] at hI2
  -- what is kept
  have hfar : ∀ i q, i ≠ e → ¬ (i = io ∧ [j] <+: q) → Keeps M (upd (upd (upd M io (some (.hold (zs.set j (.gone x.val))))) e none) io (some (.hold (zs.set j x)))) i q := fun i q h1 h2 => by
    by_cases hi : i = io
    · subst hi
      rintro y ⟨t', ht', hy⟩
      rw [ht] at ht'
      obtain rfl := Option.some.inj ht'
      obtain ⟨cs', h⟩ := get_put_other [j] q (.hold zs) x y hy (fun h => h2 ⟨rfl, h⟩)
      refine ⟨cs', .hold (zs.set j x), upd_same _ _ _, ?_⟩
      rw [← h]
      simp [T.put, T.cells, hu, T.withCells, T.put]
    · rintro y ⟨t', ht', hy⟩
      exact ⟨y.cells, t', by rw [upd_ne _ _ _ _ hi, upd_ne _ _ _ _ h1, upd_ne _ _ _ _ hi]; exact ht', by rw [hy]; cases y <;> rfl⟩
  have hnear : ∀ q y, at_ M e q y → at_ (upd (upd (upd M io (some (.hold (zs.set j (.gone x.val))))) e none) io (some (.hold (zs.set j x)))) io (j :: q) y := fun q y ⟨t', ht', hy⟩ => by
    rw [hx] at ht'
    obtain rfl := Option.some.inj ht'
    exact ⟨_, upd_same _ _ _, by simp only [T.get, T.cells, List.getElem?_set_self hjl]; exact hy⟩
  have hcv : ∀ (c : DC) (v : Value), RelC S0 w0 M c v → RelC S0 w0 (upd (upd (upd M io (some (.hold (zs.set j (.gone x.val))))) e none) io (some (.hold (zs.set j x)))) (plC e io j c) v := by
    intro c v hc
    cases hc with
    | un v => exact .un v
    | t r v h => exact .t r v h
    | nl a => exact .nl a
    | rp cs a h => exact .rp cs a h
    | sl i q k n b o c' sz m cs g1 g2 =>
      simp only [plC]
      split
      · rename_i hi; subst hi; exact .sl io _ k n b o c' sz m cs (hnear q _ g1) g2
      · rename_i hi
        split
        · exact .un _
        · rename_i hn
          refine (RelC.sl i q k n b o c' sz m cs g1 g2).keep fun r hr => ?_
          simp [refsC] at hr; subst hr
          exact hfar i q hi (fun ⟨h1, h2⟩ => hn (by simp [isAt, h1, h2]))
    | se i q off a d sz m cs g1 =>
      simp only [plC]
      split
      · rename_i hi; subst hi; exact .se io _ off a d sz m cs (hnear q _ g1)
      · rename_i hi
        split
        · exact .un _
        · rename_i hn
          refine (RelC.se i q off a d sz m cs g1).keep fun r hr => ?_
          simp [refsC] at hr; subst hr
          exact hfar i q hi (fun ⟨h1, h2⟩ => hn (by simp [isAt, h1, h2]))
    | pt i q off b o c' sz m cs g1 =>
      simp only [plC]
      split
      · rename_i hi; subst hi; exact .pt io _ off b o c' sz m cs (hnear q _ g1)
      · rename_i hi
        split
        · exact .un _
        · rename_i hn
          refine (RelC.pt i q off b o c' sz m cs g1).keep fun r hr => ?_
          simp [refsC] at hr; subst hr
          exact hfar i q hi (fun ⟨h1, h2⟩ => hn (by simp [isAt, h1, h2]))
    | fn f ids ps hl hp =>
      simp only [plC]
      split
      · exact .un _
      · rename_i hn
        simp only [Bool.or_eq_true, not_or, List.contains_iff_mem] at hn
        refine (RelC.fn f ids ps hl hp).keep fun r hr => ?_
        simp only [refsC, List.mem_map] at hr
        obtain ⟨i, hi, rfl⟩ := hr
        exact hfar i [] (fun h => hn.1 (h ▸ hi)) (fun h => hn.2 (h.1 ▸ hi))
  refine ⟨_, hI2, fun i => ?_, fun i => (hR.en i).mapV hcv, hR.nt, hR.df, fun i => hcv _ _ (hR.gh i)⟩
  by_cases hi : i = io
  · subst hi
    show upd (upd s.h e none) i _ i = _
    rw [upd_same, upd_same, Option.map_some, er_hold, List.map_set, hxe, hzs]
  · show upd (upd s.h e none) io _ i = _
    rw [upd_ne _ _ _ _ hi, upd_ne _ _ _ _ hi]
    by_cases hie : i = e
    · subst hie; rw [upd_same, upd_same]; rfl
    · rw [upd_ne _ _ _ _ hie, upd_ne _ _ _ _ hie, upd_ne _ _ _ _ hi]; exact hR.er i
end
theorem OpStep.st {P : Program} {nt : Nat} {o : Oper} {s s2 : FS} {e : List (Nat × DV)} {h : List (Nat × D)} {g : List (Nat × DC)} (hs : OpStep P nt o s s2) (he : chkE s2 e) (hh : chkH s2 h) (hg : chkG s2 g) (hr : refsOk e h g = true) : OpStep P nt o s (St e h g) := OpStep.ghost Ghost.refl hs (Ghost.sub (Sub.st he hh hg hr))
theorem Cert.callHA {P : Program} {nt : Nat} {s : FS} {ops : Array Oper} {o : Oper} {f : Operand} {args : Array Operand} {ats : Array TypeId} {g d : Nat} {vs : List DV} {az az' : List PA} {sh : List (Option Nat)} {ds : List D} {cs : List DC} {δ : Add} (ho : o.op = .call { callee := .value f, args := args, argTypes := ats }) (hw : wantedD ops o s.e = some true)
    (hd : o.dst = some d) (hdn : d < nt) (hc : callArgs s f args.toList = some (g, vs)) (hr : roAll s vs = some az) (hS : Spec P g az sh ds az') (hfl : ds.all flatD = false) (hro : widen az.length 0 vs = false ∨ noRoL ds = true) (hh : s.h d = none) (hrd : rdCs d [] 0 ds = some cs) (hδ : δ = ⟨d, packDV sh cs, some (.hold ds)⟩) :
    Cert P nt ops o (o.looksAt ops) (d :: (refsO s o ++ vs.flatMap refsDV)) δ s := Cert.callH ho hw hd hdn hc hS (roAll_ok hr) hfl hro hh hrd hδ
@[simp] theorem emC_t (r : RT) : emC (.t r) = .t r := rfl
@[simp] theorem emC_un : emC .un = .un := rfl
@[simp] theorem emC_nl : emC .nl = .nl := rfl
@[simp] theorem emC_pt (id : Nat) (p : List Nat) (off : Nat) : emC (.pt id p off) = .pt id p off := rfl
@[simp] theorem emC_rp (cs : List RT) : emC (.rp cs) = .rp cs := rfl
@[simp] theorem emC_sl0 (id : Nat) (p : List Nat) (off : Nat) : emC (.sl id p off 0) = .t (.sl 0 []) := rfl
attribute [simp] plC mapV
end Go.Proofs.Ytciieaidbiejmaa.DM

/-
  DM 34. An empty slice without a width gets one.
-/
namespace Go.Proofs.Ytciieaidbiejmaa.DM
set_option linter.unusedVariables false
set_option linter.unusedSimpArgs false
section
variable {S0 : Fr} {w0 w w' : World} {M M' M1 : Heap} {X : List A} {P : Program} {nt : Nat} {s s1 : FS} {a : Act}
theorem put_blocks_same {p : List Nat} {t x y : A} (hx : t.get p = some x) (hb : y.blocks = x.blocks) : (t.put p y).blocks = t.blocks := by
  obtain ⟨L, R, h1, h2⟩ := put_blocks y hx
  rw [h1, h2, hb]
theorem Rel1.imp {x : V1} {v : Value} (h : Rel1 S0 w0 M x v) (hf : ∀ c v, RelC S0 w0 M c v → RelC S0 w0 M' c v) : Rel1 S0 w0 M' x v := by
  cases x with
  | one c => exact ⟨hf _ _ h.1, h.2⟩
  | agg cs =>
    obtain ⟨vs, rfl, hl, h1, h2⟩ := h
    exact ⟨vs, rfl, hl, fun i c u hc hu => hf _ _ (h1 i c u hc hu), h2⟩
theorem RelV.imp {x : DV} {v : Value} (h : RelV S0 w0 M x v) (hf : ∀ c v, RelC S0 w0 M c v → RelC S0 w0 M' c v) : RelV S0 w0 M' x v := by
  cases x with
  | un => trivial
  | v x => exact Rel1.imp h hf
  | tup xs =>
    obtain ⟨vs, rfl, hl, h1⟩ := h
    exact ⟨vs, rfl, hl, fun i y u hy hu => (h1 i y u hy hu).imp hf⟩
theorem Ghost.wide (id : Nat) (p : List Nat) (sz : Nat) {root : D} (hr : s.h id = some root) (hg : root.get p = some (.ow () 0 0 [])) : Ghost nt s ⟨s.e, upd s.h id (some (root.put p (.ow () sz 0 []))), s.g⟩ := fun S0 w0 M a w hR => by
  obtain ⟨t, ht, hte⟩ : ∃ t, M id = some t ∧ root = er t := by
    have := hR.er id
    rw [hr] at this
    cases hm : M id with
    | none => rw [hm] at this; cases this
    | some t => rw [hm] at this; exact ⟨t, rfl, Option.some.inj this⟩
  subst hte
  have hg' := hg
  unfold er at hg'
  rw [T.get_map] at hg'
  obtain ⟨y, hy, hye⟩ := Option.map_eq_some_iff.1 hg'
  have hye : er y = .ow () 0 0 [] := hye
  have hI := hR.inv
  have hyok := (hI.ok id t ht).get hy
  obtain ⟨a0, rfl⟩ := emp_of (sz0 := 0) hye hyok
  have hbl : (T.ow (.emp a0) sz 0 [] : A).blocks = (T.ow (.emp a0) 0 0 [] : A).blocks := by simp [T.blocks, T.blocksL]
  have hok' : Ok S0 w0 w (t.put p (.ow (.emp a0) sz 0 [])) := (hI.ok id t ht).put (hI.nd id t ht) hy (.em a0 sz) rfl rfl (fun _ _ _ => rfl)
  have hlook : ∀ i v, upd M id (some (t.put p (.ow (.emp a0) sz 0 []))) i = some v → ∃ u, M i = some u ∧ v.blocks = u.blocks ∧ Ok S0 w0 w v := fun i v hv => by
    by_cases hi : i = id
    · subst hi; rw [upd_same] at hv; obtain rfl := Option.some.inj hv; exact ⟨t, ht, put_blocks_same hy hbl, hok'⟩
    · rw [upd_ne _ _ _ _ hi] at hv; exact ⟨v, hv, rfl, hI.ok i v hv⟩
  have hcv : ∀ (c : DC) (v : Value), RelC S0 w0 M c v → RelC S0 w0 (upd M id (some (t.put p (.ow (.emp a0) sz 0 [])))) c v := by
    have hfar : ∀ i q, ¬ (i = id ∧ p = q) → ∀ x, at_ M i q x → ∃ cs, at_ (upd M id (some (t.put p (.ow (.emp a0) sz 0 [])))) i q (x.withCells cs) := fun i q hn x ⟨t', ht', hx⟩ => by
      by_cases hi : i = id
      · subst hi
        rw [ht] at ht'
        obtain rfl := Option.some.inj ht'
        by_cases hpq : p <+: q
        · obtain ⟨r, rfl⟩ := hpq
          cases r with
          | nil => exact absurd ⟨rfl, by simp⟩ hn
          | cons j r =>
            rw [get_below p (j :: r) t _ hy] at hx
            simp [T.get, T.cells] at hx
        · obtain ⟨cs', h⟩ := get_put_other p q t (.ow (.emp a0) sz 0 []) x hx hpq
          exact ⟨cs', _, upd_same _ _ _, h⟩
      · exact ⟨x.cells, t', by rw [upd_ne _ _ _ _ hi]; exact ht', by rw [hx]; cases x <;> rfl⟩
    have hnear : at_ (upd M id (some (t.put p (.ow (.emp a0) sz 0 [])))) id p (.ow (.emp a0) sz 0 []) := ⟨_, upd_same _ _ _, by
      have := get_put_same p [] t (.ow (.emp a0) sz 0 []) (by rw [hy]; rfl)
      simpa [T.get] using this⟩
    have hat0 : at_ M id p (.ow (.emp a0) 0 0 []) := ⟨t, ht, hy⟩
    intro c v hc
    cases hc with
    | un v => exact .un v
    | t r v h => exact .t r v h
    | nl a => exact .nl a
    | rp cs a h => exact .rp cs a h
    | sl i q k n b o c' sz' m cs g1 g2 =>
      by_cases hn : i = id ∧ p = q
      · obtain ⟨rfl, rfl⟩ := hn
        have := at_unique g1 hat0
        simp at this
      · obtain ⟨cs', h⟩ := hfar i q hn _ g1
        exact .sl i q k n b o c' sz' m cs' h g2
    | se i q off a d sz' m cs g1 =>
      by_cases hn : i = id ∧ p = q
      · obtain ⟨rfl, rfl⟩ := hn
        exact .se i p off a _ sz 0 [] hnear
      · obtain ⟨cs', h⟩ := hfar i q hn _ g1
        exact .se i q off a d sz' m cs' h
    | pt i q off b o c' sz' m cs g1 =>
      by_cases hn : i = id ∧ p = q
      · obtain ⟨rfl, rfl⟩ := hn
        have := at_unique g1 hat0
        simp at this
      · obtain ⟨cs', h⟩ := hfar i q hn _ g1
        exact .pt i q off b o c' sz' m cs' h
    | fn f ids ps hl hp =>
      refine .fn f ids ps hl fun i id' ad hi ha => ?_
      obtain ⟨b, o, c, sz', cs, g1, g2⟩ := hp i id' ad hi ha
      by_cases hn : id' = id ∧ p = []
      · obtain ⟨rfl, rfl⟩ := hn
        have := at_unique g1 hat0
        simp at this
      · obtain ⟨cs', h⟩ := hfar id' [] (fun h => hn ⟨h.1, h.2⟩) _ g1
        exact ⟨b, o, c, sz', cs', h, g2⟩
  refine ⟨_, ⟨fun i v hv => ?_, fun i v hv => ?_, fun i j v v' hij hv hv' b hb hb' => ?_, fun i v b hv hb => ?_, hI.wd, by simp, by simp, by simp, by simp⟩, fun i => ?_, fun i => ?_, hR.nt, hR.df, fun i => hcv _ _ (hR.gh i)⟩
  · exact (hlook i v hv).choose_spec.2.2
  · obtain ⟨u, h1, h2, -⟩ := hlook i v hv; rw [h2]; exact hI.nd i u h1
  · obtain ⟨u, h1, h2, -⟩ := hlook i v hv
    obtain ⟨u', h1', h2', -⟩ := hlook j v' hv'
    rw [h2] at hb; rw [h2'] at hb'
    exact hI.dj i j u u' hij h1 h1' b hb hb'
  · obtain ⟨u, h1, h2, -⟩ := hlook i v hv; rw [h2] at hb; exact hI.bl i u b h1 hb
  · by_cases hi : i = id
    · subst hi
      show upd s.h i _ i = _
      rw [upd_same, upd_same, Option.map_some, er_put]
      rfl
    · show upd s.h id _ i = _
      rw [upd_ne _ _ _ _ hi, upd_ne _ _ _ _ hi]; exact hR.er i
  · exact (hR.en i).imp hcv
end
end Go.Proofs.Ytciieaidbiejmaa.DM

/-
  DM 35. Steps that add, in regions whose order is not told: an empty slice; what is appended to nothing.
-/
namespace Go.Proofs.Ytciieaidbiejmaa.DM
set_option linter.unusedVariables false
set_option linter.unusedSimpArgs false
section
variable {P : Program} {nt : Nat} {s : FS} {ops : Array Oper} {o : Oper}
theorem Cert.nilSlice {t e : TypeId} {d sz : Nat} {z : List Value} {zs : List DC} (ho : o.op = .buildSlice t 0 #[]) (hg : o.guard = none) (hd : o.dst = some d) (hdn : d < nt) (he : elemT P t = some (e, sz)) (hz : zeroT P e = some z) (hzs : mapO zcC z = some zs) (hl : zs.length = sz) (h0 : 0 < sz) :
    Cert P nt ops o (o.looksAt ops) (refsO s o) ⟨d, .v (.one .nl), none⟩ s := fun s' _ _ => .inl ⟨by simp [wantedD, hg], OpStep.of (by
  unfold stepF
  rw [ho]
  simp only [hd, he, hz, hzs, partsC, hl, h0, Nat.zero_mul, hdn, and_self, true_and, List.length_nil, if_true]
  rw [if_pos (by decide)]
  rfl)⟩
/-- What is only read is appended to nothing: a new row. -/
theorem Cert.appNil {x y : Operand} {tx ty e : TypeId} {du : TypeDesc} {d sz m : Nat} {z : List Value} {rcs : List RT} (ho : o.op = .call { callee := .builtin .append, args := #[x, y], argTypes := #[tx, ty] }) (hg : o.guard = none) (hd : o.dst = some d) (hdn : d < nt) (he : elemT P tx = some (e, sz)) (hu : P.underlying ty = some du) (hrow : isRow du = true) (hz : zeroT P e = some z)
    (hx : ev s.e x = .v (.one .nl)) (hy : ev s.e y = .v (.one (.t (.sl m rcs)))) (hlen : rcs.length = m * sz) (hzl : z.length = sz) (h0 : 0 < sz) (hb : (0 + m) * P.bytesOf e ≤ 140737488355328) (hm : 0 + m ≤ 140737488355328) (hh : s.h d = none) :
    Cert P nt ops o (o.looksAt ops) (d :: refsO s o) ⟨d, .v (.one (.sl d [] 0 m)), some (.ow () sz m (rcs.map roD))⟩ s := fun s' hl hhs => by
  have hev := ev_local hl
  have hx' : ev s'.e x = .v (.one .nl) := (hev x (by simp [ho, Op.operands, Call.operands])).trans hx
  have hy' : ev s'.e y = .v (.one (.t (.sl m rcs))) := (hev y (by simp [ho, Op.operands, Call.operands])).trans hy
  have hh' : s'.h d = none := (hhs d List.mem_cons_self).trans hh
  refine .inl ⟨by simp [wantedD, hg], OpStep.of ?_⟩
  unfold stepF
  rw [ho]
  show appendF P nt s' o.dst x y tx ty = _
  unfold appendF
  simp only [hd, he, hu, hz, hrow, hx', hy', srcCells, hlen, if_true, absorb, FS.row, hh']
  have e0 : 0 + m = m := by omega
  rw [if_pos ⟨hdn, hzl, h0, by simp, hb, hm⟩]
  simp [FS.add, e0]
end
end Go.Proofs.Ytciieaidbiejmaa.DM

/-
  DM 36. A slice built of what is only read, in regions whose order is not told.
-/
namespace Go.Proofs.Ytciieaidbiejmaa.DM
set_option linter.unusedVariables false
set_option linter.unusedSimpArgs false
section
variable {P : Program} {nt : Nat} {s : FS} {ops : Array Oper} {o : Oper}
theorem absorbL_ro (s : FS) : ∀ (rcs : List RT), absorbL s (rcs.map .t) = some (rcs.map roD, s)
  | [] => by simp [absorbL]
  | r :: rcs => by
    have ih := absorbL_ro s rcs
    have hab : absorb s (.t r) = some (roD r, s) := by cases r <;> rfl
    have hmap : (rcs.map DC.t).map (pzOf (.t r)) = rcs.map DC.t := (List.map_congr_left (g := fun c => c) fun c _ => rfl).trans (List.map_id' _)
    rw [List.map_cons, absorbL, hab]
    simp only [hmap, ih, List.map_cons]
theorem Cert.buildRo {t e : TypeId} {d sz n : Nat} {parts : Array (Nat × Operand)} {z : List Value} {zs cs : List DC} {ps : List (Nat × List DC)} {rcs : List RT} (ho : o.op = .buildSlice t (n + 1) parts) (hg : o.guard = none) (hd : o.dst = some d) (hdn : d < nt) (he : elemT P t = some (e, sz)) (hz : zeroT P e = some z) (hzs : mapO zcC z = some zs) (hl : zs.length = sz) (h0 : 0 < sz) (h24 : (n + 1) * sz ≤ 2 ^ 24)
    (hps : partsC s.e parts.toList = some ps) (hf : fillC (fun i => some (i * sz, sz)) ((List.replicate (n + 1) zs).flatten) ps = some cs) (hcs : cs = rcs.map .t) (hh : s.h d = none) :
    Cert P nt ops o (o.looksAt ops) (d :: refsO s o) ⟨d, .v (.one (.sl d [] 0 (n + 1))), some (.ow () sz (n + 1) (rcs.map roD))⟩ s := fun s' hloc hhs => by
  have hev := ev_local hloc
  have hp' : partsC s'.e parts.toList = some ps := (partsC_local fun x hx => hev x.2 (by
    simp only [ho, Op.operands, Array.toList_map, List.mem_map]
    exact ⟨x, hx, rfl⟩)).trans hps
  have hh' : s'.h d = none := (hhs d List.mem_cons_self).trans hh
  refine .inl ⟨by simp [wantedD, hg], OpStep.of ?_⟩
  unfold stepF
  rw [ho]
  simp only [hd, he, hz, hzs, hp', hf, hcs, absorbL_ro]
  rw [if_pos ⟨hl, h0, h24, hdn⟩]
  simp [FS.row, hh', FS.add]
theorem Cert.alloc {t : TypeId} {d : Nat} {z : List Value} {xs : List D} (ho : o.op = .alloc t) (hg : o.guard = none) (hd : o.dst = some d) (hdn : d < nt) (hz : zeroT P t = some z) (hxs : mapO zcD z = some xs) (h0 : 0 < xs.length) (hh : s.h d = none) :
    Cert P nt ops o (o.looksAt ops) (d :: refsO s o) ⟨d, .v (.one (.pt d [] 0)), some (.ow () xs.length 1 xs)⟩ s := fun s' hloc hhs => by
  have hh' : s'.h d = none := (hhs d List.mem_cons_self).trans hh
  refine .inl ⟨by simp [wantedD, hg], OpStep.of ?_⟩
  unfold stepF
  rw [ho]
  simp only [hd, hz, hxs]
  rw [if_pos ⟨hdn, h0⟩]
  simp [FS.row, hh', FS.add]
end
end Go.Proofs.Ytciieaidbiejmaa.DM

/-
  DM 37. Rows in hand: the cells of one are laid anew in its block; a new one out of what is in hand.
-/
namespace Go.Proofs.Ytciieaidbiejmaa.DM
set_option linter.unusedVariables false
set_option linter.unusedSimpArgs false
section
variable {S0 : Fr} {w0 w w' : World} {M : Heap} {X : List A}
theorem Inv.row {b o c sz n m : Nat} {cs Z Y : List A} (h : Inv S0 w0 M (.ow (.blk b o c) sz n cs :: Z) w) (hp : (cs ++ Z).Perm Y) (hY : Y.length = m * sz) (hroom : m ≤ c)
    (ho : ∀ k, k ≠ b → w'.heap[k]? = w.heap[k]?) (hs : w'.heap.size = w.heap.size) (hos : w'.os = w.os ∧ w'.output = w.output ∧ w'.tape = w.tape)
    (hcur : ∀ cur ty fz, w.heap[b]? = some (.cells cur ty fz) → o + c * sz ≤ cur.size → ∃ cur', w'.heap[b]? = some (.cells cur' ty fz) ∧ cur'.size = cur.size ∧ (∀ j, (j < o ∨ o + c * sz ≤ j) → cur'[j]? = cur[j]?) ∧ ∀ (j : Nat) (x : A), Y[j]? = some x → cur'[o + j]? = some x.val) :
    Inv S0 w0 M [.ow (.blk b o c) sz m Y] w' := by
  have hb : (T.ow (.blk b o c) sz n cs : A).blocks = b :: cs.flatMap T.blocks := by simp [T.blocks, T.blocksL_eq]
  have hb' : (T.ow (.blk b o c) sz m Y : A).blocks = b :: Y.flatMap T.blocks := by simp [T.blocks, T.blocksL_eq]
  have hf : ((cs ++ Z).flatMap T.blocks).Perm (Y.flatMap T.blocks) := hp.flatMap_right T.blocks
  have hxn := h.xn
  rw [List.flatMap_cons, hb] at hxn
  have hbX : b ∈ (T.ow (.blk b o c) sz n cs :: Z : List A).flatMap T.blocks := by rw [List.flatMap_cons, hb]; simp
  obtain ⟨hbs, hbS⟩ := h.xb b hbX
  have h0 := (h.xo _ List.mem_cons_self).1
  rw [List.cons_append, List.nodup_cons] at hxn
  have hnotin : b ∉ Y.flatMap T.blocks := fun hk => hxn.1 (by
    have := hf.symm.subset hk
    rwa [List.flatMap_append] at this)
  have hu := h.unwrap.perm hp
  have hin : ∀ k, k ∈ (T.ow (.blk b o c) sz m Y : A).blocks → k ∈ (T.ow (.blk b o c) sz n cs :: Z : List A).flatMap T.blocks := fun k hk => by
    rw [hb'] at hk
    rw [List.flatMap_cons, hb]
    rcases List.mem_cons.1 hk with rfl | hk
    · simp
    · have := hf.symm.subset hk
      rw [List.flatMap_append] at this
      exact List.mem_cons_of_mem _ this
  cases h0 with
  | ow _ _ _ _ _ _ cur ty fz k1 k2 k3 k4 k5 k6 k7 k8 k9 =>
    obtain ⟨k3, k3', k3f⟩ := k3
    obtain ⟨cur', e1, e2, e3, e4⟩ := hcur cur ty fz k1 k3
    refine ⟨fun i u hm => (h.ok i u hm).frame fun k hk => ho k (fun e => by subst e; exact h.xd i u hm _ hk hbX), h.nd, h.dj, fun i u k hm hk => by rw [hs]; exact h.bl i u k hm hk, ⟨fun k hk => by rw [ho k (fun e => hbS (e ▸ hk))]; exact h.wd.fr k hk, h.wd.s0, h.wd.tb, by rw [hs]; exact h.wd.sz, h.wd.rk, ?_, hos.1.trans h.wd.oo.1, hos.2.1.trans h.wd.oo.2.1, hos.2.2.trans h.wd.oo.2.2⟩, ?_, ?_, ?_, ?_⟩
    · intro b' j hfx
      obtain ⟨h1_, h2_⟩ := h.wd.fx b' j hfx
      refine ⟨h1_, ?_⟩
      rw [← h2_]
      by_cases hbb : b' = b
      · subst hbb
        simp only [World.cell?, e1, k1]
        have hj : j < o ∨ o + c * sz ≤ j := by
          rcases Nat.lt_or_ge j o with hlt | hge
          · exact .inl hlt
          · refine .inr (Nat.le_of_not_lt fun hlt => ?_)
            refine k3f (j - o) (by omega) ?_
            rw [show o + (j - o) = j by omega]
            exact hfx
        exact e3 j hj
      · simp only [World.cell?, ho b' hbb]
    · intro x hx
      rw [List.mem_singleton] at hx
      subst hx
      exact ⟨.ow b o c sz m Y cur' ty fz e1 (by rw [e2]; exact k2) ⟨by rw [e2]; exact k3, k3', k3f⟩ hroom k5 hY e4 (fun x hx => (hu.xo x hx).1.frame fun k hk => ho k (fun e => by
        subst e
        exact hnotin (List.mem_flatMap.2 ⟨x, hx, hk⟩))) (fun x hx => (hu.xo x hx).2), rfl⟩
    · simp only [List.flatMap_cons, List.flatMap_nil, List.append_nil]
      rw [hb', List.nodup_cons]
      exact ⟨hnotin, hu.xn⟩
    · intro i u hm k hk hkx
      simp only [List.flatMap_cons, List.flatMap_nil, List.append_nil] at hkx
      exact h.xd i u hm k hk (hin k hkx)
    · intro k hk
      simp only [List.flatMap_cons, List.flatMap_nil, List.append_nil] at hk
      rw [hs]
      exact h.xb k (hin k hk)
theorem Inv.newHand (h : Inv S0 w0 M X w) {sz n c : Nat} {ty : TypeId} {cur : Array Value} (hw : w'.heap = w.heap.push (.cells cur ty (0, 0))) (hc : c * sz ≤ cur.size) (hs0 : 0 < sz) (hn : n ≤ c) (hm : c ≤ maxLen) (hl : X.length = n * sz)
    (hcur : ∀ (i : Nat) (x : A), X[i]? = some x → cur[i]? = some x.val) (ho : w'.os = w.os ∧ w'.output = w.output ∧ w'.tape = w.tape) : Inv S0 w0 M [.ow (.blk w.heap.size 0 c) sz n X] w' := by
  have hz : w'.heap.size = w.heap.size + 1 := by rw [hw]; simp
  have hk : ∀ k, k < w.heap.size → w'.heap[k]? = w.heap[k]? := fun k hk => by rw [hw, Array.getElem?_push_lt hk, Array.getElem?_eq_getElem hk]
  have h' := h.world hk (by omega) ho
  have hnew : w'.heap[w.heap.size]? = some (.cells cur ty (0, 0)) := by rw [hw]; simp
  have hb : (T.ow (.blk w.heap.size 0 c) sz n X : A).blocks = w.heap.size :: X.flatMap T.blocks := by simp [T.blocks, T.blocksL_eq]
  refine ⟨h'.ok, h'.nd, h'.dj, h'.bl, h'.wd, ?_, ?_, ?_, ?_⟩
  · intro x hx
    rw [List.mem_singleton] at hx
    subst hx
    exact ⟨.ow _ _ _ _ _ _ cur ty (0, 0) hnew nofz' ⟨by omega, hs0, fun j _ hfx => by have := (h.wd.fx _ _ hfx).1; have := h.wd.sz; omega⟩ hn hm hl (fun j x hj => by rw [Nat.zero_add]; exact hcur j x hj) (fun x hx => (h'.xo x hx).1) (fun x hx => (h'.xo x hx).2), rfl⟩
  · simp only [List.flatMap_cons, List.flatMap_nil, List.append_nil]
    rw [hb, List.nodup_cons]
    exact ⟨fun hb' => absurd (h.xb _ hb').1 (by omega), h.xn⟩
  · intro i u hm' k hk hkx
    simp only [List.flatMap_cons, List.flatMap_nil, List.append_nil] at hkx
    rw [hb] at hkx
    rcases List.mem_cons.1 hkx with rfl | hkx
    · exact absurd (h.bl i u _ hm' hk).1 (by omega)
    · exact h.xd i u hm' k hk hkx
  · intro k hk'
    simp only [List.flatMap_cons, List.flatMap_nil, List.append_nil] at hk'
    rw [hb] at hk'
    rcases List.mem_cons.1 hk' with rfl | hk'
    · exact ⟨by omega, fun hs => by have := h.wd.s0 _ hs; have := h.wd.sz; omega⟩
    · exact ⟨by have := (h.xb k hk').1; omega, (h.xb k hk').2⟩
end
end Go.Proofs.Ytciieaidbiejmaa.DM

/-
  DM 38. Regions whose order is not told, where ONE heavy step (at j0) and ONE earlier step that adds (at k0) may come in either order: 'x.F = f(x.F)' through a pointer.
-/
namespace Go.Proofs.Ytciieaidbiejmaa.DM
set_option linter.unusedVariables false
set_option linter.unusedSimpArgs false
section
variable {S0 : Fr} {w0 w w' : World} {M M' M1 : Heap} {X : List A} {P : Program} {nt : Nat} {s s1 : FS} {a : Act} {ops : Array Oper}
/-- The heavy step may come ahead of the step that adds. -/
def Swaps (P : Program) (nt : Nat) (ops : Array Oper) (o ok : Oper) (d : Nat) (L R : List Nat) (s s1 : FS) : Prop := ∀ (s0 : FS) (δ : Add), δ.d = d → δ.x = none → s0.add δ = s → Cert P nt ops ok L R δ s0 → ∃ s1a, StepA P nt ops o s0 s1a ∧ Cert P nt ops ok L R δ s1a ∧ s1a.add δ = s1
inductive ChainC (P : Program) (nt : Nat) (ops : Array Oper) (plan : Nat → Option Foot) (j0 k0 : Nat) : List Nat → FS → FS → Prop
  | nil (s : FS) : ChainC P nt ops plan j0 k0 [] s s
  | add {i : Nat} {l : List Nat} {o : Oper} {L R : List Nat} {δ : Add} {s s2 : FS} : ops[i]? = some o → plan i = some (δ.d, L, R) → (i = k0 → δ.x = none) → Cert P nt ops o L R δ s → ChainC P nt ops plan j0 k0 l (s.add δ) s2 → ChainC P nt ops plan j0 k0 (i :: l) s s2
  | heavy {i : Nat} {l : List Nat} {o : Oper} {s s1 s2 : FS} : ops[i]? = some o → plan i = none → StepA P nt ops o s s1 → (i = j0 → ∀ ok d L R, ops[k0]? = some ok → plan k0 = some (d, L, R) → Swaps P nt ops o ok d L R s s1) → ChainC P nt ops plan j0 k0 l s1 s2 → ChainC P nt ops plan j0 k0 (i :: l) s s2
def pairC (j0 k0 : Nat) (plan : Nat → Option Foot) (k i : Nat) : Bool := pairOk (plan k) (plan i) || (k == k0 && i == j0 && (plan i).isNone && (plan k).isSome)
/-- A step that is apart from all before it may come first. -/
theorem ChainC.firstA {j0 k0 : Nat} {plan : Nat → Option Foot} {i : Nat} {post : List Nat} {s2 : FS} : ∀ {pre : List Nat} {s : FS}, (∀ k ∈ pre, pairOk (plan k) (plan i) = true) → ChainC P nt ops plan j0 k0 (pre ++ i :: post) s s2 →
    ∃ o s1, ops[i]? = some o ∧ StepA P nt ops o s s1 ∧ ChainC P nt ops plan j0 k0 (pre ++ post) s1 s2 ∧ (∀ d L R, plan i = some (d, L, R) → ∃ δ, δ.d = d ∧ Cert P nt ops o L R δ s ∧ s1 = s.add δ)
  | [], s, _, h => by
    cases h with
    | add ho hp hx hc hr =>
      rename_i o L R δ
      exact ⟨_, _, ho, hc s (fun _ _ => rfl) (fun _ _ => rfl), hr, fun d L' R' h => by
        rw [hp] at h
        simp only [Option.some.injEq, Prod.mk.injEq] at h
        obtain ⟨rfl, rfl, rfl⟩ := h
        exact ⟨δ, rfl, hc, rfl⟩⟩
    | heavy ho hp hc hx hr => exact ⟨_, _, ho, hc, hr, fun d L R h => by rw [hp] at h; cases h⟩
  | k :: pre, s, hk, h => by
    have hki := hk k List.mem_cons_self
    have hpre : ∀ k' ∈ pre, pairOk (plan k') (plan i) = true := fun k' h' => hk k' (List.mem_cons_of_mem _ h')
    cases h with
    | heavy ho hp hc hx hr => rw [hp] at hki; cases hki
    | add ho hp hx hc hr =>
      rename_i o L R δ
      rw [hp] at hki
      obtain ⟨d', L', R', hpi, hap⟩ := pairOk_some hki
      obtain ⟨oi, s1, h1, h2, h3, h4⟩ := ChainC.firstA (i := i) (post := post) hpre hr
      obtain ⟨δ', rfl, g1, rfl⟩ := h4 d' L' R' hpi
      have g2 := (Cert.move hap).1 g1
      refine ⟨oi, s.add δ', h1, g2 s (fun _ _ => rfl) (fun _ _ => rfl), .add ho hp hx ((Cert.move (δ' := δ) hap.symm).2 hc) ?_, fun d2 L2 R2 e => ?_⟩
      · rw [add_comm' s δ' δ hap.1.symm]; exact h3
      · rw [hpi] at e
        simp only [Option.some.injEq, Prod.mk.injEq] at e
        obtain ⟨rfl, rfl, rfl⟩ := e
        exact ⟨δ', rfl, g2, rfl⟩
theorem ChainC.first {j0 k0 : Nat} {plan : Nat → Option Foot} {i : Nat} {pre post : List Nat} {s s2 : FS} (hs : pre.Pairwise (· < ·)) (hk : ∀ k ∈ pre, pairC j0 k0 plan k i = true) (h : ChainC P nt ops plan j0 k0 (pre ++ i :: post) s s2) :
    ∃ o s1, ops[i]? = some o ∧ StepA P nt ops o s s1 ∧ ChainC P nt ops plan j0 k0 (pre ++ post) s1 s2 := by
  by_cases hall : ∀ k ∈ pre, pairOk (plan k) (plan i) = true
  · obtain ⟨o, s1, h1, h2, h3, -⟩ := ChainC.firstA hall h
    exact ⟨o, s1, h1, h2, h3⟩
  · have hex : ∃ k, k ∈ pre ∧ ¬ pairOk (plan k) (plan i) = true := Classical.byContradiction fun hno => hall fun k hk => Classical.byContradiction fun hn => hno ⟨k, hk, hn⟩
    obtain ⟨k, hkm, hkn⟩ := hex
    have h1 := hk k hkm
    simp only [pairC, Bool.or_eq_true, Bool.and_eq_true, beq_iff_eq] at h1
    have h1 := h1.resolve_left hkn
    obtain ⟨⟨⟨rfl, rfl⟩, hno⟩, hys⟩ := h1
    have hpn : plan i = none := by
      cases hp : plan i with
      | none => rfl
      | some f => rw [hp] at hno; cases hno
    have hone : ∀ k' ∈ pre, k' = k := fun k' hk' => by
      have h2 := hk k' hk'
      have h3 : pairOk (plan k') (plan i) = false := by
        rw [hpn]
        cases plan k' with
        | none => rfl
        | some f => obtain ⟨_, _, _⟩ := f; rfl
      simp only [pairC, h3, Bool.false_or, Bool.and_eq_true, beq_iff_eq] at h2
      exact h2.1.1.1
    have hpre : pre = [k] := by
      cases pre with
      | nil => cases hkm
      | cons x l =>
        have hx := hone x List.mem_cons_self
        subst hx
        cases l with
        | nil => rfl
        | cons y l =>
          rw [List.pairwise_cons] at hs
          have := hs.1 y List.mem_cons_self
          have := hone y (List.mem_cons_of_mem _ List.mem_cons_self)
          omega
    subst hpre
    cases h with
    | heavy ho hp hc hx hr =>
      rw [hp] at hys; cases hys
    | add ho hp hx hc hr =>
      rename_i o L R δ
      change ChainC P nt ops plan _ _ (i :: post) (s.add δ) s2 at hr
      cases hr with
      | add ho' hp' hx' hc' hr' => rw [hpn] at hp'; cases hp'
      | heavy ho' hp' hc' hx' hr' =>
        rename_i oi s1
        obtain ⟨s1a, g1, g2, g3⟩ := hx' rfl o δ.d L R ho hp s δ rfl (hx rfl) rfl hc
        exact ⟨oi, s1a, ho', g1, .add ho hp hx g2 (by rw [g3]; exact hr')⟩
def planOkC (j0 k0 : Nat) (plan : Nat → Option Foot) (tb : List (List Nat)) (n : Nat) : Bool := (List.range n).all fun j => (List.range j).all fun i => (tb.getD j []).contains i || pairC j0 k0 plan i j
theorem planOkC_spec {j0 k0 : Nat} {plan : Nat → Option Foot} {tb : List (List Nat)} {n : Nat} (h : planOkC j0 k0 plan tb n = true) (j : Nat) (hj : j < n) (i : Nat) (hi : i < j) : i ∈ tb.getD j [] ∨ pairC j0 k0 plan i j = true := by
  unfold planOkC at h
  rw [List.all_eq_true] at h
  have h1 := h j (List.mem_range.2 hj)
  rw [List.all_eq_true] at h1
  have h2 := h1 i (List.mem_range.2 hi)
  simpa using h2
theorem chainC_any {md : Region.Mode} {j0 k0 : Nat} {plan : Nat → Option Foot} {tb : List (List Nat)} {Q : Exit → Act → World → Prop} {s2 : FS} (ht : tableOk md ops tb = true) (hp : planOkC j0 k0 plan tb ops.size = true) (hQ : ∀ (M1 : Heap) (a1 : Act) (w1 : World), Rel S0 w0 nt s2 M1 a1 w1 → Q .normal a1 w1) :
    ∀ (fuel : Nat) (l : List Nat) (listed : Array Bool) {s : FS} {M : Heap} {a : Act} {w : World}, l.length ≤ fuel → l.Pairwise (· < ·) → (∀ j ∈ l, j < ops.size) → listed.size = ops.size → (∀ j, j < ops.size → (listed.getD j true = false ↔ j ∈ l)) →
      (∀ j o, ops[j]? = some o → j ∉ l → ∀ e ∈ o.after, Region.binds md e = true → e.on ∉ l) → ChainC P nt ops plan j0 k0 l s s2 → Rel S0 w0 nt s M a w → wpAny P md ops Q fuel listed a w := by
  intro fuel
  have hready : ∀ (l : List Nat) (listed : Array Bool), listed.size = ops.size → (∀ j ∈ l, j < ops.size) → (∀ j, j < ops.size → (listed.getD j true = false ↔ j ∈ l)) → ∀ i, i ∈ Region.ready md ops listed ↔ i ∈ l ∧ ∃ o, ops[i]? = some o ∧ ∀ e ∈ o.after, Region.binds md e = true → e.on ∉ l := by
    intro l listed hsz hl hli i
    rw [mem_ready]
    constructor
    · rintro ⟨h0, o, ho, he⟩
      have hi : i < ops.size := (Array.getElem?_eq_some_iff.1 ho).1
      refine ⟨(hli i hi).1 h0, o, ho, fun e hem hb hin => ?_⟩
      have h1 := he e hem hb
      have h2 := (hli e.on (hl _ hin)).2 hin
      have hlt : e.on < listed.size := by rw [hsz]; exact hl _ hin
      rw [Array.getD_eq_getD_getElem?, Array.getElem?_eq_getElem hlt] at h1 h2
      rw [Option.getD_some] at h1 h2
      rw [h1] at h2; cases h2
    · rintro ⟨hi, o, ho, he⟩
      refine ⟨(hli i (hl i hi)).2 hi, o, ho, fun e hem hb => ?_⟩
      have hlt := (table_spec ht ho).2 e hem hb
      have hlt2 : e.on < ops.size := by have := (Array.getElem?_eq_some_iff.1 ho).1; omega
      have h2 : ¬ listed.getD e.on true = false := fun h => he e hem hb ((hli e.on hlt2).1 h)
      have hlt3 : e.on < listed.size := by omega
      rw [Array.getD_eq_getD_getElem?, Array.getElem?_eq_getElem hlt3, Option.getD_some] at h2 ⊢
      simpa using h2
  have hnil : ∀ (l : List Nat) (listed : Array Bool), listed.size = ops.size → l.Pairwise (· < ·) → (∀ j ∈ l, j < ops.size) → (∀ j, j < ops.size → (listed.getD j true = false ↔ j ∈ l)) → Region.ready md ops listed = [] → l = [] := by
    intro l listed hsz hs hl hli hr
    cases l with
    | nil => rfl
    | cons i l =>
      have hi : i < ops.size := hl i List.mem_cons_self
      have : i ∈ Region.ready md ops listed := (hready _ listed hsz hl hli i).2 ⟨List.mem_cons_self, ops[i], Array.getElem?_eq_getElem hi, fun e he hb hin => by
        have h1 := (table_spec ht (Array.getElem?_eq_getElem hi)).2 e he hb
        rw [List.pairwise_cons] at hs
        rcases List.mem_cons.1 hin with h | h
        · omega
        · have := hs.1 _ h; omega⟩
      rw [hr] at this; cases this
  induction fuel with
  | zero =>
    intro l listed s M a w hlen hs hl hsz hli hcl hch hR
    have : l = [] := List.length_eq_zero_iff.1 (by omega)
    subst this
    cases hch with
    | nil =>
      refine ⟨?_, hQ M a w hR⟩
      cases hr : Region.ready md ops listed with
      | nil => rfl
      | cons i r =>
        have := (hready [] listed hsz hl hli i).1 (by rw [hr]; exact List.mem_cons_self)
        simp at this
  | succ fuel ih =>
    intro l listed s M a w hlen hs hl hsz hli hcl hch hR
    refine ⟨fun hr => ?_, fun i hi => ?_⟩
    · have := hnil l listed hsz hs hl hli hr
      subst this
      cases hch with
      | nil => exact hQ M a w hR
    · obtain ⟨hil, o, ho, he⟩ := (hready l listed hsz hl hli i).1 hi
      obtain ⟨pre, post, rfl⟩ := List.append_of_mem hil
      rw [List.pairwise_append, List.pairwise_cons] at hs
      obtain ⟨hs1, ⟨hs2, hs3⟩, hs4⟩ := hs
      have hipre : i ∉ pre := fun h => absurd (hs4 i h i List.mem_cons_self) (Nat.lt_irrefl _)
      have hipost : i ∉ post := fun h => absurd (hs2 i h) (Nat.lt_irrefl _)
      have hilt : i < ops.size := hl i hil
      have hpair : ∀ k ∈ pre, pairC j0 k0 plan k i = true := fun k hk => by
        rcases planOkC_spec hp i hilt k (hs4 k hk i List.mem_cons_self) with h | h
        · exfalso
          obtain ⟨e, hem, hb, hlt, hor⟩ := (table_spec ht ho).1 k h
          have h1 := he e hem hb
          have hkl : k ∈ pre ++ i :: post := List.mem_append_left _ hk
          rcases hor with rfl | hk'
          · exact h1 hkl
          · exact before_listed ht (D := fun j => j ∉ pre ++ i :: post) (fun j o hj hd e he hb => hcl j o hj hd e he hb) e.on (by omega) h1 k hk' hkl
        · exact h
      obtain ⟨o', s1, h1, h2, h3⟩ := ChainC.first hs1 hpair hch
      refine h2.wpOp h1 hR fun M1 a1 w1 hR1 => ih (pre ++ post) (listed.setIfInBounds i true) ?_ ?_ (fun j hj => hl j ?_) (by simpa using hsz) (fun j hj => ?_) (fun j oj hoj hj e hem hb => ?_) h3 hR1
      · simp only [List.length_append, List.length_cons] at hlen ⊢; omega
      · rw [List.pairwise_append]
        exact ⟨hs1, hs3, fun x hx y hy => hs4 x hx y (List.mem_cons_of_mem _ hy)⟩
      · rcases List.mem_append.1 hj with h | h
        · exact List.mem_append_left _ h
        · exact List.mem_append_right _ (List.mem_cons_of_mem _ h)
      · by_cases hji : j = i
        · subst hji
          have : (listed.setIfInBounds j true).getD j true = true := by
            rw [Array.getD_eq_getD_getElem?, Array.getElem?_setIfInBounds_self_of_lt (by omega)]; rfl
          rw [this]
          simp [hipre, hipost]
        · rw [getD_set_ne true (Ne.symm hji), hli j hj]
          simp [hji]
      · have hsub : ∀ x, x ∈ pre ++ post → x ∈ pre ++ i :: post := fun x hx => by
          rcases List.mem_append.1 hx with h | h
          · exact List.mem_append_left _ h
          · exact List.mem_append_right _ (List.mem_cons_of_mem _ h)
        by_cases hji : j = i
        · subst hji
          rw [ho] at hoj
          obtain rfl := Option.some.inj hoj
          exact fun h => he e hem hb (hsub _ h)
        · have hj' : j ∉ pre ++ i :: post := fun h => by
            rcases List.mem_append.1 h with h | h
            · exact hj (List.mem_append_left _ h)
            · rcases List.mem_cons.1 h with h | h
              · exact hji h
              · exact hj (List.mem_append_right _ h)
          exact fun h => hcl j oj hoj hj' e hem hb (hsub _ h)
theorem DW.drawC {id j0 k0 : Nat} {Q : Exit → FS → Prop} {plan : Nat → Option Foot} {s2 : FS} (tb : List (List Nat)) (hm : P.follows .mixedOrders = true) (ht : tableOk .any ops tb = true) (hp : planOkC j0 k0 plan tb ops.size = true) (hc : ChainC P nt ops plan j0 k0 (List.range ops.size) s s2) (h : Q .normal s2) :
    DW P nt (.region id ops true) s Q := fun S0 w0 M a w hR => by
  refine wp_region_any hm ?_
  refine chainC_any ht hp (fun M1 a1 w1 h1 => ⟨s2, M1, h, h1⟩) ops.size (List.range ops.size) _ (by simp) List.pairwise_lt_range (fun j hj => List.mem_range.1 hj) (by simp) (fun j hj => ?_) (fun j o ho hj => ?_) hc hR.drawn
  · simp [hj]
  · exact absurd (List.mem_range.2 (Array.getElem?_eq_some_iff.1 ho).1) hj
/-- A region, step by step; what each step looks at and writes is kept. -/
def RegC (P : Program) (nt : Nat) (ops : Array Oper) (j0 k0 : Nat) : List Oper → List (Option Foot) → FS → (List (Option Foot) → FS → Prop) → Prop
  | [], acc, s, N => N acc s
  | o :: l, acc, s, N => (∃ L R δ, Cert P nt ops o L R δ s ∧ (acc.length = k0 → δ.x = none) ∧ RegC P nt ops j0 k0 l (acc ++ [some (δ.d, L, R)]) (s.add δ) N) ∨
      (∃ s1, StepA P nt ops o s s1 ∧ (acc.length = j0 → k0 < acc.length ∧ ∀ ok d L R, ops[k0]? = some ok → acc.getD k0 none = some (d, L, R) → Swaps P nt ops o ok d L R s s1) ∧ RegC P nt ops j0 k0 l (acc ++ [none]) s1 N)
variable {j0 k0 : Nat}
theorem RegC.adds {N : List (Option Foot) → FS → Prop} : ∀ {l l' : List Oper} {acc acc1 : List (Option Foot)} {s s1 : FS}, regA P nt ops l acc s = some (acc1, s1) → RegC P nt ops j0 k0 l' acc1 s1 N → RegC P nt ops j0 k0 (l ++ l') acc s N
  | [], l', acc, acc1, s, s1, h, hr => by
    simp only [regA, Option.some.injEq, Prod.mk.injEq] at h
    obtain ⟨rfl, rfl⟩ := h
    exact hr
  | o :: l, l', acc, acc1, s, s1, h, hr => by
    simp only [regA] at h
    split at h
    · rename_i δ hδ
      refine .inl ⟨_, _, δ, cert_of_addF hδ, fun _ => ?_, RegC.adds h hr⟩
      simp only [addF] at hδ
      split at hδ
      · split at hδ
        · obtain rfl := Option.some.inj hδ; rfl
        · cases hδ
      · split at hδ
        · split at hδ
          · obtain rfl := Option.some.inj hδ; rfl
          · cases hδ
        · cases hδ
      · cases hδ
    · cases h
theorem RegC.addN {N : List (Option Foot) → FS → Prop} (n : Nat) {l : List Oper} {acc acc1 : List (Option Foot)} (h : regA P nt ops (l.take n) acc s = some (acc1, s1)) (hr : RegC P nt ops j0 k0 (l.drop n) acc1 s1 N) : RegC P nt ops j0 k0 l acc s N := by
  have := RegC.adds h hr
  rwa [List.take_append_drop] at this
theorem RegC.cert {N : List (Option Foot) → FS → Prop} {o : Oper} {l : List Oper} {acc : List (Option Foot)} {L R : List Nat} {δ : Add} (hc : Cert P nt ops o L R δ s) (hk : acc.length ≠ k0) (hr : RegC P nt ops j0 k0 l (acc ++ [some (δ.d, L, R)]) (s.add δ) N) : RegC P nt ops j0 k0 (o :: l) acc s N := .inl ⟨L, R, δ, hc, fun h => absurd h hk, hr⟩
theorem RegC.heavyF {N : List (Option Foot) → FS → Prop} {o : Oper} {l : List Oper} {acc : List (Option Foot)} (hw : wantedD ops o s.e = some true) (hc : stepF P nt o s = some s1) (hj : acc.length ≠ j0) (hr : RegC P nt ops j0 k0 l (acc ++ [none]) s1 N) : RegC P nt ops j0 k0 (o :: l) acc s N := .inr ⟨s1, .inl ⟨hw, OpStep.of hc⟩, fun h => absurd h hj, hr⟩
theorem RegC.heavy {N : List (Option Foot) → FS → Prop} {o : Oper} {l : List Oper} {acc : List (Option Foot)} (hc : StepA P nt ops o s s1) (hj : acc.length ≠ j0) (hr : RegC P nt ops j0 k0 l (acc ++ [none]) s1 N) : RegC P nt ops j0 k0 (o :: l) acc s N := .inr ⟨s1, hc, fun h => absurd h hj, hr⟩
/-- The heavy step that may come ahead of an earlier one, which lays a temporary alone: it is shown for any contents of that temporary. -/
theorem RegC.swap {N : List (Option Foot) → FS → Prop} {o ok : Oper} {l : List Oper} {acc : List (Option Foot)} {d : Nat} {L R : List Nat} (hok : ops[k0]? = some ok) (hacc : acc.getD k0 none = some (d, L, R)) (hk : k0 < acc.length) (hw : o.guard = none)
    (F : DV → FS) (hstep : ∀ v0 : DV, OpStep P nt o ⟨upd s.e d v0, s.h, s.g⟩ (F v0)) (hcert : ∀ v0 : DV, Cert P nt ops ok L R ⟨d, s.e d, none⟩ (F v0)) (hadd : ∀ v0 : DV, (F v0).add ⟨d, s.e d, none⟩ = s1)
    (hself : F (s.e d) = s1) (hr : RegC P nt ops j0 k0 l (acc ++ [none]) s1 N) : RegC P nt ops j0 k0 (o :: l) acc s N := by
  have hwant : ∀ s' : FS, wantedD ops o s'.e = some true := fun s' => by simp [wantedD, hw]
  have hs : (⟨upd s.e d (s.e d), s.h, s.g⟩ : FS) = s := by
    have : upd s.e d (s.e d) = s.e := by
      funext i
      by_cases hi : i = d
      · subst hi; rw [upd_same]
      · rw [upd_ne _ _ _ _ hi]
    rw [this]
  refine .inr ⟨s1, .inl ⟨hwant _, ?_⟩, fun _ => ⟨hk, fun ok' d' L' R' h1 h2 => ?_⟩, hr⟩
  · have := hstep (s.e d)
    rw [hs, hself] at this
    exact this
  · rw [hok] at h1
    rw [hacc] at h2
    obtain rfl := Option.some.inj h1
    simp only [Option.some.injEq, Prod.mk.injEq] at h2
    obtain ⟨rfl, rfl, rfl⟩ := h2
    intro s0 δ hd hx hs0 hc
    obtain ⟨dd, vv, xx⟩ := δ
    simp only at hd hx
    subst hd; subst hx
    have hv : vv = s.e dd := by rw [← hs0]; simp [FS.add, upd_same]
    subst hv
    have h0 : s0 = ⟨upd s.e dd (s0.e dd), s.h, s.g⟩ := by
      obtain ⟨e, h, g⟩ := s0
      rw [← hs0]
      simp only [FS.add, FS.mk.injEq, and_true]
      funext i
      by_cases hi : i = dd
      · subst hi; rw [upd_same]
      · rw [upd_ne _ _ _ _ hi, upd_ne _ _ _ _ hi]
    exact ⟨F (s0.e dd), .inl ⟨hwant _, by
      have := hstep (s0.e dd)
      rw [← h0] at this
      exact this⟩, hcert _, hadd _⟩
theorem cert_cast {o : Oper} {L R : List Nat} {δ : Add} (h : addF P nt ops o s = some δ) (hL : o.looksAt ops = L) (hR : refsO s o = R) : Cert P nt ops o L R δ s := hL ▸ hR ▸ cert_of_addF h
theorem regC_chain {N : List (Option Foot) → FS → Prop} : ∀ {l : List Oper} {acc : List (Option Foot)} {s : FS} (k : Nat), k = acc.length → (∀ (i : Nat) (o : Oper), l[i]? = some o → ops[k + i]? = some o) → RegC P nt ops j0 k0 l acc s N →
    ∃ pl s2, N (acc ++ pl) s2 ∧ pl.length = l.length ∧ ∀ plan : Nat → Option Foot, (∀ i, i < (acc ++ pl).length → plan i = (acc ++ pl).getD i none) → ChainC P nt ops plan j0 k0 (List.range' k l.length) s s2
  | [], acc, s, k, hk, ho, h => ⟨[], s, by simpa [RegC] using h, rfl, fun plan _ => .nil s⟩
  | o :: l, acc, s, k, hk, ho, h => by
    have hok : ops[k]? = some o := by simpa using ho 0 o rfl
    have ho' : ∀ (i : Nat) (o' : Oper), l[i]? = some o' → ops[k + 1 + i]? = some o' := fun i o' hi => by
      have := ho (i + 1) o' (by simpa using hi)
      rw [← this]; congr 1; omega
    rcases h with ⟨L, R, δ, hc, hx, hr⟩ | ⟨s1, hc, hx, hr⟩
    · obtain ⟨pl, s2, h1, h2, h3⟩ := regC_chain (k + 1) (by simp [hk]) ho' hr
      refine ⟨some (δ.d, L, R) :: pl, s2, by simpa using h1, by simp [h2], fun plan hp => ?_⟩
      rw [List.length_cons, List.range'_succ]
      refine .add hok (by have := hp k (by simp [hk]); rw [this, hk]; simp [List.getD_eq_getElem?_getD]) (fun e => hx (by omega)) hc (h3 plan fun i hi => ?_)
      have := hp i (by simpa using hi)
      simpa using this
    · obtain ⟨pl, s2, h1, h2, h3⟩ := regC_chain (k + 1) (by simp [hk]) ho' hr
      refine ⟨none :: pl, s2, by simpa using h1, by simp [h2], fun plan hp => ?_⟩
      rw [List.length_cons, List.range'_succ]
      refine .heavy hok (by have := hp k (by simp [hk]); rw [this, hk]; simp [List.getD_eq_getElem?_getD]) hc (fun e ok d L R g1 g2 => ?_) (h3 plan fun i hi => ?_)
      · obtain ⟨hk0, hsw⟩ := hx (by omega)
        refine hsw ok d L R g1 ?_
        have := hp k0 (by simp; omega)
        rw [g2] at this
        rw [this, List.getD_eq_getElem?_getD, List.getD_eq_getElem?_getD, List.getElem?_append_left hk0]
      · have := hp i (by simpa using hi)
        simpa using this
/-- A region whose order is not told. -/
theorem DW.drawnC (j0 k0 : Nat) {id : Nat} {l : List Oper} {Q : Exit → FS → Prop} (hm : P.follows .mixedOrders = true) (ht : tableOk .any l.toArray (tableOf l) = true) (h : RegC P nt l.toArray j0 k0 l [] s fun pl s2 => planOkC j0 k0 (fun i => pl.getD i none) (tableOf l) l.length = true ∧ Q .normal s2) : DW P nt (.region id l.toArray true) s Q := by
  obtain ⟨pl, s2, ⟨h1, h2⟩, h3, h4⟩ := regC_chain (ops := l.toArray) 0 rfl (fun i o hi => by simpa using hi) h
  simp only [List.nil_append] at h1
  refine DW.drawC (j0 := j0) (k0 := k0) (tableOf l) hm ht (plan := fun i => pl.getD i none) (by simpa using h1) ?_ h2
  have := h4 (fun i => pl.getD i none) (fun i hi => by simp)
  rw [List.range_eq_range']
  simpa using this
end
end Go.Proofs.Ytciieaidbiejmaa.DM

/-
  DM 39. Functions of the library out of the kit's contracts: what takes and gives plain values; sort and compact of whole numbers.
-/
namespace Go.Proofs.Ytciieaidbiejmaa.DM
set_option linter.unusedVariables false
set_option linter.unusedSimpArgs false
open Go.RowKit
section
variable {P : Program} {S0 : Fr} {w0 w w' : World} {M : Heap} {X : List A}
theorem shLen_none {α : Type} : ∀ l : List α, shLen (l.map fun _ => none) = l.length
  | [] => rfl
  | x :: l => by simp only [List.map_cons, shLen, shLen_none l, List.length_cons]; omega
theorem map_er_none {f : Option D} {m : Option A} (h : f = m.map er) (h0 : f = none) : m = none := by
  cases m with
  | none => rfl
  | some t => rw [h0] at h; cases h
/-- What takes plain values and gives plain values. -/
theorem Spec.plain {f : Nat} {vs rs : List Value} (hE : Enters P f) (hrs : ∀ v ∈ rs, plain v = true)
    (h : ∀ w : World, Calls P f vs.toArray w fun e w' => e = .returned (packV (rs.map fun _ => none) rs) ∧ Below w.heap.size w w') :
    Spec P f (vs.map fun v => .one (.r (.sc v))) (rs.map fun _ => none) (rs.map .sc) (vs.map fun v => .one (.r (.sc v))) := by
  refine ⟨hE, fun F w M vals hI hl hM hV hG => ?_⟩
  have hvals : vals = vs := by
    apply List.ext_getElem (by simpa using hl)
    intro i h1 h2
    have := hV i (.one (.r (.sc vs[i]))) vals[i] (by simp [h2]) (List.getElem?_eq_getElem h1)
    obtain ⟨h3, -⟩ := this
    have q : ∀ (x y : Value), RelC F w M (.t (.sc x)) y → y = x := fun x y h => by
      cases h with
      | t _ _ h4 => cases h4 with
        | sc _ _ => rfl
    exact q _ _ h3
  subst hvals
  refine Calls.mono (h w) ?_
  rintro e w' ⟨rfl, hB⟩
  have hI' : Inv F w M [] w' := hI.world hB.block hB.size ⟨hB.os, hB.output, hB.tape⟩
  have hI2 := hI'.hands (Y := rs.map .sc) (fun y hy => by
    obtain ⟨v, hv, rfl⟩ := List.mem_map.1 hy
    exact ⟨.sc v (hrs v hv), rfl, rfl⟩)
  rw [List.nil_append] at hI2
  have he : (rs.map (T.sc : Value → A)).map er = rs.map .sc := by
    rw [List.map_map]; rfl
  have hv : (rs.map (T.sc : Value → A)).map T.val = rs := by
    rw [List.map_map]
    conv => rhs; rw [← List.map_id rs]
    rfl
  refine ⟨_, initFS (vals.map fun v => .one (.r (.sc v))), M, rs.map .sc, rfl, hI2, hM, hG, he, by rw [List.length_map, shLen_none], by rw [hv], rfl, fun i pa hp => ⟨pa, hp, ?_⟩⟩
  rw [List.getElem?_map, Option.map_eq_some_iff] at hp
  obtain ⟨v, -, rfl⟩ := hp
  rfl
/-- A row in hand is seen az an empty one. -/
theorem Inv.bare {b o c sz n : Nat} {cs : List A} (h : Inv S0 w0 M (.ow (.blk b o c) sz n cs :: X) w) : Inv S0 w0 M (.ow (.blk b o c) sz 0 [] :: X) w := by
  have hb : (T.ow (.blk b o c) sz n cs : A).blocks = b :: cs.flatMap T.blocks := by simp [T.blocks, T.blocksL_eq]
  have hb' : (T.ow (.blk b o c) sz 0 [] : A).blocks = [b] := by simp [T.blocks, T.blocksL_eq]
  have hsub : ((T.ow (.blk b o c) sz 0 [] :: X : List A).flatMap T.blocks).Sublist ((T.ow (.blk b o c) sz n cs :: X : List A).flatMap T.blocks) := by
    rw [List.flatMap_cons, List.flatMap_cons, hb, hb']
    exact List.Sublist.append ((List.nil_sublist _).cons_cons b) (List.Sublist.refl _)
  refine ⟨h.ok, h.nd, h.dj, h.bl, h.wd, ?_, h.xn.sublist hsub, fun i u hm k hk hkx => h.xd i u hm k hk (hsub.subset hkx), fun k hk => h.xb k (hsub.subset hk)⟩
  intro x hx
  rcases List.mem_cons.1 hx with rfl | hx
  · have h0 := (h.xo _ List.mem_cons_self).1
    cases h0 with
    | ow _ _ _ _ _ _ cur ty fz k1 k2 k3 k4 k5 k6 k7 k8 k9 =>
      exact ⟨.ow b o c sz 0 [] cur ty fz k1 k2 k3 (Nat.zero_le _) k5 (by simp) (fun i x h => by simp at h) (fun x h => by simp at h) (fun x h => by simp at h), rfl⟩
  · exact h.xo x (List.mem_cons_of_mem _ hx)
theorem putRow_heap {w : World} {b o : Nat} {d : List Int} {cur : Array Value} {ty : TypeId} {fz : Nat × Nat} (h : w.heap[b]? = some (.cells cur ty fz)) : (Sort.putRow (Value.int .i64) w b o d.toArray).heap[b]? = some (.cells (Sort.putCells (Value.int .i64) o d.toArray cur) ty fz) := by
  simp only [Sort.putRow, Sort.mapBlock, Array.getElem?_modify, if_true, h, Option.map_some, Sort.onCells]
theorem putRow_other {w : World} {b o k : Nat} {d : Array Int} (h : k ≠ b) : (Sort.putRow (Value.int .i64) w b o d).heap[k]? = w.heap[k]? := by
  simp only [Sort.putRow, Sort.mapBlock, Array.getElem?_modify, if_neg (Ne.symm h)]
theorem putCells_at {o j : Nat} {d : List Int} {cur : Array Value} (hj : o + j < cur.size) (x : Int) (hx : d[j]? = some x) : (Sort.putCells (Value.int .i64) o d.toArray cur)[o + j]? = some (.int .i64 x) := by
  have hjl := (List.getElem?_eq_some_iff.1 hx).1
  have hxe := (List.getElem?_eq_some_iff.1 hx).2
  simp only [Sort.putCells, Array.getElem?_mapIdx, Array.getElem?_eq_getElem hj, Option.map_some]
  rw [if_pos ⟨by omega, by simp; omega⟩, show o + j - o = j by omega]
  simp [hjl, hxe]
theorem putCells_out {o j : Nat} {d : List Int} {cur : Array Value} (hj : j < o ∨ o + d.length ≤ j) : (Sort.putCells (Value.int .i64) o d.toArray cur)[j]? = cur[j]? := by
  simp only [Sort.putCells, Array.getElem?_mapIdx]
  cases hc : cur[j]? with
  | none => rfl
  | some v =>
    simp only [Option.map_some]
    rw [if_neg (by simp; omega)]
/-- A row of whole numbers in hand, laid anew. -/
theorem Inv.rowI {b o c n q : Nat} {cs : List A} {d : List Int} {os : Array Obj} (h : Inv S0 w0 M [.ow (.blk b o c) 1 n cs] w) (m : Nat) (hm : m ≤ d.length) (hd : d.length ≤ c) : Inv S0 w0 M [.ow (.blk b o c) 1 m ((d.take m).map fun x => .sc (.int .i64 x))] (Sort.grow (Sort.putRow (Value.int .i64) (Sort.ahead w q) b o d.toArray) os) := by
  have h1 := (h.bare.world (w' := Sort.ahead w q) (fun k hk => rfl) (Nat.le_refl _)).hands (Y := (d.take m).map fun x => .sc (.int .i64 x)) (fun y hy => by
    obtain ⟨v, hv, rfl⟩ := List.mem_map.1 hy
    exact ⟨.sc _ rfl, rfl, rfl⟩)
  have hmt : (d.take m).length = m := by rw [List.length_take]; omega
  have h2 := Inv.row (w' := Sort.putRow (Value.int .i64) (Sort.ahead w q) b o d.toArray) (m := m) (Y := (d.take m).map fun x => .sc (.int .i64 x)) h1 (List.Perm.refl _) (by simp; omega) (by omega) (fun k hk => putRow_other hk) (by simp) ⟨rfl, rfl, rfl⟩ (fun cur ty fz h0 hc0 => by
    refine ⟨_, putRow_heap h0, by simp [Sort.putCells], fun j hj => putCells_out (by omega), fun j x hj => ?_⟩
    rw [List.getElem?_map, Option.map_eq_some_iff] at hj
    obtain ⟨y, hy, rfl⟩ := hj
    have hjl := (List.getElem?_eq_some_iff.1 hy).1
    rw [List.getElem?_take_of_lt (by omega)] at hy
    exact putCells_at (by omega) y hy)
  exact h2.world (fun k hk => by
    simp only [Sort.grow]
    rw [Array.getElem?_append_left hk]) (by simp) ⟨rfl, rfl, rfl⟩
theorem er_ints {cs : List A} {l : List Int} (h : cs.map er = l.map fun x => .sc (.int .i64 x)) : cs = l.map fun x => .sc (.int .i64 x) := by
  induction cs generalizing l with
  | nil => cases l with
    | nil => rfl
    | cons => cases h
  | cons c cs ih => cases l with
    | nil => cases h
    | cons x l =>
      simp only [List.map_cons, List.cons.injEq] at h ⊢
      refine ⟨?_, ih h.2⟩
      have h1 := h.1
      cases c with
      | sc v => simp only [er, T.map, T.sc.injEq] at h1; rw [h1]
      | _ => simp [er, T.map] at h1
theorem er_hold1 {t : A} {x : D} (h : er t = .hold [x]) : ∃ y, t = .hold [y] ∧ er y = x := by
  cases t with
  | hold cs =>
    simp only [er, T.map, T.mapL_eq, T.hold.injEq] at h
    match cs, h with
    | [y], h => exact ⟨y, rfl, by simpa [er] using h⟩
    | [], h => simp at h
    | _ :: _ :: _, h => simp at h
  | _ => simp [er, T.map] at h
/-- A row of whole numbers that comes in: where it lies. -/
theorem rowI_in {id off n : Nat} {l : List Int} {v : Value} (h0 : 0 < n) (hoff : off = 0) (hn : n = l.length) (hM : some (T.hold [.ow () 1 n (l.map fun x => .sc (.int .i64 x))]) = (M id).map er) (hI : Inv S0 w0 M [] w) (hv : RelC S0 w0 M (.sl id [0] off n) v) :
    ∃ b o c, M id = some (.hold [.ow (.blk b o c) 1 n (l.map fun x => .sc (.int .i64 x))]) ∧ v = .slice (some ⟨b, o, none⟩) n c ∧ n ≤ c ∧ Sort.Holds (Value.int .i64) w b o l.toArray ∧ b < w.heap.size ∧ c ≤ maxLen := by
  cases hm : M id with
  | none => rw [hm] at hM; cases hM
  | some t =>
    rw [hm, Option.map_some, Option.some.injEq] at hM
    obtain ⟨y, rfl, hy⟩ := er_hold1 hM.symm
    obtain ⟨d0, csA, rfl, hcs⟩ := er_ow hy
    obtain rfl := er_ints hcs
    have hok := (hI.ok id _ hm).cell (x := .ow d0 1 n (l.map fun x => .sc (.int .i64 x))) (by simp [T.cells])
    have q : ∀ b o c sz m cs, at_ M id [0] (.ow (.blk b o c) sz m cs) → d0 = .blk b o c ∧ sz = 1 := fun b o c sz m cs hat => by
      obtain ⟨t, ht, hg⟩ := hat
      rw [hm, Option.some.injEq] at ht
      subst ht
      simp only [T.get, T.cells, List.getElem?_cons_zero, Option.some.injEq, T.ow.injEq] at hg
      exact ⟨hg.1, hg.2.1.symm⟩
    cases hv with
    | se => omega
    | sl _ _ k _ b o c sz m cs hat hle =>
      obtain ⟨rfl, rfl⟩ := q _ _ _ _ _ _ hat
      have hk : k = 0 := by omega
      subst hk
      have hbl := hI.bl id _ b hm (by simp [T.blocks, T.blocksL])
      cases hok with
      | ow _ _ _ _ _ _ cur ty fz k1 k2 k3 k4 k5 k6 k7 k8 k9 =>
        refine ⟨b, o, c, rfl, by simp, k4, fun j hj => ?_, hbl.1, k5⟩
        have hj' : j < l.length := by simpa using hj
        have hx := k7 j (.sc (.int .i64 l[j])) (by simp [hj'])
        constructor
        · simp only [Go.World.cell?, k1]
          simpa [hj', T.val] using hx
        · simp only [Go.World.frozen?, k1]
          have := k2 (o + j) (by unfold fzTo; simp; omega)
          simp only [Bool.and_eq_false_iff, decide_eq_false_iff_not]
          by_cases hh : fz.1 ≤ o + j
          · right; exact fun h' => this ⟨hh, h'⟩
          · left; exact hh
theorem relG_ints {F : Fr} {id n : Nat} {b o c : Nat} {cs : List A} {M : Heap} (hm : M id = some (.hold [.ow (.blk b o c) 1 n cs])) (hn : n ≤ c) : RelC F w M (.sl id [0] 0 n) (.slice (some ⟨b, o, none⟩) n c) := by
  have := RelC.sl (S0 := F) (w0 := w) (M := M) id [0] 0 n b o c 1 n cs ⟨_, hm, by simp [T.get, T.cells]⟩ (by omega)
  simpa using this
/-- slices.Sort of whole numbers. -/
theorem Spec.sortI {f : Nat} {l ts : List Int} (hE : Enters P f) (h0 : 0 < l.length) (hts : ts.length = l.length)
    (h : ∀ (b o c : Nat) (w : World), Sort.Holds (Value.int .i64) w b o l.toArray → b < w.heap.size → l.length ≤ c → c ≤ maxLen → Calls P f #[.slice (some ⟨b, o, none⟩) l.length c] w fun e w' => e = .returned (.tuple #[]) ∧ ∃ n os, w' = Sort.grow (Sort.putRow (Value.int .i64) (Sort.ahead w n) b o ts.toArray) os) :
    Spec P f [.one (.m 1 l.length (l.map fun x => .sc (.int .i64 x)))] [] [] [.one (.m 1 l.length (ts.map fun x => .sc (.int .i64 x)))] := by
  refine ⟨hE, fun F w M vals hI hl hM hV hG => ?_⟩
  match vals, hl with
  | [v], _ =>
  have hv := (hV 0 _ v rfl rfl).1
  obtain ⟨b, o, c, hm, rfl, hc, hH, hb, hmx⟩ := rowI_in h0 rfl rfl (hM 0) hI hv
  refine Calls.mono (h b o c w hH hb hc hmx) ?_
  rintro e w' ⟨rfl, q, os, rfl⟩
  have h2 := (hI.unlay hm).rowI (q := q) (os := os) (d := ts) l.length (by omega) (by omega)
  rw [← hts, List.take_length] at h2
  have h3 := h2.lay (id := 0) (upd_same _ _ _)
  have hM1 : ∀ x : A, (upd (upd M 0 none) 0 (some x)) = upd M 0 (some x) := fun x => by
    funext i; by_cases hi : i = 0 <;> simp [upd, hi]
  rw [hM1] at h3
  refine ⟨_, ⟨fun _ => .un, fun id => (upd M 0 (some (T.hold [T.ow (.blk b o c) 1 ts.length (ts.map fun x => T.sc (.int .i64 x))])) id).map er, (initFS [.one (.m 1 l.length (l.map fun x => .sc (.int .i64 x)))]).g⟩, _, [], rfl, h3, fun _ => rfl, fun i => ?_, rfl, rfl, rfl, rfl, fun i pa hp => ?_⟩
  · have hg := hG i
    simp only [initFS_g] at hg ⊢
    rcases hk : i / 64 with _ | k
    · rw [hk] at hg
      simp only [List.getElem?_cons_zero, argG] at hg ⊢
      by_cases hi : i % 64 = 0
      · rw [if_pos hi] at hg ⊢
        have hgv : F.gv i = .slice (some ⟨b, o, none⟩) l.length c := by
          obtain ⟨b', o', c', hm', hv', -⟩ := rowI_in h0 rfl rfl (hM 0) hI hg
          rw [hm] at hm'
          simp only [Option.some.injEq, T.hold.injEq, List.cons.injEq, T.ow.injEq, AD.blk.injEq, and_true, true_and] at hm'
          obtain ⟨rfl, rfl, rfl⟩ := hm'
          exact hv'
        rw [hgv]
        exact relG_ints (M := upd M 0 _) (by rw [upd_same, hts]) hc
      · rw [if_neg hi]; exact .un _
    · simp; exact .un _
  · rcases i with _ | i
    · simp at hp; subst hp
      refine ⟨_, rfl, ?_⟩
      simp [backA, backC, initFS, argG, PC.gh, upd, er, T.map, T.mapL_eq, T.get, T.cells, hts]
    · simp at hp
/-- slices.Compact of whole numbers. -/
theorem Spec.compactI {f : Nat} {l ts zs : List Int} (hE : Enters P f) (h0 : 0 < l.length) (hts : (ts ++ zs).length = l.length)
    (h : ∀ (b o c : Nat) (w : World), Sort.Holds (Value.int .i64) w b o l.toArray → b < w.heap.size → l.length ≤ c → c ≤ maxLen → Calls P f #[.slice (some ⟨b, o, none⟩) l.length c] w fun e w' => e = .returned (.slice (some ⟨b, o, none⟩) ts.length c) ∧ ∃ n, w' = Sort.putRow (Value.int .i64) (Sort.ahead w n) b o (ts ++ zs).toArray) :
    Spec P f [.one (.c 1 l.length (l.map fun x => .sc (.int .i64 x)))] [none] [.ow () 1 ts.length (ts.map fun x => .sc (.int .i64 x))] [.one (.c 1 l.length (l.map fun x => .sc (.int .i64 x)))] := by
  refine ⟨hE, fun F w M vals hI hl hM hV hG => ?_⟩
  match vals, hl with
  | [v], _ =>
  have hv := (hV 0 _ v rfl rfl).1
  obtain ⟨b, o, c, hm, rfl, hc, hH, hb, hmx⟩ := rowI_in h0 rfl rfl (hM 0) hI hv
  refine Calls.mono (h b o c w hH hb hc hmx) ?_
  rintro e w' ⟨rfl, q, rfl⟩
  have h2 := (hI.unlay hm).rowI (q := q) (os := #[]) (d := ts ++ zs) ts.length (by simp) (by omega)
  rw [List.take_left, Sort.grow_empty] at h2
  refine ⟨_, ⟨fun _ => .un, fun id => (upd M 0 none id).map er, fun _ => .un⟩, _, _, rfl, h2, fun _ => rfl, fun i => .un _, ?_, rfl, rfl, rfl, fun i pa hp => ?_⟩
  · simp [er, T.map, T.mapL_eq]
  · rcases i with _ | i
    · simp at hp; subst hp
      exact ⟨_, rfl, rfl⟩
    · simp at hp
end
end Go.Proofs.Ytciieaidbiejmaa.DM

/-
  DM 40. min and max of whole numbers; words for reckoning with omega az simp's discharger.
-/
namespace Go.Proofs.Ytciieaidbiejmaa.DM
set_option linter.unusedVariables false
set_option linter.unusedSimpArgs false
section
variable {P : Program} {nt : Nat} {s : FS}
theorem minmax_step {o : Oper} {d : Nat} {v : Int} (hd : o.dst = some d) (hdn : d < nt)
    (hrun : ∀ (S0 : Fr) (w0 : World) (M : Heap) (a : Act) (w : World), Rel S0 w0 nt s M a w → (execOp a.eval o).run P w = .ok (.value (.int .i64 v)) w) : OpStep P nt o s ⟨upd s.e d (.v (.one (.t (.sc (.int .i64 v))))), s.h, s.g⟩ := fun S0 w0 M a w hR next Q hn => by
  unfold Oper.wp
  rw [hrun S0 w0 M a w hR, Oper.upon_value, hd]
  exact hn _ _ _ (hR.put ⟨.t _ _ (.sc _ rfl), rfl⟩ hdn)
theorem OpStep.maxI {o : Oper} {x y : Operand} {ats : Array TypeId} {d : Nat} {m n : Int} (ho : o.op = .call { callee := .builtin .max, args := #[x, y], argTypes := ats }) (hd : o.dst = some d) (hdn : d < nt) (hx : asSc (ev s.e x) = some (.int .i64 m)) (hy : asSc (ev s.e y) = some (.int .i64 n)) :
    OpStep P nt o s ⟨upd s.e d (.v (.one (.t (.sc (.int .i64 (max m n)))))), s.h, s.g⟩ := minmax_step hd hdn fun S0 w0 M a w hR => by
  have h1 := (asSc_ok (S0 := S0) (w0 := w0) (M := M) hx (ev_ok hR x)).1
  have h2 := (asSc_ok (S0 := S0) (w0 := w0) (M := M) hy (ev_ok hR y)).1
  have e : (if n > m then n else m) = max m n := by split <;> omega
  simp only [execOp, ho, resolve, Sem.run_bind, Sem.run_pure, Result.andThen_ok, invoke, builtin, List.map_toArray, List.map_cons, List.map_nil, h1, h2, Builtin.max_, Builtin.max2, List.foldlM, e]
theorem OpStep.minI {o : Oper} {x y : Operand} {ats : Array TypeId} {d : Nat} {m n : Int} (ho : o.op = .call { callee := .builtin .min, args := #[x, y], argTypes := ats }) (hd : o.dst = some d) (hdn : d < nt) (hx : asSc (ev s.e x) = some (.int .i64 m)) (hy : asSc (ev s.e y) = some (.int .i64 n)) :
    OpStep P nt o s ⟨upd s.e d (.v (.one (.t (.sc (.int .i64 (min m n)))))), s.h, s.g⟩ := minmax_step hd hdn fun S0 w0 M a w hR => by
  have h1 := (asSc_ok (S0 := S0) (w0 := w0) (M := M) hx (ev_ok hR x)).1
  have h2 := (asSc_ok (S0 := S0) (w0 := w0) (M := M) hy (ev_ok hR y)).1
  have e : (if n < m then n else m) = min m n := by split <;> omega
  simp only [execOp, ho, resolve, Sem.run_bind, Sem.run_pure, Result.andThen_ok, invoke, builtin, List.map_toArray, List.map_cons, List.map_nil, h1, h2, Builtin.min_, Builtin.min2, List.foldlM, e]
end
theorem wrapI {x : Int} (h : -9223372036854775808 ≤ x ∧ x < 9223372036854775808) : IntKind.i64.wrap x = x := by
  rw [IntKind.wrap_i64]; omega
theorem leT {a b : Int} (h : a ≤ b) : (a ≤ b) = True := eq_true h
theorem leF {a b : Int} (h : b < a) : (a ≤ b) = False := eq_false (by omega)
theorem ltT {a b : Int} (h : a < b) : (a < b) = True := eq_true h
theorem ltF {a b : Int} (h : b ≤ a) : (a < b) = False := eq_false (by omega)
theorem eqF {a b : Int} (h : a ≠ b) : (a = b) = False := eq_false h
theorem nleT {a b : Nat} (h : a ≤ b) : (a ≤ b) = True := eq_true h
theorem nltT {a b : Nat} (h : a < b) : (a < b) = True := eq_true h
theorem nleF {a b : Nat} (h : b < a) : (a ≤ b) = False := eq_false (by omega)
theorem nltF {a b : Nat} (h : b ≤ a) : (a < b) = False := eq_false (by omega)
end Go.Proofs.Ytciieaidbiejmaa.DM

/-
  DM 41. string(b) az an adding step in a drawn region.
-/
namespace Go.Proofs.Ytciieaidbiejmaa.DM
set_option linter.unusedVariables false
set_option linter.unusedSimpArgs false
section
variable {P : Program} {nt : Nat} {ops : Array Oper} {s : FS} {o : Oper}
theorem Cert.rowStr {src dst e : TypeId} {x : Operand} {d id off n N : Nat} {p : List Nat} {root : D} {cs : List D} (l : List UInt8) (ho : o.op = .convert src dst x) (hg : o.guard = none) (hd : o.dst = some d) (hdn : d < nt) (hs : P.underlying src = some (.slice e)) (hds : P.underlying dst = some .string) (he : P.underlying e = some (.int .u8))
    (hx : ev s.e x = .v (.one (.sl id p off n))) (hh : s.h id = some root) (hr : root.get p = some (.ow () 1 N cs)) (hb : off + n ≤ cs.length) (hc : (cs.drop off).take n = l.map byteD) :
    Cert P nt ops o (o.looksAt ops) (refsO s o) ⟨d, .v (.one (.t (.sc (.string ⟨l.toArray⟩)))), none⟩ s := fun s' hE hH => .inl ⟨by simp [wantedD, hg], by
  have hx' : ev s'.e x = .v (.one (.sl id p off n)) := by
    rw [← hx]; exact ev_local hE x (by rw [ho]; simp [Op.operands])
  have hh' : s'.h id = some root := by
    rw [← hh]; refine hH id ?_
    simp only [refsO, ho, Op.operands, List.mem_flatMap]
    exact ⟨x, by simp, by rw [hx]; simp [refsDV, refsDC]⟩
  refine OpStep.bytesStr (n := n) (l := l) (s' := s') (f := fun c => c) ho hd hdn hs hds he (by rw [hx']; rfl) ?_
  rw [hx']
  simp only [srcCells, hh', hr, Nat.mul_one, hc]
  have hf : (l.map byteD).all flatD = true := by simp [List.all_map, List.all_eq_true]
  rw [if_pos ⟨by simp, hb⟩, if_pos hf]⟩
end
end Go.Proofs.Ytciieaidbiejmaa.DM

/-
  DM 42. A guarded step whose guard is known to hold.
-/
namespace Go.Proofs.Ytciieaidbiejmaa.DM
set_option linter.unusedVariables false
theorem RegO.stepT {P : Program} {nt : Nat} {ops : Array Oper} {s s1 : FS} {N : FS → Prop} {o : Oper} {l : List Oper} (hw : wantedD ops o s.e = Option.some true) (h : OpStep P nt o s s1) (hr : RegO P nt ops l s1 N) : RegO P nt ops (o :: l) s N :=
  RegO.guard (b := true) hw (fun _ => ⟨_, h.toE, fun _ e => e ▸ hr⟩) (fun h => by cases h)
end Go.Proofs.Ytciieaidbiejmaa.DM
