/-
  DM 27. More operations: the test against nil, conversions between strings and bytes, copy.
-/
import Derived.Test.YtjjdjkkhhcbogaaD26
import Derived.Lib.ConvBytes
import Derived.Laws.BytesString
namespace Go.Proofs.Ytjjdjkkhhcbogaa.DM
set_option linter.unusedVariables false
set_option linter.unusedSimpArgs false
/-- A row, and how many elements it has. -/
def rowLen : DV → Option Nat
  | .v (.one (.t (.sl n _))) => some n
  | .v (.one (.sl _ _ _ n)) => some n
  | .v (.one .nl) => some 0
  | _ => none
section
variable {S0 : Fr} {w0 w w' : World} {M M' M1 : Heap} {X : List A} {P : Program} {nt : Nat} {s s1 : FS} {a : Act}
theorem rowLen_ok {v : DV} {u : Value} {n : Nat} (h : RelV S0 w0 M v u) (hl : rowLen v = some n) : ∃ A0 c, u = .slice A0 n c ∧ (A0 = none → n = 0) := by
  unfold rowLen at hl
  split at hl
  · obtain rfl := Option.some.inj hl
    cases h.1 with
    | t r v hro => cases hro with
      | sl ad n c cs vs r1 => exact ⟨_, _, rfl, by simp⟩
      | em a0 c => exact ⟨_, _, rfl, fun _ => rfl⟩
  · obtain rfl := Option.some.inj hl
    generalize ha : u = u' at h
    cases h.1 with
    | sl => exact ⟨_, _, rfl, by simp⟩
    | se => exact ⟨_, _, rfl, fun _ => rfl⟩
  · obtain rfl := Option.some.inj hl
    cases h.1 with
    | nl a0 => exact ⟨_, _, rfl, fun _ => rfl⟩
  · cases hl
theorem equal_nil {ty e : TypeId} {A0 : Option Addr} {n c : Nat} (hu : P.underlying ty = some (.slice e)) : (Op.equal ty (.slice A0 n c) (.slice none 0 0)).run P w = .ok A0.isNone w := by
  show (Op.equalIn (9999 + 1) ty (.slice A0 n c) (.slice none 0 0)).run P w = _
  unfold Op.equalIn
  rw [Sem.run_bind, run_underlying hu, Result.andThen_ok]
  cases A0 <;> rfl
/-- 'x == nil', of a slice: one of two; if it is nil it has no elements. -/
theorem OpStepE.eqNil {o : Oper} {d n : Nat} {ty e ty' : TypeId} {x : Operand} (ho : o.op = .binOp .eql ty x (.const (.slice none 0 0)) ty') (hd : o.dst = some d) (hdn : d < nt) (hu : P.underlying ty = some (.slice e)) (hx : rowLen (ev s.e x) = some n) :
    OpStepE P nt o s fun s1 => ∃ b : Bool, (b = true → n = 0) ∧ s1 = ⟨upd s.e d (.v (.one (.t (.sc (.bool b))))), s.h, s.g⟩ := fun S0 w0 M a w hR next Q hn => by
  obtain ⟨A0, c, hv, hz⟩ := rowLen_ok (ev_ok hR x) hx
  have hrun : (execOp a.eval o).run P w = .ok (.value (.bool A0.isNone)) w := by
    have h1 : binOp .eql ty (.slice A0 n c) (.slice none 0 0) = (do pure (.bool (← Op.equal ty (.slice A0 n c) (.slice none 0 0)))) := by unfold binOp; rfl
    have h2 : eqGuard .eql ty x (.const (.slice none 0 0)) (.slice A0 n c) (.slice none 0 0) = pure () := by unfold eqGuard; rfl
    have h3 : a.eval (.const (.slice none 0 0)) = .slice none 0 0 := rfl
    simp only [execOp, ho, hv, h3, h1, h2, Sem.run_bind, Sem.run_pure, Result.andThen_ok, equal_nil hu]
  unfold Oper.wp
  rw [hrun, Oper.upon_value, hd]
  exact hn _ M _ _ ⟨A0.isNone, fun h => hz (by simpa using h), rfl⟩ (hR.put ⟨.t _ _ (.sc _ rfl), rfl⟩ hdn)
def bytesD (b : ByteArray) : List D := b.data.toList.map fun c => .sc (.int .u8 c.toNat)
theorem bytesWorld_heap (w : World) (e : TypeId) (s : ByteArray) : (Lib.bytesWorld w e s).heap = w.heap.push (.cells (Lib.bytesCells w e s) e ((Lib.bytesCells w e s).size, (Lib.bytesCells w e s).size + 1)) := by
  apply Array.ext_getElem?
  intro i
  rcases Nat.lt_trichotomy i w.heap.size with h | h | h
  · rw [Lib.bytesWorld_at_old w e s i h, Array.getElem?_push_lt h, Array.getElem?_eq_getElem h]
  · subst h; rw [Lib.bytesWorld_at_new]; simp
  · rw [Array.getElem?_eq_none (by rw [Lib.bytesWorld_size]; omega), Array.getElem?_eq_none (by simp; omega)]
/-- '[]byte(s)'. -/
theorem OpStep.strBytes {o : Oper} {src dst e : TypeId} {u : TypeDesc} {x : Operand} {d : Nat} {b : ByteArray} (ho : o.op = .convert src dst x) (hd : o.dst = some d) (hdn : d < nt) (hs : P.underlying src = some u) (hds : P.underlying dst = some (.slice e)) (he : P.underlying e = some (.int .u8))
    (hx : ev s.e x = .v (.one (.t (.sc (.string b))))) (hb : b.size ≤ 2 ^ 40) (hh : s.h d = none) : OpStep P nt o s ⟨upd s.e d (.v (.one (.sl d [] 0 b.size))), upd s.h d (some (.ow () 1 b.size (bytesD b))), s.g⟩ := fun S0 w0 M a w hR next Q hn => by
  have hv := (asSc_ok (S0 := S0) (w0 := w0) (M := M) (x := .v (.one (.t (.sc (.string b))))) rfl (by rw [← hx]; exact ev_ok hR x)).1
  have hrun : (execOp a.eval o).run P w = .ok (.value (.slice (some ⟨w.heap.size, 0, none⟩) b.size (grownCap w b.size 0 e))) (Lib.bytesWorld w e b) := by
    have := Lib.run_convert_string_bytes (P := P) w src dst e b hs hds he
    simp only [execOp, ho, hv, Sem.run_bind, this, Result.andThen_ok, Sem.run_pure]
  have hge := grownCap_ge w b.size 0 e
  have hcm : grownCap w b.size 0 e ≤ maxLen := grownCap_le_maxLen w b.size 0 e (by simp only [maxLen]; omega)
  have hM : M d = none := by
    have := hR.er d
    rw [hh] at this
    cases hm : M d with
    | none => rfl
    | some t => rw [hm] at this; cases this
  have hI := hR.inv.hands (Y := b.data.toList.map fun c => (.sc (.int .u8 c.toNat) : A)) (fun y hy => by
    obtain ⟨c, _, rfl⟩ := List.mem_map.1 hy
    exact ⟨.sc _ rfl, rfl, rfl⟩)
  rw [List.nil_append] at hI
  have hcs : (Lib.bytesCells w e b).size = grownCap w b.size 0 e := by
    have : b.data.size = b.size := rfl
    simp [Lib.bytesCells, this]; omega
  have hnew := hI.new hM (sz := 1) (n := b.size) (c := grownCap w b.size 0 e) (bytesWorld_heap w e b) (fun i hi h => by have := h.1; simp only at this; have hi : i < (Lib.bytesCells w e b).size := hi; omega) (by omega) (by omega) hge hcm (by rw [List.length_map, Array.length_toList, Nat.mul_one]; rfl) (fun i y hi => by
    rw [List.getElem?_map, Option.map_eq_some_iff] at hi
    obtain ⟨c, hc, rfl⟩ := hi
    have hi' : i < b.data.size := by have := (List.getElem?_eq_some_iff.1 hc).1; simpa using this
    rw [Lib.bytesCells, Array.getElem?_append_left (by simpa using hi')]
    rw [Array.getElem?_toList] at hc
    simp [hc, T.val])
  unfold Oper.wp
  rw [hrun, Oper.upon_value, hd]
  have hR1 : Rel S0 w0 nt ⟨s.e, upd s.h d (some (.ow () 1 b.size (bytesD b))), s.g⟩ (upd M d (some (.ow (.blk w.heap.size 0 (grownCap w b.size 0 e)) 1 b.size (b.data.toList.map fun c => (.sc (.int .u8 c.toNat) : A))))) a (Lib.bytesWorld w e b) := by
    refine ⟨hnew, ?_, fun i => (hR.en i).keep (keeps_new hM), hR.nt, hR.df, fun i => (hR.gh i).keep (fun r _ => keeps_new hM r.1 r.2)⟩
    have := er_upd (id := d) (t := some (.ow (.blk w.heap.size 0 (grownCap w b.size 0 e)) 1 b.size (b.data.toList.map fun c => (.sc (.int .u8 c.toNat) : A)))) hR.er
    simp only [Option.map_some, er_ow_mk, List.map_map] at this
    exact this
  refine hn _ _ _ (hR1.put ⟨?_, rfl⟩ hdn)
  have := RelC.sl (S0 := S0) (w0 := w0) (M := upd M d (some (.ow (.blk w.heap.size 0 (grownCap w b.size 0 e)) 1 b.size (b.data.toList.map fun c => (.sc (.int .u8 c.toNat) : A))))) d [] 0 b.size w.heap.size 0 (grownCap w b.size 0 e) 1 b.size _ ⟨_, upd_same _ _ _, get_self _⟩ (by omega)
  simpa using this
/-- 'string(b)'. -/
theorem OpStep.bytesStr {o : Oper} {src dst e : TypeId} {x : Operand} {d n : Nat} {l : List UInt8} {s' : FS} {f : DC → DC} (ho : o.op = .convert src dst x) (hd : o.dst = some d) (hdn : d < nt) (hs : P.underlying src = some (.slice e)) (hds : P.underlying dst = some .string) (he : P.underlying e = some (.int .u8))
    (hx : rowLen (ev s.e x) = some n) (hsrc : srcCells s (ev s.e x) 1 = some (n, l.map (fun c => .sc (.int .u8 c.toNat)), s', f)) : OpStep P nt o s ⟨upd s.e d (.v (.one (.t (.sc (.string ⟨l.toArray⟩))))), s.h, s.g⟩ := fun S0 w0 M a w hR next Q hn => by
  obtain ⟨A0, c, hv, hz⟩ := rowLen_ok (ev_ok hR x) hx
  obtain ⟨M1, zs, hR1, e1, e2, e3, e4⟩ := src_ok (P := P) hR (ev_ok hR x) hsrc
  have hfold : ∀ (l : List UInt8) (acc : ByteArray), (l.map fun c => (c.toNat : Int)).foldl (fun r n => r.push (UInt8.ofNat n.toNat)) acc = ⟨acc.data ++ l.toArray⟩ := by
    intro l
    induction l with
    | nil => intro acc; simp
    | cons c l ih =>
      intro acc
      rw [List.map_cons, List.foldl_cons, ih]
      apply congrArg ByteArray.mk
      apply Array.ext'
      simp [ByteArray.push]
  have hzv : zs.map T.val = (l.map fun c => (c.toNat : Int)).map (Value.int .u8) := by
    have : ∀ (zs : List A) (l : List UInt8), zs.map er = l.map (fun c => (.sc (.int .u8 c.toNat) : D)) → zs.map T.val = (l.map fun c => (c.toNat : Int)).map (Value.int .u8) := fun zs => by
      induction zs with
      | nil => intro l h; cases l with | nil => rfl | cons _ _ => simp at h
      | cons z zs ih =>
        intro l h
        cases l with
        | nil => simp at h
        | cons c l =>
          simp only [List.map_cons, List.cons.injEq] at h ⊢
          refine ⟨?_, ih l h.2⟩
          cases z with
          | sc v => have := h.1; simp only [er, T.map, T.sc.injEq] at this; rw [this]; rfl
          | _ => have := h.1; simp [er, T.map] at this
    exact this zs l e1
  have hrun : (execOp a.eval o).run P w = .ok (.value (.string ⟨l.toArray⟩)) w := by
    have hb : (Conv.bytesToString (.slice A0 n c)).run P w = .ok (.string ⟨l.toArray⟩) w := by
      cases A0 with
      | none =>
        have hn0 := hz rfl
        have hl0 : l = [] := by
          have := e3
          rw [hn0] at this
          have hzl : zs = [] := List.length_eq_zero_iff.1 (by omega)
          rw [hzl] at e1
          simpa using e1.symm
        subst hl0
        rfl
      | some ad =>
        have hcells := e2.cells w rfl
        rw [hv] at hcells
        have hcells : (loadCells ad n).run P w = .ok (zs.map T.val).toArray w := by simpa [Builtin.firstCells] using hcells
        rw [hzv] at hcells
        rw [run_bytesToString w ad n c _ hcells, hfold]
        simp [ByteArray.empty, ByteArray.emptyWithCapacity]
        rfl
    simp only [execOp, ho, hv, convert, Sem.run_bind, run_underlying hs, run_underlying hds, run_underlying he, Result.andThen_ok, hb, Sem.run_pure]
  unfold Oper.wp
  rw [hrun, Oper.upon_value, hd]
  exact hn _ _ _ (hR.put ⟨.t _ _ (.sc _ rfl), rfl⟩ hdn)
end
end Go.Proofs.Ytjjdjkkhhcbogaa.DM
