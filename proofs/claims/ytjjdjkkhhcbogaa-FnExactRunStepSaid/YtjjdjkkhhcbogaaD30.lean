/-
  DM 30. Cells that are only data, laid one behind the other.
-/
import Derived.Test.YtjjdjkkhhcbogaaD29
namespace Go.Proofs.Ytjjdjkkhhcbogaa.DM
set_option linter.unusedVariables false
set_option linter.unusedSimpArgs false
theorem put_get_self {α β : Type} : ∀ (p : List Nat) (t x : T α β), t.get p = some x → t.put p x = t
  | [], t, x, h => by simp only [T.get, Option.some.injEq] at h; rw [h]; rfl
  | i :: p, t, x, h => by
    simp only [T.get] at h
    simp only [T.put]
    cases hc : t.cells[i]? with
    | none => rfl
    | some c =>
      rw [hc] at h
      simp only [put_get_self p c x h]
      have : t.cells.set i c = t.cells := by
        obtain ⟨h1, h2⟩ := List.getElem?_eq_some_iff.1 hc
        rw [← h2, List.set_getElem_self]
      rw [this]
      cases t <;> rfl
theorem upd_self {α : Type} (f : Nat → α) (k : Nat) (v : α) (h : f k = v) : upd f k v = f := by
  funext i
  by_cases hi : i = k
  · subst hi; rw [upd_same, h]
  · rw [upd_ne _ _ _ _ hi]
theorem storeL_flat : ∀ (rs : List RT) {s : FS} {id off sz n : Nat} {p : List Nat} {root : D} {cs : List D}, s.h id = some root → root.get p = some (.ow () sz n cs) → off + rs.length ≤ cs.length → (∀ (j : Nat) (x : D), off ≤ j → j < off + rs.length → cs[j]? = some x → isOw x = false) →
    storeL s id p off (rs.map .t) = some ⟨s.e, upd s.h id (some (root.put p (.ow () sz n (cs.take off ++ (rs.map roD ++ cs.drop (off + rs.length)))))), s.g⟩
  | [], s, id, off, sz, n, p, root, cs, hr, hg, hl, ho => by
    have h1 : root.put p (.ow () sz n (cs.take off ++ (([] : List RT).map roD ++ cs.drop (off + ([] : List RT).length)))) = root := put_get_self p root _ (by simpa using hg)
    rw [h1, upd_self _ _ _ hr]
    simp [storeL]
  | r :: rs, s, id, off, sz, n, p, root, cs, hr, hg, hl, ho => by
    have hlt : off < cs.length := by simp at hl; omega
    have hold := ho off _ (Nat.le_refl _) (by simp) (List.getElem?_eq_getElem hlt)
    have hab : absorb s (.t r) = some (roD r, s) := by cases r <;> rfl
    have hst : storeC s id p off (.t r) = some (⟨s.e, upd s.h id (some (root.put p (.ow () sz n (cs.set off (roD r))))), s.g⟩, fun c => c) := by
      unfold storeC
      rw [hab]
      simp only [pzOf, hr, hg, List.getElem?_eq_getElem hlt, hold, Bool.false_eq_true, if_false]
    have hsome : (root.get p).isSome = true := by rw [hg]; rfl
    have hg' : (root.put p (.ow () sz n (cs.set off (roD r)))).get p = some (.ow () sz n (cs.set off (roD r))) := by
      have := get_put_same p [] root (.ow () sz n (cs.set off (roD r))) hsome
      simpa [T.get] using this
    have ih := storeL_flat rs (s := ⟨s.e, upd s.h id (some (root.put p (.ow () sz n (cs.set off (roD r))))), s.g⟩) (off := off + 1) (upd_same _ _ _) hg' (by rw [List.length_set]; simp at hl; omega) (fun j x h1 h2 hx => by
      rw [List.getElem?_set_ne (by omega)] at hx
      exact ho j x (by omega) (by simp; omega) hx)
    rw [List.map_cons, storeL, hst]
    simp only [List.map_id']
    rw [ih, upd_upd, put_put]
    congr 5
    have h1 : (cs.set off (roD r)).take (off + 1) = cs.take off ++ [roD r] := by
      have hA : (cs.take off).length = off := by rw [List.length_take]; omega
      have h3 : cs.set off (roD r) = cs.take off ++ roD r :: cs.drop (off + 1) := by rw [List.set_eq_take_append_cons_drop, if_pos hlt]
      generalize roD r = x at h3 ⊢
      rw [h3]
      have h4 := List.take_length_add_append (l₁ := cs.take off) (l₂ := x :: cs.drop (off + 1)) 1
      rw [hA] at h4
      rw [h4]
      rfl
    have h2 : (cs.set off (roD r)).drop (off + 1 + rs.length) = cs.drop (off + (rs.length + 1)) := by
      rw [List.drop_set_of_lt (by omega)]
      congr 1
      omega
    rw [h1, h2]
    simp
theorem rdCs_flat {id : Nat} {p : List Nat} : ∀ (rs : List RT) (i : Nat), rdCs id p i (rs.map roD) = some (rs.map .t)
  | [], i => rfl
  | r :: rs, i => by
    have h1 : rdC id p i (roD r) = some (.t r) := by cases r <;> rfl
    rw [List.map_cons, rdCs, h1, rdCs_flat rs (i + 1)]
    rfl
theorem flat_all (rs : List RT) : (rs.map roD).all flatD = true := by
  rw [List.all_eq_true]
  intro x hx
  obtain ⟨r, _, rfl⟩ := List.mem_map.1 hx
  cases r <;> rfl
abbrev byteD (c : UInt8) : D := .sc (.int .u8 c.toNat)
/-- 'copy' of a string into a row of bytes. -/
theorem OpStep.copyStr {P : Program} {nt : Nat} {s : FS} {o : Oper} {x y : Operand} {tx ty e : TypeId} {d id off n N : Nat} {p : List Nat} {root : D} {l : List UInt8} {b : ByteArray} (ho : o.op = .call { callee := .builtin .copy, args := #[x, y], argTypes := #[tx, ty] }) (hd : o.dst = some d) (hdn : d < nt)
    (he : elemT P tx = some (e, 1)) (hx : ev s.e x = .v (.one (.sl id p off n))) (hy : ev s.e y = .v (.one (.t (.sc (.string b))))) (hh : s.h id = some root) (hg : root.get p = some (.ow () 1 N (l.map byteD))) (hoff : off + n ≤ l.length) (hmn : b.size ≤ n) :
    OpStep P nt o s ⟨upd s.e d (.v (.one (.t (.sc (.int .i64 b.size))))), upd s.h id (some (root.put p (.ow () 1 N ((l.take off ++ (b.data.toList ++ l.drop (off + b.size))).map byteD)))), s.g⟩ := by
  have hbl : (b.data.toList.map fun c => (RT.sc (.int .u8 c.toNat))).length = b.size := by rw [List.length_map, Array.length_toList]; rfl
  have hmap : (b.data.toList.map fun c => (RT.sc (.int .u8 c.toNat))).map roD = b.data.toList.map byteD := by rw [List.map_map]; rfl
  have hsrc : srcCells s (ev s.e y) 1 = some (b.size, (b.data.toList.map fun c => (RT.sc (.int .u8 c.toNat))).map roD, s, fun c => c) := by rw [hy, hmap]; simp [srcCells]
  have hst := storeL_flat (b.data.toList.map fun c => (RT.sc (.int .u8 c.toNat))) (off := off) hh hg (by rw [hbl, List.length_map]; omega) (fun j z h1 h2 hz => by
    rw [List.getElem?_map, Option.map_eq_some_iff] at hz
    obtain ⟨c, _, rfl⟩ := hz
    rfl)
  rw [hmap, hbl] at hst
  have := OpStep.copy ho hd hdn he hx hsrc (flat_all _) hmn (rdCs_flat _ 0) hst
  simpa only [List.map_append, List.map_take, List.map_drop] using this
end Go.Proofs.Ytjjdjkkhhcbogaa.DM
