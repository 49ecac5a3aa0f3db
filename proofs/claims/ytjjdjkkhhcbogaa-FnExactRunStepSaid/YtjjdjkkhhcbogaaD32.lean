/-
  DM 32. A struct's value is laid into a variable of its own while rows in it are lent: the rows move along, and go back at the end.
-/
import Derived.Test.YtjjdjkkhhcbogaaD31
namespace Go.Proofs.Ytjjdjkkhhcbogaa.DM
set_option linter.unusedVariables false
set_option linter.unusedSimpArgs false
/-- Which row of a new variable a ghost is. -/
def boxG (d : Nat) : Nat → List DC → List D → DC → DC
  | i, .sl id p off n :: cs, .ow _ sz m zs :: xs, .sl id' p' off' n' => if id = id' ∧ p = p' ∧ off = 0 ∧ off' = 0 ∧ n = n' ∧ m = n ∧ 0 < n then .sl d [i] 0 n else boxG d (i + 1) cs xs (.sl id' p' off' n')
  | i, _ :: cs, _ :: xs, g => boxG d (i + 1) cs xs g
  | _, _, _, _ => .un
def orG : DC → DC → DC
  | .un, c => c
  | c, _ => c
section
variable {S0 : Fr} {w0 w w' : World} {M M' M1 : Heap} {X : List A} {P : Program} {nt : Nat} {s s1 : FS} {a : Act}
theorem boxG_at {d : Nat} {g : DC} : ∀ {i : Nat} {cs : List DC} {xs : List D}, boxG d i cs xs g = .un ∨ ∃ j id p n sz zs, g = .sl id p 0 n ∧ cs[j]? = some (.sl id p 0 n) ∧ xs[j]? = some (.ow () sz n zs) ∧ 0 < n ∧ boxG d i cs xs g = .sl d [i + j] 0 n := by
  intro i cs
  induction cs generalizing i with
  | nil => intro xs; exact .inl (by cases xs <;> rfl)
  | cons c cs ih =>
    intro xs
    cases xs with
    | nil => left; cases c <;> rfl
    | cons x xs =>
      have key : boxG d i (c :: cs) (x :: xs) g = boxG d (i + 1) cs xs g ∨ ∃ id p n sz zs, g = .sl id p 0 n ∧ c = .sl id p 0 n ∧ x = .ow () sz n zs ∧ 0 < n ∧ boxG d i (c :: cs) (x :: xs) g = .sl d [i] 0 n := by
        cases c with
        | sl id p off n =>
          cases x with
          | ow u sz m zs =>
            cases g with
            | sl id' p' off' n' =>
              simp only [boxG]
              by_cases h : id = id' ∧ p = p' ∧ off = 0 ∧ off' = 0 ∧ n = n' ∧ m = n ∧ 0 < n
              · obtain ⟨rfl, rfl, rfl, rfl, rfl, rfl, h0⟩ := h
                exact .inr ⟨id, p, m, sz, zs, rfl, rfl, rfl, h0, by simp [h0]⟩
              · exact .inl (by rw [if_neg h])
            | _ => exact .inl rfl
          | _ => exact .inl rfl
        | _ => exact .inl rfl
      rcases key with h | ⟨id, p, n, sz, zs, h1, h2, h3, h4, h5⟩
      · rw [h]
        rcases ih (i := i + 1) (xs := xs) with h' | ⟨j, id, p, n, sz, zs, h1, h2, h3, h4, h5⟩
        · exact .inl h'
        · exact .inr ⟨j + 1, id, p, n, sz, zs, h1, by simpa using h2, by simpa using h3, h4, by rw [h5]; congr 2; omega⟩
      · exact .inr ⟨0, id, p, n, sz, zs, h1, by simp [h2], by simp [h3], h4, by simpa using h5⟩
/-- The same row, the same value: but where it is empty. -/
theorem RelC.same {id n : Nat} {p : List Nat} {u v : Value} (hI : ∀ id t, M id = some t → Ok S0 w0 w t) (h0 : 0 < n) (h1 : RelC S0 w0 M (.sl id p 0 n) u) (h2 : RelC S0 w0 M (.sl id p 0 n) v) : u = v := by
  have key : ∀ u, RelC S0 w0 M (.sl id p 0 n) u → ∃ b o c sz m cs, at_ M id p (.ow (.blk b o c) sz m cs) ∧ u = .slice (some ⟨b, o, none⟩) n c := by
    intro u h
    generalize hoff : (0 : Nat) = off at h
    cases h with
    | sl id p k n b o c sz m cs g1 g2 =>
      have hsz : 0 < sz := by
        obtain ⟨t, ht, hx⟩ := g1
        have := (hI id t ht).get hx
        cases this with
        | ow _ _ _ _ _ _ _ _ _ _ _ k3 => exact k3.2.1
      have hk : k = 0 := by
        rcases Nat.eq_zero_or_pos k with h | h
        · exact h
        · have := Nat.mul_pos h hsz; omega
      subst hk
      exact ⟨b, o, c, sz, m, cs, g1, by simp⟩
    | se => omega
  obtain ⟨b, o, c, sz, m, cs, g1, rfl⟩ := key u h1
  obtain ⟨b', o', c', sz', m', cs', g2, rfl⟩ := key v h2
  have := at_unique g1 g2
  simp only [T.ow.injEq, AD.blk.injEq] at this
  obtain ⟨⟨rfl, rfl, rfl⟩, -⟩ := this
  rfl
/-- A struct is laid into a variable of its own; ghosts of rows in it go along. -/
theorem OpStep.boxR {o : Oper} {t : TypeId} {x : Operand} {d : Nat} {cs : List DC} {xs : List D} {s2 : FS} (ho : o.op = .box t x) (hd : o.dst = some d) (hdn : d < nt) (hcs : dcs (ev s.e x) = some cs) (hxs : absorbL s cs = some (xs, s2)) (hx0 : 0 < xs.length) (hnew : s2.h d = none) :
    OpStep P nt o s ⟨upd s2.e d (.v (.one (.pt d [] 0))), upd s2.h d (some (.ow () xs.length 1 xs)), fun k => orG (s2.g k) (boxG d 0 cs xs (s.g k))⟩ := fun S0 w0 M a w hR next Q hn => by
  have h : stepF P nt o s = some ⟨upd s2.e d (.v (.one (.pt d [] 0))), upd s2.h d (some (.ow () xs.length 1 xs)), s2.g⟩ := by
    simp only [stepF, ho, hd, hcs, hxs, hdn, hx0, and_self, if_true, FS.row, hnew]
  have hL := dcs_rel hcs (ev_ok hR x)
  obtain ⟨M1, ys, hR1, e1, e2, e3⟩ := absorbL_ok hR hL hxs
  rw [List.nil_append] at hR1
  have hlen : ys.length = xs.length := by rw [← e1, List.length_map]
  have hcur : ∀ (i : Nat) (y : A), ys[i]? = some y → (a.eval x).cells[i]? = some y.val := fun i y hi => by
    rw [← Array.getElem?_toList, ← e2, List.getElem?_map, hi]; rfl
  have hsz : (a.eval x).cells.size = xs.length := by rw [← Array.length_toList, ← e2, List.length_map, hlen]
  have hM : M1 d = none := by
    have := hR1.er d
    rw [hnew] at this
    cases hm : M1 d with
    | none => rfl
    | some u => rw [hm] at this; cases this
  have hrun : (execOp a.eval o).run P w = .ok (.value (.pointer (some ⟨w.heap.size, 0, none⟩))) (w.alloc (.cells (a.eval x).cells t)) := by simp [execOp, ho, Instr.box, newVar, newRow]
  have hR2 : Rel S0 w0 nt ⟨upd s2.e d (.v (.one (.pt d [] 0))), upd s2.h d (some (.ow () xs.length 1 xs)), s2.g⟩ (upd M1 d (some (.ow (.blk w.heap.size 0 1) xs.length 1 ys))) (a.put (some d) (.pointer (some ⟨w.heap.size, 0, none⟩))) (w.alloc (.cells (a.eval x).cells t)) := by
    exact entry_ok (v := .v (.one (.pt d [] 0))) (sz := xs.length) (n := 1) (xs := xs) hR1 hdn (by simp only [FS.row, hnew]) (by rw [er_ow_mk, e1]) (fun hM => hR1.inv.new hM (push_alloc w _ t) nofz' (by rw [hsz]; omega) hx0 (Nat.le_refl _) (by simp [maxLen]) (by omega) hcur) ⟨.pt d [] 0 w.heap.size 0 1 xs.length 1 ys ⟨_, upd_same _ _ _, get_self _⟩, rfl⟩
  unfold Oper.wp
  rw [hrun, Oper.upon_value, hd]
  refine hn _ _ _ ⟨hR2.inv, hR2.er, hR2.en, hR2.nt, hR2.df, fun k => ?_⟩
  have hg2 := hR2.gh k
  simp only at hg2 ⊢
  cases hs2 : s2.g k with
  | un =>
    simp only [orG]
    rcases boxG_at (d := d) (g := s.g k) (i := 0) (cs := cs) (xs := xs) with h1 | ⟨j, id, p, n, sz, zs, h1, h2, h3, h4, h5⟩
    · rw [h1]; exact .un _
    · rw [h5, Nat.zero_add]
      have hgk := hR.gh k
      rw [h1] at hgk
      have hjv : j < (a.eval x).cells.toList.length := by
        rw [hL.1]; exact (List.getElem?_eq_some_iff.1 h2).1
      have hv := hL.2.1 j _ _ h2 (List.getElem?_eq_getElem hjv)
      have heq := RelC.same hR.inv.ok h4 hgk hv
      have hjy : j < ys.length := by rw [hlen]; exact (List.getElem?_eq_some_iff.1 h3).1
      have hye : er ys[j] = .ow () sz n zs := by
        have : (ys.map er)[j]? = some (.ow () sz n zs) := by rw [e1]; exact h3
        rw [List.getElem?_map, List.getElem?_eq_getElem hjy] at this
        exact Option.some.inj this
      have hyv : ys[j].val = S0.gv k := by
        rw [heq]
        have : (ys.map T.val)[j]? = some ((a.eval x).cells.toList[j]) := by rw [e2]; exact List.getElem?_eq_getElem hjv
        rw [List.getElem?_map, List.getElem?_eq_getElem hjy] at this
        exact Option.some.inj this
      have hat : at_ (upd M1 d (some (.ow (.blk w.heap.size 0 1) xs.length 1 ys))) d [j] ys[j] := ⟨_, upd_same _ _ _, by simp [T.get, T.cells, hjy]⟩
      generalize ys[j] = y at hye hyv hat
      cases y with
      | ow dd sz' n' cs' =>
        rw [er_ow_mk] at hye
        simp only [T.ow.injEq, true_and] at hye
        obtain ⟨rfl, rfl, rfl⟩ := hye
        cases dd with
        | blk b o c =>
          rw [← hyv]
          have := RelC.sl (S0 := S0) (w0 := w0) d [j] 0 n' b o c sz' n' cs' hat (by omega)
          simpa [T.val] using this
        | emp a0 =>
          have hok := hR2.inv.ok _ _ (upd_same _ _ _)
          have hz : n' = 0 := by
            have hk := hok.cell (x := .ow (.emp a0) sz' n' cs') (by
              obtain ⟨t', ht', hx'⟩ := hat
              rw [upd_same] at ht'
              obtain rfl := Option.some.inj ht'
              simp only [T.get, T.cells] at hx'
              split at hx'
              · rename_i c hc; obtain rfl := Option.some.inj hx'; exact List.mem_of_getElem? hc
              · cases hx')
            cases hk; rfl
          omega
      | _ => simp [er, T.map] at hye
  | _ => rw [hs2] at hg2; exact hg2
end
attribute [simp] boxG orG
end Go.Proofs.Ytjjdjkkhhcbogaa.DM
