/-
  DM 28. copy.
-/
import Derived.Test.YtjjdjkkhhcbogaaD27
namespace Go.Proofs.Ytjjdjkkhhcbogaa.DM
set_option linter.unusedVariables false
set_option linter.unusedSimpArgs false
section
variable {S0 : Fr} {w0 w w' : World} {M M' M1 : Heap} {X : List A} {P : Program} {nt : Nat} {s s1 : FS} {a : Act}
/-- 'copy' of no more than there is room for. -/
theorem OpStep.copy {o : Oper} {x y : Operand} {tx ty e : TypeId} {d id off n m sz : Nat} {p : List Nat} {new : List D} {cs : List DC} {f : DC → DC} (ho : o.op = .call { callee := .builtin .copy, args := #[x, y], argTypes := #[tx, ty] }) (hd : o.dst = some d) (hdn : d < nt)
    (he : elemT P tx = some (e, sz)) (hx : ev s.e x = .v (.one (.sl id p off n))) (hy : srcCells s (ev s.e y) sz = some (m, new, s, f)) (hfl : new.all flatD = true) (hmn : m ≤ n) (hcs : rdCs d [] 0 new = some cs) (hst : storeL s id p off cs = some s1) :
    OpStep P nt o s ⟨upd s1.e d (.v (.one (.t (.sc (.int .i64 m))))), s1.h, s1.g⟩ := fun S0 w0 M a w hR next Q hn => by
  obtain ⟨u1, u2⟩ := elemT_ok he
  obtain ⟨M1, zs, hR1, e1, e2, e3, e4⟩ := src_ok (P := P) hR (ev_ok hR y) hy
  have hzf : ∀ z ∈ zs, flatD (er z) = true := fun z hz => List.all_eq_true.1 hfl _ (by rw [← e1]; exact List.mem_map_of_mem hz)
  have hL : RelL S0 w0 M1 cs (zs.map T.val) := rdZ (M := M1) (d := d) (fun i z hz => .inl (hzf z (List.mem_of_getElem? hz))) hR1.inv.xo (by rw [e1]; exact hcs)
  have hx1 := ev_ok hR1.noX x
  rw [hx] at hx1
  obtain ⟨hc, -⟩ := hx1
  have hmin : Nat.min m n = m := Nat.min_eq_left hmn
  have hlen := e2.len w
  have hcells := e2.cells w rfl
  have hrun : ∃ w1 M2, (Builtin.copy_ #[tx, ty] o.type #[a.eval x, a.eval y]).run P w = .ok (.int .i64 m) w1 ∧ Rel S0 w0 nt s1 M2 a w1 := by
    generalize hu : a.eval x = u at hc
    cases hc with
    | sl _ _ k _ b o' c sz2 m2 cs2 hat hle =>
      obtain ⟨M2, w1, hst1, hR2⟩ := storeL_ok (P := P) (b := b) (o := o' + k * sz2) (i := 0) hR1.noX hL (.pt id p (k * sz2) b o' c sz2 m2 cs2 hat) hst
      refine ⟨w1, M2, ?_, hR2⟩
      simp [Builtin.copy_, run_underlying u1, hlen, hmin, szT_ok u2, hcells, hst1, goInt]
    | se _ _ _ a0 d2 sz2 m2 cs2 hat =>
      have hm0 : m = 0 := by omega
      subst hm0
      have hz0 : zs = [] := List.length_eq_zero_iff.1 (by rw [e3, Nat.zero_mul])
      subst hz0
      have hc0 : cs = [] := List.length_eq_zero_iff.1 (by have := hL.1; simpa using this.symm)
      subst hc0
      simp only [storeL, Option.some.injEq] at hst
      subst hst
      refine ⟨w, M1, ?_, hR1.noX⟩
      cases a0 with
      | none => simp [Builtin.copy_, run_underlying u1, hlen, szT_ok u2, hcells, goInt]
      | some ad => simp [Builtin.copy_, run_underlying u1, hlen, szT_ok u2, hcells, goInt, storeCells]
  obtain ⟨w1, M2, h1, hR2⟩ := hrun
  have hop : (execOp a.eval o).run P w = .ok (.value (.int .i64 m)) w1 := by
    simp only [execOp, ho, resolve, Sem.run_bind, Sem.run_pure, Result.andThen_ok, invoke, builtin, List.map_toArray, List.map_cons, List.map_nil, h1]
  unfold Oper.wp
  rw [hop, Oper.upon_value, hd]
  exact hn _ _ _ (hR2.put ⟨.t _ _ (.sc _ rfl), rfl⟩ hdn)
end
end Go.Proofs.Ytjjdjkkhhcbogaa.DM
