/-
  DM 54. A step that adds, in regions whose order is not told: what stands in a row is appended to nothing.
-/
import Derived.Test.YtciieaidbiejmaaDD
namespace Go.Proofs.Ytciieaidbiejmaa.DM
set_option linter.unusedVariables false
set_option linter.unusedSimpArgs false
section
variable {P : Program} {nt : Nat} {s : FS} {ops : Array Oper} {o : Oper}
theorem Cert.appRow {x y : Operand} {tx ty e : TypeId} {du : TypeDesc} {d sz m id off n' : Nat} {p : List Nat} {root : D} {cs : List D} {z : List Value} (ho : o.op = .call { callee := .builtin .append, args := #[x, y], argTypes := #[tx, ty] }) (hg : o.guard = none) (hd : o.dst = some d) (hdn : d < nt) (he : elemT P tx = some (e, sz)) (hu : P.underlying ty = some du) (hrow : isRow du = true) (hz : zeroT P e = some z)
    (hx : ev s.e x = .v (.one .nl)) (hy : ev s.e y = .v (.one (.sl id p off m))) (hroot : s.h id = some root) (hget : root.get p = some (.ow () sz n' cs)) (hlen : off + m * sz ≤ cs.length) (hflat : ((cs.drop off).take (m * sz)).all flatD = true) (hzl : z.length = sz) (h0 : 0 < sz) (hb : (0 + m) * P.bytesOf e ≤ 140737488355328) (hm : 0 + m ≤ 140737488355328) (hh : s.h d = none) :
    Cert P nt ops o (o.looksAt ops) (d :: refsO s o) ⟨d, .v (.one (.sl d [] 0 m)), some (.ow () sz m ((cs.drop off).take (m * sz)))⟩ s := fun s' hl hhs => by
  have hev := ev_local hl
  have hx' : ev s'.e x = .v (.one .nl) := (hev x (by simp [ho, Op.operands, Call.operands])).trans hx
  have hy' : ev s'.e y = .v (.one (.sl id p off m)) := (hev y (by simp [ho, Op.operands, Call.operands])).trans hy
  have hh' : s'.h d = none := (hhs d List.mem_cons_self).trans hh
  have hr' : s'.h id = some root := (hhs id (List.mem_cons_of_mem _ (by
    unfold refsO
    rw [List.mem_flatMap]
    exact ⟨y, by simp [ho, Op.operands, Call.operands], by rw [hy]; simp [refsDV, refsDC]⟩))).trans hroot
  have hsrc : srcCells s' (ev s'.e y) sz = some (m, (cs.drop off).take (m * sz), s', fun c => c) := by
    rw [hy']
    simp only [srcCells, hr', hget, hflat, if_true]
    rw [if_pos ⟨.inl trivial, hlen⟩]
  refine .inl ⟨by simp [wantedD, hg], OpStep.of ?_⟩
  unfold stepF
  rw [ho]
  show appendF P nt s' o.dst x y tx ty = _
  unfold appendF
  simp only [hd, he, hu, hz, hrow, hx', hsrc, absorb, FS.row, hh']
  have e0 : 0 + m = m := by omega
  rw [if_pos ⟨hdn, hzl, h0, by simp, hb, hm⟩]
  simp [FS.add, e0]
end
end Go.Proofs.Ytciieaidbiejmaa.DM
