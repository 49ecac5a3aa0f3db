/-
  DM 35. Steps that add, in regions whose order is not told: an empty slice; what is appended to nothing.
-/
import Derived.Test.YtjjdjkkhhcbogaaD34
namespace Go.Proofs.Ytjjdjkkhhcbogaa.DM
set_option linter.unusedVariables false
set_option linter.unusedSimpArgs false
section
variable {P : Program} {nt : Nat} {s : FS} {ops : Array Oper} {o : Oper}
theorem Cert.nilSlice {t e : TypeId} {d sz : Nat} {z : List Value} {zs : List DC} (ho : o.op = .buildSlice t 0 #[]) (hg : o.guard = none) (hd : o.dst = some d) (hdn : d < nt) (he : elemT P t = some (e, sz)) (hz : zeroT P e = some z) (hzs : mapO zcC z = some zs) (hl : zs.length = sz) (h0 : 0 < sz) :
    Cert P nt ops o (o.looksAt ops) (refsO s o) ⟨d, .v (.one .nl), none⟩ s := fun s' _ _ => .inl ⟨by simp [wantedD, hg], OpStep.of (by
  unfold stepF
  rw [ho]
  simp only [hd, he, hz, hzs, partsC, hl, h0, Nat.zero_mul, hdn, and_self, true_and, List.length_nil, if_true]
  rw [if_pos (by decide)]
  rfl)⟩
/-- What is only read is appended to nothing: a new row. -/
theorem Cert.appNil {x y : Operand} {tx ty e : TypeId} {du : TypeDesc} {d sz m : Nat} {z : List Value} {rcs : List RT} (ho : o.op = .call { callee := .builtin .append, args := #[x, y], argTypes := #[tx, ty] }) (hg : o.guard = none) (hd : o.dst = some d) (hdn : d < nt) (he : elemT P tx = some (e, sz)) (hu : P.underlying ty = some du) (hrow : isRow du = true) (hz : zeroT P e = some z)
    (hx : ev s.e x = .v (.one .nl)) (hy : ev s.e y = .v (.one (.t (.sl m rcs)))) (hlen : rcs.length = m * sz) (hzl : z.length = sz) (h0 : 0 < sz) (hb : (0 + m) * P.bytesOf e ≤ 140737488355328) (hm : 0 + m ≤ 140737488355328) (hh : s.h d = none) :
    Cert P nt ops o (o.looksAt ops) (d :: refsO s o) ⟨d, .v (.one (.sl d [] 0 m)), some (.ow () sz m (rcs.map roD))⟩ s := fun s' hl hhs => by
  have hev := ev_local hl
  have hx' : ev s'.e x = .v (.one .nl) := (hev x (by simp [ho, Op.operands, Call.operands])).trans hx
  have hy' : ev s'.e y = .v (.one (.t (.sl m rcs))) := (hev y (by simp [ho, Op.operands, Call.operands])).trans hy
  have hh' : s'.h d = none := (hhs d List.mem_cons_self).trans hh
  refine .inl ⟨by simp [wantedD, hg], OpStep.of ?_⟩
  unfold stepF
  rw [ho]
  show appendF P nt s' o.dst x y tx ty = _
  unfold appendF
  simp only [hd, he, hu, hz, hrow, hx', hy', srcCells, hlen, if_true, absorb, FS.row, hh']
  have e0 : 0 + m = m := by omega
  rw [if_pos ⟨hdn, hzl, h0, by simp, hb, hm⟩]
  simp [FS.add, e0]
end
end Go.Proofs.Ytjjdjkkhhcbogaa.DM
