import Derived.Test.YtjjdjkkhhcbogaaGreatDC
/-
  DM 43. make([]T, n) as an adding step in a drawn region.
-/
namespace Go.Proofs.YtjjdjkkhhcbogaaGreat.DM
set_option linter.unusedVariables false
set_option linter.unusedSimpArgs false
section
variable {P : Program} {nt : Nat} {ops : Array Oper} {s : FS} {o : Oper}
theorem Cert.makeSlice {t e : TypeId} {l c : Operand} {d n sz : Nat} {z : List Value} {zs : List D} (ho : o.op = .makeSlice t l c) (hg : o.guard = none) (hd : o.dst = some d) (hdn : d < nt) (he : elemT P t = some (e, sz)) (hz : zeroT P e = some z) (hzs : mapO zcD z = some zs) (hl : zs.length = sz) (h0 : 0 < sz)
    (hel : ev s.e l = .v (.one (.t (.sc (.int .i64 (n : Int)))))) (hec : ev s.e c = .v (.one (.t (.sc (.int .i64 (n : Int)))))) (hb : P.bytesOf e * n ≤ 2 ^ 48) (hn : n ≤ 2 ^ 48) (hh : s.h d = none) :
    Cert P nt ops o (o.looksAt ops) (d :: refsO s o) ⟨d, .v (.one (.sl d [] 0 n)), some (.ow () sz n ((List.replicate n zs).flatten))⟩ s := fun s' hloc hhs => by
  have hh' : s'.h d = none := (hhs d List.mem_cons_self).trans hh
  have hel' : ev s'.e l = .v (.one (.t (.sc (.int .i64 (n : Int))))) := by rw [← hel]; exact ev_local hloc l (by rw [ho]; simp [Op.operands])
  have hec' : ev s'.e c = .v (.one (.t (.sc (.int .i64 (n : Int))))) := by rw [← hec]; exact ev_local hloc c (by rw [ho]; simp [Op.operands])
  refine .inl ⟨by simp [wantedD, hg], OpStep.of ?_⟩
  unfold stepF
  rw [ho]
  simp only [he, hel', hec', asInt, hz, hd, hzs]
  rw [if_pos ⟨hl, h0, trivial, by omega, by exact_mod_cast hb, by exact_mod_cast hn, hdn⟩]
  simp [FS.row, hh', FS.add]
end
end Go.Proofs.YtjjdjkkhhcbogaaGreat.DM
