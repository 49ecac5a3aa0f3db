/-
  DM 36. A slice built of what is only read, in regions whose order is not told.
-/
import Derived.Test.YtjjdjkkhhcbogaaD35
namespace Go.Proofs.Ytjjdjkkhhcbogaa.DM
set_option linter.unusedVariables false
set_option linter.unusedSimpArgs false
section
variable {P : Program} {nt : Nat} {s : FS} {ops : Array Oper} {o : Oper}
theorem absorbL_ro (s : FS) : ∀ (rcs : List RT), absorbL s (rcs.map .t) = some (rcs.map roD, s)
  | [] => by simp [absorbL]
  | r :: rcs => by
    have ih := absorbL_ro s rcs
    have hab : absorb s (.t r) = some (roD r, s) := by cases r <;> rfl
    have hmap : (rcs.map DC.t).map (pzOf (.t r)) = rcs.map DC.t := (List.map_congr_left (g := fun c => c) fun c _ => rfl).trans (List.map_id' _)
    rw [List.map_cons, absorbL, hab]
    simp only [hmap, ih, List.map_cons]
theorem Cert.buildRo {t e : TypeId} {d sz n : Nat} {parts : Array (Nat × Operand)} {z : List Value} {zs cs : List DC} {ps : List (Nat × List DC)} {rcs : List RT} (ho : o.op = .buildSlice t (n + 1) parts) (hg : o.guard = none) (hd : o.dst = some d) (hdn : d < nt) (he : elemT P t = some (e, sz)) (hz : zeroT P e = some z) (hzs : mapO zcC z = some zs) (hl : zs.length = sz) (h0 : 0 < sz) (h24 : (n + 1) * sz ≤ 2 ^ 24)
    (hps : partsC s.e parts.toList = some ps) (hf : fillC (fun i => some (i * sz, sz)) ((List.replicate (n + 1) zs).flatten) ps = some cs) (hcs : cs = rcs.map .t) (hh : s.h d = none) :
    Cert P nt ops o (o.looksAt ops) (d :: refsO s o) ⟨d, .v (.one (.sl d [] 0 (n + 1))), some (.ow () sz (n + 1) (rcs.map roD))⟩ s := fun s' hloc hhs => by
  have hev := ev_local hloc
  have hp' : partsC s'.e parts.toList = some ps := (partsC_local fun x hx => hev x.2 (by
    simp only [ho, Op.operands, Array.toList_map, List.mem_map]
    exact ⟨x, hx, rfl⟩)).trans hps
  have hh' : s'.h d = none := (hhs d List.mem_cons_self).trans hh
  refine .inl ⟨by simp [wantedD, hg], OpStep.of ?_⟩
  unfold stepF
  rw [ho]
  simp only [hd, he, hz, hzs, hp', hf, hcs, absorbL_ro]
  rw [if_pos ⟨hl, h0, h24, hdn⟩]
  simp [FS.row, hh', FS.add]
theorem Cert.alloc {t : TypeId} {d : Nat} {z : List Value} {xs : List D} (ho : o.op = .alloc t) (hg : o.guard = none) (hd : o.dst = some d) (hdn : d < nt) (hz : zeroT P t = some z) (hxs : mapO zcD z = some xs) (h0 : 0 < xs.length) (hh : s.h d = none) :
    Cert P nt ops o (o.looksAt ops) (d :: refsO s o) ⟨d, .v (.one (.pt d [] 0)), some (.ow () xs.length 1 xs)⟩ s := fun s' hloc hhs => by
  have hh' : s'.h d = none := (hhs d List.mem_cons_self).trans hh
  refine .inl ⟨by simp [wantedD, hg], OpStep.of ?_⟩
  unfold stepF
  rw [ho]
  simp only [hd, hz, hxs]
  rw [if_pos ⟨hdn, h0⟩]
  simp [FS.row, hh', FS.add]
end
end Go.Proofs.Ytjjdjkkhhcbogaa.DM
