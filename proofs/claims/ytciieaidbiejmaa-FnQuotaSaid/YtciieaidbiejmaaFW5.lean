import Derived.Test.YtciieaidbiejmaaFW4
namespace Go.Proofs.Ytciieaidbiejmaa.DM
set_option linter.unusedVariables false
set_option linter.unusedSimpArgs false
set_option maxRecDepth 4000
set_option maxHeartbeats 8000000
def pickV (l : List Int) (c : Cur) : Int := l.getD (belowV c l.length).toNat 0
theorem pick_at (l : List Int) (m : Nat) (h : m < l.length) : (l.map di)[m]? = some (di (l.getD m 0)) := by
  rw [List.getElem?_map, List.getElem?_eq_getElem h, List.getD_eq_getElem?_getD, List.getElem?_eq_getElem h]; rfl
theorem pick_drop (l : List Int) (m : Nat) (h : m < l.length) : List.drop m (l.map di) = di (l.getD m 0) :: List.drop (m + 1) (l.map di) := by
  rw [List.drop_eq_getElem_cons (by simpa using h)]
  congr 1
  rw [List.getElem_map, List.getD_eq_getElem?_getD, List.getElem?_eq_getElem h]; rfl
theorem pick_out {d ip : Nat} {T : List Nat} {s s2 : FS} {v : DV} {h : Nat → Option D} (hT : ∀ t ∈ T, okT (s.e t) = true) (he : s2.e 4 = v) (hh : s2.h = h) (hg : ∀ k, s2.g k = pzR ip [] 0 3 ((inlFS s [] T).g k)) :
    outFS d 4 T s s2 = ⟨fun i => if i = d then v else if i ∈ T then mapV (pzR ip [] 0 3) (s.e i) else .un, h, fun k => if k < 4096 then pzR ip [] 0 3 (s.g k) else .un⟩ := by
  unfold outFS
  congr 1
  · funext i
    by_cases hi : i = d
    · simp only [hi, if_true, he]
    · simp only [hi, if_false]
      by_cases hiT : i ∈ T
      · obtain ⟨j, hj⟩ := findT_mem (j := 0) hiT
        obtain ⟨k, hk, hTk⟩ := findT_some hj
        rw [hj, if_pos hiT]
        simp only
        refine backV_map (hT i hiT) rfl fun m hm => ?_
        rw [hg]
        congr 1
        show (if 4096 + 64 * j + m < 4096 then _ else _) = _
        rw [if_neg (by omega), show (4096 + 64 * j + m - 4096) / 64 = k by omega, show (4096 + 64 * j + m - 4096) % 64 = m by omega, hTk]
      · rw [if_neg hiT]
        cases hf : findT i 0 T with
        | none => rfl
        | some j =>
          obtain ⟨k, hk, hTk⟩ := findT_some hf
          exact absurd (List.mem_of_getElem? hTk) hiT
  · funext k
    by_cases hk : k < 4096
    · simp only [hk, if_true, hg]; congr 1; show (if k < 4096 then _ else _) = _; rw [if_pos hk]
    · simp only [hk, if_false]
theorem pick_inl {nt : Nat} {o : Oper} {f : Operand} {args : Array Operand} {ats : Array TypeId} {d : Nat} {s : FS} (T : List Nat) (ip il : Nat) (c : Cur) (hc : c.ok) (l : List Int) (hl0 : 0 < l.length) (hl9 : l.length < 100) (ho : o.op = .call { callee := .value f, args := args, argTypes := ats }) (hd : o.dst = some d) (hdn : d < nt)
    (hca : callArgs s f args.toList = some (32, [.v (.one (.pt ip [] 0)), .v (.one (.sl il [] 0 l.length))])) (hne : ip ≠ il) (hp : s.h ip = some (.ow () 3 1 (curD c))) (hl : s.h il = some (.ow () 1 l.length (l.map di))) (hT : ∀ t ∈ T, okT (s.e t) = true) :
    OpStep Try.prog nt o s ⟨fun i => if i = d then vi (pickV l c) else if i ∈ T then mapV (pzR ip [] 0 3) (s.e i) else .un, upd s.h ip (some (.ow () 3 1 (curD (belowC c l.length)))), fun k => if k < 4096 then pzR ip [] 0 3 (s.g k) else .un⟩ := by
  have hne2 : il ≠ ip := fun e => hne e.symm
  have hb := belowV_bd c l.length
  obtain ⟨m, hm⟩ := Int.eq_ofNat_of_zero_le hb.1
  have hm1 : m < l.length := by have := hb.2 (by omega); omega
  have hat := pick_at l m hm1
  have hdp := pick_drop l m hm1
  have key := fun s2 h1 h2 h3 => pick_out (d := d) (ip := ip) (T := T) (s := s) (s2 := s2) (v := vi (pickV l c)) (h := upd s.h ip (some (.ow () 3 1 (curD (belowC c l.length))))) hT h1 h2 h3
  refine OpStep.inline T ho hd hdn hca Try.func32 rfl rfl Try.ntmps32 rfl (by simp) ?_
  refine DW.seq ?_
  refine DW.reg (by simp (maxSteps := 200000) (disch := first | omega | (simp; done) | fail) [wrapI, leT, leF, ltT, ltF, eqF, nleT, nleF, nltT, nltF, mapV, pzR, inR, hp, hl, hne, hne2, hca, hm, hm1, hat, hdp]; rfl) ?_
  refine DW.seq ?_
  refine DW.regs ?_
  refine RegO.opN 4 (by simp (maxSteps := 200000) (disch := first | omega | (simp; done) | fail) [wrapI, leT, leF, ltT, ltF, eqF, nleT, nleF, nltT, nltF, mapV, pzR, inR, hp, hl, hne, hne2, hca, hm, hm1, hat, hdp]; rfl) ?_
  refine RegO.step rfl (OpStep.callP (io := 0) (id := ip) (off := 0) (p := []) (sz := 3) (n := 1) (cs0 := curD c) rfl (by simp [callArgs, hp, hl, hne, hne2]; rfl) (l01Below_spec c hc l.length) (by simp) rfl rfl (by first | exact hp | (simp [hp]; done)) rfl (by simp) (by simp) (by simp) (by simp [callArgs, FS.lend, hp, hl, hne, hne2]; rfl) (by simp [rosOk, roA_, toRC, mapO, hp, hl, hne, hne2]) (by simp [widen, ownV, ownC]) (by simp [finish, packDV, packD, ptBack]; rfl)) ?_
  refine RegO.opN 3 (by simp (maxSteps := 200000) (disch := first | omega | (simp; done) | fail) [wrapI, leT, leF, ltT, ltF, eqF, nleT, nleF, nltT, nltF, mapV, pzR, inR, hp, hl, hne, hne2, hca, hm, hm1, hat, hdp]; rfl) ?_
  refine RegO.nil ?_
  refine DW.ret ?_
  have hgd : l[m]?.getD 0 = l[m] := by rw [List.getElem?_eq_getElem hm1]; rfl
  exact key _ (by simp [mapV, pzR, inR, pickV, hm, hgd]) (by simp [mapV, pzR, inR, pickV, hm, hgd]) (fun k => by simp [mapV, pzR, inR, pickV, hm, hgd])
def pickSV (l : List ByteArray) (c : Cur) : ByteArray := l.getD (belowV c l.length).toNat ByteArray.empty
theorem pickS_at (l : List ByteArray) (m : Nat) (h : m < l.length) : (l.map ds)[m]? = some (ds (l.getD m ByteArray.empty)) := by
  rw [List.getElem?_map, List.getElem?_eq_getElem h, List.getD_eq_getElem?_getD, List.getElem?_eq_getElem h]; rfl
theorem pickS_drop (l : List ByteArray) (m : Nat) (h : m < l.length) : List.drop m (l.map ds) = ds (l.getD m ByteArray.empty) :: List.drop (m + 1) (l.map ds) := by
  rw [List.drop_eq_getElem_cons (by simpa using h)]
  congr 1
  rw [List.getElem_map, List.getD_eq_getElem?_getD, List.getElem?_eq_getElem h]; rfl
theorem pickS_out {d ip : Nat} {T : List Nat} {s s2 : FS} {v : DV} {h : Nat → Option D} (hT : ∀ t ∈ T, okT (s.e t) = true) (he : s2.e 4 = v) (hh : s2.h = h) (hg : ∀ k, s2.g k = pzR ip [] 0 3 ((inlFS s [] T).g k)) :
    outFS d 4 T s s2 = ⟨fun i => if i = d then v else if i ∈ T then mapV (pzR ip [] 0 3) (s.e i) else .un, h, fun k => if k < 4096 then pzR ip [] 0 3 (s.g k) else .un⟩ := by
  unfold outFS
  congr 1
  · funext i
    by_cases hi : i = d
    · simp only [hi, if_true, he]
    · simp only [hi, if_false]
      by_cases hiT : i ∈ T
      · obtain ⟨j, hj⟩ := findT_mem (j := 0) hiT
        obtain ⟨k, hk, hTk⟩ := findT_some hj
        rw [hj, if_pos hiT]
        simp only
        refine backV_map (hT i hiT) rfl fun m hm => ?_
        rw [hg]
        congr 1
        show (if 4096 + 64 * j + m < 4096 then _ else _) = _
        rw [if_neg (by omega), show (4096 + 64 * j + m - 4096) / 64 = k by omega, show (4096 + 64 * j + m - 4096) % 64 = m by omega, hTk]
      · rw [if_neg hiT]
        cases hf : findT i 0 T with
        | none => rfl
        | some j =>
          obtain ⟨k, hk, hTk⟩ := findT_some hf
          exact absurd (List.mem_of_getElem? hTk) hiT
  · funext k
    by_cases hk : k < 4096
    · simp only [hk, if_true, hg]; congr 1; show (if k < 4096 then _ else _) = _; rw [if_pos hk]
    · simp only [hk, if_false]
theorem pickS_inl {nt : Nat} {o : Oper} {f : Operand} {args : Array Operand} {ats : Array TypeId} {d : Nat} {s : FS} (T : List Nat) (ip il : Nat) (c : Cur) (hc : c.ok) (l : List ByteArray) (hl0 : 0 < l.length) (hl9 : l.length < 100) (ho : o.op = .call { callee := .value f, args := args, argTypes := ats }) (hd : o.dst = some d) (hdn : d < nt)
    (hca : callArgs s f args.toList = some (53, [.v (.one (.pt ip [] 0)), .v (.one (.sl il [] 0 l.length))])) (hne : ip ≠ il) (hp : s.h ip = some (.ow () 3 1 (curD c))) (hl : s.h il = some (.ow () 1 l.length (l.map ds))) (hT : ∀ t ∈ T, okT (s.e t) = true) :
    OpStep Try.prog nt o s ⟨fun i => if i = d then vs (pickSV l c) else if i ∈ T then mapV (pzR ip [] 0 3) (s.e i) else .un, upd s.h ip (some (.ow () 3 1 (curD (belowC c l.length)))), fun k => if k < 4096 then pzR ip [] 0 3 (s.g k) else .un⟩ := by
  have hne2 : il ≠ ip := fun e => hne e.symm
  have hb := belowV_bd c l.length
  obtain ⟨m, hm⟩ := Int.eq_ofNat_of_zero_le hb.1
  have hm1 : m < l.length := by have := hb.2 (by omega); omega
  have hat := pickS_at l m hm1
  have hdp := pickS_drop l m hm1
  have key := fun s2 h1 h2 h3 => pickS_out (d := d) (ip := ip) (T := T) (s := s) (s2 := s2) (v := vs (pickSV l c)) (h := upd s.h ip (some (.ow () 3 1 (curD (belowC c l.length))))) hT h1 h2 h3
  refine OpStep.inline T ho hd hdn hca Try.func53 rfl rfl Try.ntmps53 rfl (by simp) ?_
  refine DW.seq ?_
  refine DW.reg (by simp (maxSteps := 200000) (disch := first | omega | (simp; done) | fail) [wrapI, leT, leF, ltT, ltF, eqF, nleT, nleF, nltT, nltF, mapV, pzR, inR, hp, hl, hne, hne2, hca, hm, hm1, hat, hdp]; rfl) ?_
  refine DW.seq ?_
  refine DW.regs ?_
  refine RegO.opN 4 (by simp (maxSteps := 200000) (disch := first | omega | (simp; done) | fail) [wrapI, leT, leF, ltT, ltF, eqF, nleT, nleF, nltT, nltF, mapV, pzR, inR, hp, hl, hne, hne2, hca, hm, hm1, hat, hdp]; rfl) ?_
  refine RegO.step rfl (OpStep.callP (io := 0) (id := ip) (off := 0) (p := []) (sz := 3) (n := 1) (cs0 := curD c) rfl (by simp [callArgs, hp, hl, hne, hne2]; rfl) (l01Below_spec c hc l.length) (by simp) rfl rfl (by first | exact hp | (simp [hp]; done)) rfl (by simp) (by simp) (by simp) (by simp [callArgs, FS.lend, hp, hl, hne, hne2]; rfl) (by simp [rosOk, roA_, toRC, mapO, hp, hl, hne, hne2]) (by simp [widen, ownV, ownC]) (by simp [finish, packDV, packD, ptBack]; rfl)) ?_
  refine RegO.opN 3 (by simp (maxSteps := 200000) (disch := first | omega | (simp; done) | fail) [wrapI, leT, leF, ltT, ltF, eqF, nleT, nleF, nltT, nltF, mapV, pzR, inR, hp, hl, hne, hne2, hca, hm, hm1, hat, hdp]; rfl) ?_
  refine RegO.nil ?_
  refine DW.ret ?_
  have hgd : l[m]?.getD ByteArray.empty = l[m] := by rw [List.getElem?_eq_getElem hm1]; rfl
  exact key _ (by simp [mapV, pzR, inR, pickSV, hm, hgd]) (by simp [mapV, pzR, inR, pickSV, hm, hgd]) (fun k => by simp [mapV, pzR, inR, pickSV, hm, hgd])
theorem pick_mem (l : List Int) (c : Cur) (h : 0 < l.length) : pickV l c ∈ l := by
  have hb := belowV_bd c l.length
  have h2 := hb.2 (by omega)
  unfold pickV
  rw [List.getD_eq_getElem?_getD, List.getElem?_eq_getElem (show (belowV c l.length).toNat < l.length by omega)]
  exact List.getElem_mem _
theorem pickS_mem (l : List ByteArray) (c : Cur) (h : 0 < l.length) : pickSV l c ∈ l := by
  have hb := belowV_bd c l.length
  have h2 := hb.2 (by omega)
  unfold pickSV
  rw [List.getD_eq_getElem?_getD, List.getElem?_eq_getElem (show (belowV c l.length).toNat < l.length by omega)]
  exact List.getElem_mem _
end Go.Proofs.Ytciieaidbiejmaa.DM
