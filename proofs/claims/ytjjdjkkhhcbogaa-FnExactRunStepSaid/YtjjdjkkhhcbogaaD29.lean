/-
  DM 29. An empty row gets a name.
-/
import Derived.Test.YtjjdjkkhhcbogaaD28
namespace Go.Proofs.Ytjjdjkkhhcbogaa.DM
set_option linter.unusedVariables false
set_option linter.unusedSimpArgs false
section
variable {P : Program} {nt : Nat} {s : FS}
/-- An empty slice in a temporary is a row of the call's own, without room. -/
theorem Ghost.nlRow (t id sz : Nat) (ht : s.e t = .v (.one .nl)) (hh : s.h id = none) : Ghost nt s ⟨upd s.e t (.v (.one (.sl id [] 0 0))), upd s.h id (some (.ow () sz 0 [])), s.g⟩ := fun S0 w0 M a w hR => by
  have hM : M id = none := by
    have := hR.er id
    rw [hh] at this
    cases hm : M id with
    | none => rfl
    | some t => rw [hm] at this; cases this
  have hen := hR.en t
  rw [ht] at hen
  obtain ⟨hc, h1⟩ := hen
  generalize hu : a.tmps.getD t undef = u at hc h1
  cases hc with
  | nl a0 =>
    refine ⟨upd M id (some (.ow (.emp a0) sz 0 [])), hR.inv.entryE a0 hM, ?_, fun i => ?_, hR.nt, hR.df, fun i => (hR.gh i).keep (fun r _ => keeps_new hM r.1 r.2)⟩
    · have := er_upd (id := id) (t := some (.ow (.emp a0) sz 0 [])) hR.er
      simp only [Option.map_some, er_ow_mk, List.map_nil] at this
      exact this
    · by_cases hi : i = t
      · subst hi
        simp only [upd_same]
        rw [hu]
        exact ⟨.se id [] 0 a0 _ _ _ _ ⟨_, upd_same _ _ _, get_self _⟩, rfl⟩
      · simp only
        rw [upd_ne _ _ _ _ hi]
        exact (hR.en i).keep (keeps_new hM)
theorem callArgs_local {s' : FS} {o : Oper} {ops : Array Oper} {f : Operand} {args : Array Operand} {ats : Array TypeId} {g : Nat} {vs : List DV} (ho : o.op = .call { callee := .value f, args := args, argTypes := ats }) (he : ∀ t ∈ o.looksAt ops, s'.e t = s.e t) (hc : callArgs s f args.toList = some (g, vs)) : callArgs s' f args.toList = some (g, vs) := by
  have hev := ev_local he
  have hf : ev s'.e f = ev s.e f := hev f (by simp [ho, Op.operands, Call.operands])
  have ha : args.toList.map (ev s'.e) = args.toList.map (ev s.e) := List.map_congr_left fun x hx => hev x (by simp [ho, Op.operands, Call.operands]; exact .inr (by simpa using hx))
  unfold callArgs at hc ⊢
  rw [hf, ha]
  exact hc
/-- A call with arguments that are read; its results are rows. -/
theorem Cert.callH {ops : Array Oper} {o : Oper} {f : Operand} {args : Array Operand} {ats : Array TypeId} {g d : Nat} {vs : List DV} {as as' : List PA} {sh : List (Option Nat)} {ds : List D} {cs : List DC} {δ : Add} (ho : o.op = .call { callee := .value f, args := args, argTypes := ats }) (hw : wantedD ops o s.e = some true)
    (hd : o.dst = some d) (hdn : d < nt) (hc : callArgs s f args.toList = some (g, vs)) (hS : Spec P g as sh ds as') (hr : rosOk s as.length 0 vs as) (hfl : ds.all flatD = false) (hro : widen as.length 0 vs = false ∨ noRoL ds = true) (hh : s.h d = none) (hrd : rdCs d [] 0 ds = some cs) (hδ : δ = ⟨d, packDV sh cs, some (.hold ds)⟩) :
    Cert P nt ops o (o.looksAt ops) (d :: (refsO s o ++ vs.flatMap refsDV)) δ s := fun s' he hhs => by
  subst hδ
  refine .inl ⟨(wanted_local he).trans hw, OpStep.callN ho (callArgs_local ho he hc) hS (rosOk_local (fun v hv i hi => hhs i (List.mem_cons_of_mem _ (List.mem_append_right _ (List.mem_flatMap.2 ⟨v, hv, hi⟩)))) hr) hro ?_⟩
  have hh' : s'.h d = none := (hhs d List.mem_cons_self).trans hh
  rw [hd]
  simp only [finish, hrd, if_pos hdn, hfl, hh', Bool.false_eq_true, if_false]
  rfl
theorem RegD.heavyF {ops : Array Oper} {N : List (Option Foot) → FS → Prop} {o : Oper} {l : List Oper} {acc : List (Option Foot)} {s1 : FS} (hw : wantedD ops o s.e = some true) (hc : stepF P nt o s = some s1) (hr : RegD P nt ops l (acc ++ [none]) s1 N) : RegD P nt ops (o :: l) acc s N := .inr ⟨s1, .inl ⟨hw, OpStep.of hc⟩, hr⟩
theorem RegD.nil {ops : Array Oper} {N : List (Option Foot) → FS → Prop} {acc : List (Option Foot)} (h : N acc s) : RegD P nt ops [] acc s N := h
end
end Go.Proofs.Ytjjdjkkhhcbogaa.DM
