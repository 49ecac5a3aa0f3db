/-
  DM 21. The step of one operation, calls among them; moves that change no memory.
-/
import Derived.Test.YtjjdjkkhhcbogaaD20
namespace Go.Proofs.Ytjjdjkkhhcbogaa.DM
set_option linter.unusedVariables false
set_option linter.unusedSimpArgs false
/-- In every world that s tells of, the operation leads to one that s1 tells of. -/
def OpStep (P : Program) (nt : Nat) (o : Oper) (s s1 : FS) : Prop := ∀ (S0 : Fr) (w0 : World) (M : Heap) (a : Act) (w : World), Rel S0 w0 nt s M a w → ∀ (next : Act → World → Prop) (Q : Exit → Act → World → Prop),
  (∀ (M1 : Heap) (a1 : Act) (w1 : World), Rel S0 w0 nt s1 M1 a1 w1 → next a1 w1) → o.wp P a w next Q
/-- The same, where it is not told to which of some states. -/
def OpStepE (P : Program) (nt : Nat) (o : Oper) (s : FS) (K : FS → Prop) : Prop := ∀ (S0 : Fr) (w0 : World) (M : Heap) (a : Act) (w : World), Rel S0 w0 nt s M a w → ∀ (next : Act → World → Prop) (Q : Exit → Act → World → Prop),
  (∀ (s1 : FS) (M1 : Heap) (a1 : Act) (w1 : World), K s1 → Rel S0 w0 nt s1 M1 a1 w1 → next a1 w1) → o.wp P a w next Q
theorem OpStep.toE {P : Program} {nt : Nat} {o : Oper} {s s1 : FS} (h : OpStep P nt o s s1) : OpStepE P nt o s (· = s1) := fun S0 w0 M a w hR next Q hn => h S0 w0 M a w hR next Q fun M1 a1 w1 hR1 => hn s1 M1 a1 w1 rfl hR1
def Ghost (nt : Nat) (s s1 : FS) : Prop := ∀ (S0 : Fr) (w0 : World) (M : Heap) (a : Act) (w : World), Rel S0 w0 nt s M a w → ∃ M1, Rel S0 w0 nt s1 M1 a w
theorem OpStep.ghost {P : Program} {nt : Nat} {o : Oper} {s s0 s1 s2 : FS} (h0 : Ghost nt s s0) (h : OpStep P nt o s0 s1) (h1 : Ghost nt s1 s2) : OpStep P nt o s s2 := fun S0 w0 M a w hR next Q hn => by
  obtain ⟨M1, hR1⟩ := h0 S0 w0 M a w hR
  exact h S0 w0 M1 a w hR1 next Q fun M2 a2 w2 hR2 => by
    obtain ⟨M3, hR3⟩ := h1 S0 w0 M2 a2 w2 hR2
    exact hn M3 a2 w2 hR3
theorem OpStep.of {P : Program} {nt : Nat} {o : Oper} {s s1 : FS} (h : stepF P nt o s = some s1) : OpStep P nt o s s1 := fun S0 w0 M a w hR next Q hn => by
  obtain ⟨u, w1, M1, hrun, hR1⟩ := stepF_ok hR h
  unfold Oper.wp
  rcases hrun with hrun | ⟨rfl, hrun⟩
  · rw [hrun, Oper.upon_value]; exact hn _ _ _ hR1
  · rw [hrun, Oper.upon_skip]; exact hn _ _ _ hR1
section
variable {S0 : Fr} {w0 w w' : World} {M M' M1 : Heap} {X : List A} {P : Program} {nt : Nat} {s s1 : FS} {a : Act}
theorem RelX.noX (h : RelX S0 w0 nt s M X a w) : Rel S0 w0 nt s M a w :=
  ⟨⟨h.inv.ok, h.inv.nd, h.inv.dj, h.inv.bl, h.inv.wd, by simp, by simp, by simp, by simp⟩, h.er, h.en, h.nt, h.df, h.gh⟩
def capsOf : Value → List Value
  | .func _ _ caps => caps.toList
  | _ => []
/-- The values of a call's arguments. -/
def valsOf (a : Act) (f : Operand) (args : List Operand) : List Value := args.map a.eval ++ capsOf (a.eval f)
theorem callArgs_ok {f : Operand} {args : List Operand} {g : Nat} {vs : List DV} (hR : RelX S0 w0 nt s M X a w) (h : callArgs s f args = some (g, vs)) :
    (∃ caps, a.eval f = .func (.func g) #[] caps) ∧ (valsOf a f args).length = vs.length ∧ ∀ (i : Nat) (v : DV) (u : Value), vs[i]? = some v → (valsOf a f args)[i]? = some u → RelV S0 w0 M v u := by
  have hf := ev_ok hR.noX f
  have key : ∀ (cs : List DV) (us : List Value), us.length = cs.length → (∀ (i : Nat) (v : DV) (u : Value), cs[i]? = some v → us[i]? = some u → RelV S0 w0 M v u) → (args.map a.eval ++ us).length = (args.map (ev s.e) ++ cs).length ∧
      ∀ (i : Nat) (v : DV) (u : Value), (args.map (ev s.e) ++ cs)[i]? = some v → (args.map a.eval ++ us)[i]? = some u → RelV S0 w0 M v u := fun cs us hl hcs => by
    refine ⟨by simp [hl], fun i v u hv hu => ?_⟩
    by_cases hi : i < args.length
    · rw [List.getElem?_append_left (by simpa using hi), List.getElem?_map, List.getElem?_eq_getElem hi] at hv hu
      simp only [Option.map_some, Option.some.injEq] at hv hu
      subst hv; subst hu
      exact ev_ok hR.noX _
    · rw [List.getElem?_append_right (by simpa using Nat.le_of_not_lt hi)] at hv hu
      rw [List.length_map] at hv hu
      exact hcs _ v u hv hu
  unfold callArgs at h
  split at h
  · rename_i g' ids he
    simp only [Option.some.injEq, Prod.mk.injEq] at h
    obtain ⟨rfl, rfl⟩ := h
    rw [he] at hf
    obtain ⟨hc, -⟩ := hf
    unfold valsOf
    generalize a.eval f = u at hc
    cases hc with
    | fn _ _ ps hl hp =>
      refine ⟨⟨_, rfl⟩, ?_⟩
      simp only [capsOf, List.toList_toArray]
      refine key _ _ (by simp [hl]) (fun i v u hv hu => ?_)
      rw [List.getElem?_map, Option.map_eq_some_iff] at hv hu
      obtain ⟨id, hid, rfl⟩ := hv
      obtain ⟨ad, had, rfl⟩ := hu
      obtain ⟨b, o, c, sz, cs, hat, rfl⟩ := hp i id ad hid had
      exact ⟨.pt id [] 0 b o c sz 1 cs hat, rfl⟩
  · rename_i g' caps he
    simp only [Option.some.injEq, Prod.mk.injEq] at h
    obtain ⟨rfl, rfl⟩ := h
    rw [he] at hf
    obtain ⟨hc, -⟩ := hf
    unfold valsOf
    generalize a.eval f = u at hc
    cases hc with
    | t _ _ hro =>
      cases hro with
      | fn _ ps _ hl hp =>
        refine ⟨⟨_, rfl⟩, ?_⟩
        simp only [capsOf, List.toList_toArray]
        refine key _ _ (by simp [hl]) (fun i v u hv hu => ?_)
        rw [List.getElem?_map, Option.map_eq_some_iff] at hv hu
        obtain ⟨r, hr, rfl⟩ := hv
        obtain ⟨ad, had, rfl⟩ := hu
        have := hp i ad r had hr
        split
        · exact ⟨.rp _ _ this, rfl⟩
        · trivial
  · cases h
/-- How the model takes a call. -/
theorem run_call {o : Oper} {f : Operand} {args : Array Operand} {ats : Array TypeId} {g : Nat} {caps : Array Value} (ho : o.op = .call { callee := .value f, args := args, argTypes := ats }) (hf : a.eval f = .func (.func g) #[] caps) (hE : Enters P g) :
    (execOp a.eval o).run P w = .ok (.enter g (valsOf a f args.toList).toArray) w := by
  obtain ⟨fn, h1, h2, h3⟩ := hE
  have hv : (valsOf a f args.toList).toArray = args.map a.eval ++ caps := by
    unfold valsOf
    rw [hf]
    apply Array.toList_inj.1
    simp [capsOf]
  have hb : fn.body ≠ none := fun e => by rw [e] at h2; cases h2
  have h3' : fn.name ≠ "runtime.NumGoroutine" := by simpa using h3
  rw [hv]
  simp [execOp, ho, resolve, hf, Deferred.ofValue, invoke, callFunc, h1, h3', hb]
theorem call_wp {o : Oper} {f : Operand} {args : Array Operand} {ats : Array TypeId} {g : Nat} {vs : List DV} {sh : List (Option Nat)} {ds : List D} (ho : o.op = .call { callee := .value f, args := args, argTypes := ats }) (hR : Rel S0 w0 nt s M a w) (hc : callArgs s f args.toList = some (g, vs)) (hE : Enters P g)
    {s2 : FS} (hf : finish nt s1 o.dst sh ds = some s2) {next : Act → World → Prop} {Q : Exit → Act → World → Prop}
    (h : Calls P g (valsOf a f args.toList).toArray w fun e w' => ∃ (v : Value) (M1 : Heap) (Y : List A), e = .returned v ∧ RelX S0 w0 nt s1 M1 Y a w' ∧ Y.map er = ds ∧ ds.length = shLen sh ∧ v = packV sh (Y.map T.val))
    (hn : ∀ (M1 : Heap) (a1 : Act) (w1 : World), Rel S0 w0 nt s2 M1 a1 w1 → next a1 w1) : o.wp P a w next Q := by
  obtain ⟨⟨caps, hcaps⟩, -⟩ := callArgs_ok hR hc
  unfold Oper.wp
  rw [run_call ho hcaps hE, Oper.upon_enter]
  refine Calls.mono h ?_
  rintro e w' ⟨v, M1, Y, rfl, hR1, e1, e2, rfl⟩
  subst e1
  obtain ⟨M2, hR2⟩ := finish_ok hR1 e2 hf
  exact hn _ _ _ hR2
/-- A call with arguments that are read. -/
theorem OpStep.callN {o : Oper} {f : Operand} {args : Array Operand} {ats : Array TypeId} {g : Nat} {vs : List DV} {as as' : List PA} {sh : List (Option Nat)} {ds : List D} (ho : o.op = .call { callee := .value f, args := args, argTypes := ats }) (hc : callArgs s f args.toList = some (g, vs))
    (hS : Spec P g as sh ds as') (hr : rosOk s as.length 0 vs as) (hw : widen as.length 0 vs = false ∨ noRoL ds = true) (hf : finish nt s o.dst sh ds = some s1) : OpStep P nt o s s1 := fun S0 w0 M a w hR next Q hn => by
  obtain ⟨-, l1, l2⟩ := callArgs_ok hR hc
  refine call_wp ho hR hc hS.1 hf (Calls.mono (call_N hR hS l1 l2 hr hw) ?_) hn
  rintro e w' ⟨v, Y, h1, h2, h3, h4, h5⟩
  exact ⟨v, M, Y, h1, h2, h3, h4, h5⟩
/-- A call with an argument that is given away. -/
theorem OpStep.callG {o : Oper} {f : Operand} {args : Array Operand} {ats : Array TypeId} {g io : Nat} {vs vs1 : List DV} {as as' : List PA} {sh : List (Option Nat)} {ds : List D} {v : DV} {pa : PA} {cs : List DC} {pcs : List PC} {s2 : FS} (ho : o.op = .call { callee := .value f, args := args, argTypes := ats })
    (hc : callArgs s f args.toList = some (g, vs)) (hS : Spec P g as sh ds as') (hio : vs[io]? = some v) (hpa : as[io]? = some pa) (hsh : shapeOf v pa = some (cs, pcs)) (hg : giveG s cs pcs = some s2) (hc1 : callArgs s2 f args.toList = some (g, vs1))
    (hr : rosOk s2 io 0 vs1 as) (hw : widen io 0 vs1 = false ∨ noRoL ds = true) (hf : finish nt s2 o.dst sh ds = some s1) : OpStep P nt o s s1 := fun S0 w0 M a w hR next Q hn => by
  obtain ⟨-, l1, l2⟩ := callArgs_ok hR hc
  exact call_wp ho hR hc hS.1 hf (call_G hR hS l1 l2 hio hpa hsh hg (fun M1 X hR1 => (callArgs_ok hR1 hc1).2) hr hw) hn
/-- A call with an argument whose rows are lent. -/
theorem OpStep.callL {o : Oper} {f : Operand} {args : Array Operand} {ats : Array TypeId} {g io : Nat} {vs vs1 : List DV} {as as' : List PA} {sh : List (Option Nat)} {ds : List D} {v : DV} {pa pa' : PA} {cs : List DC} {pcs : List PC} {s2 : FS} {L : List Pl} (ho : o.op = .call { callee := .value f, args := args, argTypes := ats })
    (hc : callArgs s f args.toList = some (g, vs)) (hS : Spec P g as sh ds as') (hio : vs[io]? = some v) (hpa : as[io]? = some pa) (hpa' : as'[io]? = some pa') (hsh : shapeOf v pa = some (cs, pcs)) (hg : lendL s 0 cs pcs = some (s2, L)) (hap : L.Pairwise apartP) (h64 : pcs.length ≤ 64) (hc1 : callArgs s2 f args.toList = some (g, vs1))
    (hr : rosOk s2 io 0 vs1 as) (hw : widen io 0 vs1 = false ∨ (noRoL ds = true ∧ noRoL ((paCells pa').map PC.tree) = true)) (hf : finish nt (backFS s s2 L (paCells pa')) o.dst sh ds = some s1) : OpStep P nt o s s1 := fun S0 w0 M a w hR next Q hn => by
  obtain ⟨-, l1, l2⟩ := callArgs_ok hR hc
  exact call_wp ho hR hc hS.1 hf (call_L hR hS l1 l2 hio hpa hpa' hsh hg hap h64 (fun M1 X hR1 => (callArgs_ok hR1 hc1).2) hr hw) hn
/-- A call with a pointer into a row. -/
theorem OpStep.callP {o : Oper} {f : Operand} {args : Array Operand} {ats : Array TypeId} {g io : Nat} {vs vs1 : List DV} {as as' : List PA} {sh : List (Option Nat)} {ds : List D} {id off sz n : Nat} {p : List Nat} {root : D} {cs0 cs cs' : List D} (ho : o.op = .call { callee := .value f, args := args, argTypes := ats })
    (hc : callArgs s f args.toList = some (g, vs)) (hS : Spec P g as sh ds as') (hio : vs[io]? = some (.v (.one (.pt id p off)))) (hpa : as[io]? = some (.ptr cs)) (hpa' : as'[io]? = some (.ptr cs')) (hroot : s.h id = some root) (hg : root.get p = some (.ow () sz n cs0)) (hcs : cs = (cs0.drop off).take cs.length)
    (hlen : off + cs.length ≤ cs0.length) (hk0 : 0 < cs.length) (hc1 : callArgs (s.lend id p root) f args.toList = some (g, vs1)) (hr : rosOk (s.lend id p root) io 0 vs1 as) (hw : widen io 0 vs1 = false ∨ (noRoL ds = true ∧ noRoL cs' = true))
    (hf : finish nt (ptBack s id p root sz n off cs0 cs') o.dst sh ds = some s1) (hk1 : cs.length = 1 ↔ sz = 1 := by simp) : OpStep P nt o s s1 := fun S0 w0 M a w hR next Q hn => by
  obtain ⟨-, l1, l2⟩ := callArgs_ok hR hc
  refine call_wp ho hR hc hS.1 hf (Calls.mono (call_P hR hS l1 l2 hio hpa hpa' hroot hg hcs hlen hk0 hk1 (fun M1 X hR1 => (callArgs_ok hR1 hc1).2) hr hw) ?_) hn
  rintro e w' ⟨v, M1, Y, h1, h2, _, h3, h4, h5⟩
  exact ⟨v, M1, Y, h1, h2, h3, h4, h5⟩
/-- A function value that captures variables of the call's own. -/
theorem OpStep.makeFunc {o : Oper} {d f : Nat} {caps : Array Operand} {ids : List Nat} (ho : o.op = .makeFunc (.func f) #[] caps) (hd : o.dst = some d) (hdn : d < nt) (hc : caps.toList.map (ev s.e) = ids.map fun id => .v (.one (.pt id [] 0)))
    (hh : ∀ id ∈ ids, ∃ sz cs, s.h id = some (.ow () sz 1 cs)) : OpStep P nt o s ⟨upd s.e d (.v (.one (.fn f ids))), s.h, s.g⟩ := fun S0 w0 M a w hR next Q hn => by
  have hl : caps.toList.length = ids.length := by have := congrArg List.length hc; simpa using this
  have hcap : ∀ (i : Nat) (x : Operand) (id : Nat), caps.toList[i]? = some x → ids[i]? = some id → RelV S0 w0 M (.v (.one (.pt id [] 0))) (a.eval x) := fun i x id hx hid => by
    have : (caps.toList.map (ev s.e))[i]? = (ids.map fun id => (.v (.one (.pt id [] 0)) : DV))[i]? := by rw [hc]
    rw [List.getElem?_map, List.getElem?_map, hx, hid] at this
    have he : ev s.e x = .v (.one (.pt id [] 0)) := by simpa using this
    rw [← he]
    exact ev_ok hR x
  have hps : ∃ ps : List Addr, ps.length = ids.length ∧ caps.toList.map a.eval = (ps.map fun a => Value.pointer (some a)) ∧ ∀ (i id : Nat) (ad : Addr), ids[i]? = some id → ps[i]? = some ad → ∃ b o c sz cs, at_ M id [] (.ow (.blk b o c) sz 1 cs) ∧ ad = ⟨b, o, none⟩ := by
    clear hc hn
    generalize caps.toList = l at hl hcap
    induction l generalizing ids with
    | nil => cases ids with
      | nil => exact ⟨[], rfl, rfl, fun i id ad h => by simp at h⟩
      | cons _ _ => simp at hl
    | cons x l ih => cases ids with
      | nil => simp at hl
      | cons id ids =>
        obtain ⟨ps, p1, p2, p3⟩ := ih (ids := ids) (fun id hid => hh id (List.mem_cons_of_mem _ hid)) (by simpa using hl) (fun i x id hx hid => hcap (i + 1) x id (by simpa using hx) (by simpa using hid))
        obtain ⟨hc, -⟩ := hcap 0 x id rfl rfl
        obtain ⟨sz, cs, hid⟩ := hh id List.mem_cons_self
        generalize hu : a.eval x = u at hc
        cases hc with
        | pt _ _ _ b o c sz2 m cs2 hat =>
          have hm : m = 1 := by
            obtain ⟨t, ht, hg⟩ := hat
            have := hR.er id
            rw [hid, ht] at this
            simp only [T.get, Option.some.injEq] at hg
            subst hg
            rw [Option.map_some, er_ow_mk] at this
            simp only [Option.some.injEq, T.ow.injEq, true_and] at this
            exact this.2.1.symm
          subst hm
          refine ⟨⟨b, o, none⟩ :: ps, by simp [p1], by simp [hu, p2], fun i id' ad h1 h2 => ?_⟩
          cases i with
          | zero => simp at h1 h2; subst h1; subst h2; exact ⟨b, o, c, sz2, cs2, hat, rfl⟩
          | succ i => exact p3 i id' ad (by simpa using h1) (by simpa using h2)
  obtain ⟨ps, p1, p2, p3⟩ := hps
  have hrun : (execOp a.eval o).run P w = .ok (.value (.func (.func f) #[] (ps.map fun a => Value.pointer (some a)).toArray)) w := by
    have : caps.map a.eval = (ps.map fun a => Value.pointer (some a)).toArray := by
      apply Array.toList_inj.1
      rw [Array.toList_map, p2]
    simp [execOp, ho, Instr.makeFunc, this]
  unfold Oper.wp
  rw [hrun, Oper.upon_value, hd]
  exact hn M _ _ (hR.put ⟨.fn f ids ps p1 p3, rfl⟩ hdn)
/-- An entry is let go. -/
def FS.free (s : FS) (d : Nat) : FS := ⟨fun i => pzV d [] (s.e i), upd s.h d none, fun i => pzC d [] (s.g i)⟩
theorem RelX.free (hR : RelX S0 w0 nt s M X a w) (d : Nat) : RelX S0 w0 nt (s.free d) (upd M d none) X a w :=
  ⟨hR.inv.drop d, er_upd (t := none) hR.er, fun i => (hR.en i).poison keeps_drop (fun j hj => keeps_upd hj), hR.nt, hR.df, fun i => (hR.gh i).poison keeps_drop (fun j hj => keeps_upd hj)⟩
theorem Ghost.free (d : Nat) : Ghost nt s (s.free d) := fun S0 w0 M a w hR => ⟨_, hR.free d⟩
theorem Ghost.refl : Ghost nt s s := fun S0 w0 M a w hR => ⟨M, hR⟩
theorem Ghost.trans {s2 : FS} (h : Ghost nt s s1) (h' : Ghost nt s1 s2) : Ghost nt s s2 := fun S0 w0 M a w hR => by
  obtain ⟨M1, hR1⟩ := h S0 w0 M a w hR
  exact h' S0 w0 M1 a w hR1
/-- What is known of a temporary is given up. -/
theorem Ghost.forget (t : Nat) : Ghost nt s ⟨upd s.e t .un, s.h, s.g⟩ := fun S0 w0 M a w hR => ⟨M, hR.inv, hR.er, fun i => by
  by_cases h : i = t
  · subst h; simp only [upd_same]; trivial
  · simp only; rw [upd_ne _ _ _ _ h]; exact hR.en i, hR.nt, hR.df, hR.gh⟩
end
end Go.Proofs.Ytjjdjkkhhcbogaa.DM
