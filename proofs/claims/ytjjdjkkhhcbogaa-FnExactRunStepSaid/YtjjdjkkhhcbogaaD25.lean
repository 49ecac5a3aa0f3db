/-
  DM 25. Reckoning.
-/
import Derived.Test.YtjjdjkkhhcbogaaD24
import Derived.KernelRfl
namespace Go.Proofs.Ytjjdjkkhhcbogaa.DM
set_option linter.unusedVariables false
set_option linter.unusedSimpArgs false
section
variable {P : Program} {nt : Nat} {s s1 : FS} {ops : Array Oper} {N : FS → Prop}
/-- The operations of a region, without calls of Go functions, in order. -/
def regF (P : Program) (nt : Nat) (ops : Array Oper) : List Oper → FS → Option FS
  | [], s => some s
  | o :: l, s => match wantedD ops o s.e with
    | some true => match stepF P nt o s with
      | some s1 => regF P nt ops l s1
      | none => none
    | some false => if dstOk nt o.dst then regF P nt ops l (s.set o.dst (.tup [])) else none
    | none => none
theorem regF_ok : ∀ {l : List Oper} {s s1 : FS}, regF P nt ops l s = some s1 → N s1 → RegO P nt ops l s N
  | [], s, s1, h, hn => by simp only [regF, Option.some.injEq] at h; subst h; exact hn
  | o :: l, s, s1, h, hn => by
    simp only [regF] at h
    split at h
    · rename_i hw
      split at h
      · rename_i s2 hs
        exact ⟨true, hw, fun _ => ⟨_, (OpStep.of hs).toE, fun s1 e => e ▸ regF_ok h hn⟩, fun h => by cases h⟩
      · cases h
    · rename_i hw
      split at h
      · rename_i hd
        exact ⟨false, hw, fun h => (by cases h), fun _ => ⟨hd, regF_ok h hn⟩⟩
      · cases h
    · cases h
/-- The first operations. -/
theorem RegO.some {l l' : List Oper} (h : regF P nt ops l s = some s1) (hr : RegO P nt ops l' s1 N) : RegO P nt ops (l ++ l') s N := by
  induction l generalizing s with
  | nil => simp only [regF, Option.some.injEq] at h; subst h; exact hr
  | cons o l ih =>
    simp only [regF] at h
    split at h
    · rename_i hw
      split at h
      · rename_i s2 hs
        exact ⟨true, hw, fun _ => ⟨_, (OpStep.of hs).toE, fun s1 e => e ▸ ih h⟩, fun h => by cases h⟩
      · cases h
    · rename_i hw
      split at h
      · rename_i hd
        exact ⟨false, hw, fun h => (by cases h), fun _ => ⟨hd, ih h⟩⟩
      · cases h
    · cases h
theorem RegO.op {o : Oper} {l : List Oper} (hg : o.guard = none) (h : stepF P nt o s = Option.some s1) (hr : RegO P nt ops l s1 N) : RegO P nt ops (o :: l) s N :=
  ⟨true, by simp [wantedD, hg], fun _ => ⟨_, (OpStep.of h).toE, fun _ e => e ▸ hr⟩, fun h => by cases h⟩
theorem RegO.step {o : Oper} {l : List Oper} (hg : o.guard = none) (h : OpStep P nt o s s1) (hr : RegO P nt ops l s1 N) : RegO P nt ops (o :: l) s N :=
  ⟨true, by simp [wantedD, hg], fun _ => ⟨_, h.toE, fun _ e => e ▸ hr⟩, fun h => by cases h⟩
theorem RegO.stepE {o : Oper} {l : List Oper} {K : FS → Prop} (hg : o.guard = none) (h : OpStepE P nt o s K) (hr : ∀ s1, K s1 → RegO P nt ops l s1 N) : RegO P nt ops (o :: l) s N :=
  ⟨true, by simp [wantedD, hg], fun _ => ⟨K, h, hr⟩, fun h => by cases h⟩
theorem RegO.nil (h : N s) : RegO P nt ops [] s N := h
theorem RegO.guard {o : Oper} {l : List Oper} {b : Bool} (hw : wantedD ops o s.e = Option.some b) (ht : b = true → ∃ K : FS → Prop, OpStepE P nt o s K ∧ ∀ s1, K s1 → RegO P nt ops l s1 N) (hf : b = false → dstOk nt o.dst = true ∧ RegO P nt ops l (s.set o.dst (.tup [])) N) : RegO P nt ops (o :: l) s N :=
  ⟨b, hw, ht, hf⟩
/-- A region without calls. -/
theorem DW.reg {id : Nat} {l : List Oper} {Q : Exit → FS → Prop} (h : regF P nt l.toArray l s = Option.some s1) (hq : Q .normal s1) : DW P nt (.region id l.toArray false) s Q := DW.region (regF_ok h hq)
theorem DW.regs {id : Nat} {l : List Oper} {Q : Exit → FS → Prop} (h : RegO P nt l.toArray l s (Q .normal)) : DW P nt (.region id l.toArray false) s Q := DW.region h
/-- A loop, with an invariant that falls, up to moves that change no memory. -/
theorem DW.loopG {c : Code} {Q : Exit → FS → Prop} (I : Nat → FS → Prop) {n0 : Nat} (h0 : I n0 s) (round : ∀ (n : Nat) (s : FS), I n s → DW P nt c s (thenQ (fun s1 => ∃ s2 m, Ghost nt s1 s2 ∧ m < n ∧ I m s2) Q)) : DW P nt (.loop c) s Q :=
  DW.loop (fun n s => ∃ s', Ghost nt s s' ∧ I n s') ⟨s, Ghost.refl, h0⟩ fun n s ⟨s', hg, hI⟩ => DW.ghost hg ((round n s' hI).mono fun e s1 h => by
    cases e with
    | normal => obtain ⟨s2, m, h1, h2, h3⟩ := h; exact ⟨m, h2, s2, h1, h3⟩
    | _ => exact h)
end
@[simp] theorem initFS_e (as : List PA) (i : Nat) : (initFS as).e i = match as[i]? with | some p => argV i p | none => .un := rfl
@[simp] theorem initFS_h (as : List PA) (i : Nat) : (initFS as).h i = (as[i]?).bind argH := rfl
@[simp] theorem initFS_g (as : List PA) (k : Nat) : (initFS as).g k = match as[k / 64]? with | some p => argG (k / 64) p (k % 64) | none => .un := rfl
theorem upd_ap {α : Type} (f : Nat → α) (k : Nat) (v : α) (i : Nat) : upd f k v i = if i = k then v else f i := rfl
attribute [simp] upd_ap regF wantedD stepF quietF quietV ev cst zcC zcD plain asSc asInt dcs FS.set dstOk rdC rdCs absorb absorbL pzOf pzC pz1 pzV isAt FS.row FS.take fillC partsC placesT intBin strBin scBin scUn sliceB mapO storeC storeL isOw argV argH argG PC.dc PC.tree PC.isR PC.gh dcsFrom T.get T.put T.cells T.withCells T.isHold thenQ blockQ endQ Ends resD backAll backA backC backCs appendF srcCells flatD roD isRow
end Go.Proofs.Ytjjdjkkhhcbogaa.DM
