/-
  DM 31. States told by lists; a state that tells less; loops over such states; calls whose arguments are reckoned.
-/
import Derived.Test.YtjjdjkkhhcbogaaD30
namespace Go.Proofs.Ytjjdjkkhhcbogaa.DM
set_option linter.unusedVariables false
set_option linter.unusedSimpArgs false
def lkE : List (Nat × DV) → Nat → DV
  | [], _ => .un
  | (k, v) :: l, i => if i = k then v else lkE l i
def lkH : List (Nat × D) → Nat → Option D
  | [], _ => none
  | (k, v) :: l, i => if i = k then some v else lkH l i
def lkG : List (Nat × DC) → Nat → DC
  | [], _ => .un
  | (k, v) :: l, i => if i = k then v else lkG l i
/-- A state told by lists. -/
def St (e : List (Nat × DV)) (h : List (Nat × D)) (g : List (Nat × DC)) : FS := ⟨lkE e, lkH h, lkG g⟩
@[simp] theorem St_e (e h g i) : (St e h g).e i = lkE e i := rfl
@[simp] theorem St_h (e h g i) : (St e h g).h i = lkH h i := rfl
@[simp] theorem St_g (e h g i) : (St e h g).g i = lkG g i := rfl
@[simp] theorem lkE_nil (i) : lkE [] i = .un := rfl
@[simp] theorem lkE_cons (k v l i) : lkE ((k, v) :: l) i = if i = k then v else lkE l i := rfl
@[simp] theorem lkH_nil (i) : lkH [] i = none := rfl
@[simp] theorem lkH_cons (k v l i) : lkH ((k, v) :: l) i = if i = k then some v else lkH l i := rfl
@[simp] theorem lkG_nil (i) : lkG [] i = .un := rfl
@[simp] theorem lkG_cons (k v l i) : lkG ((k, v) :: l) i = if i = k then v else lkG l i := rfl
def refs1 : V1 → List Nat
  | .one c => refsDC c
  | .agg cs => cs.flatMap refsDC
def refsA : DV → List Nat
  | .un => []
  | .v x => refs1 x
  | .tup xs => xs.flatMap refs1
/-- What s' tells, s tells too; and the rows that s' refers to are told by both alike. -/
structure Sub (s s' : FS) : Prop where
  e : ∀ i, s'.e i = .un ∨ s'.e i = s.e i
  h : ∀ i, s'.h i = none ∨ s'.h i = s.h i
  g : ∀ i, s'.g i = .un ∨ s'.g i = s.g i
  r : ∀ i, ∀ id ∈ refsA (s'.e i), s'.h id = s.h id
  rg : ∀ i, ∀ id ∈ refsDC (s'.g i), s'.h id = s.h id
theorem Sub.refl (s : FS) : Sub s s := ⟨fun _ => .inr rfl, fun _ => .inr rfl, fun _ => .inr rfl, fun _ _ _ => rfl, fun _ _ _ => rfl⟩
section
variable {S0 : Fr} {w0 w w' : World} {M M' M1 : Heap} {P : Program} {nt : Nat} {s s' s1 : FS} {a : Act}
theorem refsC_DC {c : DC} {r : Nat × List Nat} (h : r ∈ refsC c) : r.1 ∈ refsDC c := by
  cases c with
  | fn f ids =>
    simp only [refsC, List.mem_map] at h
    obtain ⟨i, hi, rfl⟩ := h
    exact hi
  | _ => simp_all [refsC, refsDC]
theorem RelC.ids {c : DC} {v : Value} (h : RelC S0 w0 M c v) (hk : ∀ id ∈ refsDC c, ∀ q, Keeps M M1 id q) : RelC S0 w0 M1 c v :=
  h.keep fun r hr => hk r.1 (refsC_DC hr) r.2
theorem Rel1.ids {x : V1} {v : Value} (h : Rel1 S0 w0 M x v) (hk : ∀ id ∈ refs1 x, ∀ q, Keeps M M1 id q) : Rel1 S0 w0 M1 x v := by
  cases x with
  | one c => exact ⟨h.1.ids hk, h.2⟩
  | agg cs =>
    obtain ⟨vs, rfl, hl, h1, h2⟩ := h
    refine ⟨vs, rfl, hl, fun i c u hc hu => (h1 i c u hc hu).ids fun id hid => hk id ?_, h2⟩
    exact List.mem_flatMap.2 ⟨c, List.mem_of_getElem? hc, hid⟩
theorem RelV.ids {x : DV} {v : Value} (h : RelV S0 w0 M x v) (hk : ∀ id ∈ refsA x, ∀ q, Keeps M M1 id q) : RelV S0 w0 M1 x v := by
  cases x with
  | un => trivial
  | v x => exact Rel1.ids h hk
  | tup xs =>
    obtain ⟨vs, rfl, hl, h1⟩ := h
    refine ⟨vs, rfl, hl, fun i y u hy hu => (h1 i y u hy hu).ids fun id hid => hk id ?_⟩
    exact List.mem_flatMap.2 ⟨y, List.mem_of_getElem? hy, hid⟩
theorem Ghost.sub (hs : Sub s s') : Ghost nt s s' := fun S0 w0 M a w hR => by
  let M1 : Heap := fun i => match s'.h i with | none => none | some _ => M i
  have hM1 : ∀ i t, M1 i = some t → M i = some t := fun i t h => by
    simp only [M1] at h
    split at h
    · cases h
    · exact h
  have hsame : ∀ id, s'.h id = s.h id → M1 id = M id := fun id h => by
    simp only [M1]
    split
    · rename_i hn
      have := hR.er id
      rw [← h, hn] at this
      cases hm : M id with
      | none => rfl
      | some t => rw [hm] at this; cases this
    · rfl
  have hkeep : ∀ id, s'.h id = s.h id → ∀ q, Keeps M M1 id q := fun id h q x ⟨t, ht, hx⟩ => ⟨x.cells, t, by rw [hsame id h]; exact ht, by rw [hx]; cases x <;> rfl⟩
  have hI := hR.inv
  refine ⟨M1, ⟨fun i t h => hI.ok i t (hM1 i t h), fun i t h => hI.nd i t (hM1 i t h), fun i j t t' hij h h' => hI.dj i j t t' hij (hM1 i t h) (hM1 j t' h'), fun i t b h hb => hI.bl i t b (hM1 i t h) hb, hI.wd, hI.xo, hI.xn, fun i t h => hI.xd i t (hM1 i t h), hI.xb⟩, ?_, ?_, hR.nt, hR.df, ?_⟩
  · intro i
    rcases hs.h i with h | h
    · rw [h]; simp only [M1, h]; rfl
    · rw [hsame i h, h]; exact hR.er i
  · intro i
    rcases hs.e i with h | h
    · rw [h]; trivial
    · have := hR.en i
      rw [← h] at this
      exact this.ids fun id hid q => hkeep id (hs.r i id hid) q
  · intro i
    rcases hs.g i with h | h
    · rw [h]; exact .un _
    · have := hR.gh i
      rw [← h] at this
      exact this.ids fun id hid q => hkeep id (hs.rg i id hid) q
def chkE (s : FS) : List (Nat × DV) → Prop
  | [] => True
  | (k, v) :: l => s.e k = v ∧ chkE s l
def chkH (s : FS) : List (Nat × D) → Prop
  | [] => True
  | (k, v) :: l => s.h k = some v ∧ chkH s l
def chkG (s : FS) : List (Nat × DC) → Prop
  | [] => True
  | (k, v) :: l => s.g k = v ∧ chkG s l
def refsIn (h : List (Nat × D)) (ids : List Nat) : Bool := ids.all fun id => h.any fun p => id == p.1
def refsOk (e : List (Nat × DV)) (h : List (Nat × D)) (g : List (Nat × DC)) : Bool := (e.all fun p => refsIn h (refsA p.2)) && (g.all fun p => refsIn h (refsDC p.2))
theorem chkE_at : ∀ {l : List (Nat × DV)} {i : Nat}, chkE s l → (lkE l i = .un) ∨ (lkE l i = s.e i ∧ ∃ p ∈ l, p.2 = lkE l i)
  | [], i, _ => .inl rfl
  | (k, v) :: l, i, h => by
    simp only [lkE]
    split
    · rename_i hi
      subst hi
      exact .inr ⟨h.1.symm, (i, v), List.mem_cons_self, rfl⟩
    · rcases chkE_at (i := i) h.2 with h1 | ⟨h1, p, hp, h2⟩
      · exact .inl h1
      · exact .inr ⟨h1, p, List.mem_cons_of_mem _ hp, h2⟩
theorem chkH_at : ∀ {l : List (Nat × D)} {i : Nat}, chkH s l → (lkH l i = none ∧ ∀ p ∈ l, p.1 ≠ i) ∨ lkH l i = s.h i
  | [], i, _ => .inl ⟨rfl, fun p hp => by cases hp⟩
  | (k, v) :: l, i, h => by
    simp only [lkH]
    split
    · rename_i hi
      subst hi
      exact .inr h.1.symm
    · rename_i hi
      rcases chkH_at (i := i) h.2 with ⟨h1, h2⟩ | h1
      · refine .inl ⟨h1, fun p hp => ?_⟩
        rcases List.mem_cons.1 hp with rfl | hp
        · exact fun e => hi e.symm
        · exact h2 p hp
      · exact .inr h1
theorem chkG_at : ∀ {l : List (Nat × DC)} {i : Nat}, chkG s l → (lkG l i = .un) ∨ (lkG l i = s.g i ∧ ∃ p ∈ l, p.2 = lkG l i)
  | [], i, _ => .inl rfl
  | (k, v) :: l, i, h => by
    simp only [lkG]
    split
    · rename_i hi
      subst hi
      exact .inr ⟨h.1.symm, (i, v), List.mem_cons_self, rfl⟩
    · rcases chkG_at (i := i) h.2 with h1 | ⟨h1, p, hp, h2⟩
      · exact .inl h1
      · exact .inr ⟨h1, p, List.mem_cons_of_mem _ hp, h2⟩
theorem refsIn_at {h : List (Nat × D)} {ids : List Nat} (hr : refsIn h ids = true) (hh : chkH s h) : ∀ id ∈ ids, lkH h id = s.h id := fun id hid => by
  have := List.all_eq_true.1 hr id hid
  obtain ⟨p, hp, he⟩ := List.any_eq_true.1 this
  rcases chkH_at (i := id) hh with ⟨_, h2⟩ | h1
  · exact absurd (by simpa using he : id = p.1).symm (h2 p hp)
  · exact h1
theorem Sub.st {e : List (Nat × DV)} {h : List (Nat × D)} {g : List (Nat × DC)} (he : chkE s e) (hh : chkH s h) (hg : chkG s g) (hr : refsOk e h g = true) : Sub s (St e h g) := by
  simp only [refsOk, Bool.and_eq_true] at hr
  refine ⟨fun i => ?_, fun i => ?_, fun i => ?_, fun i id hid => ?_, fun i id hid => ?_⟩
  · rcases chkE_at (i := i) he with h1 | ⟨h1, _⟩
    · exact .inl h1
    · exact .inr h1
  · rcases chkH_at (i := i) hh with ⟨h1, _⟩ | h1
    · exact .inl h1
    · exact .inr h1
  · rcases chkG_at (i := i) hg with h1 | ⟨h1, _⟩
    · exact .inl h1
    · exact .inr h1
  · rcases chkE_at (i := i) he with h1 | ⟨_, p, hp, h2⟩
    · simp [h1, refsA] at hid
    · refine refsIn_at (List.all_eq_true.1 hr.1 p hp) hh id ?_
      rw [h2]; exact hid
  · rcases chkG_at (i := i) hg with h1 | ⟨_, p, hp, h2⟩
    · simp [h1, refsDC] at hid
    · refine refsIn_at (List.all_eq_true.1 hr.2 p hp) hh id ?_
      rw [h2]; exact hid
/-- The state is told anew by lists. -/
theorem DW.norm {c : Code} {Q : Exit → FS → Prop} (e : List (Nat × DV)) (h : List (Nat × D)) (g : List (Nat × DC)) (he : chkE s e) (hh : chkH s h) (hg : chkG s g) (hr : refsOk e h g = true) (k : DW P nt c (St e h g) Q) : DW P nt c s Q :=
  DW.ghost (Ghost.sub (Sub.st he hh hg hr)) k
/-- A loop over states told by lists: α is what changes from round to round. -/
theorem DW.loopS {α : Type} {c : Code} {Q : Exit → FS → Prop} (I : α → Prop) (m : α → Nat) (ve : α → List (Nat × DV)) (vh : α → List (Nat × D)) (fe : List (Nat × DV)) (fh : List (Nat × D)) (g : List (Nat × DC)) (a0 : α) (hI : I a0)
    (he : chkE s (ve a0 ++ fe)) (hh : chkH s (vh a0 ++ fh)) (hg : chkG s g) (hr : refsOk (ve a0 ++ fe) (vh a0 ++ fh) g = true)
    (round : ∀ a, I a → DW P nt c (St (ve a ++ fe) (vh a ++ fh) g) (thenQ (fun s1 => ∃ a', I a' ∧ m a' < m a ∧ chkE s1 (ve a' ++ fe) ∧ chkH s1 (vh a' ++ fh) ∧ chkG s1 g ∧ refsOk (ve a' ++ fe) (vh a' ++ fh) g = true) Q)) : DW P nt (.loop c) s Q := by
  refine DW.ghost (Ghost.sub (Sub.st he hh hg hr)) ?_
  refine DW.loopG (fun n s => ∃ a, I a ∧ n = m a ∧ s = St (ve a ++ fe) (vh a ++ fh) g) (n0 := m a0) ⟨a0, hI, rfl, rfl⟩ ?_
  rintro n s ⟨a, ha, rfl, rfl⟩
  refine (round a ha).mono fun e s1 h => ?_
  cases e with
  | normal =>
    obtain ⟨a', h1, h2, h3, h4, h5, h6⟩ := h
    exact ⟨_, m a', Ghost.sub (Sub.st h3 h4 h5 h6), h2, a', h1, rfl, rfl⟩
  | _ => exact h
/-- What a condition is. -/
def CondIs (v : Option Value) (t : Bool) : Prop := v = some (.bool t)
theorem DW.condB {c : Operand} {x y : Code} {Q : Exit → FS → Prop} {t : Bool} (hc : CondIs (asSc (ev s.e c)) t) (ht : t = true → DW P nt x s Q) (hf : t = false → DW P nt y s Q) : DW P nt (.cond c x y) s Q := DW.cond hc ht hf
/-- The values of arguments that are read, as the called function has them. -/
def roAll (s : FS) : List DV → Option (List PA)
  | [] => some []
  | v :: vs => match roA_ s v, roAll s vs with
    | some p, some ps => some (p :: ps)
    | _, _ => none
theorem roAll_ok : ∀ {vs : List DV} {as : List PA} {io k : Nat}, roAll s vs = some as → rosOk s io k vs as
  | [], as, io, k, h => by simp only [roAll, Option.some.injEq] at h; subst h; exact trivial
  | v :: vs, as, io, k, h => by
    simp only [roAll] at h
    split at h
    · rename_i p ps h1 h2
      obtain rfl := Option.some.inj h
      exact ⟨fun _ => h1, roAll_ok h2⟩
    · cases h
/-- A call whose arguments are read; they are reckoned. -/
theorem OpStep.callA {o : Oper} {f : Operand} {args : Array Operand} {ats : Array TypeId} {g : Nat} {vs : List DV} {as as' : List PA} {sh : List (Option Nat)} {ds : List D} (ho : o.op = .call { callee := .value f, args := args, argTypes := ats }) (hc : callArgs s f args.toList = some (g, vs))
    (hr : roAll s vs = some as) (hS : Spec P g as sh ds as') (hw : widen as.length 0 vs = false ∨ noRoL ds = true) (hf : finish nt s o.dst sh ds = some s1) : OpStep P nt o s s1 := OpStep.callN ho hc hS (roAll_ok hr) hw hf
theorem Cert.callA {ops : Array Oper} {o : Oper} {f : Operand} {args : Array Operand} {ats : Array TypeId} {g d : Nat} {vs : List DV} {as as' : List PA} {sh : List (Option Nat)} {ds : List D} {cs : List DC} {δ : Add} (ho : o.op = .call { callee := .value f, args := args, argTypes := ats }) (hw : wantedD ops o s.e = some true)
    (hd : o.dst = some d) (hdn : d < nt) (hc : callArgs s f args.toList = some (g, vs)) (hr : roAll s vs = some as) (hS : Spec P g as sh ds as') (hfl : ds.all flatD = true) (hro : widen as.length 0 vs = false ∨ noRoL ds = true) (hrd : rdCs d [] 0 ds = some cs) (hδ : δ = ⟨d, packDV sh cs, none⟩) :
    Cert P nt ops o (o.looksAt ops) (refsO s o ++ vs.flatMap refsDV) δ s := Cert.callN ho hw hd hdn hc hS (roAll_ok hr) hfl hro hrd hδ
end
attribute [simp] chkE chkH chkG roAll callArgs roA_ toRC widen ownV ownC finish packDV packD
end Go.Proofs.Ytjjdjkkhhcbogaa.DM
