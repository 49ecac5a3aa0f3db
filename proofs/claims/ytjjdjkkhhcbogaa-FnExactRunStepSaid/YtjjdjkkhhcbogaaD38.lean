/-
  DM 38. Regions whose order is not told, where ONE heavy step (at j0) and ONE earlier step that adds (at k0) may come in either order: 'x.F = f(x.F)' through a pointer.
-/
import Derived.Test.YtjjdjkkhhcbogaaD37
namespace Go.Proofs.Ytjjdjkkhhcbogaa.DM
set_option linter.unusedVariables false
set_option linter.unusedSimpArgs false
section
variable {S0 : Fr} {w0 w w' : World} {M M' M1 : Heap} {X : List A} {P : Program} {nt : Nat} {s s1 : FS} {a : Act} {ops : Array Oper}
/-- The heavy step may come ahead of the step that adds. -/
def Swaps (P : Program) (nt : Nat) (ops : Array Oper) (o ok : Oper) (d : Nat) (L R : List Nat) (s s1 : FS) : Prop := ∀ (s0 : FS) (δ : Add), δ.d = d → δ.x = none → s0.add δ = s → Cert P nt ops ok L R δ s0 → ∃ s1a, StepA P nt ops o s0 s1a ∧ Cert P nt ops ok L R δ s1a ∧ s1a.add δ = s1
inductive ChainC (P : Program) (nt : Nat) (ops : Array Oper) (plan : Nat → Option Foot) (j0 k0 : Nat) : List Nat → FS → FS → Prop
  | nil (s : FS) : ChainC P nt ops plan j0 k0 [] s s
  | add {i : Nat} {l : List Nat} {o : Oper} {L R : List Nat} {δ : Add} {s s2 : FS} : ops[i]? = some o → plan i = some (δ.d, L, R) → (i = k0 → δ.x = none) → Cert P nt ops o L R δ s → ChainC P nt ops plan j0 k0 l (s.add δ) s2 → ChainC P nt ops plan j0 k0 (i :: l) s s2
  | heavy {i : Nat} {l : List Nat} {o : Oper} {s s1 s2 : FS} : ops[i]? = some o → plan i = none → StepA P nt ops o s s1 → (i = j0 → ∀ ok d L R, ops[k0]? = some ok → plan k0 = some (d, L, R) → Swaps P nt ops o ok d L R s s1) → ChainC P nt ops plan j0 k0 l s1 s2 → ChainC P nt ops plan j0 k0 (i :: l) s s2
def pairC (j0 k0 : Nat) (plan : Nat → Option Foot) (k i : Nat) : Bool := pairOk (plan k) (plan i) || (k == k0 && i == j0 && (plan i).isNone && (plan k).isSome)
/-- A step that is apart from all before it may come first. -/
theorem ChainC.firstA {j0 k0 : Nat} {plan : Nat → Option Foot} {i : Nat} {post : List Nat} {s2 : FS} : ∀ {pre : List Nat} {s : FS}, (∀ k ∈ pre, pairOk (plan k) (plan i) = true) → ChainC P nt ops plan j0 k0 (pre ++ i :: post) s s2 →
    ∃ o s1, ops[i]? = some o ∧ StepA P nt ops o s s1 ∧ ChainC P nt ops plan j0 k0 (pre ++ post) s1 s2 ∧ (∀ d L R, plan i = some (d, L, R) → ∃ δ, δ.d = d ∧ Cert P nt ops o L R δ s ∧ s1 = s.add δ)
  | [], s, _, h => by
    cases h with
    | add ho hp hx hc hr =>
      rename_i o L R δ
      exact ⟨_, _, ho, hc s (fun _ _ => rfl) (fun _ _ => rfl), hr, fun d L' R' h => by
        rw [hp] at h
        simp only [Option.some.injEq, Prod.mk.injEq] at h
        obtain ⟨rfl, rfl, rfl⟩ := h
        exact ⟨δ, rfl, hc, rfl⟩⟩
    | heavy ho hp hc hx hr => exact ⟨_, _, ho, hc, hr, fun d L R h => by rw [hp] at h; cases h⟩
  | k :: pre, s, hk, h => by
    have hki := hk k List.mem_cons_self
    have hpre : ∀ k' ∈ pre, pairOk (plan k') (plan i) = true := fun k' h' => hk k' (List.mem_cons_of_mem _ h')
    cases h with
    | heavy ho hp hc hx hr => rw [hp] at hki; cases hki
    | add ho hp hx hc hr =>
      rename_i o L R δ
      rw [hp] at hki
      obtain ⟨d', L', R', hpi, hap⟩ := pairOk_some hki
      obtain ⟨oi, s1, h1, h2, h3, h4⟩ := ChainC.firstA (i := i) (post := post) hpre hr
      obtain ⟨δ', rfl, g1, rfl⟩ := h4 d' L' R' hpi
      have g2 := (Cert.move hap).1 g1
      refine ⟨oi, s.add δ', h1, g2 s (fun _ _ => rfl) (fun _ _ => rfl), .add ho hp hx ((Cert.move (δ' := δ) hap.symm).2 hc) ?_, fun d2 L2 R2 e => ?_⟩
      · rw [add_comm' s δ' δ hap.1.symm]; exact h3
      · rw [hpi] at e
        simp only [Option.some.injEq, Prod.mk.injEq] at e
        obtain ⟨rfl, rfl, rfl⟩ := e
        exact ⟨δ', rfl, g2, rfl⟩
theorem ChainC.first {j0 k0 : Nat} {plan : Nat → Option Foot} {i : Nat} {pre post : List Nat} {s s2 : FS} (hs : pre.Pairwise (· < ·)) (hk : ∀ k ∈ pre, pairC j0 k0 plan k i = true) (h : ChainC P nt ops plan j0 k0 (pre ++ i :: post) s s2) :
    ∃ o s1, ops[i]? = some o ∧ StepA P nt ops o s s1 ∧ ChainC P nt ops plan j0 k0 (pre ++ post) s1 s2 := by
  by_cases hall : ∀ k ∈ pre, pairOk (plan k) (plan i) = true
  · obtain ⟨o, s1, h1, h2, h3, -⟩ := ChainC.firstA hall h
    exact ⟨o, s1, h1, h2, h3⟩
  · have hex : ∃ k, k ∈ pre ∧ ¬ pairOk (plan k) (plan i) = true := Classical.byContradiction fun hno => hall fun k hk => Classical.byContradiction fun hn => hno ⟨k, hk, hn⟩
    obtain ⟨k, hkm, hkn⟩ := hex
    have h1 := hk k hkm
    simp only [pairC, Bool.or_eq_true, Bool.and_eq_true, beq_iff_eq] at h1
    have h1 := h1.resolve_left hkn
    obtain ⟨⟨⟨rfl, rfl⟩, hno⟩, hys⟩ := h1
    have hpn : plan i = none := by
      cases hp : plan i with
      | none => rfl
      | some f => rw [hp] at hno; cases hno
    have hone : ∀ k' ∈ pre, k' = k := fun k' hk' => by
      have h2 := hk k' hk'
      have h3 : pairOk (plan k') (plan i) = false := by
        rw [hpn]
        cases plan k' with
        | none => rfl
        | some f => obtain ⟨_, _, _⟩ := f; rfl
      simp only [pairC, h3, Bool.false_or, Bool.and_eq_true, beq_iff_eq] at h2
      exact h2.1.1.1
    have hpre : pre = [k] := by
      cases pre with
      | nil => cases hkm
      | cons x l =>
        have hx := hone x List.mem_cons_self
        subst hx
        cases l with
        | nil => rfl
        | cons y l =>
          rw [List.pairwise_cons] at hs
          have := hs.1 y List.mem_cons_self
          have := hone y (List.mem_cons_of_mem _ List.mem_cons_self)
          omega
    subst hpre
    cases h with
    | heavy ho hp hc hx hr =>
      rw [hp] at hys; cases hys
    | add ho hp hx hc hr =>
      rename_i o L R δ
      change ChainC P nt ops plan _ _ (i :: post) (s.add δ) s2 at hr
      cases hr with
      | add ho' hp' hx' hc' hr' => rw [hpn] at hp'; cases hp'
      | heavy ho' hp' hc' hx' hr' =>
        rename_i oi s1
        obtain ⟨s1a, g1, g2, g3⟩ := hx' rfl o δ.d L R ho hp s δ rfl (hx rfl) rfl hc
        exact ⟨oi, s1a, ho', g1, .add ho hp hx g2 (by rw [g3]; exact hr')⟩
def planOkC (j0 k0 : Nat) (plan : Nat → Option Foot) (tb : List (List Nat)) (n : Nat) : Bool := (List.range n).all fun j => (List.range j).all fun i => (tb.getD j []).contains i || pairC j0 k0 plan i j
theorem planOkC_spec {j0 k0 : Nat} {plan : Nat → Option Foot} {tb : List (List Nat)} {n : Nat} (h : planOkC j0 k0 plan tb n = true) (j : Nat) (hj : j < n) (i : Nat) (hi : i < j) : i ∈ tb.getD j [] ∨ pairC j0 k0 plan i j = true := by
  unfold planOkC at h
  rw [List.all_eq_true] at h
  have h1 := h j (List.mem_range.2 hj)
  rw [List.all_eq_true] at h1
  have h2 := h1 i (List.mem_range.2 hi)
  simpa using h2
theorem chainC_any {md : Region.Mode} {j0 k0 : Nat} {plan : Nat → Option Foot} {tb : List (List Nat)} {Q : Exit → Act → World → Prop} {s2 : FS} (ht : tableOk md ops tb = true) (hp : planOkC j0 k0 plan tb ops.size = true) (hQ : ∀ (M1 : Heap) (a1 : Act) (w1 : World), Rel S0 w0 nt s2 M1 a1 w1 → Q .normal a1 w1) :
    ∀ (fuel : Nat) (l : List Nat) (listed : Array Bool) {s : FS} {M : Heap} {a : Act} {w : World}, l.length ≤ fuel → l.Pairwise (· < ·) → (∀ j ∈ l, j < ops.size) → listed.size = ops.size → (∀ j, j < ops.size → (listed.getD j true = false ↔ j ∈ l)) →
      (∀ j o, ops[j]? = some o → j ∉ l → ∀ e ∈ o.after, Region.binds md e = true → e.on ∉ l) → ChainC P nt ops plan j0 k0 l s s2 → Rel S0 w0 nt s M a w → wpAny P md ops Q fuel listed a w := by
  intro fuel
  have hready : ∀ (l : List Nat) (listed : Array Bool), listed.size = ops.size → (∀ j ∈ l, j < ops.size) → (∀ j, j < ops.size → (listed.getD j true = false ↔ j ∈ l)) → ∀ i, i ∈ Region.ready md ops listed ↔ i ∈ l ∧ ∃ o, ops[i]? = some o ∧ ∀ e ∈ o.after, Region.binds md e = true → e.on ∉ l := by
    intro l listed hsz hl hli i
    rw [mem_ready]
    constructor
    · rintro ⟨h0, o, ho, he⟩
      have hi : i < ops.size := (Array.getElem?_eq_some_iff.1 ho).1
      refine ⟨(hli i hi).1 h0, o, ho, fun e hem hb hin => ?_⟩
      have h1 := he e hem hb
      have h2 := (hli e.on (hl _ hin)).2 hin
      have hlt : e.on < listed.size := by rw [hsz]; exact hl _ hin
      rw [Array.getD_eq_getD_getElem?, Array.getElem?_eq_getElem hlt] at h1 h2
      rw [Option.getD_some] at h1 h2
      rw [h1] at h2; cases h2
    · rintro ⟨hi, o, ho, he⟩
      refine ⟨(hli i (hl i hi)).2 hi, o, ho, fun e hem hb => ?_⟩
      have hlt := (table_spec ht ho).2 e hem hb
      have hlt2 : e.on < ops.size := by have := (Array.getElem?_eq_some_iff.1 ho).1; omega
      have h2 : ¬ listed.getD e.on true = false := fun h => he e hem hb ((hli e.on hlt2).1 h)
      have hlt3 : e.on < listed.size := by omega
      rw [Array.getD_eq_getD_getElem?, Array.getElem?_eq_getElem hlt3, Option.getD_some] at h2 ⊢
      simpa using h2
  have hnil : ∀ (l : List Nat) (listed : Array Bool), listed.size = ops.size → l.Pairwise (· < ·) → (∀ j ∈ l, j < ops.size) → (∀ j, j < ops.size → (listed.getD j true = false ↔ j ∈ l)) → Region.ready md ops listed = [] → l = [] := by
    intro l listed hsz hs hl hli hr
    cases l with
    | nil => rfl
    | cons i l =>
      have hi : i < ops.size := hl i List.mem_cons_self
      have : i ∈ Region.ready md ops listed := (hready _ listed hsz hl hli i).2 ⟨List.mem_cons_self, ops[i], Array.getElem?_eq_getElem hi, fun e he hb hin => by
        have h1 := (table_spec ht (Array.getElem?_eq_getElem hi)).2 e he hb
        rw [List.pairwise_cons] at hs
        rcases List.mem_cons.1 hin with h | h
        · omega
        · have := hs.1 _ h; omega⟩
      rw [hr] at this; cases this
  induction fuel with
  | zero =>
    intro l listed s M a w hlen hs hl hsz hli hcl hch hR
    have : l = [] := List.length_eq_zero_iff.1 (by omega)
    subst this
    cases hch with
    | nil =>
      refine ⟨?_, hQ M a w hR⟩
      cases hr : Region.ready md ops listed with
      | nil => rfl
      | cons i r =>
        have := (hready [] listed hsz hl hli i).1 (by rw [hr]; exact List.mem_cons_self)
        simp at this
  | succ fuel ih =>
    intro l listed s M a w hlen hs hl hsz hli hcl hch hR
    refine ⟨fun hr => ?_, fun i hi => ?_⟩
    · have := hnil l listed hsz hs hl hli hr
      subst this
      cases hch with
      | nil => exact hQ M a w hR
    · obtain ⟨hil, o, ho, he⟩ := (hready l listed hsz hl hli i).1 hi
      obtain ⟨pre, post, rfl⟩ := List.append_of_mem hil
      rw [List.pairwise_append, List.pairwise_cons] at hs
      obtain ⟨hs1, ⟨hs2, hs3⟩, hs4⟩ := hs
      have hipre : i ∉ pre := fun h => absurd (hs4 i h i List.mem_cons_self) (Nat.lt_irrefl _)
      have hipost : i ∉ post := fun h => absurd (hs2 i h) (Nat.lt_irrefl _)
      have hilt : i < ops.size := hl i hil
      have hpair : ∀ k ∈ pre, pairC j0 k0 plan k i = true := fun k hk => by
        rcases planOkC_spec hp i hilt k (hs4 k hk i List.mem_cons_self) with h | h
        · exfalso
          obtain ⟨e, hem, hb, hlt, hor⟩ := (table_spec ht ho).1 k h
          have h1 := he e hem hb
          have hkl : k ∈ pre ++ i :: post := List.mem_append_left _ hk
          rcases hor with rfl | hk'
          · exact h1 hkl
          · exact before_listed ht (D := fun j => j ∉ pre ++ i :: post) (fun j o hj hd e he hb => hcl j o hj hd e he hb) e.on (by omega) h1 k hk' hkl
        · exact h
      obtain ⟨o', s1, h1, h2, h3⟩ := ChainC.first hs1 hpair hch
      refine h2.wpOp h1 hR fun M1 a1 w1 hR1 => ih (pre ++ post) (listed.setIfInBounds i true) ?_ ?_ (fun j hj => hl j ?_) (by simpa using hsz) (fun j hj => ?_) (fun j oj hoj hj e hem hb => ?_) h3 hR1
      · simp only [List.length_append, List.length_cons] at hlen ⊢; omega
      · rw [List.pairwise_append]
        exact ⟨hs1, hs3, fun x hx y hy => hs4 x hx y (List.mem_cons_of_mem _ hy)⟩
      · rcases List.mem_append.1 hj with h | h
        · exact List.mem_append_left _ h
        · exact List.mem_append_right _ (List.mem_cons_of_mem _ h)
      · by_cases hji : j = i
        · subst hji
          have : (listed.setIfInBounds j true).getD j true = true := by
            rw [Array.getD_eq_getD_getElem?, Array.getElem?_setIfInBounds_self_of_lt (by omega)]; rfl
          rw [this]
          simp [hipre, hipost]
        · rw [getD_set_ne true (Ne.symm hji), hli j hj]
          simp [hji]
      · have hsub : ∀ x, x ∈ pre ++ post → x ∈ pre ++ i :: post := fun x hx => by
          rcases List.mem_append.1 hx with h | h
          · exact List.mem_append_left _ h
          · exact List.mem_append_right _ (List.mem_cons_of_mem _ h)
        by_cases hji : j = i
        · subst hji
          rw [ho] at hoj
          obtain rfl := Option.some.inj hoj
          exact fun h => he e hem hb (hsub _ h)
        · have hj' : j ∉ pre ++ i :: post := fun h => by
            rcases List.mem_append.1 h with h | h
            · exact hj (List.mem_append_left _ h)
            · rcases List.mem_cons.1 h with h | h
              · exact hji h
              · exact hj (List.mem_append_right _ h)
          exact fun h => hcl j oj hoj hj' e hem hb (hsub _ h)
theorem DW.drawC {id j0 k0 : Nat} {Q : Exit → FS → Prop} {plan : Nat → Option Foot} {s2 : FS} (tb : List (List Nat)) (hm : P.follows .mixedOrders = true) (ht : tableOk .any ops tb = true) (hp : planOkC j0 k0 plan tb ops.size = true) (hc : ChainC P nt ops plan j0 k0 (List.range ops.size) s s2) (h : Q .normal s2) :
    DW P nt (.region id ops true) s Q := fun S0 w0 M a w hR => by
  refine wp_region_any hm ?_
  refine chainC_any ht hp (fun M1 a1 w1 h1 => ⟨s2, M1, h, h1⟩) ops.size (List.range ops.size) _ (by simp) List.pairwise_lt_range (fun j hj => List.mem_range.1 hj) (by simp) (fun j hj => ?_) (fun j o ho hj => ?_) hc hR.drawn
  · simp [hj]
  · exact absurd (List.mem_range.2 (Array.getElem?_eq_some_iff.1 ho).1) hj
/-- A region, step by step; what each step looks at and writes is kept. -/
def RegC (P : Program) (nt : Nat) (ops : Array Oper) (j0 k0 : Nat) : List Oper → List (Option Foot) → FS → (List (Option Foot) → FS → Prop) → Prop
  | [], acc, s, N => N acc s
  | o :: l, acc, s, N => (∃ L R δ, Cert P nt ops o L R δ s ∧ (acc.length = k0 → δ.x = none) ∧ RegC P nt ops j0 k0 l (acc ++ [some (δ.d, L, R)]) (s.add δ) N) ∨
      (∃ s1, StepA P nt ops o s s1 ∧ (acc.length = j0 → k0 < acc.length ∧ ∀ ok d L R, ops[k0]? = some ok → acc.getD k0 none = some (d, L, R) → Swaps P nt ops o ok d L R s s1) ∧ RegC P nt ops j0 k0 l (acc ++ [none]) s1 N)
variable {j0 k0 : Nat}
theorem RegC.adds {N : List (Option Foot) → FS → Prop} : ∀ {l l' : List Oper} {acc acc1 : List (Option Foot)} {s s1 : FS}, regA P nt ops l acc s = some (acc1, s1) → RegC P nt ops j0 k0 l' acc1 s1 N → RegC P nt ops j0 k0 (l ++ l') acc s N
  | [], l', acc, acc1, s, s1, h, hr => by
    simp only [regA, Option.some.injEq, Prod.mk.injEq] at h
    obtain ⟨rfl, rfl⟩ := h
    exact hr
  | o :: l, l', acc, acc1, s, s1, h, hr => by
    simp only [regA] at h
    split at h
    · rename_i δ hδ
      refine .inl ⟨_, _, δ, cert_of_addF hδ, fun _ => ?_, RegC.adds h hr⟩
      simp only [addF] at hδ
      split at hδ
      · split at hδ
        · obtain rfl := Option.some.inj hδ; rfl
        · cases hδ
      · split at hδ
        · split at hδ
          · obtain rfl := Option.some.inj hδ; rfl
          · cases hδ
        · cases hδ
      · cases hδ
    · cases h
theorem RegC.addN {N : List (Option Foot) → FS → Prop} (n : Nat) {l : List Oper} {acc acc1 : List (Option Foot)} (h : regA P nt ops (l.take n) acc s = some (acc1, s1)) (hr : RegC P nt ops j0 k0 (l.drop n) acc1 s1 N) : RegC P nt ops j0 k0 l acc s N := by
  have := RegC.adds h hr
  rwa [List.take_append_drop] at this
theorem RegC.cert {N : List (Option Foot) → FS → Prop} {o : Oper} {l : List Oper} {acc : List (Option Foot)} {L R : List Nat} {δ : Add} (hc : Cert P nt ops o L R δ s) (hk : acc.length ≠ k0) (hr : RegC P nt ops j0 k0 l (acc ++ [some (δ.d, L, R)]) (s.add δ) N) : RegC P nt ops j0 k0 (o :: l) acc s N := .inl ⟨L, R, δ, hc, fun h => absurd h hk, hr⟩
theorem RegC.heavyF {N : List (Option Foot) → FS → Prop} {o : Oper} {l : List Oper} {acc : List (Option Foot)} (hw : wantedD ops o s.e = some true) (hc : stepF P nt o s = some s1) (hj : acc.length ≠ j0) (hr : RegC P nt ops j0 k0 l (acc ++ [none]) s1 N) : RegC P nt ops j0 k0 (o :: l) acc s N := .inr ⟨s1, .inl ⟨hw, OpStep.of hc⟩, fun h => absurd h hj, hr⟩
theorem RegC.heavy {N : List (Option Foot) → FS → Prop} {o : Oper} {l : List Oper} {acc : List (Option Foot)} (hc : StepA P nt ops o s s1) (hj : acc.length ≠ j0) (hr : RegC P nt ops j0 k0 l (acc ++ [none]) s1 N) : RegC P nt ops j0 k0 (o :: l) acc s N := .inr ⟨s1, hc, fun h => absurd h hj, hr⟩
/-- The heavy step that may come ahead of an earlier one, which lays a temporary alone: it is shown for any contents of that temporary. -/
theorem RegC.swap {N : List (Option Foot) → FS → Prop} {o ok : Oper} {l : List Oper} {acc : List (Option Foot)} {d : Nat} {L R : List Nat} (hok : ops[k0]? = some ok) (hacc : acc.getD k0 none = some (d, L, R)) (hk : k0 < acc.length) (hw : o.guard = none)
    (F : DV → FS) (hstep : ∀ v0 : DV, OpStep P nt o ⟨upd s.e d v0, s.h, s.g⟩ (F v0)) (hcert : ∀ v0 : DV, Cert P nt ops ok L R ⟨d, s.e d, none⟩ (F v0)) (hadd : ∀ v0 : DV, (F v0).add ⟨d, s.e d, none⟩ = s1)
    (hself : F (s.e d) = s1) (hr : RegC P nt ops j0 k0 l (acc ++ [none]) s1 N) : RegC P nt ops j0 k0 (o :: l) acc s N := by
  have hwant : ∀ s' : FS, wantedD ops o s'.e = some true := fun s' => by simp [wantedD, hw]
  have hs : (⟨upd s.e d (s.e d), s.h, s.g⟩ : FS) = s := by
    have : upd s.e d (s.e d) = s.e := by
      funext i
      by_cases hi : i = d
      · subst hi; rw [upd_same]
      · rw [upd_ne _ _ _ _ hi]
    rw [this]
  refine .inr ⟨s1, .inl ⟨hwant _, ?_⟩, fun _ => ⟨hk, fun ok' d' L' R' h1 h2 => ?_⟩, hr⟩
  · have := hstep (s.e d)
    rw [hs, hself] at this
    exact this
  · rw [hok] at h1
    rw [hacc] at h2
    obtain rfl := Option.some.inj h1
    simp only [Option.some.injEq, Prod.mk.injEq] at h2
    obtain ⟨rfl, rfl, rfl⟩ := h2
    intro s0 δ hd hx hs0 hc
    obtain ⟨dd, vv, xx⟩ := δ
    simp only at hd hx
    subst hd; subst hx
    have hv : vv = s.e dd := by rw [← hs0]; simp [FS.add, upd_same]
    subst hv
    have h0 : s0 = ⟨upd s.e dd (s0.e dd), s.h, s.g⟩ := by
      obtain ⟨e, h, g⟩ := s0
      rw [← hs0]
      simp only [FS.add, FS.mk.injEq, and_true]
      funext i
      by_cases hi : i = dd
      · subst hi; rw [upd_same]
      · rw [upd_ne _ _ _ _ hi, upd_ne _ _ _ _ hi]
    exact ⟨F (s0.e dd), .inl ⟨hwant _, by
      have := hstep (s0.e dd)
      rw [← h0] at this
      exact this⟩, hcert _, hadd _⟩
theorem cert_cast {o : Oper} {L R : List Nat} {δ : Add} (h : addF P nt ops o s = some δ) (hL : o.looksAt ops = L) (hR : refsO s o = R) : Cert P nt ops o L R δ s := hL ▸ hR ▸ cert_of_addF h
theorem regC_chain {N : List (Option Foot) → FS → Prop} : ∀ {l : List Oper} {acc : List (Option Foot)} {s : FS} (k : Nat), k = acc.length → (∀ (i : Nat) (o : Oper), l[i]? = some o → ops[k + i]? = some o) → RegC P nt ops j0 k0 l acc s N →
    ∃ pl s2, N (acc ++ pl) s2 ∧ pl.length = l.length ∧ ∀ plan : Nat → Option Foot, (∀ i, i < (acc ++ pl).length → plan i = (acc ++ pl).getD i none) → ChainC P nt ops plan j0 k0 (List.range' k l.length) s s2
  | [], acc, s, k, hk, ho, h => ⟨[], s, by simpa [RegC] using h, rfl, fun plan _ => .nil s⟩
  | o :: l, acc, s, k, hk, ho, h => by
    have hok : ops[k]? = some o := by simpa using ho 0 o rfl
    have ho' : ∀ (i : Nat) (o' : Oper), l[i]? = some o' → ops[k + 1 + i]? = some o' := fun i o' hi => by
      have := ho (i + 1) o' (by simpa using hi)
      rw [← this]; congr 1; omega
    rcases h with ⟨L, R, δ, hc, hx, hr⟩ | ⟨s1, hc, hx, hr⟩
    · obtain ⟨pl, s2, h1, h2, h3⟩ := regC_chain (k + 1) (by simp [hk]) ho' hr
      refine ⟨some (δ.d, L, R) :: pl, s2, by simpa using h1, by simp [h2], fun plan hp => ?_⟩
      rw [List.length_cons, List.range'_succ]
      refine .add hok (by have := hp k (by simp [hk]); rw [this, hk]; simp [List.getD_eq_getElem?_getD]) (fun e => hx (by omega)) hc (h3 plan fun i hi => ?_)
      have := hp i (by simpa using hi)
      simpa using this
    · obtain ⟨pl, s2, h1, h2, h3⟩ := regC_chain (k + 1) (by simp [hk]) ho' hr
      refine ⟨none :: pl, s2, by simpa using h1, by simp [h2], fun plan hp => ?_⟩
      rw [List.length_cons, List.range'_succ]
      refine .heavy hok (by have := hp k (by simp [hk]); rw [this, hk]; simp [List.getD_eq_getElem?_getD]) hc (fun e ok d L R g1 g2 => ?_) (h3 plan fun i hi => ?_)
      · obtain ⟨hk0, hsw⟩ := hx (by omega)
        refine hsw ok d L R g1 ?_
        have := hp k0 (by simp; omega)
        rw [g2] at this
        rw [this, List.getD_eq_getElem?_getD, List.getD_eq_getElem?_getD, List.getElem?_append_left hk0]
      · have := hp i (by simpa using hi)
        simpa using this
/-- A region whose order is not told. -/
theorem DW.drawnC (j0 k0 : Nat) {id : Nat} {l : List Oper} {Q : Exit → FS → Prop} (hm : P.follows .mixedOrders = true) (ht : tableOk .any l.toArray (tableOf l) = true) (h : RegC P nt l.toArray j0 k0 l [] s fun pl s2 => planOkC j0 k0 (fun i => pl.getD i none) (tableOf l) l.length = true ∧ Q .normal s2) : DW P nt (.region id l.toArray true) s Q := by
  obtain ⟨pl, s2, ⟨h1, h2⟩, h3, h4⟩ := regC_chain (ops := l.toArray) 0 rfl (fun i o hi => by simpa using hi) h
  simp only [List.nil_append] at h1
  refine DW.drawC (j0 := j0) (k0 := k0) (tableOf l) hm ht (plan := fun i => pl.getD i none) (by simpa using h1) ?_ h2
  have := h4 (fun i => pl.getD i none) (fun i hi => by simp)
  rw [List.range_eq_range']
  simpa using this
end
end Go.Proofs.Ytjjdjkkhhcbogaa.DM
