/-
  DM 55. As DM 45, but what the steps of K look at may be changed by the heavy step as phi tells, if they do the same then (a tuple of which one part is moved away).
-/
import Derived.Test.YtciieaidbiejmaaX54
namespace Go.Proofs.Ytciieaidbiejmaa.DM
set_option linter.unusedVariables false
set_option linter.unusedSimpArgs false
section
variable {S0 : Fr} {w0 w w' : World} {M M' M1 : Heap} {X : List A} {P : Program} {nt : Nat} {s s1 : FS} {a : Act} {ops : Array Oper}
/-- What a step of K looks at is left by the heavy step. -/
def FootF (φ : DV → DV) (plan : Nat → Option Foot) (K T : List Nat) (s s1 : FS) : Prop := ∀ k ∈ K, ∀ d L R, plan k = some (d, L, R) → d ∈ T ∧ d ∉ L ∧ (∀ t ∈ L, t ∈ T ∨ s1.e t = s.e t ∨ s1.e t = φ (s.e t)) ∧ ∀ i ∈ R, s1.h i = s.h i
/-- The step does the same whether the heavy one has come or not. -/
def CertF (P : Program) (nt : Nat) (ops : Array Oper) (o : Oper) (L R : List Nat) (δ : Add) (φ : DV → DV) (s : FS) : Prop := ∀ s' : FS, (∀ t ∈ L, s'.e t = s.e t ∨ s'.e t = φ (s.e t)) → (∀ i ∈ R, s'.h i = s.h i) → StepA P nt ops o s' (s'.add δ)
inductive ChainF (P : Program) (nt : Nat) (ops : Array Oper) (plan : Nat → Option Foot) (K T : Nat → List Nat) (φ : Nat → DV → DV) : List Nat → FS → FS → Prop
  | nil (s : FS) : ChainF P nt ops plan K T φ [] s s
  | add {i : Nat} {l : List Nat} {o : Oper} {L R : List Nat} {δ : Add} {s s2 : FS} : ops[i]? = some o → plan i = some (δ.d, L, R) → (∀ j, i ∈ K j → δ.x = none ∧ φ j (s.e δ.d) = s.e δ.d ∧ CertF P nt ops o L R δ (φ j) s) → Cert P nt ops o L R δ s → ChainF P nt ops plan K T φ l (s.add δ) s2 → ChainF P nt ops plan K T φ (i :: l) s s2
  | heavy {i : Nat} {l : List Nat} {o : Oper} {s s1 s2 : FS} : ops[i]? = some o → plan i = none → StepA P nt ops o s s1 → (K i ≠ [] → FreeK P nt ops o (T i) (φ i) s s1 ∧ FootF (φ i) plan (K i) (T i) s s1) → ChainF P nt ops plan K T φ l s1 s2 → ChainF P nt ops plan K T φ (i :: l) s s2
section
variable {K T : Nat → List Nat} {φ : Nat → DV → DV}
/-- A step that is apart from all before it may come first. -/
theorem ChainF.firstA {plan : Nat → Option Foot} {i : Nat} {post : List Nat} {s2 : FS} : ∀ {pre : List Nat} {s : FS}, (∀ k ∈ pre, pairOk (plan k) (plan i) = true) → ChainF P nt ops plan K T φ (pre ++ i :: post) s s2 →
    ∃ o s1, ops[i]? = some o ∧ StepA P nt ops o s s1 ∧ ChainF P nt ops plan K T φ (pre ++ post) s1 s2 ∧ (∀ d L R, plan i = some (d, L, R) → ∃ δ, δ.d = d ∧ Cert P nt ops o L R δ s ∧ s1 = s.add δ)
  | [], s, _, h => by
    cases h with
    | add ho hp hx hc hr =>
      rename_i o L R δ
      exact ⟨_, _, ho, hc s (fun _ _ => rfl) (fun _ _ => rfl), hr, fun d L' R' h => by
        rw [hp] at h
        simp only [Option.some.injEq, Prod.mk.injEq] at h
        obtain ⟨rfl, rfl, rfl⟩ := h
        exact ⟨δ, rfl, hc, rfl⟩⟩
    | heavy ho hp hc hx hr => exact ⟨_, _, ho, hc, hr, fun d L R h => by rw [hp] at h; cases h⟩
  | k :: pre, s, hk, h => by
    have hki := hk k List.mem_cons_self
    have hpre : ∀ k' ∈ pre, pairOk (plan k') (plan i) = true := fun k' h' => hk k' (List.mem_cons_of_mem _ h')
    cases h with
    | heavy ho hp hc hx hr => rw [hp] at hki; cases hki
    | add ho hp hx hc hr =>
      rename_i o L R δ
      rw [hp] at hki
      obtain ⟨d', L', R', hpi, hap⟩ := pairOk_some hki
      obtain ⟨oi, s1, h1, h2, h3, h4⟩ := ChainF.firstA (i := i) (post := post) hpre hr
      obtain ⟨δ', rfl, g1, rfl⟩ := h4 d' L' R' hpi
      have g2 := (Cert.move hap).1 g1
      have hx' : ∀ j, k ∈ K j → δ.x = none ∧ φ j ((s.add δ').e δ.d) = (s.add δ').e δ.d ∧ CertF P nt ops _ L R δ (φ j) (s.add δ') := fun j hkK => by
        have e1 : (s.add δ').e δ.d = s.e δ.d := upd_ne _ _ _ _ hap.1
        obtain ⟨x1, x2, x3⟩ := hx j hkK
        rw [e1]
        refine ⟨x1, x2, fun s' he hr' => x3 s' (fun t ht => ?_) (fun i hi => (hr' i hi).trans ?_)⟩
        · have e2 : (s.add δ').e t = s.e t := upd_ne _ _ _ _ fun e => hap.2.2.1 (e ▸ ht)
          rw [← e2]; exact he t ht
        · exact add_h_ne _ _ _ fun e => hap.2.2.2.2 (e ▸ hi)
      refine ⟨oi, s.add δ', h1, g2 s (fun _ _ => rfl) (fun _ _ => rfl), .add ho hp hx' ((Cert.move (δ' := δ) hap.symm).2 hc) ?_, fun d2 L2 R2 e => ?_⟩
      · rw [add_comm' s δ' δ hap.1.symm]; exact h3
      · rw [hpi] at e
        simp only [Option.some.injEq, Prod.mk.injEq] at e
        obtain ⟨rfl, rfl, rfl⟩ := e
        exact ⟨δ', rfl, g2, rfl⟩
/-- The heavy step comes ahead of steps of K. -/
theorem ChainF.firstH (hu : ∀ i j j', i ∈ K j → i ∈ K j' → j = j') (hidm : ∀ j v, φ j (φ j v) = φ j v) {plan : Nat → Option Foot} {post : List Nat} {s2 : FS} {j : Nat} (hj : plan j = none) (hne : K j ≠ []) : ∀ {pre : List Nat} {s : FS}, (∀ k ∈ pre, k ∈ K j ∧ (plan k).isSome = true) → ChainF P nt ops plan K T φ (pre ++ j :: post) s s2 →
    ∃ o s1, ops[j]? = some o ∧ StepA P nt ops o s s1 ∧ ChainF P nt ops plan K T φ (pre ++ post) s1 s2 ∧ FreeK P nt ops o (T j) (φ j) s s1 ∧ FootF (φ j) plan (K j) (T j) s s1
  | [], s, _, h => by
    cases h with
    | add ho hp hx hc hr => rw [hj] at hp; cases hp
    | heavy ho hp hc hx hr =>
      obtain ⟨h1, h2⟩ := hx hne
      exact ⟨_, _, ho, hc, hr, h1, h2⟩
  | k :: pre, s, hk, h => by
    obtain ⟨hkK, hks⟩ := hk k List.mem_cons_self
    cases h with
    | heavy ho hp hc hx hr => rw [hp] at hks; cases hks
    | add ho hp hx hc hr =>
      rename_i o L R δ
      obtain ⟨hxn, hfix, hcf⟩ := hx j hkK
      obtain ⟨oi, s1', h1, h2, h3, hF, hT⟩ := ChainF.firstH hu hidm hj hne (post := post) (fun k' h' => hk k' (List.mem_cons_of_mem _ h')) hr
      obtain ⟨hF1, hF2⟩ := hF
      obtain ⟨hdT, hdL, hL, hR⟩ := hT k hkK _ _ _ hp
      have hh : (s.add δ).h = s.h := by simp only [FS.add, hxn]
      have hg : (s.add δ).g = s.g := rfl
      have hne : ∀ t, t ≠ δ.d → (s.add δ).e t = s.e t := fun t ht => upd_ne _ _ _ _ ht
      have hsame : (s.add δ).e δ.d = δ.v := upd_same _ _ _
      let s1a : FS := ⟨fun t => if t ∈ T j then φ j (s.e t) else s1'.e t, s1'.h, s1'.g⟩
      have hfx : ∀ t ∈ T j, φ j (s.e t) = s.e t := fun t ht => by
        by_cases htd : t = δ.d
        · rw [htd]; exact hfix
        · have := (hF2 t ht).1; rwa [hne t htd] at this
      have hA : StepA P nt ops oi s s1a := by
        have := hF1 s.e (fun t ht => (hne t fun h => ht (h ▸ hdT)).symm)
        rw [hh, hg] at this; exact this
      have hadd : s1a.add δ = s1' := by
        have e1 : (s1a.add δ).e = s1'.e := by
          funext t
          by_cases htd : t = δ.d
          · subst htd
            rw [(hF2 _ hdT).2, hsame]; exact upd_same _ _ _
          · refine (upd_ne _ _ _ _ htd).trans ?_
            show (if t ∈ T j then φ j (s.e t) else s1'.e t) = _
            split
            · rename_i htT
              rw [hfx t htT, (hF2 t htT).2, hne t htd]
            · rfl
        have e2 : (s1a.add δ).h = s1'.h := by simp only [FS.add, hxn]; rfl
        have e3 : (s1a.add δ).g = s1'.g := rfl
        cases hx1 : s1a.add δ
        rw [hx1] at e1 e2 e3
        cases s1'
        simp only at e1 e2 e3
        subst e1 e2 e3; rfl
      have hL2 : ∀ t ∈ L, s1a.e t = s.e t ∨ s1a.e t = φ j (s.e t) := fun t ht => by
        have htd : t ≠ δ.d := fun h => hdL (h ▸ ht)
        show (if t ∈ T j then φ j (s.e t) else s1'.e t) = s.e t ∨ (if t ∈ T j then φ j (s.e t) else s1'.e t) = φ j (s.e t)
        by_cases htT : t ∈ T j
        · rw [if_pos htT]; exact .inr rfl
        · rw [if_neg htT]
          have := (hL t ht).resolve_left htT
          rwa [hne t htd] at this
      have hR2 : ∀ i ∈ R, s1a.h i = s.h i := fun i hi => (hR i hi).trans (by rw [hh])
      have hcert : Cert P nt ops o L R δ s1a := fun s' he hr' => hcf s' (fun t ht => by rw [he t ht]; exact hL2 t ht) (fun i hi => (hr' i hi).trans (hR2 i hi))
      refine ⟨oi, s1a, h1, hA, .add ho hp (fun j' hj' => ⟨hxn, ?_, ?_⟩) hcert (hadd ▸ h3), ⟨fun e' he' => ?_, fun t ht => ⟨hfx t ht, ?_⟩⟩, fun k' hk' d' L' R' hp' => ?_⟩
      · show φ j' (if δ.d ∈ T j then φ j (s.e δ.d) else s1'.e δ.d) = (if δ.d ∈ T j then φ j (s.e δ.d) else s1'.e δ.d)
        rw [if_pos hdT, hfix]; exact (hx j' hj').2.1
      · obtain rfl := hu k j j' hkK hj'
        refine fun s' he hr' => hcf s' (fun t ht => ?_) (fun i hi => (hr' i hi).trans (hR2 i hi))
        rcases he t ht with e1 | e1 <;> rcases hL2 t ht with e2 | e2 <;> rw [e1, e2]
        · exact .inl rfl
        · exact .inr rfl
        · exact .inr rfl
        · exact .inr (hidm _ _)
      · have h5 := hF1 e' (fun t ht => (he' t ht).trans (hne t fun h => ht (h ▸ hdT)).symm)
        rw [hh, hg] at h5
        have : (fun t => if t ∈ T j then φ j (e' t) else s1'.e t) = fun t => if t ∈ T j then φ j (e' t) else s1a.e t := by
          funext t
          by_cases htT : t ∈ T j
          · rw [if_pos htT, if_pos htT]
          · rw [if_neg htT, if_neg htT]
            show s1'.e t = if t ∈ T j then φ j (s.e t) else s1'.e t
            rw [if_neg htT]
        rw [this] at h5
        exact h5
      · show (if t ∈ T j then φ j (s.e t) else s1'.e t) = _
        rw [if_pos ht, hfx t ht]
      · obtain ⟨g1, g2, g3, g4⟩ := hT k' hk' d' L' R' hp'
        refine ⟨g1, g2, fun t ht => ?_, fun i hi => (g4 i hi).trans (by rw [hh])⟩
        by_cases htT : t ∈ T j
        · exact .inl htT
        · refine .inr ?_
          show (if t ∈ T j then φ j (s.e t) else s1'.e t) = _ ∨ (if t ∈ T j then φ j (s.e t) else s1'.e t) = _
          rw [if_neg htT]
          have := (g3 t ht).resolve_left htT
          rwa [hne t fun h => htT (h ▸ hdT)] at this
theorem ChainF.first (hu : ∀ i j j', i ∈ K j → i ∈ K j' → j = j') (hidm : ∀ j v, φ j (φ j v) = φ j v) {plan : Nat → Option Foot} {i : Nat} {pre post : List Nat} {s s2 : FS} (hk : ∀ k ∈ pre, pairK K plan k i = true) (h : ChainF P nt ops plan K T φ (pre ++ i :: post) s s2) :
    ∃ o s1, ops[i]? = some o ∧ StepA P nt ops o s s1 ∧ ChainF P nt ops plan K T φ (pre ++ post) s1 s2 := by
  by_cases hall : ∀ k ∈ pre, pairOk (plan k) (plan i) = true
  · obtain ⟨o, s1, h1, h2, h3, -⟩ := ChainF.firstA hall h
    exact ⟨o, s1, h1, h2, h3⟩
  · have hex : ∃ k, k ∈ pre ∧ ¬ pairOk (plan k) (plan i) = true := Classical.byContradiction fun hno => hall fun k hk => Classical.byContradiction fun hn => hno ⟨k, hk, hn⟩
    obtain ⟨k, hkm, hkn⟩ := hex
    have h1 := hk k hkm
    simp only [pairK, Bool.or_eq_true, Bool.and_eq_true, beq_iff_eq] at h1
    have h1 := h1.resolve_left hkn
    obtain ⟨⟨hkK, hno⟩, _⟩ := h1
    have hne : K i ≠ [] := fun h => by rw [h] at hkK; simp at hkK
    have hpn : plan i = none := by
      cases hp : plan i with
      | none => rfl
      | some f => rw [hp] at hno; cases hno
    obtain ⟨o, s1, g1, g2, g3, -⟩ := ChainF.firstH hu hidm hpn hne (pre := pre) (post := post) (fun k' hk' => by
      have h2 := hk k' hk'
      have h3 : pairOk (plan k') (plan i) = false := by
        rw [hpn]
        cases plan k' with
        | none => rfl
        | some f => obtain ⟨_, _, _⟩ := f; rfl
      simp only [pairK, h3, Bool.false_or, Bool.and_eq_true] at h2
      exact ⟨by simpa using h2.1.1, h2.2⟩) h
    exact ⟨o, s1, g1, g2, g3⟩
theorem chainF_any (hu : ∀ i j j', i ∈ K j → i ∈ K j' → j = j') (hidm : ∀ j v, φ j (φ j v) = φ j v) {md : Region.Mode} {plan : Nat → Option Foot} {tb : List (List Nat)} {Q : Exit → Act → World → Prop} {s2 : FS} (ht : tableOk md ops tb = true) (hp : planOkK K plan tb ops.size = true) (hQ : ∀ (M1 : Heap) (a1 : Act) (w1 : World), Rel S0 w0 nt s2 M1 a1 w1 → Q .normal a1 w1) :
    ∀ (fuel : Nat) (l : List Nat) (listed : Array Bool) {s : FS} {M : Heap} {a : Act} {w : World}, l.length ≤ fuel → l.Pairwise (· < ·) → (∀ j ∈ l, j < ops.size) → listed.size = ops.size → (∀ j, j < ops.size → (listed.getD j true = false ↔ j ∈ l)) →
      (∀ j o, ops[j]? = some o → j ∉ l → ∀ e ∈ o.after, Region.binds md e = true → e.on ∉ l) → ChainF P nt ops plan K T φ l s s2 → Rel S0 w0 nt s M a w → wpAny P md ops Q fuel listed a w := by
  intro fuel
  have hready : ∀ (l : List Nat) (listed : Array Bool), listed.size = ops.size → (∀ j ∈ l, j < ops.size) → (∀ j, j < ops.size → (listed.getD j true = false ↔ j ∈ l)) → ∀ i, i ∈ Region.ready md ops listed ↔ i ∈ l ∧ ∃ o, ops[i]? = some o ∧ ∀ e ∈ o.after, Region.binds md e = true → e.on ∉ l := by
    intro l listed hsz hl hli i
    rw [mem_ready]
    constructor
    · rintro ⟨h0, o, ho, he⟩
      have hi : i < ops.size := (Array.getElem?_eq_some_iff.1 ho).1
      refine ⟨(hli i hi).1 h0, o, ho, fun e hem hb hin => ?_⟩
      have h1 := he e hem hb
      have h2 := (hli e.on (hl _ hin)).2 hin
      have hlt : e.on < listed.size := by rw [hsz]; exact hl _ hin
      rw [Array.getD_eq_getD_getElem?, Array.getElem?_eq_getElem hlt] at h1 h2
      rw [Option.getD_some] at h1 h2
      rw [h1] at h2; cases h2
    · rintro ⟨hi, o, ho, he⟩
      refine ⟨(hli i (hl i hi)).2 hi, o, ho, fun e hem hb => ?_⟩
      have hlt := (table_spec ht ho).2 e hem hb
      have hlt2 : e.on < ops.size := by have := (Array.getElem?_eq_some_iff.1 ho).1; omega
      have h2 : ¬ listed.getD e.on true = false := fun h => he e hem hb ((hli e.on hlt2).1 h)
      have hlt3 : e.on < listed.size := by omega
      rw [Array.getD_eq_getD_getElem?, Array.getElem?_eq_getElem hlt3, Option.getD_some] at h2 ⊢
      simpa using h2
  have hnil : ∀ (l : List Nat) (listed : Array Bool), listed.size = ops.size → l.Pairwise (· < ·) → (∀ j ∈ l, j < ops.size) → (∀ j, j < ops.size → (listed.getD j true = false ↔ j ∈ l)) → Region.ready md ops listed = [] → l = [] := by
    intro l listed hsz hs hl hli hr
    cases l with
    | nil => rfl
    | cons i l =>
      have hi : i < ops.size := hl i List.mem_cons_self
      have : i ∈ Region.ready md ops listed := (hready _ listed hsz hl hli i).2 ⟨List.mem_cons_self, ops[i], Array.getElem?_eq_getElem hi, fun e he hb hin => by
        have h1 := (table_spec ht (Array.getElem?_eq_getElem hi)).2 e he hb
        rw [List.pairwise_cons] at hs
        rcases List.mem_cons.1 hin with h | h
        · omega
        · have := hs.1 _ h; omega⟩
      rw [hr] at this; cases this
  induction fuel with
  | zero =>
    intro l listed s M a w hlen hs hl hsz hli hcl hch hR
    have : l = [] := List.length_eq_zero_iff.1 (by omega)
    subst this
    cases hch with
    | nil =>
      refine ⟨?_, hQ M a w hR⟩
      cases hr : Region.ready md ops listed with
      | nil => rfl
      | cons i r =>
        have := (hready [] listed hsz hl hli i).1 (by rw [hr]; exact List.mem_cons_self)
        simp at this
  | succ fuel ih =>
    intro l listed s M a w hlen hs hl hsz hli hcl hch hR
    refine ⟨fun hr => ?_, fun i hi => ?_⟩
    · have := hnil l listed hsz hs hl hli hr
      subst this
      cases hch with
      | nil => exact hQ M a w hR
    · obtain ⟨hil, o, ho, he⟩ := (hready l listed hsz hl hli i).1 hi
      obtain ⟨pre, post, rfl⟩ := List.append_of_mem hil
      rw [List.pairwise_append, List.pairwise_cons] at hs
      obtain ⟨hs1, ⟨hs2, hs3⟩, hs4⟩ := hs
      have hipre : i ∉ pre := fun h => absurd (hs4 i h i List.mem_cons_self) (Nat.lt_irrefl _)
      have hipost : i ∉ post := fun h => absurd (hs2 i h) (Nat.lt_irrefl _)
      have hilt : i < ops.size := hl i hil
      have hpair : ∀ k ∈ pre, pairK K plan k i = true := fun k hk => by
        rcases planOkK_spec hp i hilt k (hs4 k hk i List.mem_cons_self) with h | h
        · exfalso
          obtain ⟨e, hem, hb, hlt, hor⟩ := (table_spec ht ho).1 k h
          have h1 := he e hem hb
          have hkl : k ∈ pre ++ i :: post := List.mem_append_left _ hk
          rcases hor with rfl | hk'
          · exact h1 hkl
          · exact before_listed ht (D := fun j => j ∉ pre ++ i :: post) (fun j o hj hd e he hb => hcl j o hj hd e he hb) e.on (by omega) h1 k hk' hkl
        · exact h
      obtain ⟨o', s1, h1, h2, h3⟩ := ChainF.first hu hidm hpair hch
      refine h2.wpOp h1 hR fun M1 a1 w1 hR1 => ih (pre ++ post) (listed.setIfInBounds i true) ?_ ?_ (fun j hj => hl j ?_) (by simpa using hsz) (fun j hj => ?_) (fun j oj hoj hj e hem hb => ?_) h3 hR1
      · simp only [List.length_append, List.length_cons] at hlen ⊢; omega
      · rw [List.pairwise_append]
        exact ⟨hs1, hs3, fun x hx y hy => hs4 x hx y (List.mem_cons_of_mem _ hy)⟩
      · rcases List.mem_append.1 hj with h | h
        · exact List.mem_append_left _ h
        · exact List.mem_append_right _ (List.mem_cons_of_mem _ h)
      · by_cases hji : j = i
        · subst hji
          have : (listed.setIfInBounds j true).getD j true = true := by
            rw [Array.getD_eq_getD_getElem?, Array.getElem?_setIfInBounds_self_of_lt (by omega)]; rfl
          rw [this]
          simp [hipre, hipost]
        · rw [getD_set_ne true (Ne.symm hji), hli j hj]
          simp [hji]
      · have hsub : ∀ x, x ∈ pre ++ post → x ∈ pre ++ i :: post := fun x hx => by
          rcases List.mem_append.1 hx with h | h
          · exact List.mem_append_left _ h
          · exact List.mem_append_right _ (List.mem_cons_of_mem _ h)
        by_cases hji : j = i
        · subst hji
          rw [ho] at hoj
          obtain rfl := Option.some.inj hoj
          exact fun h => he e hem hb (hsub _ h)
        · have hj' : j ∉ pre ++ i :: post := fun h => by
            rcases List.mem_append.1 h with h | h
            · exact hj (List.mem_append_left _ h)
            · rcases List.mem_cons.1 h with h | h
              · exact hji h
              · exact hj (List.mem_append_right _ h)
          exact fun h => hcl j oj hoj hj' e hem hb (hsub _ h)
theorem DW.drawF (hu : ∀ i j j', i ∈ K j → i ∈ K j' → j = j') (hidm : ∀ j v, φ j (φ j v) = φ j v) {id : Nat} {Q : Exit → FS → Prop} {plan : Nat → Option Foot} {s2 : FS} (tb : List (List Nat)) (hm : P.follows .mixedOrders = true) (ht : tableOk .any ops tb = true) (hp : planOkK K plan tb ops.size = true) (hc : ChainF P nt ops plan K T φ (List.range ops.size) s s2) (h : Q .normal s2) :
    DW P nt (.region id ops true) s Q := fun S0 w0 M a w hR => by
  refine wp_region_any hm ?_
  refine chainF_any hu hidm ht hp (fun M1 a1 w1 h1 => ⟨s2, M1, h, h1⟩) ops.size (List.range ops.size) _ (by simp) List.pairwise_lt_range (fun j hj => List.mem_range.1 hj) (by simp) (fun j hj => ?_) (fun j o ho hj => ?_) hc hR.drawn
  · simp [hj]
  · exact absurd (List.mem_range.2 (Array.getElem?_eq_some_iff.1 ho).1) hj
/-- A region, step by step; what each step looks at and writes is kept. -/
def RegG (P : Program) (nt : Nat) (ops : Array Oper) (K T : Nat → List Nat) (φ : Nat → DV → DV) : List Oper → List (Option Foot) → FS → (List (Option Foot) → FS → Prop) → Prop
  | [], acc, s, N => N acc s
  | o :: l, acc, s, N => (∃ L R δ, Cert P nt ops o L R δ s ∧ (∀ j, acc.length ∈ K j → δ.x = none ∧ φ j (s.e δ.d) = s.e δ.d ∧ CertF P nt ops o L R δ (φ j) s) ∧ RegG P nt ops K T φ l (acc ++ [some (δ.d, L, R)]) (s.add δ) N) ∨
      (∃ s1, StepA P nt ops o s s1 ∧ (K acc.length ≠ [] → FreeK P nt ops o (T acc.length) (φ acc.length) s s1 ∧ (∀ k ∈ K acc.length, k < acc.length) ∧ FootF (φ acc.length) (fun i => acc.getD i none) (K acc.length) (T acc.length) s s1) ∧ RegG P nt ops K T φ l (acc ++ [none]) s1 N)
theorem RegG.cert {N : List (Option Foot) → FS → Prop} {o : Oper} {l : List Oper} {acc : List (Option Foot)} {L R : List Nat} {δ : Add} (hc : Cert P nt ops o L R δ s) (hk : ∀ j, acc.length ∉ K j) (hr : RegG P nt ops K T φ l (acc ++ [some (δ.d, L, R)]) (s.add δ) N) : RegG P nt ops K T φ (o :: l) acc s N := .inl ⟨L, R, δ, hc, fun j h => absurd h (hk j), hr⟩
theorem addF_x {o : Oper} {δ : Add} (ha : addF P nt ops o s = some δ) : δ.x = none := by
  simp only [addF] at ha
  split at ha
  · split at ha
    · obtain rfl := Option.some.inj ha; rfl
    · cases ha
  · split at ha
    · split at ha
      · obtain rfl := Option.some.inj ha; rfl
      · cases ha
    · cases ha
  · cases ha
theorem RegG.add {N : List (Option Foot) → FS → Prop} {o : Oper} {l : List Oper} {acc : List (Option Foot)} {δ : Add} (ha : addF P nt ops o s = some δ) (hk : ∀ j, acc.length ∈ K j → φ j (s.e δ.d) = s.e δ.d ∧ ∀ t ∈ o.looksAt ops, φ j (s.e t) = s.e t) (hr : RegG P nt ops K T φ l (acc ++ [some (δ.d, o.looksAt ops, refsO s o)]) (s.add δ) N) : RegG P nt ops K T φ (o :: l) acc s N :=
  .inl ⟨_, _, δ, cert_of_addF ha, fun j hj => ⟨addF_x ha, (hk j hj).1, fun s' he hr' => cert_of_addF ha s' (fun t ht => (he t ht).elim id fun e => e.trans ((hk j hj).2 t ht)) hr'⟩, hr⟩
/-- A part of a tuple that the heavy step leaves. -/
theorem RegG.extract {N : List (Option Foot) → FS → Prop} {o : Oper} {l : List Oper} {acc : List (Option Foot)} {d t i : Nat} {xs : List V1} {c : V1} (ho : o.op = .extract (.tmp t) i) (hg : o.guard = none) (hd : o.dst = some d) (hdn : d < nt) (hL : t ∈ o.looksAt ops) (hx : s.e t = .tup xs) (hc : xs[i]? = some c)
    (hk : ∀ j, acc.length ∈ K j → φ j (s.e d) = s.e d ∧ ∃ ys, φ j (s.e t) = .tup ys ∧ ys[i]? = some c) (hr : RegG P nt ops K T φ l (acc ++ [some (d, o.looksAt ops, [])]) (s.add ⟨d, .v c, none⟩) N) : RegG P nt ops K T φ (o :: l) acc s N := by
  have key : ∀ s' : FS, (∃ ys, s'.e t = .tup ys ∧ ys[i]? = some c) → StepA P nt ops o s' (s'.add ⟨d, .v c, none⟩) := fun s' ⟨ys, h1, h2⟩ => .inl ⟨by simp [wantedD, hg], OpStep.of (by
    simp [-ev, stepF, quietF, quietV, ho, hd, hdn, FS.add, FS.set, ev, h1, h2])⟩
  refine .inl ⟨_, [], ⟨d, .v c, none⟩, fun s' he _ => key s' ⟨xs, (he t hL).trans hx, hc⟩, fun j hj => ⟨rfl, (hk j hj).1, fun s' he _ => ?_⟩, hr⟩
  rcases he t hL with e | e
  · exact key s' ⟨xs, e.trans hx, hc⟩
  · obtain ⟨ys, h1, h2⟩ := (hk j hj).2
    exact key s' ⟨ys, e.trans h1, h2⟩
theorem RegG.heavyF {N : List (Option Foot) → FS → Prop} {o : Oper} {l : List Oper} {acc : List (Option Foot)} (hw : wantedD ops o s.e = some true) (hc : stepF P nt o s = some s1) (hj : K acc.length = []) (hr : RegG P nt ops K T φ l (acc ++ [none]) s1 N) : RegG P nt ops K T φ (o :: l) acc s N := .inr ⟨s1, .inl ⟨hw, OpStep.of hc⟩, fun h => absurd hj h, hr⟩
/-- The heavy step that may come ahead of the steps of K. -/
theorem RegG.swap {N : List (Option Foot) → FS → Prop} {o : Oper} {l : List Oper} {acc : List (Option Foot)} {d : Nat} {v : DV} {h1 : Nat → Option D} {g1 : Nat → DC} (Lr : List Nat) (hw : o.guard = none) (hc : ∀ e' : Nat → DV, (∀ t ∈ Lr, e' t = s.e t) → stepF P nt o ⟨e', s.h, s.g⟩ = some ⟨upd (fun i => φ acc.length (e' i)) d v, h1, g1⟩)
    (hT : ∀ t ∈ T acc.length, t ∉ Lr ∧ t ≠ d) (hφ : ∀ t ∈ T acc.length, φ acc.length (s.e t) = s.e t) (hK : ∀ k ∈ K acc.length, k < acc.length) (hf : FootF (φ acc.length) (fun i => acc.getD i none) (K acc.length) (T acc.length) s ⟨upd (fun i => φ acc.length (s.e i)) d v, h1, g1⟩)
    (hr : RegG P nt ops K T φ l (acc ++ [none]) ⟨upd (fun i => φ acc.length (s.e i)) d v, h1, g1⟩ N) : RegG P nt ops K T φ (o :: l) acc s N := by
  have hwant : ∀ s' : FS, wantedD ops o s'.e = some true := fun s' => by simp [wantedD, hw]
  refine .inr ⟨_, .inl ⟨hwant _, OpStep.of (hc s.e fun _ _ => rfl)⟩, fun _ => ⟨⟨fun e' he' => .inl ⟨hwant _, OpStep.of ?_⟩, fun t ht => ⟨hφ t ht, ?_⟩⟩, hK, hf⟩, hr⟩
  · rw [hc e' fun t ht => he' t fun h => (hT t h).1 ht]
    congr 2
    funext t
    by_cases htT : t ∈ T acc.length
    · rw [if_pos htT, upd_ne _ _ _ _ (hT t htT).2]
    · rw [if_neg htT]
      show upd (fun i => φ acc.length (e' i)) d v t = upd (fun i => φ acc.length (s.e i)) d v t
      by_cases htd : t = d
      · subst htd; rw [upd_same, upd_same]
      · rw [upd_ne _ _ _ _ htd, upd_ne _ _ _ _ htd, he' t htT]
  · show upd (fun i => φ acc.length (s.e i)) d v t = s.e t
    rw [upd_ne _ _ _ _ (hT t ht).2]
    exact hφ t ht
/-- The same for a heavy step without a result. -/
theorem RegG.swapS {N : List (Option Foot) → FS → Prop} {o : Oper} {l : List Oper} {acc : List (Option Foot)} {h1 : Nat → Option D} {g1 : Nat → DC} (Lr : List Nat) (hw : o.guard = none) (hc : ∀ e' : Nat → DV, (∀ t ∈ Lr, e' t = s.e t) → stepF P nt o ⟨e', s.h, s.g⟩ = some ⟨fun i => φ acc.length (e' i), h1, g1⟩)
    (hT : ∀ t ∈ T acc.length, t ∉ Lr) (hφ : ∀ t ∈ T acc.length, φ acc.length (s.e t) = s.e t) (hK : ∀ k ∈ K acc.length, k < acc.length) (hf : FootF (φ acc.length) (fun i => acc.getD i none) (K acc.length) (T acc.length) s ⟨fun i => φ acc.length (s.e i), h1, g1⟩)
    (hr : RegG P nt ops K T φ l (acc ++ [none]) ⟨fun i => φ acc.length (s.e i), h1, g1⟩ N) : RegG P nt ops K T φ (o :: l) acc s N := by
  have hwant : ∀ s' : FS, wantedD ops o s'.e = some true := fun s' => by simp [wantedD, hw]
  refine .inr ⟨_, .inl ⟨hwant _, OpStep.of (hc s.e fun _ _ => rfl)⟩, fun _ => ⟨⟨fun e' he' => .inl ⟨hwant _, OpStep.of ?_⟩, fun t ht => ⟨hφ t ht, hφ t ht⟩⟩, hK, hf⟩, hr⟩
  rw [hc e' fun t ht => he' t fun h => hT t h ht]
  congr 2
  funext t
  by_cases htT : t ∈ T acc.length
  · rw [if_pos htT]
  · rw [if_neg htT, he' t htT]
theorem regG_chain {N : List (Option Foot) → FS → Prop} : ∀ {l : List Oper} {acc : List (Option Foot)} {s : FS} (k : Nat), k = acc.length → (∀ (i : Nat) (o : Oper), l[i]? = some o → ops[k + i]? = some o) → RegG P nt ops K T φ l acc s N →
    ∃ pl s2, N (acc ++ pl) s2 ∧ pl.length = l.length ∧ ∀ plan : Nat → Option Foot, (∀ i, i < (acc ++ pl).length → plan i = (acc ++ pl).getD i none) → ChainF P nt ops plan K T φ (List.range' k l.length) s s2
  | [], acc, s, k, hk, ho, h => ⟨[], s, by simpa [RegG] using h, rfl, fun plan _ => .nil s⟩
  | o :: l, acc, s, k, hk, ho, h => by
    have hok : ops[k]? = some o := by simpa using ho 0 o rfl
    have ho' : ∀ (i : Nat) (o' : Oper), l[i]? = some o' → ops[k + 1 + i]? = some o' := fun i o' hi => by
      have := ho (i + 1) o' (by simpa using hi)
      rw [← this]; congr 1; omega
    rcases h with ⟨L, R, δ, hc, hx, hr⟩ | ⟨s1, hc, hx, hr⟩
    · obtain ⟨pl, s2, h1, h2, h3⟩ := regG_chain (k + 1) (by simp [hk]) ho' hr
      refine ⟨some (δ.d, L, R) :: pl, s2, by simpa using h1, by simp [h2], fun plan hp => ?_⟩
      rw [List.length_cons, List.range'_succ]
      refine .add hok (by have := hp k (by simp [hk]); rw [this, hk]; simp [List.getD_eq_getElem?_getD]) (fun j e => hx j (by rw [← hk]; exact e)) hc (h3 plan fun i hi => ?_)
      have := hp i (by simpa using hi)
      simpa using this
    · obtain ⟨pl, s2, h1, h2, h3⟩ := regG_chain (k + 1) (by simp [hk]) ho' hr
      refine ⟨none :: pl, s2, by simpa using h1, by simp [h2], fun plan hp => ?_⟩
      rw [List.length_cons, List.range'_succ]
      refine .heavy hok (by have := hp k (by simp [hk]); rw [this, hk]; simp [List.getD_eq_getElem?_getD]) hc (fun e => ?_) (h3 plan fun i hi => ?_)
      · subst hk
        obtain ⟨g1, g2, g3⟩ := hx e
        refine ⟨g1, fun k' hk' d L R hpl => g3 k' hk' d L R ?_⟩
        have hlt := g2 k' hk'
        have := hp k' (by simp; omega)
        rw [hpl] at this
        show acc.getD k' none = _
        rw [this, List.getD_eq_getElem?_getD, List.getD_eq_getElem?_getD, List.getElem?_append_left hlt]
      · have := hp i (by simpa using hi)
        simpa using this
/-- A region whose order is not told. -/
theorem DW.drawnG (K T : Nat → List Nat) (φ : Nat → DV → DV) {id : Nat} {l : List Oper} {Q : Exit → FS → Prop} (hu : ∀ i j j', i ∈ K j → i ∈ K j' → j = j') (hidm : ∀ j v, φ j (φ j v) = φ j v) (hm : P.follows .mixedOrders = true) (ht : tableOk .any l.toArray (tableOf l) = true) (h : RegG P nt l.toArray K T φ l [] s fun pl s2 => planOkK K (fun i => pl.getD i none) (tableOf l) l.length = true ∧ Q .normal s2) : DW P nt (.region id l.toArray true) s Q := by
  obtain ⟨pl, s2, ⟨h1, h2⟩, h3, h4⟩ := regG_chain (ops := l.toArray) 0 rfl (fun i o hi => by simpa using hi) h
  simp only [List.nil_append] at h1
  refine DW.drawF (K := K) (T := T) (φ := φ) hu hidm (tableOf l) hm ht (plan := fun i => pl.getD i none) (by simpa using h1) ?_ h2
  have := h4 (fun i => pl.getD i none) (fun i hi => by simp)
  rw [List.range_eq_range']
  simpa using this
end
end
theorem pzC_or (a : Nat) (p : List Nat) (c : DC) : pzC a p c = c ∨ pzC a p c = .un := by
  cases c with
  | sl i r off n => show (if isAt a p i r then DC.un else .sl i r off n) = _ ∨ (if isAt a p i r then DC.un else .sl i r off n) = _; split <;> simp only [true_or, or_true]
  | pt i r off => show (if isAt a p i r then DC.un else .pt i r off) = _ ∨ (if isAt a p i r then DC.un else .pt i r off) = _; split <;> simp only [true_or, or_true]
  | fn f ids => show (if ids.contains a then DC.un else .fn f ids) = _ ∨ (if ids.contains a then DC.un else .fn f ids) = _; split <;> simp only [true_or, or_true]
  | _ => exact .inl rfl
theorem pzC_idem (a : Nat) (p : List Nat) (b : Nat) (q : List Nat) (c : DC) : pzC a p (pzC b q (pzC a p (pzC b q c))) = pzC a p (pzC b q c) := by
  have hu : ∀ i r, pzC i r .un = .un := fun _ _ => rfl
  rcases pzC_or b q c with h | h
  · rcases pzC_or a p c with h2 | h2
    · rw [h, h2, h, h2]
    · rw [h, h2, hu, hu]
  · rw [h, hu, hu, hu]
theorem pzV_idem (a : Nat) (p : List Nat) (b : Nat) (q : List Nat) (v : DV) : pzV a p (pzV b q (pzV a p (pzV b q v))) = pzV a p (pzV b q v) := by
  have h1 : ∀ x : V1, pz1 a p (pz1 b q (pz1 a p (pz1 b q x))) = pz1 a p (pz1 b q x) := fun x => by
    cases x with
    | one c => show V1.one _ = V1.one _; rw [pzC_idem]
    | agg cs =>
      show V1.agg ((((cs.map _).map _).map _).map _) = V1.agg ((cs.map _).map _)
      rw [List.map_map, List.map_map, List.map_map, List.map_map]
      congr 1
      exact List.map_congr_left fun c _ => pzC_idem a p b q c
  cases v with
  | un => rfl
  | v x => show DV.v _ = DV.v _; rw [h1]
  | tup xs =>
    show DV.tup ((((xs.map _).map _).map _).map _) = DV.tup ((xs.map _).map _)
    rw [List.map_map, List.map_map, List.map_map, List.map_map]
    congr 1
    exact List.map_congr_left fun x _ => h1 x
end Go.Proofs.Ytciieaidbiejmaa.DM
