import Derived.Test.YtciieaidbiejmaaDC
import Derived.Laws.StructEq
/-
  DM 43. make([]T, n) az an adding step in a drawn region.
-/
namespace Go.Proofs.Ytciieaidbiejmaa.DM
set_option linter.unusedVariables false
set_option linter.unusedSimpArgs false
section
variable {P : Program} {nt : Nat} {ops : Array Oper} {s : FS} {o : Oper}
theorem Cert.makeSlice {t e : TypeId} {l c : Operand} {d n sz : Nat} {z : List Value} {zs : List D} (ho : o.op = .makeSlice t l c) (hg : o.guard = none) (hd : o.dst = some d) (hdn : d < nt) (he : elemT P t = some (e, sz)) (hz : zeroT P e = some z) (hzs : mapO zcD z = some zs) (hl : zs.length = sz) (h0 : 0 < sz)
    (hel : ev s.e l = .v (.one (.t (.sc (.int .i64 (n : Int)))))) (hec : ev s.e c = .v (.one (.t (.sc (.int .i64 (n : Int)))))) (hb : P.bytesOf e * n ≤ 2 ^ 48) (hn : n ≤ 2 ^ 48) (hh : s.h d = none) :
    Cert P nt ops o (o.looksAt ops) (d :: refsO s o) ⟨d, .v (.one (.sl d [] 0 n)), some (.ow () sz n ((List.replicate n zs).flatten))⟩ s := fun s' hloc hhs => by
  have hh' : s'.h d = none := (hhs d List.mem_cons_self).trans hh
  have hel' : ev s'.e l = .v (.one (.t (.sc (.int .i64 (n : Int))))) := by rw [← hel]; exact ev_local hloc l (by rw [ho]; simp [Op.operands])
  have hec' : ev s'.e c = .v (.one (.t (.sc (.int .i64 (n : Int))))) := by rw [← hec]; exact ev_local hloc c (by rw [ho]; simp [Op.operands])
  refine .inl ⟨by simp [wantedD, hg], OpStep.of ?_⟩
  unfold stepF
  rw [ho]
  simp only [he, hel', hec', asInt, hz, hd, hzs]
  rw [if_pos ⟨hl, h0, trivial, by omega, by exact_mod_cast hb, by exact_mod_cast hn, hdn⟩]
  simp [FS.row, hh', FS.add]
end
end Go.Proofs.Ytciieaidbiejmaa.DM

/-
  DM 44. A temporary may be forgotten in part: cells that are known no more.
-/
namespace Go.Proofs.Ytciieaidbiejmaa.DM
set_option linter.unusedVariables false
theorem RelC.weak {S0 : Fr} {w0 : World} {M : Heap} {v : Value} : RelC S0 w0 M .un v := .un v
theorem Ghost.weak {nt : Nat} {s : FS} (t : Nat) {cs cs' : List DC} (ht : s.e t = .v (.agg cs)) (hl : cs'.length = cs.length) (hc : ∀ i : Nat, i < cs.length → cs'[i]? = cs[i]? ∨ cs'[i]? = some .un) : Ghost nt s ⟨upd s.e t (.v (.agg cs')), s.h, s.g⟩ := fun S0 w0 M a w hR => ⟨M, hR.inv, hR.er, fun i => by
  by_cases hi : i = t
  · subst hi
    have h0 := hR.en i
    rw [ht] at h0
    obtain ⟨vs, h1, h2, h3, h4⟩ := h0
    show RelV S0 w0 M (upd s.e i (.v (.agg cs')) i) _
    rw [upd_same]
    refine ⟨vs, h1, by rw [h2, hl], fun j c u hj hu => ?_, h4⟩
    have hjl : j < cs.length := by rw [← hl]; exact (List.getElem?_eq_some_iff.1 hj).1
    rcases hc j hjl with h | h
    · rw [h] at hj; exact h3 j c u hj hu
    · rw [h] at hj
      obtain rfl := Option.some.inj hj
      exact .un u
  · show RelV S0 w0 M (upd s.e t (.v (.agg cs')) i) _
    rw [upd_ne _ _ _ _ hi]
    exact hR.en i, hR.nt, hR.df, hR.gh⟩
theorem Ghost.weak1 {nt : Nat} {s : FS} {cs : List DC} (t k : Nat) (ht : s.e t = .v (.agg cs)) : Ghost nt s ⟨upd s.e t (.v (.agg (cs.set k .un))), s.h, s.g⟩ := Ghost.weak t ht (by simp) fun i hi => by
  by_cases h : i = k
  · subst h; right; simp [hi]
  · left; rw [List.getElem?_set_ne (Ne.symm h)]
end Go.Proofs.Ytciieaidbiejmaa.DM

/-
  DM 45. Regions whose order is not told, where ONE heavy step (at j0) and SOME earlier steps that add (those of K, which lay temporaries of T alone) may come in any order.
-/
namespace Go.Proofs.Ytciieaidbiejmaa.DM
set_option linter.unusedVariables false
set_option linter.unusedSimpArgs false
section
variable {S0 : Fr} {w0 w w' : World} {M M' M1 : Heap} {X : List A} {P : Program} {nt : Nat} {s s1 : FS} {a : Act} {ops : Array Oper}
/-- The heavy step looks at no temporary of T; what they hold becomes φ of it. -/
def FreeK (P : Program) (nt : Nat) (ops : Array Oper) (o : Oper) (T : List Nat) (φ : DV → DV) (s s1 : FS) : Prop :=
  (∀ e' : Nat → DV, (∀ t, t ∉ T → e' t = s.e t) → StepA P nt ops o ⟨e', s.h, s.g⟩ ⟨fun t => if t ∈ T then φ (e' t) else s1.e t, s1.h, s1.g⟩) ∧ (∀ t ∈ T, φ (s.e t) = s.e t ∧ s1.e t = s.e t)
/-- What a step of K looks at is left by the heavy step. -/
def FootK (plan : Nat → Option Foot) (K T : List Nat) (s s1 : FS) : Prop := ∀ k ∈ K, ∀ d L R, plan k = some (d, L, R) → d ∈ T ∧ d ∉ L ∧ (∀ t ∈ L, t ∈ T ∨ s1.e t = s.e t) ∧ ∀ i ∈ R, s1.h i = s.h i
inductive ChainK (P : Program) (nt : Nat) (ops : Array Oper) (plan : Nat → Option Foot) (K T : Nat → List Nat) (φ : Nat → DV → DV) : List Nat → FS → FS → Prop
  | nil (s : FS) : ChainK P nt ops plan K T φ [] s s
  | add {i : Nat} {l : List Nat} {o : Oper} {L R : List Nat} {δ : Add} {s s2 : FS} : ops[i]? = some o → plan i = some (δ.d, L, R) → (∀ j, i ∈ K j → δ.x = none ∧ φ j (s.e δ.d) = s.e δ.d) → Cert P nt ops o L R δ s → ChainK P nt ops plan K T φ l (s.add δ) s2 → ChainK P nt ops plan K T φ (i :: l) s s2
  | heavy {i : Nat} {l : List Nat} {o : Oper} {s s1 s2 : FS} : ops[i]? = some o → plan i = none → StepA P nt ops o s s1 → (K i ≠ [] → FreeK P nt ops o (T i) (φ i) s s1 ∧ FootK plan (K i) (T i) s s1) → ChainK P nt ops plan K T φ l s1 s2 → ChainK P nt ops plan K T φ (i :: l) s s2
def pairK (K : Nat → List Nat) (plan : Nat → Option Foot) (k i : Nat) : Bool := pairOk (plan k) (plan i) || ((K i).contains k && (plan i).isNone && (plan k).isSome)
section
variable {K T : Nat → List Nat} {φ : Nat → DV → DV}
/-- A step that is apart from all before it may come first. -/
theorem ChainK.firstA {plan : Nat → Option Foot} {i : Nat} {post : List Nat} {s2 : FS} : ∀ {pre : List Nat} {s : FS}, (∀ k ∈ pre, pairOk (plan k) (plan i) = true) → ChainK P nt ops plan K T φ (pre ++ i :: post) s s2 →
    ∃ o s1, ops[i]? = some o ∧ StepA P nt ops o s s1 ∧ ChainK P nt ops plan K T φ (pre ++ post) s1 s2 ∧ (∀ d L R, plan i = some (d, L, R) → ∃ δ, δ.d = d ∧ Cert P nt ops o L R δ s ∧ s1 = s.add δ ∧ (∀ j, i ∈ K j → δ.x = none ∧ φ j (s.e δ.d) = s.e δ.d))
  | [], s, _, h => by
    cases h with
    | add ho hp hx hc hr =>
      rename_i o L R δ
      exact ⟨_, _, ho, hc s (fun _ _ => rfl) (fun _ _ => rfl), hr, fun d L' R' h => by
        rw [hp] at h
        simp only [Option.some.injEq, Prod.mk.injEq] at h
        obtain ⟨rfl, rfl, rfl⟩ := h
        exact ⟨δ, rfl, hc, rfl, hx⟩⟩
    | heavy ho hp hc hx hr => exact ⟨_, _, ho, hc, hr, fun d L R h => by rw [hp] at h; cases h⟩
  | k :: pre, s, hk, h => by
    have hki := hk k List.mem_cons_self
    have hpre : ∀ k' ∈ pre, pairOk (plan k') (plan i) = true := fun k' h' => hk k' (List.mem_cons_of_mem _ h')
    cases h with
    | heavy ho hp hc hx hr => rw [hp] at hki; cases hki
    | add ho hp hx hc hr =>
      rename_i o L R δ
      rw [hp] at hki
      obtain ⟨d', L', R', hpi, hap⟩ := pairOk_some hki
      obtain ⟨oi, s1, h1, h2, h3, h4⟩ := ChainK.firstA (i := i) (post := post) hpre hr
      obtain ⟨δ', rfl, g1, rfl, g3⟩ := h4 d' L' R' hpi
      have g2 := (Cert.move hap).1 g1
      have hx' : ∀ j, k ∈ K j → δ.x = none ∧ φ j ((s.add δ').e δ.d) = (s.add δ').e δ.d := fun j hkK => by
        have e1 : (s.add δ').e δ.d = s.e δ.d := upd_ne _ _ _ _ hap.1
        rw [e1]; exact hx j hkK
      refine ⟨oi, s.add δ', h1, g2 s (fun _ _ => rfl) (fun _ _ => rfl), .add ho hp hx' ((Cert.move (δ' := δ) hap.symm).2 hc) ?_, fun d2 L2 R2 e => ?_⟩
      · rw [add_comm' s δ' δ hap.1.symm]; exact h3
      · rw [hpi] at e
        simp only [Option.some.injEq, Prod.mk.injEq] at e
        obtain ⟨rfl, rfl, rfl⟩ := e
        refine ⟨δ', rfl, g2, rfl, fun j hiK => ?_⟩
        have e1 : (s.add δ).e δ'.d = s.e δ'.d := upd_ne _ _ _ _ hap.1.symm
        rw [← e1]; exact g3 j hiK
/-- The heavy step comes ahead of steps of K. -/
theorem ChainK.firstH {plan : Nat → Option Foot} {post : List Nat} {s2 : FS} {j : Nat} (hj : plan j = none) (hne : K j ≠ []) : ∀ {pre : List Nat} {s : FS}, (∀ k ∈ pre, k ∈ K j ∧ (plan k).isSome = true) → ChainK P nt ops plan K T φ (pre ++ j :: post) s s2 →
    ∃ o s1, ops[j]? = some o ∧ StepA P nt ops o s s1 ∧ ChainK P nt ops plan K T φ (pre ++ post) s1 s2 ∧ FreeK P nt ops o (T j) (φ j) s s1 ∧ FootK plan (K j) (T j) s s1
  | [], s, _, h => by
    cases h with
    | add ho hp hx hc hr => rw [hj] at hp; cases hp
    | heavy ho hp hc hx hr =>
      obtain ⟨h1, h2⟩ := hx hne
      exact ⟨_, _, ho, hc, hr, h1, h2⟩
  | k :: pre, s, hk, h => by
    obtain ⟨hkK, hks⟩ := hk k List.mem_cons_self
    cases h with
    | heavy ho hp hc hx hr => rw [hp] at hks; cases hks
    | add ho hp hx hc hr =>
      rename_i o L R δ
      obtain ⟨hxn, hfix⟩ := hx j hkK
      obtain ⟨oi, s1', h1, h2, h3, hF, hT⟩ := ChainK.firstH hj hne (post := post) (fun k' h' => hk k' (List.mem_cons_of_mem _ h')) hr
      obtain ⟨hF1, hF2⟩ := hF
      obtain ⟨hdT, hdL, hL, hR⟩ := hT k hkK _ _ _ hp
      have hh : (s.add δ).h = s.h := by simp only [FS.add, hxn]
      have hg : (s.add δ).g = s.g := rfl
      have hne : ∀ t, t ≠ δ.d → (s.add δ).e t = s.e t := fun t ht => upd_ne _ _ _ _ ht
      have hsame : (s.add δ).e δ.d = δ.v := upd_same _ _ _
      let s1a : FS := ⟨fun t => if t ∈ T j then φ j (s.e t) else s1'.e t, s1'.h, s1'.g⟩
      have hfx : ∀ t ∈ T j, φ j (s.e t) = s.e t := fun t ht => by
        by_cases htd : t = δ.d
        · rw [htd]; exact hfix
        · have := (hF2 t ht).1; rwa [hne t htd] at this
      have hA : StepA P nt ops oi s s1a := by
        have := hF1 s.e (fun t ht => (hne t fun h => ht (h ▸ hdT)).symm)
        rw [hh, hg] at this; exact this
      have hadd : s1a.add δ = s1' := by
        have e1 : (s1a.add δ).e = s1'.e := by
          funext t
          by_cases htd : t = δ.d
          · subst htd
            rw [(hF2 _ hdT).2, hsame]; exact upd_same _ _ _
          · refine (upd_ne _ _ _ _ htd).trans ?_
            show (if t ∈ T j then φ j (s.e t) else s1'.e t) = _
            split
            · rename_i htT
              rw [hfx t htT, (hF2 t htT).2, hne t htd]
            · rfl
        have e2 : (s1a.add δ).h = s1'.h := by simp only [FS.add, hxn]; rfl
        have e3 : (s1a.add δ).g = s1'.g := rfl
        cases hx1 : s1a.add δ
        rw [hx1] at e1 e2 e3
        cases s1'
        simp only at e1 e2 e3
        subst e1 e2 e3; rfl
      have hcert : Cert P nt ops o L R δ s1a := fun s' he hr' => hc s' (fun t ht => (he t ht).trans ?_) (fun i hi => (hr' i hi).trans ?_)
      · refine ⟨oi, s1a, h1, hA, .add ho hp (fun j' hj' => ⟨hxn, ?_⟩) hcert (hadd ▸ h3), ⟨fun e' he' => ?_, fun t ht => ⟨hfx t ht, ?_⟩⟩, fun k' hk' d' L' R' hp' => ?_⟩
        · show φ j' (if δ.d ∈ T j then φ j (s.e δ.d) else s1'.e δ.d) = (if δ.d ∈ T j then φ j (s.e δ.d) else s1'.e δ.d)
          rw [if_pos hdT, hfix]; exact (hx j' hj').2
        · have h5 := hF1 e' (fun t ht => (he' t ht).trans (hne t fun h => ht (h ▸ hdT)).symm)
          rw [hh, hg] at h5
          have : (fun t => if t ∈ T j then φ j (e' t) else s1'.e t) = fun t => if t ∈ T j then φ j (e' t) else s1a.e t := by
            funext t
            by_cases htT : t ∈ T j
            · rw [if_pos htT, if_pos htT]
            · rw [if_neg htT, if_neg htT]
              show s1'.e t = if t ∈ T j then φ j (s.e t) else s1'.e t
              rw [if_neg htT]
          rw [this] at h5
          exact h5
        · show (if t ∈ T j then φ j (s.e t) else s1'.e t) = _
          rw [if_pos ht, hfx t ht]
        · obtain ⟨g1, g2, g3, g4⟩ := hT k' hk' d' L' R' hp'
          refine ⟨g1, g2, fun t ht => ?_, fun i hi => (g4 i hi).trans (by rw [hh])⟩
          by_cases htT : t ∈ T j
          · exact .inl htT
          · refine .inr ?_
            show (if t ∈ T j then φ j (s.e t) else s1'.e t) = _
            rw [if_neg htT]
            have := (g3 t ht).resolve_left htT
            rw [this, hne t fun h => htT (h ▸ hdT)]
      · show (if t ∈ T j then φ j (s.e t) else s1'.e t) = s.e t
        by_cases htT : t ∈ T j
        · rw [if_pos htT, hfx t htT]
        · rw [if_neg htT, (hL t ht).resolve_left htT, hne t fun h => htT (h ▸ hdT)]
      · exact (hR i hi).trans (by rw [hh])
theorem ChainK.first {plan : Nat → Option Foot} {i : Nat} {pre post : List Nat} {s s2 : FS} (hk : ∀ k ∈ pre, pairK K plan k i = true) (h : ChainK P nt ops plan K T φ (pre ++ i :: post) s s2) :
    ∃ o s1, ops[i]? = some o ∧ StepA P nt ops o s s1 ∧ ChainK P nt ops plan K T φ (pre ++ post) s1 s2 := by
  by_cases hall : ∀ k ∈ pre, pairOk (plan k) (plan i) = true
  · obtain ⟨o, s1, h1, h2, h3, -⟩ := ChainK.firstA hall h
    exact ⟨o, s1, h1, h2, h3⟩
  · have hex : ∃ k, k ∈ pre ∧ ¬ pairOk (plan k) (plan i) = true := Classical.byContradiction fun hno => hall fun k hk => Classical.byContradiction fun hn => hno ⟨k, hk, hn⟩
    obtain ⟨k, hkm, hkn⟩ := hex
    have h1 := hk k hkm
    simp only [pairK, Bool.or_eq_true, Bool.and_eq_true, beq_iff_eq] at h1
    have h1 := h1.resolve_left hkn
    obtain ⟨⟨hkK, hno⟩, _⟩ := h1
    have hne : K i ≠ [] := fun h => by rw [h] at hkK; simp at hkK
    have hpn : plan i = none := by
      cases hp : plan i with
      | none => rfl
      | some f => rw [hp] at hno; cases hno
    obtain ⟨o, s1, g1, g2, g3, -⟩ := ChainK.firstH hpn hne (pre := pre) (post := post) (fun k' hk' => by
      have h2 := hk k' hk'
      have h3 : pairOk (plan k') (plan i) = false := by
        rw [hpn]
        cases plan k' with
        | none => rfl
        | some f => obtain ⟨_, _, _⟩ := f; rfl
      simp only [pairK, h3, Bool.false_or, Bool.and_eq_true] at h2
      exact ⟨by simpa using h2.1.1, h2.2⟩) h
    exact ⟨o, s1, g1, g2, g3⟩
def planOkK (K : Nat → List Nat) (plan : Nat → Option Foot) (tb : List (List Nat)) (n : Nat) : Bool := (List.range n).all fun j => (List.range j).all fun i => (tb.getD j []).contains i || pairK K plan i j
theorem planOkK_spec {plan : Nat → Option Foot} {tb : List (List Nat)} {n : Nat} (h : planOkK K plan tb n = true) (j : Nat) (hj : j < n) (i : Nat) (hi : i < j) : i ∈ tb.getD j [] ∨ pairK K plan i j = true := by
  unfold planOkK at h
  rw [List.all_eq_true] at h
  have h1 := h j (List.mem_range.2 hj)
  rw [List.all_eq_true] at h1
  have h2 := h1 i (List.mem_range.2 hi)
  simpa using h2
theorem chainK_any {md : Region.Mode} {plan : Nat → Option Foot} {tb : List (List Nat)} {Q : Exit → Act → World → Prop} {s2 : FS} (ht : tableOk md ops tb = true) (hp : planOkK K plan tb ops.size = true) (hQ : ∀ (M1 : Heap) (a1 : Act) (w1 : World), Rel S0 w0 nt s2 M1 a1 w1 → Q .normal a1 w1) :
    ∀ (fuel : Nat) (l : List Nat) (listed : Array Bool) {s : FS} {M : Heap} {a : Act} {w : World}, l.length ≤ fuel → l.Pairwise (· < ·) → (∀ j ∈ l, j < ops.size) → listed.size = ops.size → (∀ j, j < ops.size → (listed.getD j true = false ↔ j ∈ l)) →
      (∀ j o, ops[j]? = some o → j ∉ l → ∀ e ∈ o.after, Region.binds md e = true → e.on ∉ l) → ChainK P nt ops plan K T φ l s s2 → Rel S0 w0 nt s M a w → wpAny P md ops Q fuel listed a w := by
  intro fuel
  have hready : ∀ (l : List Nat) (listed : Array Bool), listed.size = ops.size → (∀ j ∈ l, j < ops.size) → (∀ j, j < ops.size → (listed.getD j true = false ↔ j ∈ l)) → ∀ i, i ∈ Region.ready md ops listed ↔ i ∈ l ∧ ∃ o, ops[i]? = some o ∧ ∀ e ∈ o.after, Region.binds md e = true → e.on ∉ l := by
    intro l listed hsz hl hli i
    rw [mem_ready]
    constructor
    · rintro ⟨h0, o, ho, he⟩
      have hi : i < ops.size := (Array.getElem?_eq_some_iff.1 ho).1
      refine ⟨(hli i hi).1 h0, o, ho, fun e hem hb hin => ?_⟩
      have h1 := he e hem hb
      have h2 := (hli e.on (hl _ hin)).2 hin
      have hlt : e.on < listed.size := by rw [hsz]; exact hl _ hin
      rw [Array.getD_eq_getD_getElem?, Array.getElem?_eq_getElem hlt] at h1 h2
      rw [Option.getD_some] at h1 h2
      rw [h1] at h2; cases h2
    · rintro ⟨hi, o, ho, he⟩
      refine ⟨(hli i (hl i hi)).2 hi, o, ho, fun e hem hb => ?_⟩
      have hlt := (table_spec ht ho).2 e hem hb
      have hlt2 : e.on < ops.size := by have := (Array.getElem?_eq_some_iff.1 ho).1; omega
      have h2 : ¬ listed.getD e.on true = false := fun h => he e hem hb ((hli e.on hlt2).1 h)
      have hlt3 : e.on < listed.size := by omega
      rw [Array.getD_eq_getD_getElem?, Array.getElem?_eq_getElem hlt3, Option.getD_some] at h2 ⊢
      simpa using h2
  have hnil : ∀ (l : List Nat) (listed : Array Bool), listed.size = ops.size → l.Pairwise (· < ·) → (∀ j ∈ l, j < ops.size) → (∀ j, j < ops.size → (listed.getD j true = false ↔ j ∈ l)) → Region.ready md ops listed = [] → l = [] := by
    intro l listed hsz hs hl hli hr
    cases l with
    | nil => rfl
    | cons i l =>
      have hi : i < ops.size := hl i List.mem_cons_self
      have : i ∈ Region.ready md ops listed := (hready _ listed hsz hl hli i).2 ⟨List.mem_cons_self, ops[i], Array.getElem?_eq_getElem hi, fun e he hb hin => by
        have h1 := (table_spec ht (Array.getElem?_eq_getElem hi)).2 e he hb
        rw [List.pairwise_cons] at hs
        rcases List.mem_cons.1 hin with h | h
        · omega
        · have := hs.1 _ h; omega⟩
      rw [hr] at this; cases this
  induction fuel with
  | zero =>
    intro l listed s M a w hlen hs hl hsz hli hcl hch hR
    have : l = [] := List.length_eq_zero_iff.1 (by omega)
    subst this
    cases hch with
    | nil =>
      refine ⟨?_, hQ M a w hR⟩
      cases hr : Region.ready md ops listed with
      | nil => rfl
      | cons i r =>
        have := (hready [] listed hsz hl hli i).1 (by rw [hr]; exact List.mem_cons_self)
        simp at this
  | succ fuel ih =>
    intro l listed s M a w hlen hs hl hsz hli hcl hch hR
    refine ⟨fun hr => ?_, fun i hi => ?_⟩
    · have := hnil l listed hsz hs hl hli hr
      subst this
      cases hch with
      | nil => exact hQ M a w hR
    · obtain ⟨hil, o, ho, he⟩ := (hready l listed hsz hl hli i).1 hi
      obtain ⟨pre, post, rfl⟩ := List.append_of_mem hil
      rw [List.pairwise_append, List.pairwise_cons] at hs
      obtain ⟨hs1, ⟨hs2, hs3⟩, hs4⟩ := hs
      have hipre : i ∉ pre := fun h => absurd (hs4 i h i List.mem_cons_self) (Nat.lt_irrefl _)
      have hipost : i ∉ post := fun h => absurd (hs2 i h) (Nat.lt_irrefl _)
      have hilt : i < ops.size := hl i hil
      have hpair : ∀ k ∈ pre, pairK K plan k i = true := fun k hk => by
        rcases planOkK_spec hp i hilt k (hs4 k hk i List.mem_cons_self) with h | h
        · exfalso
          obtain ⟨e, hem, hb, hlt, hor⟩ := (table_spec ht ho).1 k h
          have h1 := he e hem hb
          have hkl : k ∈ pre ++ i :: post := List.mem_append_left _ hk
          rcases hor with rfl | hk'
          · exact h1 hkl
          · exact before_listed ht (D := fun j => j ∉ pre ++ i :: post) (fun j o hj hd e he hb => hcl j o hj hd e he hb) e.on (by omega) h1 k hk' hkl
        · exact h
      obtain ⟨o', s1, h1, h2, h3⟩ := ChainK.first hpair hch
      refine h2.wpOp h1 hR fun M1 a1 w1 hR1 => ih (pre ++ post) (listed.setIfInBounds i true) ?_ ?_ (fun j hj => hl j ?_) (by simpa using hsz) (fun j hj => ?_) (fun j oj hoj hj e hem hb => ?_) h3 hR1
      · simp only [List.length_append, List.length_cons] at hlen ⊢; omega
      · rw [List.pairwise_append]
        exact ⟨hs1, hs3, fun x hx y hy => hs4 x hx y (List.mem_cons_of_mem _ hy)⟩
      · rcases List.mem_append.1 hj with h | h
        · exact List.mem_append_left _ h
        · exact List.mem_append_right _ (List.mem_cons_of_mem _ h)
      · by_cases hji : j = i
        · subst hji
          have : (listed.setIfInBounds j true).getD j true = true := by
            rw [Array.getD_eq_getD_getElem?, Array.getElem?_setIfInBounds_self_of_lt (by omega)]; rfl
          rw [this]
          simp [hipre, hipost]
        · rw [getD_set_ne true (Ne.symm hji), hli j hj]
          simp [hji]
      · have hsub : ∀ x, x ∈ pre ++ post → x ∈ pre ++ i :: post := fun x hx => by
          rcases List.mem_append.1 hx with h | h
          · exact List.mem_append_left _ h
          · exact List.mem_append_right _ (List.mem_cons_of_mem _ h)
        by_cases hji : j = i
        · subst hji
          rw [ho] at hoj
          obtain rfl := Option.some.inj hoj
          exact fun h => he e hem hb (hsub _ h)
        · have hj' : j ∉ pre ++ i :: post := fun h => by
            rcases List.mem_append.1 h with h | h
            · exact hj (List.mem_append_left _ h)
            · rcases List.mem_cons.1 h with h | h
              · exact hji h
              · exact hj (List.mem_append_right _ h)
          exact fun h => hcl j oj hoj hj' e hem hb (hsub _ h)
theorem DW.drawK {id : Nat} {Q : Exit → FS → Prop} {plan : Nat → Option Foot} {s2 : FS} (tb : List (List Nat)) (hm : P.follows .mixedOrders = true) (ht : tableOk .any ops tb = true) (hp : planOkK K plan tb ops.size = true) (hc : ChainK P nt ops plan K T φ (List.range ops.size) s s2) (h : Q .normal s2) :
    DW P nt (.region id ops true) s Q := fun S0 w0 M a w hR => by
  refine wp_region_any hm ?_
  refine chainK_any ht hp (fun M1 a1 w1 h1 => ⟨s2, M1, h, h1⟩) ops.size (List.range ops.size) _ (by simp) List.pairwise_lt_range (fun j hj => List.mem_range.1 hj) (by simp) (fun j hj => ?_) (fun j o ho hj => ?_) hc hR.drawn
  · simp [hj]
  · exact absurd (List.mem_range.2 (Array.getElem?_eq_some_iff.1 ho).1) hj
/-- A region, step by step; what each step looks at and writes is kept. -/
def RegK (P : Program) (nt : Nat) (ops : Array Oper) (K T : Nat → List Nat) (φ : Nat → DV → DV) : List Oper → List (Option Foot) → FS → (List (Option Foot) → FS → Prop) → Prop
  | [], acc, s, N => N acc s
  | o :: l, acc, s, N => (∃ L R δ, Cert P nt ops o L R δ s ∧ (∀ j, acc.length ∈ K j → δ.x = none ∧ φ j (s.e δ.d) = s.e δ.d) ∧ RegK P nt ops K T φ l (acc ++ [some (δ.d, L, R)]) (s.add δ) N) ∨
      (∃ s1, StepA P nt ops o s s1 ∧ (K acc.length ≠ [] → FreeK P nt ops o (T acc.length) (φ acc.length) s s1 ∧ (∀ k ∈ K acc.length, k < acc.length) ∧ FootK (fun i => acc.getD i none) (K acc.length) (T acc.length) s s1) ∧ RegK P nt ops K T φ l (acc ++ [none]) s1 N)
theorem RegK.cert {N : List (Option Foot) → FS → Prop} {o : Oper} {l : List Oper} {acc : List (Option Foot)} {L R : List Nat} {δ : Add} (hc : Cert P nt ops o L R δ s) (hk : ∀ j, acc.length ∉ K j) (hr : RegK P nt ops K T φ l (acc ++ [some (δ.d, L, R)]) (s.add δ) N) : RegK P nt ops K T φ (o :: l) acc s N := .inl ⟨L, R, δ, hc, fun j h => absurd h (hk j), hr⟩
theorem RegK.add {N : List (Option Foot) → FS → Prop} {o : Oper} {l : List Oper} {acc : List (Option Foot)} {δ : Add} (ha : addF P nt ops o s = some δ) (hk : ∀ j, acc.length ∈ K j → φ j (s.e δ.d) = s.e δ.d) (hr : RegK P nt ops K T φ l (acc ++ [some (δ.d, o.looksAt ops, refsO s o)]) (s.add δ) N) : RegK P nt ops K T φ (o :: l) acc s N := by
  refine .inl ⟨_, _, δ, cert_of_addF ha, fun j hj => ⟨?_, hk j hj⟩, hr⟩
  simp only [addF] at ha
  split at ha
  · split at ha
    · obtain rfl := Option.some.inj ha; rfl
    · cases ha
  · split at ha
    · split at ha
      · obtain rfl := Option.some.inj ha; rfl
      · cases ha
    · cases ha
  · cases ha
theorem RegK.heavyF {N : List (Option Foot) → FS → Prop} {o : Oper} {l : List Oper} {acc : List (Option Foot)} (hw : wantedD ops o s.e = some true) (hc : stepF P nt o s = some s1) (hj : K acc.length = []) (hr : RegK P nt ops K T φ l (acc ++ [none]) s1 N) : RegK P nt ops K T φ (o :: l) acc s N := .inr ⟨s1, .inl ⟨hw, OpStep.of hc⟩, fun h => absurd hj h, hr⟩
/-- The heavy step that may come ahead of the steps of K. -/
theorem RegK.swap {N : List (Option Foot) → FS → Prop} {o : Oper} {l : List Oper} {acc : List (Option Foot)} {d : Nat} {v : DV} {h1 : Nat → Option D} {g1 : Nat → DC} (Lr : List Nat) (hw : o.guard = none) (hc : ∀ e' : Nat → DV, (∀ t ∈ Lr, e' t = s.e t) → stepF P nt o ⟨e', s.h, s.g⟩ = some ⟨upd (fun i => φ acc.length (e' i)) d v, h1, g1⟩)
    (hT : ∀ t ∈ T acc.length, t ∉ Lr ∧ t ≠ d) (hφ : ∀ t ∈ T acc.length, φ acc.length (s.e t) = s.e t) (hK : ∀ k ∈ K acc.length, k < acc.length) (hf : FootK (fun i => acc.getD i none) (K acc.length) (T acc.length) s ⟨upd (fun i => φ acc.length (s.e i)) d v, h1, g1⟩)
    (hr : RegK P nt ops K T φ l (acc ++ [none]) ⟨upd (fun i => φ acc.length (s.e i)) d v, h1, g1⟩ N) : RegK P nt ops K T φ (o :: l) acc s N := by
  have hwant : ∀ s' : FS, wantedD ops o s'.e = some true := fun s' => by simp [wantedD, hw]
  refine .inr ⟨_, .inl ⟨hwant _, OpStep.of (hc s.e fun _ _ => rfl)⟩, fun _ => ⟨⟨fun e' he' => .inl ⟨hwant _, OpStep.of ?_⟩, fun t ht => ⟨hφ t ht, ?_⟩⟩, hK, hf⟩, hr⟩
  · rw [hc e' fun t ht => he' t fun h => (hT t h).1 ht]
    congr 2
    funext t
    by_cases htT : t ∈ T acc.length
    · rw [if_pos htT, upd_ne _ _ _ _ (hT t htT).2]
    · rw [if_neg htT]
      show upd (fun i => φ acc.length (e' i)) d v t = upd (fun i => φ acc.length (s.e i)) d v t
      by_cases htd : t = d
      · subst htd; rw [upd_same, upd_same]
      · rw [upd_ne _ _ _ _ htd, upd_ne _ _ _ _ htd, he' t htT]
  · show upd (fun i => φ acc.length (s.e i)) d v t = s.e t
    rw [upd_ne _ _ _ _ (hT t ht).2]
    exact hφ t ht
/-- The same for a heavy step without a result. -/
theorem RegK.swapS {N : List (Option Foot) → FS → Prop} {o : Oper} {l : List Oper} {acc : List (Option Foot)} {h1 : Nat → Option D} {g1 : Nat → DC} (Lr : List Nat) (hw : o.guard = none) (hc : ∀ e' : Nat → DV, (∀ t ∈ Lr, e' t = s.e t) → stepF P nt o ⟨e', s.h, s.g⟩ = some ⟨fun i => φ acc.length (e' i), h1, g1⟩)
    (hT : ∀ t ∈ T acc.length, t ∉ Lr) (hφ : ∀ t ∈ T acc.length, φ acc.length (s.e t) = s.e t) (hK : ∀ k ∈ K acc.length, k < acc.length) (hf : FootK (fun i => acc.getD i none) (K acc.length) (T acc.length) s ⟨fun i => φ acc.length (s.e i), h1, g1⟩)
    (hr : RegK P nt ops K T φ l (acc ++ [none]) ⟨fun i => φ acc.length (s.e i), h1, g1⟩ N) : RegK P nt ops K T φ (o :: l) acc s N := by
  have hwant : ∀ s' : FS, wantedD ops o s'.e = some true := fun s' => by simp [wantedD, hw]
  refine .inr ⟨_, .inl ⟨hwant _, OpStep.of (hc s.e fun _ _ => rfl)⟩, fun _ => ⟨⟨fun e' he' => .inl ⟨hwant _, OpStep.of ?_⟩, fun t ht => ⟨hφ t ht, hφ t ht⟩⟩, hK, hf⟩, hr⟩
  rw [hc e' fun t ht => he' t fun h => hT t h ht]
  congr 2
  funext t
  by_cases htT : t ∈ T acc.length
  · rw [if_pos htT]
  · rw [if_neg htT, he' t htT]
theorem regK_chain {N : List (Option Foot) → FS → Prop} : ∀ {l : List Oper} {acc : List (Option Foot)} {s : FS} (k : Nat), k = acc.length → (∀ (i : Nat) (o : Oper), l[i]? = some o → ops[k + i]? = some o) → RegK P nt ops K T φ l acc s N →
    ∃ pl s2, N (acc ++ pl) s2 ∧ pl.length = l.length ∧ ∀ plan : Nat → Option Foot, (∀ i, i < (acc ++ pl).length → plan i = (acc ++ pl).getD i none) → ChainK P nt ops plan K T φ (List.range' k l.length) s s2
  | [], acc, s, k, hk, ho, h => ⟨[], s, by simpa [RegK] using h, rfl, fun plan _ => .nil s⟩
  | o :: l, acc, s, k, hk, ho, h => by
    have hok : ops[k]? = some o := by simpa using ho 0 o rfl
    have ho' : ∀ (i : Nat) (o' : Oper), l[i]? = some o' → ops[k + 1 + i]? = some o' := fun i o' hi => by
      have := ho (i + 1) o' (by simpa using hi)
      rw [← this]; congr 1; omega
    rcases h with ⟨L, R, δ, hc, hx, hr⟩ | ⟨s1, hc, hx, hr⟩
    · obtain ⟨pl, s2, h1, h2, h3⟩ := regK_chain (k + 1) (by simp [hk]) ho' hr
      refine ⟨some (δ.d, L, R) :: pl, s2, by simpa using h1, by simp [h2], fun plan hp => ?_⟩
      rw [List.length_cons, List.range'_succ]
      refine .add hok (by have := hp k (by simp [hk]); rw [this, hk]; simp [List.getD_eq_getElem?_getD]) (fun j e => hx j (by rw [← hk]; exact e)) hc (h3 plan fun i hi => ?_)
      have := hp i (by simpa using hi)
      simpa using this
    · obtain ⟨pl, s2, h1, h2, h3⟩ := regK_chain (k + 1) (by simp [hk]) ho' hr
      refine ⟨none :: pl, s2, by simpa using h1, by simp [h2], fun plan hp => ?_⟩
      rw [List.length_cons, List.range'_succ]
      refine .heavy hok (by have := hp k (by simp [hk]); rw [this, hk]; simp [List.getD_eq_getElem?_getD]) hc (fun e => ?_) (h3 plan fun i hi => ?_)
      · subst hk
        obtain ⟨g1, g2, g3⟩ := hx e
        refine ⟨g1, fun k' hk' d L R hpl => g3 k' hk' d L R ?_⟩
        have hlt := g2 k' hk'
        have := hp k' (by simp; omega)
        rw [hpl] at this
        show acc.getD k' none = _
        rw [this, List.getD_eq_getElem?_getD, List.getD_eq_getElem?_getD, List.getElem?_append_left hlt]
      · have := hp i (by simpa using hi)
        simpa using this
/-- A region whose order is not told. -/
theorem DW.drawnK (K T : Nat → List Nat) (φ : Nat → DV → DV) {id : Nat} {l : List Oper} {Q : Exit → FS → Prop} (hm : P.follows .mixedOrders = true) (ht : tableOk .any l.toArray (tableOf l) = true) (h : RegK P nt l.toArray K T φ l [] s fun pl s2 => planOkK K (fun i => pl.getD i none) (tableOf l) l.length = true ∧ Q .normal s2) : DW P nt (.region id l.toArray true) s Q := by
  obtain ⟨pl, s2, ⟨h1, h2⟩, h3, h4⟩ := regK_chain (ops := l.toArray) 0 rfl (fun i o hi => by simpa using hi) h
  simp only [List.nil_append] at h1
  refine DW.drawK (K := K) (T := T) (φ := φ) (tableOf l) hm ht (plan := fun i => pl.getD i none) (by simpa using h1) ?_ h2
  have := h4 (fun i => pl.getD i none) (fun i hi => by simp)
  rw [List.range_eq_range']
  simpa using this
end
end
end Go.Proofs.Ytciieaidbiejmaa.DM

/-
  DM 46. '==' of structs of plain cells; functions of the library that read package variables.
-/
namespace Go.Proofs.Ytciieaidbiejmaa.DM
set_option linter.unusedVariables false
set_option linter.unusedSimpArgs false
open Go.RowKit
section
variable {P : Program} {S0 : Fr} {w0 w w' : World} {M : Heap} {X : List A} {nt : Nat} {s : FS}
/-- What takes plain values and gives plain values, where the package variables are az they are known. -/
theorem Spec.plainT {f : Nat} {vs rs : List Value} (hE : Enters P f) (hrs : ∀ v ∈ rs, DM.plain v = true)
    (h : ∀ w : World, tabP w → Calls P f vs.toArray w fun e w' => e = .returned (packV (rs.map fun _ => none) rs) ∧ Below w.heap.size w w') :
    Spec P f (vs.map fun v => .one (.r (.sc v))) (rs.map fun _ => none) (rs.map .sc) (vs.map fun v => .one (.r (.sc v))) := by
  refine ⟨hE, fun F w M vals hI hl hM hV hG => ?_⟩
  have hvals : vals = vs := by
    apply List.ext_getElem (by simpa using hl)
    intro i h1 h2
    have := hV i (.one (.r (.sc vs[i]))) vals[i] (by simp [h2]) (List.getElem?_eq_getElem h1)
    obtain ⟨h3, -⟩ := this
    have q : ∀ (x y : Value), RelC F w M (.t (.sc x)) y → y = x := fun x y h => by
      cases h with
      | t _ _ h4 => cases h4 with
        | sc _ _ => rfl
    exact q _ _ h3
  subst hvals
  refine Calls.mono (h w hI.wd.tb.1) ?_
  rintro e w' ⟨rfl, hB⟩
  have hI' : Inv F w M [] w' := hI.world hB.block hB.size ⟨hB.os, hB.output, hB.tape⟩
  have hI2 := hI'.hands (Y := rs.map .sc) (fun y hy => by
    obtain ⟨v, hv, rfl⟩ := List.mem_map.1 hy
    exact ⟨.sc v (hrs v hv), rfl, rfl⟩)
  rw [List.nil_append] at hI2
  have he : (rs.map (T.sc : Value → A)).map er = rs.map .sc := by
    rw [List.map_map]; rfl
  have hv : (rs.map (T.sc : Value → A)).map T.val = rs := by
    rw [List.map_map]
    conv => rhs; rw [← List.map_id rs]
    rfl
  refine ⟨_, initFS (vals.map fun v => .one (.r (.sc v))), M, rs.map .sc, rfl, hI2, hM, hG, he, by rw [List.length_map, shLen_none], by rw [hv], rfl, fun i pa hp => ⟨pa, hp, ?_⟩⟩
  rw [List.getElem?_map, Option.map_eq_some_iff] at hp
  obtain ⟨v, -, rfl⟩ := hp
  rfl
/-- A row that is only read, az it comes in. -/
theorem row_in {id n : Nat} {rs : List RT} {v : Value} (h : RelV S0 w0 M (argV id (.one (.r (.sl n rs)))) v) : (∃ a, ∃ c, v = .slice a 0 c ∧ n = 0 ∧ rs = []) ∨ ∃ (a : Addr) (c : Nat) (us : List Value), v = .slice (some a) n c ∧ a.spot = none ∧ S0.ro a.block ∧ n ≤ c ∧ us.length = rs.length ∧
    (∀ (i : Nat) (u : Value), us[i]? = some u → w0.cell? ⟨a.block, a.off + i, none⟩ = some u) ∧ ∀ (i : Nat) (u : Value) (r : RT), us[i]? = some u → rs[i]? = some r → RoC S0 w0 u r := by
  obtain ⟨h1, -⟩ := h
  cases h1 with
  | t _ _ h2 => cases h2 with
    | sl a n c cs us e1 e2 e3 e4 e5 e6 => exact .inr ⟨a, c, us, rfl, e1, e2, e3, e4, e5, e6⟩
    | em a c => exact .inl ⟨a, c, rfl, rfl, rfl⟩
theorem aggSc_ok : ∀ {xs : List Value} {u : Value}, RelV S0 w0 M (.v (.agg (xs.map fun v => .t (.sc v)))) u → u = .agg xs.toArray := by
  intro xs u h
  obtain ⟨vs, rfl, hl, h1, -⟩ := h
  have : vs = xs := by
    apply List.ext_getElem (by simpa using hl)
    intro i h2 h3
    have := h1 i (.t (.sc xs[i])) vs[i] (by simp [h3]) (List.getElem?_eq_getElem h2)
    have q : ∀ (x y : Value), RelC S0 w0 M (.t (.sc x)) y → y = x := fun x y h => by
      cases h with
      | t _ _ h4 => cases h4 with
        | sc _ _ => rfl
    exact q _ _ this
  rw [this]
theorem eqGuard_agg {op : BinOp} {ty : TypeId} {x y : Operand} {a b : Array Value} (hop : op = .eql ∨ op = .neq) (hg : P.eqGuardType P.depth ty = false) : (eqGuard op ty x y (.agg a) (.agg b)).run P w = .ok () w := by
  rcases hop with rfl | rfl <;> simp [eqGuard, hg]
/-- '==' of structs of plain cells. -/
theorem OpStep.eqS {o : Oper} {ty ty' : TypeId} {x y : Operand} {d : Nat} (xs ys : List Value) {r : Bool} (ho : o.op = .binOp .eql ty x y ty') (hd : o.dst = some d) (hdn : d < nt) (hx : ev s.e x = .v (.agg (xs.map fun v => .t (.sc v)))) (hy : ev s.e y = .v (.agg (ys.map fun v => .t (.sc v))))
    (hg : P.eqGuardType P.depth ty = false) (hr : ∀ w, (Op.equal ty (.agg xs.toArray) (.agg ys.toArray)).run P w = .ok r w) : OpStep P nt o s ⟨upd s.e d (.v (.one (.t (.sc (.bool r))))), s.h, s.g⟩ := fun S0 w0 M a w hR next Q hn => by
  have h1 : a.eval x = .agg xs.toArray := aggSc_ok (hx ▸ ev_ok hR x)
  have h2 : a.eval y = .agg ys.toArray := aggSc_ok (hy ▸ ev_ok hR y)
  have hrun : (execOp a.eval o).run P w = .ok (.value (.bool r)) w := by
    have h3 : binOp .eql ty (.agg xs.toArray) (.agg ys.toArray) = (do pure (.bool (← Op.equal ty (.agg xs.toArray) (.agg ys.toArray)))) := by unfold binOp; rfl
    have h4 := eqGuard_agg (P := P) (w := w) (x := x) (y := y) (a := xs.toArray) (b := ys.toArray) (.inl rfl : BinOp.eql = .eql ∨ BinOp.eql = .neq) hg
    simp only [execOp, ho, h1, h2, h3, h4, Sem.run_bind, Sem.run_pure, Result.andThen_ok, hr]
  unfold Oper.wp
  rw [hrun, Oper.upon_value, hd]
  exact hn _ _ _ (hR.put ⟨.t _ _ (.sc _ rfl), rfl⟩ hdn)
/-- '!=' of structs of plain cells. -/
theorem OpStep.neS {o : Oper} {ty ty' : TypeId} {x y : Operand} {d : Nat} (xs ys : List Value) {r : Bool} (ho : o.op = .binOp .neq ty x y ty') (hd : o.dst = some d) (hdn : d < nt) (hx : ev s.e x = .v (.agg (xs.map fun v => .t (.sc v)))) (hy : ev s.e y = .v (.agg (ys.map fun v => .t (.sc v))))
    (hg : P.eqGuardType P.depth ty = false) (hr : ∀ w, (Op.equal ty (.agg xs.toArray) (.agg ys.toArray)).run P w = .ok r w) : OpStep P nt o s ⟨upd s.e d (.v (.one (.t (.sc (.bool (!r)))))), s.h, s.g⟩ := fun S0 w0 M a w hR next Q hn => by
  have h1 : a.eval x = .agg xs.toArray := aggSc_ok (hx ▸ ev_ok hR x)
  have h2 : a.eval y = .agg ys.toArray := aggSc_ok (hy ▸ ev_ok hR y)
  have hrun : (execOp a.eval o).run P w = .ok (.value (.bool (!r))) w := by
    have h3 : binOp .neq ty (.agg xs.toArray) (.agg ys.toArray) = (do pure (.bool (!(← Op.equal ty (.agg xs.toArray) (.agg ys.toArray))))) := by unfold binOp; rfl
    have h4 := eqGuard_agg (P := P) (w := w) (x := x) (y := y) (a := xs.toArray) (b := ys.toArray) (.inr rfl : BinOp.neq = .eql ∨ BinOp.neq = .neq) hg
    simp only [execOp, ho, h1, h2, h3, h4, Sem.run_bind, Sem.run_pure, Result.andThen_ok, hr]
  unfold Oper.wp
  rw [hrun, Oper.upon_value, hd]
  exact hn _ _ _ (hR.put ⟨.t _ _ (.sc _ rfl), rfl⟩ hdn)
/-- The same az adding steps in a drawn region. -/
theorem Cert.neS {ops : Array Oper} {o : Oper} {ty ty' : TypeId} {x y : Operand} {d : Nat} (xs ys : List Value) {r : Bool} (ho : o.op = .binOp .neq ty x y ty') (hw : wantedD ops o s.e = some true) (hd : o.dst = some d) (hdn : d < nt) (hx : ev s.e x = .v (.agg (xs.map fun v => .t (.sc v)))) (hy : ev s.e y = .v (.agg (ys.map fun v => .t (.sc v))))
    (hg : P.eqGuardType P.depth ty = false) (hr : ∀ w, (Op.equal ty (.agg xs.toArray) (.agg ys.toArray)).run P w = .ok r w) : Cert P nt ops o (o.looksAt ops) (refsO s o) ⟨d, .v (.one (.t (.sc (.bool (!r))))), none⟩ s := fun s' hE hH => .inl ⟨(wanted_local hE).trans hw, by
  have h1 : ev s'.e x = .v (.agg (xs.map fun v => .t (.sc v))) := by rw [← hx]; exact ev_local hE x (by rw [ho]; simp [Op.operands])
  have h2 : ev s'.e y = .v (.agg (ys.map fun v => .t (.sc v))) := by rw [← hy]; exact ev_local hE y (by rw [ho]; simp [Op.operands])
  exact OpStep.neS xs ys ho hd hdn h1 h2 hg hr⟩
/-! '==' of structs, field by field -/
theorem eqf_cons {dp : Nat} {xs ys : Array Value} {f : Field} {fs : List Field} {a b : Value} {r q : Bool} (hn : (f.name == "_") = false) (ha : (part f.type xs f.offset).run P w = .ok a w) (hb : (part f.type ys f.offset).run P w = .ok b w) (he : (Op.equalIn dp f.type a b).run P w = .ok r w) (hr : (Op.eqFields dp xs ys fs).run P w = .ok q w) :
    (Op.eqFields dp xs ys (f :: fs)).run P w = .ok (r && q) w := by
  have hn' : f.name ≠ "_" := by simpa using hn
  rw [Op.eqFields]
  simp only [if_pos hn', Sem.run_bind, ha, hb, he, Result.andThen_ok]
  cases r
  · simp
  · simpa using hr
theorem eqf_nil {dp : Nat} {xs ys : Array Value} : (Op.eqFields dp xs ys []).run P w = .ok true w := by simp [Op.eqFields]
theorem eqA_of {dp : Nat} {xs ys : Array Value} {t : TypeId} {fs : Array Field} {r : Bool} (hu : P.underlying t = some (.struct fs)) (hp : P.stoodInHeld t = false) (h : (Op.eqFields dp xs ys fs.toList).run P w = .ok r w) : (Op.equalIn (dp + 1) t (.agg xs) (.agg ys)).run P w = .ok r w := by
  have hf : P.fieldsOf t = fs := by simp [Program.fieldsOf, hu]
  rw [run_equalIn_struct (P := P) (w := w) dp t xs ys (by rw [hf]; exact hu) hp, hf]
  exact h
theorem eqI_of {dp : Nat} {t : TypeId} {k : IntKind} {a b : Int} (hu : P.underlying t = some (.int k)) : (Op.equalIn (dp + 1) t (.int k a) (.int k b)).run P w = .ok (a == b) w := by
  simp [Op.equalIn, run_underlying hu]
theorem eqT_of {dp : Nat} {t : TypeId} {a b : ByteArray} (hu : P.underlying t = some .string) : (Op.equalIn (dp + 1) t (.string a) (.string b)).run P w = .ok (a == b) w := by
  simp [Op.equalIn, run_underlying hu]
theorem eqB_of {dp : Nat} {t : TypeId} {a b : Bool} (hu : P.underlying t = some .bool) : (Op.equalIn (dp + 1) t (.bool a) (.bool b)).run P w = .ok (a == b) w := by
  simp [Op.equalIn, run_underlying hu]
end
end Go.Proofs.Ytciieaidbiejmaa.DM

/-
  DM 47. Functions of the library that read plain values and rows of plain cells, and give plain values.
-/
namespace Go.Proofs.Ytciieaidbiejmaa.DM
set_option linter.unusedVariables false
set_option linter.unusedSimpArgs false
open Go.RowKit
inductive RA where
  | pl (v : Value)
  | row (vs : List Value)
@[simp] def raPA : RA → PA
  | .pl v => .one (.r (.sc v))
  | .row vs => .one (.r (.sl vs.length (vs.map .sc)))
@[simp] def raAt (w : World) : RA → Value → Prop
  | .pl v, u => u = v
  | .row vs, u => (∃ a c, u = .slice a 0 c ∧ vs = []) ∨ ∃ b o c, u = .slice (some ⟨b, o, none⟩) vs.length c ∧ vs.length ≤ c ∧ b < w.heap.size ∧ ∀ (i : Nat) (v : Value), vs[i]? = some v → w.cell? ⟨b, o + i, none⟩ = some v
@[simp] def raAts (w : World) : List RA → List Value → Prop
  | [], [] => True
  | a :: l, v :: vs => raAt w a v ∧ raAts w l vs
  | _, _ => False
section
variable {P : Program}
theorem raAt_of {F : Fr} {w : World} {M : Heap} {i : Nat} (hI : Inv F w M [] w) : ∀ {a : RA} {v : Value}, RelV F w M (argV i (raPA a)) v → raAt w a v
  | .pl x, v, h => by
    obtain ⟨h1, -⟩ := h
    cases h1 with
    | t _ _ h2 => cases h2 with
      | sc _ _ => rfl
  | .row xs, v, h => by
    rcases row_in h with ⟨a, c, rfl, h1, h2⟩ | ⟨a, c, us, rfl, e1, e2, e3, e4, e5, e6⟩
    · exact .inl ⟨a, c, rfl, by simpa using h2⟩
    · obtain ⟨b, o, sp⟩ := a
      simp only at e1 e2 e5
      subst e1
      refine .inr ⟨b, o, c, rfl, e3, hI.wd.s0 _ (hI.wd.rk _ e2), fun j x hx => e5 j x ?_⟩
      have hj : j < us.length := by rw [e4, List.length_map]; exact (List.getElem?_eq_some_iff.1 hx).1
      have := e6 j us[j] (.sc x) (List.getElem?_eq_getElem hj) (by rw [List.getElem?_map, hx]; rfl)
      have q : ∀ (x y : Value), RoC F w y (.sc x) → y = x := fun x y h => by
        cases h with
        | sc _ _ => rfl
      rw [List.getElem?_eq_getElem hj, q _ _ this]
theorem raAts_of {F : Fr} {w : World} {M : Heap} (hI : Inv F w M [] w) : ∀ {args : List RA} {vals : List Value} (k : Nat), vals.length = args.length → (∀ (i : Nat) (pa : PA) (v : Value), (args.map raPA)[i]? = some pa → vals[i]? = some v → RelV F w M (argV (k + i) pa) v) → raAts w args vals
  | [], [], _, _, _ => trivial
  | a :: l, v :: vs, k, hl, h => ⟨raAt_of hI (h 0 _ v rfl rfl), raAts_of hI (k + 1) (by simpa using hl) fun i pa v hp hv => by
      have := h (i + 1) pa v (by simpa using hp) (by simpa using hv)
      rwa [show k + 1 + i = k + (i + 1) by omega]⟩
  | [], _ :: _, _, hl, _ => by simp at hl
  | _ :: _, [], _, hl, _ => by simp at hl
theorem Spec.reads {f : Nat} {args : List RA} {rs : List Value} (hE : Enters P f) (hrs : ∀ v ∈ rs, DM.plain v = true)
    (h : ∀ (w : World) (vals : List Value), tabP w → raAts w args vals → Calls P f vals.toArray w fun e w' => e = .returned (packV (rs.map fun _ => none) rs) ∧ Below w.heap.size w w') :
    Spec P f (args.map raPA) (rs.map fun _ => none) (rs.map .sc) (args.map raPA) := by
  refine ⟨hE, fun F w M vals hI hl hM hV hG => ?_⟩
  refine Calls.mono (h w vals hI.wd.tb.1 (raAts_of hI 0 (by simpa using hl) fun i pa v hp hv => by rw [Nat.zero_add]; exact hV i pa v hp hv)) ?_
  rintro e w' ⟨rfl, hB⟩
  have hI' : Inv F w M [] w' := hI.world hB.block hB.size ⟨hB.os, hB.output, hB.tape⟩
  have hI2 := hI'.hands (Y := rs.map .sc) (fun y hy => by
    obtain ⟨v, hv, rfl⟩ := List.mem_map.1 hy
    exact ⟨.sc v (hrs v hv), rfl, rfl⟩)
  rw [List.nil_append] at hI2
  have he : (rs.map (T.sc : Value → A)).map er = rs.map .sc := by
    rw [List.map_map]; rfl
  have hv : (rs.map (T.sc : Value → A)).map T.val = rs := by
    rw [List.map_map]
    conv => rhs; rw [← List.map_id rs]
    rfl
  refine ⟨_, initFS (args.map raPA), M, rs.map .sc, rfl, hI2, hM, hG, he, by rw [List.length_map, shLen_none], by rw [hv], rfl, fun i pa hp => ⟨pa, hp, ?_⟩⟩
  rw [List.getElem?_map, Option.map_eq_some_iff] at hp
  obtain ⟨a, -, rfl⟩ := hp
  cases a <;> rfl
end
end Go.Proofs.Ytciieaidbiejmaa.DM

/-
  DM 48. A function that gives back a pointer to a variable of its own.
-/
namespace Go.Proofs.Ytciieaidbiejmaa.DM
set_option linter.unusedVariables false
set_option linter.unusedSimpArgs false
/-- THE CONTRACT of a function that gives back a pointer to what it has laid: its cells. -/
def SpecB (P : Program) (f : Nat) (az : List PA) (ds : List D) : Prop := Enters P f ∧
  ∀ (F : Fr) (w : World) (M : Heap) (vals : List Value), Inv F w M [] w → vals.length = az.length → (∀ id, (initFS az).h id = (M id).map er) →
    (∀ (i : Nat) (pa : PA) (v : Value), az[i]? = some pa → vals[i]? = some v → RelV F w M (argV i pa) v) → (∀ i, RelC F w M ((initFS az).g i) (F.gv i)) →
    Calls P f vals.toArray w fun e w' => ∃ (b o c : Nat) (M1 : Heap) (Y : List A), e = .returned (.pointer (some ⟨b, o, none⟩)) ∧ Inv F w M1 [.ow (.blk b o c) ds.length 1 Y] w' ∧ Y.map er = ds
def EndsB (t : Nat) (s : FS) (ds : List D) : Prop := ∃ id, s.e t = .v (.one (.pt id [] 0)) ∧ s.h id = some (.ow () ds.length 1 ds)
def endB (t : Nat) (ds : List D) : Exit → FS → Prop
  | .normal, s => EndsB t s ds
  | .ret, s => EndsB t s ds
  | _, _ => False
section
variable {S0 : Fr} {w0 w w' : World} {M M' M1 : Heap} {X : List A} {P : Program} {nt : Nat} {s s1 : FS} {a : Act}
theorem SpecB.intro {f : Nat} {fn : Func} {c : Code} {az : List PA} {ds : List D} {n t : Nat} (hf : P.funcs[f]? = some fn) (hb : fn.body = some c) (hnm : (fn.name == "runtime.NumGoroutine") = false) (hn : fn.ntmps = n) (hrs : fn.results.toList = [.tmp t])
    (hle : az.length ≤ n) (h : DW P n c (initFS az) (endB t ds)) : SpecB P f az ds := by
  refine ⟨⟨fn, hf, by rw [hb]; rfl, hnm⟩, fun F w M vals hI hl her hv hg => ?_⟩
  refine calls_of_wp hf hb ?_
  have hR : Rel F w n (initFS az) M { tmps := vals.toArray ++ Array.replicate (fn.ntmps - vals.toArray.size) undef, defers := [] } w := by
    refine ⟨hI, her, fun i => ?_, by simp [hl, hn]; omega, rfl, hg⟩
    simp only [initFS]
    cases hp : az[i]? with
    | none => trivial
    | some pa =>
      have hi : i < vals.length := by rw [hl]; exact (List.getElem?_eq_some_iff.1 hp).1
      have : (vals.toArray ++ Array.replicate (fn.ntmps - vals.toArray.size) undef).getD i undef = vals[i] := by
        rw [Array.getD_eq_getD_getElem?, Array.getElem?_append_left (by simpa using hi)]
        simp [hi]
      rw [this]
      exact hv i pa _ hp (List.getElem?_eq_getElem hi)
  refine wp_mono (h F w M _ w hR) ?_
  have key : ∀ (s1 : FS) (M1 : Heap) (a' : Act) (w' : World), EndsB t s1 ds → Rel F w n s1 M1 a' w' → a'.defers = [] ∧ ∃ v, (results fn a'.tmps).run P w' = .ok v w' ∧ ∃ (b o c : Nat) (M1 : Heap) (Y : List A), Ending.returned v = .returned (.pointer (some ⟨b, o, none⟩)) ∧ Inv F w M1 [.ow (.blk b o c) ds.length 1 Y] w' ∧ Y.map er = ds := by
    rintro s1 M1 a' w' ⟨id, h1, h2⟩ hR1
    have hres := results_run (P := P) (w := w') (tmps := a'.tmps) (vs := [a'.tmps.getD t undef]) hrs ⟨rfl, trivial⟩
    have hrel := hR1.en t
    rw [h1] at hrel
    obtain ⟨hc, -⟩ := hrel
    refine ⟨hR1.df, _, hres, ?_⟩
    simp only [oneOr]
    generalize a'.tmps.getD t undef = v at hc
    cases hc with
    | pt _ _ _ b o c sz m cs hat =>
      obtain ⟨t', ht', hx⟩ := hat
      simp only [T.get, Option.some.injEq] at hx
      subst hx
      have he := hR1.er id
      rw [h2, ht'] at he
      simp only [Option.map_some, Option.some.injEq] at he
      rw [er_ow_mk] at he
      simp only [T.ow.injEq, true_and] at he
      obtain ⟨rfl, rfl, rfl⟩ := he
      have h3 := (hR1.inv.take (p := []) ht' rfl rfl).drop id
      rw [List.nil_append] at h3
      exact ⟨b, o + 0, c, _, cs, rfl, by simpa using h3, rfl⟩
  rintro e a' w' ⟨s1, M1, h1, h2⟩
  cases e with
  | normal => exact key s1 M1 a' w' h1 h2
  | ret => exact key s1 M1 a' w' h1 h2
  | _ => exact h1.elim
/-- The call of such a function, with arguments that are only read. -/
theorem call_B {f : Nat} {az : List PA} {ds : List D} {vs : List DV} {vals : List Value} (hR : Rel S0 w0 nt s M a w) (hS : SpecB P f az ds) (hl : vals.length = vs.length)
    (hv : ∀ (i : Nat) (v : DV) (u : Value), vs[i]? = some v → vals[i]? = some u → RelV S0 w0 M v u) (hr : rosOk s az.length 0 vs az) (hw : widen az.length 0 vs = false ∨ noRoL ds = true) :
    Calls P f vals.toArray w fun e w' => ∃ (b o c : Nat) (Y : List A), e = .returned (.pointer (some ⟨b, o, none⟩)) ∧ Inv S0 w0 M [.ow (.blk b o c) ds.length 1 Y] w' ∧ Y.map er = ds := by
  have hX : ∀ b, b ∈ ([] : List Nat) → b ∈ ([] : List A).flatMap T.blocks := by simp
  obtain ⟨r1, r2⟩ := rosOk_at hr
  generalize hwide : widen az.length 0 vs = wide at hw
  have hIc := callee_inv (own := []) (wide := wide) (fx := fun _ _ => False) (gv := fun _ => undef) hR.inv hX (by simp) 0 none (by simp) (by simp) (by simp)
  have hro : ∀ (i : Nat) (pa : PA) (u : Value), az[i]? = some pa → vals[i]? = some u → RelV (calleeFr S0 w [] wide (fun _ _ => False) fun _ => undef) w (oneH 0 none) (argV i pa) u ∧ argH pa = none ∧ ∀ k, argG i pa k = .un := fun i pa u hp hu => by
    have hlt : i < vs.length := by rw [← hl]; exact (List.getElem?_eq_some_iff.1 hu).1
    have hia : i < az.length := (List.getElem?_eq_some_iff.1 hp).1
    refine roA_arg hR.inv hR.er hX (hv i _ u (List.getElem?_eq_getElem hlt) hu) (r2 i _ pa (List.getElem?_eq_getElem hlt) hp (by omega)) ?_
    cases wide with
    | true => exact .inl rfl
    | false => exact .inr (widen_at hwide i _ (List.getElem?_eq_getElem hlt) (by omega))
  have hval : ∀ (i : Nat) (pa : PA), az[i]? = some pa → ∃ u, vals[i]? = some u := fun i pa hp => by
    have : i < vals.length := by rw [hl, r1]; exact (List.getElem?_eq_some_iff.1 hp).1
    exact ⟨_, List.getElem?_eq_getElem this⟩
  refine Calls.mono (hS.2 _ w (oneH 0 none) vals hIc (by rw [hl, r1]) (fun id => ?_) (fun i pa u hp hu => (hro i pa u hp hu).1) (fun k => ?_)) ?_
  · have h0 : oneH 0 none id = none := by unfold oneH; split <;> rfl
    simp only [initFS, h0, Option.map_none]
    cases hp : az[id]? with
    | none => rfl
    | some pa =>
      obtain ⟨u, hu⟩ := hval id pa hp
      exact (hro id pa u hp hu).2.1
  · simp only [initFS]
    cases hp : az[k / 64]? with
    | none => exact .un _
    | some pa =>
      obtain ⟨u, hu⟩ := hval _ pa hp
      show RelC _ _ _ (argG (k / 64) pa (k % 64)) _
      rw [(hro _ pa u hp hu).2.2]
      exact .un _
  · rintro e w' ⟨b, o, c, M1, Y, rfl, hIc, e1⟩
    refine ⟨b, o, c, Y, rfl, ?_, e1⟩
    refine call_back2 hR.inv hX hIc (fun z hz => ⟨conv_back hR.inv (hIc.xo z hz).1 ?_, (hIc.xo z hz).2⟩) (fun b hb => ⟨(hIc.xb b hb).1, .inr (hIc.xb b hb).2⟩) hIc.xn
    rcases hw with hw | hw
    · exact .inl hw
    · right
      rw [List.mem_singleton] at hz
      subst hz
      rw [er_ow_mk, e1]
      exact hw
theorem OpStep.callB {o : Oper} {f : Operand} {args : Array Operand} {ats : Array TypeId} {g d : Nat} {vs : List DV} {az : List PA} {ds : List D} (ho : o.op = .call { callee := .value f, args := args, argTypes := ats }) (hd : o.dst = some d) (hdn : d < nt) (hnew : s.h d = none) (hc : callArgs s f args.toList = some (g, vs))
    (hS : SpecB P g az ds) (hr : rosOk s az.length 0 vs az) (hw : widen az.length 0 vs = false ∨ noRoL ds = true) : OpStep P nt o s ⟨upd s.e d (.v (.one (.pt d [] 0))), upd s.h d (some (.ow () ds.length 1 ds)), s.g⟩ := fun S0 w0 M a w hR next Q hn => by
  obtain ⟨⟨caps, hcaps⟩, l1, l2⟩ := callArgs_ok hR hc
  unfold Oper.wp
  rw [run_call ho hcaps hS.1, Oper.upon_enter]
  refine Calls.mono (call_B hR hS l1 l2 hr hw) ?_
  rintro e w' ⟨b, o', c, Y, rfl, hI, e1⟩
  have hI0 : Inv S0 w0 M [] w' := ⟨hI.ok, hI.nd, hI.dj, hI.bl, hI.wd, by simp, by simp, by simp, by simp⟩
  have hR1 : Rel S0 w0 nt s M a w' := ⟨hI0, hR.er, hR.en, hR.nt, hR.df, hR.gh⟩
  rw [hd]
  exact hn _ _ _ (entry_ok (t := .ow (.blk b o' c) ds.length 1 Y) (v := .v (.one (.pt d [] 0))) (sz := ds.length) (n := 1) (xs := ds) hR1 hdn (by simp only [FS.row, hnew]) (by rw [er_ow_mk, e1]) (fun hM => hI.entry hM) ⟨.pt d [] 0 b o' c ds.length 1 Y ⟨_, upd_same _ _ _, rfl⟩, rfl⟩)
end
end Go.Proofs.Ytciieaidbiejmaa.DM

/-
  DM 49. A call that is followed into the function's body, with what the caller holds.
-/
namespace Go.Proofs.Ytciieaidbiejmaa.DM
set_option linter.unusedVariables false
set_option linter.unusedSimpArgs false
/-- The frame with other values told beforehand. -/
def Fr.tell (S0 : Fr) (g : Nat → Value) : Fr := { S0 with gv := g }
def keptC : DV → Nat → DC
  | .v (.one c), 0 => c
  | .v (.agg cs), i => match cs[i]? with | some c => c | none => .un
  | _, _ => .un
def keptV : DV → Value → Nat → Value
  | .v (.agg _), .agg vs, i => vs.toList.getD i undef
  | _, v, _ => v
/-- The state in which the body begins: the arguments; the caller's rows; the caller's temporaries T as ghosts. -/
def inlFS (s : FS) (vs : List DV) (T : List Nat) : FS := ⟨fun i => match vs[i]? with | some v => v | none => .un, s.h, fun k => if k < 4096 then s.g k else match T[(k - 4096) / 64]? with | some t => keptC (s.e t) ((k - 4096) % 64) | none => .un⟩
/-- A temporary behind it, of the ghosts. -/
def backV (g : Nat → DC) (j : Nat) : DV → DV
  | .v (.one _) => .v (.one (g (4096 + 64 * j)))
  | .v (.agg cs) => if cs.length ≤ 64 then .v (.agg ((List.range cs.length).map fun i => g (4096 + 64 * j + i))) else .un
  | _ => .un
def findT (i : Nat) : Nat → List Nat → Option Nat
  | _, [] => none
  | j, t :: T => if i = t then some j else findT i (j + 1) T
theorem findT_some {i : Nat} : ∀ {j : Nat} {T : List Nat} {q : Nat}, findT i j T = some q → ∃ k, q = j + k ∧ T[k]? = some i
  | j, [], q, h => by cases h
  | j, t :: T, q, h => by
    simp only [findT] at h
    split at h
    · rename_i hi
      obtain rfl := Option.some.inj h
      exact ⟨0, rfl, by rw [hi]; rfl⟩
    · obtain ⟨k, h1, h2⟩ := findT_some h
      exact ⟨k + 1, by omega, h2⟩
theorem findT_mem {i : Nat} : ∀ {j : Nat} {T : List Nat}, i ∈ T → ∃ q, findT i j T = some q
  | j, [], h => by cases h
  | j, t :: T, h => by
    simp only [findT]
    split
    · exact ⟨_, rfl⟩
    · rename_i hi
      rcases List.mem_cons.1 h with h | h
      · exact absurd h hi
      · exact findT_mem h
/-- The state behind it. -/
def outFS (d t : Nat) (T : List Nat) (s0 s : FS) : FS := ⟨fun i => if i = d then s.e t else match findT i 0 T with | some j => backV s.g j (s0.e i) | none => .un, s.h, fun k => if k < 4096 then s.g k else .un⟩
def inlQ (d t : Nat) (T : List Nat) (s0 s1 : FS) : Exit → FS → Prop
  | .normal, s => outFS d t T s0 s = s1
  | .ret, s => outFS d t T s0 s = s1
  | _, _ => False
/-- Temporaries that a step leaves but for what becomes of their references. -/
def okT : DV → Bool
  | .v (.one _) => true
  | .v (.agg cs) => decide (cs.length ≤ 64)
  | .un => true
  | .tup _ => false
theorem backV_map {φ : DC → DC} {g : Nat → DC} {j : Nat} {v : DV} (h : okT v = true) (hφ : φ .un = .un) (hg : ∀ m, m < 64 → g (4096 + 64 * j + m) = φ (keptC v m)) : backV g j v = mapV φ v := by
  cases v with
  | un => rfl
  | tup xs => cases h
  | v x => cases x with
    | one c => have := hg 0 (by omega); simp only [Nat.add_zero] at this; simp only [backV, this]; rfl
    | agg cs =>
      simp only [okT, decide_eq_true_eq] at h
      simp only [backV, if_pos h]
      show DV.v (.agg _) = .v (.agg _)
      congr 2
      apply List.ext_getElem?
      intro m
      rw [List.getElem?_map]
      by_cases hm : m < cs.length
      · rw [List.getElem?_range hm, List.getElem?_map, List.getElem?_eq_getElem hm]
        simp only [Option.map_some]
        rw [hg m (by omega)]
        simp only [keptC, List.getElem?_eq_getElem hm]
      · rw [List.getElem?_eq_none (by simpa using hm), List.getElem?_map, List.getElem?_eq_none (by omega)]; rfl
section
variable {S0 : Fr} {w0 w w' : World} {M M' M1 : Heap} {X : List A} {P : Program} {nt : Nat} {s s1 : FS} {a : Act}
theorem RoC.tell {g : Nat → Value} {v : Value} {r : RT} (h : RoC S0 w0 v r) : RoC (S0.tell g) w0 v r := h.wide (fun _ h => h) (fun _ _ => rfl)
theorem RoC.untell {g : Nat → Value} {v : Value} {r : RT} (h : RoC (S0.tell g) w0 v r) : RoC S0 w0 v r := h.wide (fun _ h => h) (fun _ _ => rfl)
theorem RelC.tell {g : Nat → Value} {c : DC} {v : Value} (h : RelC S0 w0 M c v) : RelC (S0.tell g) w0 M c v := by
  cases h with
  | un v => exact .un v
  | t r v h => exact .t r v h.tell
  | nl a => exact .nl a
  | sl id p k n b o c sz m cs h1 h2 => exact .sl id p k n b o c sz m cs h1 h2
  | se id p off a d sz m cs h1 => exact .se id p off a d sz m cs h1
  | pt id p off b o c sz m cs h1 => exact .pt id p off b o c sz m cs h1
  | rp cs a h => exact .rp cs a h.tell
  | fn f ids ps hl h => exact .fn f ids ps hl h
theorem RelC.untell {g : Nat → Value} {c : DC} {v : Value} (h : RelC (S0.tell g) w0 M c v) : RelC S0 w0 M c v := RelC.tell (S0 := S0.tell g) (g := S0.gv) h
theorem Rel1.tell {g : Nat → Value} : ∀ {c : V1} {v : Value}, Rel1 S0 w0 M c v → Rel1 (S0.tell g) w0 M c v
  | .one c, v, h => ⟨h.1.tell, h.2⟩
  | .agg cs, v, ⟨vs, h1, h2, h3, h4⟩ => ⟨vs, h1, h2, fun i c u hc hu => (h3 i c u hc hu).tell, h4⟩
theorem RelV.tell {g : Nat → Value} : ∀ {c : DV} {v : Value}, RelV S0 w0 M c v → RelV (S0.tell g) w0 M c v
  | .un, v, h => trivial
  | .v x, v, h => Rel1.tell h
  | .tup xs, v, ⟨vs, h1, h2, h3⟩ => ⟨vs, h1, h2, fun i x u hx hu => (h3 i x u hx hu).tell⟩
theorem RelV.untell {g : Nat → Value} {c : DV} {v : Value} (h : RelV (S0.tell g) w0 M c v) : RelV S0 w0 M c v := RelV.tell (S0 := S0.tell g) (g := S0.gv) h
theorem Inv.tell {g : Nat → Value} (h : Inv S0 w0 M X w) : Inv (S0.tell g) w0 M X w :=
  have key : ∀ y : A, Ok S0 w0 w y → Ok (S0.tell g) w0 w y := fun y hy => hy.conv (fun _ _ h => h) (.inl fun u r h => h.tell)
  ⟨fun id t ht => key _ (h.ok id t ht), h.nd, h.dj, h.bl, ⟨h.wd.fr, h.wd.s0, h.wd.tb, h.wd.sz, h.wd.rk, h.wd.fx, h.wd.oo⟩, fun x hx => ⟨key _ (h.xo x hx).1, (h.xo x hx).2⟩, h.xn, h.xd, h.xb⟩
theorem Inv.untell {g : Nat → Value} (h : Inv (S0.tell g) w0 M X w) : Inv S0 w0 M X w := Inv.tell (S0 := S0.tell g) (g := S0.gv) h
/-- THE CALL, followed into the body. -/
theorem OpStep.inline {o : Oper} {f : Operand} {args : Array Operand} {ats : Array TypeId} {g d t n : Nat} {vs : List DV} {fn : Func} {c : Code} (T : List Nat) (ho : o.op = .call { callee := .value f, args := args, argTypes := ats }) (hd : o.dst = some d) (hdn : d < nt) (hc : callArgs s f args.toList = some (g, vs))
    (hf : P.funcs[g]? = some fn) (hb : fn.body = some c) (hnm : (fn.name == "runtime.NumGoroutine") = false) (hn : fn.ntmps = n) (hrs : fn.results.toList = [.tmp t]) (hle : vs.length ≤ n)
    (h : DW P n c (inlFS s vs T) (inlQ d t T s s1)) : OpStep P nt o s s1 := fun S0 w0 M a w hR next Q hnx => by
  obtain ⟨⟨caps, hcaps⟩, l1, l2⟩ := callArgs_ok hR hc
  unfold Oper.wp
  rw [run_call ho hcaps ⟨fn, hf, by rw [hb]; rfl, hnm⟩, Oper.upon_enter]
  generalize valsOf a f args.toList = vals at l1 l2
  refine calls_of_wp hf hb ?_
  generalize hgv : (fun k => if k < 4096 then S0.gv k else match T[(k - 4096) / 64]? with | some t => keptV (s.e t) (a.tmps.getD t undef) ((k - 4096) % 64) | none => undef : Nat → Value) = gv
  have hR' : Rel (S0.tell gv) w0 n (inlFS s vs T) M { tmps := vals.toArray ++ Array.replicate (fn.ntmps - vals.toArray.size) undef, defers := [] } w := by
    refine ⟨hR.inv.tell, hR.er, fun i => ?_, by simp [l1, hn]; omega, rfl, fun k => ?_⟩
    · simp only [inlFS]
      cases hp : vs[i]? with
      | none => trivial
      | some v =>
        have hi : i < vals.length := by rw [l1]; exact (List.getElem?_eq_some_iff.1 hp).1
        have : (vals.toArray ++ Array.replicate (fn.ntmps - vals.toArray.size) undef).getD i undef = vals[i] := by
          rw [Array.getD_eq_getD_getElem?, Array.getElem?_append_left (by simpa using hi)]
          simp [hi]
        rw [this]
        exact (l2 i v _ hp (List.getElem?_eq_getElem hi)).tell
    · subst hgv
      show RelC _ _ _ (if k < 4096 then s.g k else _) (if k < 4096 then S0.gv k else _)
      split
      · exact (hR.gh k).tell
      · cases hk : T[(k - 4096) / 64]? with
        | none => exact .un _
        | some t =>
          have h2 := hR.en t
          simp only
          cases he : s.e t with
          | v x => cases x with
            | one c =>
              rw [he] at h2
              cases hm : (k - 4096) % 64 with
              | zero => exact h2.1.tell
              | succ m => exact .un _
            | agg cs =>
              rw [he] at h2
              obtain ⟨us, hu, hl, hc', -⟩ := h2
              simp only [keptC]
              cases hcs : cs[(k - 4096) % 64]? with
              | none => exact .un _
              | some c =>
                have hlt : (k - 4096) % 64 < us.length := by rw [hl]; exact (List.getElem?_eq_some_iff.1 hcs).1
                rw [hu]
                simp only [keptV, List.toList_toArray]
                rw [List.getD_eq_getElem?_getD, List.getElem?_eq_getElem hlt, Option.getD_some]
                exact (hc' _ c _ hcs (List.getElem?_eq_getElem hlt)).tell
          | un => exact .un _
          | tup xs => exact .un _
  refine wp_mono (h (S0.tell gv) w0 M _ w hR') ?_
  have key : ∀ (s2 : FS) (M2 : Heap) (a' : Act) (w' : World), outFS d t T s s2 = s1 → Rel (S0.tell gv) w0 n s2 M2 a' w' → a'.defers = [] ∧ ∃ v, (results fn a'.tmps).run P w' = .ok v w' ∧ next (a.put (some d) v) w' := by
    rintro s2 M2 a' w' rfl hR2
    have hres := results_run (P := P) (w := w') (tmps := a'.tmps) (vs := [a'.tmps.getD t undef]) hrs ⟨rfl, trivial⟩
    refine ⟨hR2.df, _, hres, ?_⟩
    simp only [oneOr]
    have hv : RelV S0 w0 M2 (s2.e t) (a'.tmps.getD t undef) := (hR2.en t).untell
    refine hnx _ _ _ (RelX.put (s := ⟨fun i => match findT i 0 T with | some j => backV s2.g j (s.e i) | none => .un, s2.h, fun k => if k < 4096 then s2.g k else .un⟩) ⟨hR2.inv.untell, hR2.er, fun i => ?_, hR.nt, hR.df, fun k => ?_⟩ hv hdn)
    · simp only
      cases hj : findT i 0 T with
      | none => trivial
      | some j =>
        obtain ⟨k, hk, hTj⟩ := findT_some hj
        obtain rfl : j = k := by omega
        simp only
        have hg : ∀ m, m < 64 → RelC S0 w0 M2 (s2.g (4096 + 64 * j + m)) (keptV (s.e i) (a.tmps.getD i undef) m) := fun m hm => by
          have h1 := (hR2.gh (4096 + 64 * j + m)).untell
          have h2 : (S0.tell gv).gv (4096 + 64 * j + m) = keptV (s.e i) (a.tmps.getD i undef) m := by
            subst hgv
            show (if 4096 + 64 * j + m < 4096 then _ else _) = _
            rw [if_neg (by omega), show (4096 + 64 * j + m - 4096) / 64 = j by omega, show (4096 + 64 * j + m - 4096) % 64 = m by omega, hTj]
          rw [h2] at h1
          exact h1
        have h4 := hR.en i
        cases he : s.e i with
        | v x => cases x with
          | one c =>
            rw [he] at h4 hg
            exact ⟨hg 0 (by omega), h4.2⟩
          | agg cs =>
            rw [he] at h4 hg
            simp only [backV]
            split
            · rename_i hle
              obtain ⟨us, hu, hl, -, ho1⟩ := h4
              refine ⟨us, hu, by simp [hl], fun m c u hc hu' => ?_, ho1⟩
              have hmn : m < cs.length := by
                have := (List.getElem?_eq_some_iff.1 hc).1
                simpa using this
              rw [List.getElem?_map, List.getElem?_range hmn] at hc
              obtain rfl := Option.some.inj hc
              have h5 := hg m (by omega)
              rw [hu] at h5
              simp only [keptV, List.toList_toArray] at h5
              rw [List.getD_eq_getElem?_getD, hu'] at h5
              exact h5
            · trivial
        | un => trivial
        | tup xs => trivial
    · simp only
      split
      · rename_i hk
        have h1 := (hR2.gh k).untell
        have h2 : (S0.tell gv).gv k = S0.gv k := by subst hgv; show (if k < 4096 then _ else _) = _; rw [if_pos hk]
        rw [h2] at h1
        exact h1
      · exact .un _
  rw [hd]
  rintro e a' w' ⟨s2, M2, h1, h2⟩
  cases e with
  | normal => exact key s2 M2 a' w' h1 h2
  | ret => exact key s2 M2 a' w' h1 h2
  | _ => exact h1.elim
end
attribute [simp] inlFS inlQ keptC findT okT
end Go.Proofs.Ytciieaidbiejmaa.DM

/-
  DM 50. Regions whose order is not told, begun in an order of one's own: heavy steps may come ahead of steps that add (those of K, which lay temporaries and rows of T alone).
-/
namespace Go.Proofs.Ytciieaidbiejmaa.DM
set_option linter.unusedVariables false
set_option linter.unusedSimpArgs false
section
variable {S0 : Fr} {w0 w w' : World} {M M' M1 : Heap} {X : List A} {P : Program} {nt : Nat} {s s1 : FS} {a : Act} {ops : Array Oper}
/-- The heavy step looks at nothing of T; what its temporaries hold becomes φ of it. -/
def FreeP (P : Program) (nt : Nat) (ops : Array Oper) (o : Oper) (T : List Nat) (φ : DV → DV) (s s1 : FS) : Prop :=
  (∀ (e' : Nat → DV) (h' : Nat → Option D), (∀ t, t ∉ T → e' t = s.e t) → (∀ t ∈ T, e' t = s.e t ∨ e' t = .un) → (∀ t, t ∉ T → h' t = s.h t) → StepA P nt ops o ⟨e', h', s.g⟩ ⟨fun t => if t ∈ T then φ (e' t) else s1.e t, fun t => if t ∈ T then h' t else s1.h t, s1.g⟩) ∧ φ .un = .un ∧ (∀ t ∈ T, φ (s.e t) = s.e t ∧ s1.e t = s.e t ∧ s1.h t = s.h t)
inductive ChainP (P : Program) (nt : Nat) (ops : Array Oper) (plan : Nat → Option Foot) (K T : Nat → List Nat) (φ : Nat → DV → DV) : List Nat → FS → FS → Prop
  | nil (s : FS) : ChainP P nt ops plan K T φ [] s s
  | add {i : Nat} {l : List Nat} {o : Oper} {L R : List Nat} {δ : Add} {s s2 : FS} : ops[i]? = some o → plan i = some (δ.d, L, R) → (∀ j, i ∈ K j → s.e δ.d = .un) → Cert P nt ops o L R δ s → ChainP P nt ops plan K T φ l (s.add δ) s2 → ChainP P nt ops plan K T φ (i :: l) s s2
  | heavy {i : Nat} {l : List Nat} {o : Oper} {s s1 s2 : FS} : ops[i]? = some o → plan i = none → StepA P nt ops o s s1 → (K i ≠ [] → FreeP P nt ops o (T i) (φ i) s s1 ∧ FootK plan (K i) (T i) s s1) → ChainP P nt ops plan K T φ l s1 s2 → ChainP P nt ops plan K T φ (i :: l) s s2
section
variable {K T : Nat → List Nat} {φ : Nat → DV → DV}
theorem ChainP.firstA {plan : Nat → Option Foot} {i : Nat} {post : List Nat} {s2 : FS} : ∀ {pre : List Nat} {s : FS}, (∀ k ∈ pre, pairOk (plan k) (plan i) = true) → ChainP P nt ops plan K T φ (pre ++ i :: post) s s2 →
    ∃ o s1, ops[i]? = some o ∧ StepA P nt ops o s s1 ∧ ChainP P nt ops plan K T φ (pre ++ post) s1 s2 ∧ (∀ d L R, plan i = some (d, L, R) → ∃ δ, δ.d = d ∧ Cert P nt ops o L R δ s ∧ s1 = s.add δ ∧ (∀ j, i ∈ K j → s.e δ.d = .un))
  | [], s, _, h => by
    cases h with
    | add ho hp hx hc hr =>
      rename_i o L R δ
      exact ⟨_, _, ho, hc s (fun _ _ => rfl) (fun _ _ => rfl), hr, fun d L' R' h => by
        rw [hp] at h
        simp only [Option.some.injEq, Prod.mk.injEq] at h
        obtain ⟨rfl, rfl, rfl⟩ := h
        exact ⟨δ, rfl, hc, rfl, hx⟩⟩
    | heavy ho hp hc hx hr => exact ⟨_, _, ho, hc, hr, fun d L R h => by rw [hp] at h; cases h⟩
  | k :: pre, s, hk, h => by
    have hki := hk k List.mem_cons_self
    have hpre : ∀ k' ∈ pre, pairOk (plan k') (plan i) = true := fun k' h' => hk k' (List.mem_cons_of_mem _ h')
    cases h with
    | heavy ho hp hc hx hr => rw [hp] at hki; cases hki
    | add ho hp hx hc hr =>
      rename_i o L R δ
      rw [hp] at hki
      obtain ⟨d', L', R', hpi, hap⟩ := pairOk_some hki
      obtain ⟨oi, s1, h1, h2, h3, h4⟩ := ChainP.firstA (i := i) (post := post) hpre hr
      obtain ⟨δ', rfl, g1, rfl, g3⟩ := h4 d' L' R' hpi
      have g2 := (Cert.move hap).1 g1
      have hx' : ∀ j, k ∈ K j → (s.add δ').e δ.d = .un := fun j hkK => by
        have e1 : (s.add δ').e δ.d = s.e δ.d := upd_ne _ _ _ _ hap.1
        rw [e1]; exact hx j hkK
      refine ⟨oi, s.add δ', h1, g2 s (fun _ _ => rfl) (fun _ _ => rfl), .add ho hp hx' ((Cert.move (δ' := δ) hap.symm).2 hc) ?_, fun d2 L2 R2 e => ?_⟩
      · rw [add_comm' s δ' δ hap.1.symm]; exact h3
      · rw [hpi] at e
        simp only [Option.some.injEq, Prod.mk.injEq] at e
        obtain ⟨rfl, rfl, rfl⟩ := e
        refine ⟨δ', rfl, g2, rfl, fun j hiK => ?_⟩
        have e1 : (s.add δ).e δ'.d = s.e δ'.d := upd_ne _ _ _ _ hap.1.symm
        rw [← e1]; exact g3 j hiK
theorem add_h_ne (s : FS) (δ : Add) (t : Nat) (h : t ≠ δ.d) : (s.add δ).h t = s.h t := by
  unfold FS.add
  cases δ.x with
  | none => rfl
  | some x => exact upd_ne _ _ _ _ h
theorem ChainP.firstH {plan : Nat → Option Foot} {post : List Nat} {s2 : FS} {j : Nat} (hj : plan j = none) (hne : K j ≠ []) : ∀ {pre : List Nat} {s : FS}, (∀ k ∈ pre, k ∈ K j ∧ (plan k).isSome = true) → ChainP P nt ops plan K T φ (pre ++ j :: post) s s2 →
    ∃ o s1, ops[j]? = some o ∧ StepA P nt ops o s s1 ∧ ChainP P nt ops plan K T φ (pre ++ post) s1 s2 ∧ FreeP P nt ops o (T j) (φ j) s s1 ∧ FootK plan (K j) (T j) s s1
  | [], s, _, h => by
    cases h with
    | add ho hp hx hc hr => rw [hj] at hp; cases hp
    | heavy ho hp hc hx hr =>
      obtain ⟨h1, h2⟩ := hx hne
      exact ⟨_, _, ho, hc, hr, h1, h2⟩
  | k :: pre, s, hk, h => by
    obtain ⟨hkK, hks⟩ := hk k List.mem_cons_self
    cases h with
    | heavy ho hp hc hx hr => rw [hp] at hks; cases hks
    | add ho hp hx hc hr =>
      rename_i o L R δ
      have hfix := hx j hkK
      obtain ⟨oi, s1', h1, h2, h3, hF, hT⟩ := ChainP.firstH hj hne (post := post) (fun k' h' => hk k' (List.mem_cons_of_mem _ h')) hr
      obtain ⟨hF1, hF0, hF2⟩ := hF
      obtain ⟨hdT, hdL, hL, hR⟩ := hT k hkK _ _ _ hp
      have hg : (s.add δ).g = s.g := rfl
      have hne : ∀ t, t ≠ δ.d → (s.add δ).e t = s.e t := fun t ht => upd_ne _ _ _ _ ht
      have hneh : ∀ t, t ≠ δ.d → (s.add δ).h t = s.h t := fun t ht => add_h_ne s δ t ht
      have hsame : (s.add δ).e δ.d = δ.v := upd_same _ _ _
      let s1a : FS := ⟨fun t => if t ∈ T j then φ j (s.e t) else s1'.e t, fun t => if t ∈ T j then s.h t else s1'.h t, s1'.g⟩
      have hfx : ∀ t ∈ T j, φ j (s.e t) = s.e t := fun t ht => by
        by_cases htd : t = δ.d
        · rw [htd, hfix]; exact hF0
        · have := (hF2 t ht).1; rwa [hne t htd] at this
      have hA : StepA P nt ops oi s s1a := hF1 s.e s.h (fun t ht => (hne t fun h => ht (h ▸ hdT)).symm) (fun t ht => by
        by_cases htd : t = δ.d
        · exact .inr (htd ▸ hfix)
        · exact .inl (hne t htd).symm) (fun t ht => (hneh t fun h => ht (h ▸ hdT)).symm)
      have hadd : s1a.add δ = s1' := by
        have e1 : (s1a.add δ).e = s1'.e := by
          funext t
          by_cases htd : t = δ.d
          · subst htd
            rw [(hF2 _ hdT).2.1, hsame]; exact upd_same _ _ _
          · refine (upd_ne _ _ _ _ htd).trans ?_
            show (if t ∈ T j then φ j (s.e t) else s1'.e t) = _
            split
            · rename_i htT
              rw [hfx t htT, (hF2 t htT).2.1, hne t htd]
            · rfl
        have e2 : (s1a.add δ).h = s1'.h := by
          funext t
          by_cases htd : t = δ.d
          · subst htd
            rw [(hF2 _ hdT).2.2]
            show (match δ.x with | none => s1a.h | some x => upd s1a.h δ.d (some x)) δ.d = (match δ.x with | none => s.h | some x => upd s.h δ.d (some x)) δ.d
            cases δ.x with
            | none => show (if δ.d ∈ T j then s.h δ.d else s1'.h δ.d) = _; rw [if_pos hdT]
            | some x => show upd _ _ _ _ = upd _ _ _ _; rw [upd_same, upd_same]
          · refine (add_h_ne s1a δ t htd).trans ?_
            show (if t ∈ T j then s.h t else s1'.h t) = _
            split
            · rename_i htT
              rw [(hF2 t htT).2.2, hneh t htd]
            · rfl
        have e3 : (s1a.add δ).g = s1'.g := rfl
        cases hx1 : s1a.add δ
        rw [hx1] at e1 e2 e3
        cases s1'
        simp only at e1 e2 e3
        subst e1 e2 e3; rfl
      have hh1 : ∀ i ∈ R, s1a.h i = s.h i := fun i hi => by
        show (if i ∈ T j then s.h i else s1'.h i) = s.h i
        by_cases hiT : i ∈ T j
        · rw [if_pos hiT]
        · rw [if_neg hiT, hR i hi, hneh i fun h => hiT (h ▸ hdT)]
      have hcert : Cert P nt ops o L R δ s1a := fun s' he hr' => hc s' (fun t ht => (he t ht).trans ?_) (fun i hi => (hr' i hi).trans (hh1 i hi))
      · refine ⟨oi, s1a, h1, hA, .add ho hp (fun j' hj' => ?_) hcert (hadd ▸ h3), ⟨fun e' h' he' ho' hh' => ?_, hF0, fun t ht => ⟨hfx t ht, ?_, ?_⟩⟩, fun k' hk' d' L' R' hp' => ?_⟩
        · show (if δ.d ∈ T j then φ j (s.e δ.d) else s1'.e δ.d) = .un
          rw [if_pos hdT, hfix]; exact hF0
        · have h5 := hF1 e' h' (fun t ht => (he' t ht).trans (hne t fun h => ht (h ▸ hdT)).symm) (fun t ht => by
            by_cases htd : t = δ.d
            · subst htd
              rcases ho' _ ht with h | h
              · exact .inr (h.trans hfix)
              · exact .inr h
            · rcases ho' t ht with h | h
              · exact .inl (h.trans (hne t htd).symm)
              · exact .inr h) (fun t ht => (hh' t ht).trans (hneh t fun h => ht (h ▸ hdT)).symm)
          rw [hg] at h5
          have e4 : (fun t => if t ∈ T j then φ j (e' t) else s1'.e t) = fun t => if t ∈ T j then φ j (e' t) else s1a.e t := by
            funext t
            by_cases htT : t ∈ T j
            · rw [if_pos htT, if_pos htT]
            · rw [if_neg htT, if_neg htT]
              show s1'.e t = if t ∈ T j then φ j (s.e t) else s1'.e t
              rw [if_neg htT]
          have e5 : (fun t => if t ∈ T j then h' t else s1'.h t) = fun t => if t ∈ T j then h' t else s1a.h t := by
            funext t
            by_cases htT : t ∈ T j
            · rw [if_pos htT, if_pos htT]
            · rw [if_neg htT, if_neg htT]
              show s1'.h t = if t ∈ T j then s.h t else s1'.h t
              rw [if_neg htT]
          rw [e4, e5] at h5
          exact h5
        · show (if t ∈ T j then φ j (s.e t) else s1'.e t) = _
          rw [if_pos ht, hfx t ht]
        · show (if t ∈ T j then s.h t else s1'.h t) = _
          rw [if_pos ht]
        · obtain ⟨g1, g2, g3, g4⟩ := hT k' hk' d' L' R' hp'
          refine ⟨g1, g2, fun t ht => ?_, fun i hi => ?_⟩
          · by_cases htT : t ∈ T j
            · exact .inl htT
            · refine .inr ?_
              show (if t ∈ T j then φ j (s.e t) else s1'.e t) = _
              rw [if_neg htT]
              have := (g3 t ht).resolve_left htT
              rw [this, hne t fun h => htT (h ▸ hdT)]
          · show (if i ∈ T j then s.h i else s1'.h i) = s.h i
            by_cases hiT : i ∈ T j
            · rw [if_pos hiT]
            · rw [if_neg hiT, g4 i hi, hneh i fun h => hiT (h ▸ hdT)]
      · show (if t ∈ T j then φ j (s.e t) else s1'.e t) = s.e t
        by_cases htT : t ∈ T j
        · rw [if_pos htT, hfx t htT]
        · rw [if_neg htT, (hL t ht).resolve_left htT, hne t fun h => htT (h ▸ hdT)]
theorem ChainP.first {plan : Nat → Option Foot} {i : Nat} {pre post : List Nat} {s s2 : FS} (hk : ∀ k ∈ pre, pairK K plan k i = true) (h : ChainP P nt ops plan K T φ (pre ++ i :: post) s s2) :
    ∃ o s1, ops[i]? = some o ∧ StepA P nt ops o s s1 ∧ ChainP P nt ops plan K T φ (pre ++ post) s1 s2 := by
  by_cases hall : ∀ k ∈ pre, pairOk (plan k) (plan i) = true
  · obtain ⟨o, s1, h1, h2, h3, -⟩ := ChainP.firstA hall h
    exact ⟨o, s1, h1, h2, h3⟩
  · have hex : ∃ k, k ∈ pre ∧ ¬ pairOk (plan k) (plan i) = true := Classical.byContradiction fun hno => hall fun k hk => Classical.byContradiction fun hn => hno ⟨k, hk, hn⟩
    obtain ⟨k, hkm, hkn⟩ := hex
    have h1 := hk k hkm
    simp only [pairK, Bool.or_eq_true, Bool.and_eq_true, beq_iff_eq] at h1
    have h1 := h1.resolve_left hkn
    obtain ⟨⟨hkK, hno⟩, _⟩ := h1
    have hne : K i ≠ [] := fun h => by rw [h] at hkK; simp at hkK
    have hpn : plan i = none := by
      cases hp : plan i with
      | none => rfl
      | some f => rw [hp] at hno; cases hno
    obtain ⟨o, s1, g1, g2, g3, -⟩ := ChainP.firstH hpn hne (pre := pre) (post := post) (fun k' hk' => by
      have h2 := hk k' hk'
      have h3 : pairOk (plan k') (plan i) = false := by
        rw [hpn]
        cases plan k' with
        | none => rfl
        | some f => obtain ⟨_, _, _⟩ := f; rfl
      simp only [pairK, h3, Bool.false_or, Bool.and_eq_true] at h2
      exact ⟨by simpa using h2.1.1, h2.2⟩) h
    exact ⟨o, s1, g1, g2, g3⟩
/-- An order to begin with: what stands behind another is not asked for by it, and may come ahead of it or must follow it. -/
def ordOk (md : Region.Mode) (ops : Array Oper) (K : Nat → List Nat) (plan : Nat → Option Foot) (tb : List (List Nat)) : List Nat → Bool
  | [] => true
  | x :: l => (l.all fun y => ((tb.getD y []).contains x || pairK K plan x y) && !(tb.getD x []).contains y && (match ops[x]? with | some o => o.after.all fun e => !(Region.binds md e) || !(e.on == y) | none => true)) && ordOk md ops K plan tb l
theorem ordOk_pair {md : Region.Mode} {plan : Nat → Option Foot} {tb : List (List Nat)} : ∀ {pre post : List Nat} {x y : Nat}, ordOk md ops K plan tb (pre ++ x :: post) = true → y ∈ post → (x ∈ tb.getD y [] ∨ pairK K plan x y = true) ∧ ∀ o, ops[x]? = some o → ∀ e ∈ o.after, Region.binds md e = true → e.on ≠ y
  | [], post, x, y, h, hy => by
    simp only [List.nil_append, ordOk, Bool.and_eq_true, List.all_eq_true] at h
    obtain ⟨⟨h1, h2⟩, h3⟩ := h.1 y hy
    refine ⟨by simpa using h1, fun o ho e he hb heq => ?_⟩
    rw [ho] at h3
    simp only [Array.all_eq_true_iff_forall_mem] at h3
    have := h3 e he
    simp [hb, heq] at this
  | p :: pre, post, x, y, h, hy => by
    simp only [List.cons_append, ordOk, Bool.and_eq_true] at h
    exact ordOk_pair h.2 hy
theorem ordOk_sub {md : Region.Mode} {plan : Nat → Option Foot} {tb : List (List Nat)} : ∀ {l l' : List Nat}, l'.Sublist l → ordOk md ops K plan tb l = true → ordOk md ops K plan tb l' = true := by
  intro l l' hs
  induction hs with
  | slnil => intro h; exact h
  | cons x hs ih => intro h; simp only [ordOk, Bool.and_eq_true] at h; exact ih h.2
  | cons_cons x hs ih =>
    intro h
    simp only [ordOk, Bool.and_eq_true, List.all_eq_true] at h ⊢
    exact ⟨fun y hy => h.1 y (hs.subset hy), ih h.2⟩
theorem chainP_any {md : Region.Mode} {plan : Nat → Option Foot} {tb : List (List Nat)} {Q : Exit → Act → World → Prop} {s2 : FS} (ht : tableOk md ops tb = true) (hQ : ∀ (M1 : Heap) (a1 : Act) (w1 : World), Rel S0 w0 nt s2 M1 a1 w1 → Q .normal a1 w1) :
    ∀ (fuel : Nat) (l : List Nat) (listed : Array Bool) {s : FS} {M : Heap} {a : Act} {w : World}, l.length ≤ fuel → l.Nodup → ordOk md ops K plan tb l = true → (∀ j ∈ l, j < ops.size) → listed.size = ops.size → (∀ j, j < ops.size → (listed.getD j true = false ↔ j ∈ l)) →
      (∀ j o, ops[j]? = some o → j ∉ l → ∀ e ∈ o.after, Region.binds md e = true → e.on ∉ l) → ChainP P nt ops plan K T φ l s s2 → Rel S0 w0 nt s M a w → wpAny P md ops Q fuel listed a w := by
  intro fuel
  have hready : ∀ (l : List Nat) (listed : Array Bool), listed.size = ops.size → (∀ j ∈ l, j < ops.size) → (∀ j, j < ops.size → (listed.getD j true = false ↔ j ∈ l)) → ∀ i, i ∈ Region.ready md ops listed ↔ i ∈ l ∧ ∃ o, ops[i]? = some o ∧ ∀ e ∈ o.after, Region.binds md e = true → e.on ∉ l := by
    intro l listed hsz hl hli i
    rw [mem_ready]
    constructor
    · rintro ⟨h0, o, ho, he⟩
      have hi : i < ops.size := (Array.getElem?_eq_some_iff.1 ho).1
      refine ⟨(hli i hi).1 h0, o, ho, fun e hem hb hin => ?_⟩
      have h1 := he e hem hb
      have h2 := (hli e.on (hl _ hin)).2 hin
      have hlt : e.on < listed.size := by rw [hsz]; exact hl _ hin
      rw [Array.getD_eq_getD_getElem?, Array.getElem?_eq_getElem hlt] at h1 h2
      rw [Option.getD_some] at h1 h2
      rw [h1] at h2; cases h2
    · rintro ⟨hi, o, ho, he⟩
      refine ⟨(hli i (hl i hi)).2 hi, o, ho, fun e hem hb => ?_⟩
      have hlt := (table_spec ht ho).2 e hem hb
      have hlt2 : e.on < ops.size := by have := (Array.getElem?_eq_some_iff.1 ho).1; omega
      have h2 : ¬ listed.getD e.on true = false := fun h => he e hem hb ((hli e.on hlt2).1 h)
      have hlt3 : e.on < listed.size := by omega
      rw [Array.getD_eq_getD_getElem?, Array.getElem?_eq_getElem hlt3, Option.getD_some] at h2 ⊢
      simpa using h2
  have hnil : ∀ (l : List Nat) (listed : Array Bool), listed.size = ops.size → ordOk md ops K plan tb l = true → (∀ j ∈ l, j < ops.size) → (∀ j, j < ops.size → (listed.getD j true = false ↔ j ∈ l)) → Region.ready md ops listed = [] → l = [] := by
    intro l listed hsz hs hl hli hr
    cases l with
    | nil => rfl
    | cons i l =>
      have hi : i < ops.size := hl i List.mem_cons_self
      have : i ∈ Region.ready md ops listed := (hready _ listed hsz hl hli i).2 ⟨List.mem_cons_self, ops[i], Array.getElem?_eq_getElem hi, fun e he hb hin => by
        have h1 := (table_spec ht (Array.getElem?_eq_getElem hi)).2 e he hb
        rcases List.mem_cons.1 hin with h | h
        · omega
        · exact (ordOk_pair (pre := []) hs h).2 _ (Array.getElem?_eq_getElem hi) e he hb rfl⟩
      rw [hr] at this; cases this
  induction fuel with
  | zero =>
    intro l listed s M a w hlen hnd hs hl hsz hli hcl hch hR
    have : l = [] := List.length_eq_zero_iff.1 (by omega)
    subst this
    cases hch with
    | nil =>
      refine ⟨?_, hQ M a w hR⟩
      cases hr : Region.ready md ops listed with
      | nil => rfl
      | cons i r =>
        have := (hready [] listed hsz hl hli i).1 (by rw [hr]; exact List.mem_cons_self)
        simp at this
  | succ fuel ih =>
    intro l listed s M a w hlen hnd hs hl hsz hli hcl hch hR
    refine ⟨fun hr => ?_, fun i hi => ?_⟩
    · have := hnil l listed hsz hs hl hli hr
      subst this
      cases hch with
      | nil => exact hQ M a w hR
    · obtain ⟨hil, o, ho, he⟩ := (hready l listed hsz hl hli i).1 hi
      obtain ⟨pre, post, rfl⟩ := List.append_of_mem hil
      rw [List.nodup_append, List.nodup_cons] at hnd
      obtain ⟨hn1, ⟨hipost, hn3⟩, hn4⟩ := hnd
      have hipre : i ∉ pre := fun h => hn4 i h i List.mem_cons_self rfl
      have hilt : i < ops.size := hl i hil
      have hpair : ∀ k ∈ pre, pairK K plan k i = true := fun k hk => by
        obtain ⟨p1, p2, rfl⟩ := List.append_of_mem hk
        have hord : ordOk md ops K plan tb (p1 ++ k :: (p2 ++ i :: post)) = true := by simpa using hs
        rcases (ordOk_pair hord (y := i) (List.mem_append_right _ List.mem_cons_self)).1 with h | h
        · exfalso
          obtain ⟨e, hem, hb, hlt, hor⟩ := (table_spec ht ho).1 k h
          have h1 := he e hem hb
          have hkl : k ∈ (p1 ++ k :: p2) ++ i :: post := List.mem_append_left _ hk
          rcases hor with rfl | hk'
          · exact h1 hkl
          · exact before_listed ht (D := fun j => j ∉ (p1 ++ k :: p2) ++ i :: post) (fun j o hj hd e he hb => hcl j o hj hd e he hb) e.on (by omega) h1 k hk' hkl
        · exact h
      obtain ⟨o', s1, h1, h2, h3⟩ := ChainP.first hpair hch
      refine h2.wpOp h1 hR fun M1 a1 w1 hR1 => ih (pre ++ post) (listed.setIfInBounds i true) ?_ ?_ ?_ (fun j hj => hl j ?_) (by simpa using hsz) (fun j hj => ?_) (fun j oj hoj hj e hem hb => ?_) h3 hR1
      · simp only [List.length_append, List.length_cons] at hlen ⊢; omega
      · rw [List.nodup_append]
        exact ⟨hn1, hn3, fun x hx y hy => hn4 x hx y (List.mem_cons_of_mem _ hy)⟩
      · exact ordOk_sub (List.Sublist.append_left (List.sublist_cons_self _ _) _) hs
      · rcases List.mem_append.1 hj with h | h
        · exact List.mem_append_left _ h
        · exact List.mem_append_right _ (List.mem_cons_of_mem _ h)
      · by_cases hji : j = i
        · subst hji
          have : (listed.setIfInBounds j true).getD j true = true := by
            rw [Array.getD_eq_getD_getElem?, Array.getElem?_setIfInBounds_self_of_lt (by omega)]; rfl
          rw [this]
          simp [hipre, hipost]
        · rw [getD_set_ne true (Ne.symm hji), hli j hj]
          simp [hji]
      · have hsub : ∀ x, x ∈ pre ++ post → x ∈ pre ++ i :: post := fun x hx => by
          rcases List.mem_append.1 hx with h | h
          · exact List.mem_append_left _ h
          · exact List.mem_append_right _ (List.mem_cons_of_mem _ h)
        by_cases hji : j = i
        · subst hji
          rw [ho] at hoj
          obtain rfl := Option.some.inj hoj
          exact fun h => he e hem hb (hsub _ h)
        · have hj' : j ∉ pre ++ i :: post := fun h => by
            rcases List.mem_append.1 h with h | h
            · exact hj (List.mem_append_left _ h)
            · rcases List.mem_cons.1 h with h | h
              · exact hji h
              · exact hj (List.mem_append_right _ h)
          exact fun h => hcl j oj hoj hj' e hem hb (hsub _ h)
theorem DW.drawP {id : Nat} {Q : Exit → FS → Prop} {plan : Nat → Option Foot} {s2 : FS} (tb : List (List Nat)) (ord : List Nat) (hm : P.follows .mixedOrders = true) (ht : tableOk .any ops tb = true) (hperm : ord.isPerm (List.range ops.size) = true) (hp : ordOk .any ops K plan tb ord = true) (hc : ChainP P nt ops plan K T φ ord s s2) (h : Q .normal s2) :
    DW P nt (.region id ops true) s Q := fun S0 w0 M a w hR => by
  have hpm : ord.Perm (List.range ops.size) := List.isPerm_iff.1 hperm
  refine wp_region_any hm ?_
  refine chainP_any ht (fun M1 a1 w1 h1 => ⟨s2, M1, h, h1⟩) ops.size ord _ (by rw [hpm.length_eq]; simp) (hpm.nodup_iff.2 List.nodup_range) hp (fun j hj => List.mem_range.1 (hpm.mem_iff.1 hj)) (by simp) (fun j hj => ?_) (fun j o ho hj => ?_) hc hR.drawn
  · simp [hj, hpm.mem_iff]
  · exact absurd (hpm.mem_iff.2 (List.mem_range.2 (Array.getElem?_eq_some_iff.1 ho).1)) hj
def planOf (acc : List (Nat × Option Foot)) (i : Nat) : Option Foot := match acc.find? (fun p => p.1 == i) with | some p => p.2 | none => none
/-- A region, step by step, in the order ord. -/
def RegP (P : Program) (nt : Nat) (ops : Array Oper) (K T : Nat → List Nat) (φ : Nat → DV → DV) : List Nat → List (Nat × Option Foot) → FS → (List (Nat × Option Foot) → FS → Prop) → Prop
  | [], acc, s, N => N acc s
  | i :: l, acc, s, N => ∃ o, ops[i]? = some o ∧ ((∃ L R δ, Cert P nt ops o L R δ s ∧ (∀ j, i ∈ K j → s.e δ.d = .un) ∧ RegP P nt ops K T φ l (acc ++ [(i, some (δ.d, L, R))]) (s.add δ) N) ∨
      (∃ s1, StepA P nt ops o s s1 ∧ (K i ≠ [] → FreeP P nt ops o (T i) (φ i) s s1 ∧ (∀ k ∈ K i, k ∈ acc.map Prod.fst) ∧ FootK (planOf acc) (K i) (T i) s s1) ∧ RegP P nt ops K T φ l (acc ++ [(i, none)]) s1 N))
theorem planOf_append {acc : List (Nat × Option Foot)} {q : List (Nat × Option Foot)} {k : Nat} (h : k ∈ acc.map Prod.fst) : planOf (acc ++ q) k = planOf acc k := by
  unfold planOf
  rw [List.find?_append]
  obtain ⟨p, hp, rfl⟩ := List.mem_map.1 h
  cases hf : acc.find? (fun x => x.1 == p.1) with
  | none => exact absurd (List.find?_eq_none.1 hf p hp) (by simp)
  | some x => rfl
theorem planOf_last {acc : List (Nat × Option Foot)} {q : List (Nat × Option Foot)} {k : Nat} {f : Option Foot} (h : k ∉ acc.map Prod.fst) : planOf (acc ++ (k, f) :: q) k = f := by
  unfold planOf
  rw [List.find?_append]
  cases hf : acc.find? (fun x => x.1 == k) with
  | none => simp
  | some x =>
    exfalso
    refine h (List.mem_map.2 ⟨x, List.mem_of_find?_eq_some hf, ?_⟩)
    have := List.find?_some hf
    simpa using this
theorem regP_chain {N : List (Nat × Option Foot) → FS → Prop} : ∀ {l : List Nat} {acc : List (Nat × Option Foot)} {s : FS}, (acc.map Prod.fst ++ l).Nodup → RegP P nt ops K T φ l acc s N →
    ∃ pl s2, N (acc ++ pl) s2 ∧ pl.map Prod.fst = l ∧ ChainP P nt ops (planOf (acc ++ pl)) K T φ l s s2
  | [], acc, s, hn, h => ⟨[], s, by simpa [RegP] using h, rfl, .nil s⟩
  | i :: l, acc, s, hn, h => by
    obtain ⟨o, ho, h⟩ := h
    have hi : i ∉ acc.map Prod.fst := fun hi => by
      rw [List.nodup_append] at hn
      exact hn.2.2 i hi i List.mem_cons_self rfl
    have hn' : ∀ f : Option Foot, ((acc ++ [(i, f)]).map Prod.fst ++ l).Nodup := fun f => by simpa using hn
    rcases h with ⟨L, R, δ, hc, hx, hr⟩ | ⟨s1, hc, hx, hr⟩
    · obtain ⟨pl, s2, h1, h2, h3⟩ := regP_chain (hn' _) hr
      rw [List.append_assoc] at h1 h3
      exact ⟨(i, some (δ.d, L, R)) :: pl, s2, h1, by simp [h2], .add ho (planOf_last hi) hx hc h3⟩
    · obtain ⟨pl, s2, h1, h2, h3⟩ := regP_chain (hn' _) hr
      rw [List.append_assoc] at h1 h3
      refine ⟨(i, none) :: pl, s2, h1, by simp [h2], .heavy ho (planOf_last hi) hc (fun e => ?_) h3⟩
      obtain ⟨g1, g2, g3⟩ := hx e
      exact ⟨g1, fun k' hk' d L R hpl => g3 k' hk' d L R (by rw [planOf_append (g2 k' hk')] at hpl; exact hpl)⟩
/-- A region whose order is not told, begun in the order ord. -/
theorem DW.drawnP (ord : List Nat) (K T : Nat → List Nat) (φ : Nat → DV → DV) {id : Nat} {l : List Oper} {Q : Exit → FS → Prop} (hm : P.follows .mixedOrders = true) (ht : tableOk .any l.toArray (tableOf l) = true) (hperm : ord.isPerm (List.range l.length) = true) (h : RegP P nt l.toArray K T φ ord [] s fun pl s2 => ordOk .any l.toArray K (planOf pl) (tableOf l) ord = true ∧ Q .normal s2) : DW P nt (.region id l.toArray true) s Q := by
  have hnd : ord.Nodup := (List.isPerm_iff.1 hperm).nodup_iff.2 List.nodup_range
  obtain ⟨pl, s2, ⟨h1, h2⟩, h3, h4⟩ := regP_chain (ops := l.toArray) (by simpa using hnd) h
  exact DW.drawP (K := K) (T := T) (φ := φ) (tableOf l) ord hm ht (by simpa using hperm) (by simpa using h1) (by simpa using h4) h2
theorem RegP.add {N : List (Nat × Option Foot) → FS → Prop} {i : Nat} {o : Oper} {l : List Nat} {acc : List (Nat × Option Foot)} {δ : Add} (ho : ops[i]? = some o) (ha : addF P nt ops o s = some δ) (hk : ∀ j, i ∈ K j → s.e δ.d = .un) (hr : RegP P nt ops K T φ l (acc ++ [(i, some (δ.d, o.looksAt ops, refsO s o))]) (s.add δ) N) : RegP P nt ops K T φ (i :: l) acc s N :=
  ⟨o, ho, .inl ⟨_, _, δ, cert_of_addF ha, hk, hr⟩⟩
theorem RegP.cert {N : List (Nat × Option Foot) → FS → Prop} {i : Nat} {o : Oper} {l : List Nat} {acc : List (Nat × Option Foot)} {L R : List Nat} {δ : Add} (ho : ops[i]? = some o) (hc : Cert P nt ops o L R δ s) (hk : ∀ j, i ∈ K j → s.e δ.d = .un) (hr : RegP P nt ops K T φ l (acc ++ [(i, some (δ.d, L, R))]) (s.add δ) N) : RegP P nt ops K T φ (i :: l) acc s N :=
  ⟨o, ho, .inl ⟨_, _, δ, hc, hk, hr⟩⟩
theorem RegP.heavyF {N : List (Nat × Option Foot) → FS → Prop} {i : Nat} {o : Oper} {l : List Nat} {acc : List (Nat × Option Foot)} (ho : ops[i]? = some o) (hw : wantedD ops o s.e = some true) (hc : stepF P nt o s = some s1) (hj : K i = []) (hr : RegP P nt ops K T φ l (acc ++ [(i, none)]) s1 N) : RegP P nt ops K T φ (i :: l) acc s N :=
  ⟨o, ho, .inr ⟨s1, .inl ⟨hw, OpStep.of hc⟩, fun h => absurd hj h, hr⟩⟩
/-- A heavy step that may come ahead of the steps of K. -/
theorem RegP.swap {N : List (Nat × Option Foot) → FS → Prop} {i : Nat} {o : Oper} {l : List Nat} {acc : List (Nat × Option Foot)} (ho : ops[i]? = some o) (hw : o.guard = none) (hc : ∀ (e' : Nat → DV) (h' : Nat → Option D), (∀ t, t ∉ T i → e' t = s.e t) → (∀ t ∈ T i, e' t = s.e t ∨ e' t = .un) → (∀ t, t ∉ T i → h' t = s.h t) → OpStep P nt o ⟨e', h', s.g⟩ ⟨fun t => if t ∈ T i then φ i (e' t) else s1.e t, fun t => if t ∈ T i then h' t else s1.h t, s1.g⟩)
    (h0 : φ i .un = .un) (hT : ∀ t ∈ T i, φ i (s.e t) = s.e t ∧ s1.e t = s.e t ∧ s1.h t = s.h t) (hK : ∀ k ∈ K i, k ∈ acc.map Prod.fst) (hf : FootK (planOf acc) (K i) (T i) s s1) (hr : RegP P nt ops K T φ l (acc ++ [(i, none)]) s1 N) : RegP P nt ops K T φ (i :: l) acc s N := by
  have hwant : ∀ s' : FS, wantedD ops o s'.e = some true := fun s' => by simp [wantedD, hw]
  refine ⟨o, ho, .inr ⟨s1, .inl ⟨hwant _, ?_⟩, fun _ => ⟨⟨fun e' h' he ho hh => .inl ⟨hwant _, hc e' h' he ho hh⟩, h0, hT⟩, hK, hf⟩, hr⟩⟩
  have h0 := hc s.e s.h (fun _ _ => rfl) (fun _ _ => .inl rfl) (fun _ _ => rfl)
  have e1 : (⟨fun t => if t ∈ T i then φ i (s.e t) else s1.e t, fun t => if t ∈ T i then s.h t else s1.h t, s1.g⟩ : FS) = s1 := by
    have h1 : (fun t => if t ∈ T i then φ i (s.e t) else s1.e t) = s1.e := by
      funext t
      split
      · rename_i ht; rw [(hT t ht).1, (hT t ht).2.1]
      · rfl
    have h2 : (fun t => if t ∈ T i then s.h t else s1.h t) = s1.h := by
      funext t
      split
      · rename_i ht; rw [(hT t ht).2.2]
      · rfl
    rw [h1, h2]
  rw [e1] at h0
  exact h0
end
end
end Go.Proofs.Ytciieaidbiejmaa.DM

/-
  DM 51. In a region whose order is not told: a call with a pointer to a row, that may come ahead of steps that add.
-/
namespace Go.Proofs.Ytciieaidbiejmaa.DM
set_option linter.unusedVariables false
set_option linter.unusedSimpArgs false
section
variable {P : Program} {nt : Nat} {s s1 : FS} {ops : Array Oper} {K T : Nat → List Nat} {φ : Nat → DV → DV}
/-- A move looks at its temporary alone. -/
theorem Cert.mv {o : Oper} {x : Operand} {d : Nat} (ho : o.op = .move x) (hg : o.guard = none) (hd : o.dst = some d) (hdn : d < nt) : Cert P nt ops o (o.looksAt ops) [] ⟨d, ev s.e x, none⟩ s := fun s' he hh => .inl ⟨by simp [wantedD, hg], OpStep.of (by
  have h1 : ev s'.e x = ev s.e x := ev_local he x (by rw [ho]; simp [Op.operands])
  simp [-ev, stepF, quietF, quietV, ho, hd, hdn, FS.add, FS.set, h1])⟩
/-- The state behind the call. -/
def ptrFS (s : FS) (id k d : Nat) (cs' : List D) (v : DV) : FS := ⟨fun t => if t = d then v else mapV (pzR id [] 0 k) (s.e t), upd s.h id (some (.ow () k 1 cs')), fun t => pzR id [] 0 k (s.g t)⟩
theorem RegP.ptr {N : List (Nat × Option Foot) → FS → Prop} {i : Nat} {o : Oper} {l : List Nat} {acc : List (Nat × Option Foot)} {f : Operand} {args : Array Operand} {ats : Array TypeId} {g d id : Nat} {vs : List DV} {v1 : DV} {cs cs' : List D} {rest : List PA} {v : Value}
    (ho : ops[i]? = some o) (hS : Spec P g (.ptr cs :: rest) [none] [.sc v] (.ptr cs' :: rest)) (hop : o.op = .call { callee := .value f, args := args, argTypes := ats }) (hg : o.guard = none) (hd : o.dst = some d) (hdn : d < nt)
    (hc : ∀ e' h' g', (∀ t, t ∉ T i → e' t = s.e t) → callArgs ⟨e', h', g'⟩ f args.toList = some (g, .v (.one (.pt id [] 0)) :: vs))
    (hc1 : ∀ e' h' g', (∀ t, t ∉ T i → e' t = s.e t) → callArgs (FS.lend ⟨e', h', g'⟩ id [] (.ow () cs.length 1 cs)) f args.toList = some (g, v1 :: vs))
    (hro : ∀ s' : FS, rosOk s' 0 1 vs rest) (hw : widen 0 1 vs = false) (hroot : s.h id = some (.ow () cs.length 1 cs)) (hlen : cs'.length = cs.length) (hk : 1 < cs.length) (hidT : id ∉ T i) (hdT : d ∉ T i)
    (hφ : φ i = mapV (pzR id [] 0 cs.length)) (hT : ∀ t ∈ T i, mapV (pzR id [] 0 cs.length) (s.e t) = s.e t) (hK : ∀ k ∈ K i, k ∈ acc.map Prod.fst) (hf : FootK (planOf acc) (K i) (T i) s (ptrFS s id cs.length d cs' (.v (.one (.t (.sc v))))))
    (hr : RegP P nt ops K T φ l (acc ++ [(i, none)]) (ptrFS s id cs.length d cs' (.v (.one (.t (.sc v))))) N) : RegP P nt ops K T φ (i :: l) acc s N := by
  have hne : ∀ t ∈ T i, t ≠ d := fun t ht e => hdT (e ▸ ht)
  have hnid : ∀ t ∈ T i, t ≠ id := fun t ht e => hidT (e ▸ ht)
  refine RegP.swap ho hg (fun e' h' he hoT hh => ?_) (by rw [hφ]; rfl) (fun t ht => ⟨by rw [hφ]; exact hT t ht, ?_, ?_⟩) hK hf hr
  · have hroot' : h' id = some (.ow () cs.length 1 cs) := (hh id hidT).trans hroot
    have hfin : finish nt (ptBack ⟨e', h', s.g⟩ id [] (.ow () cs.length 1 cs) cs.length 1 0 cs cs') o.dst [none] [.sc v] = some ⟨upd (fun t => mapV (pzR id [] 0 (0 + cs'.length)) (e' t)) d (.v (.one (.t (.sc v)))), upd h' id (some (.ow () cs.length 1 (cs.take 0 ++ (cs' ++ cs.drop (0 + cs'.length))))), fun t => pzR id [] 0 (0 + cs'.length) (s.g t)⟩ := by
      rw [hd]; simp [finish, ptBack, rdCs, rdC, flatD, hdn, packDV, packD, DM.T.put]
    have h := OpStep.callP (P := P) (nt := nt) (s := ⟨e', h', s.g⟩) (io := 0) (id := id) (off := 0) (p := []) (sz := cs.length) (n := 1) (root := .ow () cs.length 1 cs) (cs0 := cs) (cs := cs) (cs' := cs') hop (hc e' h' s.g he) hS rfl rfl rfl hroot' rfl (by simp) (by simp) (by omega) (hc1 e' h' s.g he) ⟨fun h => absurd rfl h, hro _⟩ (.inl (by simpa [widen] using hw)) hfin (by constructor <;> intro h <;> omega)
    refine cast (congrArg (OpStep P nt o ⟨e', h', s.g⟩) ?_) h
    have e1 : upd (fun t => mapV (pzR id [] 0 (0 + cs'.length)) (e' t)) d (.v (.one (.t (.sc v)))) = fun t => if t ∈ T i then φ i (e' t) else (ptrFS s id cs.length d cs' (.v (.one (.t (.sc v))))).e t := by
      funext t
      rw [hφ, Nat.zero_add, hlen]
      by_cases htT : t ∈ T i
      · rw [if_pos htT, upd_ne _ _ _ _ (hne t htT)]
      · rw [if_neg htT]
        show upd _ _ _ _ = if t = d then _ else _
        by_cases htd : t = d
        · subst htd; rw [upd_same, if_pos rfl]
        · rw [upd_ne _ _ _ _ htd, if_neg htd, he t htT]
    have e2 : upd h' id (some (.ow () cs.length 1 (cs.take 0 ++ (cs' ++ cs.drop (0 + cs'.length))))) = fun t => if t ∈ T i then h' t else (ptrFS s id cs.length d cs' (.v (.one (.t (.sc v))))).h t := by
      funext t
      rw [Nat.zero_add, hlen, List.drop_length, List.append_nil, List.take_zero, List.nil_append]
      by_cases htT : t ∈ T i
      · rw [if_pos htT, upd_ne _ _ _ _ (hnid t htT)]
      · rw [if_neg htT]
        show _ = upd s.h id _ t
        by_cases hti : t = id
        · subst hti; rw [upd_same, upd_same]
        · rw [upd_ne _ _ _ _ hti, upd_ne _ _ _ _ hti, hh t htT]
    have e3 : (fun t => pzR id [] 0 (0 + cs'.length) (s.g t)) = (ptrFS s id cs.length d cs' (.v (.one (.t (.sc v))))).g := by
      rw [Nat.zero_add, hlen]; rfl
    rw [e1, e2, e3]
  · show (if t = d then _ else _) = _
    rw [if_neg (hne t ht)]; exact hT t ht
  · exact upd_ne _ _ _ _ (hnid t ht)
end
attribute [simp] ptrFS
end Go.Proofs.Ytciieaidbiejmaa.DM

/-
  DM 52. Runs that end in one state: what a function computes may be told as 'there is a result', without a name for it.
-/
namespace Go.Proofs.Ytciieaidbiejmaa.DM
set_option linter.unusedVariables false
set_option linter.unusedSimpArgs false
section
variable {P : Program} {nt : Nat} {s s1 : FS} {ops : Array Oper}
def One (e0 : Exit) (s0 : FS) : Exit → FS → Prop := fun e s => e = e0 ∧ s = s0
def DX (P : Program) (nt : Nat) (c : Code) (s : FS) (Q : Exit → FS → Prop) : Prop := ∃ e1 s1, Q e1 s1 ∧ DW P nt c s (One e1 s1)
theorem DX.ghost {c : Code} {Q : Exit → FS → Prop} (hg : Ghost nt s s1) (h : DX P nt c s1 Q) : DX P nt c s Q := by
  obtain ⟨e, s2, hq, hd⟩ := h
  exact ⟨e, s2, hq, DW.ghost hg hd⟩
theorem DX.skip {Q : Exit → FS → Prop} (h : Q .normal s) : DX P nt .skip s Q := ⟨_, _, h, DW.skip ⟨rfl, rfl⟩⟩
theorem DX.exit {id : Nat} {Q : Exit → FS → Prop} (h : Q (.exit id) s) : DX P nt (.exit id) s Q := ⟨_, _, h, DW.exit ⟨rfl, rfl⟩⟩
theorem DX.ret {Q : Exit → FS → Prop} (h : Q .ret s) : DX P nt .ret s Q := ⟨_, _, h, DW.ret ⟨rfl, rfl⟩⟩
theorem DX.seq {x y : Code} {Q : Exit → FS → Prop} (h : DX P nt x s (thenQ (fun s1 => DX P nt y s1 Q) Q)) : DX P nt (.seq x y) s Q := by
  obtain ⟨e, s1, hq, hd⟩ := h
  cases e with
  | normal =>
    obtain ⟨e2, s2, hq2, hd2⟩ := hq
    exact ⟨e2, s2, hq2, DW.seq (hd.mono fun e' s' ⟨h1, h2⟩ => by subst h1; subst h2; exact hd2)⟩
  | _ => exact ⟨_, s1, hq, DW.seq (hd.mono fun e' s' ⟨h1, h2⟩ => by subst h1; subst h2; exact ⟨rfl, rfl⟩)⟩
theorem DX.condB {c : Operand} {x y : Code} {Q : Exit → FS → Prop} {t : Bool} (hc : CondIs (asSc (ev s.e c)) t) (ht : t = true → DX P nt x s Q) (hf : t = false → DX P nt y s Q) : DX P nt (.cond c x y) s Q := by
  cases t with
  | true => obtain ⟨e, s1, hq, hd⟩ := ht rfl; exact ⟨e, s1, hq, DW.condB hc (fun _ => hd) (fun h => by cases h)⟩
  | false => obtain ⟨e, s1, hq, hd⟩ := hf rfl; exact ⟨e, s1, hq, DW.condB hc (fun h => by cases h) (fun _ => hd)⟩
theorem DX.condT {c : Operand} {x y : Code} {Q : Exit → FS → Prop} (hc : asSc (ev s.e c) = some (.bool true)) (h : DX P nt x s Q) : DX P nt (.cond c x y) s Q := DX.condB hc (fun _ => h) (fun h => by cases h)
theorem DX.condF {c : Operand} {x y : Code} {Q : Exit → FS → Prop} (hc : asSc (ev s.e c) = some (.bool false)) (h : DX P nt y s Q) : DX P nt (.cond c x y) s Q := DX.condB hc (fun h => by cases h) (fun _ => h)
theorem DX.block {id : Nat} {c : Code} {Q : Exit → FS → Prop} (h : DX P nt c s (blockQ id Q)) : DX P nt (.block id c) s Q := by
  obtain ⟨e, s1, hq, hd⟩ := h
  cases e with
  | exit id' =>
    simp only [blockQ] at hq
    by_cases hid : id' = id
    · rw [if_pos hid] at hq
      exact ⟨_, s1, hq, DW.block (hd.mono fun e' s' ⟨h1, h2⟩ => by subst h1; subst h2; simp only [blockQ]; rw [if_pos hid]; exact ⟨rfl, rfl⟩)⟩
    · rw [if_neg hid] at hq
      exact ⟨_, s1, hq, DW.block (hd.mono fun e' s' ⟨h1, h2⟩ => by subst h1; subst h2; simp only [blockQ]; rw [if_neg hid]; exact ⟨rfl, rfl⟩)⟩
  | _ => exact ⟨_, s1, hq, DW.block (hd.mono fun e' s' ⟨h1, h2⟩ => by subst h1; subst h2; exact ⟨rfl, rfl⟩)⟩
theorem DX.norm {c : Code} {Q : Exit → FS → Prop} (e : List (Nat × DV)) (h : List (Nat × D)) (g : List (Nat × DC)) (he : chkE s e) (hh : chkH s h) (hg : chkG s g) (hr : refsOk e h g = true) (k : DX P nt c (St e h g) Q) : DX P nt c s Q :=
  DX.ghost (Ghost.sub (Sub.st he hh hg hr)) k
/-- The rounds of a loop. -/
inductive LoopRun (P : Program) (nt : Nat) (c : Code) (e0 : Exit) (s0 : FS) : FS → Nat → Prop
  | last {s : FS} : e0 ≠ .normal → DW P nt c s (One e0 s0) → LoopRun P nt c e0 s0 s 0
  | step {s s1 s2 : FS} {n : Nat} : DW P nt c s (One .normal s1) → Ghost nt s1 s2 → LoopRun P nt c e0 s0 s2 n → LoopRun P nt c e0 s0 s (n + 1)
theorem LoopRun.dw {c : Code} {e0 : Exit} {s0 : FS} {n : Nat} (h : LoopRun P nt c e0 s0 s n) : DW P nt (.loop c) s (One e0 s0) := by
  refine DW.loopG (fun n s => LoopRun P nt c e0 s0 s n) h ?_
  intro n s hr
  cases hr with
  | last h1 h2 =>
    refine h2.mono fun e s1 h => ?_
    obtain ⟨he, hs⟩ := h
    subst he; subst hs
    cases e with
    | normal => exact absurd rfl h1
    | _ => exact ⟨rfl, rfl⟩
  | step h1 h2 h3 =>
    refine h1.mono fun e s1 h => ?_
    obtain ⟨he, hs⟩ := h
    subst he; subst hs
    exact ⟨_, _, h2, Nat.lt_succ_self _, h3⟩
theorem DX.loopS {α : Type} {c : Code} {Q : Exit → FS → Prop} (I : α → Prop) (m : α → Nat) (ve : α → List (Nat × DV)) (vh : α → List (Nat × D)) (fe : List (Nat × DV)) (fh : List (Nat × D)) (g : List (Nat × DC)) (a0 : α) (hI : I a0)
    (he : chkE s (ve a0 ++ fe)) (hh : chkH s (vh a0 ++ fh)) (hg : chkG s g) (hr : refsOk (ve a0 ++ fe) (vh a0 ++ fh) g = true)
    (round : ∀ a, I a → DX P nt c (St (ve a ++ fe) (vh a ++ fh) g) (thenQ (fun s1 => ∃ a', I a' ∧ m a' < m a ∧ chkE s1 (ve a' ++ fe) ∧ chkH s1 (vh a' ++ fh) ∧ chkG s1 g ∧ refsOk (ve a' ++ fe) (vh a' ++ fh) g = true) Q)) : DX P nt (.loop c) s Q := by
  have key : ∀ (n : Nat) (a : α), m a ≤ n → I a → ∃ e1 s1 k, e1 ≠ Exit.normal ∧ Q e1 s1 ∧ LoopRun P nt c e1 s1 (St (ve a ++ fe) (vh a ++ fh) g) k := by
    intro n
    induction n with
    | zero =>
      intro a hn ha
      obtain ⟨e, s1, hq, hd⟩ := round a ha
      cases e with
      | normal => obtain ⟨a', _, h2, _⟩ := hq; omega
      | _ => exact ⟨_, s1, 0, (by intro h; cases h), hq, .last (by intro h; cases h) hd⟩
    | succ n ih =>
      intro a hn ha
      obtain ⟨e, s1, hq, hd⟩ := round a ha
      cases e with
      | normal =>
        obtain ⟨a', h1, h2, h3, h4, h5, h6⟩ := hq
        obtain ⟨e2, s2, k, g1, g2, g3⟩ := ih a' (by omega) h1
        exact ⟨e2, s2, k + 1, g1, g2, .step hd (Ghost.sub (Sub.st h3 h4 h5 h6)) g3⟩
      | _ => exact ⟨_, s1, 0, (by intro h; cases h), hq, .last (by intro h; cases h) hd⟩
  obtain ⟨e1, s1, k, _, h2, h3⟩ := key (m a0) a0 (Nat.le_refl _) hI
  exact ⟨e1, s1, h2, DW.ghost (Ghost.sub (Sub.st he hh hg hr)) h3.dw⟩
def RegOX (P : Program) (nt : Nat) (ops : Array Oper) (l : List Oper) (s : FS) (N : FS → Prop) : Prop := ∃ s1, N s1 ∧ RegO P nt ops l s (fun s' => s' = s1)
theorem RegOX.opN {N : FS → Prop} (n : Nat) {l : List Oper} (h : regF P nt ops (l.take n) s = Option.some s1) (hr : RegOX P nt ops (l.drop n) s1 N) : RegOX P nt ops l s N := by
  obtain ⟨s2, h1, h2⟩ := hr
  exact ⟨s2, h1, RegO.opN n h h2⟩
theorem RegOX.step {N : FS → Prop} {o : Oper} {l : List Oper} (hg : o.guard = none) (h : OpStep P nt o s s1) (hr : RegOX P nt ops l s1 N) : RegOX P nt ops (o :: l) s N := by
  obtain ⟨s2, h1, h2⟩ := hr
  exact ⟨s2, h1, RegO.step hg h h2⟩
theorem RegOX.stepT {N : FS → Prop} {o : Oper} {l : List Oper} (hw : wantedD ops o s.e = Option.some true) (h : OpStep P nt o s s1) (hr : RegOX P nt ops l s1 N) : RegOX P nt ops (o :: l) s N := by
  obtain ⟨s2, h1, h2⟩ := hr
  exact ⟨s2, h1, RegO.stepT hw h h2⟩
theorem RegOX.nil {N : FS → Prop} (h : N s) : RegOX P nt ops [] s N := ⟨s, h, RegO.nil rfl⟩
theorem DX.reg {id : Nat} {l : List Oper} {Q : Exit → FS → Prop} (h : regF P nt l.toArray l s = Option.some s1) (hq : Q .normal s1) : DX P nt (.region id l.toArray false) s Q := ⟨_, _, hq, DW.reg h ⟨rfl, rfl⟩⟩
theorem regO_mono {N N' : FS → Prop} (hN : ∀ s, N s → N' s) : ∀ {l : List Oper} {s : FS}, RegO P nt ops l s N → RegO P nt ops l s N'
  | [], s, h => hN s h
  | o :: l, s, h => by
    obtain ⟨b, hb, h1, h2⟩ := h
    refine ⟨b, hb, fun hbt => ?_, fun hbf => ?_⟩
    · obtain ⟨K, hK, hr⟩ := h1 hbt
      exact ⟨K, hK, fun s1 hs => regO_mono hN (hr s1 hs)⟩
    · exact ⟨(h2 hbf).1, regO_mono hN (h2 hbf).2⟩
theorem DX.regs {id : Nat} {l : List Oper} {Q : Exit → FS → Prop} (h : RegOX P nt l.toArray l s (Q .normal)) : DX P nt (.region id l.toArray false) s Q := by
  obtain ⟨s1, h1, h2⟩ := h
  exact ⟨_, s1, h1, DW.regs (regO_mono (fun s h => ⟨rfl, h⟩) h2)⟩
def RegDX (P : Program) (nt : Nat) (ops : Array Oper) (l : List Oper) (acc : List (Option Foot)) (s : FS) (N : List (Option Foot) → FS → Prop) : Prop := ∃ pl s1, N pl s1 ∧ RegD P nt ops l acc s (fun pl' s' => pl' = pl ∧ s' = s1)
theorem regD_mono {N N' : List (Option Foot) → FS → Prop} (hN : ∀ pl s, N pl s → N' pl s) : ∀ {l : List Oper} {acc : List (Option Foot)} {s : FS}, RegD P nt ops l acc s N → RegD P nt ops l acc s N'
  | [], acc, s, h => hN acc s h
  | o :: l, acc, s, h => by
    rcases h with ⟨L, R, δ, h1, h2⟩ | ⟨s1, h1, h2⟩
    · exact .inl ⟨L, R, δ, h1, regD_mono hN h2⟩
    · exact .inr ⟨s1, h1, regD_mono hN h2⟩
section
variable {N : List (Option Foot) → FS → Prop}
theorem RegDX.addN (n : Nat) {l : List Oper} {acc acc1 : List (Option Foot)} (h : regA P nt ops (l.take n) acc s = some (acc1, s1)) (hr : RegDX P nt ops (l.drop n) acc1 s1 N) : RegDX P nt ops l acc s N := by
  obtain ⟨pl, s2, h1, h2⟩ := hr
  exact ⟨pl, s2, h1, RegD.addN n h h2⟩
theorem RegDX.cert {o : Oper} {l : List Oper} {acc : List (Option Foot)} {L R : List Nat} {δ : Add} (hc : Cert P nt ops o L R δ s) (hr : RegDX P nt ops l (acc ++ [some (δ.d, L, R)]) (s.add δ) N) : RegDX P nt ops (o :: l) acc s N := by
  obtain ⟨pl, s2, h1, h2⟩ := hr
  exact ⟨pl, s2, h1, RegD.cert hc h2⟩
theorem RegDX.heavy {o : Oper} {l : List Oper} {acc : List (Option Foot)} (hc : StepA P nt ops o s s1) (hr : RegDX P nt ops l (acc ++ [none]) s1 N) : RegDX P nt ops (o :: l) acc s N := by
  obtain ⟨pl, s2, h1, h2⟩ := hr
  exact ⟨pl, s2, h1, RegD.heavy hc h2⟩
theorem RegDX.heavyF {o : Oper} {l : List Oper} {acc : List (Option Foot)} (hw : wantedD ops o s.e = some true) (hc : stepF P nt o s = some s1) (hr : RegDX P nt ops l (acc ++ [none]) s1 N) : RegDX P nt ops (o :: l) acc s N := by
  obtain ⟨pl, s2, h1, h2⟩ := hr
  exact ⟨pl, s2, h1, RegD.heavyF hw hc h2⟩
theorem RegDX.nil {acc : List (Option Foot)} (h : N acc s) : RegDX P nt ops [] acc s N := ⟨acc, s, h, RegD.nil ⟨rfl, rfl⟩⟩
end
theorem DX.drawn {id : Nat} {l : List Oper} {Q : Exit → FS → Prop} (hm : P.follows .mixedOrders = true) (ht : tableOk .any l.toArray (tableOf l) = true) (h : RegDX P nt l.toArray l [] s fun pl s2 => planOk (fun i => pl.getD i none) (tableOf l) l.length = true ∧ Q .normal s2) : DX P nt (.region id l.toArray true) s Q := by
  obtain ⟨pl, s1, ⟨h1, h2⟩, h3⟩ := h
  exact ⟨_, s1, h2, DW.drawn hm ht (regD_mono (fun pl' s' h => by obtain ⟨rfl, rfl⟩ := h; exact ⟨h1, rfl, rfl⟩) h3)⟩
def RegPX (P : Program) (nt : Nat) (ops : Array Oper) (K T : Nat → List Nat) (φ : Nat → DV → DV) (l : List Nat) (acc : List (Nat × Option Foot)) (s : FS) (N : List (Nat × Option Foot) → FS → Prop) : Prop := ∃ pl s1, N pl s1 ∧ RegP P nt ops K T φ l acc s (fun pl' s' => pl' = pl ∧ s' = s1)
section
variable {K T : Nat → List Nat} {φ : Nat → DV → DV} {N : List (Nat × Option Foot) → FS → Prop}
theorem regP_mono {N N' : List (Nat × Option Foot) → FS → Prop} (hN : ∀ pl s, N pl s → N' pl s) : ∀ {l : List Nat} {acc : List (Nat × Option Foot)} {s : FS}, RegP P nt ops K T φ l acc s N → RegP P nt ops K T φ l acc s N'
  | [], acc, s, h => hN acc s h
  | i :: l, acc, s, h => by
    obtain ⟨o, ho, h⟩ := h
    rcases h with ⟨L, R, δ, h1, h2, h3⟩ | ⟨s1, h1, h2, h3⟩
    · exact ⟨o, ho, .inl ⟨L, R, δ, h1, h2, regP_mono hN h3⟩⟩
    · exact ⟨o, ho, .inr ⟨s1, h1, h2, regP_mono hN h3⟩⟩
/-- A rule of drawn regions, for runs that end in one state. -/
theorem RegPX.of {i : Nat} {l : List Nat} {acc acc1 : List (Nat × Option Foot)} {s s1 : FS} (h : ∀ N' : List (Nat × Option Foot) → FS → Prop, RegP P nt ops K T φ l acc1 s1 N' → RegP P nt ops K T φ (i :: l) acc s N') (hr : RegPX P nt ops K T φ l acc1 s1 N) : RegPX P nt ops K T φ (i :: l) acc s N := by
  obtain ⟨pl, s2, h1, h2⟩ := hr
  exact ⟨pl, s2, h1, h _ h2⟩
theorem RegPX.nil {acc : List (Nat × Option Foot)} (h : N acc s) : RegPX P nt ops K T φ [] acc s N := ⟨acc, s, h, rfl, rfl⟩
theorem RegPX.add {i : Nat} {o : Oper} {l : List Nat} {acc : List (Nat × Option Foot)} {δ : Add} (ho : ops[i]? = some o) (ha : addF P nt ops o s = some δ) (hk : ∀ j, i ∈ K j → s.e δ.d = .un) (hr : RegPX P nt ops K T φ l (acc ++ [(i, some (δ.d, o.looksAt ops, refsO s o))]) (s.add δ) N) : RegPX P nt ops K T φ (i :: l) acc s N :=
  RegPX.of (fun _ => RegP.add ho ha hk) hr
theorem RegPX.cert {i : Nat} {o : Oper} {l : List Nat} {acc : List (Nat × Option Foot)} {L R : List Nat} {δ : Add} (ho : ops[i]? = some o) (hc : Cert P nt ops o L R δ s) (hk : ∀ j, i ∈ K j → s.e δ.d = .un) (hr : RegPX P nt ops K T φ l (acc ++ [(i, some (δ.d, L, R))]) (s.add δ) N) : RegPX P nt ops K T φ (i :: l) acc s N :=
  RegPX.of (fun _ => RegP.cert ho hc hk) hr
theorem RegPX.heavyF {i : Nat} {o : Oper} {l : List Nat} {acc : List (Nat × Option Foot)} (ho : ops[i]? = some o) (hw : wantedD ops o s.e = some true) (hc : stepF P nt o s = some s1) (hj : K i = []) (hr : RegPX P nt ops K T φ l (acc ++ [(i, none)]) s1 N) : RegPX P nt ops K T φ (i :: l) acc s N :=
  RegPX.of (fun _ => RegP.heavyF ho hw hc hj) hr
theorem DX.drawnP (ord : List Nat) (K T : Nat → List Nat) (φ : Nat → DV → DV) {id : Nat} {l : List Oper} {Q : Exit → FS → Prop} (hm : P.follows .mixedOrders = true) (ht : tableOk .any l.toArray (tableOf l) = true) (hperm : ord.isPerm (List.range l.length) = true) (h : RegPX P nt l.toArray K T φ ord [] s fun pl s2 => ordOk .any l.toArray K (planOf pl) (tableOf l) ord = true ∧ Q .normal s2) : DX P nt (.region id l.toArray true) s Q := by
  obtain ⟨pl, s1, ⟨h1, h2⟩, h3⟩ := h
  exact ⟨_, s1, h2, DW.drawnP ord K T φ hm ht hperm (regP_mono (fun pl' s' h => by obtain ⟨rfl, rfl⟩ := h; exact ⟨h1, rfl, rfl⟩) h3)⟩
end
/-- THE CONTRACT 'there is a result'. -/
theorem Spec.introX {f : Nat} {fn : Func} {c : Code} {az : List PA} {sh : List (Option Nat)} {n : Nat} {rs : List ResultVar} {Good : List D → List PA → Prop} (hf : P.funcs[f]? = some fn) (hb : fn.body = some c) (hnm : (fn.name == "runtime.NumGoroutine") = false) (hn : fn.ntmps = n) (hrs : fn.results.toList = rs)
    (hle : az.length ≤ n) (h : DX P n c (initFS az) (fun e s => ∃ ds az', Good ds az' ∧ endQ P rs az sh ds az' e s)) : ∃ ds az', Good ds az' ∧ Spec P f az sh ds az' := by
  obtain ⟨e, s1, ⟨ds, az', hg, hq⟩, hd⟩ := h
  exact ⟨ds, az', hg, Spec.intro hf hb hnm hn hrs hle (hd.mono fun e' s' h => by obtain ⟨rfl, rfl⟩ := h; exact hq)⟩
end
end Go.Proofs.Ytciieaidbiejmaa.DM

/-
  DM 53. Functions of the library at a row of no element.
-/
namespace Go.Proofs.Ytciieaidbiejmaa.DM
set_option linter.unusedVariables false
set_option linter.unusedSimpArgs false
section
variable {P : Program}
theorem Spec.read0 {f : Nat} (hE : Enters P f) (h : ∀ (p : Option Addr) (c : Nat) (w : World), Calls P f #[.slice p 0 c] w fun e w' => e = .returned (.tuple #[]) ∧ w' = w) : Spec P f [.one (.r (.sl 0 []))] [] [] [.one (.r (.sl 0 []))] := by
  refine ⟨hE, fun F w M vals hI hl hM hV hG => ?_⟩
  match vals, hl with
  | [v], _ =>
  obtain ⟨p, c, rfl⟩ : ∃ p c, v = .slice p 0 c := by
    have hv := (hV 0 _ v rfl rfl).1
    cases hv with
    | t _ _ hr => cases hr with
      | sl a n c cs vs => exact ⟨_, _, rfl⟩
      | em a c => exact ⟨_, _, rfl⟩
  refine Calls.mono (h p c w) ?_
  rintro e w' ⟨rfl, rfl⟩
  refine ⟨_, initFS [.one (.r (.sl 0 []))], M, [], rfl, hI, hM, hG, rfl, rfl, rfl, rfl, fun i pa hp => ⟨pa, hp, ?_⟩⟩
  rcases i with _ | i
  · simp at hp; subst hp; rfl
  · simp at hp
theorem Spec.give0 {f : Nat} (hE : Enters P f) (h : ∀ (p : Option Addr) (c : Nat) (w : World), Calls P f #[.slice p 0 c] w fun e w' => e = .returned (.slice p 0 c) ∧ w' = w) : Spec P f [.one (.c 1 0 [])] [none] [.ow () 1 0 []] [.one (.c 1 0 [])] := by
  refine ⟨hE, fun F w M vals hI hl hM hV hG => ?_⟩
  match vals, hl with
  | [v], _ =>
  have hv : RelC F w M (.sl 0 [0] 0 0) v := (hV 0 _ v rfl rfl).1
  have hM0 : some (T.hold [.ow () 1 0 []]) = (M 0).map er := hM 0
  cases hm : M 0 with
  | none => rw [hm] at hM0; cases hM0
  | some t =>
    rw [hm, Option.map_some, Option.some.injEq] at hM0
    obtain ⟨y, rfl, hy⟩ := er_hold1 hM0.symm
    obtain ⟨d0, csA, rfl, hcs⟩ := er_ow hy
    obtain rfl : csA = [] := by simpa using hcs
    have q : ∀ b o c sz m cs, at_ M 0 [0] (.ow (.blk b o c) sz m cs) → d0 = .blk b o c ∧ sz = 1 ∧ m = 0 ∧ cs = [] := fun b o c sz m cs hat => by
      obtain ⟨t, ht, hg⟩ := hat
      rw [hm, Option.some.injEq] at ht
      subst ht
      simp only [T.get, T.cells, List.getElem?_cons_zero, Option.some.injEq, T.ow.injEq] at hg
      exact ⟨hg.1, hg.2.1.symm, hg.2.2.1.symm, hg.2.2.2.symm⟩
    have hin : ∀ off n, off = 0 → n = 0 → RelC F w M (.sl 0 [0] off n) v → (∃ a, v = .slice a 0 0) ∨ ∃ b o c, d0 = .blk b o c ∧ v = .slice (some ⟨b, o, none⟩) 0 c := fun off n hoff hn hv => by
      cases hv with
      | se _ _ _ a => exact .inl ⟨a, rfl⟩
      | sl _ _ k _ b o c sz m cs hat hle =>
        obtain ⟨h1, h2, -, -⟩ := q _ _ _ _ _ _ hat
        subst h2
        have hk : k = 0 := by omega
        subst hk; subst hn
        exact .inr ⟨b, o, c, h1, by simp⟩
    rcases hin 0 0 rfl rfl hv with ⟨a, rfl⟩ | ⟨b, o, c, rfl, rfl⟩
    · refine Calls.mono (h a 0 w) ?_
      rintro e w' ⟨rfl, rfl⟩
      have h2 := hI.hands (Y := [.ow (.emp a) 1 0 []]) (fun y hy => by
        rw [List.mem_singleton.1 hy]
        exact ⟨.em a 1, by simp [T.blocks, T.blocksL_eq], rfl⟩)
      rw [List.nil_append] at h2
      refine ⟨_, ⟨fun _ => .un, fun id => (M id).map er, fun _ => .un⟩, M, [.ow (.emp a) 1 0 []], rfl, h2, fun _ => rfl, fun i => .un _, ?_, rfl, rfl, rfl, fun i pa hp => ?_⟩
      · simp [er, T.map, T.mapL_eq]
      · rcases i with _ | i
        · simp at hp; subst hp
          exact ⟨_, rfl, rfl⟩
        · simp at hp
    · refine Calls.mono (h _ _ w) ?_
      rintro e w' ⟨rfl, rfl⟩
      have h2 := hI.unlay hm
      refine ⟨_, ⟨fun _ => .un, fun id => (upd M 0 none id).map er, fun _ => .un⟩, _, _, rfl, h2, fun _ => rfl, fun i => .un _, ?_, rfl, ?_, rfl, fun i pa hp => ?_⟩
      · simp [er, T.map, T.mapL_eq]
      · simp [packV, packL, T.val]
      · rcases i with _ | i
        · simp at hp; subst hp
          exact ⟨_, rfl, rfl⟩
        · simp at hp
end
end Go.Proofs.Ytciieaidbiejmaa.DM
