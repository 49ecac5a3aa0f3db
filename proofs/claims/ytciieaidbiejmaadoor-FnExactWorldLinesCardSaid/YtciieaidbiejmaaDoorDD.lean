import Derived.Test.YtciieaidbiejmaaDoorDC
import Derived.Laws.StructEq
/-
  DM 43. make([]T, n) az an adding step in a drawn region.
-/
namespace Go.Proofs.YtciieaidbiejmaaDoor.DM
set_option linter.unusedVariables false
set_option linter.unusedSimpArgs false
section
variable {P : Program} {nt : Nat} {ops : Array Oper} {s : FS} {o : Oper}
theorem Cert.makeSlice {t e : TypeId} {l c : Operand} {d n sz : Nat} {z : List Value} {zs : List D} (ho : o.op = .makeSlice t l c) (hg : o.guard = none) (hd : o.dst = some d) (hdn : d < nt) (he : elemT P t = some (e, sz)) (hz : zeroT P e = some z) (hzs : mapO zcD z = some zs) (hl : zs.length = sz) (h0 : 0 < sz)
    (hel : ev s.e l = .v (.one (.t (.sc (.int .i64 (n : Int)))))) (hec : ev s.e c = .v (.one (.t (.sc (.int .i64 (n : Int)))))) (hb : P.bytesOf e * n ≤ 2 ^ 48) (hn : n ≤ 2 ^ 48) (hh : s.h d = none) :
    Cert P nt ops o (o.looksAt ops) (d :: refsO s o) ⟨d, .v (.one (.sl d [] 0 n)), some (.ow () sz n ((List.replicate n zs).flatten))⟩ s := fun s' hloc hhs => by
  have hh' : s'.h d = none := (hhs d List.mem_cons_self).trans hh
  have hel' : ev s'.e l = .v (.one (.t (.sc (.int .i64 (n : Int))))) := by rw [← hel]; exact ev_local hloc l (by rw [ho]; simp [Op.operands])
  have hec' : ev s'.e c = .v (.one (.t (.sc (.int .i64 (n : Int))))) := by rw [← hec]; exact ev_local hloc c (by rw [ho]; simp [Op.operands])
  refine .inl ⟨by simp [wantedD, hg], OpStep.of ?_⟩
  unfold stepF
  rw [ho]
  simp only [he, hel', hec', asInt, hz, hd, hzs]
  rw [if_pos ⟨hl, h0, trivial, by omega, by exact_mod_cast hb, by exact_mod_cast hn, hdn⟩]
  simp [FS.row, hh', FS.add]
end
end Go.Proofs.YtciieaidbiejmaaDoor.DM

/-
  DM 44. A temporary may be forgotten in part: cells that are known no more.
-/
namespace Go.Proofs.YtciieaidbiejmaaDoor.DM
set_option linter.unusedVariables false
theorem RelC.weak {S0 : Fr} {w0 : World} {M : Heap} {v : Value} : RelC S0 w0 M .un v := .un v
theorem Ghost.weak {nt : Nat} {s : FS} (t : Nat) {cs cs' : List DC} (ht : s.e t = .v (.agg cs)) (hl : cs'.length = cs.length) (hc : ∀ i : Nat, i < cs.length → cs'[i]? = cs[i]? ∨ cs'[i]? = some .un) : Ghost nt s ⟨upd s.e t (.v (.agg cs')), s.h, s.g⟩ := fun S0 w0 M a w hR => ⟨M, hR.inv, hR.er, fun i => by
  by_cases hi : i = t
  · subst hi
    have h0 := hR.en i
    rw [ht] at h0
    obtain ⟨vs, h1, h2, h3, h4⟩ := h0
    show RelV S0 w0 M (upd s.e i (.v (.agg cs')) i) _
    rw [upd_same]
    refine ⟨vs, h1, by rw [h2, hl], fun j c u hj hu => ?_, h4⟩
    have hjl : j < cs.length := by rw [← hl]; exact (List.getElem?_eq_some_iff.1 hj).1
    rcases hc j hjl with h | h
    · rw [h] at hj; exact h3 j c u hj hu
    · rw [h] at hj
      obtain rfl := Option.some.inj hj
      exact .un u
  · show RelV S0 w0 M (upd s.e t (.v (.agg cs')) i) _
    rw [upd_ne _ _ _ _ hi]
    exact hR.en i, hR.nt, hR.df, hR.gh⟩
theorem Ghost.weak1 {nt : Nat} {s : FS} {cs : List DC} (t k : Nat) (ht : s.e t = .v (.agg cs)) : Ghost nt s ⟨upd s.e t (.v (.agg (cs.set k .un))), s.h, s.g⟩ := Ghost.weak t ht (by simp) fun i hi => by
  by_cases h : i = k
  · subst h; right; simp [hi]
  · left; rw [List.getElem?_set_ne (Ne.symm h)]
end Go.Proofs.YtciieaidbiejmaaDoor.DM

/-
  DM 45. Regions whose order is not told, where ONE heavy step (at j0) and SOME earlier steps that add (those of K, which lay temporaries of T alone) may come in any order.
-/
namespace Go.Proofs.YtciieaidbiejmaaDoor.DM
set_option linter.unusedVariables false
set_option linter.unusedSimpArgs false
section
variable {S0 : Fr} {w0 w w' : World} {M M' M1 : Heap} {X : List A} {P : Program} {nt : Nat} {s s1 : FS} {a : Act} {ops : Array Oper}
/-- The heavy step looks at no temporary of T; what they hold becomes φ of it. -/
def FreeK (P : Program) (nt : Nat) (ops : Array Oper) (o : Oper) (T : List Nat) (φ : DV → DV) (s s1 : FS) : Prop :=
  (∀ e' : Nat → DV, (∀ t, t ∉ T → e' t = s.e t) → StepA P nt ops o ⟨e', s.h, s.g⟩ ⟨fun t => if t ∈ T then φ (e' t) else s1.e t, s1.h, s1.g⟩) ∧ (∀ t ∈ T, φ (s.e t) = s.e t ∧ s1.e t = s.e t)
/-- What a step of K looks at is left by the heavy step. -/
def FootK (plan : Nat → Option Foot) (K T : List Nat) (s s1 : FS) : Prop := ∀ k ∈ K, ∀ d L R, plan k = some (d, L, R) → d ∈ T ∧ d ∉ L ∧ (∀ t ∈ L, t ∈ T ∨ s1.e t = s.e t) ∧ ∀ i ∈ R, s1.h i = s.h i
inductive ChainK (P : Program) (nt : Nat) (ops : Array Oper) (plan : Nat → Option Foot) (K T : Nat → List Nat) (φ : Nat → DV → DV) : List Nat → FS → FS → Prop
  | nil (s : FS) : ChainK P nt ops plan K T φ [] s s
  | add {i : Nat} {l : List Nat} {o : Oper} {L R : List Nat} {δ : Add} {s s2 : FS} : ops[i]? = some o → plan i = some (δ.d, L, R) → (∀ j, i ∈ K j → δ.x = none ∧ φ j (s.e δ.d) = s.e δ.d) → Cert P nt ops o L R δ s → ChainK P nt ops plan K T φ l (s.add δ) s2 → ChainK P nt ops plan K T φ (i :: l) s s2
  | heavy {i : Nat} {l : List Nat} {o : Oper} {s s1 s2 : FS} : ops[i]? = some o → plan i = none → StepA P nt ops o s s1 → (K i ≠ [] → FreeK P nt ops o (T i) (φ i) s s1 ∧ FootK plan (K i) (T i) s s1) → ChainK P nt ops plan K T φ l s1 s2 → ChainK P nt ops plan K T φ (i :: l) s s2
def pairK (K : Nat → List Nat) (plan : Nat → Option Foot) (k i : Nat) : Bool := pairOk (plan k) (plan i) || ((K i).contains k && (plan i).isNone && (plan k).isSome)
section
variable {K T : Nat → List Nat} {φ : Nat → DV → DV}
/-- A step that is apart from all before it may come first. -/
theorem ChainK.firstA {plan : Nat → Option Foot} {i : Nat} {post : List Nat} {s2 : FS} : ∀ {pre : List Nat} {s : FS}, (∀ k ∈ pre, pairOk (plan k) (plan i) = true) → ChainK P nt ops plan K T φ (pre ++ i :: post) s s2 →
    ∃ o s1, ops[i]? = some o ∧ StepA P nt ops o s s1 ∧ ChainK P nt ops plan K T φ (pre ++ post) s1 s2 ∧ (∀ d L R, plan i = some (d, L, R) → ∃ δ, δ.d = d ∧ Cert P nt ops o L R δ s ∧ s1 = s.add δ ∧ (∀ j, i ∈ K j → δ.x = none ∧ φ j (s.e δ.d) = s.e δ.d))
  | [], s, _, h => by
    cases h with
    | add ho hp hx hc hr =>
      rename_i o L R δ
      exact ⟨_, _, ho, hc s (fun _ _ => rfl) (fun _ _ => rfl), hr, fun d L' R' h => by
        rw [hp] at h
        simp only [Option.some.injEq, Prod.mk.injEq] at h
        obtain ⟨rfl, rfl, rfl⟩ := h
        exact ⟨δ, rfl, hc, rfl, hx⟩⟩
    | heavy ho hp hc hx hr => exact ⟨_, _, ho, hc, hr, fun d L R h => by rw [hp] at h; cases h⟩
  | k :: pre, s, hk, h => by
    have hki := hk k List.mem_cons_self
    have hpre : ∀ k' ∈ pre, pairOk (plan k') (plan i) = true := fun k' h' => hk k' (List.mem_cons_of_mem _ h')
    cases h with
    | heavy ho hp hc hx hr => rw [hp] at hki; cases hki
    | add ho hp hx hc hr =>
      rename_i o L R δ
      rw [hp] at hki
      obtain ⟨d', L', R', hpi, hap⟩ := pairOk_some hki
      obtain ⟨oi, s1, h1, h2, h3, h4⟩ := ChainK.firstA (i := i) (post := post) hpre hr
      obtain ⟨δ', rfl, g1, rfl, g3⟩ := h4 d' L' R' hpi
      have g2 := (Cert.move hap).1 g1
      have hx' : ∀ j, k ∈ K j → δ.x = none ∧ φ j ((s.add δ').e δ.d) = (s.add δ').e δ.d := fun j hkK => by
        have e1 : (s.add δ').e δ.d = s.e δ.d := upd_ne _ _ _ _ hap.1
        rw [e1]; exact hx j hkK
      refine ⟨oi, s.add δ', h1, g2 s (fun _ _ => rfl) (fun _ _ => rfl), .add ho hp hx' ((Cert.move (δ' := δ) hap.symm).2 hc) ?_, fun d2 L2 R2 e => ?_⟩
      · rw [add_comm' s δ' δ hap.1.symm]; exact h3
      · rw [hpi] at e
        simp only [Option.some.injEq, Prod.mk.injEq] at e
        obtain ⟨rfl, rfl, rfl⟩ := e
        refine ⟨δ', rfl, g2, rfl, fun j hiK => ?_⟩
        have e1 : (s.add δ).e δ'.d = s.e δ'.d := upd_ne _ _ _ _ hap.1.symm
        rw [← e1]; exact g3 j hiK
/-- The heavy step comes ahead of steps of K. -/
theorem ChainK.firstH {plan : Nat → Option Foot} {post : List Nat} {s2 : FS} {j : Nat} (hj : plan j = none) (hne : K j ≠ []) : ∀ {pre : List Nat} {s : FS}, (∀ k ∈ pre, k ∈ K j ∧ (plan k).isSome = true) → ChainK P nt ops plan K T φ (pre ++ j :: post) s s2 →
    ∃ o s1, ops[j]? = some o ∧ StepA P nt ops o s s1 ∧ ChainK P nt ops plan K T φ (pre ++ post) s1 s2 ∧ FreeK P nt ops o (T j) (φ j) s s1 ∧ FootK plan (K j) (T j) s s1
  | [], s, _, h => by
    cases h with
    | add ho hp hx hc hr => rw [hj] at hp; cases hp
    | heavy ho hp hc hx hr =>
      obtain ⟨h1, h2⟩ := hx hne
      exact ⟨_, _, ho, hc, hr, h1, h2⟩
  | k :: pre, s, hk, h => by
    obtain ⟨hkK, hks⟩ := hk k List.mem_cons_self
    cases h with
    | heavy ho hp hc hx hr => rw [hp] at hks; cases hks
    | add ho hp hx hc hr =>
      rename_i o L R δ
      obtain ⟨hxn, hfix⟩ := hx j hkK
      obtain ⟨oi, s1', h1, h2, h3, hF, hT⟩ := ChainK.firstH hj hne (post := post) (fun k' h' => hk k' (List.mem_cons_of_mem _ h')) hr
      obtain ⟨hF1, hF2⟩ := hF
      obtain ⟨hdT, hdL, hL, hR⟩ := hT k hkK _ _ _ hp
      have hh : (s.add δ).h = s.h := by simp only [FS.add, hxn]
      have hg : (s.add δ).g = s.g := rfl
      have hne : ∀ t, t ≠ δ.d → (s.add δ).e t = s.e t := fun t ht => upd_ne _ _ _ _ ht
      have hsame : (s.add δ).e δ.d = δ.v := upd_same _ _ _
      let s1a : FS := ⟨fun t => if t ∈ T j then φ j (s.e t) else s1'.e t, s1'.h, s1'.g⟩
      have hfx : ∀ t ∈ T j, φ j (s.e t) = s.e t := fun t ht => by
        by_cases htd : t = δ.d
        · rw [htd]; exact hfix
        · have := (hF2 t ht).1; rwa [hne t htd] at this
      have hA : StepA P nt ops oi s s1a := by
        have := hF1 s.e (fun t ht => (hne t fun h => ht (h ▸ hdT)).symm)
        rw [hh, hg] at this; exact this
      have hadd : s1a.add δ = s1' := by
        have e1 : (s1a.add δ).e = s1'.e := by
          funext t
          by_cases htd : t = δ.d
          · subst htd
            rw [(hF2 _ hdT).2, hsame]; exact upd_same _ _ _
          · refine (upd_ne _ _ _ _ htd).trans ?_
            show (if t ∈ T j then φ j (s.e t) else s1'.e t) = _
            split
            · rename_i htT
              rw [hfx t htT, (hF2 t htT).2, hne t htd]
            · rfl
        have e2 : (s1a.add δ).h = s1'.h := by simp only [FS.add, hxn]; rfl
        have e3 : (s1a.add δ).g = s1'.g := rfl
        cases hx1 : s1a.add δ
        rw [hx1] at e1 e2 e3
        cases s1'
        simp only at e1 e2 e3
        subst e1 e2 e3; rfl
      have hcert : Cert P nt ops o L R δ s1a := fun s' he hr' => hc s' (fun t ht => (he t ht).trans ?_) (fun i hi => (hr' i hi).trans ?_)
      · refine ⟨oi, s1a, h1, hA, .add ho hp (fun j' hj' => ⟨hxn, ?_⟩) hcert (hadd ▸ h3), ⟨fun e' he' => ?_, fun t ht => ⟨hfx t ht, ?_⟩⟩, fun k' hk' d' L' R' hp' => ?_⟩
        · show φ j' (if δ.d ∈ T j then φ j (s.e δ.d) else s1'.e δ.d) = (if δ.d ∈ T j then φ j (s.e δ.d) else s1'.e δ.d)
          rw [if_pos hdT, hfix]; exact (hx j' hj').2
        · have h5 := hF1 e' (fun t ht => (he' t ht).trans (hne t fun h => ht (h ▸ hdT)).symm)
          rw [hh, hg] at h5
          have : (fun t => if t ∈ T j then φ j (e' t) else s1'.e t) = fun t => if t ∈ T j then φ j (e' t) else s1a.e t := by
            funext t
            by_cases htT : t ∈ T j
            · rw [if_pos htT, if_pos htT]
            · rw [if_neg htT, if_neg htT]
              show s1'.e t = if t ∈ T j then φ j (s.e t) else s1'.e t
              rw [if_neg htT]
          rw [this] at h5
          exact h5
        · show (if t ∈ T j then φ j (s.e t) else s1'.e t) = _
          rw [if_pos ht, hfx t ht]
        · obtain ⟨g1, g2, g3, g4⟩ := hT k' hk' d' L' R' hp'
          refine ⟨g1, g2, fun t ht => ?_, fun i hi => (g4 i hi).trans (by rw [hh])⟩
          by_cases htT : t ∈ T j
          · exact .inl htT
          · refine .inr ?_
            show (if t ∈ T j then φ j (s.e t) else s1'.e t) = _
            rw [if_neg htT]
            have := (g3 t ht).resolve_left htT
            rw [this, hne t fun h => htT (h ▸ hdT)]
      · show (if t ∈ T j then φ j (s.e t) else s1'.e t) = s.e t
        by_cases htT : t ∈ T j
        · rw [if_pos htT, hfx t htT]
        · rw [if_neg htT, (hL t ht).resolve_left htT, hne t fun h => htT (h ▸ hdT)]
      · exact (hR i hi).trans (by rw [hh])
theorem ChainK.first {plan : Nat → Option Foot} {i : Nat} {pre post : List Nat} {s s2 : FS} (hk : ∀ k ∈ pre, pairK K plan k i = true) (h : ChainK P nt ops plan K T φ (pre ++ i :: post) s s2) :
    ∃ o s1, ops[i]? = some o ∧ StepA P nt ops o s s1 ∧ ChainK P nt ops plan K T φ (pre ++ post) s1 s2 := by
  by_cases hall : ∀ k ∈ pre, pairOk (plan k) (plan i) = true
  · obtain ⟨o, s1, h1, h2, h3, -⟩ := ChainK.firstA hall h
    exact ⟨o, s1, h1, h2, h3⟩
  · have hex : ∃ k, k ∈ pre ∧ ¬ pairOk (plan k) (plan i) = true := Classical.byContradiction fun hno => hall fun k hk => Classical.byContradiction fun hn => hno ⟨k, hk, hn⟩
    obtain ⟨k, hkm, hkn⟩ := hex
    have h1 := hk k hkm
    simp only [pairK, Bool.or_eq_true, Bool.and_eq_true, beq_iff_eq] at h1
    have h1 := h1.resolve_left hkn
    obtain ⟨⟨hkK, hno⟩, _⟩ := h1
    have hne : K i ≠ [] := fun h => by rw [h] at hkK; simp at hkK
    have hpn : plan i = none := by
      cases hp : plan i with
      | none => rfl
      | some f => rw [hp] at hno; cases hno
    obtain ⟨o, s1, g1, g2, g3, -⟩ := ChainK.firstH hpn hne (pre := pre) (post := post) (fun k' hk' => by
      have h2 := hk k' hk'
      have h3 : pairOk (plan k') (plan i) = false := by
        rw [hpn]
        cases plan k' with
        | none => rfl
        | some f => obtain ⟨_, _, _⟩ := f; rfl
      simp only [pairK, h3, Bool.false_or, Bool.and_eq_true] at h2
      exact ⟨by simpa using h2.1.1, h2.2⟩) h
    exact ⟨o, s1, g1, g2, g3⟩
def planOkK (K : Nat → List Nat) (plan : Nat → Option Foot) (tb : List (List Nat)) (n : Nat) : Bool := (List.range n).all fun j => (List.range j).all fun i => (tb.getD j []).contains i || pairK K plan i j
theorem planOkK_spec {plan : Nat → Option Foot} {tb : List (List Nat)} {n : Nat} (h : planOkK K plan tb n = true) (j : Nat) (hj : j < n) (i : Nat) (hi : i < j) : i ∈ tb.getD j [] ∨ pairK K plan i j = true := by
  unfold planOkK at h
  rw [List.all_eq_true] at h
  have h1 := h j (List.mem_range.2 hj)
  rw [List.all_eq_true] at h1
  have h2 := h1 i (List.mem_range.2 hi)
  simpa using h2
theorem chainK_any {md : Region.Mode} {plan : Nat → Option Foot} {tb : List (List Nat)} {Q : Exit → Act → World → Prop} {s2 : FS} (ht : tableOk md ops tb = true) (hp : planOkK K plan tb ops.size = true) (hQ : ∀ (M1 : Heap) (a1 : Act) (w1 : World), Rel S0 w0 nt s2 M1 a1 w1 → Q .normal a1 w1) :
    ∀ (fuel : Nat) (l : List Nat) (listed : Array Bool) {s : FS} {M : Heap} {a : Act} {w : World}, l.length ≤ fuel → l.Pairwise (· < ·) → (∀ j ∈ l, j < ops.size) → listed.size = ops.size → (∀ j, j < ops.size → (listed.getD j true = false ↔ j ∈ l)) →
      (∀ j o, ops[j]? = some o → j ∉ l → ∀ e ∈ o.after, Region.binds md e = true → e.on ∉ l) → ChainK P nt ops plan K T φ l s s2 → Rel S0 w0 nt s M a w → wpAny P md ops Q fuel listed a w := by
  intro fuel
  have hready : ∀ (l : List Nat) (listed : Array Bool), listed.size = ops.size → (∀ j ∈ l, j < ops.size) → (∀ j, j < ops.size → (listed.getD j true = false ↔ j ∈ l)) → ∀ i, i ∈ Region.ready md ops listed ↔ i ∈ l ∧ ∃ o, ops[i]? = some o ∧ ∀ e ∈ o.after, Region.binds md e = true → e.on ∉ l := by
    intro l listed hsz hl hli i
    rw [mem_ready]
    constructor
    · rintro ⟨h0, o, ho, he⟩
      have hi : i < ops.size := (Array.getElem?_eq_some_iff.1 ho).1
      refine ⟨(hli i hi).1 h0, o, ho, fun e hem hb hin => ?_⟩
      have h1 := he e hem hb
      have h2 := (hli e.on (hl _ hin)).2 hin
      have hlt : e.on < listed.size := by rw [hsz]; exact hl _ hin
      rw [Array.getD_eq_getD_getElem?, Array.getElem?_eq_getElem hlt] at h1 h2
      rw [Option.getD_some] at h1 h2
      rw [h1] at h2; cases h2
    · rintro ⟨hi, o, ho, he⟩
      refine ⟨(hli i (hl i hi)).2 hi, o, ho, fun e hem hb => ?_⟩
      have hlt := (table_spec ht ho).2 e hem hb
      have hlt2 : e.on < ops.size := by have := (Array.getElem?_eq_some_iff.1 ho).1; omega
      have h2 : ¬ listed.getD e.on true = false := fun h => he e hem hb ((hli e.on hlt2).1 h)
      have hlt3 : e.on < listed.size := by omega
      rw [Array.getD_eq_getD_getElem?, Array.getElem?_eq_getElem hlt3, Option.getD_some] at h2 ⊢
      simpa using h2
  have hnil : ∀ (l : List Nat) (listed : Array Bool), listed.size = ops.size → l.Pairwise (· < ·) → (∀ j ∈ l, j < ops.size) → (∀ j, j < ops.size → (listed.getD j true = false ↔ j ∈ l)) → Region.ready md ops listed = [] → l = [] := by
    intro l listed hsz hs hl hli hr
    cases l with
    | nil => rfl
    | cons i l =>
      have hi : i < ops.size := hl i List.mem_cons_self
      have : i ∈ Region.ready md ops listed := (hready _ listed hsz hl hli i).2 ⟨List.mem_cons_self, ops[i], Array.getElem?_eq_getElem hi, fun e he hb hin => by
        have h1 := (table_spec ht (Array.getElem?_eq_getElem hi)).2 e he hb
        rw [List.pairwise_cons] at hs
        rcases List.mem_cons.1 hin with h | h
        · omega
        · have := hs.1 _ h; omega⟩
      rw [hr] at this; cases this
  induction fuel with
  | zero =>
    intro l listed s M a w hlen hs hl hsz hli hcl hch hR
    have : l = [] := List.length_eq_zero_iff.1 (by omega)
    subst this
    cases hch with
    | nil =>
      refine ⟨?_, hQ M a w hR⟩
      cases hr : Region.ready md ops listed with
      | nil => rfl
      | cons i r =>
        have := (hready [] listed hsz hl hli i).1 (by rw [hr]; exact List.mem_cons_self)
        simp at this
  | succ fuel ih =>
    intro l listed s M a w hlen hs hl hsz hli hcl hch hR
    refine ⟨fun hr => ?_, fun i hi => ?_⟩
    · have := hnil l listed hsz hs hl hli hr
      subst this
      cases hch with
      | nil => exact hQ M a w hR
    · obtain ⟨hil, o, ho, he⟩ := (hready l listed hsz hl hli i).1 hi
      obtain ⟨pre, post, rfl⟩ := List.append_of_mem hil
      rw [List.pairwise_append, List.pairwise_cons] at hs
      obtain ⟨hs1, ⟨hs2, hs3⟩, hs4⟩ := hs
      have hipre : i ∉ pre := fun h => absurd (hs4 i h i List.mem_cons_self) (Nat.lt_irrefl _)
      have hipost : i ∉ post := fun h => absurd (hs2 i h) (Nat.lt_irrefl _)
      have hilt : i < ops.size := hl i hil
      have hpair : ∀ k ∈ pre, pairK K plan k i = true := fun k hk => by
        rcases planOkK_spec hp i hilt k (hs4 k hk i List.mem_cons_self) with h | h
        · exfalso
          obtain ⟨e, hem, hb, hlt, hor⟩ := (table_spec ht ho).1 k h
          have h1 := he e hem hb
          have hkl : k ∈ pre ++ i :: post := List.mem_append_left _ hk
          rcases hor with rfl | hk'
          · exact h1 hkl
          · exact before_listed ht (D := fun j => j ∉ pre ++ i :: post) (fun j o hj hd e he hb => hcl j o hj hd e he hb) e.on (by omega) h1 k hk' hkl
        · exact h
      obtain ⟨o', s1, h1, h2, h3⟩ := ChainK.first hpair hch
      refine h2.wpOp h1 hR fun M1 a1 w1 hR1 => ih (pre ++ post) (listed.setIfInBounds i true) ?_ ?_ (fun j hj => hl j ?_) (by simpa using hsz) (fun j hj => ?_) (fun j oj hoj hj e hem hb => ?_) h3 hR1
      · simp only [List.length_append, List.length_cons] at hlen ⊢; omega
      · rw [List.pairwise_append]
        exact ⟨hs1, hs3, fun x hx y hy => hs4 x hx y (List.mem_cons_of_mem _ hy)⟩
      · rcases List.mem_append.1 hj with h | h
        · exact List.mem_append_left _ h
        · exact List.mem_append_right _ (List.mem_cons_of_mem _ h)
      · by_cases hji : j = i
        · subst hji
          have : (listed.setIfInBounds j true).getD j true = true := by
            rw [Array.getD_eq_getD_getElem?, Array.getElem?_setIfInBounds_self_of_lt (by omega)]; rfl
          rw [this]
          simp [hipre, hipost]
        · rw [getD_set_ne true (Ne.symm hji), hli j hj]
          simp [hji]
      · have hsub : ∀ x, x ∈ pre ++ post → x ∈ pre ++ i :: post := fun x hx => by
          rcases List.mem_append.1 hx with h | h
          · exact List.mem_append_left _ h
          · exact List.mem_append_right _ (List.mem_cons_of_mem _ h)
        by_cases hji : j = i
        · subst hji
          rw [ho] at hoj
          obtain rfl := Option.some.inj hoj
          exact fun h => he e hem hb (hsub _ h)
        · have hj' : j ∉ pre ++ i :: post := fun h => by
            rcases List.mem_append.1 h with h | h
            · exact hj (List.mem_append_left _ h)
            · rcases List.mem_cons.1 h with h | h
              · exact hji h
              · exact hj (List.mem_append_right _ h)
          exact fun h => hcl j oj hoj hj' e hem hb (hsub _ h)
theorem DW.drawK {id : Nat} {Q : Exit → FS → Prop} {plan : Nat → Option Foot} {s2 : FS} (tb : List (List Nat)) (hm : P.follows .mixedOrders = true) (ht : tableOk .any ops tb = true) (hp : planOkK K plan tb ops.size = true) (hc : ChainK P nt ops plan K T φ (List.range ops.size) s s2) (h : Q .normal s2) :
    DW P nt (.region id ops true) s Q := fun S0 w0 M a w hR => by
  refine wp_region_any hm ?_
  refine chainK_any ht hp (fun M1 a1 w1 h1 => ⟨s2, M1, h, h1⟩) ops.size (List.range ops.size) _ (by simp) List.pairwise_lt_range (fun j hj => List.mem_range.1 hj) (by simp) (fun j hj => ?_) (fun j o ho hj => ?_) hc hR.drawn
  · simp [hj]
  · exact absurd (List.mem_range.2 (Array.getElem?_eq_some_iff.1 ho).1) hj
/-- A region, step by step; what each step looks at and writes is kept. -/
def RegK (P : Program) (nt : Nat) (ops : Array Oper) (K T : Nat → List Nat) (φ : Nat → DV → DV) : List Oper → List (Option Foot) → FS → (List (Option Foot) → FS → Prop) → Prop
  | [], acc, s, N => N acc s
  | o :: l, acc, s, N => (∃ L R δ, Cert P nt ops o L R δ s ∧ (∀ j, acc.length ∈ K j → δ.x = none ∧ φ j (s.e δ.d) = s.e δ.d) ∧ RegK P nt ops K T φ l (acc ++ [some (δ.d, L, R)]) (s.add δ) N) ∨
      (∃ s1, StepA P nt ops o s s1 ∧ (K acc.length ≠ [] → FreeK P nt ops o (T acc.length) (φ acc.length) s s1 ∧ (∀ k ∈ K acc.length, k < acc.length) ∧ FootK (fun i => acc.getD i none) (K acc.length) (T acc.length) s s1) ∧ RegK P nt ops K T φ l (acc ++ [none]) s1 N)
theorem RegK.cert {N : List (Option Foot) → FS → Prop} {o : Oper} {l : List Oper} {acc : List (Option Foot)} {L R : List Nat} {δ : Add} (hc : Cert P nt ops o L R δ s) (hk : ∀ j, acc.length ∉ K j) (hr : RegK P nt ops K T φ l (acc ++ [some (δ.d, L, R)]) (s.add δ) N) : RegK P nt ops K T φ (o :: l) acc s N := .inl ⟨L, R, δ, hc, fun j h => absurd h (hk j), hr⟩
theorem RegK.add {N : List (Option Foot) → FS → Prop} {o : Oper} {l : List Oper} {acc : List (Option Foot)} {δ : Add} (ha : addF P nt ops o s = some δ) (hk : ∀ j, acc.length ∈ K j → φ j (s.e δ.d) = s.e δ.d) (hr : RegK P nt ops K T φ l (acc ++ [some (δ.d, o.looksAt ops, refsO s o)]) (s.add δ) N) : RegK P nt ops K T φ (o :: l) acc s N := by
  refine .inl ⟨_, _, δ, cert_of_addF ha, fun j hj => ⟨?_, hk j hj⟩, hr⟩
  simp only [addF] at ha
  split at ha
  · split at ha
    · obtain rfl := Option.some.inj ha; rfl
    · cases ha
  · split at ha
    · split at ha
      · obtain rfl := Option.some.inj ha; rfl
      · cases ha
    · cases ha
  · cases ha
theorem RegK.heavyF {N : List (Option Foot) → FS → Prop} {o : Oper} {l : List Oper} {acc : List (Option Foot)} (hw : wantedD ops o s.e = some true) (hc : stepF P nt o s = some s1) (hj : K acc.length = []) (hr : RegK P nt ops K T φ l (acc ++ [none]) s1 N) : RegK P nt ops K T φ (o :: l) acc s N := .inr ⟨s1, .inl ⟨hw, OpStep.of hc⟩, fun h => absurd hj h, hr⟩
/-- The heavy step that may come ahead of the steps of K. -/
theorem RegK.swap {N : List (Option Foot) → FS → Prop} {o : Oper} {l : List Oper} {acc : List (Option Foot)} {d : Nat} {v : DV} {h1 : Nat → Option D} {g1 : Nat → DC} (Lr : List Nat) (hw : o.guard = none) (hc : ∀ e' : Nat → DV, (∀ t ∈ Lr, e' t = s.e t) → stepF P nt o ⟨e', s.h, s.g⟩ = some ⟨upd (fun i => φ acc.length (e' i)) d v, h1, g1⟩)
    (hT : ∀ t ∈ T acc.length, t ∉ Lr ∧ t ≠ d) (hφ : ∀ t ∈ T acc.length, φ acc.length (s.e t) = s.e t) (hK : ∀ k ∈ K acc.length, k < acc.length) (hf : FootK (fun i => acc.getD i none) (K acc.length) (T acc.length) s ⟨upd (fun i => φ acc.length (s.e i)) d v, h1, g1⟩)
    (hr : RegK P nt ops K T φ l (acc ++ [none]) ⟨upd (fun i => φ acc.length (s.e i)) d v, h1, g1⟩ N) : RegK P nt ops K T φ (o :: l) acc s N := by
  have hwant : ∀ s' : FS, wantedD ops o s'.e = some true := fun s' => by simp [wantedD, hw]
  refine .inr ⟨_, .inl ⟨hwant _, OpStep.of (hc s.e fun _ _ => rfl)⟩, fun _ => ⟨⟨fun e' he' => .inl ⟨hwant _, OpStep.of ?_⟩, fun t ht => ⟨hφ t ht, ?_⟩⟩, hK, hf⟩, hr⟩
  · rw [hc e' fun t ht => he' t fun h => (hT t h).1 ht]
    congr 2
    funext t
    by_cases htT : t ∈ T acc.length
    · rw [if_pos htT, upd_ne _ _ _ _ (hT t htT).2]
    · rw [if_neg htT]
      show upd (fun i => φ acc.length (e' i)) d v t = upd (fun i => φ acc.length (s.e i)) d v t
      by_cases htd : t = d
      · subst htd; rw [upd_same, upd_same]
      · rw [upd_ne _ _ _ _ htd, upd_ne _ _ _ _ htd, he' t htT]
  · show upd (fun i => φ acc.length (s.e i)) d v t = s.e t
    rw [upd_ne _ _ _ _ (hT t ht).2]
    exact hφ t ht
/-- The same for a heavy step without a result. -/
theorem RegK.swapS {N : List (Option Foot) → FS → Prop} {o : Oper} {l : List Oper} {acc : List (Option Foot)} {h1 : Nat → Option D} {g1 : Nat → DC} (Lr : List Nat) (hw : o.guard = none) (hc : ∀ e' : Nat → DV, (∀ t ∈ Lr, e' t = s.e t) → stepF P nt o ⟨e', s.h, s.g⟩ = some ⟨fun i => φ acc.length (e' i), h1, g1⟩)
    (hT : ∀ t ∈ T acc.length, t ∉ Lr) (hφ : ∀ t ∈ T acc.length, φ acc.length (s.e t) = s.e t) (hK : ∀ k ∈ K acc.length, k < acc.length) (hf : FootK (fun i => acc.getD i none) (K acc.length) (T acc.length) s ⟨fun i => φ acc.length (s.e i), h1, g1⟩)
    (hr : RegK P nt ops K T φ l (acc ++ [none]) ⟨fun i => φ acc.length (s.e i), h1, g1⟩ N) : RegK P nt ops K T φ (o :: l) acc s N := by
  have hwant : ∀ s' : FS, wantedD ops o s'.e = some true := fun s' => by simp [wantedD, hw]
  refine .inr ⟨_, .inl ⟨hwant _, OpStep.of (hc s.e fun _ _ => rfl)⟩, fun _ => ⟨⟨fun e' he' => .inl ⟨hwant _, OpStep.of ?_⟩, fun t ht => ⟨hφ t ht, hφ t ht⟩⟩, hK, hf⟩, hr⟩
  rw [hc e' fun t ht => he' t fun h => hT t h ht]
  congr 2
  funext t
  by_cases htT : t ∈ T acc.length
  · rw [if_pos htT]
  · rw [if_neg htT, he' t htT]
theorem regK_chain {N : List (Option Foot) → FS → Prop} : ∀ {l : List Oper} {acc : List (Option Foot)} {s : FS} (k : Nat), k = acc.length → (∀ (i : Nat) (o : Oper), l[i]? = some o → ops[k + i]? = some o) → RegK P nt ops K T φ l acc s N →
    ∃ pl s2, N (acc ++ pl) s2 ∧ pl.length = l.length ∧ ∀ plan : Nat → Option Foot, (∀ i, i < (acc ++ pl).length → plan i = (acc ++ pl).getD i none) → ChainK P nt ops plan K T φ (List.range' k l.length) s s2
  | [], acc, s, k, hk, ho, h => ⟨[], s, by simpa [RegK] using h, rfl, fun plan _ => .nil s⟩
  | o :: l, acc, s, k, hk, ho, h => by
    have hok : ops[k]? = some o := by simpa using ho 0 o rfl
    have ho' : ∀ (i : Nat) (o' : Oper), l[i]? = some o' → ops[k + 1 + i]? = some o' := fun i o' hi => by
      have := ho (i + 1) o' (by simpa using hi)
      rw [← this]; congr 1; omega
    rcases h with ⟨L, R, δ, hc, hx, hr⟩ | ⟨s1, hc, hx, hr⟩
    · obtain ⟨pl, s2, h1, h2, h3⟩ := regK_chain (k + 1) (by simp [hk]) ho' hr
      refine ⟨some (δ.d, L, R) :: pl, s2, by simpa using h1, by simp [h2], fun plan hp => ?_⟩
      rw [List.length_cons, List.range'_succ]
      refine .add hok (by have := hp k (by simp [hk]); rw [this, hk]; simp [List.getD_eq_getElem?_getD]) (fun j e => hx j (by rw [← hk]; exact e)) hc (h3 plan fun i hi => ?_)
      have := hp i (by simpa using hi)
      simpa using this
    · obtain ⟨pl, s2, h1, h2, h3⟩ := regK_chain (k + 1) (by simp [hk]) ho' hr
      refine ⟨none :: pl, s2, by simpa using h1, by simp [h2], fun plan hp => ?_⟩
      rw [List.length_cons, List.range'_succ]
      refine .heavy hok (by have := hp k (by simp [hk]); rw [this, hk]; simp [List.getD_eq_getElem?_getD]) hc (fun e => ?_) (h3 plan fun i hi => ?_)
      · subst hk
        obtain ⟨g1, g2, g3⟩ := hx e
        refine ⟨g1, fun k' hk' d L R hpl => g3 k' hk' d L R ?_⟩
        have hlt := g2 k' hk'
        have := hp k' (by simp; omega)
        rw [hpl] at this
        show acc.getD k' none = _
        rw [this, List.getD_eq_getElem?_getD, List.getD_eq_getElem?_getD, List.getElem?_append_left hlt]
      · have := hp i (by simpa using hi)
        simpa using this
/-- A region whose order is not told. -/
theorem DW.drawnK (K T : Nat → List Nat) (φ : Nat → DV → DV) {id : Nat} {l : List Oper} {Q : Exit → FS → Prop} (hm : P.follows .mixedOrders = true) (ht : tableOk .any l.toArray (tableOf l) = true) (h : RegK P nt l.toArray K T φ l [] s fun pl s2 => planOkK K (fun i => pl.getD i none) (tableOf l) l.length = true ∧ Q .normal s2) : DW P nt (.region id l.toArray true) s Q := by
  obtain ⟨pl, s2, ⟨h1, h2⟩, h3, h4⟩ := regK_chain (ops := l.toArray) 0 rfl (fun i o hi => by simpa using hi) h
  simp only [List.nil_append] at h1
  refine DW.drawK (K := K) (T := T) (φ := φ) (tableOf l) hm ht (plan := fun i => pl.getD i none) (by simpa using h1) ?_ h2
  have := h4 (fun i => pl.getD i none) (fun i hi => by simp)
  rw [List.range_eq_range']
  simpa using this
end
end
end Go.Proofs.YtciieaidbiejmaaDoor.DM

/-
  DM 46. '==' of structs of plain cells; functions of the library that read package variables.
-/
namespace Go.Proofs.YtciieaidbiejmaaDoor.DM
set_option linter.unusedVariables false
set_option linter.unusedSimpArgs false
open Go.RowKit
section
variable {P : Program} {S0 : Fr} {w0 w w' : World} {M : Heap} {X : List A} {nt : Nat} {s : FS}
/-- What takes plain values and gives plain values, where the package variables are az they are known. -/
theorem Spec.plainT {f : Nat} {vs rs : List Value} (hE : Enters P f) (hrs : ∀ v ∈ rs, DM.plain v = true)
    (h : ∀ w : World, tabP w → Calls P f vs.toArray w fun e w' => e = .returned (packV (rs.map fun _ => none) rs) ∧ Below w.heap.size w w') :
    Spec P f (vs.map fun v => .one (.r (.sc v))) (rs.map fun _ => none) (rs.map .sc) (vs.map fun v => .one (.r (.sc v))) := by
  refine ⟨hE, fun F w M vals hI hl hM hV hG => ?_⟩
  have hvals : vals = vs := by
    apply List.ext_getElem (by simpa using hl)
    intro i h1 h2
    have := hV i (.one (.r (.sc vs[i]))) vals[i] (by simp [h2]) (List.getElem?_eq_getElem h1)
    obtain ⟨h3, -⟩ := this
    have q : ∀ (x y : Value), RelC F w M (.t (.sc x)) y → y = x := fun x y h => by
      cases h with
      | t _ _ h4 => cases h4 with
        | sc _ _ => rfl
    exact q _ _ h3
  subst hvals
  refine Calls.mono (h w hI.wd.tb.1) ?_
  rintro e w' ⟨rfl, hB⟩
  have hI' : Inv F w M [] w' := hI.world hB.block hB.size ⟨hB.os, hB.output, hB.tape⟩
  have hI2 := hI'.hands (Y := rs.map .sc) (fun y hy => by
    obtain ⟨v, hv, rfl⟩ := List.mem_map.1 hy
    exact ⟨.sc v (hrs v hv), rfl, rfl⟩)
  rw [List.nil_append] at hI2
  have he : (rs.map (T.sc : Value → A)).map er = rs.map .sc := by
    rw [List.map_map]; rfl
  have hv : (rs.map (T.sc : Value → A)).map T.val = rs := by
    rw [List.map_map]
    conv => rhs; rw [← List.map_id rs]
    rfl
  refine ⟨_, initFS (vals.map fun v => .one (.r (.sc v))), M, rs.map .sc, rfl, hI2, hM, hG, he, by rw [List.length_map, shLen_none], by rw [hv], rfl, fun i pa hp => ⟨pa, hp, ?_⟩⟩
  rw [List.getElem?_map, Option.map_eq_some_iff] at hp
  obtain ⟨v, -, rfl⟩ := hp
  rfl
/-- A row that is only read, az it comes in. -/
theorem row_in {id n : Nat} {rs : List RT} {v : Value} (h : RelV S0 w0 M (argV id (.one (.r (.sl n rs)))) v) : (∃ a, ∃ c, v = .slice a 0 c ∧ n = 0 ∧ rs = []) ∨ ∃ (a : Addr) (c : Nat) (us : List Value), v = .slice (some a) n c ∧ a.spot = none ∧ S0.ro a.block ∧ n ≤ c ∧ us.length = rs.length ∧
    (∀ (i : Nat) (u : Value), us[i]? = some u → w0.cell? ⟨a.block, a.off + i, none⟩ = some u) ∧ ∀ (i : Nat) (u : Value) (r : RT), us[i]? = some u → rs[i]? = some r → RoC S0 w0 u r := by
  obtain ⟨h1, -⟩ := h
  cases h1 with
  | t _ _ h2 => cases h2 with
    | sl a n c cs us e1 e2 e3 e4 e5 e6 => exact .inr ⟨a, c, us, rfl, e1, e2, e3, e4, e5, e6⟩
    | em a c => exact .inl ⟨a, c, rfl, rfl, rfl⟩
theorem aggSc_ok : ∀ {xs : List Value} {u : Value}, RelV S0 w0 M (.v (.agg (xs.map fun v => .t (.sc v)))) u → u = .agg xs.toArray := by
  intro xs u h
  obtain ⟨vs, rfl, hl, h1, -⟩ := h
  have : vs = xs := by
    apply List.ext_getElem (by simpa using hl)
    intro i h2 h3
    have := h1 i (.t (.sc xs[i])) vs[i] (by simp [h3]) (List.getElem?_eq_getElem h2)
    have q : ∀ (x y : Value), RelC S0 w0 M (.t (.sc x)) y → y = x := fun x y h => by
      cases h with
      | t _ _ h4 => cases h4 with
        | sc _ _ => rfl
    exact q _ _ this
  rw [this]
theorem eqGuard_agg {op : BinOp} {ty : TypeId} {x y : Operand} {a b : Array Value} (hop : op = .eql ∨ op = .neq) (hg : P.eqGuardType P.depth ty = false) : (eqGuard op ty x y (.agg a) (.agg b)).run P w = .ok () w := by
  rcases hop with rfl | rfl <;> simp [eqGuard, hg]
/-- '==' of structs of plain cells. -/
theorem OpStep.eqS {o : Oper} {ty ty' : TypeId} {x y : Operand} {d : Nat} (xs ys : List Value) {r : Bool} (ho : o.op = .binOp .eql ty x y ty') (hd : o.dst = some d) (hdn : d < nt) (hx : ev s.e x = .v (.agg (xs.map fun v => .t (.sc v)))) (hy : ev s.e y = .v (.agg (ys.map fun v => .t (.sc v))))
    (hg : P.eqGuardType P.depth ty = false) (hr : ∀ w, (Op.equal ty (.agg xs.toArray) (.agg ys.toArray)).run P w = .ok r w) : OpStep P nt o s ⟨upd s.e d (.v (.one (.t (.sc (.bool r))))), s.h, s.g⟩ := fun S0 w0 M a w hR next Q hn => by
  have h1 : a.eval x = .agg xs.toArray := aggSc_ok (hx ▸ ev_ok hR x)
  have h2 : a.eval y = .agg ys.toArray := aggSc_ok (hy ▸ ev_ok hR y)
  have hrun : (execOp a.eval o).run P w = .ok (.value (.bool r)) w := by
    have h3 : binOp .eql ty (.agg xs.toArray) (.agg ys.toArray) = (do pure (.bool (← Op.equal ty (.agg xs.toArray) (.agg ys.toArray)))) := by unfold binOp; rfl
    have h4 := eqGuard_agg (P := P) (w := w) (x := x) (y := y) (a := xs.toArray) (b := ys.toArray) (.inl rfl : BinOp.eql = .eql ∨ BinOp.eql = .neq) hg
    simp only [execOp, ho, h1, h2, h3, h4, Sem.run_bind, Sem.run_pure, Result.andThen_ok, hr]
  unfold Oper.wp
  rw [hrun, Oper.upon_value, hd]
  exact hn _ _ _ (hR.put ⟨.t _ _ (.sc _ rfl), rfl⟩ hdn)
/-- '!=' of structs of plain cells. -/
theorem OpStep.neS {o : Oper} {ty ty' : TypeId} {x y : Operand} {d : Nat} (xs ys : List Value) {r : Bool} (ho : o.op = .binOp .neq ty x y ty') (hd : o.dst = some d) (hdn : d < nt) (hx : ev s.e x = .v (.agg (xs.map fun v => .t (.sc v)))) (hy : ev s.e y = .v (.agg (ys.map fun v => .t (.sc v))))
    (hg : P.eqGuardType P.depth ty = false) (hr : ∀ w, (Op.equal ty (.agg xs.toArray) (.agg ys.toArray)).run P w = .ok r w) : OpStep P nt o s ⟨upd s.e d (.v (.one (.t (.sc (.bool (!r)))))), s.h, s.g⟩ := fun S0 w0 M a w hR next Q hn => by
  have h1 : a.eval x = .agg xs.toArray := aggSc_ok (hx ▸ ev_ok hR x)
  have h2 : a.eval y = .agg ys.toArray := aggSc_ok (hy ▸ ev_ok hR y)
  have hrun : (execOp a.eval o).run P w = .ok (.value (.bool (!r))) w := by
    have h3 : binOp .neq ty (.agg xs.toArray) (.agg ys.toArray) = (do pure (.bool (!(← Op.equal ty (.agg xs.toArray) (.agg ys.toArray))))) := by unfold binOp; rfl
    have h4 := eqGuard_agg (P := P) (w := w) (x := x) (y := y) (a := xs.toArray) (b := ys.toArray) (.inr rfl : BinOp.neq = .eql ∨ BinOp.neq = .neq) hg
    simp only [execOp, ho, h1, h2, h3, h4, Sem.run_bind, Sem.run_pure, Result.andThen_ok, hr]
  unfold Oper.wp
  rw [hrun, Oper.upon_value, hd]
  exact hn _ _ _ (hR.put ⟨.t _ _ (.sc _ rfl), rfl⟩ hdn)
/-- The same az adding steps in a drawn region. -/
theorem Cert.neS {ops : Array Oper} {o : Oper} {ty ty' : TypeId} {x y : Operand} {d : Nat} (xs ys : List Value) {r : Bool} (ho : o.op = .binOp .neq ty x y ty') (hw : wantedD ops o s.e = some true) (hd : o.dst = some d) (hdn : d < nt) (hx : ev s.e x = .v (.agg (xs.map fun v => .t (.sc v)))) (hy : ev s.e y = .v (.agg (ys.map fun v => .t (.sc v))))
    (hg : P.eqGuardType P.depth ty = false) (hr : ∀ w, (Op.equal ty (.agg xs.toArray) (.agg ys.toArray)).run P w = .ok r w) : Cert P nt ops o (o.looksAt ops) (refsO s o) ⟨d, .v (.one (.t (.sc (.bool (!r))))), none⟩ s := fun s' hE hH => .inl ⟨(wanted_local hE).trans hw, by
  have h1 : ev s'.e x = .v (.agg (xs.map fun v => .t (.sc v))) := by rw [← hx]; exact ev_local hE x (by rw [ho]; simp [Op.operands])
  have h2 : ev s'.e y = .v (.agg (ys.map fun v => .t (.sc v))) := by rw [← hy]; exact ev_local hE y (by rw [ho]; simp [Op.operands])
  exact OpStep.neS xs ys ho hd hdn h1 h2 hg hr⟩
/-! '==' of structs, field by field -/
theorem eqf_cons {dp : Nat} {xs ys : Array Value} {f : Field} {fs : List Field} {a b : Value} {r q : Bool} (hn : (f.name == "_") = false) (ha : (part f.type xs f.offset).run P w = .ok a w) (hb : (part f.type ys f.offset).run P w = .ok b w) (he : (Op.equalIn dp f.type a b).run P w = .ok r w) (hr : (Op.eqFields dp xs ys fs).run P w = .ok q w) :
    (Op.eqFields dp xs ys (f :: fs)).run P w = .ok (r && q) w := by
  have hn' : f.name ≠ "_" := by simpa using hn
  rw [Op.eqFields]
  simp only [if_pos hn', Sem.run_bind, ha, hb, he, Result.andThen_ok]
  cases r
  · simp
  · simpa using hr
theorem eqf_nil {dp : Nat} {xs ys : Array Value} : (Op.eqFields dp xs ys []).run P w = .ok true w := by simp [Op.eqFields]
theorem eqA_of {dp : Nat} {xs ys : Array Value} {t : TypeId} {fs : Array Field} {r : Bool} (hu : P.underlying t = some (.struct fs)) (hp : P.stoodInHeld t = false) (h : (Op.eqFields dp xs ys fs.toList).run P w = .ok r w) : (Op.equalIn (dp + 1) t (.agg xs) (.agg ys)).run P w = .ok r w := by
  have hf : P.fieldsOf t = fs := by simp [Program.fieldsOf, hu]
  rw [run_equalIn_struct (P := P) (w := w) dp t xs ys (by rw [hf]; exact hu) hp, hf]
  exact h
theorem eqI_of {dp : Nat} {t : TypeId} {k : IntKind} {a b : Int} (hu : P.underlying t = some (.int k)) : (Op.equalIn (dp + 1) t (.int k a) (.int k b)).run P w = .ok (a == b) w := by
  simp [Op.equalIn, run_underlying hu]
theorem eqT_of {dp : Nat} {t : TypeId} {a b : ByteArray} (hu : P.underlying t = some .string) : (Op.equalIn (dp + 1) t (.string a) (.string b)).run P w = .ok (a == b) w := by
  simp [Op.equalIn, run_underlying hu]
theorem eqB_of {dp : Nat} {t : TypeId} {a b : Bool} (hu : P.underlying t = some .bool) : (Op.equalIn (dp + 1) t (.bool a) (.bool b)).run P w = .ok (a == b) w := by
  simp [Op.equalIn, run_underlying hu]
end
end Go.Proofs.YtciieaidbiejmaaDoor.DM

/-
  DM 47. Functions of the library that read plain values and rows of plain cells, and give plain values.
-/
namespace Go.Proofs.YtciieaidbiejmaaDoor.DM
set_option linter.unusedVariables false
set_option linter.unusedSimpArgs false
open Go.RowKit
inductive RA where
  | pl (v : Value)
  | row (vs : List Value)
@[simp] def raPA : RA → PA
  | .pl v => .one (.r (.sc v))
  | .row vs => .one (.r (.sl vs.length (vs.map .sc)))
@[simp] def raAt (w : World) : RA → Value → Prop
  | .pl v, u => u = v
  | .row vs, u => (∃ a c, u = .slice a 0 c ∧ vs = []) ∨ ∃ b o c, u = .slice (some ⟨b, o, none⟩) vs.length c ∧ vs.length ≤ c ∧ b < w.heap.size ∧ ∀ (i : Nat) (v : Value), vs[i]? = some v → w.cell? ⟨b, o + i, none⟩ = some v
@[simp] def raAts (w : World) : List RA → List Value → Prop
  | [], [] => True
  | a :: l, v :: vs => raAt w a v ∧ raAts w l vs
  | _, _ => False
section
variable {P : Program}
theorem raAt_of {F : Fr} {w : World} {M : Heap} {i : Nat} (hI : Inv F w M [] w) : ∀ {a : RA} {v : Value}, RelV F w M (argV i (raPA a)) v → raAt w a v
  | .pl x, v, h => by
    obtain ⟨h1, -⟩ := h
    cases h1 with
    | t _ _ h2 => cases h2 with
      | sc _ _ => rfl
  | .row xs, v, h => by
    rcases row_in h with ⟨a, c, rfl, h1, h2⟩ | ⟨a, c, us, rfl, e1, e2, e3, e4, e5, e6⟩
    · exact .inl ⟨a, c, rfl, by simpa using h2⟩
    · obtain ⟨b, o, sp⟩ := a
      simp only at e1 e2 e5
      subst e1
      refine .inr ⟨b, o, c, rfl, e3, hI.wd.s0 _ (hI.wd.rk _ e2), fun j x hx => e5 j x ?_⟩
      have hj : j < us.length := by rw [e4, List.length_map]; exact (List.getElem?_eq_some_iff.1 hx).1
      have := e6 j us[j] (.sc x) (List.getElem?_eq_getElem hj) (by rw [List.getElem?_map, hx]; rfl)
      have q : ∀ (x y : Value), RoC F w y (.sc x) → y = x := fun x y h => by
        cases h with
        | sc _ _ => rfl
      rw [List.getElem?_eq_getElem hj, q _ _ this]
theorem raAts_of {F : Fr} {w : World} {M : Heap} (hI : Inv F w M [] w) : ∀ {args : List RA} {vals : List Value} (k : Nat), vals.length = args.length → (∀ (i : Nat) (pa : PA) (v : Value), (args.map raPA)[i]? = some pa → vals[i]? = some v → RelV F w M (argV (k + i) pa) v) → raAts w args vals
  | [], [], _, _, _ => trivial
  | a :: l, v :: vs, k, hl, h => ⟨raAt_of hI (h 0 _ v rfl rfl), raAts_of hI (k + 1) (by simpa using hl) fun i pa v hp hv => by
      have := h (i + 1) pa v (by simpa using hp) (by simpa using hv)
      rwa [show k + 1 + i = k + (i + 1) by omega]⟩
  | [], _ :: _, _, hl, _ => by simp at hl
  | _ :: _, [], _, hl, _ => by simp at hl
theorem Spec.reads {f : Nat} {args : List RA} {rs : List Value} (hE : Enters P f) (hrs : ∀ v ∈ rs, DM.plain v = true)
    (h : ∀ (w : World) (vals : List Value), tabP w → raAts w args vals → Calls P f vals.toArray w fun e w' => e = .returned (packV (rs.map fun _ => none) rs) ∧ Below w.heap.size w w') :
    Spec P f (args.map raPA) (rs.map fun _ => none) (rs.map .sc) (args.map raPA) := by
  refine ⟨hE, fun F w M vals hI hl hM hV hG => ?_⟩
  refine Calls.mono (h w vals hI.wd.tb.1 (raAts_of hI 0 (by simpa using hl) fun i pa v hp hv => by rw [Nat.zero_add]; exact hV i pa v hp hv)) ?_
  rintro e w' ⟨rfl, hB⟩
  have hI' : Inv F w M [] w' := hI.world hB.block hB.size ⟨hB.os, hB.output, hB.tape⟩
  have hI2 := hI'.hands (Y := rs.map .sc) (fun y hy => by
    obtain ⟨v, hv, rfl⟩ := List.mem_map.1 hy
    exact ⟨.sc v (hrs v hv), rfl, rfl⟩)
  rw [List.nil_append] at hI2
  have he : (rs.map (T.sc : Value → A)).map er = rs.map .sc := by
    rw [List.map_map]; rfl
  have hv : (rs.map (T.sc : Value → A)).map T.val = rs := by
    rw [List.map_map]
    conv => rhs; rw [← List.map_id rs]
    rfl
  refine ⟨_, initFS (args.map raPA), M, rs.map .sc, rfl, hI2, hM, hG, he, by rw [List.length_map, shLen_none], by rw [hv], rfl, fun i pa hp => ⟨pa, hp, ?_⟩⟩
  rw [List.getElem?_map, Option.map_eq_some_iff] at hp
  obtain ⟨a, -, rfl⟩ := hp
  cases a <;> rfl
end
end Go.Proofs.YtciieaidbiejmaaDoor.DM
