/-
  DM 23. Regions: in order; in any order.
-/
import Derived.Test.YtjjdjkkhhcbogaaD22
namespace Go.Proofs.Ytjjdjkkhhcbogaa.DM
set_option linter.unusedVariables false
set_option linter.unusedSimpArgs false
/-- Is the operation wanted, as the state tells? -/
def wantedD (ops : Array Oper) (o : Oper) (e : Nat → DV) : Option Bool := match o.guard with
  | none => some true
  | some (j, want) => match (ops[j]?).bind (·.dst) with
    | some t => match e t with
      | .v (.one (.t (.sc (.bool b)))) => some (b == want)
      | .tup [] => some false
      | _ => none
    | none => some false
section
variable {S0 : Fr} {w0 w w' : World} {M M' M1 : Heap} {X : List A} {P : Program} {nt : Nat} {s s1 : FS} {a : Act} {ops : Array Oper}
theorem wantedD_ok {o : Oper} {b : Bool} (hR : Rel S0 w0 nt s M a w) (h : wantedD ops o s.e = some b) : Region.wanted o (yielded ops a.tmps) = b := by
  unfold wantedD at h
  unfold Region.wanted
  split at h
  · obtain rfl := Option.some.inj h; rename_i hg; rw [hg]
  · rename_i j want hg
    rw [hg]
    simp only [yielded]
    split at h
    · rename_i t ht
      rw [ht]
      simp only [Option.bind_some]
      have hen := hR.en t
      split at h
      · rename_i b' he
        obtain rfl := Option.some.inj h
        rw [he] at hen
        obtain ⟨hc, -⟩ := hen
        have hv : a.tmps.getD t undef = .bool b' := by
          generalize a.tmps.getD t undef = u at hc
          cases hc with
          | t r v h => cases h with | sc v hv => rfl
        have ht : a.tmps[t]? = some (.bool b') := by
          rw [Array.getD_eq_getD_getElem?] at hv
          cases hh : a.tmps[t]? with
          | none => rw [hh] at hv; cases hv
          | some x => rw [hh] at hv; simpa using hv
        rw [ht]
        cases b' <;> cases want <;> rfl
      · rename_i he
        obtain rfl := Option.some.inj h
        rw [he] at hen
        obtain ⟨vs, hv, hl, -⟩ := hen
        have hvs : vs = [] := List.length_eq_zero_iff.1 (by simpa using hl)
        subst hvs
        have ht : a.tmps[t]? = none ∨ a.tmps[t]? = some (.tuple #[]) := by
          rw [Array.getD_eq_getD_getElem?] at hv
          cases hh : a.tmps[t]? with
          | none => exact .inl rfl
          | some x => rw [hh] at hv; exact .inr (by simpa using hv)
        rcases ht with ht | ht <;> rw [ht] <;> cases want <;> rfl
      · cases h
    · rename_i ht
      obtain rfl := Option.some.inj h
      rw [ht]
      cases want <;> rfl
def RegO (P : Program) (nt : Nat) (ops : Array Oper) : List Oper → FS → (FS → Prop) → Prop
  | [], s, N => N s
  | o :: l, s, N => ∃ b, wantedD ops o s.e = some b ∧ (b = true → ∃ K : FS → Prop, OpStepE P nt o s K ∧ ∀ s1, K s1 → RegO P nt ops l s1 N) ∧ (b = false → dstOk nt o.dst = true ∧ RegO P nt ops l (s.set o.dst (.tup [])) N)
theorem undef_ok : RelV S0 w0 M (.tup []) undef := ⟨[], rfl, rfl, fun i x u h => by simp at h⟩
theorem regO_ok {Q : Exit → Act → World → Prop} {N : FS → Prop} : ∀ (l : List Oper) (k : Nat), (∀ (i : Nat) (o : Oper), l[i]? = some o → ops[k + i]? = some o) → ∀ {s : FS} {M : Heap} {a : Act} {w : World}, Rel S0 w0 nt s M a w → RegO P nt ops l s N →
    (∀ (s1 : FS) (M1 : Heap) (a1 : Act) (w1 : World), N s1 → Rel S0 w0 nt s1 M1 a1 w1 → Q .normal a1 w1) → wpOps P ops Q (List.range' k l.length) a w
  | [], k, _, s, M, a, w, hR, h, hQ => hQ s M a w h hR
  | o :: l, k, ho, s, M, a, w, hR, h, hQ => by
    obtain ⟨b, hb, h1, h2⟩ := h
    rw [List.length_cons, List.range'_succ]
    have hok : ops[k]? = some o := by simpa using ho 0 o rfl
    have ho' : ∀ (i : Nat) (o' : Oper), l[i]? = some o' → ops[k + 1 + i]? = some o' := fun i o' hi => by
      have := ho (i + 1) o' (by simpa using hi)
      rw [← this]; congr 1; omega
    simp only [wpOps, hok]
    rw [wantedD_ok hR hb]
    cases b with
    | true =>
      simp only [if_true]
      obtain ⟨K, hs1, hrest⟩ := h1 rfl
      exact .inl (hs1 S0 w0 M a w hR _ _ fun s1 M1 a1 w1 hK hR1 => regO_ok l (k + 1) ho' hR1 (hrest s1 hK) hQ)
    | false =>
      simp only [Bool.false_eq_true, if_false]
      obtain ⟨hd, hrest⟩ := h2 rfl
      exact regO_ok l (k + 1) ho' (hR.set undef_ok hd) hrest hQ
theorem DW.region {id : Nat} {Q : Exit → FS → Prop} (h : RegO P nt ops ops.toList s (Q .normal)) : DW P nt (.region id ops false) s Q := fun S0 w0 M a w hR => by
  refine wp_region ?_
  rw [List.range_eq_range', ← Array.length_toList]
  exact regO_ok ops.toList 0 (fun i o hi => by simpa using hi) hR h fun s1 M1 a1 w1 h1 h2 => ⟨s1, M1, h1, h2⟩
/-- What a step adds: a temporary, a new row. -/
structure Add where
  d : Nat
  v : DV
  x : Option D
def FS.add (s : FS) (δ : Add) : FS := ⟨upd s.e δ.d δ.v, match δ.x with | none => s.h | some x => upd s.h δ.d (some x), s.g⟩
def StepA (P : Program) (nt : Nat) (ops : Array Oper) (o : Oper) (s s1 : FS) : Prop := (wantedD ops o s.e = some true ∧ OpStep P nt o s s1) ∨ (wantedD ops o s.e = some false ∧ dstOk nt o.dst = true ∧ s1 = s.set o.dst (.tup []))
/-- The step looks at these temporaries and these entries alone. -/
def Cert (P : Program) (nt : Nat) (ops : Array Oper) (o : Oper) (L R : List Nat) (δ : Add) (s : FS) : Prop := ∀ s' : FS, (∀ t ∈ L, s'.e t = s.e t) → (∀ i ∈ R, s'.h i = s.h i) → StepA P nt ops o s' (s'.add δ)
/-- What a step that adds writes; the temporaries and the entries that it looks at. -/
abbrev Foot := Nat × List Nat × List Nat
def apartA (L R : List Nat) (d : Nat) (L' R' : List Nat) (d' : Nat) : Prop := d ≠ d' ∧ d ∉ L' ∧ d' ∉ L ∧ d ∉ R' ∧ d' ∉ R
def pairOk : Option Foot → Option Foot → Bool
  | some (d, L, R), some (d', L', R') => d != d' && !L'.contains d && !L.contains d' && !R'.contains d && !R.contains d'
  | _, _ => false
theorem pairOk_some {d : Nat} {L R : List Nat} {q : Option Foot} (h : pairOk (some (d, L, R)) q = true) : ∃ d' L' R', q = some (d', L', R') ∧ apartA L R d L' R' d' := by
  cases q with
  | none => cases h
  | some f =>
    obtain ⟨d', L', R'⟩ := f
    simp only [pairOk, Bool.and_eq_true, bne_iff_ne, Bool.not_eq_true', List.contains_eq_mem, decide_eq_false_iff_not] at h
    exact ⟨d', L', R', rfl, h.1.1.1.1, h.1.1.1.2, h.1.1.2, h.1.2, h.2⟩
theorem upd_comm {α : Type} (f : Nat → α) {k l : Nat} (u v : α) (h : k ≠ l) : upd (upd f k u) l v = upd (upd f l v) k u := by
  funext i
  by_cases h1 : i = k
  · subst h1; rw [upd_ne _ _ _ _ h, upd_same, upd_same]
  · by_cases h2 : i = l
    · subst h2; rw [upd_same, upd_ne _ _ _ _ h1, upd_same]
    · rw [upd_ne _ _ _ _ h2, upd_ne _ _ _ _ h1, upd_ne _ _ _ _ h1, upd_ne _ _ _ _ h2]
theorem add_comm' (s : FS) (δ δ' : Add) (h : δ.d ≠ δ'.d) : (s.add δ).add δ' = (s.add δ').add δ := by
  obtain ⟨d, v, x⟩ := δ
  obtain ⟨d', v', x'⟩ := δ'
  cases x <;> cases x' <;> simp only [FS.add] <;> simp only at h <;> simp only [upd_comm _ _ _ h]
inductive Chain (P : Program) (nt : Nat) (ops : Array Oper) (plan : Nat → Option Foot) : List Nat → FS → FS → Prop
  | nil (s : FS) : Chain P nt ops plan [] s s
  | add {i : Nat} {l : List Nat} {o : Oper} {L R : List Nat} {δ : Add} {s s2 : FS} : ops[i]? = some o → plan i = some (δ.d, L, R) → Cert P nt ops o L R δ s → Chain P nt ops plan l (s.add δ) s2 → Chain P nt ops plan (i :: l) s s2
  | heavy {i : Nat} {l : List Nat} {o : Oper} {s s1 s2 : FS} : ops[i]? = some o → plan i = none → StepA P nt ops o s s1 → Chain P nt ops plan l s1 s2 → Chain P nt ops plan (i :: l) s s2
theorem Cert.move {o : Oper} {L R L' R' : List Nat} {δ δ' : Add} (h : apartA L R δ.d L' R' δ'.d) : Cert P nt ops o L' R' δ' (s.add δ) ↔ Cert P nt ops o L' R' δ' s := by
  have he : ∀ t ∈ L', (s.add δ).e t = s.e t := fun t ht => upd_ne _ _ _ _ fun e => h.2.1 (e ▸ ht)
  have hh : ∀ i ∈ R', (s.add δ).h i = s.h i := fun i hi => by
    simp only [FS.add]
    cases δ.x with
    | none => rfl
    | some x => exact upd_ne _ _ _ _ fun e => h.2.2.2.1 (e ▸ hi)
  constructor
  · exact fun hc s' h1 h2 => hc s' (fun t ht => (h1 t ht).trans (he t ht).symm) (fun i hi => (h2 i hi).trans (hh i hi).symm)
  · exact fun hc s' h1 h2 => hc s' (fun t ht => (h1 t ht).trans (he t ht)) (fun i hi => (h2 i hi).trans (hh i hi))
theorem apartA.symm {L R L' R' : List Nat} {δ δ' : Nat} (h : apartA L R δ L' R' δ') : apartA L' R' δ' L R δ := ⟨h.1.symm, h.2.2.1, h.2.1, h.2.2.2.2, h.2.2.2.1⟩
/-- A step that is apart from all before it may come first. -/
theorem Chain.first {plan : Nat → Option Foot} {i : Nat} {post : List Nat} {s2 : FS} : ∀ {pre : List Nat} {s : FS}, (∀ k ∈ pre, pairOk (plan k) (plan i) = true) → Chain P nt ops plan (pre ++ i :: post) s s2 →
    ∃ o s1, ops[i]? = some o ∧ StepA P nt ops o s s1 ∧ Chain P nt ops plan (pre ++ post) s1 s2 ∧ (∀ d L R, plan i = some (d, L, R) → ∃ δ, δ.d = d ∧ Cert P nt ops o L R δ s ∧ s1 = s.add δ)
  | [], s, _, h => by
    cases h with
    | add ho hp hc hr =>
      rename_i o L R δ
      exact ⟨_, _, ho, hc s (fun _ _ => rfl) (fun _ _ => rfl), hr, fun d L' R' h => by
        rw [hp] at h
        simp only [Option.some.injEq, Prod.mk.injEq] at h
        obtain ⟨rfl, rfl, rfl⟩ := h
        exact ⟨δ, rfl, hc, rfl⟩⟩
    | heavy ho hp hc hr => exact ⟨_, _, ho, hc, hr, fun d L R h => by rw [hp] at h; cases h⟩
  | k :: pre, s, hk, h => by
    have hki := hk k List.mem_cons_self
    have hpre : ∀ k' ∈ pre, pairOk (plan k') (plan i) = true := fun k' h' => hk k' (List.mem_cons_of_mem _ h')
    cases h with
    | heavy ho hp hc hr => rw [hp] at hki; cases hki
    | add ho hp hc hr =>
      rename_i o L R δ
      rw [hp] at hki
      obtain ⟨d', L', R', hpi, hap⟩ := pairOk_some hki
      obtain ⟨oi, s1, h1, h2, h3, h4⟩ := Chain.first (i := i) (post := post) hpre hr
      obtain ⟨δ', rfl, g1, rfl⟩ := h4 d' L' R' hpi
      have g2 := (Cert.move hap).1 g1
      refine ⟨oi, s.add δ', h1, g2 s (fun _ _ => rfl) (fun _ _ => rfl), .add ho hp ((Cert.move (δ' := δ) hap.symm).2 hc) ?_, fun d2 L2 R2 e => ?_⟩
      · rw [add_comm' s δ' δ hap.1.symm]; exact h3
      · rw [hpi] at e
        simp only [Option.some.injEq, Prod.mk.injEq] at e
        obtain ⟨rfl, rfl, rfl⟩ := e
        exact ⟨δ', rfl, g2, rfl⟩
theorem StepA.wpOp {i : Nat} {o : Oper} {K : Act → World → Prop} {Q : Exit → Act → World → Prop} (ho : ops[i]? = some o) (h : StepA P nt ops o s s1) (hR : Rel S0 w0 nt s M a w) (hK : ∀ (M1 : Heap) (a1 : Act) (w1 : World), Rel S0 w0 nt s1 M1 a1 w1 → K a1 w1) : wpOp P ops Q i K a w := by
  unfold Go.wpOp
  simp only [ho]
  rcases h with ⟨h1, h2⟩ | ⟨h1, h2, rfl⟩
  · rw [wantedD_ok hR h1, if_pos rfl]
    exact .inl (h2 S0 w0 M a w hR _ _ hK)
  · rw [wantedD_ok hR h1, if_neg (by simp)]
    exact hK M _ _ (hR.set undef_ok h2)
/-- What comes before each operation, the table tells. -/
def tableOk (md : Region.Mode) (ops : Array Oper) (tb : List (List Nat)) : Bool :=
  (List.range ops.size).all fun j => match ops[j]? with
    | some o => (tb.getD j []).all (fun k => o.after.any fun e => Region.binds md e && decide (e.on < j) && (e.on == k || (tb.getD e.on []).contains k)) && o.after.all fun e => !Region.binds md e || decide (e.on < j)
    | none => false
def planOk (plan : Nat → Option Foot) (tb : List (List Nat)) (n : Nat) : Bool := (List.range n).all fun j => (List.range j).all fun i => (tb.getD j []).contains i || pairOk (plan i) (plan j)
theorem planOk_spec {plan : Nat → Option Foot} {tb : List (List Nat)} {n : Nat} (h : planOk plan tb n = true) (j : Nat) (hj : j < n) (i : Nat) (hi : i < j) : i ∈ tb.getD j [] ∨ pairOk (plan i) (plan j) = true := by
  unfold planOk at h
  rw [List.all_eq_true] at h
  have h1 := h j (List.mem_range.2 hj)
  rw [List.all_eq_true] at h1
  have h2 := h1 i (List.mem_range.2 hi)
  simpa using h2
theorem table_spec {md : Region.Mode} {tb : List (List Nat)} (h : tableOk md ops tb = true) {j : Nat} {o : Oper} (ho : ops[j]? = some o) :
    (∀ k ∈ tb.getD j [], ∃ e ∈ o.after, Region.binds md e = true ∧ e.on < j ∧ (e.on = k ∨ k ∈ tb.getD e.on [])) ∧ ∀ e ∈ o.after, Region.binds md e = true → e.on < j := by
  unfold tableOk at h
  rw [List.all_eq_true] at h
  have h1 := h j (List.mem_range.2 (Array.getElem?_eq_some_iff.1 ho).1)
  rw [ho] at h1
  simp only [Bool.and_eq_true, List.all_eq_true, Array.all_eq_true_iff_forall_mem] at h1
  refine ⟨fun k hk => ?_, fun e he hb => ?_⟩
  · obtain ⟨e, he, hb⟩ := Array.any_eq_true'.1 (h1.1 k hk)
    simp only [Bool.and_eq_true, decide_eq_true_eq, Bool.or_eq_true, beq_iff_eq, List.contains_iff_mem] at hb
    exact ⟨e, he, hb.1.1, hb.1.2, hb.2⟩
  · have := h1.2 e he
    simpa [hb] using this
theorem before_listed {md : Region.Mode} {tb : List (List Nat)} (h : tableOk md ops tb = true) {D : Nat → Prop} (hD : ∀ j o, ops[j]? = some o → D j → ∀ e ∈ o.after, Region.binds md e = true → D e.on) : ∀ (j : Nat), j < ops.size → D j → ∀ k ∈ tb.getD j [], D k := fun j => by
  induction j using Nat.strongRecOn with
  | _ j ih =>
    intro hj hd k hk
    have ho : ops[j]? = some ops[j] := Array.getElem?_eq_getElem hj
    obtain ⟨e, he, hb, hlt, hor⟩ := (table_spec h ho).1 k hk
    have hde := hD j _ ho hd e he hb
    rcases hor with rfl | hk'
    · exact hde
    · exact ih e.on hlt (by omega) hde k hk'
theorem chain_any {md : Region.Mode} {plan : Nat → Option Foot} {tb : List (List Nat)} {Q : Exit → Act → World → Prop} {s2 : FS} (ht : tableOk md ops tb = true) (hp : planOk plan tb ops.size = true) (hQ : ∀ (M1 : Heap) (a1 : Act) (w1 : World), Rel S0 w0 nt s2 M1 a1 w1 → Q .normal a1 w1) :
    ∀ (fuel : Nat) (l : List Nat) (listed : Array Bool) {s : FS} {M : Heap} {a : Act} {w : World}, l.length ≤ fuel → l.Pairwise (· < ·) → (∀ j ∈ l, j < ops.size) → listed.size = ops.size → (∀ j, j < ops.size → (listed.getD j true = false ↔ j ∈ l)) →
      (∀ j o, ops[j]? = some o → j ∉ l → ∀ e ∈ o.after, Region.binds md e = true → e.on ∉ l) → Chain P nt ops plan l s s2 → Rel S0 w0 nt s M a w → wpAny P md ops Q fuel listed a w := by
  intro fuel
  have hready : ∀ (l : List Nat) (listed : Array Bool), listed.size = ops.size → (∀ j ∈ l, j < ops.size) → (∀ j, j < ops.size → (listed.getD j true = false ↔ j ∈ l)) → ∀ i, i ∈ Region.ready md ops listed ↔ i ∈ l ∧ ∃ o, ops[i]? = some o ∧ ∀ e ∈ o.after, Region.binds md e = true → e.on ∉ l := by
    intro l listed hsz hl hli i
    rw [mem_ready]
    constructor
    · rintro ⟨h0, o, ho, he⟩
      have hi : i < ops.size := (Array.getElem?_eq_some_iff.1 ho).1
      refine ⟨(hli i hi).1 h0, o, ho, fun e hem hb hin => ?_⟩
      have h1 := he e hem hb
      have h2 := (hli e.on (hl _ hin)).2 hin
      have hlt : e.on < listed.size := by rw [hsz]; exact hl _ hin
      rw [Array.getD_eq_getD_getElem?, Array.getElem?_eq_getElem hlt] at h1 h2
      rw [Option.getD_some] at h1 h2
      rw [h1] at h2; cases h2
    · rintro ⟨hi, o, ho, he⟩
      refine ⟨(hli i (hl i hi)).2 hi, o, ho, fun e hem hb => ?_⟩
      have hlt := (table_spec ht ho).2 e hem hb
      have hlt2 : e.on < ops.size := by have := (Array.getElem?_eq_some_iff.1 ho).1; omega
      have h2 : ¬ listed.getD e.on true = false := fun h => he e hem hb ((hli e.on hlt2).1 h)
      have hlt3 : e.on < listed.size := by omega
      rw [Array.getD_eq_getD_getElem?, Array.getElem?_eq_getElem hlt3, Option.getD_some] at h2 ⊢
      simpa using h2
  have hnil : ∀ (l : List Nat) (listed : Array Bool), listed.size = ops.size → l.Pairwise (· < ·) → (∀ j ∈ l, j < ops.size) → (∀ j, j < ops.size → (listed.getD j true = false ↔ j ∈ l)) → Region.ready md ops listed = [] → l = [] := by
    intro l listed hsz hs hl hli hr
    cases l with
    | nil => rfl
    | cons i l =>
      have hi : i < ops.size := hl i List.mem_cons_self
      have : i ∈ Region.ready md ops listed := (hready _ listed hsz hl hli i).2 ⟨List.mem_cons_self, ops[i], Array.getElem?_eq_getElem hi, fun e he hb hin => by
        have h1 := (table_spec ht (Array.getElem?_eq_getElem hi)).2 e he hb
        rw [List.pairwise_cons] at hs
        rcases List.mem_cons.1 hin with h | h
        · omega
        · have := hs.1 _ h; omega⟩
      rw [hr] at this; cases this
  induction fuel with
  | zero =>
    intro l listed s M a w hlen hs hl hsz hli hcl hch hR
    have : l = [] := List.length_eq_zero_iff.1 (by omega)
    subst this
    cases hch with
    | nil =>
      refine ⟨?_, hQ M a w hR⟩
      cases hr : Region.ready md ops listed with
      | nil => rfl
      | cons i r =>
        have := (hready [] listed hsz hl hli i).1 (by rw [hr]; exact List.mem_cons_self)
        simp at this
  | succ fuel ih =>
    intro l listed s M a w hlen hs hl hsz hli hcl hch hR
    refine ⟨fun hr => ?_, fun i hi => ?_⟩
    · have := hnil l listed hsz hs hl hli hr
      subst this
      cases hch with
      | nil => exact hQ M a w hR
    · obtain ⟨hil, o, ho, he⟩ := (hready l listed hsz hl hli i).1 hi
      obtain ⟨pre, post, rfl⟩ := List.append_of_mem hil
      rw [List.pairwise_append, List.pairwise_cons] at hs
      obtain ⟨hs1, ⟨hs2, hs3⟩, hs4⟩ := hs
      have hipre : i ∉ pre := fun h => absurd (hs4 i h i List.mem_cons_self) (Nat.lt_irrefl _)
      have hipost : i ∉ post := fun h => absurd (hs2 i h) (Nat.lt_irrefl _)
      have hilt : i < ops.size := hl i hil
      have hpair : ∀ k ∈ pre, pairOk (plan k) (plan i) = true := fun k hk => by
        rcases planOk_spec hp i hilt k (hs4 k hk i List.mem_cons_self) with h | h
        · exfalso
          obtain ⟨e, hem, hb, hlt, hor⟩ := (table_spec ht ho).1 k h
          have h1 := he e hem hb
          have hkl : k ∈ pre ++ i :: post := List.mem_append_left _ hk
          rcases hor with rfl | hk'
          · exact h1 hkl
          · exact before_listed ht (D := fun j => j ∉ pre ++ i :: post) (fun j o hj hd e he hb => hcl j o hj hd e he hb) e.on (by omega) h1 k hk' hkl
        · exact h
      obtain ⟨o', s1, h1, h2, h3, -⟩ := Chain.first hpair hch
      refine h2.wpOp h1 hR fun M1 a1 w1 hR1 => ih (pre ++ post) (listed.setIfInBounds i true) ?_ ?_ (fun j hj => hl j ?_) (by simpa using hsz) (fun j hj => ?_) (fun j oj hoj hj e hem hb => ?_) h3 hR1
      · simp only [List.length_append, List.length_cons] at hlen ⊢; omega
      · rw [List.pairwise_append]
        exact ⟨hs1, hs3, fun x hx y hy => hs4 x hx y (List.mem_cons_of_mem _ hy)⟩
      · rcases List.mem_append.1 hj with h | h
        · exact List.mem_append_left _ h
        · exact List.mem_append_right _ (List.mem_cons_of_mem _ h)
      · by_cases hji : j = i
        · subst hji
          have : (listed.setIfInBounds j true).getD j true = true := by
            rw [Array.getD_eq_getD_getElem?, Array.getElem?_setIfInBounds_self_of_lt (by omega)]; rfl
          rw [this]
          simp [hipre, hipost]
        · rw [getD_set_ne true (Ne.symm hji), hli j hj]
          simp [hji]
      · have hsub : ∀ x, x ∈ pre ++ post → x ∈ pre ++ i :: post := fun x hx => by
          rcases List.mem_append.1 hx with h | h
          · exact List.mem_append_left _ h
          · exact List.mem_append_right _ (List.mem_cons_of_mem _ h)
        by_cases hji : j = i
        · subst hji
          rw [ho] at hoj
          obtain rfl := Option.some.inj hoj
          exact fun h => he e hem hb (hsub _ h)
        · have hj' : j ∉ pre ++ i :: post := fun h => by
            rcases List.mem_append.1 h with h | h
            · exact hj (List.mem_append_left _ h)
            · rcases List.mem_cons.1 h with h | h
              · exact hji h
              · exact hj (List.mem_append_right _ h)
          exact fun h => hcl j oj hoj hj' e hem hb (hsub _ h)
theorem RelX.drawn (hR : Rel S0 w0 nt s M a w) : Rel S0 w0 nt s M a { w with drawn := w.drawn + 1 } :=
  ⟨hR.inv.world (w' := { w with drawn := w.drawn + 1 }) (fun _ _ => rfl) (Nat.le_refl _), hR.er, hR.en, hR.nt, hR.df, hR.gh⟩
/-- A region whose order is not told. -/
theorem DW.draw {id : Nat} {Q : Exit → FS → Prop} {plan : Nat → Option Foot} {s2 : FS} (tb : List (List Nat)) (hm : P.follows .mixedOrders = true) (ht : tableOk .any ops tb = true) (hp : planOk plan tb ops.size = true) (hc : Chain P nt ops plan (List.range ops.size) s s2) (h : Q .normal s2) :
    DW P nt (.region id ops true) s Q := fun S0 w0 M a w hR => by
  refine wp_region_any hm ?_
  refine chain_any ht hp (fun M1 a1 w1 h1 => ⟨s2, M1, h, h1⟩) ops.size (List.range ops.size) _ (by simp) List.pairwise_lt_range (fun j hj => List.mem_range.1 hj) (by simp) (fun j hj => ?_) (fun j o ho hj => ?_) hc hR.drawn
  · simp [hj]
  · exact absurd (List.mem_range.2 (Array.getElem?_eq_some_iff.1 ho).1) hj
end
end Go.Proofs.Ytjjdjkkhhcbogaa.DM
