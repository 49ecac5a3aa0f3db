/-
  DM 26. Regions whose order is not told: what a step looks at.
-/
import Derived.Test.YtjjdjkkhhcbogaaD25
namespace Go.Proofs.Ytjjdjkkhhcbogaa.DM
set_option linter.unusedVariables false
set_option linter.unusedSimpArgs false
def refsDC : DC → List Nat
  | .sl id _ _ _ => [id]
  | .pt id _ _ => [id]
  | .fn _ ids => ids
  | _ => []
def refsDV : DV → List Nat
  | .v (.one c) => refsDC c
  | .v (.agg cs) => cs.flatMap refsDC
  | _ => []
def refsO (s : FS) (o : Oper) : List Nat := o.op.operands.toList.flatMap fun x => refsDV (ev s.e x)
section
variable {P : Program} {nt : Nat} {s s' s1 : FS} {ops : Array Oper}
theorem mapO_congr {α β : Type} {f g : α → Option β} : ∀ {l : List α}, (∀ x ∈ l, f x = g x) → mapO f l = mapO g l
  | [], _ => rfl
  | x :: l, h => by simp only [mapO, h x List.mem_cons_self, mapO_congr fun y hy => h y (List.mem_cons_of_mem _ hy)]
theorem partsC_local {e e' : Nat → DV} : ∀ {l : List (Nat × Operand)}, (∀ p ∈ l, ev e' p.2 = ev e p.2) → partsC e' l = partsC e l
  | [], _ => rfl
  | (i, x) :: l, h => by simp only [partsC, h (i, x) List.mem_cons_self, partsC_local fun p hp => h p (List.mem_cons_of_mem _ hp)]
theorem quietV_local {op : Op} (he : ∀ x ∈ op.operands.toList, ev s'.e x = ev s.e x) (hh : ∀ i ∈ op.operands.toList.flatMap (fun x => refsDV (ev s.e x)), s'.h i = s.h i) : quietV P s' op = quietV P s op := by
  cases op with
  | load t x =>
    have h1 : ev s'.e x = ev s.e x := he x (by simp [Op.operands])
    have h2 : ∀ i ∈ refsDV (ev s.e x), s'.h i = s.h i := fun i hi => hh i (by simpa [Op.operands] using hi)
    simp only [quietV, h1]
    cases hx : ev s.e x with
    | v y => cases y with
      | one c => cases c with
        | pt id p off =>
          rw [hx] at h2
          have h3 := h2 id (by simp [refsDV, refsDC])
          cases szT P t <;> cases aggT P t <;> simp only [h3]
        | _ => cases szT P t <;> cases aggT P t <;> rfl
      | agg _ => cases szT P t <;> cases aggT P t <;> rfl
    | _ => cases szT P t <;> cases aggT P t <;> rfl
  | slice t x lo hi mx =>
    have h1 : ev s'.e x = ev s.e x := he x (by simp [Op.operands])
    have h2 : ∀ i ∈ refsDV (ev s.e x), s'.h i = s.h i := fun i hi => hh i (List.mem_flatMap.2 ⟨x, by simp [Op.operands], hi⟩)
    have h3 : lo.map (ev s'.e) = lo.map (ev s.e) := by
      cases lo with
      | none => rfl
      | some y => simp only [Option.map_some]; rw [he y (by simp [Op.operands])]
    have h4 : hi.map (ev s'.e) = hi.map (ev s.e) := by
      cases hi with
      | none => rfl
      | some y => simp only [Option.map_some]; rw [he y (by simp [Op.operands])]
    cases mx with
    | some m => rfl
    | none =>
      simp only [quietV, h1, h3, h4]
      cases hx : ev s.e x with
      | v y => cases y with
        | one c => cases c with
          | sl id p off n => rw [hx] at h2; simp only [h2 id (by simp [refsDV, refsDC])]
          | t r => cases r with
            | sc v => cases v <;> rfl
            | _ => rfl
          | _ => rfl
        | agg _ => rfl
      | _ => rfl
  | build t ps =>
    have h1 : partsC s'.e ps.toList = partsC s.e ps.toList := partsC_local fun p hp => he p.2 (by simp only [Op.operands]; exact List.mem_map.2 ⟨p, hp, rfl⟩)
    simp only [quietV, h1]
  | call c =>
    obtain ⟨callee, args, ats⟩ := c
    cases callee with
    | builtin b => cases b with
      | len =>
        have h1 : ∀ x ∈ args.toList, ev s'.e x = ev s.e x := fun x hx => he x (by simp [Op.operands, Call.operands]; simpa using hx)
        simp only [quietV]
        cases ha : args.toList with
        | nil => rfl
        | cons x l => cases l with
          | nil =>
            rw [ha] at h1
            have h2 := h1 x (by simp)
            rcases ats.toList with _ | ⟨t, _ | ⟨_, _⟩⟩ <;> first | rfl | simp only [h2]
          | cons _ _ => rfl
      | _ => rfl
    | _ => rfl
  | pick c x y =>
    have h1 := he c (by simp [Op.operands]); have h2 := he x (by simp [Op.operands]); have h3 := he y (by simp [Op.operands])
    simp only [quietV, h1, h2, h3]
  | binOp op t x y p =>
    have h1 := he x (by simp [Op.operands]); have h2 := he y (by simp [Op.operands])
    simp only [quietV, h1, h2]
  | indexAddr t x y =>
    have h1 := he x (by simp [Op.operands]); have h2 := he y (by simp [Op.operands])
    simp only [quietV, h1, h2]
  | index t x y =>
    have h1 := he x (by simp [Op.operands]); have h2 := he y (by simp [Op.operands])
    simp only [quietV, h1, h2]
  | move x => simp only [quietV, he x (by simp [Op.operands])]
  | assign x => simp only [quietV, he x (by simp [Op.operands])]
  | nilCheck x => simp only [quietV, he x (by simp [Op.operands])]
  | unOp op t x => simp only [quietV, he x (by simp [Op.operands])]
  | convert a b x => simp only [quietV, he x (by simp [Op.operands])]
  | fieldAddr t x f => simp only [quietV, he x (by simp [Op.operands])]
  | extract x i => simp only [quietV, he x (by simp [Op.operands])]
  | field t x f => simp only [quietV, he x (by simp [Op.operands])]
  | _ => rfl
/-- A step that adds. -/
def addF (P : Program) (nt : Nat) (ops : Array Oper) (o : Oper) (s : FS) : Option Add := match o.dst, wantedD ops o s.e with
  | some d, some false => if d < nt then some ⟨d, .tup [], none⟩ else none
  | some d, some true => if d < nt then (match quietV P s o.op with
      | some v => some ⟨d, v, none⟩
      | none => none) else none
  | _, _ => none
theorem wanted_local {o : Oper} (h : ∀ t ∈ o.looksAt ops, s'.e t = s.e t) : wantedD ops o s'.e = wantedD ops o s.e := by
  unfold wantedD
  split
  · rfl
  · rename_i j want hg
    split
    · rename_i t ht
      rw [h t (by unfold Oper.looksAt; simp [hg, ht])]
    · rfl
theorem ev_local {o : Oper} (h : ∀ t ∈ o.looksAt ops, s'.e t = s.e t) : ∀ x ∈ o.op.operands.toList, ev s'.e x = ev s.e x := fun x hx => by
  cases x with
  | tmp t => exact h t (by unfold Oper.looksAt; exact List.mem_append_left _ (List.mem_filterMap.2 ⟨.tmp t, hx, rfl⟩))
  | _ => rfl
theorem stepF_of_quiet {o : Oper} {v : DV} (h : quietV P s o.op = some v) : stepF P nt o s = quietF P nt o.dst o.op s := by
  unfold stepF
  generalize o.op = op at h
  cases op with
  | alloc => simp [quietV] at h
  | box => simp [quietV] at h
  | buildSlice => simp [quietV] at h
  | makeSlice => simp [quietV] at h
  | store => simp [quietV] at h
  | call c =>
    obtain ⟨callee, args, ats⟩ := c
    cases callee with
    | builtin b => cases b <;> first | rfl | (simp [quietV] at h)
    | _ => simp [quietV] at h
  | _ => rfl
theorem cert_of_addF {o : Oper} {δ : Add} (h : addF P nt ops o s = some δ) : Cert P nt ops o (o.looksAt ops) (refsO s o) δ s := fun s' he hh => by
  unfold addF at h
  split at h
  · rename_i d hd hw
    split at h
    · rename_i hdn
      obtain rfl := Option.some.inj h
      exact .inr ⟨(wanted_local he).trans hw, by rw [hd]; simpa [dstOk] using hdn, by rw [hd]; rfl⟩
    · cases h
  · rename_i d hd hw
    split at h
    · rename_i hdn
      split at h
      · rename_i v hv
        obtain rfl := Option.some.inj h
        have hv' : quietV P s' o.op = some v := by rw [quietV_local (ev_local he) hh]; exact hv
        refine .inl ⟨(wanted_local he).trans hw, OpStep.of ?_⟩
        rw [stepF_of_quiet hv']
        unfold quietF
        rw [hv', hd]
        simp only [dstOk, hdn, decide_true, if_true]
        rfl
      · cases h
    · cases h
  · cases h
theorem roA_local {v : DV} (hh : ∀ i ∈ refsDV v, s'.h i = s.h i) : roA_ s' v = roA_ s v := by
  have hC : ∀ (c : DC), (∀ i ∈ refsDC c, s'.h i = s.h i) → toRC s' c = toRC s c := fun c hc => by
    cases c with
    | sl id p off n => simp only [toRC, hc id (by simp [refsDC])]
    | fn f ids =>
      simp only [toRC]
      congr 1
      exact mapO_congr fun i hi => by rw [hc i hi]
    | _ => rfl
  have hL : ∀ l : List DC, (∀ i ∈ l.flatMap refsDC, s'.h i = s.h i) → mapO (toRC s') l = mapO (toRC s) l := fun l hl => mapO_congr fun c hc => hC c fun i hi => hl i (List.mem_flatMap.2 ⟨c, hc, hi⟩)
  cases v with
  | v x => cases x with
    | one c => cases c with
      | pt id p off => simp only [roA_, hh id (by simp [refsDV, refsDC])]
      | rp cs => rfl
      | un => rfl
      | t r => rfl
      | nl => rfl
      | sl id p off n => simp only [roA_]; rw [hC (.sl id p off n) hh]
      | fn f ids => simp only [roA_]; rw [hC (.fn f ids) hh]
    | agg cs => simp only [roA_]; rw [hL _ hh]
  | _ => rfl
theorem rosOk_local : ∀ {io k : Nat} {vs : List DV} {as : List PA}, (∀ v ∈ vs, ∀ i ∈ refsDV v, s'.h i = s.h i) → rosOk s io k vs as → rosOk s' io k vs as
  | io, k, [], [], _, _ => trivial
  | io, k, [], _ :: _, _, h => by simp [rosOk] at h
  | io, k, _ :: _, [], _, h => by simp [rosOk] at h
  | io, k, v :: vs, pa :: as, hh, h => ⟨fun hi => by rw [roA_local (hh v List.mem_cons_self)]; exact h.1 hi, rosOk_local (fun u hu => hh u (List.mem_cons_of_mem _ hu)) h.2⟩
/-- A call with arguments that are read; its results are single values. -/
theorem Cert.callN {o : Oper} {f : Operand} {args : Array Operand} {ats : Array TypeId} {g d : Nat} {vs : List DV} {as as' : List PA} {sh : List (Option Nat)} {ds : List D} {cs : List DC} {δ : Add} (ho : o.op = .call { callee := .value f, args := args, argTypes := ats }) (hw : wantedD ops o s.e = some true)
    (hd : o.dst = some d) (hdn : d < nt) (hc : callArgs s f args.toList = some (g, vs)) (hS : Spec P g as sh ds as') (hr : rosOk s as.length 0 vs as) (hfl : ds.all flatD = true) (hro : widen as.length 0 vs = false ∨ noRoL ds = true) (hrd : rdCs d [] 0 ds = some cs) (hδ : δ = ⟨d, packDV sh cs, none⟩) :
    Cert P nt ops o (o.looksAt ops) (refsO s o ++ vs.flatMap refsDV) δ s := fun s' he hh => by
  subst hδ
  have hev := ev_local he
  have hf : ev s'.e f = ev s.e f := hev f (by simp [ho, Op.operands, Call.operands])
  have ha : args.toList.map (ev s'.e) = args.toList.map (ev s.e) := List.map_congr_left fun x hx => hev x (by simp [ho, Op.operands, Call.operands]; exact .inr (by simpa using hx))
  have hc' : callArgs s' f args.toList = some (g, vs) := by
    unfold callArgs at hc ⊢
    rw [hf, ha]
    exact hc
  refine .inl ⟨(wanted_local he).trans hw, OpStep.callN ho hc' hS (rosOk_local (fun v hv i hi => hh i (List.mem_append_right _ (List.mem_flatMap.2 ⟨v, hv, hi⟩))) hr) hro ?_⟩
  rw [hd]
  simp only [finish, hrd, if_pos hdn, hfl, if_true]
  rfl
def regA (P : Program) (nt : Nat) (ops : Array Oper) : List Oper → List (Option Foot) → FS → Option (List (Option Foot) × FS)
  | [], acc, s => some (acc, s)
  | o :: l, acc, s => match addF P nt ops o s with
    | some δ => regA P nt ops l (acc ++ [some (δ.d, o.looksAt ops, refsO s o)]) (s.add δ)
    | none => none
/-- A region, step by step; what each step looks at and writes is kept. -/
def RegD (P : Program) (nt : Nat) (ops : Array Oper) : List Oper → List (Option Foot) → FS → (List (Option Foot) → FS → Prop) → Prop
  | [], acc, s, N => N acc s
  | o :: l, acc, s, N => (∃ L R δ, Cert P nt ops o L R δ s ∧ RegD P nt ops l (acc ++ [some (δ.d, L, R)]) (s.add δ) N) ∨ (∃ s1, StepA P nt ops o s s1 ∧ RegD P nt ops l (acc ++ [none]) s1 N)
theorem RegD.adds {N : List (Option Foot) → FS → Prop} : ∀ {l l' : List Oper} {acc acc1 : List (Option Foot)} {s s1 : FS}, regA P nt ops l acc s = some (acc1, s1) → RegD P nt ops l' acc1 s1 N → RegD P nt ops (l ++ l') acc s N
  | [], l', acc, acc1, s, s1, h, hr => by
    simp only [regA, Option.some.injEq, Prod.mk.injEq] at h
    obtain ⟨rfl, rfl⟩ := h
    exact hr
  | o :: l, l', acc, acc1, s, s1, h, hr => by
    simp only [regA] at h
    split at h
    · rename_i δ hδ
      exact .inl ⟨_, _, δ, cert_of_addF hδ, RegD.adds h hr⟩
    · cases h
theorem RegD.addN {N : List (Option Foot) → FS → Prop} (n : Nat) {l : List Oper} {acc acc1 : List (Option Foot)} (h : regA P nt ops (l.take n) acc s = some (acc1, s1)) (hr : RegD P nt ops (l.drop n) acc1 s1 N) : RegD P nt ops l acc s N := by
  have := RegD.adds h hr
  rwa [List.take_append_drop] at this
theorem RegO.opN {N : FS → Prop} (n : Nat) {l : List Oper} (h : regF P nt ops (l.take n) s = Option.some s1) (hr : RegO P nt ops (l.drop n) s1 N) : RegO P nt ops l s N := by
  have := RegO.some h hr
  rwa [List.take_append_drop] at this
theorem RegD.cert {N : List (Option Foot) → FS → Prop} {o : Oper} {l : List Oper} {acc : List (Option Foot)} {L R : List Nat} {δ : Add} (hc : Cert P nt ops o L R δ s) (hr : RegD P nt ops l (acc ++ [some (δ.d, L, R)]) (s.add δ) N) : RegD P nt ops (o :: l) acc s N := .inl ⟨L, R, δ, hc, hr⟩
theorem RegD.heavy {N : List (Option Foot) → FS → Prop} {o : Oper} {l : List Oper} {acc : List (Option Foot)} (hc : StepA P nt ops o s s1) (hr : RegD P nt ops l (acc ++ [none]) s1 N) : RegD P nt ops (o :: l) acc s N := .inr ⟨s1, hc, hr⟩
theorem regD_chain {N : List (Option Foot) → FS → Prop} : ∀ {l : List Oper} {acc : List (Option Foot)} {s : FS} (k : Nat), k = acc.length → (∀ (i : Nat) (o : Oper), l[i]? = some o → ops[k + i]? = some o) → RegD P nt ops l acc s N →
    ∃ pl s2, N (acc ++ pl) s2 ∧ pl.length = l.length ∧ ∀ plan : Nat → Option Foot, (∀ i, i < pl.length → plan (k + i) = (pl.getD i none)) → Chain P nt ops plan (List.range' k l.length) s s2
  | [], acc, s, k, hk, ho, h => ⟨[], s, by simpa [RegD] using h, rfl, fun plan _ => .nil s⟩
  | o :: l, acc, s, k, hk, ho, h => by
    have hok : ops[k]? = some o := by simpa using ho 0 o rfl
    have ho' : ∀ (i : Nat) (o' : Oper), l[i]? = some o' → ops[k + 1 + i]? = some o' := fun i o' hi => by
      have := ho (i + 1) o' (by simpa using hi)
      rw [← this]; congr 1; omega
    rcases h with ⟨L, R, δ, hc, hr⟩ | ⟨s1, hc, hr⟩
    · obtain ⟨pl, s2, h1, h2, h3⟩ := regD_chain (k + 1) (by simp [hk]) ho' hr
      refine ⟨some (δ.d, L, R) :: pl, s2, by simpa using h1, by simp [h2], fun plan hp => ?_⟩
      rw [List.length_cons, List.range'_succ]
      refine .add hok (by have := hp 0 (by simp); simpa using this) hc (h3 plan fun i hi => ?_)
      have := hp (i + 1) (by simp; omega)
      rw [Nat.add_assoc, Nat.add_comm 1 i, this]
      simp
    · obtain ⟨pl, s2, h1, h2, h3⟩ := regD_chain (k + 1) (by simp [hk]) ho' hr
      refine ⟨none :: pl, s2, by simpa using h1, by simp [h2], fun plan hp => ?_⟩
      rw [List.length_cons, List.range'_succ]
      refine .heavy hok (by have := hp 0 (by simp); simpa using this) hc (h3 plan fun i hi => ?_)
      have := hp (i + 1) (by simp; omega)
      rw [Nat.add_assoc, Nat.add_comm 1 i, this]
      simp
def dedup : List Nat → List Nat
  | [] => []
  | x :: l => if (dedup l).contains x then dedup l else x :: dedup l
/-- What comes before each operation. -/
def tableOf (l : List Oper) : List (List Nat) := l.foldl (fun tb o => tb ++ [dedup ((o.after.toList.filter (Region.binds .any)).flatMap fun e => e.on :: tb.getD e.on [])]) []
/-- A region whose order is not told. -/
theorem DW.drawn {id : Nat} {l : List Oper} {Q : Exit → FS → Prop} (hm : P.follows .mixedOrders = true) (ht : tableOk .any l.toArray (tableOf l) = true) (h : RegD P nt l.toArray l [] s fun pl s2 => planOk (fun i => pl.getD i none) (tableOf l) l.length = true ∧ Q .normal s2) : DW P nt (.region id l.toArray true) s Q := by
  obtain ⟨pl, s2, ⟨h1, h2⟩, h3, h4⟩ := regD_chain (ops := l.toArray) 0 rfl (fun i o hi => by simpa using hi) h
  simp only [List.nil_append] at h1
  refine DW.draw (tableOf l) hm ht (plan := fun i => pl.getD i none) (by simpa using h1) ?_ h2
  have := h4 (fun i => pl.getD i none) (fun i hi => by simp)
  rw [List.range_eq_range']
  simpa using this
end
attribute [simp] regA addF refsO refsDV refsDC FS.add Op.operands Call.operands Oper.looksAt
end Go.Proofs.Ytjjdjkkhhcbogaa.DM
