/-
  DM 56. In a region whose order is not told: a call with a pointer to a row that gives any results, ahead of steps that add (RegG); a region proved for one end (DX).
-/
import Derived.Test.YtciieaidbiejmaaX55
namespace Go.Proofs.Ytciieaidbiejmaa.DM
set_option linter.unusedVariables false
set_option linter.unusedSimpArgs false
section
variable {P : Program} {nt : Nat} {s s1 : FS} {ops : Array Oper} {K T : Nat → List Nat} {φ : Nat → DV → DV}
theorem RegG.free {N : List (Option Foot) → FS → Prop} {o : Oper} {l : List Oper} {acc : List (Option Foot)} (hw : o.guard = none)
    (hc : ∀ e' : Nat → DV, (∀ t, t ∉ T acc.length → e' t = s.e t) → OpStep P nt o ⟨e', s.h, s.g⟩ ⟨fun t => if t ∈ T acc.length then φ acc.length (e' t) else s1.e t, s1.h, s1.g⟩)
    (hT : ∀ t ∈ T acc.length, φ acc.length (s.e t) = s.e t ∧ s1.e t = s.e t) (hK : ∀ k ∈ K acc.length, k < acc.length) (hf : FootF (φ acc.length) (fun i => acc.getD i none) (K acc.length) (T acc.length) s s1)
    (hr : RegG P nt ops K T φ l (acc ++ [none]) s1 N) : RegG P nt ops K T φ (o :: l) acc s N := by
  have hwant : ∀ s' : FS, wantedD ops o s'.e = some true := fun s' => by simp [wantedD, hw]
  refine .inr ⟨s1, .inl ⟨hwant _, ?_⟩, fun _ => ⟨⟨fun e' he' => .inl ⟨hwant _, hc e' he'⟩, hT⟩, hK, hf⟩, hr⟩
  have h0 := hc s.e (fun _ _ => rfl)
  have e1 : (⟨fun t => if t ∈ T acc.length then φ acc.length (s.e t) else s1.e t, s1.h, s1.g⟩ : FS) = s1 := by
    have h1 : (fun t => if t ∈ T acc.length then φ acc.length (s.e t) else s1.e t) = s1.e := by
      funext t
      split
      · rename_i ht; rw [(hT t ht).1, (hT t ht).2]
      · rfl
    rw [h1]
  rw [e1] at h0
  exact h0
/-- The state behind the call. -/
def ptrFG (s : FS) (id k d : Nat) (cs' : List D) (v : DV) : FS := ⟨fun t => if t = d then v else mapV (pzR id [] 0 k) (s.e t), upd s.h id (some (.ow () k 1 cs')), fun t => pzR id [] 0 k (s.g t)⟩
theorem RegG.ptr {N : List (Option Foot) → FS → Prop} {o : Oper} {l : List Oper} {acc : List (Option Foot)} {f : Operand} {args : Array Operand} {ats : Array TypeId} {g d id : Nat} {vs : List DV} {v1 : DV} {sh : List (Option Nat)} {ds cs cs' : List D} {rest : List PA} {v : DV}
    (hS : Spec P g (.ptr cs :: rest) sh ds (.ptr cs' :: rest)) (hop : o.op = .call { callee := .value f, args := args, argTypes := ats }) (hg : o.guard = none) (hd : o.dst = some d)
    (hc : ∀ e', (∀ t, t ∉ T acc.length → e' t = s.e t) → callArgs ⟨e', s.h, s.g⟩ f args.toList = some (g, .v (.one (.pt id [] 0)) :: vs))
    (hc1 : ∀ e', (∀ t, t ∉ T acc.length → e' t = s.e t) → callArgs (FS.lend ⟨e', s.h, s.g⟩ id [] (.ow () cs.length 1 cs)) f args.toList = some (g, v1 :: vs))
    (hro : ∀ s' : FS, rosOk s' 0 1 vs rest) (hw : widen 0 1 vs = false) (hroot : s.h id = some (.ow () cs.length 1 cs)) (hlen : cs'.length = cs.length) (hk : 1 < cs.length) (hdT : d ∉ T acc.length)
    (hfin : ∀ e', finish nt (ptBack ⟨e', s.h, s.g⟩ id [] (.ow () cs.length 1 cs) cs.length 1 0 cs cs') o.dst sh ds = some ⟨upd (fun t => mapV (pzR id [] 0 (0 + cs'.length)) (e' t)) d v, upd s.h id (some (.ow () cs.length 1 (cs.take 0 ++ (cs' ++ cs.drop (0 + cs'.length))))), fun t => pzR id [] 0 (0 + cs'.length) (s.g t)⟩)
    (hφ : φ acc.length = mapV (pzR id [] 0 cs.length)) (hT : ∀ t ∈ T acc.length, mapV (pzR id [] 0 cs.length) (s.e t) = s.e t) (hK : ∀ k ∈ K acc.length, k < acc.length) (hf : FootF (φ acc.length) (fun i => acc.getD i none) (K acc.length) (T acc.length) s (ptrFG s id cs.length d cs' v))
    (hr : RegG P nt ops K T φ l (acc ++ [none]) (ptrFG s id cs.length d cs' v) N) : RegG P nt ops K T φ (o :: l) acc s N := by
  have hne : ∀ t ∈ T acc.length, t ≠ d := fun t ht e => hdT (e ▸ ht)
  refine RegG.free (s1 := ptrFG s id cs.length d cs' v) hg (fun e' he => ?_) (fun t ht => ⟨by rw [hφ]; exact hT t ht, ?_⟩) hK hf hr
  · have h := OpStep.callP (P := P) (nt := nt) (s := ⟨e', s.h, s.g⟩) (io := 0) (id := id) (off := 0) (p := []) (sz := cs.length) (n := 1) (root := .ow () cs.length 1 cs) (cs0 := cs) (cs := cs) (cs' := cs') hop (hc e' he) hS rfl rfl rfl hroot rfl (by simp) (by simp) (by omega) (hc1 e' he) ⟨fun h => absurd rfl h, hro _⟩ (.inl (by simpa [widen] using hw)) (hfin e') (by constructor <;> intro h <;> omega)
    refine cast (congrArg (OpStep P nt o ⟨e', s.h, s.g⟩) ?_) h
    have e1 : upd (fun t => mapV (pzR id [] 0 (0 + cs'.length)) (e' t)) d v = fun t => if t ∈ T acc.length then φ acc.length (e' t) else (ptrFG s id cs.length d cs' v).e t := by
      funext t
      rw [hφ, Nat.zero_add, hlen]
      by_cases htT : t ∈ T acc.length
      · rw [if_pos htT, upd_ne _ _ _ _ (hne t htT)]
      · rw [if_neg htT]
        show upd _ _ _ _ = if t = d then _ else _
        by_cases htd : t = d
        · subst htd; rw [upd_same, if_pos rfl]
        · rw [upd_ne _ _ _ _ htd, if_neg htd, he t htT]
    rw [e1, Nat.zero_add, hlen, List.drop_length, List.append_nil, List.take_zero, List.nil_append]
    rfl
  · show (if t = d then _ else _) = _
    rw [if_neg (hne t ht)]; exact hT t ht
theorem RegK.free {N : List (Option Foot) → FS → Prop} {o : Oper} {l : List Oper} {acc : List (Option Foot)} (hw : o.guard = none)
    (hc : ∀ e' : Nat → DV, (∀ t, t ∉ T acc.length → e' t = s.e t) → OpStep P nt o ⟨e', s.h, s.g⟩ ⟨fun t => if t ∈ T acc.length then φ acc.length (e' t) else s1.e t, s1.h, s1.g⟩)
    (hT : ∀ t ∈ T acc.length, φ acc.length (s.e t) = s.e t ∧ s1.e t = s.e t) (hK : ∀ k ∈ K acc.length, k < acc.length) (hf : FootK (fun i => acc.getD i none) (K acc.length) (T acc.length) s s1)
    (hr : RegK P nt ops K T φ l (acc ++ [none]) s1 N) : RegK P nt ops K T φ (o :: l) acc s N := by
  have hwant : ∀ s' : FS, wantedD ops o s'.e = some true := fun s' => by simp [wantedD, hw]
  refine .inr ⟨s1, .inl ⟨hwant _, ?_⟩, fun _ => ⟨⟨fun e' he' => .inl ⟨hwant _, hc e' he'⟩, hT⟩, hK, hf⟩, hr⟩
  have h0 := hc s.e (fun _ _ => rfl)
  have e1 : (⟨fun t => if t ∈ T acc.length then φ acc.length (s.e t) else s1.e t, s1.h, s1.g⟩ : FS) = s1 := by
    have h1 : (fun t => if t ∈ T acc.length then φ acc.length (s.e t) else s1.e t) = s1.e := by
      funext t
      split
      · rename_i ht; rw [(hT t ht).1, (hT t ht).2]
      · rfl
    rw [h1]
  rw [e1] at h0
  exact h0
theorem RegK.ptr {N : List (Option Foot) → FS → Prop} {o : Oper} {l : List Oper} {acc : List (Option Foot)} {f : Operand} {args : Array Operand} {ats : Array TypeId} {g d id : Nat} {vs : List DV} {v1 : DV} {sh : List (Option Nat)} {ds cs cs' : List D} {rest : List PA} {v : DV}
    (hS : Spec P g (.ptr cs :: rest) sh ds (.ptr cs' :: rest)) (hop : o.op = .call { callee := .value f, args := args, argTypes := ats }) (hg : o.guard = none) (hd : o.dst = some d)
    (hc : ∀ e', (∀ t, t ∉ T acc.length → e' t = s.e t) → callArgs ⟨e', s.h, s.g⟩ f args.toList = some (g, .v (.one (.pt id [] 0)) :: vs))
    (hc1 : ∀ e', (∀ t, t ∉ T acc.length → e' t = s.e t) → callArgs (FS.lend ⟨e', s.h, s.g⟩ id [] (.ow () cs.length 1 cs)) f args.toList = some (g, v1 :: vs))
    (hro : ∀ s' : FS, rosOk s' 0 1 vs rest) (hw : widen 0 1 vs = false) (hroot : s.h id = some (.ow () cs.length 1 cs)) (hlen : cs'.length = cs.length) (hk : 1 < cs.length) (hdT : d ∉ T acc.length)
    (hfin : ∀ e', finish nt (ptBack ⟨e', s.h, s.g⟩ id [] (.ow () cs.length 1 cs) cs.length 1 0 cs cs') o.dst sh ds = some ⟨upd (fun t => mapV (pzR id [] 0 (0 + cs'.length)) (e' t)) d v, upd s.h id (some (.ow () cs.length 1 (cs.take 0 ++ (cs' ++ cs.drop (0 + cs'.length))))), fun t => pzR id [] 0 (0 + cs'.length) (s.g t)⟩)
    (hφ : φ acc.length = mapV (pzR id [] 0 cs.length)) (hT : ∀ t ∈ T acc.length, mapV (pzR id [] 0 cs.length) (s.e t) = s.e t) (hK : ∀ k ∈ K acc.length, k < acc.length) (hf : FootK (fun i => acc.getD i none) (K acc.length) (T acc.length) s (ptrFG s id cs.length d cs' v))
    (hr : RegK P nt ops K T φ l (acc ++ [none]) (ptrFG s id cs.length d cs' v) N) : RegK P nt ops K T φ (o :: l) acc s N := by
  have hne : ∀ t ∈ T acc.length, t ≠ d := fun t ht e => hdT (e ▸ ht)
  refine RegK.free (s1 := ptrFG s id cs.length d cs' v) hg (fun e' he => ?_) (fun t ht => ⟨by rw [hφ]; exact hT t ht, ?_⟩) hK hf hr
  · have h := OpStep.callP (P := P) (nt := nt) (s := ⟨e', s.h, s.g⟩) (io := 0) (id := id) (off := 0) (p := []) (sz := cs.length) (n := 1) (root := .ow () cs.length 1 cs) (cs0 := cs) (cs := cs) (cs' := cs') hop (hc e' he) hS rfl rfl rfl hroot rfl (by simp) (by simp) (by omega) (hc1 e' he) ⟨fun h => absurd rfl h, hro _⟩ (.inl (by simpa [widen] using hw)) (hfin e') (by constructor <;> intro h <;> omega)
    refine cast (congrArg (OpStep P nt o ⟨e', s.h, s.g⟩) ?_) h
    have e1 : upd (fun t => mapV (pzR id [] 0 (0 + cs'.length)) (e' t)) d v = fun t => if t ∈ T acc.length then φ acc.length (e' t) else (ptrFG s id cs.length d cs' v).e t := by
      funext t
      rw [hφ, Nat.zero_add, hlen]
      by_cases htT : t ∈ T acc.length
      · rw [if_pos htT, upd_ne _ _ _ _ (hne t htT)]
      · rw [if_neg htT]
        show upd _ _ _ _ = if t = d then _ else _
        by_cases htd : t = d
        · subst htd; rw [upd_same, if_pos rfl]
        · rw [upd_ne _ _ _ _ htd, if_neg htd, he t htT]
    rw [e1, Nat.zero_add, hlen, List.drop_length, List.append_nil, List.take_zero, List.nil_append]
    rfl
  · show (if t = d then _ else _) = _
    rw [if_neg (hne t ht)]; exact hT t ht
theorem pzR_idem (a : Nat) (p : List Nat) (o k : Nat) (c : DC) : pzR a p o k (pzR a p o k c) = pzR a p o k c := by
  have h : pzR a p o k c = c ∨ pzR a p o k c = .un := by
    cases c <;> first | exact .inl rfl | (simp only [pzR]; split <;> first | exact .inr rfl | exact .inl rfl)
  rcases h with h | h
  · rw [h, h]
  · rw [h]; rfl
theorem mapR_idem (a : Nat) (p : List Nat) (o k : Nat) (v : DV) : mapV (pzR a p o k) (mapV (pzR a p o k) v) = mapV (pzR a p o k) v := by
  cases v with
  | un => rfl
  | v x =>
    cases x with
    | one c => show DV.v (.one _) = DV.v (.one _); rw [pzR_idem]
    | agg cs => show DV.v (.agg ((cs.map _).map _)) = DV.v (.agg (cs.map _)); rw [List.map_map]; congr 2; exact List.map_congr_left fun c _ => pzR_idem a p o k c
  | tup xs =>
    show DV.tup ((xs.map _).map _) = DV.tup (xs.map _)
    rw [List.map_map]
    congr 1
    refine List.map_congr_left fun x _ => ?_
    cases x with
    | one c => show V1.one _ = V1.one _; rw [pzR_idem]
    | agg cs => show V1.agg ((cs.map _).map _) = V1.agg (cs.map _); rw [List.map_map]; congr 1; exact List.map_congr_left fun c _ => pzR_idem a p o k c
theorem DX.drawnG (K T : Nat → List Nat) (φ : Nat → DV → DV) {id : Nat} {l : List Oper} {Q : Exit → FS → Prop} {s0 : FS} (hu : ∀ i j j', i ∈ K j → i ∈ K j' → j = j') (hidm : ∀ j v, φ j (φ j v) = φ j v) (hm : P.follows .mixedOrders = true) (ht : tableOk .any l.toArray (tableOf l) = true)
    (h : RegG P nt l.toArray K T φ l [] s fun pl s2 => planOkK K (fun i => pl.getD i none) (tableOf l) l.length = true ∧ One .normal s0 .normal s2) (hq : Q .normal s0) : DX P nt (.region id l.toArray true) s Q := ⟨_, _, hq, DW.drawnG K T φ hu hidm hm ht h⟩
theorem DX.drawnK (K T : Nat → List Nat) (φ : Nat → DV → DV) {id : Nat} {l : List Oper} {Q : Exit → FS → Prop} {s0 : FS} (hm : P.follows .mixedOrders = true) (ht : tableOk .any l.toArray (tableOf l) = true)
    (h : RegK P nt l.toArray K T φ l [] s fun pl s2 => planOkK K (fun i => pl.getD i none) (tableOf l) l.length = true ∧ One .normal s0 .normal s2) (hq : Q .normal s0) : DX P nt (.region id l.toArray true) s Q := ⟨_, _, hq, DW.drawnK K T φ hm ht h⟩
theorem DX.ofW {c : Code} {Q : Exit → FS → Prop} {s0 : FS} (h : DW P nt c s (One .normal s0)) (hq : Q .normal s0) : DX P nt c s Q := ⟨_, _, hq, h⟩
end
attribute [simp] ptrFG
end Go.Proofs.Ytciieaidbiejmaa.DM
