/-
  DM 24. The contract of a function of its body.
-/
import Derived.Test.YtjjdjkkhhcbogaaD23
namespace Go.Proofs.Ytjjdjkkhhcbogaa.DM
set_option linter.unusedVariables false
set_option linter.unusedSimpArgs false
/-- The results: their shape, their cells. -/
def resD (P : Program) (s : FS) : List ResultVar → Option (List (Option Nat) × List DC)
  | [] => some ([], [])
  | r :: rs => match (match r with | .tmp t => some (s.e t) | .cell x t => quietV P s (.load t (.tmp x))), resD P s rs with
    | some (.v (.one c)), some (sh, cs) => some (none :: sh, c :: cs)
    | some (.v (.agg l)), some (sh, cs) => some (some l.length :: sh, l ++ cs)
    | _, _ => none
def backAll (s : FS) : Nat → List PA → List PA → Prop
  | _, [], [] => True
  | i, pa :: as, pa' :: as' => backA s i pa = some pa' ∧ backAll s (i + 1) as as'
  | _, _, _ => False
theorem backAll_at {s : FS} : ∀ {k : Nat} {as as' : List PA}, backAll s k as as' → as'.length = as.length ∧ ∀ (i : Nat) (pa : PA), as[i]? = some pa → ∃ pa', as'[i]? = some pa' ∧ backA s (k + i) pa = some pa'
  | k, [], [], _ => ⟨rfl, fun i pa h => by simp at h⟩
  | k, [], _ :: _, h => by simp [backAll] at h
  | k, _ :: _, [], h => by simp [backAll] at h
  | k, pa :: as, pa' :: as', h => by
    obtain ⟨h1, h2⟩ := h
    obtain ⟨g1, g2⟩ := backAll_at h2
    refine ⟨by simp [g1], fun i p hp => ?_⟩
    cases i with
    | zero => simp at hp; subst hp; exact ⟨pa', rfl, h1⟩
    | succ i =>
      obtain ⟨p', e1, e2⟩ := g2 i p (by simpa using hp)
      exact ⟨p', by simpa using e1, by rw [← e2]; congr 1; omega⟩
/-- What a function leaves at its end. -/
def Ends (P : Program) (rs : List ResultVar) (s : FS) (as : List PA) (sh : List (Option Nat)) (ds : List D) (as' : List PA) : Prop :=
  ∃ cs s2, resD P s rs = some (sh, cs) ∧ absorbL s cs = some (ds, s2) ∧ backAll s2 0 as as'
def endQ (P : Program) (rs : List ResultVar) (as : List PA) (sh : List (Option Nat)) (ds : List D) (as' : List PA) : Exit → FS → Prop
  | .normal, s => Ends P rs s as sh ds as'
  | .ret, s => Ends P rs s as sh ds as'
  | _, _ => False
section
variable {S0 : Fr} {w0 w w' : World} {M M' M1 : Heap} {X : List A} {P : Program} {nt : Nat} {s s1 : FS} {a : Act}
def ResV (P : Program) (tmps : Array Value) (w : World) : ResultVar → Value → Prop
  | .tmp t, v => v = tmps.getD t undef
  | .cell x t, v => (Instr.loadAt t (tmps.getD x undef)).run P w = .ok v w
def ResL (P : Program) (tmps : Array Value) (w : World) : List ResultVar → List Value → Prop
  | [], [] => True
  | r :: rs, v :: vs => ResV P tmps w r v ∧ ResL P tmps w rs vs
  | _, _ => False
theorem sureAddr_asAddr {v : Value} {t : TypeId} {u : Value} (h : (Instr.loadAt t v).run P w = .ok u w) : (do loadVar t (← asAddr v) : Sem Value).run P w = .ok u w := by
  unfold Instr.loadAt at h
  cases v with
  | pointer p => cases p with
    | some ad => simpa [Instr.sureAddr, asAddr] using h
    | none => simp [Instr.sureAddr] at h
  | _ => simp [Instr.sureAddr] at h
theorem resL_run {tmps : Array Value} {f : ResultVar → Sem Value} (hf : ∀ u, f (.tmp u) = pure (tmps.getD u undef)) (hc : ∀ a t, f (.cell a t) = (do loadVar t (← asAddr (tmps.getD a undef)))) : ∀ {rs : List ResultVar} {vs : List Value}, ResL P tmps w rs vs → (rs.mapM f).run P w = .ok vs w
  | [], [], _ => by simp
  | [], _ :: _, h => by simp [ResL] at h
  | _ :: _, [], h => by simp [ResL] at h
  | r :: rs, v :: vs, h => by
    have ih := resL_run hf hc h.2
    have h1 : (f r).run P w = .ok v w := by
      have := h.1
      cases r with
      | tmp t => rw [hf, this]; simp
      | cell x t => rw [hc]; exact sureAddr_asAddr this
    rw [List.mapM_cons]
    simp [h1, ih]
def oneOr (vs : List Value) : Value := match vs with
  | [v] => v
  | l => .tuple l.toArray
theorem results_run {fn : Func} {tmps : Array Value} {rs : List ResultVar} {vs : List Value} (h : fn.results.toList = rs) (hv : ResL P tmps w rs vs) : (results fn tmps).run P w = .ok (oneOr vs) w := by
  have h' : fn.results = rs.toArray := by rw [← h]
  unfold results
  rw [h', List.mapM_toArray]
  simp only [Sem.run_bind, Sem.run_map]
  rw [resL_run (vs := vs) (fun u => rfl) (fun a t => rfl) hv]
  rcases vs with _ | ⟨v, _ | ⟨u, vs⟩⟩
  · simp [oneOr]
  · simp [oneOr]
  · simp [oneOr]
theorem resD_ok : ∀ {rs : List ResultVar} {sh : List (Option Nat)} {cs : List DC}, Rel S0 w0 nt s M a w → resD P s rs = some (sh, cs) → ∃ vs us, ResL P a.tmps w rs vs ∧ RelL S0 w0 M cs us ∧ packL sh us = vs ∧ cs.length = shLen sh
  | [], sh, cs, hR, h => by
    simp only [resD, Option.some.injEq, Prod.mk.injEq] at h
    obtain ⟨rfl, rfl⟩ := h
    exact ⟨[], [], trivial, ⟨rfl, fun i c u h => by simp at h, by simp⟩, rfl, rfl⟩
  | r :: rs, sh, cs, hR, h => by
    have hv : ∀ v, (match r with | .tmp t => some (s.e t) | .cell x t => quietV P s (.load t (.tmp x))) = some v → ∃ u, ResV P a.tmps w r u ∧ RelV S0 w0 M v u := fun v hv => by
      cases r with
      | tmp t => obtain rfl := Option.some.inj hv; exact ⟨_, rfl, hR.en t⟩
      | cell x t =>
        obtain ⟨u, h1, h2⟩ := quiet_load hR hv
        exact ⟨u, h1, h2⟩
    simp only [resD] at h
    split at h
    · rename_i c sh' cs' h1 h2
      simp only [Option.some.injEq, Prod.mk.injEq] at h
      obtain ⟨rfl, rfl⟩ := h
      obtain ⟨u, g1, g2⟩ := hv _ h1
      obtain ⟨vs, us, e1, e2, e3, e4⟩ := resD_ok hR h2
      refine ⟨u :: vs, u :: us, ⟨g1, e1⟩, ⟨by simp [e2.1], fun i c' u' hc hu => ?_, fun u' hu' => ?_⟩, by simp [packL, e3], by simp [shLen, e4]; omega⟩
      · cases i with
        | zero => simp at hc hu; subst hc; subst hu; exact g2.1
        | succ i => exact e2.2.1 i c' u' (by simpa using hc) (by simpa using hu)
      · rcases List.mem_cons.1 hu' with rfl | hu'
        · exact g2.2
        · exact e2.2.2 u' hu'
    · rename_i l sh' cs' h1 h2
      simp only [Option.some.injEq, Prod.mk.injEq] at h
      obtain ⟨rfl, rfl⟩ := h
      obtain ⟨u, g1, us1, rfl, g3, g4, g5⟩ := hv _ h1
      obtain ⟨vs, us, e1, e2, e3, e4⟩ := resD_ok hR h2
      refine ⟨_ :: vs, us1 ++ us, ⟨g1, e1⟩, RelL.append ⟨g3, g4, g5⟩ e2, ?_, by simp [shLen, e4]⟩
      rw [packL, ← g3, List.take_left, List.drop_left, e3]
    · cases h
/-- THE CONTRACT OF A FUNCTION, of its body. -/
theorem Spec.intro {f : Nat} {fn : Func} {c : Code} {as as' : List PA} {sh : List (Option Nat)} {ds : List D} {n : Nat} {rs : List ResultVar} (hf : P.funcs[f]? = some fn) (hb : fn.body = some c) (hnm : (fn.name == "runtime.NumGoroutine") = false) (hn : fn.ntmps = n) (hrs : fn.results.toList = rs)
    (hle : as.length ≤ n) (h : DW P n c (initFS as) (endQ P rs as sh ds as')) : Spec P f as sh ds as' := by
  refine ⟨⟨fn, hf, by rw [hb]; rfl, hnm⟩, fun F w M vals hI hl her hv hg => ?_⟩
  refine calls_of_wp hf hb ?_
  have hR : Rel F w n (initFS as) M { tmps := vals.toArray ++ Array.replicate (fn.ntmps - vals.toArray.size) undef, defers := [] } w := by
    refine ⟨hI, her, fun i => ?_, by simp [hl, hn]; omega, rfl, hg⟩
    simp only [initFS]
    cases hp : as[i]? with
    | none => trivial
    | some pa =>
      have hi : i < vals.length := by rw [hl]; exact (List.getElem?_eq_some_iff.1 hp).1
      have : (vals.toArray ++ Array.replicate (fn.ntmps - vals.toArray.size) undef).getD i undef = vals[i] := by
        rw [Array.getD_eq_getD_getElem?, Array.getElem?_append_left (by simpa using hi)]
        simp [hi]
      rw [this]
      exact hv i pa _ hp (List.getElem?_eq_getElem hi)
  refine wp_mono (h F w M _ w hR) ?_
  have key : ∀ (s1 : FS) (M1 : Heap) (a' : Act) (w' : World), Ends P rs s1 as sh ds as' → Rel F w n s1 M1 a' w' → a'.defers = [] ∧ ∃ v, (results fn a'.tmps).run P w' = .ok v w' ∧ ∃ (v' : Value) (s1 : FS) (M1 : Heap) (X : List A), Ending.returned v = .returned v' ∧ Inv F w M1 X w' ∧ (∀ id, s1.h id = (M1 id).map er) ∧ (∀ i, RelC F w M1 (s1.g i) (F.gv i)) ∧
      X.map er = ds ∧ ds.length = shLen sh ∧ v' = packV sh (X.map T.val) ∧ as'.length = as.length ∧ ∀ (i : Nat) (pa : PA), as[i]? = some pa → ∃ pa', as'[i]? = some pa' ∧ backA s1 i pa = some pa' := by
    rintro s1 M1 a' w' ⟨cs, s2, h1, h2, h3⟩ hR1
    obtain ⟨vs, us, e1, e2, e3, e4⟩ := resD_ok hR1 h1
    obtain ⟨M2, ys, hR2, g1, g2, g3⟩ := absorbL_ok hR1 e2 h2
    rw [List.nil_append] at hR2
    obtain ⟨b1, b2⟩ := backAll_at h3
    refine ⟨hR1.df, _, results_run hrs e1, _, s2, M2, ys, rfl, hR2.inv, hR2.er, hR2.gh, g1, ?_, ?_, b1, fun i pa hp => ?_⟩
    · rw [← g1, List.length_map, ← e4, ← e2.1, ← g2, List.length_map]
    · rw [g2]
      unfold packV oneOr
      rw [e3]
      rcases vs with _ | ⟨v, _ | ⟨u, vs⟩⟩ <;> rfl
    · have := b2 i pa hp
      simpa using this
  rintro e a' w' ⟨s1, M1, h1, h2⟩
  cases e with
  | normal => exact key s1 M1 a' w' h1 h2
  | ret => exact key s1 M1 a' w' h1 h2
  | _ => exact h1.elim
end
end Go.Proofs.Ytjjdjkkhhcbogaa.DM
