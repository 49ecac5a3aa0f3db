import Derived.Test.YtjjdjkkhhcbogaaFW7
namespace Go.Proofs.Ytjjdjkkhhcbogaa.DM
set_option linter.unusedVariables false
set_option linter.unusedSimpArgs false
set_option maxRecDepth 4000
set_option maxHeartbeats 8000000
theorem memLoop_bd : ∀ (f i : Nat) (m : Memory) (c : Cur), c.ok → (memLoop f i m c).2.ok ∧ (memLoop f i m c).2.b = c.b ∧ (memLoop f i m c).1.Kept.size = m.Kept.size ∧ (memLoop f i m c).1.Cells.length ≤ m.Cells.length + f
  | 0, i, m, c, h => ⟨h, rfl, rfl, Nat.le_refl _⟩
  | f + 1, i, m, c, h => by
    have h1 := belowC_ok h 12
    unfold memLoop
    split
    · have h2 := memStep_ok m h1.1
      have h3 := memStep_bd m (belowC c 12)
      obtain ⟨g1, g2, g3, g4⟩ := memLoop_bd f (i + 1) (memStep m (belowC c 12)).1 (memStep m (belowC c 12)).2 h2.1
      exact ⟨g1, g2.trans (h2.2.trans h1.2), g3.trans h3.1, by omega⟩
    · exact ⟨h1.1, h1.2, rfl, by simp⟩
theorem memV_bd {c : Cur} (h : c.ok) : (memV c).2.ok ∧ (memV c).2.b = c.b ∧ (memV c).1.Kept.size ≤ 80 ∧ (memV c).1.Cells.length ≤ 12 := by
  have h1 := belowC_ok h 5
  have h2 := belowV_bd c 5
  have h3 := h2.2 (by omega)
  obtain ⟨g1, g2, g3, g4⟩ := memLoop_bd 12 0 ⟨zeros ((1 + belowV c 5).toNat * 16), []⟩ (belowC c 5) h1.1
  refine ⟨g1, g2.trans h1.2, ?_, by show (memLoop _ _ _ _).1.Cells.length ≤ 12; simpa using g4⟩
  show (memLoop _ _ _ _).1.Kept.size ≤ 80
  rw [g3]
  simp
  omega
def anyM (m : Memory) (c : Cur) : Memory × Cur := if belowV c 14 = 0 then (⟨m.Kept ++ ⟨#[120]⟩, m.Cells⟩, belowC c 14) else if belowV c 14 = 1 then (⟨m.Kept, m.Cells ++ [⟨pickV [0, 4, 5, -1, 100] (belowC c 14), reps 16 7, false⟩]⟩, belowC (belowC c 14) 5) else if belowV c 14 = 2 then (⟨m.Kept, [⟨0, ⟨#[115, 104, 111, 114, 116]⟩, false⟩]⟩, belowC c 14) else (m, belowC c 14)
def anyV (c : Cur) : Memory × Cur := anyM (memV c).1 (memV c).2
theorem RegP.pick {nt : Nat} {ops : Array Oper} {K T : Nat → List Nat} {φ : Nat → DV → DV} {s : FS} {N : List (Nat × Option Foot) → FS → Prop} {i : Nat} {o : Oper} {ll : List Nat} {acc : List (Nat × Option Foot)} {f : Operand} {args : Array Operand} {ats : Array TypeId} {d : Nat} (T' : List Nat) (ip il : Nat) (c : Cur) (hcok : c.ok) (l : List Int) (hl0 : 0 < l.length) (hl9 : l.length < 100)
    (ho : ops[i]? = some o) (hop : o.op = .call { callee := .value f, args := args, argTypes := ats }) (hg : o.guard = none) (hd : o.dst = some d) (hdn : d < nt)
    (hca : ∀ e' h' g', (∀ t, t ∉ T i → e' t = s.e t) → callArgs ⟨e', h', g'⟩ f args.toList = some (80, [.v (.one (.pt ip [] 0)), .v (.one (.sl il [] 0 l.length))])) (hne : ip ≠ il) (hp : s.h ip = some (.ow () 3 1 (curD c))) (hl : s.h il = some (.ow () 1 l.length (l.map di)))
    (hipT : ip ∉ T i) (hilT : il ∉ T i) (hdT : d ∉ T i) (hsub : ∀ t ∈ T i, t ∈ T') (hT' : ∀ t ∈ T', okT (s.e t) = true) (hφ : φ i = mapV (pzR ip [] 0 3)) (hTφ : ∀ t ∈ T i, mapV (pzR ip [] 0 3) (s.e t) = s.e t) (hK : ∀ k ∈ K i, k ∈ acc.map Prod.fst)
    (hf : FootK (planOf acc) (K i) (T i) s ⟨fun i => if i = d then vi (pickV l c) else if i ∈ T' then mapV (pzR ip [] 0 3) (s.e i) else .un, upd s.h ip (some (.ow () 3 1 (curD (belowC c l.length)))), fun k => if k < 4096 then pzR ip [] 0 3 (s.g k) else .un⟩)
    (hr : RegP Try.prog nt ops K T φ ll (acc ++ [(i, none)]) ⟨fun i => if i = d then vi (pickV l c) else if i ∈ T' then mapV (pzR ip [] 0 3) (s.e i) else .un, upd s.h ip (some (.ow () 3 1 (curD (belowC c l.length)))), fun k => if k < 4096 then pzR ip [] 0 3 (s.g k) else .un⟩ N) : RegP Try.prog nt ops K T φ (i :: ll) acc s N := by
  have hned : ∀ t ∈ T i, t ≠ d := fun t ht e => hdT (e ▸ ht)
  refine RegP.swap ho hg (fun e' h' he hoT hh => ?_) (by rw [hφ]; rfl) (fun t ht => ⟨by rw [hφ]; exact hTφ t ht, ?_, ?_⟩) hK hf hr
  · have h := pick_inl (nt := nt) (o := o) (f := f) (args := args) (ats := ats) (d := d) (s := ⟨e', h', s.g⟩) T' ip il c hcok l hl0 hl9 hop hd hdn (hca e' h' s.g he) hne ((hh ip hipT).trans hp) ((hh il hilT).trans hl) (fun t ht => by
      by_cases htT : t ∈ T i
      · rcases hoT t htT with h | h
        · show okT (e' t) = true; rw [h]; exact hT' t ht
        · show okT (e' t) = true; rw [h]; rfl
      · show okT (e' t) = true; rw [he t htT]; exact hT' t ht)
    refine cast (congrArg (OpStep Try.prog nt o ⟨e', h', s.g⟩) ?_) h
    congr 1
    · funext t
      by_cases htT : t ∈ T i
      · simp only [htT, if_true, hned t htT, if_false, hsub t htT, hφ]
      · simp only [htT, if_false, he t htT]
    · funext t
      by_cases htT : t ∈ T i
      · simp only [htT, if_true]
        exact upd_ne _ _ _ _ fun e => hipT (e ▸ htT)
      · simp only [htT, if_false]
        by_cases hti : t = ip
        · subst hti; rw [upd_same, upd_same]
        · rw [upd_ne _ _ _ _ hti, upd_ne _ _ _ _ hti, hh t htT]
  · simp only [hned t ht, if_false, hsub t ht, if_true]; exact hTφ t ht
  · exact upd_ne _ _ _ _ fun e => hipT (e ▸ ht)

theorem l10Any_spec (c : Cur) (hc : c.ok) : Spec Try.prog 77 [.ptr (curD c)] [some 2] (dM (anyV c).1) [.ptr (curD (anyV c).2)] := by
  obtain ⟨g1, g2, g3, g4⟩ := memV_bd hc
  have hmem := l10Memory_spec c hc
  unfold anyV
  obtain ⟨m, d, hmd⟩ : ∃ m d, memV c = (m, d) := ⟨_, _, rfl⟩
  rw [hmd] at g1 g2 g3 g4 hmem ⊢
  simp only at g1 g2 g3 g4 hmem ⊢
  have hd := g1
  obtain ⟨d1, hd1e⟩ : ∃ d1, belowC d 14 = d1 := ⟨_, rfl⟩
  have hd1 : d1.ok := hd1e ▸ (belowC_ok hd 14).1
  have hx1 : ((⟨#[120]⟩ : ByteArray).size : Int) = 1 := rfl
  have hklen : ¬ (9223372036854775807 < (m.Kept.size : Int) + ((⟨#[120]⟩ : ByteArray).size : Int)) := by omega
  have hb1 : (m.Cells.length + 1) * 32 ≤ 140737488355328 := by omega
  have hb2 : m.Cells.length + 1 ≤ 140737488355328 := by omega
  have hb3 : (m.Cells.length + 1) * 3 ≤ m.Cells.length * 3 + 3 := by omega
  have hT := take_snoc m.Cells ⟨pickV [0, 4, 5, -1, 100] d1, reps 16 7, false⟩
  dsimp only at hT
  have hone : ∀ x : Cell, rD [x] = Cell.d x := fun x => by rw [rD_cons]; exact List.append_nil _
  refine Spec.intro Try.func77 rfl rfl Try.ntmps77 rfl (by simp) ?_
  refine DW.seq ?_
  refine DW.reg (by simp (maxSteps := 200000) (disch := first | omega | (simp; done) | fail) [wrapI, leT, leF, ltT, ltF, eqF, nleT, nleF, nltT, nltF, mapV, pzR, inR, hd1e, hklen]; rfl) ?_
  refine DW.seq ?_
  refine DW.regs ?_
  refine RegO.opN 1 (by simp [mapV, pzR, inR, hd1e, hklen, rD_len_Cell]; rfl) ?_
  refine RegO.step rfl (OpStep.callP (io := 0) (id := 0) (off := 0) (p := []) (sz := 3) (n := 1) (cs0 := curD c) rfl (by simp [callArgs]; rfl) hmem (by simp) rfl rfl (by simp) rfl (by simp) (by simp) (by simp) (by simp [callArgs, FS.lend]; rfl) (by simp [rosOk, roA_, toRC, mapO]) (by simp [widen, ownV, ownC]) (by simp [finish, packDV, packD, ptBack]; rfl)) ?_
  refine RegO.opN 2 (by simp [mapV, pzR, inR, hd1e, hklen, rD_len_Cell]; rfl) ?_
  refine RegO.nil ?_
  refine DW.norm [(0, _), (2, _), (3, _)] [(0, _), (2, _), (3, _)] [(0, _)] (by simp [mapV, pzR, inR, hd1e, hklen]; exact ⟨rfl, rfl, rfl⟩) (by simp [mapV, pzR, inR, hd1e, hklen]; exact ⟨rfl, rfl, rfl⟩) (by simp [mapV, pzR, inR, hd1e, hklen]; rfl) (by rfl) ?_
  refine DW.seq ?_
  refine DW.seq ?_
  refine DW.regs ?_
  refine RegO.opN 1 (by simp (maxSteps := 200000) (disch := first | omega | (simp; done) | fail) [wrapI, leT, leF, ltT, ltF, eqF, nleT, nleF, nltT, nltF, mapV, pzR, inR, hd1e, hklen]; rfl) ?_
  refine RegO.step rfl (OpStep.callP (io := 0) (id := 0) (off := 0) (p := []) (sz := 3) (n := 1) (cs0 := curD d) rfl (by simp [callArgs]; rfl) (l01Below_spec d hd 14) (by simp) rfl rfl (by simp) rfl (by simp) (by simp) (by simp) (by simp [callArgs, FS.lend]; rfl) (by simp [rosOk, roA_, toRC, mapO]) (by simp [widen, ownV, ownC]) (by simp [finish, packDV, packD, ptBack]; rfl)) ?_
  refine RegO.nil ?_
  refine DW.norm [(0, _), (2, _), (3, _), (7, _)] [(0, _), (2, _), (3, _)] [(0, _)] (by simp [mapV, pzR, inR, hd1e, hklen]; exact ⟨rfl, rfl, rfl, rfl⟩) (by simp [mapV, pzR, inR, hd1e, hklen]; exact ⟨rfl, rfl, rfl⟩) (by simp [mapV, pzR, inR, hd1e, hklen]; rfl) (by rfl) ?_
  refine DW.block ?_
  refine DW.seq ?_
  refine DW.reg (by simp (maxSteps := 200000) (disch := first | omega | (simp; done) | fail) [wrapI, leT, leF, ltT, ltF, eqF, nleT, nleF, nltT, nltF, mapV, pzR, inR, hd1e, hklen]; rfl) ?_
  refine DW.condB (by simp (maxSteps := 200000) (disch := first | omega | (simp; done) | fail) [wrapI, leT, leF, ltT, ltF, eqF, nleT, nleF, nltT, nltF, mapV, pzR, inR, hd1e, hklen]; exact rfl) (fun hc0 => ?_) (fun hc0 => ?_)
  · have hv : belowV d 14 = 0 := by simpa using hc0
    have hst : anyM m d = (⟨m.Kept ++ ⟨#[120]⟩, m.Cells⟩, d1) := by simp [anyM, hv, hd1e]
    rw [hst]
    refine DW.reg (by simp [mapV, pzR, inR, hd1e, hklen]; rfl) ?_
    refine DW.norm [(2, _), (3, _)] [(0, _), (2, _), (3, _)] [(0, _)] (by simp [mapV, pzR, inR, hd1e, hklen]; exact ⟨rfl, rfl⟩) (by simp [mapV, pzR, inR, hd1e, hklen]; exact ⟨rfl, rfl, rfl⟩) (by simp [mapV, pzR, inR, hd1e, hklen]; rfl) (by rfl) ?_
    refine DW.seq ?_
    refine DW.reg (by simp [mapV, pzR, inR, hd1e, hklen, rD_len_Cell, hb3, hT]; rfl) ?_
    refine DW.ret ?_
    simp [Try.results77, mapV, pzR, inR, rD_len_Cell, rD_append, hone, hb3, hT]
  · have n0 : ¬ belowV d 14 = 0 := by simpa using hc0
    refine DW.seq ?_
    refine DW.reg (by simp (maxSteps := 200000) (disch := first | omega | (simp; done) | fail) [wrapI, leT, leF, ltT, ltF, eqF, nleT, nleF, nltT, nltF, mapV, pzR, inR, hd1e, hklen]; rfl) ?_
    refine DW.condB (by simp (maxSteps := 200000) (disch := first | omega | (simp; done) | fail) [wrapI, leT, leF, ltT, ltF, eqF, nleT, nleF, nltT, nltF, mapV, pzR, inR, hd1e, hklen]; exact rfl) (fun hc1 => ?_) (fun hc1 => ?_)
    · have hv : belowV d 14 = 1 := by simpa using hc1
      have hst : anyM m d = (⟨m.Kept, m.Cells ++ [⟨pickV [0, 4, 5, -1, 100] d1, reps 16 7, false⟩]⟩, belowC d1 5) := by simp [anyM, hv, hd1e]
      rw [hst]
      refine DW.drawnP [0, 1, 2, 3, 4, 5, 6, 7, 8, 9, 10] (fun j => if j = 4 then [0, 1] else []) (fun j => if j = 4 then [16, 17] else []) (fun _ => mapV (pzR 0 [] 0 3)) mixed (by kernel_rfl) (by decide) ?_
      refine RegP.add (by rfl) (by simp; rfl) (by intro j; by_cases h : j = 4 <;> simp [h]) ?_
      refine RegP.add (by rfl) (by simp; rfl) (by intro j; by_cases h : j = 4 <;> simp [h]) ?_
      refine RegP.add (by rfl) (by simp; rfl) (by intro j; by_cases h : j = 4 <;> simp [h]) ?_
      refine RegP.cert (by rfl) (Cert.buildRo (rcs := [.sc (.int .i64 0), .sc (.int .i64 4), .sc (.int .i64 5), .sc (.int .i64 (-1)), .sc (.int .i64 100)]) rfl rfl rfl (by decide) (by simp; exact ⟨rfl, rfl⟩) (by simp; rfl) (by simp; rfl) (by rfl) (by decide) (by decide) (by simp; rfl) (by simp; rfl) (by rfl) (by simp)) (by intro j; by_cases h : j = 4 <;> simp [h]) ?_
      refine RegP.pick [2, 3, 16, 17] 0 19 d1 hd1 [0, 4, 5, -1, 100] (by simp) (by simp) (by rfl) rfl rfl rfl (by decide) (fun e' h' g' he => by have h18 := he 18 (by simp); have h19 := he 19 (by simp); simp at h18 h19; simp [callArgs, h18, h19]) (by decide) (by simp) (by simp) (by simp) (by simp) (by simp) (by simp) (by simp) rfl (by simp [mapV, pzR, inR]) (by simp) (by
        intro k hk d L R hp
        simp at hk
        rcases hk with rfl | rfl
        all_goals (simp [planOf] at hp; obtain ⟨rfl, rfl, rfl⟩ := hp; simp [mapV, pzR, inR])
        ) ?_
      refine RegP.cert (by rfl) (Cert.callA rfl (by simp) rfl (by decide) (by simp [mapV, pzR, inR]; exact ⟨rfl, rfl⟩) (by simp; rfl) (by exact l01Long_spec 16 7 (by omega)) rfl (by simp) (by simp; rfl) rfl) (by intro j; by_cases h : j = 4 <;> simp [h]) ?_
      refine RegP.add (by rfl) (by simp [mapV, pzR, inR]; rfl) (by intro j; by_cases h : j = 4 <;> simp [h]) ?_
      refine RegP.cert (by rfl) (Cert.buildRo (rcs := [.sc (.int .i64 (pickV [0, 4, 5, -1, 100] d1)), .sc (.string (reps 16 7)), .sc (.bool false)]) rfl rfl rfl (by decide) (by simp; exact ⟨rfl, rfl⟩) (by simp; rfl) (by simp; rfl) (by rfl) (by decide) (by decide) (by simp [mapV, pzR, inR]; rfl) (by simp; rfl) (by rfl) (by simp)) (by intro j; by_cases h : j = 4 <;> simp [h]) ?_
      refine RegP.heavyF (by rfl) (by simp) (by simp [mapV, pzR, inR, rD_len_Cell, hb1, hb2, hb3]; rfl) (by simp) ?_
      refine RegP.add (by rfl) (by simp [mapV, pzR, inR]; rfl) (by intro j; by_cases h : j = 4 <;> simp [h]) ?_
      refine RegP.heavyF (by rfl) (by simp) (by simp [mapV, pzR, inR, rD_len_Cell, hT, hb3]; rfl) (by simp) ?_
      refine ⟨by kernel_rfl, ?_⟩
      refine DW.norm [(2, _), (3, _)] [(0, _), (2, _), (3, _)] [(0, _)] (by simp [mapV, pzR, inR, hd1e, hklen]; exact ⟨rfl, rfl⟩) (by simp [mapV, pzR, inR, hd1e, hklen]; exact ⟨rfl, rfl, rfl⟩) (by simp [mapV, pzR, inR, hd1e, hklen]; rfl) (by rfl) ?_
      refine DW.seq ?_
      refine DW.reg (by simp [mapV, pzR, inR, hd1e, hklen, rD_len_Cell, hb3, hT]; rfl) ?_
      refine DW.ret ?_
      simp [Try.results77, mapV, pzR, inR, rD_len_Cell, rD_append, hone, hb3, hT]
    · have n1 : ¬ belowV d 14 = 1 := by simpa using hc1
      refine DW.seq ?_
      refine DW.reg (by simp (maxSteps := 200000) (disch := first | omega | (simp; done) | fail) [wrapI, leT, leF, ltT, ltF, eqF, nleT, nleF, nltT, nltF, mapV, pzR, inR, hd1e, hklen]; rfl) ?_
      refine DW.condB (by simp (maxSteps := 200000) (disch := first | omega | (simp; done) | fail) [wrapI, leT, leF, ltT, ltF, eqF, nleT, nleF, nltT, nltF, mapV, pzR, inR, hd1e, hklen]; exact rfl) (fun hc2 => ?_) (fun hc2 => ?_)
      · have hv : belowV d 14 = 2 := by simpa using hc2
        have hst : anyM m d = (⟨m.Kept, [⟨0, ⟨#[115, 104, 111, 114, 116]⟩, false⟩]⟩, d1) := by simp [anyM, hv, hd1e]
        rw [hst]
        refine DW.reg (by simp [mapV, pzR, inR, hd1e, hklen, rD_len_Cell]; rfl) ?_
        refine DW.norm [(2, _), (3, _)] [(0, _), (2, _), (3, _)] [(0, _)] (by simp [mapV, pzR, inR, hd1e, hklen]; exact ⟨rfl, rfl⟩) (by simp [mapV, pzR, inR, hd1e, hklen]; exact ⟨rfl, rfl, rfl⟩) (by simp [mapV, pzR, inR, hd1e, hklen]; rfl) (by rfl) ?_
        refine DW.seq ?_
        refine DW.reg (by simp [mapV, pzR, inR, hd1e, hklen, rD_len_Cell, hb3, hT]; rfl) ?_
        refine DW.ret ?_
        simp [Try.results77, mapV, pzR, inR, rD_len_Cell, rD_append, hone, hb3, hT]
      · have n2 : ¬ belowV d 14 = 2 := by simpa using hc2
        have hst : anyM m d = (m, d1) := by simp [anyM, n0, n1, n2, hd1e]
        rw [hst]
        refine DW.skip ?_
        refine DW.seq ?_
        refine DW.reg (by simp [mapV, pzR, inR, hd1e, hklen, rD_len_Cell, hb3, hT]; rfl) ?_
        refine DW.ret ?_
        simp [Try.results77, mapV, pzR, inR, rD_len_Cell, rD_append, hone, hb3, hT]
end Go.Proofs.Ytjjdjkkhhcbogaa.DM
