/-
  DM 16. Arguments that are handed over: given away; lent.
-/
import Derived.Test.YtjjdjkkhhcbogaaD15
namespace Go.Proofs.Ytjjdjkkhhcbogaa.DM
set_option linter.unusedVariables false
set_option linter.unusedSimpArgs false
open Classical in
/-- Cells that are given away, or read. -/
noncomputable def giveG : FS → List DC → List PC → Option FS
  | s, [], [] => some s
  | s, c :: cs, .r r :: pcs => if toRC s c = some r ∧ ownC c = false then giveG s cs pcs else none
  | s, c :: cs, .c sz n xs :: pcs => match absorb s c with
    | some (x, s1) => if x = .ow () sz n xs ∨ (x = .ow () 0 0 [] ∧ n = 0 ∧ xs = []) then giveG s1 (cs.map (pzOf c)) pcs else none
    | none => none
  | _, _, _ => none
termination_by _ cs _ => cs.length
decreasing_by all_goals simp
def shapeOf : DV → PA → Option (List DC × List PC)
  | .v (.one c), .one pc => some ([c], [pc])
  | .v (.agg cs), .agg pcs => some (cs, pcs)
  | _, _ => none
section
variable {S0 : Fr} {w0 w w' : World} {M M' : Heap} {X : List A} {P : Program} {nt : Nat} {s : FS} {a : Act}
/-- A cell, as the callee has it. -/
def HandC (S0 : Fr) (w0 : World) (pc : PC) (z : A) (u : Value) : Prop := match pc with
  | .r r => RoC S0 w0 u r ∧ z = .gone u
  | .m sz n cs => er z = .ow () sz n cs ∧ z.val = u
  | .c sz n cs => er z = .ow () sz n cs ∧ z.val = u
def HandL (S0 : Fr) (w0 : World) : List PC → List A → List Value → Prop
  | pc :: pcs, z :: zs, u :: us => HandC S0 w0 pc z u ∧ HandL S0 w0 pcs zs us
  | [], [], [] => True
  | _, _, _ => False
theorem HandL.at {pcs : List PC} {zs : List A} {us : List Value} (h : HandL S0 w0 pcs zs us) : zs.length = pcs.length ∧ us.length = pcs.length ∧ ∀ (j : Nat) (pc : PC) (z : A) (u : Value), pcs[j]? = some pc → zs[j]? = some z → us[j]? = some u → HandC S0 w0 pc z u := by
  induction pcs generalizing zs us with
  | nil => cases zs <;> cases us <;> first | exact ⟨rfl, rfl, fun j pc z u hp => by simp at hp⟩ | (simp [HandL] at h)
  | cons pc pcs ih => cases zs with
    | nil => simp [HandL] at h
    | cons z zs => cases us with
      | nil => simp [HandL] at h
      | cons u us =>
        obtain ⟨h1, h2⟩ := h
        obtain ⟨g1, g2, g3⟩ := ih h2
        refine ⟨by simp [g1], by simp [g2], fun j pc' z' u' hp hz hu => ?_⟩
        cases j with
        | zero => simp at hp hz hu; subst hp; subst hz; subst hu; exact h1
        | succ j => exact g3 j pc' z' u' (by simpa using hp) (by simpa using hz) (by simpa using hu)
theorem HandL.frame {S1 : Fr} {w1 : World} {pcs : List PC} {zs : List A} {us : List Value} (h : HandL S0 w0 pcs zs us) (hr : ∀ u r, RoC S0 w0 u r → RoC S1 w1 u r) : HandL S1 w1 pcs zs us := by
  induction pcs generalizing zs us with
  | nil => cases zs <;> cases us <;> first | trivial | (simp [HandL] at h)
  | cons pc pcs ih => cases zs with
    | nil => simp [HandL] at h
    | cons z zs => cases us with
      | nil => simp [HandL] at h
      | cons u us =>
        refine ⟨?_, ih h.2⟩
        have := h.1
        cases pc with
        | r r => exact ⟨hr _ _ this.1, this.2⟩
        | _ => exact this
theorem HandL.erL {pcs : List PC} {zs : List A} {us : List Value} (h : HandL S0 w0 pcs zs us) : zs.map er = pcs.map PC.tree := by
  induction pcs generalizing zs us with
  | nil => cases zs <;> cases us <;> first | rfl | (simp [HandL] at h)
  | cons pc pcs ih => cases zs with
    | nil => simp [HandL] at h
    | cons z zs => cases us with
      | nil => simp [HandL] at h
      | cons u us =>
        have h1 := h.1
        rw [List.map_cons, List.map_cons, ih h.2]
        congr 1
        cases pc with
        | r r => rw [h1.2]; rfl
        | _ => exact h1.1
def entOf (pcs : List PC) (zs : List A) : Option A := if pcs.all PC.isR then none else some (.hold zs)
theorem er_hold (zs : List A) : er (.hold zs) = .hold (zs.map er) := by simp only [er, T.map, T.mapL_eq]; rfl
theorem dcsFrom_get {i : Nat} : ∀ {pcs : List PC} {k j : Nat} {d : DC}, (dcsFrom i k pcs)[j]? = some d → ∃ pc, pcs[j]? = some pc ∧ d = pc.dc i (k + j)
  | [], k, j, d, h => by simp [dcsFrom] at h
  | pc :: pcs, k, j, d, h => by
    cases j with
    | zero => simp [dcsFrom] at h; exact ⟨pc, rfl, by simpa using h.symm⟩
    | succ j =>
      obtain ⟨pc', h1, h2⟩ := dcsFrom_get (k := k + 1) (j := j) (by simpa [dcsFrom] using h)
      exact ⟨pc', by simpa using h1, by rw [h2]; congr 1; omega⟩
theorem dcsFrom_length {i : Nat} : ∀ (pcs : List PC) (k : Nat), (dcsFrom i k pcs).length = pcs.length
  | [], k => rfl
  | pc :: pcs, k => by simp [dcsFrom, dcsFrom_length pcs]
/-- A row that the callee holds, referred to whole. -/
theorem hold_cell {io j : Nat} {pcs : List PC} {zs : List A} {pc : PC} {z : A} {u : Value} (hok : ∀ z ∈ zs, Ok S0 w0 w z) (hp : pcs[j]? = some pc) (hz : zs[j]? = some z) (h : HandC S0 w0 pc z u) : RelC S0 w0 (oneH io (entOf pcs zs)) (pc.dc io j) u := by
  have hrow : ∀ (sz n : Nat) (cs : List D), pc.isR = false → er z = .ow () sz n cs ∧ z.val = u → RelC S0 w0 (oneH io (entOf pcs zs)) (.sl io [j] 0 n) u := fun sz n cs hr ⟨h1, h2⟩ => by
    have hent : entOf pcs zs = some (.hold zs) := by
      unfold entOf
      rw [if_neg]
      intro hall
      have := List.all_eq_true.1 hall pc (List.mem_of_getElem? hp)
      rw [hr] at this
      cases this
    have hat : at_ (oneH io (entOf pcs zs)) io ([] ++ [j]) z := ⟨.hold zs, by simp [oneH, hent], by simp [T.get, T.cells, hz]⟩
    have := rdC_ok (p := []) hat (hok z (List.mem_of_getElem? hz)) (c := .sl io [j] 0 n) (by rw [h1]; rfl)
    rw [← h2]
    exact this.1
  cases pc with
  | r r => exact .t _ _ h.1
  | m sz n cs => exact hrow sz n cs rfl h
  | c sz n cs => exact hrow sz n cs rfl h
/-- An argument that is handed over cell by cell. -/
theorem hand_ok {v : DV} {pa : PA} {cs : List DC} {pcs : List PC} {u : Value} (h : shapeOf v pa = some (cs, pcs)) (hv : RelV S0 w0 M v u) : ∃ us, RelL S0 w0 M cs us ∧
    ∀ {F : Fr} {w1 w2 : World} {io : Nat} {zs : List A}, HandL F w1 pcs zs us → (∀ z ∈ zs, Ok F w1 w2 z) →
      RelV F w1 (oneH io (entOf pcs zs)) (argV io pa) u ∧ argH pa = (entOf pcs zs).map er ∧ ∀ k, k < 64 → RelC F w1 (oneH io (entOf pcs zs)) (argG io pa k) (us.getD k undef) := by
  have gh : ∀ {F : Fr} {w1 : World} {io k : Nat} {zs : List A} {pc : PC} {us : List Value}, RelC F w1 (oneH io (entOf pcs zs)) (pc.dc io k) (us.getD k undef) → RelC F w1 (oneH io (entOf pcs zs)) (pc.gh io k) (us.getD k undef) := fun {F w1 io k zs pc us} h => by
    cases pc with
    | m sz n cs => exact h
    | r r => exact .un _
    | c sz n cs => exact .un _
  unfold shapeOf at h
  split at h
  · rename_i c pc
    simp only [Option.some.injEq, Prod.mk.injEq] at h
    obtain ⟨rfl, rfl⟩ := h
    refine ⟨[u], ⟨rfl, fun i c' u' hc hu => ?_, fun u' hu' => by simp at hu'; subst hu'; exact hv.2⟩, fun {F w1 w2 io zs} hz hok => ?_⟩
    · cases i with
      | zero => simp at hc hu; subst hc; subst hu; exact hv.1
      | succ i => simp at hc
    · obtain ⟨e1, e2, e3⟩ := hz.at
      cases zs with
      | nil => simp at e1
      | cons z zs =>
        have hzs : zs = [] := by simpa using e1
        subst hzs
        have hc := hold_cell (io := io) (j := 0) (pcs := [pc]) (zs := [z]) hok rfl rfl (e3 0 pc z u rfl rfl rfl)
        refine ⟨⟨hc, hv.2⟩, ?_, fun k hk => ?_⟩
        · have := hz.erL
          simp only [List.map_cons, List.map_nil, List.cons.injEq, and_true] at this
          unfold argH entOf
          simp only [List.all_cons, List.all_nil, Bool.and_true]
          split
          · rfl
          · rw [Option.map_some, er_hold]; simp [this]
        · simp only [argG]
          split
          · rename_i hk0
            subst hk0
            exact gh hc
          · exact .un _
  · rename_i cs' pcs'
    simp only [Option.some.injEq, Prod.mk.injEq] at h
    obtain ⟨rfl, rfl⟩ := h
    obtain ⟨us, rfl, hl, h1, h2⟩ := hv
    refine ⟨us, ⟨hl, h1, h2⟩, fun {F w1 w2 io zs} hz hok => ?_⟩
    obtain ⟨e1, e2, e3⟩ := hz.at
    refine ⟨⟨us, rfl, by rw [dcsFrom_length]; exact e2, fun i c u' hc hu => ?_, h2⟩, ?_, fun k hk => ?_⟩
    · obtain ⟨pc, hp, rfl⟩ := dcsFrom_get hc
      have hlt : i < zs.length := by rw [e1]; exact (List.getElem?_eq_some_iff.1 hp).1
      rw [Nat.zero_add]
      exact hold_cell hok hp (List.getElem?_eq_getElem hlt) (e3 i pc _ u' hp (List.getElem?_eq_getElem hlt) hu)
    · unfold entOf
      show (if pcs'.all PC.isR then none else some (T.hold (pcs'.map PC.tree))) = _
      split
      · rfl
      · rw [Option.map_some, er_hold, hz.erL]
    · simp only [argG]
      cases hp : pcs'[k]? with
      | none => exact .un _
      | some pc =>
        have hlt : k < zs.length := by rw [e1]; exact (List.getElem?_eq_some_iff.1 hp).1
        have hlu : k < us.length := by rw [e2]; exact (List.getElem?_eq_some_iff.1 hp).1
        refine gh ?_
        have := hold_cell (io := io) hok hp (List.getElem?_eq_getElem hlt) (e3 k pc _ us[k] hp (List.getElem?_eq_getElem hlt) (List.getElem?_eq_getElem hlu))
        rw [List.getD_eq_getElem?_getD, List.getElem?_eq_getElem hlu]
        exact this
  · cases h
theorem toRC_flat {c : DC} {u : Value} {r : RT} (hc : RelC S0 w0 M c u) (h : toRC s c = some r) (ho : ownC c = false) : RoC S0 w0 u r := by
  cases hc with
  | un v => simp [toRC] at h
  | t q v hro => simp only [toRC, Option.some.injEq] at h; subst h; exact hro
  | nl a0 => simp only [toRC, Option.some.injEq] at h; subst h; exact .em a0 0
  | sl => simp [ownC] at ho
  | se => simp [ownC] at ho
  | pt => simp [ownC] at ho
  | rp => simp [toRC] at h
  | fn f ids ps hl hp =>
    cases ids with
    | cons i ids => simp [ownC] at ho
    | nil =>
      simp only [toRC, mapO, Option.map_some, Option.some.injEq] at h
      subst h
      exact .fn f ps [] hl (fun i ad r h1 h2 => by simp at h2)
/-- Cells are given away. -/
theorem giveG_ok : ∀ {pcs : List PC} {cs : List DC} {us : List Value} {s : FS} {M : Heap} {X : List A} {s1 : FS}, RelX S0 w0 nt s M X a w → RelL S0 w0 M cs us → giveG s cs pcs = some s1 →
    ∃ M1 zs ys, RelX S0 w0 nt s1 M1 (X ++ ys) a w ∧ HandL S0 w0 pcs zs us ∧ (∀ z ∈ zs, Ok S0 w0 w z ∧ z.isHold = false) ∧ zs.flatMap T.blocks = ys.flatMap T.blocks := by
  intro pcs
  induction pcs with
  | nil =>
    intro cs us s M X s1 hR hL h
    cases cs with
    | cons c cs => simp [giveG] at h
    | nil =>
      have hv : us = [] := List.length_eq_zero_iff.1 (by simpa using hL.1)
      subst hv
      simp only [giveG, Option.some.injEq] at h
      subst h
      exact ⟨M, [], [], by simpa using hR, trivial, by simp, rfl⟩
  | cons pc pcs ih =>
    intro cs us s M X s1 hR hL h
    cases cs with
    | nil => cases pc <;> simp [giveG] at h
    | cons c cs =>
      cases us with
      | nil => have := hL.1; simp at this
      | cons u us =>
        obtain ⟨hc, h1, hL'⟩ := hL.head
        cases pc with
        | m sz n xs => simp [giveG] at h
        | r r =>
          rw [giveG] at h
          split at h
          · rename_i hcond
            obtain ⟨M1, zs, ys, g1, g2, g3, g4⟩ := ih hR hL' h
            refine ⟨M1, .gone u :: zs, ys, g1, ⟨⟨toRC_flat hc hcond.1 hcond.2, rfl⟩, g2⟩, fun z hz => ?_, by simpa [T.blocks] using g4⟩
            rcases List.mem_cons.1 hz with rfl | hz
            · exact ⟨.gone u h1, rfl⟩
            · exact g3 z hz
          · cases h
        | c sz n xs =>
          rw [giveG] at h
          split at h
          · rename_i x s2 hx
            split at h
            · rename_i hcond
              obtain ⟨M1, y, hR1, e1, e2, e3, hk⟩ := absorb_ok hR hc hx
              obtain ⟨M2, zs, ys, g1, g2, g3, g4⟩ := ih hR1 (hL'.map hk) h
              have hyok : Ok S0 w0 w y := (hR1.inv.xo y (by simp)).1
              have hgoal : ∃ z, HandC S0 w0 (.c sz n xs) z u ∧ Ok S0 w0 w z ∧ z.isHold = false ∧ z.blocks = y.blocks := by
                rcases hcond with rfl | ⟨rfl, rfl, rfl⟩
                · exact ⟨y, ⟨e1, e2⟩, hyok, e3, rfl⟩
                · cases y with
                  | ow d sz' n' cs' =>
                    rw [er_ow_mk] at e1
                    simp only [T.ow.injEq, true_and] at e1
                    obtain ⟨rfl, rfl, hcs⟩ := e1
                    have hcs : cs' = [] := by simpa using hcs
                    subst hcs
                    cases hyok with
                    | ow b o c _ _ _ cur ty fz k1 k2 k3 => exact absurd k3.2.1 (by omega)
                    | em a0 _ => exact ⟨.ow (.emp a0) sz 0 [], ⟨rfl, e2⟩, .em a0 sz, rfl, by simp [T.blocks]⟩
                  | _ => simp [er, T.map] at e1
              obtain ⟨z, z1, z2, z3, z4⟩ := hgoal
              refine ⟨M2, z :: zs, y :: ys, by simpa using g1, ⟨z1, g2⟩, fun z' hz => ?_, by simp [z4, g4]⟩
              rcases List.mem_cons.1 hz with rfl | hz
              · exact ⟨z2, z3⟩
              · exact g3 z' hz
            · cases h
          · cases h
theorem ho_nodup {pcs : List PC} {zs : List A} {t : A} (h : entOf pcs zs = some t) : t = .hold zs := by
  unfold entOf at h
  split at h
  · cases h
  · exact (Option.some.inj h).symm
theorem hold_blocks (zs : List A) : (T.hold zs : A).blocks = zs.flatMap T.blocks := by simp [T.blocks, T.blocksL_eq]
/-- A call with an argument that is given away. -/
theorem call_G {f io : Nat} {as as' : List PA} {sh : List (Option Nat)} {ds : List D} {vs vs1 : List DV} {vals : List Value} {v : DV} {pa : PA} {cs : List DC} {pcs : List PC} {s1 : FS} (hR : Rel S0 w0 nt s M a w) (hS : Spec P f as sh ds as')
    (hl : vals.length = vs.length) (hv : ∀ (i : Nat) (v : DV) (u : Value), vs[i]? = some v → vals[i]? = some u → RelV S0 w0 M v u) (hio : vs[io]? = some v) (hpa : as[io]? = some pa) (hsh : shapeOf v pa = some (cs, pcs)) (hg : giveG s cs pcs = some s1)
    (hv1 : ∀ (M1 : Heap) (X : List A), RelX S0 w0 nt s1 M1 X a w → vals.length = vs1.length ∧ ∀ (i : Nat) (v : DV) (u : Value), vs1[i]? = some v → vals[i]? = some u → RelV S0 w0 M1 v u)
    (hr : rosOk s1 io 0 vs1 as) (hw : widen io 0 vs1 = false ∨ noRoL ds = true) :
    Calls P f vals.toArray w fun e w' => ∃ (v : Value) (M1 : Heap) (Y : List A), e = .returned v ∧ RelX S0 w0 nt s1 M1 Y a w' ∧ Y.map er = ds ∧ ds.length = shLen sh ∧ v = packV sh (Y.map T.val) := by
  have hlt : io < vals.length := by rw [hl]; exact (List.getElem?_eq_some_iff.1 hio).1
  obtain ⟨us, hL, hhand⟩ := hand_ok hsh (hv io v _ hio (List.getElem?_eq_getElem hlt))
  obtain ⟨M1, zs, ys, hR1, hH, hzo, hzb⟩ := giveG_ok hR hL hg
  rw [List.nil_append] at hR1
  obtain ⟨l1, l2⟩ := hv1 M1 ys hR1
  have hX : ∀ b, b ∈ zs.flatMap T.blocks → b ∈ ys.flatMap T.blocks := fun b hb => hzb ▸ hb
  have hown : ∀ b ∈ zs.flatMap T.blocks, ¬ S0.kp b := fun b hb => (hR1.inv.xb b (hX b hb)).2
  have hzok : ∀ z ∈ zs, Ok (calleeFr S0 w (zs.flatMap T.blocks) (widen io 0 vs1) (fun _ _ => False) (fun k => us.getD (k % 64) undef)) w w z := fun z hz => (hzo z hz).1.down hR1.inv hown (fun b _ j => by simp)
  have hIc := callee_inv (own := zs.flatMap T.blocks) (wide := widen io 0 vs1) (fx := fun _ _ => False) (gv := fun k => us.getD (k % 64) undef) hR1.inv hX (by simp) io (entOf pcs zs)
    (fun t ht => by rw [ho_nodup ht]; exact .hold zs hzok (fun z hz => (hzo z hz).2))
    (fun t ht => by rw [ho_nodup ht, hold_blocks, hzb]; exact hR1.inv.xn) (fun t ht b hb => by rw [ho_nodup ht, hold_blocks] at hb; exact hb)
  refine Calls.mono (call_core (ent := entOf pcs zs) hR1.inv hR1.er hX hS l1 (fun i v u h1 h2 _ => l2 i v u h1 h2) hr (by cases widen io 0 vs1 <;> simp) hIc (fun pa' u hp hu => ?_) (fun hn => by rw [hn] at hpa; cases hpa)) ?_
  · rw [hpa] at hp
    obtain rfl := Option.some.inj hp
    rw [List.getElem?_eq_getElem hlt] at hu
    obtain rfl := Option.some.inj hu
    obtain ⟨h1, h2, h3⟩ := hhand (io := io) (hH.frame fun u r h => ro_callee hR1.inv hown h) hzok
    refine ⟨h1, h2, fun k hk => ?_⟩
    have : (io * 64 + k) % 64 = k := by omega
    rw [this]
    exact h3 k hk
  · rintro e w' ⟨v, s2, M2, Y, rfl, hIc', _, _, e1, e2, e3, _, _⟩
    refine ⟨v, M1, Y, rfl, ?_, e1, e2, e3⟩
    refine ⟨call_back2 hR1.inv hX hIc' (fun z hz => ⟨conv_back hR1.inv (hIc'.xo z hz).1 ?_, (hIc'.xo z hz).2⟩) (fun b hb => ⟨(hIc'.xb b hb).1, .inr (hIc'.xb b hb).2⟩) hIc'.xn, hR1.er, hR1.en, hR1.nt, hR1.df, hR1.gh⟩
    rcases hw with hw | hw
    · exact .inl hw
    · exact .inr (noRoL_mem' (by rw [e1]; exact hw) z hz)
end
end Go.Proofs.Ytjjdjkkhhcbogaa.DM
