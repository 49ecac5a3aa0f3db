/-
  DM 20. A call with a pointer into a row of the caller's.
-/
import Derived.Test.YtjjdjkkhhcbogaaD19
namespace Go.Proofs.Ytjjdjkkhhcbogaa.DM
set_option linter.unusedVariables false
set_option linter.unusedSimpArgs false
section
variable {S0 : Fr} {w0 w w' : World} {M M' M1 : Heap} {X : List A} {P : Program} {nt : Nat} {s : FS} {a : Act}
def inR (lo hi : Nat) (l : List Nat) : Bool := match l with | [] => false | j :: _ => decide (lo ≤ j) && decide (j < hi)
def pzR (id : Nat) (p : List Nat) (lo hi : Nat) : DC → DC
  | .sl i q off n => if i == id && p.isPrefixOf q && inR lo hi (q.drop p.length) then .un else .sl i q off n
  | .pt i q off => if i == id && p.isPrefixOf q && inR lo hi (q.drop p.length) then .un else .pt i q off
  | c => c
theorem get_put_range : ∀ (p q : List Nat) (t : A) (d : AD) (sz n lo hi : Nat) (cs cs' : List A), t.get p = some (.ow d sz n cs) → cs'.length = cs.length → (∀ j, ¬ (lo ≤ j ∧ j < hi) → cs'[j]? = cs[j]?) →
    ¬ (p <+: q ∧ inR lo hi (q.drop p.length) = true) → ∀ x, t.get q = some x → ∃ c2, (t.put p (.ow d sz n cs')).get q = some (x.withCells c2)
  | [], [], t, d, sz, n, lo, hi, cs, cs', hg, hl, hc, hn, x, hx => by
    simp only [T.get, Option.some.injEq] at hg hx
    subst hg; subst hx
    exact ⟨cs', rfl⟩
  | [], j :: q, t, d, sz, n, lo, hi, cs, cs', hg, hl, hc, hn, x, hx => by
    simp only [T.get, Option.some.injEq] at hg
    subst hg
    have hj : ¬ (lo ≤ j ∧ j < hi) := fun h => hn ⟨List.nil_prefix, by simp [inR, h]⟩
    simp only [T.get, T.cells] at hx
    simp only [T.put, T.get, T.cells]
    rw [hc j hj]
    cases hcj : cs[j]? with
    | none => rw [hcj] at hx; cases hx
    | some c => rw [hcj] at hx; exact ⟨x.cells, Eq.trans hx (congrArg some (by cases x <;> rfl))⟩
  | i :: p, [], t, d, sz, n, lo, hi, cs, cs', hg, hl, hc, hn, x, hx => by
    simp only [T.get, Option.some.injEq] at hx
    subst hx
    simp only [T.put]
    cases hci : t.cells[i]? with
    | none => exact ⟨t.cells, by cases t <;> rfl⟩
    | some c => exact ⟨_, rfl⟩
  | i :: p, j :: q, t, d, sz, n, lo, hi, cs, cs', hg, hl, hc, hn, x, hx => by
    simp only [T.get] at hg hx
    simp only [T.put]
    cases hci : t.cells[i]? with
    | none => rw [hci] at hg; cases hg
    | some c =>
      rw [hci] at hg
      have hi' := (List.getElem?_eq_some_iff.1 hci).1
      have hne : t.cells ≠ [] := fun e => by rw [e] at hi'; exact absurd hi' (by simp)
      simp only [T.get, T.withCells_cells _ _ hne]
      by_cases hij : i = j
      · subst hij
        rw [hci] at hx
        rw [List.getElem?_set_self hi']
        exact get_put_range p q c d sz n lo hi cs cs' hg hl hc (fun ⟨h1, h2⟩ => hn ⟨by rw [List.cons_prefix_cons]; exact ⟨rfl, h1⟩, by simpa using h2⟩) x hx
      · rw [List.getElem?_set_ne hij]
        cases hcj : t.cells[j]? with
        | none => rw [hcj] at hx; cases hx
        | some c2 => rw [hcj] at hx; exact ⟨x.cells, Eq.trans hx (congrArg some (by cases x <;> rfl))⟩
theorem RelC.range {id lo hi : Nat} {p : List Nat} {t : A} {d : AD} {sz n : Nat} {cs cs' : List A} {c : DC} {v : Value} (h : RelC S0 w0 M c v) (ht : M id = some t) (hg : t.get p = some (.ow d sz n cs)) (hl : cs'.length = cs.length)
    (hc : ∀ j, ¬ (lo ≤ j ∧ j < hi) → cs'[j]? = cs[j]?) : RelC S0 w0 (upd M id (some (t.put p (.ow d sz n cs')))) (pzR id p lo hi c) v := by
  have hk : ∀ i q, ¬ (i = id ∧ p <+: q ∧ inR lo hi (q.drop p.length) = true) → Keeps M (upd M id (some (t.put p (.ow d sz n cs')))) i q := fun i q hn => by
    by_cases hi' : i = id
    · subst hi'
      rintro x ⟨t', ht', hx⟩
      rw [ht] at ht'
      obtain rfl := Option.some.inj ht'
      obtain ⟨c2, h2⟩ := get_put_range p q t d sz n lo hi cs cs' hg hl hc (fun h => hn ⟨rfl, h.1, h.2⟩) x hx
      exact ⟨c2, _, upd_same _ _ _, h2⟩
    · exact keeps_upd hi'
  have hnil : ∀ i, Keeps M (upd M id (some (t.put p (.ow d sz n cs')))) i [] := fun i => hk i [] (fun ⟨_, h1, h2⟩ => by
    have : p = [] := List.prefix_nil.1 h1
    subst this
    simp [inR] at h2)
  cases c with
  | sl i q off m =>
    simp only [pzR]
    by_cases hn : (i == id && p.isPrefixOf q && inR lo hi (q.drop p.length)) = true
    · rw [if_pos hn]; exact .un v
    · rw [if_neg hn]
      refine h.keep fun r hr => ?_
      simp [refsC] at hr
      subst hr
      exact hk i q (fun ⟨h1, h2, h3⟩ => hn (by subst h1; simp only [beq_self_eq_true, Bool.true_and]; rw [List.isPrefixOf_iff_prefix.2 h2]; simpa using h3))
  | pt i q off =>
    simp only [pzR]
    by_cases hn : (i == id && p.isPrefixOf q && inR lo hi (q.drop p.length)) = true
    · rw [if_pos hn]; exact .un v
    · rw [if_neg hn]
      refine h.keep fun r hr => ?_
      simp [refsC] at hr
      subst hr
      exact hk i q (fun ⟨h1, h2, h3⟩ => hn (by subst h1; simp only [beq_self_eq_true, Bool.true_and]; rw [List.isPrefixOf_iff_prefix.2 h2]; simpa using h3))
  | fn f ids =>
    refine h.keep fun r hr => ?_
    simp only [refsC, List.mem_map] at hr
    obtain ⟨i, hi, rfl⟩ := hr
    exact hnil i
  | _ => exact h.keep (fun r hr => by simp [refsC] at hr)
def ptBack (s : FS) (id : Nat) (p : List Nat) (root : D) (sz n off : Nat) (cs0 cs' : List D) : FS :=
  ⟨fun i => mapV (pzR id p off (off + cs'.length)) (s.e i), upd s.h id (some (root.put p (.ow () sz n (cs0.take off ++ (cs' ++ cs0.drop (off + cs'.length)))))), fun i => pzR id p off (off + cs'.length) (s.g i)⟩
theorem ptBack_h (s : FS) (id : Nat) (p : List Nat) (root : D) (sz n off : Nat) (cs0 cs' : List D) : (ptBack s id p root sz n off cs0 cs').h = upd s.h id (some (root.put p (.ow () sz n (cs0.take off ++ (cs' ++ cs0.drop (off + cs'.length)))))) := rfl
theorem put_put {α β : Type} : ∀ (p : List Nat) (t x y : T α β), (t.put p x).put p y = t.put p y
  | [], t, x, y => rfl
  | i :: p, t, x, y => by
    simp only [T.put]
    cases hc : t.cells[i]? with
    | none => simp only [T.put, hc]
    | some c =>
      have hi := (List.getElem?_eq_some_iff.1 hc).1
      have hne : t.cells ≠ [] := fun e => by rw [e] at hi; exact absurd hi (by simp)
      simp only [T.put, T.withCells_cells _ _ hne, List.getElem?_set_self hi, put_put p c x y, List.set_set]
      cases t <;> rfl
theorem upd_upd {α : Type} (f : Nat → α) (k : Nat) (u v : α) : upd (upd f k u) k v = upd f k v := by
  funext i
  by_cases h : i = k
  · subst h; rw [upd_same, upd_same]
  · rw [upd_ne _ _ _ _ h, upd_ne _ _ _ _ h, upd_ne _ _ _ _ h]
/-- A call with a pointer into a row. -/
theorem call_P {f io : Nat} {as as' : List PA} {sh : List (Option Nat)} {ds : List D} {vs vs1 : List DV} {vals : List Value} {id off sz n : Nat} {p : List Nat} {root : D} {cs0 cs cs' : List D} (hR : Rel S0 w0 nt s M a w) (hS : Spec P f as sh ds as')
    (hl : vals.length = vs.length) (hv : ∀ (i : Nat) (v : DV) (u : Value), vs[i]? = some v → vals[i]? = some u → RelV S0 w0 M v u) (hio : vs[io]? = some (.v (.one (.pt id p off)))) (hpa : as[io]? = some (.ptr cs)) (hpa' : as'[io]? = some (.ptr cs'))
    (hroot : s.h id = some root) (hg : root.get p = some (.ow () sz n cs0)) (hcs : cs = (cs0.drop off).take cs.length) (hlen : off + cs.length ≤ cs0.length) (hk0 : 0 < cs.length) (hk1 : cs.length = 1 ↔ sz = 1)
    (hv1 : ∀ (M1 : Heap) (X : List A), RelX S0 w0 nt (s.lend id p root) M1 X a w → vals.length = vs1.length ∧ ∀ (i : Nat) (v : DV) (u : Value), vs1[i]? = some v → vals[i]? = some u → RelV S0 w0 M1 v u)
    (hr : rosOk (s.lend id p root) io 0 vs1 as) (hw : widen io 0 vs1 = false ∨ (noRoL ds = true ∧ noRoL cs' = true)) :
    Calls P f vals.toArray w fun e w' => ∃ (v : Value) (M1 : Heap) (Y : List A), e = .returned v ∧ RelX S0 w0 nt (ptBack s id p root sz n off cs0 cs') M1 Y a w' ∧ cs'.length = cs.length ∧ Y.map er = ds ∧ ds.length = shLen sh ∧ v = packV sh (Y.map T.val) := by
  have hlt : io < vals.length := by rw [hl]; exact (List.getElem?_eq_some_iff.1 hio).1
  obtain ⟨hc, hone⟩ := hv io _ _ hio (List.getElem?_eq_getElem hlt)
  generalize hu : vals[io] = u at hc hone
  cases hc with
  | pt _ _ _ b o c sz2 n2 cs2 hat =>
  obtain ⟨t, ht, hgt⟩ := hat
  have hert := hR.er id
  rw [hroot, ht] at hert
  have hrt : root = er t := by simpa using hert
  have herx : er (.ow (.blk b o c) sz2 n2 cs2) = .ow () sz n cs0 := by
    rw [hrt] at hg
    unfold er at hg ⊢
    rw [T.get_map, hgt] at hg
    simpa using hg
  rw [er_ow_mk] at herx
  simp only [T.ow.injEq, true_and] at herx
  obtain ⟨rfl, rfl, rfl⟩ := herx
  rw [List.length_map] at hlen
  have hR1 := lend_ok hR ht hgt hroot rfl
  rw [List.nil_append] at hR1
  obtain ⟨l1, l2⟩ := hv1 _ _ hR1
  generalize hM1 : upd M id (some (t.put p (.gone (T.ow (.blk b o c) sz2 n2 cs2 : A).val))) = M1 at hR1 l1 l2
  generalize hk : cs.length = k at *
  generalize hran : (cs2.drop off).take k = ran
  have hranl : ran.length = k := by rw [← hran, List.length_take, List.length_drop]; omega
  have hranm : ran.map er = cs := by rw [hcs, ← hran, List.map_take, List.map_drop]
  have hrans : ∀ y ∈ ran, y ∈ cs2 := fun y hy => by rw [← hran] at hy; exact List.mem_of_mem_drop (List.mem_of_mem_take hy)
  have hsplit : cs2 = cs2.take off ++ (ran ++ cs2.drop (off + k)) := by
    rw [← hran, ← List.drop_drop, List.take_append_drop, List.take_append_drop]
  obtain ⟨hxok, -⟩ := hR1.inv.xo _ List.mem_cons_self
  have hxn := hR1.inv.xn
  simp only [List.flatMap_cons, List.flatMap_nil, List.append_nil] at hxn
  have hxb := hR1.inv.xb
  simp only [List.flatMap_cons, List.flatMap_nil, List.append_nil] at hxb
  have hbl2 : (T.ow (.blk b o c) sz2 n2 cs2 : A).blocks = b :: cs2.flatMap T.blocks := by simp [T.blocks, T.blocksL_eq]
  rw [hbl2] at hxn hxb
  rw [List.nodup_cons] at hxn
  obtain ⟨hbn, hcn⟩ := hxn
  have hcn' := hcn
  rw [hsplit, List.flatMap_append, List.flatMap_append, List.nodup_append, List.nodup_append] at hcn'
  obtain ⟨n1, ⟨n2', n3, n4⟩, n5⟩ := hcn'
  have hranb : ∀ q, q ∈ ran.flatMap T.blocks → q ∈ cs2.flatMap T.blocks := fun q hq => by
    obtain ⟨y, hy, hqy⟩ := List.mem_flatMap.1 hq
    exact List.mem_flatMap.2 ⟨y, hrans y hy, hqy⟩
  generalize hown0 : (b :: ran.flatMap T.blocks) = own
  have hX : ∀ q, q ∈ own → q ∈ ([T.ow (.blk b o c) sz2 n2 cs2] : List A).flatMap T.blocks := fun q hq => by
    rw [← hown0] at hq
    simp only [List.flatMap_cons, List.flatMap_nil, List.append_nil]
    rw [hbl2]
    rcases List.mem_cons.1 hq with rfl | hq
    · exact List.mem_cons_self
    · exact List.mem_cons_of_mem _ (hranb q hq)
  have hown : ∀ q ∈ own, ¬ S0.kp q := fun q hq => (hR1.inv.xb q (hX q hq)).2
  have hbw : b < w.heap.size := (hxb b List.mem_cons_self).1
  have hfxw : ∀ b' j, (b' = b ∧ (j < o + off ∨ o + off + k ≤ j)) → b' < w.heap.size := fun b' j h => h.1 ▸ hbw
  generalize hFx : (fun (b' j : Nat) => b' = b ∧ (j < o + off ∨ o + off + k ≤ j)) = fx
  have hfx : ∀ b' j, fx b' j ↔ (b' = b ∧ (j < o + off ∨ o + off + k ≤ j)) := fun b' j => by rw [← hFx]
  generalize hF : calleeFr S0 w own (widen io 0 vs1) fx (fun _ => Value.pointer (some ⟨b, o + off, none⟩)) = F at *
  cases hxok with
  | ow _ _ _ _ _ _ cur ty fz k1 k2 k3 k4 k5 k6 k7 k8 k9 =>
  obtain ⟨ent, hent⟩ : ∃ ent : A, ent = .ow (.blk b (o + off) 1) k 1 ran := ⟨_, rfl⟩
  have hentb : ent.blocks = own := by rw [hent, ← hown0]; simp [T.blocks, T.blocksL_eq]
  have hroom : off + k ≤ c * sz2 := by
    have := Nat.mul_le_mul_right sz2 k4
    omega
  have hentok : Ok F w w ent := by
    rw [hent]
    refine .ow b (o + off) 1 k 1 ran cur ty fz k1 (by rw [fzTo_congr hk1]; exact k2) ⟨by omega, hk0, fun j hj hfj => ?_⟩ (Nat.le_refl _) (by simp [maxLen]) (by omega) (fun i y hy => ?_) (fun y hy => ?_) (fun y hy => k9 y (hrans y hy))
    · rw [← hF] at hfj
      rcases hfj with hfj | hfj
      · exact k3.2.2 (off + j) (by omega) (by rw [← Nat.add_assoc]; exact hfj)
      · rw [hfx] at hfj; omega
    · rw [← hran] at hy
      have hi : i < k := by have := (List.getElem?_eq_some_iff.1 hy).1; rw [List.length_take] at this; omega
      rw [List.getElem?_take_of_lt hi, List.getElem?_drop] at hy
      rw [Nat.add_assoc]
      exact k7 _ y hy
    · rw [← hF]
      refine (k8 y (hrans y hy)).down hR1.inv hown (fun q hq j hfj => ?_)
      rw [hfx] at hfj
      exact hbn (hfj.1 ▸ List.mem_flatMap.2 ⟨y, hrans y hy, hq⟩)
  have hIc : Inv F w (oneH io (some ent)) [] w := by
    rw [← hF] at hentok ⊢
    refine callee_inv hR1.inv hX (fun b' j h => hfxw b' j ((hfx b' j).1 h)) io (some ent) (fun t' ht' => by obtain rfl := Option.some.inj ht'; exact hentok) (fun t' ht' => ?_) (fun t' ht' q hq => ?_)
    · obtain rfl := Option.some.inj ht'
      rw [hentb, ← hown0, List.nodup_cons]
      exact ⟨fun h => hbn (hranb b h), n2'⟩
    · obtain rfl := Option.some.inj ht'
      rw [hentb] at hq; exact hq
  have hcore := call_core (own := own) (wide := widen io 0 vs1) (fx := fx) (gv := fun _ => Value.pointer (some ⟨b, o + off, none⟩)) (ent := some ent) hR1.inv hR1.er hX hS l1 (fun i v u h1 h2 _ => l2 i v u h1 h2) hr (by cases widen io 0 vs1 <;> simp) (by rw [hF]; exact hIc) (fun pa2 u2 hp hu2 => by
    rw [hpa] at hp
    obtain rfl := Option.some.inj hp
    rw [List.getElem?_eq_getElem hlt, hu] at hu2
    obtain rfl := Option.some.inj hu2
    rw [hF]
    have hpt : RelC F w (oneH io (some ent)) (.pt io [] 0) (.pointer (some ⟨b, o + off, none⟩)) := .pt io [] 0 b (o + off) 1 k 1 ran ⟨ent, by simp [oneH], by rw [hent]; rfl⟩
    refine ⟨⟨hpt, rfl⟩, ?_, fun j hj => ?_⟩
    · rw [Option.map_some, hent, er_ow_mk, hranm]; simp only [argH, hk]
    · simp only [argG]
      split
      · exact hpt
      · exact .un _) (fun hn => by rw [hn] at hpa; cases hpa)
  rw [hF] at hcore
  refine Calls.mono hcore ?_
  rintro e w' ⟨v, s2, M2, Y, rfl, hIc', her2, hgh2, e1, e2, e3, e4, e5⟩
  obtain ⟨pa2, p1, p2⟩ := e5 io _ hpa
  rw [hpa'] at p1
  obtain rfl := Option.some.inj p1
  simp only [backA] at p2
  split at p2
  · rename_i i' k' cs3 hg1 hg2
    split at p2
    · rename_i hcond
      obtain ⟨hi0, hk1, hl3⟩ := hcond
      simp only [Option.some.injEq, PA.ptr.injEq] at p2
      subst p2
      rw [hi0] at hg1
      rw [hk1] at hg2 hl3
      rw [hk] at hg2 hl3
      have herio := her2 io
      rw [hg2] at herio
      cases hm : M2 io with
      | none => rw [hm] at herio; cases herio
      | some tc =>
        rw [hm] at herio
        have hetc : er tc = .ow () k 1 cs3 := by simpa using herio.symm
        have hgh := hgh2 (io * 64)
        rw [hg1] at hgh
        generalize hgu : (Value.pointer (some ⟨b, o + off, none⟩)) = uu at hgh
        cases hgh with
        | pt _ _ _ b3 o3 c3 sz3 m3 cs3A hat3 =>
        simp only [Value.pointer.injEq, Option.some.injEq, Addr.mk.injEq, and_true, Nat.add_zero] at hgu
        obtain ⟨rfl, rfl⟩ := hgu
        obtain ⟨tc', htc', hg3⟩ := hat3
        rw [hm] at htc'
        obtain rfl := Option.some.inj htc'
        simp only [T.get, Option.some.injEq] at hg3
        subst hg3
        rw [er_ow_mk] at hetc
        simp only [T.ow.injEq, true_and] at hetc
        obtain ⟨rfl, rfl, rfl⟩ := hetc
        rw [List.length_map] at hl3
        have hoktc := hIc'.ok _ _ hm
        have hndtc := hIc'.nd _ _ hm
        have hbltc : (T.ow (.blk b (o + off) c3) sz3 1 cs3A : A).blocks = b :: cs3A.flatMap T.blocks := by simp [T.blocks, T.blocksL_eq]
        rw [hbltc, List.nodup_cons] at hndtc
        have hkeep : ∀ q, q < w.heap.size → q ∉ own → F.kp q := fun q h1 h2 => by rw [← hF]; exact ⟨h1, h2⟩
        have hcallee : ∀ q ∈ cs3A.flatMap T.blocks, q < w'.heap.size ∧ ¬ F.kp q := fun q hq => hIc'.bl io _ q hm (by rw [hbltc]; exact List.mem_cons_of_mem _ hq)
        have hout : ∀ q, q ∈ cs2.flatMap T.blocks → q ∉ ran.flatMap T.blocks → F.kp q := fun q h1 h2 => hkeep q (hxb q (List.mem_cons_of_mem _ h1)).1 (fun ho => by
          rw [← hown0] at ho
          rcases List.mem_cons.1 ho with rfl | ho
          · exact hbn h1
          · exact h2 ho)
        have htake : ∀ q, q ∈ (cs2.take off).flatMap T.blocks → q ∈ cs2.flatMap T.blocks ∧ q ∉ ran.flatMap T.blocks := fun q hq => ⟨(flat_sublist (List.take_sublist _ _)).subset hq, fun h => n5 q hq q (List.mem_append_left _ h) rfl⟩
        have hdrop : ∀ q, q ∈ (cs2.drop (off + sz3)).flatMap T.blocks → q ∈ cs2.flatMap T.blocks ∧ q ∉ ran.flatMap T.blocks := fun q hq => ⟨(flat_sublist (List.drop_sublist _ _)).subset hq, fun h => n4 q h q hq rfl⟩
        generalize hnew : cs2.take off ++ (cs3A ++ cs2.drop (off + sz3)) = csN
        have hcsNl : csN.length = cs2.length := by
          rw [← hnew, List.length_append, List.length_append, List.length_take, List.length_drop]; omega
        have hout0 : ∀ j, ¬ (off ≤ j ∧ j < off + sz3) → csN[j]? = cs2[j]? := fun j hj => by
          rw [← hnew]
          by_cases h : j < off
          · rw [List.getElem?_append_left (by rw [List.length_take]; omega), List.getElem?_take_of_lt h]
          · rw [List.getElem?_append_right (by rw [List.length_take]; omega), List.getElem?_append_right (by rw [List.length_take]; omega), List.getElem?_drop, List.length_take]
            congr 1
            omega
        cases hoktc with
        | ow _ _ _ _ _ _ cur' ty' fz' g1 g2 g3 g4 g5 g6 g7 g8 g9 =>
        have hcell : ∀ j, (j < o + off ∨ o + off + sz3 ≤ j) → cur'[j]? = cur[j]? := fun j hj => by
          have := (hIc'.wd.fx b j (by rw [← hF]; exact .inr ((hfx b j).2 ⟨rfl, hj⟩))).2
          simpa [World.cell?, g1, k1] using this
        have hsize : o + c * sz2 ≤ cur'.size := by
          by_cases h : off + sz3 < c * sz2
          · have h1 : o + c * sz2 - 1 < cur.size := by have := k3.1; omega
            have h2 := hcell (o + c * sz2 - 1) (.inr (by omega))
            rw [Array.getElem?_eq_getElem h1] at h2
            have := (Array.getElem?_eq_some_iff.1 h2).1
            omega
          · have : sz3 ≤ c3 * sz3 := Nat.le_mul_of_pos_left _ g4
            have := g3.1
            omega
        have hxok : Ok S0 w0 w' (.ow (.blk b o c) sz2 n2 csN) := by
          refine .ow b o c sz2 n2 csN cur' ty' fz' g1 (by rw [← fzTo_congr hk1]; exact g2) ⟨hsize, k3.2⟩ k4 k5 (by rw [hcsNl]; exact k6) (fun j y hy => ?_) (fun y hy => ?_) (fun y hy => ?_)
          · by_cases hj : off ≤ j ∧ j < off + sz3
            · rw [← hnew, List.getElem?_append_right (by rw [List.length_take]; omega), List.getElem?_append_left (by rw [List.length_take]; omega)] at hy
              have := g7 _ y hy
              rw [List.length_take] at this
              rw [← this]
              congr 1
              omega
            · rw [hout0 j hj] at hy
              rw [hcell (o + j) (by omega)]
              exact k7 j y hy
          · rw [← hnew] at hy
            rcases List.mem_append.1 hy with hy | hy
            · exact (k8 y (List.mem_of_mem_take hy)).frame fun q hq => by
                have := htake q (List.mem_flatMap.2 ⟨y, hy, hq⟩)
                exact hIc'.wd.fr q (hout q this.1 this.2)
            · rcases List.mem_append.1 hy with hy | hy
              · have := g8 y hy
                rw [← hF] at this
                refine conv_back hR1.inv this ?_
                rcases hw with hw | hw
                · exact .inl hw
                · exact .inr (noRoL_mem' hw.2 y hy)
              · exact (k8 y (List.mem_of_mem_drop hy)).frame fun q hq => by
                  have := hdrop q (List.mem_flatMap.2 ⟨y, hy, hq⟩)
                  exact hIc'.wd.fr q (hout q this.1 this.2)
          · rw [← hnew] at hy
            rcases List.mem_append.1 hy with hy | hy
            · exact k9 y (List.mem_of_mem_take hy)
            · rcases List.mem_append.1 hy with hy | hy
              · exact g9 y hy
              · exact k9 y (List.mem_of_mem_drop hy)
        have hNb : (T.ow (.blk b o c) sz2 n2 csN : A).blocks = b :: csN.flatMap T.blocks := by simp [T.blocks, T.blocksL_eq]
        have hNm : ∀ q, q ∈ csN.flatMap T.blocks → q ∈ (cs2.take off).flatMap T.blocks ∨ q ∈ cs3A.flatMap T.blocks ∨ q ∈ (cs2.drop (off + sz3)).flatMap T.blocks := fun q hq => by
          rw [← hnew, List.flatMap_append, List.flatMap_append] at hq
          rcases List.mem_append.1 hq with h | h
          · exact .inl h
          · rcases List.mem_append.1 h with h | h
            · exact .inr (.inl h)
            · exact .inr (.inr h)
        have hXb : ∀ q, q ∈ cs2.flatMap T.blocks → q ∈ ([T.ow (.blk b o c) sz2 n2 cs2] : List A).flatMap T.blocks := fun q hq => by
          simp only [List.flatMap_cons, List.flatMap_nil, List.append_nil]
          rw [hbl2]; exact List.mem_cons_of_mem _ hq
        have hbX : b ∈ ([T.ow (.blk b o c) sz2 n2 cs2] : List A).flatMap T.blocks := by
          simp only [List.flatMap_cons, List.flatMap_nil, List.append_nil]
          rw [hbl2]; exact List.mem_cons_self
        have hZ : Inv S0 w0 M1 (.ow (.blk b o c) sz2 n2 csN :: Y) w' := by
          have hIc2 := hIc'
          rw [← hF] at hIc2
          refine call_back2 hR1.inv hX hIc2 (fun z hz => ?_) (fun q hq => ?_) ?_
          · rcases List.mem_cons.1 hz with rfl | hz
            · exact ⟨hxok, rfl⟩
            · refine ⟨conv_back hR1.inv (hIc2.xo z hz).1 ?_, (hIc2.xo z hz).2⟩
              rcases hw with hw | hw
              · exact .inl hw
              · exact .inr (noRoL_mem' (by rw [e1]; exact hw.1) z hz)
          · rw [hF]
            rw [List.flatMap_cons, hNb] at hq
            have hsz := hIc'.wd.sz
            rcases List.mem_append.1 hq with hq | hq
            · rcases List.mem_cons.1 hq with rfl | hq
              · exact ⟨by omega, .inl hbX⟩
              · rcases hNm q hq with h | h | h
                · have h1 := (htake q h).1
                  exact ⟨by have := (hxb q (List.mem_cons_of_mem _ h1)).1; omega, .inl (hXb q h1)⟩
                · exact ⟨(hcallee q h).1, .inr (hcallee q h).2⟩
                · have h1 := (hdrop q h).1
                  exact ⟨by have := (hxb q (List.mem_cons_of_mem _ h1)).1; omega, .inl (hXb q h1)⟩
            · exact ⟨(hIc'.xb q hq).1, .inr (hIc'.xb q hq).2⟩
          · rw [List.flatMap_cons, hNb, List.nodup_append, List.nodup_cons]
            refine ⟨⟨fun hq => ?_, ?_⟩, hIc'.xn, fun q hq q' hq' e => ?_⟩
            · rcases hNm b hq with h | h | h
              · exact hbn (htake b h).1
              · exact hndtc.1 h
              · exact hbn (hdrop b h).1
            · rw [← hnew, List.flatMap_append, List.flatMap_append, List.nodup_append, List.nodup_append]
              refine ⟨n1, ⟨hndtc.2, n3, fun q hq q' hq' e => ?_⟩, fun q hq q' hq' e => ?_⟩
              · subst e
                have := hdrop q hq'
                exact (hcallee q hq).2 (hout q this.1 this.2)
              · subst e
                rcases List.mem_append.1 hq' with hq' | hq'
                · have := htake q hq
                  exact (hcallee q hq').2 (hout q this.1 this.2)
                · exact n5 q hq q (List.mem_append_right _ hq') rfl
            · subst e
              have hY := hIc'.xb q hq'
              rcases List.mem_cons.1 hq with rfl | hq
              · exact hIc'.xd io _ hm q (by rw [hbltc]; exact List.mem_cons_self) hq'
              · rcases hNm q hq with h | h | h
                · have := htake q h
                  exact hY.2 (hout q this.1 this.2)
                · exact hIc'.xd io _ hm q (by rw [hbltc]; exact List.mem_cons_of_mem _ h) hq'
                · have := hdrop q h
                  exact hY.2 (hout q this.1 this.2)
        have ht1 : M1 id = some (t.put p (.gone (T.ow (.blk b o c) sz2 n2 cs2 : A).val)) := by rw [← hM1, upd_same]
        have hg1' : (t.put p (.gone (T.ow (.blk b o c) sz2 n2 cs2 : A).val)).get p = some (.gone (T.ow (.blk b o c) sz2 n2 cs2 : A).val) := by
          have := get_put_same p [] t (.gone (T.ow (.blk b o c) sz2 n2 cs2 : A).val) (by rw [hgt]; rfl)
          simpa [T.get] using this
        have hI3 := Inv.back hZ ht1 hg1' rfl
        rw [put_put, ← hM1, upd_upd] at hI3
        have hcv : ∀ (cc : DC) (uu : Value), RelC S0 w0 M cc uu → RelC S0 w0 (upd M id (some (t.put p (.ow (.blk b o c) sz2 n2 csN)))) (pzR id p off (off + sz3) cc) uu := fun cc uu hcc => hcc.range ht hgt hcsNl hout0
        refine ⟨v, _, Y, rfl, ⟨hI3, ?_, fun i => ?_, hR.nt, hR.df, fun i => ?_⟩, by rw [List.length_map]; omega, e1, e2, e3⟩
        · have := er_upd (id := id) (t := some (t.put p (.ow (.blk b o c) sz2 n2 csN))) hR.er
          simp only [Option.map_some, er_put, er_ow_mk] at this
          rw [ptBack_h, hrt]
          rw [List.length_map, hl3]
          rw [← hnew, List.map_append, List.map_append, List.map_take, List.map_drop] at this
          rw [hnew] at this
          exact this
        · simp only [ptBack]
          rw [List.length_map, hl3]
          exact (hR.en i).mapV hcv
        · simp only [ptBack]
          rw [List.length_map, hl3]
          exact hcv _ _ (hR.gh i)
    · cases p2
  · cases p2
end
end Go.Proofs.Ytjjdjkkhhcbogaa.DM
