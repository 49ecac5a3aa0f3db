/-
  DM 34. An empty slice without a width gets one.
-/
import Derived.Test.YtjjdjkkhhcbogaaD33
namespace Go.Proofs.Ytjjdjkkhhcbogaa.DM
set_option linter.unusedVariables false
set_option linter.unusedSimpArgs false
section
variable {S0 : Fr} {w0 w w' : World} {M M' M1 : Heap} {X : List A} {P : Program} {nt : Nat} {s s1 : FS} {a : Act}
theorem put_blocks_same {p : List Nat} {t x y : A} (hx : t.get p = some x) (hb : y.blocks = x.blocks) : (t.put p y).blocks = t.blocks := by
  obtain ⟨L, R, h1, h2⟩ := put_blocks y hx
  rw [h1, h2, hb]
theorem Rel1.imp {x : V1} {v : Value} (h : Rel1 S0 w0 M x v) (hf : ∀ c v, RelC S0 w0 M c v → RelC S0 w0 M' c v) : Rel1 S0 w0 M' x v := by
  cases x with
  | one c => exact ⟨hf _ _ h.1, h.2⟩
  | agg cs =>
    obtain ⟨vs, rfl, hl, h1, h2⟩ := h
    exact ⟨vs, rfl, hl, fun i c u hc hu => hf _ _ (h1 i c u hc hu), h2⟩
theorem RelV.imp {x : DV} {v : Value} (h : RelV S0 w0 M x v) (hf : ∀ c v, RelC S0 w0 M c v → RelC S0 w0 M' c v) : RelV S0 w0 M' x v := by
  cases x with
  | un => trivial
  | v x => exact Rel1.imp h hf
  | tup xs =>
    obtain ⟨vs, rfl, hl, h1⟩ := h
    exact ⟨vs, rfl, hl, fun i y u hy hu => (h1 i y u hy hu).imp hf⟩
theorem Ghost.wide (id : Nat) (p : List Nat) (sz : Nat) {root : D} (hr : s.h id = some root) (hg : root.get p = some (.ow () 0 0 [])) : Ghost nt s ⟨s.e, upd s.h id (some (root.put p (.ow () sz 0 []))), s.g⟩ := fun S0 w0 M a w hR => by
  obtain ⟨t, ht, hte⟩ : ∃ t, M id = some t ∧ root = er t := by
    have := hR.er id
    rw [hr] at this
    cases hm : M id with
    | none => rw [hm] at this; cases this
    | some t => rw [hm] at this; exact ⟨t, rfl, Option.some.inj this⟩
  subst hte
  have hg' := hg
  unfold er at hg'
  rw [T.get_map] at hg'
  obtain ⟨y, hy, hye⟩ := Option.map_eq_some_iff.1 hg'
  have hye : er y = .ow () 0 0 [] := hye
  have hI := hR.inv
  have hyok := (hI.ok id t ht).get hy
  obtain ⟨a0, rfl⟩ := emp_of (sz0 := 0) hye hyok
  have hbl : (T.ow (.emp a0) sz 0 [] : A).blocks = (T.ow (.emp a0) 0 0 [] : A).blocks := by simp [T.blocks, T.blocksL]
  have hok' : Ok S0 w0 w (t.put p (.ow (.emp a0) sz 0 [])) := (hI.ok id t ht).put (hI.nd id t ht) hy (.em a0 sz) rfl rfl (fun _ _ _ => rfl)
  have hlook : ∀ i v, upd M id (some (t.put p (.ow (.emp a0) sz 0 []))) i = some v → ∃ u, M i = some u ∧ v.blocks = u.blocks ∧ Ok S0 w0 w v := fun i v hv => by
    by_cases hi : i = id
    · subst hi; rw [upd_same] at hv; obtain rfl := Option.some.inj hv; exact ⟨t, ht, put_blocks_same hy hbl, hok'⟩
    · rw [upd_ne _ _ _ _ hi] at hv; exact ⟨v, hv, rfl, hI.ok i v hv⟩
  have hcv : ∀ (c : DC) (v : Value), RelC S0 w0 M c v → RelC S0 w0 (upd M id (some (t.put p (.ow (.emp a0) sz 0 [])))) c v := by
    have hfar : ∀ i q, ¬ (i = id ∧ p = q) → ∀ x, at_ M i q x → ∃ cs, at_ (upd M id (some (t.put p (.ow (.emp a0) sz 0 [])))) i q (x.withCells cs) := fun i q hn x ⟨t', ht', hx⟩ => by
      by_cases hi : i = id
      · subst hi
        rw [ht] at ht'
        obtain rfl := Option.some.inj ht'
        by_cases hpq : p <+: q
        · obtain ⟨r, rfl⟩ := hpq
          cases r with
          | nil => exact absurd ⟨rfl, by simp⟩ hn
          | cons j r =>
            rw [get_below p (j :: r) t _ hy] at hx
            simp [T.get, T.cells] at hx
        · obtain ⟨cs', h⟩ := get_put_other p q t (.ow (.emp a0) sz 0 []) x hx hpq
          exact ⟨cs', _, upd_same _ _ _, h⟩
      · exact ⟨x.cells, t', by rw [upd_ne _ _ _ _ hi]; exact ht', by rw [hx]; cases x <;> rfl⟩
    have hnear : at_ (upd M id (some (t.put p (.ow (.emp a0) sz 0 [])))) id p (.ow (.emp a0) sz 0 []) := ⟨_, upd_same _ _ _, by
      have := get_put_same p [] t (.ow (.emp a0) sz 0 []) (by rw [hy]; rfl)
      simpa [T.get] using this⟩
    have hat0 : at_ M id p (.ow (.emp a0) 0 0 []) := ⟨t, ht, hy⟩
    intro c v hc
    cases hc with
    | un v => exact .un v
    | t r v h => exact .t r v h
    | nl a => exact .nl a
    | rp cs a h => exact .rp cs a h
    | sl i q k n b o c' sz' m cs g1 g2 =>
      by_cases hn : i = id ∧ p = q
      · obtain ⟨rfl, rfl⟩ := hn
        have := at_unique g1 hat0
        simp at this
      · obtain ⟨cs', h⟩ := hfar i q hn _ g1
        exact .sl i q k n b o c' sz' m cs' h g2
    | se i q off a d sz' m cs g1 =>
      by_cases hn : i = id ∧ p = q
      · obtain ⟨rfl, rfl⟩ := hn
        exact .se i p off a _ sz 0 [] hnear
      · obtain ⟨cs', h⟩ := hfar i q hn _ g1
        exact .se i q off a d sz' m cs' h
    | pt i q off b o c' sz' m cs g1 =>
      by_cases hn : i = id ∧ p = q
      · obtain ⟨rfl, rfl⟩ := hn
        have := at_unique g1 hat0
        simp at this
      · obtain ⟨cs', h⟩ := hfar i q hn _ g1
        exact .pt i q off b o c' sz' m cs' h
    | fn f ids ps hl hp =>
      refine .fn f ids ps hl fun i id' ad hi ha => ?_
      obtain ⟨b, o, c, sz', cs, g1, g2⟩ := hp i id' ad hi ha
      by_cases hn : id' = id ∧ p = []
      · obtain ⟨rfl, rfl⟩ := hn
        have := at_unique g1 hat0
        simp at this
      · obtain ⟨cs', h⟩ := hfar id' [] (fun h => hn ⟨h.1, h.2⟩) _ g1
        exact ⟨b, o, c, sz', cs', h, g2⟩
  refine ⟨_, ⟨fun i v hv => ?_, fun i v hv => ?_, fun i j v v' hij hv hv' b hb hb' => ?_, fun i v b hv hb => ?_, hI.wd, by simp, by simp, by simp, by simp⟩, fun i => ?_, fun i => ?_, hR.nt, hR.df, fun i => hcv _ _ (hR.gh i)⟩
  · exact (hlook i v hv).choose_spec.2.2
  · obtain ⟨u, h1, h2, -⟩ := hlook i v hv; rw [h2]; exact hI.nd i u h1
  · obtain ⟨u, h1, h2, -⟩ := hlook i v hv
    obtain ⟨u', h1', h2', -⟩ := hlook j v' hv'
    rw [h2] at hb; rw [h2'] at hb'
    exact hI.dj i j u u' hij h1 h1' b hb hb'
  · obtain ⟨u, h1, h2, -⟩ := hlook i v hv; rw [h2] at hb; exact hI.bl i u b h1 hb
  · by_cases hi : i = id
    · subst hi
      show upd s.h i _ i = _
      rw [upd_same, upd_same, Option.map_some, er_put]
      rfl
    · show upd s.h id _ i = _
      rw [upd_ne _ _ _ _ hi, upd_ne _ _ _ _ hi]; exact hR.er i
  · exact (hR.en i).imp hcv
end
end Go.Proofs.Ytjjdjkkhhcbogaa.DM
