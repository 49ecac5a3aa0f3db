/-
  DM 33. Empty slices are data; a row goes back to where it came from.
-/
import Derived.Test.YtjjdjkkhhcbogaaD32
namespace Go.Proofs.Ytjjdjkkhhcbogaa.DM
set_option linter.unusedVariables false
set_option linter.unusedSimpArgs false
def emC : DC → DC
  | .sl _ _ _ 0 => .t (.sl 0 [])
  | c => c
/-- References that follow a row into a cell of an argument's entry. -/
def plC (e io j : Nat) : DC → DC
  | .sl i q off n => if i = e then .sl io (j :: q) off n else if isAt io [j] i q then .un else .sl i q off n
  | .pt i q off => if i = e then .pt io (j :: q) off else if isAt io [j] i q then .un else .pt i q off
  | .fn f ids => if ids.contains e || ids.contains io then .un else .fn f ids
  | c => c
section
variable {S0 : Fr} {w0 w w' : World} {M M' M1 : Heap} {X : List A} {P : Program} {nt : Nat} {s s1 : FS} {a : Act}
theorem RelC.empty {c : DC} {v : Value} (h : RelC S0 w0 M c v) : RelC S0 w0 M (emC c) v := by
  cases c with
  | sl id p off n =>
    cases n with
    | zero =>
      simp only [emC]
      generalize hn : (0 : Nat) = n at h
      cases h with
      | sl id p k n b o c sz m cs g1 g2 => subst hn; exact .t _ _ (.em _ _)
      | se => exact .t _ _ (.em _ _)
    | succ n => exact h
  | _ => exact h
/-- Empty slices in a temporary are data. -/
theorem Ghost.empty (t : Nat) : Ghost nt s ⟨upd s.e t (mapV emC (s.e t)), s.h, s.g⟩ := fun S0 w0 M a w hR => ⟨M, hR.inv, hR.er, fun i => by
  by_cases hi : i = t
  · subst hi
    show RelV S0 w0 M (upd s.e i (mapV emC (s.e i)) i) _
    rw [upd_same]
    exact (hR.en i).mapV fun c v h => h.empty
  · show RelV S0 w0 M (upd s.e t (mapV emC (s.e t)) i) _
    rw [upd_ne _ _ _ _ hi]; exact hR.en i, hR.nt, hR.df, hR.gh⟩
/-- A row of its own goes into a cell of an argument's entry. -/
theorem Ghost.plant (e io j : Nat) {cs : List D} {sz n : Nat} {xs : List D} (he : s.h e = some (.ow () sz n xs)) (hio : s.h io = some (.hold cs)) (hj : cs[j]? = some (.gone ())) :
    Ghost nt s ⟨fun i => mapV (plC e io j) (s.e i), upd (upd s.h e none) io (some (.hold (cs.set j (.ow () sz n xs)))), fun i => plC e io j (s.g i)⟩ := fun S0 w0 M a w hR => by
  have hne : e ≠ io := fun h => by rw [h, hio] at he; cases he
  obtain ⟨x, hx, hxe⟩ : ∃ x, M e = some x ∧ er x = .ow () sz n xs := by
    have := hR.er e
    rw [he] at this
    cases hm : M e with
    | none => rw [hm] at this; cases this
    | some x => rw [hm] at this; exact ⟨x, rfl, (Option.some.inj this).symm⟩
  obtain ⟨t, ht, hte⟩ : ∃ t, M io = some t ∧ er t = .hold cs := by
    have := hR.er io
    rw [hio] at this
    cases hm : M io with
    | none => rw [hm] at this; cases this
    | some x => rw [hm] at this; exact ⟨x, rfl, (Option.some.inj this).symm⟩
  obtain ⟨zs, rfl, hzs⟩ : ∃ zs, t = .hold zs ∧ zs.map er = cs := by
    cases t with
    | hold zs => rw [er_hold] at hte; exact ⟨zs, rfl, by simpa using hte⟩
    | _ => simp [er, T.map] at hte
  obtain ⟨u, hu⟩ : ∃ u, zs[j]? = some (.gone u) := by
    rw [← hzs, List.getElem?_map, Option.map_eq_some_iff] at hj
    obtain ⟨y, hy, hye⟩ := hj
    cases y with
    | gone u => exact ⟨u, hy⟩
    | _ => simp [er, T.map] at hye
  have hxh : x.isHold = false := by cases x <;> first | rfl | (simp [er, T.map] at hxe)
  have hjl : j < zs.length := (List.getElem?_eq_some_iff.1 hu).1
  have hxone : x.val.oneCell' = true := (hR.inv.ok e x hx).one hxh
  -- the cell that is waiting holds any value
  have hI0 : Inv S0 w0 (upd M io (some (.hold (zs.set j (.gone x.val))))) [] w := by
    have hI := hR.inv
    have hbl : (T.hold (zs.set j (.gone x.val)) : A).blocks = (T.hold zs : A).blocks := by
      have hsplit : zs = zs.take j ++ (.gone u :: zs.drop (j + 1)) := by
        have := (List.getElem?_eq_some_iff.1 hu).2
        rw [← this, List.getElem_cons_drop, List.take_append_drop]
      have hset : zs.set j (.gone x.val) = zs.take j ++ (.gone x.val :: zs.drop (j + 1)) := by rw [List.set_eq_take_append_cons_drop, if_pos hjl]
      rw [hset]
      conv => rhs; rw [hsplit]
      simp [T.blocks, T.blocksL_eq]
    have hlook : ∀ i v, upd M io (some (.hold (zs.set j (.gone x.val)))) i = some v → (i = io ∧ v = .hold (zs.set j (.gone x.val))) ∨ (i ≠ io ∧ M i = some v) := fun i v hv => by
      by_cases hi : i = io
      · subst hi; rw [upd_same] at hv; exact .inl ⟨rfl, (Option.some.inj hv).symm⟩
      · rw [upd_ne _ _ _ _ hi] at hv; exact .inr ⟨hi, hv⟩
    refine ⟨?_, ?_, ?_, ?_, hI.wd, by simp, by simp, by simp, by simp⟩
    · intro i v hv
      rcases hlook i v hv with ⟨rfl, rfl⟩ | ⟨_, hm⟩
      · have hk := hI.ok _ _ ht
        cases hk with
        | hold _ k1 k2 =>
          refine .hold _ (fun y hy => ?_) (fun y hy => ?_)
          · rcases List.mem_or_eq_of_mem_set hy with h | rfl
            · exact k1 y h
            · exact .gone _ hxone
          · rcases List.mem_or_eq_of_mem_set hy with h | rfl
            · exact k2 y h
            · rfl
      · exact hI.ok i v hm
    · intro i v hv
      rcases hlook i v hv with ⟨rfl, rfl⟩ | ⟨_, hm⟩
      · rw [hbl]; exact hI.nd _ _ ht
      · exact hI.nd i v hm
    · intro i k v v' hik hv hv' b hb hb'
      rcases hlook i v hv with ⟨rfl, rfl⟩ | ⟨hi, hm⟩
      · rcases hlook k v' hv' with ⟨rfl, rfl⟩ | ⟨hk, hm'⟩
        · exact absurd rfl hik
        · rw [hbl] at hb; exact hI.dj _ _ _ _ hik ht hm' b hb hb'
      · rcases hlook k v' hv' with ⟨rfl, rfl⟩ | ⟨hk, hm'⟩
        · rw [hbl] at hb'; exact hI.dj _ _ _ _ hik hm ht b hb hb'
        · exact hI.dj i k v v' hik hm hm' b hb hb'
    · intro i v b hv hb
      rcases hlook i v hv with ⟨rfl, rfl⟩ | ⟨_, hm⟩
      · rw [hbl] at hb; exact hI.bl _ _ b ht hb
      · exact hI.bl i v b hm hb
  -- the row is taken in hand
  have he0 : upd M io (some (.hold (zs.set j (.gone x.val)))) e = some x := by rw [upd_ne _ _ _ _ hne]; exact hx
  have hI1 := (hI0.take (p := []) he0 rfl hxh).drop e
  rw [upd_upd, List.nil_append] at hI1
  have hio1 : upd (upd M io (some (.hold (zs.set j (.gone x.val))))) e none io = some (.hold (zs.set j (.gone x.val))) := by rw [upd_ne _ _ _ _ (Ne.symm hne), upd_same]
  have hI2 := hI1.back (p := [j]) (u := x.val) hio1 (by simp [T.get, T.cells, hjl]) rfl
  have hput : (T.hold (zs.set j (.gone x.val)) : A).put [j] x = .hold (zs.set j x) := by simp [T.put, T.cells, hjl, T.withCells]
  rw [hput] at hI2
  -- what is kept
  have hfar : ∀ i q, i ≠ e → ¬ (i = io ∧ [j] <+: q) → Keeps M (upd (upd (upd M io (some (.hold (zs.set j (.gone x.val))))) e none) io (some (.hold (zs.set j x)))) i q := fun i q h1 h2 => by
    by_cases hi : i = io
    · subst hi
      rintro y ⟨t', ht', hy⟩
      rw [ht] at ht'
      obtain rfl := Option.some.inj ht'
      obtain ⟨cs', h⟩ := get_put_other [j] q (.hold zs) x y hy (fun h => h2 ⟨rfl, h⟩)
      refine ⟨cs', .hold (zs.set j x), upd_same _ _ _, ?_⟩
      rw [← h]
      simp [T.put, T.cells, hu, T.withCells, T.put]
    · rintro y ⟨t', ht', hy⟩
      exact ⟨y.cells, t', by rw [upd_ne _ _ _ _ hi, upd_ne _ _ _ _ h1, upd_ne _ _ _ _ hi]; exact ht', by rw [hy]; cases y <;> rfl⟩
  have hnear : ∀ q y, at_ M e q y → at_ (upd (upd (upd M io (some (.hold (zs.set j (.gone x.val))))) e none) io (some (.hold (zs.set j x)))) io (j :: q) y := fun q y ⟨t', ht', hy⟩ => by
    rw [hx] at ht'
    obtain rfl := Option.some.inj ht'
    exact ⟨_, upd_same _ _ _, by simp only [T.get, T.cells, List.getElem?_set_self hjl]; exact hy⟩
  have hcv : ∀ (c : DC) (v : Value), RelC S0 w0 M c v → RelC S0 w0 (upd (upd (upd M io (some (.hold (zs.set j (.gone x.val))))) e none) io (some (.hold (zs.set j x)))) (plC e io j c) v := by
    intro c v hc
    cases hc with
    | un v => exact .un v
    | t r v h => exact .t r v h
    | nl a => exact .nl a
    | rp cs a h => exact .rp cs a h
    | sl i q k n b o c' sz m cs g1 g2 =>
      simp only [plC]
      split
      · rename_i hi; subst hi; exact .sl io _ k n b o c' sz m cs (hnear q _ g1) g2
      · rename_i hi
        split
        · exact .un _
        · rename_i hn
          refine (RelC.sl i q k n b o c' sz m cs g1 g2).keep fun r hr => ?_
          simp [refsC] at hr; subst hr
          exact hfar i q hi (fun ⟨h1, h2⟩ => hn (by simp [isAt, h1, h2]))
    | se i q off a d sz m cs g1 =>
      simp only [plC]
      split
      · rename_i hi; subst hi; exact .se io _ off a d sz m cs (hnear q _ g1)
      · rename_i hi
        split
        · exact .un _
        · rename_i hn
          refine (RelC.se i q off a d sz m cs g1).keep fun r hr => ?_
          simp [refsC] at hr; subst hr
          exact hfar i q hi (fun ⟨h1, h2⟩ => hn (by simp [isAt, h1, h2]))
    | pt i q off b o c' sz m cs g1 =>
      simp only [plC]
      split
      · rename_i hi; subst hi; exact .pt io _ off b o c' sz m cs (hnear q _ g1)
      · rename_i hi
        split
        · exact .un _
        · rename_i hn
          refine (RelC.pt i q off b o c' sz m cs g1).keep fun r hr => ?_
          simp [refsC] at hr; subst hr
          exact hfar i q hi (fun ⟨h1, h2⟩ => hn (by simp [isAt, h1, h2]))
    | fn f ids ps hl hp =>
      simp only [plC]
      split
      · exact .un _
      · rename_i hn
        simp only [Bool.or_eq_true, not_or, List.contains_iff_mem] at hn
        refine (RelC.fn f ids ps hl hp).keep fun r hr => ?_
        simp only [refsC, List.mem_map] at hr
        obtain ⟨i, hi, rfl⟩ := hr
        exact hfar i [] (fun h => hn.1 (h ▸ hi)) (fun h => hn.2 (h.1 ▸ hi))
  refine ⟨_, hI2, fun i => ?_, fun i => (hR.en i).mapV hcv, hR.nt, hR.df, fun i => hcv _ _ (hR.gh i)⟩
  by_cases hi : i = io
  · subst hi
    show upd (upd s.h e none) i _ i = _
    rw [upd_same, upd_same, Option.map_some, er_hold, List.map_set, hxe, hzs]
  · show upd (upd s.h e none) io _ i = _
    rw [upd_ne _ _ _ _ hi, upd_ne _ _ _ _ hi]
    by_cases hie : i = e
    · subst hie; rw [upd_same, upd_same]; rfl
    · rw [upd_ne _ _ _ _ hie, upd_ne _ _ _ _ hie, upd_ne _ _ _ _ hi]; exact hR.er i
end
theorem OpStep.st {P : Program} {nt : Nat} {o : Oper} {s s2 : FS} {e : List (Nat × DV)} {h : List (Nat × D)} {g : List (Nat × DC)} (hs : OpStep P nt o s s2) (he : chkE s2 e) (hh : chkH s2 h) (hg : chkG s2 g) (hr : refsOk e h g = true) : OpStep P nt o s (St e h g) := OpStep.ghost Ghost.refl hs (Ghost.sub (Sub.st he hh hg hr))
theorem Cert.callHA {P : Program} {nt : Nat} {s : FS} {ops : Array Oper} {o : Oper} {f : Operand} {args : Array Operand} {ats : Array TypeId} {g d : Nat} {vs : List DV} {as as' : List PA} {sh : List (Option Nat)} {ds : List D} {cs : List DC} {δ : Add} (ho : o.op = .call { callee := .value f, args := args, argTypes := ats }) (hw : wantedD ops o s.e = some true)
    (hd : o.dst = some d) (hdn : d < nt) (hc : callArgs s f args.toList = some (g, vs)) (hr : roAll s vs = some as) (hS : Spec P g as sh ds as') (hfl : ds.all flatD = false) (hro : widen as.length 0 vs = false ∨ noRoL ds = true) (hh : s.h d = none) (hrd : rdCs d [] 0 ds = some cs) (hδ : δ = ⟨d, packDV sh cs, some (.hold ds)⟩) :
    Cert P nt ops o (o.looksAt ops) (d :: (refsO s o ++ vs.flatMap refsDV)) δ s := Cert.callH ho hw hd hdn hc hS (roAll_ok hr) hfl hro hh hrd hδ
@[simp] theorem emC_t (r : RT) : emC (.t r) = .t r := rfl
@[simp] theorem emC_un : emC .un = .un := rfl
@[simp] theorem emC_nl : emC .nl = .nl := rfl
@[simp] theorem emC_pt (id : Nat) (p : List Nat) (off : Nat) : emC (.pt id p off) = .pt id p off := rfl
@[simp] theorem emC_rp (cs : List RT) : emC (.rp cs) = .rp cs := rfl
@[simp] theorem emC_sl0 (id : Nat) (p : List Nat) (off : Nat) : emC (.sl id p off 0) = .t (.sl 0 []) := rfl
attribute [simp] plC mapV
end Go.Proofs.Ytjjdjkkhhcbogaa.DM
