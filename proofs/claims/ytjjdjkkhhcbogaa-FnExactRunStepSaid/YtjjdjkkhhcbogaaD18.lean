/-
  DM 18. A call with rows that are lent.
-/
import Derived.Test.YtjjdjkkhhcbogaaD17
namespace Go.Proofs.Ytjjdjkkhhcbogaa.DM
set_option linter.unusedVariables false
set_option linter.unusedSimpArgs false
/-- An empty slice of the call's own. -/
def emptyC : DC → Bool
  | .sl _ _ _ 0 => true
  | _ => false
open Classical in
/-- Cells that are lent, or read. -/
noncomputable def lendL : FS → Nat → List DC → List PC → Option (FS × List Pl)
  | s, _, [], [] => some (s, [])
  | s, j, c :: cs, .r r :: pcs => if (toRC s c = some r ∧ ownC c = false) ∨ (emptyC c = true ∧ r = .sl 0 []) then lendL s (j + 1) cs pcs else none
  | s, j, .nl :: cs, .m _ n xs :: pcs => if n = 0 ∧ xs = [] then lendL s (j + 1) cs pcs else none
  | s, j, .sl id p off n' :: cs, .m sz n xs :: pcs => match s.h id with
    | some root => match root.get p with
      | some x => if x = .ow () sz n xs ∧ n' = n ∧ off = 0 then (match lendL (s.lend id p root) (j + 1) (cs.map (pzC id p)) pcs with
          | some (s1, L) => some (s1, (id, p, j) :: L)
          | none => none)
        else if x = .ow () 0 0 [] ∧ n = 0 ∧ n' = 0 ∧ xs = [] then lendL s (j + 1) cs pcs else none
      | none => none
    | none => none
  | _, _, _, _ => none
termination_by _ _ cs _ => cs.length
decreasing_by all_goals simp
def paCells : PA → List PC
  | .one c => [c]
  | .agg cs => cs
  | _ => []
def hBack : (Nat → Option D) → List Pl → List PC → (Nat → Option D)
  | h, [], _ => h
  | h, (id, p, j) :: L, pcs => hBack (match h id, pcs[j]? with | some root, some pc => upd h id (some (root.put p pc.tree)) | _, _ => h) L pcs
def backFS (s s1 : FS) (L : List Pl) (pcs : List PC) : FS := ⟨fun i => mapV (pzsC L) (s.e i), hBack s1.h L pcs, fun i => pzsC L (s.g i)⟩
section
variable {S0 : Fr} {w0 w w' : World} {M M' M1 : Heap} {X : List A} {P : Program} {nt : Nat} {s : FS} {a : Act}
theorem emp_blocks (a : Option Addr) (sz n : Nat) : (T.ow (.emp a) sz n [] : A).blocks = [] := by simp [T.blocks, T.blocksL]
theorem emp_of {z : A} {sz0 : Nat} (h : er z = .ow () 0 0 []) (hok : Ok S0 w0 w z) : ∃ a0, z = .ow (.emp a0) 0 0 [] := by
  cases z with
  | ow d sz' n' cs' =>
    rw [er_ow_mk] at h
    simp only [T.ow.injEq, true_and] at h
    obtain ⟨rfl, rfl, hcs⟩ := h
    have hcs : cs' = [] := by simpa using hcs
    subst hcs
    cases hok with
    | ow b o c _ _ _ cur ty fz k1 k2 k3 => exact absurd k3.2.1 (by omega)
    | em a0 _ => exact ⟨a0, rfl⟩
  | _ => simp [er, T.map] at h
theorem relc_emp {id off n : Nat} {p : List Nat} {a0 : Option Addr} {u : Value} {sz : Nat} (hat : at_ M id p (.ow (.emp a0) sz 0 [])) (h : RelC S0 w0 M (.sl id p off n) u) : ∃ a1, u = .slice a1 0 0 := by
  cases h with
  | sl _ _ k n b o c sz' m cs hat' hle => have := at_unique hat hat'; simp at this
  | se _ _ off a d sz' m cs hat' => exact ⟨a, rfl⟩
/-- What stands for a place in the callee. -/
def Stands (x : A) (own : List Nat) (z : Option A) : Prop := z = some x ∨ ((∃ d sz a, x = .ow d sz 0 [] ∧ z = some (.ow (.emp a) sz 0 [])) ∧ ∀ b ∈ x.blocks, b ∉ own)
theorem lendL_ok : ∀ {pcs : List PC} {cs : List DC} {us : List Value} {s : FS} {M : Heap} {X : List A} {s1 : FS} {j : Nat} {L : List Pl}, RelX S0 w0 nt s M X a w → RelL S0 w0 M cs us → lendL s j cs pcs = some (s1, L) →
    ∃ M1 xs zs, RelX S0 w0 nt s1 M1 (X ++ xs) a w ∧ Lend M L xs M1 ∧ HandL S0 w0 pcs zs us ∧ (∀ z ∈ zs, Ok S0 w0 w z ∧ z.isHold = false) ∧ (zs.flatMap T.blocks).Sublist (xs.flatMap T.blocks) ∧
      (∀ (k : Nat) (l : Pl) (x : A), L[k]? = some l → xs[k]? = some x → j ≤ l.2.2 ∧ Stands x (zs.flatMap T.blocks) zs[l.2.2 - j]? ∧ ∃ sz n ds, pcs[l.2.2 - j]? = some (.m sz n ds)) ∧ L.Pairwise (fun l l' => l.2.2 ≠ l'.2.2) ∧ ∀ l ∈ L, l.2.2 < j + pcs.length := by
  intro pcs
  induction pcs with
  | nil =>
    intro cs us s M X s1 j L hR hL h
    cases cs with
    | cons c cs => simp [lendL] at h
    | nil =>
      have hv : us = [] := List.length_eq_zero_iff.1 (by simpa using hL.1)
      subst hv
      simp only [lendL, Option.some.injEq, Prod.mk.injEq] at h
      obtain ⟨rfl, rfl⟩ := h
      exact ⟨M, [], [], by simpa using hR, .nil M, trivial, by simp, .slnil, fun k l x hl => by simp at hl, .nil, by simp⟩
  | cons pc pcs ih =>
    intro cs us s M X s1 j L hR hL h
    cases cs with
    | nil => cases pc <;> simp [lendL] at h
    | cons c cs =>
      cases us with
      | nil => have := hL.1; simp at this
      | cons u us =>
        obtain ⟨hc, h1, hL'⟩ := hL.head
        -- a cell without a place
        have skip : ∀ (z : A), HandC S0 w0 pc z u → Ok S0 w0 w z → z.isHold = false → z.blocks = [] → lendL s (j + 1) cs pcs = some (s1, L) →
            ∃ M1 xs zs, RelX S0 w0 nt s1 M1 (X ++ xs) a w ∧ Lend M L xs M1 ∧ HandL S0 w0 (pc :: pcs) zs (u :: us) ∧ (∀ z ∈ zs, Ok S0 w0 w z ∧ z.isHold = false) ∧ (zs.flatMap T.blocks).Sublist (xs.flatMap T.blocks) ∧
              (∀ (k : Nat) (l : Pl) (x : A), L[k]? = some l → xs[k]? = some x → j ≤ l.2.2 ∧ Stands x (zs.flatMap T.blocks) zs[l.2.2 - j]? ∧ ∃ sz n ds, (pc :: pcs)[l.2.2 - j]? = some (.m sz n ds)) ∧ L.Pairwise (fun l l' => l.2.2 ≠ l'.2.2) ∧ ∀ l ∈ L, l.2.2 < j + (pc :: pcs).length := fun z hz hzo hzh hzb hrest => by
          obtain ⟨M1, xs, zs, g1, g2, g3, g4, g5, g6, g7, g8⟩ := ih hR hL' hrest
          refine ⟨M1, xs, z :: zs, g1, g2, ⟨hz, g3⟩, fun z' hz' => ?_, by simp [hzb, g5], fun k l x hl hx => ?_, g7, fun l hl => by have := g8 l hl; simp only [List.length_cons]; omega⟩
          · rcases List.mem_cons.1 hz' with rfl | hz'
            · exact ⟨hzo, hzh⟩
            · exact g4 z' hz'
          · obtain ⟨k1, k2, k3⟩ := g6 k l x hl hx
            have : l.2.2 - j = (l.2.2 - (j + 1)) + 1 := by omega
            rw [this]
            have hfl : (z :: zs).flatMap T.blocks = zs.flatMap T.blocks := by simp [hzb]
            rw [hfl]
            exact ⟨by omega, by simpa using k2, by simpa using k3⟩
        cases pc with
        | c sz n xs => cases c <;> simp [lendL] at h
        | r r =>
          rw [lendL] at h
          split at h
          · rename_i hcond
            rcases hcond with hcond | ⟨hem, rfl⟩
            · exact skip (.gone u) ⟨toRC_flat hc hcond.1 hcond.2, rfl⟩ (.gone u h1) rfl rfl h
            · refine skip (.gone u) ⟨?_, rfl⟩ (.gone u h1) rfl rfl h
              cases c with
              | sl id p off n =>
                cases n with
                | succ n => simp [emptyC] at hem
                | zero =>
                  generalize hn : (0 : Nat) = n at hc
                  cases hc with
                  | sl id p k n b o c sz m cs g1 g2 => subst hn; exact .em _ _
                  | se => exact .em _ _
              | _ => simp [emptyC] at hem
          · cases h
        | m sz n xs =>
          cases c with
          | nl =>
            rw [lendL] at h
            split at h
            · rename_i hcond
              obtain ⟨rfl, rfl⟩ := hcond
              cases hc with
              | nl a0 => exact skip (.ow (.emp a0) sz 0 []) ⟨rfl, rfl⟩ (.em a0 sz) rfl (by simp [T.blocks, T.blocksL]) h
            · cases h
          | sl id p off n' =>
            rw [lendL] at h
            split at h
            · rename_i root hroot
              split at h
              · rename_i x hx
                have her := hR.er id
                rw [hroot] at her
                cases hm : M id with
                | none => rw [hm] at her; cases her
                | some t =>
                  rw [hm] at her
                  have hroot' : root = er t := by simpa using her
                  have hx0 := hx
                  rw [hroot'] at hx
                  unfold er at hx
                  rw [T.get_map] at hx
                  obtain ⟨y, hy, hye⟩ := Option.map_eq_some_iff.1 hx
                  have hye : er y = x := hye
                  have hyok := (hR.inv.ok id t hm).get hy
                  have hat : at_ M id p y := ⟨t, hm, hy⟩
                  split at h
                  · rename_i hcond
                    obtain ⟨rfl, rfl, hoff⟩ := hcond
                    have hyh : y.isHold = false := by cases y <;> first | rfl | (simp [er, T.map] at hye)
                    split at h
                    · rename_i s2 L2 hrest
                      simp only [Option.some.injEq, Prod.mk.injEq] at h
                      obtain ⟨rfl, rfl⟩ := h
                      have hz : ∃ z, HandC S0 w0 (.m sz n' xs) z u ∧ Ok S0 w0 w z ∧ z.isHold = false ∧ z.blocks.Sublist y.blocks ∧ (z = y ∨ ∃ d sz a, y = .ow d sz 0 [] ∧ z = .ow (.emp a) sz 0 []) := by
                        cases y with
                        | ow d sz' m' cs' =>
                          rw [er_ow_mk] at hye
                          simp only [T.ow.injEq, true_and] at hye
                          obtain ⟨rfl, rfl, hcs'⟩ := hye
                          cases hc with
                          | sl _ _ k _ b o c sz2 m2 cs2 hat2 hle =>
                            have := at_unique hat hat2
                            simp only [T.ow.injEq] at this
                            obtain ⟨rfl, rfl, rfl, rfl⟩ := this
                            refine ⟨_, ⟨by rw [er_ow_mk, hcs'], ?_⟩, hyok, rfl, List.Sublist.refl _, .inl rfl⟩
                            cases hyok with
                            | ow _ _ _ _ _ _ cur ty fz k1 k2 k3 =>
                              have hk : k = 0 := by
                                rcases Nat.mul_eq_zero.1 hoff with h | h
                                · exact h
                                · have := k3.2.1; omega
                              subst hk
                              simp [T.val]
                          | se _ _ _ a0 d2 sz2 m2 cs2 hat2 =>
                            have hcs0 : cs' = [] := by
                              cases hyok with
                              | ow _ _ _ _ _ _ cur ty fz k1 k2 k3 k4 k5 k6 => exact List.length_eq_zero_iff.1 (by rw [k6, Nat.zero_mul])
                              | em => rfl
                            subst hcs0
                            exact ⟨.ow (.emp a0) sz' 0 [], ⟨by rw [er_ow_mk, hcs'], rfl⟩, .em a0 sz', rfl, by rw [emp_blocks]; exact List.nil_sublist _, .inr ⟨_, _, _, rfl, rfl⟩⟩
                        | _ => simp [er, T.map] at hye
                      obtain ⟨z, z1, z2, z3, z4, z5⟩ := hz
                      have hR1 := lend_ok hR hm hy hroot hyh
                      have hL1 : RelL S0 w0 (upd M id (some (t.put p (.gone y.val)))) (cs.map (pzC id p)) us := hL'.map fun d v hd => hd.poison (keeps_take hm) (fun j hj => keeps_upd hj)
                      obtain ⟨M1, ys, zs, g1, g2, g3, g4, g5, g6, g7, g8⟩ := ih hR1 hL1 hrest
                      have hyd : ∀ b ∈ y.blocks, b ∉ ys.flatMap T.blocks := fun b hb hb' => by
                        have hn := g1.inv.xn
                        rw [List.append_assoc, List.flatMap_append, List.nodup_append, List.singleton_append, List.flatMap_cons, List.nodup_append] at hn
                        exact hn.2.1.2.2 b hb b hb' rfl
                      have hfl : ∀ b, b ∈ (z :: zs).flatMap T.blocks → b ∈ z.blocks ∨ b ∈ zs.flatMap T.blocks := fun b hb => by rw [List.flatMap_cons] at hb; exact List.mem_append.1 hb
                      refine ⟨M1, y :: ys, z :: zs, by simpa using g1, .cons hm hy hyh g2, ⟨z1, g3⟩, fun z' hz' => ?_, ?_, fun k l x hl hx => ?_, ?_, fun l hl => ?_⟩
                      · rcases List.mem_cons.1 hz' with rfl | hz'
                        · exact ⟨z2, z3⟩
                        · exact g4 z' hz'
                      · rw [List.flatMap_cons, List.flatMap_cons]
                        exact z4.append g5
                      · cases k with
                        | zero =>
                          simp at hl hx
                          subst hl; subst hx
                          refine ⟨Nat.le_refl _, ?_, sz, n', xs, ?_⟩
                          · simp only [Nat.sub_self, List.getElem?_cons_zero]
                            rcases z5 with rfl | ⟨d, sz', a0, rfl, rfl⟩
                            · exact .inl rfl
                            · refine .inr ⟨⟨d, sz', a0, rfl, rfl⟩, fun b hb hb' => ?_⟩
                              rcases hfl b hb' with h | h
                              · rw [emp_blocks] at h; cases h
                              · exact hyd b hb (g5.subset h)
                          · simp
                        | succ k =>
                          obtain ⟨k1, k2, k3⟩ := g6 k l x (by simpa using hl) (by simpa using hx)
                          have : l.2.2 - j = (l.2.2 - (j + 1)) + 1 := by omega
                          rw [this]
                          refine ⟨by omega, ?_, by simpa using k3⟩
                          rcases k2 with h | ⟨h, h'⟩
                          · exact .inl (by simpa using h)
                          · refine .inr ⟨by simpa using h, fun b hb hb' => ?_⟩
                            rcases hfl b hb' with hz | hz
                            · exact hyd b (z4.subset hz) (List.mem_flatMap.2 ⟨x, List.mem_of_getElem? (by simpa using hx), hb⟩)
                            · exact h' b hb hz
                      · rw [List.pairwise_cons]
                        refine ⟨fun l hl => ?_, g7⟩
                        obtain ⟨k, hk⟩ := List.getElem?_of_mem hl
                        have hlt : k < ys.length := by rw [g2.len]; exact (List.getElem?_eq_some_iff.1 hk).1
                        have := (g6 k l _ hk (List.getElem?_eq_getElem hlt)).1
                        simp only
                        omega
                      · rcases List.mem_cons.1 hl with rfl | hl
                        · simp only [List.length_cons]; omega
                        · have := g8 l hl; simp only [List.length_cons]; omega
                    · cases h
                  · split at h
                    · rename_i hcond
                      obtain ⟨rfl, rfl, rfl, rfl⟩ := hcond
                      obtain ⟨a0, rfl⟩ := emp_of (sz0 := 0) hye hyok
                      obtain ⟨a1, rfl⟩ := relc_emp hat hc
                      exact skip (.ow (.emp a1) sz 0 []) ⟨rfl, rfl⟩ (.em a1 sz) rfl (by simp [T.blocks, T.blocksL]) h
                    · cases h
              · cases h
            · cases h
          | _ => simp [lendL] at h
end
end Go.Proofs.Ytjjdjkkhhcbogaa.DM
