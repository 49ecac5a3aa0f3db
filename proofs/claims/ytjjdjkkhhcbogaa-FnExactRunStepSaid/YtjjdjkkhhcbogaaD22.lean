/-
  DM 22. A row moves to a name of its own; the rules of the code; the contract of a function.
-/
import Derived.Test.YtjjdjkkhhcbogaaD21
namespace Go.Proofs.Ytjjdjkkhhcbogaa.DM
set_option linter.unusedVariables false
set_option linter.unusedSimpArgs false
def mvC (id : Nat) (p : List Nat) (id' : Nat) : DC → DC
  | .sl i q off n => if isAt id p i q then .sl id' (q.drop p.length) off n else .sl i q off n
  | .pt i q off => if isAt id p i q then .pt id' (q.drop p.length) off else .pt i q off
  | .fn f ids => if ids.contains id then .un else .fn f ids
  | c => c
/-- A row without one of its parts; nothing if it is taken whole. -/
def cutD (root : D) : List Nat → Option D
  | [] => none
  | p => some (root.put p (.gone ()))
def FS.move (s : FS) (id : Nat) (p : List Nat) (id' : Nat) (root x : D) : FS :=
  ⟨fun i => mapV (mvC id p id') (s.e i), upd (upd s.h id (cutD root p)) id' (some x), fun i => mvC id p id' (s.g i)⟩
section
variable {S0 : Fr} {w0 w w' : World} {M M' M1 : Heap} {X : List A} {P : Program} {nt : Nat} {s s1 : FS} {a : Act}
theorem get_below {α β : Type} : ∀ (p r : List Nat) (t x : T α β), t.get p = some x → t.get (p ++ r) = x.get r
  | [], r, t, x, h => by simp only [T.get, Option.some.injEq] at h; subst h; rfl
  | i :: p, r, t, x, h => by
    simp only [T.get] at h
    simp only [List.cons_append, T.get]
    cases hc : t.cells[i]? with
    | none => rw [hc] at h; cases h
    | some c => rw [hc] at h; exact get_below p r c x h
/-- What is in hand is laid as an entry. -/
theorem Inv.entry {x : A} (h : Inv S0 w0 M [x] w) {id : Nat} (hid : M id = none) : Inv S0 w0 (upd M id (some x)) [] w := by
  have hlook : ∀ i u, upd M id (some x) i = some u → (i = id ∧ u = x) ∨ (i ≠ id ∧ M i = some u) := fun i u hu => by
    by_cases hi : i = id
    · subst hi; rw [upd_same] at hu; exact .inl ⟨rfl, (Option.some.inj hu).symm⟩
    · rw [upd_ne _ _ _ _ hi] at hu; exact .inr ⟨hi, hu⟩
  have hxm : ∀ b, b ∈ x.blocks → b ∈ ([x] : List A).flatMap T.blocks := fun b hb => by simpa using hb
  refine ⟨?_, ?_, ?_, ?_, h.wd, by simp, by simp, by simp, by simp⟩
  · intro i u hu
    rcases hlook i u hu with ⟨rfl, rfl⟩ | ⟨_, hm⟩
    · exact (h.xo u List.mem_cons_self).1
    · exact h.ok i u hm
  · intro i u hu
    rcases hlook i u hu with ⟨rfl, rfl⟩ | ⟨_, hm⟩
    · simpa using h.xn
    · exact h.nd i u hm
  · intro i j u v hij hu hv b hbu hbv
    rcases hlook i u hu with ⟨rfl, rfl⟩ | ⟨hi, hm⟩
    · rcases hlook j v hv with ⟨rfl, rfl⟩ | ⟨hj, hm'⟩
      · exact absurd rfl hij
      · exact h.xd j v hm' b hbv (hxm b hbu)
    · rcases hlook j v hv with ⟨rfl, rfl⟩ | ⟨hj, hm'⟩
      · exact h.xd i u hm b hbu (hxm b hbv)
      · exact h.dj i j u v hij hm hm' b hbu hbv
  · intro i u b hu hbu
    rcases hlook i u hu with ⟨rfl, rfl⟩ | ⟨_, hm⟩
    · exact h.xb b (hxm b hbu)
    · exact h.bl i u b hm hbu
theorem Ghost.move {id id' : Nat} {p : List Nat} {root : D} {sz n : Nat} {cs : List D} (hr : s.h id = some root) (hg : root.get p = some (.ow () sz n cs)) (hn : s.h id' = none) : Ghost nt s (s.move id p id' root (.ow () sz n cs)) := fun S0 w0 M a w hR => by
  have hne : id' ≠ id := fun e => by rw [e, hr] at hn; cases hn
  have her := hR.er id
  rw [hr] at her
  cases hm : M id with
  | none => rw [hm] at her; cases her
  | some t =>
    rw [hm] at her
    have hrt : root = er t := by simpa using her
    subst hrt
    unfold er at hg
    rw [T.get_map] at hg
    obtain ⟨x, hx, hxe⟩ := Option.map_eq_some_iff.1 hg
    have hxe : er x = .ow () sz n cs := hxe
    have hh : x.isHold = false := by cases x <;> first | rfl | (simp [er, T.map] at hxe)
    have hM' : M id' = none := by
      have := hR.er id'
      rw [hn] at this
      cases h : M id' with
      | none => rfl
      | some u => rw [h] at this; cases this
    have h1 := hR.inv.take hm hx hh
    rw [List.nil_append] at h1
    -- the entry without the row
    obtain ⟨M1, hI1, hM1e, hk1, hM1n⟩ : ∃ M1, Inv S0 w0 M1 [x] w ∧ (∀ i, upd s.h id (cutD (er t) p) i = (M1 i).map er) ∧ (∀ i q, ¬ (i = id ∧ p <+: q) → Keeps M M1 i q) ∧ M1 id' = none := by
      cases p with
      | nil =>
        refine ⟨upd M id none, ?_, er_upd (t := none) hR.er, keeps_drop, by rw [upd_ne _ _ _ _ hne]; exact hM'⟩
        have := h1.drop id
        rw [upd_upd] at this
        exact this
      | cons j q =>
        refine ⟨_, h1, ?_, keeps_take hm, by rw [upd_ne _ _ _ _ hne]; exact hM'⟩
        have := er_upd (id := id) (t := some (t.put (j :: q) (.gone x.val))) hR.er
        simp only [Option.map_some, er_put, er_gone] at this
        exact this
    have hI2 := hI1.entry hM1n
    have hk2 : ∀ i q, ¬ (i = id ∧ p <+: q) → Keeps M (upd M1 id' (some x)) i q := fun i q h => (hk1 i q h).trans (keeps_new hM1n i q)
    have hat : ∀ (q : List Nat) (y : A), p <+: q → at_ M id q y → at_ (upd M1 id' (some x)) id' (q.drop p.length) y := fun q y hpq ⟨t', ht', hy⟩ => by
      rw [hm] at ht'
      obtain rfl := Option.some.inj ht'
      obtain ⟨r, rfl⟩ := hpq
      rw [get_below p r t x hx] at hy
      exact ⟨x, upd_same _ _ _, by simpa using hy⟩
    have hcv : ∀ (c : DC) (v : Value), RelC S0 w0 M c v → RelC S0 w0 (upd M1 id' (some x)) (mvC id p id' c) v := by
      intro c v hc
      have hfar : ∀ {i : Nat} {q : List Nat}, ¬ isAt id p i q = true → Keeps M (upd M1 id' (some x)) i q := fun {i q} h => hk2 i q fun ⟨h1, h2⟩ => h (by simp [isAt, h1, h2])
      have hnear : ∀ {i : Nat} {q : List Nat}, isAt id p i q = true → i = id ∧ p <+: q := fun {i q} h => by simpa [isAt] using h
      cases hc with
      | un v => exact .un v
      | t r v h => exact .t r v h
      | nl a => exact .nl a
      | rp cs a h => exact .rp cs a h
      | sl i q k n b o c' sz m cs g1 g2 =>
        simp only [mvC]
        by_cases hq : isAt id p i q = true
        · rw [if_pos hq]
          obtain ⟨rfl, hpq⟩ := hnear hq
          exact .sl id' _ k n b o c' sz m cs (hat q _ hpq g1) g2
        · rw [if_neg hq]
          exact (RelC.sl i q k n b o c' sz m cs g1 g2).keep fun r hr => by simp [refsC] at hr; subst hr; exact hfar hq
      | se i q off a d sz m cs g1 =>
        simp only [mvC]
        by_cases hq : isAt id p i q = true
        · rw [if_pos hq]
          obtain ⟨rfl, hpq⟩ := hnear hq
          exact .se id' _ off a d sz m cs (hat q _ hpq g1)
        · rw [if_neg hq]
          exact (RelC.se i q off a d sz m cs g1).keep fun r hr => by simp [refsC] at hr; subst hr; exact hfar hq
      | pt i q off b o c' sz m cs g1 =>
        simp only [mvC]
        by_cases hq : isAt id p i q = true
        · rw [if_pos hq]
          obtain ⟨rfl, hpq⟩ := hnear hq
          exact .pt id' _ off b o c' sz m cs (hat q _ hpq g1)
        · rw [if_neg hq]
          exact (RelC.pt i q off b o c' sz m cs g1).keep fun r hr => by simp [refsC] at hr; subst hr; exact hfar hq
      | fn f ids ps hl hp =>
        simp only [mvC]
        split
        · exact .un _
        · rename_i hn
          refine (RelC.fn f ids ps hl hp).keep fun r hr => ?_
          simp only [refsC, List.mem_map] at hr
          obtain ⟨i, hi, rfl⟩ := hr
          exact hk2 i [] fun ⟨e, _⟩ => hn (by simp [← e, hi])
    refine ⟨_, ⟨hI2, ?_, fun i => (hR.en i).mapV hcv, hR.nt, hR.df, fun i => hcv _ _ (hR.gh i)⟩⟩
    have := er_upd (id := id') (t := some x) (s := ⟨s.e, upd s.h id (cutD (er t) p), s.g⟩) hM1e
    rw [Option.map_some, hxe] at this
    exact this
end
/-- In every world that s tells of, the code leads to one that Q tells of. -/
def DW (P : Program) (nt : Nat) (c : Code) (s : FS) (Q : Exit → FS → Prop) : Prop := ∀ (S0 : Fr) (w0 : World) (M : Heap) (a : Act) (w : World), Rel S0 w0 nt s M a w → c.wp P (fun e a' w' => ∃ s1 M1, Q e s1 ∧ Rel S0 w0 nt s1 M1 a' w') a w
section
variable {P : Program} {nt : Nat} {s s1 : FS} {Q Q' : Exit → FS → Prop}
theorem DW.mono {c : Code} (h : DW P nt c s Q) (hq : ∀ e s1, Q e s1 → Q' e s1) : DW P nt c s Q' := fun S0 w0 M a w hR => wp_mono (h S0 w0 M a w hR) fun e a' w' ⟨s1, M1, h1, h2⟩ => ⟨s1, M1, hq e s1 h1, h2⟩
theorem DW.ghost {c : Code} (hg : Ghost nt s s1) (h : DW P nt c s1 Q) : DW P nt c s Q := fun S0 w0 M a w hR => by
  obtain ⟨M1, hR1⟩ := hg S0 w0 M a w hR
  exact h S0 w0 M1 a w hR1
theorem DW.skip (h : Q .normal s) : DW P nt .skip s Q := fun S0 w0 M a w hR => wp_skip ⟨s, M, h, hR⟩
theorem DW.exit {id : Nat} (h : Q (.exit id) s) : DW P nt (.exit id) s Q := fun S0 w0 M a w hR => wp_exit ⟨s, M, h, hR⟩
theorem DW.ret (h : Q .ret s) : DW P nt .ret s Q := fun S0 w0 M a w hR => wp_ret ⟨s, M, h, hR⟩
def thenQ (N : FS → Prop) (Q : Exit → FS → Prop) : Exit → FS → Prop
  | .normal, s => N s
  | e, s => Q e s
theorem DW.seq {x y : Code} (h : DW P nt x s (thenQ (fun s1 => DW P nt y s1 Q) Q)) : DW P nt (.seq x y) s Q := fun S0 w0 M a w hR => by
  refine wp_seq (wp_mono (h S0 w0 M a w hR) ?_)
  rintro e a' w' ⟨s1, M1, h1, h2⟩
  cases e with
  | normal => exact h1 S0 w0 M1 a' w' h2
  | _ => exact ⟨s1, M1, h1, h2⟩
theorem DW.cond {c : Operand} {x y : Code} {t : Bool} (hc : asSc (ev s.e c) = some (.bool t)) (ht : t = true → DW P nt x s Q) (hf : t = false → DW P nt y s Q) : DW P nt (.cond c x y) s Q := fun S0 w0 M a w hR => by
  have := (asSc_ok hc (ev_ok hR c)).1
  exact wp_cond_split this (fun h => ht h S0 w0 M a w hR) (fun h => hf h S0 w0 M a w hR)
def blockQ (id : Nat) (Q : Exit → FS → Prop) : Exit → FS → Prop
  | .exit id', s => if id' = id then Q .normal s else Q (.exit id') s
  | e, s => Q e s
theorem DW.block {id : Nat} {c : Code} (h : DW P nt c s (blockQ id Q)) : DW P nt (.block id c) s Q := fun S0 w0 M a w hR => by
  refine wp_block (wp_mono (h S0 w0 M a w hR) ?_)
  rintro e a' w' ⟨s1, M1, h1, h2⟩
  cases e with
  | exit id' =>
    simp only [blockQ] at h1
    simp only [Exit.inBlock]
    split
    · rename_i hid; rw [if_pos hid] at h1; exact ⟨s1, M1, h1, h2⟩
    · rename_i hid; rw [if_neg hid] at h1; exact ⟨s1, M1, h1, h2⟩
  | _ => exact ⟨s1, M1, h1, h2⟩
theorem least {J : Nat → Prop} : ∀ n, J n → ∃ m, J m ∧ ∀ k, J k → m ≤ k := fun n => by
  induction n using Nat.strongRecOn with
  | _ n ih =>
    intro h
    by_cases hh : ∃ k, k < n ∧ J k
    · obtain ⟨k, h1, h2⟩ := hh
      exact ih k h1 h2
    · exact ⟨n, h, fun k hk => Nat.le_of_not_lt fun hlt => hh ⟨k, hlt, hk⟩⟩
open Classical in
/-- A loop, with an invariant that falls. -/
theorem DW.loop {c : Code} (I : Nat → FS → Prop) {n0 : Nat} (h0 : I n0 s) (round : ∀ (n : Nat) (s : FS), I n s → DW P nt c s (thenQ (fun s1 => ∃ m, m < n ∧ I m s1) Q)) : DW P nt (.loop c) s Q := fun S0 w0 M a w hR => by
  let J : Act → World → Nat → Prop := fun a w n => ∃ s M, I n s ∧ Rel S0 w0 nt s M a w
  let μ : Act → World → Nat := fun a w => if h : ∃ m, J a w m ∧ ∀ k, J a w k → m ≤ k then Classical.choose h else 0
  have hμ : ∀ a w n, J a w n → J a w (μ a w) ∧ μ a w ≤ n := fun a w n h => by
    have hex := least n h
    have e : μ a w = Classical.choose hex := dif_pos hex
    rw [e]
    exact ⟨(Classical.choose_spec hex).1, (Classical.choose_spec hex).2 n h⟩
  refine wp_loop (fun a w => ∃ n, J a w n) μ ⟨n0, s, M, h0, hR⟩ ?_
  rintro a w ⟨n, hn⟩
  obtain ⟨⟨s, M, hI, hR⟩, -⟩ := hμ a w n hn
  refine wp_mono (round _ s hI S0 w0 M a w hR) ?_
  rintro e a' w' ⟨s1, M1, h1, h2⟩
  cases e with
  | normal =>
    obtain ⟨m, hm, hI1⟩ := h1
    have hJ : J a' w' m := ⟨s1, M1, hI1, h2⟩
    exact ⟨⟨m, hJ⟩, Nat.lt_of_le_of_lt (hμ a' w' m hJ).2 hm⟩
  | _ => exact ⟨s1, M1, h1, h2⟩
end
end Go.Proofs.Ytjjdjkkhhcbogaa.DM
