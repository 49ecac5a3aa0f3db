/-
  DM 53. Functions of the library at a row of no element.
-/
import Derived.Test.YtjjdjkkhhcbogaaDD
namespace Go.Proofs.Ytjjdjkkhhcbogaa.DM
set_option linter.unusedVariables false
set_option linter.unusedSimpArgs false
section
variable {P : Program}
theorem Spec.read0 {f : Nat} (hE : Enters P f) (h : ∀ (p : Option Addr) (c : Nat) (w : World), Calls P f #[.slice p 0 c] w fun e w' => e = .returned (.tuple #[]) ∧ w' = w) : Spec P f [.one (.r (.sl 0 []))] [] [] [.one (.r (.sl 0 []))] := by
  refine ⟨hE, fun F w M vals hI hl hM hV hG => ?_⟩
  match vals, hl with
  | [v], _ =>
  obtain ⟨p, c, rfl⟩ : ∃ p c, v = .slice p 0 c := by
    have hv := (hV 0 _ v rfl rfl).1
    cases hv with
    | t _ _ hr => cases hr with
      | sl a n c cs vs => exact ⟨_, _, rfl⟩
      | em a c => exact ⟨_, _, rfl⟩
  refine Calls.mono (h p c w) ?_
  rintro e w' ⟨rfl, rfl⟩
  refine ⟨_, initFS [.one (.r (.sl 0 []))], M, [], rfl, hI, hM, hG, rfl, rfl, rfl, rfl, fun i pa hp => ⟨pa, hp, ?_⟩⟩
  rcases i with _ | i
  · simp at hp; subst hp; rfl
  · simp at hp
theorem Spec.give0 {f : Nat} (hE : Enters P f) (h : ∀ (p : Option Addr) (c : Nat) (w : World), Calls P f #[.slice p 0 c] w fun e w' => e = .returned (.slice p 0 c) ∧ w' = w) : Spec P f [.one (.c 1 0 [])] [none] [.ow () 1 0 []] [.one (.c 1 0 [])] := by
  refine ⟨hE, fun F w M vals hI hl hM hV hG => ?_⟩
  match vals, hl with
  | [v], _ =>
  have hv : RelC F w M (.sl 0 [0] 0 0) v := (hV 0 _ v rfl rfl).1
  have hM0 : some (T.hold [.ow () 1 0 []]) = (M 0).map er := hM 0
  cases hm : M 0 with
  | none => rw [hm] at hM0; cases hM0
  | some t =>
    rw [hm, Option.map_some, Option.some.injEq] at hM0
    obtain ⟨y, rfl, hy⟩ := er_hold1 hM0.symm
    obtain ⟨d0, csA, rfl, hcs⟩ := er_ow hy
    obtain rfl : csA = [] := by simpa using hcs
    have q : ∀ b o c sz m cs, at_ M 0 [0] (.ow (.blk b o c) sz m cs) → d0 = .blk b o c ∧ sz = 1 ∧ m = 0 ∧ cs = [] := fun b o c sz m cs hat => by
      obtain ⟨t, ht, hg⟩ := hat
      rw [hm, Option.some.injEq] at ht
      subst ht
      simp only [T.get, T.cells, List.getElem?_cons_zero, Option.some.injEq, T.ow.injEq] at hg
      exact ⟨hg.1, hg.2.1.symm, hg.2.2.1.symm, hg.2.2.2.symm⟩
    have hin : ∀ off n, off = 0 → n = 0 → RelC F w M (.sl 0 [0] off n) v → (∃ a, v = .slice a 0 0) ∨ ∃ b o c, d0 = .blk b o c ∧ v = .slice (some ⟨b, o, none⟩) 0 c := fun off n hoff hn hv => by
      cases hv with
      | se _ _ _ a => exact .inl ⟨a, rfl⟩
      | sl _ _ k _ b o c sz m cs hat hle =>
        obtain ⟨h1, h2, -, -⟩ := q _ _ _ _ _ _ hat
        subst h2
        have hk : k = 0 := by omega
        subst hk; subst hn
        exact .inr ⟨b, o, c, h1, by simp⟩
    rcases hin 0 0 rfl rfl hv with ⟨a, rfl⟩ | ⟨b, o, c, rfl, rfl⟩
    · refine Calls.mono (h a 0 w) ?_
      rintro e w' ⟨rfl, rfl⟩
      have h2 := hI.hands (Y := [.ow (.emp a) 1 0 []]) (fun y hy => by
        rw [List.mem_singleton.1 hy]
        exact ⟨.em a 1, by simp [T.blocks, T.blocksL_eq], rfl⟩)
      rw [List.nil_append] at h2
      refine ⟨_, ⟨fun _ => .un, fun id => (M id).map er, fun _ => .un⟩, M, [.ow (.emp a) 1 0 []], rfl, h2, fun _ => rfl, fun i => .un _, ?_, rfl, rfl, rfl, fun i pa hp => ?_⟩
      · simp [er, T.map, T.mapL_eq]
      · rcases i with _ | i
        · simp at hp; subst hp
          exact ⟨_, rfl, rfl⟩
        · simp at hp
    · refine Calls.mono (h _ _ w) ?_
      rintro e w' ⟨rfl, rfl⟩
      have h2 := hI.unlay hm
      refine ⟨_, ⟨fun _ => .un, fun id => (upd M 0 none id).map er, fun _ => .un⟩, _, _, rfl, h2, fun _ => rfl, fun i => .un _, ?_, rfl, ?_, rfl, fun i pa hp => ?_⟩
      · simp [er, T.map, T.mapL_eq]
      · simp [packV, packL, T.val]
      · rcases i with _ | i
        · simp at hp; subst hp
          exact ⟨_, rfl, rfl⟩
        · simp at hp
end
end Go.Proofs.Ytjjdjkkhhcbogaa.DM
