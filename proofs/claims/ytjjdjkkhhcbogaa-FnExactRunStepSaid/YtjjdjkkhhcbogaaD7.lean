/-
  DM 7. The quiet operations, one by one (second part), and all of them.
-/
import Derived.Test.YtjjdjkkhhcbogaaD6
namespace Go.Proofs.Ytjjdjkkhhcbogaa.DM
set_option linter.unusedVariables false
set_option linter.unusedSimpArgs false
section
variable {S0 : Fr} {w0 w w' : World} {M M' : Heap} {P : Program} {nt : Nat} {s : FS} {a : Act}
/-- A pointer to what is only read, some cells on. -/
theorem rp_drop {ad : Addr} {cs : List RT} (h : RoC S0 w0 (.slice (some ad) 1 1) (.sl 1 cs)) (n : Nat) : RelC S0 w0 M (.rp (cs.drop n)) (.pointer (some (ad.add n))) := by
  cases h with
  | sl ad _ _ _ vs r1 r2 r3 r4 r5 r6 =>
    rw [addr_eq r1]
    refine .rp _ _ (.sl _ 1 1 _ (vs.drop n) rfl r2 (Nat.le_refl _) (by simp [r4]) (fun i v hi => ?_) (fun i v r hi hr => ?_))
    · rw [List.getElem?_drop] at hi
      have := r5 _ v hi
      rwa [← Nat.add_assoc] at this
    · rw [List.getElem?_drop] at hi hr
      exact r6 _ v r hi hr
theorem quiet_fieldAddr {t : TypeId} {x : Operand} {f : Nat} {v : DV} (hR : Rel S0 w0 nt s M a w) (h : quietV P s (.fieldAddr t x f) = some v) : ∃ u, (Instr.fieldAt t (a.eval x) f).run P w = .ok u w ∧ RelV S0 w0 M v u := by
  have hx := ev_ok hR x
  simp only [quietV] at h
  split at h
  · rename_i fs e1
    split at h
    · rename_i fd e2
      split at h
      · rename_i k id p off e3 e4
        obtain rfl := Option.some.inj h
        rw [e4] at hx
        obtain ⟨hc, -⟩ := hx
        generalize a.eval x = u at hc ⊢
        cases hc with
        | pt id p off b o c sz m cs hat =>
          refine ⟨.pointer (some ⟨b, o + (off + fd.offset), none⟩), ?_, .pt _ _ _ b o c sz m cs hat, rfl⟩
          simp [Instr.fieldAt, run_underlying e1, e2, Instr.sureAddr, fieldPlace, szT_ok e3, add_eq, Nat.add_assoc]
      · rename_i k cs e3 e4
        obtain rfl := Option.some.inj h
        rw [e4] at hx
        obtain ⟨hc, -⟩ := hx
        generalize a.eval x = u at hc ⊢
        cases hc with
        | rp cs ad hro =>
          refine ⟨.pointer (some (ad.add fd.offset)), ?_, rp_drop hro _, rfl⟩
          simp [Instr.fieldAt, run_underlying e1, e2, Instr.sureAddr, fieldPlace, szT_ok e3]
      · cases h
    · cases h
  · cases h
theorem quiet_indexAddr {t : TypeId} {x i : Operand} {v : DV} (hR : Rel S0 w0 nt s M a w) (h : quietV P s (.indexAddr t x i) = some v) : ∃ u, (Instr.indexAt t (a.eval x) (a.eval i)).run P w = .ok u w ∧ RelV S0 w0 M v u := by
  have hx := ev_ok hR x
  have hi := ev_ok hR i
  simp only [quietV] at h
  split at h
  · rename_i e sz n id p off m e1 e2 e3
    obtain ⟨u1, u2⟩ := elemT_ok e1
    obtain ⟨k, hk⟩ := asInt_ok e2 hi
    rw [hk]
    split at h
    · rename_i hn
      obtain rfl := Option.some.inj h
      rw [e3] at hx
      obtain ⟨hc, -⟩ := hx
      generalize a.eval x = u at hc ⊢
      have hm : 0 < m := by omega
      cases hc with
      | sl id p kk _ b o c sz' m' cs hat hle =>
        refine ⟨.pointer (some ⟨b, o + (kk * sz' + n.toNat * sz), none⟩), ?_, .pt _ _ _ b o c sz' m' cs hat, rfl⟩
        simp [Instr.indexAt, asIntOf, run_underlying u1, hn, szT_ok u2, add_eq, Nat.add_assoc]
      | se id p off a0 d sz' m' cs hat => omega
    · cases h
  · rename_i e sz n m cs e1 e2 e3
    obtain ⟨u1, u2⟩ := elemT_ok e1
    obtain ⟨k, hk⟩ := asInt_ok e2 hi
    rw [hk]
    split at h
    · rename_i hn
      obtain rfl := Option.some.inj h
      rw [e3] at hx
      obtain ⟨hc, -⟩ := hx
      generalize a.eval x = u at hc ⊢
      cases hc with
      | t r v hro =>
        cases hro with
        | sl ad n' c cs vs r1 r2 r3 r4 r5 r6 =>
          have h1 : RoC S0 w0 (.slice (some ad) 1 1) (.sl 1 cs) := .sl ad 1 1 cs vs r1 r2 (Nat.le_refl _) r4 r5 r6
          refine ⟨.pointer (some (ad.add (n.toNat * sz))), ?_, rp_drop h1 _, rfl⟩
          simp [Instr.indexAt, asIntOf, run_underlying u1, hn, szT_ok u2]
        | em a0 c => omega
    · cases h
  · cases h
theorem quiet_nilCheck {o : Oper} {x : Operand} {v : DV} (ho : o.op = .nilCheck x) (hR : Rel S0 w0 nt s M a w) (h : quietV P s (.nilCheck x) = some v) : ∃ u, (execOp a.eval o).run P w = .ok (.value u) w ∧ RelV S0 w0 M v u := by
  have hx := ev_ok hR x
  simp only [quietV] at h
  refine ⟨a.eval x, ?_, ?_⟩
  · split at h
    · rename_i e1
      rw [e1] at hx
      obtain ⟨hc, -⟩ := hx
      simp only [execOp, ho]
      generalize a.eval x = u at hc ⊢
      cases hc; rfl
    · rename_i e1
      rw [e1] at hx
      obtain ⟨hc, -⟩ := hx
      simp only [execOp, ho]
      generalize a.eval x = u at hc ⊢
      cases hc; rfl
    · cases h
  · split at h
    · rename_i e1; obtain rfl := Option.some.inj h; rwa [e1] at hx
    · rename_i e1; obtain rfl := Option.some.inj h; rwa [e1] at hx
    · cases h
theorem quiet_extract {x : Operand} {i : Nat} {v : DV} (hR : Rel S0 w0 nt s M a w) (h : quietV P s (.extract x i) = some v) : ∃ u, (Instr.extract (a.eval x) i).run P w = .ok u w ∧ RelV S0 w0 M v u := by
  have hx := ev_ok hR x
  simp only [quietV] at h
  split at h
  · rename_i xs e1
    rw [e1] at hx
    obtain ⟨vs, hv, hl, h1⟩ := hx
    split at h
    · rename_i c hc
      obtain rfl := Option.some.inj h
      have hlt : i < vs.length := by rw [hl]; exact (List.getElem?_eq_some_iff.1 hc).1
      refine ⟨vs[i], ?_, h1 i c _ hc (List.getElem?_eq_getElem hlt)⟩
      rw [hv]
      simp [Instr.extract, List.getElem?_eq_getElem hlt]
    · cases h
  · cases h
theorem quiet_field {t : TypeId} {x : Operand} {f : Nat} {v : DV} (hR : Rel S0 w0 nt s M a w) (h : quietV P s (.field t x f) = some v) : ∃ u, (Instr.field t (a.eval x) f).run P w = .ok u w ∧ RelV S0 w0 M v u := by
  have hx := ev_ok hR x
  simp only [quietV] at h
  split at h
  · rename_i fs e1
    split at h
    · rename_i fd e2
      split at h
      · rename_i k cs e3 e4 e5
        rw [e5] at hx
        obtain ⟨vs, hv, hl, h1, h2⟩ := hx
        rw [hv]
        split at h
        · rename_i hle
          obtain rfl := Option.some.inj h
          refine ⟨.agg ((vs.drop fd.offset).take k).toArray, ?_, _, rfl, by simp [hl], fun i c u hc hu => ?_, fun u hu => h2 u (List.mem_of_mem_drop (List.mem_of_mem_take hu))⟩
          · simp only [Instr.field, Sem.run_bind, run_underlying e1, Result.andThen_ok, e2, part, asAgg, Sem.run_pure, aggT_ok e4, if_true, szT_ok e3]
            simp [List.drop_take]
          · have hik : i < k := by have := (List.getElem?_eq_some_iff.1 hc).1; simp at this; omega
            rw [List.getElem?_take_of_lt hik, List.getElem?_drop] at hc hu
            exact h1 _ c u hc hu
        · cases h
      · rename_i k cs e3 e4 e5
        rw [e5] at hx
        obtain ⟨vs, hv, hl, h1, h2⟩ := hx
        rw [hv]
        split at h
        · rename_i c hc
          obtain rfl := Option.some.inj h
          have hlt : fd.offset < vs.length := by rw [hl]; exact (List.getElem?_eq_some_iff.1 hc).1
          refine ⟨vs[fd.offset], ?_, h1 _ c _ hc (List.getElem?_eq_getElem hlt), h2 _ (List.getElem_mem hlt)⟩
          simp only [Instr.field, Sem.run_bind, run_underlying e1, Result.andThen_ok, e2, part, asAgg, Sem.run_pure, aggT_ok e4, Bool.false_eq_true, if_false]
          simp [List.getElem?_eq_getElem hlt]
        · cases h
      · cases h
    · cases h
  · cases h
theorem bound_ok {d : DV} {n m : Int} {k : Nat} {code : BoundsCode} {u : Value} (h : asInt d = some n) (hr : RelV S0 w0 M d u) (h0 : 0 ≤ n) (h1 : n ≤ k) : (Instr.sliceBound u k code).run P w = .ok n.toNat w := by
  obtain ⟨kk, hk⟩ := asInt_ok h hr
  rw [hk]
  simp [Instr.sliceBound, asIntOf, h0, h1]
theorem sliceB_ok {lo hi : Option Operand} {n c l h : Nat} (isS : Bool) (hR : Rel S0 w0 nt s M a w) (hb : sliceB (lo.map (ev s.e)) (hi.map (ev s.e)) n = some (l, h)) (hnc : n ≤ c) :
    (Instr.sliceBounds isS n c (lo.map a.eval) (hi.map a.eval) none).run P w = .ok (l, h, c) w ∧ l ≤ h ∧ h ≤ n := by
  unfold sliceB at hb
  split at hb
  · rename_i hh ll e1 e2
    split at hb
    · rename_i hc
      obtain ⟨rfl, rfl⟩ : ll.toNat = l ∧ hh.toNat = h := by simpa using hb
      refine ⟨?_, by omega, by omega⟩
      cases hi with
      | none =>
        have e3 : (n : Int) = hh := by simpa using e1
        subst e3
        cases lo with
        | none =>
          have e4 : (0 : Int) = ll := by simpa using e2
          subst e4
          simp [Instr.sliceBounds]
        | some x =>
          have e4 : asInt (ev s.e x) = some ll := by simpa using e2
          have := bound_ok (P := P) (w := w) (m := 0) (k := n) (code := BoundsCode.sliceB) e4 (ev_ok hR x) hc.2.2.1 hc.2.2.2
          simp [Instr.sliceBounds, this]
      | some y =>
        have e3 : asInt (ev s.e y) = some hh := by simpa using e1
        have t1 := fun cd => bound_ok (P := P) (w := w) (m := 0) (k := c) (code := cd) e3 (ev_ok hR y) hc.1 (by omega)
        cases lo with
        | none =>
          have e4 : (0 : Int) = ll := by simpa using e2
          subst e4
          simp [Instr.sliceBounds, t1]
        | some x =>
          have e4 : asInt (ev s.e x) = some ll := by simpa using e2
          have := bound_ok (P := P) (w := w) (m := 0) (k := hh.toNat) (code := BoundsCode.sliceB) e4 (ev_ok hR x) hc.2.2.1 (by omega)
          simp [Instr.sliceBounds, t1, this]
    · cases hb
  · cases hb
theorem quiet_slice {t : TypeId} {x : Operand} {lo hi : Option Operand} {v : DV} (hR : Rel S0 w0 nt s M a w) (h : quietV P s (.slice t x lo hi none) = some v) :
    ∃ u, (Instr.sliceAt t (a.eval x) (lo.map a.eval) (hi.map a.eval) none).run P w = .ok u w ∧ RelV S0 w0 M v u := by
  have hx := ev_ok hR x
  simp only [quietV] at h
  split at h
  · rename_i b e1
    split at h
    · rename_i l hh e2 e3
      obtain rfl := Option.some.inj h
      obtain ⟨b1, b2, b3⟩ := sliceB_ok (P := P) (c := b.size) false hR e3 (Nat.le_refl _)
      rw [e1] at hx
      obtain ⟨hx', hp⟩ := asSc_ok (S0 := S0) (w0 := w0) (M := M) rfl hx
      rw [hx']
      exact ⟨.string (b.extract l hh), by simp [Instr.sliceAt, Instr.slice, run_underlying e2, b1], sc_ok rfl⟩
    · cases h
  · rename_i n cs e1
    split at h
    · rename_i e sz l hh e2 e3
      obtain ⟨u1, u2⟩ := elemT_ok e2
      split at h
      · rename_i hlen
        obtain rfl := Option.some.inj h
        rw [e1] at hx
        obtain ⟨hc, -⟩ := hx
        generalize a.eval x = u at hc ⊢
        cases hc with
        | t r v hro =>
          cases hro with
          | sl ad n' c cs vs r1 r2 r3 r4 r5 r6 =>
            obtain ⟨b1, b2, b3⟩ := sliceB_ok (P := P) (c := c) true hR e3 r3
            refine ⟨_, by simp [Instr.sliceAt, Instr.slice, run_underlying u1, b1, szT_ok u2]; rfl, .t _ _ ?_, rfl⟩
            by_cases hz : hh - l = 0
            · rw [hz, Nat.zero_mul, List.take_zero]; exact .em _ _
            · rw [if_neg (by omega)]
              rw [addr_eq r1]
              refine .sl _ _ _ _ ((vs.drop (l * sz)).take ((hh - l) * sz)) rfl r2 (by omega) (by simp [r4]) (fun i v hi => ?_) (fun i v r hi hr => ?_)
              · have hik : i < (hh - l) * sz := by have := (List.getElem?_eq_some_iff.1 hi).1; simp at this; omega
                rw [List.getElem?_take_of_lt hik, List.getElem?_drop] at hi
                have := r5 _ v hi
                rwa [← Nat.add_assoc] at this
              · have hik : i < (hh - l) * sz := by have := (List.getElem?_eq_some_iff.1 hi).1; simp at this; omega
                rw [List.getElem?_take_of_lt hik, List.getElem?_drop] at hi hr
                exact r6 _ v r hi hr
          | em a0 c =>
            obtain ⟨b1, b2, b3⟩ := sliceB_ok (P := P) (c := c) true hR e3 (Nat.zero_le _)
            refine ⟨_, by simp [Instr.sliceAt, Instr.slice, run_underlying u1, b1, szT_ok u2]; rfl, .t _ _ ?_, rfl⟩
            have hz : hh - l = 0 := by omega
            rw [hz, Nat.zero_mul, List.take_zero]; exact .em _ _
      · cases h
    · cases h
  · rename_i id p off n e1
    split at h
    · rename_i e sz l hh root e2 e3 e4
      obtain ⟨u1, u2⟩ := elemT_ok e2
      split at h
      · rename_i sz' m' cs' hg
        split at h
        · rename_i hsz
          obtain ⟨rfl, hsz0⟩ := hsz
          obtain rfl := Option.some.inj h
          obtain ⟨y, hat, hery, hok⟩ := node_ok hR e4 hg
          obtain ⟨d, csA, rfl, hcs⟩ := er_ow hery
          rw [e1] at hx
          obtain ⟨hc, -⟩ := hx
          generalize a.eval x = u at hc ⊢
          have key : ∀ (A0 : Option Addr), RelV S0 w0 M (.v (.one (.sl id p (off + l * sz) 0))) (.slice A0 0 0) := fun A0 => ⟨.se _ _ _ _ _ _ _ _ hat, rfl⟩
          cases hc with
          | sl id p kk _ b o c sz2 m2 cs2 hat2 hle =>
            have hE := at_unique hat hat2
            simp only [T.ow.injEq] at hE
            obtain ⟨rfl, rfl, rfl, rfl⟩ := hE
            have hmc : m' ≤ c := by cases hok; assumption
            obtain ⟨b1, b2, b3⟩ := sliceB_ok (P := P) (c := c - kk) true hR e3 (by omega)
            refine ⟨_, by simp [Instr.sliceAt, Instr.slice, run_underlying u1, b1, szT_ok u2]; rfl, ?_⟩
            by_cases hz : c - kk = l
            · rw [if_pos hz]
              have h0 : hh - l = 0 := by omega
              have h1 : c - kk - l = 0 := by omega
              rw [h0, h1]
              exact key _
            · rw [if_neg hz, add_eq, Nat.add_assoc, ← Nat.add_mul, Nat.sub_sub]
              exact ⟨.sl id p (kk + l) (hh - l) b o c _ m' csA hat (by omega), rfl⟩
          | se id p off a0 d2 sz2 m2 cs2 hat2 =>
            obtain ⟨b1, b2, b3⟩ := sliceB_ok (P := P) (c := 0) true hR e3 (Nat.le_refl _)
            refine ⟨_, by simp [Instr.sliceAt, Instr.slice, run_underlying u1, b1, szT_ok u2]; rfl, ?_⟩
            have h0 : hh - l = 0 := by omega
            have h1 : l = 0 := by omega
            rw [h0, h1]
            simp only [if_true, Nat.zero_mul, Nat.add_zero, Nat.sub_self]
            exact ⟨.se _ _ _ _ _ _ _ _ hat, rfl⟩
        · cases h
      · cases h
    · cases h
  · rename_i e1
    split at h
    · rename_i e2 e3
      obtain ⟨u1, u2⟩ := elemT_ok e2
      obtain rfl := Option.some.inj h
      rw [e1] at hx
      obtain ⟨hc, -⟩ := hx
      generalize a.eval x = u at hc ⊢
      cases hc with
      | nl a0 =>
        obtain ⟨b1, b2, b3⟩ := sliceB_ok (P := P) (c := 0) true hR e3 (Nat.le_refl _)
        refine ⟨_, by simp [Instr.sliceAt, Instr.slice, run_underlying u1, b1, szT_ok u2]; rfl, ?_⟩
        rename_i x1 x2
        obtain ⟨l, hh⟩ := x2
        simp only at b2 b3 ⊢
        have h0 : hh = 0 := by omega
        have h1 : l = 0 := by omega
        subst h0; subst h1
        simp only [if_true, Nat.sub_self]
        exact ⟨.nl _, rfl⟩
    · cases h
  · cases h
end
end Go.Proofs.Ytjjdjkkhhcbogaa.DM
