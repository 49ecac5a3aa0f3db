/-
  DM 12. 'append'; and every operation that is no call of a Go function.
-/
import Derived.Test.YtjjdjkkhhcbogaaD11
namespace Go.Proofs.Ytjjdjkkhhcbogaa.DM
set_option linter.unusedVariables false
set_option linter.unusedSimpArgs false
section
variable {S0 : Fr} {w0 w w' : World} {M M' : Heap} {X : List A} {P : Program} {nt : Nat} {s : FS} {a : Act}
theorem Inv.perm {Y : List A} (h : Inv S0 w0 M X w) (hp : X.Perm Y) : Inv S0 w0 M Y w := by
  have hf : (X.flatMap T.blocks).Perm (Y.flatMap T.blocks) := hp.flatMap_right T.blocks
  exact ⟨h.ok, h.nd, h.dj, h.bl, h.wd, fun x hx => h.xo x (hp.symm.subset hx), hf.nodup h.xn, fun i u hu b hb hbx => h.xd i u hu b hb (hf.symm.subset hbx), fun b hb => h.xb b (hf.symm.subset hb)⟩
theorem Inv.entryE (h : Inv S0 w0 M [] w) {id sz : Nat} (a0 : Option Addr) (hid : M id = none) : Inv S0 w0 (upd M id (some (.ow (.emp a0) sz 0 []))) [] w := by
  have hb : (T.ow (.emp a0) sz 0 [] : A).blocks = [] := by simp [T.blocks, T.blocksL]
  have hlook : ∀ i u, upd M id (some (.ow (.emp a0) sz 0 [])) i = some u → (i = id ∧ u = .ow (.emp a0) sz 0 []) ∨ (i ≠ id ∧ M i = some u) := fun i u hu => by
    by_cases hi : i = id
    · subst hi; rw [upd_same] at hu; exact .inl ⟨rfl, (Option.some.inj hu).symm⟩
    · rw [upd_ne _ _ _ _ hi] at hu; exact .inr ⟨hi, hu⟩
  refine ⟨?_, ?_, ?_, ?_, h.wd, by simp, by simp, by simp, by simp⟩
  · intro i u hu
    rcases hlook i u hu with ⟨rfl, rfl⟩ | ⟨_, hm⟩
    · exact .em a0 sz
    · exact h.ok i u hm
  · intro i u hu
    rcases hlook i u hu with ⟨rfl, rfl⟩ | ⟨_, hm⟩
    · rw [hb]; simp
    · exact h.nd i u hm
  · intro i j u v hij hu hv b hbu hbv
    rcases hlook i u hu with ⟨rfl, rfl⟩ | ⟨hi, hm⟩
    · rw [hb] at hbu; cases hbu
    · rcases hlook j v hv with ⟨rfl, rfl⟩ | ⟨hj, hm'⟩
      · rw [hb] at hbv; cases hbv
      · exact h.dj i j u v hij hm hm' b hbu hbv
  · intro i u b hu hbu
    rcases hlook i u hu with ⟨rfl, rfl⟩ | ⟨_, hm⟩
    · rw [hb] at hbu; cases hbu
    · exact h.bl i u b hm hbu
def roA (u : Value) : RT → A
  | .sc v => .sc v
  | r => .ro u r
theorem roA_ok {u : Value} {r : RT} (h : RoC S0 w0 u r) : er (roA u r) = roD r ∧ (roA u r).val = u ∧ (∀ w, Ok S0 w0 w (roA u r)) ∧ (roA u r).blocks = [] ∧ (roA u r).isHold = false := by
  cases r with
  | sc v => cases h with
    | sc v hv => exact ⟨rfl, rfl, fun w => .sc u hv, rfl, rfl⟩
  | sl n cs => exact ⟨rfl, rfl, fun w => .ro u _ h, rfl, rfl⟩
  | fn f caps => exact ⟨rfl, rfl, fun w => .ro u _ h, rfl, rfl⟩
theorem roAs_ok {vs : List Value} {rs : List RT} (hl : vs.length = rs.length) (h : ∀ (i : Nat) (v : Value) (r : RT), vs[i]? = some v → rs[i]? = some r → RoC S0 w0 v r) :
    (List.zipWith roA vs rs).map er = rs.map roD ∧ (List.zipWith roA vs rs).map T.val = vs ∧ ∀ y ∈ List.zipWith roA vs rs, (∀ w, Ok S0 w0 w y) ∧ y.blocks = [] ∧ y.isHold = false := by
  induction vs generalizing rs with
  | nil => cases rs with
    | nil => exact ⟨rfl, rfl, by simp⟩
    | cons r rs => simp at hl
  | cons v vs ih => cases rs with
    | nil => simp at hl
    | cons r rs =>
      obtain ⟨h1, h2, h3⟩ := ih (rs := rs) (by simpa using hl) (fun i v r hv hr => h (i + 1) v r (by simpa using hv) (by simpa using hr))
      obtain ⟨g1, g2, g3⟩ := roA_ok (h 0 v r rfl rfl)
      refine ⟨by simp [g1, h1], by simp [g2, h2], fun y hy => ?_⟩
      simp only [List.zipWith_cons_cons, List.mem_cons] at hy
      rcases hy with rfl | hy
      · exact g3
      · exact h3 y hy
/-- What a value gives when it is appended. -/
structure Src (P : Program) (w : World) (u : Value) (m sz : Nat) (vs : List Value) : Prop where
  len : ∀ w', (Builtin.lenOf u).run P w' = .ok m w'
  cells : ∀ w', w'.heap = w.heap → (Builtin.firstCells sz m u).run P w' = .ok vs.toArray w'
theorem src_slice {ad : Addr} {m c sz : Nat} {vs : List Value} (hl : vs.length = m * sz) (h : ∀ (j : Nat) (v : Value), vs[j]? = some v → w.cell? (ad.add j) = some v) : Src P w (.slice (some ad) m c) m sz vs := by
  refine ⟨fun w' => rfl, fun w' hw => ?_⟩
  exact run_firstCells_some (P := P) w' sz m ad m c vs hl (fun j v hj => by rw [← h j v hj]; simp [World.cell?, hw])
theorem src_empty {A0 : Option Addr} {c sz : Nat} : Src P w (.slice A0 0 c) 0 sz [] := by
  refine ⟨fun w' => rfl, fun w' hw => ?_⟩
  cases A0 with
  | none => rfl
  | some ad => exact run_firstCells_some (P := P) w' sz 0 ad 0 c [] (by simp) (fun j v hj => by simp at hj)
theorem src_ok {v : DV} {u : Value} {m sz : Nat} {new : List D} {s1 : FS} {f : DC → DC} (hR : Rel S0 w0 nt s M a w) (hv : RelV S0 w0 M v u) (h : srcCells s v sz = some (m, new, s1, f)) :
    ∃ M1 zs, RelX S0 w0 nt s1 M1 zs a w ∧ zs.map er = new ∧ Src P w u m sz (zs.map T.val) ∧ zs.length = m * sz ∧ (∀ d v, RelC S0 w0 M d v → RelC S0 w0 M1 (f d) v) := by
  unfold srcCells at h
  split at h
  · rename_i b
    split at h
    · rename_i hs1
      subst hs1
      simp only [Option.some.injEq, Prod.mk.injEq] at h
      obtain ⟨rfl, rfl, rfl, rfl⟩ := h
      obtain ⟨hu, -⟩ := asSc_ok (S0 := S0) (w0 := w0) (M := M) rfl hv
      subst hu
      have hI := hR.inv.hands (Y := b.data.toList.map fun c => (.sc (.int .u8 c.toNat) : A)) (fun y hy => by
        obtain ⟨c, _, rfl⟩ := List.mem_map.1 hy
        exact ⟨.sc _ rfl, rfl, rfl⟩)
      rw [List.nil_append] at hI
      refine ⟨M, _, ⟨hI, hR.er, hR.en, hR.nt, hR.df, hR.gh⟩, by simp [er, T.map], ⟨fun w' => rfl, fun w' hw => ?_⟩, by rw [List.length_map, Nat.mul_one, Array.length_toList]; rfl, fun d v hd => hd⟩
      have he : b.extract 0 b.size = b := by simp
      show (pure ((b.extract 0 b.size).data.map fun c => Value.int .u8 c.toNat) : Sem (Array Value)).run P w' = _
      rw [he, List.map_map]
      have e0 : (b.data.map fun c => Value.int .u8 c.toNat) = (b.data.toList.map (T.val ∘ fun c => (.sc (.int .u8 c.toNat) : A))).toArray := by
        apply Array.ext'; simp [T.val, Function.comp_def]
      rw [e0]; rfl
    · cases h
  · rename_i m' rcs
    split at h
    · rename_i hlen
      simp only [Option.some.injEq, Prod.mk.injEq] at h
      obtain ⟨rfl, rfl, rfl, rfl⟩ := h
      obtain ⟨hc, -⟩ := hv
      cases hc with
      | t r v hro =>
        cases hro with
        | sl ad n c cs vs r1 r2 r3 r4 r5 r6 =>
          obtain ⟨g1, g2, g3⟩ := roAs_ok r4 r6
          have hI := hR.inv.hands (Y := List.zipWith roA vs rcs) (fun y hy => ⟨(g3 y hy).1 w, (g3 y hy).2⟩)
          rw [List.nil_append] at hI
          refine ⟨M, _, ⟨hI, hR.er, hR.en, hR.nt, hR.df, hR.gh⟩, g1, ?_, by simp [r4, hlen], fun d v hd => hd⟩
          rw [g2]
          refine src_slice (by rw [r4, hlen]) (fun j v hj => ?_)
          rw [addr_eq r1]
          have := r5 j v hj
          simp only [World.cell?] at this ⊢
          rw [hR.inv.wd.fr _ (hR.inv.wd.rk _ r2)]
          exact this
        | em a0 c =>
          refine ⟨M, [], hR, rfl, src_empty, by simp, fun d v hd => hd⟩
    · cases h
  · simp only [Option.some.injEq, Prod.mk.injEq] at h
    obtain ⟨rfl, rfl, rfl, rfl⟩ := h
    obtain ⟨hc, -⟩ := hv
    cases hc with
    | nl a0 => exact ⟨M, [], hR, rfl, src_empty, by simp, fun d v hd => hd⟩
  · rename_i id p off m'
    obtain ⟨hc, -⟩ := hv
    split at h
    · rename_i root hr
      split at h
      · rename_i sz' n' cs hg
        split at h
        · rename_i hcond
          obtain ⟨hsz, hle⟩ := hcond
          obtain ⟨y0, hat0, he0, hok0⟩ := node_ok hR hr hg
          obtain ⟨d0, csA, rfl, hcs⟩ := er_ow he0
          split at h
          · rename_i hflat
            simp only [Option.some.injEq, Prod.mk.injEq] at h
            obtain ⟨rfl, rfl, rfl, rfl⟩ := h
            have hsub : ∀ y ∈ (csA.drop off).take (m' * sz), Ok S0 w0 w y ∧ y.blocks = [] ∧ y.isHold = false := fun y hy => by
              have hy' := List.mem_of_mem_drop (List.mem_of_mem_take hy)
              have hfl : flatD (er y) = true := by
                have := List.all_eq_true.1 hflat (er y) (by rw [← hcs, ← List.map_drop, ← List.map_take]; exact List.mem_map_of_mem hy)
                exact this
              refine ⟨hok0.cell (by simpa [T.cells] using hy'), ?_, hok0.notHold (by simpa [T.cells] using hy')⟩
              cases y <;> first | rfl | (simp [er, T.map, flatD] at hfl)
            have hI := hR.inv.hands (Y := (csA.drop off).take (m' * sz)) hsub
            rw [List.nil_append] at hI
            have hlenA : csA.length = cs.length := by rw [← hcs, List.length_map]
            refine ⟨M, _, ⟨hI, hR.er, hR.en, hR.nt, hR.df, hR.gh⟩, by rw [List.map_take, List.map_drop, hcs], ?_, by rw [List.length_take, List.length_drop]; omega, fun d v hd => hd⟩
            cases hc with
            | sl id p kk _ b o c sz2 m2 cs2 hat2 hle2 =>
              have hE := at_unique hat0 hat2
              simp only [T.ow.injEq] at hE
              obtain ⟨rfl, rfl, rfl, rfl⟩ := hE
              cases hok0 with
              | ow _ _ _ _ _ _ cur ty fz k1 k2 k3 k4 k5 k6 k7 k8 k9 =>
                refine src_slice (by rw [List.length_map, List.length_take, List.length_drop]; omega) (fun j v hj => ?_)
                rw [List.getElem?_map, Option.map_eq_some_iff] at hj
                obtain ⟨y, hy, rfl⟩ := hj
                have hjk : j < m' * sz := by have := (List.getElem?_eq_some_iff.1 hy).1; simp at this; omega
                rw [List.getElem?_take_of_lt hjk, List.getElem?_drop] at hy
                rw [add_eq]
                simp only [World.cell?, k1]
                rw [Nat.add_assoc]
                simpa using k7 _ y hy
            | se id p off a0 d sz2 m2 cs2 hat2 =>
              rw [Nat.zero_mul, List.take_zero]
              exact src_empty
          · split at h
            · rename_i sz3 n3 xs s2 hab
              simp only [Option.some.injEq, Prod.mk.injEq] at h
              obtain ⟨rfl, rfl, rfl, rfl⟩ := h
              have hrw : RelC S0 w0 M (.sl id p off m') u := hc
              obtain ⟨M1, y, hR1, e1, e2, e3, hk⟩ := absorb_ok hR hc hab
              rw [List.nil_append] at hR1
              obtain ⟨d1, csB, rfl, hcsB⟩ := er_ow e1
              simp only [absorb, hr, hg] at hab
              rw [if_pos (by
                rcases hsz with h0 | h0
                · rw [h0]; exact hle
                · rw [h0, Nat.zero_mul]; rw [h0, Nat.zero_mul] at hle; exact hle)] at hab
              simp only [Option.some.injEq, Prod.mk.injEq, T.ow.injEq, true_and] at hab
              obtain ⟨⟨hz3, hn3, hxs⟩, hs2⟩ := hab
              subst hz3; subst hn3
              have hxl : xs.length = m' * sz := by
                rw [← hxs, List.length_take, List.length_drop]
                rcases hsz with h0 | h0
                · rw [h0]; omega
                · subst h0; simp
              have hBl : csB.length = m' * sz := by rw [← hxl, ← hcsB, List.length_map]
              cases d1 with
              | blk b o c =>
                have hok1 := (hR1.inv.xo _ List.mem_cons_self).1
                refine ⟨M1, csB, ⟨by simpa using hR1.inv.unwrap, hR1.er, hR1.en, hR1.nt, hR1.df, hR1.gh⟩, hcsB, ?_, hBl, hk⟩
                have hu : u = .slice (some ⟨b, o, none⟩) m' c := by rw [← e2]; rfl
                rw [hu]
                cases hok1 with
                | ow _ _ _ _ _ _ cur ty fz k1 k2 k3 k4 k5 k6 k7 k8 k9 =>
                  refine src_slice (by rw [List.length_map]; exact hBl) (fun j v hj => ?_)
                  rw [List.getElem?_map, Option.map_eq_some_iff] at hj
                  obtain ⟨y, hy, rfl⟩ := hj
                  rw [add_eq]
                  simp only [World.cell?, k1]
                  simpa using k7 _ y hy
              | emp a0 =>
                have hok1 := (hR1.inv.xo _ List.mem_cons_self).1
                cases hok1 with
                | em a sz =>
                  have hI : Inv S0 w0 M1 [] w := by
                    have := hR1.inv
                    refine ⟨this.ok, this.nd, this.dj, this.bl, this.wd, by simp, by simp, by simp, by simp⟩
                  refine ⟨M1, [], ⟨hI, hR1.er, hR1.en, hR1.nt, hR1.df, hR1.gh⟩, hcsB, ?_, hBl, hk⟩
                  have hu : u = .slice a0 0 0 := by rw [← e2]; rfl
                  rw [hu]
                  exact src_empty
            · cases h
        · cases h
      · cases h
    · cases h
  · cases h
theorem app_room {tb tx ty e : TypeId} {i : TypeInfo} {dx : TypeDesc} (ht : P.underlying tb = some (.slice e)) (hx : P.underlying tx = some dx) (hdx : isRow dx = true) (hi : P.info? e = some i)
    {b off n cap m : Nat} {x : Value} {news : List Value} (hs : Src P w x m i.size news) (h1 : ∀ u ∈ news, u.oneCell' = true)
    (hroom : n + m ≤ cap) (hc : ∀ j, j < news.length → (w.cell? ⟨b, off + n * i.size + j, none⟩).isSome = true) (hf : ∀ j, j < news.length → w.frozen? ⟨b, off + n * i.size + j, none⟩ = false) :
    (Builtin.append_ #[tb, tx] ty #[.slice (some ⟨b, off, none⟩) n cap, x]).run P w = .ok (.slice (some ⟨b, off, none⟩) (n + m) cap) (w.setCells b (off + n * i.size) news) := by
  have hst := run_storeCells_cells (P := P) b (off + n * i.size) news 0 w (by simpa using hc) (by simpa using hf) h1
  simp only [Nat.add_zero] at hst
  have hcl := hs.cells w rfl
  cases dx <;> simp [isRow] at hdx <;> simp [Builtin.append_, run_underlying ht, run_underlying hx, sizeOf, typeInfo, hi, hs.len, hroom, hcl, Addr.add_lit, hst]
theorem app_none {tb tx ty e : TypeId} {i : TypeInfo} {dx : TypeDesc} (ht : P.underlying tb = some (.slice e)) (hx : P.underlying tx = some dx) (hdx : isRow dx = true) (hi : P.info? e = some i)
    {A0 : Option Addr} {x : Value} (hs : Src P w x 0 i.size []) : (Builtin.append_ #[tb, tx] ty #[.slice A0 0 0, x]).run P w = .ok (.slice A0 0 0) w := by
  have hcl := hs.cells w rfl
  cases A0 <;> cases dx <;> simp [isRow] at hdx <;> simp [Builtin.append_, run_underlying ht, run_underlying hx, sizeOf, typeInfo, hi, hs.len, hcl, storeCells]
theorem app_grow {tb tx ty e : TypeId} {i : TypeInfo} {z : Value} {dx : TypeDesc} (ht : P.underlying tb = some (.slice e)) (hx : P.underlying tx = some dx) (hdx : isRow dx = true) (hi : P.info? e = some i) (hz : i.zero = some z)
    {A0 : Option Addr} {n cap m : Nat} {x : Value} {olds news : List Value} (hb : Src P w (.slice A0 n cap) n i.size olds) (hs : Src P w x m i.size news)
    (hg : cap < n + m) (h63 : n + m ≤ 140737488355328) (hfit : (n + m) * i.bytes ≤ 140737488355328) :
    (Builtin.append_ #[tb, tx] ty #[.slice A0 n cap, x]).run P w = .ok (.slice (some ⟨w.heap.size, 0, none⟩) (n + m) (grownCap w (n + m) cap e)) (w.drew.alloc (.cells (olds.toArray ++ news.toArray ++ Builtin.zeroCells z.cells (grownCap w (n + m) cap e - (n + m))) e)) := by
  have hn : ¬ (n + m ≤ cap) := by omega
  have h63' : ¬ (9223372036854775807 < ((n : Int) + (m : Int))) := by omega
  have h48' : ¬ (281474976710656 < Builtin.nextslicecap (n + m) cap * i.bytes) := by have := growslice_fits hg hfit; omega
  have h1 := hb.cells w.drew rfl
  have h2 := hs.cells w.drew rfl
  cases dx <;> simp [isRow] at hdx <;> simp [Builtin.append_, run_underlying ht, run_underlying hx, sizeOf, typeInfo, zeroValue, hi, hz, hs.len, hn, h63', h48', Question.forced, h1, h2, newRow, grownCap] <;> (congr 2; apply Array.ext'; simp [List.append_assoc])
theorem append_ok {o : Oper} {b x : Operand} {tb tx : TypeId} {s1 : FS} (ho : o.op = .call { callee := .builtin .append, args := #[b, x], argTypes := #[tb, tx] }) (hR : Rel S0 w0 nt s M a w) (h : appendF P nt s o.dst b x tb tx = some s1) :
    ∃ u w1 M1, (execOp a.eval o).run P w = .ok (.value u) w1 ∧ Rel S0 w0 nt s1 M1 (a.put o.dst u) w1 := by
  have hred : ∀ u w1, (Builtin.append_ #[tb, tx] o.type #[a.eval b, a.eval x]).run P w = .ok u w1 → (execOp a.eval o).run P w = .ok (.value u) w1 := fun u w1 h => by
    simp [execOp, ho, resolve, invoke, builtin, h]
  unfold appendF at h
  split at h
  · rename_i d e sz du hd he hdu
    split at h
    · rename_i z hz hk
      split at h
      · rename_i m new s2 f c hsrc hbc
        split at h
        · rename_i sz' n cs s3 hab
          split at h
          · rename_i hcond
            obtain ⟨c1, c2, c3, c4, c5, c6⟩ := hcond
            obtain ⟨u1, u2⟩ := elemT_ok he
            obtain ⟨i, zv, i1, i2, i3, i4, i5⟩ := zeroT_info hz u2
            have hb := ev_ok hR b
            rw [hbc] at hb
            obtain ⟨hb, -⟩ := hb
            obtain ⟨M1, zs, hR1, e1, hS, hzl, hk1⟩ := src_ok hR (ev_ok hR x) hsrc
            obtain ⟨M2, y, hR2, f1, f2, f3, hk2⟩ := absorb_ok hR1 (hk1 _ _ hb) hab
            have hI : Inv S0 w0 M2 (y :: zs) w := hR2.inv.perm (List.perm_append_comm (l₁ := zs) (l₂ := [y]))
            have hone : ∀ u ∈ zs.map T.val, u.oneCell' = true := fun u hu => by
              obtain ⟨q, hq, rfl⟩ := List.mem_map.1 hu
              have := hI.xo q (List.mem_cons_of_mem _ hq)
              exact this.1.one this.2
            obtain ⟨d0, csA, rfl, hcs⟩ := er_ow f1
            have hR3 : RelX S0 w0 nt s3 M2 (.ow d0 sz' n csA :: zs) a w := ⟨hI, hR2.er, hR2.en, hR2.nt, hR2.df, hR2.gh⟩
            have hzv : zv.cells.size = sz := by rw [← Array.length_toList, i4]; exact c2
            have hok0 := (hI.xo _ List.mem_cons_self).1
            have hM2 : s3.h d = none → M2 d = none := fun hn => by
              have := hR2.er d; rw [hn] at this
              cases hm : M2 d with
              | none => rfl
              | some x => rw [hm] at this; cases this
            have herr : ∀ d1, er (.ow d1 sz (n + m) (csA ++ zs)) = .ow () sz (n + m) (cs ++ new) := fun d1 => by rw [er_ow_mk, List.map_append, hcs, e1]
            have hfit : (n + m) * i.bytes ≤ 140737488355328 := by rw [i5]; exact c5
            have hgrow : ∀ (A0 : Option Addr) (cap : Nat) (olds : List Value) (hu : a.eval b = .slice A0 n cap) (hSb : Src P w (.slice A0 n cap) n sz olds) (holds : olds = csA.map T.val) (hlenA : csA.length = n * sz) (hI2 : Inv S0 w0 M2 (csA ++ zs) w) (hg : cap < n + m),
                ∃ u w1 M1, (execOp a.eval o).run P w = .ok (.value u) w1 ∧ Rel S0 w0 nt s1 M1 (a.put o.dst u) w1 := by
              intro A0 cap olds hu hSb holds hlenA hI2 hg
              have hrun := app_grow (ty := o.type) u1 hdu hk i1 i2 (by rw [i3]; exact hSb) (by rw [i3]; exact hS) hg c6 hfit
              have hge := grownCap_ge w (n + m) cap e
              have hcm : grownCap w (n + m) cap e ≤ maxLen := grownCap_le_maxLen w (n + m) cap e (by simp only [maxLen]; omega)
              rw [← hu] at hrun
              refine ⟨_, _, upd M2 d (some (.ow (.blk w.heap.size 0 (grownCap w (n + m) cap e)) sz (n + m) (csA ++ zs))), hred _ _ hrun, ?_⟩
              rw [hd]
              refine entry_ok (X := csA ++ zs) ⟨hI2, hR2.er, hR2.en, hR2.nt, hR2.df, hR2.gh⟩ c1 h (herr _) (fun hM => ?_) ?_
              · have hl : (csA ++ zs).length = (n + m) * sz := by rw [List.length_append, hlenA, hzl, Nat.add_mul]
                refine hI2.new hM (w' := w.drew.alloc _) (ty := e) (fz := (0, 0)) rfl nofz' ?_ c3 hge hcm hl (fun j q hj => ?_)
                · simp only [Array.size_append, List.size_toArray, size_zeroCells, hzv, holds, List.length_map, hlenA, hzl]
                  rw [← Nat.add_mul, ← Nat.add_mul]
                  exact Nat.mul_le_mul_right _ (by omega)
                · have hjl := (List.getElem?_eq_some_iff.1 hj).1
                  rw [← Array.getElem?_toList, Array.toList_append, Array.toList_append, holds, ← List.map_append]
                  rw [List.getElem?_append_left (by simpa using hjl), List.getElem?_map, hj]; rfl
              · have := RelC.sl (S0 := S0) (w0 := w0) (M := upd M2 d (some (.ow (.blk w.heap.size 0 (grownCap w (n + m) cap e)) sz (n + m) (csA ++ zs)))) d [] 0 (n + m) w.heap.size 0 (grownCap w (n + m) cap e) sz (n + m) (csA ++ zs) ⟨_, upd_same _ _ _, get_self _⟩ (by omega)
                rw [Nat.zero_mul, Nat.sub_zero] at this
                exact ⟨this, rfl⟩
            cases d0 with
            | blk bb oo cc =>
              have hu : a.eval b = .slice (some ⟨bb, oo, none⟩) n cc := f2.symm
              cases hok0 with
              | ow _ _ _ _ _ _ cur ty fz k1 k2 k3 k4 k5 k6 k7 k8 k9 =>
                obtain ⟨k3, k3', k3f⟩ := k3
                have hsz : sz' = sz := by
                  rcases c4 with h0 | ⟨_, h0⟩
                  · exact h0
                  · omega
                subst hsz
                by_cases hroom : n + m ≤ cc
                · by_cases hMd : M2 d = none
                  · obtain ⟨g1, g2, g3⟩ := hI.grow hMd hzl hroom
                    have hrun := app_room (ty := o.type) (cap := cc) u1 hdu hk i1 (by rw [i3]; exact hS) hone hroom (by rw [i3]; exact g2) (by rw [i3]; exact g3)
                    rw [i3, ← hu] at hrun
                    refine ⟨_, _, upd M2 d (some (.ow (.blk bb oo cc) sz' (n + m) (csA ++ zs))), hred _ _ hrun, ?_⟩
                    rw [hd]
                    refine entry_ok hR3 c1 h (herr _) (fun _ => g1) ?_
                    have := RelC.sl (S0 := S0) (w0 := w0) (M := upd M2 d (some (.ow (.blk bb oo cc) sz' (n + m) (csA ++ zs)))) d [] 0 (n + m) bb oo cc sz' (n + m) (csA ++ zs) ⟨_, upd_same _ _ _, get_self _⟩ (by omega)
                    rw [Nat.zero_mul, Nat.sub_zero, Nat.add_zero] at this
                    exact ⟨this, rfl⟩
                  · exfalso
                    unfold FS.row at h
                    split at h
                    · rename_i hn; exact hMd (hM2 hn)
                    · cases h
                · refine hgrow _ cc (csA.map T.val) hu ?_ rfl k6 hI.unwrap (by omega)
                  refine src_slice (by rw [List.length_map]; exact k6) (fun j v hj => ?_)
                  rw [List.getElem?_map, Option.map_eq_some_iff] at hj
                  obtain ⟨q, hq, rfl⟩ := hj
                  rw [add_eq]
                  simp only [World.cell?, k1]
                  simpa using k7 _ q hq
            | emp a0 =>
              have hu : a.eval b = .slice a0 0 0 := f2.symm
              cases hok0 with
              | em a0 sz' =>
                have hI2 : Inv S0 w0 M2 zs w := ⟨hI.ok, hI.nd, hI.dj, hI.bl, hI.wd, fun q hq => hI.xo q (List.mem_cons_of_mem _ hq), by have := hI.xn; simpa [T.blocks, T.blocksL] using this, fun i u hu b hb hbx => hI.xd i u hu b hb (by simpa [T.blocks, T.blocksL] using hbx), fun b hb => hI.xb b (by simpa [T.blocks, T.blocksL] using hb)⟩
                by_cases hm : m = 0
                · subst hm
                  have hz0 : zs = [] := List.length_eq_zero_iff.1 (by rw [hzl]; simp)
                  subst hz0
                  have hrun := app_none (ty := o.type) (A0 := a0) u1 hdu hk i1 (by rw [i3]; exact hS)
                  rw [← hu] at hrun
                  refine ⟨_, _, upd M2 d (some (.ow (.emp a0) sz 0 [])), hred _ _ hrun, ?_⟩
                  rw [hd]
                  refine entry_ok (X := []) ⟨hI2, hR2.er, hR2.en, hR2.nt, hR2.df, hR2.gh⟩ c1 h (herr _) (fun hM => hI2.entryE a0 hM) ?_
                  rw [hu]
                  exact ⟨.se d [] 0 a0 _ _ _ _ ⟨_, upd_same _ _ _, get_self _⟩, rfl⟩
                · exact hgrow a0 0 [] hu src_empty rfl (by simp) (by simpa using hI2) (by omega)
          · cases h
        · cases h
      · cases h
    · cases h
  · cases h
/-- EVERY OPERATION THAT IS NO CALL OF A Go FUNCTION. -/
theorem stepF_ok {o : Oper} {s1 : FS} (hR : Rel S0 w0 nt s M a w) (h : stepF P nt o s = some s1) :
    ∃ u w1 M1, ((execOp a.eval o).run P w = .ok (.value u) w1 ∨ (u = undef ∧ (execOp a.eval o).run P w = .ok .skip w1)) ∧ Rel S0 w0 nt s1 M1 (a.put o.dst u) w1 := by
  have lift : (∃ u w1 M1, (execOp a.eval o).run P w = .ok (.value u) w1 ∧ Rel S0 w0 nt s1 M1 (a.put o.dst u) w1) → ∃ u w1 M1, ((execOp a.eval o).run P w = .ok (.value u) w1 ∨ (u = undef ∧ (execOp a.eval o).run P w = .ok .skip w1)) ∧ Rel S0 w0 nt s1 M1 (a.put o.dst u) w1 := fun ⟨u, w1, M1, h1, h2⟩ => ⟨u, w1, M1, .inl h1, h2⟩
  have quiet : quietF P nt o.dst o.op s = some s1 → ∃ u w1 M1, ((execOp a.eval o).run P w = .ok (.value u) w1 ∨ (u = undef ∧ (execOp a.eval o).run P w = .ok .skip w1)) ∧ Rel S0 w0 nt s1 M1 (a.put o.dst u) w1 := fun h => by
    unfold quietF at h
    split at h
    · rename_i v hv
      split at h
      · rename_i hd
        obtain rfl := Option.some.inj h
        obtain ⟨u, h1, h2⟩ := quiet_ok hR hv
        exact ⟨u, w, M, .inl h1, hR.set h2 hd⟩
      · cases h
    · cases h
  generalize hop : o.op = op at quiet
  cases op with
  | alloc t => exact lift (alloc_ok hop hR h)
  | box t x => exact lift (box_ok hop hR h)
  | buildSlice t l ps => exact lift (buildSlice_ok hop hR h)
  | makeSlice t l c => exact lift (makeSlice_ok hop hR h)
  | store t x y =>
    obtain ⟨w1, M1, h1, h2⟩ := storeop_ok hop hR h
    exact ⟨undef, w1, M1, .inr ⟨rfl, h1⟩, h2⟩
  | call c =>
    obtain ⟨callee, args, ats⟩ := c
    cases callee with
    | builtin b =>
      cases b with
      | append =>
        have h0 := h
        simp only [stepF, hop] at h0
        split at h0
        · rename_i x1 x2 t1 t2 ea et
          have ha : args = #[x1, x2] := by rw [← Array.toArray_toList (xs := args), ea]
          have ht : ats = #[t1, t2] := by rw [← Array.toArray_toList (xs := ats), et]
          subst ha; subst ht
          exact lift (append_ok hop hR h0)
        · cases h0
      | _ => exact quiet (by simpa only [stepF, hop] using h)
    | _ => exact quiet (by simpa only [stepF, hop] using h)
  | _ => exact quiet (by simpa only [stepF, hop] using h)
end
end Go.Proofs.Ytjjdjkkhhcbogaa.DM
