/-
  DM 19. A call with rows that are lent: the law of it.
-/
import Derived.Test.YtjjdjkkhhcbogaaD18
namespace Go.Proofs.Ytjjdjkkhhcbogaa.DM
set_option linter.unusedVariables false
set_option linter.unusedSimpArgs false
theorem pick2 {α β γ : Type} {Q : α → β → γ → Prop} : ∀ (l : List α) (m : List β), l.length = m.length → (∀ (k : Nat) (a : α) (b : β), l[k]? = some a → m[k]? = some b → ∃ c, Q a b c) → ∃ cs : List γ, cs.length = l.length ∧ ∀ (k : Nat) (a : α) (b : β) (c : γ), l[k]? = some a → m[k]? = some b → cs[k]? = some c → Q a b c
  | [], [], _, _ => ⟨[], rfl, fun k a b c h => by simp at h⟩
  | [], _ :: _, h, _ => by simp at h
  | _ :: _, [], h, _ => by simp at h
  | a :: l, b :: m, h, hq => by
    obtain ⟨c, hc⟩ := hq 0 a b rfl rfl
    obtain ⟨cs, h1, h2⟩ := pick2 l m (by simpa using h) (fun k a b ha hb => hq (k + 1) a b (by simpa using ha) (by simpa using hb))
    refine ⟨c :: cs, by simp [h1], fun k a' b' c' ha hb hc' => ?_⟩
    cases k with
    | zero => simp at ha hb hc'; subst ha; subst hb; subst hc'; exact hc
    | succ k => exact h2 k a' b' c' (by simpa using ha) (by simpa using hb) (by simpa using hc')
theorem flat_nodup : ∀ {ys : List A}, (∀ y ∈ ys, y.blocks.Nodup) → (∀ (k l : Nat) (y y' : A), k ≠ l → ys[k]? = some y → ys[l]? = some y' → ∀ b ∈ y.blocks, b ∉ y'.blocks) → (ys.flatMap T.blocks).Nodup
  | [], _, _ => by simp
  | y :: ys, h1, h2 => by
    rw [List.flatMap_cons, List.nodup_append]
    refine ⟨h1 y List.mem_cons_self, flat_nodup (fun z hz => h1 z (List.mem_cons_of_mem _ hz)) (fun k l z z' hkl hz hz' => h2 (k + 1) (l + 1) z z' (by omega) (by simpa using hz) (by simpa using hz')), fun b hb b' hb' e => ?_⟩
    subst e
    obtain ⟨z, hz, hbz⟩ := List.mem_flatMap.1 hb'
    obtain ⟨k, hk⟩ := List.getElem?_of_mem hz
    exact h2 0 (k + 1) y z (by omega) rfl (by simpa using hk) b hb hbz
theorem backCs_at {s : FS} {i : Nat} : ∀ {j : Nat} {cs cs' : List PC}, backCs s i j cs = some cs' → ∀ (k : Nat) (pc : PC), cs[k]? = some pc → ∃ pc', cs'[k]? = some pc' ∧ backC s i (j + k) pc = some pc'
  | j, [], cs', _, k, pc, h => by simp at h
  | j, c :: cs, cs', h, k, pc, hk => by
    simp only [backCs] at h
    split at h
    · rename_i c' cs2 h1 h2
      obtain rfl := Option.some.inj h
      cases k with
      | zero => simp at hk; subst hk; exact ⟨c', rfl, h1⟩
      | succ k =>
        obtain ⟨pc', g1, g2⟩ := backCs_at h2 k pc (by simpa using hk)
        exact ⟨pc', by simpa using g1, by rw [← g2]; congr 1; omega⟩
    · cases h
theorem backA_at {s : FS} {i : Nat} {v : DV} {pa pa' : PA} {cs : List DC} {pcs : List PC} (hs : shapeOf v pa = some (cs, pcs)) (h : backA s i pa = some pa') (k : Nat) (pc : PC) (hk : pcs[k]? = some pc) : ∃ pc', (paCells pa')[k]? = some pc' ∧ backC s i k pc = some pc' := by
  unfold shapeOf at hs
  split at hs
  · simp only [Option.some.injEq, Prod.mk.injEq] at hs
    obtain ⟨rfl, rfl⟩ := hs
    simp only [backA] at h
    obtain ⟨c', hc, rfl⟩ := Option.map_eq_some_iff.1 h
    cases k with
    | zero => simp at hk; subst hk; exact ⟨c', rfl, hc⟩
    | succ k => simp at hk
  · simp only [Option.some.injEq, Prod.mk.injEq] at hs
    obtain ⟨rfl, rfl⟩ := hs
    simp only [backA] at h
    obtain ⟨cs', hc, rfl⟩ := Option.map_eq_some_iff.1 h
    obtain ⟨pc', h1, h2⟩ := backCs_at hc k pc hk
    rw [Nat.zero_add] at h2
    exact ⟨pc', h1, h2⟩
  · cases hs
section
variable {S0 : Fr} {w0 w w' : World} {M M' M1 : Heap} {X : List A} {P : Program} {nt : Nat} {s : FS} {a : Act}
theorem hBack_er : ∀ {L : List Pl} {ys : List A} {h : Nat → Option D} {M : Heap} {pcs : List PC}, (∀ id, h id = (M id).map er) → ys.length = L.length → (∀ (k : Nat) (l : Pl) (y : A), L[k]? = some l → ys[k]? = some y → ∃ pc, pcs[l.2.2]? = some pc ∧ er y = pc.tree) →
    ∀ id, hBack h L pcs id = (backM M L ys id).map er
  | [], [], h, M, pcs, he, _, _ => by simpa [hBack, backM] using he
  | [], _ :: _, h, M, pcs, _, hl, _ => by simp at hl
  | _ :: _, [], h, M, pcs, _, hl, _ => by simp at hl
  | (id, p, j) :: L, y :: ys, h, M, pcs, he, hl, hy => by
    rw [hBack, backM]
    refine hBack_er ?_ (by simpa using hl) (fun k l y' h1 h2 => hy (k + 1) l y' (by simpa using h1) (by simpa using h2))
    obtain ⟨pc, h1, h2⟩ := hy 0 _ y rfl rfl
    simp only at h1
    have h0 := he id
    cases hm : M id with
    | none => rw [hm] at h0; rw [h0]; exact he
    | some t =>
      rw [hm] at h0
      rw [h0, h1]
      have := er_upd (id := id) (t := some (t.put p y)) (s := ⟨fun _ => .un, h, fun _ => .un⟩) he
      simp only [Option.map_some, er_put, h2] at this
      exact this
theorem ow_nil {y : A} {sz : Nat} {cs' : List D} (hok : Ok S0 w0 w y) (he : er y = .ow () sz 0 cs') : cs' = [] := by
  cases y with
  | ow d sz' n' cs2 =>
    rw [er_ow_mk] at he
    simp only [T.ow.injEq, true_and] at he
    obtain ⟨rfl, rfl, rfl⟩ := he
    cases hok with
    | ow _ _ _ _ _ _ cur ty fz k1 k2 k3 k4 k5 k6 =>
      have : cs2 = [] := List.length_eq_zero_iff.1 (by rw [k6, Nat.zero_mul])
      rw [this]; rfl
    | em => rfl
  | _ => simp [er, T.map] at he
/-- A row that comes back has the header that it went with. -/
theorem head_back {F : Fr} {w1 w2 : World} {M2 : Heap} {x y : A} {io j sz n : Nat} {d : AD} {csx : List A} {cs' : List D} (hx : x = .ow d sz n csx) (hat : at_ M2 io [j] y) (hok : Ok F w1 w2 y) (he : er y = .ow () sz n cs')
    (h : RelC F w1 M2 (.sl io [j] 0 n) x.val) : ∃ y', SameHd x y' ∧ er y' = .ow () sz n cs' ∧ Ok F w1 w2 y' ∧ y'.isHold = false ∧ y'.blocks.Sublist y.blocks := by
  have hemp : ∀ a0, n = 0 → x.val = .slice a0 0 0 → ∃ y', SameHd x y' ∧ er y' = .ow () sz n cs' ∧ Ok F w1 w2 y' ∧ y'.isHold = false ∧ y'.blocks.Sublist y.blocks := fun a0 hn hv => by
    subst hn
    have := ow_nil hok he
    subst this
    exact ⟨.ow (.emp a0) sz 0 [], ⟨d, sz, 0, csx, hx, .inr ⟨rfl, a0, hv, rfl⟩⟩, by rw [er_ow_mk]; rfl, .em a0 sz, rfl, by rw [emp_blocks]; exact List.nil_sublist _⟩
  generalize hu : x.val = u at h hemp
  generalize hoff : (0 : Nat) = off at h
  cases h with
  | se _ _ _ a0 d2 sz2 m2 cs2 hat2 => exact hemp a0 rfl rfl
  | sl _ _ k _ b o c sz2 m cs2 hat2 hle =>
    have := at_unique hat hat2
    subst this
    rw [er_ow_mk] at he
    simp only [T.ow.injEq, true_and] at he
    obtain ⟨rfl, rfl, hcs⟩ := he
    have hk : k = 0 := by
      cases hok with
      | ow _ _ _ _ _ _ cur ty fz k1 k2 k3 =>
        rcases Nat.mul_eq_zero.1 hoff.symm with h | h
        · exact h
        · have := k3.2.1; omega
    subst hk
    rw [Nat.zero_mul, Nat.add_zero, Nat.sub_zero] at hu hemp
    subst hx
    cases d with
    | blk b' o' c' =>
      simp only [T.val, Value.slice.injEq, Option.some.injEq, Addr.mk.injEq, and_true, true_and] at hu
      obtain ⟨⟨rfl, rfl⟩, rfl⟩ := hu
      exact ⟨_, ⟨_, _, _, _, rfl, .inl ⟨cs2, rfl⟩⟩, by rw [er_ow_mk, hcs], hok, rfl, List.Sublist.refl _⟩
    | emp a0 =>
      simp only [T.val, Value.slice.injEq] at hu
      obtain ⟨rfl, h0, h1⟩ := hu
      subst h0
      subst h1
      exact hemp _ rfl rfl
/-- A call with an argument whose rows are lent. -/
theorem call_L {f io : Nat} {as as' : List PA} {sh : List (Option Nat)} {ds : List D} {vs vs1 : List DV} {vals : List Value} {v : DV} {pa pa' : PA} {cs : List DC} {pcs : List PC} {s1 : FS} {L : List Pl} (hR : Rel S0 w0 nt s M a w) (hS : Spec P f as sh ds as')
    (hl : vals.length = vs.length) (hv : ∀ (i : Nat) (v : DV) (u : Value), vs[i]? = some v → vals[i]? = some u → RelV S0 w0 M v u) (hio : vs[io]? = some v) (hpa : as[io]? = some pa) (hpa' : as'[io]? = some pa') (hsh : shapeOf v pa = some (cs, pcs)) (hg : lendL s 0 cs pcs = some (s1, L))
    (hap : L.Pairwise apartP) (h64 : pcs.length ≤ 64)
    (hv1 : ∀ (M1 : Heap) (X : List A), RelX S0 w0 nt s1 M1 X a w → vals.length = vs1.length ∧ ∀ (i : Nat) (v : DV) (u : Value), vs1[i]? = some v → vals[i]? = some u → RelV S0 w0 M1 v u)
    (hr : rosOk s1 io 0 vs1 as) (hw : widen io 0 vs1 = false ∨ (noRoL ds = true ∧ noRoL ((paCells pa').map PC.tree) = true)) :
    Calls P f vals.toArray w fun e w' => ∃ (v : Value) (M1 : Heap) (Y : List A), e = .returned v ∧ RelX S0 w0 nt (backFS s s1 L (paCells pa')) M1 Y a w' ∧ Y.map er = ds ∧ ds.length = shLen sh ∧ v = packV sh (Y.map T.val) := by
  have hlt : io < vals.length := by rw [hl]; exact (List.getElem?_eq_some_iff.1 hio).1
  obtain ⟨us, hL, hhand⟩ := hand_ok hsh (hv io v _ hio (List.getElem?_eq_getElem hlt))
  obtain ⟨M1, xs, zs, hR1, hLend, hH, hzo, hzb, hpl, hjs, hjl⟩ := lendL_ok hR hL hg
  rw [List.nil_append] at hR1
  obtain ⟨l1, l2⟩ := hv1 M1 xs hR1
  have hX : ∀ b, b ∈ zs.flatMap T.blocks → b ∈ xs.flatMap T.blocks := fun b hb => hzb.subset hb
  have hown : ∀ b ∈ zs.flatMap T.blocks, ¬ S0.kp b := fun b hb => (hR1.inv.xb b (hX b hb)).2
  generalize hF : calleeFr S0 w (zs.flatMap T.blocks) (widen io 0 vs1) (fun _ _ => False) (fun k => us.getD (k % 64) undef) = F
  have hzok : ∀ z ∈ zs, Ok F w w z := fun z hz => by rw [← hF]; exact (hzo z hz).1.down hR1.inv hown (fun b _ j => by simp)
  have hIc : Inv F w (oneH io (entOf pcs zs)) [] w := by
    rw [← hF] at hzok ⊢
    exact callee_inv (own := zs.flatMap T.blocks) (wide := widen io 0 vs1) (fx := fun _ _ => False) (gv := fun k => us.getD (k % 64) undef) hR1.inv hX (by simp) io (entOf pcs zs)
      (fun t ht => by rw [ho_nodup ht]; exact .hold zs hzok (fun z hz => (hzo z hz).2))
      (fun t ht => by rw [ho_nodup ht, hold_blocks]; exact hzb.nodup hR1.inv.xn) (fun t ht b hb => by rw [ho_nodup ht, hold_blocks] at hb; exact hb)
  have hHF : HandL F w pcs zs us := by rw [← hF]; exact hH.frame fun u r h => ro_callee hR1.inv hown h
  have hcore := call_core (own := zs.flatMap T.blocks) (wide := widen io 0 vs1) (fx := fun _ _ => False) (gv := fun k => us.getD (k % 64) undef) (ent := entOf pcs zs) hR1.inv hR1.er hX hS l1 (fun i v u h1 h2 _ => l2 i v u h1 h2) hr (by cases widen io 0 vs1 <;> simp) (by rw [hF]; exact hIc) (fun pa2 u hp hu => by
    rw [hpa] at hp
    obtain rfl := Option.some.inj hp
    rw [List.getElem?_eq_getElem hlt] at hu
    obtain rfl := Option.some.inj hu
    rw [hF]
    obtain ⟨h1, h2, h3⟩ := hhand (io := io) hHF hzok
    refine ⟨h1, h2, fun k hk => ?_⟩
    have : (io * 64 + k) % 64 = k := by omega
    rw [this]
    exact h3 k hk) (fun hn => by rw [hn] at hpa; cases hpa)
  rw [hF] at hcore
  refine Calls.mono hcore ?_
  rintro e w' ⟨v, s2, M2, Y, rfl, hIc', her2, hgh2, e1, e2, e3, e4, e5⟩
  obtain ⟨pa2, p1, p2⟩ := e5 io pa hpa
  rw [hpa'] at p1
  obtain rfl := Option.some.inj p1
  obtain ⟨q1, q2, q3⟩ := hH.at
  have hkeep : ∀ b, b < w.heap.size → b ∉ zs.flatMap T.blocks → F.kp b := fun b h1 h2 => by rw [← hF]; exact ⟨h1, h2⟩
  -- what comes back, place by place
  have hback : ∀ (k : Nat) (l : Pl) (x : A), L[k]? = some l → xs[k]? = some x → ∃ y', SameHd x y' ∧ (∃ pc, (paCells pa')[l.2.2]? = some pc ∧ er y' = pc.tree) ∧ Ok S0 w0 w' y' ∧ y'.isHold = false ∧ y'.blocks.Nodup ∧
      ((∃ tc c, M2 io = some tc ∧ tc.cells[l.2.2]? = some c ∧ ∀ b ∈ y'.blocks, b ∈ c.blocks) ∨ (y' = x ∧ ∀ b ∈ x.blocks, b ∉ zs.flatMap T.blocks)) := by
    intro k l x hlk hxk
    obtain ⟨_, hst, sz, n, dsj, hpc⟩ := hpl k l x hlk hxk
    rw [Nat.sub_zero] at hst hpc
    obtain ⟨pc', b1, b2⟩ := backA_at hsh p2 l.2.2 _ hpc
    simp only [backC] at b2
    split at b2
    · rename_i i' p off n' sz' n'' cs' hg1 hg2
      split at b2
      · rename_i hcond
        obtain ⟨hi0, hp0, ho0, hn0, hs0, hm0⟩ := hcond
        rw [hi0, hp0, ho0, hn0] at hg1
        rw [hs0, hm0] at hg2
        obtain rfl := Option.some.inj b2
        have herio := her2 io
        cases hm : M2 io with
        | none => rw [hm] at herio; rw [herio] at hg2; cases hg2
        | some tc =>
          rw [hm] at herio
          rw [herio] at hg2
          have hg3 : (er tc).get [l.2.2] = some (.ow () sz n cs') := hg2
          unfold er at hg3
          rw [T.get_map] at hg3
          obtain ⟨y, hy, hye⟩ := Option.map_eq_some_iff.1 hg3
          have hye : er y = .ow () sz n cs' := hye
          have hcell : tc.cells[l.2.2]? = some y := by
            simp only [T.get] at hy
            split at hy
            · rename_i c hc; rw [hc, Option.some.inj hy]
            · cases hy
          have hoky : Ok F w w' y := (hIc'.ok _ tc hm).get hy
          have hlz : l.2.2 < zs.length := by rw [q1]; exact (List.getElem?_eq_some_iff.1 hpc).1
          have hlu : l.2.2 < us.length := by rw [q2]; exact (List.getElem?_eq_some_iff.1 hpc).1
          have hhc := q3 l.2.2 _ _ us[l.2.2] hpc (List.getElem?_eq_getElem hlz) (List.getElem?_eq_getElem hlu)
          have hghost := hgh2 (io * 64 + l.2.2)
          have hlp : l.2.2 < pcs.length := (List.getElem?_eq_some_iff.1 hpc).1
          have hmod : (io * 64 + l.2.2) % 64 = l.2.2 := by omega
          rw [hg1, hmod, List.getD_eq_getElem?_getD, List.getElem?_eq_getElem hlu] at hghost
          have hghost : RelC F w M2 (.sl io [l.2.2] 0 n) us[l.2.2] := hghost
          have hroy : widen io 0 vs1 = false ∨ noRo (.ow () sz n cs') = true := by
            rcases hw with hw | hw
            · exact .inl hw
            · exact .inr (noRoL_mem hw.2 _ (List.mem_map.2 ⟨_, List.mem_of_getElem? b1, rfl⟩))
          rcases hst with hst | ⟨⟨d, szx, a0, rfl, hst⟩, hno⟩
          · rw [List.getElem?_eq_getElem hlz] at hst
            have hzx := Option.some.inj hst
            rw [hzx] at hhc
            obtain ⟨hz1, hz2⟩ := hhc
            rw [← hz2] at hghost
            have hxow : ∃ d csx, x = .ow d sz n csx := by
              cases x with
              | ow d sz2 n2 csx => rw [er_ow_mk] at hz1; simp only [T.ow.injEq, true_and] at hz1; obtain ⟨rfl, rfl, _⟩ := hz1; exact ⟨_, _, rfl⟩
              | _ => simp [er, T.map] at hz1
            obtain ⟨d, csx, hx⟩ := hxow
            obtain ⟨y', g1, g2, g3, g4, g5⟩ := head_back hx ⟨tc, hm, hy⟩ hoky hye hghost
            refine ⟨y', g1, ⟨_, b1, g2⟩, ?_, g4, g5.nodup (nodup_get (hIc'.nd _ tc hm) hy), .inl ⟨tc, y, rfl, hcell, fun b hb => g5.subset hb⟩⟩
            rw [← hF] at g3
            exact conv_back hR1.inv g3 (by rw [g2]; exact hroy)
          · rw [List.getElem?_eq_getElem hlz] at hst
            have hzx := Option.some.inj hst
            rw [hzx] at hhc
            obtain ⟨hz1, hz2⟩ := hhc
            rw [er_ow_mk] at hz1
            simp only [T.ow.injEq, true_and] at hz1
            obtain ⟨rfl, rfl, _⟩ := hz1
            have hcs := ow_nil hoky hye
            subst hcs
            have hxm : (T.ow d szx 0 [] : A) ∈ xs := List.mem_of_getElem? hxk
            have hxo := (hR1.inv.xo _ hxm).1
            refine ⟨.ow d szx 0 [], ⟨d, szx, 0, [], rfl, .inl ⟨[], rfl⟩⟩, ⟨_, b1, rfl⟩, hxo.frame fun b hb => ?_, rfl, ?_, .inr ⟨rfl, hno⟩⟩
            · exact hIc'.wd.fr b (hkeep b (hR1.inv.xb b (List.mem_flatMap.2 ⟨_, hxm, hb⟩)).1 (hno b hb))
            · exact nodup_cell hR1.inv.xn hxm
      · cases b2
    · cases b2
  obtain ⟨ys, hyl, hys⟩ := pick2 L xs hLend.len.symm hback
  have hxk : ∀ (k : Nat) (y : A), ys[k]? = some y → ∃ l x, L[k]? = some l ∧ xs[k]? = some x := fun k y hy => by
    have h1 : k < L.length := by rw [← hyl]; exact (List.getElem?_eq_some_iff.1 hy).1
    have h2 : k < xs.length := by rw [hLend.len]; exact h1
    exact ⟨_, _, List.getElem?_eq_getElem h1, List.getElem?_eq_getElem h2⟩
  have hynd : (ys.flatMap T.blocks).Nodup := by
    refine flat_nodup (fun y hy => ?_) (fun k m y y' hkm hy hy' b hb hb' => ?_)
    · obtain ⟨k, hk⟩ := List.getElem?_of_mem hy
      obtain ⟨l, x, h1, h2⟩ := hxk k y hk
      exact (hys k l x y h1 h2 hk).2.2.2.2.1
    · obtain ⟨l, x, h1, h2⟩ := hxk k y hy
      obtain ⟨l', x', h1', h2'⟩ := hxk m y' hy'
      obtain ⟨_, _, _, _, _, hA⟩ := hys k l x y h1 h2 hy
      obtain ⟨_, _, _, _, _, hB⟩ := hys m l' x' y' h1' h2' hy'
      have hkept : ∀ {x : A}, x ∈ xs → (∀ b ∈ x.blocks, b ∉ zs.flatMap T.blocks) → ∀ b ∈ x.blocks, F.kp b := fun hx hno b hb => hkeep b (hR1.inv.xb b (List.mem_flatMap.2 ⟨_, hx, hb⟩)).1 (hno b hb)
      rcases hA with ⟨tc, c, t1, t2, t3⟩ | ⟨rfl, t3⟩
      · have hbtc : b ∈ tc.blocks := by rw [T.blocks_eq]; exact List.mem_append_right _ (List.mem_flatMap.2 ⟨c, List.mem_of_getElem? t2, t3 b hb⟩)
        rcases hB with ⟨tc', c', t1', t2', t3'⟩ | ⟨rfl, t3'⟩
        · rw [t1] at t1'
          obtain rfl := Option.some.inj t1'
          have hne : l.2.2 ≠ l'.2.2 := by
            rcases Nat.lt_or_gt_of_ne hkm with h | h
            · have := (List.pairwise_iff_getElem.1 hjs) k m (List.getElem?_eq_some_iff.1 h1).1 (List.getElem?_eq_some_iff.1 h1').1 h
              rw [(List.getElem?_eq_some_iff.1 h1).2, (List.getElem?_eq_some_iff.1 h1').2] at this
              exact this
            · have := (List.pairwise_iff_getElem.1 hjs) m k (List.getElem?_eq_some_iff.1 h1').1 (List.getElem?_eq_some_iff.1 h1).1 h
              rw [(List.getElem?_eq_some_iff.1 h1).2, (List.getElem?_eq_some_iff.1 h1').2] at this
              exact this.symm
          exact nodup_flat (nodup_cells (hIc'.nd _ tc t1)) t2 t2' hne b (t3 b hb) (t3' b hb')
        · exact (hIc'.bl io tc b t1 hbtc).2 (hkept (List.mem_of_getElem? h2') t3' b hb')
      · rcases hB with ⟨tc', c', t1', t2', t3'⟩ | ⟨rfl, t3'⟩
        · have hbtc : b ∈ tc'.blocks := by rw [T.blocks_eq]; exact List.mem_append_right _ (List.mem_flatMap.2 ⟨c', List.mem_of_getElem? t2', t3' b hb'⟩)
          exact (hIc'.bl io tc' b t1' hbtc).2 (hkept (List.mem_of_getElem? h2) t3 b hb)
        · exact nodup_flat hR1.inv.xn h2 h2' hkm b hb hb'
  have hZ : Inv S0 w0 M1 (ys ++ Y) w' := by
    rw [← hF] at hIc'
    refine call_back2 hR1.inv hX hIc' (fun z hz => ?_) (fun b hb => ?_) ?_
    · rcases List.mem_append.1 hz with hz | hz
      · obtain ⟨k, hk⟩ := List.getElem?_of_mem hz
        obtain ⟨l, x, h1, h2⟩ := hxk k z hk
        have := hys k l x z h1 h2 hk
        exact ⟨this.2.2.1, this.2.2.2.1⟩
      · refine ⟨conv_back hR1.inv (hIc'.xo z hz).1 ?_, (hIc'.xo z hz).2⟩
        rcases hw with hw | hw
        · exact .inl hw
        · exact .inr (noRoL_mem' (by rw [e1]; exact hw.1) z hz)
    · rw [List.flatMap_append] at hb
      rcases List.mem_append.1 hb with hb | hb
      · obtain ⟨y, hy, hby⟩ := List.mem_flatMap.1 hb
        obtain ⟨k, hk⟩ := List.getElem?_of_mem hy
        obtain ⟨l, x, h1, h2⟩ := hxk k y hk
        rcases (hys k l x y h1 h2 hk).2.2.2.2.2 with ⟨tc, c, t1, t2, t3⟩ | ⟨rfl, t3⟩
        · have hbtc : b ∈ tc.blocks := by rw [T.blocks_eq]; exact List.mem_append_right _ (List.mem_flatMap.2 ⟨c, List.mem_of_getElem? t2, t3 b hby⟩)
          have := hIc'.bl io tc b t1 hbtc
          exact ⟨this.1, .inr this.2⟩
        · have hbx : b ∈ xs.flatMap T.blocks := List.mem_flatMap.2 ⟨_, List.mem_of_getElem? h2, hby⟩
          exact ⟨by have := (hR1.inv.xb b hbx).1; have := hIc'.wd.sz; omega, .inl hbx⟩
      · exact ⟨(hIc'.xb b hb).1, .inr (hIc'.xb b hb).2⟩
    · rw [List.flatMap_append, List.nodup_append]
      refine ⟨hynd, hIc'.xn, fun b hb b' hb' e => ?_⟩
      subst e
      obtain ⟨y, hy, hby⟩ := List.mem_flatMap.1 hb
      obtain ⟨k, hk⟩ := List.getElem?_of_mem hy
      obtain ⟨l, x, h1, h2⟩ := hxk k y hk
      rcases (hys k l x y h1 h2 hk).2.2.2.2.2 with ⟨tc, c, t1, t2, t3⟩ | ⟨rfl, t3⟩
      · have hbtc : b ∈ tc.blocks := by rw [T.blocks_eq]; exact List.mem_append_right _ (List.mem_flatMap.2 ⟨c, List.mem_of_getElem? t2, t3 b hby⟩)
        exact hIc'.xd io tc t1 b hbtc hb'
      · exact (hIc'.xb b hb').2 ⟨(hR1.inv.xb b (List.mem_flatMap.2 ⟨_, List.mem_of_getElem? h2, hby⟩)).1, t3 b hby⟩
  have hgone : ∀ (k : Nat) (l : Pl) (y : A), L[k]? = some l → ys[k]? = some y → at_ M1 l.1 l.2.1 (.gone y.val) := fun k l y h1 hk => by
    obtain ⟨l', x, h1', h2⟩ := hxk k y hk
    rw [h1] at h1'
    obtain rfl := Option.some.inj h1'
    rw [(hys k l x y h1 h2 hk).1.val]
    exact (hLend.places hap k l x h1 h2).2.1
  obtain ⟨hI3, hat3⟩ := backM_inv hap hyl hgone hZ
  have hcv : ∀ (c : DC) (u : Value), RelC S0 w0 M c u → RelC S0 w0 (backM M1 L ys) (pzsC L c) u := fun c u hc => hc.lent
    (fun i q hn => (hLend.keeps fun l hl => hn l hl).trans (backM_keeps fun l hl => hn l hl))
    (fun l hl x0 hx0 => by
      obtain ⟨k, hk⟩ := List.getElem?_of_mem hl
      have hky : k < ys.length := by rw [hyl]; exact (List.getElem?_eq_some_iff.1 hk).1
      obtain ⟨l', x, h1', h2⟩ := hxk k _ (List.getElem?_eq_getElem hky)
      rw [hk] at h1'
      obtain rfl := Option.some.inj h1'
      have := at_unique hx0 (hLend.places hap k l x hk h2).1
      subst this
      exact ⟨_, (hys k l x0 _ hk h2 (List.getElem?_eq_getElem hky)).1, hat3 k l _ hk (List.getElem?_eq_getElem hky)⟩)
  refine ⟨v, backM M1 L ys, Y, rfl, ⟨hI3, ?_, fun i => (hR.en i).mapV hcv, hR.nt, hR.df, fun i => hcv _ _ (hR.gh i)⟩, e1, e2, e3⟩
  exact hBack_er hR1.er hyl fun k l y h1 hk => by
    obtain ⟨l', x, h1', h2⟩ := hxk k y hk
    rw [h1] at h1'
    obtain rfl := Option.some.inj h1'
    exact (hys k l x y h1 h2 hk).2.1
end
end Go.Proofs.Ytjjdjkkhhcbogaa.DM
