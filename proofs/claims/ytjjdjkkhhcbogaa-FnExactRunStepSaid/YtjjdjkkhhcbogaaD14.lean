/-
  DM 14. A call, as the caller takes it.
-/
import Derived.Test.YtjjdjkkhhcbogaaD13
namespace Go.Proofs.Ytjjdjkkhhcbogaa.DM
set_option linter.unusedVariables false
set_option linter.unusedSimpArgs false
def packD : List (Option Nat) → List DC → List V1
  | [], _ => []
  | none :: sh, cs => match cs with
    | c :: cs => .one c :: packD sh cs
    | [] => []
  | some k :: sh, cs => .agg (cs.take k) :: packD sh (cs.drop k)
def packDV (sh : List (Option Nat)) (cs : List DC) : DV := match packD sh cs with
  | [x] => .v x
  | l => .tup l
/-- The results are laid. -/
def finish (nt : Nat) (s : FS) (dst : Option Nat) (sh : List (Option Nat)) (ds : List D) : Option FS := match dst with
  | some d => match rdCs d [] 0 ds with
    | some cs => if d < nt then (if ds.all flatD then some ⟨upd s.e d (packDV sh cs), s.h, s.g⟩
        else match s.h d with
          | none => some ⟨upd s.e d (packDV sh cs), upd s.h d (some (.hold ds)), s.g⟩
          | some _ => none)
      else none
    | none => none
  | none => none
/-- A cell that is handed over to be read. -/
def toRC (s : FS) : DC → Option RT
  | .t r => some r
  | .nl => some (.sl 0 [])
  | .sl id p off n => match s.h id with
    | some root => match root.get p with
      | some (.ow _ sz m cs) => if off + n * sz ≤ cs.length then (toRTs ((cs.drop off).take (n * sz))).map (.sl n) else none
      | _ => none
    | none => none
  | .fn f ids => (mapO (fun id => match s.h id with
      | some (.ow _ _ 1 cs) => (toRTs cs).map (.sl 1)
      | _ => none) ids).map (.fn f)
  | _ => none
def ownC : DC → Bool
  | .sl _ _ _ _ => true
  | .pt _ _ _ => true
  | .fn _ (_ :: _) => true
  | _ => false
def ownV : DV → Bool
  | .v (.one c) => ownC c
  | .v (.agg cs) => cs.any ownC
  | _ => false
def roA_ (s : FS) : DV → Option PA
  | .v (.one (.rp cs)) => some (.rptr cs)
  | .v (.one (.pt id p off)) => match s.h id with
    | some root => match root.get p with
      | some (.ow _ _ _ cs) => (toRTs (cs.drop off)).map .rptr
      | _ => none
    | none => none
  | .v (.one c) => (toRC s c).map fun r => .one (.r r)
  | .v (.agg cs) => (mapO (toRC s) cs).map fun rs => .agg (rs.map .r)
  | _ => none
def callArgs (s : FS) (f : Operand) (args : List Operand) : Option (Nat × List DV) := match ev s.e f with
  | .v (.one (.fn g ids)) => some (g, args.map (ev s.e) ++ ids.map fun id => .v (.one (.pt id [] 0)))
  | .v (.one (.t (.fn g caps))) => some (g, args.map (ev s.e) ++ caps.map fun r => match r with | .sl 1 cs => .v (.one (.rp cs)) | _ => .un)
  | _ => none
section
variable {S0 : Fr} {w0 w w' : World} {M M' : Heap} {X : List A} {P : Program} {nt : Nat} {s : FS} {a : Act}
theorem packs : ∀ {sh : List (Option Nat)} {cs : List DC} {vs : List Value}, RelL S0 w0 M cs vs → cs.length = shLen sh → (packL sh vs).length = (packD sh cs).length ∧ ∀ (i : Nat) (x : V1) (u : Value), (packD sh cs)[i]? = some x → (packL sh vs)[i]? = some u → Rel1 S0 w0 M x u
  | [], cs, vs, h, hl => ⟨rfl, fun i x u hx => by simp [packD] at hx⟩
  | none :: sh, [], vs, h, hl => by simp [shLen] at hl; omega
  | none :: sh, c :: cs, [], h, hl => by have := h.1; simp at this
  | none :: sh, c :: cs, v :: vs, h, hl => by
    obtain ⟨h1, h2, h3⟩ := h.head
    obtain ⟨g1, g2⟩ := packs (sh := sh) h3 (by simp [shLen] at hl; omega)
    refine ⟨by simp [packL, packD, g1], fun i x u hx hu => ?_⟩
    cases i with
    | zero => simp [packL, packD] at hx hu; subst hx; subst hu; exact ⟨h1, h2⟩
    | succ i => exact g2 i x u (by simpa [packD] using hx) (by simpa [packL] using hu)
  | some k :: sh, cs, vs, h, hl => by
    obtain ⟨g1, g2⟩ := packs (sh := sh) (h.drop k) (by simp [shLen] at hl ⊢; omega)
    refine ⟨by simp [packL, packD, g1], fun i x u hx hu => ?_⟩
    cases i with
    | zero => simp [packL, packD] at hx hu; subst hx; subst hu; exact ⟨_, rfl, (h.take k)⟩
    | succ i => exact g2 i x u (by simpa [packD] using hx) (by simpa [packL] using hu)
theorem packDV_ok {sh : List (Option Nat)} {cs : List DC} {vs : List Value} (h : RelL S0 w0 M cs vs) (hl : cs.length = shLen sh) : RelV S0 w0 M (packDV sh cs) (packV sh vs) := by
  obtain ⟨h1, h2⟩ := packs h hl
  unfold packDV packV
  split
  · rename_i x hx
    rw [hx] at h1 h2
    obtain ⟨u, hu⟩ := List.length_eq_one_iff.1 (by simpa using h1)
    rw [hu]
    exact h2 0 x u rfl (by rw [hu]; rfl)
  · rename_i l hne
    have hne' : ∀ v, packL sh vs ≠ [v] := fun v hv => by
      rw [hv] at h1
      obtain ⟨x, hx⟩ := List.length_eq_one_iff.1 (by simpa using h1.symm)
      exact hne x hx
    split
    · rename_i v hv; exact absurd hv (hne' v)
    · exact ⟨_, rfl, h1, h2⟩
theorem rdZ {M : Heap} {d : Nat} {Z : List A} {cs : List DC} (hat : ∀ (i : Nat) (z : A), Z[i]? = some z → (flatD (er z) = true) ∨ at_ M d [i] z) (hok : ∀ z ∈ Z, Ok S0 w0 w z ∧ z.isHold = false) (h : rdCs d [] 0 (Z.map er) = some cs) : RelL S0 w0 M cs (Z.map T.val) := by
  obtain ⟨h1, h2⟩ := rdCs_ok h
  refine ⟨by simp [h1], fun i c u hc hu => ?_, fun u hu => ?_⟩
  · rw [List.getElem?_map, Option.map_eq_some_iff] at hu
    obtain ⟨z, hz, rfl⟩ := hu
    have h3 := h2 i (er z) c (by rw [List.getElem?_map, hz]; rfl) hc
    rw [Nat.zero_add] at h3
    obtain ⟨hok1, hh⟩ := hok z (List.mem_of_getElem? hz)
    rcases hat i z hz with hf | hat
    · cases z with
      | sc v => simp only [er, T.map, rdC, Option.some.injEq] at h3; subst h3; cases hok1 with | sc v hv => exact .t _ _ (.sc v hv)
      | ro u r => simp only [er, T.map, rdC, Option.some.injEq] at h3; subst h3; cases hok1 with | ro u r hr => exact .t _ _ hr
      | _ => simp [er, T.map, flatD] at hf
    · exact (rdC_ok (p := []) hat hok1 h3).1
  · obtain ⟨z, hz, rfl⟩ := List.mem_map.1 hu
    exact (hok z hz).1.one (hok z hz).2
theorem flat_blocks {z : A} (h : flatD (er z) = true) : z.blocks = [] := by
  cases z <;> first | rfl | (simp [er, T.map, flatD] at h)
/-- The results, in hand, are laid. -/
theorem finish_ok {Z : List A} {dst : Option Nat} {sh : List (Option Nat)} {s1 : FS} (hR : RelX S0 w0 nt s M Z a w) (hl : (Z.map er).length = shLen sh) (h : finish nt s dst sh (Z.map er) = some s1) :
    ∃ M1, Rel S0 w0 nt s1 M1 (a.put dst (packV sh (Z.map T.val))) w := by
  unfold finish at h
  split at h
  · rename_i d
    split at h
    · rename_i cs hcs
      have hcl : cs.length = shLen sh := by rw [(rdCs_ok hcs).1]; exact hl
      split at h
      · rename_i hd
        split at h
        · rename_i hflat
          obtain rfl := Option.some.inj h
          have hfl : ∀ z ∈ Z, flatD (er z) = true := fun z hz => List.all_eq_true.1 hflat _ (List.mem_map_of_mem hz)
          have hI : Inv S0 w0 M [] w := by
            have := hR.inv
            exact ⟨this.ok, this.nd, this.dj, this.bl, this.wd, by simp, by simp, by simp, by simp⟩
          have hL := rdZ (M := M) (fun i z hz => .inl (hfl z (List.mem_of_getElem? hz))) hR.inv.xo hcs
          have hR' : Rel S0 w0 nt s M a w := ⟨hI, hR.er, hR.en, hR.nt, hR.df, hR.gh⟩
          exact ⟨M, hR'.put (packDV_ok hL hcl) hd⟩
        · split at h
          · rename_i hn
            obtain rfl := Option.some.inj h
            have hM : M d = none := by
              have := hR.er d
              rw [hn] at this
              cases hm : M d with
              | none => rfl
              | some x => rw [hm] at this; cases this
            have hI := hR.inv.lay hM
            have hL := rdZ (M := upd M d (some (.hold Z))) (d := d) (fun i z hz => .inr ⟨_, upd_same _ _ _, by simp only [T.get, T.cells, hz]⟩) hR.inv.xo hcs
            have hR' : Rel S0 w0 nt ⟨s.e, upd s.h d (some (.hold (Z.map er))), s.g⟩ (upd M d (some (.hold Z))) a w := by
              refine ⟨hI, ?_, fun i => (hR.en i).keep (keeps_new hM), hR.nt, hR.df, fun i => (hR.gh i).keep (fun r _ => keeps_new hM r.1 r.2)⟩
              have := er_upd (id := d) (t := some (.hold Z)) hR.er
              have he : er (.hold Z) = .hold (Z.map er) := by simp only [er, T.map, T.mapL_eq]; rfl
              simp only [Option.map_some, he] at this
              exact this
            exact ⟨_, hR'.put (packDV_ok hL hcl) hd⟩
          · cases h
      · cases h
    · cases h
  · cases h
/-- What is handed over to be read, reads so in the callee. -/
theorem toRC_ok {own : List Nat} {wide : Bool} {fx : Nat → Nat → Prop} {gv : Nat → Value} (hI : Inv S0 w0 M X w) (her : ∀ id, s.h id = (M id).map er) (hown : ∀ b ∈ own, b ∈ X.flatMap T.blocks) {c : DC} {u : Value} {r : RT} (hc : RelC S0 w0 M c u)
    (h : toRC s c = some r) (hw : wide = true ∨ ownC c = false) : RoC (calleeFr S0 w own wide fx gv) w u r := by
  have hown' : ∀ b ∈ own, ¬ S0.kp b := fun b hb => (hI.xb b (hown b hb)).2
  have hRx : RelX S0 w0 0 ⟨fun _ => .un, s.h, fun _ => .un⟩ M X ⟨#[], []⟩ w ∨ True := .inr trivial
  have hnode : ∀ {id : Nat} {root : D} {p : List Nat} {x : D}, s.h id = some root → root.get p = some x → ∃ y, at_ M id p y ∧ er y = x ∧ Ok S0 w0 w y := by
    intro id root p x hr hg
    have h := her id
    rw [hr] at h
    cases hm : M id with
    | none => rw [hm] at h; cases h
    | some t =>
      rw [hm] at h
      have hroot : root = er t := by simpa using h
      subst hroot
      unfold er at hg
      rw [T.get_map] at hg
      obtain ⟨y, hy, rfl⟩ := Option.map_eq_some_iff.1 hg
      exact ⟨y, ⟨t, hm, hy⟩, rfl, (hI.ok id t hm).get hy⟩
  have hnotown : ∀ {id : Nat} {p : List Nat} {y : A}, at_ M id p y → ∀ b ∈ y.blocks, b < w.heap.size ∧ b ∉ own := fun hat b hb => by
    obtain ⟨t, ht, hg⟩ := hat
    have := get_mem_blocks hg b hb
    exact ⟨(hI.bl _ t b ht this).1, fun ho => hI.xd _ t ht b this (hown b ho)⟩
  cases hc with
  | un v => simp [toRC] at h
  | t q v hro => simp only [toRC, Option.some.injEq] at h; subst h; exact ro_callee hI hown' hro
  | nl a0 => simp only [toRC, Option.some.injEq] at h; subst h; exact .em a0 0
  | sl id p k n b o c sz m cs hat hle =>
    obtain rfl : wide = true := hw.resolve_right (by simp [ownC])
    simp only [toRC] at h
    split at h
    · rename_i root hr
      split at h
      · rename_i sz' m' cs' hg
        split at h
        · rename_i hlen
          obtain ⟨rs, hrs, rfl⟩ := Option.map_eq_some_iff.1 h
          obtain ⟨y, hat2, hey, hok⟩ := hnode hr hg
          have := at_unique hat2 hat
          subst this
          rw [er_ow_mk] at hey
          simp only [T.ow.injEq, true_and] at hey
          obtain ⟨rfl, rfl, rfl⟩ := hey
          have hp := hok.part hle
          refine toRT_ok (S1 := calleeFr S0 w own true fx gv) (y := .ow (.blk b (o + k * sz) (c - k)) sz n ((cs.drop (k * sz)).take (n * sz))) (fun q hq => ?_) (fun q hq => hI.wd.fr q (hI.wd.rk q hq)) hp (fun q hq => ?_) ?_
          · have h1 := hI.wd.rk q hq
            simp only [calleeFr, if_true]
            exact ⟨by have := hI.wd.s0 q h1; have := hI.wd.sz; omega, fun ho => hown' q ho h1⟩
          · simp only [calleeFr, if_true]
            refine hnotown hat q ?_
            simp only [T.blocks, T.blocksL_eq, List.mem_cons] at hq ⊢
            rcases hq with hq | hq
            · exact .inl hq
            · exact .inr ((flat_sublist ((List.take_sublist _ _).trans (List.drop_sublist _ _))).subset hq)
          · rw [er_ow_mk, List.map_take, List.map_drop, toRT, hrs]; rfl
        · cases h
      · cases h
    · cases h
  | se id p off a0 d sz m cs hat =>
    simp only [toRC] at h
    split at h
    · rename_i root hr
      split at h
      · split at h
        · obtain ⟨rs, hrs, rfl⟩ := Option.map_eq_some_iff.1 h
          rw [Nat.zero_mul, List.take_zero] at hrs
          simp only [toRTs, Option.some.injEq] at hrs
          subst hrs
          exact .em a0 0
        · cases h
      · cases h
    · cases h
  | pt => simp [toRC] at h
  | rp => simp [toRC] at h
  | fn f ids ps hl hp =>
    simp only [toRC] at h
    obtain ⟨caps, hcaps, rfl⟩ := Option.map_eq_some_iff.1 h
    obtain ⟨e1, e2⟩ := mapO_some hcaps
    refine .fn f ps caps (by rw [hl, e1]) (fun i ad q hq hr => ?_)
    have hlt : i < ids.length := by rw [← hl]; exact (List.getElem?_eq_some_iff.1 hq).1
    obtain rfl : wide = true := hw.resolve_right (by cases ids with | nil => simp at hlt | cons _ _ => simp [ownC])
    have h3 := e2 i _ q (List.getElem?_eq_getElem hlt) hr
    split at h3
    · rename_i sz cs hh
      obtain ⟨rs, hrs, rfl⟩ := Option.map_eq_some_iff.1 h3
      obtain ⟨b, o, c, sz2, cs2, hat, rfl⟩ := hp i _ ad (List.getElem?_eq_getElem hlt) hq
      obtain ⟨y, hat2, hey, hok⟩ := hnode (p := []) hh rfl
      have := at_unique hat2 hat
      subst this
      rw [er_ow_mk] at hey
      simp only [T.ow.injEq, true_and] at hey
      obtain ⟨rfl, rfl⟩ := hey
      have h4 := toRT_ok (S1 := calleeFr S0 w own true fx gv) (y := .ow (.blk b o c) sz2 1 cs2) (fun q hq => by
          have h1 := hI.wd.rk q hq
          simp only [calleeFr, if_true]
          exact ⟨by have := hI.wd.s0 q h1; have := hI.wd.sz; omega, fun ho => hown' q ho h1⟩) (fun q hq => hI.wd.fr q (hI.wd.rk q hq)) hok (fun q hq => by
          simp only [calleeFr, if_true]; exact hnotown hat q hq) (r := .sl 1 rs) (by rw [er_ow_mk, toRT, hrs]; rfl)
      cases h4 with
      | sl ad n c cs vs r1 r2 r3 r4 r5 r6 => exact .sl ⟨b, o, none⟩ 1 1 rs vs r1 r2 (Nat.le_refl _) r4 r5 r6
    · cases h3
/-- An argument to be read. -/
theorem roA_arg {own : List Nat} {wide : Bool} {fx : Nat → Nat → Prop} {gv : Nat → Value} {Mc : Heap} (hI : Inv S0 w0 M X w) (her : ∀ id, s.h id = (M id).map er) (hown : ∀ b ∈ own, b ∈ X.flatMap T.blocks) {v : DV} {u : Value} {pa : PA} {i : Nat}
    (hv : RelV S0 w0 M v u) (h : roA_ s v = some pa) (hw : wide = true ∨ ownV v = false) : RelV (calleeFr S0 w own wide fx gv) w Mc (argV i pa) u ∧ argH pa = none ∧ ∀ k, argG i pa k = .un := by
  have hown' : ∀ b ∈ own, ¬ S0.kp b := fun b hb => (hI.xb b (hown b hb)).2
  unfold roA_ at h
  split at h
  · obtain rfl := Option.some.inj h
    obtain ⟨hc, h1⟩ := hv
    cases hc with
    | rp cs ad hro => exact ⟨⟨.rp _ _ (ro_callee hI hown' hro), rfl⟩, rfl, fun k => rfl⟩
  · rename_i id p off
    obtain ⟨hc, h1⟩ := hv
    obtain rfl : wide = true := hw.resolve_right (by simp [ownV, ownC])
    split at h
    · rename_i root hr
      split at h
      · rename_i sz m cs hg
        obtain ⟨rs, hrs, rfl⟩ := Option.map_eq_some_iff.1 h
        cases hc with
        | pt _ _ _ b o c sz2 m2 cs2 hat =>
          have h := her id
          rw [hr] at h
          cases hm : M id with
          | none => rw [hm] at h; cases h
          | some t =>
            rw [hm] at h
            have hroot : root = er t := by simpa using h
            subst hroot
            unfold er at hg
            rw [T.get_map] at hg
            obtain ⟨y, hy, hye⟩ := Option.map_eq_some_iff.1 hg
            have := at_unique ⟨t, hm, hy⟩ hat
            subst this
            have hye' : er (.ow (.blk b o c) sz2 m2 cs2) = .ow () sz m cs := hye
            rw [er_ow_mk] at hye'
            simp only [T.ow.injEq, true_and] at hye'
            obtain ⟨rfl, rfl, rfl⟩ := hye'
            have hok := (hI.ok id t hm).get hy
            have hblk : ∀ q ∈ (T.ow (.blk b o c) sz2 m2 cs2 : A).blocks, q < w.heap.size ∧ q ∉ own := fun q hq => by
              have := get_mem_blocks hy q hq
              exact ⟨(hI.bl _ t q hm this).1, fun ho => hI.xd _ t hm q this (hown q ho)⟩
            have hros : ∀ q, S0.ro q → (calleeFr S0 w own true fx gv).ro q := fun q hq => by
              have h1 := hI.wd.rk q hq
              simp only [calleeFr, if_true]
              exact ⟨by have := hI.wd.s0 q h1; have := hI.wd.sz; omega, fun ho => hown' q ho h1⟩
            refine ⟨⟨.rp rs ⟨b, o + off, none⟩ ?_, rfl⟩, rfl, fun k => rfl⟩
            obtain ⟨g1, g2⟩ := toRTs_eq hrs
            cases hok with
            | ow _ _ _ _ _ _ cur ty fz k1 k2 k3 k4 k5 k6 k7 k8 k9 =>
              refine .sl ⟨b, o + off, none⟩ 1 1 rs ((cs2.drop off).map T.val) rfl (by simp only [calleeFr, if_true]; exact hblk b (by simp [T.blocks])) (Nat.le_refl _) (by rw [List.length_map, g1]; simp) (fun j v hj => ?_) (fun j v q hj hq => ?_)
              · rw [List.getElem?_map, Option.map_eq_some_iff] at hj
                obtain ⟨y, hy, rfl⟩ := hj
                rw [List.getElem?_drop] at hy
                simp only [World.cell?, k1]
                rw [Nat.add_assoc]
                simpa using k7 _ y hy
              · rw [List.getElem?_map, Option.map_eq_some_iff] at hj
                obtain ⟨y, hy, rfl⟩ := hj
                rw [List.getElem?_drop] at hy
                refine toRT_ok (S1 := calleeFr S0 w own true fx gv) hros (fun q hq => hI.wd.fr q (hI.wd.rk q hq)) (k8 y (List.mem_of_getElem? hy)) (fun q hq => ?_) (g2 j (er y) q (by rw [List.getElem?_drop, List.getElem?_map, hy]; rfl) hq)
                simp only [calleeFr, if_true]
                refine hblk q ?_
                rw [T.blocks_eq]
                exact List.mem_append_right _ (List.mem_flatMap.2 ⟨y, List.mem_of_getElem? hy, hq⟩)
      · cases h
    · cases h
  · rename_i c _ _
    obtain ⟨r, hr, rfl⟩ := Option.map_eq_some_iff.1 h
    obtain ⟨hc, h1⟩ := hv
    refine ⟨⟨.t _ _ (toRC_ok hI her hown hc hr hw), h1⟩, rfl, fun k => ?_⟩
    simp only [argG]
    split <;> rfl
  · rename_i cs
    obtain ⟨rs, hrs, rfl⟩ := Option.map_eq_some_iff.1 h
    obtain ⟨vs, rfl, hl, h1, h2⟩ := hv
    obtain ⟨e1, e2⟩ := mapO_some hrs
    have hdf : ∀ (rs : List RT) (j : Nat), dcsFrom i j (rs.map .r) = rs.map .t := by
      intro rs
      induction rs with
      | nil => intro j; rfl
      | cons r rs ih => intro j; simp [dcsFrom, PC.dc, ih]
    refine ⟨⟨vs, rfl, by rw [hdf, List.length_map, e1]; exact hl, fun j c u hc hu => ?_, h2⟩, ?_, fun k => ?_⟩
    · rw [hdf, List.getElem?_map, Option.map_eq_some_iff] at hc
      obtain ⟨r, hr, rfl⟩ := hc
      have hjl : j < cs.length := by rw [← e1]; exact (List.getElem?_eq_some_iff.1 hr).1
      refine .t _ _ (toRC_ok hI her hown (h1 j _ u (List.getElem?_eq_getElem hjl) hu) (e2 j _ r (List.getElem?_eq_getElem hjl) hr) ?_)
      rcases hw with hw | hw
      · exact .inl hw
      · right
        simp only [ownV, List.any_eq_false] at hw
        simpa using hw _ (List.getElem_mem hjl)
    · simp [argH, PC.isR]
    · simp only [argG, List.getElem?_map]
      cases rs[k]? <;> rfl
  · cases h
end
end Go.Proofs.Ytjjdjkkhhcbogaa.DM
