import Derived.Test.YtciieaidbiejmaaDA
import Derived.KernelRfl
/-
  DM 14. A call, az the caller takes it.
-/
namespace Go.Proofs.Ytciieaidbiejmaa.DM
set_option linter.unusedVariables false
set_option linter.unusedSimpArgs false
def packD : List (Option Nat) → List DC → List V1
  | [], _ => []
  | none :: sh, cs => match cs with
    | c :: cs => .one c :: packD sh cs
    | [] => []
  | some k :: sh, cs => .agg (cs.take k) :: packD sh (cs.drop k)
def packDV (sh : List (Option Nat)) (cs : List DC) : DV := match packD sh cs with
  | [x] => .v x
  | l => .tup l
/-- The results are laid. -/
def finish (nt : Nat) (s : FS) (dst : Option Nat) (sh : List (Option Nat)) (ds : List D) : Option FS := match dst with
  | some d => match rdCs d [] 0 ds with
    | some cs => if d < nt then (if ds.all flatD then some ⟨upd s.e d (packDV sh cs), s.h, s.g⟩
        else match s.h d with
          | none => some ⟨upd s.e d (packDV sh cs), upd s.h d (some (.hold ds)), s.g⟩
          | some _ => none)
      else none
    | none => none
  | none => none
/-- A cell that is handed over to be read. -/
def toRC (s : FS) : DC → Option RT
  | .t r => some r
  | .nl => some (.sl 0 [])
  | .sl id p off n => match s.h id with
    | some root => match root.get p with
      | some (.ow _ sz m cs) => if off + n * sz ≤ cs.length then (toRTs ((cs.drop off).take (n * sz))).map (.sl n) else none
      | _ => none
    | none => none
  | .fn f ids => (mapO (fun id => match s.h id with
      | some (.ow _ _ 1 cs) => (toRTs cs).map (.sl 1)
      | _ => none) ids).map (.fn f)
  | _ => none
def ownC : DC → Bool
  | .sl _ _ _ _ => true
  | .pt _ _ _ => true
  | .fn _ (_ :: _) => true
  | _ => false
def ownV : DV → Bool
  | .v (.one c) => ownC c
  | .v (.agg cs) => cs.any ownC
  | _ => false
def roA_ (s : FS) : DV → Option PA
  | .v (.one (.rp cs)) => some (.rptr cs)
  | .v (.one (.pt id p off)) => match s.h id with
    | some root => match root.get p with
      | some (.ow _ _ _ cs) => (toRTs (cs.drop off)).map .rptr
      | _ => none
    | none => none
  | .v (.one c) => (toRC s c).map fun r => .one (.r r)
  | .v (.agg cs) => (mapO (toRC s) cs).map fun rs => .agg (rs.map .r)
  | _ => none
def callArgs (s : FS) (f : Operand) (args : List Operand) : Option (Nat × List DV) := match ev s.e f with
  | .v (.one (.fn g ids)) => some (g, args.map (ev s.e) ++ ids.map fun id => .v (.one (.pt id [] 0)))
  | .v (.one (.t (.fn g caps))) => some (g, args.map (ev s.e) ++ caps.map fun r => match r with | .sl 1 cs => .v (.one (.rp cs)) | _ => .un)
  | _ => none
section
variable {S0 : Fr} {w0 w w' : World} {M M' : Heap} {X : List A} {P : Program} {nt : Nat} {s : FS} {a : Act}
theorem packs : ∀ {sh : List (Option Nat)} {cs : List DC} {vs : List Value}, RelL S0 w0 M cs vs → cs.length = shLen sh → (packL sh vs).length = (packD sh cs).length ∧ ∀ (i : Nat) (x : V1) (u : Value), (packD sh cs)[i]? = some x → (packL sh vs)[i]? = some u → Rel1 S0 w0 M x u
  | [], cs, vs, h, hl => ⟨rfl, fun i x u hx => by simp [packD] at hx⟩
  | none :: sh, [], vs, h, hl => by simp [shLen] at hl; omega
  | none :: sh, c :: cs, [], h, hl => by have := h.1; simp at this
  | none :: sh, c :: cs, v :: vs, h, hl => by
    obtain ⟨h1, h2, h3⟩ := h.head
    obtain ⟨g1, g2⟩ := packs (sh := sh) h3 (by simp [shLen] at hl; omega)
    refine ⟨by simp [packL, packD, g1], fun i x u hx hu => ?_⟩
    cases i with
    | zero => simp [packL, packD] at hx hu; subst hx; subst hu; exact ⟨h1, h2⟩
    | succ i => exact g2 i x u (by simpa [packD] using hx) (by simpa [packL] using hu)
  | some k :: sh, cs, vs, h, hl => by
    obtain ⟨g1, g2⟩ := packs (sh := sh) (h.drop k) (by simp [shLen] at hl ⊢; omega)
    refine ⟨by simp [packL, packD, g1], fun i x u hx hu => ?_⟩
    cases i with
    | zero => simp [packL, packD] at hx hu; subst hx; subst hu; exact ⟨_, rfl, (h.take k)⟩
    | succ i => exact g2 i x u (by simpa [packD] using hx) (by simpa [packL] using hu)
theorem packDV_ok {sh : List (Option Nat)} {cs : List DC} {vs : List Value} (h : RelL S0 w0 M cs vs) (hl : cs.length = shLen sh) : RelV S0 w0 M (packDV sh cs) (packV sh vs) := by
  obtain ⟨h1, h2⟩ := packs h hl
  unfold packDV packV
  split
  · rename_i x hx
    rw [hx] at h1 h2
    obtain ⟨u, hu⟩ := List.length_eq_one_iff.1 (by simpa using h1)
    rw [hu]
    exact h2 0 x u rfl (by rw [hu]; rfl)
  · rename_i l hne
    have hne' : ∀ v, packL sh vs ≠ [v] := fun v hv => by
      rw [hv] at h1
      obtain ⟨x, hx⟩ := List.length_eq_one_iff.1 (by simpa using h1.symm)
      exact hne x hx
    split
    · rename_i v hv; exact absurd hv (hne' v)
    · exact ⟨_, rfl, h1, h2⟩
theorem rdZ {M : Heap} {d : Nat} {Z : List A} {cs : List DC} (hat : ∀ (i : Nat) (z : A), Z[i]? = some z → (flatD (er z) = true) ∨ at_ M d [i] z) (hok : ∀ z ∈ Z, Ok S0 w0 w z ∧ z.isHold = false) (h : rdCs d [] 0 (Z.map er) = some cs) : RelL S0 w0 M cs (Z.map T.val) := by
  obtain ⟨h1, h2⟩ := rdCs_ok h
  refine ⟨by simp [h1], fun i c u hc hu => ?_, fun u hu => ?_⟩
  · rw [List.getElem?_map, Option.map_eq_some_iff] at hu
    obtain ⟨z, hz, rfl⟩ := hu
    have h3 := h2 i (er z) c (by rw [List.getElem?_map, hz]; rfl) hc
    rw [Nat.zero_add] at h3
    obtain ⟨hok1, hh⟩ := hok z (List.mem_of_getElem? hz)
    rcases hat i z hz with hf | hat
    · cases z with
      | sc v => simp only [er, T.map, rdC, Option.some.injEq] at h3; subst h3; cases hok1 with | sc v hv => exact .t _ _ (.sc v hv)
      | ro u r => simp only [er, T.map, rdC, Option.some.injEq] at h3; subst h3; cases hok1 with | ro u r hr => exact .t _ _ hr
      | _ => simp [er, T.map, flatD] at hf
    · exact (rdC_ok (p := []) hat hok1 h3).1
  · obtain ⟨z, hz, rfl⟩ := List.mem_map.1 hu
    exact (hok z hz).1.one (hok z hz).2
theorem flat_blocks {z : A} (h : flatD (er z) = true) : z.blocks = [] := by
  cases z <;> first | rfl | (simp [er, T.map, flatD] at h)
/-- The results, in hand, are laid. -/
theorem finish_ok {Z : List A} {dst : Option Nat} {sh : List (Option Nat)} {s1 : FS} (hR : RelX S0 w0 nt s M Z a w) (hl : (Z.map er).length = shLen sh) (h : finish nt s dst sh (Z.map er) = some s1) :
    ∃ M1, Rel S0 w0 nt s1 M1 (a.put dst (packV sh (Z.map T.val))) w := by
  unfold finish at h
  split at h
  · rename_i d
    split at h
    · rename_i cs hcs
      have hcl : cs.length = shLen sh := by rw [(rdCs_ok hcs).1]; exact hl
      split at h
      · rename_i hd
        split at h
        · rename_i hflat
          obtain rfl := Option.some.inj h
          have hfl : ∀ z ∈ Z, flatD (er z) = true := fun z hz => List.all_eq_true.1 hflat _ (List.mem_map_of_mem hz)
          have hI : Inv S0 w0 M [] w := by
            have := hR.inv
            exact ⟨this.ok, this.nd, this.dj, this.bl, this.wd, by simp, by simp, by simp, by simp⟩
          have hL := rdZ (M := M) (fun i z hz => .inl (hfl z (List.mem_of_getElem? hz))) hR.inv.xo hcs
          have hR' : Rel S0 w0 nt s M a w := ⟨hI, hR.er, hR.en, hR.nt, hR.df, hR.gh⟩
          exact ⟨M, hR'.put (packDV_ok hL hcl) hd⟩
        · split at h
          · rename_i hn
            obtain rfl := Option.some.inj h
            have hM : M d = none := by
              have := hR.er d
              rw [hn] at this
              cases hm : M d with
              | none => rfl
              | some x => rw [hm] at this; cases this
            have hI := hR.inv.lay hM
            have hL := rdZ (M := upd M d (some (.hold Z))) (d := d) (fun i z hz => .inr ⟨_, upd_same _ _ _, by simp only [T.get, T.cells, hz]⟩) hR.inv.xo hcs
            have hR' : Rel S0 w0 nt ⟨s.e, upd s.h d (some (.hold (Z.map er))), s.g⟩ (upd M d (some (.hold Z))) a w := by
              refine ⟨hI, ?_, fun i => (hR.en i).keep (keeps_new hM), hR.nt, hR.df, fun i => (hR.gh i).keep (fun r _ => keeps_new hM r.1 r.2)⟩
              have := er_upd (id := d) (t := some (.hold Z)) hR.er
              have he : er (.hold Z) = .hold (Z.map er) := by simp only [er, T.map, T.mapL_eq]; rfl
              simp only [Option.map_some, he] at this
              exact this
            exact ⟨_, hR'.put (packDV_ok hL hcl) hd⟩
          · cases h
      · cases h
    · cases h
  · cases h
/-- What is handed over to be read, reads so in the callee. -/
theorem toRC_ok {own : List Nat} {wide : Bool} {fx : Nat → Nat → Prop} {gv : Nat → Value} (hI : Inv S0 w0 M X w) (her : ∀ id, s.h id = (M id).map er) (hown : ∀ b ∈ own, b ∈ X.flatMap T.blocks) {c : DC} {u : Value} {r : RT} (hc : RelC S0 w0 M c u)
    (h : toRC s c = some r) (hw : wide = true ∨ ownC c = false) : RoC (calleeFr S0 w own wide fx gv) w u r := by
  have hown' : ∀ b ∈ own, ¬ S0.kp b := fun b hb => (hI.xb b (hown b hb)).2
  have hRx : RelX S0 w0 0 ⟨fun _ => .un, s.h, fun _ => .un⟩ M X ⟨#[], []⟩ w ∨ True := .inr trivial
  have hnode : ∀ {id : Nat} {root : D} {p : List Nat} {x : D}, s.h id = some root → root.get p = some x → ∃ y, at_ M id p y ∧ er y = x ∧ Ok S0 w0 w y := by
    intro id root p x hr hg
    have h := her id
    rw [hr] at h
    cases hm : M id with
    | none => rw [hm] at h; cases h
    | some t =>
      rw [hm] at h
      have hroot : root = er t := by simpa using h
      subst hroot
      unfold er at hg
      rw [T.get_map] at hg
      obtain ⟨y, hy, rfl⟩ := Option.map_eq_some_iff.1 hg
      exact ⟨y, ⟨t, hm, hy⟩, rfl, (hI.ok id t hm).get hy⟩
  have hnotown : ∀ {id : Nat} {p : List Nat} {y : A}, at_ M id p y → ∀ b ∈ y.blocks, b < w.heap.size ∧ b ∉ own := fun hat b hb => by
    obtain ⟨t, ht, hg⟩ := hat
    have := get_mem_blocks hg b hb
    exact ⟨(hI.bl _ t b ht this).1, fun ho => hI.xd _ t ht b this (hown b ho)⟩
  cases hc with
  | un v => simp [toRC] at h
  | t q v hro => simp only [toRC, Option.some.injEq] at h; subst h; exact ro_callee hI hown' hro
  | nl a0 => simp only [toRC, Option.some.injEq] at h; subst h; exact .em a0 0
  | sl id p k n b o c sz m cs hat hle =>
    obtain rfl : wide = true := hw.resolve_right (by simp [ownC])
    simp only [toRC] at h
    split at h
    · rename_i root hr
      split at h
      · rename_i sz' m' cs' hg
        split at h
        · rename_i hlen
          obtain ⟨rs, hrs, rfl⟩ := Option.map_eq_some_iff.1 h
          obtain ⟨y, hat2, hey, hok⟩ := hnode hr hg
          have := at_unique hat2 hat
          subst this
          rw [er_ow_mk] at hey
          simp only [T.ow.injEq, true_and] at hey
          obtain ⟨rfl, rfl, rfl⟩ := hey
          have hp := hok.part hle
          refine toRT_ok (S1 := calleeFr S0 w own true fx gv) (y := .ow (.blk b (o + k * sz) (c - k)) sz n ((cs.drop (k * sz)).take (n * sz))) (fun q hq => ?_) (fun q hq => hI.wd.fr q (hI.wd.rk q hq)) hp (fun q hq => ?_) ?_
          · have h1 := hI.wd.rk q hq
            simp only [calleeFr, if_true]
            exact ⟨by have := hI.wd.s0 q h1; have := hI.wd.sz; omega, fun ho => hown' q ho h1⟩
          · simp only [calleeFr, if_true]
            refine hnotown hat q ?_
            simp only [T.blocks, T.blocksL_eq, List.mem_cons] at hq ⊢
            rcases hq with hq | hq
            · exact .inl hq
            · exact .inr ((flat_sublist ((List.take_sublist _ _).trans (List.drop_sublist _ _))).subset hq)
          · rw [er_ow_mk, List.map_take, List.map_drop, toRT, hrs]; rfl
        · cases h
      · cases h
    · cases h
  | se id p off a0 d sz m cs hat =>
    simp only [toRC] at h
    split at h
    · rename_i root hr
      split at h
      · split at h
        · obtain ⟨rs, hrs, rfl⟩ := Option.map_eq_some_iff.1 h
          rw [Nat.zero_mul, List.take_zero] at hrs
          simp only [toRTs, Option.some.injEq] at hrs
          subst hrs
          exact .em a0 0
        · cases h
      · cases h
    · cases h
  | pt => simp [toRC] at h
  | rp => simp [toRC] at h
  | fn f ids ps hl hp =>
    simp only [toRC] at h
    obtain ⟨caps, hcaps, rfl⟩ := Option.map_eq_some_iff.1 h
    obtain ⟨e1, e2⟩ := mapO_some hcaps
    refine .fn f ps caps (by rw [hl, e1]) (fun i ad q hq hr => ?_)
    have hlt : i < ids.length := by rw [← hl]; exact (List.getElem?_eq_some_iff.1 hq).1
    obtain rfl : wide = true := hw.resolve_right (by cases ids with | nil => simp at hlt | cons _ _ => simp [ownC])
    have h3 := e2 i _ q (List.getElem?_eq_getElem hlt) hr
    split at h3
    · rename_i sz cs hh
      obtain ⟨rs, hrs, rfl⟩ := Option.map_eq_some_iff.1 h3
      obtain ⟨b, o, c, sz2, cs2, hat, rfl⟩ := hp i _ ad (List.getElem?_eq_getElem hlt) hq
      obtain ⟨y, hat2, hey, hok⟩ := hnode (p := []) hh rfl
      have := at_unique hat2 hat
      subst this
      rw [er_ow_mk] at hey
      simp only [T.ow.injEq, true_and] at hey
      obtain ⟨rfl, rfl⟩ := hey
      have h4 := toRT_ok (S1 := calleeFr S0 w own true fx gv) (y := .ow (.blk b o c) sz2 1 cs2) (fun q hq => by
          have h1 := hI.wd.rk q hq
          simp only [calleeFr, if_true]
          exact ⟨by have := hI.wd.s0 q h1; have := hI.wd.sz; omega, fun ho => hown' q ho h1⟩) (fun q hq => hI.wd.fr q (hI.wd.rk q hq)) hok (fun q hq => by
          simp only [calleeFr, if_true]; exact hnotown hat q hq) (r := .sl 1 rs) (by rw [er_ow_mk, toRT, hrs]; rfl)
      cases h4 with
      | sl ad n c cs vs r1 r2 r3 r4 r5 r6 => exact .sl ⟨b, o, none⟩ 1 1 rs vs r1 r2 (Nat.le_refl _) r4 r5 r6
    · cases h3
/-- An argument to be read. -/
theorem roA_arg {own : List Nat} {wide : Bool} {fx : Nat → Nat → Prop} {gv : Nat → Value} {Mc : Heap} (hI : Inv S0 w0 M X w) (her : ∀ id, s.h id = (M id).map er) (hown : ∀ b ∈ own, b ∈ X.flatMap T.blocks) {v : DV} {u : Value} {pa : PA} {i : Nat}
    (hv : RelV S0 w0 M v u) (h : roA_ s v = some pa) (hw : wide = true ∨ ownV v = false) : RelV (calleeFr S0 w own wide fx gv) w Mc (argV i pa) u ∧ argH pa = none ∧ ∀ k, argG i pa k = .un := by
  have hown' : ∀ b ∈ own, ¬ S0.kp b := fun b hb => (hI.xb b (hown b hb)).2
  unfold roA_ at h
  split at h
  · obtain rfl := Option.some.inj h
    obtain ⟨hc, h1⟩ := hv
    cases hc with
    | rp cs ad hro => exact ⟨⟨.rp _ _ (ro_callee hI hown' hro), rfl⟩, rfl, fun k => rfl⟩
  · rename_i id p off
    obtain ⟨hc, h1⟩ := hv
    obtain rfl : wide = true := hw.resolve_right (by simp [ownV, ownC])
    split at h
    · rename_i root hr
      split at h
      · rename_i sz m cs hg
        obtain ⟨rs, hrs, rfl⟩ := Option.map_eq_some_iff.1 h
        cases hc with
        | pt _ _ _ b o c sz2 m2 cs2 hat =>
          have h := her id
          rw [hr] at h
          cases hm : M id with
          | none => rw [hm] at h; cases h
          | some t =>
            rw [hm] at h
            have hroot : root = er t := by simpa using h
            subst hroot
            unfold er at hg
            rw [T.get_map] at hg
            obtain ⟨y, hy, hye⟩ := Option.map_eq_some_iff.1 hg
            have := at_unique ⟨t, hm, hy⟩ hat
            subst this
            have hye' : er (.ow (.blk b o c) sz2 m2 cs2) = .ow () sz m cs := hye
            rw [er_ow_mk] at hye'
            simp only [T.ow.injEq, true_and] at hye'
            obtain ⟨rfl, rfl, rfl⟩ := hye'
            have hok := (hI.ok id t hm).get hy
            have hblk : ∀ q ∈ (T.ow (.blk b o c) sz2 m2 cs2 : A).blocks, q < w.heap.size ∧ q ∉ own := fun q hq => by
              have := get_mem_blocks hy q hq
              exact ⟨(hI.bl _ t q hm this).1, fun ho => hI.xd _ t hm q this (hown q ho)⟩
            have hros : ∀ q, S0.ro q → (calleeFr S0 w own true fx gv).ro q := fun q hq => by
              have h1 := hI.wd.rk q hq
              simp only [calleeFr, if_true]
              exact ⟨by have := hI.wd.s0 q h1; have := hI.wd.sz; omega, fun ho => hown' q ho h1⟩
            refine ⟨⟨.rp rs ⟨b, o + off, none⟩ ?_, rfl⟩, rfl, fun k => rfl⟩
            obtain ⟨g1, g2⟩ := toRTs_eq hrs
            cases hok with
            | ow _ _ _ _ _ _ cur ty fz k1 k2 k3 k4 k5 k6 k7 k8 k9 =>
              refine .sl ⟨b, o + off, none⟩ 1 1 rs ((cs2.drop off).map T.val) rfl (by simp only [calleeFr, if_true]; exact hblk b (by simp [T.blocks])) (Nat.le_refl _) (by rw [List.length_map, g1]; simp) (fun j v hj => ?_) (fun j v q hj hq => ?_)
              · rw [List.getElem?_map, Option.map_eq_some_iff] at hj
                obtain ⟨y, hy, rfl⟩ := hj
                rw [List.getElem?_drop] at hy
                simp only [World.cell?, k1]
                rw [Nat.add_assoc]
                simpa using k7 _ y hy
              · rw [List.getElem?_map, Option.map_eq_some_iff] at hj
                obtain ⟨y, hy, rfl⟩ := hj
                rw [List.getElem?_drop] at hy
                refine toRT_ok (S1 := calleeFr S0 w own true fx gv) hros (fun q hq => hI.wd.fr q (hI.wd.rk q hq)) (k8 y (List.mem_of_getElem? hy)) (fun q hq => ?_) (g2 j (er y) q (by rw [List.getElem?_drop, List.getElem?_map, hy]; rfl) hq)
                simp only [calleeFr, if_true]
                refine hblk q ?_
                rw [T.blocks_eq]
                exact List.mem_append_right _ (List.mem_flatMap.2 ⟨y, List.mem_of_getElem? hy, hq⟩)
      · cases h
    · cases h
  · rename_i c _ _
    obtain ⟨r, hr, rfl⟩ := Option.map_eq_some_iff.1 h
    obtain ⟨hc, h1⟩ := hv
    refine ⟨⟨.t _ _ (toRC_ok hI her hown hc hr hw), h1⟩, rfl, fun k => ?_⟩
    simp only [argG]
    split <;> rfl
  · rename_i cs
    obtain ⟨rs, hrs, rfl⟩ := Option.map_eq_some_iff.1 h
    obtain ⟨vs, rfl, hl, h1, h2⟩ := hv
    obtain ⟨e1, e2⟩ := mapO_some hrs
    have hdf : ∀ (rs : List RT) (j : Nat), dcsFrom i j (rs.map .r) = rs.map .t := by
      intro rs
      induction rs with
      | nil => intro j; rfl
      | cons r rs ih => intro j; simp [dcsFrom, PC.dc, ih]
    refine ⟨⟨vs, rfl, by rw [hdf, List.length_map, e1]; exact hl, fun j c u hc hu => ?_, h2⟩, ?_, fun k => ?_⟩
    · rw [hdf, List.getElem?_map, Option.map_eq_some_iff] at hc
      obtain ⟨r, hr, rfl⟩ := hc
      have hjl : j < cs.length := by rw [← e1]; exact (List.getElem?_eq_some_iff.1 hr).1
      refine .t _ _ (toRC_ok hI her hown (h1 j _ u (List.getElem?_eq_getElem hjl) hu) (e2 j _ r (List.getElem?_eq_getElem hjl) hr) ?_)
      rcases hw with hw | hw
      · exact .inl hw
      · right
        simp only [ownV, List.any_eq_false] at hw
        simpa using hw _ (List.getElem_mem hjl)
    · simp [argH, PC.isR]
    · simp only [argG, List.getElem?_map]
      cases rs[k]? <;> rfl
  · cases h
end
end Go.Proofs.Ytciieaidbiejmaa.DM

/-
  DM 15. The call: what is handed over; what comes back.
-/
namespace Go.Proofs.Ytciieaidbiejmaa.DM
set_option linter.unusedVariables false
set_option linter.unusedSimpArgs false
section
variable {S0 : Fr} {w0 w w' : World} {M M' : Heap} {X : List A} {P : Program} {nt : Nat} {s : FS} {a : Act}
/-- BEHIND A CALL, told in the caller's frame. -/
theorem call_back2 {own : List Nat} {wide : Bool} {fx : Nat → Nat → Prop} {gv : Nat → Value} {M1 : Heap} {Y Z : List A} (hI : Inv S0 w0 M X w) (hX : ∀ b, b ∈ own → b ∈ X.flatMap T.blocks)
    (hc : Inv (calleeFr S0 w own wide fx gv) w M1 Y w') (hZ : ∀ z ∈ Z, Ok S0 w0 w' z ∧ z.isHold = false)
    (hsub : ∀ b ∈ Z.flatMap T.blocks, b < w'.heap.size ∧ (b ∈ X.flatMap T.blocks ∨ ¬ (calleeFr S0 w own wide fx gv).kp b)) (hnd : (Z.flatMap T.blocks).Nodup) : Inv S0 w0 M Z w' := by
  have hkeep : ∀ k, k < w.heap.size → k ∉ own → w'.heap[k]? = w.heap[k]? := fun k h1 h2 => hc.wd.fr k ⟨h1, h2⟩
  have hMown : ∀ id t, M id = some t → ∀ b ∈ t.blocks, b ∉ own := fun id t ht b hb ho => hI.xd id t ht b hb (hX b ho)
  have hkp : ∀ b, S0.kp b → b < w.heap.size ∧ b ∉ own := fun b hb => ⟨by have := hI.wd.s0 b hb; have := hI.wd.sz; omega, fun ho => (hI.xb b (hX b ho)).2 hb⟩
  refine ⟨fun id t ht => (hI.ok id t ht).frame fun b hb => hkeep b (hI.bl id t b ht hb).1 (hMown id t ht b hb), hI.nd, hI.dj, fun id t b ht hb => ⟨by have := (hI.bl id t b ht hb).1; have := hc.wd.sz; omega, (hI.bl id t b ht hb).2⟩, ?_, hZ, hnd, fun id t ht b hb hbz => ?_, fun b hb => ⟨(hsub b hb).1, fun hk => ?_⟩⟩
  · refine ⟨fun k hk => ?_, hI.wd.s0, hI.wd.tb, by have := hc.wd.sz; have := hI.wd.sz; omega, hI.wd.rk, fun b j h => ?_, hc.wd.oo.1.trans hI.wd.oo.1, hc.wd.oo.2.1.trans hI.wd.oo.2.1, hc.wd.oo.2.2.trans hI.wd.oo.2.2⟩
    · rw [hkeep k (hkp k hk).1 (hkp k hk).2]; exact hI.wd.fr k hk
    · obtain ⟨h1, h2⟩ := hI.wd.fx b j h
      refine ⟨h1, ?_⟩
      rw [← h2]
      exact (hc.wd.fx b j (.inl h)).2
  · rcases (hsub b hbz).2 with h | h
    · exact hI.xd id t ht b hb h
    · exact h ⟨(hI.bl id t b ht hb).1, hMown id t ht b hb⟩
  · rcases (hsub b hb).2 with h | h
    · exact (hI.xb b h).2 hk
    · exact h (hkp b hk)
/-- What comes back out of the callee's frame is held by the caller. -/
theorem conv_back {own : List Nat} {wide : Bool} {fx : Nat → Nat → Prop} {gv : Nat → Value} {z : A} (hI : Inv S0 w0 M X w) (h : Ok (calleeFr S0 w own wide fx gv) w w' z) (hro : wide = false ∨ noRo (er z) = true) : Ok S0 w0 w' z :=
  h.conv (fun b j h => .inl h) (by
    rcases hro with rfl | h
    · exact .inl fun u r h => ro_back hI h
    · exact .inr h)
/-- What the caller holds, az the callee holds it. -/
theorem Ok.down {own : List Nat} {wide : Bool} {fx : Nat → Nat → Prop} {gv : Nat → Value} (hI : Inv S0 w0 M X w) (hown : ∀ b ∈ own, ¬ S0.kp b) {z : A} (h : Ok S0 w0 w z) : (∀ b ∈ z.blocks, ∀ j, ¬ fx b j) → Ok (calleeFr S0 w own wide fx gv) w w z := by
  induction h with
  | sc v hv => intro _; exact .sc v hv
  | ro u r hr => intro _; exact .ro u r (ro_callee hI hown hr)
  | ow b o c sz n cs cur ty fz h1 h2 h3 h4 h5 h6 h7 h8 h9 ih =>
    intro hf
    refine .ow b o c sz n cs cur ty fz h1 h2 ⟨h3.1, h3.2.1, fun j hj hfx => ?_⟩ h4 h5 h6 h7 (fun x hx => ih x hx fun b' hb' => hf b' ?_) h9
    · rcases hfx with hfx | hfx
      · exact h3.2.2 j hj hfx
      · exact hf b (by simp [T.blocks]) _ hfx
    · rw [T.blocks_eq]
      exact List.mem_append_right _ (List.mem_flatMap.2 ⟨x, hx, hb'⟩)
  | em a sz => intro _; exact .em a sz
  | hold cs h1 h2 ih =>
    intro hf
    refine .hold cs (fun x hx => ih x hx fun b' hb' => hf b' ?_) h2
    rw [T.blocks_eq]
    exact List.mem_append_right _ (List.mem_flatMap.2 ⟨x, hx, hb'⟩)
  | gone u hu => intro _; exact .gone u hu
/-- The callee's world with one entry. -/
def oneH (io : Nat) (ent : Option A) : Heap := fun i => if i = io then ent else none
theorem oneH_some {io i : Nat} {ent : Option A} {t : A} (h : oneH io ent i = some t) : i = io ∧ ent = some t := by
  unfold oneH at h
  split at h
  · rename_i hi; exact ⟨hi, h⟩
  · cases h
theorem callee_inv {own : List Nat} {wide : Bool} {fx : Nat → Nat → Prop} {gv : Nat → Value} (hI : Inv S0 w0 M X w) (hX : ∀ b, b ∈ own → b ∈ X.flatMap T.blocks) (hfx : ∀ b j, fx b j → b < w.heap.size) (io : Nat) (ent : Option A)
    (ho : ∀ t, ent = some t → Ok (calleeFr S0 w own wide fx gv) w w t) (hn : ∀ t, ent = some t → t.blocks.Nodup) (hs : ∀ t, ent = some t → ∀ b ∈ t.blocks, b ∈ own) : Inv (calleeFr S0 w own wide fx gv) w (oneH io ent) [] w := by
  have hown : ∀ b ∈ own, ¬ S0.kp b := fun b hb => (hI.xb b (hX b hb)).2
  refine ⟨fun i t h => ho t (oneH_some h).2, fun i t h => hn t (oneH_some h).2, fun i j t t' hij h h' => absurd ((oneH_some h).1.trans (oneH_some h').1.symm) hij, fun i t b h hb => ?_, callee_wd hI hown hfx, by simp, by simp, by simp, by simp⟩
  have := hs t (oneH_some h).2 b hb
  exact ⟨(hI.xb b (hX b this)).1, fun hk => hk.2 this⟩
/-- The other arguments are read. -/
def rosOk (s : FS) (io : Nat) : Nat → List DV → List PA → Prop
  | i, v :: vs, pa :: az => (i ≠ io → roA_ s v = some pa) ∧ rosOk s io (i + 1) vs az
  | _, [], [] => True
  | _, _, _ => False
theorem rosOk_at {io : Nat} : ∀ {k : Nat} {vs : List DV} {az : List PA}, rosOk s io k vs az → vs.length = az.length ∧ ∀ (i : Nat) (v : DV) (pa : PA), vs[i]? = some v → az[i]? = some pa → k + i ≠ io → roA_ s v = some pa
  | k, [], [], _ => ⟨rfl, fun i v pa h => by simp at h⟩
  | k, [], _ :: _, h => by simp [rosOk] at h
  | k, _ :: _, [], h => by simp [rosOk] at h
  | k, v :: vs, pa :: az, h => by
    obtain ⟨h1, h2⟩ := h
    obtain ⟨g1, g2⟩ := rosOk_at h2
    refine ⟨by simp [g1], fun i v' pa' hv hp hi => ?_⟩
    cases i with
    | zero => simp at hv hp; subst hv; subst hp; exact h1 (by simpa using hi)
    | succ i => exact g2 i v' pa' (by simpa using hv) (by simpa using hp) (by omega)
def widen (io : Nat) : Nat → List DV → Bool
  | _, [] => false
  | i, v :: vs => (i != io && ownV v) || widen io (i + 1) vs
theorem widen_at {io : Nat} : ∀ {k : Nat} {vs : List DV}, widen io k vs = false → ∀ (i : Nat) (v : DV), vs[i]? = some v → k + i ≠ io → ownV v = false
  | k, [], _, i, v, h, _ => by simp at h
  | k, u :: vs, h, i, v, hv, hi => by
    simp only [widen, Bool.or_eq_false_iff, Bool.and_eq_false_iff] at h
    cases i with
    | zero =>
      simp at hv; subst hv
      rcases h.1 with h1 | h1
      · simp at h1; exact absurd h1 (by simpa using hi)
      · exact h1
    | succ i => exact widen_at h.2 i v (by simpa using hv) (by omega)
/-- THE CALL's MIDDLE: the callee runs upon one entry and what is read. -/
theorem call_core {own : List Nat} {wide : Bool} {fx : Nat → Nat → Prop} {gv : Nat → Value} {f io : Nat} {az az' : List PA} {sh : List (Option Nat)} {ds : List D} {vs : List DV} {vals : List Value} {ent : Option A}
    (hI : Inv S0 w0 M X w) (her : ∀ id, s.h id = (M id).map er) (hX : ∀ b, b ∈ own → b ∈ X.flatMap T.blocks) (hS : Spec P f az sh ds az') (hl : vals.length = vs.length)
    (hv : ∀ (i : Nat) (v : DV) (u : Value), vs[i]? = some v → vals[i]? = some u → i ≠ io → RelV S0 w0 M v u) (hr : rosOk s io 0 vs az) (hw : wide = true ∨ widen io 0 vs = false)
    (hIc : Inv (calleeFr S0 w own wide fx gv) w (oneH io ent) [] w)
    (hio : ∀ pa u, az[io]? = some pa → vals[io]? = some u → RelV (calleeFr S0 w own wide fx gv) w (oneH io ent) (argV io pa) u ∧ argH pa = ent.map er ∧ ∀ k, k < 64 → RelC (calleeFr S0 w own wide fx gv) w (oneH io ent) (argG io pa k) (gv (io * 64 + k)))
    (hno : az[io]? = none → ent = none) :
    Calls P f vals.toArray w fun e w' => ∃ (v : Value) (s1 : FS) (M1 : Heap) (Y : List A), e = .returned v ∧ Inv (calleeFr S0 w own wide fx gv) w M1 Y w' ∧ (∀ id, s1.h id = (M1 id).map er) ∧ (∀ i, RelC (calleeFr S0 w own wide fx gv) w M1 (s1.g i) (gv i)) ∧
      Y.map er = ds ∧ ds.length = shLen sh ∧ v = packV sh (Y.map T.val) ∧ az'.length = az.length ∧ ∀ (i : Nat) (pa : PA), az[i]? = some pa → ∃ pa', az'[i]? = some pa' ∧ backA s1 i pa = some pa' := by
  obtain ⟨r1, r2⟩ := rosOk_at hr
  have hro : ∀ (i : Nat) (pa : PA) (u : Value), i ≠ io → az[i]? = some pa → vals[i]? = some u → RelV (calleeFr S0 w own wide fx gv) w (oneH io ent) (argV i pa) u ∧ argH pa = none ∧ ∀ k, argG i pa k = .un := fun i pa u hi hp hu => by
    have hlt : i < vs.length := by rw [← hl]; exact (List.getElem?_eq_some_iff.1 hu).1
    refine roA_arg hI her hX (hv i _ u (List.getElem?_eq_getElem hlt) hu hi) (r2 i _ pa (List.getElem?_eq_getElem hlt) hp (by simpa using hi)) ?_
    rcases hw with hw | hw
    · exact .inl hw
    · exact .inr (widen_at hw i _ (List.getElem?_eq_getElem hlt) (by simpa using hi))
  have hval : ∀ (i : Nat) (pa : PA), az[i]? = some pa → ∃ u, vals[i]? = some u := fun i pa hp => by
    have : i < vals.length := by rw [hl, r1]; exact (List.getElem?_eq_some_iff.1 hp).1
    exact ⟨_, List.getElem?_eq_getElem this⟩
  refine hS.2 _ w (oneH io ent) vals hIc (by rw [hl, r1]) (fun id => ?_) (fun i pa u hp hu => ?_) (fun k => ?_)
  · simp only [initFS, oneH]
    by_cases hi : id = io
    · subst hi
      simp only [if_true]
      cases hp : az[id]? with
      | none => rw [hno hp]; rfl
      | some pa =>
        obtain ⟨u, hu⟩ := hval id pa hp
        exact (hio pa u hp hu).2.1
    · simp only [if_neg hi, Option.map_none]
      cases hp : az[id]? with
      | none => rfl
      | some pa =>
        obtain ⟨u, hu⟩ := hval id pa hp
        exact (hro id pa u hi hp hu).2.1
  · by_cases hi : i = io
    · subst hi; exact (hio pa u hp hu).1
    · exact (hro i pa u hi hp hu).1
  · simp only [initFS]
    cases hp : az[k / 64]? with
    | none => exact .un _
    | some pa =>
      obtain ⟨u, hu⟩ := hval _ pa hp
      by_cases hi : k / 64 = io
      · have := (hio pa u (hi ▸ hp) (hi ▸ hu)).2.2 (k % 64) (Nat.mod_lt _ (by omega))
        have hk : io * 64 + k % 64 = k := by omega
        rw [hk] at this
        rw [hi]
        exact this
      · show RelC _ _ _ (argG (k / 64) pa (k % 64)) _
        rw [(hro _ pa u hi hp hu).2.2]
        exact .un _
theorem noRoL_mem' {Y : List A} (h : noRoL (Y.map er) = true) : ∀ z ∈ Y, noRo (er z) = true := fun z hz => noRoL_mem h _ (List.mem_map_of_mem hz)
/-- A call with arguments that are only read. -/
theorem call_N {f : Nat} {az az' : List PA} {sh : List (Option Nat)} {ds : List D} {vs : List DV} {vals : List Value} (hR : Rel S0 w0 nt s M a w) (hS : Spec P f az sh ds az') (hl : vals.length = vs.length)
    (hv : ∀ (i : Nat) (v : DV) (u : Value), vs[i]? = some v → vals[i]? = some u → RelV S0 w0 M v u) (hr : rosOk s az.length 0 vs az) (hw : widen az.length 0 vs = false ∨ noRoL ds = true) :
    Calls P f vals.toArray w fun e w' => ∃ (v : Value) (Y : List A), e = .returned v ∧ RelX S0 w0 nt s M Y a w' ∧ Y.map er = ds ∧ ds.length = shLen sh ∧ v = packV sh (Y.map T.val) := by
  have hX : ∀ b, b ∈ ([] : List Nat) → b ∈ ([] : List A).flatMap T.blocks := by simp
  have hlen := (rosOk_at hr).1
  refine Calls.mono (call_core (own := []) (wide := widen az.length 0 vs) (fx := fun _ _ => False) (gv := fun _ => undef) (ent := none) hR.inv hR.er hX hS hl (fun i v u h1 h2 _ => hv i v u h1 h2) hr (by cases widen az.length 0 vs <;> simp) (callee_inv hR.inv hX (by simp) _ none (by simp) (by simp) (by simp)) (fun pa u h => by simp at h) (fun _ => rfl)) ?_
  rintro e w' ⟨v, s1, M1, Y, rfl, hIc, _, _, e1, e2, e3, _, _⟩
  refine ⟨v, Y, rfl, ?_, e1, e2, e3⟩
  refine ⟨call_back2 hR.inv hX hIc (fun z hz => ⟨conv_back hR.inv (hIc.xo z hz).1 ?_, (hIc.xo z hz).2⟩) (fun b hb => ⟨(hIc.xb b hb).1, .inr (hIc.xb b hb).2⟩) hIc.xn, hR.er, hR.en, hR.nt, hR.df, hR.gh⟩
  rcases hw with hw | hw
  · exact .inl hw
  · exact .inr (noRoL_mem' (by rw [e1]; exact hw) z hz)
end
end Go.Proofs.Ytciieaidbiejmaa.DM

/-
  DM 16. Arguments that are handed over: given away; lent.
-/
namespace Go.Proofs.Ytciieaidbiejmaa.DM
set_option linter.unusedVariables false
set_option linter.unusedSimpArgs false
open Classical in
/-- Cells that are given away, or read. -/
noncomputable def giveG : FS → List DC → List PC → Option FS
  | s, [], [] => some s
  | s, c :: cs, .r r :: pcs => if toRC s c = some r ∧ ownC c = false then giveG s cs pcs else none
  | s, c :: cs, .c sz n xs :: pcs => match absorb s c with
    | some (x, s1) => if x = .ow () sz n xs ∨ (x = .ow () 0 0 [] ∧ n = 0 ∧ xs = []) then giveG s1 (cs.map (pzOf c)) pcs else none
    | none => none
  | _, _, _ => none
termination_by _ cs _ => cs.length
decreasing_by all_goals simp
def shapeOf : DV → PA → Option (List DC × List PC)
  | .v (.one c), .one pc => some ([c], [pc])
  | .v (.agg cs), .agg pcs => some (cs, pcs)
  | _, _ => none
section
variable {S0 : Fr} {w0 w w' : World} {M M' : Heap} {X : List A} {P : Program} {nt : Nat} {s : FS} {a : Act}
/-- A cell, az the callee has it. -/
def HandC (S0 : Fr) (w0 : World) (pc : PC) (z : A) (u : Value) : Prop := match pc with
  | .r r => RoC S0 w0 u r ∧ z = .gone u
  | .m sz n cs => er z = .ow () sz n cs ∧ z.val = u
  | .c sz n cs => er z = .ow () sz n cs ∧ z.val = u
def HandL (S0 : Fr) (w0 : World) : List PC → List A → List Value → Prop
  | pc :: pcs, z :: zs, u :: us => HandC S0 w0 pc z u ∧ HandL S0 w0 pcs zs us
  | [], [], [] => True
  | _, _, _ => False
theorem HandL.at {pcs : List PC} {zs : List A} {us : List Value} (h : HandL S0 w0 pcs zs us) : zs.length = pcs.length ∧ us.length = pcs.length ∧ ∀ (j : Nat) (pc : PC) (z : A) (u : Value), pcs[j]? = some pc → zs[j]? = some z → us[j]? = some u → HandC S0 w0 pc z u := by
  induction pcs generalizing zs us with
  | nil => cases zs <;> cases us <;> first | exact ⟨rfl, rfl, fun j pc z u hp => by simp at hp⟩ | (simp [HandL] at h)
  | cons pc pcs ih => cases zs with
    | nil => simp [HandL] at h
    | cons z zs => cases us with
      | nil => simp [HandL] at h
      | cons u us =>
        obtain ⟨h1, h2⟩ := h
        obtain ⟨g1, g2, g3⟩ := ih h2
        refine ⟨by simp [g1], by simp [g2], fun j pc' z' u' hp hz hu => ?_⟩
        cases j with
        | zero => simp at hp hz hu; subst hp; subst hz; subst hu; exact h1
        | succ j => exact g3 j pc' z' u' (by simpa using hp) (by simpa using hz) (by simpa using hu)
theorem HandL.frame {S1 : Fr} {w1 : World} {pcs : List PC} {zs : List A} {us : List Value} (h : HandL S0 w0 pcs zs us) (hr : ∀ u r, RoC S0 w0 u r → RoC S1 w1 u r) : HandL S1 w1 pcs zs us := by
  induction pcs generalizing zs us with
  | nil => cases zs <;> cases us <;> first | trivial | (simp [HandL] at h)
  | cons pc pcs ih => cases zs with
    | nil => simp [HandL] at h
    | cons z zs => cases us with
      | nil => simp [HandL] at h
      | cons u us =>
        refine ⟨?_, ih h.2⟩
        have := h.1
        cases pc with
        | r r => exact ⟨hr _ _ this.1, this.2⟩
        | _ => exact this
theorem HandL.erL {pcs : List PC} {zs : List A} {us : List Value} (h : HandL S0 w0 pcs zs us) : zs.map er = pcs.map PC.tree := by
  induction pcs generalizing zs us with
  | nil => cases zs <;> cases us <;> first | rfl | (simp [HandL] at h)
  | cons pc pcs ih => cases zs with
    | nil => simp [HandL] at h
    | cons z zs => cases us with
      | nil => simp [HandL] at h
      | cons u us =>
        have h1 := h.1
        rw [List.map_cons, List.map_cons, ih h.2]
        congr 1
        cases pc with
        | r r => rw [h1.2]; rfl
        | _ => exact h1.1
def entOf (pcs : List PC) (zs : List A) : Option A := if pcs.all PC.isR then none else some (.hold zs)
theorem er_hold (zs : List A) : er (.hold zs) = .hold (zs.map er) := by simp only [er, T.map, T.mapL_eq]; rfl
theorem dcsFrom_get {i : Nat} : ∀ {pcs : List PC} {k j : Nat} {d : DC}, (dcsFrom i k pcs)[j]? = some d → ∃ pc, pcs[j]? = some pc ∧ d = pc.dc i (k + j)
  | [], k, j, d, h => by simp [dcsFrom] at h
  | pc :: pcs, k, j, d, h => by
    cases j with
    | zero => simp [dcsFrom] at h; exact ⟨pc, rfl, by simpa using h.symm⟩
    | succ j =>
      obtain ⟨pc', h1, h2⟩ := dcsFrom_get (k := k + 1) (j := j) (by simpa [dcsFrom] using h)
      exact ⟨pc', by simpa using h1, by rw [h2]; congr 1; omega⟩
theorem dcsFrom_length {i : Nat} : ∀ (pcs : List PC) (k : Nat), (dcsFrom i k pcs).length = pcs.length
  | [], k => rfl
  | pc :: pcs, k => by simp [dcsFrom, dcsFrom_length pcs]
/-- A row that the callee holds, referred to whole. -/
theorem hold_cell {io j : Nat} {pcs : List PC} {zs : List A} {pc : PC} {z : A} {u : Value} (hok : ∀ z ∈ zs, Ok S0 w0 w z) (hp : pcs[j]? = some pc) (hz : zs[j]? = some z) (h : HandC S0 w0 pc z u) : RelC S0 w0 (oneH io (entOf pcs zs)) (pc.dc io j) u := by
  have hrow : ∀ (sz n : Nat) (cs : List D), pc.isR = false → er z = .ow () sz n cs ∧ z.val = u → RelC S0 w0 (oneH io (entOf pcs zs)) (.sl io [j] 0 n) u := fun sz n cs hr ⟨h1, h2⟩ => by
    have hent : entOf pcs zs = some (.hold zs) := by
      unfold entOf
      rw [if_neg]
      intro hall
      have := List.all_eq_true.1 hall pc (List.mem_of_getElem? hp)
      rw [hr] at this
      cases this
    have hat : at_ (oneH io (entOf pcs zs)) io ([] ++ [j]) z := ⟨.hold zs, by simp [oneH, hent], by simp [T.get, T.cells, hz]⟩
    have := rdC_ok (p := []) hat (hok z (List.mem_of_getElem? hz)) (c := .sl io [j] 0 n) (by rw [h1]; rfl)
    rw [← h2]
    exact this.1
  cases pc with
  | r r => exact .t _ _ h.1
  | m sz n cs => exact hrow sz n cs rfl h
  | c sz n cs => exact hrow sz n cs rfl h
/-- An argument that is handed over cell by cell. -/
theorem hand_ok {v : DV} {pa : PA} {cs : List DC} {pcs : List PC} {u : Value} (h : shapeOf v pa = some (cs, pcs)) (hv : RelV S0 w0 M v u) : ∃ us, RelL S0 w0 M cs us ∧
    ∀ {F : Fr} {w1 w2 : World} {io : Nat} {zs : List A}, HandL F w1 pcs zs us → (∀ z ∈ zs, Ok F w1 w2 z) →
      RelV F w1 (oneH io (entOf pcs zs)) (argV io pa) u ∧ argH pa = (entOf pcs zs).map er ∧ ∀ k, k < 64 → RelC F w1 (oneH io (entOf pcs zs)) (argG io pa k) (us.getD k undef) := by
  have gh : ∀ {F : Fr} {w1 : World} {io k : Nat} {zs : List A} {pc : PC} {us : List Value}, RelC F w1 (oneH io (entOf pcs zs)) (pc.dc io k) (us.getD k undef) → RelC F w1 (oneH io (entOf pcs zs)) (pc.gh io k) (us.getD k undef) := fun {F w1 io k zs pc us} h => by
    cases pc with
    | m sz n cs => exact h
    | r r => exact .un _
    | c sz n cs => exact .un _
  unfold shapeOf at h
  split at h
  · rename_i c pc
    simp only [Option.some.injEq, Prod.mk.injEq] at h
    obtain ⟨rfl, rfl⟩ := h
    refine ⟨[u], ⟨rfl, fun i c' u' hc hu => ?_, fun u' hu' => by simp at hu'; subst hu'; exact hv.2⟩, fun {F w1 w2 io zs} hz hok => ?_⟩
    · cases i with
      | zero => simp at hc hu; subst hc; subst hu; exact hv.1
      | succ i => simp at hc
    · obtain ⟨e1, e2, e3⟩ := hz.at
      cases zs with
      | nil => simp at e1
      | cons z zs =>
        have hzs : zs = [] := by simpa using e1
        subst hzs
        have hc := hold_cell (io := io) (j := 0) (pcs := [pc]) (zs := [z]) hok rfl rfl (e3 0 pc z u rfl rfl rfl)
        refine ⟨⟨hc, hv.2⟩, ?_, fun k hk => ?_⟩
        · have := hz.erL
          simp only [List.map_cons, List.map_nil, List.cons.injEq, and_true] at this
          unfold argH entOf
          simp only [List.all_cons, List.all_nil, Bool.and_true]
          split
          · rfl
          · rw [Option.map_some, er_hold]; simp [this]
        · simp only [argG]
          split
          · rename_i hk0
            subst hk0
            exact gh hc
          · exact .un _
  · rename_i cs' pcs'
    simp only [Option.some.injEq, Prod.mk.injEq] at h
    obtain ⟨rfl, rfl⟩ := h
    obtain ⟨us, rfl, hl, h1, h2⟩ := hv
    refine ⟨us, ⟨hl, h1, h2⟩, fun {F w1 w2 io zs} hz hok => ?_⟩
    obtain ⟨e1, e2, e3⟩ := hz.at
    refine ⟨⟨us, rfl, by rw [dcsFrom_length]; exact e2, fun i c u' hc hu => ?_, h2⟩, ?_, fun k hk => ?_⟩
    · obtain ⟨pc, hp, rfl⟩ := dcsFrom_get hc
      have hlt : i < zs.length := by rw [e1]; exact (List.getElem?_eq_some_iff.1 hp).1
      rw [Nat.zero_add]
      exact hold_cell hok hp (List.getElem?_eq_getElem hlt) (e3 i pc _ u' hp (List.getElem?_eq_getElem hlt) hu)
    · unfold entOf
      show (if pcs'.all PC.isR then none else some (T.hold (pcs'.map PC.tree))) = _
      split
      · rfl
      · rw [Option.map_some, er_hold, hz.erL]
    · simp only [argG]
      cases hp : pcs'[k]? with
      | none => exact .un _
      | some pc =>
        have hlt : k < zs.length := by rw [e1]; exact (List.getElem?_eq_some_iff.1 hp).1
        have hlu : k < us.length := by rw [e2]; exact (List.getElem?_eq_some_iff.1 hp).1
        refine gh ?_
        have := hold_cell (io := io) hok hp (List.getElem?_eq_getElem hlt) (e3 k pc _ us[k] hp (List.getElem?_eq_getElem hlt) (List.getElem?_eq_getElem hlu))
        rw [List.getD_eq_getElem?_getD, List.getElem?_eq_getElem hlu]
        exact this
  · cases h
theorem toRC_flat {c : DC} {u : Value} {r : RT} (hc : RelC S0 w0 M c u) (h : toRC s c = some r) (ho : ownC c = false) : RoC S0 w0 u r := by
  cases hc with
  | un v => simp [toRC] at h
  | t q v hro => simp only [toRC, Option.some.injEq] at h; subst h; exact hro
  | nl a0 => simp only [toRC, Option.some.injEq] at h; subst h; exact .em a0 0
  | sl => simp [ownC] at ho
  | se => simp [ownC] at ho
  | pt => simp [ownC] at ho
  | rp => simp [toRC] at h
  | fn f ids ps hl hp =>
    cases ids with
    | cons i ids => simp [ownC] at ho
    | nil =>
      simp only [toRC, mapO, Option.map_some, Option.some.injEq] at h
      subst h
      exact .fn f ps [] hl (fun i ad r h1 h2 => by simp at h2)
/-- Cells are given away. -/
theorem giveG_ok : ∀ {pcs : List PC} {cs : List DC} {us : List Value} {s : FS} {M : Heap} {X : List A} {s1 : FS}, RelX S0 w0 nt s M X a w → RelL S0 w0 M cs us → giveG s cs pcs = some s1 →
    ∃ M1 zs ys, RelX S0 w0 nt s1 M1 (X ++ ys) a w ∧ HandL S0 w0 pcs zs us ∧ (∀ z ∈ zs, Ok S0 w0 w z ∧ z.isHold = false) ∧ zs.flatMap T.blocks = ys.flatMap T.blocks := by
  intro pcs
  induction pcs with
  | nil =>
    intro cs us s M X s1 hR hL h
    cases cs with
    | cons c cs => simp [giveG] at h
    | nil =>
      have hv : us = [] := List.length_eq_zero_iff.1 (by simpa using hL.1)
      subst hv
      simp only [giveG, Option.some.injEq] at h
      subst h
      exact ⟨M, [], [], by simpa using hR, trivial, by simp, rfl⟩
  | cons pc pcs ih =>
    intro cs us s M X s1 hR hL h
    cases cs with
    | nil => cases pc <;> simp [giveG] at h
    | cons c cs =>
      cases us with
      | nil => have := hL.1; simp at this
      | cons u us =>
        obtain ⟨hc, h1, hL'⟩ := hL.head
        cases pc with
        | m sz n xs => simp [giveG] at h
        | r r =>
          rw [giveG] at h
          split at h
          · rename_i hcond
            obtain ⟨M1, zs, ys, g1, g2, g3, g4⟩ := ih hR hL' h
            refine ⟨M1, .gone u :: zs, ys, g1, ⟨⟨toRC_flat hc hcond.1 hcond.2, rfl⟩, g2⟩, fun z hz => ?_, by simpa [T.blocks] using g4⟩
            rcases List.mem_cons.1 hz with rfl | hz
            · exact ⟨.gone u h1, rfl⟩
            · exact g3 z hz
          · cases h
        | c sz n xs =>
          rw [giveG] at h
          split at h
          · rename_i x s2 hx
            split at h
            · rename_i hcond
              obtain ⟨M1, y, hR1, e1, e2, e3, hk⟩ := absorb_ok hR hc h1 hx
              obtain ⟨M2, zs, ys, g1, g2, g3, g4⟩ := ih hR1 (hL'.map hk) h
              have hyok : Ok S0 w0 w y := (hR1.inv.xo y (by simp)).1
              have hgoal : ∃ z, HandC S0 w0 (.c sz n xs) z u ∧ Ok S0 w0 w z ∧ z.isHold = false ∧ z.blocks = y.blocks := by
                rcases hcond with rfl | ⟨rfl, rfl, rfl⟩
                · exact ⟨y, ⟨e1, e2⟩, hyok, e3, rfl⟩
                · cases y with
                  | ow d sz' n' cs' =>
                    rw [er_ow_mk] at e1
                    simp only [T.ow.injEq, true_and] at e1
                    obtain ⟨rfl, rfl, hcs⟩ := e1
                    have hcs : cs' = [] := by simpa using hcs
                    subst hcs
                    cases hyok with
                    | ow b o c _ _ _ cur ty fz k1 k2 k3 => exact absurd k3.2.1 (by omega)
                    | em a0 _ => exact ⟨.ow (.emp a0) sz 0 [], ⟨rfl, e2⟩, .em a0 sz, rfl, by simp [T.blocks]⟩
                  | _ => simp [er, T.map] at e1
              obtain ⟨z, z1, z2, z3, z4⟩ := hgoal
              refine ⟨M2, z :: zs, y :: ys, by simpa using g1, ⟨z1, g2⟩, fun z' hz => ?_, by simp [z4, g4]⟩
              rcases List.mem_cons.1 hz with rfl | hz
              · exact ⟨z2, z3⟩
              · exact g3 z' hz
            · cases h
          · cases h
theorem ho_nodup {pcs : List PC} {zs : List A} {t : A} (h : entOf pcs zs = some t) : t = .hold zs := by
  unfold entOf at h
  split at h
  · cases h
  · exact (Option.some.inj h).symm
theorem hold_blocks (zs : List A) : (T.hold zs : A).blocks = zs.flatMap T.blocks := by simp [T.blocks, T.blocksL_eq]
/-- A call with an argument that is given away. -/
theorem call_G {f io : Nat} {az az' : List PA} {sh : List (Option Nat)} {ds : List D} {vs vs1 : List DV} {vals : List Value} {v : DV} {pa : PA} {cs : List DC} {pcs : List PC} {s1 : FS} (hR : Rel S0 w0 nt s M a w) (hS : Spec P f az sh ds az')
    (hl : vals.length = vs.length) (hv : ∀ (i : Nat) (v : DV) (u : Value), vs[i]? = some v → vals[i]? = some u → RelV S0 w0 M v u) (hio : vs[io]? = some v) (hpa : az[io]? = some pa) (hsh : shapeOf v pa = some (cs, pcs)) (hg : giveG s cs pcs = some s1)
    (hv1 : ∀ (M1 : Heap) (X : List A), RelX S0 w0 nt s1 M1 X a w → vals.length = vs1.length ∧ ∀ (i : Nat) (v : DV) (u : Value), vs1[i]? = some v → vals[i]? = some u → RelV S0 w0 M1 v u)
    (hr : rosOk s1 io 0 vs1 az) (hw : widen io 0 vs1 = false ∨ noRoL ds = true) :
    Calls P f vals.toArray w fun e w' => ∃ (v : Value) (M1 : Heap) (Y : List A), e = .returned v ∧ RelX S0 w0 nt s1 M1 Y a w' ∧ Y.map er = ds ∧ ds.length = shLen sh ∧ v = packV sh (Y.map T.val) := by
  have hlt : io < vals.length := by rw [hl]; exact (List.getElem?_eq_some_iff.1 hio).1
  obtain ⟨us, hL, hhand⟩ := hand_ok hsh (hv io v _ hio (List.getElem?_eq_getElem hlt))
  obtain ⟨M1, zs, ys, hR1, hH, hzo, hzb⟩ := giveG_ok hR hL hg
  rw [List.nil_append] at hR1
  obtain ⟨l1, l2⟩ := hv1 M1 ys hR1
  have hX : ∀ b, b ∈ zs.flatMap T.blocks → b ∈ ys.flatMap T.blocks := fun b hb => hzb ▸ hb
  have hown : ∀ b ∈ zs.flatMap T.blocks, ¬ S0.kp b := fun b hb => (hR1.inv.xb b (hX b hb)).2
  have hzok : ∀ z ∈ zs, Ok (calleeFr S0 w (zs.flatMap T.blocks) (widen io 0 vs1) (fun _ _ => False) (fun k => us.getD (k % 64) undef)) w w z := fun z hz => (hzo z hz).1.down hR1.inv hown (fun b _ j => by simp)
  have hIc := callee_inv (own := zs.flatMap T.blocks) (wide := widen io 0 vs1) (fx := fun _ _ => False) (gv := fun k => us.getD (k % 64) undef) hR1.inv hX (by simp) io (entOf pcs zs)
    (fun t ht => by rw [ho_nodup ht]; exact .hold zs hzok (fun z hz => (hzo z hz).2))
    (fun t ht => by rw [ho_nodup ht, hold_blocks, hzb]; exact hR1.inv.xn) (fun t ht b hb => by rw [ho_nodup ht, hold_blocks] at hb; exact hb)
  refine Calls.mono (call_core (ent := entOf pcs zs) hR1.inv hR1.er hX hS l1 (fun i v u h1 h2 _ => l2 i v u h1 h2) hr (by cases widen io 0 vs1 <;> simp) hIc (fun pa' u hp hu => ?_) (fun hn => by rw [hn] at hpa; cases hpa)) ?_
  · rw [hpa] at hp
    obtain rfl := Option.some.inj hp
    rw [List.getElem?_eq_getElem hlt] at hu
    obtain rfl := Option.some.inj hu
    obtain ⟨h1, h2, h3⟩ := hhand (io := io) (hH.frame fun u r h => ro_callee hR1.inv hown h) hzok
    refine ⟨h1, h2, fun k hk => ?_⟩
    have : (io * 64 + k) % 64 = k := by omega
    rw [this]
    exact h3 k hk
  · rintro e w' ⟨v, s2, M2, Y, rfl, hIc', _, _, e1, e2, e3, _, _⟩
    refine ⟨v, M1, Y, rfl, ?_, e1, e2, e3⟩
    refine ⟨call_back2 hR1.inv hX hIc' (fun z hz => ⟨conv_back hR1.inv (hIc'.xo z hz).1 ?_, (hIc'.xo z hz).2⟩) (fun b hb => ⟨(hIc'.xb b hb).1, .inr (hIc'.xb b hb).2⟩) hIc'.xn, hR1.er, hR1.en, hR1.nt, hR1.df, hR1.gh⟩
    rcases hw with hw | hw
    · exact .inl hw
    · exact .inr (noRoL_mem' (by rw [e1]; exact hw) z hz)
end
end Go.Proofs.Ytciieaidbiejmaa.DM

/-
  DM 17. Places that are lent and come back: the moves.
-/
namespace Go.Proofs.Ytciieaidbiejmaa.DM
set_option linter.unusedVariables false
set_option linter.unusedSimpArgs false
theorem get_put_apart {α β : Type} : ∀ (q p : List Nat) (t y : T α β), ¬ q <+: p → ¬ p <+: q → (t.put q y).get p = t.get p
  | [], p, t, y, h, _ => absurd List.nil_prefix h
  | _ :: _, [], t, y, _, h => absurd List.nil_prefix h
  | i :: q, j :: p, t, y, h1, h2 => by
    simp only [T.put]
    cases hc : t.cells[i]? with
    | none => rfl
    | some c =>
      have hi := (List.getElem?_eq_some_iff.1 hc).1
      have hne : t.cells ≠ [] := fun e => by rw [e] at hi; exact absurd hi (by simp)
      simp only [T.get, T.withCells_cells _ _ hne]
      by_cases hij : i = j
      · subst hij
        rw [List.getElem?_set_self hi, hc]
        exact get_put_apart q p c y (fun h => h1 (by rw [List.cons_prefix_cons]; exact ⟨rfl, h⟩)) (fun h => h2 (by rw [List.cons_prefix_cons]; exact ⟨rfl, h⟩))
      · rw [List.getElem?_set_ne hij]
def FS.lend (s : FS) (id : Nat) (p : List Nat) (root : D) : FS := ⟨fun i => pzV id p (s.e i), upd s.h id (some (root.put p (.gone ()))), fun i => pzC id p (s.g i)⟩
/-- A place: entry, path; the cell of the argument. -/
abbrev Pl := Nat × List Nat × Nat
def apartP (l l' : Pl) : Prop := l.1 = l'.1 → ¬ l.2.1 <+: l'.2.1 ∧ ¬ l'.2.1 <+: l.2.1
instance (l l' : Pl) : Decidable (apartP l l') := by unfold apartP; exact inferInstance
inductive Lend : Heap → List Pl → List A → Heap → Prop
  | nil (M : Heap) : Lend M [] [] M
  | cons {M M1 : Heap} {id j : Nat} {p : List Nat} {t x : A} {L : List Pl} {xs : List A} : M id = some t → t.get p = some x → x.isHold = false → Lend (upd M id (some (t.put p (.gone x.val)))) L xs M1 → Lend M ((id, p, j) :: L) (x :: xs) M1
def backM : Heap → List Pl → List A → Heap
  | M, (id, p, _) :: L, y :: ys => backM (match M id with | some t => upd M id (some (t.put p y)) | none => M) L ys
  | M, _, _ => M
section
variable {S0 : Fr} {w0 w w' : World} {M M' M1 : Heap} {X : List A} {P : Program} {nt : Nat} {s : FS} {a : Act}
theorem lend_ok (hR : RelX S0 w0 nt s M X a w) {id : Nat} {p : List Nat} {t y : A} {root : D} (ht : M id = some t) (hg : t.get p = some y) (hr : s.h id = some root) (hh : y.isHold = false) :
    RelX S0 w0 nt (s.lend id p root) (upd M id (some (t.put p (.gone y.val)))) (X ++ [y]) a w := by
  have hroot : root = er t := by have := hR.er id; rw [hr, ht] at this; simpa using this
  subst hroot
  refine ⟨hR.inv.take ht hg hh, ?_, fun i => (hR.en i).poison (keeps_take ht) (fun j hj => keeps_upd hj), hR.nt, hR.df, fun i => (hR.gh i).poison (keeps_take ht) (fun j hj => keeps_upd hj)⟩
  have := er_upd (id := id) (t := some (t.put p (.gone y.val))) hR.er
  simp only [Option.map_some, er_put, er_gone] at this
  exact this
/-- What is in hand first is put back where it was taken. -/
theorem Inv.back {x : A} (h : Inv S0 w0 M (x :: X) w) {id : Nat} {t : A} {p : List Nat} {u : Value} (ht : M id = some t) (hg : t.get p = some (.gone u)) (hv : x.val = u) :
    Inv S0 w0 (upd M id (some (t.put p x))) X w := by
  obtain ⟨L, R, h1, h2⟩ := put_blocks x hg
  simp only [T.blocks, List.nil_append] at h1
  have hxo := h.xo x (by simp)
  have hxf : ∀ b' ∈ x.blocks, b' ∉ t.blocks := fun b' hb' hbt' => h.xd id t ht b' hbt' (by rw [List.flatMap_cons]; exact List.mem_append_left _ hb')
  have hXn := h.xn
  rw [List.flatMap_cons, List.nodup_append] at hXn
  have hsub : ∀ b ∈ (t.put p x).blocks, b ∈ t.blocks ∨ b ∈ x.blocks := fun b hb => by
    rw [h2] at hb; rw [h1]; simp only [List.mem_append] at hb ⊢; rcases hb with hb | hb | hb <;> simp [hb]
  have hlook : ∀ i u', upd M id (some (t.put p x)) i = some u' → (i = id ∧ u' = t.put p x) ∨ (i ≠ id ∧ M i = some u') := fun i u' hu => by
    by_cases hi : i = id
    · subst hi; rw [upd_same] at hu; exact .inl ⟨rfl, (Option.some.inj hu).symm⟩
    · rw [upd_ne _ _ _ _ hi] at hu; exact .inr ⟨hi, hu⟩
  refine ⟨?_, ?_, ?_, ?_, h.wd, fun y hy => h.xo y (List.mem_cons_of_mem _ hy), hXn.2.1, ?_, fun b hb => h.xb b (by rw [List.flatMap_cons]; exact List.mem_append_right _ hb)⟩
  · intro i u' hu
    rcases hlook i u' hu with ⟨rfl, rfl⟩ | ⟨_, hm⟩
    · exact (h.ok i t ht).put (h.nd i t ht) hg hxo.1 hv hxo.2 (fun _ _ _ => rfl)
    · exact h.ok i u' hm
  · intro i u' hu
    rcases hlook i u' hu with ⟨rfl, rfl⟩ | ⟨_, hm⟩
    · have hnd := h.nd i t ht
      rw [h1, List.nodup_append] at hnd
      rw [h2, List.nodup_append, List.nodup_append]
      refine ⟨hnd.1, ⟨hXn.1, hnd.2.1, fun b hb b' hb' e => hxf b hb (by rw [h1, e]; exact List.mem_append_right _ hb')⟩, fun b hb b' hb' e => ?_⟩
      rcases List.mem_append.1 hb' with hb' | hb'
      · exact hxf b' hb' (by rw [h1, ← e]; exact List.mem_append_left _ hb)
      · exact hnd.2.2 b hb b' hb' e
    · exact h.nd i u' hm
  · intro i j u' v hij hu hv' b hb
    rcases hlook i u' hu with ⟨rfl, rfl⟩ | ⟨hi, hm⟩
    · rcases hlook j v hv' with ⟨rfl, rfl⟩ | ⟨hj, hm'⟩
      · exact absurd rfl hij
      · rcases hsub b hb with hb | hb
        · exact h.dj i j t v hij ht hm' b hb
        · exact fun hb' => h.xd j v hm' b hb' (by rw [List.flatMap_cons]; exact List.mem_append_left _ hb)
    · rcases hlook j v hv' with ⟨rfl, rfl⟩ | ⟨hj, hm'⟩
      · intro hb'
        rcases hsub b hb' with hb' | hb'
        · exact h.dj i j u' t hij hm ht b hb hb'
        · exact h.xd i u' hm b hb (by rw [List.flatMap_cons]; exact List.mem_append_left _ hb')
      · exact h.dj i j u' v hij hm hm' b hb
  · intro i u' b hu hb
    rcases hlook i u' hu with ⟨rfl, rfl⟩ | ⟨_, hm⟩
    · rcases hsub b hb with hb | hb
      · exact h.bl i t b ht hb
      · exact h.xb b (by rw [List.flatMap_cons]; exact List.mem_append_left _ hb)
    · exact h.bl i u' b hm hb
  · intro i u' hu b hb hbX
    have hbX' : b ∈ (x :: X).flatMap T.blocks := by rw [List.flatMap_cons]; exact List.mem_append_right _ hbX
    rcases hlook i u' hu with ⟨rfl, rfl⟩ | ⟨_, hm⟩
    · rcases hsub b hb with hb | hb
      · exact h.xd i t ht b hb hbX'
      · exact hXn.2.2 b hb b hbX rfl
    · exact h.xd i u' hm b hb hbX'
theorem at_put_apart {id id' : Nat} {p p' : List Nat} {t x y : A} (ht : M id = some t) (hap : id = id' → ¬ p <+: p' ∧ ¬ p' <+: p) : at_ (upd M id (some (t.put p y))) id' p' x ↔ at_ M id' p' x := by
  unfold at_
  by_cases hi : id' = id
  · subst hi
    obtain ⟨h1, h2⟩ := hap rfl
    constructor
    · rintro ⟨t', ht', hx⟩
      rw [upd_same] at ht'
      obtain rfl := Option.some.inj ht'
      exact ⟨t, ht, by rw [← get_put_apart p p' t y h1 h2]; exact hx⟩
    · rintro ⟨t', ht', hx⟩
      rw [ht] at ht'
      obtain rfl := Option.some.inj ht'
      exact ⟨_, upd_same _ _ _, by rw [get_put_apart p p' t y h1 h2]; exact hx⟩
  · rw [upd_ne _ _ _ _ hi]
theorem at_put_same {id : Nat} {p : List Nat} {t x y : A} (ht : M id = some t) (hg : t.get p = some x) : at_ (upd M id (some (t.put p y))) id p y :=
  ⟨_, upd_same _ _ _, by have := get_put_same p [] t y (by rw [hg]; rfl); simpa [T.get] using this⟩
theorem Lend.len {L : List Pl} {xs : List A} (h : Lend M L xs M1) : xs.length = L.length := by
  induction h with
  | nil => rfl
  | cons _ _ _ _ ih => simp [ih]
/-- The places, before and after the taking; places elsewhere. -/
theorem Lend.far {L : List Pl} {xs : List A} (h : Lend M L xs M1) : ∀ {id' : Nat} {p' : List Nat} {x' : A}, (∀ l ∈ L, l.1 = id' → ¬ l.2.1 <+: p' ∧ ¬ p' <+: l.2.1) → (at_ M1 id' p' x' ↔ at_ M id' p' x') := by
  induction h with
  | nil => intro id' p' x' _; rfl
  | cons ht hg hh _ ih =>
    intro id' p' x' hl
    rw [ih fun l hl' => hl l (List.mem_cons_of_mem _ hl')]
    exact at_put_apart ht (hl _ List.mem_cons_self)
theorem Lend.places {L : List Pl} {xs : List A} (h : Lend M L xs M1) : L.Pairwise apartP → ∀ (k : Nat) (l : Pl) (x : A), L[k]? = some l → xs[k]? = some x → at_ M l.1 l.2.1 x ∧ at_ M1 l.1 l.2.1 (.gone x.val) ∧ x.isHold = false := by
  induction h with
  | nil => intro _ k l x hl; simp at hl
  | cons ht hg hh hL ih =>
    intro hap k l x hl hx
    rw [List.pairwise_cons] at hap
    cases k with
    | zero =>
      simp at hl hx
      subst hl; subst hx
      exact ⟨⟨_, ht, hg⟩, (hL.far fun l hl e => (hap.1 l hl e.symm).symm).2 (at_put_same ht hg), hh⟩
    | succ k =>
      obtain ⟨h1, h2, h3⟩ := ih hap.2 k l x (by simpa using hl) (by simpa using hx)
      exact ⟨(at_put_apart ht fun e => (hap.1 l (List.mem_of_getElem? (by simpa using hl)) e)).1 h1, h2, h3⟩
theorem Lend.inv {L : List Pl} {xs : List A} (h : Lend M L xs M1) : ∀ {X : List A}, Inv S0 w0 M X w → Inv S0 w0 M1 (X ++ xs) w := by
  induction h with
  | nil => intro X hI; simpa using hI
  | cons ht hg hh _ ih => intro X hI; have := ih (hI.take ht hg hh); simpa using this
theorem Keeps.trans {M2 : Heap} {i : Nat} {q : List Nat} (h1 : Keeps M M1 i q) (h2 : Keeps M1 M2 i q) : Keeps M M2 i q := fun x hx => by
  obtain ⟨cs, h⟩ := h1 x hx
  obtain ⟨cs', h'⟩ := h2 _ h
  exact ⟨cs', by cases x <;> exact h'⟩
theorem Lend.keeps {L : List Pl} {xs : List A} (h : Lend M L xs M1) {i : Nat} {q : List Nat} : (∀ l ∈ L, ¬ (i = l.1 ∧ l.2.1 <+: q)) → Keeps M M1 i q := by
  induction h with
  | nil => intro _; exact Keeps.refl i q
  | cons ht hg hh _ ih =>
    intro hl
    exact (keeps_take ht i q (hl _ List.mem_cons_self)).trans (ih fun l hl' => hl l (List.mem_cons_of_mem _ hl'))
theorem backM_far : ∀ {L : List Pl} {ys : List A} {M : Heap} {id' : Nat} {p' : List Nat} {x' : A}, (∀ l ∈ L, l.1 = id' → ¬ l.2.1 <+: p' ∧ ¬ p' <+: l.2.1) → (at_ (backM M L ys) id' p' x' ↔ at_ M id' p' x')
  | [], ys, M, id', p', x', _ => by cases ys <;> rfl
  | l :: L, [], M, id', p', x', _ => by obtain ⟨id, p, j⟩ := l; rfl
  | (id, p, j) :: L, y :: ys, M, id', p', x', hl => by
    rw [backM, backM_far fun l hl' => hl l (List.mem_cons_of_mem _ hl')]
    split
    · rename_i t ht
      exact at_put_apart ht (hl _ List.mem_cons_self)
    · rfl
theorem backM_keeps : ∀ {L : List Pl} {ys : List A} {M : Heap} {i : Nat} {q : List Nat}, (∀ l ∈ L, ¬ (i = l.1 ∧ l.2.1 <+: q)) → Keeps M (backM M L ys) i q
  | [], ys, M, i, q, _ => by cases ys <;> exact Keeps.refl i q
  | l :: L, [], M, i, q, _ => by obtain ⟨id, p, j⟩ := l; exact Keeps.refl i q
  | (id, p, j) :: L, y :: ys, M, i, q, hl => by
    rw [backM]
    refine Keeps.trans ?_ (backM_keeps fun l hl' => hl l (List.mem_cons_of_mem _ hl'))
    split
    · rename_i t ht
      exact keeps_take ht i q (hl _ List.mem_cons_self)
    · exact Keeps.refl i q
/-- All is put back. -/
theorem backM_inv : ∀ {L : List Pl} {ys : List A} {M : Heap} {X : List A}, L.Pairwise apartP → ys.length = L.length → (∀ (k : Nat) (l : Pl) (y : A), L[k]? = some l → ys[k]? = some y → at_ M l.1 l.2.1 (.gone y.val)) → Inv S0 w0 M (ys ++ X) w →
    Inv S0 w0 (backM M L ys) X w ∧ ∀ (k : Nat) (l : Pl) (y : A), L[k]? = some l → ys[k]? = some y → at_ (backM M L ys) l.1 l.2.1 y
  | [], [], M, X, _, _, _, hI => ⟨by simpa [backM] using hI, fun k l y hl => by simp at hl⟩
  | [], _ :: _, M, X, _, hl, _, _ => by simp at hl
  | _ :: _, [], M, X, _, hl, _, _ => by simp at hl
  | (id, p, j) :: L, y :: ys, M, X, hap, hlen, hat, hI => by
    rw [List.pairwise_cons] at hap
    obtain ⟨t, ht, hg⟩ := hat 0 _ y rfl rfl
    simp only at ht hg
    have hI1 := Inv.back (x := y) (X := ys ++ X) (by simpa using hI) ht hg rfl
    have hat1 : ∀ (k : Nat) (l : Pl) (y' : A), L[k]? = some l → ys[k]? = some y' → at_ (upd M id (some (t.put p y))) l.1 l.2.1 (.gone y'.val) := fun k l y' hl hy =>
      (at_put_apart ht fun e => (hap.1 l (List.mem_of_getElem? hl) e)).2 (hat (k + 1) l y' (by simpa using hl) (by simpa using hy))
    obtain ⟨g1, g2⟩ := backM_inv hap.2 (by simpa using hlen) hat1 hI1
    have he : backM M ((id, p, j) :: L) (y :: ys) = backM (upd M id (some (t.put p y))) L ys := by rw [backM, ht]
    rw [he]
    refine ⟨g1, fun k l y' hl hy => ?_⟩
    cases k with
    | zero =>
      simp at hl hy
      subst hl; subst hy
      exact (backM_far fun l hl e => (hap.1 l hl e.symm).symm).2 (at_put_same ht hg)
    | succ k => exact g2 k l y' (by simpa using hl) (by simpa using hy)
/-- The same header; or an empty row without room. -/
def SameHd (x y : A) : Prop := ∃ d sz n cs, x = .ow d sz n cs ∧ ((∃ cs', y = .ow d sz n cs') ∨ (n = 0 ∧ ∃ a, x.val = .slice a 0 0 ∧ y = .ow (.emp a) sz 0 []))
theorem SameHd.val {x y : A} (h : SameHd x y) : y.val = x.val := by
  obtain ⟨d, sz, n, cs, rfl, ⟨cs', rfl⟩ | ⟨rfl, a, h1, rfl⟩⟩ := h
  · cases d <;> rfl
  · rw [h1]; rfl
/-- What is no more referred to when a place has been lent. -/
def pzS (id : Nat) (p : List Nat) : DC → DC
  | .sl i q off n => if isAt id p i q && !(q == p) then .un else .sl i q off n
  | .pt i q off => if isAt id p i q then .un else .pt i q off
  | .fn f ids => if ids.contains id then .un else .fn f ids
  | c => c
def mapV (f : DC → DC) : DV → DV
  | .un => .un
  | .v (.one c) => .v (.one (f c))
  | .v (.agg cs) => .v (.agg (cs.map f))
  | .tup xs => .tup (xs.map fun x => match x with | .one c => .one (f c) | .agg cs => .agg (cs.map f))
theorem RelV.mapV {x : DV} {v : Value} {f : DC → DC} (h : RelV S0 w0 M x v) (hf : ∀ c v, RelC S0 w0 M c v → RelC S0 w0 M' (f c) v) : RelV S0 w0 M' (mapV f x) v := by
  have h1 : ∀ (x : V1) (v : Value), Rel1 S0 w0 M x v → Rel1 S0 w0 M' (match x with | .one c => .one (f c) | .agg cs => .agg (cs.map f)) v := fun x v h => by
    have := Rel1.map (M' := M') h hf
    cases x <;> exact this
  cases x with
  | un => trivial
  | v x => cases x with
    | one c => exact h1 (.one c) v h
    | agg cs => exact h1 (.agg cs) v h
  | tup xs =>
    obtain ⟨vs, rfl, hl, h2⟩ := h
    refine ⟨vs, rfl, by simpa using hl, fun i y u hy hu => ?_⟩
    rw [List.getElem?_map, Option.map_eq_some_iff] at hy
    obtain ⟨y', hy', rfl⟩ := hy
    exact h1 y' u (h2 i y' u hy' hu)
def pzsC (L : List Pl) (c : DC) : DC := L.foldl (fun c l => pzS l.1 l.2.1 c) c
theorem pzS_or (id : Nat) (p : List Nat) (c : DC) : pzS id p c = .un ∨ pzS id p c = c := by
  cases c <;> first | exact .inr rfl | (simp only [pzS]; split <;> first | exact .inl rfl | exact .inr rfl)
theorem pzsC_un : ∀ L : List Pl, pzsC L .un = .un
  | [] => rfl
  | l :: L => pzsC_un L
theorem pzsC_or : ∀ (L : List Pl) (c : DC), pzsC L c = .un ∨ (pzsC L c = c ∧ ∀ l ∈ L, pzS l.1 l.2.1 c = c)
  | [], c => .inr ⟨rfl, by simp⟩
  | l :: L, c => by
    have e : pzsC (l :: L) c = pzsC L (pzS l.1 l.2.1 c) := rfl
    rw [e]
    rcases pzS_or l.1 l.2.1 c with h | h
    · rw [h]; exact .inl (pzsC_un L)
    · rw [h]
      rcases pzsC_or L c with h' | ⟨h1, h2⟩
      · exact .inl h'
      · refine .inr ⟨h1, fun l' hl' => ?_⟩
        rcases List.mem_cons.1 hl' with rfl | hl'
        · exact h
        · exact h2 l' hl'
/-- Behind places that came back: what refers to them or elsewhere holds. -/
theorem RelC.lent {L : List Pl} {c : DC} {v : Value} (h : RelC S0 w0 M c v) (hk : ∀ i q, (∀ l ∈ L, ¬ (i = l.1 ∧ l.2.1 <+: q)) → Keeps M M' i q) (hs : ∀ l ∈ L, ∀ x, at_ M l.1 l.2.1 x → ∃ y, SameHd x y ∧ at_ M' l.1 l.2.1 y) : RelC S0 w0 M' (pzsC L c) v := by
  rcases pzsC_or L c with he | ⟨he, hall⟩
  · rw [he]; exact .un _
  rw [he]
  have hfar : ∀ {i : Nat} {q : List Nat}, (∀ l ∈ L, ¬ isAt l.1 l.2.1 i q = true) → Keeps M M' i q := fun {i q} hn => hk i q fun l hl ⟨h1, h2⟩ => hn l hl (by simp [isAt, h1, h2])
  have hex : ∀ (i : Nat) (q : List Nat), (∃ l ∈ L, isAt l.1 l.2.1 i q = true) ∨ (∀ l ∈ L, ¬ isAt l.1 l.2.1 i q = true) := fun i q => by
    by_cases hh : ∃ l ∈ L, isAt l.1 l.2.1 i q = true
    · exact .inl hh
    · exact .inr fun l hl h => hh ⟨l, hl, h⟩
  cases h with
  | un v => exact .un v
  | t r v h => exact .t r v h
  | nl a => exact .nl a
  | rp cs a h => exact .rp cs a h
  | fn f ids ps hl hp =>
    refine (RelC.fn f ids ps hl hp).keep fun r hr => ?_
    simp only [refsC, List.mem_map] at hr
    obtain ⟨i, hi, rfl⟩ := hr
    refine hk i [] fun l hl' ⟨e, _⟩ => ?_
    have := hall l hl'
    simp only [pzS] at this
    rw [if_pos (by rw [← e]; simpa using hi)] at this
    cases this
  | pt i q off b o c' sz m cs hat =>
    rcases hex i q with ⟨l, hl, h1⟩ | h1
    · have := hall l hl
      simp only [pzS, h1, if_true] at this
      cases this
    · exact (RelC.pt i q off b o c' sz m cs hat).keep fun r hr => by simp [refsC] at hr; subst hr; exact hfar h1
  | sl i q k n b o c' sz m cs hat hle =>
    rcases hex i q with ⟨l, hl, h1⟩ | h1
    · have hq' : q = l.2.1 := by
        have h2 := hall l hl
        simp only [pzS, h1, Bool.true_and] at h2
        by_cases e : q = l.2.1
        · exact e
        · have hb : (!q == l.2.1) = true := by simpa using e
          rw [if_pos hb] at h2
          cases h2
      have hi : i = l.1 := by simp [isAt] at h1; exact h1.1
      subst hi
      rw [hq'] at hat
      obtain ⟨y, ⟨d, sz', n', cs', he, hy⟩, hat'⟩ := hs l hl _ hat
      simp only [T.ow.injEq] at he
      obtain ⟨rfl, rfl, rfl, rfl⟩ := he
      rw [hq']
      rcases hy with ⟨cs2, rfl⟩ | ⟨rfl, a, hva, rfl⟩
      · exact .sl l.1 l.2.1 k n b o c' sz m cs2 hat' hle
      · have hk0 : k = 0 := by omega
        have hn0 : n = 0 := by omega
        subst hk0; subst hn0
        simp only [T.val, Value.slice.injEq] at hva
        obtain ⟨_, _, rfl⟩ := hva
        exact .se l.1 l.2.1 _ _ _ sz 0 [] hat'
    · exact (RelC.sl i q k n b o c' sz m cs hat hle).keep fun r hr => by simp [refsC] at hr; subst hr; exact hfar h1
  | se i q off a d sz m cs hat =>
    rcases hex i q with ⟨l, hl, h1⟩ | h1
    · have hq' : q = l.2.1 := by
        have h2 := hall l hl
        simp only [pzS, h1, Bool.true_and] at h2
        by_cases e : q = l.2.1
        · exact e
        · have hb : (!q == l.2.1) = true := by simpa using e
          rw [if_pos hb] at h2
          cases h2
      have hi : i = l.1 := by simp [isAt] at h1; exact h1.1
      subst hi
      rw [hq'] at hat
      obtain ⟨y, ⟨d', sz', n', cs', he, hy⟩, hat'⟩ := hs l hl _ hat
      rw [hq']
      rcases hy with ⟨cs2, rfl⟩ | ⟨_, a', _, rfl⟩
      · exact .se l.1 l.2.1 off a _ _ _ _ hat'
      · exact .se l.1 l.2.1 off a _ _ _ _ hat'
    · exact (RelC.se i q off a d sz m cs hat).keep fun r hr => by simp [refsC] at hr; subst hr; exact hfar h1
end
end Go.Proofs.Ytciieaidbiejmaa.DM

/-
  DM 18. A call with rows that are lent.
-/
namespace Go.Proofs.Ytciieaidbiejmaa.DM
set_option linter.unusedVariables false
set_option linter.unusedSimpArgs false
/-- An empty slice of the call's own. -/
def emptyC : DC → Bool
  | .sl _ _ _ 0 => true
  | _ => false
open Classical in
/-- Cells that are lent, or read. -/
noncomputable def lendL : FS → Nat → List DC → List PC → Option (FS × List Pl)
  | s, _, [], [] => some (s, [])
  | s, j, c :: cs, .r r :: pcs => if (toRC s c = some r ∧ ownC c = false) ∨ (emptyC c = true ∧ r = .sl 0 []) then lendL s (j + 1) cs pcs else none
  | s, j, .nl :: cs, .m _ n xs :: pcs => if n = 0 ∧ xs = [] then lendL s (j + 1) cs pcs else none
  | s, j, .sl id p off n' :: cs, .m sz n xs :: pcs => match s.h id with
    | some root => match root.get p with
      | some x => if x = .ow () sz n xs ∧ n' = n ∧ off = 0 then (match lendL (s.lend id p root) (j + 1) (cs.map (pzC id p)) pcs with
          | some (s1, L) => some (s1, (id, p, j) :: L)
          | none => none)
        else if x = .ow () 0 0 [] ∧ n = 0 ∧ n' = 0 ∧ xs = [] then lendL s (j + 1) cs pcs else none
      | none => none
    | none => none
  | _, _, _, _ => none
termination_by _ _ cs _ => cs.length
decreasing_by all_goals simp
def paCells : PA → List PC
  | .one c => [c]
  | .agg cs => cs
  | _ => []
def hBack : (Nat → Option D) → List Pl → List PC → (Nat → Option D)
  | h, [], _ => h
  | h, (id, p, j) :: L, pcs => hBack (match h id, pcs[j]? with | some root, some pc => upd h id (some (root.put p pc.tree)) | _, _ => h) L pcs
def backFS (s s1 : FS) (L : List Pl) (pcs : List PC) : FS := ⟨fun i => mapV (pzsC L) (s.e i), hBack s1.h L pcs, fun i => pzsC L (s.g i)⟩
section
variable {S0 : Fr} {w0 w w' : World} {M M' M1 : Heap} {X : List A} {P : Program} {nt : Nat} {s : FS} {a : Act}
theorem emp_blocks (a : Option Addr) (sz n : Nat) : (T.ow (.emp a) sz n [] : A).blocks = [] := by simp [T.blocks, T.blocksL]
theorem emp_of {z : A} {sz0 : Nat} (h : er z = .ow () 0 0 []) (hok : Ok S0 w0 w z) : ∃ a0, z = .ow (.emp a0) 0 0 [] := by
  cases z with
  | ow d sz' n' cs' =>
    rw [er_ow_mk] at h
    simp only [T.ow.injEq, true_and] at h
    obtain ⟨rfl, rfl, hcs⟩ := h
    have hcs : cs' = [] := by simpa using hcs
    subst hcs
    cases hok with
    | ow b o c _ _ _ cur ty fz k1 k2 k3 => exact absurd k3.2.1 (by omega)
    | em a0 _ => exact ⟨a0, rfl⟩
  | _ => simp [er, T.map] at h
theorem relc_emp {id off n : Nat} {p : List Nat} {a0 : Option Addr} {u : Value} {sz : Nat} (hat : at_ M id p (.ow (.emp a0) sz 0 [])) (h : RelC S0 w0 M (.sl id p off n) u) : ∃ a1, u = .slice a1 0 0 := by
  cases h with
  | sl _ _ k n b o c sz' m cs hat' hle => have := at_unique hat hat'; simp at this
  | se _ _ off a d sz' m cs hat' => exact ⟨a, rfl⟩
/-- What stands for a place in the callee. -/
def Stands (x : A) (own : List Nat) (z : Option A) : Prop := z = some x ∨ ((∃ d sz a, x = .ow d sz 0 [] ∧ z = some (.ow (.emp a) sz 0 [])) ∧ ∀ b ∈ x.blocks, b ∉ own)
theorem lendL_ok : ∀ {pcs : List PC} {cs : List DC} {us : List Value} {s : FS} {M : Heap} {X : List A} {s1 : FS} {j : Nat} {L : List Pl}, RelX S0 w0 nt s M X a w → RelL S0 w0 M cs us → lendL s j cs pcs = some (s1, L) →
    ∃ M1 xs zs, RelX S0 w0 nt s1 M1 (X ++ xs) a w ∧ Lend M L xs M1 ∧ HandL S0 w0 pcs zs us ∧ (∀ z ∈ zs, Ok S0 w0 w z ∧ z.isHold = false) ∧ (zs.flatMap T.blocks).Sublist (xs.flatMap T.blocks) ∧
      (∀ (k : Nat) (l : Pl) (x : A), L[k]? = some l → xs[k]? = some x → j ≤ l.2.2 ∧ Stands x (zs.flatMap T.blocks) zs[l.2.2 - j]? ∧ ∃ sz n ds, pcs[l.2.2 - j]? = some (.m sz n ds)) ∧ L.Pairwise (fun l l' => l.2.2 ≠ l'.2.2) ∧ ∀ l ∈ L, l.2.2 < j + pcs.length := by
  intro pcs
  induction pcs with
  | nil =>
    intro cs us s M X s1 j L hR hL h
    cases cs with
    | cons c cs => simp [lendL] at h
    | nil =>
      have hv : us = [] := List.length_eq_zero_iff.1 (by simpa using hL.1)
      subst hv
      simp only [lendL, Option.some.injEq, Prod.mk.injEq] at h
      obtain ⟨rfl, rfl⟩ := h
      exact ⟨M, [], [], by simpa using hR, .nil M, trivial, by simp, .slnil, fun k l x hl => by simp at hl, .nil, by simp⟩
  | cons pc pcs ih =>
    intro cs us s M X s1 j L hR hL h
    cases cs with
    | nil => cases pc <;> simp [lendL] at h
    | cons c cs =>
      cases us with
      | nil => have := hL.1; simp at this
      | cons u us =>
        obtain ⟨hc, h1, hL'⟩ := hL.head
        -- a cell without a place
        have skip : ∀ (z : A), HandC S0 w0 pc z u → Ok S0 w0 w z → z.isHold = false → z.blocks = [] → lendL s (j + 1) cs pcs = some (s1, L) →
            ∃ M1 xs zs, RelX S0 w0 nt s1 M1 (X ++ xs) a w ∧ Lend M L xs M1 ∧ HandL S0 w0 (pc :: pcs) zs (u :: us) ∧ (∀ z ∈ zs, Ok S0 w0 w z ∧ z.isHold = false) ∧ (zs.flatMap T.blocks).Sublist (xs.flatMap T.blocks) ∧
              (∀ (k : Nat) (l : Pl) (x : A), L[k]? = some l → xs[k]? = some x → j ≤ l.2.2 ∧ Stands x (zs.flatMap T.blocks) zs[l.2.2 - j]? ∧ ∃ sz n ds, (pc :: pcs)[l.2.2 - j]? = some (.m sz n ds)) ∧ L.Pairwise (fun l l' => l.2.2 ≠ l'.2.2) ∧ ∀ l ∈ L, l.2.2 < j + (pc :: pcs).length := fun z hz hzo hzh hzb hrest => by
          obtain ⟨M1, xs, zs, g1, g2, g3, g4, g5, g6, g7, g8⟩ := ih hR hL' hrest
          refine ⟨M1, xs, z :: zs, g1, g2, ⟨hz, g3⟩, fun z' hz' => ?_, by simp [hzb, g5], fun k l x hl hx => ?_, g7, fun l hl => by have := g8 l hl; simp only [List.length_cons]; omega⟩
          · rcases List.mem_cons.1 hz' with rfl | hz'
            · exact ⟨hzo, hzh⟩
            · exact g4 z' hz'
          · obtain ⟨k1, k2, k3⟩ := g6 k l x hl hx
            have : l.2.2 - j = (l.2.2 - (j + 1)) + 1 := by omega
            rw [this]
            have hfl : (z :: zs).flatMap T.blocks = zs.flatMap T.blocks := by simp [hzb]
            rw [hfl]
            exact ⟨by omega, by simpa using k2, by simpa using k3⟩
        cases pc with
        | c sz n xs => cases c <;> simp [lendL] at h
        | r r =>
          rw [lendL] at h
          split at h
          · rename_i hcond
            rcases hcond with hcond | ⟨hem, rfl⟩
            · exact skip (.gone u) ⟨toRC_flat hc hcond.1 hcond.2, rfl⟩ (.gone u h1) rfl rfl h
            · refine skip (.gone u) ⟨?_, rfl⟩ (.gone u h1) rfl rfl h
              cases c with
              | sl id p off n =>
                cases n with
                | succ n => simp [emptyC] at hem
                | zero =>
                  generalize hn : (0 : Nat) = n at hc
                  cases hc with
                  | sl id p k n b o c sz m cs g1 g2 => subst hn; exact .em _ _
                  | se => exact .em _ _
              | _ => simp [emptyC] at hem
          · cases h
        | m sz n xs =>
          cases c with
          | nl =>
            rw [lendL] at h
            split at h
            · rename_i hcond
              obtain ⟨rfl, rfl⟩ := hcond
              cases hc with
              | nl a0 => exact skip (.ow (.emp a0) sz 0 []) ⟨rfl, rfl⟩ (.em a0 sz) rfl (by simp [T.blocks, T.blocksL]) h
            · cases h
          | sl id p off n' =>
            rw [lendL] at h
            split at h
            · rename_i root hroot
              split at h
              · rename_i x hx
                have her := hR.er id
                rw [hroot] at her
                cases hm : M id with
                | none => rw [hm] at her; cases her
                | some t =>
                  rw [hm] at her
                  have hroot' : root = er t := by simpa using her
                  have hx0 := hx
                  rw [hroot'] at hx
                  unfold er at hx
                  rw [T.get_map] at hx
                  obtain ⟨y, hy, hye⟩ := Option.map_eq_some_iff.1 hx
                  have hye : er y = x := hye
                  have hyok := (hR.inv.ok id t hm).get hy
                  have hat : at_ M id p y := ⟨t, hm, hy⟩
                  split at h
                  · rename_i hcond
                    obtain ⟨rfl, rfl, hoff⟩ := hcond
                    have hyh : y.isHold = false := by cases y <;> first | rfl | (simp [er, T.map] at hye)
                    split at h
                    · rename_i s2 L2 hrest
                      simp only [Option.some.injEq, Prod.mk.injEq] at h
                      obtain ⟨rfl, rfl⟩ := h
                      have hz : ∃ z, HandC S0 w0 (.m sz n' xs) z u ∧ Ok S0 w0 w z ∧ z.isHold = false ∧ z.blocks.Sublist y.blocks ∧ (z = y ∨ ∃ d sz a, y = .ow d sz 0 [] ∧ z = .ow (.emp a) sz 0 []) := by
                        cases y with
                        | ow d sz' m' cs' =>
                          rw [er_ow_mk] at hye
                          simp only [T.ow.injEq, true_and] at hye
                          obtain ⟨rfl, rfl, hcs'⟩ := hye
                          cases hc with
                          | sl _ _ k _ b o c sz2 m2 cs2 hat2 hle =>
                            have := at_unique hat hat2
                            simp only [T.ow.injEq] at this
                            obtain ⟨rfl, rfl, rfl, rfl⟩ := this
                            refine ⟨_, ⟨by rw [er_ow_mk, hcs'], ?_⟩, hyok, rfl, List.Sublist.refl _, .inl rfl⟩
                            cases hyok with
                            | ow _ _ _ _ _ _ cur ty fz k1 k2 k3 =>
                              have hk : k = 0 := by
                                rcases Nat.mul_eq_zero.1 hoff with h | h
                                · exact h
                                · have := k3.2.1; omega
                              subst hk
                              simp [T.val]
                          | se _ _ _ a0 d2 sz2 m2 cs2 hat2 =>
                            have hcs0 : cs' = [] := by
                              cases hyok with
                              | ow _ _ _ _ _ _ cur ty fz k1 k2 k3 k4 k5 k6 => exact List.length_eq_zero_iff.1 (by rw [k6, Nat.zero_mul])
                              | em => rfl
                            subst hcs0
                            exact ⟨.ow (.emp a0) sz' 0 [], ⟨by rw [er_ow_mk, hcs'], rfl⟩, .em a0 sz', rfl, by rw [emp_blocks]; exact List.nil_sublist _, .inr ⟨_, _, _, rfl, rfl⟩⟩
                        | _ => simp [er, T.map] at hye
                      obtain ⟨z, z1, z2, z3, z4, z5⟩ := hz
                      have hR1 := lend_ok hR hm hy hroot hyh
                      have hL1 : RelL S0 w0 (upd M id (some (t.put p (.gone y.val)))) (cs.map (pzC id p)) us := hL'.map fun d v hd => hd.poison (keeps_take hm) (fun j hj => keeps_upd hj)
                      obtain ⟨M1, ys, zs, g1, g2, g3, g4, g5, g6, g7, g8⟩ := ih hR1 hL1 hrest
                      have hyd : ∀ b ∈ y.blocks, b ∉ ys.flatMap T.blocks := fun b hb hb' => by
                        have hn := g1.inv.xn
                        rw [List.append_assoc, List.flatMap_append, List.nodup_append, List.singleton_append, List.flatMap_cons, List.nodup_append] at hn
                        exact hn.2.1.2.2 b hb b hb' rfl
                      have hfl : ∀ b, b ∈ (z :: zs).flatMap T.blocks → b ∈ z.blocks ∨ b ∈ zs.flatMap T.blocks := fun b hb => by rw [List.flatMap_cons] at hb; exact List.mem_append.1 hb
                      refine ⟨M1, y :: ys, z :: zs, by simpa using g1, .cons hm hy hyh g2, ⟨z1, g3⟩, fun z' hz' => ?_, ?_, fun k l x hl hx => ?_, ?_, fun l hl => ?_⟩
                      · rcases List.mem_cons.1 hz' with rfl | hz'
                        · exact ⟨z2, z3⟩
                        · exact g4 z' hz'
                      · rw [List.flatMap_cons, List.flatMap_cons]
                        exact z4.append g5
                      · cases k with
                        | zero =>
                          simp at hl hx
                          subst hl; subst hx
                          refine ⟨Nat.le_refl _, ?_, sz, n', xs, ?_⟩
                          · simp only [Nat.sub_self, List.getElem?_cons_zero]
                            rcases z5 with rfl | ⟨d, sz', a0, rfl, rfl⟩
                            · exact .inl rfl
                            · refine .inr ⟨⟨d, sz', a0, rfl, rfl⟩, fun b hb hb' => ?_⟩
                              rcases hfl b hb' with h | h
                              · rw [emp_blocks] at h; cases h
                              · exact hyd b hb (g5.subset h)
                          · simp
                        | succ k =>
                          obtain ⟨k1, k2, k3⟩ := g6 k l x (by simpa using hl) (by simpa using hx)
                          have : l.2.2 - j = (l.2.2 - (j + 1)) + 1 := by omega
                          rw [this]
                          refine ⟨by omega, ?_, by simpa using k3⟩
                          rcases k2 with h | ⟨h, h'⟩
                          · exact .inl (by simpa using h)
                          · refine .inr ⟨by simpa using h, fun b hb hb' => ?_⟩
                            rcases hfl b hb' with hz | hz
                            · exact hyd b (z4.subset hz) (List.mem_flatMap.2 ⟨x, List.mem_of_getElem? (by simpa using hx), hb⟩)
                            · exact h' b hb hz
                      · rw [List.pairwise_cons]
                        refine ⟨fun l hl => ?_, g7⟩
                        obtain ⟨k, hk⟩ := List.getElem?_of_mem hl
                        have hlt : k < ys.length := by rw [g2.len]; exact (List.getElem?_eq_some_iff.1 hk).1
                        have := (g6 k l _ hk (List.getElem?_eq_getElem hlt)).1
                        simp only
                        omega
                      · rcases List.mem_cons.1 hl with rfl | hl
                        · simp only [List.length_cons]; omega
                        · have := g8 l hl; simp only [List.length_cons]; omega
                    · cases h
                  · split at h
                    · rename_i hcond
                      obtain ⟨rfl, rfl, rfl, rfl⟩ := hcond
                      obtain ⟨a0, rfl⟩ := emp_of (sz0 := 0) hye hyok
                      obtain ⟨a1, rfl⟩ := relc_emp hat hc
                      exact skip (.ow (.emp a1) sz 0 []) ⟨rfl, rfl⟩ (.em a1 sz) rfl (by simp [T.blocks, T.blocksL]) h
                    · cases h
              · cases h
            · cases h
          | _ => simp [lendL] at h
end
end Go.Proofs.Ytciieaidbiejmaa.DM

/-
  DM 19. A call with rows that are lent: the law of it.
-/
namespace Go.Proofs.Ytciieaidbiejmaa.DM
set_option linter.unusedVariables false
set_option linter.unusedSimpArgs false
theorem pick2 {α β γ : Type} {Q : α → β → γ → Prop} : ∀ (l : List α) (m : List β), l.length = m.length → (∀ (k : Nat) (a : α) (b : β), l[k]? = some a → m[k]? = some b → ∃ c, Q a b c) → ∃ cs : List γ, cs.length = l.length ∧ ∀ (k : Nat) (a : α) (b : β) (c : γ), l[k]? = some a → m[k]? = some b → cs[k]? = some c → Q a b c
  | [], [], _, _ => ⟨[], rfl, fun k a b c h => by simp at h⟩
  | [], _ :: _, h, _ => by simp at h
  | _ :: _, [], h, _ => by simp at h
  | a :: l, b :: m, h, hq => by
    obtain ⟨c, hc⟩ := hq 0 a b rfl rfl
    obtain ⟨cs, h1, h2⟩ := pick2 l m (by simpa using h) (fun k a b ha hb => hq (k + 1) a b (by simpa using ha) (by simpa using hb))
    refine ⟨c :: cs, by simp [h1], fun k a' b' c' ha hb hc' => ?_⟩
    cases k with
    | zero => simp at ha hb hc'; subst ha; subst hb; subst hc'; exact hc
    | succ k => exact h2 k a' b' c' (by simpa using ha) (by simpa using hb) (by simpa using hc')
theorem flat_nodup : ∀ {ys : List A}, (∀ y ∈ ys, y.blocks.Nodup) → (∀ (k l : Nat) (y y' : A), k ≠ l → ys[k]? = some y → ys[l]? = some y' → ∀ b ∈ y.blocks, b ∉ y'.blocks) → (ys.flatMap T.blocks).Nodup
  | [], _, _ => by simp
  | y :: ys, h1, h2 => by
    rw [List.flatMap_cons, List.nodup_append]
    refine ⟨h1 y List.mem_cons_self, flat_nodup (fun z hz => h1 z (List.mem_cons_of_mem _ hz)) (fun k l z z' hkl hz hz' => h2 (k + 1) (l + 1) z z' (by omega) (by simpa using hz) (by simpa using hz')), fun b hb b' hb' e => ?_⟩
    subst e
    obtain ⟨z, hz, hbz⟩ := List.mem_flatMap.1 hb'
    obtain ⟨k, hk⟩ := List.getElem?_of_mem hz
    exact h2 0 (k + 1) y z (by omega) rfl (by simpa using hk) b hb hbz
theorem backCs_at {s : FS} {i : Nat} : ∀ {j : Nat} {cs cs' : List PC}, backCs s i j cs = some cs' → ∀ (k : Nat) (pc : PC), cs[k]? = some pc → ∃ pc', cs'[k]? = some pc' ∧ backC s i (j + k) pc = some pc'
  | j, [], cs', _, k, pc, h => by simp at h
  | j, c :: cs, cs', h, k, pc, hk => by
    simp only [backCs] at h
    split at h
    · rename_i c' cs2 h1 h2
      obtain rfl := Option.some.inj h
      cases k with
      | zero => simp at hk; subst hk; exact ⟨c', rfl, h1⟩
      | succ k =>
        obtain ⟨pc', g1, g2⟩ := backCs_at h2 k pc (by simpa using hk)
        exact ⟨pc', by simpa using g1, by rw [← g2]; congr 1; omega⟩
    · cases h
theorem backA_at {s : FS} {i : Nat} {v : DV} {pa pa' : PA} {cs : List DC} {pcs : List PC} (hs : shapeOf v pa = some (cs, pcs)) (h : backA s i pa = some pa') (k : Nat) (pc : PC) (hk : pcs[k]? = some pc) : ∃ pc', (paCells pa')[k]? = some pc' ∧ backC s i k pc = some pc' := by
  unfold shapeOf at hs
  split at hs
  · simp only [Option.some.injEq, Prod.mk.injEq] at hs
    obtain ⟨rfl, rfl⟩ := hs
    simp only [backA] at h
    obtain ⟨c', hc, rfl⟩ := Option.map_eq_some_iff.1 h
    cases k with
    | zero => simp at hk; subst hk; exact ⟨c', rfl, hc⟩
    | succ k => simp at hk
  · simp only [Option.some.injEq, Prod.mk.injEq] at hs
    obtain ⟨rfl, rfl⟩ := hs
    simp only [backA] at h
    obtain ⟨cs', hc, rfl⟩ := Option.map_eq_some_iff.1 h
    obtain ⟨pc', h1, h2⟩ := backCs_at hc k pc hk
    rw [Nat.zero_add] at h2
    exact ⟨pc', h1, h2⟩
  · cases hs
section
variable {S0 : Fr} {w0 w w' : World} {M M' M1 : Heap} {X : List A} {P : Program} {nt : Nat} {s : FS} {a : Act}
theorem hBack_er : ∀ {L : List Pl} {ys : List A} {h : Nat → Option D} {M : Heap} {pcs : List PC}, (∀ id, h id = (M id).map er) → ys.length = L.length → (∀ (k : Nat) (l : Pl) (y : A), L[k]? = some l → ys[k]? = some y → ∃ pc, pcs[l.2.2]? = some pc ∧ er y = pc.tree) →
    ∀ id, hBack h L pcs id = (backM M L ys id).map er
  | [], [], h, M, pcs, he, _, _ => by simpa [hBack, backM] using he
  | [], _ :: _, h, M, pcs, _, hl, _ => by simp at hl
  | _ :: _, [], h, M, pcs, _, hl, _ => by simp at hl
  | (id, p, j) :: L, y :: ys, h, M, pcs, he, hl, hy => by
    rw [hBack, backM]
    refine hBack_er ?_ (by simpa using hl) (fun k l y' h1 h2 => hy (k + 1) l y' (by simpa using h1) (by simpa using h2))
    obtain ⟨pc, h1, h2⟩ := hy 0 _ y rfl rfl
    simp only at h1
    have h0 := he id
    cases hm : M id with
    | none => rw [hm] at h0; rw [h0]; exact he
    | some t =>
      rw [hm] at h0
      rw [h0, h1]
      have := er_upd (id := id) (t := some (t.put p y)) (s := ⟨fun _ => .un, h, fun _ => .un⟩) he
      simp only [Option.map_some, er_put, h2] at this
      exact this
theorem ow_nil {y : A} {sz : Nat} {cs' : List D} (hok : Ok S0 w0 w y) (he : er y = .ow () sz 0 cs') : cs' = [] := by
  cases y with
  | ow d sz' n' cs2 =>
    rw [er_ow_mk] at he
    simp only [T.ow.injEq, true_and] at he
    obtain ⟨rfl, rfl, rfl⟩ := he
    cases hok with
    | ow _ _ _ _ _ _ cur ty fz k1 k2 k3 k4 k5 k6 =>
      have : cs2 = [] := List.length_eq_zero_iff.1 (by rw [k6, Nat.zero_mul])
      rw [this]; rfl
    | em => rfl
  | _ => simp [er, T.map] at he
/-- A row that comes back has the header that it went with. -/
theorem head_back {F : Fr} {w1 w2 : World} {M2 : Heap} {x y : A} {io j sz n : Nat} {d : AD} {csx : List A} {cs' : List D} (hx : x = .ow d sz n csx) (hat : at_ M2 io [j] y) (hok : Ok F w1 w2 y) (he : er y = .ow () sz n cs')
    (h : RelC F w1 M2 (.sl io [j] 0 n) x.val) : ∃ y', SameHd x y' ∧ er y' = .ow () sz n cs' ∧ Ok F w1 w2 y' ∧ y'.isHold = false ∧ y'.blocks.Sublist y.blocks := by
  have hemp : ∀ a0, n = 0 → x.val = .slice a0 0 0 → ∃ y', SameHd x y' ∧ er y' = .ow () sz n cs' ∧ Ok F w1 w2 y' ∧ y'.isHold = false ∧ y'.blocks.Sublist y.blocks := fun a0 hn hv => by
    subst hn
    have := ow_nil hok he
    subst this
    exact ⟨.ow (.emp a0) sz 0 [], ⟨d, sz, 0, csx, hx, .inr ⟨rfl, a0, hv, rfl⟩⟩, by rw [er_ow_mk]; rfl, .em a0 sz, rfl, by rw [emp_blocks]; exact List.nil_sublist _⟩
  generalize hu : x.val = u at h hemp
  generalize hoff : (0 : Nat) = off at h
  cases h with
  | se _ _ _ a0 d2 sz2 m2 cs2 hat2 => exact hemp a0 rfl rfl
  | sl _ _ k _ b o c sz2 m cs2 hat2 hle =>
    have := at_unique hat hat2
    subst this
    rw [er_ow_mk] at he
    simp only [T.ow.injEq, true_and] at he
    obtain ⟨rfl, rfl, hcs⟩ := he
    have hk : k = 0 := by
      cases hok with
      | ow _ _ _ _ _ _ cur ty fz k1 k2 k3 =>
        rcases Nat.mul_eq_zero.1 hoff.symm with h | h
        · exact h
        · have := k3.2.1; omega
    subst hk
    rw [Nat.zero_mul, Nat.add_zero, Nat.sub_zero] at hu hemp
    subst hx
    cases d with
    | blk b' o' c' =>
      simp only [T.val, Value.slice.injEq, Option.some.injEq, Addr.mk.injEq, and_true, true_and] at hu
      obtain ⟨⟨rfl, rfl⟩, rfl⟩ := hu
      exact ⟨_, ⟨_, _, _, _, rfl, .inl ⟨cs2, rfl⟩⟩, by rw [er_ow_mk, hcs], hok, rfl, List.Sublist.refl _⟩
    | emp a0 =>
      simp only [T.val, Value.slice.injEq] at hu
      obtain ⟨rfl, h0, h1⟩ := hu
      subst h0
      subst h1
      exact hemp _ rfl rfl
/-- A call with an argument whose rows are lent. -/
theorem call_L {f io : Nat} {az az' : List PA} {sh : List (Option Nat)} {ds : List D} {vs vs1 : List DV} {vals : List Value} {v : DV} {pa pa' : PA} {cs : List DC} {pcs : List PC} {s1 : FS} {L : List Pl} (hR : Rel S0 w0 nt s M a w) (hS : Spec P f az sh ds az')
    (hl : vals.length = vs.length) (hv : ∀ (i : Nat) (v : DV) (u : Value), vs[i]? = some v → vals[i]? = some u → RelV S0 w0 M v u) (hio : vs[io]? = some v) (hpa : az[io]? = some pa) (hpa' : az'[io]? = some pa') (hsh : shapeOf v pa = some (cs, pcs)) (hg : lendL s 0 cs pcs = some (s1, L))
    (hap : L.Pairwise apartP) (h64 : pcs.length ≤ 64)
    (hv1 : ∀ (M1 : Heap) (X : List A), RelX S0 w0 nt s1 M1 X a w → vals.length = vs1.length ∧ ∀ (i : Nat) (v : DV) (u : Value), vs1[i]? = some v → vals[i]? = some u → RelV S0 w0 M1 v u)
    (hr : rosOk s1 io 0 vs1 az) (hw : widen io 0 vs1 = false ∨ (noRoL ds = true ∧ noRoL ((paCells pa').map PC.tree) = true)) :
    Calls P f vals.toArray w fun e w' => ∃ (v : Value) (M1 : Heap) (Y : List A), e = .returned v ∧ RelX S0 w0 nt (backFS s s1 L (paCells pa')) M1 Y a w' ∧ Y.map er = ds ∧ ds.length = shLen sh ∧ v = packV sh (Y.map T.val) := by
  have hlt : io < vals.length := by rw [hl]; exact (List.getElem?_eq_some_iff.1 hio).1
  obtain ⟨us, hL, hhand⟩ := hand_ok hsh (hv io v _ hio (List.getElem?_eq_getElem hlt))
  obtain ⟨M1, xs, zs, hR1, hLend, hH, hzo, hzb, hpl, hjs, hjl⟩ := lendL_ok hR hL hg
  rw [List.nil_append] at hR1
  obtain ⟨l1, l2⟩ := hv1 M1 xs hR1
  have hX : ∀ b, b ∈ zs.flatMap T.blocks → b ∈ xs.flatMap T.blocks := fun b hb => hzb.subset hb
  have hown : ∀ b ∈ zs.flatMap T.blocks, ¬ S0.kp b := fun b hb => (hR1.inv.xb b (hX b hb)).2
  generalize hF : calleeFr S0 w (zs.flatMap T.blocks) (widen io 0 vs1) (fun _ _ => False) (fun k => us.getD (k % 64) undef) = F
  have hzok : ∀ z ∈ zs, Ok F w w z := fun z hz => by rw [← hF]; exact (hzo z hz).1.down hR1.inv hown (fun b _ j => by simp)
  have hIc : Inv F w (oneH io (entOf pcs zs)) [] w := by
    rw [← hF] at hzok ⊢
    exact callee_inv (own := zs.flatMap T.blocks) (wide := widen io 0 vs1) (fx := fun _ _ => False) (gv := fun k => us.getD (k % 64) undef) hR1.inv hX (by simp) io (entOf pcs zs)
      (fun t ht => by rw [ho_nodup ht]; exact .hold zs hzok (fun z hz => (hzo z hz).2))
      (fun t ht => by rw [ho_nodup ht, hold_blocks]; exact hzb.nodup hR1.inv.xn) (fun t ht b hb => by rw [ho_nodup ht, hold_blocks] at hb; exact hb)
  have hHF : HandL F w pcs zs us := by rw [← hF]; exact hH.frame fun u r h => ro_callee hR1.inv hown h
  have hcore := call_core (own := zs.flatMap T.blocks) (wide := widen io 0 vs1) (fx := fun _ _ => False) (gv := fun k => us.getD (k % 64) undef) (ent := entOf pcs zs) hR1.inv hR1.er hX hS l1 (fun i v u h1 h2 _ => l2 i v u h1 h2) hr (by cases widen io 0 vs1 <;> simp) (by rw [hF]; exact hIc) (fun pa2 u hp hu => by
    rw [hpa] at hp
    obtain rfl := Option.some.inj hp
    rw [List.getElem?_eq_getElem hlt] at hu
    obtain rfl := Option.some.inj hu
    rw [hF]
    obtain ⟨h1, h2, h3⟩ := hhand (io := io) hHF hzok
    refine ⟨h1, h2, fun k hk => ?_⟩
    have : (io * 64 + k) % 64 = k := by omega
    rw [this]
    exact h3 k hk) (fun hn => by rw [hn] at hpa; cases hpa)
  rw [hF] at hcore
  refine Calls.mono hcore ?_
  rintro e w' ⟨v, s2, M2, Y, rfl, hIc', her2, hgh2, e1, e2, e3, e4, e5⟩
  obtain ⟨pa2, p1, p2⟩ := e5 io pa hpa
  rw [hpa'] at p1
  obtain rfl := Option.some.inj p1
  obtain ⟨q1, q2, q3⟩ := hH.at
  have hkeep : ∀ b, b < w.heap.size → b ∉ zs.flatMap T.blocks → F.kp b := fun b h1 h2 => by rw [← hF]; exact ⟨h1, h2⟩
  -- what comes back, place by place
  have hback : ∀ (k : Nat) (l : Pl) (x : A), L[k]? = some l → xs[k]? = some x → ∃ y', SameHd x y' ∧ (∃ pc, (paCells pa')[l.2.2]? = some pc ∧ er y' = pc.tree) ∧ Ok S0 w0 w' y' ∧ y'.isHold = false ∧ y'.blocks.Nodup ∧
      ((∃ tc c, M2 io = some tc ∧ tc.cells[l.2.2]? = some c ∧ ∀ b ∈ y'.blocks, b ∈ c.blocks) ∨ (y' = x ∧ ∀ b ∈ x.blocks, b ∉ zs.flatMap T.blocks)) := by
    intro k l x hlk hxk
    obtain ⟨_, hst, sz, n, dsj, hpc⟩ := hpl k l x hlk hxk
    rw [Nat.sub_zero] at hst hpc
    obtain ⟨pc', b1, b2⟩ := backA_at hsh p2 l.2.2 _ hpc
    simp only [backC] at b2
    split at b2
    · rename_i i' p off n' sz' n'' cs' hg1 hg2
      split at b2
      · rename_i hcond
        obtain ⟨hi0, hp0, ho0, hn0, hs0, hm0⟩ := hcond
        rw [hi0, hp0, ho0, hn0] at hg1
        rw [hs0, hm0] at hg2
        obtain rfl := Option.some.inj b2
        have herio := her2 io
        cases hm : M2 io with
        | none => rw [hm] at herio; rw [herio] at hg2; cases hg2
        | some tc =>
          rw [hm] at herio
          rw [herio] at hg2
          have hg3 : (er tc).get [l.2.2] = some (.ow () sz n cs') := hg2
          unfold er at hg3
          rw [T.get_map] at hg3
          obtain ⟨y, hy, hye⟩ := Option.map_eq_some_iff.1 hg3
          have hye : er y = .ow () sz n cs' := hye
          have hcell : tc.cells[l.2.2]? = some y := by
            simp only [T.get] at hy
            split at hy
            · rename_i c hc; rw [hc, Option.some.inj hy]
            · cases hy
          have hoky : Ok F w w' y := (hIc'.ok _ tc hm).get hy
          have hlz : l.2.2 < zs.length := by rw [q1]; exact (List.getElem?_eq_some_iff.1 hpc).1
          have hlu : l.2.2 < us.length := by rw [q2]; exact (List.getElem?_eq_some_iff.1 hpc).1
          have hhc := q3 l.2.2 _ _ us[l.2.2] hpc (List.getElem?_eq_getElem hlz) (List.getElem?_eq_getElem hlu)
          have hghost := hgh2 (io * 64 + l.2.2)
          have hlp : l.2.2 < pcs.length := (List.getElem?_eq_some_iff.1 hpc).1
          have hmod : (io * 64 + l.2.2) % 64 = l.2.2 := by omega
          rw [hg1, hmod, List.getD_eq_getElem?_getD, List.getElem?_eq_getElem hlu] at hghost
          have hghost : RelC F w M2 (.sl io [l.2.2] 0 n) us[l.2.2] := hghost
          have hroy : widen io 0 vs1 = false ∨ noRo (.ow () sz n cs') = true := by
            rcases hw with hw | hw
            · exact .inl hw
            · exact .inr (noRoL_mem hw.2 _ (List.mem_map.2 ⟨_, List.mem_of_getElem? b1, rfl⟩))
          rcases hst with hst | ⟨⟨d, szx, a0, rfl, hst⟩, hno⟩
          · rw [List.getElem?_eq_getElem hlz] at hst
            have hzx := Option.some.inj hst
            rw [hzx] at hhc
            obtain ⟨hz1, hz2⟩ := hhc
            rw [← hz2] at hghost
            have hxow : ∃ d csx, x = .ow d sz n csx := by
              cases x with
              | ow d sz2 n2 csx => rw [er_ow_mk] at hz1; simp only [T.ow.injEq, true_and] at hz1; obtain ⟨rfl, rfl, _⟩ := hz1; exact ⟨_, _, rfl⟩
              | _ => simp [er, T.map] at hz1
            obtain ⟨d, csx, hx⟩ := hxow
            obtain ⟨y', g1, g2, g3, g4, g5⟩ := head_back hx ⟨tc, hm, hy⟩ hoky hye hghost
            refine ⟨y', g1, ⟨_, b1, g2⟩, ?_, g4, g5.nodup (nodup_get (hIc'.nd _ tc hm) hy), .inl ⟨tc, y, rfl, hcell, fun b hb => g5.subset hb⟩⟩
            rw [← hF] at g3
            exact conv_back hR1.inv g3 (by rw [g2]; exact hroy)
          · rw [List.getElem?_eq_getElem hlz] at hst
            have hzx := Option.some.inj hst
            rw [hzx] at hhc
            obtain ⟨hz1, hz2⟩ := hhc
            rw [er_ow_mk] at hz1
            simp only [T.ow.injEq, true_and] at hz1
            obtain ⟨rfl, rfl, _⟩ := hz1
            have hcs := ow_nil hoky hye
            subst hcs
            have hxm : (T.ow d szx 0 [] : A) ∈ xs := List.mem_of_getElem? hxk
            have hxo := (hR1.inv.xo _ hxm).1
            refine ⟨.ow d szx 0 [], ⟨d, szx, 0, [], rfl, .inl ⟨[], rfl⟩⟩, ⟨_, b1, rfl⟩, hxo.frame fun b hb => ?_, rfl, ?_, .inr ⟨rfl, hno⟩⟩
            · exact hIc'.wd.fr b (hkeep b (hR1.inv.xb b (List.mem_flatMap.2 ⟨_, hxm, hb⟩)).1 (hno b hb))
            · exact nodup_cell hR1.inv.xn hxm
      · cases b2
    · cases b2
  obtain ⟨ys, hyl, hys⟩ := pick2 L xs hLend.len.symm hback
  have hxk : ∀ (k : Nat) (y : A), ys[k]? = some y → ∃ l x, L[k]? = some l ∧ xs[k]? = some x := fun k y hy => by
    have h1 : k < L.length := by rw [← hyl]; exact (List.getElem?_eq_some_iff.1 hy).1
    have h2 : k < xs.length := by rw [hLend.len]; exact h1
    exact ⟨_, _, List.getElem?_eq_getElem h1, List.getElem?_eq_getElem h2⟩
  have hynd : (ys.flatMap T.blocks).Nodup := by
    refine flat_nodup (fun y hy => ?_) (fun k m y y' hkm hy hy' b hb hb' => ?_)
    · obtain ⟨k, hk⟩ := List.getElem?_of_mem hy
      obtain ⟨l, x, h1, h2⟩ := hxk k y hk
      exact (hys k l x y h1 h2 hk).2.2.2.2.1
    · obtain ⟨l, x, h1, h2⟩ := hxk k y hy
      obtain ⟨l', x', h1', h2'⟩ := hxk m y' hy'
      obtain ⟨_, _, _, _, _, hA⟩ := hys k l x y h1 h2 hy
      obtain ⟨_, _, _, _, _, hB⟩ := hys m l' x' y' h1' h2' hy'
      have hkept : ∀ {x : A}, x ∈ xs → (∀ b ∈ x.blocks, b ∉ zs.flatMap T.blocks) → ∀ b ∈ x.blocks, F.kp b := fun hx hno b hb => hkeep b (hR1.inv.xb b (List.mem_flatMap.2 ⟨_, hx, hb⟩)).1 (hno b hb)
      rcases hA with ⟨tc, c, t1, t2, t3⟩ | ⟨rfl, t3⟩
      · have hbtc : b ∈ tc.blocks := by rw [T.blocks_eq]; exact List.mem_append_right _ (List.mem_flatMap.2 ⟨c, List.mem_of_getElem? t2, t3 b hb⟩)
        rcases hB with ⟨tc', c', t1', t2', t3'⟩ | ⟨rfl, t3'⟩
        · rw [t1] at t1'
          obtain rfl := Option.some.inj t1'
          have hne : l.2.2 ≠ l'.2.2 := by
            rcases Nat.lt_or_gt_of_ne hkm with h | h
            · have := (List.pairwise_iff_getElem.1 hjs) k m (List.getElem?_eq_some_iff.1 h1).1 (List.getElem?_eq_some_iff.1 h1').1 h
              rw [(List.getElem?_eq_some_iff.1 h1).2, (List.getElem?_eq_some_iff.1 h1').2] at this
              exact this
            · have := (List.pairwise_iff_getElem.1 hjs) m k (List.getElem?_eq_some_iff.1 h1').1 (List.getElem?_eq_some_iff.1 h1).1 h
              rw [(List.getElem?_eq_some_iff.1 h1).2, (List.getElem?_eq_some_iff.1 h1').2] at this
              exact this.symm
          exact nodup_flat (nodup_cells (hIc'.nd _ tc t1)) t2 t2' hne b (t3 b hb) (t3' b hb')
        · exact (hIc'.bl io tc b t1 hbtc).2 (hkept (List.mem_of_getElem? h2') t3' b hb')
      · rcases hB with ⟨tc', c', t1', t2', t3'⟩ | ⟨rfl, t3'⟩
        · have hbtc : b ∈ tc'.blocks := by rw [T.blocks_eq]; exact List.mem_append_right _ (List.mem_flatMap.2 ⟨c', List.mem_of_getElem? t2', t3' b hb'⟩)
          exact (hIc'.bl io tc' b t1' hbtc).2 (hkept (List.mem_of_getElem? h2) t3 b hb)
        · exact nodup_flat hR1.inv.xn h2 h2' hkm b hb hb'
  have hZ : Inv S0 w0 M1 (ys ++ Y) w' := by
    rw [← hF] at hIc'
    refine call_back2 hR1.inv hX hIc' (fun z hz => ?_) (fun b hb => ?_) ?_
    · rcases List.mem_append.1 hz with hz | hz
      · obtain ⟨k, hk⟩ := List.getElem?_of_mem hz
        obtain ⟨l, x, h1, h2⟩ := hxk k z hk
        have := hys k l x z h1 h2 hk
        exact ⟨this.2.2.1, this.2.2.2.1⟩
      · refine ⟨conv_back hR1.inv (hIc'.xo z hz).1 ?_, (hIc'.xo z hz).2⟩
        rcases hw with hw | hw
        · exact .inl hw
        · exact .inr (noRoL_mem' (by rw [e1]; exact hw.1) z hz)
    · rw [List.flatMap_append] at hb
      rcases List.mem_append.1 hb with hb | hb
      · obtain ⟨y, hy, hby⟩ := List.mem_flatMap.1 hb
        obtain ⟨k, hk⟩ := List.getElem?_of_mem hy
        obtain ⟨l, x, h1, h2⟩ := hxk k y hk
        rcases (hys k l x y h1 h2 hk).2.2.2.2.2 with ⟨tc, c, t1, t2, t3⟩ | ⟨rfl, t3⟩
        · have hbtc : b ∈ tc.blocks := by rw [T.blocks_eq]; exact List.mem_append_right _ (List.mem_flatMap.2 ⟨c, List.mem_of_getElem? t2, t3 b hby⟩)
          have := hIc'.bl io tc b t1 hbtc
          exact ⟨this.1, .inr this.2⟩
        · have hbx : b ∈ xs.flatMap T.blocks := List.mem_flatMap.2 ⟨_, List.mem_of_getElem? h2, hby⟩
          exact ⟨by have := (hR1.inv.xb b hbx).1; have := hIc'.wd.sz; omega, .inl hbx⟩
      · exact ⟨(hIc'.xb b hb).1, .inr (hIc'.xb b hb).2⟩
    · rw [List.flatMap_append, List.nodup_append]
      refine ⟨hynd, hIc'.xn, fun b hb b' hb' e => ?_⟩
      subst e
      obtain ⟨y, hy, hby⟩ := List.mem_flatMap.1 hb
      obtain ⟨k, hk⟩ := List.getElem?_of_mem hy
      obtain ⟨l, x, h1, h2⟩ := hxk k y hk
      rcases (hys k l x y h1 h2 hk).2.2.2.2.2 with ⟨tc, c, t1, t2, t3⟩ | ⟨rfl, t3⟩
      · have hbtc : b ∈ tc.blocks := by rw [T.blocks_eq]; exact List.mem_append_right _ (List.mem_flatMap.2 ⟨c, List.mem_of_getElem? t2, t3 b hby⟩)
        exact hIc'.xd io tc t1 b hbtc hb'
      · exact (hIc'.xb b hb').2 ⟨(hR1.inv.xb b (List.mem_flatMap.2 ⟨_, List.mem_of_getElem? h2, hby⟩)).1, t3 b hby⟩
  have hgone : ∀ (k : Nat) (l : Pl) (y : A), L[k]? = some l → ys[k]? = some y → at_ M1 l.1 l.2.1 (.gone y.val) := fun k l y h1 hk => by
    obtain ⟨l', x, h1', h2⟩ := hxk k y hk
    rw [h1] at h1'
    obtain rfl := Option.some.inj h1'
    rw [(hys k l x y h1 h2 hk).1.val]
    exact (hLend.places hap k l x h1 h2).2.1
  obtain ⟨hI3, hat3⟩ := backM_inv hap hyl hgone hZ
  have hcv : ∀ (c : DC) (u : Value), RelC S0 w0 M c u → RelC S0 w0 (backM M1 L ys) (pzsC L c) u := fun c u hc => hc.lent
    (fun i q hn => (hLend.keeps fun l hl => hn l hl).trans (backM_keeps fun l hl => hn l hl))
    (fun l hl x0 hx0 => by
      obtain ⟨k, hk⟩ := List.getElem?_of_mem hl
      have hky : k < ys.length := by rw [hyl]; exact (List.getElem?_eq_some_iff.1 hk).1
      obtain ⟨l', x, h1', h2⟩ := hxk k _ (List.getElem?_eq_getElem hky)
      rw [hk] at h1'
      obtain rfl := Option.some.inj h1'
      have := at_unique hx0 (hLend.places hap k l x hk h2).1
      subst this
      exact ⟨_, (hys k l x0 _ hk h2 (List.getElem?_eq_getElem hky)).1, hat3 k l _ hk (List.getElem?_eq_getElem hky)⟩)
  refine ⟨v, backM M1 L ys, Y, rfl, ⟨hI3, ?_, fun i => (hR.en i).mapV hcv, hR.nt, hR.df, fun i => hcv _ _ (hR.gh i)⟩, e1, e2, e3⟩
  exact hBack_er hR1.er hyl fun k l y h1 hk => by
    obtain ⟨l', x, h1', h2⟩ := hxk k y hk
    rw [h1] at h1'
    obtain rfl := Option.some.inj h1'
    exact (hys k l x y h1 h2 hk).2.1
end
end Go.Proofs.Ytciieaidbiejmaa.DM

/-
  DM 20. A call with a pointer into a row of the caller's.
-/
namespace Go.Proofs.Ytciieaidbiejmaa.DM
set_option linter.unusedVariables false
set_option linter.unusedSimpArgs false
section
variable {S0 : Fr} {w0 w w' : World} {M M' M1 : Heap} {X : List A} {P : Program} {nt : Nat} {s : FS} {a : Act}
def inR (lo hi : Nat) (l : List Nat) : Bool := match l with | [] => false | j :: _ => decide (lo ≤ j) && decide (j < hi)
def pzR (id : Nat) (p : List Nat) (lo hi : Nat) : DC → DC
  | .sl i q off n => if i == id && p.isPrefixOf q && inR lo hi (q.drop p.length) then .un else .sl i q off n
  | .pt i q off => if i == id && p.isPrefixOf q && inR lo hi (q.drop p.length) then .un else .pt i q off
  | c => c
theorem get_put_range : ∀ (p q : List Nat) (t : A) (d : AD) (sz n lo hi : Nat) (cs cs' : List A), t.get p = some (.ow d sz n cs) → cs'.length = cs.length → (∀ j, ¬ (lo ≤ j ∧ j < hi) → cs'[j]? = cs[j]?) →
    ¬ (p <+: q ∧ inR lo hi (q.drop p.length) = true) → ∀ x, t.get q = some x → ∃ c2, (t.put p (.ow d sz n cs')).get q = some (x.withCells c2)
  | [], [], t, d, sz, n, lo, hi, cs, cs', hg, hl, hc, hn, x, hx => by
    simp only [T.get, Option.some.injEq] at hg hx
    subst hg; subst hx
    exact ⟨cs', rfl⟩
  | [], j :: q, t, d, sz, n, lo, hi, cs, cs', hg, hl, hc, hn, x, hx => by
    simp only [T.get, Option.some.injEq] at hg
    subst hg
    have hj : ¬ (lo ≤ j ∧ j < hi) := fun h => hn ⟨List.nil_prefix, by simp [inR, h]⟩
    simp only [T.get, T.cells] at hx
    simp only [T.put, T.get, T.cells]
    rw [hc j hj]
    cases hcj : cs[j]? with
    | none => rw [hcj] at hx; cases hx
    | some c => rw [hcj] at hx; exact ⟨x.cells, Eq.trans hx (congrArg some (by cases x <;> rfl))⟩
  | i :: p, [], t, d, sz, n, lo, hi, cs, cs', hg, hl, hc, hn, x, hx => by
    simp only [T.get, Option.some.injEq] at hx
    subst hx
    simp only [T.put]
    cases hci : t.cells[i]? with
    | none => exact ⟨t.cells, by cases t <;> rfl⟩
    | some c => exact ⟨_, rfl⟩
  | i :: p, j :: q, t, d, sz, n, lo, hi, cs, cs', hg, hl, hc, hn, x, hx => by
    simp only [T.get] at hg hx
    simp only [T.put]
    cases hci : t.cells[i]? with
    | none => rw [hci] at hg; cases hg
    | some c =>
      rw [hci] at hg
      have hi' := (List.getElem?_eq_some_iff.1 hci).1
      have hne : t.cells ≠ [] := fun e => by rw [e] at hi'; exact absurd hi' (by simp)
      simp only [T.get, T.withCells_cells _ _ hne]
      by_cases hij : i = j
      · subst hij
        rw [hci] at hx
        rw [List.getElem?_set_self hi']
        exact get_put_range p q c d sz n lo hi cs cs' hg hl hc (fun ⟨h1, h2⟩ => hn ⟨by rw [List.cons_prefix_cons]; exact ⟨rfl, h1⟩, by simpa using h2⟩) x hx
      · rw [List.getElem?_set_ne hij]
        cases hcj : t.cells[j]? with
        | none => rw [hcj] at hx; cases hx
        | some c2 => rw [hcj] at hx; exact ⟨x.cells, Eq.trans hx (congrArg some (by cases x <;> rfl))⟩
theorem RelC.range {id lo hi : Nat} {p : List Nat} {t : A} {d : AD} {sz n : Nat} {cs cs' : List A} {c : DC} {v : Value} (h : RelC S0 w0 M c v) (ht : M id = some t) (hg : t.get p = some (.ow d sz n cs)) (hl : cs'.length = cs.length)
    (hc : ∀ j, ¬ (lo ≤ j ∧ j < hi) → cs'[j]? = cs[j]?) : RelC S0 w0 (upd M id (some (t.put p (.ow d sz n cs')))) (pzR id p lo hi c) v := by
  have hk : ∀ i q, ¬ (i = id ∧ p <+: q ∧ inR lo hi (q.drop p.length) = true) → Keeps M (upd M id (some (t.put p (.ow d sz n cs')))) i q := fun i q hn => by
    by_cases hi' : i = id
    · subst hi'
      rintro x ⟨t', ht', hx⟩
      rw [ht] at ht'
      obtain rfl := Option.some.inj ht'
      obtain ⟨c2, h2⟩ := get_put_range p q t d sz n lo hi cs cs' hg hl hc (fun h => hn ⟨rfl, h.1, h.2⟩) x hx
      exact ⟨c2, _, upd_same _ _ _, h2⟩
    · exact keeps_upd hi'
  have hnil : ∀ i, Keeps M (upd M id (some (t.put p (.ow d sz n cs')))) i [] := fun i => hk i [] (fun ⟨_, h1, h2⟩ => by
    have : p = [] := List.prefix_nil.1 h1
    subst this
    simp [inR] at h2)
  cases c with
  | sl i q off m =>
    simp only [pzR]
    by_cases hn : (i == id && p.isPrefixOf q && inR lo hi (q.drop p.length)) = true
    · rw [if_pos hn]; exact .un v
    · rw [if_neg hn]
      refine h.keep fun r hr => ?_
      simp [refsC] at hr
      subst hr
      exact hk i q (fun ⟨h1, h2, h3⟩ => hn (by subst h1; simp only [beq_self_eq_true, Bool.true_and]; rw [List.isPrefixOf_iff_prefix.2 h2]; simpa using h3))
  | pt i q off =>
    simp only [pzR]
    by_cases hn : (i == id && p.isPrefixOf q && inR lo hi (q.drop p.length)) = true
    · rw [if_pos hn]; exact .un v
    · rw [if_neg hn]
      refine h.keep fun r hr => ?_
      simp [refsC] at hr
      subst hr
      exact hk i q (fun ⟨h1, h2, h3⟩ => hn (by subst h1; simp only [beq_self_eq_true, Bool.true_and]; rw [List.isPrefixOf_iff_prefix.2 h2]; simpa using h3))
  | fn f ids =>
    refine h.keep fun r hr => ?_
    simp only [refsC, List.mem_map] at hr
    obtain ⟨i, hi, rfl⟩ := hr
    exact hnil i
  | _ => exact h.keep (fun r hr => by simp [refsC] at hr)
def ptBack (s : FS) (id : Nat) (p : List Nat) (root : D) (sz n off : Nat) (cs0 cs' : List D) : FS :=
  ⟨fun i => mapV (pzR id p off (off + cs'.length)) (s.e i), upd s.h id (some (root.put p (.ow () sz n (cs0.take off ++ (cs' ++ cs0.drop (off + cs'.length)))))), fun i => pzR id p off (off + cs'.length) (s.g i)⟩
theorem ptBack_h (s : FS) (id : Nat) (p : List Nat) (root : D) (sz n off : Nat) (cs0 cs' : List D) : (ptBack s id p root sz n off cs0 cs').h = upd s.h id (some (root.put p (.ow () sz n (cs0.take off ++ (cs' ++ cs0.drop (off + cs'.length)))))) := rfl
theorem put_put {α β : Type} : ∀ (p : List Nat) (t x y : T α β), (t.put p x).put p y = t.put p y
  | [], t, x, y => rfl
  | i :: p, t, x, y => by
    simp only [T.put]
    cases hc : t.cells[i]? with
    | none => simp only [T.put, hc]
    | some c =>
      have hi := (List.getElem?_eq_some_iff.1 hc).1
      have hne : t.cells ≠ [] := fun e => by rw [e] at hi; exact absurd hi (by simp)
      simp only [T.put, T.withCells_cells _ _ hne, List.getElem?_set_self hi, put_put p c x y, List.set_set]
      cases t <;> rfl
theorem upd_upd {α : Type} (f : Nat → α) (k : Nat) (u v : α) : upd (upd f k u) k v = upd f k v := by
  funext i
  by_cases h : i = k
  · subst h; rw [upd_same, upd_same]
  · rw [upd_ne _ _ _ _ h, upd_ne _ _ _ _ h, upd_ne _ _ _ _ h]
/-- A call with a pointer into a row. -/
theorem call_P {f io : Nat} {az az' : List PA} {sh : List (Option Nat)} {ds : List D} {vs vs1 : List DV} {vals : List Value} {id off sz n : Nat} {p : List Nat} {root : D} {cs0 cs cs' : List D} (hR : Rel S0 w0 nt s M a w) (hS : Spec P f az sh ds az')
    (hl : vals.length = vs.length) (hv : ∀ (i : Nat) (v : DV) (u : Value), vs[i]? = some v → vals[i]? = some u → RelV S0 w0 M v u) (hio : vs[io]? = some (.v (.one (.pt id p off)))) (hpa : az[io]? = some (.ptr cs)) (hpa' : az'[io]? = some (.ptr cs'))
    (hroot : s.h id = some root) (hg : root.get p = some (.ow () sz n cs0)) (hcs : cs = (cs0.drop off).take cs.length) (hlen : off + cs.length ≤ cs0.length) (hk0 : 0 < cs.length) (hk1 : cs.length = 1 ↔ sz = 1)
    (hv1 : ∀ (M1 : Heap) (X : List A), RelX S0 w0 nt (s.lend id p root) M1 X a w → vals.length = vs1.length ∧ ∀ (i : Nat) (v : DV) (u : Value), vs1[i]? = some v → vals[i]? = some u → RelV S0 w0 M1 v u)
    (hr : rosOk (s.lend id p root) io 0 vs1 az) (hw : widen io 0 vs1 = false ∨ (noRoL ds = true ∧ noRoL cs' = true)) :
    Calls P f vals.toArray w fun e w' => ∃ (v : Value) (M1 : Heap) (Y : List A), e = .returned v ∧ RelX S0 w0 nt (ptBack s id p root sz n off cs0 cs') M1 Y a w' ∧ cs'.length = cs.length ∧ Y.map er = ds ∧ ds.length = shLen sh ∧ v = packV sh (Y.map T.val) := by
  have hlt : io < vals.length := by rw [hl]; exact (List.getElem?_eq_some_iff.1 hio).1
  obtain ⟨hc, hone⟩ := hv io _ _ hio (List.getElem?_eq_getElem hlt)
  generalize hu : vals[io] = u at hc hone
  cases hc with
  | pt _ _ _ b o c sz2 n2 cs2 hat =>
  obtain ⟨t, ht, hgt⟩ := hat
  have hert := hR.er id
  rw [hroot, ht] at hert
  have hrt : root = er t := by simpa using hert
  have herx : er (.ow (.blk b o c) sz2 n2 cs2) = .ow () sz n cs0 := by
    rw [hrt] at hg
    unfold er at hg ⊢
    rw [T.get_map, hgt] at hg
    simpa using hg
  rw [er_ow_mk] at herx
  simp only [T.ow.injEq, true_and] at herx
  obtain ⟨rfl, rfl, rfl⟩ := herx
  rw [List.length_map] at hlen
  have hR1 := lend_ok hR ht hgt hroot rfl
  rw [List.nil_append] at hR1
  obtain ⟨l1, l2⟩ := hv1 _ _ hR1
  generalize hM1 : upd M id (some (t.put p (.gone (T.ow (.blk b o c) sz2 n2 cs2 : A).val))) = M1 at hR1 l1 l2
  generalize hk : cs.length = k at *
  generalize hran : (cs2.drop off).take k = ran
  have hranl : ran.length = k := by rw [← hran, List.length_take, List.length_drop]; omega
  have hranm : ran.map er = cs := by rw [hcs, ← hran, List.map_take, List.map_drop]
  have hrans : ∀ y ∈ ran, y ∈ cs2 := fun y hy => by rw [← hran] at hy; exact List.mem_of_mem_drop (List.mem_of_mem_take hy)
  have hsplit : cs2 = cs2.take off ++ (ran ++ cs2.drop (off + k)) := by
    rw [← hran, ← List.drop_drop, List.take_append_drop, List.take_append_drop]
  obtain ⟨hxok, -⟩ := hR1.inv.xo _ List.mem_cons_self
  have hxn := hR1.inv.xn
  simp only [List.flatMap_cons, List.flatMap_nil, List.append_nil] at hxn
  have hxb := hR1.inv.xb
  simp only [List.flatMap_cons, List.flatMap_nil, List.append_nil] at hxb
  have hbl2 : (T.ow (.blk b o c) sz2 n2 cs2 : A).blocks = b :: cs2.flatMap T.blocks := by simp [T.blocks, T.blocksL_eq]
  rw [hbl2] at hxn hxb
  rw [List.nodup_cons] at hxn
  obtain ⟨hbn, hcn⟩ := hxn
  have hcn' := hcn
  rw [hsplit, List.flatMap_append, List.flatMap_append, List.nodup_append, List.nodup_append] at hcn'
  obtain ⟨n1, ⟨n2', n3, n4⟩, n5⟩ := hcn'
  have hranb : ∀ q, q ∈ ran.flatMap T.blocks → q ∈ cs2.flatMap T.blocks := fun q hq => by
    obtain ⟨y, hy, hqy⟩ := List.mem_flatMap.1 hq
    exact List.mem_flatMap.2 ⟨y, hrans y hy, hqy⟩
  generalize hown0 : (b :: ran.flatMap T.blocks) = own
  have hX : ∀ q, q ∈ own → q ∈ ([T.ow (.blk b o c) sz2 n2 cs2] : List A).flatMap T.blocks := fun q hq => by
    rw [← hown0] at hq
    simp only [List.flatMap_cons, List.flatMap_nil, List.append_nil]
    rw [hbl2]
    rcases List.mem_cons.1 hq with rfl | hq
    · exact List.mem_cons_self
    · exact List.mem_cons_of_mem _ (hranb q hq)
  have hown : ∀ q ∈ own, ¬ S0.kp q := fun q hq => (hR1.inv.xb q (hX q hq)).2
  have hbw : b < w.heap.size := (hxb b List.mem_cons_self).1
  have hfxw : ∀ b' j, (b' = b ∧ (j < o + off ∨ o + off + k ≤ j)) → b' < w.heap.size := fun b' j h => h.1 ▸ hbw
  generalize hFx : (fun (b' j : Nat) => b' = b ∧ (j < o + off ∨ o + off + k ≤ j)) = fx
  have hfx : ∀ b' j, fx b' j ↔ (b' = b ∧ (j < o + off ∨ o + off + k ≤ j)) := fun b' j => by rw [← hFx]
  generalize hF : calleeFr S0 w own (widen io 0 vs1) fx (fun _ => Value.pointer (some ⟨b, o + off, none⟩)) = F at *
  cases hxok with
  | ow _ _ _ _ _ _ cur ty fz k1 k2 k3 k4 k5 k6 k7 k8 k9 =>
  obtain ⟨ent, hent⟩ : ∃ ent : A, ent = .ow (.blk b (o + off) 1) k 1 ran := ⟨_, rfl⟩
  have hentb : ent.blocks = own := by rw [hent, ← hown0]; simp [T.blocks, T.blocksL_eq]
  have hroom : off + k ≤ c * sz2 := by
    have := Nat.mul_le_mul_right sz2 k4
    omega
  have hentok : Ok F w w ent := by
    rw [hent]
    refine .ow b (o + off) 1 k 1 ran cur ty fz k1 (by rw [fzTo_congr hk1]; exact k2) ⟨by omega, hk0, fun j hj hfj => ?_⟩ (Nat.le_refl _) (by simp [maxLen]) (by omega) (fun i y hy => ?_) (fun y hy => ?_) (fun y hy => k9 y (hrans y hy))
    · rw [← hF] at hfj
      rcases hfj with hfj | hfj
      · exact k3.2.2 (off + j) (by omega) (by rw [← Nat.add_assoc]; exact hfj)
      · rw [hfx] at hfj; omega
    · rw [← hran] at hy
      have hi : i < k := by have := (List.getElem?_eq_some_iff.1 hy).1; rw [List.length_take] at this; omega
      rw [List.getElem?_take_of_lt hi, List.getElem?_drop] at hy
      rw [Nat.add_assoc]
      exact k7 _ y hy
    · rw [← hF]
      refine (k8 y (hrans y hy)).down hR1.inv hown (fun q hq j hfj => ?_)
      rw [hfx] at hfj
      exact hbn (hfj.1 ▸ List.mem_flatMap.2 ⟨y, hrans y hy, hq⟩)
  have hIc : Inv F w (oneH io (some ent)) [] w := by
    rw [← hF] at hentok ⊢
    refine callee_inv hR1.inv hX (fun b' j h => hfxw b' j ((hfx b' j).1 h)) io (some ent) (fun t' ht' => by obtain rfl := Option.some.inj ht'; exact hentok) (fun t' ht' => ?_) (fun t' ht' q hq => ?_)
    · obtain rfl := Option.some.inj ht'
      rw [hentb, ← hown0, List.nodup_cons]
      exact ⟨fun h => hbn (hranb b h), n2'⟩
    · obtain rfl := Option.some.inj ht'
      rw [hentb] at hq; exact hq
  have hcore := call_core (own := own) (wide := widen io 0 vs1) (fx := fx) (gv := fun _ => Value.pointer (some ⟨b, o + off, none⟩)) (ent := some ent) hR1.inv hR1.er hX hS l1 (fun i v u h1 h2 _ => l2 i v u h1 h2) hr (by cases widen io 0 vs1 <;> simp) (by rw [hF]; exact hIc) (fun pa2 u2 hp hu2 => by
    rw [hpa] at hp
    obtain rfl := Option.some.inj hp
    rw [List.getElem?_eq_getElem hlt, hu] at hu2
    obtain rfl := Option.some.inj hu2
    rw [hF]
    have hpt : RelC F w (oneH io (some ent)) (.pt io [] 0) (.pointer (some ⟨b, o + off, none⟩)) := .pt io [] 0 b (o + off) 1 k 1 ran ⟨ent, by simp [oneH], by rw [hent]; rfl⟩
    refine ⟨⟨hpt, rfl⟩, ?_, fun j hj => ?_⟩
    · rw [Option.map_some, hent, er_ow_mk, hranm]; simp only [argH, hk]
    · simp only [argG]
      split
      · exact hpt
      · exact .un _) (fun hn => by rw [hn] at hpa; cases hpa)
  rw [hF] at hcore
  refine Calls.mono hcore ?_
  rintro e w' ⟨v, s2, M2, Y, rfl, hIc', her2, hgh2, e1, e2, e3, e4, e5⟩
  obtain ⟨pa2, p1, p2⟩ := e5 io _ hpa
  rw [hpa'] at p1
  obtain rfl := Option.some.inj p1
  simp only [backA] at p2
  split at p2
  · rename_i i' k' cs3 hg1 hg2
    split at p2
    · rename_i hcond
      obtain ⟨hi0, hk1, hl3⟩ := hcond
      simp only [Option.some.injEq, PA.ptr.injEq] at p2
      subst p2
      rw [hi0] at hg1
      rw [hk1] at hg2 hl3
      rw [hk] at hg2 hl3
      have herio := her2 io
      rw [hg2] at herio
      cases hm : M2 io with
      | none => rw [hm] at herio; cases herio
      | some tc =>
        rw [hm] at herio
        have hetc : er tc = .ow () k 1 cs3 := by simpa using herio.symm
        have hgh := hgh2 (io * 64)
        rw [hg1] at hgh
        generalize hgu : (Value.pointer (some ⟨b, o + off, none⟩)) = uu at hgh
        cases hgh with
        | pt _ _ _ b3 o3 c3 sz3 m3 cs3A hat3 =>
        simp only [Value.pointer.injEq, Option.some.injEq, Addr.mk.injEq, and_true, Nat.add_zero] at hgu
        obtain ⟨rfl, rfl⟩ := hgu
        obtain ⟨tc', htc', hg3⟩ := hat3
        rw [hm] at htc'
        obtain rfl := Option.some.inj htc'
        simp only [T.get, Option.some.injEq] at hg3
        subst hg3
        rw [er_ow_mk] at hetc
        simp only [T.ow.injEq, true_and] at hetc
        obtain ⟨rfl, rfl, rfl⟩ := hetc
        rw [List.length_map] at hl3
        have hoktc := hIc'.ok _ _ hm
        have hndtc := hIc'.nd _ _ hm
        have hbltc : (T.ow (.blk b (o + off) c3) sz3 1 cs3A : A).blocks = b :: cs3A.flatMap T.blocks := by simp [T.blocks, T.blocksL_eq]
        rw [hbltc, List.nodup_cons] at hndtc
        have hkeep : ∀ q, q < w.heap.size → q ∉ own → F.kp q := fun q h1 h2 => by rw [← hF]; exact ⟨h1, h2⟩
        have hcallee : ∀ q ∈ cs3A.flatMap T.blocks, q < w'.heap.size ∧ ¬ F.kp q := fun q hq => hIc'.bl io _ q hm (by rw [hbltc]; exact List.mem_cons_of_mem _ hq)
        have hout : ∀ q, q ∈ cs2.flatMap T.blocks → q ∉ ran.flatMap T.blocks → F.kp q := fun q h1 h2 => hkeep q (hxb q (List.mem_cons_of_mem _ h1)).1 (fun ho => by
          rw [← hown0] at ho
          rcases List.mem_cons.1 ho with rfl | ho
          · exact hbn h1
          · exact h2 ho)
        have htake : ∀ q, q ∈ (cs2.take off).flatMap T.blocks → q ∈ cs2.flatMap T.blocks ∧ q ∉ ran.flatMap T.blocks := fun q hq => ⟨(flat_sublist (List.take_sublist _ _)).subset hq, fun h => n5 q hq q (List.mem_append_left _ h) rfl⟩
        have hdrop : ∀ q, q ∈ (cs2.drop (off + sz3)).flatMap T.blocks → q ∈ cs2.flatMap T.blocks ∧ q ∉ ran.flatMap T.blocks := fun q hq => ⟨(flat_sublist (List.drop_sublist _ _)).subset hq, fun h => n4 q h q hq rfl⟩
        generalize hnew : cs2.take off ++ (cs3A ++ cs2.drop (off + sz3)) = csN
        have hcsNl : csN.length = cs2.length := by
          rw [← hnew, List.length_append, List.length_append, List.length_take, List.length_drop]; omega
        have hout0 : ∀ j, ¬ (off ≤ j ∧ j < off + sz3) → csN[j]? = cs2[j]? := fun j hj => by
          rw [← hnew]
          by_cases h : j < off
          · rw [List.getElem?_append_left (by rw [List.length_take]; omega), List.getElem?_take_of_lt h]
          · rw [List.getElem?_append_right (by rw [List.length_take]; omega), List.getElem?_append_right (by rw [List.length_take]; omega), List.getElem?_drop, List.length_take]
            congr 1
            omega
        cases hoktc with
        | ow _ _ _ _ _ _ cur' ty' fz' g1 g2 g3 g4 g5 g6 g7 g8 g9 =>
        have hcell : ∀ j, (j < o + off ∨ o + off + sz3 ≤ j) → cur'[j]? = cur[j]? := fun j hj => by
          have := (hIc'.wd.fx b j (by rw [← hF]; exact .inr ((hfx b j).2 ⟨rfl, hj⟩))).2
          simpa [World.cell?, g1, k1] using this
        have hsize : o + c * sz2 ≤ cur'.size := by
          by_cases h : off + sz3 < c * sz2
          · have h1 : o + c * sz2 - 1 < cur.size := by have := k3.1; omega
            have h2 := hcell (o + c * sz2 - 1) (.inr (by omega))
            rw [Array.getElem?_eq_getElem h1] at h2
            have := (Array.getElem?_eq_some_iff.1 h2).1
            omega
          · have : sz3 ≤ c3 * sz3 := Nat.le_mul_of_pos_left _ g4
            have := g3.1
            omega
        have hxok : Ok S0 w0 w' (.ow (.blk b o c) sz2 n2 csN) := by
          refine .ow b o c sz2 n2 csN cur' ty' fz' g1 (by rw [← fzTo_congr hk1]; exact g2) ⟨hsize, k3.2⟩ k4 k5 (by rw [hcsNl]; exact k6) (fun j y hy => ?_) (fun y hy => ?_) (fun y hy => ?_)
          · by_cases hj : off ≤ j ∧ j < off + sz3
            · rw [← hnew, List.getElem?_append_right (by rw [List.length_take]; omega), List.getElem?_append_left (by rw [List.length_take]; omega)] at hy
              have := g7 _ y hy
              rw [List.length_take] at this
              rw [← this]
              congr 1
              omega
            · rw [hout0 j hj] at hy
              rw [hcell (o + j) (by omega)]
              exact k7 j y hy
          · rw [← hnew] at hy
            rcases List.mem_append.1 hy with hy | hy
            · exact (k8 y (List.mem_of_mem_take hy)).frame fun q hq => by
                have := htake q (List.mem_flatMap.2 ⟨y, hy, hq⟩)
                exact hIc'.wd.fr q (hout q this.1 this.2)
            · rcases List.mem_append.1 hy with hy | hy
              · have := g8 y hy
                rw [← hF] at this
                refine conv_back hR1.inv this ?_
                rcases hw with hw | hw
                · exact .inl hw
                · exact .inr (noRoL_mem' hw.2 y hy)
              · exact (k8 y (List.mem_of_mem_drop hy)).frame fun q hq => by
                  have := hdrop q (List.mem_flatMap.2 ⟨y, hy, hq⟩)
                  exact hIc'.wd.fr q (hout q this.1 this.2)
          · rw [← hnew] at hy
            rcases List.mem_append.1 hy with hy | hy
            · exact k9 y (List.mem_of_mem_take hy)
            · rcases List.mem_append.1 hy with hy | hy
              · exact g9 y hy
              · exact k9 y (List.mem_of_mem_drop hy)
        have hNb : (T.ow (.blk b o c) sz2 n2 csN : A).blocks = b :: csN.flatMap T.blocks := by simp [T.blocks, T.blocksL_eq]
        have hNm : ∀ q, q ∈ csN.flatMap T.blocks → q ∈ (cs2.take off).flatMap T.blocks ∨ q ∈ cs3A.flatMap T.blocks ∨ q ∈ (cs2.drop (off + sz3)).flatMap T.blocks := fun q hq => by
          rw [← hnew, List.flatMap_append, List.flatMap_append] at hq
          rcases List.mem_append.1 hq with h | h
          · exact .inl h
          · rcases List.mem_append.1 h with h | h
            · exact .inr (.inl h)
            · exact .inr (.inr h)
        have hXb : ∀ q, q ∈ cs2.flatMap T.blocks → q ∈ ([T.ow (.blk b o c) sz2 n2 cs2] : List A).flatMap T.blocks := fun q hq => by
          simp only [List.flatMap_cons, List.flatMap_nil, List.append_nil]
          rw [hbl2]; exact List.mem_cons_of_mem _ hq
        have hbX : b ∈ ([T.ow (.blk b o c) sz2 n2 cs2] : List A).flatMap T.blocks := by
          simp only [List.flatMap_cons, List.flatMap_nil, List.append_nil]
          rw [hbl2]; exact List.mem_cons_self
        have hZ : Inv S0 w0 M1 (.ow (.blk b o c) sz2 n2 csN :: Y) w' := by
          have hIc2 := hIc'
          rw [← hF] at hIc2
          refine call_back2 hR1.inv hX hIc2 (fun z hz => ?_) (fun q hq => ?_) ?_
          · rcases List.mem_cons.1 hz with rfl | hz
            · exact ⟨hxok, rfl⟩
            · refine ⟨conv_back hR1.inv (hIc2.xo z hz).1 ?_, (hIc2.xo z hz).2⟩
              rcases hw with hw | hw
              · exact .inl hw
              · exact .inr (noRoL_mem' (by rw [e1]; exact hw.1) z hz)
          · rw [hF]
            rw [List.flatMap_cons, hNb] at hq
            have hsz := hIc'.wd.sz
            rcases List.mem_append.1 hq with hq | hq
            · rcases List.mem_cons.1 hq with rfl | hq
              · exact ⟨by omega, .inl hbX⟩
              · rcases hNm q hq with h | h | h
                · have h1 := (htake q h).1
                  exact ⟨by have := (hxb q (List.mem_cons_of_mem _ h1)).1; omega, .inl (hXb q h1)⟩
                · exact ⟨(hcallee q h).1, .inr (hcallee q h).2⟩
                · have h1 := (hdrop q h).1
                  exact ⟨by have := (hxb q (List.mem_cons_of_mem _ h1)).1; omega, .inl (hXb q h1)⟩
            · exact ⟨(hIc'.xb q hq).1, .inr (hIc'.xb q hq).2⟩
          · rw [List.flatMap_cons, hNb, List.nodup_append, List.nodup_cons]
            refine ⟨⟨fun hq => ?_, ?_⟩, hIc'.xn, fun q hq q' hq' e => ?_⟩
            · rcases hNm b hq with h | h | h
              · exact hbn (htake b h).1
              · exact hndtc.1 h
              · exact hbn (hdrop b h).1
            · rw [← hnew, List.flatMap_append, List.flatMap_append, List.nodup_append, List.nodup_append]
              refine ⟨n1, ⟨hndtc.2, n3, fun q hq q' hq' e => ?_⟩, fun q hq q' hq' e => ?_⟩
              · subst e
                have := hdrop q hq'
                exact (hcallee q hq).2 (hout q this.1 this.2)
              · subst e
                rcases List.mem_append.1 hq' with hq' | hq'
                · have := htake q hq
                  exact (hcallee q hq').2 (hout q this.1 this.2)
                · exact n5 q hq q (List.mem_append_right _ hq') rfl
            · subst e
              have hY := hIc'.xb q hq'
              rcases List.mem_cons.1 hq with rfl | hq
              · exact hIc'.xd io _ hm q (by rw [hbltc]; exact List.mem_cons_self) hq'
              · rcases hNm q hq with h | h | h
                · have := htake q h
                  exact hY.2 (hout q this.1 this.2)
                · exact hIc'.xd io _ hm q (by rw [hbltc]; exact List.mem_cons_of_mem _ h) hq'
                · have := hdrop q h
                  exact hY.2 (hout q this.1 this.2)
        have ht1 : M1 id = some (t.put p (.gone (T.ow (.blk b o c) sz2 n2 cs2 : A).val)) := by rw [← hM1, upd_same]
        have hg1' : (t.put p (.gone (T.ow (.blk b o c) sz2 n2 cs2 : A).val)).get p = some (.gone (T.ow (.blk b o c) sz2 n2 cs2 : A).val) := by
          have := get_put_same p [] t (.gone (T.ow (.blk b o c) sz2 n2 cs2 : A).val) (by rw [hgt]; rfl)
          simpa [T.get] using this
        have hI3 := Inv.back hZ ht1 hg1' rfl
        rw [put_put, ← hM1, upd_upd] at hI3
        have hcv : ∀ (cc : DC) (uu : Value), RelC S0 w0 M cc uu → RelC S0 w0 (upd M id (some (t.put p (.ow (.blk b o c) sz2 n2 csN)))) (pzR id p off (off + sz3) cc) uu := fun cc uu hcc => hcc.range ht hgt hcsNl hout0
        refine ⟨v, _, Y, rfl, ⟨hI3, ?_, fun i => ?_, hR.nt, hR.df, fun i => ?_⟩, by rw [List.length_map]; omega, e1, e2, e3⟩
        · have := er_upd (id := id) (t := some (t.put p (.ow (.blk b o c) sz2 n2 csN))) hR.er
          simp only [Option.map_some, er_put, er_ow_mk] at this
          rw [ptBack_h, hrt]
          rw [List.length_map, hl3]
          rw [← hnew, List.map_append, List.map_append, List.map_take, List.map_drop] at this
          rw [hnew] at this
          exact this
        · simp only [ptBack]
          rw [List.length_map, hl3]
          exact (hR.en i).mapV hcv
        · simp only [ptBack]
          rw [List.length_map, hl3]
          exact hcv _ _ (hR.gh i)
    · cases p2
  · cases p2
end
end Go.Proofs.Ytciieaidbiejmaa.DM

/-
  DM 21. The step of one operation, calls among them; moves that change no memory.
-/
namespace Go.Proofs.Ytciieaidbiejmaa.DM
set_option linter.unusedVariables false
set_option linter.unusedSimpArgs false
/-- In every world that s tells of, the operation leads to one that s1 tells of. -/
def OpStep (P : Program) (nt : Nat) (o : Oper) (s s1 : FS) : Prop := ∀ (S0 : Fr) (w0 : World) (M : Heap) (a : Act) (w : World), Rel S0 w0 nt s M a w → ∀ (next : Act → World → Prop) (Q : Exit → Act → World → Prop),
  (∀ (M1 : Heap) (a1 : Act) (w1 : World), Rel S0 w0 nt s1 M1 a1 w1 → next a1 w1) → o.wp P a w next Q
/-- The same, where it is not told to which of some states. -/
def OpStepE (P : Program) (nt : Nat) (o : Oper) (s : FS) (K : FS → Prop) : Prop := ∀ (S0 : Fr) (w0 : World) (M : Heap) (a : Act) (w : World), Rel S0 w0 nt s M a w → ∀ (next : Act → World → Prop) (Q : Exit → Act → World → Prop),
  (∀ (s1 : FS) (M1 : Heap) (a1 : Act) (w1 : World), K s1 → Rel S0 w0 nt s1 M1 a1 w1 → next a1 w1) → o.wp P a w next Q
theorem OpStep.toE {P : Program} {nt : Nat} {o : Oper} {s s1 : FS} (h : OpStep P nt o s s1) : OpStepE P nt o s (· = s1) := fun S0 w0 M a w hR next Q hn => h S0 w0 M a w hR next Q fun M1 a1 w1 hR1 => hn s1 M1 a1 w1 rfl hR1
def Ghost (nt : Nat) (s s1 : FS) : Prop := ∀ (S0 : Fr) (w0 : World) (M : Heap) (a : Act) (w : World), Rel S0 w0 nt s M a w → ∃ M1, Rel S0 w0 nt s1 M1 a w
theorem OpStep.ghost {P : Program} {nt : Nat} {o : Oper} {s s0 s1 s2 : FS} (h0 : Ghost nt s s0) (h : OpStep P nt o s0 s1) (h1 : Ghost nt s1 s2) : OpStep P nt o s s2 := fun S0 w0 M a w hR next Q hn => by
  obtain ⟨M1, hR1⟩ := h0 S0 w0 M a w hR
  exact h S0 w0 M1 a w hR1 next Q fun M2 a2 w2 hR2 => by
    obtain ⟨M3, hR3⟩ := h1 S0 w0 M2 a2 w2 hR2
    exact hn M3 a2 w2 hR3
theorem OpStep.of {P : Program} {nt : Nat} {o : Oper} {s s1 : FS} (h : stepF P nt o s = some s1) : OpStep P nt o s s1 := fun S0 w0 M a w hR next Q hn => by
  obtain ⟨u, w1, M1, hrun, hR1⟩ := stepF_ok hR h
  unfold Oper.wp
  rcases hrun with hrun | ⟨rfl, hrun⟩
  · rw [hrun, Oper.upon_value]; exact hn _ _ _ hR1
  · rw [hrun, Oper.upon_skip]; exact hn _ _ _ hR1
section
variable {S0 : Fr} {w0 w w' : World} {M M' M1 : Heap} {X : List A} {P : Program} {nt : Nat} {s s1 : FS} {a : Act}
theorem RelX.noX (h : RelX S0 w0 nt s M X a w) : Rel S0 w0 nt s M a w :=
  ⟨⟨h.inv.ok, h.inv.nd, h.inv.dj, h.inv.bl, h.inv.wd, by simp, by simp, by simp, by simp⟩, h.er, h.en, h.nt, h.df, h.gh⟩
def capsOf : Value → List Value
  | .func _ _ caps => caps.toList
  | _ => []
/-- The values of a call's arguments. -/
def valsOf (a : Act) (f : Operand) (args : List Operand) : List Value := args.map a.eval ++ capsOf (a.eval f)
theorem callArgs_ok {f : Operand} {args : List Operand} {g : Nat} {vs : List DV} (hR : RelX S0 w0 nt s M X a w) (h : callArgs s f args = some (g, vs)) :
    (∃ caps, a.eval f = .func (.func g) #[] caps) ∧ (valsOf a f args).length = vs.length ∧ ∀ (i : Nat) (v : DV) (u : Value), vs[i]? = some v → (valsOf a f args)[i]? = some u → RelV S0 w0 M v u := by
  have hf := ev_ok hR.noX f
  have key : ∀ (cs : List DV) (us : List Value), us.length = cs.length → (∀ (i : Nat) (v : DV) (u : Value), cs[i]? = some v → us[i]? = some u → RelV S0 w0 M v u) → (args.map a.eval ++ us).length = (args.map (ev s.e) ++ cs).length ∧
      ∀ (i : Nat) (v : DV) (u : Value), (args.map (ev s.e) ++ cs)[i]? = some v → (args.map a.eval ++ us)[i]? = some u → RelV S0 w0 M v u := fun cs us hl hcs => by
    refine ⟨by simp [hl], fun i v u hv hu => ?_⟩
    by_cases hi : i < args.length
    · rw [List.getElem?_append_left (by simpa using hi), List.getElem?_map, List.getElem?_eq_getElem hi] at hv hu
      simp only [Option.map_some, Option.some.injEq] at hv hu
      subst hv; subst hu
      exact ev_ok hR.noX _
    · rw [List.getElem?_append_right (by simpa using Nat.le_of_not_lt hi)] at hv hu
      rw [List.length_map] at hv hu
      exact hcs _ v u hv hu
  unfold callArgs at h
  split at h
  · rename_i g' ids he
    simp only [Option.some.injEq, Prod.mk.injEq] at h
    obtain ⟨rfl, rfl⟩ := h
    rw [he] at hf
    obtain ⟨hc, -⟩ := hf
    unfold valsOf
    generalize a.eval f = u at hc
    cases hc with
    | fn _ _ ps hl hp =>
      refine ⟨⟨_, rfl⟩, ?_⟩
      simp only [capsOf, List.toList_toArray]
      refine key _ _ (by simp [hl]) (fun i v u hv hu => ?_)
      rw [List.getElem?_map, Option.map_eq_some_iff] at hv hu
      obtain ⟨id, hid, rfl⟩ := hv
      obtain ⟨ad, had, rfl⟩ := hu
      obtain ⟨b, o, c, sz, cs, hat, rfl⟩ := hp i id ad hid had
      exact ⟨.pt id [] 0 b o c sz 1 cs hat, rfl⟩
  · rename_i g' caps he
    simp only [Option.some.injEq, Prod.mk.injEq] at h
    obtain ⟨rfl, rfl⟩ := h
    rw [he] at hf
    obtain ⟨hc, -⟩ := hf
    unfold valsOf
    generalize a.eval f = u at hc
    cases hc with
    | t _ _ hro =>
      cases hro with
      | fn _ ps _ hl hp =>
        refine ⟨⟨_, rfl⟩, ?_⟩
        simp only [capsOf, List.toList_toArray]
        refine key _ _ (by simp [hl]) (fun i v u hv hu => ?_)
        rw [List.getElem?_map, Option.map_eq_some_iff] at hv hu
        obtain ⟨r, hr, rfl⟩ := hv
        obtain ⟨ad, had, rfl⟩ := hu
        have := hp i ad r had hr
        split
        · exact ⟨.rp _ _ this, rfl⟩
        · trivial
  · cases h
/-- How the model takes a call. -/
theorem run_call {o : Oper} {f : Operand} {args : Array Operand} {ats : Array TypeId} {g : Nat} {caps : Array Value} (ho : o.op = .call { callee := .value f, args := args, argTypes := ats }) (hf : a.eval f = .func (.func g) #[] caps) (hE : Enters P g) :
    (execOp a.eval o).run P w = .ok (.enter g (valsOf a f args.toList).toArray) w := by
  obtain ⟨fn, h1, h2, h3⟩ := hE
  have hv : (valsOf a f args.toList).toArray = args.map a.eval ++ caps := by
    unfold valsOf
    rw [hf]
    apply Array.toList_inj.1
    simp [capsOf]
  have hb : fn.body ≠ none := fun e => by rw [e] at h2; cases h2
  have h3' : fn.name ≠ "runtime.NumGoroutine" := by simpa using h3
  rw [hv]
  simp [execOp, ho, resolve, hf, Deferred.ofValue, invoke, callFunc, h1, h3', hb]
theorem call_wp {o : Oper} {f : Operand} {args : Array Operand} {ats : Array TypeId} {g : Nat} {vs : List DV} {sh : List (Option Nat)} {ds : List D} (ho : o.op = .call { callee := .value f, args := args, argTypes := ats }) (hR : Rel S0 w0 nt s M a w) (hc : callArgs s f args.toList = some (g, vs)) (hE : Enters P g)
    {s2 : FS} (hf : finish nt s1 o.dst sh ds = some s2) {next : Act → World → Prop} {Q : Exit → Act → World → Prop}
    (h : Calls P g (valsOf a f args.toList).toArray w fun e w' => ∃ (v : Value) (M1 : Heap) (Y : List A), e = .returned v ∧ RelX S0 w0 nt s1 M1 Y a w' ∧ Y.map er = ds ∧ ds.length = shLen sh ∧ v = packV sh (Y.map T.val))
    (hn : ∀ (M1 : Heap) (a1 : Act) (w1 : World), Rel S0 w0 nt s2 M1 a1 w1 → next a1 w1) : o.wp P a w next Q := by
  obtain ⟨⟨caps, hcaps⟩, -⟩ := callArgs_ok hR hc
  unfold Oper.wp
  rw [run_call ho hcaps hE, Oper.upon_enter]
  refine Calls.mono h ?_
  rintro e w' ⟨v, M1, Y, rfl, hR1, e1, e2, rfl⟩
  subst e1
  obtain ⟨M2, hR2⟩ := finish_ok hR1 e2 hf
  exact hn _ _ _ hR2
/-- A call with arguments that are read. -/
theorem OpStep.callN {o : Oper} {f : Operand} {args : Array Operand} {ats : Array TypeId} {g : Nat} {vs : List DV} {az az' : List PA} {sh : List (Option Nat)} {ds : List D} (ho : o.op = .call { callee := .value f, args := args, argTypes := ats }) (hc : callArgs s f args.toList = some (g, vs))
    (hS : Spec P g az sh ds az') (hr : rosOk s az.length 0 vs az) (hw : widen az.length 0 vs = false ∨ noRoL ds = true) (hf : finish nt s o.dst sh ds = some s1) : OpStep P nt o s s1 := fun S0 w0 M a w hR next Q hn => by
  obtain ⟨-, l1, l2⟩ := callArgs_ok hR hc
  refine call_wp ho hR hc hS.1 hf (Calls.mono (call_N hR hS l1 l2 hr hw) ?_) hn
  rintro e w' ⟨v, Y, h1, h2, h3, h4, h5⟩
  exact ⟨v, M, Y, h1, h2, h3, h4, h5⟩
/-- A call with an argument that is given away. -/
theorem OpStep.callG {o : Oper} {f : Operand} {args : Array Operand} {ats : Array TypeId} {g io : Nat} {vs vs1 : List DV} {az az' : List PA} {sh : List (Option Nat)} {ds : List D} {v : DV} {pa : PA} {cs : List DC} {pcs : List PC} {s2 : FS} (ho : o.op = .call { callee := .value f, args := args, argTypes := ats })
    (hc : callArgs s f args.toList = some (g, vs)) (hS : Spec P g az sh ds az') (hio : vs[io]? = some v) (hpa : az[io]? = some pa) (hsh : shapeOf v pa = some (cs, pcs)) (hg : giveG s cs pcs = some s2) (hc1 : callArgs s2 f args.toList = some (g, vs1))
    (hr : rosOk s2 io 0 vs1 az) (hw : widen io 0 vs1 = false ∨ noRoL ds = true) (hf : finish nt s2 o.dst sh ds = some s1) : OpStep P nt o s s1 := fun S0 w0 M a w hR next Q hn => by
  obtain ⟨-, l1, l2⟩ := callArgs_ok hR hc
  exact call_wp ho hR hc hS.1 hf (call_G hR hS l1 l2 hio hpa hsh hg (fun M1 X hR1 => (callArgs_ok hR1 hc1).2) hr hw) hn
/-- A call with an argument whose rows are lent. -/
theorem OpStep.callL {o : Oper} {f : Operand} {args : Array Operand} {ats : Array TypeId} {g io : Nat} {vs vs1 : List DV} {az az' : List PA} {sh : List (Option Nat)} {ds : List D} {v : DV} {pa pa' : PA} {cs : List DC} {pcs : List PC} {s2 : FS} {L : List Pl} (ho : o.op = .call { callee := .value f, args := args, argTypes := ats })
    (hc : callArgs s f args.toList = some (g, vs)) (hS : Spec P g az sh ds az') (hio : vs[io]? = some v) (hpa : az[io]? = some pa) (hpa' : az'[io]? = some pa') (hsh : shapeOf v pa = some (cs, pcs)) (hg : lendL s 0 cs pcs = some (s2, L)) (hap : L.Pairwise apartP) (h64 : pcs.length ≤ 64) (hc1 : callArgs s2 f args.toList = some (g, vs1))
    (hr : rosOk s2 io 0 vs1 az) (hw : widen io 0 vs1 = false ∨ (noRoL ds = true ∧ noRoL ((paCells pa').map PC.tree) = true)) (hf : finish nt (backFS s s2 L (paCells pa')) o.dst sh ds = some s1) : OpStep P nt o s s1 := fun S0 w0 M a w hR next Q hn => by
  obtain ⟨-, l1, l2⟩ := callArgs_ok hR hc
  exact call_wp ho hR hc hS.1 hf (call_L hR hS l1 l2 hio hpa hpa' hsh hg hap h64 (fun M1 X hR1 => (callArgs_ok hR1 hc1).2) hr hw) hn
/-- A call with a pointer into a row. -/
theorem OpStep.callP {o : Oper} {f : Operand} {args : Array Operand} {ats : Array TypeId} {g io : Nat} {vs vs1 : List DV} {az az' : List PA} {sh : List (Option Nat)} {ds : List D} {id off sz n : Nat} {p : List Nat} {root : D} {cs0 cs cs' : List D} (ho : o.op = .call { callee := .value f, args := args, argTypes := ats })
    (hc : callArgs s f args.toList = some (g, vs)) (hS : Spec P g az sh ds az') (hio : vs[io]? = some (.v (.one (.pt id p off)))) (hpa : az[io]? = some (.ptr cs)) (hpa' : az'[io]? = some (.ptr cs')) (hroot : s.h id = some root) (hg : root.get p = some (.ow () sz n cs0)) (hcs : cs = (cs0.drop off).take cs.length)
    (hlen : off + cs.length ≤ cs0.length) (hk0 : 0 < cs.length) (hc1 : callArgs (s.lend id p root) f args.toList = some (g, vs1)) (hr : rosOk (s.lend id p root) io 0 vs1 az) (hw : widen io 0 vs1 = false ∨ (noRoL ds = true ∧ noRoL cs' = true))
    (hf : finish nt (ptBack s id p root sz n off cs0 cs') o.dst sh ds = some s1) (hk1 : cs.length = 1 ↔ sz = 1 := by simp) : OpStep P nt o s s1 := fun S0 w0 M a w hR next Q hn => by
  obtain ⟨-, l1, l2⟩ := callArgs_ok hR hc
  refine call_wp ho hR hc hS.1 hf (Calls.mono (call_P hR hS l1 l2 hio hpa hpa' hroot hg hcs hlen hk0 hk1 (fun M1 X hR1 => (callArgs_ok hR1 hc1).2) hr hw) ?_) hn
  rintro e w' ⟨v, M1, Y, h1, h2, _, h3, h4, h5⟩
  exact ⟨v, M1, Y, h1, h2, h3, h4, h5⟩
/-- A function value that captures variables of the call's own. -/
theorem OpStep.makeFunc {o : Oper} {d f : Nat} {caps : Array Operand} {ids : List Nat} (ho : o.op = .makeFunc (.func f) #[] caps) (hd : o.dst = some d) (hdn : d < nt) (hc : caps.toList.map (ev s.e) = ids.map fun id => .v (.one (.pt id [] 0)))
    (hh : ∀ id ∈ ids, ∃ sz cs, s.h id = some (.ow () sz 1 cs)) : OpStep P nt o s ⟨upd s.e d (.v (.one (.fn f ids))), s.h, s.g⟩ := fun S0 w0 M a w hR next Q hn => by
  have hl : caps.toList.length = ids.length := by have := congrArg List.length hc; simpa using this
  have hcap : ∀ (i : Nat) (x : Operand) (id : Nat), caps.toList[i]? = some x → ids[i]? = some id → RelV S0 w0 M (.v (.one (.pt id [] 0))) (a.eval x) := fun i x id hx hid => by
    have : (caps.toList.map (ev s.e))[i]? = (ids.map fun id => (.v (.one (.pt id [] 0)) : DV))[i]? := by rw [hc]
    rw [List.getElem?_map, List.getElem?_map, hx, hid] at this
    have he : ev s.e x = .v (.one (.pt id [] 0)) := by simpa using this
    rw [← he]
    exact ev_ok hR x
  have hps : ∃ ps : List Addr, ps.length = ids.length ∧ caps.toList.map a.eval = (ps.map fun a => Value.pointer (some a)) ∧ ∀ (i id : Nat) (ad : Addr), ids[i]? = some id → ps[i]? = some ad → ∃ b o c sz cs, at_ M id [] (.ow (.blk b o c) sz 1 cs) ∧ ad = ⟨b, o, none⟩ := by
    clear hc hn
    generalize caps.toList = l at hl hcap
    induction l generalizing ids with
    | nil => cases ids with
      | nil => exact ⟨[], rfl, rfl, fun i id ad h => by simp at h⟩
      | cons _ _ => simp at hl
    | cons x l ih => cases ids with
      | nil => simp at hl
      | cons id ids =>
        obtain ⟨ps, p1, p2, p3⟩ := ih (ids := ids) (fun id hid => hh id (List.mem_cons_of_mem _ hid)) (by simpa using hl) (fun i x id hx hid => hcap (i + 1) x id (by simpa using hx) (by simpa using hid))
        obtain ⟨hc, -⟩ := hcap 0 x id rfl rfl
        obtain ⟨sz, cs, hid⟩ := hh id List.mem_cons_self
        generalize hu : a.eval x = u at hc
        cases hc with
        | pt _ _ _ b o c sz2 m cs2 hat =>
          have hm : m = 1 := by
            obtain ⟨t, ht, hg⟩ := hat
            have := hR.er id
            rw [hid, ht] at this
            simp only [T.get, Option.some.injEq] at hg
            subst hg
            rw [Option.map_some, er_ow_mk] at this
            simp only [Option.some.injEq, T.ow.injEq, true_and] at this
            exact this.2.1.symm
          subst hm
          refine ⟨⟨b, o, none⟩ :: ps, by simp [p1], by simp [hu, p2], fun i id' ad h1 h2 => ?_⟩
          cases i with
          | zero => simp at h1 h2; subst h1; subst h2; exact ⟨b, o, c, sz2, cs2, hat, rfl⟩
          | succ i => exact p3 i id' ad (by simpa using h1) (by simpa using h2)
  obtain ⟨ps, p1, p2, p3⟩ := hps
  have hrun : (execOp a.eval o).run P w = .ok (.value (.func (.func f) #[] (ps.map fun a => Value.pointer (some a)).toArray)) w := by
    have : caps.map a.eval = (ps.map fun a => Value.pointer (some a)).toArray := by
      apply Array.toList_inj.1
      rw [Array.toList_map, p2]
    simp [execOp, ho, Instr.makeFunc, this]
  unfold Oper.wp
  rw [hrun, Oper.upon_value, hd]
  exact hn M _ _ (hR.put ⟨.fn f ids ps p1 p3, rfl⟩ hdn)
/-- An entry is let go. -/
def FS.free (s : FS) (d : Nat) : FS := ⟨fun i => pzV d [] (s.e i), upd s.h d none, fun i => pzC d [] (s.g i)⟩
theorem RelX.free (hR : RelX S0 w0 nt s M X a w) (d : Nat) : RelX S0 w0 nt (s.free d) (upd M d none) X a w :=
  ⟨hR.inv.drop d, er_upd (t := none) hR.er, fun i => (hR.en i).poison keeps_drop (fun j hj => keeps_upd hj), hR.nt, hR.df, fun i => (hR.gh i).poison keeps_drop (fun j hj => keeps_upd hj)⟩
theorem Ghost.free (d : Nat) : Ghost nt s (s.free d) := fun S0 w0 M a w hR => ⟨_, hR.free d⟩
theorem Ghost.refl : Ghost nt s s := fun S0 w0 M a w hR => ⟨M, hR⟩
theorem Ghost.trans {s2 : FS} (h : Ghost nt s s1) (h' : Ghost nt s1 s2) : Ghost nt s s2 := fun S0 w0 M a w hR => by
  obtain ⟨M1, hR1⟩ := h S0 w0 M a w hR
  exact h' S0 w0 M1 a w hR1
/-- What is known of a temporary is given up. -/
theorem Ghost.forget (t : Nat) : Ghost nt s ⟨upd s.e t .un, s.h, s.g⟩ := fun S0 w0 M a w hR => ⟨M, hR.inv, hR.er, fun i => by
  by_cases h : i = t
  · subst h; simp only [upd_same]; trivial
  · simp only; rw [upd_ne _ _ _ _ h]; exact hR.en i, hR.nt, hR.df, hR.gh⟩
end
end Go.Proofs.Ytciieaidbiejmaa.DM

/-
  DM 22. A row moves to a name of its own; the rules of the code; the contract of a function.
-/
namespace Go.Proofs.Ytciieaidbiejmaa.DM
set_option linter.unusedVariables false
set_option linter.unusedSimpArgs false
def mvC (id : Nat) (p : List Nat) (id' : Nat) : DC → DC
  | .sl i q off n => if isAt id p i q then .sl id' (q.drop p.length) off n else .sl i q off n
  | .pt i q off => if isAt id p i q then .pt id' (q.drop p.length) off else .pt i q off
  | .fn f ids => if ids.contains id then .un else .fn f ids
  | c => c
/-- A row without one of its parts; nothing if it is taken whole. -/
def cutD (root : D) : List Nat → Option D
  | [] => none
  | p => some (root.put p (.gone ()))
def FS.move (s : FS) (id : Nat) (p : List Nat) (id' : Nat) (root x : D) : FS :=
  ⟨fun i => mapV (mvC id p id') (s.e i), upd (upd s.h id (cutD root p)) id' (some x), fun i => mvC id p id' (s.g i)⟩
section
variable {S0 : Fr} {w0 w w' : World} {M M' M1 : Heap} {X : List A} {P : Program} {nt : Nat} {s s1 : FS} {a : Act}
theorem get_below {α β : Type} : ∀ (p r : List Nat) (t x : T α β), t.get p = some x → t.get (p ++ r) = x.get r
  | [], r, t, x, h => by simp only [T.get, Option.some.injEq] at h; subst h; rfl
  | i :: p, r, t, x, h => by
    simp only [T.get] at h
    simp only [List.cons_append, T.get]
    cases hc : t.cells[i]? with
    | none => rw [hc] at h; cases h
    | some c => rw [hc] at h; exact get_below p r c x h
/-- What is in hand is laid az an entry. -/
theorem Inv.entry {x : A} (h : Inv S0 w0 M [x] w) {id : Nat} (hid : M id = none) : Inv S0 w0 (upd M id (some x)) [] w := by
  have hlook : ∀ i u, upd M id (some x) i = some u → (i = id ∧ u = x) ∨ (i ≠ id ∧ M i = some u) := fun i u hu => by
    by_cases hi : i = id
    · subst hi; rw [upd_same] at hu; exact .inl ⟨rfl, (Option.some.inj hu).symm⟩
    · rw [upd_ne _ _ _ _ hi] at hu; exact .inr ⟨hi, hu⟩
  have hxm : ∀ b, b ∈ x.blocks → b ∈ ([x] : List A).flatMap T.blocks := fun b hb => by simpa using hb
  refine ⟨?_, ?_, ?_, ?_, h.wd, by simp, by simp, by simp, by simp⟩
  · intro i u hu
    rcases hlook i u hu with ⟨rfl, rfl⟩ | ⟨_, hm⟩
    · exact (h.xo u List.mem_cons_self).1
    · exact h.ok i u hm
  · intro i u hu
    rcases hlook i u hu with ⟨rfl, rfl⟩ | ⟨_, hm⟩
    · simpa using h.xn
    · exact h.nd i u hm
  · intro i j u v hij hu hv b hbu hbv
    rcases hlook i u hu with ⟨rfl, rfl⟩ | ⟨hi, hm⟩
    · rcases hlook j v hv with ⟨rfl, rfl⟩ | ⟨hj, hm'⟩
      · exact absurd rfl hij
      · exact h.xd j v hm' b hbv (hxm b hbu)
    · rcases hlook j v hv with ⟨rfl, rfl⟩ | ⟨hj, hm'⟩
      · exact h.xd i u hm b hbu (hxm b hbv)
      · exact h.dj i j u v hij hm hm' b hbu hbv
  · intro i u b hu hbu
    rcases hlook i u hu with ⟨rfl, rfl⟩ | ⟨_, hm⟩
    · exact h.xb b (hxm b hbu)
    · exact h.bl i u b hm hbu
theorem Ghost.move {id id' : Nat} {p : List Nat} {root : D} {sz n : Nat} {cs : List D} (hr : s.h id = some root) (hg : root.get p = some (.ow () sz n cs)) (hn : s.h id' = none) : Ghost nt s (s.move id p id' root (.ow () sz n cs)) := fun S0 w0 M a w hR => by
  have hne : id' ≠ id := fun e => by rw [e, hr] at hn; cases hn
  have her := hR.er id
  rw [hr] at her
  cases hm : M id with
  | none => rw [hm] at her; cases her
  | some t =>
    rw [hm] at her
    have hrt : root = er t := by simpa using her
    subst hrt
    unfold er at hg
    rw [T.get_map] at hg
    obtain ⟨x, hx, hxe⟩ := Option.map_eq_some_iff.1 hg
    have hxe : er x = .ow () sz n cs := hxe
    have hh : x.isHold = false := by cases x <;> first | rfl | (simp [er, T.map] at hxe)
    have hM' : M id' = none := by
      have := hR.er id'
      rw [hn] at this
      cases h : M id' with
      | none => rfl
      | some u => rw [h] at this; cases this
    have h1 := hR.inv.take hm hx hh
    rw [List.nil_append] at h1
    -- the entry without the row
    obtain ⟨M1, hI1, hM1e, hk1, hM1n⟩ : ∃ M1, Inv S0 w0 M1 [x] w ∧ (∀ i, upd s.h id (cutD (er t) p) i = (M1 i).map er) ∧ (∀ i q, ¬ (i = id ∧ p <+: q) → Keeps M M1 i q) ∧ M1 id' = none := by
      cases p with
      | nil =>
        refine ⟨upd M id none, ?_, er_upd (t := none) hR.er, keeps_drop, by rw [upd_ne _ _ _ _ hne]; exact hM'⟩
        have := h1.drop id
        rw [upd_upd] at this
        exact this
      | cons j q =>
        refine ⟨_, h1, ?_, keeps_take hm, by rw [upd_ne _ _ _ _ hne]; exact hM'⟩
        have := er_upd (id := id) (t := some (t.put (j :: q) (.gone x.val))) hR.er
        simp only [Option.map_some, er_put, er_gone] at this
        exact this
    have hI2 := hI1.entry hM1n
    have hk2 : ∀ i q, ¬ (i = id ∧ p <+: q) → Keeps M (upd M1 id' (some x)) i q := fun i q h => (hk1 i q h).trans (keeps_new hM1n i q)
    have hat : ∀ (q : List Nat) (y : A), p <+: q → at_ M id q y → at_ (upd M1 id' (some x)) id' (q.drop p.length) y := fun q y hpq ⟨t', ht', hy⟩ => by
      rw [hm] at ht'
      obtain rfl := Option.some.inj ht'
      obtain ⟨r, rfl⟩ := hpq
      rw [get_below p r t x hx] at hy
      exact ⟨x, upd_same _ _ _, by simpa using hy⟩
    have hcv : ∀ (c : DC) (v : Value), RelC S0 w0 M c v → RelC S0 w0 (upd M1 id' (some x)) (mvC id p id' c) v := by
      intro c v hc
      have hfar : ∀ {i : Nat} {q : List Nat}, ¬ isAt id p i q = true → Keeps M (upd M1 id' (some x)) i q := fun {i q} h => hk2 i q fun ⟨h1, h2⟩ => h (by simp [isAt, h1, h2])
      have hnear : ∀ {i : Nat} {q : List Nat}, isAt id p i q = true → i = id ∧ p <+: q := fun {i q} h => by simpa [isAt] using h
      cases hc with
      | un v => exact .un v
      | t r v h => exact .t r v h
      | nl a => exact .nl a
      | rp cs a h => exact .rp cs a h
      | sl i q k n b o c' sz m cs g1 g2 =>
        simp only [mvC]
        by_cases hq : isAt id p i q = true
        · rw [if_pos hq]
          obtain ⟨rfl, hpq⟩ := hnear hq
          exact .sl id' _ k n b o c' sz m cs (hat q _ hpq g1) g2
        · rw [if_neg hq]
          exact (RelC.sl i q k n b o c' sz m cs g1 g2).keep fun r hr => by simp [refsC] at hr; subst hr; exact hfar hq
      | se i q off a d sz m cs g1 =>
        simp only [mvC]
        by_cases hq : isAt id p i q = true
        · rw [if_pos hq]
          obtain ⟨rfl, hpq⟩ := hnear hq
          exact .se id' _ off a d sz m cs (hat q _ hpq g1)
        · rw [if_neg hq]
          exact (RelC.se i q off a d sz m cs g1).keep fun r hr => by simp [refsC] at hr; subst hr; exact hfar hq
      | pt i q off b o c' sz m cs g1 =>
        simp only [mvC]
        by_cases hq : isAt id p i q = true
        · rw [if_pos hq]
          obtain ⟨rfl, hpq⟩ := hnear hq
          exact .pt id' _ off b o c' sz m cs (hat q _ hpq g1)
        · rw [if_neg hq]
          exact (RelC.pt i q off b o c' sz m cs g1).keep fun r hr => by simp [refsC] at hr; subst hr; exact hfar hq
      | fn f ids ps hl hp =>
        simp only [mvC]
        split
        · exact .un _
        · rename_i hn
          refine (RelC.fn f ids ps hl hp).keep fun r hr => ?_
          simp only [refsC, List.mem_map] at hr
          obtain ⟨i, hi, rfl⟩ := hr
          exact hk2 i [] fun ⟨e, _⟩ => hn (by simp [← e, hi])
    refine ⟨_, ⟨hI2, ?_, fun i => (hR.en i).mapV hcv, hR.nt, hR.df, fun i => hcv _ _ (hR.gh i)⟩⟩
    have := er_upd (id := id') (t := some x) (s := ⟨s.e, upd s.h id (cutD (er t) p), s.g⟩) hM1e
    rw [Option.map_some, hxe] at this
    exact this
end
/-- In every world that s tells of, the code leads to one that Q tells of. -/
def DW (P : Program) (nt : Nat) (c : Code) (s : FS) (Q : Exit → FS → Prop) : Prop := ∀ (S0 : Fr) (w0 : World) (M : Heap) (a : Act) (w : World), Rel S0 w0 nt s M a w → c.wp P (fun e a' w' => ∃ s1 M1, Q e s1 ∧ Rel S0 w0 nt s1 M1 a' w') a w
section
variable {P : Program} {nt : Nat} {s s1 : FS} {Q Q' : Exit → FS → Prop}
theorem DW.mono {c : Code} (h : DW P nt c s Q) (hq : ∀ e s1, Q e s1 → Q' e s1) : DW P nt c s Q' := fun S0 w0 M a w hR => wp_mono (h S0 w0 M a w hR) fun e a' w' ⟨s1, M1, h1, h2⟩ => ⟨s1, M1, hq e s1 h1, h2⟩
theorem DW.ghost {c : Code} (hg : Ghost nt s s1) (h : DW P nt c s1 Q) : DW P nt c s Q := fun S0 w0 M a w hR => by
  obtain ⟨M1, hR1⟩ := hg S0 w0 M a w hR
  exact h S0 w0 M1 a w hR1
theorem DW.skip (h : Q .normal s) : DW P nt .skip s Q := fun S0 w0 M a w hR => wp_skip ⟨s, M, h, hR⟩
theorem DW.exit {id : Nat} (h : Q (.exit id) s) : DW P nt (.exit id) s Q := fun S0 w0 M a w hR => wp_exit ⟨s, M, h, hR⟩
theorem DW.ret (h : Q .ret s) : DW P nt .ret s Q := fun S0 w0 M a w hR => wp_ret ⟨s, M, h, hR⟩
def thenQ (N : FS → Prop) (Q : Exit → FS → Prop) : Exit → FS → Prop
  | .normal, s => N s
  | e, s => Q e s
theorem DW.seq {x y : Code} (h : DW P nt x s (thenQ (fun s1 => DW P nt y s1 Q) Q)) : DW P nt (.seq x y) s Q := fun S0 w0 M a w hR => by
  refine wp_seq (wp_mono (h S0 w0 M a w hR) ?_)
  rintro e a' w' ⟨s1, M1, h1, h2⟩
  cases e with
  | normal => exact h1 S0 w0 M1 a' w' h2
  | _ => exact ⟨s1, M1, h1, h2⟩
theorem DW.cond {c : Operand} {x y : Code} {t : Bool} (hc : asSc (ev s.e c) = some (.bool t)) (ht : t = true → DW P nt x s Q) (hf : t = false → DW P nt y s Q) : DW P nt (.cond c x y) s Q := fun S0 w0 M a w hR => by
  have := (asSc_ok hc (ev_ok hR c)).1
  exact wp_cond_split this (fun h => ht h S0 w0 M a w hR) (fun h => hf h S0 w0 M a w hR)
def blockQ (id : Nat) (Q : Exit → FS → Prop) : Exit → FS → Prop
  | .exit id', s => if id' = id then Q .normal s else Q (.exit id') s
  | e, s => Q e s
theorem DW.block {id : Nat} {c : Code} (h : DW P nt c s (blockQ id Q)) : DW P nt (.block id c) s Q := fun S0 w0 M a w hR => by
  refine wp_block (wp_mono (h S0 w0 M a w hR) ?_)
  rintro e a' w' ⟨s1, M1, h1, h2⟩
  cases e with
  | exit id' =>
    simp only [blockQ] at h1
    simp only [Exit.inBlock]
    split
    · rename_i hid; rw [if_pos hid] at h1; exact ⟨s1, M1, h1, h2⟩
    · rename_i hid; rw [if_neg hid] at h1; exact ⟨s1, M1, h1, h2⟩
  | _ => exact ⟨s1, M1, h1, h2⟩
theorem least {J : Nat → Prop} : ∀ n, J n → ∃ m, J m ∧ ∀ k, J k → m ≤ k := fun n => by
  induction n using Nat.strongRecOn with
  | _ n ih =>
    intro h
    by_cases hh : ∃ k, k < n ∧ J k
    · obtain ⟨k, h1, h2⟩ := hh
      exact ih k h1 h2
    · exact ⟨n, h, fun k hk => Nat.le_of_not_lt fun hlt => hh ⟨k, hlt, hk⟩⟩
open Classical in
/-- A loop, with an invariant that falls. -/
theorem DW.loop {c : Code} (I : Nat → FS → Prop) {n0 : Nat} (h0 : I n0 s) (round : ∀ (n : Nat) (s : FS), I n s → DW P nt c s (thenQ (fun s1 => ∃ m, m < n ∧ I m s1) Q)) : DW P nt (.loop c) s Q := fun S0 w0 M a w hR => by
  let J : Act → World → Nat → Prop := fun a w n => ∃ s M, I n s ∧ Rel S0 w0 nt s M a w
  let μ : Act → World → Nat := fun a w => if h : ∃ m, J a w m ∧ ∀ k, J a w k → m ≤ k then Classical.choose h else 0
  have hμ : ∀ a w n, J a w n → J a w (μ a w) ∧ μ a w ≤ n := fun a w n h => by
    have hex := least n h
    have e : μ a w = Classical.choose hex := dif_pos hex
    rw [e]
    exact ⟨(Classical.choose_spec hex).1, (Classical.choose_spec hex).2 n h⟩
  refine wp_loop (fun a w => ∃ n, J a w n) μ ⟨n0, s, M, h0, hR⟩ ?_
  rintro a w ⟨n, hn⟩
  obtain ⟨⟨s, M, hI, hR⟩, -⟩ := hμ a w n hn
  refine wp_mono (round _ s hI S0 w0 M a w hR) ?_
  rintro e a' w' ⟨s1, M1, h1, h2⟩
  cases e with
  | normal =>
    obtain ⟨m, hm, hI1⟩ := h1
    have hJ : J a' w' m := ⟨s1, M1, hI1, h2⟩
    exact ⟨⟨m, hJ⟩, Nat.lt_of_le_of_lt (hμ a' w' m hJ).2 hm⟩
  | _ => exact ⟨s1, M1, h1, h2⟩
end
end Go.Proofs.Ytciieaidbiejmaa.DM

/-
  DM 23. Regions: in order; in any order.
-/
namespace Go.Proofs.Ytciieaidbiejmaa.DM
set_option linter.unusedVariables false
set_option linter.unusedSimpArgs false
/-- Is the operation wanted, az the state tells? -/
def wantedD (ops : Array Oper) (o : Oper) (e : Nat → DV) : Option Bool := match o.guard with
  | none => some true
  | some (j, want) => match (ops[j]?).bind (·.dst) with
    | some t => match e t with
      | .v (.one (.t (.sc (.bool b)))) => some (b == want)
      | .tup [] => some false
      | _ => none
    | none => some false
section
variable {S0 : Fr} {w0 w w' : World} {M M' M1 : Heap} {X : List A} {P : Program} {nt : Nat} {s s1 : FS} {a : Act} {ops : Array Oper}
theorem wantedD_ok {o : Oper} {b : Bool} (hR : Rel S0 w0 nt s M a w) (h : wantedD ops o s.e = some b) : Region.wanted o (yielded ops a.tmps) = b := by
  unfold wantedD at h
  unfold Region.wanted
  split at h
  · obtain rfl := Option.some.inj h; rename_i hg; rw [hg]
  · rename_i j want hg
    rw [hg]
    simp only [yielded]
    split at h
    · rename_i t ht
      rw [ht]
      simp only [Option.bind_some]
      have hen := hR.en t
      split at h
      · rename_i b' he
        obtain rfl := Option.some.inj h
        rw [he] at hen
        obtain ⟨hc, -⟩ := hen
        have hv : a.tmps.getD t undef = .bool b' := by
          generalize a.tmps.getD t undef = u at hc
          cases hc with
          | t r v h => cases h with | sc v hv => rfl
        have ht : a.tmps[t]? = some (.bool b') := by
          rw [Array.getD_eq_getD_getElem?] at hv
          cases hh : a.tmps[t]? with
          | none => rw [hh] at hv; cases hv
          | some x => rw [hh] at hv; simpa using hv
        rw [ht]
        cases b' <;> cases want <;> rfl
      · rename_i he
        obtain rfl := Option.some.inj h
        rw [he] at hen
        obtain ⟨vs, hv, hl, -⟩ := hen
        have hvs : vs = [] := List.length_eq_zero_iff.1 (by simpa using hl)
        subst hvs
        have ht : a.tmps[t]? = none ∨ a.tmps[t]? = some (.tuple #[]) := by
          rw [Array.getD_eq_getD_getElem?] at hv
          cases hh : a.tmps[t]? with
          | none => exact .inl rfl
          | some x => rw [hh] at hv; exact .inr (by simpa using hv)
        rcases ht with ht | ht <;> rw [ht] <;> cases want <;> rfl
      · cases h
    · rename_i ht
      obtain rfl := Option.some.inj h
      rw [ht]
      cases want <;> rfl
def RegO (P : Program) (nt : Nat) (ops : Array Oper) : List Oper → FS → (FS → Prop) → Prop
  | [], s, N => N s
  | o :: l, s, N => ∃ b, wantedD ops o s.e = some b ∧ (b = true → ∃ K : FS → Prop, OpStepE P nt o s K ∧ ∀ s1, K s1 → RegO P nt ops l s1 N) ∧ (b = false → dstOk nt o.dst = true ∧ RegO P nt ops l (s.set o.dst (.tup [])) N)
theorem undef_ok : RelV S0 w0 M (.tup []) undef := ⟨[], rfl, rfl, fun i x u h => by simp at h⟩
theorem regO_ok {Q : Exit → Act → World → Prop} {N : FS → Prop} : ∀ (l : List Oper) (k : Nat), (∀ (i : Nat) (o : Oper), l[i]? = some o → ops[k + i]? = some o) → ∀ {s : FS} {M : Heap} {a : Act} {w : World}, Rel S0 w0 nt s M a w → RegO P nt ops l s N →
    (∀ (s1 : FS) (M1 : Heap) (a1 : Act) (w1 : World), N s1 → Rel S0 w0 nt s1 M1 a1 w1 → Q .normal a1 w1) → wpOps P ops Q (List.range' k l.length) a w
  | [], k, _, s, M, a, w, hR, h, hQ => hQ s M a w h hR
  | o :: l, k, ho, s, M, a, w, hR, h, hQ => by
    obtain ⟨b, hb, h1, h2⟩ := h
    rw [List.length_cons, List.range'_succ]
    have hok : ops[k]? = some o := by simpa using ho 0 o rfl
    have ho' : ∀ (i : Nat) (o' : Oper), l[i]? = some o' → ops[k + 1 + i]? = some o' := fun i o' hi => by
      have := ho (i + 1) o' (by simpa using hi)
      rw [← this]; congr 1; omega
    simp only [wpOps, hok]
    rw [wantedD_ok hR hb]
    cases b with
    | true =>
      simp only [if_true]
      obtain ⟨K, hs1, hrest⟩ := h1 rfl
      exact .inl (hs1 S0 w0 M a w hR _ _ fun s1 M1 a1 w1 hK hR1 => regO_ok l (k + 1) ho' hR1 (hrest s1 hK) hQ)
    | false =>
      simp only [Bool.false_eq_true, if_false]
      obtain ⟨hd, hrest⟩ := h2 rfl
      exact regO_ok l (k + 1) ho' (hR.set undef_ok hd) hrest hQ
theorem DW.region {id : Nat} {Q : Exit → FS → Prop} (h : RegO P nt ops ops.toList s (Q .normal)) : DW P nt (.region id ops false) s Q := fun S0 w0 M a w hR => by
  refine wp_region ?_
  rw [List.range_eq_range', ← Array.length_toList]
  exact regO_ok ops.toList 0 (fun i o hi => by simpa using hi) hR h fun s1 M1 a1 w1 h1 h2 => ⟨s1, M1, h1, h2⟩
/-- What a step adds: a temporary, a new row. -/
structure Add where
  d : Nat
  v : DV
  x : Option D
def FS.add (s : FS) (δ : Add) : FS := ⟨upd s.e δ.d δ.v, match δ.x with | none => s.h | some x => upd s.h δ.d (some x), s.g⟩
def StepA (P : Program) (nt : Nat) (ops : Array Oper) (o : Oper) (s s1 : FS) : Prop := (wantedD ops o s.e = some true ∧ OpStep P nt o s s1) ∨ (wantedD ops o s.e = some false ∧ dstOk nt o.dst = true ∧ s1 = s.set o.dst (.tup []))
/-- The step looks at these temporaries and these entries alone. -/
def Cert (P : Program) (nt : Nat) (ops : Array Oper) (o : Oper) (L R : List Nat) (δ : Add) (s : FS) : Prop := ∀ s' : FS, (∀ t ∈ L, s'.e t = s.e t) → (∀ i ∈ R, s'.h i = s.h i) → StepA P nt ops o s' (s'.add δ)
/-- What a step that adds writes; the temporaries and the entries that it looks at. -/
abbrev Foot := Nat × List Nat × List Nat
def apartA (L R : List Nat) (d : Nat) (L' R' : List Nat) (d' : Nat) : Prop := d ≠ d' ∧ d ∉ L' ∧ d' ∉ L ∧ d ∉ R' ∧ d' ∉ R
def pairOk : Option Foot → Option Foot → Bool
  | some (d, L, R), some (d', L', R') => d != d' && !L'.contains d && !L.contains d' && !R'.contains d && !R.contains d'
  | _, _ => false
theorem pairOk_some {d : Nat} {L R : List Nat} {q : Option Foot} (h : pairOk (some (d, L, R)) q = true) : ∃ d' L' R', q = some (d', L', R') ∧ apartA L R d L' R' d' := by
  cases q with
  | none => cases h
  | some f =>
    obtain ⟨d', L', R'⟩ := f
    simp only [pairOk, Bool.and_eq_true, bne_iff_ne, Bool.not_eq_true', List.contains_eq_mem, decide_eq_false_iff_not] at h
    exact ⟨d', L', R', rfl, h.1.1.1.1, h.1.1.1.2, h.1.1.2, h.1.2, h.2⟩
theorem upd_comm {α : Type} (f : Nat → α) {k l : Nat} (u v : α) (h : k ≠ l) : upd (upd f k u) l v = upd (upd f l v) k u := by
  funext i
  by_cases h1 : i = k
  · subst h1; rw [upd_ne _ _ _ _ h, upd_same, upd_same]
  · by_cases h2 : i = l
    · subst h2; rw [upd_same, upd_ne _ _ _ _ h1, upd_same]
    · rw [upd_ne _ _ _ _ h2, upd_ne _ _ _ _ h1, upd_ne _ _ _ _ h1, upd_ne _ _ _ _ h2]
theorem add_comm' (s : FS) (δ δ' : Add) (h : δ.d ≠ δ'.d) : (s.add δ).add δ' = (s.add δ').add δ := by
  obtain ⟨d, v, x⟩ := δ
  obtain ⟨d', v', x'⟩ := δ'
  cases x <;> cases x' <;> simp only [FS.add] <;> simp only at h <;> simp only [upd_comm _ _ _ h]
inductive Chain (P : Program) (nt : Nat) (ops : Array Oper) (plan : Nat → Option Foot) : List Nat → FS → FS → Prop
  | nil (s : FS) : Chain P nt ops plan [] s s
  | add {i : Nat} {l : List Nat} {o : Oper} {L R : List Nat} {δ : Add} {s s2 : FS} : ops[i]? = some o → plan i = some (δ.d, L, R) → Cert P nt ops o L R δ s → Chain P nt ops plan l (s.add δ) s2 → Chain P nt ops plan (i :: l) s s2
  | heavy {i : Nat} {l : List Nat} {o : Oper} {s s1 s2 : FS} : ops[i]? = some o → plan i = none → StepA P nt ops o s s1 → Chain P nt ops plan l s1 s2 → Chain P nt ops plan (i :: l) s s2
theorem Cert.move {o : Oper} {L R L' R' : List Nat} {δ δ' : Add} (h : apartA L R δ.d L' R' δ'.d) : Cert P nt ops o L' R' δ' (s.add δ) ↔ Cert P nt ops o L' R' δ' s := by
  have he : ∀ t ∈ L', (s.add δ).e t = s.e t := fun t ht => upd_ne _ _ _ _ fun e => h.2.1 (e ▸ ht)
  have hh : ∀ i ∈ R', (s.add δ).h i = s.h i := fun i hi => by
    simp only [FS.add]
    cases δ.x with
    | none => rfl
    | some x => exact upd_ne _ _ _ _ fun e => h.2.2.2.1 (e ▸ hi)
  constructor
  · exact fun hc s' h1 h2 => hc s' (fun t ht => (h1 t ht).trans (he t ht).symm) (fun i hi => (h2 i hi).trans (hh i hi).symm)
  · exact fun hc s' h1 h2 => hc s' (fun t ht => (h1 t ht).trans (he t ht)) (fun i hi => (h2 i hi).trans (hh i hi))
theorem apartA.symm {L R L' R' : List Nat} {δ δ' : Nat} (h : apartA L R δ L' R' δ') : apartA L' R' δ' L R δ := ⟨h.1.symm, h.2.2.1, h.2.1, h.2.2.2.2, h.2.2.2.1⟩
/-- A step that is apart from all before it may come first. -/
theorem Chain.first {plan : Nat → Option Foot} {i : Nat} {post : List Nat} {s2 : FS} : ∀ {pre : List Nat} {s : FS}, (∀ k ∈ pre, pairOk (plan k) (plan i) = true) → Chain P nt ops plan (pre ++ i :: post) s s2 →
    ∃ o s1, ops[i]? = some o ∧ StepA P nt ops o s s1 ∧ Chain P nt ops plan (pre ++ post) s1 s2 ∧ (∀ d L R, plan i = some (d, L, R) → ∃ δ, δ.d = d ∧ Cert P nt ops o L R δ s ∧ s1 = s.add δ)
  | [], s, _, h => by
    cases h with
    | add ho hp hc hr =>
      rename_i o L R δ
      exact ⟨_, _, ho, hc s (fun _ _ => rfl) (fun _ _ => rfl), hr, fun d L' R' h => by
        rw [hp] at h
        simp only [Option.some.injEq, Prod.mk.injEq] at h
        obtain ⟨rfl, rfl, rfl⟩ := h
        exact ⟨δ, rfl, hc, rfl⟩⟩
    | heavy ho hp hc hr => exact ⟨_, _, ho, hc, hr, fun d L R h => by rw [hp] at h; cases h⟩
  | k :: pre, s, hk, h => by
    have hki := hk k List.mem_cons_self
    have hpre : ∀ k' ∈ pre, pairOk (plan k') (plan i) = true := fun k' h' => hk k' (List.mem_cons_of_mem _ h')
    cases h with
    | heavy ho hp hc hr => rw [hp] at hki; cases hki
    | add ho hp hc hr =>
      rename_i o L R δ
      rw [hp] at hki
      obtain ⟨d', L', R', hpi, hap⟩ := pairOk_some hki
      obtain ⟨oi, s1, h1, h2, h3, h4⟩ := Chain.first (i := i) (post := post) hpre hr
      obtain ⟨δ', rfl, g1, rfl⟩ := h4 d' L' R' hpi
      have g2 := (Cert.move hap).1 g1
      refine ⟨oi, s.add δ', h1, g2 s (fun _ _ => rfl) (fun _ _ => rfl), .add ho hp ((Cert.move (δ' := δ) hap.symm).2 hc) ?_, fun d2 L2 R2 e => ?_⟩
      · rw [add_comm' s δ' δ hap.1.symm]; exact h3
      · rw [hpi] at e
        simp only [Option.some.injEq, Prod.mk.injEq] at e
        obtain ⟨rfl, rfl, rfl⟩ := e
        exact ⟨δ', rfl, g2, rfl⟩
theorem StepA.wpOp {i : Nat} {o : Oper} {K : Act → World → Prop} {Q : Exit → Act → World → Prop} (ho : ops[i]? = some o) (h : StepA P nt ops o s s1) (hR : Rel S0 w0 nt s M a w) (hK : ∀ (M1 : Heap) (a1 : Act) (w1 : World), Rel S0 w0 nt s1 M1 a1 w1 → K a1 w1) : wpOp P ops Q i K a w := by
  unfold Go.wpOp
  simp only [ho]
  rcases h with ⟨h1, h2⟩ | ⟨h1, h2, rfl⟩
  · rw [wantedD_ok hR h1, if_pos rfl]
    exact .inl (h2 S0 w0 M a w hR _ _ hK)
  · rw [wantedD_ok hR h1, if_neg (by simp)]
    exact hK M _ _ (hR.set undef_ok h2)
/-- What comes before each operation, the table tells. -/
def tableOk (md : Region.Mode) (ops : Array Oper) (tb : List (List Nat)) : Bool :=
  (List.range ops.size).all fun j => match ops[j]? with
    | some o => (tb.getD j []).all (fun k => o.after.any fun e => Region.binds md e && decide (e.on < j) && (e.on == k || (tb.getD e.on []).contains k)) && o.after.all fun e => !Region.binds md e || decide (e.on < j)
    | none => false
def planOk (plan : Nat → Option Foot) (tb : List (List Nat)) (n : Nat) : Bool := (List.range n).all fun j => (List.range j).all fun i => (tb.getD j []).contains i || pairOk (plan i) (plan j)
theorem planOk_spec {plan : Nat → Option Foot} {tb : List (List Nat)} {n : Nat} (h : planOk plan tb n = true) (j : Nat) (hj : j < n) (i : Nat) (hi : i < j) : i ∈ tb.getD j [] ∨ pairOk (plan i) (plan j) = true := by
  unfold planOk at h
  rw [List.all_eq_true] at h
  have h1 := h j (List.mem_range.2 hj)
  rw [List.all_eq_true] at h1
  have h2 := h1 i (List.mem_range.2 hi)
  simpa using h2
theorem table_spec {md : Region.Mode} {tb : List (List Nat)} (h : tableOk md ops tb = true) {j : Nat} {o : Oper} (ho : ops[j]? = some o) :
    (∀ k ∈ tb.getD j [], ∃ e ∈ o.after, Region.binds md e = true ∧ e.on < j ∧ (e.on = k ∨ k ∈ tb.getD e.on [])) ∧ ∀ e ∈ o.after, Region.binds md e = true → e.on < j := by
  unfold tableOk at h
  rw [List.all_eq_true] at h
  have h1 := h j (List.mem_range.2 (Array.getElem?_eq_some_iff.1 ho).1)
  rw [ho] at h1
  simp only [Bool.and_eq_true, List.all_eq_true, Array.all_eq_true_iff_forall_mem] at h1
  refine ⟨fun k hk => ?_, fun e he hb => ?_⟩
  · obtain ⟨e, he, hb⟩ := Array.any_eq_true'.1 (h1.1 k hk)
    simp only [Bool.and_eq_true, decide_eq_true_eq, Bool.or_eq_true, beq_iff_eq, List.contains_iff_mem] at hb
    exact ⟨e, he, hb.1.1, hb.1.2, hb.2⟩
  · have := h1.2 e he
    simpa [hb] using this
theorem before_listed {md : Region.Mode} {tb : List (List Nat)} (h : tableOk md ops tb = true) {D : Nat → Prop} (hD : ∀ j o, ops[j]? = some o → D j → ∀ e ∈ o.after, Region.binds md e = true → D e.on) : ∀ (j : Nat), j < ops.size → D j → ∀ k ∈ tb.getD j [], D k := fun j => by
  induction j using Nat.strongRecOn with
  | _ j ih =>
    intro hj hd k hk
    have ho : ops[j]? = some ops[j] := Array.getElem?_eq_getElem hj
    obtain ⟨e, he, hb, hlt, hor⟩ := (table_spec h ho).1 k hk
    have hde := hD j _ ho hd e he hb
    rcases hor with rfl | hk'
    · exact hde
    · exact ih e.on hlt (by omega) hde k hk'
theorem chain_any {md : Region.Mode} {plan : Nat → Option Foot} {tb : List (List Nat)} {Q : Exit → Act → World → Prop} {s2 : FS} (ht : tableOk md ops tb = true) (hp : planOk plan tb ops.size = true) (hQ : ∀ (M1 : Heap) (a1 : Act) (w1 : World), Rel S0 w0 nt s2 M1 a1 w1 → Q .normal a1 w1) :
    ∀ (fuel : Nat) (l : List Nat) (listed : Array Bool) {s : FS} {M : Heap} {a : Act} {w : World}, l.length ≤ fuel → l.Pairwise (· < ·) → (∀ j ∈ l, j < ops.size) → listed.size = ops.size → (∀ j, j < ops.size → (listed.getD j true = false ↔ j ∈ l)) →
      (∀ j o, ops[j]? = some o → j ∉ l → ∀ e ∈ o.after, Region.binds md e = true → e.on ∉ l) → Chain P nt ops plan l s s2 → Rel S0 w0 nt s M a w → wpAny P md ops Q fuel listed a w := by
  intro fuel
  have hready : ∀ (l : List Nat) (listed : Array Bool), listed.size = ops.size → (∀ j ∈ l, j < ops.size) → (∀ j, j < ops.size → (listed.getD j true = false ↔ j ∈ l)) → ∀ i, i ∈ Region.ready md ops listed ↔ i ∈ l ∧ ∃ o, ops[i]? = some o ∧ ∀ e ∈ o.after, Region.binds md e = true → e.on ∉ l := by
    intro l listed hsz hl hli i
    rw [mem_ready]
    constructor
    · rintro ⟨h0, o, ho, he⟩
      have hi : i < ops.size := (Array.getElem?_eq_some_iff.1 ho).1
      refine ⟨(hli i hi).1 h0, o, ho, fun e hem hb hin => ?_⟩
      have h1 := he e hem hb
      have h2 := (hli e.on (hl _ hin)).2 hin
      have hlt : e.on < listed.size := by rw [hsz]; exact hl _ hin
      rw [Array.getD_eq_getD_getElem?, Array.getElem?_eq_getElem hlt] at h1 h2
      rw [Option.getD_some] at h1 h2
      rw [h1] at h2; cases h2
    · rintro ⟨hi, o, ho, he⟩
      refine ⟨(hli i (hl i hi)).2 hi, o, ho, fun e hem hb => ?_⟩
      have hlt := (table_spec ht ho).2 e hem hb
      have hlt2 : e.on < ops.size := by have := (Array.getElem?_eq_some_iff.1 ho).1; omega
      have h2 : ¬ listed.getD e.on true = false := fun h => he e hem hb ((hli e.on hlt2).1 h)
      have hlt3 : e.on < listed.size := by omega
      rw [Array.getD_eq_getD_getElem?, Array.getElem?_eq_getElem hlt3, Option.getD_some] at h2 ⊢
      simpa using h2
  have hnil : ∀ (l : List Nat) (listed : Array Bool), listed.size = ops.size → l.Pairwise (· < ·) → (∀ j ∈ l, j < ops.size) → (∀ j, j < ops.size → (listed.getD j true = false ↔ j ∈ l)) → Region.ready md ops listed = [] → l = [] := by
    intro l listed hsz hs hl hli hr
    cases l with
    | nil => rfl
    | cons i l =>
      have hi : i < ops.size := hl i List.mem_cons_self
      have : i ∈ Region.ready md ops listed := (hready _ listed hsz hl hli i).2 ⟨List.mem_cons_self, ops[i], Array.getElem?_eq_getElem hi, fun e he hb hin => by
        have h1 := (table_spec ht (Array.getElem?_eq_getElem hi)).2 e he hb
        rw [List.pairwise_cons] at hs
        rcases List.mem_cons.1 hin with h | h
        · omega
        · have := hs.1 _ h; omega⟩
      rw [hr] at this; cases this
  induction fuel with
  | zero =>
    intro l listed s M a w hlen hs hl hsz hli hcl hch hR
    have : l = [] := List.length_eq_zero_iff.1 (by omega)
    subst this
    cases hch with
    | nil =>
      refine ⟨?_, hQ M a w hR⟩
      cases hr : Region.ready md ops listed with
      | nil => rfl
      | cons i r =>
        have := (hready [] listed hsz hl hli i).1 (by rw [hr]; exact List.mem_cons_self)
        simp at this
  | succ fuel ih =>
    intro l listed s M a w hlen hs hl hsz hli hcl hch hR
    refine ⟨fun hr => ?_, fun i hi => ?_⟩
    · have := hnil l listed hsz hs hl hli hr
      subst this
      cases hch with
      | nil => exact hQ M a w hR
    · obtain ⟨hil, o, ho, he⟩ := (hready l listed hsz hl hli i).1 hi
      obtain ⟨pre, post, rfl⟩ := List.append_of_mem hil
      rw [List.pairwise_append, List.pairwise_cons] at hs
      obtain ⟨hs1, ⟨hs2, hs3⟩, hs4⟩ := hs
      have hipre : i ∉ pre := fun h => absurd (hs4 i h i List.mem_cons_self) (Nat.lt_irrefl _)
      have hipost : i ∉ post := fun h => absurd (hs2 i h) (Nat.lt_irrefl _)
      have hilt : i < ops.size := hl i hil
      have hpair : ∀ k ∈ pre, pairOk (plan k) (plan i) = true := fun k hk => by
        rcases planOk_spec hp i hilt k (hs4 k hk i List.mem_cons_self) with h | h
        · exfalso
          obtain ⟨e, hem, hb, hlt, hor⟩ := (table_spec ht ho).1 k h
          have h1 := he e hem hb
          have hkl : k ∈ pre ++ i :: post := List.mem_append_left _ hk
          rcases hor with rfl | hk'
          · exact h1 hkl
          · exact before_listed ht (D := fun j => j ∉ pre ++ i :: post) (fun j o hj hd e he hb => hcl j o hj hd e he hb) e.on (by omega) h1 k hk' hkl
        · exact h
      obtain ⟨o', s1, h1, h2, h3, -⟩ := Chain.first hpair hch
      refine h2.wpOp h1 hR fun M1 a1 w1 hR1 => ih (pre ++ post) (listed.setIfInBounds i true) ?_ ?_ (fun j hj => hl j ?_) (by simpa using hsz) (fun j hj => ?_) (fun j oj hoj hj e hem hb => ?_) h3 hR1
      · simp only [List.length_append, List.length_cons] at hlen ⊢; omega
      · rw [List.pairwise_append]
        exact ⟨hs1, hs3, fun x hx y hy => hs4 x hx y (List.mem_cons_of_mem _ hy)⟩
      · rcases List.mem_append.1 hj with h | h
        · exact List.mem_append_left _ h
        · exact List.mem_append_right _ (List.mem_cons_of_mem _ h)
      · by_cases hji : j = i
        · subst hji
          have : (listed.setIfInBounds j true).getD j true = true := by
            rw [Array.getD_eq_getD_getElem?, Array.getElem?_setIfInBounds_self_of_lt (by omega)]; rfl
          rw [this]
          simp [hipre, hipost]
        · rw [getD_set_ne true (Ne.symm hji), hli j hj]
          simp [hji]
      · have hsub : ∀ x, x ∈ pre ++ post → x ∈ pre ++ i :: post := fun x hx => by
          rcases List.mem_append.1 hx with h | h
          · exact List.mem_append_left _ h
          · exact List.mem_append_right _ (List.mem_cons_of_mem _ h)
        by_cases hji : j = i
        · subst hji
          rw [ho] at hoj
          obtain rfl := Option.some.inj hoj
          exact fun h => he e hem hb (hsub _ h)
        · have hj' : j ∉ pre ++ i :: post := fun h => by
            rcases List.mem_append.1 h with h | h
            · exact hj (List.mem_append_left _ h)
            · rcases List.mem_cons.1 h with h | h
              · exact hji h
              · exact hj (List.mem_append_right _ h)
          exact fun h => hcl j oj hoj hj' e hem hb (hsub _ h)
theorem RelX.drawn (hR : Rel S0 w0 nt s M a w) : Rel S0 w0 nt s M a { w with drawn := w.drawn + 1 } :=
  ⟨hR.inv.world (w' := { w with drawn := w.drawn + 1 }) (fun _ _ => rfl) (Nat.le_refl _), hR.er, hR.en, hR.nt, hR.df, hR.gh⟩
/-- A region whose order is not told. -/
theorem DW.draw {id : Nat} {Q : Exit → FS → Prop} {plan : Nat → Option Foot} {s2 : FS} (tb : List (List Nat)) (hm : P.follows .mixedOrders = true) (ht : tableOk .any ops tb = true) (hp : planOk plan tb ops.size = true) (hc : Chain P nt ops plan (List.range ops.size) s s2) (h : Q .normal s2) :
    DW P nt (.region id ops true) s Q := fun S0 w0 M a w hR => by
  refine wp_region_any hm ?_
  refine chain_any ht hp (fun M1 a1 w1 h1 => ⟨s2, M1, h, h1⟩) ops.size (List.range ops.size) _ (by simp) List.pairwise_lt_range (fun j hj => List.mem_range.1 hj) (by simp) (fun j hj => ?_) (fun j o ho hj => ?_) hc hR.drawn
  · simp [hj]
  · exact absurd (List.mem_range.2 (Array.getElem?_eq_some_iff.1 ho).1) hj
end
end Go.Proofs.Ytciieaidbiejmaa.DM

/-
  DM 24. The contract of a function of its body.
-/
namespace Go.Proofs.Ytciieaidbiejmaa.DM
set_option linter.unusedVariables false
set_option linter.unusedSimpArgs false
/-- The results: their shape, their cells. -/
def resD (P : Program) (s : FS) : List ResultVar → Option (List (Option Nat) × List DC)
  | [] => some ([], [])
  | r :: rs => match (match r with | .tmp t => some (s.e t) | .cell x t => quietV P s (.load t (.tmp x))), resD P s rs with
    | some (.v (.one c)), some (sh, cs) => some (none :: sh, c :: cs)
    | some (.v (.agg l)), some (sh, cs) => some (some l.length :: sh, l ++ cs)
    | _, _ => none
def backAll (s : FS) : Nat → List PA → List PA → Prop
  | _, [], [] => True
  | i, pa :: az, pa' :: az' => backA s i pa = some pa' ∧ backAll s (i + 1) az az'
  | _, _, _ => False
theorem backAll_at {s : FS} : ∀ {k : Nat} {az az' : List PA}, backAll s k az az' → az'.length = az.length ∧ ∀ (i : Nat) (pa : PA), az[i]? = some pa → ∃ pa', az'[i]? = some pa' ∧ backA s (k + i) pa = some pa'
  | k, [], [], _ => ⟨rfl, fun i pa h => by simp at h⟩
  | k, [], _ :: _, h => by simp [backAll] at h
  | k, _ :: _, [], h => by simp [backAll] at h
  | k, pa :: az, pa' :: az', h => by
    obtain ⟨h1, h2⟩ := h
    obtain ⟨g1, g2⟩ := backAll_at h2
    refine ⟨by simp [g1], fun i p hp => ?_⟩
    cases i with
    | zero => simp at hp; subst hp; exact ⟨pa', rfl, h1⟩
    | succ i =>
      obtain ⟨p', e1, e2⟩ := g2 i p (by simpa using hp)
      exact ⟨p', by simpa using e1, by rw [← e2]; congr 1; omega⟩
/-- What a function leaves at its end. -/
def Ends (P : Program) (rs : List ResultVar) (s : FS) (az : List PA) (sh : List (Option Nat)) (ds : List D) (az' : List PA) : Prop :=
  ∃ cs s2, resD P s rs = some (sh, cs) ∧ absorbL s cs = some (ds, s2) ∧ backAll s2 0 az az'
def endQ (P : Program) (rs : List ResultVar) (az : List PA) (sh : List (Option Nat)) (ds : List D) (az' : List PA) : Exit → FS → Prop
  | .normal, s => Ends P rs s az sh ds az'
  | .ret, s => Ends P rs s az sh ds az'
  | _, _ => False
section
variable {S0 : Fr} {w0 w w' : World} {M M' M1 : Heap} {X : List A} {P : Program} {nt : Nat} {s s1 : FS} {a : Act}
def ResV (P : Program) (tmps : Array Value) (w : World) : ResultVar → Value → Prop
  | .tmp t, v => v = tmps.getD t undef
  | .cell x t, v => (Instr.loadAt t (tmps.getD x undef)).run P w = .ok v w
def ResL (P : Program) (tmps : Array Value) (w : World) : List ResultVar → List Value → Prop
  | [], [] => True
  | r :: rs, v :: vs => ResV P tmps w r v ∧ ResL P tmps w rs vs
  | _, _ => False
theorem sureAddr_asAddr {v : Value} {t : TypeId} {u : Value} (h : (Instr.loadAt t v).run P w = .ok u w) : (do loadVar t (← asAddr v) : Sem Value).run P w = .ok u w := by
  unfold Instr.loadAt at h
  cases v with
  | pointer p => cases p with
    | some ad => simpa [Instr.sureAddr, asAddr] using h
    | none => simp [Instr.sureAddr] at h
  | _ => simp [Instr.sureAddr] at h
theorem resL_run {tmps : Array Value} {f : ResultVar → Sem Value} (hf : ∀ u, f (.tmp u) = pure (tmps.getD u undef)) (hc : ∀ a t, f (.cell a t) = (do loadVar t (← asAddr (tmps.getD a undef)))) : ∀ {rs : List ResultVar} {vs : List Value}, ResL P tmps w rs vs → (rs.mapM f).run P w = .ok vs w
  | [], [], _ => by simp
  | [], _ :: _, h => by simp [ResL] at h
  | _ :: _, [], h => by simp [ResL] at h
  | r :: rs, v :: vs, h => by
    have ih := resL_run hf hc h.2
    have h1 : (f r).run P w = .ok v w := by
      have := h.1
      cases r with
      | tmp t => rw [hf, this]; simp
      | cell x t => rw [hc]; exact sureAddr_asAddr this
    rw [List.mapM_cons]
    simp [h1, ih]
def oneOr (vs : List Value) : Value := match vs with
  | [v] => v
  | l => .tuple l.toArray
theorem results_run {fn : Func} {tmps : Array Value} {rs : List ResultVar} {vs : List Value} (h : fn.results.toList = rs) (hv : ResL P tmps w rs vs) : (results fn tmps).run P w = .ok (oneOr vs) w := by
  have h' : fn.results = rs.toArray := by rw [← h]
  unfold results
  rw [h', List.mapM_toArray]
  simp only [Sem.run_bind, Sem.run_map]
  rw [resL_run (vs := vs) (fun u => rfl) (fun a t => rfl) hv]
  rcases vs with _ | ⟨v, _ | ⟨u, vs⟩⟩
  · simp [oneOr]
  · simp [oneOr]
  · simp [oneOr]
theorem resD_ok : ∀ {rs : List ResultVar} {sh : List (Option Nat)} {cs : List DC}, Rel S0 w0 nt s M a w → resD P s rs = some (sh, cs) → ∃ vs us, ResL P a.tmps w rs vs ∧ RelL S0 w0 M cs us ∧ packL sh us = vs ∧ cs.length = shLen sh
  | [], sh, cs, hR, h => by
    simp only [resD, Option.some.injEq, Prod.mk.injEq] at h
    obtain ⟨rfl, rfl⟩ := h
    exact ⟨[], [], trivial, ⟨rfl, fun i c u h => by simp at h, by simp⟩, rfl, rfl⟩
  | r :: rs, sh, cs, hR, h => by
    have hv : ∀ v, (match r with | .tmp t => some (s.e t) | .cell x t => quietV P s (.load t (.tmp x))) = some v → ∃ u, ResV P a.tmps w r u ∧ RelV S0 w0 M v u := fun v hv => by
      cases r with
      | tmp t => obtain rfl := Option.some.inj hv; exact ⟨_, rfl, hR.en t⟩
      | cell x t =>
        obtain ⟨u, h1, h2⟩ := quiet_load hR hv
        exact ⟨u, h1, h2⟩
    simp only [resD] at h
    split at h
    · rename_i c sh' cs' h1 h2
      simp only [Option.some.injEq, Prod.mk.injEq] at h
      obtain ⟨rfl, rfl⟩ := h
      obtain ⟨u, g1, g2⟩ := hv _ h1
      obtain ⟨vs, us, e1, e2, e3, e4⟩ := resD_ok hR h2
      refine ⟨u :: vs, u :: us, ⟨g1, e1⟩, ⟨by simp [e2.1], fun i c' u' hc hu => ?_, fun u' hu' => ?_⟩, by simp [packL, e3], by simp [shLen, e4]; omega⟩
      · cases i with
        | zero => simp at hc hu; subst hc; subst hu; exact g2.1
        | succ i => exact e2.2.1 i c' u' (by simpa using hc) (by simpa using hu)
      · rcases List.mem_cons.1 hu' with rfl | hu'
        · exact g2.2
        · exact e2.2.2 u' hu'
    · rename_i l sh' cs' h1 h2
      simp only [Option.some.injEq, Prod.mk.injEq] at h
      obtain ⟨rfl, rfl⟩ := h
      obtain ⟨u, g1, us1, rfl, g3, g4, g5⟩ := hv _ h1
      obtain ⟨vs, us, e1, e2, e3, e4⟩ := resD_ok hR h2
      refine ⟨_ :: vs, us1 ++ us, ⟨g1, e1⟩, RelL.append ⟨g3, g4, g5⟩ e2, ?_, by simp [shLen, e4]⟩
      rw [packL, ← g3, List.take_left, List.drop_left, e3]
    · cases h
/-- THE CONTRACT OF A FUNCTION, of its body. -/
theorem Spec.intro {f : Nat} {fn : Func} {c : Code} {az az' : List PA} {sh : List (Option Nat)} {ds : List D} {n : Nat} {rs : List ResultVar} (hf : P.funcs[f]? = some fn) (hb : fn.body = some c) (hnm : (fn.name == "runtime.NumGoroutine") = false) (hn : fn.ntmps = n) (hrs : fn.results.toList = rs)
    (hle : az.length ≤ n) (h : DW P n c (initFS az) (endQ P rs az sh ds az')) : Spec P f az sh ds az' := by
  refine ⟨⟨fn, hf, by rw [hb]; rfl, hnm⟩, fun F w M vals hI hl her hv hg => ?_⟩
  refine calls_of_wp hf hb ?_
  have hR : Rel F w n (initFS az) M { tmps := vals.toArray ++ Array.replicate (fn.ntmps - vals.toArray.size) undef, defers := [] } w := by
    refine ⟨hI, her, fun i => ?_, by simp [hl, hn]; omega, rfl, hg⟩
    simp only [initFS]
    cases hp : az[i]? with
    | none => trivial
    | some pa =>
      have hi : i < vals.length := by rw [hl]; exact (List.getElem?_eq_some_iff.1 hp).1
      have : (vals.toArray ++ Array.replicate (fn.ntmps - vals.toArray.size) undef).getD i undef = vals[i] := by
        rw [Array.getD_eq_getD_getElem?, Array.getElem?_append_left (by simpa using hi)]
        simp [hi]
      rw [this]
      exact hv i pa _ hp (List.getElem?_eq_getElem hi)
  refine wp_mono (h F w M _ w hR) ?_
  have key : ∀ (s1 : FS) (M1 : Heap) (a' : Act) (w' : World), Ends P rs s1 az sh ds az' → Rel F w n s1 M1 a' w' → a'.defers = [] ∧ ∃ v, (results fn a'.tmps).run P w' = .ok v w' ∧ ∃ (v' : Value) (s1 : FS) (M1 : Heap) (X : List A), Ending.returned v = .returned v' ∧ Inv F w M1 X w' ∧ (∀ id, s1.h id = (M1 id).map er) ∧ (∀ i, RelC F w M1 (s1.g i) (F.gv i)) ∧
      X.map er = ds ∧ ds.length = shLen sh ∧ v' = packV sh (X.map T.val) ∧ az'.length = az.length ∧ ∀ (i : Nat) (pa : PA), az[i]? = some pa → ∃ pa', az'[i]? = some pa' ∧ backA s1 i pa = some pa' := by
    rintro s1 M1 a' w' ⟨cs, s2, h1, h2, h3⟩ hR1
    obtain ⟨vs, us, e1, e2, e3, e4⟩ := resD_ok hR1 h1
    obtain ⟨M2, ys, hR2, g1, g2, g3⟩ := absorbL_ok hR1 e2 h2
    rw [List.nil_append] at hR2
    obtain ⟨b1, b2⟩ := backAll_at h3
    refine ⟨hR1.df, _, results_run hrs e1, _, s2, M2, ys, rfl, hR2.inv, hR2.er, hR2.gh, g1, ?_, ?_, b1, fun i pa hp => ?_⟩
    · rw [← g1, List.length_map, ← e4, ← e2.1, ← g2, List.length_map]
    · rw [g2]
      unfold packV oneOr
      rw [e3]
      rcases vs with _ | ⟨v, _ | ⟨u, vs⟩⟩ <;> rfl
    · have := b2 i pa hp
      simpa using this
  rintro e a' w' ⟨s1, M1, h1, h2⟩
  cases e with
  | normal => exact key s1 M1 a' w' h1 h2
  | ret => exact key s1 M1 a' w' h1 h2
  | _ => exact h1.elim
end
end Go.Proofs.Ytciieaidbiejmaa.DM

/-
  DM 25. Reckoning.
-/
namespace Go.Proofs.Ytciieaidbiejmaa.DM
set_option linter.unusedVariables false
set_option linter.unusedSimpArgs false
section
variable {P : Program} {nt : Nat} {s s1 : FS} {ops : Array Oper} {N : FS → Prop}
/-- The operations of a region, without calls of Go functions, in order. -/
def regF (P : Program) (nt : Nat) (ops : Array Oper) : List Oper → FS → Option FS
  | [], s => some s
  | o :: l, s => match wantedD ops o s.e with
    | some true => match stepF P nt o s with
      | some s1 => regF P nt ops l s1
      | none => none
    | some false => if dstOk nt o.dst then regF P nt ops l (s.set o.dst (.tup [])) else none
    | none => none
theorem regF_ok : ∀ {l : List Oper} {s s1 : FS}, regF P nt ops l s = some s1 → N s1 → RegO P nt ops l s N
  | [], s, s1, h, hn => by simp only [regF, Option.some.injEq] at h; subst h; exact hn
  | o :: l, s, s1, h, hn => by
    simp only [regF] at h
    split at h
    · rename_i hw
      split at h
      · rename_i s2 hs
        exact ⟨true, hw, fun _ => ⟨_, (OpStep.of hs).toE, fun s1 e => e ▸ regF_ok h hn⟩, fun h => by cases h⟩
      · cases h
    · rename_i hw
      split at h
      · rename_i hd
        exact ⟨false, hw, fun h => (by cases h), fun _ => ⟨hd, regF_ok h hn⟩⟩
      · cases h
    · cases h
/-- The first operations. -/
theorem RegO.some {l l' : List Oper} (h : regF P nt ops l s = some s1) (hr : RegO P nt ops l' s1 N) : RegO P nt ops (l ++ l') s N := by
  induction l generalizing s with
  | nil => simp only [regF, Option.some.injEq] at h; subst h; exact hr
  | cons o l ih =>
    simp only [regF] at h
    split at h
    · rename_i hw
      split at h
      · rename_i s2 hs
        exact ⟨true, hw, fun _ => ⟨_, (OpStep.of hs).toE, fun s1 e => e ▸ ih h⟩, fun h => by cases h⟩
      · cases h
    · rename_i hw
      split at h
      · rename_i hd
        exact ⟨false, hw, fun h => (by cases h), fun _ => ⟨hd, ih h⟩⟩
      · cases h
    · cases h
theorem RegO.op {o : Oper} {l : List Oper} (hg : o.guard = none) (h : stepF P nt o s = Option.some s1) (hr : RegO P nt ops l s1 N) : RegO P nt ops (o :: l) s N :=
  ⟨true, by simp [wantedD, hg], fun _ => ⟨_, (OpStep.of h).toE, fun _ e => e ▸ hr⟩, fun h => by cases h⟩
theorem RegO.step {o : Oper} {l : List Oper} (hg : o.guard = none) (h : OpStep P nt o s s1) (hr : RegO P nt ops l s1 N) : RegO P nt ops (o :: l) s N :=
  ⟨true, by simp [wantedD, hg], fun _ => ⟨_, h.toE, fun _ e => e ▸ hr⟩, fun h => by cases h⟩
theorem RegO.stepE {o : Oper} {l : List Oper} {K : FS → Prop} (hg : o.guard = none) (h : OpStepE P nt o s K) (hr : ∀ s1, K s1 → RegO P nt ops l s1 N) : RegO P nt ops (o :: l) s N :=
  ⟨true, by simp [wantedD, hg], fun _ => ⟨K, h, hr⟩, fun h => by cases h⟩
theorem RegO.nil (h : N s) : RegO P nt ops [] s N := h
theorem RegO.guard {o : Oper} {l : List Oper} {b : Bool} (hw : wantedD ops o s.e = Option.some b) (ht : b = true → ∃ K : FS → Prop, OpStepE P nt o s K ∧ ∀ s1, K s1 → RegO P nt ops l s1 N) (hf : b = false → dstOk nt o.dst = true ∧ RegO P nt ops l (s.set o.dst (.tup [])) N) : RegO P nt ops (o :: l) s N :=
  ⟨b, hw, ht, hf⟩
/-- A region without calls. -/
theorem DW.reg {id : Nat} {l : List Oper} {Q : Exit → FS → Prop} (h : regF P nt l.toArray l s = Option.some s1) (hq : Q .normal s1) : DW P nt (.region id l.toArray false) s Q := DW.region (regF_ok h hq)
theorem DW.regs {id : Nat} {l : List Oper} {Q : Exit → FS → Prop} (h : RegO P nt l.toArray l s (Q .normal)) : DW P nt (.region id l.toArray false) s Q := DW.region h
/-- A loop, with an invariant that falls, up to moves that change no memory. -/
theorem DW.loopG {c : Code} {Q : Exit → FS → Prop} (I : Nat → FS → Prop) {n0 : Nat} (h0 : I n0 s) (round : ∀ (n : Nat) (s : FS), I n s → DW P nt c s (thenQ (fun s1 => ∃ s2 m, Ghost nt s1 s2 ∧ m < n ∧ I m s2) Q)) : DW P nt (.loop c) s Q :=
  DW.loop (fun n s => ∃ s', Ghost nt s s' ∧ I n s') ⟨s, Ghost.refl, h0⟩ fun n s ⟨s', hg, hI⟩ => DW.ghost hg ((round n s' hI).mono fun e s1 h => by
    cases e with
    | normal => obtain ⟨s2, m, h1, h2, h3⟩ := h; exact ⟨m, h2, s2, h1, h3⟩
    | _ => exact h)
end
@[simp] theorem initFS_e (az : List PA) (i : Nat) : (initFS az).e i = match az[i]? with | some p => argV i p | none => .un := rfl
@[simp] theorem initFS_h (az : List PA) (i : Nat) : (initFS az).h i = (az[i]?).bind argH := rfl
@[simp] theorem initFS_g (az : List PA) (k : Nat) : (initFS az).g k = match az[k / 64]? with | some p => argG (k / 64) p (k % 64) | none => .un := rfl
theorem upd_ap {α : Type} (f : Nat → α) (k : Nat) (v : α) (i : Nat) : upd f k v i = if i = k then v else f i := rfl
attribute [simp] upd_ap regF wantedD stepF quietF quietV ev cst zcC zcD plain asSc asInt dcs FS.set dstOk rdC rdCs absorb absorbL pzOf pzC pz1 pzV isAt FS.row FS.take fillC partsC placesT intBin strBin scBin scUn sliceB mapO storeC storeL isOw argV argH argG PC.dc PC.tree PC.isR PC.gh dcsFrom T.get T.put T.cells T.withCells T.isHold thenQ blockQ endQ Ends resD backAll backA backC backCs appendF srcCells flatD roD isRow
end Go.Proofs.Ytciieaidbiejmaa.DM

/-
  DM 26. Regions whose order is not told: what a step looks at.
-/
namespace Go.Proofs.Ytciieaidbiejmaa.DM
set_option linter.unusedVariables false
set_option linter.unusedSimpArgs false
def refsDC : DC → List Nat
  | .sl id _ _ _ => [id]
  | .pt id _ _ => [id]
  | .fn _ ids => ids
  | _ => []
def refsDV : DV → List Nat
  | .v (.one c) => refsDC c
  | .v (.agg cs) => cs.flatMap refsDC
  | _ => []
def refsO (s : FS) (o : Oper) : List Nat := o.op.operands.toList.flatMap fun x => refsDV (ev s.e x)
section
variable {P : Program} {nt : Nat} {s s' s1 : FS} {ops : Array Oper}
theorem mapO_congr {α β : Type} {f g : α → Option β} : ∀ {l : List α}, (∀ x ∈ l, f x = g x) → mapO f l = mapO g l
  | [], _ => rfl
  | x :: l, h => by simp only [mapO, h x List.mem_cons_self, mapO_congr fun y hy => h y (List.mem_cons_of_mem _ hy)]
theorem partsC_local {e e' : Nat → DV} : ∀ {l : List (Nat × Operand)}, (∀ p ∈ l, ev e' p.2 = ev e p.2) → partsC e' l = partsC e l
  | [], _ => rfl
  | (i, x) :: l, h => by simp only [partsC, h (i, x) List.mem_cons_self, partsC_local fun p hp => h p (List.mem_cons_of_mem _ hp)]
theorem quietV_local {op : Op} (he : ∀ x ∈ op.operands.toList, ev s'.e x = ev s.e x) (hh : ∀ i ∈ op.operands.toList.flatMap (fun x => refsDV (ev s.e x)), s'.h i = s.h i) : quietV P s' op = quietV P s op := by
  cases op with
  | load t x =>
    have h1 : ev s'.e x = ev s.e x := he x (by simp [Op.operands])
    have h2 : ∀ i ∈ refsDV (ev s.e x), s'.h i = s.h i := fun i hi => hh i (by simpa [Op.operands] using hi)
    simp only [quietV, h1]
    cases hx : ev s.e x with
    | v y => cases y with
      | one c => cases c with
        | pt id p off =>
          rw [hx] at h2
          have h3 := h2 id (by simp [refsDV, refsDC])
          cases szT P t <;> cases aggT P t <;> simp only [h3]
        | _ => cases szT P t <;> cases aggT P t <;> rfl
      | agg _ => cases szT P t <;> cases aggT P t <;> rfl
    | _ => cases szT P t <;> cases aggT P t <;> rfl
  | slice t x lo hi mx =>
    have h1 : ev s'.e x = ev s.e x := he x (by simp [Op.operands])
    have h2 : ∀ i ∈ refsDV (ev s.e x), s'.h i = s.h i := fun i hi => hh i (List.mem_flatMap.2 ⟨x, by simp [Op.operands], hi⟩)
    have h3 : lo.map (ev s'.e) = lo.map (ev s.e) := by
      cases lo with
      | none => rfl
      | some y => simp only [Option.map_some]; rw [he y (by simp [Op.operands])]
    have h4 : hi.map (ev s'.e) = hi.map (ev s.e) := by
      cases hi with
      | none => rfl
      | some y => simp only [Option.map_some]; rw [he y (by simp [Op.operands])]
    cases mx with
    | some m => rfl
    | none =>
      simp only [quietV, h1, h3, h4]
      cases hx : ev s.e x with
      | v y => cases y with
        | one c => cases c with
          | sl id p off n => rw [hx] at h2; simp only [h2 id (by simp [refsDV, refsDC])]
          | t r => cases r with
            | sc v => cases v <;> rfl
            | _ => rfl
          | _ => rfl
        | agg _ => rfl
      | _ => rfl
  | build t ps =>
    have h1 : partsC s'.e ps.toList = partsC s.e ps.toList := partsC_local fun p hp => he p.2 (by simp only [Op.operands]; exact List.mem_map.2 ⟨p, hp, rfl⟩)
    simp only [quietV, h1]
  | call c =>
    obtain ⟨callee, args, ats⟩ := c
    cases callee with
    | builtin b => cases b with
      | len =>
        have h1 : ∀ x ∈ args.toList, ev s'.e x = ev s.e x := fun x hx => he x (by simp [Op.operands, Call.operands]; simpa using hx)
        simp only [quietV]
        cases ha : args.toList with
        | nil => rfl
        | cons x l => cases l with
          | nil =>
            rw [ha] at h1
            have h2 := h1 x (by simp)
            rcases ats.toList with _ | ⟨t, _ | ⟨_, _⟩⟩ <;> first | rfl | simp only [h2]
          | cons _ _ => rfl
      | _ => rfl
    | _ => rfl
  | pick c x y =>
    have h1 := he c (by simp [Op.operands]); have h2 := he x (by simp [Op.operands]); have h3 := he y (by simp [Op.operands])
    simp only [quietV, h1, h2, h3]
  | binOp op t x y p =>
    have h1 := he x (by simp [Op.operands]); have h2 := he y (by simp [Op.operands])
    simp only [quietV, h1, h2]
  | indexAddr t x y =>
    have h1 := he x (by simp [Op.operands]); have h2 := he y (by simp [Op.operands])
    simp only [quietV, h1, h2]
  | index t x y =>
    have h1 := he x (by simp [Op.operands]); have h2 := he y (by simp [Op.operands])
    simp only [quietV, h1, h2]
  | move x => simp only [quietV, he x (by simp [Op.operands])]
  | assign x => simp only [quietV, he x (by simp [Op.operands])]
  | nilCheck x => simp only [quietV, he x (by simp [Op.operands])]
  | unOp op t x => simp only [quietV, he x (by simp [Op.operands])]
  | convert a b x => simp only [quietV, he x (by simp [Op.operands])]
  | fieldAddr t x f => simp only [quietV, he x (by simp [Op.operands])]
  | extract x i => simp only [quietV, he x (by simp [Op.operands])]
  | field t x f => simp only [quietV, he x (by simp [Op.operands])]
  | _ => rfl
/-- A step that adds. -/
def addF (P : Program) (nt : Nat) (ops : Array Oper) (o : Oper) (s : FS) : Option Add := match o.dst, wantedD ops o s.e with
  | some d, some false => if d < nt then some ⟨d, .tup [], none⟩ else none
  | some d, some true => if d < nt then (match quietV P s o.op with
      | some v => some ⟨d, v, none⟩
      | none => none) else none
  | _, _ => none
theorem wanted_local {o : Oper} (h : ∀ t ∈ o.looksAt ops, s'.e t = s.e t) : wantedD ops o s'.e = wantedD ops o s.e := by
  unfold wantedD
  split
  · rfl
  · rename_i j want hg
    split
    · rename_i t ht
      rw [h t (by unfold Oper.looksAt; simp [hg, ht])]
    · rfl
theorem ev_local {o : Oper} (h : ∀ t ∈ o.looksAt ops, s'.e t = s.e t) : ∀ x ∈ o.op.operands.toList, ev s'.e x = ev s.e x := fun x hx => by
  cases x with
  | tmp t => exact h t (by unfold Oper.looksAt; exact List.mem_append_left _ (List.mem_filterMap.2 ⟨.tmp t, hx, rfl⟩))
  | _ => rfl
theorem stepF_of_quiet {o : Oper} {v : DV} (h : quietV P s o.op = some v) : stepF P nt o s = quietF P nt o.dst o.op s := by
  unfold stepF
  generalize o.op = op at h
  cases op with
  | alloc => simp [quietV] at h
  | box => simp [quietV] at h
  | buildSlice => simp [quietV] at h
  | makeSlice => simp [quietV] at h
  | store => simp [quietV] at h
  | call c =>
    obtain ⟨callee, args, ats⟩ := c
    cases callee with
    | builtin b => cases b <;> first | rfl | (simp [quietV] at h)
    | _ => simp [quietV] at h
  | _ => rfl
theorem cert_of_addF {o : Oper} {δ : Add} (h : addF P nt ops o s = some δ) : Cert P nt ops o (o.looksAt ops) (refsO s o) δ s := fun s' he hh => by
  unfold addF at h
  split at h
  · rename_i d hd hw
    split at h
    · rename_i hdn
      obtain rfl := Option.some.inj h
      exact .inr ⟨(wanted_local he).trans hw, by rw [hd]; simpa [dstOk] using hdn, by rw [hd]; rfl⟩
    · cases h
  · rename_i d hd hw
    split at h
    · rename_i hdn
      split at h
      · rename_i v hv
        obtain rfl := Option.some.inj h
        have hv' : quietV P s' o.op = some v := by rw [quietV_local (ev_local he) hh]; exact hv
        refine .inl ⟨(wanted_local he).trans hw, OpStep.of ?_⟩
        rw [stepF_of_quiet hv']
        unfold quietF
        rw [hv', hd]
        simp only [dstOk, hdn, decide_true, if_true]
        rfl
      · cases h
    · cases h
  · cases h
theorem roA_local {v : DV} (hh : ∀ i ∈ refsDV v, s'.h i = s.h i) : roA_ s' v = roA_ s v := by
  have hC : ∀ (c : DC), (∀ i ∈ refsDC c, s'.h i = s.h i) → toRC s' c = toRC s c := fun c hc => by
    cases c with
    | sl id p off n => simp only [toRC, hc id (by simp [refsDC])]
    | fn f ids =>
      simp only [toRC]
      congr 1
      exact mapO_congr fun i hi => by rw [hc i hi]
    | _ => rfl
  have hL : ∀ l : List DC, (∀ i ∈ l.flatMap refsDC, s'.h i = s.h i) → mapO (toRC s') l = mapO (toRC s) l := fun l hl => mapO_congr fun c hc => hC c fun i hi => hl i (List.mem_flatMap.2 ⟨c, hc, hi⟩)
  cases v with
  | v x => cases x with
    | one c => cases c with
      | pt id p off => simp only [roA_, hh id (by simp [refsDV, refsDC])]
      | rp cs => rfl
      | un => rfl
      | t r => rfl
      | nl => rfl
      | sl id p off n => simp only [roA_]; rw [hC (.sl id p off n) hh]
      | fn f ids => simp only [roA_]; rw [hC (.fn f ids) hh]
    | agg cs => simp only [roA_]; rw [hL _ hh]
  | _ => rfl
theorem rosOk_local : ∀ {io k : Nat} {vs : List DV} {az : List PA}, (∀ v ∈ vs, ∀ i ∈ refsDV v, s'.h i = s.h i) → rosOk s io k vs az → rosOk s' io k vs az
  | io, k, [], [], _, _ => trivial
  | io, k, [], _ :: _, _, h => by simp [rosOk] at h
  | io, k, _ :: _, [], _, h => by simp [rosOk] at h
  | io, k, v :: vs, pa :: az, hh, h => ⟨fun hi => by rw [roA_local (hh v List.mem_cons_self)]; exact h.1 hi, rosOk_local (fun u hu => hh u (List.mem_cons_of_mem _ hu)) h.2⟩
/-- A call with arguments that are read; its results are single values. -/
theorem Cert.callN {o : Oper} {f : Operand} {args : Array Operand} {ats : Array TypeId} {g d : Nat} {vs : List DV} {az az' : List PA} {sh : List (Option Nat)} {ds : List D} {cs : List DC} {δ : Add} (ho : o.op = .call { callee := .value f, args := args, argTypes := ats }) (hw : wantedD ops o s.e = some true)
    (hd : o.dst = some d) (hdn : d < nt) (hc : callArgs s f args.toList = some (g, vs)) (hS : Spec P g az sh ds az') (hr : rosOk s az.length 0 vs az) (hfl : ds.all flatD = true) (hro : widen az.length 0 vs = false ∨ noRoL ds = true) (hrd : rdCs d [] 0 ds = some cs) (hδ : δ = ⟨d, packDV sh cs, none⟩) :
    Cert P nt ops o (o.looksAt ops) (refsO s o ++ vs.flatMap refsDV) δ s := fun s' he hh => by
  subst hδ
  have hev := ev_local he
  have hf : ev s'.e f = ev s.e f := hev f (by simp [ho, Op.operands, Call.operands])
  have ha : args.toList.map (ev s'.e) = args.toList.map (ev s.e) := List.map_congr_left fun x hx => hev x (by simp [ho, Op.operands, Call.operands]; exact .inr (by simpa using hx))
  have hc' : callArgs s' f args.toList = some (g, vs) := by
    unfold callArgs at hc ⊢
    rw [hf, ha]
    exact hc
  refine .inl ⟨(wanted_local he).trans hw, OpStep.callN ho hc' hS (rosOk_local (fun v hv i hi => hh i (List.mem_append_right _ (List.mem_flatMap.2 ⟨v, hv, hi⟩))) hr) hro ?_⟩
  rw [hd]
  simp only [finish, hrd, if_pos hdn, hfl, if_true]
  rfl
def regA (P : Program) (nt : Nat) (ops : Array Oper) : List Oper → List (Option Foot) → FS → Option (List (Option Foot) × FS)
  | [], acc, s => some (acc, s)
  | o :: l, acc, s => match addF P nt ops o s with
    | some δ => regA P nt ops l (acc ++ [some (δ.d, o.looksAt ops, refsO s o)]) (s.add δ)
    | none => none
/-- A region, step by step; what each step looks at and writes is kept. -/
def RegD (P : Program) (nt : Nat) (ops : Array Oper) : List Oper → List (Option Foot) → FS → (List (Option Foot) → FS → Prop) → Prop
  | [], acc, s, N => N acc s
  | o :: l, acc, s, N => (∃ L R δ, Cert P nt ops o L R δ s ∧ RegD P nt ops l (acc ++ [some (δ.d, L, R)]) (s.add δ) N) ∨ (∃ s1, StepA P nt ops o s s1 ∧ RegD P nt ops l (acc ++ [none]) s1 N)
theorem RegD.adds {N : List (Option Foot) → FS → Prop} : ∀ {l l' : List Oper} {acc acc1 : List (Option Foot)} {s s1 : FS}, regA P nt ops l acc s = some (acc1, s1) → RegD P nt ops l' acc1 s1 N → RegD P nt ops (l ++ l') acc s N
  | [], l', acc, acc1, s, s1, h, hr => by
    simp only [regA, Option.some.injEq, Prod.mk.injEq] at h
    obtain ⟨rfl, rfl⟩ := h
    exact hr
  | o :: l, l', acc, acc1, s, s1, h, hr => by
    simp only [regA] at h
    split at h
    · rename_i δ hδ
      exact .inl ⟨_, _, δ, cert_of_addF hδ, RegD.adds h hr⟩
    · cases h
theorem RegD.addN {N : List (Option Foot) → FS → Prop} (n : Nat) {l : List Oper} {acc acc1 : List (Option Foot)} (h : regA P nt ops (l.take n) acc s = some (acc1, s1)) (hr : RegD P nt ops (l.drop n) acc1 s1 N) : RegD P nt ops l acc s N := by
  have := RegD.adds h hr
  rwa [List.take_append_drop] at this
theorem RegO.opN {N : FS → Prop} (n : Nat) {l : List Oper} (h : regF P nt ops (l.take n) s = Option.some s1) (hr : RegO P nt ops (l.drop n) s1 N) : RegO P nt ops l s N := by
  have := RegO.some h hr
  rwa [List.take_append_drop] at this
theorem RegD.cert {N : List (Option Foot) → FS → Prop} {o : Oper} {l : List Oper} {acc : List (Option Foot)} {L R : List Nat} {δ : Add} (hc : Cert P nt ops o L R δ s) (hr : RegD P nt ops l (acc ++ [some (δ.d, L, R)]) (s.add δ) N) : RegD P nt ops (o :: l) acc s N := .inl ⟨L, R, δ, hc, hr⟩
theorem RegD.heavy {N : List (Option Foot) → FS → Prop} {o : Oper} {l : List Oper} {acc : List (Option Foot)} (hc : StepA P nt ops o s s1) (hr : RegD P nt ops l (acc ++ [none]) s1 N) : RegD P nt ops (o :: l) acc s N := .inr ⟨s1, hc, hr⟩
theorem regD_chain {N : List (Option Foot) → FS → Prop} : ∀ {l : List Oper} {acc : List (Option Foot)} {s : FS} (k : Nat), k = acc.length → (∀ (i : Nat) (o : Oper), l[i]? = some o → ops[k + i]? = some o) → RegD P nt ops l acc s N →
    ∃ pl s2, N (acc ++ pl) s2 ∧ pl.length = l.length ∧ ∀ plan : Nat → Option Foot, (∀ i, i < pl.length → plan (k + i) = (pl.getD i none)) → Chain P nt ops plan (List.range' k l.length) s s2
  | [], acc, s, k, hk, ho, h => ⟨[], s, by simpa [RegD] using h, rfl, fun plan _ => .nil s⟩
  | o :: l, acc, s, k, hk, ho, h => by
    have hok : ops[k]? = some o := by simpa using ho 0 o rfl
    have ho' : ∀ (i : Nat) (o' : Oper), l[i]? = some o' → ops[k + 1 + i]? = some o' := fun i o' hi => by
      have := ho (i + 1) o' (by simpa using hi)
      rw [← this]; congr 1; omega
    rcases h with ⟨L, R, δ, hc, hr⟩ | ⟨s1, hc, hr⟩
    · obtain ⟨pl, s2, h1, h2, h3⟩ := regD_chain (k + 1) (by simp [hk]) ho' hr
      refine ⟨some (δ.d, L, R) :: pl, s2, by simpa using h1, by simp [h2], fun plan hp => ?_⟩
      rw [List.length_cons, List.range'_succ]
      refine .add hok (by have := hp 0 (by simp); simpa using this) hc (h3 plan fun i hi => ?_)
      have := hp (i + 1) (by simp; omega)
      rw [Nat.add_assoc, Nat.add_comm 1 i, this]
      simp
    · obtain ⟨pl, s2, h1, h2, h3⟩ := regD_chain (k + 1) (by simp [hk]) ho' hr
      refine ⟨none :: pl, s2, by simpa using h1, by simp [h2], fun plan hp => ?_⟩
      rw [List.length_cons, List.range'_succ]
      refine .heavy hok (by have := hp 0 (by simp); simpa using this) hc (h3 plan fun i hi => ?_)
      have := hp (i + 1) (by simp; omega)
      rw [Nat.add_assoc, Nat.add_comm 1 i, this]
      simp
def dedup : List Nat → List Nat
  | [] => []
  | x :: l => if (dedup l).contains x then dedup l else x :: dedup l
/-- What comes before each operation. -/
def tableOf (l : List Oper) : List (List Nat) := l.foldl (fun tb o => tb ++ [dedup ((o.after.toList.filter (Region.binds .any)).flatMap fun e => e.on :: tb.getD e.on [])]) []
/-- A region whose order is not told. -/
theorem DW.drawn {id : Nat} {l : List Oper} {Q : Exit → FS → Prop} (hm : P.follows .mixedOrders = true) (ht : tableOk .any l.toArray (tableOf l) = true) (h : RegD P nt l.toArray l [] s fun pl s2 => planOk (fun i => pl.getD i none) (tableOf l) l.length = true ∧ Q .normal s2) : DW P nt (.region id l.toArray true) s Q := by
  obtain ⟨pl, s2, ⟨h1, h2⟩, h3, h4⟩ := regD_chain (ops := l.toArray) 0 rfl (fun i o hi => by simpa using hi) h
  simp only [List.nil_append] at h1
  refine DW.draw (tableOf l) hm ht (plan := fun i => pl.getD i none) (by simpa using h1) ?_ h2
  have := h4 (fun i => pl.getD i none) (fun i hi => by simp)
  rw [List.range_eq_range']
  simpa using this
end
attribute [simp] regA addF refsO refsDV refsDC FS.add Op.operands Call.operands Oper.looksAt
end Go.Proofs.Ytciieaidbiejmaa.DM
