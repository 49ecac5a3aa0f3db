/-
  DM 15. The call: what is handed over; what comes back.
-/
import Derived.Test.YtjjdjkkhhcbogaaD14
namespace Go.Proofs.Ytjjdjkkhhcbogaa.DM
set_option linter.unusedVariables false
set_option linter.unusedSimpArgs false
section
variable {S0 : Fr} {w0 w w' : World} {M M' : Heap} {X : List A} {P : Program} {nt : Nat} {s : FS} {a : Act}
/-- BEHIND A CALL, told in the caller's frame. -/
theorem call_back2 {own : List Nat} {wide : Bool} {fx : Nat → Nat → Prop} {gv : Nat → Value} {M1 : Heap} {Y Z : List A} (hI : Inv S0 w0 M X w) (hX : ∀ b, b ∈ own → b ∈ X.flatMap T.blocks)
    (hc : Inv (calleeFr S0 w own wide fx gv) w M1 Y w') (hZ : ∀ z ∈ Z, Ok S0 w0 w' z ∧ z.isHold = false)
    (hsub : ∀ b ∈ Z.flatMap T.blocks, b < w'.heap.size ∧ (b ∈ X.flatMap T.blocks ∨ ¬ (calleeFr S0 w own wide fx gv).kp b)) (hnd : (Z.flatMap T.blocks).Nodup) : Inv S0 w0 M Z w' := by
  have hkeep : ∀ k, k < w.heap.size → k ∉ own → w'.heap[k]? = w.heap[k]? := fun k h1 h2 => hc.wd.fr k ⟨h1, h2⟩
  have hMown : ∀ id t, M id = some t → ∀ b ∈ t.blocks, b ∉ own := fun id t ht b hb ho => hI.xd id t ht b hb (hX b ho)
  have hkp : ∀ b, S0.kp b → b < w.heap.size ∧ b ∉ own := fun b hb => ⟨by have := hI.wd.s0 b hb; have := hI.wd.sz; omega, fun ho => (hI.xb b (hX b ho)).2 hb⟩
  refine ⟨fun id t ht => (hI.ok id t ht).frame fun b hb => hkeep b (hI.bl id t b ht hb).1 (hMown id t ht b hb), hI.nd, hI.dj, fun id t b ht hb => ⟨by have := (hI.bl id t b ht hb).1; have := hc.wd.sz; omega, (hI.bl id t b ht hb).2⟩, ?_, hZ, hnd, fun id t ht b hb hbz => ?_, fun b hb => ⟨(hsub b hb).1, fun hk => ?_⟩⟩
  · refine ⟨fun k hk => ?_, hI.wd.s0, by have := hc.wd.sz; have := hI.wd.sz; omega, hI.wd.rk, fun b j h => ?_, hc.wd.oo.1.trans hI.wd.oo.1, hc.wd.oo.2.1.trans hI.wd.oo.2.1, hc.wd.oo.2.2.trans hI.wd.oo.2.2⟩
    · rw [hkeep k (hkp k hk).1 (hkp k hk).2]; exact hI.wd.fr k hk
    · obtain ⟨h1, h2⟩ := hI.wd.fx b j h
      refine ⟨h1, ?_⟩
      rw [← h2]
      exact (hc.wd.fx b j (.inl h)).2
  · rcases (hsub b hbz).2 with h | h
    · exact hI.xd id t ht b hb h
    · exact h ⟨(hI.bl id t b ht hb).1, hMown id t ht b hb⟩
  · rcases (hsub b hb).2 with h | h
    · exact (hI.xb b h).2 hk
    · exact h (hkp b hk)
/-- What comes back out of the callee's frame is held by the caller. -/
theorem conv_back {own : List Nat} {wide : Bool} {fx : Nat → Nat → Prop} {gv : Nat → Value} {z : A} (hI : Inv S0 w0 M X w) (h : Ok (calleeFr S0 w own wide fx gv) w w' z) (hro : wide = false ∨ noRo (er z) = true) : Ok S0 w0 w' z :=
  h.conv (fun b j h => .inl h) (by
    rcases hro with rfl | h
    · exact .inl fun u r h => ro_back hI h
    · exact .inr h)
/-- What the caller holds, as the callee holds it. -/
theorem Ok.down {own : List Nat} {wide : Bool} {fx : Nat → Nat → Prop} {gv : Nat → Value} (hI : Inv S0 w0 M X w) (hown : ∀ b ∈ own, ¬ S0.kp b) {z : A} (h : Ok S0 w0 w z) : (∀ b ∈ z.blocks, ∀ j, ¬ fx b j) → Ok (calleeFr S0 w own wide fx gv) w w z := by
  induction h with
  | sc v hv => intro _; exact .sc v hv
  | ro u r hr => intro _; exact .ro u r (ro_callee hI hown hr)
  | ow b o c sz n cs cur ty fz h1 h2 h3 h4 h5 h6 h7 h8 h9 ih =>
    intro hf
    refine .ow b o c sz n cs cur ty fz h1 h2 ⟨h3.1, h3.2.1, fun j hj hfx => ?_⟩ h4 h5 h6 h7 (fun x hx => ih x hx fun b' hb' => hf b' ?_) h9
    · rcases hfx with hfx | hfx
      · exact h3.2.2 j hj hfx
      · exact hf b (by simp [T.blocks]) _ hfx
    · rw [T.blocks_eq]
      exact List.mem_append_right _ (List.mem_flatMap.2 ⟨x, hx, hb'⟩)
  | em a sz => intro _; exact .em a sz
  | hold cs h1 h2 ih =>
    intro hf
    refine .hold cs (fun x hx => ih x hx fun b' hb' => hf b' ?_) h2
    rw [T.blocks_eq]
    exact List.mem_append_right _ (List.mem_flatMap.2 ⟨x, hx, hb'⟩)
  | gone u hu => intro _; exact .gone u hu
/-- The callee's world with one entry. -/
def oneH (io : Nat) (ent : Option A) : Heap := fun i => if i = io then ent else none
theorem oneH_some {io i : Nat} {ent : Option A} {t : A} (h : oneH io ent i = some t) : i = io ∧ ent = some t := by
  unfold oneH at h
  split at h
  · rename_i hi; exact ⟨hi, h⟩
  · cases h
theorem callee_inv {own : List Nat} {wide : Bool} {fx : Nat → Nat → Prop} {gv : Nat → Value} (hI : Inv S0 w0 M X w) (hX : ∀ b, b ∈ own → b ∈ X.flatMap T.blocks) (hfx : ∀ b j, fx b j → b < w.heap.size) (io : Nat) (ent : Option A)
    (ho : ∀ t, ent = some t → Ok (calleeFr S0 w own wide fx gv) w w t) (hn : ∀ t, ent = some t → t.blocks.Nodup) (hs : ∀ t, ent = some t → ∀ b ∈ t.blocks, b ∈ own) : Inv (calleeFr S0 w own wide fx gv) w (oneH io ent) [] w := by
  have hown : ∀ b ∈ own, ¬ S0.kp b := fun b hb => (hI.xb b (hX b hb)).2
  refine ⟨fun i t h => ho t (oneH_some h).2, fun i t h => hn t (oneH_some h).2, fun i j t t' hij h h' => absurd ((oneH_some h).1.trans (oneH_some h').1.symm) hij, fun i t b h hb => ?_, callee_wd hI hown hfx, by simp, by simp, by simp, by simp⟩
  have := hs t (oneH_some h).2 b hb
  exact ⟨(hI.xb b (hX b this)).1, fun hk => hk.2 this⟩
/-- The other arguments are read. -/
def rosOk (s : FS) (io : Nat) : Nat → List DV → List PA → Prop
  | i, v :: vs, pa :: as => (i ≠ io → roA_ s v = some pa) ∧ rosOk s io (i + 1) vs as
  | _, [], [] => True
  | _, _, _ => False
theorem rosOk_at {io : Nat} : ∀ {k : Nat} {vs : List DV} {as : List PA}, rosOk s io k vs as → vs.length = as.length ∧ ∀ (i : Nat) (v : DV) (pa : PA), vs[i]? = some v → as[i]? = some pa → k + i ≠ io → roA_ s v = some pa
  | k, [], [], _ => ⟨rfl, fun i v pa h => by simp at h⟩
  | k, [], _ :: _, h => by simp [rosOk] at h
  | k, _ :: _, [], h => by simp [rosOk] at h
  | k, v :: vs, pa :: as, h => by
    obtain ⟨h1, h2⟩ := h
    obtain ⟨g1, g2⟩ := rosOk_at h2
    refine ⟨by simp [g1], fun i v' pa' hv hp hi => ?_⟩
    cases i with
    | zero => simp at hv hp; subst hv; subst hp; exact h1 (by simpa using hi)
    | succ i => exact g2 i v' pa' (by simpa using hv) (by simpa using hp) (by omega)
def widen (io : Nat) : Nat → List DV → Bool
  | _, [] => false
  | i, v :: vs => (i != io && ownV v) || widen io (i + 1) vs
theorem widen_at {io : Nat} : ∀ {k : Nat} {vs : List DV}, widen io k vs = false → ∀ (i : Nat) (v : DV), vs[i]? = some v → k + i ≠ io → ownV v = false
  | k, [], _, i, v, h, _ => by simp at h
  | k, u :: vs, h, i, v, hv, hi => by
    simp only [widen, Bool.or_eq_false_iff, Bool.and_eq_false_iff] at h
    cases i with
    | zero =>
      simp at hv; subst hv
      rcases h.1 with h1 | h1
      · simp at h1; exact absurd h1 (by simpa using hi)
      · exact h1
    | succ i => exact widen_at h.2 i v (by simpa using hv) (by omega)
/-- THE CALL's MIDDLE: the callee runs upon one entry and what is read. -/
theorem call_core {own : List Nat} {wide : Bool} {fx : Nat → Nat → Prop} {gv : Nat → Value} {f io : Nat} {as as' : List PA} {sh : List (Option Nat)} {ds : List D} {vs : List DV} {vals : List Value} {ent : Option A}
    (hI : Inv S0 w0 M X w) (her : ∀ id, s.h id = (M id).map er) (hX : ∀ b, b ∈ own → b ∈ X.flatMap T.blocks) (hS : Spec P f as sh ds as') (hl : vals.length = vs.length)
    (hv : ∀ (i : Nat) (v : DV) (u : Value), vs[i]? = some v → vals[i]? = some u → i ≠ io → RelV S0 w0 M v u) (hr : rosOk s io 0 vs as) (hw : wide = true ∨ widen io 0 vs = false)
    (hIc : Inv (calleeFr S0 w own wide fx gv) w (oneH io ent) [] w)
    (hio : ∀ pa u, as[io]? = some pa → vals[io]? = some u → RelV (calleeFr S0 w own wide fx gv) w (oneH io ent) (argV io pa) u ∧ argH pa = ent.map er ∧ ∀ k, k < 64 → RelC (calleeFr S0 w own wide fx gv) w (oneH io ent) (argG io pa k) (gv (io * 64 + k)))
    (hno : as[io]? = none → ent = none) :
    Calls P f vals.toArray w fun e w' => ∃ (v : Value) (s1 : FS) (M1 : Heap) (Y : List A), e = .returned v ∧ Inv (calleeFr S0 w own wide fx gv) w M1 Y w' ∧ (∀ id, s1.h id = (M1 id).map er) ∧ (∀ i, RelC (calleeFr S0 w own wide fx gv) w M1 (s1.g i) (gv i)) ∧
      Y.map er = ds ∧ ds.length = shLen sh ∧ v = packV sh (Y.map T.val) ∧ as'.length = as.length ∧ ∀ (i : Nat) (pa : PA), as[i]? = some pa → ∃ pa', as'[i]? = some pa' ∧ backA s1 i pa = some pa' := by
  obtain ⟨r1, r2⟩ := rosOk_at hr
  have hro : ∀ (i : Nat) (pa : PA) (u : Value), i ≠ io → as[i]? = some pa → vals[i]? = some u → RelV (calleeFr S0 w own wide fx gv) w (oneH io ent) (argV i pa) u ∧ argH pa = none ∧ ∀ k, argG i pa k = .un := fun i pa u hi hp hu => by
    have hlt : i < vs.length := by rw [← hl]; exact (List.getElem?_eq_some_iff.1 hu).1
    refine roA_arg hI her hX (hv i _ u (List.getElem?_eq_getElem hlt) hu hi) (r2 i _ pa (List.getElem?_eq_getElem hlt) hp (by simpa using hi)) ?_
    rcases hw with hw | hw
    · exact .inl hw
    · exact .inr (widen_at hw i _ (List.getElem?_eq_getElem hlt) (by simpa using hi))
  have hval : ∀ (i : Nat) (pa : PA), as[i]? = some pa → ∃ u, vals[i]? = some u := fun i pa hp => by
    have : i < vals.length := by rw [hl, r1]; exact (List.getElem?_eq_some_iff.1 hp).1
    exact ⟨_, List.getElem?_eq_getElem this⟩
  refine hS.2 _ w (oneH io ent) vals hIc (by rw [hl, r1]) (fun id => ?_) (fun i pa u hp hu => ?_) (fun k => ?_)
  · simp only [initFS, oneH]
    by_cases hi : id = io
    · subst hi
      simp only [if_true]
      cases hp : as[id]? with
      | none => rw [hno hp]; rfl
      | some pa =>
        obtain ⟨u, hu⟩ := hval id pa hp
        exact (hio pa u hp hu).2.1
    · simp only [if_neg hi, Option.map_none]
      cases hp : as[id]? with
      | none => rfl
      | some pa =>
        obtain ⟨u, hu⟩ := hval id pa hp
        exact (hro id pa u hi hp hu).2.1
  · by_cases hi : i = io
    · subst hi; exact (hio pa u hp hu).1
    · exact (hro i pa u hi hp hu).1
  · simp only [initFS]
    cases hp : as[k / 64]? with
    | none => exact .un _
    | some pa =>
      obtain ⟨u, hu⟩ := hval _ pa hp
      by_cases hi : k / 64 = io
      · have := (hio pa u (hi ▸ hp) (hi ▸ hu)).2.2 (k % 64) (Nat.mod_lt _ (by omega))
        have hk : io * 64 + k % 64 = k := by omega
        rw [hk] at this
        rw [hi]
        exact this
      · show RelC _ _ _ (argG (k / 64) pa (k % 64)) _
        rw [(hro _ pa u hi hp hu).2.2]
        exact .un _
theorem noRoL_mem' {Y : List A} (h : noRoL (Y.map er) = true) : ∀ z ∈ Y, noRo (er z) = true := fun z hz => noRoL_mem h _ (List.mem_map_of_mem hz)
/-- A call with arguments that are only read. -/
theorem call_N {f : Nat} {as as' : List PA} {sh : List (Option Nat)} {ds : List D} {vs : List DV} {vals : List Value} (hR : Rel S0 w0 nt s M a w) (hS : Spec P f as sh ds as') (hl : vals.length = vs.length)
    (hv : ∀ (i : Nat) (v : DV) (u : Value), vs[i]? = some v → vals[i]? = some u → RelV S0 w0 M v u) (hr : rosOk s as.length 0 vs as) (hw : widen as.length 0 vs = false ∨ noRoL ds = true) :
    Calls P f vals.toArray w fun e w' => ∃ (v : Value) (Y : List A), e = .returned v ∧ RelX S0 w0 nt s M Y a w' ∧ Y.map er = ds ∧ ds.length = shLen sh ∧ v = packV sh (Y.map T.val) := by
  have hX : ∀ b, b ∈ ([] : List Nat) → b ∈ ([] : List A).flatMap T.blocks := by simp
  have hlen := (rosOk_at hr).1
  refine Calls.mono (call_core (own := []) (wide := widen as.length 0 vs) (fx := fun _ _ => False) (gv := fun _ => undef) (ent := none) hR.inv hR.er hX hS hl (fun i v u h1 h2 _ => hv i v u h1 h2) hr (by cases widen as.length 0 vs <;> simp) (callee_inv hR.inv hX (by simp) _ none (by simp) (by simp) (by simp)) (fun pa u h => by simp at h) (fun _ => rfl)) ?_
  rintro e w' ⟨v, s1, M1, Y, rfl, hIc, _, _, e1, e2, e3, _, _⟩
  refine ⟨v, Y, rfl, ?_, e1, e2, e3⟩
  refine ⟨call_back2 hR.inv hX hIc (fun z hz => ⟨conv_back hR.inv (hIc.xo z hz).1 ?_, (hIc.xo z hz).2⟩) (fun b hb => ⟨(hIc.xb b hb).1, .inr (hIc.xb b hb).2⟩) hIc.xn, hR.er, hR.en, hR.nt, hR.df, hR.gh⟩
  rcases hw with hw | hw
  · exact .inl hw
  · exact .inr (noRoL_mem' (by rw [e1]; exact hw) z hz)
end
end Go.Proofs.Ytjjdjkkhhcbogaa.DM
