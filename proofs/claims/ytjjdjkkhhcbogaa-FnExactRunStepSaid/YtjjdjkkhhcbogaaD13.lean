/-
  DM 13. Calls: what an argument is to the function that is called; its contract; what the caller holds behind it.
-/
import Derived.Test.YtjjdjkkhhcbogaaD12
namespace Go.Proofs.Ytjjdjkkhhcbogaa.DM
set_option linter.unusedVariables false
set_option linter.unusedSimpArgs false
/-- A cell of an argument: data that is only read; a row that is lent and comes back; a row that is given away. -/
inductive PC where
  | r (r : RT)
  | m (sz n : Nat) (cs : List D)
  | c (sz n : Nat) (cs : List D)
  deriving Inhabited
inductive PA where
  | one (c : PC)
  | agg (cs : List PC)
  | ptr (cs : List D)
  | rptr (cs : List RT)
  deriving Inhabited
def PC.dc (i j : Nat) : PC → DC
  | .r q => .t q
  | .m _ n _ => .sl i [j] 0 n
  | .c _ n _ => .sl i [j] 0 n
def PC.tree : PC → D
  | .r _ => .gone ()
  | .m sz n cs => .ow () sz n cs
  | .c sz n cs => .ow () sz n cs
def PC.isR : PC → Bool
  | .r _ => true
  | _ => false
def PC.gh (i j : Nat) : PC → DC
  | .m _ n _ => .sl i [j] 0 n
  | _ => .un
def dcsFrom (i : Nat) : Nat → List PC → List DC
  | _, [] => []
  | j, c :: cs => c.dc i j :: dcsFrom i (j + 1) cs
def argV (i : Nat) : PA → DV
  | .one c => .v (.one (c.dc i 0))
  | .agg cs => .v (.agg (dcsFrom i 0 cs))
  | .ptr cs => .v (.one (.pt i [] 0))
  | .rptr cs => .v (.one (.rp cs))
def argH : PA → Option D
  | .one c => if c.isR then none else some (.hold [c.tree])
  | .agg cs => if cs.all PC.isR then none else some (.hold (cs.map PC.tree))
  | .ptr cs => some (.ow () cs.length 1 cs)
  | .rptr _ => none
def argG (i : Nat) : PA → Nat → DC
  | .one c, j => if j = 0 then c.gh i 0 else .un
  | .agg cs, j => match cs[j]? with | some c => c.gh i j | none => .un
  | .ptr _, j => if j = 0 then .pt i [] 0 else .un
  | .rptr _, _ => .un
/-- The state in which a function begins. -/
def initFS (as : List PA) : FS := ⟨fun i => match as[i]? with | some p => argV i p | none => .un, fun i => (as[i]?).bind argH, fun k => match as[k / 64]? with | some p => argG (k / 64) p (k % 64) | none => .un⟩
/-- A lent cell as it comes back. -/
def backC (s : FS) (i j : Nat) : PC → Option PC
  | .m sz n _ => match s.g (i * 64 + j), (s.h i).bind (T.get · [j]) with
    | .sl i' p off n', some (.ow _ sz' n'' cs') => if i' = i ∧ p = [j] ∧ off = 0 ∧ n' = n ∧ sz' = sz ∧ n'' = n then some (.m sz n cs') else none
    | _, _ => none
  | c => some c
def backCs (s : FS) (i : Nat) : Nat → List PC → Option (List PC)
  | _, [] => some []
  | j, c :: cs => match backC s i j c, backCs s i (j + 1) cs with
    | some c', some cs' => some (c' :: cs')
    | _, _ => none
def backA (s : FS) (i : Nat) : PA → Option PA
  | .one c => (backC s i 0 c).map .one
  | .agg cs => (backCs s i 0 cs).map .agg
  | .ptr cs => match s.g (i * 64), s.h i with
    | .pt i' [] 0, some (.ow _ k 1 cs') => if i' = i ∧ k = cs.length ∧ cs'.length = k then some (.ptr cs') else none
    | _, _ => none
  | .rptr cs => some (.rptr cs)
/-- Results: none: a cell; some k: a struct of k cells. -/
def packL : List (Option Nat) → List Value → List Value
  | [], _ => []
  | none :: sh, vs => match vs with
    | v :: vs => v :: packL sh vs
    | [] => []
  | some k :: sh, vs => .agg (vs.take k).toArray :: packL sh (vs.drop k)
def shLen : List (Option Nat) → Nat
  | [] => 0
  | none :: sh => 1 + shLen sh
  | some k :: sh => k + shLen sh
def packV (sh : List (Option Nat)) (vs : List Value) : Value := match packL sh vs with
  | [v] => v
  | l => .tuple l.toArray
/-- A function with a body of its own. -/
def Enters (P : Program) (f : Nat) : Prop := ∃ fn, P.funcs[f]? = some fn ∧ fn.body.isSome = true ∧ (fn.name == "runtime.NumGoroutine") = false
/-- THE CONTRACT of a function at arguments as: results ds (in the shape sh), the arguments behind the call. -/
def Spec (P : Program) (f : Nat) (as : List PA) (sh : List (Option Nat)) (ds : List D) (as' : List PA) : Prop := Enters P f ∧
  ∀ (F : Fr) (w : World) (M : Heap) (vals : List Value), Inv F w M [] w → vals.length = as.length → (∀ id, (initFS as).h id = (M id).map er) →
    (∀ (i : Nat) (pa : PA) (v : Value), as[i]? = some pa → vals[i]? = some v → RelV F w M (argV i pa) v) → (∀ i, RelC F w M ((initFS as).g i) (F.gv i)) →
    Calls P f vals.toArray w fun e w' => ∃ (v : Value) (s1 : FS) (M1 : Heap) (X : List A), e = .returned v ∧ Inv F w M1 X w' ∧ (∀ id, s1.h id = (M1 id).map er) ∧ (∀ i, RelC F w M1 (s1.g i) (F.gv i)) ∧
      X.map er = ds ∧ ds.length = shLen sh ∧ v = packV sh (X.map T.val) ∧ as'.length = as.length ∧ ∀ (i : Nat) (pa : PA), as[i]? = some pa → ∃ pa', as'[i]? = some pa' ∧ backA s1 i pa = some pa'
mutual
/-- Data of the call's own, read alone. -/
def toRT : D → Option RT
  | .sc v => some (.sc v)
  | .ro _ r => some r
  | .ow _ _ n cs => (toRTs cs).map (.sl n)
  | _ => none
def toRTs : List D → Option (List RT)
  | [] => some []
  | x :: xs => match toRT x, toRTs xs with
    | some r, some rs => some (r :: rs)
    | _, _ => none
end
mutual
/-- Nothing that is only read lies in it. -/
def noRo : D → Bool
  | .sc _ => true
  | .ro _ _ => false
  | .ow _ _ _ cs => noRoL cs
  | .hold cs => noRoL cs
  | .gone _ => true
def noRoL : List D → Bool
  | [] => true
  | x :: xs => noRo x && noRoL xs
end
section
variable {S0 : Fr} {w0 w w' : World} {M M' : Heap} {X : List A} {P : Program} {nt : Nat} {s : FS} {a : Act}
theorem toRTs_eq : ∀ {cs : List D} {rs : List RT}, toRTs cs = some rs → rs.length = cs.length ∧ ∀ (i : Nat) (x : D) (r : RT), cs[i]? = some x → rs[i]? = some r → toRT x = some r
  | [], rs, h => by simp only [toRTs, Option.some.injEq] at h; subst h; exact ⟨rfl, fun i x r hx => by simp at hx⟩
  | x :: xs, rs, h => by
    simp only [toRTs] at h
    split at h
    · rename_i r rs' h1 h2
      obtain rfl := Option.some.inj h
      obtain ⟨e1, e2⟩ := toRTs_eq h2
      refine ⟨by simp [e1], fun i y q hy hq => ?_⟩
      cases i with
      | zero => simp at hy hq; subst hy; subst hq; exact h1
      | succ i => exact e2 i y q (by simpa using hy) (by simpa using hq)
    · cases h
theorem noRoL_mem : ∀ {cs : List D}, noRoL cs = true → ∀ x ∈ cs, noRo x = true
  | [], _, x, hx => by cases hx
  | y :: ys, h, x, hx => by
    simp only [noRoL, Bool.and_eq_true] at h
    rcases List.mem_cons.1 hx with rfl | hx
    · exact h.1
    · exact noRoL_mem h.2 x hx
/-- What is only read may be read under a wider frame, in a later world. -/
theorem RoC.wide {S1 : Fr} {w1 : World} {v : Value} {r : RT} (h : RoC S0 w0 v r) (hr : ∀ k, S0.ro k → S1.ro k) (hw : ∀ k, S0.ro k → w1.heap[k]? = w0.heap[k]?) : RoC S1 w1 v r := by
  induction h with
  | sc v hv => exact .sc v hv
  | sl a n c cs vs h1 h2 h3 h4 h5 h6 ih => exact .sl a n c cs vs h1 (hr _ h2) h3 h4 (fun i v hv => by have := h5 i v hv; simp only [World.cell?] at this ⊢; rw [hw _ h2]; exact this) ih
  | em a c => exact .em a c
  | fn f ps caps h1 h2 ih => exact .fn f ps caps h1 ih
/-- A tree that is held, read alone. -/
theorem toRT_ok {S1 : Fr} (hro : ∀ k, S0.ro k → S1.ro k) (hw : ∀ k, S0.ro k → w.heap[k]? = w0.heap[k]?) : ∀ {y : A}, Ok S0 w0 w y → (∀ b ∈ y.blocks, S1.ro b) → ∀ {r : RT}, toRT (er y) = some r → RoC S1 w y.val r := by
  intro y h
  induction h with
  | sc v hv => intro _ r hr; simp only [er, T.map, toRT, Option.some.injEq] at hr; subst hr; exact .sc v hv
  | ro u q hq => intro _ r hr; simp only [er, T.map, toRT, Option.some.injEq] at hr; subst hr; exact hq.wide hro hw
  | ow b o c sz n cs cur ty fz h1 h2 h3 h4 h5 h6 h7 h8 h9 ih =>
    intro hb r hr
    rw [er_ow_mk] at hr
    simp only [toRT] at hr
    obtain ⟨rs, hrs, rfl⟩ := Option.map_eq_some_iff.1 hr
    obtain ⟨e1, e2⟩ := toRTs_eq hrs
    refine .sl ⟨b, o, none⟩ n c rs (cs.map T.val) rfl (hb b (by simp [T.blocks])) h4 (by rw [List.length_map, e1, List.length_map]) (fun i v hv => ?_) (fun i v r hv hr => ?_)
    · rw [List.getElem?_map, Option.map_eq_some_iff] at hv
      obtain ⟨x, hx, rfl⟩ := hv
      simp only [World.cell?, h1]
      simpa using h7 i x hx
    · rw [List.getElem?_map, Option.map_eq_some_iff] at hv
      obtain ⟨x, hx, rfl⟩ := hv
      refine ih x (List.mem_of_getElem? hx) (fun k hk => hb k ?_) (e2 i (er x) r (by rw [List.getElem?_map, hx]; rfl) hr)
      rw [T.blocks_eq]
      exact List.mem_append_right _ (List.mem_flatMap.2 ⟨x, List.mem_of_getElem? hx, hk⟩)
  | em a sz => intro _ r hr; rw [er_ow_mk] at hr; simp only [toRT, List.map_nil, toRTs, Option.map_some, Option.some.injEq] at hr; subst hr; exact .em a 0
  | hold cs _ _ _ => intro _ r hr; simp [er, T.map, toRT] at hr
  | gone u hu => intro _ r hr; simp [er, T.map, toRT] at hr
/-- A tree that a callee leaves is held by the caller. -/
theorem Ok.conv {F : Fr} {w1 : World} {y : A} (h : Ok F w1 w y) (hf : ∀ b j, S0.fx b j → F.fx b j) : ((∀ u r, RoC F w1 u r → RoC S0 w0 u r) ∨ noRo (er y) = true) → Ok S0 w0 w y := by
  induction h with
  | sc v hv => intro _; exact .sc v hv
  | ro u r hr => intro h; rcases h with h | h
                 · exact .ro u r (h u r hr)
                 · simp [er, T.map, noRo] at h
  | ow b o c sz n cs cur ty fz h1 h2 h3 h4 h5 h6 h7 h8 h9 ih =>
    intro h
    refine .ow b o c sz n cs cur ty fz h1 h2 ⟨h3.1, h3.2.1, fun j hj hfx => h3.2.2 j hj (hf _ _ hfx)⟩ h4 h5 h6 h7 (fun x hx => ih x hx ?_) h9
    rcases h with h | h
    · exact .inl h
    · rw [er_ow_mk] at h
      simp only [noRo] at h
      exact .inr (noRoL_mem h _ (List.mem_map_of_mem hx))
  | em a sz => intro _; exact .em a sz
  | hold cs h1 h2 ih =>
    intro h
    refine .hold cs (fun x hx => ih x hx ?_) h2
    rcases h with h | h
    · exact .inl h
    · have : er (.hold cs) = .hold (cs.map er) := by simp only [er, T.map, T.mapL_eq]; rfl
      rw [this] at h
      simp only [noRo] at h
      exact .inr (noRoL_mem h _ (List.mem_map_of_mem hx))
  | gone u hu => intro _; exact .gone u hu
/-- The frame of a callee: what the caller holds besides what is handed over (own) is kept. -/
def calleeFr (S0 : Fr) (w : World) (own : List Nat) (wide : Bool) (fx : Nat → Nat → Prop) (gv : Nat → Value) : Fr :=
  ⟨fun k => if wide then k < w.heap.size ∧ k ∉ own else S0.ro k, fun k => k < w.heap.size ∧ k ∉ own, fun b j => S0.fx b j ∨ fx b j, gv⟩
/-- The world as a callee finds it. -/
theorem callee_wd {own : List Nat} {wide : Bool} {fx : Nat → Nat → Prop} {gv : Nat → Value} (hI : Inv S0 w0 M X w) (hown : ∀ b ∈ own, ¬ S0.kp b) (hfx : ∀ b j, fx b j → b < w.heap.size) : Wd (calleeFr S0 w own wide fx gv) w w := by
  refine ⟨fun _ _ => rfl, fun k hk => hk.1, Nat.le_refl _, fun k hk => ?_, fun b j h => ⟨?_, rfl⟩, rfl, rfl, rfl⟩
  · simp only [calleeFr] at hk ⊢
    split at hk
    · exact hk
    · have h1 := hI.wd.rk k hk
      exact ⟨by have := hI.wd.s0 k h1; have := hI.wd.sz; omega, fun h => hown k h h1⟩
  · rcases h with h | h
    · have := (hI.wd.fx b j h).1; have := hI.wd.sz; omega
    · exact hfx b j h
/-- What is only read in the caller is so in the callee. -/
theorem ro_callee {own : List Nat} {wide : Bool} {fx : Nat → Nat → Prop} {gv : Nat → Value} (hI : Inv S0 w0 M X w) (hown : ∀ b ∈ own, ¬ S0.kp b) {v : Value} {r : RT} (h : RoC S0 w0 v r) : RoC (calleeFr S0 w own wide fx gv) w v r :=
  h.wide (fun k hk => by
    simp only [calleeFr]
    split
    · have h1 := hI.wd.rk k hk
      exact ⟨by have := hI.wd.s0 k h1; have := hI.wd.sz; omega, fun h => hown k h h1⟩
    · exact hk) (fun k hk => hI.wd.fr k (hI.wd.rk k hk))
theorem ro_back {own : List Nat} {fx : Nat → Nat → Prop} {gv : Nat → Value} (hI : Inv S0 w0 M X w) {v : Value} {r : RT} (h : RoC (calleeFr S0 w own false fx gv) w v r) : RoC S0 w0 v r :=
  h.wide (fun k hk => by simpa [calleeFr] using hk) (fun k hk => by
    have hk' : S0.ro k := by simpa [calleeFr] using hk
    exact (hI.wd.fr k (hI.wd.rk k hk')).symm)
/-- BEHIND A CALL: what the caller did not hand over stands; what comes back is in hand. -/
theorem call_back {own : List Nat} {wide : Bool} {fx : Nat → Nat → Prop} {gv : Nat → Value} {M1 : Heap} {Y Z : List A} (hI : Inv S0 w0 M X w) (hX : ∀ b, b ∈ own → b ∈ X.flatMap T.blocks)
    (hfx : ∀ b j, S0.fx b j → b ∈ X.flatMap T.blocks → b ∈ own → True) (hc : Inv (calleeFr S0 w own wide fx gv) w M1 Y w') (hZ : ∀ z ∈ Z, Ok (calleeFr S0 w own wide fx gv) w w' z ∧ z.isHold = false)
    (hsub : ∀ b ∈ Z.flatMap T.blocks, b < w'.heap.size ∧ ¬ (calleeFr S0 w own wide fx gv).kp b) (hnd : (Z.flatMap T.blocks).Nodup) (hro : wide = false ∨ ∀ z ∈ Z, noRo (er z) = true) : Inv S0 w0 M Z w' := by
  have hkeep : ∀ k, k < w.heap.size → k ∉ own → w'.heap[k]? = w.heap[k]? := fun k h1 h2 => hc.wd.fr k ⟨h1, h2⟩
  have hMown : ∀ id t, M id = some t → ∀ b ∈ t.blocks, b ∉ own := fun id t ht b hb ho => hI.xd id t ht b hb (hX b ho)
  have hconv : ∀ z ∈ Z, Ok S0 w0 w' z := fun z hz => (hZ z hz).1.conv (fun b j h => .inl h) (by
    rcases hro with rfl | h
    · exact .inl fun u r h => ro_back hI h
    · exact .inr (h z hz))
  have hkp : ∀ b, S0.kp b → b < w.heap.size ∧ b ∉ own := fun b hb => ⟨by have := hI.wd.s0 b hb; have := hI.wd.sz; omega, fun ho => (hI.xb b (hX b ho)).2 hb⟩
  refine ⟨fun id t ht => (hI.ok id t ht).frame fun b hb => hkeep b (hI.bl id t b ht hb).1 (hMown id t ht b hb), hI.nd, hI.dj, fun id t b ht hb => ⟨by have := (hI.bl id t b ht hb).1; have := hc.wd.sz; omega, (hI.bl id t b ht hb).2⟩, ?_, fun z hz => ⟨hconv z hz, (hZ z hz).2⟩, hnd, fun id t ht b hb hbz => ?_, fun b hb => ⟨(hsub b hb).1, fun hk => (hsub b hb).2 (hkp b hk)⟩⟩
  · refine ⟨fun k hk => ?_, hI.wd.s0, by have := hc.wd.sz; have := hI.wd.sz; omega, hI.wd.rk, fun b j h => ?_, hc.wd.oo.1.trans hI.wd.oo.1, hc.wd.oo.2.1.trans hI.wd.oo.2.1, hc.wd.oo.2.2.trans hI.wd.oo.2.2⟩
    · rw [hkeep k (hkp k hk).1 (hkp k hk).2]; exact hI.wd.fr k hk
    · obtain ⟨h1, h2⟩ := hI.wd.fx b j h
      refine ⟨h1, ?_⟩
      rw [← h2]
      exact (hc.wd.fx b j (.inl h)).2
  · exact (hsub b hbz).2 ⟨(hI.bl id t b ht hb).1, hMown id t ht b hb⟩
end
end Go.Proofs.Ytjjdjkkhhcbogaa.DM
