/-
  DM 5. The quiet operations: the model's machine yields what the machine of values yields.
-/
import Derived.Test.YtjjdjkkhhcbogaaD4
namespace Go.Proofs.Ytjjdjkkhhcbogaa.DM
set_option linter.unusedVariables false
set_option linter.unusedSimpArgs false
theorem mapO_some {α β : Type} {f : α → Option β} : ∀ {l : List α} {r : List β}, mapO f l = some r → r.length = l.length ∧ ∀ (i : Nat) (x : α) (y : β), l[i]? = some x → r[i]? = some y → f x = some y
  | [], r, h => by simp only [mapO, Option.some.injEq] at h; subst h; exact ⟨rfl, fun i x y hx => by simp at hx⟩
  | x :: xs, r, h => by
    simp only [mapO] at h
    split at h
    · rename_i y ys h1 h2
      simp only [Option.some.injEq] at h
      subst h
      obtain ⟨e1, e2⟩ := mapO_some h2
      refine ⟨by simp [e1], fun i a b ha hb => ?_⟩
      cases i with
      | zero => simp at ha hb; subst ha; subst hb; exact h1
      | succ i => exact e2 i a b (by simpa using ha) (by simpa using hb)
    · cases h
section
variable {S0 : Fr} {w0 w w' : World} {M M' : Heap} {P : Program}
theorem plain_one {v : Value} (h : plain v = true) : v.oneCell' = true := by cases v <;> simp_all [plain, Value.oneCell']
theorem zcC_ok {v : Value} {c : DC} (h : zcC v = some c) : RelC S0 w0 M c v ∧ v.oneCell' = true := by
  unfold zcC at h
  split at h
  · rename_i hp
    obtain rfl := Option.some.inj h
    exact ⟨.t _ _ (.sc v hp), plain_one hp⟩
  · split at h
    · obtain rfl := Option.some.inj h
      exact ⟨.nl none, rfl⟩
    · cases h
theorem cst_ok (v : Value) : RelV S0 w0 M (cst v) v := by
  unfold cst
  split
  · rename_i cs
    split
    · rename_i l hl
      obtain ⟨h1, h2⟩ := mapO_some hl
      refine ⟨cs.toList, by simp, h1.symm, fun i c u hc hu => (zcC_ok (h2 i u c hu hc)).1, fun u hu => ?_⟩
      obtain ⟨i, hi, rfl⟩ := List.getElem_of_mem hu
      exact (zcC_ok (S0 := S0) (w0 := w0) (M := M) (h2 i _ _ (List.getElem?_eq_getElem hi) (List.getElem?_eq_getElem (by omega)))).2
    · trivial
  · split
    · rename_i c hc
      exact zcC_ok hc
    · trivial
theorem ev_ok {nt : Nat} {s : FS} {a : Act} (hR : Rel S0 w0 nt s M a w) (x : Operand) : RelV S0 w0 M (ev s.e x) (a.eval x) := by
  cases x with
  | tmp t => exact hR.en t
  | const v => exact cst_ok v
  | func f => exact ⟨.fn f [] [] rfl (fun i id a h => by simp at h), rfl⟩
  | global g => trivial
theorem asSc_ok {x : DV} {v u : Value} (h : asSc x = some v) (hr : RelV S0 w0 M x u) : u = v ∧ plain v = true := by
  unfold asSc at h
  split at h
  · obtain rfl := Option.some.inj h
    cases hr.1 with
    | t r v h => cases h with
      | sc v hv => exact ⟨rfl, hv⟩
  · cases h
theorem asInt_ok {x : DV} {n : Int} {u : Value} (h : asInt x = some n) (hr : RelV S0 w0 M x u) : ∃ k, u = .int k n := by
  unfold asInt at h
  split at h
  · rename_i k m
    obtain rfl := Option.some.inj h
    cases hr.1 with
    | t r v h => cases h with
      | sc v hv => exact ⟨_, rfl⟩
  · cases h
theorem sc_ok {v : Value} (h : plain v = true) : RelV S0 w0 M (.v (.one (.t (.sc v)))) v := ⟨.t _ _ (.sc v h), plain_one h⟩
theorem dcs_ok {x : DV} {cs : List DC} {u : Value} (h : dcs x = some cs) (hr : RelV S0 w0 M x u) :
    u.cells.toList.length = cs.length ∧ (∀ (i : Nat) (c : DC) (v : Value), cs[i]? = some c → u.cells.toList[i]? = some v → RelC S0 w0 M c v) ∧ ∀ v ∈ u.cells.toList, v.oneCell' = true := by
  unfold dcs at h
  split at h
  · rename_i c
    obtain rfl := Option.some.inj h
    obtain ⟨h1, h2⟩ := hr
    have hc : u.cells.toList = [u] := by cases u <;> simp_all [Value.cells, Value.oneCell']
    rw [hc]
    refine ⟨rfl, fun i c' v hc' hv => ?_, fun v hv => by simp at hv; subst hv; exact h2⟩
    cases i with
    | zero => simp at hc' hv; subst hc'; subst hv; exact h1
    | succ i => simp at hc'
  · rename_i cs'
    obtain rfl := Option.some.inj h
    obtain ⟨vs, rfl, h1, h2, h3⟩ := hr
    simp only [Value.cells]
    exact ⟨h1, h2, h3⟩
  · cases h
theorem szT_ok {t : TypeId} {n : Nat} (h : szT P t = some n) (w : World) : (sizeOf t).run P w = .ok n w := by
  unfold szT at h
  obtain ⟨i, hi, rfl⟩ := Option.map_eq_some_iff.1 h
  simp [sizeOf, typeInfo, hi]
theorem zeroT_ok {t : TypeId} {z : List Value} (h : zeroT P t = some z) : ∃ v, (∀ w, (zeroValue t).run P w = .ok v w) ∧ v.cells.toList = z := by
  unfold zeroT at h
  obtain ⟨v, hv, rfl⟩ := Option.map_eq_some_iff.1 h
  obtain ⟨i, hi, hz⟩ := Option.bind_eq_some_iff.1 hv
  exact ⟨v, fun w => by simp [zeroValue, typeInfo, hi, hz], rfl⟩
theorem aggT_ok {t : TypeId} {g : Bool} (h : aggT P t = some g) (w : World) : (isAgg t).run P w = .ok g w := by
  unfold aggT at h
  obtain ⟨d, hd, rfl⟩ := Option.map_eq_some_iff.1 h
  simp only [isAgg, Sem.run_bind, run_underlying hd, Result.andThen_ok]
  cases d <;> rfl
theorem elemT_ok {t e : TypeId} {n : Nat} (h : elemT P t = some (e, n)) : P.underlying t = some (.slice e) ∧ szT P e = some n := by
  unfold elemT at h
  split at h
  · rename_i e' he
    obtain ⟨m, hm, hh⟩ := Option.map_eq_some_iff.1 h
    simp only [Prod.mk.injEq] at hh
    obtain ⟨rfl, rfl⟩ := hh
    exact ⟨he, hm⟩
  · cases h
theorem intBin_ok {op : BinOp} {k : IntKind} {x y : Int} {r : Value} (h : intBin op k x y = some r) (w : World) (ty : TypeId) :
    (binOp op ty (.int k x) (.int k y)).run P w = .ok r w ∧ plain r = true := by
  cases op <;> simp only [intBin, Option.some.injEq, reduceCtorEq] at h <;> first
    | (subst h; exact ⟨by simp [binOp, Op.intArith, Op.intCmp, Op.intBits], rfl⟩)
    | (split at h
       · cases h
       · rename_i hb; obtain rfl := Option.some.inj h; exact ⟨by simp [binOp, Op.intDiv, hb], rfl⟩)
theorem strBin_ok {op : BinOp} {x y : ByteArray} {r : Value} (h : strBin op x y = some r) (w : World) (ty : TypeId) :
    (binOp op ty (.string x) (.string y)).run P w = .ok r w ∧ plain r = true := by
  cases op <;> simp only [strBin, Option.some.injEq, reduceCtorEq] at h <;> first
    | (subst h; exact ⟨by simp [binOp, Op.stringOp], rfl⟩)
    | (split at h
       · cases h
       · rename_i hb; obtain rfl := Option.some.inj h; exact ⟨by simp only [binOp, Op.stringOp]; rw [if_neg hb]; rfl, rfl⟩)
theorem eqGuard_plain {op : BinOp} {t : TypeId} {x y : Operand} {a b : Value} (ha : plain a = true) (w : World) : (eqGuard op t x y a b).run P w = .ok () w := by
  unfold eqGuard
  split <;> (cases a <;> first | (simp [plain] at ha; done) | simp)
theorem eq_bool {ty : TypeId} (hu : P.underlying ty = some .bool) (x y : Bool) (w : World) : (Op.equal ty (.bool x) (.bool y)).run P w = .ok (x == y) w := by
  show (Op.equalIn (9999 + 1) ty (.bool x) (.bool y)).run P w = _
  rw [Op.equalIn]
  simp only [Sem.run_bind, run_underlying hu, Result.andThen_ok]
  rfl
theorem scBin_ok {op : BinOp} {ty : TypeId} {x y r : Value} (h : scBin P op ty x y = some r) (w : World) : (binOp op ty x y).run P w = .ok r w ∧ plain r = true := by
  unfold scBin at h
  split at h
  · rename_i k a k' b
    split at h
    · split at h
      · cases h
      · rename_i hb
        obtain rfl := Option.some.inj h
        exact ⟨by simp [binOp, Op.shift, hb], rfl⟩
    · split at h
      · cases h
      · rename_i hb
        obtain rfl := Option.some.inj h
        exact ⟨by simp [binOp, Op.shift, hb], rfl⟩
    · split at h
      · rename_i hk
        subst hk
        exact intBin_ok h w ty
      · cases h
  · exact strBin_ok h w ty
  · rename_i x y
    split at h
    · rename_i hu
      obtain rfl := Option.some.inj h
      exact ⟨by show (do pure (Value.bool (← Op.equal ty (.bool x) (.bool y))) : Sem Value).run P w = _; simp only [Sem.run_bind, eq_bool hu, Result.andThen_ok]; rfl, rfl⟩
    · rename_i hu
      obtain rfl := Option.some.inj h
      exact ⟨by show (do pure (Value.bool (!(← Op.equal ty (.bool x) (.bool y)))) : Sem Value).run P w = _; simp only [Sem.run_bind, eq_bool hu, Result.andThen_ok]; rfl, rfl⟩
    · cases h
  · cases h
theorem scUn_ok {op : UnOp} {x r : Value} (h : scUn op x = some r) (w : World) : (Op.unary op x).run P w = .ok r w ∧ plain r = true := by
  unfold scUn at h
  split at h
  · split at h
    · obtain rfl := Option.some.inj h; exact ⟨rfl, rfl⟩
    · cases h
  · split at h
    · obtain rfl := Option.some.inj h; exact ⟨by simp [Op.unary, Op.intArith], rfl⟩
    · cases h
  · cases h
end
end Go.Proofs.Ytjjdjkkhhcbogaa.DM
