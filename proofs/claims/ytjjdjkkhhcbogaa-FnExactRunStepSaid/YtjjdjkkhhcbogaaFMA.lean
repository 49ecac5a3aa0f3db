import Derived.Test.YtjjdjkkhhcbogaaFData
import Derived.Test.YtjjdjkkhhcbogaaD36
/-
  The memory of the program: what reads, what changes, MemoryOk. (IMPL)
-/
namespace Go.Proofs.Ytjjdjkkhhcbogaa.DM
set_option linter.unusedVariables false
set_option linter.unusedSimpArgs false
set_option linter.unnecessarySimpa false
set_option maxRecDepth 4000
def inB (x lo hi : Int) : Bool := decide (lo ≤ x) && decide (x ≤ hi)
@[simp] def rFn (f : Nat) : PA := .one (.r (.fn f []))
theorem within_spec (x lo hi : Int) : Spec Try.prog 89 [ri x, ri lo, ri hi] [none] [db (inB x lo hi)] [ri x, ri lo, ri hi] := by
  refine Spec.intro Try.func89 rfl rfl Try.ntmps89 rfl (by simp) ?_
  refine DW.seq (DW.reg (by simp; rfl) ?_)
  by_cases h1 : lo ≤ x
  · refine DW.seq (DW.reg (by simp [h1]; rfl) ?_)
    refine DW.ret ?_
    simp [h1, inB, Try.results89]
  · refine DW.seq (DW.reg (by simp [h1]; rfl) ?_)
    refine DW.ret ?_
    simp [h1, inB, Try.results89]
theorem isNaN_spec (x : Int) : Spec Try.prog 177 [ri x] [none] [db false] [ri x] := by
  refine Spec.intro Try.func177 rfl rfl Try.ntmps177 rfl (by simp) ?_
  refine DW.seq (DW.reg (by simp; rfl) ?_)
  refine DW.seq (DW.reg (by simp; rfl) ?_)
  refine DW.ret ?_
  simp [Try.results177]
def cmpI (x y : Int) : Int := if x < y then -1 else if y < x then 1 else 0
theorem compare_spec (x y : Int) : Spec Try.prog 152 [ri x, ri y] [none] [di (cmpI x y)] [ri x, ri y] := by
  refine Spec.intro Try.func152 rfl rfl Try.ntmps152 rfl (by simp) ?_
  refine DW.seq (DW.reg (by simp; rfl) ?_)
  refine DW.seq (DW.regs ?_)
  refine RegO.opN 1 (by simp; rfl) ?_
  refine RegO.step rfl (OpStep.callN rfl (by simp [callArgs]; rfl) (isNaN_spec x) (by simp [rosOk, roA_, toRC]) (by simp [widen, ownV, ownC]) (by simp [finish, packDV, packD]; rfl)) ?_
  refine RegO.opN 1 (by simp; rfl) ?_
  refine RegO.nil ?_
  refine DW.seq (DW.regs ?_)
  refine RegO.opN 1 (by simp; rfl) ?_
  refine RegO.step rfl (OpStep.callN rfl (by simp [callArgs]; rfl) (isNaN_spec y) (by simp [rosOk, roA_, toRC]) (by simp [widen, ownV, ownC]) (by simp [finish, packDV, packD]; rfl)) ?_
  refine RegO.opN 1 (by simp; rfl) ?_
  refine RegO.nil ?_
  refine DW.seq (DW.seq (DW.reg (by simp; rfl) ?_))
  refine DW.condF (by simp) (DW.skip ?_)
  refine DW.seq (DW.seq (DW.reg (by simp; rfl) ?_))
  refine DW.condF (by simp) (DW.skip ?_)
  refine DW.seq (DW.seq (DW.reg (by simp; rfl) ?_))
  refine DW.cond (t := decide (x < y)) (by simp) (fun hc => ?_) (fun hc => DW.skip ?_)
  · refine DW.seq (DW.reg (by simp; rfl) ?_)
    refine DW.ret ?_
    have hc : x < y := by simpa using hc
    simp [Try.results152, cmpI, hc]
  · have hc : ¬ x < y := by simpa using hc
    refine DW.seq (DW.seq (DW.reg (by simp; rfl) ?_))
    refine DW.cond (t := decide (y < x)) (by simp) (fun hd => ?_) (fun hd => DW.skip ?_)
    · refine DW.seq (DW.reg (by simp; rfl) ?_)
      refine DW.ret ?_
      have hd : y < x := by simpa using hd
      simp [Try.results152, cmpI, hc, hd]
    · refine DW.seq (DW.reg (by simp; rfl) ?_)
      refine DW.ret ?_
      have hd : ¬ y < x := by simpa using hd
      simp [Try.results152, cmpI, hc, hd]
theorem findCell1_spec (c : Cell) (line : Int) : Spec Try.prog 151 [raCell c, ri line] [none] [di (cmpI c.Line line)] [raCell c, ri line] := by
  refine Spec.intro Try.func151 rfl rfl Try.ntmps151 rfl (by simp) ?_
  refine DW.seq (DW.reg (by simp; rfl) ?_)
  refine DW.seq (DW.regs ?_)
  refine RegO.opN 3 (by simp; rfl) ?_
  refine RegO.step rfl (OpStep.callN rfl (by simp [callArgs]; rfl) (compare_spec c.Line line) (by simp [rosOk, roA_, toRC]) (by simp [widen, ownV, ownC]) (by simp [finish, packDV, packD]; rfl)) ?_
  refine RegO.opN 1 (by simp; rfl) ?_
  refine RegO.nil ?_
  refine DW.ret ?_
  simp [Try.results151]
/-- Binary search. -/
def bs (p : Nat → Bool) (i j : Nat) : Nat := if h : i < j then (if p ((i + j) / 2) then bs p ((i + j) / 2 + 1) j else bs p i ((i + j) / 2)) else i
termination_by j - i
decreasing_by all_goals omega
theorem bs_le {p : Nat → Bool} (i j : Nat) (h : i ≤ j) : i ≤ bs p i j ∧ bs p i j ≤ j := by
  rw [bs]
  split
  · split
    · have := bs_le (p := p) ((i + j) / 2 + 1) j (by omega); omega
    · have := bs_le (p := p) i ((i + j) / 2) (by omega); omega
  · omega
termination_by j - i
decreasing_by all_goals omega
/-- Is the line of a cell before a line? -/
def lineLt (l : List Cell) (line : Int) (i : Nat) : Bool := match l[i]? with
  | some c => decide (cmpI c.Line line < 0)
  | none => false
def foundAt (l : List Cell) (line : Int) (i : Nat) : Bool := match l[i]? with
  | some c => cmpI c.Line line == 0
  | none => false
theorem shr1 (i j m : Nat) (h : i + j < 2 ^ 60) (hm : (i + j) / 2 = m) : ((IntKind.u64.wrap ((i : Int) + j)).fdiv (2 ^ min 1 IntKind.u64.bits)) = (m : Int) := by
  have : IntKind.u64.wrap ((i : Int) + j) = (i : Int) + j := by
    have h1 : ((i : Int) + j) % 18446744073709551616 = (i : Int) + j := by omega
    simp [IntKind.wrap, IntKind.bits, IntKind.signed, h1]
  have h2 : (2 : Int) ^ min 1 IntKind.u64.bits = 2 := rfl
  rw [this, h2, Int.fdiv_eq_ediv_of_nonneg _ (by omega)]; omega
theorem bsf_spec (l : List Cell) (line : Int) (hl : l.length < 2 ^ 40) : Spec Try.prog 150 [ra l, ri line, rFn 151] [none, none]
    [di (bs (lineLt l line) 0 l.length), db (foundAt l line (bs (lineLt l line) 0 l.length))] [ra l, ri line, rFn 151] := by
  refine Spec.intro Try.func150 rfl rfl Try.ntmps150 rfl (by simp) ?_
  refine DW.seq (DW.reg (by simp; rfl) ?_)
  refine DW.seq (DW.reg (by simp; rfl) ?_)
  refine DW.seq (DW.reg (by simp; rfl) ?_)
  refine DW.seq (DW.block ?_)
  refine DW.loopG (fun n s => ∃ i j : Nat, n = j - i ∧ i ≤ j ∧ j ≤ l.length ∧ bs (lineLt l line) i j = bs (lineLt l line) 0 l.length ∧ s.e 0 = .v (.one (.t (.sl l.length (rR l)))) ∧ s.e 1 = .v (.one (.t (.sc (.int .i64 line)))) ∧ s.e 2 = .v (.one (.t (.fn 151 []))) ∧
    s.e 8 = .v (.one (.t (.sc (.int .i64 l.length)))) ∧ s.e 9 = .v (.one (.t (.sc (.int .i64 i)))) ∧ s.e 10 = .v (.one (.t (.sc (.int .i64 j))))) (n0 := l.length) ⟨0, l.length, by simp [rFn]⟩ ?_
  rintro n s ⟨i, j, rfl, hij, hj, hbs, h0, h1, h2, h8, h9, h10⟩
  refine DW.seq (DW.seq (DW.reg (by simp [h9, h10]; rfl) ?_))
  refine DW.cond (t := decide ((i : Int) < j)) (by simp) (fun hc => ?_) (fun hc => ?_)
  · have hlt : i < j := by simpa using hc
    have hm : (i + j) / 2 < l.length := by omega
    have w1 : IntKind.i64.wrap ((i : Int) + j) = (i : Int) + j := wr _ (by omega) (by omega)
    have hd := rR_drop_Cell l _ hm
    have hcm : l[(i + j) / 2]? = some l[(i + j) / 2] := List.getElem?_eq_getElem hm
    generalize hM : (i + j) / 2 = m at *
    have w2 := shr1 i j m (by omega) hM
    have w3 : IntKind.i64.wrap (m : Int) = (m : Int) := wr _ (by omega) (by omega)
    have w4 : IntKind.i64.wrap ((m : Int) + 1) = (m : Int) + 1 := wr _ (by omega) (by omega)
    generalize l[m] = c at hd hcm
    have hm0 : (0 : Int) ≤ (m : Int) := by omega
    have hml : (m : Int) < l.length := by omega
    refine DW.skip ?_
    refine DW.block ?_
    have hp : lineLt l line m = decide (cmpI c.Line line < 0) := by simp [lineLt, hcm]
    rw [bs, dif_pos hlt, hM, hp] at hbs
    refine DW.seq (DW.reg (by simp [h9, h10, w1, w2, w3]; rfl) ?_)
    refine DW.seq (DW.regs ?_)
    refine RegO.opN 6 (by simp [h0, h1, h2, hm0, hml, hd]; rfl) ?_
    refine RegO.step rfl (OpStep.callN rfl (by simp [callArgs]; rfl) (findCell1_spec c line) (by simp [rosOk, roA_, toRC]) (by simp [widen, ownV, ownC]) (by simp [finish, packDV, packD]; rfl)) ?_
    refine RegO.opN 1 (by simp; rfl) ?_
    refine RegO.nil ?_
    refine DW.cond (t := decide (cmpI c.Line line < 0)) (by simp) (fun hc => ?_) (fun hc => ?_)
    · refine DW.reg (by simp [w4]; rfl) ?_
      exact ⟨_, j - (m + 1), Ghost.refl, by omega, m + 1, j, rfl, by omega, hj, by rw [← hbs, if_pos hc], by simp [h0], by simp [h1], by simp [h2], by simp [h8], by simp, by simp [h10]⟩
    · refine DW.reg (by simp; rfl) ?_
      exact ⟨_, m - i, Ghost.refl, by omega, i, m, rfl, by omega, by omega, by rw [← hbs, if_neg (by simpa using hc)], by simp [h0], by simp [h1], by simp [h2], by simp [h8], by simp [h9], by simp⟩
  · have hij' : i = j := by
      have : ¬ i < j := by simpa using hc
      omega
    subst hij'
    rw [bs, dif_neg (Nat.lt_irrefl _)] at hbs
    refine DW.exit ?_
    by_cases hlt : i < l.length
    · have hd := rR_drop_Cell l _ hlt
      have hcm : l[i]? = some l[i] := List.getElem?_eq_getElem hlt
      generalize l[i] = c at hd hcm
      have hml : (i : Int) < l.length := by omega
      have hf : foundAt l line i = (cmpI c.Line line == 0) := by simp [foundAt, hcm]
      refine DW.seq (DW.regs ?_)
      refine RegO.opN 11 (by simp [h0, h1, h2, h8, h9, hml, hd]; rfl) ?_
      refine RegO.guard (b := true) (by simp) (fun _ => ⟨_, (OpStep.callN rfl (by simp [callArgs]; rfl) (findCell1_spec c line) (by simp [rosOk, roA_, toRC]) (by simp [widen, ownV, ownC]) (by simp [finish, packDV, packD]; rfl)).toE, fun _ e => e ▸ ?_⟩) (fun h => by cases h)
      refine RegO.opN 4 (by simp; rfl) ?_
      refine RegO.nil ?_
      refine DW.ret ?_
      simp [Try.results150, ← hbs, hf]
    · have hf : foundAt l line i = false := by
        have : l[i]? = none := List.getElem?_eq_none (by omega)
        simp [foundAt, this]
      have hml : ¬ (i : Int) < l.length := by omega
      refine DW.seq (DW.regs ?_)
      refine RegO.opN 11 (by simp [h0, h1, h2, h8, h9, hml]; rfl) ?_
      refine RegO.guard (b := false) (by simp) (fun h => by cases h) (fun _ => ⟨by simp, ?_⟩)
      refine RegO.opN 4 (by simp; rfl) ?_
      refine RegO.nil ?_
      refine DW.ret ?_
      simp [Try.results150, ← hbs, hf]
/-- Where a line's cell is, or would be. -/
def ixOf (l : List Cell) (line : Int) : Nat := bs (lineLt l line) 0 l.length
theorem ixOf_le (l : List Cell) (line : Int) : ixOf l line ≤ l.length := (bs_le 0 l.length (Nat.zero_le _)).2
def hasL (l : List Cell) (line : Int) : Bool := foundAt l line (ixOf l line)
theorem findCell_spec (k : ByteArray) (l : List Cell) (line : Int) (hl : l.length < 2 ^ 40) : Spec Try.prog 130 [raMemory ⟨k, l⟩, ri line] [none, none] [di (ixOf l line), db (hasL l line)] [raMemory ⟨k, l⟩, ri line] := by
  refine Spec.intro Try.func130 rfl rfl Try.ntmps130 rfl (by simp) ?_
  refine DW.seq (DW.reg (by simp; rfl) ?_)
  refine DW.seq (DW.regs ?_)
  refine RegO.opN 3 (by simp; rfl) ?_
  refine RegO.step rfl (OpStep.callN rfl (by simp [callArgs]; rfl) (bsf_spec l line hl) (by simp [rosOk, roA_, toRC, mapO, toRTs]) (by simp [widen, ownV, ownC]) (by simp [finish, packDV, packD]; rfl)) ?_
  refine RegO.opN 4 (by simp; rfl) ?_
  refine RegO.nil ?_
  refine DW.ret ?_
  simp [Try.results130, hasL, ixOf]
theorem hasL_lt {l : List Cell} {line : Int} (h : hasL l line = true) : ixOf l line < l.length := by
  unfold hasL foundAt at h
  split at h
  · rename_i c hc; exact (List.getElem?_eq_some_iff.1 hc).1
  · cases h
/-- The contents of a line. -/
def lineAt (k : ByteArray) (l : List Cell) (line : Int) : ByteArray := if hasL l line then (match l[ixOf l line]? with | some c => c.Text | none => ByteArray.empty) else k.extract (line * 16).toNat ((line + 1) * 16).toNat
theorem line_spec (k : ByteArray) (l : List Cell) (line : Int) (hl : l.length < 2 ^ 40) (h0 : 0 ≤ line) (h1 : (line + 1) * 16 ≤ k.size) (hk : k.size < 2 ^ 40) : Spec Try.prog 129 [raMemory ⟨k, l⟩, ri line] [none] [ds (lineAt k l line)] [raMemory ⟨k, l⟩, ri line] := by
  refine Spec.intro Try.func129 rfl rfl Try.ntmps129 rfl (by simp) ?_
  refine DW.seq (DW.reg (by simp; rfl) ?_)
  refine DW.seq (DW.seq (DW.regs ?_))
  refine RegO.opN 2 (by simp; rfl) ?_
  refine RegO.step rfl (OpStep.callN rfl (by simp [callArgs]; rfl) (findCell_spec k l line hl) (by simp [rosOk, roA_, toRC, mapO]) (by simp [widen, ownV, ownC]) (by simp [finish, packDV, packD]; rfl)) ?_
  refine RegO.opN 5 (by simp; rfl) ?_
  refine RegO.nil ?_
  refine DW.seq (DW.reg (by simp; rfl) ?_)
  refine DW.cond (t := hasL l line) (by simp) (fun hc => ?_) (fun hc => DW.skip ?_)
  · have hi := hasL_lt hc
    have hd := rR_drop_Cell l _ hi
    have hcm : l[ixOf l line]? = some l[ixOf l line] := List.getElem?_eq_getElem hi
    generalize l[ixOf l line] = c at hd hcm
    have hml : (ixOf l line : Int) < l.length := by omega
    refine DW.seq (DW.reg (by simp [hml, hd]; rfl) ?_)
    refine DW.ret ?_
    simp [Try.results129, lineAt, hc, hcm]
  · have w1 : IntKind.i64.wrap (line * 16) = line * 16 := wr _ (by omega) (by omega)
    have w2 : IntKind.i64.wrap (line + 1) = line + 1 := wr _ (by omega) (by omega)
    have w3 : IntKind.i64.wrap ((line + 1) * 16) = (line + 1) * 16 := wr _ (by omega) (by omega)
    have c1 : 0 ≤ (line + 1) * 16 := by omega
    have c2 : 0 ≤ line * 16 := by omega
    have c3 : line ≤ line + 1 := by omega
    refine DW.seq (DW.reg (by simp [w1, w2, w3, h1, c1, c2, c3]; rfl) ?_)
    refine DW.ret ?_
    simp [Try.results129, lineAt, hc]
theorem words_spec (k : ByteArray) (l : List Cell) (hk : k.size < 2 ^ 40) : Spec Try.prog 124 [raMemory ⟨k, l⟩] [none] [di (k.size / 8 : Nat)] [raMemory ⟨k, l⟩] := by
  refine Spec.intro Try.func124 rfl rfl Try.ntmps124 rfl (by simp) ?_
  have w1 : IntKind.i64.wrap ((k.size : Int) / 8) = (k.size : Int) / 8 := wr _ (by omega) (by omega)
  refine DW.seq (DW.reg (by simp; rfl) ?_)
  refine DW.seq (DW.reg (by simp [w1]; rfl) ?_)
  refine DW.ret ?_
  simp [Try.results124]
/-- Is the cell at a place in order? -/
def okAt (k : ByteArray) (l : List Cell) (i : Nat) : Bool := match l[i]? with
  | none => true
  | some c => inB c.Line 0 ((k.size : Int) / 16 - 1) && c.Text.size == 16 && !(decide (0 < i) && match l[i - 1]? with | some p => decide (c.Line ≤ p.Line) | none => false)
def memOk (k : ByteArray) (l : List Cell) : Bool := (List.range l.length).all (okAt k l) && k.size % 16 == 0 && decide (k.size ≤ 16000)
theorem memOk_bad {k : ByteArray} {l : List Cell} {i : Nat} (hi : i < l.length) (h : okAt k l i = false) : memOk k l = false := by
  have : (List.range l.length).all (okAt k l) = false := by
    rw [List.all_eq_false]
    exact ⟨i, List.mem_range.2 hi, by simp [h]⟩
  simp [memOk, this]
theorem memOk_spec (k : ByteArray) (l : List Cell) (hk : k.size < 2 ^ 40) (hl : l.length < 2 ^ 40) : Spec Try.prog 36 [raMemory ⟨k, l⟩] [none] [.sc (.bool (memOk k l))] [raMemory ⟨k, l⟩] := by
  refine Spec.intro Try.func36 rfl rfl Try.ntmps36 rfl (by simp) ?_
  refine DW.seq (DW.reg (by simp; rfl) ?_)
  refine DW.seq (DW.seq (DW.reg (by simp; rfl) ?_))
  refine DW.block (DW.loopG (fun n s => ∃ i : Nat, n = l.length - i ∧ i ≤ l.length ∧ s.e 8 = .v (.one (.t (.sc (.int .i64 i)))) ∧ s.e 6 = .v (.one (.t (.sl l.length (rR l)))) ∧ s.e 7 = .v (.one (.t (.sc (.int .i64 l.length)))) ∧
    s.e 1 = .v (.one (.pt 1 [] 0)) ∧ s.h 1 = some (.ow () 2 1 [.sc (.string k), .ro () (.sl l.length (rR l))]) ∧ s.h 4 = none ∧ (List.range i).all (okAt k l) = true) (n0 := l.length) ⟨0, by simp⟩ ?_)
  rintro n s ⟨i, rfl, hi, h8, h6, h7, h1, hh1, hh4, hall⟩
  refine DW.seq (DW.reg (by simp [h8, h7]; rfl) ?_)
  refine DW.seq (DW.cond (t := decide ((i : Int) < l.length)) (by simp) (fun ht => DW.skip ?_) (fun ht => DW.exit ?_))
  · have hlt : i < l.length := by simpa using ht
    have hlt' : (i : Int) < l.length := by omega
    have hd := rR_drop_Cell l i hlt
    have hci : l[i]? = some l[i] := List.getElem?_eq_getElem hlt
    have w1 : IntKind.i64.wrap ((k.size : Int) / 16) = (k.size : Int) / 16 := wr _ (by omega) (by omega)
    have w2 : IntKind.i64.wrap ((k.size : Int) / 16 - 1) = (k.size : Int) / 16 - 1 := wr _ (by omega) (by omega)
    have w3 : IntKind.i64.wrap ((i : Int) + 1) = ((i + 1 : Nat) : Int) := (wr _ (by omega) (by omega)).trans (by omega)
    refine DW.seq ?_
    refine DW.block ?_
    refine DW.seq (DW.reg (by simp [h8, h6, hlt', hd, hh4]; rfl) ?_)
    generalize hc : l[i] = c at hd hci
    -- a cell that is not in order
    have bad : ∀ (s1 : FS) (Q : Exit → FS → Prop), okAt k l i = false → s1.e 43 = .v (.one (.t (.sc (.bool true)))) → (∀ s2, s2.e 2 = .v (.one (.t (.sc (.bool false)))) → Q .ret s2) → DW Try.prog 56 (.cond (.tmp 43) (.seq (.region 5 #[{ dst := some 2, op := .assign (.const (.bool false)), type := 4, pos := "l10_memory.go:38", after := #[], guard := none }] false) .ret) .skip) s1 Q := fun s1 Q hb h43 hQ => by
      refine DW.cond (t := true) (by simp [h43]) (fun _ => ?_) (fun h => by cases h)
      refine DW.seq (DW.reg (by simp; rfl) ?_)
      exact DW.ret (hQ _ (by simp))
    have fin : okAt k l i = false → ∀ s2 : FS, s2.e 2 = .v (.one (.t (.sc (.bool false)))) → Ends Try.prog Try.f36.results.toList s2 [raMemory ⟨k, l⟩] [none] [.sc (.bool (memOk k l))] [raMemory ⟨k, l⟩] := fun hb s2 h2 => by
      rw [memOk_bad hlt hb]
      simp [Try.results36, h2]
    cases hA : inB c.Line 0 ((k.size : Int) / 16 - 1) with
    | false =>
      have hbad : okAt k l i = false := by simp [okAt, hci, hA]
      refine DW.seq (DW.drawn mixed (by kernel_rfl) ?_)
      refine RegD.addN 7 (by simp [h1, hh1, w1, w2]; exact ⟨rfl, rfl⟩) ?_
      refine RegD.cert (Cert.callN rfl (by simp) rfl (by decide) (by simp; rfl) (within_spec c.Line 0 ((k.size : Int) / 16 - 1)) (by simp [rosOk, roA_, toRC]) rfl (by simp [widen, ownV, ownC]) (by simp; rfl) rfl) ?_
      refine RegD.addN 23 (by simp [h1, hA, packDV, packD]; exact ⟨rfl, rfl⟩) ?_
      refine ⟨by kernel_rfl, bad _ _ hbad (by simp) fun s2 h2 => fin hbad s2 h2⟩
    | true =>
      have pre : ∀ (Q : Exit → FS → Prop), True := fun _ => trivial
      by_cases hB : c.Text.size = 16
      · by_cases hC : 0 < i
        · have hp : i - 1 < l.length := by omega
          have hdp := rR_drop_Cell l (i - 1) hp
          have hpi : l[i - 1]? = some l[i - 1] := List.getElem?_eq_getElem hp
          generalize l[i - 1] = p at hdp hpi
          have w4 : IntKind.i64.wrap ((i : Int) - 1) = ((i - 1 : Nat) : Int) := (wr _ (by omega) (by omega)).trans (by omega)
          have h0p : (0 : Int) ≤ ((i - 1 : Nat) : Int) := by omega
          have hlp : ((i - 1 : Nat) : Int) < l.length := by omega
          refine DW.seq (DW.drawn mixed (by kernel_rfl) ?_)
          refine RegD.addN 7 (by simp [h1, hh1, w1, w2]; exact ⟨rfl, rfl⟩) ?_
          refine RegD.cert (Cert.callN rfl (by simp) rfl (by decide) (by simp; rfl) (within_spec c.Line 0 ((k.size : Int) / 16 - 1)) (by simp [rosOk, roA_, toRC]) rfl (by simp [widen, ownV, ownC]) (by simp; rfl) rfl) ?_
          refine RegD.addN 23 (by simp [h1, hh1, hA, hB, hC, w4, h0p, hlp, hdp, packDV, packD]; exact ⟨rfl, rfl⟩) ?_
          refine ⟨by kernel_rfl, ?_⟩
          cases hD : decide (c.Line ≤ p.Line) with
          | true =>
            have hbad : okAt k l i = false := by simp [okAt, hci, hA, hB, hC, hpi]; simpa using hD
            exact bad _ _ hbad (by simpa using hD) fun s2 h2 => fin hbad s2 h2
          | false =>
            have hok : okAt k l i = true := by simp [okAt, hci, hA, hB, hC, hpi]; simpa using hD
            refine DW.cond (t := false) (by simp [hD]) (fun h => by cases h) (fun _ => DW.skip ?_)
            refine DW.reg (by simp [h8, w3]; rfl) ?_
            exact ⟨_, l.length - (i + 1), Ghost.free 4, by omega, i + 1, rfl, by omega, by simp [FS.free], by simp [FS.free, h6], by simp [FS.free, h7], by simp [FS.free, h1], by simp [FS.free, hh1], by simp [FS.free], by rw [List.range_succ, List.all_append, hall]; simp [hok]⟩
        · have hi0 : i = 0 := by omega
          have hok : okAt k l i = true := by simp [okAt, hci, hA, hB, hC]
          refine DW.seq (DW.drawn mixed (by kernel_rfl) ?_)
          refine RegD.addN 7 (by simp [h1, hh1, w1, w2]; exact ⟨rfl, rfl⟩) ?_
          refine RegD.cert (Cert.callN rfl (by simp) rfl (by decide) (by simp; rfl) (within_spec c.Line 0 ((k.size : Int) / 16 - 1)) (by simp [rosOk, roA_, toRC]) rfl (by simp [widen, ownV, ownC]) (by simp; rfl) rfl) ?_
          refine RegD.addN 23 (by simp [h1, hh1, hA, hB, hC, packDV, packD]; exact ⟨rfl, rfl⟩) ?_
          refine ⟨by kernel_rfl, ?_⟩
          refine DW.cond (t := false) (by simp) (fun h => by cases h) (fun _ => DW.skip ?_)
          refine DW.reg (by simp [h8, w3]; rfl) ?_
          exact ⟨_, l.length - (i + 1), Ghost.free 4, by omega, i + 1, rfl, by omega, by simp [FS.free], by simp [FS.free, h6], by simp [FS.free, h7], by simp [FS.free, h1], by simp [FS.free, hh1], by simp [FS.free], by rw [List.range_succ, List.all_append, hall]; simp [hok]⟩
      · have hB' : ((c.Text.size : Int) != 16) = true := by simp; omega
        have hbad : okAt k l i = false := by simp [okAt, hci, hA, hB]
        refine DW.seq (DW.drawn mixed (by kernel_rfl) ?_)
        refine RegD.addN 7 (by simp [h1, hh1, w1, w2]; exact ⟨rfl, rfl⟩) ?_
        refine RegD.cert (Cert.callN rfl (by simp) rfl (by decide) (by simp; rfl) (within_spec c.Line 0 ((k.size : Int) / 16 - 1)) (by simp [rosOk, roA_, toRC]) rfl (by simp [widen, ownV, ownC]) (by simp; rfl) rfl) ?_
        refine RegD.addN 23 (by simp [h1, hA, hB', packDV, packD]; exact ⟨rfl, rfl⟩) ?_
        refine ⟨by kernel_rfl, bad _ _ hbad (by simp) fun s2 h2 => fin hbad s2 h2⟩
  · have hil : i = l.length := by
      have : ¬ i < l.length := by simpa using ht
      omega
    subst hil
    have hmm : (k.size : Int).tmod 16 = ((k.size % 16 : Nat) : Int) := by rw [Int.tmod_eq_emod_of_nonneg (by omega)]; omega
    by_cases hm : k.size % 16 = 0
    · refine DW.seq (DW.reg (by simp [h1, hh1, hmm, hm]; rfl) ?_)
      refine DW.ret ?_
      simp [Try.results36, memOk, hall, hm]
      omega
    · have hm2 : (((k.size : Int).tmod 16) == 0) = false := by rw [hmm]; simp; omega
      refine DW.seq (DW.reg (by simp [h1, hh1, hm2]; rfl) ?_)
      refine DW.ret ?_
      simp [Try.results36, memOk, hall, hm, hmm]
theorem clone_spec (l : List Cell) (hl : l.length < 2 ^ 40) : Spec Try.prog 123 [ra l] [none] [dr l] [ra l] := by
  refine Spec.intro Try.func123 rfl rfl Try.ntmps123 rfl (by simp) ?_
  refine DW.seq (DW.reg (by simp; rfl) ?_)
  refine DW.seq (DW.seq (DW.regs ?_))
  refine RegO.opN 1 (by simp; rfl) ?_
  refine RegO.stepE rfl (OpStepE.eqNil (n := l.length) rfl rfl (by decide) Try.underlying29 (by simp [rowLen])) ?_
  rintro s1 ⟨b, hb, rfl⟩
  refine RegO.nil ?_
  have c1 : l.length * 32 ≤ 140737488355328 := by omega
  have c2 : l.length ≤ 140737488355328 := by omega
  refine DW.cond (t := b) (by simp) (fun hc => ?_) (fun hc => DW.skip ?_)
  · have hl0 : l = [] := List.length_eq_zero_iff.1 (hb hc)
    subst hl0
    refine DW.seq (DW.reg (by simp; rfl) ?_)
    refine DW.ghost (Ghost.nlRow 2 1000 3 (by simp) (by simp)) ?_
    refine DW.ret ?_
    simp [Try.results123]
  · refine DW.seq (DW.reg (by simp [rR_len_Cell, c1, c2, rR_ro_Cell]; rfl) ?_)
    refine DW.ret ?_
    simp [Try.results123, rD_len_Cell]
@[simp] def dMem (k : ByteArray) (l : List Cell) : List D := [.sc (.string k), .ow () 3 l.length (rD l)]
theorem copyMemory_spec (k : ByteArray) (l : List Cell) (hl : l.length < 2 ^ 40) : Spec Try.prog 72 [raMemory ⟨k, l⟩] [some 2] (dMem k l) [raMemory ⟨k, l⟩] := by
  refine Spec.intro Try.func72 rfl rfl Try.ntmps72 rfl (by simp) ?_
  refine DW.seq (DW.reg (by simp; rfl) ?_)
  refine DW.seq (DW.drawn mixed (by kernel_rfl) ?_)
  refine RegD.addN 4 (by simp; exact ⟨rfl, rfl⟩) ?_
  refine RegD.cert (Cert.callH rfl (by simp) rfl (by decide) (by simp [callArgs]; rfl) (clone_spec l hl) (by simp [rosOk, roA_, toRC]) rfl (by simp [widen, ownV, ownC]) (by simp) (by simp; rfl) rfl) ?_
  refine RegD.addN 1 (by simp [packDV, packD]; exact ⟨rfl, rfl⟩) ?_
  refine RegD.heavyF (by simp) (by simp [rD_len_Cell]; rfl) ?_
  refine RegD.nil ⟨by kernel_rfl, ?_⟩
  refine DW.ret ?_
  simp [Try.results72, rD_len_Cell]
theorem cD_split (l : List Cell) (i : Nat) (h : i < l.length) : rD l = rD (l.take i) ++ (Cell.d l[i] ++ rD (l.drop (i + 1))) := by
  have := rD_dropc l i h
  show rD l = rD (l.take i) ++ (Row.d l[i] ++ rD (l.drop (i + 1)))
  rw [← this, ← rD_append, List.take_append_drop]
theorem cD_at (l : List Cell) (i j : Nat) (h : i < l.length) (hj : j < 3) : (rD l)[i * 3 + j]? = (Cell.d l[i])[j]? := by
  have hl : (rD (l.take i)).length = i * 3 := by rw [rD_len_Cell, List.length_take, Nat.min_eq_left (by omega)]
  rw [cD_split l i h, List.getElem?_append_right (by omega), hl, Nat.add_sub_cancel_left, List.getElem?_append_left (by simpa using hj)]
theorem cD_set (l : List Cell) (i j : Nat) (h : i < l.length) (hj : j < 3) (c : Cell) (v : D) (hv : Cell.d c = (Cell.d l[i]).set j v) : (rD l).set (i * 3 + j) v = rD (l.set i c) := by
  have hl : (rD (l.take i)).length = i * 3 := by rw [rD_len_Cell, List.length_take, Nat.min_eq_left (by omega)]
  have h2 : i < (l.set i c).length := by rw [List.length_set]; exact h
  rw [cD_split l i h, cD_split (l.set i c) i h2, List.set_append_right _ _ (by omega), hl, Nat.add_sub_cancel_left, List.set_append_left _ _ (by simpa using hj), ← hv]
  simp [List.take_set_of_le, List.drop_set_of_lt]
def Cell.flush (c : Cell) : Cell := { c with Flushed := true }
def flushL (l : List Cell) (line : Int) : List Cell := if hasL l line then (match l[ixOf l line]? with | some c => l.set (ixOf l line) c.flush | none => l) else l
theorem flush_spec (k : ByteArray) (l : List Cell) (line : Int) (hl : l.length < 2 ^ 40) : Spec Try.prog 92 [.ptr (dMem k l), ri line] [] [] [.ptr (dMem k (flushL l line)), ri line] := by
  refine Spec.intro Try.func92 rfl rfl Try.ntmps92 rfl (by simp) ?_
  refine DW.seq (DW.regs ?_)
  refine RegO.opN 4 (by simp; rfl) ?_
  refine RegO.step rfl (OpStep.callN rfl (by simp [callArgs]; rfl) (findCell_spec k l line hl) (by simp [rosOk, roA_, toRC, mapO, rD_len_Cell, rD_rt]) (by simp [noRoL, noRo]) (by simp [finish, packDV, packD]; rfl)) ?_
  refine RegO.opN 5 (by simp; rfl) ?_
  refine RegO.nil ?_
  refine DW.seq (DW.reg (by simp; rfl) ?_)
  refine DW.cond (t := hasL l line) (by simp) (fun hc => ?_) (fun hc => DW.skip ?_)
  · have hi := hasL_lt hc
    have hcm : l[ixOf l line]? = some l[ixOf l line] := List.getElem?_eq_getElem hi
    have hml : (ixOf l line : Int) < l.length := by omega
    have ha := cD_at l _ 2 hi (by omega)
    have hs := cD_set l _ 2 hi (by omega) (Cell.flush l[ixOf l line]) (.sc (.bool true)) rfl
    simp only [Cell.d, List.getElem?_cons_succ, List.getElem?_cons_zero] at ha
    refine DW.reg (by simp [hml, ha, hs]; rfl) ?_
    simp [flushL, hc, hcm, Try.results92]
  · simp [flushL, hc, Try.results92]
theorem fence1_spec (i : Int) (c : Cell) : Spec Try.prog 135 [ri i, raCell c] [none] [db c.Flushed] [ri i, raCell c] := by
  refine Spec.intro Try.func135 rfl rfl Try.ntmps135 rfl (by simp) ?_
  refine DW.seq (DW.reg (by simp; rfl) ?_)
  refine DW.seq (DW.reg (by simp; rfl) ?_)
  refine DW.ret ?_
  simp [Try.results135]
/-- A cell's text over the bytes. -/
def ovl (kb : List UInt8) (c : Cell) : List UInt8 := kb.take (c.Line * 16).toNat ++ (c.Text.data.toList ++ kb.drop ((c.Line * 16).toNat + c.Text.size))
def keptB (l : List Cell) (kb : List UInt8) : List UInt8 := l.foldl (fun kb c => if c.Flushed then ovl kb c else kb) kb
def leftC (l : List Cell) : List Cell := l.filter fun c => !c.Flushed
/-- A cell that lies within the bytes. -/
def fitsC (n : Nat) (c : Cell) : Prop := 0 ≤ c.Line ∧ (c.Line + 1) * 16 ≤ n ∧ c.Text.size = 16
theorem ovl_len {kb : List UInt8} {c : Cell} (h : fitsC kb.length c) : (ovl kb c).length = kb.length := by
  obtain ⟨h1, h2, h3⟩ := h
  have : c.Text.data.toList.length = c.Text.size := Array.length_toList
  simp only [ovl, List.length_append, List.length_take, List.length_drop, this]
  omega
theorem keptB_len : ∀ (l : List Cell) (kb : List UInt8), (∀ c ∈ l, fitsC kb.length c) → (keptB l kb).length = kb.length
  | [], kb, _ => rfl
  | c :: l, kb, h => by
    have h1 := ovl_len (h c List.mem_cons_self)
    simp only [keptB, List.foldl_cons]
    split
    · exact (keptB_len l _ (fun c' hc' => by rw [h1]; exact h c' (List.mem_cons_of_mem _ hc'))).trans h1
    · exact keptB_len l kb fun c' hc' => h c' (List.mem_cons_of_mem _ hc')
theorem keep_spec (k : ByteArray) (l : List Cell) (hl : l.length < 2 ^ 40) (hk : k.size < 2 ^ 40) (hf : ∀ c ∈ l, fitsC k.size c) : Spec Try.prog 134 [.ptr (dMem k l), rFn 135, rb true] [] [] [.ptr (dMem ⟨(keptB l k.data.toList).toArray⟩ (leftC l)), rFn 135, rb true] := by
  refine Spec.intro Try.func134 rfl rfl Try.ntmps134 rfl (by simp) ?_
  have hkl : k.data.toList.length = k.size := Array.length_toList
  refine DW.seq (DW.regs ?_)
  refine RegO.opN 4 (by simp; rfl) ?_
  refine RegO.step rfl (OpStep.strBytes (b := k) rfl rfl (by decide) (by simp; rfl) (by simp; rfl) (by simp) (by simp) (by omega) (by simp)) ?_
  refine RegO.opN 1 (by simp; rfl) ?_
  refine RegO.nil ?_
  refine DW.seq (DW.reg (by simp; rfl) ?_)
  refine DW.seq (DW.seq (DW.reg (by simp; rfl) ?_))
  refine DW.ghost (Ghost.nlRow 7 42 3 (by simp) (by simp)) ?_
  refine DW.block ?_
  refine DW.loopG (fun n s => ∃ i : Nat, n = l.length - i ∧ i ≤ l.length ∧ s.e 0 = .v (.one (.pt 0 [] 0)) ∧ s.e 1 = .v (.one (.t (.fn 135 []))) ∧ s.e 2 = .v (.one (.t (.sc (.bool true)))) ∧ s.e 6 = .v (.one (.sl 14 [] 0 k.size)) ∧ s.e 7 = .v (.one (.sl 42 [] 0 (leftC (l.take i)).length)) ∧
    s.e 19 = .v (.one (.sl 0 [1] 0 l.length)) ∧ s.e 20 = .v (.one (.t (.sc (.int .i64 l.length)))) ∧ s.e 21 = .v (.one (.t (.sc (.int .i64 i)))) ∧ s.h 0 = some (.ow () 2 1 (dMem k l)) ∧ s.h 14 = some (.ow () 1 k.size ((keptB (l.take i) k.data.toList).map byteD)) ∧
    s.h 42 = some (.ow () 3 (leftC (l.take i)).length (rD (leftC (l.take i)))) ∧ s.h 9 = none ∧ s.h 41 = none ∧ s.g 0 = .pt 0 [] 0) (n0 := l.length) ⟨0, by simp [leftC, keptB, bytesD, rFn]⟩ ?_
  rintro n s ⟨i, rfl, hi, h0, h1, h2, h6, h7, h19, h20, h21, hh0, hh14, hh42, hh9, hh41, hg0⟩
  refine DW.seq (DW.reg (by simp [h21, h20]; rfl) ?_)
  refine DW.seq (DW.cond (t := decide ((i : Int) < l.length)) (by simp) (fun ht => DW.skip ?_) (fun ht => DW.exit ?_))
  · have hlt : i < l.length := by simpa using ht
    have hlt' : (i : Int) < l.length := by omega
    have hd := rD_drop_Cell l i hlt
    have hfc := hf l[i] (List.getElem_mem hlt)
    have htk : l.take (i + 1) = l.take i ++ [l[i]] := by rw [List.take_add_one, List.getElem?_eq_getElem hlt]; rfl
    have w3 : IntKind.i64.wrap ((i : Int) + 1) = ((i + 1 : Nat) : Int) := (wr _ (by omega) (by omega)).trans (by omega)
    have hcl := rD_len_Cell l
    have hle : i * 3 + 3 ≤ l.length * 3 := by omega
    generalize l[i] = c at hd hfc htk
    obtain ⟨f1, f2, f3⟩ := hfc
    have hkb : (keptB (l.take i) k.data.toList).length = k.size := (keptB_len _ _ fun c' hc' => by rw [hkl]; exact hf c' (List.mem_of_mem_take hc')).trans hkl
    have wm : IntKind.i64.wrap (c.Line * 16) = c.Line * 16 := wr _ (by omega) (by omega)
    have m1 : 0 ≤ c.Line * 16 := by omega
    have m2 : c.Line * 16 ≤ k.size := by omega
    refine DW.seq (DW.block ?_)
    refine DW.seq (DW.reg (by simp [h21, h19, hh0, hlt', hd, hh9, hcl, hle]; rfl) ?_)
    refine DW.seq (DW.regs ?_)
    refine RegO.opN 3 (by simp [h1]; rfl) ?_
    refine RegO.step rfl (OpStep.callN rfl (by simp [callArgs]; rfl) (fence1_spec i c) (by simp [rosOk, roA_, toRC, mapO]) (by simp [widen, ownV, ownC]) (by simp [finish, packDV, packD]; rfl)) ?_
    refine RegO.nil ?_
    refine DW.cond (t := c.Flushed) (by simp) (fun hc => ?_) (fun hc => ?_)
    · refine DW.drawn mixed (by kernel_rfl) ?_
      refine RegD.addN 7 (by simp [h6, hh14, wm, m1, m2]; exact ⟨rfl, rfl⟩) ?_
      refine RegD.heavy (.inl ⟨by simp, OpStep.copyStr (id := 14) (p := []) (off := (c.Line * 16).toNat) (n := k.size - (c.Line * 16).toNat) (b := c.Text) (N := k.size) (l := keptB (l.take i) k.data.toList) rfl rfl (by decide) (by simp; rfl) (by simp) (by simp) (by simp [hh14]; rfl) (by rfl) (by rw [hkb]; omega) (by omega)⟩) ?_
      refine RegD.nil ⟨by kernel_rfl, ?_⟩
      refine DW.reg (by simp [h21, w3]; rfl) ?_
      have hk1 : keptB (l.take (i + 1)) k.data.toList = ovl (keptB (l.take i) k.data.toList) c := by rw [htk, keptB, List.foldl_append]; simp [keptB, hc]
      have hl1 : leftC (l.take (i + 1)) = leftC (l.take i) := by rw [htk, leftC, List.filter_append]; simp [leftC, hc]
      refine ⟨_, l.length - (i + 1), Ghost.free 9, by omega, i + 1, rfl, by omega, by simp [FS.free, h0], by simp [FS.free, h1], by simp [FS.free, h2], by simp [FS.free, h6], by simp [FS.free, h7, hl1], by simp [FS.free, h19], by simp [FS.free, h20], by simp [FS.free], by simp [FS.free, hh0], ?_, by simp [FS.free, hh42, hl1], by simp [FS.free], by simp [FS.free, hh41], by simp [FS.free, hg0]⟩
      rw [hk1]
      simp [FS.free, ovl]
    · have hk1 : keptB (l.take (i + 1)) k.data.toList = keptB (l.take i) k.data.toList := by rw [htk, keptB, List.foldl_append]; simp [keptB, hc]
      have hl1 : leftC (l.take (i + 1)) = leftC (l.take i) ++ [c] := by rw [htk, leftC, List.filter_append]; simp [leftC, hc]
      have hll : (leftC (l.take i)).length ≤ l.length := Nat.le_trans (List.length_filter_le _ _) (by rw [List.length_take]; omega)
      have b1 : ((leftC (l.take i)).length + 1) * 32 ≤ 140737488355328 := by omega
      have b2 : (leftC (l.take i)).length + 1 ≤ 140737488355328 := by omega
      have hlc := rD_len_Cell (leftC (l.take i))
      refine DW.seq (DW.reg (by simp [h2]; rfl) ?_)
      refine DW.condT (by simp) ?_
      refine DW.reg (by simp [h7, hh42, hh41, hlc, b1, b2]; rfl) ?_
      refine DW.reg (by simp [h21, w3]; rfl) ?_
      have hcd : rD (leftC (l.take i) ++ [c]) = rD (leftC (l.take i)) ++ Cell.d c := by rw [rD_append]; rfl
      exact ⟨_, l.length - (i + 1), (Ghost.free 9).trans (Ghost.free 41), by omega, i + 1, rfl, by omega, by simp [FS.free, h0], by simp [FS.free, h1], by simp [FS.free, h2], by simp [FS.free, h6], by simp [FS.free, hl1], by simp [FS.free, h19], by simp [FS.free, h20], by simp [FS.free], by simp [FS.free, hh0], by simp [FS.free, hh14, hk1],
        by simp [FS.free, hl1, hcd], by simp [FS.free], by simp [FS.free], by simp [FS.free, hg0]⟩
  · have hil : i = l.length := by
      have : ¬ i < l.length := by simpa using ht
      omega
    subst hil
    rw [List.take_length] at h7 hh14 hh42
    have hkb : (keptB l k.data.toList).length = k.size := (keptB_len _ _ fun c' hc' => by rw [hkl]; exact hf c' hc').trans hkl
    have htk : ((keptB l k.data.toList).map byteD).take k.size = (keptB l k.data.toList).map byteD := List.take_of_length_le (by rw [List.length_map, hkb]; exact Nat.le_refl _)
    refine DW.regs ?_
    refine RegO.opN 3 (by simp; rfl) ?_
    refine RegO.step rfl (OpStep.bytesStr (n := k.size) (l := keptB l k.data.toList) (s' := _) (f := _) rfl rfl (by decide) (by simp; rfl) (by simp) (by simp) (by simp [rowLen, h6]) (by simp [h6, hh14, hkb, htk]; exact ⟨rfl, rfl⟩)) ?_
    have hlc := rD_len_Cell (leftC l)
    refine RegO.opN 7 (by simp [h0, hh0, h7, hh42, hlc]; rfl) ?_
    refine RegO.nil ?_
    simp [Try.results134, hg0]
def keptS (k : ByteArray) (l : List Cell) : ByteArray := ⟨(keptB l k.data.toList).toArray⟩
theorem fence_spec (k : ByteArray) (l : List Cell) (hl : l.length < 2 ^ 40) (hk : k.size < 2 ^ 40) (hf : ∀ c ∈ l, fitsC k.size c) : Spec Try.prog 91 [.ptr (dMem k l)] [] [] [.ptr (dMem (keptS k l) (leftC l))] := by
  refine Spec.intro Try.func91 rfl rfl Try.ntmps91 rfl (by simp) ?_
  refine DW.regs ?_
  refine RegO.opN 1 (by simp; rfl) ?_
  refine RegO.step rfl (OpStep.callP (io := 0) (id := 0) (off := 0) (p := []) (sz := 2) (n := 1) (cs0 := dMem k l) rfl (by simp [callArgs]; rfl) (keep_spec k l hl hk hf) (by simp) rfl rfl (by simp) rfl (by simp) (by simp) (by simp) (by simp [callArgs, FS.lend]; rfl) (by simp [rosOk, roA_, toRC, mapO]) (by simp [widen, ownV, ownC]) (by simp [finish, packDV, packD, ptBack]; rfl)) ?_
  refine RegO.nil ?_
  simp [Try.results91, mapV, pzR, inR, keptS]
end Go.Proofs.Ytjjdjkkhhcbogaa.DM

namespace Go.Proofs.Ytjjdjkkhhcbogaa.DM
set_option linter.unusedVariables false
set_option linter.unusedSimpArgs false
set_option maxRecDepth 4000
set_option maxHeartbeats 8000000
theorem l01In_spec (x lo hi : Int) : Spec Try.prog 84 [ri x, ri lo, ri hi] [none] [db (inB x lo hi)] [ri x, ri lo, ri hi] := by
  refine Spec.intro Try.func84 rfl rfl Try.ntmps84 rfl (by simp) ?_
  refine DW.seq ?_
  refine DW.reg (by simp; rfl) ?_
  refine DW.seq ?_
  by_cases h1 : lo ≤ x
  · skip
    refine DW.reg (by simp [h1]; rfl) ?_
    refine DW.ret ?_
    simp [Try.results84, inB, h1]
  · skip
    refine DW.reg (by simp [h1]; rfl) ?_
    refine DW.ret ?_
    simp [Try.results84, inB, h1]
theorem l10Size_spec : Spec Try.prog 98 [] [none] [di 16] [] := by
  refine Spec.intro Try.func98 rfl rfl Try.ntmps98 rfl (by simp) ?_
  refine DW.seq ?_
  refine DW.reg (by simp; rfl) ?_
  refine DW.seq ?_
  refine DW.reg (by simp; rfl) ?_
  refine DW.ret ?_
  simp [Try.results98]
theorem l10Words_spec (k : ByteArray) (l : List Cell) (hk : k.size < 2 ^ 40) : Spec Try.prog 85 [raMemory ⟨k, l⟩] [none] [di (k.size / 8 : Nat)] [raMemory ⟨k, l⟩] := by
  refine Spec.intro Try.func85 rfl rfl Try.ntmps85 rfl (by simp) ?_
  have w1 : IntKind.i64.wrap ((k.size : Int) / 8) = (k.size : Int) / 8 := wr _ (by omega) (by omega)
  refine DW.seq ?_
  refine DW.reg (by simp [w1]; rfl) ?_
  refine DW.seq ?_
  refine DW.reg (by simp [w1]; rfl) ?_
  refine DW.ret ?_
  simp [Try.results85]
theorem l10Copy_spec (k : ByteArray) (l : List Cell) (hl : l.length < 2 ^ 40) : Spec Try.prog 67 [raMemory ⟨k, l⟩] [some 2] (dMem k l) [raMemory ⟨k, l⟩] := by
  refine Spec.intro Try.func67 rfl rfl Try.ntmps67 rfl (by simp) ?_
  have c1 : l.length * 32 ≤ 140737488355328 := by omega
  have c2 : l.length ≤ 140737488355328 := by omega
  refine DW.seq ?_
  refine DW.reg (by simp; rfl) ?_
  refine DW.seq ?_
  refine DW.drawn mixed (by kernel_rfl) ?_
  refine RegD.addN 2 (by simp; first | exact ⟨rfl, rfl⟩ | rfl) ?_
  refine RegD.cert (Cert.nilSlice rfl rfl rfl (by decide) (by simp; exact ⟨rfl, rfl⟩) (by simp; rfl) (by simp; rfl) (by rfl) (by decide)) ?_
  refine RegD.addN 2 (by simp; first | exact ⟨rfl, rfl⟩ | rfl) ?_
  refine RegD.cert (Cert.appNil (m := l.length) (rcs := rR l) rfl rfl rfl (by decide) (by simp; exact ⟨rfl, rfl⟩) (by simp; rfl) (by rfl) (by simp; rfl) (by simp) (by simp) (by simp) (by simp) (by decide) (by simp [c1]) (by simp [c2]) (by simp)) ?_
  refine RegD.addN 1 (by simp; first | exact ⟨rfl, rfl⟩ | rfl) ?_
  refine RegD.heavyF (by simp) (by simp; rfl) ?_
  refine RegD.nil ⟨by kernel_rfl, ?_⟩
  refine DW.ret ?_
  simp [Try.results67]
/-- Where a line's cell is, looked for from a place on; -1. -/
def cellFrom (l : List Cell) (line : Int) (i : Nat) : Int := if h : i < l.length then (if l[i].Line = line then (i : Int) else cellFrom l line (i + 1)) else -1
termination_by l.length - i
def cellIx (l : List Cell) (line : Int) : Int := cellFrom l line 0
theorem cellFrom_bd (l : List Cell) (line : Int) : ∀ (n i : Nat), n = l.length - i → cellFrom l line i = -1 ∨ (0 ≤ cellFrom l line i ∧ cellFrom l line i < l.length)
  | n, i, hn => by
    rw [cellFrom]
    split
    · rename_i h
      split
      · exact .inr ⟨by omega, by omega⟩
      · cases n with
        | zero => omega
        | succ n => exact cellFrom_bd l line n (i + 1) (by omega)
    · exact .inl rfl
theorem cellIx_bd (l : List Cell) (line : Int) : cellIx l line = -1 ∨ (0 ≤ cellIx l line ∧ cellIx l line < l.length) := cellFrom_bd l line _ 0 rfl
def lineS (k : ByteArray) (l : List Cell) (line : Int) : ByteArray := if 0 ≤ cellIx l line then (match l[(cellIx l line).toNat]? with | some c => c.Text | none => ByteArray.empty) else k.extract (line * 16).toNat ((line + 1) * 16).toNat

theorem l10Cell_spec (k : ByteArray) (l : List Cell) (line : Int) (hl : l.length < 2 ^ 40) : Spec Try.prog 120 [raMemory ⟨k, l⟩, ri line] [none] [di (cellIx l line)] [raMemory ⟨k, l⟩, ri line] := by
  refine Spec.intro Try.func120 rfl rfl Try.ntmps120 rfl (by simp) ?_
  refine DW.seq ?_
  refine DW.reg (by simp; rfl) ?_
  refine DW.seq ?_
  refine DW.seq ?_
  refine DW.reg (by simp; rfl) ?_
  refine DW.block ?_
  refine DW.loopS (α := Nat) (fun i => i ≤ l.length ∧ cellFrom l line i = cellIx l line) (fun i => l.length - i) (fun i => [(5, vi i)]) (fun i => []) [(1, _), (2, _)] [(2, _)] [] 0 (⟨Nat.zero_le _, rfl⟩) (by simp; exact ⟨rfl, rfl⟩) (by simp; exact rfl) (by simp) (by rfl) ?_
  rintro i ⟨hi, hx⟩
  refine DW.seq ?_
  refine DW.seq ?_
  refine DW.reg (by simp; rfl) ?_
  refine DW.condB (by simp; exact rfl) (fun hc0 => ?_) (fun hc0 => ?_)
  · have hlt : i < l.length := by simpa using hc0
    have hd := rR_drop_Cell l i hlt
    have hlt' : (i : Int) < l.length := by omega
    have w1 : IntKind.i64.wrap ((i : Int) + 1) = ((i + 1 : Nat) : Int) := (wr _ (by omega) (by omega)).trans (by omega)
    rw [cellFrom, dif_pos hlt] at hx
    generalize l[i] = c at hd hx
    refine DW.skip ?_
    refine DW.seq ?_
    refine DW.block ?_
    refine DW.seq ?_
    refine DW.reg (by simp [hd, hlt']; rfl) ?_
    refine DW.condB (by simp; exact rfl) (fun hc1 => ?_) (fun hc1 => ?_)
    · have hcc : c.Line = line := by simpa using hc1
      rw [if_pos hcc] at hx
      refine DW.seq ?_
      refine DW.reg (by simp; rfl) ?_
      refine DW.ret ?_
      simp [Try.results120, ← hx]
    · have hcc : ¬ c.Line = line := by simpa using hc1
      rw [if_neg hcc] at hx
      refine DW.skip ?_
      refine DW.reg (by simp [w1]; rfl) ?_
      exact ⟨i + 1, ⟨hlt, hx⟩, by omega, by simp, by simp, by simp, by rfl⟩
  · have hil : ¬ i < l.length := by simpa using hc0
    rw [cellFrom, dif_neg hil] at hx
    refine DW.exit ?_
    refine DW.seq ?_
    refine DW.reg (by simp; rfl) ?_
    refine DW.ret ?_
    simp [Try.results120, ← hx]
theorem l10Line_spec (k : ByteArray) (l : List Cell) (line : Int) (hl : l.length < 2 ^ 40) (h0 : 0 ≤ line) (hnf : ¬ 0 ≤ cellIx l line → (line + 1) * 16 ≤ k.size) (hk : k.size < 2 ^ 40) : Spec Try.prog 132 [raMemory ⟨k, l⟩, ri line] [none] [ds (lineS k l line)] [raMemory ⟨k, l⟩, ri line] := by
  refine Spec.intro Try.func132 rfl rfl Try.ntmps132 rfl (by simp) ?_
  refine DW.seq ?_
  refine DW.reg (by simp; rfl) ?_
  refine DW.seq ?_
  refine DW.regs ?_
  refine RegO.opN 2 (by simp; rfl) ?_
  refine RegO.step rfl (OpStep.callA rfl (by simp; exact ⟨rfl, rfl⟩) (by simp; rfl) (by exact l10Cell_spec _ _ _ hl) (by simp) (by simp; rfl)) ?_
  refine RegO.opN 1 (by simp; rfl) ?_
  refine RegO.nil ?_
  refine DW.seq ?_
  refine DW.seq ?_
  refine DW.reg (by simp; rfl) ?_
  refine DW.condB (by simp; exact rfl) (fun hc0 => ?_) (fun hc0 => ?_)
  · have hp : 0 ≤ cellIx l line := by simpa using hc0
    have hb : (cellIx l line).toNat < l.length := by rcases cellIx_bd l line with h | h <;> omega
    have hml : cellIx l line < l.length := by omega
    have hd := rR_drop_Cell l _ hb
    have hcm : l[(cellIx l line).toNat]? = some l[(cellIx l line).toNat] := List.getElem?_eq_getElem hb
    generalize l[(cellIx l line).toNat] = c at hd hcm
    have hfin : lineS k l line = c.Text := by simp only [lineS, if_pos hp, hcm]
    refine DW.seq ?_
    refine DW.reg (by simp [hml, hd, hp]; rfl) ?_
    refine DW.ret ?_
    simp [Try.results132, hfin]
  · have hp : ¬ 0 ≤ cellIx l line := by simpa using hc0
    have h1 := hnf hp
    have w1 : IntKind.i64.wrap (line * 16) = line * 16 := wr _ (by omega) (by omega)
    have w2 : IntKind.i64.wrap (line + 1) = line + 1 := wr _ (by omega) (by omega)
    have w3 : IntKind.i64.wrap ((line + 1) * 16) = (line + 1) * 16 := wr _ (by omega) (by omega)
    have c1 : 0 ≤ (line + 1) * 16 := by omega
    have c2 : 0 ≤ line * 16 := by omega
    have c3 : line ≤ line + 1 := by omega
    have hfin : lineS k l line = k.extract (line * 16).toNat ((line + 1) * 16).toNat := by simp only [lineS, if_neg hp]
    refine DW.skip ?_
    refine DW.seq ?_
    refine DW.drawn mixed (by kernel_rfl) ?_
    refine RegD.addN 3 (by simp [w1, w2, w3, c1, c2, c3, h1, h0]; first | exact ⟨rfl, rfl⟩ | rfl) ?_
    refine RegD.cert (Cert.callA rfl (by simp) rfl (by decide) (by simp [w1, w2, w3, c1, c2, c3, h1, h0]; exact ⟨rfl, rfl⟩) (by simp [w1, w2, w3, c1, c2, c3, h1, h0]; rfl) (by exact l10Size_spec) rfl (by simp) (by simp; rfl) rfl) ?_
    refine RegD.addN 3 (by simp [w1, w2, w3, c1, c2, c3, h1, h0]; first | exact ⟨rfl, rfl⟩ | rfl) ?_
    refine RegD.cert (Cert.callA rfl (by simp) rfl (by decide) (by simp [w1, w2, w3, c1, c2, c3, h1, h0]; exact ⟨rfl, rfl⟩) (by simp [w1, w2, w3, c1, c2, c3, h1, h0]; rfl) (by exact l10Size_spec) rfl (by simp) (by simp; rfl) rfl) ?_
    refine RegD.addN 3 (by simp [w1, w2, w3, c1, c2, c3, h1, h0]; first | exact ⟨rfl, rfl⟩ | rfl) ?_
    refine ⟨by kernel_rfl, ?_⟩
    refine DW.ret ?_
    simp [Try.results132, hfin]
end Go.Proofs.Ytjjdjkkhhcbogaa.DM

namespace Go.Proofs.Ytjjdjkkhhcbogaa.DM
set_option linter.unusedVariables false
set_option linter.unusedSimpArgs false
set_option maxRecDepth 4000
set_option maxHeartbeats 8000000
theorem specOk_spec (k : ByteArray) (l : List Cell) (hk : k.size < 2 ^ 40) (hl : l.length < 2 ^ 40) : Spec Try.prog 83 [raMemory ⟨k, l⟩] [none] [db (memOk k l)] [raMemory ⟨k, l⟩] := by
  refine Spec.intro Try.func83 rfl rfl Try.ntmps83 rfl (by simp) ?_
  refine DW.seq ?_
  refine DW.reg (by simp; rfl) ?_
  refine DW.seq ?_
  refine DW.seq ?_
  by_cases hm : k.size % 16 = 0
  · have hmm : (k.size : Int).tmod 16 = 0 := by rw [Int.tmod_eq_emod_of_nonneg (by omega)]; omega
    have w5 : IntKind.i64.wrap (16000 : Int) = 16000 := wr _ (by omega) (by omega)
    refine DW.drawn mixed (by kernel_rfl) ?_
    refine RegD.addN 3 (by simp [hmm, w5]; first | exact ⟨rfl, rfl⟩ | rfl) ?_
    refine RegD.cert (Cert.callA rfl (by simp) rfl (by decide) (by simp [hmm, w5]; exact ⟨rfl, rfl⟩) (by simp [hmm, w5]; rfl) (by exact l10Size_spec) rfl (by simp) (by simp; rfl) rfl) ?_
    refine RegD.addN 6 (by simp [hmm, w5]; first | exact ⟨rfl, rfl⟩ | rfl) ?_
    refine RegD.cert (Cert.callA rfl (by simp) rfl (by decide) (by simp [hmm, w5]; exact ⟨rfl, rfl⟩) (by simp [hmm, w5]; rfl) (by exact l10Size_spec) rfl (by simp) (by simp; rfl) rfl) ?_
    refine RegD.addN 3 (by simp [hmm, w5]; first | exact ⟨rfl, rfl⟩ | rfl) ?_
    refine ⟨by kernel_rfl, ?_⟩
    refine DW.condB (by simp [hmm, w5]; exact rfl) (fun hc0 => ?_) (fun hc0 => ?_)
    · have hsz : ¬ k.size ≤ 16000 := by
        have : (16000 : Int) < k.size := by simpa [hmm, w5] using hc0
        omega
      refine DW.seq ?_
      refine DW.reg (by simp [hmm, w5]; rfl) ?_
      refine DW.ret ?_
      simp [Try.results83, memOk, hsz]
    · have hsz : k.size ≤ 16000 := by
        have : ¬ (16000 : Int) < k.size := by simpa [hmm, w5] using hc0
        omega
      refine DW.skip ?_
      refine DW.seq ?_
      refine DW.seq ?_
      refine DW.reg (by simp [hmm, w5]; rfl) ?_
      refine DW.block ?_
      refine DW.loopS (α := Nat) (fun i => i ≤ l.length ∧ (List.range i).all (okAt k l) = true) (fun i => l.length - i) (fun i => [(3, vi i)]) (fun i => []) [(1, _)] [(1, _)] [] 0 (⟨Nat.zero_le _, rfl⟩) (by simp; exact rfl) (by simp; exact rfl) (by simp) (by rfl) ?_
      rintro i ⟨hi, hall⟩
      refine DW.seq ?_
      refine DW.seq ?_
      refine DW.reg (by simp [hmm, w5]; rfl) ?_
      refine DW.condB (by simp [hmm, w5]; exact rfl) (fun hc1 => ?_) (fun hc1 => ?_)
      · have hlt : i < l.length := by simpa using hc1
        have hlt' : (i : Int) < l.length := by omega
        have hd := rR_drop_Cell l i hlt
        have hci : l[i]? = some l[i] := List.getElem?_eq_getElem hlt
        generalize l[i] = c at hd hci
        have w1 : IntKind.i64.wrap ((i : Int) + 1) = ((i + 1 : Nat) : Int) := (wr _ (by omega) (by omega)).trans (by omega)
        have w2 : IntKind.i64.wrap ((k.size : Int) / 16) = (k.size : Int) / 16 := wr _ (by omega) (by omega)
        have w3 : IntKind.i64.wrap ((k.size : Int) / 16 - 1) = (k.size : Int) / 16 - 1 := wr _ (by omega) (by omega)
        refine DW.skip ?_
        refine DW.seq ?_
        refine DW.block ?_
        refine DW.seq ?_
        refine DW.reg (by simp [hmm, w5, hd, hlt']; rfl) ?_
        refine DW.seq ?_
        have h4 : inB c.Line 0 ((k.size : Int) / 16 - 1) = false ∨ (inB c.Line 0 ((k.size : Int) / 16 - 1) = true ∧ c.Text.size ≠ 16) ∨ (inB c.Line 0 ((k.size : Int) / 16 - 1) = true ∧ c.Text.size = 16 ∧ ¬ 0 < i) ∨ (inB c.Line 0 ((k.size : Int) / 16 - 1) = true ∧ c.Text.size = 16 ∧ 0 < i) := by
          cases h : inB c.Line 0 ((k.size : Int) / 16 - 1) <;> by_cases h2 : c.Text.size = 16 <;> by_cases h3 : 0 < i <;> simp_all
        rcases h4 with hA | ⟨hA, hB⟩ | ⟨hA, hB, hC⟩ | ⟨hA, hB, hC⟩
        · have hbad : okAt k l i = false := by simp [okAt, hci, hA]
          refine DW.drawn mixed (by kernel_rfl) ?_
          refine RegD.addN 5 (by simp [hmm, w5, hA, w2, w3]; first | exact ⟨rfl, rfl⟩ | rfl) ?_
          refine RegD.cert (Cert.callA rfl (by simp) rfl (by decide) (by simp [hmm, w5, hA, w2, w3]; exact ⟨rfl, rfl⟩) (by simp [hmm, w5, hA, w2, w3]; rfl) (by exact l10Size_spec) rfl (by simp) (by simp; rfl) rfl) ?_
          refine RegD.addN 2 (by simp [hmm, w5, hA, w2, w3]; first | exact ⟨rfl, rfl⟩ | rfl) ?_
          refine RegD.cert (Cert.callA rfl (by simp) rfl (by decide) (by simp [hmm, w5, hA, w2, w3]; exact ⟨rfl, rfl⟩) (by simp [hmm, w5, hA, w2, w3]; rfl) (by exact l01In_spec c.Line 0 ((k.size : Int) / 16 - 1)) rfl (by simp) (by simp; rfl) rfl) ?_
          refine RegD.addN 5 (by simp [hmm, w5, hA, w2, w3]; first | exact ⟨rfl, rfl⟩ | rfl) ?_
          refine RegD.addN 1 (by simp [hmm, w5, hA, w2, w3]; first | exact ⟨rfl, rfl⟩ | rfl) ?_
          refine RegD.addN 18 (by simp [hmm, w5, hA, w2, w3]; first | exact ⟨rfl, rfl⟩ | rfl) ?_
          refine ⟨by kernel_rfl, ?_⟩
          refine DW.condT (by simp [hmm, w5, hA]) ?_
          refine DW.seq ?_
          refine DW.reg (by simp [hmm, w5, hA]; rfl) ?_
          refine DW.ret ?_
          rw [memOk_bad hlt hbad]
          simp [Try.results83]
        · have hbad : okAt k l i = false := by simp [okAt, hci, hA, hB]
          have hB' : ((c.Text.size : Int) != 16) = true := by simp; omega
          refine DW.drawn mixed (by kernel_rfl) ?_
          refine RegD.addN 5 (by simp [hmm, w5, hA, hB', w2, w3]; first | exact ⟨rfl, rfl⟩ | rfl) ?_
          refine RegD.cert (Cert.callA rfl (by simp) rfl (by decide) (by simp [hmm, w5, hA, hB', w2, w3]; exact ⟨rfl, rfl⟩) (by simp [hmm, w5, hA, hB', w2, w3]; rfl) (by exact l10Size_spec) rfl (by simp) (by simp; rfl) rfl) ?_
          refine RegD.addN 2 (by simp [hmm, w5, hA, hB', w2, w3]; first | exact ⟨rfl, rfl⟩ | rfl) ?_
          refine RegD.cert (Cert.callA rfl (by simp) rfl (by decide) (by simp [hmm, w5, hA, hB', w2, w3]; exact ⟨rfl, rfl⟩) (by simp [hmm, w5, hA, hB', w2, w3]; rfl) (by exact l01In_spec c.Line 0 ((k.size : Int) / 16 - 1)) rfl (by simp) (by simp; rfl) rfl) ?_
          refine RegD.addN 5 (by simp [hmm, w5, hA, hB', w2, w3]; first | exact ⟨rfl, rfl⟩ | rfl) ?_
          refine RegD.cert (Cert.callA rfl (by simp) rfl (by decide) (by simp [hmm, w5, hA, hB', w2, w3]; exact ⟨rfl, rfl⟩) (by simp [hmm, w5, hA, hB', w2, w3]; rfl) (by exact l10Size_spec) rfl (by simp) (by simp; rfl) rfl) ?_
          refine RegD.addN 18 (by simp [hmm, w5, hA, hB', w2, w3]; first | exact ⟨rfl, rfl⟩ | rfl) ?_
          refine ⟨by kernel_rfl, ?_⟩
          refine DW.condT (by simp [hmm, w5, hA, hB']) ?_
          refine DW.seq ?_
          refine DW.reg (by simp [hmm, w5, hA, hB']; rfl) ?_
          refine DW.ret ?_
          rw [memOk_bad hlt hbad]
          simp [Try.results83]
        · have hok : okAt k l i = true := by simp [okAt, hci, hA, hB, hC]
          refine DW.drawn mixed (by kernel_rfl) ?_
          refine RegD.addN 5 (by simp [hmm, w5, hA, hB, hC, w2, w3]; first | exact ⟨rfl, rfl⟩ | rfl) ?_
          refine RegD.cert (Cert.callA rfl (by simp) rfl (by decide) (by simp [hmm, w5, hA, hB, hC, w2, w3]; exact ⟨rfl, rfl⟩) (by simp [hmm, w5, hA, hB, hC, w2, w3]; rfl) (by exact l10Size_spec) rfl (by simp) (by simp; rfl) rfl) ?_
          refine RegD.addN 2 (by simp [hmm, w5, hA, hB, hC, w2, w3]; first | exact ⟨rfl, rfl⟩ | rfl) ?_
          refine RegD.cert (Cert.callA rfl (by simp) rfl (by decide) (by simp [hmm, w5, hA, hB, hC, w2, w3]; exact ⟨rfl, rfl⟩) (by simp [hmm, w5, hA, hB, hC, w2, w3]; rfl) (by exact l01In_spec c.Line 0 ((k.size : Int) / 16 - 1)) rfl (by simp) (by simp; rfl) rfl) ?_
          refine RegD.addN 5 (by simp [hmm, w5, hA, hB, hC, w2, w3]; first | exact ⟨rfl, rfl⟩ | rfl) ?_
          refine RegD.cert (Cert.callA rfl (by simp) rfl (by decide) (by simp [hmm, w5, hA, hB, hC, w2, w3]; exact ⟨rfl, rfl⟩) (by simp [hmm, w5, hA, hB, hC, w2, w3]; rfl) (by exact l10Size_spec) rfl (by simp) (by simp; rfl) rfl) ?_
          refine RegD.addN 18 (by simp [hmm, w5, hA, hB, hC, w2, w3]; first | exact ⟨rfl, rfl⟩ | rfl) ?_
          refine ⟨by kernel_rfl, ?_⟩
          refine DW.condF (by simp [hmm, w5, hA, hB, hC]) ?_
          refine DW.skip ?_
          refine DW.reg (by simp [hmm, w5, hA, hB, hC, w1]; rfl) ?_
          exact ⟨i + 1, ⟨hlt, by rw [List.range_succ, List.all_append, hall]; simp [hok]⟩, by omega, by simp, by simp, by simp, by rfl⟩
        · have hp : i - 1 < l.length := by omega
          have hdp := rR_drop_Cell l (i - 1) hp
          have hpi : l[i - 1]? = some l[i - 1] := List.getElem?_eq_getElem hp
          generalize l[i - 1] = p at hdp hpi
          have w4 : IntKind.i64.wrap ((i : Int) - 1) = ((i - 1 : Nat) : Int) := (wr _ (by omega) (by omega)).trans (by omega)
          have h0p : (0 : Int) ≤ ((i - 1 : Nat) : Int) := by omega
          have hlp : ((i - 1 : Nat) : Int) < l.length := by omega
          refine DW.drawn mixed (by kernel_rfl) ?_
          refine RegD.addN 5 (by simp [hmm, w5, hA, hB, hC, w4, h0p, hlp, hdp, w2, w3]; first | exact ⟨rfl, rfl⟩ | rfl) ?_
          refine RegD.cert (Cert.callA rfl (by simp) rfl (by decide) (by simp [hmm, w5, hA, hB, hC, w4, h0p, hlp, hdp, w2, w3]; exact ⟨rfl, rfl⟩) (by simp [hmm, w5, hA, hB, hC, w4, h0p, hlp, hdp, w2, w3]; rfl) (by exact l10Size_spec) rfl (by simp) (by simp; rfl) rfl) ?_
          refine RegD.addN 2 (by simp [hmm, w5, hA, hB, hC, w4, h0p, hlp, hdp, w2, w3]; first | exact ⟨rfl, rfl⟩ | rfl) ?_
          refine RegD.cert (Cert.callA rfl (by simp) rfl (by decide) (by simp [hmm, w5, hA, hB, hC, w4, h0p, hlp, hdp, w2, w3]; exact ⟨rfl, rfl⟩) (by simp [hmm, w5, hA, hB, hC, w4, h0p, hlp, hdp, w2, w3]; rfl) (by exact l01In_spec c.Line 0 ((k.size : Int) / 16 - 1)) rfl (by simp) (by simp; rfl) rfl) ?_
          refine RegD.addN 5 (by simp [hmm, w5, hA, hB, hC, w4, h0p, hlp, hdp, w2, w3]; first | exact ⟨rfl, rfl⟩ | rfl) ?_
          refine RegD.cert (Cert.callA rfl (by simp) rfl (by decide) (by simp [hmm, w5, hA, hB, hC, w4, h0p, hlp, hdp, w2, w3]; exact ⟨rfl, rfl⟩) (by simp [hmm, w5, hA, hB, hC, w4, h0p, hlp, hdp, w2, w3]; rfl) (by exact l10Size_spec) rfl (by simp) (by simp; rfl) rfl) ?_
          refine RegD.addN 18 (by simp [hmm, w5, hA, hB, hC, w4, h0p, hlp, hdp, w2, w3]; first | exact ⟨rfl, rfl⟩ | rfl) ?_
          refine ⟨by kernel_rfl, ?_⟩
          refine DW.condB (by simp [hmm, w5, hA, hB, hC, w4, h0p, hlp, hdp]; exact rfl) (fun hc2 => ?_) (fun hc2 => ?_)
          · have hD : c.Line ≤ p.Line := by simpa [hA, hB, hC] using hc2
            have hbad : okAt k l i = false := by simp [okAt, hci, hA, hB, hC, hpi, hD]
            refine DW.seq ?_
            refine DW.reg (by simp [hmm, w5, hA, hB, hC, w4, h0p, hlp, hdp]; rfl) ?_
            refine DW.ret ?_
            rw [memOk_bad hlt hbad]
            simp [Try.results83]
          · have hD : ¬ c.Line ≤ p.Line := by simpa [hA, hB, hC] using hc2
            have hok : okAt k l i = true := by simp [okAt, hci, hA, hB, hC, hpi, hD]
            refine DW.skip ?_
            refine DW.reg (by simp [hmm, w5, hA, hB, hC, w4, h0p, hlp, hdp, w1]; rfl) ?_
            exact ⟨i + 1, ⟨hlt, by rw [List.range_succ, List.all_append, hall]; simp [hok]⟩, by omega, by simp, by simp, by simp, by rfl⟩
      · have hil : i = l.length := by
          have : ¬ i < l.length := by simpa using hc1
          omega
        subst hil
        refine DW.exit ?_
        refine DW.seq ?_
        refine DW.reg (by simp [hmm, w5]; rfl) ?_
        refine DW.ret ?_
        simp [Try.results83, memOk, hall, hm, hsz]
  · have hmn : ((k.size : Int).tmod 16 != 0) = true := by rw [Int.tmod_eq_emod_of_nonneg (by omega)]; simp; omega
    refine DW.drawn mixed (by kernel_rfl) ?_
    refine RegD.addN 3 (by simp [hmn]; first | exact ⟨rfl, rfl⟩ | rfl) ?_
    refine RegD.cert (Cert.callA rfl (by simp) rfl (by decide) (by simp [hmn]; exact ⟨rfl, rfl⟩) (by simp [hmn]; rfl) (by exact l10Size_spec) rfl (by simp) (by simp; rfl) rfl) ?_
    refine RegD.addN 6 (by simp [hmn]; first | exact ⟨rfl, rfl⟩ | rfl) ?_
    refine RegD.addN 1 (by simp [hmn]; first | exact ⟨rfl, rfl⟩ | rfl) ?_
    refine RegD.addN 3 (by simp [hmn]; first | exact ⟨rfl, rfl⟩ | rfl) ?_
    refine ⟨by kernel_rfl, ?_⟩
    refine DW.condT (by simp [hmn]) ?_
    refine DW.seq ?_
    refine DW.reg (by simp [hmn]; rfl) ?_
    refine DW.ret ?_
    simp [Try.results83, memOk, hm]
end Go.Proofs.Ytjjdjkkhhcbogaa.DM

namespace Go.Proofs.Ytjjdjkkhhcbogaa.DM
set_option linter.unusedVariables false
set_option linter.unusedSimpArgs false
set_option maxRecDepth 4000
set_option maxHeartbeats 8000000
def keepS (k : ByteArray) (c : Cell) : ByteArray := (k.extract 0 (c.Line * 16).toNat ++ c.Text) ++ k.extract (c.Line * 16 + 16).toNat k.size
theorem memOk_all {k : ByteArray} {l : List Cell} (h : memOk k l = true) : k.size % 16 = 0 ∧ k.size ≤ 16000 ∧ ∀ i, i < l.length → okAt k l i = true := by
  simp only [memOk, Bool.and_eq_true, List.all_eq_true, List.mem_range, beq_iff_eq, decide_eq_true_eq] at h
  exact ⟨h.1.2, h.2, h.1.1⟩
theorem okAt_fits {k : ByteArray} {l : List Cell} {i : Nat} (hm : k.size % 16 = 0) (hi : i < l.length) (h : okAt k l i = true) : fitsC k.size l[i] := by
  have hci : l[i]? = some l[i] := List.getElem?_eq_getElem hi
  simp only [okAt, hci, inB, Bool.and_eq_true, decide_eq_true_eq, beq_iff_eq] at h
  obtain ⟨⟨⟨h1, h2⟩, h3⟩, _⟩ := h
  exact ⟨h1, by omega, h3⟩
theorem okAt_lt {k : ByteArray} {l : List Cell} {i : Nat} (hi : i + 1 < l.length) (h : okAt k l (i + 1) = true) : (l[i]'(by omega)).Line < l[i + 1].Line := by
  have hci : l[i + 1]? = some l[i + 1] := List.getElem?_eq_getElem hi
  have hp : l[i]? = some (l[i]'(by omega)) := List.getElem?_eq_getElem (by omega)
  simp [okAt, hci, hp] at h
  omega
theorem memOk_fits {k : ByteArray} {l : List Cell} (h : memOk k l = true) : ∀ c ∈ l, fitsC k.size c := fun c hc => by
  obtain ⟨hm, _, ha⟩ := memOk_all h
  obtain ⟨i, hi, rfl⟩ := List.getElem_of_mem hc
  exact okAt_fits hm hi (ha i hi)
theorem keptS_nil (k : ByteArray) : keptS k [] = k := by simp [keptS, keptB]
theorem keptS_size {k : ByteArray} {l : List Cell} (h : ∀ c ∈ l, fitsC k.size c) : (keptS k l).size = k.size := by
  have := keptB_len l k.data.toList (by rw [show k.data.toList.length = k.size from Array.length_toList]; exact h)
  show (keptB l k.data.toList).toArray.size = _
  rw [List.size_toArray, this]
  exact Array.length_toList
theorem keepS_eq {k : ByteArray} {c : Cell} (h : fitsC k.size c) : keepS k c = ⟨(ovl k.data.toList c).toArray⟩ := by
  obtain ⟨h1, h2, h3⟩ := h
  have hkl : k.data.toList.length = k.size := Array.length_toList
  apply ByteArray.ext
  apply Array.ext'
  have e1 : (c.Line * 16 + 16).toNat = (c.Line * 16).toNat + c.Text.size := by omega
  simp only [keepS, ovl, ByteArray.data_append, ByteArray.data_extract, Array.toList_append, Array.toList_extract, List.extract_eq_take_drop, List.drop_zero, Nat.sub_zero, List.append_assoc, e1]
  congr 2
  rw [List.take_of_length_le]
  rw [List.length_drop]
  omega
theorem keptS_flushed {k : ByteArray} {l : List Cell} {i : Nat} (hi : i < l.length) (hf : ∀ c ∈ l, fitsC k.size c) (hc : l[i].Flushed = true) : keptS k (l.take (i + 1)) = keepS (keptS k (l.take i)) l[i] := by
  have htk : l.take (i + 1) = l.take i ++ [l[i]] := by rw [List.take_add_one, List.getElem?_eq_getElem hi]; rfl
  rw [keepS_eq (by rw [keptS_size fun c hc => hf c (List.mem_of_mem_take hc)]; exact hf _ (List.getElem_mem hi))]
  rw [htk]; generalize l.take i = a; generalize l[i] = c at hc ⊢; simp [keptS, keptB, hc]
theorem keptS_left {k : ByteArray} {l : List Cell} {i : Nat} (hi : i < l.length) (hc : l[i].Flushed = false) : keptS k (l.take (i + 1)) = keptS k (l.take i) := by
  have htk : l.take (i + 1) = l.take i ++ [l[i]] := by rw [List.take_add_one, List.getElem?_eq_getElem hi]; rfl
  rw [htk]; generalize l.take i = a; generalize l[i] = c at hc ⊢; simp [keptS, keptB, hc]
theorem leftC_flushed {l : List Cell} {i : Nat} (hi : i < l.length) (hc : l[i].Flushed = true) : leftC (l.take (i + 1)) = leftC (l.take i) := by
  have htk : l.take (i + 1) = l.take i ++ [l[i]] := by rw [List.take_add_one, List.getElem?_eq_getElem hi]; rfl
  rw [htk]; generalize l.take i = a; generalize l[i] = c at hc ⊢; simp [leftC, hc]
theorem leftC_left {l : List Cell} {i : Nat} (hi : i < l.length) (hc : l[i].Flushed = false) : leftC (l.take (i + 1)) = leftC (l.take i) ++ [l[i]] := by
  have htk : l.take (i + 1) = l.take i ++ [l[i]] := by rw [List.take_add_one, List.getElem?_eq_getElem hi]; rfl
  rw [htk]; generalize l.take i = a; generalize l[i] = c at hc ⊢; simp [leftC, hc]
theorem leftC_len (l : List Cell) (i : Nat) (hi : i ≤ l.length) : (leftC (l.take i)).length ≤ l.length := Nat.le_trans (List.length_filter_le _ _) (by rw [List.length_take]; omega)
theorem take_snoc (l : List Cell) (c : Cell) : List.take ((l.length + 1) * 3) (rD l ++ [.sc (.int .i64 c.Line), .sc (.string c.Text), .sc (.bool c.Flushed)]) = rD l ++ [.sc (.int .i64 c.Line), .sc (.string c.Text), .sc (.bool c.Flushed)] :=
  List.take_of_length_le (by rw [List.length_append, rD_len_Cell]; simp; omega)
@[simp] def dM (m : Memory) : List D := dMem m.Kept m.Cells
def fenceM (m : Memory) : Memory := if memOk m.Kept m.Cells then ⟨keptS m.Kept m.Cells, leftC m.Cells⟩ else m

theorem l10Keep_spec (k : ByteArray) (c : Cell) (hk : k.size < 2 ^ 40) (hf : fitsC k.size c) : Spec Try.prog 99 [rs k, raCell c] [none] [ds (keepS k c)] [rs k, raCell c] := by
  refine Spec.intro Try.func99 rfl rfl Try.ntmps99 rfl (by simp) ?_
  obtain ⟨h1, h2, h3⟩ := hf
  have w1 : IntKind.i64.wrap (c.Line * 16) = c.Line * 16 := wr _ (by omega) (by omega)
  have w2 : IntKind.i64.wrap (c.Line * 16 + 16) = c.Line * 16 + 16 := wr _ (by omega) (by omega)
  have c1 : 0 ≤ c.Line * 16 := by omega
  have c2 : c.Line * 16 ≤ k.size := by omega
  have c3 : 0 ≤ c.Line * 16 + 16 := by omega
  have c4 : c.Line * 16 + 16 ≤ k.size := by omega
  have c5 : ¬ 9223372036854775807 < max (c.Line * 16) 0 + 16 := by omega
  have c6 : ¬ 9223372036854775807 < max (c.Line * 16) 0 + 16 + ((k.size - (c.Line * 16 + 16).toNat : Nat) : Int) := by omega
  refine DW.seq ?_
  refine DW.reg (by simp [w1, w2, c1, c2, c3, c4, c5, c6, h3]; rfl) ?_
  refine DW.seq ?_
  refine DW.drawn mixed (by kernel_rfl) ?_
  refine RegD.addN 2 (by simp [w1, w2, c1, c2, c3, c4, c5, c6, h3]; first | exact ⟨rfl, rfl⟩ | rfl) ?_
  refine RegD.cert (Cert.callA rfl (by simp) rfl (by decide) (by simp [w1, w2, c1, c2, c3, c4, c5, c6, h3]; exact ⟨rfl, rfl⟩) (by simp [w1, w2, c1, c2, c3, c4, c5, c6, h3]; rfl) (by exact l10Size_spec) rfl (by simp) (by simp; rfl) rfl) ?_
  refine RegD.addN 2 (by simp [w1, w2, c1, c2, c3, c4, c5, c6, h3]; first | exact ⟨rfl, rfl⟩ | rfl) ?_
  refine ⟨by kernel_rfl, ?_⟩
  refine DW.seq ?_
  refine DW.drawn mixed (by kernel_rfl) ?_
  refine RegD.addN 8 (by simp [w1, w2, c1, c2, c3, c4, c5, c6, h3]; first | exact ⟨rfl, rfl⟩ | rfl) ?_
  refine RegD.cert (Cert.callA rfl (by simp) rfl (by decide) (by simp [w1, w2, c1, c2, c3, c4, c5, c6, h3]; exact ⟨rfl, rfl⟩) (by simp [w1, w2, c1, c2, c3, c4, c5, c6, h3]; rfl) (by exact l10Size_spec) rfl (by simp) (by simp; rfl) rfl) ?_
  refine RegD.addN 4 (by simp [w1, w2, c1, c2, c3, c4, c5, c6, h3]; first | exact ⟨rfl, rfl⟩ | rfl) ?_
  refine ⟨by kernel_rfl, ?_⟩
  refine DW.ret ?_
  simp [Try.results99, keepS]
theorem specFence_spec (k : ByteArray) (l : List Cell) (hk : k.size < 2 ^ 40) (hl : l.length < 2 ^ 40) : Spec Try.prog 46 [raMemory ⟨k, l⟩] [some 2] (dM (fenceM ⟨k, l⟩)) [raMemory ⟨k, l⟩] := by
  refine Spec.intro Try.func46 rfl rfl Try.ntmps46 rfl (by simp) ?_
  refine DW.seq ?_
  refine DW.reg (by simp; rfl) ?_
  refine DW.seq ?_
  refine DW.seq ?_
  refine DW.regs ?_
  refine RegO.opN 1 (by simp; rfl) ?_
  refine RegO.step rfl (OpStep.callA rfl (by simp; exact ⟨rfl, rfl⟩) (by simp; rfl) (by exact specOk_spec _ _ hk hl) (by simp) (by simp; rfl)) ?_
  refine RegO.opN 1 (by simp; rfl) ?_
  refine RegO.nil ?_
  refine DW.condB (by simp; exact rfl) (fun hc0 => ?_) (fun hc0 => ?_)
  · have hok : memOk k l = false := by simpa using hc0
    have hres : fenceM ⟨k, l⟩ = ⟨k, l⟩ := by simp [fenceM, hok]
    refine DW.seq ?_
    refine DW.regs ?_
    refine RegO.opN 1 (by simp; rfl) ?_
    refine RegO.step rfl (OpStep.callA rfl (by simp; exact ⟨rfl, rfl⟩) (by simp; rfl) (by exact l10Copy_spec _ _ hl) (by simp) (by simp; rfl)) ?_
    refine RegO.opN 1 (by simp; rfl) ?_
    refine RegO.nil ?_
    refine DW.ret ?_
    simp [Try.results46, hres, rD_len_Cell]
  · have hok : memOk k l = true := by simpa using hc0
    have hres : fenceM ⟨k, l⟩ = ⟨keptS k l, leftC l⟩ := by simp [fenceM, hok]
    have hf := memOk_fits hok
    refine DW.skip ?_
    refine DW.seq ?_
    refine DW.reg (by simp; rfl) ?_
    refine DW.ghost (Ghost.wide 3 [1] 3 (by simp; rfl) (by simp)) ?_
    refine DW.seq ?_
    refine DW.seq ?_
    refine DW.reg (by simp; rfl) ?_
    refine DW.block ?_
    refine DW.loopS (α := Nat) (fun i => i ≤ l.length) (fun i => l.length - i) (fun i => [(4, vi i)]) (fun i => [(3, .ow () 2 1 (dMem (keptS k (l.take i)) (leftC (l.take i))))]) [(1, _), (2, _), (3, _)] [(1, _), (2, _)] [] 0 (Nat.zero_le _) (by simp; exact ⟨rfl, rfl, rfl⟩) (by simp [keptS_nil, leftC]; exact ⟨rfl, rfl⟩) (by simp) (by rfl) ?_
    rintro i hi
    refine DW.seq ?_
    refine DW.seq ?_
    refine DW.reg (by simp; rfl) ?_
    refine DW.condB (by simp; exact rfl) (fun hc1 => ?_) (fun hc1 => ?_)
    · have hlt : i < l.length := by simpa using hc1
      have hlt' : (i : Int) < l.length := by omega
      have hd := rR_drop_Cell l i hlt
      have w1 : IntKind.i64.wrap ((i : Int) + 1) = ((i + 1 : Nat) : Int) := (wr _ (by omega) (by omega)).trans (by omega)
      have hfc := hf _ (List.getElem_mem hlt)
      have hks := keptS_size (k := k) (l := l.take i) fun c hc => hf c (List.mem_of_mem_take hc)
      have hK1 := keptS_flushed (k := k) hlt hf
      have hK2 := keptS_left (k := k) hlt
      have hL1 := leftC_flushed hlt
      have hL2 := leftC_left hlt
      generalize l[i] = c at hd hfc hK1 hK2 hL1 hL2
      have hll := leftC_len l i hi
      have b1 : ((leftC (l.take i)).length + 1) * 32 ≤ 140737488355328 := by omega
      have b2 : (leftC (l.take i)).length + 1 ≤ 140737488355328 := by omega
      have b3 : ((leftC (l.take i)).length + 1) * 3 ≤ (leftC (l.take i)).length * 3 + 3 := by omega
      have hT := take_snoc (leftC (l.take i)) c
      refine DW.skip ?_
      refine DW.seq ?_
      refine DW.block ?_
      refine DW.seq ?_
      refine DW.reg (by simp [hd, hlt']; rfl) ?_
      refine DW.condB (by simp; exact rfl) (fun hc2 => ?_) (fun hc2 => ?_)
      · have hcf : c.Flushed = true := by simpa using hc2
        have hK := hK1 hcf
        have hL := hL1 hcf
        refine DW.drawn mixed (by kernel_rfl) ?_
        refine RegD.addN 7 (by simp [hd, hlt']; first | exact ⟨rfl, rfl⟩ | rfl) ?_
        refine RegD.cert (Cert.callA rfl (by simp) rfl (by decide) (by simp; exact ⟨rfl, rfl⟩) (by simp; rfl) (by exact l10Keep_spec _ c (by rw [hks]; exact hk) (by rw [hks]; exact hfc)) rfl (by simp) (by simp; rfl) rfl) ?_
        refine RegD.addN 1 (by simp [hd, hlt']; first | exact ⟨rfl, rfl⟩ | rfl) ?_
        refine RegD.heavyF (by simp) (by simp; rfl) ?_
        refine RegD.nil ⟨by kernel_rfl, ?_⟩
        refine DW.reg (by simp [w1]; rfl) ?_
        exact ⟨i + 1, hlt, by omega, by simp, by simp [hK, hL, rD_append] <;> rfl, by simp, by rfl⟩
      · have hcf : c.Flushed = false := by simpa using hc2
        have hK := hK2 hcf
        have hL := hL2 hcf
        refine DW.drawn mixed (by kernel_rfl) ?_
        refine RegD.addN 7 (by simp [hd, hlt', b1, b2, b3, hT, rD_len_Cell]; first | exact ⟨rfl, rfl⟩ | rfl) ?_
        refine RegD.cert (Cert.buildRo (rcs := Cell.r c) rfl rfl rfl (by decide) (by simp; exact ⟨rfl, rfl⟩) (by simp; rfl) (by simp; rfl) (by rfl) (by decide) (by decide) (by simp; rfl) (by simp; rfl) (by rfl) (by simp)) ?_
        refine RegD.heavyF (by simp) (by simp [hd, hlt', b1, b2, b3, hT, rD_len_Cell]; rfl) ?_
        refine RegD.addN 1 (by simp [hd, hlt', b1, b2, b3, hT, rD_len_Cell]; first | exact ⟨rfl, rfl⟩ | rfl) ?_
        refine RegD.heavyF (by simp) (by simp [hd, hlt', b1, b2, b3, hT, rD_len_Cell]; rfl) ?_
        refine RegD.nil ⟨by kernel_rfl, ?_⟩
        refine DW.reg (by simp [w1]; rfl) ?_
        exact ⟨i + 1, hlt, by omega, by simp, by simp [hK, hL, rD_append] <;> rfl, by simp, by rfl⟩
    · have hil : i = l.length := by
        have : ¬ i < l.length := by simpa using hc1
        omega
      subst hil
      rw [List.take_length]
      refine DW.exit ?_
      refine DW.seq ?_
      refine DW.reg (by simp; rfl) ?_
      refine DW.ret ?_
      simp [Try.results46, hres, rD_len_Cell]
end Go.Proofs.Ytjjdjkkhhcbogaa.DM

namespace Go.Proofs.Ytjjdjkkhhcbogaa.DM
set_option linter.unusedVariables false
set_option linter.unusedSimpArgs false
set_option maxRecDepth 4000
set_option maxHeartbeats 8000000
theorem take_set (l : List Cell) (i : Nat) (x : Cell) : List.take (l.length * 3) (rD (l.set i x)) = rD (l.set i x) := List.take_of_length_le (by rw [rD_len_Cell, List.length_set]; exact Nat.le_refl _)
def flushAt (l : List Cell) (i : Nat) : List Cell := match l[i]? with | some c => l.set i c.flush | none => l
def flushM (m : Memory) (line : Int) : Memory := if 0 ≤ cellIx m.Cells line then (if memOk m.Kept m.Cells then ⟨m.Kept, flushAt m.Cells (cellIx m.Cells line).toNat⟩ else m) else m

theorem specFlush_spec (k : ByteArray) (l : List Cell) (line : Int) (hk : k.size < 2 ^ 40) (hl : l.length < 2 ^ 40) : Spec Try.prog 66 [raMemory ⟨k, l⟩, ri line] [some 2] (dM (flushM ⟨k, l⟩ line)) [raMemory ⟨k, l⟩, ri line] := by
  refine Spec.intro Try.func66 rfl rfl Try.ntmps66 rfl (by simp) ?_
  refine DW.seq ?_
  refine DW.reg (by simp; rfl) ?_
  refine DW.seq ?_
  refine DW.regs ?_
  refine RegO.opN 1 (by simp; rfl) ?_
  refine RegO.step rfl (OpStep.callA rfl (by simp; exact ⟨rfl, rfl⟩) (by simp; rfl) (by exact l10Copy_spec _ _ hl) (by simp) (by simp; rfl)) ?_
  refine RegO.opN 2 (by simp; rfl) ?_
  refine RegO.nil ?_
  refine DW.seq ?_
  refine DW.regs ?_
  refine RegO.opN 2 (by simp; rfl) ?_
  refine RegO.step rfl (OpStep.callA rfl (by simp; exact ⟨rfl, rfl⟩) (by simp; rfl) (by exact l10Cell_spec _ _ _ hl) (by simp) (by simp; rfl)) ?_
  refine RegO.opN 1 (by simp; rfl) ?_
  refine RegO.nil ?_
  refine DW.seq ?_
  refine DW.seq ?_
  by_cases hp : 0 ≤ cellIx l line
  · skip
    refine DW.regs ?_
    refine RegO.opN 4 (by simp [hp]; rfl) ?_
    refine RegO.guard (b := true) (by simp [hp]) (fun _ => ⟨_, (OpStep.callA rfl (by simp [hp]; exact ⟨rfl, rfl⟩) (by simp [hp]; rfl) (by exact specOk_spec _ _ hk hl) (by simp) (by simp [hp]; rfl)).toE, fun _ e => e ▸ ?_⟩) (fun h => by cases h)
    refine RegO.opN 1 (by simp [hp]; rfl) ?_
    refine RegO.nil ?_
    refine DW.condB (by simp [hp]; exact rfl) (fun hc0 => ?_) (fun hc0 => ?_)
    · have hok : memOk k l = true := by simpa [hp] using hc0
      have hres : flushM ⟨k, l⟩ line = ⟨k, flushAt l (cellIx l line).toNat⟩ := by simp [flushM, hp, hok]
      have hi : (cellIx l line).toNat < l.length := by rcases cellIx_bd l line with h | h <;> omega
      have hml : cellIx l line < l.length := by omega
      have hcm : l[(cellIx l line).toNat]? = some l[(cellIx l line).toNat] := List.getElem?_eq_getElem hi
      have ha := cD_at l _ 2 hi (by omega)
      have hs := cD_set l _ 2 hi (by omega) (Cell.flush l[(cellIx l line).toNat]) (.sc (.bool true)) rfl
      simp only [Cell.d, List.getElem?_cons_succ, List.getElem?_cons_zero] at ha
      have hfl : flushAt l (cellIx l line).toNat = l.set (cellIx l line).toNat l[(cellIx l line).toNat].flush := by simp only [flushAt, hcm]
      rw [hfl] at hres
      refine DW.reg (by simp [hp, hml, ha, hs]; rfl) ?_
      refine DW.seq ?_
      refine DW.reg (by simp [hp, hml, ha, hs]; rfl) ?_
      refine DW.ret ?_
      simp [Try.results66, hres, rD_len_Cell, take_set]
    · have hok : memOk k l = false := by simpa [hp] using hc0
      have hres : flushM ⟨k, l⟩ line = ⟨k, l⟩ := by simp [flushM, hp, hok]
      refine DW.skip ?_
      refine DW.seq ?_
      refine DW.reg (by simp [hp]; rfl) ?_
      refine DW.ret ?_
      simp [Try.results66, hres, rD_len_Cell, take_set]
  · have hres : flushM ⟨k, l⟩ line = ⟨k, l⟩ := by simp [flushM, hp]
    have hnp := hp
    refine DW.regs ?_
    refine RegO.opN 4 (by simp [hnp]; rfl) ?_
    refine RegO.guard (b := false) (by simp [hnp]) (fun h => by cases h) (fun _ => ⟨by simp, ?_⟩)
    refine RegO.opN 1 (by simp [hnp]; rfl) ?_
    refine RegO.nil ?_
    refine DW.condF (by simp [hnp]) ?_
    refine DW.skip ?_
    refine DW.seq ?_
    refine DW.reg (by simp [hnp]; rfl) ?_
    refine DW.ret ?_
    simp [Try.results66, hres, rD_len_Cell, take_set]
end Go.Proofs.Ytjjdjkkhhcbogaa.DM

namespace Go.Proofs.Ytjjdjkkhhcbogaa.DM
set_option linter.unusedVariables false
set_option linter.unusedSimpArgs false
set_option maxRecDepth 4000
set_option maxHeartbeats 8000000
theorem lineS_size {k : ByteArray} {l : List Cell} (h : memOk k l = true) (line : Int) (h0 : 0 ≤ line) (h1 : (line + 1) * 16 ≤ k.size) : (lineS k l line).size = 16 := by
  unfold lineS
  split
  · have hi : (cellIx l line).toNat < l.length := by rcases cellIx_bd l line with h | h <;> omega
    rw [List.getElem?_eq_getElem hi]
    exact (memOk_fits h _ (List.getElem_mem hi)).2.2
  · rw [ByteArray.size_extract]; omega
def wordIn (s w : ByteArray) (k : Nat) : ByteArray := (s.extract 0 k ++ w) ++ s.extract (k + 8) s.size
def putAt (k : ByteArray) (l : List Cell) (n : Nat) (w : ByteArray) : Cell := ⟨((n / 2 : Nat) : Int), wordIn (lineS k l ((n / 2 : Nat) : Int)) w (n % 2 * 8), false⟩
def fillS (x : Cell) : Bool → List Cell → List Cell
  | b, [] => if b then [] else [x]
  | b, c :: l => ((if !b && decide (x.Line ≤ c.Line) then [x] else []) ++ (if c.Line = x.Line then [] else [c])) ++ fillS x (b || decide (x.Line ≤ c.Line)) l

theorem l10Store_spec (k : ByteArray) (l : List Cell) (n : Nat) (w : ByteArray) (hok : memOk k l = true) (hw : w.size = 8) (hn : n < k.size / 8) (hk : k.size < 2 ^ 40) (hl : l.length < 2 ^ 40) : Spec Try.prog 86 [raMemory ⟨k, l⟩, ri n, rs w] [some 2] (dM ⟨k, fillS (putAt k l n w) false l⟩) [raMemory ⟨k, l⟩, ri n, rs w] := by
  refine Spec.intro Try.func86 rfl rfl Try.ntmps86 rfl (by simp) ?_
  obtain ⟨hm16, hsz, _⟩ := memOk_all hok
  obtain ⟨q, hq⟩ : ∃ q : Nat, q = n / 2 := ⟨_, rfl⟩
  obtain ⟨m, hm⟩ : ∃ m : Nat, m = n % 2 := ⟨_, rfl⟩
  obtain ⟨r, hr⟩ : ∃ r : Nat, r = m * 8 := ⟨_, rfl⟩
  obtain ⟨r2, hr2⟩ : ∃ r2 : Nat, r2 = r + 8 := ⟨_, rfl⟩
  have hls := lineS_size hok (q : Int) (by omega) (by omega)
  have w1 : IntKind.i64.wrap ((n : Int) / 2) = (q : Int) := (wr _ (by omega) (by omega)).trans (by omega)
  have w2 : (n : Int).tmod 2 = (m : Int) := by rw [Int.tmod_eq_emod_of_nonneg (by omega)]; omega
  have w3 : IntKind.i64.wrap ((m : Int) * 8) = (r : Int) := (wr _ (by omega) (by omega)).trans (by omega)
  have w4 : IntKind.i64.wrap ((r : Int) + 8) = (r2 : Int) := (wr _ (by omega) (by omega)).trans (by omega)
  have c1 : r ≤ 16 := by omega
  have c2 : r2 ≤ 16 := by omega
  have c3 : (r : Int) ≤ 16 := by omega
  have c4 : (r2 : Int) ≤ 16 := by omega
  have c5 : ¬ 9223372036854775807 < (r : Int) + 8 := by omega
  have c6 : ¬ 9223372036854775807 < (r : Int) + 8 + ((16 - r2 : Nat) : Int) := by omega
  have hT0 : putAt k l n w = ⟨(q : Int), (lineS k l q).extract 0 r ++ w ++ (lineS k l q).extract r2 16, false⟩ := by simp only [putAt, ← hq, ← hm, ← hr, wordIn, ← hr2, hls]
  refine DW.seq ?_
  refine DW.reg (by simp [w1, w2, w3, w4]; rfl) ?_
  refine DW.seq ?_
  refine DW.reg (by simp [w1, w2, w3, w4]; rfl) ?_
  refine DW.seq ?_
  refine DW.reg (by simp [w1, w2, w3, w4]; rfl) ?_
  refine DW.seq ?_
  refine DW.regs ?_
  refine RegO.opN 2 (by simp [w1, w2, w3, w4]; rfl) ?_
  refine RegO.step rfl (OpStep.callA rfl (by simp [w1, w2, w3, w4]; exact ⟨rfl, rfl⟩) (by simp [w1, w2, w3, w4]; rfl) (by exact l10Line_spec _ _ _ hl (by omega) (fun _ => by omega) hk) (by simp) (by simp [w1, w2, w3, w4]; rfl)) ?_
  refine RegO.opN 1 (by simp [w1, w2, w3, w4]; rfl) ?_
  refine RegO.nil ?_
  refine DW.seq ?_
  refine DW.drawn mixed (by kernel_rfl) ?_
  refine RegD.addN 12 (by simp [w1, w2, w3, w4, c1, c2, c3, c4, c5, c6, hls, hw]; first | exact ⟨rfl, rfl⟩ | rfl) ?_
  refine RegD.cert (Cert.alloc rfl rfl rfl (by decide) (by simp; rfl) (by rfl) (by decide) (by simp)) ?_
  refine RegD.heavyF (by simp) (by simp [w1, w2, w3, w4, c1, c2, c3, c4, c5, c6, hls, hw]; rfl) ?_
  refine RegD.nil ⟨by kernel_rfl, ?_⟩
  refine DW.seq ?_
  refine DW.reg (by simp [w1, w2, w3, w4]; rfl) ?_
  refine DW.ghost (Ghost.wide 11 [1] 3 (by simp; rfl) (by simp)) ?_
  refine DW.seq ?_
  refine DW.reg (by simp [w1, w2, w3, w4]; rfl) ?_
  refine DW.seq ?_
  refine DW.seq ?_
  refine DW.reg (by simp [w1, w2, w3, w4]; rfl) ?_
  generalize (lineS k l q).extract 0 r ++ w ++ (lineS k l q).extract r2 16 = T0 at *
  refine DW.block ?_
  refine DW.loopS (α := Nat × Bool × List Cell) (fun a => a.1 ≤ l.length ∧ a.2.2.length ≤ 2 * a.1 ∧ a.2.2 ++ fillS (⟨(q : Int), T0, false⟩ : Cell) a.2.1 (l.drop a.1) = fillS (⟨(q : Int), T0, false⟩ : Cell) false l) (fun a => l.length - a.1) (fun a => [(13, vi a.1), (12, .v (.one (.t (.sc (.bool a.2.1)))))]) (fun a => [(11, .ow () 2 1 (dMem k a.2.2))]) [(3, _), (6, _), (7, _), (10, _), (11, _)] [(3, _), (6, _), (10, _)] [] (0, false, []) (⟨Nat.zero_le _, by simp, by simp⟩) (by simp; exact ⟨rfl, rfl, rfl, rfl, rfl⟩) (by simp; exact ⟨rfl, rfl, rfl⟩) (by simp) (by rfl) ?_
  rintro ⟨i, b, acc⟩ ⟨hi, hal, hacc⟩
  dsimp only at hi hal hacc
  refine DW.seq ?_
  refine DW.seq ?_
  refine DW.reg (by simp [w1, w2, w3, w4]; rfl) ?_
  refine DW.condB (by simp [w1, w2, w3, w4]; exact rfl) (fun hc0 => ?_) (fun hc0 => ?_)
  · have hlt : i < l.length := by simpa using hc0
    have hlt' : (i : Int) < l.length := by omega
    have hd := rR_drop_Cell l i hlt
    have hdl : l.drop i = l[i] :: l.drop (i + 1) := List.drop_eq_getElem_cons hlt
    have w1 : IntKind.i64.wrap ((i : Int) + 1) = ((i + 1 : Nat) : Int) := (wr _ (by omega) (by omega)).trans (by omega)
    generalize l[i] = c at hd hdl
    have hT1 := take_snoc acc (⟨(q : Int), T0, false⟩ : Cell)
    dsimp only at hT1
    have b1 : (acc.length + 1) * 32 ≤ 140737488355328 := by omega
    have b2 : acc.length + 1 ≤ 140737488355328 := by omega
    have b3 : (acc.length + 1) * 3 ≤ acc.length * 3 + 3 := by omega
    refine DW.skip ?_
    refine DW.seq ?_
    refine DW.block ?_
    refine DW.seq ?_
    refine DW.seq ?_
    have hla : (!true) = false := rfl
    have hxd : rD [(⟨(q : Int), T0, false⟩ : Cell)] = [.sc (.int .i64 q), .sc (.string T0), .sc (.bool false)] := rfl
    cases b
    · skip
      refine DW.reg (by simp [w1, w2, w3, w4, hd, hlt']; rfl) ?_
      refine DW.condB (by simp [w1, w2, w3, w4]; exact rfl) (fun hc1 => ?_) (fun hc1 => ?_)
      · have hge : (q : Int) ≤ c.Line := by simpa using hc1
        refine DW.seq ?_
        refine DW.reg (by simp [w1, w2, w3, w4, hge, hT1, b1, b2, b3, rD_len_Cell]; rfl) ?_
        refine DW.reg (by simp [w1, w2, w3, w4, hge]; rfl) ?_
        refine DW.seq ?_
        obtain ⟨acc1, hacc1⟩ : ∃ a : List Cell, a = acc ++ [(⟨(q : Int), T0, false⟩ : Cell)] := ⟨_, rfl⟩
        refine DW.norm [(3, _), (6, _), (7, _), (10, _), (11, _), (13, _), (12, .v (.one (.t (.sc (.bool true)))))] [(3, _), (6, _), (10, _), (11, .ow () 2 1 (dMem k acc1))] [] (by simp; exact ⟨rfl, rfl, rfl, rfl, rfl, rfl⟩) (by simp [hacc1, rD_append, rD_len_Cell, hxd]; exact ⟨rfl, rfl, rfl⟩) (by simp) (by rfl) ?_
        have hl1 : acc1.length ≤ 2 * i + 1 := by rw [hacc1]; first | omega | (simp; omega)
        have d1 : (acc1.length + 1) * 32 ≤ 140737488355328 := by omega
        have d2 : acc1.length + 1 ≤ 140737488355328 := by omega
        have d3 : (acc1.length + 1) * 3 ≤ acc1.length * 3 + 3 := by omega
        have hT2 := take_snoc acc1 c
        refine DW.reg (by simp [w1, w2, w3, w4, hge, hd, hlt']; rfl) ?_
        refine DW.condB (by simp [w1, w2, w3, w4, hge]; exact rfl) (fun hc2 => ?_) (fun hc2 => ?_)
        · have hne : ¬ c.Line = q := by simpa using hc2
          refine DW.drawn mixed (by kernel_rfl) ?_
          refine RegD.addN 7 (by simp [w1, w2, w3, w4, hge, hne, hd, hlt', d1, d2, d3, hT2, rD_len_Cell]; first | exact ⟨rfl, rfl⟩ | rfl) ?_
          refine RegD.cert (Cert.buildRo (rcs := Cell.r c) rfl rfl rfl (by decide) (by simp; exact ⟨rfl, rfl⟩) (by simp; rfl) (by simp; rfl) (by rfl) (by decide) (by decide) (by simp; rfl) (by simp; rfl) (by rfl) (by simp)) ?_
          refine RegD.heavyF (by simp) (by simp [w1, w2, w3, w4, hge, hne, hd, hlt', d1, d2, d3, hT2, rD_len_Cell]; rfl) ?_
          refine RegD.addN 1 (by simp [w1, w2, w3, w4, hge, hne, hd, hlt', d1, d2, d3, hT2, rD_len_Cell]; first | exact ⟨rfl, rfl⟩ | rfl) ?_
          refine RegD.heavyF (by simp) (by simp [w1, w2, w3, w4, hge, hne, hd, hlt', d1, d2, d3, hT2, rD_len_Cell]; rfl) ?_
          refine RegD.nil ⟨by kernel_rfl, ?_⟩
          refine DW.reg (by simp [w1, w2, w3, w4, hge, hne, w1]; rfl) ?_
          refine ⟨(i + 1, true, acc1 ++ [c]), ⟨hlt, by simp; omega, ?_⟩, by simp; omega, by simp, by simp [rD_append] <;> rfl, by simp, by rfl⟩
          rw [← hacc, hdl, hacc1]
          simp [fillS, w1, w2, w3, w4, hge, hne]
        · have heq : c.Line = q := by simpa using hc2
          refine DW.skip ?_
          refine DW.reg (by simp [w1, w2, w3, w4, hge, heq, w1]; rfl) ?_
          refine ⟨(i + 1, true, acc1), ⟨hlt, by show acc1.length ≤ 2 * (i + 1); omega, ?_⟩, by simp; omega, by simp, by simp [rD_append] <;> rfl, by simp, by rfl⟩
          rw [← hacc, hdl, hacc1]
          simp [fillS, w1, w2, w3, w4, hge, heq]
      · have hng : ¬ (q : Int) ≤ c.Line := by simpa using hc1
        refine DW.skip ?_
        refine DW.seq ?_
        obtain ⟨acc1, hacc1⟩ : ∃ a : List Cell, a = acc := ⟨_, rfl⟩
        refine DW.norm [(3, _), (6, _), (7, _), (10, _), (11, _), (13, _), (12, .v (.one (.t (.sc (.bool false)))))] [(3, _), (6, _), (10, _), (11, .ow () 2 1 (dMem k acc1))] [] (by simp; exact ⟨rfl, rfl, rfl, rfl, rfl, rfl⟩) (by simp [hacc1, rD_append, rD_len_Cell, hxd]; exact ⟨rfl, rfl, rfl⟩) (by simp) (by rfl) ?_
        have hl1 : acc1.length ≤ 2 * i + 1 := by rw [hacc1]; first | omega | (simp; omega)
        have d1 : (acc1.length + 1) * 32 ≤ 140737488355328 := by omega
        have d2 : acc1.length + 1 ≤ 140737488355328 := by omega
        have d3 : (acc1.length + 1) * 3 ≤ acc1.length * 3 + 3 := by omega
        have hT2 := take_snoc acc1 c
        refine DW.reg (by simp [w1, w2, w3, w4, hng, hd, hlt']; rfl) ?_
        refine DW.condB (by simp [w1, w2, w3, w4, hng]; exact rfl) (fun hc3 => ?_) (fun hc3 => ?_)
        · have hne : ¬ c.Line = q := by simpa using hc3
          refine DW.drawn mixed (by kernel_rfl) ?_
          refine RegD.addN 7 (by simp [w1, w2, w3, w4, hng, hne, hd, hlt', d1, d2, d3, hT2, rD_len_Cell]; first | exact ⟨rfl, rfl⟩ | rfl) ?_
          refine RegD.cert (Cert.buildRo (rcs := Cell.r c) rfl rfl rfl (by decide) (by simp; exact ⟨rfl, rfl⟩) (by simp; rfl) (by simp; rfl) (by rfl) (by decide) (by decide) (by simp; rfl) (by simp; rfl) (by rfl) (by simp)) ?_
          refine RegD.heavyF (by simp) (by simp [w1, w2, w3, w4, hng, hne, hd, hlt', d1, d2, d3, hT2, rD_len_Cell]; rfl) ?_
          refine RegD.addN 1 (by simp [w1, w2, w3, w4, hng, hne, hd, hlt', d1, d2, d3, hT2, rD_len_Cell]; first | exact ⟨rfl, rfl⟩ | rfl) ?_
          refine RegD.heavyF (by simp) (by simp [w1, w2, w3, w4, hng, hne, hd, hlt', d1, d2, d3, hT2, rD_len_Cell]; rfl) ?_
          refine RegD.nil ⟨by kernel_rfl, ?_⟩
          refine DW.reg (by simp [w1, w2, w3, w4, hng, hne, w1]; rfl) ?_
          refine ⟨(i + 1, false, acc1 ++ [c]), ⟨hlt, by simp; omega, ?_⟩, by simp; omega, by simp, by simp [rD_append] <;> rfl, by simp, by rfl⟩
          rw [← hacc, hdl, hacc1]
          simp [fillS, w1, w2, w3, w4, hng, hne]
        · have heq : c.Line = q := by simpa using hc3
          exact absurd (by omega) hng
    · skip
      refine DW.reg (by simp [w1, w2, w3, w4, hla, hd, hlt']; rfl) ?_
      refine DW.condF (by simp [w1, w2, w3, w4, hla]) ?_
      refine DW.skip ?_
      refine DW.seq ?_
      obtain ⟨acc1, hacc1⟩ : ∃ a : List Cell, a = acc := ⟨_, rfl⟩
      refine DW.norm [(3, _), (6, _), (7, _), (10, _), (11, _), (13, _), (12, .v (.one (.t (.sc (.bool true)))))] [(3, _), (6, _), (10, _), (11, .ow () 2 1 (dMem k acc1))] [] (by simp; exact ⟨rfl, rfl, rfl, rfl, rfl, rfl⟩) (by simp [hacc1, rD_append, rD_len_Cell, hxd]; exact ⟨rfl, rfl, rfl⟩) (by simp) (by rfl) ?_
      have hl1 : acc1.length ≤ 2 * i + 1 := by rw [hacc1]; first | omega | (simp; omega)
      have d1 : (acc1.length + 1) * 32 ≤ 140737488355328 := by omega
      have d2 : acc1.length + 1 ≤ 140737488355328 := by omega
      have d3 : (acc1.length + 1) * 3 ≤ acc1.length * 3 + 3 := by omega
      have hT2 := take_snoc acc1 c
      refine DW.reg (by simp [w1, w2, w3, w4, hla, hd, hlt']; rfl) ?_
      refine DW.condB (by simp [w1, w2, w3, w4, hla]; exact rfl) (fun hc2 => ?_) (fun hc2 => ?_)
      · have hne : ¬ c.Line = q := by simpa using hc2
        refine DW.drawn mixed (by kernel_rfl) ?_
        refine RegD.addN 7 (by simp [w1, w2, w3, w4, hla, hne, hd, hlt', d1, d2, d3, hT2, rD_len_Cell]; first | exact ⟨rfl, rfl⟩ | rfl) ?_
        refine RegD.cert (Cert.buildRo (rcs := Cell.r c) rfl rfl rfl (by decide) (by simp; exact ⟨rfl, rfl⟩) (by simp; rfl) (by simp; rfl) (by rfl) (by decide) (by decide) (by simp; rfl) (by simp; rfl) (by rfl) (by simp)) ?_
        refine RegD.heavyF (by simp) (by simp [w1, w2, w3, w4, hla, hne, hd, hlt', d1, d2, d3, hT2, rD_len_Cell]; rfl) ?_
        refine RegD.addN 1 (by simp [w1, w2, w3, w4, hla, hne, hd, hlt', d1, d2, d3, hT2, rD_len_Cell]; first | exact ⟨rfl, rfl⟩ | rfl) ?_
        refine RegD.heavyF (by simp) (by simp [w1, w2, w3, w4, hla, hne, hd, hlt', d1, d2, d3, hT2, rD_len_Cell]; rfl) ?_
        refine RegD.nil ⟨by kernel_rfl, ?_⟩
        refine DW.reg (by simp [w1, w2, w3, w4, hla, hne, w1]; rfl) ?_
        refine ⟨(i + 1, true, acc1 ++ [c]), ⟨hlt, by simp; omega, ?_⟩, by simp; omega, by simp, by simp [rD_append] <;> rfl, by simp, by rfl⟩
        rw [← hacc, hdl, hacc1]
        simp [fillS, w1, w2, w3, w4, hla, hne]
      · have heq : c.Line = q := by simpa using hc2
        refine DW.skip ?_
        refine DW.reg (by simp [w1, w2, w3, w4, hla, heq, w1]; rfl) ?_
        refine ⟨(i + 1, true, acc1), ⟨hlt, by show acc1.length ≤ 2 * (i + 1); omega, ?_⟩, by simp; omega, by simp, by simp [rD_append] <;> rfl, by simp, by rfl⟩
        rw [← hacc, hdl, hacc1]
        simp [fillS, w1, w2, w3, w4, hla, heq]
  · have hil : i = l.length := by
      have : ¬ i < l.length := by simpa using hc0
      omega
    subst hil
    rw [List.drop_length] at hacc
    have hT1 := take_snoc acc (⟨(q : Int), T0, false⟩ : Cell)
    dsimp only at hT1
    have b1 : (acc.length + 1) * 32 ≤ 140737488355328 := by omega
    have b2 : acc.length + 1 ≤ 140737488355328 := by omega
    have b3 : (acc.length + 1) * 3 ≤ acc.length * 3 + 3 := by omega
    refine DW.exit ?_
    refine DW.seq ?_
    refine DW.seq ?_
    have hla : (!true) = false := rfl
    cases b
    · have hfin : fillS (putAt k l n w) false l = acc ++ [(⟨(q : Int), T0, false⟩ : Cell)] := by rw [hT0, ← hacc]; simp [fillS]
      refine DW.reg (by simp [w1, w2, w3, w4]; rfl) ?_
      refine DW.condT (by simp [w1, w2, w3, w4]) ?_
      refine DW.reg (by simp [w1, w2, w3, w4, hT1, b1, b2, b3, rD_len_Cell]; rfl) ?_
      refine DW.seq ?_
      refine DW.reg (by simp [w1, w2, w3, w4, hT1, b3, rD_len_Cell]; rfl) ?_
      refine DW.ret ?_
      rw [hfin]
      simp [Try.results86, hT1, b3, rD_len_Cell, rD_append] <;> rfl
    · have hfin : fillS (putAt k l n w) false l = acc := by rw [hT0, ← hacc]; simp [fillS]
      refine DW.reg (by simp [w1, w2, w3, w4, hla]; rfl) ?_
      refine DW.condF (by simp [w1, w2, w3, w4, hla]) ?_
      refine DW.skip ?_
      refine DW.seq ?_
      refine DW.reg (by simp [w1, w2, w3, w4, hla, hT1, b3, rD_len_Cell]; rfl) ?_
      refine DW.ret ?_
      rw [hfin]
      simp [Try.results86, hT1, b3, rD_len_Cell, rD_append] <;> rfl
end Go.Proofs.Ytjjdjkkhhcbogaa.DM

namespace Go.Proofs.Ytjjdjkkhhcbogaa.DM
set_option linter.unusedVariables false
set_option linter.unusedSimpArgs false
set_option maxRecDepth 4000
set_option maxHeartbeats 8000000
theorem fillS_len (x : Cell) : ∀ (l : List Cell) (b : Bool), (fillS x b l).length ≤ l.length + 1 ∧ (fillS x true l).length ≤ l.length
  | [], b => by cases b <;> simp [fillS]
  | c :: l, b => by
    have h1 := fillS_len x l true
    have h2 := fillS_len x l false
    have h3 := (fillS_len x l (decide (x.Line ≤ c.Line))).1
    constructor
    · cases b
      · by_cases hc : x.Line ≤ c.Line
        · by_cases he : c.Line = x.Line <;> simp [fillS, hc, he] <;> omega
        · by_cases he : c.Line = x.Line <;> simp [fillS, hc, he] <;> omega
      · by_cases he : c.Line = x.Line <;> simp [fillS, he] <;> omega
    · by_cases he : c.Line = x.Line <;> simp [fillS, he] <;> omega
def storeM (m : Memory) (at_ : Int) (w : ByteArray) : Memory := if memOk m.Kept m.Cells then (if w.size = 8 then (if inB at_ 0 ((m.Kept.size : Int) / 8 - 1) then ⟨m.Kept, fillS (putAt m.Kept m.Cells at_.toNat w) false m.Cells⟩ else m) else m) else m

theorem specWord_spec (k : ByteArray) (l : List Cell) (x : Int) (w : ByteArray) (hk : k.size < 2 ^ 40) (hl : l.length < 2 ^ 40) : Spec Try.prog 27 [raMemory ⟨k, l⟩, ri x, rs w] [some 2] (dM (storeM ⟨k, l⟩ x w)) [raMemory ⟨k, l⟩, ri x, rs w] := by
  refine Spec.intro Try.func27 rfl rfl Try.ntmps27 rfl (by simp) ?_
  have wq : IntKind.i64.wrap ((k.size : Int) / 8 - 1) = (k.size : Int) / 8 - 1 := wr _ (by omega) (by omega)
  refine DW.seq ?_
  refine DW.reg (by simp; rfl) ?_
  refine DW.seq ?_
  refine DW.seq ?_
  have h3 : memOk k l = false ∨ (memOk k l = true ∧ ((w.size : Int) != 8) = true) ∨ (memOk k l = true ∧ w.size = 8) := by
    cases memOk k l
    · exact .inl rfl
    · by_cases hw : w.size = 8
      · exact .inr (.inr ⟨rfl, hw⟩)
      · exact .inr (.inl ⟨rfl, by simp; omega⟩)
  rcases h3 with hok | ⟨hok, hnw⟩ | ⟨hok, hw⟩
  · have hres : storeM ⟨k, l⟩ x w = ⟨k, l⟩ := by simp [storeM, hok]
    refine DW.regs ?_
    refine RegO.opN 1 (by simp [hok]; rfl) ?_
    refine RegO.step rfl (OpStep.callA rfl (by simp [hok]; exact ⟨rfl, rfl⟩) (by simp [hok]; rfl) (by exact specOk_spec _ _ hk hl) (by simp) (by simp [hok]; rfl)) ?_
    refine RegO.opN 9 (by simp [hok]; rfl) ?_
    refine RegO.guard (b := false) (by simp [hok]) (fun h => by cases h) (fun _ => ⟨by simp, ?_⟩)
    refine RegO.opN 1 (by simp [hok]; rfl) ?_
    refine RegO.guard (b := false) (by simp [hok]) (fun h => by cases h) (fun _ => ⟨by simp, ?_⟩)
    refine RegO.opN 2 (by simp [hok]; rfl) ?_
    refine RegO.nil ?_
    refine DW.condT (by simp [hok]) ?_
    refine DW.seq ?_
    refine DW.regs ?_
    refine RegO.opN 1 (by simp [hok]; rfl) ?_
    refine RegO.step rfl (OpStep.callA rfl (by simp [hok]; exact ⟨rfl, rfl⟩) (by simp [hok]; rfl) (by exact l10Copy_spec _ _ hl) (by simp) (by simp [hok]; rfl)) ?_
    refine RegO.opN 1 (by simp [hok]; rfl) ?_
    refine RegO.nil ?_
    refine DW.ret ?_
    simp [Try.results27, hres, rD_len_Cell]
  · have hnw2 : ¬ w.size = 8 := by
      have : ¬ ((w.size : Int) = 8) := by simpa using hnw
      omega
    have hres : storeM ⟨k, l⟩ x w = ⟨k, l⟩ := by simp [storeM, hok, hnw2]
    refine DW.regs ?_
    refine RegO.opN 1 (by simp [hok, hnw]; rfl) ?_
    refine RegO.step rfl (OpStep.callA rfl (by simp [hok, hnw]; exact ⟨rfl, rfl⟩) (by simp [hok, hnw]; rfl) (by exact specOk_spec _ _ hk hl) (by simp) (by simp [hok, hnw]; rfl)) ?_
    refine RegO.opN 9 (by simp [hok, hnw]; rfl) ?_
    refine RegO.guard (b := false) (by simp [hok, hnw]) (fun h => by cases h) (fun _ => ⟨by simp, ?_⟩)
    refine RegO.opN 1 (by simp [hok, hnw]; rfl) ?_
    refine RegO.guard (b := false) (by simp [hok, hnw]) (fun h => by cases h) (fun _ => ⟨by simp, ?_⟩)
    refine RegO.opN 2 (by simp [hok, hnw]; rfl) ?_
    refine RegO.nil ?_
    refine DW.condT (by simp [hok, hnw]) ?_
    refine DW.seq ?_
    refine DW.regs ?_
    refine RegO.opN 1 (by simp [hok, hnw]; rfl) ?_
    refine RegO.step rfl (OpStep.callA rfl (by simp [hok, hnw]; exact ⟨rfl, rfl⟩) (by simp [hok, hnw]; rfl) (by exact l10Copy_spec _ _ hl) (by simp) (by simp [hok, hnw]; rfl)) ?_
    refine RegO.opN 1 (by simp [hok, hnw]; rfl) ?_
    refine RegO.nil ?_
    refine DW.ret ?_
    simp [Try.results27, hres, rD_len_Cell]
  · skip
    refine DW.regs ?_
    refine RegO.opN 1 (by simp [hok, hw, wq]; rfl) ?_
    refine RegO.step rfl (OpStep.callA rfl (by simp [hok, hw, wq]; exact ⟨rfl, rfl⟩) (by simp [hok, hw, wq]; rfl) (by exact specOk_spec _ _ hk hl) (by simp) (by simp [hok, hw, wq]; rfl)) ?_
    refine RegO.opN 9 (by simp [hok, hw, wq]; rfl) ?_
    refine RegO.guard (b := true) (by simp [hok, hw, wq]) (fun _ => ⟨_, (OpStep.callA rfl (by simp [hok, hw, wq]; exact ⟨rfl, rfl⟩) (by simp [hok, hw, wq]; rfl) (by exact l10Words_spec _ _ hk) (by simp) (by simp [hok, hw, wq]; rfl)).toE, fun _ e => e ▸ ?_⟩) (fun h => by cases h)
    refine RegO.opN 1 (by simp [hok, hw, wq]; rfl) ?_
    refine RegO.guard (b := true) (by simp [hok, hw, wq]) (fun _ => ⟨_, (OpStep.callA rfl (by simp [hok, hw, wq]; exact ⟨rfl, rfl⟩) (by simp [hok, hw, wq]; rfl) (by exact l01In_spec x 0 ((k.size : Int) / 8 - 1)) (by simp) (by simp [hok, hw, wq]; rfl)).toE, fun _ e => e ▸ ?_⟩) (fun h => by cases h)
    refine RegO.opN 2 (by simp [hok, hw, wq]; rfl) ?_
    refine RegO.nil ?_
    refine DW.condB (by simp [hok, hw, wq]; exact rfl) (fun hc0 => ?_) (fun hc0 => ?_)
    · have hin : inB x 0 ((k.size : Int) / 8 - 1) = false := by simpa [hok, hw] using hc0
      have hres : storeM ⟨k, l⟩ x w = ⟨k, l⟩ := by simp [storeM, hok, hw, hin]
      refine DW.seq ?_
      refine DW.regs ?_
      refine RegO.opN 1 (by simp [hok, hw, wq]; rfl) ?_
      refine RegO.step rfl (OpStep.callA rfl (by simp [hok, hw, wq]; exact ⟨rfl, rfl⟩) (by simp [hok, hw, wq]; rfl) (by exact l10Copy_spec _ _ hl) (by simp) (by simp [hok, hw, wq]; rfl)) ?_
      refine RegO.opN 1 (by simp [hok, hw, wq]; rfl) ?_
      refine RegO.nil ?_
      refine DW.ret ?_
      simp [Try.results27, hres, rD_len_Cell]
    · have hin : inB x 0 ((k.size : Int) / 8 - 1) = true := by simpa [hok, hw] using hc0
      have hres : storeM ⟨k, l⟩ x w = ⟨k, fillS (putAt k l x.toNat w) false l⟩ := by simp [storeM, hok, hw, hin]
      simp only [inB, Bool.and_eq_true, decide_eq_true_eq] at hin
      obtain ⟨n, rfl⟩ := Int.eq_ofNat_of_zero_le hin.1
      have hn : n < k.size / 8 := by omega
      rw [Int.toNat_natCast] at hres
      refine DW.skip ?_
      refine DW.seq ?_
      refine DW.regs ?_
      refine RegO.opN 3 (by simp [hok, hw, wq]; rfl) ?_
      refine RegO.step rfl (OpStep.callA rfl (by simp [hok, hw, wq]; exact ⟨rfl, rfl⟩) (by simp [hok, hw, wq]; rfl) (by exact l10Store_spec k l n w hok hw hn hk hl) (by simp) (by simp [hok, hw, wq]; rfl)) ?_
      refine RegO.opN 1 (by simp [hok, hw, wq]; rfl) ?_
      refine RegO.nil ?_
      refine DW.ret ?_
      simp [Try.results27, hres, rD_len_Cell]
end Go.Proofs.Ytjjdjkkhhcbogaa.DM

namespace Go.Proofs.Ytjjdjkkhhcbogaa.DM
set_option linter.unusedVariables false
set_option linter.unusedSimpArgs false
set_option maxRecDepth 4000
set_option maxHeartbeats 8000000
def stepM (m : Memory) (s : Step) : Memory := if s.Kind = 1 then storeM m s.At s.Word else if s.Kind = 2 then flushM m s.At else if s.Kind = 3 then fenceM m else m
theorem storeM_bd (m : Memory) (x : Int) (w : ByteArray) : (storeM m x w).Kept.size = m.Kept.size ∧ (storeM m x w).Cells.length ≤ m.Cells.length + 1 := by
  unfold storeM
  split
  · split
    · split
      · exact ⟨rfl, (fillS_len _ _ _).1⟩
      · exact ⟨rfl, Nat.le_succ _⟩
    · exact ⟨rfl, Nat.le_succ _⟩
  · exact ⟨rfl, Nat.le_succ _⟩
theorem flushAt_len (l : List Cell) (i : Nat) : (flushAt l i).length = l.length := by unfold flushAt; split <;> simp
theorem flushM_bd (m : Memory) (x : Int) : (flushM m x).Kept.size = m.Kept.size ∧ (flushM m x).Cells.length ≤ m.Cells.length + 1 := by
  unfold flushM
  split
  · split
    · exact ⟨rfl, by show (flushAt _ _).length ≤ _; rw [flushAt_len]; exact Nat.le_succ _⟩
    · exact ⟨rfl, Nat.le_succ _⟩
  · exact ⟨rfl, Nat.le_succ _⟩
theorem fenceM_bd (m : Memory) : (fenceM m).Kept.size = m.Kept.size ∧ (fenceM m).Cells.length ≤ m.Cells.length + 1 := by
  unfold fenceM
  split
  · rename_i h
    exact ⟨keptS_size (memOk_fits h), Nat.le_trans (List.length_filter_le _ _) (Nat.le_succ _)⟩
  · exact ⟨rfl, Nat.le_succ _⟩
theorem stepM_bd (m : Memory) (s : Step) : (stepM m s).Kept.size = m.Kept.size ∧ (stepM m s).Cells.length ≤ m.Cells.length + 1 := by
  unfold stepM
  split
  · exact storeM_bd _ _ _
  · split
    · exact flushM_bd _ _
    · split
      · exact fenceM_bd _
      · exact ⟨rfl, Nat.le_succ _⟩
def stepsM (m : Memory) (l : List Step) : Memory := l.foldl stepM m
theorem stepsM_succ (m : Memory) (l : List Step) (i : Nat) (h : i < l.length) : stepsM m (l.take (i + 1)) = stepM (stepsM m (l.take i)) l[i] := by
  have htk : l.take (i + 1) = l.take i ++ [l[i]] := by rw [List.take_add_one, List.getElem?_eq_getElem h]; rfl
  rw [htk]; generalize l.take i = a; generalize l[i] = c
  simp [stepsM]
theorem stepsM_bd : ∀ (l : List Step) (m : Memory), (stepsM m l).Kept.size = m.Kept.size ∧ (stepsM m l).Cells.length ≤ m.Cells.length + l.length
  | [], m => ⟨rfl, Nat.le_refl _⟩
  | s :: l, m => by
    have h1 := stepM_bd m s
    have h2 := stepsM_bd l (stepM m s)
    simp only [stepsM, List.foldl_cons, List.length_cons] at h2 ⊢
    omega

theorem specStep_spec (k : ByteArray) (l : List Cell) (s : Step) (hk : k.size < 2 ^ 40) (hl : l.length < 2 ^ 40) : Spec Try.prog 11 [raMemory ⟨k, l⟩, raStep s] [some 2] (dM (stepM ⟨k, l⟩ s)) [raMemory ⟨k, l⟩, raStep s] := by
  refine Spec.intro Try.func11 rfl rfl Try.ntmps11 rfl (by simp) ?_
  refine DW.seq ?_
  refine DW.reg (by simp; rfl) ?_
  refine DW.seq ?_
  refine DW.seq ?_
  refine DW.reg (by simp; rfl) ?_
  refine DW.block ?_
  refine DW.seq ?_
  refine DW.reg (by simp; rfl) ?_
  refine DW.condB (by simp; exact rfl) (fun hc0 => ?_) (fun hc0 => ?_)
  · have e1 : s.Kind = 1 := by simpa using hc0
    have hres : stepM ⟨k, l⟩ s = storeM ⟨k, l⟩ s.At s.Word := by simp [stepM, e1]
    refine DW.seq ?_
    refine DW.regs ?_
    refine RegO.opN 5 (by simp; rfl) ?_
    refine RegO.step rfl (OpStep.callA rfl (by simp; exact ⟨rfl, rfl⟩) (by simp; rfl) (by exact specWord_spec _ _ _ _ hk hl) (by simp) (by simp; rfl)) ?_
    refine RegO.opN 1 (by simp; rfl) ?_
    refine RegO.nil ?_
    refine DW.ret ?_
    rw [hres]
    simp [Try.results11, rD_len_Cell]
  · have n1 : ¬ s.Kind = 1 := by simpa using hc0
    refine DW.seq ?_
    refine DW.reg (by simp; rfl) ?_
    refine DW.condB (by simp; exact rfl) (fun hc1 => ?_) (fun hc1 => ?_)
    · have e2 : s.Kind = 2 := by simpa using hc1
      have hres : stepM ⟨k, l⟩ s = flushM ⟨k, l⟩ s.At := by simp [stepM, e2]
      refine DW.seq ?_
      refine DW.regs ?_
      refine RegO.opN 3 (by simp; rfl) ?_
      refine RegO.step rfl (OpStep.callA rfl (by simp; exact ⟨rfl, rfl⟩) (by simp; rfl) (by exact specFlush_spec _ _ _ hk hl) (by simp) (by simp; rfl)) ?_
      refine RegO.opN 1 (by simp; rfl) ?_
      refine RegO.nil ?_
      refine DW.ret ?_
      rw [hres]
      simp [Try.results11, rD_len_Cell]
    · have n2 : ¬ s.Kind = 2 := by simpa using hc1
      refine DW.seq ?_
      refine DW.reg (by simp; rfl) ?_
      refine DW.condB (by simp; exact rfl) (fun hc2 => ?_) (fun hc2 => ?_)
      · have e3 : s.Kind = 3 := by simpa using hc2
        have hres : stepM ⟨k, l⟩ s = fenceM ⟨k, l⟩ := by simp [stepM, e3]
        refine DW.seq ?_
        refine DW.regs ?_
        refine RegO.opN 1 (by simp; rfl) ?_
        refine RegO.step rfl (OpStep.callA rfl (by simp; exact ⟨rfl, rfl⟩) (by simp; rfl) (by exact specFence_spec _ _ hk hl) (by simp) (by simp; rfl)) ?_
        refine RegO.opN 1 (by simp; rfl) ?_
        refine RegO.nil ?_
        refine DW.ret ?_
        rw [hres]
        simp [Try.results11, rD_len_Cell]
      · have n3 : ¬ s.Kind = 3 := by simpa using hc2
        have hres : stepM ⟨k, l⟩ s = ⟨k, l⟩ := by simp [stepM, n1, n2, n3]
        refine DW.skip ?_
        refine DW.seq ?_
        refine DW.regs ?_
        refine RegO.opN 1 (by simp; rfl) ?_
        refine RegO.step rfl (OpStep.callA rfl (by simp; exact ⟨rfl, rfl⟩) (by simp; rfl) (by exact l10Copy_spec _ _ hl) (by simp) (by simp; rfl)) ?_
        refine RegO.opN 1 (by simp; rfl) ?_
        refine RegO.nil ?_
        refine DW.ret ?_
        rw [hres]
        simp [Try.results11, rD_len_Cell]
theorem specSteps_spec (k : ByteArray) (l : List Cell) (L : List Step) (hk : k.size < 2 ^ 40) (hl : l.length + L.length < 2 ^ 40) : Spec Try.prog 19 [raMemory ⟨k, l⟩, ra L] [some 2] (dM (stepsM ⟨k, l⟩ L)) [raMemory ⟨k, l⟩, ra L] := by
  have hl : l.length < 2 ^ 40 := by omega
  refine Spec.intro Try.func19 rfl rfl Try.ntmps19 rfl (by simp) ?_
  refine DW.seq ?_
  refine DW.reg (by simp; rfl) ?_
  refine DW.seq ?_
  refine DW.regs ?_
  refine RegO.opN 1 (by simp; rfl) ?_
  refine RegO.step rfl (OpStep.callA rfl (by simp; exact ⟨rfl, rfl⟩) (by simp; rfl) (by exact l10Copy_spec _ _ hl) (by simp) (by simp; rfl)) ?_
  refine RegO.opN 1 (by simp; rfl) ?_
  refine RegO.nil ?_
  refine DW.seq ?_
  refine DW.seq ?_
  refine DW.reg (by simp; rfl) ?_
  refine DW.block ?_
  refine DW.loopS (α := Nat) (fun i => i ≤ L.length) (fun i => L.length - i) (fun i => [(5, vi i)]) (fun i => [(2, .ow () 2 1 (dM (stepsM ⟨k, l⟩ (L.take i))))]) [(1, _), (2, _), (4, _)] [(4, _)] [] 0 (Nat.zero_le _) (by simp; exact ⟨rfl, rfl, rfl⟩) (by simp [stepsM]; rfl) (by simp) (by rfl) ?_
  rintro i hi
  refine DW.seq ?_
  refine DW.seq ?_
  refine DW.reg (by simp; rfl) ?_
  refine DW.condB (by simp; exact rfl) (fun hc0 => ?_) (fun hc0 => ?_)
  · have hlt : i < L.length := by simpa using hc0
    have hlt' : (i : Int) < L.length := by omega
    have hd := rR_drop_Step L i hlt
    have w1 : IntKind.i64.wrap ((i : Int) + 1) = ((i + 1 : Nat) : Int) := (wr _ (by omega) (by omega)).trans (by omega)
    have hM := stepsM_succ ⟨k, l⟩ L i hlt
    have hbd := stepsM_bd (L.take i) ⟨k, l⟩
    rw [List.length_take] at hbd
    generalize L[i] = s at hd hM
    generalize (stepsM ⟨k, l⟩ (L.take i)) = m at hM hbd ⊢
    have hmk : m.Kept.size < 2 ^ 40 := by rw [hbd.1]; exact hk
    have hml : m.Cells.length < 2 ^ 40 := by have := hbd.2; simp only at this; omega
    refine DW.skip ?_
    refine DW.seq ?_
    refine DW.block ?_
    refine DW.drawn mixed (by kernel_rfl) ?_
    refine RegD.addN 5 (by simp [hd, hlt', rD_len_Cell]; first | exact ⟨rfl, rfl⟩ | rfl) ?_
    refine RegD.cert (Cert.callHA rfl (by simp) rfl (by decide) (by simp [hd, hlt', rD_len_Cell]; exact ⟨rfl, rfl⟩) (by simp [hd, hlt', rD_len_Cell]; rfl) (by exact specStep_spec m.Kept m.Cells s hmk hml) rfl (by simp) (by simp) (by simp; rfl) rfl) ?_
    refine RegD.heavyF (by simp) (by simp [hd, hlt', rD_len_Cell]; rfl) ?_
    refine RegD.nil ⟨by kernel_rfl, ?_⟩
    refine DW.reg (by simp [w1]; rfl) ?_
    exact ⟨i + 1, hlt, by omega, by simp, by simp [hM, rD_len_Cell], by simp, by rfl⟩
  · have hil : i = L.length := by
      have : ¬ i < L.length := by simpa using hc0
      omega
    subst hil
    rw [List.take_length]
    refine DW.exit ?_
    refine DW.seq ?_
    refine DW.reg (by simp; rfl) ?_
    refine DW.ret ?_
    simp [Try.results19, rD_len_Cell]
end Go.Proofs.Ytjjdjkkhhcbogaa.DM
