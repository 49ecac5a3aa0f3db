/-
  The memory of the program: what reads, what changes, MemoryOk. (IMPL)
-/
import Derived.Test.YtjjdjkkhhcbogaaFData
namespace Go.Proofs.Ytjjdjkkhhcbogaa.DM
set_option linter.unusedVariables false
set_option linter.unusedSimpArgs false
set_option linter.unnecessarySimpa false
set_option maxRecDepth 4000
def inB (x lo hi : Int) : Bool := decide (lo ≤ x) && decide (x ≤ hi)
@[simp] def rFn (f : Nat) : PA := .one (.r (.fn f []))
theorem within_spec (x lo hi : Int) : Spec Try.prog 89 [ri x, ri lo, ri hi] [none] [db (inB x lo hi)] [ri x, ri lo, ri hi] := by
  refine Spec.intro Try.func89 rfl rfl Try.ntmps89 rfl (by simp) ?_
  refine DW.seq (DW.reg (by simp; rfl) ?_)
  by_cases h1 : lo ≤ x
  · refine DW.seq (DW.reg (by simp [h1]; rfl) ?_)
    refine DW.ret ?_
    simp [h1, inB, Try.results89]
  · refine DW.seq (DW.reg (by simp [h1]; rfl) ?_)
    refine DW.ret ?_
    simp [h1, inB, Try.results89]
theorem isNaN_spec (x : Int) : Spec Try.prog 177 [ri x] [none] [db false] [ri x] := by
  refine Spec.intro Try.func177 rfl rfl Try.ntmps177 rfl (by simp) ?_
  refine DW.seq (DW.reg (by simp; rfl) ?_)
  refine DW.seq (DW.reg (by simp; rfl) ?_)
  refine DW.ret ?_
  simp [Try.results177]
def cmpI (x y : Int) : Int := if x < y then -1 else if y < x then 1 else 0
theorem compare_spec (x y : Int) : Spec Try.prog 152 [ri x, ri y] [none] [di (cmpI x y)] [ri x, ri y] := by
  refine Spec.intro Try.func152 rfl rfl Try.ntmps152 rfl (by simp) ?_
  refine DW.seq (DW.reg (by simp; rfl) ?_)
  refine DW.seq (DW.regs ?_)
  refine RegO.opN 1 (by simp; rfl) ?_
  refine RegO.step rfl (OpStep.callN rfl (by simp [callArgs]; rfl) (isNaN_spec x) (by simp [rosOk, roA_, toRC]) (by simp [widen, ownV, ownC]) (by simp [finish, packDV, packD]; rfl)) ?_
  refine RegO.opN 1 (by simp; rfl) ?_
  refine RegO.nil ?_
  refine DW.seq (DW.regs ?_)
  refine RegO.opN 1 (by simp; rfl) ?_
  refine RegO.step rfl (OpStep.callN rfl (by simp [callArgs]; rfl) (isNaN_spec y) (by simp [rosOk, roA_, toRC]) (by simp [widen, ownV, ownC]) (by simp [finish, packDV, packD]; rfl)) ?_
  refine RegO.opN 1 (by simp; rfl) ?_
  refine RegO.nil ?_
  refine DW.seq (DW.seq (DW.reg (by simp; rfl) ?_))
  refine DW.condF (by simp) (DW.skip ?_)
  refine DW.seq (DW.seq (DW.reg (by simp; rfl) ?_))
  refine DW.condF (by simp) (DW.skip ?_)
  refine DW.seq (DW.seq (DW.reg (by simp; rfl) ?_))
  refine DW.cond (t := decide (x < y)) (by simp) (fun hc => ?_) (fun hc => DW.skip ?_)
  · refine DW.seq (DW.reg (by simp; rfl) ?_)
    refine DW.ret ?_
    have hc : x < y := by simpa using hc
    simp [Try.results152, cmpI, hc]
  · have hc : ¬ x < y := by simpa using hc
    refine DW.seq (DW.seq (DW.reg (by simp; rfl) ?_))
    refine DW.cond (t := decide (y < x)) (by simp) (fun hd => ?_) (fun hd => DW.skip ?_)
    · refine DW.seq (DW.reg (by simp; rfl) ?_)
      refine DW.ret ?_
      have hd : y < x := by simpa using hd
      simp [Try.results152, cmpI, hc, hd]
    · refine DW.seq (DW.reg (by simp; rfl) ?_)
      refine DW.ret ?_
      have hd : ¬ y < x := by simpa using hd
      simp [Try.results152, cmpI, hc, hd]
theorem findCell1_spec (c : Cell) (line : Int) : Spec Try.prog 151 [raCell c, ri line] [none] [di (cmpI c.Line line)] [raCell c, ri line] := by
  refine Spec.intro Try.func151 rfl rfl Try.ntmps151 rfl (by simp) ?_
  refine DW.seq (DW.reg (by simp; rfl) ?_)
  refine DW.seq (DW.regs ?_)
  refine RegO.opN 3 (by simp; rfl) ?_
  refine RegO.step rfl (OpStep.callN rfl (by simp [callArgs]; rfl) (compare_spec c.Line line) (by simp [rosOk, roA_, toRC]) (by simp [widen, ownV, ownC]) (by simp [finish, packDV, packD]; rfl)) ?_
  refine RegO.opN 1 (by simp; rfl) ?_
  refine RegO.nil ?_
  refine DW.ret ?_
  simp [Try.results151]
/-- Binary search. -/
def bs (p : Nat → Bool) (i j : Nat) : Nat := if h : i < j then (if p ((i + j) / 2) then bs p ((i + j) / 2 + 1) j else bs p i ((i + j) / 2)) else i
termination_by j - i
decreasing_by all_goals omega
theorem bs_le {p : Nat → Bool} (i j : Nat) (h : i ≤ j) : i ≤ bs p i j ∧ bs p i j ≤ j := by
  rw [bs]
  split
  · split
    · have := bs_le (p := p) ((i + j) / 2 + 1) j (by omega); omega
    · have := bs_le (p := p) i ((i + j) / 2) (by omega); omega
  · omega
termination_by j - i
decreasing_by all_goals omega
/-- Is the line of a cell before a line? -/
def lineLt (l : List Cell) (line : Int) (i : Nat) : Bool := match l[i]? with
  | some c => decide (cmpI c.Line line < 0)
  | none => false
def foundAt (l : List Cell) (line : Int) (i : Nat) : Bool := match l[i]? with
  | some c => cmpI c.Line line == 0
  | none => false
theorem shr1 (i j m : Nat) (h : i + j < 2 ^ 60) (hm : (i + j) / 2 = m) : ((IntKind.u64.wrap ((i : Int) + j)).fdiv (2 ^ min 1 IntKind.u64.bits)) = (m : Int) := by
  have : IntKind.u64.wrap ((i : Int) + j) = (i : Int) + j := by
    have h1 : ((i : Int) + j) % 18446744073709551616 = (i : Int) + j := by omega
    simp [IntKind.wrap, IntKind.bits, IntKind.signed, h1]
  have h2 : (2 : Int) ^ min 1 IntKind.u64.bits = 2 := rfl
  rw [this, h2, Int.fdiv_eq_ediv_of_nonneg _ (by omega)]; omega
theorem bsf_spec (l : List Cell) (line : Int) (hl : l.length < 2 ^ 40) : Spec Try.prog 150 [ra l, ri line, rFn 151] [none, none]
    [di (bs (lineLt l line) 0 l.length), db (foundAt l line (bs (lineLt l line) 0 l.length))] [ra l, ri line, rFn 151] := by
  refine Spec.intro Try.func150 rfl rfl Try.ntmps150 rfl (by simp) ?_
  refine DW.seq (DW.reg (by simp; rfl) ?_)
  refine DW.seq (DW.reg (by simp; rfl) ?_)
  refine DW.seq (DW.reg (by simp; rfl) ?_)
  refine DW.seq (DW.block ?_)
  refine DW.loopG (fun n s => ∃ i j : Nat, n = j - i ∧ i ≤ j ∧ j ≤ l.length ∧ bs (lineLt l line) i j = bs (lineLt l line) 0 l.length ∧ s.e 0 = .v (.one (.t (.sl l.length (rR l)))) ∧ s.e 1 = .v (.one (.t (.sc (.int .i64 line)))) ∧ s.e 2 = .v (.one (.t (.fn 151 []))) ∧
    s.e 8 = .v (.one (.t (.sc (.int .i64 l.length)))) ∧ s.e 9 = .v (.one (.t (.sc (.int .i64 i)))) ∧ s.e 10 = .v (.one (.t (.sc (.int .i64 j))))) (n0 := l.length) ⟨0, l.length, by simp [rFn]⟩ ?_
  rintro n s ⟨i, j, rfl, hij, hj, hbs, h0, h1, h2, h8, h9, h10⟩
  refine DW.seq (DW.seq (DW.reg (by simp [h9, h10]; rfl) ?_))
  refine DW.cond (t := decide ((i : Int) < j)) (by simp) (fun hc => ?_) (fun hc => ?_)
  · have hlt : i < j := by simpa using hc
    have hm : (i + j) / 2 < l.length := by omega
    have w1 : IntKind.i64.wrap ((i : Int) + j) = (i : Int) + j := wr _ (by omega) (by omega)
    have hd := rR_drop_Cell l _ hm
    have hcm : l[(i + j) / 2]? = some l[(i + j) / 2] := List.getElem?_eq_getElem hm
    generalize hM : (i + j) / 2 = m at *
    have w2 := shr1 i j m (by omega) hM
    have w3 : IntKind.i64.wrap (m : Int) = (m : Int) := wr _ (by omega) (by omega)
    have w4 : IntKind.i64.wrap ((m : Int) + 1) = (m : Int) + 1 := wr _ (by omega) (by omega)
    generalize l[m] = c at hd hcm
    have hm0 : (0 : Int) ≤ (m : Int) := by omega
    have hml : (m : Int) < l.length := by omega
    refine DW.skip ?_
    refine DW.block ?_
    have hp : lineLt l line m = decide (cmpI c.Line line < 0) := by simp [lineLt, hcm]
    rw [bs, dif_pos hlt, hM, hp] at hbs
    refine DW.seq (DW.reg (by simp [h9, h10, w1, w2, w3]; rfl) ?_)
    refine DW.seq (DW.regs ?_)
    refine RegO.opN 6 (by simp [h0, h1, h2, hm0, hml, hd]; rfl) ?_
    refine RegO.step rfl (OpStep.callN rfl (by simp [callArgs]; rfl) (findCell1_spec c line) (by simp [rosOk, roA_, toRC]) (by simp [widen, ownV, ownC]) (by simp [finish, packDV, packD]; rfl)) ?_
    refine RegO.opN 1 (by simp; rfl) ?_
    refine RegO.nil ?_
    refine DW.cond (t := decide (cmpI c.Line line < 0)) (by simp) (fun hc => ?_) (fun hc => ?_)
    · refine DW.reg (by simp [w4]; rfl) ?_
      exact ⟨_, j - (m + 1), Ghost.refl, by omega, m + 1, j, rfl, by omega, hj, by rw [← hbs, if_pos hc], by simp [h0], by simp [h1], by simp [h2], by simp [h8], by simp, by simp [h10]⟩
    · refine DW.reg (by simp; rfl) ?_
      exact ⟨_, m - i, Ghost.refl, by omega, i, m, rfl, by omega, by omega, by rw [← hbs, if_neg (by simpa using hc)], by simp [h0], by simp [h1], by simp [h2], by simp [h8], by simp [h9], by simp⟩
  · have hij' : i = j := by
      have : ¬ i < j := by simpa using hc
      omega
    subst hij'
    rw [bs, dif_neg (Nat.lt_irrefl _)] at hbs
    refine DW.exit ?_
    by_cases hlt : i < l.length
    · have hd := rR_drop_Cell l _ hlt
      have hcm : l[i]? = some l[i] := List.getElem?_eq_getElem hlt
      generalize l[i] = c at hd hcm
      have hml : (i : Int) < l.length := by omega
      have hf : foundAt l line i = (cmpI c.Line line == 0) := by simp [foundAt, hcm]
      refine DW.seq (DW.regs ?_)
      refine RegO.opN 11 (by simp [h0, h1, h2, h8, h9, hml, hd]; rfl) ?_
      refine RegO.guard (b := true) (by simp) (fun _ => ⟨_, (OpStep.callN rfl (by simp [callArgs]; rfl) (findCell1_spec c line) (by simp [rosOk, roA_, toRC]) (by simp [widen, ownV, ownC]) (by simp [finish, packDV, packD]; rfl)).toE, fun _ e => e ▸ ?_⟩) (fun h => by cases h)
      refine RegO.opN 4 (by simp; rfl) ?_
      refine RegO.nil ?_
      refine DW.ret ?_
      simp [Try.results150, ← hbs, hf]
    · have hf : foundAt l line i = false := by
        have : l[i]? = none := List.getElem?_eq_none (by omega)
        simp [foundAt, this]
      have hml : ¬ (i : Int) < l.length := by omega
      refine DW.seq (DW.regs ?_)
      refine RegO.opN 11 (by simp [h0, h1, h2, h8, h9, hml]; rfl) ?_
      refine RegO.guard (b := false) (by simp) (fun h => by cases h) (fun _ => ⟨by simp, ?_⟩)
      refine RegO.opN 4 (by simp; rfl) ?_
      refine RegO.nil ?_
      refine DW.ret ?_
      simp [Try.results150, ← hbs, hf]
/-- Where a line's cell is, or would be. -/
def ixOf (l : List Cell) (line : Int) : Nat := bs (lineLt l line) 0 l.length
theorem ixOf_le (l : List Cell) (line : Int) : ixOf l line ≤ l.length := (bs_le 0 l.length (Nat.zero_le _)).2
def hasL (l : List Cell) (line : Int) : Bool := foundAt l line (ixOf l line)
theorem findCell_spec (k : ByteArray) (l : List Cell) (line : Int) (hl : l.length < 2 ^ 40) : Spec Try.prog 130 [raMemory ⟨k, l⟩, ri line] [none, none] [di (ixOf l line), db (hasL l line)] [raMemory ⟨k, l⟩, ri line] := by
  refine Spec.intro Try.func130 rfl rfl Try.ntmps130 rfl (by simp) ?_
  refine DW.seq (DW.reg (by simp; rfl) ?_)
  refine DW.seq (DW.regs ?_)
  refine RegO.opN 3 (by simp; rfl) ?_
  refine RegO.step rfl (OpStep.callN rfl (by simp [callArgs]; rfl) (bsf_spec l line hl) (by simp [rosOk, roA_, toRC, mapO, toRTs]) (by simp [widen, ownV, ownC]) (by simp [finish, packDV, packD]; rfl)) ?_
  refine RegO.opN 4 (by simp; rfl) ?_
  refine RegO.nil ?_
  refine DW.ret ?_
  simp [Try.results130, hasL, ixOf]
theorem hasL_lt {l : List Cell} {line : Int} (h : hasL l line = true) : ixOf l line < l.length := by
  unfold hasL foundAt at h
  split at h
  · rename_i c hc; exact (List.getElem?_eq_some_iff.1 hc).1
  · cases h
/-- The contents of a line. -/
def lineAt (k : ByteArray) (l : List Cell) (line : Int) : ByteArray := if hasL l line then (match l[ixOf l line]? with | some c => c.Text | none => ByteArray.empty) else k.extract (line * 16).toNat ((line + 1) * 16).toNat
theorem line_spec (k : ByteArray) (l : List Cell) (line : Int) (hl : l.length < 2 ^ 40) (h0 : 0 ≤ line) (h1 : (line + 1) * 16 ≤ k.size) (hk : k.size < 2 ^ 40) : Spec Try.prog 129 [raMemory ⟨k, l⟩, ri line] [none] [ds (lineAt k l line)] [raMemory ⟨k, l⟩, ri line] := by
  refine Spec.intro Try.func129 rfl rfl Try.ntmps129 rfl (by simp) ?_
  refine DW.seq (DW.reg (by simp; rfl) ?_)
  refine DW.seq (DW.seq (DW.regs ?_))
  refine RegO.opN 2 (by simp; rfl) ?_
  refine RegO.step rfl (OpStep.callN rfl (by simp [callArgs]; rfl) (findCell_spec k l line hl) (by simp [rosOk, roA_, toRC, mapO]) (by simp [widen, ownV, ownC]) (by simp [finish, packDV, packD]; rfl)) ?_
  refine RegO.opN 5 (by simp; rfl) ?_
  refine RegO.nil ?_
  refine DW.seq (DW.reg (by simp; rfl) ?_)
  refine DW.cond (t := hasL l line) (by simp) (fun hc => ?_) (fun hc => DW.skip ?_)
  · have hi := hasL_lt hc
    have hd := rR_drop_Cell l _ hi
    have hcm : l[ixOf l line]? = some l[ixOf l line] := List.getElem?_eq_getElem hi
    generalize l[ixOf l line] = c at hd hcm
    have hml : (ixOf l line : Int) < l.length := by omega
    refine DW.seq (DW.reg (by simp [hml, hd]; rfl) ?_)
    refine DW.ret ?_
    simp [Try.results129, lineAt, hc, hcm]
  · have w1 : IntKind.i64.wrap (line * 16) = line * 16 := wr _ (by omega) (by omega)
    have w2 : IntKind.i64.wrap (line + 1) = line + 1 := wr _ (by omega) (by omega)
    have w3 : IntKind.i64.wrap ((line + 1) * 16) = (line + 1) * 16 := wr _ (by omega) (by omega)
    have c1 : 0 ≤ (line + 1) * 16 := by omega
    have c2 : 0 ≤ line * 16 := by omega
    have c3 : line ≤ line + 1 := by omega
    refine DW.seq (DW.reg (by simp [w1, w2, w3, h1, c1, c2, c3]; rfl) ?_)
    refine DW.ret ?_
    simp [Try.results129, lineAt, hc]
theorem words_spec (k : ByteArray) (l : List Cell) (hk : k.size < 2 ^ 40) : Spec Try.prog 124 [raMemory ⟨k, l⟩] [none] [di (k.size / 8 : Nat)] [raMemory ⟨k, l⟩] := by
  refine Spec.intro Try.func124 rfl rfl Try.ntmps124 rfl (by simp) ?_
  have w1 : IntKind.i64.wrap ((k.size : Int) / 8) = (k.size : Int) / 8 := wr _ (by omega) (by omega)
  refine DW.seq (DW.reg (by simp; rfl) ?_)
  refine DW.seq (DW.reg (by simp [w1]; rfl) ?_)
  refine DW.ret ?_
  simp [Try.results124]
/-- Is the cell at a place in order? -/
def okAt (k : ByteArray) (l : List Cell) (i : Nat) : Bool := match l[i]? with
  | none => true
  | some c => inB c.Line 0 ((k.size : Int) / 16 - 1) && c.Text.size == 16 && !(decide (0 < i) && match l[i - 1]? with | some p => decide (c.Line ≤ p.Line) | none => false)
def memOk (k : ByteArray) (l : List Cell) : Bool := (List.range l.length).all (okAt k l) && k.size % 16 == 0 && decide (k.size ≤ 16000)
theorem memOk_bad {k : ByteArray} {l : List Cell} {i : Nat} (hi : i < l.length) (h : okAt k l i = false) : memOk k l = false := by
  have : (List.range l.length).all (okAt k l) = false := by
    rw [List.all_eq_false]
    exact ⟨i, List.mem_range.2 hi, by simp [h]⟩
  simp [memOk, this]
theorem memOk_spec (k : ByteArray) (l : List Cell) (hk : k.size < 2 ^ 40) (hl : l.length < 2 ^ 40) : Spec Try.prog 36 [raMemory ⟨k, l⟩] [none] [.sc (.bool (memOk k l))] [raMemory ⟨k, l⟩] := by
  refine Spec.intro Try.func36 rfl rfl Try.ntmps36 rfl (by simp) ?_
  refine DW.seq (DW.reg (by simp; rfl) ?_)
  refine DW.seq (DW.seq (DW.reg (by simp; rfl) ?_))
  refine DW.block (DW.loopG (fun n s => ∃ i : Nat, n = l.length - i ∧ i ≤ l.length ∧ s.e 8 = .v (.one (.t (.sc (.int .i64 i)))) ∧ s.e 6 = .v (.one (.t (.sl l.length (rR l)))) ∧ s.e 7 = .v (.one (.t (.sc (.int .i64 l.length)))) ∧
    s.e 1 = .v (.one (.pt 1 [] 0)) ∧ s.h 1 = some (.ow () 2 1 [.sc (.string k), .ro () (.sl l.length (rR l))]) ∧ s.h 4 = none ∧ (List.range i).all (okAt k l) = true) (n0 := l.length) ⟨0, by simp⟩ ?_)
  rintro n s ⟨i, rfl, hi, h8, h6, h7, h1, hh1, hh4, hall⟩
  refine DW.seq (DW.reg (by simp [h8, h7]; rfl) ?_)
  refine DW.seq (DW.cond (t := decide ((i : Int) < l.length)) (by simp) (fun ht => DW.skip ?_) (fun ht => DW.exit ?_))
  · have hlt : i < l.length := by simpa using ht
    have hlt' : (i : Int) < l.length := by omega
    have hd := rR_drop_Cell l i hlt
    have hci : l[i]? = some l[i] := List.getElem?_eq_getElem hlt
    have w1 : IntKind.i64.wrap ((k.size : Int) / 16) = (k.size : Int) / 16 := wr _ (by omega) (by omega)
    have w2 : IntKind.i64.wrap ((k.size : Int) / 16 - 1) = (k.size : Int) / 16 - 1 := wr _ (by omega) (by omega)
    have w3 : IntKind.i64.wrap ((i : Int) + 1) = ((i + 1 : Nat) : Int) := (wr _ (by omega) (by omega)).trans (by omega)
    refine DW.seq ?_
    refine DW.block ?_
    refine DW.seq (DW.reg (by simp [h8, h6, hlt', hd, hh4]; rfl) ?_)
    generalize hc : l[i] = c at hd hci
    -- a cell that is not in order
    have bad : ∀ (s1 : FS) (Q : Exit → FS → Prop), okAt k l i = false → s1.e 43 = .v (.one (.t (.sc (.bool true)))) → (∀ s2, s2.e 2 = .v (.one (.t (.sc (.bool false)))) → Q .ret s2) → DW Try.prog 56 (.cond (.tmp 43) (.seq (.region 5 #[{ dst := some 2, op := .assign (.const (.bool false)), type := 4, pos := "l10_memory.go:38", after := #[], guard := none }] false) .ret) .skip) s1 Q := fun s1 Q hb h43 hQ => by
      refine DW.cond (t := true) (by simp [h43]) (fun _ => ?_) (fun h => by cases h)
      refine DW.seq (DW.reg (by simp; rfl) ?_)
      exact DW.ret (hQ _ (by simp))
    have fin : okAt k l i = false → ∀ s2 : FS, s2.e 2 = .v (.one (.t (.sc (.bool false)))) → Ends Try.prog Try.f36.results.toList s2 [raMemory ⟨k, l⟩] [none] [.sc (.bool (memOk k l))] [raMemory ⟨k, l⟩] := fun hb s2 h2 => by
      rw [memOk_bad hlt hb]
      simp [Try.results36, h2]
    cases hA : inB c.Line 0 ((k.size : Int) / 16 - 1) with
    | false =>
      have hbad : okAt k l i = false := by simp [okAt, hci, hA]
      refine DW.seq (DW.drawn mixed (by kernel_rfl) ?_)
      refine RegD.addN 7 (by simp [h1, hh1, w1, w2]; exact ⟨rfl, rfl⟩) ?_
      refine RegD.cert (Cert.callN rfl (by simp) rfl (by decide) (by simp; rfl) (within_spec c.Line 0 ((k.size : Int) / 16 - 1)) (by simp [rosOk, roA_, toRC]) rfl (by simp [widen, ownV, ownC]) (by simp; rfl) rfl) ?_
      refine RegD.addN 23 (by simp [h1, hA, packDV, packD]; exact ⟨rfl, rfl⟩) ?_
      refine ⟨by kernel_rfl, bad _ _ hbad (by simp) fun s2 h2 => fin hbad s2 h2⟩
    | true =>
      have pre : ∀ (Q : Exit → FS → Prop), True := fun _ => trivial
      by_cases hB : c.Text.size = 16
      · by_cases hC : 0 < i
        · have hp : i - 1 < l.length := by omega
          have hdp := rR_drop_Cell l (i - 1) hp
          have hpi : l[i - 1]? = some l[i - 1] := List.getElem?_eq_getElem hp
          generalize l[i - 1] = p at hdp hpi
          have w4 : IntKind.i64.wrap ((i : Int) - 1) = ((i - 1 : Nat) : Int) := (wr _ (by omega) (by omega)).trans (by omega)
          have h0p : (0 : Int) ≤ ((i - 1 : Nat) : Int) := by omega
          have hlp : ((i - 1 : Nat) : Int) < l.length := by omega
          refine DW.seq (DW.drawn mixed (by kernel_rfl) ?_)
          refine RegD.addN 7 (by simp [h1, hh1, w1, w2]; exact ⟨rfl, rfl⟩) ?_
          refine RegD.cert (Cert.callN rfl (by simp) rfl (by decide) (by simp; rfl) (within_spec c.Line 0 ((k.size : Int) / 16 - 1)) (by simp [rosOk, roA_, toRC]) rfl (by simp [widen, ownV, ownC]) (by simp; rfl) rfl) ?_
          refine RegD.addN 23 (by simp [h1, hh1, hA, hB, hC, w4, h0p, hlp, hdp, packDV, packD]; exact ⟨rfl, rfl⟩) ?_
          refine ⟨by kernel_rfl, ?_⟩
          cases hD : decide (c.Line ≤ p.Line) with
          | true =>
            have hbad : okAt k l i = false := by simp [okAt, hci, hA, hB, hC, hpi]; simpa using hD
            exact bad _ _ hbad (by simpa using hD) fun s2 h2 => fin hbad s2 h2
          | false =>
            have hok : okAt k l i = true := by simp [okAt, hci, hA, hB, hC, hpi]; simpa using hD
            refine DW.cond (t := false) (by simp [hD]) (fun h => by cases h) (fun _ => DW.skip ?_)
            refine DW.reg (by simp [h8, w3]; rfl) ?_
            exact ⟨_, l.length - (i + 1), Ghost.free 4, by omega, i + 1, rfl, by omega, by simp [FS.free], by simp [FS.free, h6], by simp [FS.free, h7], by simp [FS.free, h1], by simp [FS.free, hh1], by simp [FS.free], by rw [List.range_succ, List.all_append, hall]; simp [hok]⟩
        · have hi0 : i = 0 := by omega
          have hok : okAt k l i = true := by simp [okAt, hci, hA, hB, hC]
          refine DW.seq (DW.drawn mixed (by kernel_rfl) ?_)
          refine RegD.addN 7 (by simp [h1, hh1, w1, w2]; exact ⟨rfl, rfl⟩) ?_
          refine RegD.cert (Cert.callN rfl (by simp) rfl (by decide) (by simp; rfl) (within_spec c.Line 0 ((k.size : Int) / 16 - 1)) (by simp [rosOk, roA_, toRC]) rfl (by simp [widen, ownV, ownC]) (by simp; rfl) rfl) ?_
          refine RegD.addN 23 (by simp [h1, hh1, hA, hB, hC, packDV, packD]; exact ⟨rfl, rfl⟩) ?_
          refine ⟨by kernel_rfl, ?_⟩
          refine DW.cond (t := false) (by simp) (fun h => by cases h) (fun _ => DW.skip ?_)
          refine DW.reg (by simp [h8, w3]; rfl) ?_
          exact ⟨_, l.length - (i + 1), Ghost.free 4, by omega, i + 1, rfl, by omega, by simp [FS.free], by simp [FS.free, h6], by simp [FS.free, h7], by simp [FS.free, h1], by simp [FS.free, hh1], by simp [FS.free], by rw [List.range_succ, List.all_append, hall]; simp [hok]⟩
      · have hB' : ((c.Text.size : Int) != 16) = true := by simp; omega
        have hbad : okAt k l i = false := by simp [okAt, hci, hA, hB]
        refine DW.seq (DW.drawn mixed (by kernel_rfl) ?_)
        refine RegD.addN 7 (by simp [h1, hh1, w1, w2]; exact ⟨rfl, rfl⟩) ?_
        refine RegD.cert (Cert.callN rfl (by simp) rfl (by decide) (by simp; rfl) (within_spec c.Line 0 ((k.size : Int) / 16 - 1)) (by simp [rosOk, roA_, toRC]) rfl (by simp [widen, ownV, ownC]) (by simp; rfl) rfl) ?_
        refine RegD.addN 23 (by simp [h1, hA, hB', packDV, packD]; exact ⟨rfl, rfl⟩) ?_
        refine ⟨by kernel_rfl, bad _ _ hbad (by simp) fun s2 h2 => fin hbad s2 h2⟩
  · have hil : i = l.length := by
      have : ¬ i < l.length := by simpa using ht
      omega
    subst hil
    have hmm : (k.size : Int).tmod 16 = ((k.size % 16 : Nat) : Int) := by rw [Int.tmod_eq_emod_of_nonneg (by omega)]; omega
    by_cases hm : k.size % 16 = 0
    · refine DW.seq (DW.reg (by simp [h1, hh1, hmm, hm]; rfl) ?_)
      refine DW.ret ?_
      simp [Try.results36, memOk, hall, hm]
      omega
    · have hm2 : (((k.size : Int).tmod 16) == 0) = false := by rw [hmm]; simp; omega
      refine DW.seq (DW.reg (by simp [h1, hh1, hm2]; rfl) ?_)
      refine DW.ret ?_
      simp [Try.results36, memOk, hall, hm, hmm]
theorem clone_spec (l : List Cell) (hl : l.length < 2 ^ 40) : Spec Try.prog 123 [ra l] [none] [dr l] [ra l] := by
  refine Spec.intro Try.func123 rfl rfl Try.ntmps123 rfl (by simp) ?_
  refine DW.seq (DW.reg (by simp; rfl) ?_)
  refine DW.seq (DW.seq (DW.regs ?_))
  refine RegO.opN 1 (by simp; rfl) ?_
  refine RegO.stepE rfl (OpStepE.eqNil (n := l.length) rfl rfl (by decide) Try.underlying29 (by simp [rowLen])) ?_
  rintro s1 ⟨b, hb, rfl⟩
  refine RegO.nil ?_
  have c1 : l.length * 32 ≤ 140737488355328 := by omega
  have c2 : l.length ≤ 140737488355328 := by omega
  refine DW.cond (t := b) (by simp) (fun hc => ?_) (fun hc => DW.skip ?_)
  · have hl0 : l = [] := List.length_eq_zero_iff.1 (hb hc)
    subst hl0
    refine DW.seq (DW.reg (by simp; rfl) ?_)
    refine DW.ghost (Ghost.nlRow 2 1000 3 (by simp) (by simp)) ?_
    refine DW.ret ?_
    simp [Try.results123]
  · refine DW.seq (DW.reg (by simp [rR_len_Cell, c1, c2, rR_ro_Cell]; rfl) ?_)
    refine DW.ret ?_
    simp [Try.results123, rD_len_Cell]
@[simp] def dMem (k : ByteArray) (l : List Cell) : List D := [.sc (.string k), .ow () 3 l.length (rD l)]
theorem copyMemory_spec (k : ByteArray) (l : List Cell) (hl : l.length < 2 ^ 40) : Spec Try.prog 72 [raMemory ⟨k, l⟩] [some 2] (dMem k l) [raMemory ⟨k, l⟩] := by
  refine Spec.intro Try.func72 rfl rfl Try.ntmps72 rfl (by simp) ?_
  refine DW.seq (DW.reg (by simp; rfl) ?_)
  refine DW.seq (DW.drawn mixed (by kernel_rfl) ?_)
  refine RegD.addN 4 (by simp; exact ⟨rfl, rfl⟩) ?_
  refine RegD.cert (Cert.callH rfl (by simp) rfl (by decide) (by simp [callArgs]; rfl) (clone_spec l hl) (by simp [rosOk, roA_, toRC]) rfl (by simp [widen, ownV, ownC]) (by simp) (by simp; rfl) rfl) ?_
  refine RegD.addN 1 (by simp [packDV, packD]; exact ⟨rfl, rfl⟩) ?_
  refine RegD.heavyF (by simp) (by simp [rD_len_Cell]; rfl) ?_
  refine RegD.nil ⟨by kernel_rfl, ?_⟩
  refine DW.ret ?_
  simp [Try.results72, rD_len_Cell]
theorem cD_split (l : List Cell) (i : Nat) (h : i < l.length) : rD l = rD (l.take i) ++ (Cell.d l[i] ++ rD (l.drop (i + 1))) := by
  have := rD_dropc l i h
  show rD l = rD (l.take i) ++ (Row.d l[i] ++ rD (l.drop (i + 1)))
  rw [← this, ← rD_append, List.take_append_drop]
theorem cD_at (l : List Cell) (i j : Nat) (h : i < l.length) (hj : j < 3) : (rD l)[i * 3 + j]? = (Cell.d l[i])[j]? := by
  have hl : (rD (l.take i)).length = i * 3 := by rw [rD_len_Cell, List.length_take, Nat.min_eq_left (by omega)]
  rw [cD_split l i h, List.getElem?_append_right (by omega), hl, Nat.add_sub_cancel_left, List.getElem?_append_left (by simpa using hj)]
theorem cD_set (l : List Cell) (i j : Nat) (h : i < l.length) (hj : j < 3) (c : Cell) (v : D) (hv : Cell.d c = (Cell.d l[i]).set j v) : (rD l).set (i * 3 + j) v = rD (l.set i c) := by
  have hl : (rD (l.take i)).length = i * 3 := by rw [rD_len_Cell, List.length_take, Nat.min_eq_left (by omega)]
  have h2 : i < (l.set i c).length := by rw [List.length_set]; exact h
  rw [cD_split l i h, cD_split (l.set i c) i h2, List.set_append_right _ _ (by omega), hl, Nat.add_sub_cancel_left, List.set_append_left _ _ (by simpa using hj), ← hv]
  simp [List.take_set_of_le, List.drop_set_of_lt]
def Cell.flush (c : Cell) : Cell := { c with Flushed := true }
def flushL (l : List Cell) (line : Int) : List Cell := if hasL l line then (match l[ixOf l line]? with | some c => l.set (ixOf l line) c.flush | none => l) else l
theorem flush_spec (k : ByteArray) (l : List Cell) (line : Int) (hl : l.length < 2 ^ 40) : Spec Try.prog 92 [.ptr (dMem k l), ri line] [] [] [.ptr (dMem k (flushL l line)), ri line] := by
  refine Spec.intro Try.func92 rfl rfl Try.ntmps92 rfl (by simp) ?_
  refine DW.seq (DW.regs ?_)
  refine RegO.opN 4 (by simp; rfl) ?_
  refine RegO.step rfl (OpStep.callN rfl (by simp [callArgs]; rfl) (findCell_spec k l line hl) (by simp [rosOk, roA_, toRC, mapO, rD_len_Cell, rD_rt]) (by simp [noRoL, noRo]) (by simp [finish, packDV, packD]; rfl)) ?_
  refine RegO.opN 5 (by simp; rfl) ?_
  refine RegO.nil ?_
  refine DW.seq (DW.reg (by simp; rfl) ?_)
  refine DW.cond (t := hasL l line) (by simp) (fun hc => ?_) (fun hc => DW.skip ?_)
  · have hi := hasL_lt hc
    have hcm : l[ixOf l line]? = some l[ixOf l line] := List.getElem?_eq_getElem hi
    have hml : (ixOf l line : Int) < l.length := by omega
    have ha := cD_at l _ 2 hi (by omega)
    have hs := cD_set l _ 2 hi (by omega) (Cell.flush l[ixOf l line]) (.sc (.bool true)) rfl
    simp only [Cell.d, List.getElem?_cons_succ, List.getElem?_cons_zero] at ha
    refine DW.reg (by simp [hml, ha, hs]; rfl) ?_
    simp [flushL, hc, hcm, Try.results92]
  · simp [flushL, hc, Try.results92]
theorem fence1_spec (i : Int) (c : Cell) : Spec Try.prog 135 [ri i, raCell c] [none] [db c.Flushed] [ri i, raCell c] := by
  refine Spec.intro Try.func135 rfl rfl Try.ntmps135 rfl (by simp) ?_
  refine DW.seq (DW.reg (by simp; rfl) ?_)
  refine DW.seq (DW.reg (by simp; rfl) ?_)
  refine DW.ret ?_
  simp [Try.results135]
/-- A cell's text over the bytes. -/
def ovl (kb : List UInt8) (c : Cell) : List UInt8 := kb.take (c.Line * 16).toNat ++ (c.Text.data.toList ++ kb.drop ((c.Line * 16).toNat + c.Text.size))
def keptB (l : List Cell) (kb : List UInt8) : List UInt8 := l.foldl (fun kb c => if c.Flushed then ovl kb c else kb) kb
def leftC (l : List Cell) : List Cell := l.filter fun c => !c.Flushed
/-- A cell that lies within the bytes. -/
def fitsC (n : Nat) (c : Cell) : Prop := 0 ≤ c.Line ∧ (c.Line + 1) * 16 ≤ n ∧ c.Text.size = 16
theorem ovl_len {kb : List UInt8} {c : Cell} (h : fitsC kb.length c) : (ovl kb c).length = kb.length := by
  obtain ⟨h1, h2, h3⟩ := h
  have : c.Text.data.toList.length = c.Text.size := Array.length_toList
  simp only [ovl, List.length_append, List.length_take, List.length_drop, this]
  omega
theorem keptB_len : ∀ (l : List Cell) (kb : List UInt8), (∀ c ∈ l, fitsC kb.length c) → (keptB l kb).length = kb.length
  | [], kb, _ => rfl
  | c :: l, kb, h => by
    have h1 := ovl_len (h c List.mem_cons_self)
    simp only [keptB, List.foldl_cons]
    split
    · exact (keptB_len l _ (fun c' hc' => by rw [h1]; exact h c' (List.mem_cons_of_mem _ hc'))).trans h1
    · exact keptB_len l kb fun c' hc' => h c' (List.mem_cons_of_mem _ hc')
theorem keep_spec (k : ByteArray) (l : List Cell) (hl : l.length < 2 ^ 40) (hk : k.size < 2 ^ 40) (hf : ∀ c ∈ l, fitsC k.size c) : Spec Try.prog 134 [.ptr (dMem k l), rFn 135, rb true] [] [] [.ptr (dMem ⟨(keptB l k.data.toList).toArray⟩ (leftC l)), rFn 135, rb true] := by
  refine Spec.intro Try.func134 rfl rfl Try.ntmps134 rfl (by simp) ?_
  have hkl : k.data.toList.length = k.size := Array.length_toList
  refine DW.seq (DW.regs ?_)
  refine RegO.opN 4 (by simp; rfl) ?_
  refine RegO.step rfl (OpStep.strBytes (b := k) rfl rfl (by decide) (by simp; rfl) (by simp; rfl) (by simp) (by simp) (by omega) (by simp)) ?_
  refine RegO.opN 1 (by simp; rfl) ?_
  refine RegO.nil ?_
  refine DW.seq (DW.reg (by simp; rfl) ?_)
  refine DW.seq (DW.seq (DW.reg (by simp; rfl) ?_))
  refine DW.ghost (Ghost.nlRow 7 42 3 (by simp) (by simp)) ?_
  refine DW.block ?_
  refine DW.loopG (fun n s => ∃ i : Nat, n = l.length - i ∧ i ≤ l.length ∧ s.e 0 = .v (.one (.pt 0 [] 0)) ∧ s.e 1 = .v (.one (.t (.fn 135 []))) ∧ s.e 2 = .v (.one (.t (.sc (.bool true)))) ∧ s.e 6 = .v (.one (.sl 14 [] 0 k.size)) ∧ s.e 7 = .v (.one (.sl 42 [] 0 (leftC (l.take i)).length)) ∧
    s.e 19 = .v (.one (.sl 0 [1] 0 l.length)) ∧ s.e 20 = .v (.one (.t (.sc (.int .i64 l.length)))) ∧ s.e 21 = .v (.one (.t (.sc (.int .i64 i)))) ∧ s.h 0 = some (.ow () 2 1 (dMem k l)) ∧ s.h 14 = some (.ow () 1 k.size ((keptB (l.take i) k.data.toList).map byteD)) ∧
    s.h 42 = some (.ow () 3 (leftC (l.take i)).length (rD (leftC (l.take i)))) ∧ s.h 9 = none ∧ s.h 41 = none ∧ s.g 0 = .pt 0 [] 0) (n0 := l.length) ⟨0, by simp [leftC, keptB, bytesD, rFn]⟩ ?_
  rintro n s ⟨i, rfl, hi, h0, h1, h2, h6, h7, h19, h20, h21, hh0, hh14, hh42, hh9, hh41, hg0⟩
  refine DW.seq (DW.reg (by simp [h21, h20]; rfl) ?_)
  refine DW.seq (DW.cond (t := decide ((i : Int) < l.length)) (by simp) (fun ht => DW.skip ?_) (fun ht => DW.exit ?_))
  · have hlt : i < l.length := by simpa using ht
    have hlt' : (i : Int) < l.length := by omega
    have hd := rD_drop_Cell l i hlt
    have hfc := hf l[i] (List.getElem_mem hlt)
    have htk : l.take (i + 1) = l.take i ++ [l[i]] := by rw [List.take_add_one, List.getElem?_eq_getElem hlt]; rfl
    have w3 : IntKind.i64.wrap ((i : Int) + 1) = ((i + 1 : Nat) : Int) := (wr _ (by omega) (by omega)).trans (by omega)
    have hcl := rD_len_Cell l
    have hle : i * 3 + 3 ≤ l.length * 3 := by omega
    generalize l[i] = c at hd hfc htk
    obtain ⟨f1, f2, f3⟩ := hfc
    have hkb : (keptB (l.take i) k.data.toList).length = k.size := (keptB_len _ _ fun c' hc' => by rw [hkl]; exact hf c' (List.mem_of_mem_take hc')).trans hkl
    have wm : IntKind.i64.wrap (c.Line * 16) = c.Line * 16 := wr _ (by omega) (by omega)
    have m1 : 0 ≤ c.Line * 16 := by omega
    have m2 : c.Line * 16 ≤ k.size := by omega
    refine DW.seq (DW.block ?_)
    refine DW.seq (DW.reg (by simp [h21, h19, hh0, hlt', hd, hh9, hcl, hle]; rfl) ?_)
    refine DW.seq (DW.regs ?_)
    refine RegO.opN 3 (by simp [h1]; rfl) ?_
    refine RegO.step rfl (OpStep.callN rfl (by simp [callArgs]; rfl) (fence1_spec i c) (by simp [rosOk, roA_, toRC, mapO]) (by simp [widen, ownV, ownC]) (by simp [finish, packDV, packD]; rfl)) ?_
    refine RegO.nil ?_
    refine DW.cond (t := c.Flushed) (by simp) (fun hc => ?_) (fun hc => ?_)
    · refine DW.drawn mixed (by kernel_rfl) ?_
      refine RegD.addN 7 (by simp [h6, hh14, wm, m1, m2]; exact ⟨rfl, rfl⟩) ?_
      refine RegD.heavy (.inl ⟨by simp, OpStep.copyStr (id := 14) (p := []) (off := (c.Line * 16).toNat) (n := k.size - (c.Line * 16).toNat) (b := c.Text) (N := k.size) (l := keptB (l.take i) k.data.toList) rfl rfl (by decide) (by simp; rfl) (by simp) (by simp) (by simp [hh14]; rfl) (by rfl) (by rw [hkb]; omega) (by omega)⟩) ?_
      refine RegD.nil ⟨by kernel_rfl, ?_⟩
      refine DW.reg (by simp [h21, w3]; rfl) ?_
      have hk1 : keptB (l.take (i + 1)) k.data.toList = ovl (keptB (l.take i) k.data.toList) c := by rw [htk, keptB, List.foldl_append]; simp [keptB, hc]
      have hl1 : leftC (l.take (i + 1)) = leftC (l.take i) := by rw [htk, leftC, List.filter_append]; simp [leftC, hc]
      refine ⟨_, l.length - (i + 1), Ghost.free 9, by omega, i + 1, rfl, by omega, by simp [FS.free, h0], by simp [FS.free, h1], by simp [FS.free, h2], by simp [FS.free, h6], by simp [FS.free, h7, hl1], by simp [FS.free, h19], by simp [FS.free, h20], by simp [FS.free], by simp [FS.free, hh0], ?_, by simp [FS.free, hh42, hl1], by simp [FS.free], by simp [FS.free, hh41], by simp [FS.free, hg0]⟩
      rw [hk1]
      simp [FS.free, ovl]
    · have hk1 : keptB (l.take (i + 1)) k.data.toList = keptB (l.take i) k.data.toList := by rw [htk, keptB, List.foldl_append]; simp [keptB, hc]
      have hl1 : leftC (l.take (i + 1)) = leftC (l.take i) ++ [c] := by rw [htk, leftC, List.filter_append]; simp [leftC, hc]
      have hll : (leftC (l.take i)).length ≤ l.length := Nat.le_trans (List.length_filter_le _ _) (by rw [List.length_take]; omega)
      have b1 : ((leftC (l.take i)).length + 1) * 32 ≤ 140737488355328 := by omega
      have b2 : (leftC (l.take i)).length + 1 ≤ 140737488355328 := by omega
      have hlc := rD_len_Cell (leftC (l.take i))
      refine DW.seq (DW.reg (by simp [h2]; rfl) ?_)
      refine DW.condT (by simp) ?_
      refine DW.reg (by simp [h7, hh42, hh41, hlc, b1, b2]; rfl) ?_
      refine DW.reg (by simp [h21, w3]; rfl) ?_
      have hcd : rD (leftC (l.take i) ++ [c]) = rD (leftC (l.take i)) ++ Cell.d c := by rw [rD_append]; rfl
      exact ⟨_, l.length - (i + 1), (Ghost.free 9).trans (Ghost.free 41), by omega, i + 1, rfl, by omega, by simp [FS.free, h0], by simp [FS.free, h1], by simp [FS.free, h2], by simp [FS.free, h6], by simp [FS.free, hl1], by simp [FS.free, h19], by simp [FS.free, h20], by simp [FS.free], by simp [FS.free, hh0], by simp [FS.free, hh14, hk1],
        by simp [FS.free, hl1, hcd], by simp [FS.free], by simp [FS.free], by simp [FS.free, hg0]⟩
  · have hil : i = l.length := by
      have : ¬ i < l.length := by simpa using ht
      omega
    subst hil
    rw [List.take_length] at h7 hh14 hh42
    have hkb : (keptB l k.data.toList).length = k.size := (keptB_len _ _ fun c' hc' => by rw [hkl]; exact hf c' hc').trans hkl
    have htk : ((keptB l k.data.toList).map byteD).take k.size = (keptB l k.data.toList).map byteD := List.take_of_length_le (by rw [List.length_map, hkb]; exact Nat.le_refl _)
    refine DW.regs ?_
    refine RegO.opN 3 (by simp; rfl) ?_
    refine RegO.step rfl (OpStep.bytesStr (n := k.size) (l := keptB l k.data.toList) (s' := _) (f := _) rfl rfl (by decide) (by simp; rfl) (by simp) (by simp) (by simp [rowLen, h6]) (by simp [h6, hh14, hkb, htk]; exact ⟨rfl, rfl⟩)) ?_
    have hlc := rD_len_Cell (leftC l)
    refine RegO.opN 7 (by simp [h0, hh0, h7, hh42, hlc]; rfl) ?_
    refine RegO.nil ?_
    simp [Try.results134, hg0]
def keptS (k : ByteArray) (l : List Cell) : ByteArray := ⟨(keptB l k.data.toList).toArray⟩
theorem fence_spec (k : ByteArray) (l : List Cell) (hl : l.length < 2 ^ 40) (hk : k.size < 2 ^ 40) (hf : ∀ c ∈ l, fitsC k.size c) : Spec Try.prog 91 [.ptr (dMem k l)] [] [] [.ptr (dMem (keptS k l) (leftC l))] := by
  refine Spec.intro Try.func91 rfl rfl Try.ntmps91 rfl (by simp) ?_
  refine DW.regs ?_
  refine RegO.opN 1 (by simp; rfl) ?_
  refine RegO.step rfl (OpStep.callP (io := 0) (id := 0) (off := 0) (p := []) (sz := 2) (n := 1) (cs0 := dMem k l) rfl (by simp [callArgs]; rfl) (keep_spec k l hl hk hf) (by simp) rfl rfl (by simp) rfl (by simp) (by simp) (by simp) (by simp [callArgs, FS.lend]; rfl) (by simp [rosOk, roA_, toRC, mapO]) (by simp [widen, ownV, ownC]) (by simp [finish, packDV, packD, ptBack]; rfl)) ?_
  refine RegO.nil ?_
  simp [Try.results91, mapV, pzR, inR, keptS]
end Go.Proofs.Ytjjdjkkhhcbogaa.DM
