import Derived.Test.YtjjdjkkhhcbogaaFMA
import Derived.Test.YtjjdjkkhhcbogaaFInsS
import Derived.Test.YtjjdjkkhhcbogaaD38
namespace Go.Proofs.Ytjjdjkkhhcbogaa.DM
set_option linter.unusedVariables false
set_option linter.unusedSimpArgs false
set_option maxRecDepth 4000
set_option maxHeartbeats 8000000
theorem lineAt_size {k : ByteArray} {l : List Cell} (h : memOk k l = true) (line : Int) (h0 : 0 ≤ line) (h1 : (line + 1) * 16 ≤ k.size) : (lineAt k l line).size = 16 := by
  unfold lineAt
  split
  · rename_i hh
    have hi := hasL_lt hh
    rw [List.getElem?_eq_getElem hi]
    exact (memOk_fits h _ (List.getElem_mem hi)).2.2
  · rw [ByteArray.size_extract]; omega
def putAtI (k : ByteArray) (l : List Cell) (n : Nat) (w : ByteArray) : Cell := ⟨((n / 2 : Nat) : Int), wordIn (lineAt k l ((n / 2 : Nat) : Int)) w (n % 2 * 8), false⟩
def layC (l : List Cell) (c : Cell) : List Cell := if hasL l c.Line then l.set (ixOf l c.Line) c else l.take (ixOf l c.Line) ++ c :: l.drop (ixOf l c.Line)
theorem rD_ins (l : List Cell) (i : Nat) (c : Cell) (h : i ≤ l.length) : rD (l.take i ++ c :: l.drop i) = (rD l).take (i * 3) ++ (Cell.d c ++ (rD l).drop (i * 3)) := by
  have h1 : rD (l.take i) = (rD l).take (i * 3) := by
    conv => rhs; rw [← List.take_append_drop i l, rD_append]
    rw [List.take_left' (by rw [rD_len_Cell, List.length_take, Nat.min_eq_left h])]
  have h2 : rD (l.drop i) = (rD l).drop (i * 3) := by
    conv => rhs; rw [← List.take_append_drop i l, rD_append]
    rw [List.drop_left' (by rw [rD_len_Cell, List.length_take, Nat.min_eq_left h])]
  rw [rD_append, rD_cons, h1, h2]; rfl

theorem insEnd_spec (l : List Cell) (c : Cell) (hl : l.length < 2 ^ 40) : Spec Try.prog 131 [.one (.c 3 l.length (rD l)), ri l.length, .one (.r (.sl 1 (Cell.r c)))] [none] [.ow () 3 (l.length + 1) (rD (l ++ [c]))] [.one (.c 3 l.length (rD l)), ri l.length, .one (.r (.sl 1 (Cell.r c)))] := by
  refine Spec.intro Try.func131 rfl rfl Try.ntmps131 rfl (by simp) ?_
  have c1 : (l.length + 1) * 32 ≤ 140737488355328 := by omega
  have c2 : l.length + 1 ≤ 140737488355328 := by omega
  have c3 : IntKind.i64.wrap 1 = 1 := rfl
  have hT := take_snoc l c
  have hb3 : (l.length + 1) * 3 ≤ l.length * 3 + 3 := by omega
  refine DW.seq ?_
  refine DW.reg (by simp [c1, c2, c3, rD_len_Cell]; rfl) ?_
  refine DW.seq ?_
  refine DW.reg (by simp [c1, c2, c3, rD_len_Cell]; rfl) ?_
  refine DW.seq ?_
  refine DW.reg (by simp [c1, c2, c3, rD_len_Cell]; rfl) ?_
  refine DW.seq ?_
  refine DW.seq ?_
  refine DW.reg (by simp [c1, c2, c3, rD_len_Cell]; rfl) ?_
  refine DW.condF (by simp [c1, c2, c3, rD_len_Cell]) ?_
  refine DW.skip ?_
  refine DW.seq ?_
  refine DW.reg (by simp [c1, c2, c3, rD_len_Cell]; rfl) ?_
  refine DW.seq ?_
  refine DW.seq ?_
  refine DW.reg (by simp [c1, c2, c3, rD_len_Cell]; rfl) ?_
  refine DW.condT (by simp [c1, c2, c3, rD_len_Cell]) ?_
  refine DW.seq ?_
  refine DW.reg (by simp [c1, c2, c3, rD_len_Cell]; rfl) ?_
  refine DW.ret ?_
  simp [Try.results131, hT, hb3, rD_len_Cell, rD_append] <;> rfl
end Go.Proofs.Ytjjdjkkhhcbogaa.DM

namespace Go.Proofs.Ytjjdjkkhhcbogaa.DM
set_option linter.unusedVariables false
set_option linter.unusedSimpArgs false
set_option maxRecDepth 4000
set_option maxHeartbeats 8000000
theorem store_spec (k : ByteArray) (l : List Cell) (n : Nat) (w : ByteArray) (hok : memOk k l = true) (hw : w.size = 8) (hn : n < k.size / 8) (hk : k.size < 2 ^ 40) (hl : l.length < 2 ^ 40) : Spec Try.prog 82 [.ptr (dMem k l), ri n, rs w] [] [] [.ptr (dMem k (layC l (putAtI k l n w))), ri n, rs w] := by
  refine Spec.intro Try.func82 rfl rfl Try.ntmps82 rfl (by simp) ?_
  obtain ⟨hm16, hsz, _⟩ := memOk_all hok
  obtain ⟨q, hq⟩ : ∃ q : Nat, q = n / 2 := ⟨_, rfl⟩
  obtain ⟨m, hm⟩ : ∃ m : Nat, m = n % 2 := ⟨_, rfl⟩
  obtain ⟨r, hr⟩ : ∃ r : Nat, r = m * 8 := ⟨_, rfl⟩
  obtain ⟨r2, hr2⟩ : ∃ r2 : Nat, r2 = r + 8 := ⟨_, rfl⟩
  have hls := lineAt_size hok (q : Int) (by omega) (by omega)
  have w1 : IntKind.i64.wrap ((n : Int) / 2) = (q : Int) := (wr _ (by omega) (by omega)).trans (by omega)
  have w2 : (n : Int).tmod 2 = (m : Int) := by rw [Int.tmod_eq_emod_of_nonneg (by omega)]; omega
  have w3 : IntKind.i64.wrap ((m : Int) * 8) = (r : Int) := (wr _ (by omega) (by omega)).trans (by omega)
  have w4 : IntKind.i64.wrap ((r : Int) + 8) = (r2 : Int) := (wr _ (by omega) (by omega)).trans (by omega)
  have c1 : r ≤ 16 := by omega
  have c2 : r2 ≤ 16 := by omega
  have c3 : (r : Int) ≤ 16 := by omega
  have c4 : (r2 : Int) ≤ 16 := by omega
  have c5 : ¬ 9223372036854775807 < (r : Int) + 8 := by omega
  have c6 : ¬ 9223372036854775807 < (r : Int) + 8 + ((16 - r2 : Nat) : Int) := by omega
  have hT0 : putAtI k l n w = ⟨(q : Int), (lineAt k l q).extract 0 r ++ w ++ (lineAt k l q).extract r2 16, false⟩ := by simp only [putAtI, ← hq, ← hm, ← hr, wordIn, ← hr2, hls]
  rw [hT0]
  refine DW.seq ?_
  refine DW.reg (by simp [w1, w2, w3, w4]; rfl) ?_
  refine DW.seq ?_
  refine DW.regs ?_
  refine RegO.opN 4 (by simp [w1, w2, w3, w4]; rfl) ?_
  refine RegO.step rfl (OpStep.callA rfl (by simp [w1, w2, w3, w4]; exact ⟨rfl, rfl⟩) (by simp [w1, w2, w3, w4]; rfl) (by exact line_spec _ _ _ hl (by omega) (by omega) hk) (by simp) (by simp [w1, w2, w3, w4]; rfl)) ?_
  refine RegO.opN 1 (by simp [w1, w2, w3, w4]; rfl) ?_
  refine RegO.nil ?_
  refine DW.seq ?_
  refine DW.reg (by simp [w1, w2, w3, w4]; rfl) ?_
  refine DW.seq ?_
  refine DW.drawn mixed (by kernel_rfl) ?_
  refine RegD.addN 12 (by simp [w1, w2, w3, w4, c1, c2, c3, c4, c5, c6, hls, hw]; first | exact ⟨rfl, rfl⟩ | rfl) ?_
  refine RegD.cert (Cert.alloc rfl rfl rfl (by decide) (by simp; rfl) (by rfl) (by decide) (by simp)) ?_
  refine RegD.heavyF (by simp) (by simp [w1, w2, w3, w4, c1, c2, c3, c4, c5, c6, hls, hw]; rfl) ?_
  refine RegD.nil ⟨by kernel_rfl, ?_⟩
  generalize (lineAt k l q).extract 0 r ++ w ++ (lineAt k l q).extract r2 16 = T0 at *
  refine DW.seq ?_
  refine DW.regs ?_
  refine RegO.opN 4 (by simp [w1, w2, w3, w4]; rfl) ?_
  refine RegO.step rfl (OpStep.callA rfl (by simp [w1, w2, w3, w4]; exact ⟨rfl, rfl⟩) (by simp [w1, w2, w3, w4]; rfl) (by exact findCell_spec _ _ _ hl) (by simp) (by simp [w1, w2, w3, w4]; rfl)) ?_
  refine RegO.opN 5 (by simp [w1, w2, w3, w4]; rfl) ?_
  refine RegO.nil ?_
  refine DW.seq ?_
  refine DW.reg (by simp [w1, w2, w3, w4]; rfl) ?_
  refine DW.condB (by simp [w1, w2, w3, w4]; exact rfl) (fun hc0 => ?_) (fun hc0 => ?_)
  · have hh : hasL l q = true := by simpa using hc0
    have hi := hasL_lt hh
    have hml : (ixOf l q : Int) < l.length := by omega
    have hres : layC l ⟨(q : Int), T0, false⟩ = l.set (ixOf l q) ⟨(q : Int), T0, false⟩ := by simp [layC, hh]
    generalize ixOf l q = x at hi hml hres ⊢
    have ha0 := cD_at l x 0 hi (by omega)
    have hs0 := cD_set l x 0 hi (by omega) ⟨(q : Int), l[x].Text, l[x].Flushed⟩ (.sc (.int .i64 q)) rfl
    have hi1 : x < (l.set x ⟨(q : Int), l[x].Text, l[x].Flushed⟩).length := by rw [List.length_set]; exact hi
    have ha1 := cD_at _ x 1 hi1 (by omega)
    have hs1 := cD_set _ x 1 hi1 (by omega) ⟨(q : Int), T0, l[x].Flushed⟩ (.sc (.string T0)) (by simp)
    have hi2 : x < (l.set x ⟨(q : Int), T0, l[x].Flushed⟩).length := by rw [List.length_set]; exact hi
    have ha2 := cD_at _ x 2 hi2 (by omega)
    have hs2 := cD_set _ x 2 hi2 (by omega) ⟨(q : Int), T0, false⟩ (.sc (.bool false)) (by simp)
    rw [List.set_set] at hs1 hs2
    simp only [Cell.d, List.getElem?_cons_succ, List.getElem?_cons_zero, Nat.add_zero] at ha0 ha1 ha2 hs0
    refine DW.drawn mixed (by kernel_rfl) ?_
    refine RegD.addN 7 (by simp [w1, w2, w3, w4, hml, ha0, hs0, ha1, hs1, ha2, hs2]; first | exact ⟨rfl, rfl⟩ | rfl) ?_
    refine RegD.heavyF (by simp) (by simp [w1, w2, w3, w4, hml, ha0, hs0, ha1, hs1, ha2, hs2]; rfl) ?_
    refine RegD.nil ⟨by kernel_rfl, ?_⟩
    rw [hres]
    simp [Try.results82]
  · have hh : hasL l q = false := by simpa using hc0
    have hres : layC l ⟨(q : Int), T0, false⟩ = l.take (ixOf l q) ++ ⟨(q : Int), T0, false⟩ :: l.drop (ixOf l q) := by simp [layC, hh]
    have hix := ixOf_le l q
    by_cases hin : ixOf l q < l.length
    · have hrd := rD_ins l (ixOf l q) ⟨(q : Int), T0, false⟩ hix
      have hlen : (l.take (ixOf l q) ++ ⟨(q : Int), T0, false⟩ :: l.drop (ixOf l q)).length = l.length + 1 := by rw [List.length_append, List.length_cons, List.length_take, List.length_drop]; omega
      generalize l.take (ixOf l q) ++ ⟨(q : Int), T0, false⟩ :: l.drop (ixOf l q) = L at hres hrd hlen
      simp only [Cell.d, List.cons_append, List.nil_append] at hrd
      have hrd := hrd.symm
      have hLl : (rD L).length = (l.length + 1) * 3 := by rw [rD_len_Cell, hlen]
      have hTk : List.take ((l.length + 1) * 3) (rD L) = rD L := List.take_of_length_le (by omega)
      rw [hres]
      refine DW.drawnC 8 0 mixed (by kernel_rfl) ?_
      refine RegC.addN 7 (by simp [w1, w2, w3, w4, hrd, hLl, hTk]; first | exact ⟨rfl, rfl⟩ | rfl) ?_
      refine RegC.cert (Cert.buildRo (rcs := [.sc (.int .i64 q), .sc (.string T0), .sc (.bool false)]) rfl rfl rfl (by decide) (by simp; exact ⟨rfl, rfl⟩) (by simp; rfl) (by simp; rfl) (by rfl) (by decide) (by decide) (by simp; rfl) (by simp; rfl) (by rfl) (by simp)) (by first | decide | simp) ?_
      refine RegC.swap (ok := _) (d := 50) (show _ = _ from by exact rfl) (by simp; exact ⟨rfl, rfl⟩) (by first | decide | simp) rfl (fun v0 => _) (fun v0 => OpStep.insert (cx := .sl 0 [1] 0 l.length) (idz := 57) (i := ixOf l q) (n := l.length) (cs := rD l) (zs := [.sc (.int .i64 q), .sc (.string T0), .sc (.bool false)]) rfl (by simp) (by simp [rD_len_Cell]; rfl) (by simp) rfl (by simp) hin (by omega) (by simp [finish, packDV, packD, hrd]; rfl)) (fun v0 => cert_cast (by simp) (by simp) (by simp)) (fun v0 => by simp; funext i; by_cases hi : i = 50 <;> simp [upd, hi]) rfl ?_
      refine RegC.addN 2 (by simp [w1, w2, w3, w4, hrd, hLl, hTk]; first | exact ⟨rfl, rfl⟩ | rfl) ?_
      refine RegC.heavyF (by simp) (by simp [w1, w2, w3, w4, hrd, hLl, hTk]; rfl) (by first | decide | simp) ?_
      refine ⟨by kernel_rfl, ?_⟩
      simp [Try.results82, hlen, hTk, hLl]
    · have hend : ixOf l q = l.length := by omega
      rw [hend, List.take_length, List.drop_length] at hres
      have hT := take_snoc l ⟨(q : Int), T0, false⟩
      have hT2 : List.take ((l.length + 1) * 3) (rD l ++ rD [(⟨(q : Int), T0, false⟩ : Cell)]) = rD l ++ rD [(⟨(q : Int), T0, false⟩ : Cell)] := hT
      dsimp only at hT
      have hb3 : (l.length + 1) * 3 ≤ l.length * 3 + 3 := by omega
      refine DW.drawnC 8 0 mixed (by kernel_rfl) ?_
      refine RegC.addN 7 (by simp [w1, w2, w3, w4, hend, hT, hb3, hT2]; first | exact ⟨rfl, rfl⟩ | rfl) ?_
      refine RegC.cert (Cert.buildRo (rcs := [.sc (.int .i64 q), .sc (.string T0), .sc (.bool false)]) rfl rfl rfl (by decide) (by simp; exact ⟨rfl, rfl⟩) (by simp; rfl) (by simp; rfl) (by rfl) (by decide) (by decide) (by simp; rfl) (by simp; rfl) (by rfl) (by simp)) (by first | decide | simp) ?_
      refine RegC.swap (ok := _) (d := 50) (show _ = _ from by exact rfl) (by simp; exact ⟨rfl, rfl⟩) (by first | decide | simp) rfl (fun v0 => _) (fun v0 => OpStep.callG (io := 0) rfl (by simp; rfl) (insEnd_spec l ⟨(q : Int), T0, false⟩ hl) rfl rfl rfl (by simp [giveG, rD_len_Cell]; rfl) (by simp; rfl) (by simp [rosOk, roA_, toRC, mapO]) (by simp [noRoL, noRo]) (by simp [finish, packDV, packD]; rfl)) (fun v0 => cert_cast (by simp) (by simp) (by simp)) (fun v0 => by simp; funext i; by_cases hi : i = 50 <;> simp [upd, hi]) rfl ?_
      refine RegC.addN 2 (by simp [w1, w2, w3, w4, hend, hT, hb3, hT2]; first | exact ⟨rfl, rfl⟩ | rfl) ?_
      refine RegC.heavyF (by simp) (by simp [w1, w2, w3, w4, hend, hT, hb3, hT2]; rfl) (by first | decide | simp) ?_
      refine ⟨by kernel_rfl, ?_⟩
      rw [hres]
      simp [Try.results82, hT2, rD_append] <;> rfl
end Go.Proofs.Ytjjdjkkhhcbogaa.DM

/-
  The memory by the reference and by the program: plain lists.
-/
namespace Go.Proofs.Ytjjdjkkhhcbogaa.DM
set_option linter.unusedVariables false
set_option linter.unusedSimpArgs false
abbrev Sorted (l : List Cell) : Prop := l.Pairwise fun a b => a.Line < b.Line
theorem memOk_iff (k : ByteArray) (l : List Cell) : memOk k l = true ↔ k.size % 16 = 0 ∧ k.size ≤ 16000 ∧ (∀ c ∈ l, fitsC k.size c) ∧ Sorted l := by
  constructor
  · intro h
    obtain ⟨h1, h2, h3⟩ := memOk_all h
    refine ⟨h1, h2, memOk_fits h, List.pairwise_iff_getElem.2 fun i j hi hj hij => ?_⟩
    have step : ∀ (d i : Nat) (h : i + d + 1 < l.length), (l[i]'(by omega)).Line < l[i + d + 1].Line := fun d => by
      induction d with
      | zero => intro i h; exact okAt_lt h (h3 _ h)
      | succ d ih =>
        intro i h
        have g1 := ih i (by omega)
        have g2 := okAt_lt (i := i + d + 1) h (h3 _ h)
        exact Int.lt_trans g1 g2
    have := step (j - i - 1) i (by omega)
    have e : i + (j - i - 1) + 1 = j := by omega
    simp only [e] at this
    exact this
  · rintro ⟨h1, h2, h3, h4⟩
    simp only [memOk, Bool.and_eq_true, List.all_eq_true, List.mem_range, beq_iff_eq, decide_eq_true_eq]
    refine ⟨⟨fun i hi => ?_, h1⟩, h2⟩
    have hci : l[i]? = some l[i] := List.getElem?_eq_getElem hi
    obtain ⟨f1, f2, f3⟩ := h3 _ (List.getElem_mem hi)
    have hA : inB l[i].Line 0 ((k.size : Int) / 16 - 1) = true := by
      simp only [inB, Bool.and_eq_true, decide_eq_true_eq]; exact ⟨f1, by omega⟩
    by_cases h0 : 0 < i
    · have hp : l[i - 1]? = some (l[i - 1]'(by omega)) := List.getElem?_eq_getElem (by omega)
      have := List.pairwise_iff_getElem.1 h4 (i - 1) i (by omega) hi (by omega)
      simp [okAt, hci, hA, f3, h0, hp]
      omega
    · simp [okAt, hci, hA, f3, h0]
section
variable {l : List Cell} {line : Int}
theorem lineLt_eq {i : Nat} (h : i < l.length) : lineLt l line i = decide (l[i].Line < line) := by
  simp only [lineLt, List.getElem?_eq_getElem h, cmpI]
  by_cases h1 : l[i].Line < line
  · simp [h1]
  · simp only [h1, if_false]
    split <;> simp
theorem bs_ok (h : Sorted l) : ∀ (d lo hi : Nat), d = hi - lo → lo ≤ hi → hi ≤ l.length → (∀ i (h : i < l.length), i < lo → l[i].Line < line) → (∀ i (h : i < l.length), hi ≤ i → line ≤ l[i].Line) →
    (∀ i (h : i < l.length), i < bs (lineLt l line) lo hi → l[i].Line < line) ∧ (∀ i (h : i < l.length), bs (lineLt l line) lo hi ≤ i → line ≤ l[i].Line) := fun d => by
  induction d using Nat.strongRecOn with
  | _ d ih =>
    intro lo hi hd hle hhi h1 h2
    rw [bs]
    split
    · rename_i hlt
      have hm : (lo + hi) / 2 < l.length := by omega
      rw [lineLt_eq hm]
      split
      · rename_i hp
        have hp : l[(lo + hi) / 2].Line < line := by simpa using hp
        refine ih (hi - ((lo + hi) / 2 + 1)) (by omega) _ _ rfl (by omega) hhi (fun i hi' hlt' => ?_) h2
        by_cases he : i = (lo + hi) / 2
        · subst he; exact hp
        · have := List.pairwise_iff_getElem.1 h i ((lo + hi) / 2) hi' hm (by omega)
          omega
      · rename_i hp
        have hp : ¬ l[(lo + hi) / 2].Line < line := by simpa using hp
        refine ih ((lo + hi) / 2 - lo) (by omega) _ _ rfl (by omega) (by omega) h1 (fun i hi' hge => ?_)
        by_cases he : i = (lo + hi) / 2
        · subst he; omega
        · have := List.pairwise_iff_getElem.1 h ((lo + hi) / 2) i hm hi' (by omega)
          omega
    · have : lo = hi := by omega
      subst this
      exact ⟨h1, h2⟩
theorem ix_lt (h : Sorted l) {i : Nat} (hi : i < l.length) (hx : i < ixOf l line) : l[i].Line < line := (bs_ok h _ 0 l.length rfl (Nat.zero_le _) (Nat.le_refl _) (fun i _ h => absurd h (Nat.not_lt_zero _)) (fun i h h' => absurd h (by omega))).1 i hi hx
theorem ix_ge (h : Sorted l) {i : Nat} (hi : i < l.length) (hx : ixOf l line ≤ i) : line ≤ l[i].Line := (bs_ok h _ 0 l.length rfl (Nat.zero_le _) (Nat.le_refl _) (fun i _ h => absurd h (Nat.not_lt_zero _)) (fun i h h' => absurd h (by omega))).2 i hi hx
theorem hasL_at (h : hasL l line = true) : (l[ixOf l line]'(hasL_lt h)).Line = line := by
  have hi := hasL_lt h
  simp only [hasL, foundAt, List.getElem?_eq_getElem hi, cmpI, beq_iff_eq] at h
  split at h
  · cases h
  · split at h
    · cases h
    · omega
theorem hasL_not (h : hasL l line = false) (hi : ixOf l line < l.length) : l[ixOf l line].Line ≠ line := fun e => by
  simp only [hasL, foundAt, List.getElem?_eq_getElem hi, cmpI, e] at h
  simp at h
theorem notL (hs : Sorted l) (h : hasL l line = false) {i : Nat} (hi : i < l.length) : l[i].Line ≠ line := fun e => by
  have hge : ixOf l line ≤ i := Nat.le_of_not_lt fun hlt => by have := ix_lt hs hi hlt; omega
  have hxl : ixOf l line < l.length := Nat.lt_of_le_of_lt hge hi
  have h1 := ix_ge hs hxl (Nat.le_refl _)
  have h2 := hasL_not h hxl
  by_cases he : ixOf l line = i
  · subst he; exact h2 e
  · have := List.pairwise_iff_getElem.1 hs (ixOf l line) i hxl hi (by omega)
    omega
theorem cellFrom_skip : ∀ (d i t : Nat), d = t - i → i ≤ t → t ≤ l.length → (∀ j (h : j < l.length), i ≤ j → j < t → l[j].Line ≠ line) → cellFrom l line i = cellFrom l line t
  | 0, i, t, hd, hit, ht, h => by
    have : i = t := by omega
    rw [this]
  | d + 1, i, t, hd, hit, ht, h => by
    have hi : i < l.length := by omega
    rw [cellFrom, dif_pos hi, if_neg (h i hi (Nat.le_refl _) (by omega))]
    exact cellFrom_skip d (i + 1) t (by omega) (by omega) ht fun j hj h1 h2 => h j hj (by omega) h2
theorem cellIx_eq (hs : Sorted l) : cellIx l line = if hasL l line then (ixOf l line : Int) else -1 := by
  split
  · rename_i h
    have hi := hasL_lt h
    rw [cellIx, cellFrom_skip (ixOf l line) 0 (ixOf l line) (by omega) (Nat.zero_le _) (by omega) (fun j hj _ hlt => by have := ix_lt hs hj hlt; omega), cellFrom, dif_pos hi, if_pos (hasL_at h)]
  · rename_i h
    have h : hasL l line = false := by simpa using h
    rw [cellIx, cellFrom_skip l.length 0 l.length (by omega) (Nat.zero_le _) (Nat.le_refl _) (fun j hj _ _ => notL hs h hj), cellFrom, dif_neg (Nat.lt_irrefl _)]
theorem lineS_eq (hs : Sorted l) (k : ByteArray) : lineS k l line = lineAt k l line := by
  unfold lineS lineAt
  rw [cellIx_eq hs]
  cases h : hasL l line with
  | true => simp <;> rfl
  | false => simp
theorem putAt_eq (hs : Sorted l) (k : ByteArray) (n : Nat) (w : ByteArray) : putAt k l n w = putAtI k l n w := by simp only [putAt, putAtI, lineS_eq hs]
theorem fillS_true (x : Cell) : ∀ (l : List Cell), (∀ c ∈ l, c.Line ≠ x.Line) → fillS x true l = l
  | [], _ => rfl
  | c :: l, h => by
    have := fillS_true x l fun c' hc' => h c' (List.mem_cons_of_mem _ hc')
    simp [fillS, h c List.mem_cons_self, this]
theorem fillS_skip (x : Cell) : ∀ (a b : List Cell), (∀ c ∈ a, c.Line < x.Line) → fillS x false (a ++ b) = a ++ fillS x false b
  | [], b, _ => rfl
  | c :: a, b, h => by
    have hc := h c List.mem_cons_self
    have h1 : ¬ x.Line ≤ c.Line := by omega
    have h2 : ¬ c.Line = x.Line := by omega
    have := fillS_skip x a b fun c' hc' => h c' (List.mem_cons_of_mem _ hc')
    simp [fillS, h1, h2, this]
theorem fillS_lay (hs : Sorted l) (x : Cell) : fillS x false l = layC l x := by
  have htl : ∀ c ∈ l.take (ixOf l x.Line), c.Line < x.Line := fun c hc => by
    obtain ⟨i, hi, rfl⟩ := List.getElem_of_mem hc
    rw [List.length_take] at hi
    rw [List.getElem_take]
    exact ix_lt hs (by omega) (by omega)
  have hle := ixOf_le l x.Line
  have h0 : fillS x false l = l.take (ixOf l x.Line) ++ fillS x false (l.drop (ixOf l x.Line)) := by
    conv => lhs; rw [← List.take_append_drop (ixOf l x.Line) l]
    exact fillS_skip x _ _ htl
  rw [h0]
  unfold layC
  cases hh : hasL l x.Line with
  | true =>
    have hi := hasL_lt hh
    rw [if_pos rfl, List.set_eq_take_append_cons_drop, if_pos hi, List.drop_eq_getElem_cons hi]
    congr 1
    have e := hasL_at hh
    have hrest := fillS_true x (l.drop (ixOf l x.Line + 1)) fun c hc => by
      obtain ⟨j, hj, rfl⟩ := List.getElem_of_mem hc
      rw [List.length_drop] at hj
      rw [List.getElem_drop]
      have := List.pairwise_iff_getElem.1 hs (ixOf l x.Line) (ixOf l x.Line + 1 + j) hi (by omega) (by omega)
      omega
    simp [fillS, e, hrest]
  | false =>
    rw [if_neg (by simp)]
    congr 1
    by_cases hi : ixOf l x.Line < l.length
    · rw [List.drop_eq_getElem_cons hi]
      have h1 := ix_ge (line := x.Line) hs hi (Nat.le_refl _)
      have h2 := hasL_not hh hi
      have hrest := fillS_true x (l.drop (ixOf l x.Line + 1)) fun c hc => by
        obtain ⟨j, hj, rfl⟩ := List.getElem_of_mem hc
        rw [List.length_drop] at hj
        rw [List.getElem_drop]
        exact notL hs hh (by omega)
      simp [fillS, h1, h2, hrest]
    · rw [List.drop_eq_nil_of_le (by omega)]; rfl
theorem flushL_eq (hs : Sorted l) : flushL l line = if 0 ≤ cellIx l line then flushAt l (cellIx l line).toNat else l := by
  rw [cellIx_eq hs]
  unfold flushL flushAt
  cases h : hasL l line with
  | true => simp <;> rfl
  | false => simp
end
theorem layC_ok {k : ByteArray} {l : List Cell} {x : Cell} (h : memOk k l = true) (hx : fitsC k.size x) : memOk k (layC l x) = true := by
  obtain ⟨h1, h2, h3, hs⟩ := (memOk_iff k l).1 h
  refine (memOk_iff _ _).2 ⟨h1, h2, ?_, ?_⟩
  · intro c hc
    unfold layC at hc
    split at hc
    · rcases List.mem_or_eq_of_mem_set hc with hc | rfl
      · exact h3 c hc
      · exact hx
    · rcases List.mem_append.1 hc with hc | hc
      · exact h3 c (List.mem_of_mem_take hc)
      · rcases List.mem_cons.1 hc with rfl | hc
        · exact hx
        · exact h3 c (List.mem_of_mem_drop hc)
  · have htl : ∀ c ∈ l.take (ixOf l x.Line), c.Line < x.Line := fun c hc => by
      obtain ⟨i, hi, rfl⟩ := List.getElem_of_mem hc
      rw [List.length_take] at hi
      rw [List.getElem_take]
      exact ix_lt hs (by omega) (by omega)
    have hcut : ∀ i, (∀ c ∈ l.drop i, x.Line < c.Line) → ixOf l x.Line ≤ i → Sorted (l.take (ixOf l x.Line) ++ x :: l.drop i) := fun i hd hxi => by
      have hs' := hs
      refine List.pairwise_append.2 ⟨hs.sublist (List.take_sublist _ _), List.pairwise_cons.2 ⟨hd, hs.sublist (List.drop_sublist _ _)⟩, fun a ha b hb => ?_⟩
      rcases List.mem_cons.1 hb with rfl | hb
      · exact htl a ha
      · exact Int.lt_trans (htl a ha) (hd b hb)
    unfold layC
    split
    · rename_i hh
      have hi := hasL_lt hh
      rw [List.set_eq_take_append_cons_drop, if_pos hi]
      refine hcut _ (fun c hc => ?_) (by omega)
      obtain ⟨j, hj, rfl⟩ := List.getElem_of_mem hc
      rw [List.length_drop] at hj
      rw [List.getElem_drop]
      have := List.pairwise_iff_getElem.1 hs (ixOf l x.Line) (ixOf l x.Line + 1 + j) hi (by omega) (by omega)
      have e := hasL_at hh
      omega
    · rename_i hh
      have hh : hasL l x.Line = false := by simpa using hh
      refine hcut _ (fun c hc => ?_) (Nat.le_refl _)
      obtain ⟨j, hj, rfl⟩ := List.getElem_of_mem hc
      rw [List.length_drop] at hj
      rw [List.getElem_drop]
      have g1 := ix_ge (line := x.Line) hs (i := ixOf l x.Line + j) (by omega) (by omega)
      have g2 := notL hs hh (i := ixOf l x.Line + j) (by omega)
      omega
theorem storeM_eq {k : ByteArray} {l : List Cell} (h : memOk k l = true) (x : Int) (w : ByteArray) : storeM ⟨k, l⟩ x w = if w.size = 8 then (if inB x 0 ((k.size : Int) / 8 - 1) then ⟨k, layC l (putAtI k l x.toNat w)⟩ else ⟨k, l⟩) else ⟨k, l⟩ := by
  have hs := ((memOk_iff k l).1 h).2.2.2
  simp only [storeM, h, if_true, putAt_eq hs, fillS_lay hs]
theorem flushM_eq {k : ByteArray} {l : List Cell} (h : memOk k l = true) (x : Int) : flushM ⟨k, l⟩ x = ⟨k, flushL l x⟩ := by
  have hs := ((memOk_iff k l).1 h).2.2.2
  simp only [flushM, h, if_true, flushL_eq hs]
  split <;> rfl
theorem fenceM_eq {k : ByteArray} {l : List Cell} (h : memOk k l = true) : fenceM ⟨k, l⟩ = ⟨keptS k l, leftC l⟩ := by simp [fenceM, h]
theorem wordIn_size {s w : ByteArray} {r : Nat} (hs : s.size = 16) (hw : w.size = 8) (hr : r ≤ 8) : (wordIn s w r).size = 16 := by
  unfold wordIn
  rw [ByteArray.size_append, ByteArray.size_append, ByteArray.size_extract, ByteArray.size_extract]
  omega
theorem putAtI_fits {k : ByteArray} {l : List Cell} (h : memOk k l = true) {n : Nat} {w : ByteArray} (hw : w.size = 8) (hn : n < k.size / 8) : fitsC k.size (putAtI k l n w) := by
  obtain ⟨h1, h2, -⟩ := memOk_all h
  exact ⟨by simp only [putAtI]; omega, by simp only [putAtI]; omega, wordIn_size (lineAt_size h _ (by omega) (by omega)) hw (by omega)⟩
theorem storeM_ok {k : ByteArray} {l : List Cell} (h : memOk k l = true) (x : Int) (w : ByteArray) : memOk (storeM ⟨k, l⟩ x w).Kept (storeM ⟨k, l⟩ x w).Cells = true := by
  rw [storeM_eq h]
  split
  · split
    · rename_i hw hin
      simp only [inB, Bool.and_eq_true, decide_eq_true_eq] at hin
      exact layC_ok h (putAtI_fits h hw (by omega))
    · exact h
  · exact h
theorem flushL_ok {k : ByteArray} {l : List Cell} (h : memOk k l = true) (x : Int) : memOk k (flushL l x) = true := by
  obtain ⟨h1, h2, h3, hs⟩ := (memOk_iff k l).1 h
  unfold flushL
  split
  · rename_i hh
    have hi := hasL_lt hh
    rw [List.getElem?_eq_getElem hi]
    refine (memOk_iff _ _).2 ⟨h1, h2, fun c hc => ?_, ?_⟩
    · rcases List.mem_or_eq_of_mem_set hc with hc | rfl
      · exact h3 c hc
      · exact (show fitsC k.size l[ixOf l x] from h3 _ (List.getElem_mem hi))
    · have e : (l.set (ixOf l x) (Cell.flush l[ixOf l x])).map Cell.Line = l.map Cell.Line := by
        rw [List.map_set]
        have : (Cell.flush l[ixOf l x]).Line = (l.map Cell.Line)[ixOf l x]'(by simpa using hi) := by simp [Cell.flush]
        rw [this, List.set_getElem_self]
      have g : ∀ l : List Cell, Sorted l ↔ (l.map Cell.Line).Pairwise (· < ·) := fun l => (List.pairwise_map).symm
      rw [g, e, ← g]
      exact hs
  · exact h
theorem fence_ok {k : ByteArray} {l : List Cell} (h : memOk k l = true) : memOk (keptS k l) (leftC l) = true := by
  obtain ⟨h1, h2, h3, hs⟩ := (memOk_iff k l).1 h
  have hz := keptS_size h3
  exact (memOk_iff _ _).2 ⟨by rw [hz]; exact h1, by rw [hz]; exact h2, fun c hc => by rw [hz]; exact h3 c (List.mem_filter.1 hc).1, hs.sublist List.filter_sublist⟩
theorem stepM_ok {m : Memory} (h : memOk m.Kept m.Cells = true) (s : Step) : memOk (stepM m s).Kept (stepM m s).Cells = true := by
  unfold stepM
  split
  · exact storeM_ok h _ _
  · split
    · rw [show m = ⟨m.Kept, m.Cells⟩ from rfl, flushM_eq h]; exact flushL_ok h _
    · split
      · rw [show m = ⟨m.Kept, m.Cells⟩ from rfl, fenceM_eq h]; exact fence_ok h
      · exact h
theorem stepsM_ok : ∀ (L : List Step) {m : Memory}, memOk m.Kept m.Cells = true → memOk (stepsM m L).Kept (stepsM m L).Cells = true
  | [], m, h => h
  | s :: L, m, h => stepsM_ok L (stepM_ok h s)
theorem stepM_bad {m : Memory} (h : memOk m.Kept m.Cells = false) (s : Step) : stepM m s = m := by
  unfold stepM storeM flushM fenceM
  simp [h]
theorem stepsM_bad : ∀ (L : List Step) {m : Memory}, memOk m.Kept m.Cells = false → stepsM m L = m
  | [], m, _ => rfl
  | s :: L, m, h => by
    show stepsM (stepM m s) L = m
    rw [stepM_bad h]
    exact stepsM_bad L h
end Go.Proofs.Ytjjdjkkhhcbogaa.DM

namespace Go.Proofs.Ytjjdjkkhhcbogaa.DM
set_option linter.unusedVariables false
set_option linter.unusedSimpArgs false
set_option maxRecDepth 4000
set_option maxHeartbeats 8000000
theorem run_spec (k : ByteArray) (l : List Cell) (s : Step) (hok : memOk k l = true) (hk : k.size < 2 ^ 40) (hl : l.length < 2 ^ 40) : Spec Try.prog 73 [.ptr (dMem k l), raStep s] [] [] [.ptr (dM (stepM ⟨k, l⟩ s)), raStep s] := by
  refine Spec.intro Try.func73 rfl rfl Try.ntmps73 rfl (by simp) ?_
  have wq : IntKind.i64.wrap ((k.size : Int) / 8 - 1) = (k.size : Int) / 8 - 1 := wr _ (by omega) (by omega)
  refine DW.seq ?_
  refine DW.reg (by simp; rfl) ?_
  refine DW.seq ?_
  refine DW.reg (by simp; rfl) ?_
  refine DW.block ?_
  refine DW.seq ?_
  refine DW.reg (by simp; rfl) ?_
  refine DW.condB (by simp; exact rfl) (fun hc0 => ?_) (fun hc0 => ?_)
  · have e1 : s.Kind = 1 := by simpa using hc0
    refine DW.seq ?_
    have hnoin := True.intro
    have h3 : inB s.At 0 ((k.size : Int) / 8 - 1) = false ∨ inB s.At 0 ((k.size : Int) / 8 - 1) = true := by cases inB s.At 0 ((k.size : Int) / 8 - 1) <;> simp
    rcases h3 with hin | hin
    · have hres : stepM ⟨k, l⟩ s = ⟨k, l⟩ := by simp [stepM, e1, storeM_eq hok, hin]
      refine DW.drawn mixed (by kernel_rfl) ?_
      refine RegD.addN 5 (by simp [hin, hnoin, wq]; first | exact ⟨rfl, rfl⟩ | rfl) ?_
      refine RegD.cert (Cert.callA rfl (by simp) rfl (by decide) (by simp [hin, hnoin, wq]; exact ⟨rfl, rfl⟩) (by simp [hin, hnoin, wq]; rfl) (by exact words_spec _ _ hk) rfl (by simp) (by simp; rfl) rfl) ?_
      refine RegD.addN 1 (by simp [hin, hnoin, wq]; first | exact ⟨rfl, rfl⟩ | rfl) ?_
      refine RegD.cert (Cert.callA rfl (by simp) rfl (by decide) (by simp [hin, hnoin, wq]; exact ⟨rfl, rfl⟩) (by simp [hin, hnoin, wq]; rfl) (by exact within_spec s.At 0 ((k.size : Int) / 8 - 1)) rfl (by simp) (by simp; rfl) rfl) ?_
      refine RegD.addN 6 (by simp [hin, hnoin, wq]; first | exact ⟨rfl, rfl⟩ | rfl) ?_
      refine RegD.nil ⟨by kernel_rfl, ?_⟩
      refine DW.condF (by simp [hin, hnoin]) ?_
      refine DW.skip ?_
      rw [hres]
      simp [Try.results73, mapV, pzR, inR]
    · skip
      refine DW.drawn mixed (by kernel_rfl) ?_
      refine RegD.addN 5 (by simp [hin, wq]; first | exact ⟨rfl, rfl⟩ | rfl) ?_
      refine RegD.cert (Cert.callA rfl (by simp) rfl (by decide) (by simp [hin, wq]; exact ⟨rfl, rfl⟩) (by simp [hin, wq]; rfl) (by exact words_spec _ _ hk) rfl (by simp) (by simp; rfl) rfl) ?_
      refine RegD.addN 1 (by simp [hin, wq]; first | exact ⟨rfl, rfl⟩ | rfl) ?_
      refine RegD.cert (Cert.callA rfl (by simp) rfl (by decide) (by simp [hin, wq]; exact ⟨rfl, rfl⟩) (by simp [hin, wq]; rfl) (by exact within_spec s.At 0 ((k.size : Int) / 8 - 1)) rfl (by simp) (by simp; rfl) rfl) ?_
      refine RegD.addN 6 (by simp [hin, wq]; first | exact ⟨rfl, rfl⟩ | rfl) ?_
      refine RegD.nil ⟨by kernel_rfl, ?_⟩
      refine DW.condB (by simp [hin]; exact rfl) (fun hc1 => ?_) (fun hc1 => ?_)
      · have hw : s.Word.size = 8 := by
          have : (s.Word.size : Int) = 8 := by simpa [hin] using hc1
          omega
        have hin2 := hin
        simp only [inB, Bool.and_eq_true, decide_eq_true_eq] at hin2
        obtain ⟨n, hn0⟩ := Int.eq_ofNat_of_zero_le hin2.1
        have hn : n < k.size / 8 := by omega
        have hres : stepM ⟨k, l⟩ s = ⟨k, layC l (putAtI k l n s.Word)⟩ := by simp [stepM, e1, storeM_eq hok, hin, hw]; simp [hn0]
        refine DW.regs ?_
        refine RegO.opN 5 (by simp [hin, hn0]; rfl) ?_
        refine RegO.step rfl (OpStep.callP (io := 0) (id := 0) (off := 0) (p := []) (sz := 2) (n := 1) (cs0 := dMem k l) rfl (by simp [callArgs, hn0]; rfl) (store_spec k l n s.Word hok hw hn hk hl) (by simp) rfl rfl (by simp) rfl (by simp) (by simp) (by simp) (by simp [callArgs, FS.lend, hn0]; rfl) (by simp [rosOk, roA_, toRC, mapO, hn0]) (by simp [widen, ownV, ownC]) (by simp [finish, packDV, packD, ptBack]; rfl)) ?_
        refine RegO.nil ?_
        rw [hres]
        simp [Try.results73, mapV, pzR, inR, hn0]
      · have hw : ¬ s.Word.size = 8 := by
          have : ¬ (s.Word.size : Int) = 8 := by simpa [hin] using hc1
          omega
        have hres : stepM ⟨k, l⟩ s = ⟨k, l⟩ := by simp [stepM, e1, storeM_eq hok, hw]
        refine DW.skip ?_
        rw [hres]
        simp [Try.results73, mapV, pzR, inR]
  · have n1 : ¬ s.Kind = 1 := by simpa using hc0
    refine DW.seq ?_
    refine DW.reg (by simp; rfl) ?_
    refine DW.condB (by simp; exact rfl) (fun hc1 => ?_) (fun hc1 => ?_)
    · have e2 : s.Kind = 2 := by simpa using hc1
      have hres : stepM ⟨k, l⟩ s = ⟨k, flushL l s.At⟩ := by simp [stepM, e2, flushM_eq hok]
      refine DW.regs ?_
      refine RegO.opN 3 (by simp; rfl) ?_
      refine RegO.step rfl (OpStep.callP (io := 0) (id := 0) (off := 0) (p := []) (sz := 2) (n := 1) (cs0 := dMem k l) rfl (by simp [callArgs]; rfl) (flush_spec k l s.At hl) (by simp) rfl rfl (by simp) rfl (by simp) (by simp) (by simp) (by simp [callArgs, FS.lend]; rfl) (by simp [rosOk, roA_, toRC, mapO]) (by simp [widen, ownV, ownC]) (by simp [finish, packDV, packD, ptBack]; rfl)) ?_
      refine RegO.nil ?_
      rw [hres]
      simp [Try.results73, mapV, pzR, inR]
    · have n2 : ¬ s.Kind = 2 := by simpa using hc1
      refine DW.seq ?_
      refine DW.reg (by simp; rfl) ?_
      refine DW.condB (by simp; exact rfl) (fun hc2 => ?_) (fun hc2 => ?_)
      · have e3 : s.Kind = 3 := by simpa using hc2
        have hres : stepM ⟨k, l⟩ s = ⟨keptS k l, leftC l⟩ := by simp [stepM, e3, fenceM_eq hok]
        refine DW.regs ?_
        refine RegO.opN 1 (by simp; rfl) ?_
        refine RegO.step rfl (OpStep.callP (io := 0) (id := 0) (off := 0) (p := []) (sz := 2) (n := 1) (cs0 := dMem k l) rfl (by simp [callArgs]; rfl) (fence_spec k l hl hk (memOk_fits hok)) (by simp) rfl rfl (by simp) rfl (by simp) (by simp) (by simp) (by simp [callArgs, FS.lend]; rfl) (by simp [rosOk, roA_, toRC, mapO]) (by simp [widen, ownV, ownC]) (by simp [finish, packDV, packD, ptBack]; rfl)) ?_
        refine RegO.nil ?_
        rw [hres]
        simp [Try.results73, mapV, pzR, inR]
      · have n3 : ¬ s.Kind = 3 := by simpa using hc2
        have hres : stepM ⟨k, l⟩ s = ⟨k, l⟩ := by simp [stepM, n1, n2, n3]
        refine DW.skip ?_
        rw [hres]
        simp [Try.results73, mapV, pzR, inR]
end Go.Proofs.Ytjjdjkkhhcbogaa.DM

namespace Go.Proofs.Ytjjdjkkhhcbogaa.DM
set_option linter.unusedVariables false
set_option linter.unusedSimpArgs false
set_option maxRecDepth 4000
set_option maxHeartbeats 8000000
theorem runSteps_spec (k : ByteArray) (l : List Cell) (L : List Step) (hk : k.size < 2 ^ 40) (hl : l.length + L.length < 2 ^ 40) : Spec Try.prog 21 [raMemory ⟨k, l⟩, ra L] [some 2] (dM (stepsM ⟨k, l⟩ L)) [raMemory ⟨k, l⟩, ra L] := by
  have hl : l.length < 2 ^ 40 := by omega
  refine Spec.intro Try.func21 rfl rfl Try.ntmps21 rfl (by simp) ?_
  refine DW.seq ?_
  refine DW.reg (by simp; rfl) ?_
  refine DW.seq ?_
  refine DW.regs ?_
  refine RegO.opN 1 (by simp; rfl) ?_
  refine RegO.step rfl (OpStep.callA rfl (by simp; exact ⟨rfl, rfl⟩) (by simp; rfl) (by exact copyMemory_spec _ _ hl) (by simp) (by simp; rfl)) ?_
  refine RegO.opN 2 (by simp; rfl) ?_
  refine RegO.nil ?_
  refine DW.seq ?_
  refine DW.seq ?_
  refine DW.regs ?_
  refine RegO.opN 1 (by simp; rfl) ?_
  refine RegO.step rfl (OpStep.callA rfl (by simp; exact ⟨rfl, rfl⟩) (by simp; rfl) (by exact memOk_spec _ _ hk hl) (by simp) (by simp; rfl)) ?_
  refine RegO.nil ?_
  refine DW.condB (by simp; exact rfl) (fun hc0 => ?_) (fun hc0 => ?_)
  · have hok : memOk k l = true := by simpa using hc0
    have hfin : stepsM ⟨k, l⟩ (L.take L.length) = stepsM ⟨k, l⟩ L := by rw [List.take_length]
    refine DW.seq ?_
    refine DW.reg (by simp; rfl) ?_
    refine DW.block ?_
    refine DW.loopS (α := Nat) (fun i => i ≤ L.length) (fun i => L.length - i) (fun i => [(14, vi i)]) (fun i => [(5, .ow () 2 1 (dM (stepsM ⟨k, l⟩ (L.take i))))]) [(4, _), (5, _), (12, _), (13, _)] [(4, _)] [] 0 (Nat.zero_le _) (by simp; exact ⟨rfl, rfl, rfl, rfl⟩) (by simp [stepsM, rD_len_Cell]; rfl) (by simp) (by rfl) ?_
    rintro i hi
    refine DW.seq ?_
    refine DW.reg (by simp; rfl) ?_
    refine DW.seq ?_
    refine DW.condB (by simp; exact rfl) (fun hc1 => ?_) (fun hc1 => ?_)
    · have hlt : i < L.length := by simpa using hc1
      have hlt' : (i : Int) < L.length := by omega
      have hd := rR_drop_Step L i hlt
      have w1 : IntKind.i64.wrap ((i : Int) + 1) = ((i + 1 : Nat) : Int) := (wr _ (by omega) (by omega)).trans (by omega)
      have hM := stepsM_succ ⟨k, l⟩ L i hlt
      have hbd := stepsM_bd (L.take i) ⟨k, l⟩
      have hmok := stepsM_ok (L.take i) (m := ⟨k, l⟩) hok
      rw [List.length_take] at hbd
      generalize L[i] = s at hd hM
      generalize (stepsM ⟨k, l⟩ (L.take i)) = m at hM hbd hmok ⊢
      have hmk : m.Kept.size < 2 ^ 40 := by rw [hbd.1]; exact hk
      have hml : m.Cells.length < 2 ^ 40 := by have := hbd.2; simp only at this; omega
      refine DW.skip ?_
      refine DW.seq ?_
      refine DW.block ?_
      refine DW.seq ?_
      refine DW.reg (by simp [hd, hlt', rD_len_Cell]; rfl) ?_
      refine DW.regs ?_
      refine RegO.opN 1 (by simp; rfl) ?_
      refine RegO.step rfl (OpStep.callP (io := 0) (id := 5) (off := 0) (p := []) (sz := 2) (n := 1) (cs0 := dM m) rfl (by simp [callArgs]; rfl) (run_spec m.Kept m.Cells s hmok hmk hml) (by simp) rfl rfl (by simp) rfl (by simp) (by simp) (by simp) (by simp [callArgs, FS.lend]; rfl) (by simp [rosOk, roA_, toRC, mapO]) (by simp [widen, ownV, ownC]) (by simp [finish, packDV, packD, ptBack]; rfl)) ?_
      refine RegO.nil ?_
      refine DW.reg (by simp [w1]; rfl) ?_
      exact ⟨i + 1, hlt, by omega, by simp [mapV, pzR, inR, w1], by simp [hM, rD_len_Cell, mapV, pzR, inR], by simp [mapV, pzR, inR], by rfl⟩
    · have hil : i = L.length := by
        have : ¬ i < L.length := by simpa using hc1
        omega
      subst hil
      rw [← hfin]
      refine DW.exit ?_
      refine DW.seq ?_
      refine DW.reg (by simp; rfl) ?_
      refine DW.ret ?_
      simp [Try.results21, rD_len_Cell]
  · have hok : memOk k l = false := by simpa using hc0
    have hfin : stepsM ⟨k, l⟩ L = ⟨k, l⟩ := stepsM_bad L hok
    refine DW.skip ?_
    refine DW.seq ?_
    refine DW.reg (by simp [hfin]; rfl) ?_
    refine DW.ret ?_
    simp [Try.results21, rD_len_Cell, hfin]
theorem runStep_spec (k : ByteArray) (l : List Cell) (s : Step) (hk : k.size < 2 ^ 40) (hl : l.length + 1 < 2 ^ 40) : Spec Try.prog 14 [raMemory ⟨k, l⟩, raStep s] [some 2] (dM (stepM ⟨k, l⟩ s)) [raMemory ⟨k, l⟩, raStep s] := by
  refine Spec.intro Try.func14 rfl rfl Try.ntmps14 rfl (by simp) ?_
  refine DW.seq ?_
  refine DW.reg (by simp; rfl) ?_
  refine DW.seq ?_
  refine DW.regs ?_
  refine RegO.opN 3 (by simp; rfl) ?_
  refine RegO.step rfl (OpStep.callA rfl (by simp; exact ⟨rfl, rfl⟩) (by simp; rfl) (by exact runSteps_spec k l [s] hk (by simp; omega)) (by simp) (by simp; rfl)) ?_
  refine RegO.opN 1 (by simp; rfl) ?_
  refine RegO.nil ?_
  refine DW.ret ?_
  simp [Try.results14, rD_len_Cell, stepsM]
end Go.Proofs.Ytjjdjkkhhcbogaa.DM
