import Derived.Test.YtjjdjkkhhcbogaaFM5
namespace Go.Proofs.Ytjjdjkkhhcbogaa.DM
set_option linter.unusedVariables false
set_option linter.unusedSimpArgs false
set_option maxRecDepth 4000
set_option maxHeartbeats 8000000
theorem lineS_size {k : ByteArray} {l : List Cell} (h : memOk k l = true) (line : Int) (h0 : 0 ≤ line) (h1 : (line + 1) * 16 ≤ k.size) : (lineS k l line).size = 16 := by
  unfold lineS
  split
  · have hi : (cellIx l line).toNat < l.length := by rcases cellIx_bd l line with h | h <;> omega
    rw [List.getElem?_eq_getElem hi]
    exact (memOk_fits h _ (List.getElem_mem hi)).2.2
  · rw [ByteArray.size_extract]; omega
def wordIn (s w : ByteArray) (k : Nat) : ByteArray := (s.extract 0 k ++ w) ++ s.extract (k + 8) s.size
def putAt (k : ByteArray) (l : List Cell) (n : Nat) (w : ByteArray) : Cell := ⟨((n / 2 : Nat) : Int), wordIn (lineS k l ((n / 2 : Nat) : Int)) w (n % 2 * 8), false⟩
def fillS (x : Cell) : Bool → List Cell → List Cell
  | b, [] => if b then [] else [x]
  | b, c :: l => ((if !b && decide (x.Line ≤ c.Line) then [x] else []) ++ (if c.Line = x.Line then [] else [c])) ++ fillS x (b || decide (x.Line ≤ c.Line)) l

theorem l10Store_spec (k : ByteArray) (l : List Cell) (n : Nat) (w : ByteArray) (hok : memOk k l = true) (hw : w.size = 8) (hn : n < k.size / 8) (hk : k.size < 2 ^ 40) (hl : l.length < 2 ^ 40) : Spec Try.prog 86 [raMemory ⟨k, l⟩, ri n, rs w] [some 2] (dM ⟨k, fillS (putAt k l n w) false l⟩) [raMemory ⟨k, l⟩, ri n, rs w] := by
  refine Spec.intro Try.func86 rfl rfl Try.ntmps86 rfl (by simp) ?_
  obtain ⟨hm16, hsz, _⟩ := memOk_all hok
  obtain ⟨q, hq⟩ : ∃ q : Nat, q = n / 2 := ⟨_, rfl⟩
  obtain ⟨m, hm⟩ : ∃ m : Nat, m = n % 2 := ⟨_, rfl⟩
  obtain ⟨r, hr⟩ : ∃ r : Nat, r = m * 8 := ⟨_, rfl⟩
  obtain ⟨r2, hr2⟩ : ∃ r2 : Nat, r2 = r + 8 := ⟨_, rfl⟩
  have hls := lineS_size hok (q : Int) (by omega) (by omega)
  have w1 : IntKind.i64.wrap ((n : Int) / 2) = (q : Int) := (wr _ (by omega) (by omega)).trans (by omega)
  have w2 : (n : Int).tmod 2 = (m : Int) := by rw [Int.tmod_eq_emod_of_nonneg (by omega)]; omega
  have w3 : IntKind.i64.wrap ((m : Int) * 8) = (r : Int) := (wr _ (by omega) (by omega)).trans (by omega)
  have w4 : IntKind.i64.wrap ((r : Int) + 8) = (r2 : Int) := (wr _ (by omega) (by omega)).trans (by omega)
  have c1 : r ≤ 16 := by omega
  have c2 : r2 ≤ 16 := by omega
  have c3 : (r : Int) ≤ 16 := by omega
  have c4 : (r2 : Int) ≤ 16 := by omega
  have c5 : ¬ 9223372036854775807 < (r : Int) + 8 := by omega
  have c6 : ¬ 9223372036854775807 < (r : Int) + 8 + ((16 - r2 : Nat) : Int) := by omega
  have hT0 : putAt k l n w = ⟨(q : Int), (lineS k l q).extract 0 r ++ w ++ (lineS k l q).extract r2 16, false⟩ := by simp only [putAt, ← hq, ← hm, ← hr, wordIn, ← hr2, hls]
  refine DW.seq ?_
  refine DW.reg (by simp [w1, w2, w3, w4]; rfl) ?_
  refine DW.seq ?_
  refine DW.reg (by simp [w1, w2, w3, w4]; rfl) ?_
  refine DW.seq ?_
  refine DW.reg (by simp [w1, w2, w3, w4]; rfl) ?_
  refine DW.seq ?_
  refine DW.regs ?_
  refine RegO.opN 2 (by simp [w1, w2, w3, w4]; rfl) ?_
  refine RegO.step rfl (OpStep.callA rfl (by simp [w1, w2, w3, w4]; exact ⟨rfl, rfl⟩) (by simp [w1, w2, w3, w4]; rfl) (by exact l10Line_spec _ _ _ hl (by omega) (fun _ => by omega) hk) (by simp) (by simp [w1, w2, w3, w4]; rfl)) ?_
  refine RegO.opN 1 (by simp [w1, w2, w3, w4]; rfl) ?_
  refine RegO.nil ?_
  refine DW.seq ?_
  refine DW.drawn mixed (by kernel_rfl) ?_
  refine RegD.addN 12 (by simp [w1, w2, w3, w4, c1, c2, c3, c4, c5, c6, hls, hw]; first | exact ⟨rfl, rfl⟩ | rfl) ?_
  refine RegD.cert (Cert.alloc rfl rfl rfl (by decide) (by simp; rfl) (by rfl) (by decide) (by simp)) ?_
  refine RegD.heavyF (by simp) (by simp [w1, w2, w3, w4, c1, c2, c3, c4, c5, c6, hls, hw]; rfl) ?_
  refine RegD.nil ⟨by kernel_rfl, ?_⟩
  refine DW.seq ?_
  refine DW.reg (by simp [w1, w2, w3, w4]; rfl) ?_
  refine DW.ghost (Ghost.wide 11 [1] 3 (by simp; rfl) (by simp)) ?_
  refine DW.seq ?_
  refine DW.reg (by simp [w1, w2, w3, w4]; rfl) ?_
  refine DW.seq ?_
  refine DW.seq ?_
  refine DW.reg (by simp [w1, w2, w3, w4]; rfl) ?_
  generalize (lineS k l q).extract 0 r ++ w ++ (lineS k l q).extract r2 16 = T0 at *
  refine DW.block ?_
  refine DW.loopS (α := Nat × Bool × List Cell) (fun a => a.1 ≤ l.length ∧ a.2.2.length ≤ 2 * a.1 ∧ a.2.2 ++ fillS (⟨(q : Int), T0, false⟩ : Cell) a.2.1 (l.drop a.1) = fillS (⟨(q : Int), T0, false⟩ : Cell) false l) (fun a => l.length - a.1) (fun a => [(13, vi a.1), (12, .v (.one (.t (.sc (.bool a.2.1)))))]) (fun a => [(11, .ow () 2 1 (dMem k a.2.2))]) [(3, _), (6, _), (7, _), (10, _), (11, _)] [(3, _), (6, _), (10, _)] [] (0, false, []) (⟨Nat.zero_le _, by simp, by simp⟩) (by simp; exact ⟨rfl, rfl, rfl, rfl, rfl⟩) (by simp; exact ⟨rfl, rfl, rfl⟩) (by simp) (by rfl) ?_
  rintro ⟨i, b, acc⟩ ⟨hi, hal, hacc⟩
  dsimp only at hi hal hacc
  refine DW.seq ?_
  refine DW.seq ?_
  refine DW.reg (by simp [w1, w2, w3, w4]; rfl) ?_
  refine DW.condB (by simp [w1, w2, w3, w4]; exact rfl) (fun hc0 => ?_) (fun hc0 => ?_)
  · have hlt : i < l.length := by simpa using hc0
    have hlt' : (i : Int) < l.length := by omega
    have hd := rR_drop_Cell l i hlt
    have hdl : l.drop i = l[i] :: l.drop (i + 1) := List.drop_eq_getElem_cons hlt
    have w1 : IntKind.i64.wrap ((i : Int) + 1) = ((i + 1 : Nat) : Int) := (wr _ (by omega) (by omega)).trans (by omega)
    generalize l[i] = c at hd hdl
    have hT1 := take_snoc acc (⟨(q : Int), T0, false⟩ : Cell)
    dsimp only at hT1
    have b1 : (acc.length + 1) * 32 ≤ 140737488355328 := by omega
    have b2 : acc.length + 1 ≤ 140737488355328 := by omega
    have b3 : (acc.length + 1) * 3 ≤ acc.length * 3 + 3 := by omega
    refine DW.skip ?_
    refine DW.seq ?_
    refine DW.block ?_
    refine DW.seq ?_
    refine DW.seq ?_
    have hla : (!true) = false := rfl
    have hxd : rD [(⟨(q : Int), T0, false⟩ : Cell)] = [.sc (.int .i64 q), .sc (.string T0), .sc (.bool false)] := rfl
    cases b
    · skip
      refine DW.reg (by simp [w1, w2, w3, w4, hd, hlt']; rfl) ?_
      refine DW.condB (by simp [w1, w2, w3, w4]; exact rfl) (fun hc1 => ?_) (fun hc1 => ?_)
      · have hge : (q : Int) ≤ c.Line := by simpa using hc1
        refine DW.seq ?_
        refine DW.reg (by simp [w1, w2, w3, w4, hge, hT1, b1, b2, b3, rD_len_Cell]; rfl) ?_
        refine DW.reg (by simp [w1, w2, w3, w4, hge]; rfl) ?_
        refine DW.seq ?_
        obtain ⟨acc1, hacc1⟩ : ∃ a : List Cell, a = acc ++ [(⟨(q : Int), T0, false⟩ : Cell)] := ⟨_, rfl⟩
        refine DW.norm [(3, _), (6, _), (7, _), (10, _), (11, _), (13, _), (12, .v (.one (.t (.sc (.bool true)))))] [(3, _), (6, _), (10, _), (11, .ow () 2 1 (dMem k acc1))] [] (by simp; exact ⟨rfl, rfl, rfl, rfl, rfl, rfl⟩) (by simp [hacc1, rD_append, rD_len_Cell, hxd]; exact ⟨rfl, rfl, rfl⟩) (by simp) (by rfl) ?_
        have hl1 : acc1.length ≤ 2 * i + 1 := by rw [hacc1]; first | omega | (simp; omega)
        have d1 : (acc1.length + 1) * 32 ≤ 140737488355328 := by omega
        have d2 : acc1.length + 1 ≤ 140737488355328 := by omega
        have d3 : (acc1.length + 1) * 3 ≤ acc1.length * 3 + 3 := by omega
        have hT2 := take_snoc acc1 c
        refine DW.reg (by simp [w1, w2, w3, w4, hge, hd, hlt']; rfl) ?_
        refine DW.condB (by simp [w1, w2, w3, w4, hge]; exact rfl) (fun hc2 => ?_) (fun hc2 => ?_)
        · have hne : ¬ c.Line = q := by simpa using hc2
          refine DW.drawn mixed (by kernel_rfl) ?_
          refine RegD.addN 7 (by simp [w1, w2, w3, w4, hge, hne, hd, hlt', d1, d2, d3, hT2, rD_len_Cell]; first | exact ⟨rfl, rfl⟩ | rfl) ?_
          refine RegD.cert (Cert.buildRo (rcs := Cell.r c) rfl rfl rfl (by decide) (by simp; exact ⟨rfl, rfl⟩) (by simp; rfl) (by simp; rfl) (by rfl) (by decide) (by decide) (by simp; rfl) (by simp; rfl) (by rfl) (by simp)) ?_
          refine RegD.heavyF (by simp) (by simp [w1, w2, w3, w4, hge, hne, hd, hlt', d1, d2, d3, hT2, rD_len_Cell]; rfl) ?_
          refine RegD.addN 1 (by simp [w1, w2, w3, w4, hge, hne, hd, hlt', d1, d2, d3, hT2, rD_len_Cell]; first | exact ⟨rfl, rfl⟩ | rfl) ?_
          refine RegD.heavyF (by simp) (by simp [w1, w2, w3, w4, hge, hne, hd, hlt', d1, d2, d3, hT2, rD_len_Cell]; rfl) ?_
          refine RegD.nil ⟨by kernel_rfl, ?_⟩
          refine DW.reg (by simp [w1, w2, w3, w4, hge, hne, w1]; rfl) ?_
          refine ⟨(i + 1, true, acc1 ++ [c]), ⟨hlt, by simp; omega, ?_⟩, by simp; omega, by simp, by simp [rD_append] <;> rfl, by simp, by rfl⟩
          rw [← hacc, hdl, hacc1]
          simp [fillS, w1, w2, w3, w4, hge, hne]
        · have heq : c.Line = q := by simpa using hc2
          refine DW.skip ?_
          refine DW.reg (by simp [w1, w2, w3, w4, hge, heq, w1]; rfl) ?_
          refine ⟨(i + 1, true, acc1), ⟨hlt, by show acc1.length ≤ 2 * (i + 1); omega, ?_⟩, by simp; omega, by simp, by simp [rD_append] <;> rfl, by simp, by rfl⟩
          rw [← hacc, hdl, hacc1]
          simp [fillS, w1, w2, w3, w4, hge, heq]
      · have hng : ¬ (q : Int) ≤ c.Line := by simpa using hc1
        refine DW.skip ?_
        refine DW.seq ?_
        obtain ⟨acc1, hacc1⟩ : ∃ a : List Cell, a = acc := ⟨_, rfl⟩
        refine DW.norm [(3, _), (6, _), (7, _), (10, _), (11, _), (13, _), (12, .v (.one (.t (.sc (.bool false)))))] [(3, _), (6, _), (10, _), (11, .ow () 2 1 (dMem k acc1))] [] (by simp; exact ⟨rfl, rfl, rfl, rfl, rfl, rfl⟩) (by simp [hacc1, rD_append, rD_len_Cell, hxd]; exact ⟨rfl, rfl, rfl⟩) (by simp) (by rfl) ?_
        have hl1 : acc1.length ≤ 2 * i + 1 := by rw [hacc1]; first | omega | (simp; omega)
        have d1 : (acc1.length + 1) * 32 ≤ 140737488355328 := by omega
        have d2 : acc1.length + 1 ≤ 140737488355328 := by omega
        have d3 : (acc1.length + 1) * 3 ≤ acc1.length * 3 + 3 := by omega
        have hT2 := take_snoc acc1 c
        refine DW.reg (by simp [w1, w2, w3, w4, hng, hd, hlt']; rfl) ?_
        refine DW.condB (by simp [w1, w2, w3, w4, hng]; exact rfl) (fun hc3 => ?_) (fun hc3 => ?_)
        · have hne : ¬ c.Line = q := by simpa using hc3
          refine DW.drawn mixed (by kernel_rfl) ?_
          refine RegD.addN 7 (by simp [w1, w2, w3, w4, hng, hne, hd, hlt', d1, d2, d3, hT2, rD_len_Cell]; first | exact ⟨rfl, rfl⟩ | rfl) ?_
          refine RegD.cert (Cert.buildRo (rcs := Cell.r c) rfl rfl rfl (by decide) (by simp; exact ⟨rfl, rfl⟩) (by simp; rfl) (by simp; rfl) (by rfl) (by decide) (by decide) (by simp; rfl) (by simp; rfl) (by rfl) (by simp)) ?_
          refine RegD.heavyF (by simp) (by simp [w1, w2, w3, w4, hng, hne, hd, hlt', d1, d2, d3, hT2, rD_len_Cell]; rfl) ?_
          refine RegD.addN 1 (by simp [w1, w2, w3, w4, hng, hne, hd, hlt', d1, d2, d3, hT2, rD_len_Cell]; first | exact ⟨rfl, rfl⟩ | rfl) ?_
          refine RegD.heavyF (by simp) (by simp [w1, w2, w3, w4, hng, hne, hd, hlt', d1, d2, d3, hT2, rD_len_Cell]; rfl) ?_
          refine RegD.nil ⟨by kernel_rfl, ?_⟩
          refine DW.reg (by simp [w1, w2, w3, w4, hng, hne, w1]; rfl) ?_
          refine ⟨(i + 1, false, acc1 ++ [c]), ⟨hlt, by simp; omega, ?_⟩, by simp; omega, by simp, by simp [rD_append] <;> rfl, by simp, by rfl⟩
          rw [← hacc, hdl, hacc1]
          simp [fillS, w1, w2, w3, w4, hng, hne]
        · have heq : c.Line = q := by simpa using hc3
          exact absurd (by omega) hng
    · skip
      refine DW.reg (by simp [w1, w2, w3, w4, hla, hd, hlt']; rfl) ?_
      refine DW.condF (by simp [w1, w2, w3, w4, hla]) ?_
      refine DW.skip ?_
      refine DW.seq ?_
      obtain ⟨acc1, hacc1⟩ : ∃ a : List Cell, a = acc := ⟨_, rfl⟩
      refine DW.norm [(3, _), (6, _), (7, _), (10, _), (11, _), (13, _), (12, .v (.one (.t (.sc (.bool true)))))] [(3, _), (6, _), (10, _), (11, .ow () 2 1 (dMem k acc1))] [] (by simp; exact ⟨rfl, rfl, rfl, rfl, rfl, rfl⟩) (by simp [hacc1, rD_append, rD_len_Cell, hxd]; exact ⟨rfl, rfl, rfl⟩) (by simp) (by rfl) ?_
      have hl1 : acc1.length ≤ 2 * i + 1 := by rw [hacc1]; first | omega | (simp; omega)
      have d1 : (acc1.length + 1) * 32 ≤ 140737488355328 := by omega
      have d2 : acc1.length + 1 ≤ 140737488355328 := by omega
      have d3 : (acc1.length + 1) * 3 ≤ acc1.length * 3 + 3 := by omega
      have hT2 := take_snoc acc1 c
      refine DW.reg (by simp [w1, w2, w3, w4, hla, hd, hlt']; rfl) ?_
      refine DW.condB (by simp [w1, w2, w3, w4, hla]; exact rfl) (fun hc2 => ?_) (fun hc2 => ?_)
      · have hne : ¬ c.Line = q := by simpa using hc2
        refine DW.drawn mixed (by kernel_rfl) ?_
        refine RegD.addN 7 (by simp [w1, w2, w3, w4, hla, hne, hd, hlt', d1, d2, d3, hT2, rD_len_Cell]; first | exact ⟨rfl, rfl⟩ | rfl) ?_
        refine RegD.cert (Cert.buildRo (rcs := Cell.r c) rfl rfl rfl (by decide) (by simp; exact ⟨rfl, rfl⟩) (by simp; rfl) (by simp; rfl) (by rfl) (by decide) (by decide) (by simp; rfl) (by simp; rfl) (by rfl) (by simp)) ?_
        refine RegD.heavyF (by simp) (by simp [w1, w2, w3, w4, hla, hne, hd, hlt', d1, d2, d3, hT2, rD_len_Cell]; rfl) ?_
        refine RegD.addN 1 (by simp [w1, w2, w3, w4, hla, hne, hd, hlt', d1, d2, d3, hT2, rD_len_Cell]; first | exact ⟨rfl, rfl⟩ | rfl) ?_
        refine RegD.heavyF (by simp) (by simp [w1, w2, w3, w4, hla, hne, hd, hlt', d1, d2, d3, hT2, rD_len_Cell]; rfl) ?_
        refine RegD.nil ⟨by kernel_rfl, ?_⟩
        refine DW.reg (by simp [w1, w2, w3, w4, hla, hne, w1]; rfl) ?_
        refine ⟨(i + 1, true, acc1 ++ [c]), ⟨hlt, by simp; omega, ?_⟩, by simp; omega, by simp, by simp [rD_append] <;> rfl, by simp, by rfl⟩
        rw [← hacc, hdl, hacc1]
        simp [fillS, w1, w2, w3, w4, hla, hne]
      · have heq : c.Line = q := by simpa using hc2
        refine DW.skip ?_
        refine DW.reg (by simp [w1, w2, w3, w4, hla, heq, w1]; rfl) ?_
        refine ⟨(i + 1, true, acc1), ⟨hlt, by show acc1.length ≤ 2 * (i + 1); omega, ?_⟩, by simp; omega, by simp, by simp [rD_append] <;> rfl, by simp, by rfl⟩
        rw [← hacc, hdl, hacc1]
        simp [fillS, w1, w2, w3, w4, hla, heq]
  · have hil : i = l.length := by
      have : ¬ i < l.length := by simpa using hc0
      omega
    subst hil
    rw [List.drop_length] at hacc
    have hT1 := take_snoc acc (⟨(q : Int), T0, false⟩ : Cell)
    dsimp only at hT1
    have b1 : (acc.length + 1) * 32 ≤ 140737488355328 := by omega
    have b2 : acc.length + 1 ≤ 140737488355328 := by omega
    have b3 : (acc.length + 1) * 3 ≤ acc.length * 3 + 3 := by omega
    refine DW.exit ?_
    refine DW.seq ?_
    refine DW.seq ?_
    have hla : (!true) = false := rfl
    cases b
    · have hfin : fillS (putAt k l n w) false l = acc ++ [(⟨(q : Int), T0, false⟩ : Cell)] := by rw [hT0, ← hacc]; simp [fillS]
      refine DW.reg (by simp [w1, w2, w3, w4]; rfl) ?_
      refine DW.condT (by simp [w1, w2, w3, w4]) ?_
      refine DW.reg (by simp [w1, w2, w3, w4, hT1, b1, b2, b3, rD_len_Cell]; rfl) ?_
      refine DW.seq ?_
      refine DW.reg (by simp [w1, w2, w3, w4, hT1, b3, rD_len_Cell]; rfl) ?_
      refine DW.ret ?_
      rw [hfin]
      simp [Try.results86, hT1, b3, rD_len_Cell, rD_append] <;> rfl
    · have hfin : fillS (putAt k l n w) false l = acc := by rw [hT0, ← hacc]; simp [fillS]
      refine DW.reg (by simp [w1, w2, w3, w4, hla]; rfl) ?_
      refine DW.condF (by simp [w1, w2, w3, w4, hla]) ?_
      refine DW.skip ?_
      refine DW.seq ?_
      refine DW.reg (by simp [w1, w2, w3, w4, hla, hT1, b3, rD_len_Cell]; rfl) ?_
      refine DW.ret ?_
      rw [hfin]
      simp [Try.results86, hT1, b3, rD_len_Cell, rD_append] <;> rfl
end Go.Proofs.Ytjjdjkkhhcbogaa.DM
