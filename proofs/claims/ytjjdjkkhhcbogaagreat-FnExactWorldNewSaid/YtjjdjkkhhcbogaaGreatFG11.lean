import Derived.Test.YtjjdjkkhhcbogaaGreatFG9
import Derived.Test.YtjjdjkkhhcbogaaGreatDD
import Derived.Test.YtjjdjkkhhcbogaaGreatFM13
namespace Go.Proofs.YtjjdjkkhhcbogaaGreat.DM
set_option linter.unusedVariables false
set_option linter.unusedSimpArgs false
set_option maxRecDepth 4000
set_option maxHeartbeats 8000000
def dirN : Inode := ⟨2, 0, 1, ByteArray.empty, [], []⟩
def freeN : Inode := ⟨0, 0, 0, ByteArray.empty, [], []⟩
def inos : Nat → List Inode
  | 0 => []
  | n + 1 => dirN :: List.replicate n freeN
@[simp] theorem inos_len : ∀ n, (inos n).length = n
  | 0 => rfl
  | n + 1 => by simp [inos]
theorem inos_at : ∀ (n i : Nat) (h : i < (inos n).length), (inos n)[i] = if i = 0 then dirN else freeN
  | 0, i, h => by simp [inos] at h
  | n + 1, 0, h => rfl
  | n + 1, i + 1, h => by simp [inos]
def partNew (g : Geo) : Part := ⟨0, List.replicate g.Pages.toNat 0, inos g.Inodes.toNat⟩
/-- a number's bytes. -/
def numAt (n : Int) (k : Nat) : UInt8 := UInt8.ofNat ((n / 2 ^ (8 * k)) % 256).toNat
def numT (n : Int) (w : Nat) : List UInt8 := (List.range w).map fun j => numAt n (w - 1 - j)
@[simp] theorem numT_len (n : Int) (w : Nat) : (numT n w).length = w := by simp [numT]
theorem numT_at (n : Int) (w j : Nat) (h : j < w) : (numT n w)[j]'(by simpa using h) = numAt n (w - 1 - j) := by simp [numT]
def numB (n : Int) (w : Nat) : ByteArray := ⟨(numT n w).toArray⟩
@[simp] theorem numB_size (n : Int) (w : Nat) : (numB n w).size = w := by show (numT n w).toArray.size = w; simp
theorem u8_wrap (x : Int) : IntKind.u8.wrap x = x % 256 := by simp [IntKind.wrap, IntKind.bits, IntKind.signed]
theorem numAt_wrap (n : Int) (k : Nat) : IntKind.u8.wrap (n / 2 ^ (8 * k)) = ((numAt n k).toNat : Int) := by
  rw [u8_wrap]
  unfold numAt
  have h0 := Int.emod_nonneg (n / 2 ^ (8 * k)) (show (256 : Int) ≠ 0 by decide)
  have h1 := Int.emod_lt_of_pos (n / 2 ^ (8 * k)) (show (0 : Int) < 256 by decide)
  generalize (n / 2 ^ (8 * k)) % 256 = y at *
  simp; omega
theorem shrK (n : Int) (k : Nat) (hk : k ≤ 64) : n.fdiv (2 ^ min k IntKind.i64.bits) = n / 2 ^ k := by
  have : min k IntKind.i64.bits = k := Nat.min_eq_left hk
  rw [this, Int.fdiv_eq_ediv_of_nonneg _ (Int.le_of_lt (Int.pow_pos (by decide)))]
theorem wrapU {x : Int} (h : 0 ≤ x ∧ x < 18446744073709551616) : IntKind.u64.wrap x = x := by
  have h1 : x % 18446744073709551616 = x := by omega
  simp [IntKind.wrap, IntKind.bits, IntKind.signed, h1]
def fillB (L : List UInt8) (i : Nat) : List UInt8 := L.take i ++ List.replicate (L.length - i) 0
theorem fillB_len (L : List UInt8) (i : Nat) (h : i ≤ L.length) : (fillB L i).length = L.length := by simp [fillB]; omega
theorem fillB_set (L : List UInt8) (i : Nat) (h : i < L.length) : (fillB L i).set i L[i] = fillB L (i + 1) := by
  unfold fillB
  rw [take_succ' L i h, List.set_append_right _ _ (by simp; omega)]
  have e : i - (L.take i).length = 0 := by simp; omega
  rw [e, show L.length - i = (L.length - (i + 1)) + 1 by omega, List.replicate_succ, List.append_assoc]
  rfl
theorem fillB_all (L : List UInt8) : fillB L L.length = L := by simp [fillB]

theorem specNumText_spec (n : Int) (w : Nat) (h0 : 0 ≤ n) (h1 : n < 2 ^ (8 * w)) (hw : 1 ≤ w ∧ w ≤ 7) : Spec Tryz.prog 230 [ri n, ri w] [none] [ds (numB n w)] [ri n, ri w] := by
  refine Spec.intro Tryz.func230 rfl rfl Tryz.ntmps230 rfl (by simp) ?_
  have hin : inB (w : Int) 1 7 = true := by simp [inB]; omega
  have hn0 : ¬ n < 0 := by omega
  have hw64 : IntKind.u64.wrap (w : Int) = (w : Int) := wrapU (by omega)
  have hw8 : IntKind.u64.wrap (8 * (w : Int)) = 8 * (w : Int) := wrapU (by omega)
  have ht8 : (8 * (w : Int)).toNat = 8 * w := by omega
  have hng8 : ¬ 8 * (w : Int) < 0 := by omega
  have hs8 := shrK n (8 * w) (by omega)
  have hz8 : n / 2 ^ (8 * w) = 0 := Int.ediv_eq_zero_of_lt h0 h1
  have hwi : IntKind.i64.wrap (8 * (w : Int)) = 8 * (w : Int) := wr _ (by omega) (by omega)
  refine DW.seq ?_
  refine DW.reg (by simp (maxSteps := 200000) (disch := first | omega | (simp; done) | fail) [wrapI, leT, leF, ltT, ltF, eqF, nleT, nleF, nltT, nltF]; rfl) ?_
  refine DW.seq ?_
  refine DW.seq ?_
  refine DW.regs ?_
  refine RegO.opN 4 (by simp (maxSteps := 200000) (disch := first | omega | (simp; done) | fail) [wrapI, leT, leF, ltT, ltF, eqF, nleT, nleF, nltT, nltF, hin, hn0, hw64, hw8, ht8, hng8, hs8, hz8]; rfl) ?_
  refine RegO.stepT (by simp (maxSteps := 200000) (disch := first | omega | (simp; done) | fail) [wrapI, leT, leF, ltT, ltF, eqF, nleT, nleF, nltT, nltF, hin, hn0, hw64, hw8, ht8, hng8, hs8, hz8]) (OpStep.callA rfl (by simp (maxSteps := 200000) (disch := first | omega | (simp; done) | fail) [wrapI, leT, leF, ltT, ltF, eqF, nleT, nleF, nltT, nltF, hin, hn0, hw64, hw8, ht8, hng8, hs8, hz8]; exact ⟨rfl, rfl⟩) (by simp (maxSteps := 200000) (disch := first | omega | (simp; done) | fail) [wrapI, leT, leF, ltT, ltF, eqF, nleT, nleF, nltT, nltF, hin, hn0, hw64, hw8, ht8, hng8, hs8, hz8]; rfl) (by exact l01In_spec _ _ _) (by simp) (by simp (maxSteps := 200000) (disch := first | omega | (simp; done) | fail) [wrapI, leT, leF, ltT, ltF, eqF, nleT, nleF, nltT, nltF, hin, hn0, hw64, hw8, ht8, hng8, hs8, hz8]; rfl)) ?_
  refine RegO.opN 10 (by simp (maxSteps := 200000) (disch := first | omega | (simp; done) | fail) [wrapI, leT, leF, ltT, ltF, eqF, nleT, nleF, nltT, nltF, hin, hn0, hw64, hw8, ht8, hng8, hs8, hz8]; rfl) ?_
  refine RegO.nil ?_
  refine DW.condF (by simp (maxSteps := 200000) (disch := first | omega | (simp; done) | fail) [wrapI, leT, leF, ltT, ltF, eqF, nleT, nleF, nltT, nltF]) ?_
  refine DW.skip ?_
  refine DW.seq ?_
  refine DW.reg (by simp (maxSteps := 200000) (disch := first | omega | (simp; done) | fail) [wrapI, leT, leF, ltT, ltF, eqF, nleT, nleF, nltT, nltF]; rfl) ?_
  refine DW.ghost (Ghost.nlRow 5 37 1 (by simp) (by simp)) ?_
  refine DW.seq ?_
  refine DW.seq ?_
  refine DW.reg (by simp (maxSteps := 200000) (disch := first | omega | (simp; done) | fail) [wrapI, leT, leF, ltT, ltF, eqF, nleT, nleF, nltT, nltF]; rfl) ?_
  refine DW.block ?_
  refine DW.loopS (α := Nat) (fun j => j ≤ w) (fun j => w - j) (fun j => [(6, vi ((w : Int) - 1 - j)), (5, .v (.one (.sl 37 [] 0 j)))]) (fun j => [(37, .ow () 1 j (bytesR ((numT n w).take j)))]) [(0, _), (1, _)] [] [] 0 (by simp) (by simp; exact ⟨rfl, rfl⟩) (by simp [bytesR]) (by simp) (by rfl) ?_
  intro j hj
  refine DW.seq ?_
  refine DW.seq ?_
  refine DW.reg (by simp (maxSteps := 200000) (disch := first | omega | (simp; done) | fail) [wrapI, leT, leF, ltT, ltF, eqF, nleT, nleF, nltT, nltF]; rfl) ?_
  refine DW.condB (by simp (maxSteps := 200000) (disch := first | omega | (simp; done) | fail) [wrapI, leT, leF, ltT, ltF, eqF, nleT, nleF, nltT, nltF]; exact rfl) (fun hc1 => ?_) (fun hc1 => ?_)
  · have hlt : j < w := by
      have : 0 ≤ (w : Int) - 1 - j := by simpa using hc1
      omega
    have hlt1 : (w : Int) - 1 - j = ((w - 1 - j : Nat) : Int) := by omega
    obtain ⟨q, hq⟩ : ∃ q, q = w - 1 - j := ⟨_, rfl⟩
    rw [← hq] at hlt1
    have hu1 : IntKind.u64.wrap (q : Int) = (q : Int) := wrapU (by omega)
    have hu2 : IntKind.u64.wrap (8 * (q : Int)) = 8 * (q : Int) := wrapU (by omega)
    have ht : (8 * (q : Int)).toNat = 8 * q := by omega
    have hng : ¬ 8 * (q : Int) < 0 := by omega
    have hsh := shrK n (8 * q) (by omega)
    have hu := numAt_wrap n q
    have hi1 : IntKind.i64.wrap ((q : Int) - 1) = (q : Int) - 1 := wr _ (by omega) (by omega)
    have hi2 : (q : Int) - 1 = (w : Int) - 1 - ((j + 1 : Nat) : Int) := by omega
    have hat := numT_at n w j hlt
    rw [← hq] at hat
    have hset : bytesR ((numT n w).take j) ++ [T.sc (.int .u8 (numAt n q).toNat)] = bytesR ((numT n w).take (j + 1)) := by rw [bytesR_snoc, take_succ' _ j (by simpa using hlt), hat]
    have b1 : j + 1 ≤ 140737488355328 := by omega
    have b2 : j ≤ 140737488355327 := by omega
    have hT : ((numT n w).take j).take j = (numT n w).take j := by rw [List.take_take, Nat.min_self]
    have hjm : j ≤ min j w := by omega
    refine DW.skip ?_
    refine DW.seq ?_
    refine DW.block ?_
    refine DW.reg (by simp [hlt1, hu1, hu2, ht, hng, hsh, hu, hi1, b1, b2, hT, hjm]; rfl) ?_
    refine DW.norm [(0, _), (1, _), (5, _), (6, _)] [(37, _)] [] (by simp [hlt1, hu1, hu2, ht, hng, hsh, hu, hi1, b1, b2, hT, hjm]; exact ⟨rfl, rfl, rfl, rfl⟩) (by simp [hlt1, hu1, hu2, ht, hng, hsh, hu, hi1, b1, b2, hT, hjm]; rfl) (by simp [hlt1, hu1, hu2, ht, hng, hsh, hu, hi1, b1, b2, hT, hjm]) (by rfl) ?_
    refine DW.reg (by simp (maxSteps := 200000) (disch := first | omega | (simp; done) | fail) [wrapI, leT, leF, ltT, ltF, eqF, nleT, nleF, nltT, nltF, hlt1, hu1, hu2, ht, hng, hsh, hu, hi1, b1, b2, hT, hjm]; rfl) ?_
    exact ⟨j + 1, hlt, by omega, by simp [hi2], by simp [hset], by simp, by rfl⟩
  · have hjw : j = w := by
      have : ¬ 0 ≤ (w : Int) - 1 - j := by simpa using hc1
      omega
    subst hjw
    have hT : (numT n j).take j = numT n j := List.take_of_length_le (by simp)
    refine DW.exit ?_
    refine DW.seq ?_
    refine DW.regs ?_
    refine RegO.opN 1 (by simp (maxSteps := 200000) (disch := first | omega | (simp; done) | fail) [wrapI, leT, leF, ltT, ltF, eqF, nleT, nleF, nltT, nltF, hT]; rfl) ?_
    refine RegO.step rfl (OpStep.rowStr (n := j) (l := (numT n j)) rfl rfl (by decide) (by simp; rfl) (by simp) (by simp) (by simp [rowLen, hT]) (by simp [hT]; (first | exact ⟨rfl, rfl⟩ | rfl))) ?_
    refine RegO.opN 1 (by simp (maxSteps := 200000) (disch := first | omega | (simp; done) | fail) [wrapI, leT, leF, ltT, ltF, eqF, nleT, nleF, nltT, nltF, hT]; rfl) ?_
    refine RegO.nil ?_
    refine DW.ret ?_
    simp [Tryz.results230, numB]
theorem implNumText_spec (n : Int) (w : Nat) (h0 : 0 ≤ n) (h1 : n < 2 ^ (8 * w)) (hw : 1 ≤ w ∧ w ≤ 7) : Spec Tryz.prog 189 [ri n, ri w] [none] [ds (numB n w)] [ri n, ri w] := by
  refine Spec.intro Tryz.func189 rfl rfl Tryz.ntmps189 rfl (by simp) ?_
  have hin : inB (w : Int) 1 7 = true := by simp [inB]; omega
  have hn0 : ¬ n < 0 := by omega
  have hw64 : IntKind.u64.wrap (w : Int) = (w : Int) := wrapU (by omega)
  have hw8 : IntKind.u64.wrap (8 * (w : Int)) = 8 * (w : Int) := wrapU (by omega)
  have ht8 : (8 * (w : Int)).toNat = 8 * w := by omega
  have hng8 : ¬ 8 * (w : Int) < 0 := by omega
  have hs8 := shrK n (8 * w) (by omega)
  have hz8 : n / 2 ^ (8 * w) = 0 := Int.ediv_eq_zero_of_lt h0 h1
  have hwi : IntKind.i64.wrap (8 * (w : Int)) = 8 * (w : Int) := wr _ (by omega) (by omega)
  have hb1 : (w : Int) ≤ 281474976710656 := by omega
  have hb2 : w ≤ 281474976710656 := by omega
  have hz0 : List.replicate w (T.sc (.int .u8 0) : D) = bytesR (fillB (numT n w) 0) := by rw [bytesR_zero]; simp [fillB]
  have h1s : IntKind.i64.wrap (2 ^ (8 * w)) = 2 ^ (8 * w) := by
    have h2 : (2 : Int) ^ (8 * w) ≤ 2 ^ 56 := by have := Nat.pow_le_pow_right (show 0 < 2 by decide) (show 8 * w ≤ 56 by omega); exact_mod_cast this
    have h3 : (0 : Int) < 2 ^ (8 * w) := Int.pow_pos (by decide)
    exact wr _ (by omega) (by omega)
  have h1n : ¬ 2 ^ (8 * w) ≤ n := by omega
  have hmb : min (8 * w) IntKind.i64.bits = 8 * w := Nat.min_eq_left (by show 8 * w ≤ 64; omega)
  refine DW.seq ?_
  refine DW.reg (by simp (maxSteps := 200000) (disch := first | omega | (simp; done) | fail) [wrapI, leT, leF, ltT, ltF, eqF, nleT, nleF, nltT, nltF]; rfl) ?_
  refine DW.seq ?_
  refine DW.seq ?_
  refine DW.regs ?_
  refine RegO.opN 4 (by simp (maxSteps := 200000) (disch := first | omega | (simp; done) | fail) [wrapI, leT, leF, ltT, ltF, eqF, nleT, nleF, nltT, nltF, hin, hn0, hwi, ht8, hng8, hmb, h1s, h1n]; rfl) ?_
  refine RegO.stepT (by simp (maxSteps := 200000) (disch := first | omega | (simp; done) | fail) [wrapI, leT, leF, ltT, ltF, eqF, nleT, nleF, nltT, nltF, hin, hn0, hwi, ht8, hng8, hmb, h1s, h1n]) (OpStep.callA rfl (by simp (maxSteps := 200000) (disch := first | omega | (simp; done) | fail) [wrapI, leT, leF, ltT, ltF, eqF, nleT, nleF, nltT, nltF, hin, hn0, hwi, ht8, hng8, hmb, h1s, h1n]; exact ⟨rfl, rfl⟩) (by simp (maxSteps := 200000) (disch := first | omega | (simp; done) | fail) [wrapI, leT, leF, ltT, ltF, eqF, nleT, nleF, nltT, nltF, hin, hn0, hwi, ht8, hng8, hmb, h1s, h1n]; rfl) (by exact within_spec _ _ _) (by simp) (by simp (maxSteps := 200000) (disch := first | omega | (simp; done) | fail) [wrapI, leT, leF, ltT, ltF, eqF, nleT, nleF, nltT, nltF, hin, hn0, hwi, ht8, hng8, hmb, h1s, h1n]; rfl)) ?_
  refine RegO.opN 9 (by simp (maxSteps := 200000) (disch := first | omega | (simp; done) | fail) [wrapI, leT, leF, ltT, ltF, eqF, nleT, nleF, nltT, nltF, hin, hn0, hwi, ht8, hng8, hmb, h1s, h1n]; rfl) ?_
  refine RegO.nil ?_
  refine DW.condF (by simp (maxSteps := 200000) (disch := first | omega | (simp; done) | fail) [wrapI, leT, leF, ltT, ltF, eqF, nleT, nleF, nltT, nltF, hmb, h1s, h1]) ?_
  refine DW.skip ?_
  refine DW.seq ?_
  refine DW.reg (by simp (maxSteps := 200000) (disch := first | omega | (simp; done) | fail) [wrapI, leT, leF, ltT, ltF, eqF, nleT, nleF, nltT, nltF, hb1, hb2]; rfl) ?_
  refine DW.seq ?_
  refine DW.seq ?_
  refine DW.reg (by simp (maxSteps := 200000) (disch := first | omega | (simp; done) | fail) [wrapI, leT, leF, ltT, ltF, eqF, nleT, nleF, nltT, nltF]; rfl) ?_
  refine DW.block ?_
  refine DW.loopS (α := Nat) (fun i => i ≤ w) (fun i => w - i) (fun i => [(25, vi i)]) (fun i => [(22, .ow () 1 w (bytesR (fillB (numT n w) i)))]) [(0, _), (1, _), (5, _), (24, _)] [] [] 0 (by simp) (by simp; exact ⟨rfl, rfl, rfl, rfl⟩) (by simp [hz0]) (by simp) (by rfl) ?_
  intro i hi
  refine DW.seq ?_
  refine DW.reg (by simp (maxSteps := 200000) (disch := first | omega | (simp; done) | fail) [wrapI, leT, leF, ltT, ltF, eqF, nleT, nleF, nltT, nltF]; rfl) ?_
  refine DW.seq ?_
  refine DW.condB (by simp (maxSteps := 200000) (disch := first | omega | (simp; done) | fail) [wrapI, leT, leF, ltT, ltF, eqF, nleT, nleF, nltT, nltF]; exact rfl) (fun hc1 => ?_) (fun hc1 => ?_)
  · have hlt : i < w := by simpa using hc1
    have hlt1 : (i : Int) < w := by omega
    obtain ⟨q, hq⟩ : ∃ q, q = w - 1 - i := ⟨_, rfl⟩
    have hq1 : IntKind.i64.wrap ((w : Int) - 1) = (w : Int) - 1 := wr _ (by omega) (by omega)
    have hq2 : IntKind.i64.wrap ((w : Int) - 1 - i) = (q : Int) := (wr _ (by omega) (by omega)).trans (by omega)
    have hq3 : IntKind.i64.wrap (8 * (q : Int)) = 8 * (q : Int) := wr _ (by omega) (by omega)
    have ht : (8 * (q : Int)).toNat = 8 * q := by omega
    have hng : ¬ 8 * (q : Int) < 0 := by omega
    have hsh := shrK n (8 * q) (by omega)
    have hu := numAt_wrap n q
    have hwx := wr ((i : Int) + 1) (by omega) (by omega)
    have hat := numT_at n w i hlt
    rw [← hq] at hat
    have hset : (bytesR (fillB (numT n w) i)).set i (T.sc (.int .u8 (numAt n q).toNat)) = bytesR (fillB (numT n w) (i + 1)) := by rw [bytesR_set, ← hat, fillB_set _ i (by simpa using hlt)]
    have hfl : (fillB (numT n w) i).length = w := by rw [fillB_len _ _ (by simpa using hi)]; simp
    refine DW.skip ?_
    refine DW.seq ?_
    refine DW.block ?_
    refine DW.seq ?_
    refine DW.reg (by simp (maxSteps := 200000) (disch := first | omega | (simp; done) | fail) [wrapI, leT, leF, ltT, ltF, eqF, nleT, nleF, nltT, nltF, hlt1, hlt, hq1, hq2, hq3, ht, hng, hsh, hu, hwx, hset, hfl]; rfl) ?_
    refine DW.reg (by simp [hlt1, hlt, hq1, hq2, hq3, ht, hng, hsh, hu, hwx, hset, hfl]; rfl) ?_
    refine DW.norm [(0, _), (1, _), (5, _), (24, _), (25, _)] [(22, _)] [] (by simp [hlt1, hlt, hq1, hq2, hq3, ht, hng, hsh, hu, hwx, hset, hfl]; exact ⟨rfl, rfl, rfl, rfl, rfl⟩) (by simp [hlt1, hlt, hq1, hq2, hq3, ht, hng, hsh, hu, hwx, hset, hfl]; rfl) (by simp [hlt1, hlt, hq1, hq2, hq3, ht, hng, hsh, hu, hwx, hset, hfl]) (by rfl) ?_
    refine DW.reg (by simp (maxSteps := 200000) (disch := first | omega | (simp; done) | fail) [wrapI, leT, leF, ltT, ltF, eqF, nleT, nleF, nltT, nltF, hlt1, hlt, hq1, hq2, hq3, ht, hng, hsh, hu, hwx, hset, hfl]; rfl) ?_
    exact ⟨i + 1, hlt, by omega, by simp, by simp, by simp, by rfl⟩
  · have hiw : i = w := by
      have : ¬ i < w := by simpa using hc1
      omega
    subst hiw
    have hfa : fillB (numT n i) i = numT n i := by have := fillB_all (numT n i); rwa [numT_len] at this
    have hT : (numT n i).take i = numT n i := List.take_of_length_le (by simp)
    refine DW.exit ?_
    refine DW.seq ?_
    refine DW.regs ?_
    refine RegO.opN 1 (by simp (maxSteps := 200000) (disch := first | omega | (simp; done) | fail) [wrapI, leT, leF, ltT, ltF, eqF, nleT, nleF, nltT, nltF, hfa, hT]; rfl) ?_
    refine RegO.step rfl (OpStep.rowStr (n := i) (l := (numT n i)) rfl rfl (by decide) (by simp; rfl) (by simp) (by simp) (by simp [rowLen, hT, hfa]) (by simp [hT, hfa]; (first | exact ⟨rfl, rfl⟩ | rfl))) ?_
    refine RegO.opN 1 (by simp (maxSteps := 200000) (disch := first | omega | (simp; done) | fail) [wrapI, leT, leF, ltT, ltF, eqF, nleT, nleF, nltT, nltF, hfa, hT]; rfl) ?_
    refine RegO.nil ?_
    refine DW.ret ?_
    simp [Tryz.results189, numB]
theorem implWordText_spec (s : ByteArray) (hs : s.size ≤ 8) : Spec Tryz.prog 188 [rs s] [none] [ds (padB s 8)] [rs s] := by
  refine Spec.intro Tryz.func188 rfl rfl Tryz.ntmps188 rfl (by simp) ?_
  have hw : ¬ 8 < s.size := by omega
  refine DW.seq ?_
  refine DW.reg (by simp (maxSteps := 200000) (disch := first | omega | (simp; done) | fail) [wrapI, leT, leF, ltT, ltF, eqF, nleT, nleF, nltT, nltF]; rfl) ?_
  refine DW.seq ?_
  refine DW.seq ?_
  refine DW.reg (by simp (maxSteps := 200000) (disch := first | omega | (simp; done) | fail) [wrapI, leT, leF, ltT, ltF, eqF, nleT, nleF, nltT, nltF]; rfl) ?_
  refine DW.condF (by simp (maxSteps := 200000) (disch := first | omega | (simp; done) | fail) [wrapI, leT, leF, ltT, ltF, eqF, nleT, nleF, nltT, nltF, hw]) ?_
  refine DW.skip ?_
  refine DW.seq ?_
  refine DW.regs ?_
  refine RegO.opN 1 (by simp (maxSteps := 200000) (disch := first | omega | (simp; done) | fail) [wrapI, leT, leF, ltT, ltF, eqF, nleT, nleF, nltT, nltF]; rfl) ?_
  refine RegO.step rfl (OpStep.callA rfl (by simp (maxSteps := 200000) (disch := first | omega | (simp; done) | fail) [wrapI, leT, leF, ltT, ltF, eqF, nleT, nleF, nltT, nltF]; exact ⟨rfl, rfl⟩) (by simp (maxSteps := 200000) (disch := first | omega | (simp; done) | fail) [wrapI, leT, leF, ltT, ltF, eqF, nleT, nleF, nltT, nltF]; rfl) (by exact padded_spec s 8 (by omega) (by omega)) (by simp) (by simp (maxSteps := 200000) (disch := first | omega | (simp; done) | fail) [wrapI, leT, leF, ltT, ltF, eqF, nleT, nleF, nltT, nltF]; rfl)) ?_
  refine RegO.opN 1 (by simp (maxSteps := 200000) (disch := first | omega | (simp; done) | fail) [wrapI, leT, leF, ltT, ltF, eqF, nleT, nleF, nltT, nltF]; rfl) ?_
  refine RegO.nil ?_
  refine DW.ret ?_
  simp [Tryz.results188]
theorem padB_empty (n : Nat) : padB ByteArray.empty n = zeros n := by apply bytes_ext; simp [padB, zeros]
theorem zeroWord_spec  : Spec Tryz.prog 192 [] [none] [ds (zeros 8)] [] := by
  refine Spec.intro Tryz.func192 rfl rfl Tryz.ntmps192 rfl (by simp) ?_
  refine DW.seq ?_
  refine DW.reg (by simp (maxSteps := 200000) (disch := first | omega | (simp; done) | fail) [wrapI, leT, leF, ltT, ltF, eqF, nleT, nleF, nltT, nltF]; rfl) ?_
  refine DW.seq ?_
  refine DW.regs ?_
  refine RegO.step rfl (OpStep.callA rfl (by simp (maxSteps := 200000) (disch := first | omega | (simp; done) | fail) [wrapI, leT, leF, ltT, ltF, eqF, nleT, nleF, nltT, nltF]; exact ⟨rfl, rfl⟩) (by simp (maxSteps := 200000) (disch := first | omega | (simp; done) | fail) [wrapI, leT, leF, ltT, ltF, eqF, nleT, nleF, nltT, nltF]; rfl) (by exact (padB_empty 8 ▸ padded_spec ByteArray.empty 8 (by simp) (by omega))) (by simp) (by simp (maxSteps := 200000) (disch := first | omega | (simp; done) | fail) [wrapI, leT, leF, ltT, ltF, eqF, nleT, nleF, nltT, nltF]; rfl)) ?_
  refine RegO.opN 1 (by simp (maxSteps := 200000) (disch := first | omega | (simp; done) | fail) [wrapI, leT, leF, ltT, ltF, eqF, nleT, nleF, nltT, nltF]; rfl) ?_
  refine RegO.nil ?_
  refine DW.ret ?_
  simp [Tryz.results192]
theorem specMemoryNew_spec (n : Nat) (hn : n ≤ 1000) : Spec Tryz.prog 73 [ri n] [some 2] (dM ⟨zeros (n * 16), []⟩) [ri n] := by
  refine Spec.intro Tryz.func73 rfl rfl Tryz.ntmps73 rfl (by simp) ?_
  have hin : inB (n : Int) 0 1000 = true := by simp [inB]; omega
  have hm : IntKind.i64.wrap ((n : Int) * 16) = (n : Int) * 16 := wr _ (by omega) (by omega)
  obtain ⟨q, hq⟩ : ∃ q, q = n * 16 := ⟨_, rfl⟩
  have hm2 : (n : Int) * 16 = (q : Int) := by omega
  rw [← hq]
  have hmq : IntKind.i64.wrap (q : Int) = (q : Int) := wr _ (by omega) (by omega)
  refine DW.seq ?_
  refine DW.reg (by simp (maxSteps := 200000) (disch := first | omega | (simp; done) | fail) [wrapI, leT, leF, ltT, ltF, eqF, nleT, nleF, nltT, nltF]; rfl) ?_
  refine DW.seq ?_
  refine DW.seq ?_
  refine DW.regs ?_
  refine RegO.opN 1 (by simp (maxSteps := 200000) (disch := first | omega | (simp; done) | fail) [wrapI, leT, leF, ltT, ltF, eqF, nleT, nleF, nltT, nltF, hin]; rfl) ?_
  refine RegO.step rfl (OpStep.callA rfl (by simp (maxSteps := 200000) (disch := first | omega | (simp; done) | fail) [wrapI, leT, leF, ltT, ltF, eqF, nleT, nleF, nltT, nltF, hin]; exact ⟨rfl, rfl⟩) (by simp (maxSteps := 200000) (disch := first | omega | (simp; done) | fail) [wrapI, leT, leF, ltT, ltF, eqF, nleT, nleF, nltT, nltF, hin]; rfl) (by exact l01In_spec _ _ _) (by simp) (by simp (maxSteps := 200000) (disch := first | omega | (simp; done) | fail) [wrapI, leT, leF, ltT, ltF, eqF, nleT, nleF, nltT, nltF, hin]; rfl)) ?_
  refine RegO.opN 1 (by simp (maxSteps := 200000) (disch := first | omega | (simp; done) | fail) [wrapI, leT, leF, ltT, ltF, eqF, nleT, nleF, nltT, nltF, hin]; rfl) ?_
  refine RegO.nil ?_
  refine DW.condF (by simp (maxSteps := 200000) (disch := first | omega | (simp; done) | fail) [wrapI, leT, leF, ltT, ltF, eqF, nleT, nleF, nltT, nltF, hin]) ?_
  refine DW.skip ?_
  refine DW.seq ?_
  refine DW.regs ?_
  refine RegO.opN 1 (by simp [hmq, hm2]; rfl) ?_
  refine RegO.step rfl (OpStep.callA rfl (by simp [hmq, hm2]; exact ⟨rfl, rfl⟩) (by simp [hmq, hm2]; rfl) (by exact l10Size_spec) (by simp) (by simp [hmq, hm2]; rfl)) ?_
  refine RegO.opN 1 (by simp [hmq, hm2]; rfl) ?_
  refine RegO.step rfl (OpStep.callA rfl (by simp [hmq, hm2]; exact ⟨rfl, rfl⟩) (by simp [hmq, hm2]; rfl) (by exact zeroText_spec q (by omega)) (by simp) (by simp [hmq, hm2]; rfl)) ?_
  refine RegO.opN 2 (by simp [hmq, hm2]; rfl) ?_
  refine RegO.nil ?_
  refine DW.ghost (Ghost.wide 2 [1] 3 (by simp; rfl) (by simp)) ?_
  refine DW.ret ?_
  simp [Tryz.results73]
theorem implMemoryNew_spec (n : Nat) (hn : n ≤ 1000) : Spec Tryz.prog 79 [ri n] [some 2] (dM ⟨zeros (n * 16), []⟩) [ri n] := by
  refine Spec.intro Tryz.func79 rfl rfl Tryz.ntmps79 rfl (by simp) ?_
  have hin : inB (n : Int) 0 1000 = true := by simp [inB]; omega
  have hm : IntKind.i64.wrap ((n : Int) * 16) = (n : Int) * 16 := wr _ (by omega) (by omega)
  obtain ⟨q, hq⟩ : ∃ q, q = n * 16 := ⟨_, rfl⟩
  have hm2 : (n : Int) * 16 = (q : Int) := by omega
  rw [← hq]
  have hmq : IntKind.i64.wrap (q : Int) = (q : Int) := wr _ (by omega) (by omega)
  refine DW.seq ?_
  refine DW.reg (by simp (maxSteps := 200000) (disch := first | omega | (simp; done) | fail) [wrapI, leT, leF, ltT, ltF, eqF, nleT, nleF, nltT, nltF]; rfl) ?_
  refine DW.seq ?_
  refine DW.seq ?_
  refine DW.regs ?_
  refine RegO.opN 1 (by simp (maxSteps := 200000) (disch := first | omega | (simp; done) | fail) [wrapI, leT, leF, ltT, ltF, eqF, nleT, nleF, nltT, nltF, hin]; rfl) ?_
  refine RegO.step rfl (OpStep.callA rfl (by simp (maxSteps := 200000) (disch := first | omega | (simp; done) | fail) [wrapI, leT, leF, ltT, ltF, eqF, nleT, nleF, nltT, nltF, hin]; exact ⟨rfl, rfl⟩) (by simp (maxSteps := 200000) (disch := first | omega | (simp; done) | fail) [wrapI, leT, leF, ltT, ltF, eqF, nleT, nleF, nltT, nltF, hin]; rfl) (by exact within_spec _ _ _) (by simp) (by simp (maxSteps := 200000) (disch := first | omega | (simp; done) | fail) [wrapI, leT, leF, ltT, ltF, eqF, nleT, nleF, nltT, nltF, hin]; rfl)) ?_
  refine RegO.opN 1 (by simp (maxSteps := 200000) (disch := first | omega | (simp; done) | fail) [wrapI, leT, leF, ltT, ltF, eqF, nleT, nleF, nltT, nltF, hin]; rfl) ?_
  refine RegO.nil ?_
  refine DW.condF (by simp (maxSteps := 200000) (disch := first | omega | (simp; done) | fail) [wrapI, leT, leF, ltT, ltF, eqF, nleT, nleF, nltT, nltF, hin]) ?_
  refine DW.skip ?_
  refine DW.seq ?_
  refine DW.regs ?_
  refine RegO.opN 2 (by simp [hmq, hm2]; rfl) ?_
  refine RegO.step rfl (OpStep.callA rfl (by simp [hmq, hm2]; exact ⟨rfl, rfl⟩) (by simp [hmq, hm2]; rfl) (by exact (padB_empty q ▸ padded_spec ByteArray.empty q (by simp) (by omega))) (by simp) (by simp [hmq, hm2]; rfl)) ?_
  refine RegO.opN 2 (by simp [hmq, hm2]; rfl) ?_
  refine RegO.nil ?_
  refine DW.ghost (Ghost.wide 2 [1] 3 (by simp; rfl) (by simp)) ?_
  refine DW.ret ?_
  simp [Tryz.results79]
end Go.Proofs.YtjjdjkkhhcbogaaGreat.DM
