import Derived.Test.YtciieaidbiejmaaDD
import Derived.Test.YtciieaidbiejmaaLT1
namespace Go.Proofs.Ytciieaidbiejmaa.DM
set_option linter.unusedVariables false
set_option linter.unusedSimpArgs false
set_option maxRecDepth 4000
set_option maxHeartbeats 8000000
structure Cur where
  b : List UInt8
  i : Nat
  h : Int
instance : Row UInt8 := ⟨1, fun x => [.sc (.int .u8 x.toNat)], fun x => [.sc (.int .u8 x.toNat)], fun _ => rfl, fun _ => rfl, fun x => by simp [toRTs, toRT], fun x => by simp [noRoL, noRo], by decide, fun _ _ => True, fun _ => 0, fun _ k => UInt8.ofNat k.toNat, fun _ => 1, fun _ => by simp⟩
@[simp] theorem w_UInt8 : Row.w UInt8 = 1 := rfl
@[simp] theorem rR_len_UInt8 (l : List UInt8) : (rR l).length = l.length * 1 := rR_len l
theorem rR_drop_UInt8 (l : List UInt8) (i : Nat) (h : i < l.length) : (rR l).drop i = .sc (.int .u8 l[i].toNat) :: rR (l.drop (i + 1)) := by
  have := rR_drop l i h
  rw [w_UInt8, Nat.mul_one] at this
  exact this
abbrev curD (c : Cur) : List D := [.ro () (.sl c.b.length (rR c.b)), di c.i, di c.h]
def Cur.ok (c : Cur) : Prop := c.i ≤ c.b.length ∧ c.b.length < 2 ^ 62
def curH (h : Int) : Int := IntKind.i64.wrap (IntKind.i64.wrap (h * 6364136223846793005) + 1442695040888963407)
theorem foldH (h : Int) : IntKind.i64.wrap (IntKind.i64.wrap (h * 6364136223846793005) + 1442695040888963407) = curH h := by rw [curH]
def andX (x : Int) : Int := IntKind.i64.wrap (BitVec.ofInt IntKind.i64.bits x &&& BitVec.ofInt IntKind.i64.bits 255).toNat
@[simp ↓ high] theorem foldA (x : Int) : intBin .and .i64 x 255 = some (.int .i64 (andX x)) := by rw [andX]; rfl
def xorX (a b : Int) : Int := IntKind.i64.wrap (BitVec.ofInt IntKind.i64.bits a ^^^ BitVec.ofInt IntKind.i64.bits b).toNat
@[simp ↓ high] theorem foldX (a b : Int) : intBin .xor .i64 a b = some (.int .i64 (xorX a b)) := by rw [xorX]; rfl
theorem andX_bd (x : Int) : 0 ≤ andX x ∧ andX x ≤ 255 := by
  have h := Nat.and_le_right (n := (BitVec.ofInt 64 x).toNat) (m := (BitVec.ofInt 64 255).toNat)
  have h255 : (BitVec.ofInt 64 255).toNat = 255 := by decide
  unfold andX
  show 0 ≤ IntKind.i64.wrap ((BitVec.ofInt 64 x &&& BitVec.ofInt 64 255).toNat : Int) ∧ IntKind.i64.wrap ((BitVec.ofInt 64 x &&& BitVec.ofInt 64 255).toNat : Int) ≤ 255
  rw [BitVec.toNat_and]
  rw [h255] at h ⊢
  rw [wr _ (by omega) (by omega)]
  omega
def shX (h : Int) : Int := xorX (h.fdiv (2 ^ min 33 IntKind.i64.bits)) (h.fdiv (2 ^ min 45 IntKind.i64.bits))
theorem foldS (h : Int) : xorX (h.fdiv (2 ^ min 33 IntKind.i64.bits)) (h.fdiv (2 ^ min 45 IntKind.i64.bits)) = shX h := by rw [shX]
attribute [irreducible] curH andX xorX shX
def byteM (c : Cur) : Int := if h : c.i < c.b.length then andX (IntKind.i64.wrap (andX (shX (curH c.h)) + (c.b[c.i]).toNat)) else andX (shX (curH c.h))
def curM (c : Cur) : Cur := ⟨c.b, if c.i < c.b.length then c.i + 1 else c.i, curH c.h⟩
theorem byteM_bd (c : Cur) : 0 ≤ byteM c ∧ byteM c ≤ 255 := by
  unfold byteM
  split <;> exact andX_bd _
theorem curM_ok {c : Cur} (h : c.ok) : (curM c).ok ∧ (curM c).b = c.b := by
  refine ⟨⟨?_, h.2⟩, rfl⟩
  unfold curM
  dsimp only
  split
  · omega
  · exact h.1

theorem l01Byte_spec (c : Cur) (hc : c.ok) : Spec Try.prog 49 [.ptr (curD c)] [none] [di (byteM c)] [.ptr (curD (curM c))] := by
  refine Spec.intro Try.func49 rfl rfl Try.ntmps49 rfl (by simp) ?_
  refine DW.seq ?_
  refine DW.reg (by simp (maxSteps := 200000) (disch := first | omega | (simp; done) | fail) [wrapI, leT, leF, ltT, ltF, eqF, nleT, nleF, nltT, nltF, foldH, foldS]; rfl) ?_
  refine DW.seq ?_
  refine DW.reg (by simp [foldH, foldS]; rfl) ?_
  refine DW.norm [(0, _)] [(0, _)] [(0, _)] (by simp [foldH, foldS]; rfl) (by simp [foldH, foldS]; rfl) (by simp [foldH, foldS]; rfl) (by rfl) ?_
  refine DW.seq ?_
  refine DW.drawn mixed (by kernel_rfl) ?_
  refine RegD.addN 6 (by simp [foldH, foldS]; (first | (simp (disch := omega) only [wrapI, ltF, if_false]; done) | (simp (disch := omega) only [wrapI, ltF, if_false]; first | exact ⟨rfl, rfl⟩ | rfl) | skip); (first | done | exact ⟨rfl, rfl⟩ | rfl)) ?_
  refine RegD.addN 5 (by simp [foldH, foldS]; (first | (simp (disch := omega) only [wrapI, ltF, if_false]; done) | (simp (disch := omega) only [wrapI, ltF, if_false]; first | exact ⟨rfl, rfl⟩ | rfl) | skip); (first | done | exact ⟨rfl, rfl⟩ | rfl)) ?_
  refine RegD.addN 1 (by simp [foldH, foldS]; (first | (simp (disch := omega) only [wrapI, ltF, if_false]; done) | (simp (disch := omega) only [wrapI, ltF, if_false]; first | exact ⟨rfl, rfl⟩ | rfl) | skip); (first | done | exact ⟨rfl, rfl⟩ | rfl)) ?_
  refine RegD.addN 1 (by simp [foldH, foldS]; (first | (simp (disch := omega) only [wrapI, ltF, if_false]; done) | (simp (disch := omega) only [wrapI, ltF, if_false]; first | exact ⟨rfl, rfl⟩ | rfl) | skip); (first | done | exact ⟨rfl, rfl⟩ | rfl)) ?_
  refine RegD.nil ⟨by kernel_rfl, ?_⟩
  refine DW.norm [(0, _), (3, _)] [(0, _)] [(0, _)] (by simp [foldH, foldS]; exact ⟨rfl, rfl⟩) (by simp [foldH, foldS]; rfl) (by simp [foldH, foldS]; rfl) (by rfl) ?_
  refine DW.seq ?_
  refine DW.seq ?_
  refine DW.drawn mixed (by kernel_rfl) ?_
  refine RegD.addN 6 (by simp [foldH, foldS]; (first | (simp (disch := omega) only [wrapI, ltF, if_false]; done) | (simp (disch := omega) only [wrapI, ltF, if_false]; first | exact ⟨rfl, rfl⟩ | rfl) | skip); (first | done | exact ⟨rfl, rfl⟩ | rfl)) ?_
  refine RegD.addN 4 (by simp [foldH, foldS]; (first | (simp (disch := omega) only [wrapI, ltF, if_false]; done) | (simp (disch := omega) only [wrapI, ltF, if_false]; first | exact ⟨rfl, rfl⟩ | rfl) | skip); (first | done | exact ⟨rfl, rfl⟩ | rfl)) ?_
  refine RegD.nil ⟨by kernel_rfl, ?_⟩
  refine DW.condB (by simp (maxSteps := 200000) (disch := first | omega | (simp; done) | fail) [wrapI, leT, leF, ltT, ltF, eqF, nleT, nleF, nltT, nltF, foldH, foldS]; exact rfl) (fun hc0 => ?_) (fun hc0 => ?_)
  · have hlt : c.i < c.b.length := by simpa using hc0
    have hd := rR_drop_UInt8 c.b c.i hlt
    have wi : IntKind.i64.wrap ((c.i : Int) + 1) = (c.i : Int) + 1 := wr _ (by omega) (by have := hc.2; omega)
    have wu : IntKind.i64.wrap ((c.b[c.i]).toNat : Int) = (c.b[c.i]).toNat := wr _ (by omega) (by have := (c.b[c.i]).toNat_lt; omega)
    have e1 : byteM c = andX (IntKind.i64.wrap (andX (shX (curH c.h)) + (c.b[c.i]).toNat)) := by simp [byteM, hlt]
    have e2 : curM c = ⟨c.b, c.i + 1, curH c.h⟩ := by simp [curM, hlt]
    rw [e1, e2]
    refine DW.seq ?_
    refine DW.drawn mixed (by kernel_rfl) ?_
    refine RegD.addN 6 (by simp [foldH, foldS, hlt, hd, wi, wu]; (first | (simp (disch := omega) only [wrapI, ltF, if_false]; done) | (simp (disch := omega) only [wrapI, ltF, if_false]; first | exact ⟨rfl, rfl⟩ | rfl) | skip); (first | done | exact ⟨rfl, rfl⟩ | rfl)) ?_
    refine RegD.addN 6 (by simp [foldH, foldS, hlt, hd, wi, wu]; (first | (simp (disch := omega) only [wrapI, ltF, if_false]; done) | (simp (disch := omega) only [wrapI, ltF, if_false]; first | exact ⟨rfl, rfl⟩ | rfl) | skip); (first | done | exact ⟨rfl, rfl⟩ | rfl)) ?_
    refine RegD.addN 1 (by simp [foldH, foldS, hlt, hd, wi, wu]; (first | (simp (disch := omega) only [wrapI, ltF, if_false]; done) | (simp (disch := omega) only [wrapI, ltF, if_false]; first | exact ⟨rfl, rfl⟩ | rfl) | skip); (first | done | exact ⟨rfl, rfl⟩ | rfl)) ?_
    refine RegD.addN 1 (by simp [foldH, foldS, hlt, hd, wi, wu]; (first | (simp (disch := omega) only [wrapI, ltF, if_false]; done) | (simp (disch := omega) only [wrapI, ltF, if_false]; first | exact ⟨rfl, rfl⟩ | rfl) | skip); (first | done | exact ⟨rfl, rfl⟩ | rfl)) ?_
    refine RegD.addN 1 (by simp [foldH, foldS, hlt, hd, wi, wu]; (first | (simp (disch := omega) only [wrapI, ltF, if_false]; done) | (simp (disch := omega) only [wrapI, ltF, if_false]; first | exact ⟨rfl, rfl⟩ | rfl) | skip); (first | done | exact ⟨rfl, rfl⟩ | rfl)) ?_
    refine RegD.nil ⟨by kernel_rfl, ?_⟩
    refine DW.reg (by simp [foldH, foldS, hlt, hd, wi, wu]; rfl) ?_
    refine DW.norm [(0, _), (3, _)] [(0, _)] [(0, _)] (by simp [foldH, foldS, hlt, hd, wi, wu]; exact ⟨rfl, rfl⟩) (by simp [foldH, foldS, hlt, hd, wi, wu]; rfl) (by simp [foldH, foldS, hlt, hd, wi, wu]; rfl) (by rfl) ?_
    refine DW.seq ?_
    refine DW.reg (by simp (maxSteps := 200000) (disch := first | omega | (simp; done) | fail) [wrapI, leT, leF, ltT, ltF, eqF, nleT, nleF, nltT, nltF, foldH, foldS, hlt, hd, wi, wu]; rfl) ?_
    refine DW.ret ?_
    simp [Try.results49]
  · have hlt : ¬ c.i < c.b.length := by simpa using hc0
    have e1 : byteM c = andX (shX (curH c.h)) := by simp [byteM, hlt]
    have e2 : curM c = ⟨c.b, c.i, curH c.h⟩ := by simp [curM, hlt]
    rw [e1, e2]
    refine DW.skip ?_
    refine DW.seq ?_
    refine DW.reg (by simp (maxSteps := 200000) (disch := first | omega | (simp; done) | fail) [wrapI, leT, leF, ltT, ltF, eqF, nleT, nleF, nltT, nltF, foldH, foldS]; rfl) ?_
    refine DW.ret ?_
    simp [Try.results49]
end Go.Proofs.Ytciieaidbiejmaa.DM
