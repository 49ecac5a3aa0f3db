import Derived.Test.YtjjdjkkhhcbogaaFW12
namespace Go.Proofs.Ytjjdjkkhhcbogaa.DM
set_option linter.unusedVariables false
set_option linter.unusedSimpArgs false
set_option maxRecDepth 4000
set_option maxHeartbeats 8000000
def oneX (x : Int) : Int := IntKind.i64.wrap (BitVec.ofInt IntKind.i64.bits x &&& BitVec.ofInt IntKind.i64.bits 1).toNat
@[simp ↓ high] theorem foldOne (x : Int) : intBin .and .i64 x 1 = some (.int .i64 (oneX x)) := by rw [oneX]; rfl
attribute [irreducible] oneX
def bitP (p : Int) (i : Nat) : Bool := decide ((i : Int) ≤ 62) && (oneX (p.fdiv (2 ^ min i IntKind.i64.bits)) == 1)
def keptP (p : Int) (l : List (Cell × Nat)) (kb : List UInt8) : List UInt8 := l.foldl (fun kb c => if bitP p c.2 then ovl kb c.1 else kb) kb
theorem keptP_len (p : Int) : ∀ (l : List (Cell × Nat)) (kb : List UInt8), (∀ c ∈ l, fitsC kb.length c.1) → (keptP p l kb).length = kb.length
  | [], kb, _ => rfl
  | c :: l, kb, h => by
    have h1 := ovl_len (h c List.mem_cons_self)
    simp only [keptP, List.foldl_cons]
    split
    · exact (keptP_len p l _ (fun c' hc' => by rw [h1]; exact h c' (List.mem_cons_of_mem _ hc'))).trans h1
    · exact keptP_len p l kb fun c' hc' => h c' (List.mem_cons_of_mem _ hc')
theorem mem_zip {l : List Cell} {c : Cell × Nat} (h : c ∈ l.zipIdx) : c.1 ∈ l := by
  obtain ⟨i, hi, e⟩ := List.getElem_of_mem h
  rw [List.getElem_zipIdx] at e
  rw [← e]
  exact List.getElem_mem _
theorem fall1_spec (p : Int) (i : Nat) (c : Cell) : Spec Try.prog 136 [ri i, raCell c, .rptr [.sc (.int .i64 p)]] [none] [db (bitP p i)] [ri i, raCell c, .rptr [.sc (.int .i64 p)]] := by
  refine Spec.intro Try.func136 rfl rfl Try.ntmps136 rfl (by simp) ?_
  refine DW.seq ?_
  refine DW.reg (by simp (maxSteps := 200000) (disch := first | omega | (simp; done) | fail) [wrapI, leT, leF, ltT, ltF, eqF, nleT, nleF, nltT, nltF]; rfl) ?_
  refine DW.seq ?_
  have hsp : ((decide ((i : Int) ≤ 62)) = false) ∨ ((decide ((i : Int) ≤ 62)) = true) := by
    cases (decide ((i : Int) ≤ 62)) <;> simp
  rcases hsp with g0 | g0
  · skip
    refine DW.reg (by simp (maxSteps := 200000) (disch := first | omega | (simp; done) | fail) [wrapI, leT, leF, ltT, ltF, eqF, nleT, nleF, nltT, nltF, g0]; rfl) ?_
    refine DW.ret ?_
    simp [Try.results136, bitP, g0]
  · skip
    refine DW.reg (by simp (maxSteps := 200000) (disch := first | omega | (simp; done) | fail) [wrapI, leT, leF, ltT, ltF, eqF, nleT, nleF, nltT, nltF, g0]; rfl) ?_
    refine DW.ret ?_
    simp [Try.results136, bitP, g0]
theorem keepFall_spec (p : Int) (k : ByteArray) (l : List Cell) (hl : l.length < 2 ^ 40) (hk : k.size < 2 ^ 40) (hf : ∀ c ∈ l, fitsC k.size c) : Spec Try.prog 134 [.ptr (dMem k l), .one (.r (.fn 136 [.sl 1 [.sc (.int .i64 p)]])), rb false] [] [] [.ptr (dMem ⟨(keptP p l.zipIdx k.data.toList).toArray⟩ []), .one (.r (.fn 136 [.sl 1 [.sc (.int .i64 p)]])), rb false] := by
  refine Spec.intro Try.func134 rfl rfl Try.ntmps134 rfl (by simp) ?_
  have hkl : k.data.toList.length = k.size := Array.length_toList
  refine DW.seq (DW.regs ?_)
  refine RegO.opN 4 (by simp; rfl) ?_
  refine RegO.step rfl (OpStep.strBytes (b := k) rfl rfl (by decide) (by simp; rfl) (by simp; rfl) (by simp) (by simp) (by omega) (by simp)) ?_
  refine RegO.opN 1 (by simp; rfl) ?_
  refine RegO.nil ?_
  refine DW.seq (DW.reg (by simp; rfl) ?_)
  refine DW.seq (DW.seq (DW.reg (by simp; rfl) ?_))
  refine DW.ghost (Ghost.nlRow 7 42 3 (by simp) (by simp)) ?_
  refine DW.block ?_
  refine DW.loopG (fun n s => ∃ i : Nat, n = l.length - i ∧ i ≤ l.length ∧ s.e 0 = .v (.one (.pt 0 [] 0)) ∧ s.e 1 = .v (.one (.t (.fn 136 [.sl 1 [.sc (.int .i64 p)]]))) ∧ s.e 2 = .v (.one (.t (.sc (.bool false)))) ∧ s.e 6 = .v (.one (.sl 14 [] 0 k.size)) ∧ s.e 7 = .v (.one (.sl 42 [] 0 0)) ∧
    s.e 19 = .v (.one (.sl 0 [1] 0 l.length)) ∧ s.e 20 = .v (.one (.t (.sc (.int .i64 l.length)))) ∧ s.e 21 = .v (.one (.t (.sc (.int .i64 i)))) ∧ s.h 0 = some (.ow () 2 1 (dMem k l)) ∧ s.h 14 = some (.ow () 1 k.size ((keptP p (l.zipIdx.take i) k.data.toList).map byteD)) ∧
    s.h 42 = some (.ow () 3 0 []) ∧ s.h 9 = none ∧ s.h 41 = none ∧ s.g 0 = .pt 0 [] 0) (n0 := l.length) ⟨0, by simp [keptP, bytesD]⟩ ?_
  rintro n s ⟨i, rfl, hi, h0, h1, h2, h6, h7, h19, h20, h21, hh0, hh14, hh42, hh9, hh41, hg0⟩
  refine DW.seq (DW.reg (by simp [h21, h20]; rfl) ?_)
  refine DW.seq (DW.cond (t := decide ((i : Int) < l.length)) (by simp) (fun ht => DW.skip ?_) (fun ht => DW.exit ?_))
  · have hlt : i < l.length := by simpa using ht
    have hlt' : (i : Int) < l.length := by omega
    have hd := rD_drop_Cell l i hlt
    have hfc := hf l[i] (List.getElem_mem hlt)
    have htk : l.zipIdx.take (i + 1) = l.zipIdx.take i ++ [(l[i], i)] := by rw [List.take_add_one, List.getElem?_eq_getElem (by simpa using hlt), List.getElem_zipIdx]; simp
    have w3 : IntKind.i64.wrap ((i : Int) + 1) = ((i + 1 : Nat) : Int) := (wr _ (by omega) (by omega)).trans (by omega)
    have hcl := rD_len_Cell l
    have hle : i * 3 + 3 ≤ l.length * 3 := by omega
    generalize l[i] = c at hd hfc htk
    obtain ⟨f1, f2, f3⟩ := hfc
    have hkb : (keptP p (l.zipIdx.take i) k.data.toList).length = k.size := (keptP_len p _ _ fun c' hc' => by rw [hkl]; exact hf c'.1 (mem_zip (List.mem_of_mem_take hc'))).trans hkl
    have wm : IntKind.i64.wrap (c.Line * 16) = c.Line * 16 := wr _ (by omega) (by omega)
    have m1 : 0 ≤ c.Line * 16 := by omega
    have m2 : c.Line * 16 ≤ k.size := by omega
    refine DW.seq (DW.block ?_)
    refine DW.seq (DW.reg (by simp [h21, h19, hh0, hlt', hd, hh9, hcl, hle]; rfl) ?_)
    refine DW.seq (DW.regs ?_)
    refine RegO.opN 3 (by simp [h1]; rfl) ?_
    refine RegO.step rfl (OpStep.callN rfl (by simp [callArgs]; rfl) (fall1_spec p i c) (by simp [rosOk, roA_, toRC, mapO]) (by simp [widen, ownV, ownC]) (by simp [finish, packDV, packD]; rfl)) ?_
    refine RegO.nil ?_
    refine DW.cond (t := bitP p i) (by simp) (fun hc => ?_) (fun hc => ?_)
    · refine DW.drawn mixed (by kernel_rfl) ?_
      refine RegD.addN 7 (by simp [h6, hh14, wm, m1, m2]; exact ⟨rfl, rfl⟩) ?_
      refine RegD.heavy (.inl ⟨by simp, OpStep.copyStr (id := 14) (p := []) (off := (c.Line * 16).toNat) (n := k.size - (c.Line * 16).toNat) (b := c.Text) (N := k.size) (l := keptP p (l.zipIdx.take i) k.data.toList) rfl rfl (by decide) (by simp; rfl) (by simp) (by simp) (by simp [hh14]; rfl) (by rfl) (by rw [hkb]; omega) (by omega)⟩) ?_
      refine RegD.nil ⟨by kernel_rfl, ?_⟩
      refine DW.reg (by simp [h21, w3]; rfl) ?_
      have hk1 : keptP p (l.zipIdx.take (i + 1)) k.data.toList = ovl (keptP p (l.zipIdx.take i) k.data.toList) c := by rw [htk, keptP, List.foldl_append]; simp [keptP, hc]
      refine ⟨_, l.length - (i + 1), Ghost.free 9, by omega, i + 1, rfl, by omega, by simp [FS.free, h0], by simp [FS.free, h1], by simp [FS.free, h2], by simp [FS.free, h6], by simp [FS.free, h7], by simp [FS.free, h19], by simp [FS.free, h20], by simp [FS.free], by simp [FS.free, hh0], ?_, by simp [FS.free, hh42], by simp [FS.free], by simp [FS.free, hh41], by simp [FS.free, hg0]⟩
      rw [hk1]
      simp [FS.free, ovl]
    · have hk1 : keptP p (l.zipIdx.take (i + 1)) k.data.toList = keptP p (l.zipIdx.take i) k.data.toList := by rw [htk, keptP, List.foldl_append]; simp [keptP, hc]
      refine DW.seq (DW.reg (by simp [h2]; rfl) ?_)
      refine DW.condF (by simp) ?_
      refine DW.skip ?_
      refine DW.reg (by simp [h21, w3]; rfl) ?_
      exact ⟨_, l.length - (i + 1), Ghost.free 9, by omega, i + 1, rfl, by omega, by simp [FS.free, h0], by simp [FS.free, h1], by simp [FS.free, h2], by simp [FS.free, h6], by simp [FS.free, h7], by simp [FS.free, h19], by simp [FS.free, h20], by simp [FS.free], by simp [FS.free, hh0], by simp [FS.free, hh14, hk1], by simp [FS.free, hh42], by simp [FS.free], by simp [FS.free, hh41], by simp [FS.free, hg0]⟩
  · have hil : i = l.length := by
      have : ¬ i < l.length := by simpa using ht
      omega
    subst hil
    rw [show l.length = l.zipIdx.length by simp, List.take_length] at hh14
    have hkb : (keptP p l.zipIdx k.data.toList).length = k.size := (keptP_len p _ _ fun c' hc' => by rw [hkl]; exact hf c'.1 (mem_zip hc')).trans hkl
    have htk : ((keptP p l.zipIdx k.data.toList).map byteD).take k.size = (keptP p l.zipIdx k.data.toList).map byteD := List.take_of_length_le (by rw [List.length_map, hkb]; exact Nat.le_refl _)
    refine DW.regs ?_
    refine RegO.opN 3 (by simp; rfl) ?_
    refine RegO.step rfl (OpStep.bytesStr (n := k.size) (l := keptP p l.zipIdx k.data.toList) (s' := _) (f := _) rfl rfl (by decide) (by simp; rfl) (by simp) (by simp) (by simp [rowLen, h6]) (by simp [h6, hh14, hkb, htk]; exact ⟨rfl, rfl⟩)) ?_
    refine RegO.opN 7 (by simp [h0, hh0, h7, hh42]; rfl) ?_
    refine RegO.nil ?_
    simp [Try.results134, hg0]
end Go.Proofs.Ytjjdjkkhhcbogaa.DM
