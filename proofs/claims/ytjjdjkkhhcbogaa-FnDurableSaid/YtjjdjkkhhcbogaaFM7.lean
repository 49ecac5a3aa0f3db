import Derived.Test.YtjjdjkkhhcbogaaFM6
namespace Go.Proofs.Ytjjdjkkhhcbogaa.DM
set_option linter.unusedVariables false
set_option linter.unusedSimpArgs false
set_option maxRecDepth 4000
set_option maxHeartbeats 8000000
theorem fillS_len (x : Cell) : ∀ (l : List Cell) (b : Bool), (fillS x b l).length ≤ l.length + 1 ∧ (fillS x true l).length ≤ l.length
  | [], b => by cases b <;> simp [fillS]
  | c :: l, b => by
    have h1 := fillS_len x l true
    have h2 := fillS_len x l false
    have h3 := (fillS_len x l (decide (x.Line ≤ c.Line))).1
    constructor
    · cases b
      · by_cases hc : x.Line ≤ c.Line
        · by_cases he : c.Line = x.Line <;> simp [fillS, hc, he] <;> omega
        · by_cases he : c.Line = x.Line <;> simp [fillS, hc, he] <;> omega
      · by_cases he : c.Line = x.Line <;> simp [fillS, he] <;> omega
    · by_cases he : c.Line = x.Line <;> simp [fillS, he] <;> omega
def storeM (m : Memory) (at_ : Int) (w : ByteArray) : Memory := if memOk m.Kept m.Cells then (if w.size = 8 then (if inB at_ 0 ((m.Kept.size : Int) / 8 - 1) then ⟨m.Kept, fillS (putAt m.Kept m.Cells at_.toNat w) false m.Cells⟩ else m) else m) else m

theorem specWord_spec (k : ByteArray) (l : List Cell) (x : Int) (w : ByteArray) (hk : k.size < 2 ^ 40) (hl : l.length < 2 ^ 40) : Spec Try.prog 27 [raMemory ⟨k, l⟩, ri x, rs w] [some 2] (dM (storeM ⟨k, l⟩ x w)) [raMemory ⟨k, l⟩, ri x, rs w] := by
  refine Spec.intro Try.func27 rfl rfl Try.ntmps27 rfl (by simp) ?_
  have wq : IntKind.i64.wrap ((k.size : Int) / 8 - 1) = (k.size : Int) / 8 - 1 := wr _ (by omega) (by omega)
  refine DW.seq ?_
  refine DW.reg (by simp; rfl) ?_
  refine DW.seq ?_
  refine DW.seq ?_
  have h3 : memOk k l = false ∨ (memOk k l = true ∧ ((w.size : Int) != 8) = true) ∨ (memOk k l = true ∧ w.size = 8) := by
    cases memOk k l
    · exact .inl rfl
    · by_cases hw : w.size = 8
      · exact .inr (.inr ⟨rfl, hw⟩)
      · exact .inr (.inl ⟨rfl, by simp; omega⟩)
  rcases h3 with hok | ⟨hok, hnw⟩ | ⟨hok, hw⟩
  · have hres : storeM ⟨k, l⟩ x w = ⟨k, l⟩ := by simp [storeM, hok]
    refine DW.regs ?_
    refine RegO.opN 1 (by simp [hok]; rfl) ?_
    refine RegO.step rfl (OpStep.callA rfl (by simp [hok]; exact ⟨rfl, rfl⟩) (by simp [hok]; rfl) (by exact specOk_spec _ _ hk hl) (by simp) (by simp [hok]; rfl)) ?_
    refine RegO.opN 9 (by simp [hok]; rfl) ?_
    refine RegO.guard (b := false) (by simp [hok]) (fun h => by cases h) (fun _ => ⟨by simp, ?_⟩)
    refine RegO.opN 1 (by simp [hok]; rfl) ?_
    refine RegO.guard (b := false) (by simp [hok]) (fun h => by cases h) (fun _ => ⟨by simp, ?_⟩)
    refine RegO.opN 2 (by simp [hok]; rfl) ?_
    refine RegO.nil ?_
    refine DW.condT (by simp [hok]) ?_
    refine DW.seq ?_
    refine DW.regs ?_
    refine RegO.opN 1 (by simp [hok]; rfl) ?_
    refine RegO.step rfl (OpStep.callA rfl (by simp [hok]; exact ⟨rfl, rfl⟩) (by simp [hok]; rfl) (by exact l10Copy_spec _ _ hl) (by simp) (by simp [hok]; rfl)) ?_
    refine RegO.opN 1 (by simp [hok]; rfl) ?_
    refine RegO.nil ?_
    refine DW.ret ?_
    simp [Try.results27, hres, rD_len_Cell]
  · have hnw2 : ¬ w.size = 8 := by
      have : ¬ ((w.size : Int) = 8) := by simpa using hnw
      omega
    have hres : storeM ⟨k, l⟩ x w = ⟨k, l⟩ := by simp [storeM, hok, hnw2]
    refine DW.regs ?_
    refine RegO.opN 1 (by simp [hok, hnw]; rfl) ?_
    refine RegO.step rfl (OpStep.callA rfl (by simp [hok, hnw]; exact ⟨rfl, rfl⟩) (by simp [hok, hnw]; rfl) (by exact specOk_spec _ _ hk hl) (by simp) (by simp [hok, hnw]; rfl)) ?_
    refine RegO.opN 9 (by simp [hok, hnw]; rfl) ?_
    refine RegO.guard (b := false) (by simp [hok, hnw]) (fun h => by cases h) (fun _ => ⟨by simp, ?_⟩)
    refine RegO.opN 1 (by simp [hok, hnw]; rfl) ?_
    refine RegO.guard (b := false) (by simp [hok, hnw]) (fun h => by cases h) (fun _ => ⟨by simp, ?_⟩)
    refine RegO.opN 2 (by simp [hok, hnw]; rfl) ?_
    refine RegO.nil ?_
    refine DW.condT (by simp [hok, hnw]) ?_
    refine DW.seq ?_
    refine DW.regs ?_
    refine RegO.opN 1 (by simp [hok, hnw]; rfl) ?_
    refine RegO.step rfl (OpStep.callA rfl (by simp [hok, hnw]; exact ⟨rfl, rfl⟩) (by simp [hok, hnw]; rfl) (by exact l10Copy_spec _ _ hl) (by simp) (by simp [hok, hnw]; rfl)) ?_
    refine RegO.opN 1 (by simp [hok, hnw]; rfl) ?_
    refine RegO.nil ?_
    refine DW.ret ?_
    simp [Try.results27, hres, rD_len_Cell]
  · skip
    refine DW.regs ?_
    refine RegO.opN 1 (by simp [hok, hw, wq]; rfl) ?_
    refine RegO.step rfl (OpStep.callA rfl (by simp [hok, hw, wq]; exact ⟨rfl, rfl⟩) (by simp [hok, hw, wq]; rfl) (by exact specOk_spec _ _ hk hl) (by simp) (by simp [hok, hw, wq]; rfl)) ?_
    refine RegO.opN 9 (by simp [hok, hw, wq]; rfl) ?_
    refine RegO.guard (b := true) (by simp [hok, hw, wq]) (fun _ => ⟨_, (OpStep.callA rfl (by simp [hok, hw, wq]; exact ⟨rfl, rfl⟩) (by simp [hok, hw, wq]; rfl) (by exact l10Words_spec _ _ hk) (by simp) (by simp [hok, hw, wq]; rfl)).toE, fun _ e => e ▸ ?_⟩) (fun h => by cases h)
    refine RegO.opN 1 (by simp [hok, hw, wq]; rfl) ?_
    refine RegO.guard (b := true) (by simp [hok, hw, wq]) (fun _ => ⟨_, (OpStep.callA rfl (by simp [hok, hw, wq]; exact ⟨rfl, rfl⟩) (by simp [hok, hw, wq]; rfl) (by exact l01In_spec x 0 ((k.size : Int) / 8 - 1)) (by simp) (by simp [hok, hw, wq]; rfl)).toE, fun _ e => e ▸ ?_⟩) (fun h => by cases h)
    refine RegO.opN 2 (by simp [hok, hw, wq]; rfl) ?_
    refine RegO.nil ?_
    refine DW.condB (by simp [hok, hw, wq]; exact rfl) (fun hc0 => ?_) (fun hc0 => ?_)
    · have hin : inB x 0 ((k.size : Int) / 8 - 1) = false := by simpa [hok, hw] using hc0
      have hres : storeM ⟨k, l⟩ x w = ⟨k, l⟩ := by simp [storeM, hok, hw, hin]
      refine DW.seq ?_
      refine DW.regs ?_
      refine RegO.opN 1 (by simp [hok, hw, wq]; rfl) ?_
      refine RegO.step rfl (OpStep.callA rfl (by simp [hok, hw, wq]; exact ⟨rfl, rfl⟩) (by simp [hok, hw, wq]; rfl) (by exact l10Copy_spec _ _ hl) (by simp) (by simp [hok, hw, wq]; rfl)) ?_
      refine RegO.opN 1 (by simp [hok, hw, wq]; rfl) ?_
      refine RegO.nil ?_
      refine DW.ret ?_
      simp [Try.results27, hres, rD_len_Cell]
    · have hin : inB x 0 ((k.size : Int) / 8 - 1) = true := by simpa [hok, hw] using hc0
      have hres : storeM ⟨k, l⟩ x w = ⟨k, fillS (putAt k l x.toNat w) false l⟩ := by simp [storeM, hok, hw, hin]
      simp only [inB, Bool.and_eq_true, decide_eq_true_eq] at hin
      obtain ⟨n, rfl⟩ := Int.eq_ofNat_of_zero_le hin.1
      have hn : n < k.size / 8 := by omega
      rw [Int.toNat_natCast] at hres
      refine DW.skip ?_
      refine DW.seq ?_
      refine DW.regs ?_
      refine RegO.opN 3 (by simp [hok, hw, wq]; rfl) ?_
      refine RegO.step rfl (OpStep.callA rfl (by simp [hok, hw, wq]; exact ⟨rfl, rfl⟩) (by simp [hok, hw, wq]; rfl) (by exact l10Store_spec k l n w hok hw hn hk hl) (by simp) (by simp [hok, hw, wq]; rfl)) ?_
      refine RegO.opN 1 (by simp [hok, hw, wq]; rfl) ?_
      refine RegO.nil ?_
      refine DW.ret ?_
      simp [Try.results27, hres, rD_len_Cell]
end Go.Proofs.Ytjjdjkkhhcbogaa.DM
