import Derived.Test.YtjjdjkkhhcbogaaFM8
import Derived.Test.YtjjdjkkhhcbogaaFInsS
import Derived.Test.YtjjdjkkhhcbogaaDC
namespace Go.Proofs.Ytjjdjkkhhcbogaa.DM
set_option linter.unusedVariables false
set_option linter.unusedSimpArgs false
set_option maxRecDepth 4000
set_option maxHeartbeats 8000000
theorem lineAt_size {k : ByteArray} {l : List Cell} (h : memOk k l = true) (line : Int) (h0 : 0 ≤ line) (h1 : (line + 1) * 16 ≤ k.size) : (lineAt k l line).size = 16 := by
  unfold lineAt
  split
  · rename_i hh
    have hi := hasL_lt hh
    rw [List.getElem?_eq_getElem hi]
    exact (memOk_fits h _ (List.getElem_mem hi)).2.2
  · rw [ByteArray.size_extract]; omega
def putAtI (k : ByteArray) (l : List Cell) (n : Nat) (w : ByteArray) : Cell := ⟨((n / 2 : Nat) : Int), wordIn (lineAt k l ((n / 2 : Nat) : Int)) w (n % 2 * 8), false⟩
def layC (l : List Cell) (c : Cell) : List Cell := if hasL l c.Line then l.set (ixOf l c.Line) c else l.take (ixOf l c.Line) ++ c :: l.drop (ixOf l c.Line)
theorem rD_ins (l : List Cell) (i : Nat) (c : Cell) (h : i ≤ l.length) : rD (l.take i ++ c :: l.drop i) = (rD l).take (i * 3) ++ (Cell.d c ++ (rD l).drop (i * 3)) := by
  have h1 : rD (l.take i) = (rD l).take (i * 3) := by
    conv => rhs; rw [← List.take_append_drop i l, rD_append]
    rw [List.take_left' (by rw [rD_len_Cell, List.length_take, Nat.min_eq_left h])]
  have h2 : rD (l.drop i) = (rD l).drop (i * 3) := by
    conv => rhs; rw [← List.take_append_drop i l, rD_append]
    rw [List.drop_left' (by rw [rD_len_Cell, List.length_take, Nat.min_eq_left h])]
  rw [rD_append, rD_cons, h1, h2]; rfl

theorem insEnd_spec (l : List Cell) (c : Cell) (hl : l.length < 2 ^ 40) : Spec Try.prog 131 [.one (.c 3 l.length (rD l)), ri l.length, .one (.r (.sl 1 (Cell.r c)))] [none] [.ow () 3 (l.length + 1) (rD (l ++ [c]))] [.one (.c 3 l.length (rD l)), ri l.length, .one (.r (.sl 1 (Cell.r c)))] := by
  refine Spec.intro Try.func131 rfl rfl Try.ntmps131 rfl (by simp) ?_
  have c1 : (l.length + 1) * 32 ≤ 140737488355328 := by omega
  have c2 : l.length + 1 ≤ 140737488355328 := by omega
  have c3 : IntKind.i64.wrap 1 = 1 := rfl
  have hT := take_snoc l c
  have hb3 : (l.length + 1) * 3 ≤ l.length * 3 + 3 := by omega
  refine DW.seq ?_
  refine DW.reg (by simp [c1, c2, c3, rD_len_Cell]; rfl) ?_
  refine DW.seq ?_
  refine DW.reg (by simp [c1, c2, c3, rD_len_Cell]; rfl) ?_
  refine DW.seq ?_
  refine DW.reg (by simp [c1, c2, c3, rD_len_Cell]; rfl) ?_
  refine DW.seq ?_
  refine DW.seq ?_
  refine DW.reg (by simp [c1, c2, c3, rD_len_Cell]; rfl) ?_
  refine DW.condF (by simp [c1, c2, c3, rD_len_Cell]) ?_
  refine DW.skip ?_
  refine DW.seq ?_
  refine DW.reg (by simp [c1, c2, c3, rD_len_Cell]; rfl) ?_
  refine DW.seq ?_
  refine DW.seq ?_
  refine DW.reg (by simp [c1, c2, c3, rD_len_Cell]; rfl) ?_
  refine DW.condT (by simp [c1, c2, c3, rD_len_Cell]) ?_
  refine DW.seq ?_
  refine DW.reg (by simp [c1, c2, c3, rD_len_Cell]; rfl) ?_
  refine DW.ret ?_
  simp [Try.results131, hT, hb3, rD_len_Cell, rD_append] <;> rfl
end Go.Proofs.Ytjjdjkkhhcbogaa.DM
