import Derived.Test.YtjjdjkkhhcbogaaFRunFam
import Derived.Test.YtjjdjkkhhcbogaaFMB
namespace Go.Proofs.Ytjjdjkkhhcbogaa.DM
set_option linter.unusedVariables false
set_option linter.unusedSimpArgs false
set_option maxRecDepth 4000
set_option maxHeartbeats 8000000
theorem szL_cells (n : Nat) : ∀ l : List Cell, (∀ c ∈ l, fitsC n c) → szL l = 17 * l.length
  | [], _ => rfl
  | c :: l, h => by
    have := szL_cells n l fun c' hc' => h c' (List.mem_cons_of_mem _ hc')
    have h1 := (h c List.mem_cons_self).2.2
    simp only [szL, this, List.length_cons, Cell_sz, h1]; omega
theorem stepsM_sz (m : Memory) (L : List Step) : Row.sz (stepsM m L) ≤ Row.sz m + 17 * (m.Cells.length + L.length) := by
  have hb := stepsM_bd L m
  cases h : memOk m.Kept m.Cells with
  | true =>
    have ho := stepsM_ok L h
    have := szL_cells _ _ (memOk_fits ho)
    rw [Memory_sz, Memory_sz, this]
    omega
  | false => rw [stepsM_bad L h]; omega

end Go.Proofs.Ytjjdjkkhhcbogaa.DM
