/-
  Sizes, copies and comparisons of FnExactSameResult: what the functions sz.., to.., eq.. of the law answer.
-/
import Derived.Test.YtakelegiamdmaaaOpenFnExactSameResult
import Derived.Test.YtakelegiamdmaaaKit
import Derived.Test.YtakelegiamdmaaaQFnExactSameResultx1
import Derived.Test.YtakelegiamdmaaaQFnExactSameResultx2
namespace Go.Proofs.Ytakelegiamdmaaa.QFnExactSameResult
open Go.RowKit Go.Proofs.YtakelegiamdmaaaW.PrintWords Go.Proofs.Ytakelegiamdmaaa.Opens Go.Proofs.Ytakelegiamdmaaa.Kit
set_option linter.unusedVariables false
set_option linter.unusedSimpArgs false
theorem szStringS_sz (l : List (ByteArray)) (h : (l.length * 16 ≤ 140737488351232 ∧ ∀ y ∈ l, y.size ≤ 140737488351232)) : Szf (fun k a => laws_szStringS.f k l a) (l.length + (l.map ByteArray.size).sum) := by
  have H := szf_list1 (l := l) (L0 := laws_szStringS.l0) (rd := rdOf ByteArray.empty) (fun _ _ _ _ => rfl) rdOf_get (by have := h.1; omega) h.2
  exact H
theorem szResult_sz (a0_0 : Int) (a0_1 : ByteArray) (a0_2 : Int) (a0_3 : Bool) (l0_4 : List (ByteArray)) (h0_1 : a0_1.size ≤ 140737488351232) (h0_4 : (l0_4.length * 16 ≤ 140737488351232 ∧ ∀ y ∈ l0_4, y.size ≤ 140737488351232)) : Szf (fun k a => laws_szResult.f k a0_0 a0_1 a0_2 a0_3 l0_4 a) (a0_1.size + ((l0_4.length + (l0_4.map ByteArray.size).sum) + 0)) := by
  have H := (szf_str h0_1 (szf_seq (szStringS_sz l0_4 h0_4) szf_ret))
  exact H
theorem toStringS_to (l : List (ByteArray)) (h : (l.length + (l.map ByteArray.size).sum) ≤ 1048576) : Ev (fun k => laws_toStringS.f k l) l := by
  have H := to_list1 (l := l) (L0 := laws_toStringS.l0) (z := (⟨#[]⟩ : ByteArray)) (rd := rdOf ByteArray.empty) (B := 17592186044416) (fun _ _ _ _ => rfl) rdOf_get (by omega) (by decide)
  exact H
theorem toResult_to (a0_0 : Int) (a0_1 : ByteArray) (a0_2 : Int) (a0_3 : Bool) (l0_4 : List (ByteArray)) (h : (a0_1.size + ((l0_4.length + (l0_4.map ByteArray.size).sum) + 0)) ≤ 1048576) : Ev (fun k => laws_toResult.f k a0_0 a0_1 a0_2 a0_3 l0_4) (a0_0, a0_1, a0_2, a0_3, l0_4) := by
  unfold laws_toResult.f
  exact (Ev.bind (toStringS_to l0_4 (by omega)) (Ev.now _))
theorem eqStringS_eq (l : List (ByteArray)) (h : (l.length + (l.map ByteArray.size).sum) ≤ 1048576) : Ev (fun k => laws_eqStringS.f k l l) true := by
  have H := eq_list1 (l := l) (L0 := laws_eqStringS.l0) (c := fun b : ByteArray => b.toList) (rd := rdOf ByteArray.empty) (fun _ _ _ _ => rfl) rdOf_get (by omega)
  exact H
theorem eqResult_eq (a0_0 : Int) (a0_1 : ByteArray) (a0_2 : Int) (a0_3 : Bool) (l0_4 : List (ByteArray)) (h : (a0_1.size + ((l0_4.length + (l0_4.map ByteArray.size).sum) + 0)) ≤ 1048576) : Ev (fun k => laws_eqResult.f k a0_0 a0_1 a0_2 a0_3 l0_4 a0_0 a0_1 a0_2 a0_3 l0_4) true := by
  unfold laws_eqResult.f
  exact (eqf_if (eqf_if (eqf_if (eqf_bool (eqf_call (eqStringS_eq l0_4 (by omega)) eqf_end)))))
end Go.Proofs.Ytakelegiamdmaaa.QFnExactSameResult
