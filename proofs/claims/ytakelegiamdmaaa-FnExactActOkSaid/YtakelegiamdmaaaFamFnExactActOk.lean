/-
  Sizes, copies and comparisons of FnExactActOk: what the functions sz.., to.., eq.. of the law answer.
-/
import Derived.Test.YtakelegiamdmaaaOpenFnExactActOk
import Derived.Test.YtakelegiamdmaaaKit
import Derived.Test.YtakelegiamdmaaaPFnExactActOkx1
namespace Go.Proofs.Ytakelegiamdmaaa.PFnExactActOk
open Go.RowKit Go.Proofs.YtakelegiamdmaaaW.PrintWords Go.Proofs.Ytakelegiamdmaaa.Opens Go.Proofs.Ytakelegiamdmaaa.Kit
set_option linter.unusedVariables false
set_option linter.unusedSimpArgs false
theorem szAsk_sz (a0_0 : Int) (a0_1 : ByteArray) (a0_2 : ByteArray) (a0_3 : Int) (a0_4 : Int) (a0_5 : ByteArray) (h0_1 : a0_1.size ≤ 140737488351232) (h0_2 : a0_2.size ≤ 140737488351232) (h0_5 : a0_5.size ≤ 140737488351232) : Szf (fun k a => laws_szAsk.f a0_0 a0_1 a0_2 a0_3 a0_4 a0_5 a) (a0_1.size + (a0_2.size + (a0_5.size + 0))) := by
  have H := (szf_str h0_1 (szf_str h0_2 (szf_str h0_5 szf_ret)))
  exact H
theorem szAct_sz (a0_0 : Int) (a0_1 : Int) (a0_2 : Int) (a0_3 : ByteArray) (a0_4 : ByteArray) (a0_5 : Int) (a0_6 : Int) (a0_7 : ByteArray) (a0_8 : Int) (h0_3 : a0_3.size ≤ 140737488351232) (h0_4 : a0_4.size ≤ 140737488351232) (h0_7 : a0_7.size ≤ 140737488351232) : Szf (fun k a => laws_szAct.f a0_0 a0_1 a0_2 a0_3 a0_4 a0_5 a0_6 a0_7 a0_8 a) ((a0_3.size + (a0_4.size + (a0_7.size + 0))) + 0) := by
  have H := (szf_seq (szAsk_sz a0_2 a0_3 a0_4 a0_5 a0_6 a0_7 h0_3 h0_4 h0_7) szf_ret)
  exact H
theorem toAsk_to (a0_0 : Int) (a0_1 : ByteArray) (a0_2 : ByteArray) (a0_3 : Int) (a0_4 : Int) (a0_5 : ByteArray) (h : (a0_1.size + (a0_2.size + (a0_5.size + 0))) ≤ 1048576) : Ev (fun k => laws_toAsk.f a0_0 a0_1 a0_2 a0_3 a0_4 a0_5) (a0_0, a0_1, a0_2, a0_3, a0_4, a0_5) := by
  unfold laws_toAsk.f
  exact (Ev.now _)
theorem toAct_to (a0_0 : Int) (a0_1 : Int) (a0_2 : Int) (a0_3 : ByteArray) (a0_4 : ByteArray) (a0_5 : Int) (a0_6 : Int) (a0_7 : ByteArray) (a0_8 : Int) (h : ((a0_3.size + (a0_4.size + (a0_7.size + 0))) + 0) ≤ 1048576) : Ev (fun k => laws_toAct.f a0_0 a0_1 a0_2 a0_3 a0_4 a0_5 a0_6 a0_7 a0_8) (a0_0, a0_1, a0_2, a0_3, a0_4, a0_5, a0_6, a0_7, a0_8) := by
  unfold laws_toAct.f
  exact (Ev.bind (toAsk_to a0_2 a0_3 a0_4 a0_5 a0_6 a0_7 (by omega)) (Ev.now _))
end Go.Proofs.Ytakelegiamdmaaa.PFnExactActOk
