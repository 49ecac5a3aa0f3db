/-
  Words of the print that this claim comes to (the print's own, the others left out by wip/gen/prune.py).
-/
-- PRINTED BY print.sh 35421559b90ae4d0a3588c463048766b98c2df88dd9212a6774a882060cdf62d: not written by this session
import Derived.Test.YtconffflmbakgaaVInv
import Derived.Test.YtconffflmbakgaaVFootNe
namespace Go.Proofs.YtconffflmbakgaaW.PrintWords
open Go.RowKit
end Go.Proofs.YtconffflmbakgaaW.PrintWords
namespace Go.Proofs.YtconffflmbakgaaW.PrintLast
section
variable {ops : Array Oper} {a : Act} {o og : Oper} {g : Nat} {t : Tmp} {u : Bool}
end
end Go.Proofs.YtconffflmbakgaaW.PrintLast
