-- joined by wip/tools/shake.py
import Derived.Test.YtlocaaebgghkbaaVTEndsWInv
import Derived.Test.YtlocaaebgghkbaaVTEndsWFootNe
namespace Go.Proofs.YtlocaaebgghkbaaW.PrintWords
open Go.RowKit
end Go.Proofs.YtlocaaebgghkbaaW.PrintWords
namespace Go.Proofs.YtlocaaebgghkbaaW.PrintLast
section
variable {ops : Array Oper} {a : Act} {o og : Oper} {g : Nat} {t : Tmp} {u : Bool}
end
end Go.Proofs.YtlocaaebgghkbaaW.PrintLast
