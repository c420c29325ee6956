-- joined by wip/tools/shake.py
import Derived.Test.YtkmmoheeoblmnaaDoorVXaTWInv
import Derived.Test.YtkmmoheeoblmnaaDoorVXaTWFootNe
namespace Go.Proofs.YtkmmoheeoblmnaaDoorW.PrintWords
open Go.RowKit
end Go.Proofs.YtkmmoheeoblmnaaDoorW.PrintWords
namespace Go.Proofs.YtkmmoheeoblmnaaDoorW.PrintLast
section
variable {ops : Array Oper} {a : Act} {o og : Oper} {g : Nat} {t : Tmp} {u : Bool}
end
end Go.Proofs.YtkmmoheeoblmnaaDoorW.PrintLast
