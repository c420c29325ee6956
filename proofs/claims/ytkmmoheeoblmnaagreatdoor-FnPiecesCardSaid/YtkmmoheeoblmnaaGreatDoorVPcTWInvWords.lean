-- joined by wip/tools/shake.py
import Derived.Test.YtkmmoheeoblmnaaGreatDoorVPcTWInv
import Derived.Test.YtkmmoheeoblmnaaGreatDoorVPcTWFootNe
namespace Go.Proofs.YtkmmoheeoblmnaaGreatDoorW.PrintWords
open Go.RowKit
end Go.Proofs.YtkmmoheeoblmnaaGreatDoorW.PrintWords
namespace Go.Proofs.YtkmmoheeoblmnaaGreatDoorW.PrintLast
section
variable {ops : Array Oper} {a : Act} {o og : Oper} {g : Nat} {t : Tmp} {u : Bool}
end
end Go.Proofs.YtkmmoheeoblmnaaGreatDoorW.PrintLast
