-- joined by wip/tools/shake.py
import Derived.Test.YtkmmoheeoblmnaaDoorVTksTWWords
namespace Go.Proofs.YtkmmoheeoblmnaaDoorW.PrintWords
open Go.RowKit
section
variable {P : Program} {ops : Array Oper} {rest : List Oper} {o : Oper} {a : Act} {Q : Exit → Act → World → Prop} {W : World}
end
end Go.Proofs.YtkmmoheeoblmnaaDoorW.PrintWords
