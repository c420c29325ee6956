-- joined by wip/tools/shake.py
import Derived.Test.YtlocaaebgghkbaaVTEndsWWords
namespace Go.Proofs.YtlocaaebgghkbaaW.PrintWords
open Go.RowKit
section
variable {P : Program} {ops : Array Oper} {rest : List Oper} {o : Oper} {a : Act} {Q : Exit → Act → World → Prop} {W : World}
end
end Go.Proofs.YtlocaaebgghkbaaW.PrintWords
