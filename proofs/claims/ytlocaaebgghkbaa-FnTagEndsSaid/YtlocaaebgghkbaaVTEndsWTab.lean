-- joined by wip/tools/shake.py
import Derived.Test.YtlocaaebgghkbaaVTEndsWLast
import Derived.Test.YtlocaaebgghkbaaVTEndsWWords
namespace Go.Proofs.YtlocaaebgghkbaaW.PrintLast
open Go.Proofs.YtlocaaebgghkbaaW.PrintWords (Aside0)
section
variable {md : Region.Mode} {ops : Array Oper} {T : Bool × List (List Nat × List Nat)} {l l' li lj lk : Array Bool} {ds : List Nat} {i j k : Nat}
end
end Go.Proofs.YtlocaaebgghkbaaW.PrintLast
