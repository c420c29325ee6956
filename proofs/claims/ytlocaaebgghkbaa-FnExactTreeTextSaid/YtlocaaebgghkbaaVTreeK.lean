-- joined by wip/tools/shake.py
import Derived.Test.YtlocaaebgghkbaaVTreeWWords
import Derived.Test.YtlocaaebgghkbaaVTreeWLast
import Derived.Test.YtlocaaebgghkbaaVTreeWMore
import Derived.Test.YtlocaaebgghkbaaVTreeWNEv
import Derived.StillTailTactics
namespace Go.Proofs.Ytlocaaebgghkbaa.A
open Go.RowKit Go.Proofs.YtlocaaebgghkbaaW.PrintWords Go.Proofs.YtlocaaebgghkbaaW.PrintLast Go.Proofs.YtlocaaebgghkbaaW.PrintMore
end Go.Proofs.Ytlocaaebgghkbaa.A
