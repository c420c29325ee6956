-- joined by wip/tools/shake.py
import Derived.Test.YtlocaaebgghkbaaVTextsWWords
import Derived.Test.YtlocaaebgghkbaaVTextsWLast
import Derived.Test.YtlocaaebgghkbaaVTextsWMore
import Derived.Test.YtlocaaebgghkbaaVTextsWNEv
import Derived.StillTailTactics
namespace Go.Proofs.Ytlocaaebgghkbaa.A
open Go.RowKit Go.Proofs.YtlocaaebgghkbaaW.PrintWords Go.Proofs.YtlocaaebgghkbaaW.PrintLast Go.Proofs.YtlocaaebgghkbaaW.PrintMore
end Go.Proofs.Ytlocaaebgghkbaa.A
