-- joined by wip/tools/shake.py
import Derived.Test.YtkmmoheeoblmnaaDoorVTkTWWords
import Derived.Test.YtkmmoheeoblmnaaDoorVTkTWLast
import Derived.Test.YtkmmoheeoblmnaaDoorVTkTWMore
import Derived.Test.YtkmmoheeoblmnaaDoorVTkTWNEv
import Derived.StillTailTactics
namespace Go.Proofs.YtkmmoheeoblmnaaDoor.A
open Go.RowKit Go.Proofs.YtkmmoheeoblmnaaDoorW.PrintWords Go.Proofs.YtkmmoheeoblmnaaDoorW.PrintLast Go.Proofs.YtkmmoheeoblmnaaDoorW.PrintMore
end Go.Proofs.YtkmmoheeoblmnaaDoor.A
