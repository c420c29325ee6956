-- joined by wip/tools/shake.py
import Derived.Test.YtkmmoheeoblmnaaDoorVXaTWWords
import Derived.Test.YtkmmoheeoblmnaaDoorVXaTWLast
import Derived.Test.YtkmmoheeoblmnaaDoorVXaTWMore
import Derived.Test.YtkmmoheeoblmnaaDoorVXaTWNEv
import Derived.StillTailTactics
namespace Go.Proofs.YtkmmoheeoblmnaaDoor.A
open Go.RowKit Go.Proofs.YtkmmoheeoblmnaaDoorW.PrintWords Go.Proofs.YtkmmoheeoblmnaaDoorW.PrintLast Go.Proofs.YtkmmoheeoblmnaaDoorW.PrintMore
end Go.Proofs.YtkmmoheeoblmnaaDoor.A
