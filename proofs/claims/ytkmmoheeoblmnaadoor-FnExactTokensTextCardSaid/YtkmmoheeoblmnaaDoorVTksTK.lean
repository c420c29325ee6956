-- joined by wip/tools/shake.py
import Derived.Test.YtkmmoheeoblmnaaDoorVTksTWWords
import Derived.Test.YtkmmoheeoblmnaaDoorVTksTWLast
import Derived.Test.YtkmmoheeoblmnaaDoorVTksTWMore
import Derived.Test.YtkmmoheeoblmnaaDoorVTksTWNEv
import Derived.StillTailTactics
namespace Go.Proofs.YtkmmoheeoblmnaaDoor.A
open Go.RowKit Go.Proofs.YtkmmoheeoblmnaaDoorW.PrintWords Go.Proofs.YtkmmoheeoblmnaaDoorW.PrintLast Go.Proofs.YtkmmoheeoblmnaaDoorW.PrintMore
end Go.Proofs.YtkmmoheeoblmnaaDoor.A
