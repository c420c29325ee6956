-- joined by wip/tools/shake.py
import Derived.Test.YtkmmoheeoblmnaaDoorVTkTShelf
import Derived.Test.YtkmmoheeoblmnaaDoorVTkTK
import Derived.Lib.OthersKept
import Derived.Lib.BufferKept
import Derived.Lib.FrozenHead2
import Derived.Lib.AppendStr
import Derived.Laws.Externs
namespace Go.Proofs.YtkmmoheeoblmnaaDoor.A
open Go.RowKit Go.Proofs.YtkmmoheeoblmnaaDoorW.PrintWords Go.Proofs.YtkmmoheeoblmnaaDoorW.PrintLast Go.Proofs.YtkmmoheeoblmnaaDoorW.PrintMore
set_option linter.unusedVariables false
end Go.Proofs.YtkmmoheeoblmnaaDoor.A
