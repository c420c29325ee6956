-- joined by wip/tools/shake.py
import Derived.Test.YtkmmoheeoblmnaaGreatDoorVWeTWWords
import Derived.Test.YtkmmoheeoblmnaaGreatDoorVWeTWLast
import Derived.Test.YtkmmoheeoblmnaaGreatDoorVWeTWMore
import Derived.Test.YtkmmoheeoblmnaaGreatDoorVWeTWNEv
import Derived.StillTailTactics
namespace Go.Proofs.YtkmmoheeoblmnaaGreatDoor.A
open Go.RowKit Go.Proofs.YtkmmoheeoblmnaaGreatDoorW.PrintWords Go.Proofs.YtkmmoheeoblmnaaGreatDoorW.PrintLast Go.Proofs.YtkmmoheeoblmnaaGreatDoorW.PrintMore
def blk (c : Int) : Bool := c == 9 || c == 10 || c == 12 || c == 13 || c == 32
end Go.Proofs.YtkmmoheeoblmnaaGreatDoor.A
