-- joined by wip/tools/shake.py
import Derived.Test.YtkmmoheeoblmnaaGreatDoorVPcTWWords
import Derived.Test.YtkmmoheeoblmnaaGreatDoorVPcTWLast
import Derived.Test.YtkmmoheeoblmnaaGreatDoorVPcTWMore
import Derived.Test.YtkmmoheeoblmnaaGreatDoorVPcTWNEv
import Derived.StillTailTactics
namespace Go.Proofs.YtkmmoheeoblmnaaGreatDoor.A
open Go.RowKit Go.Proofs.YtkmmoheeoblmnaaGreatDoorW.PrintWords Go.Proofs.YtkmmoheeoblmnaaGreatDoorW.PrintLast Go.Proofs.YtkmmoheeoblmnaaGreatDoorW.PrintMore
def blk (c : Int) : Bool := c == 9 || c == 10 || c == 12 || c == 13 || c == 32
end Go.Proofs.YtkmmoheeoblmnaaGreatDoor.A
