/- Several texts, one behind the other. Conditions: as each of them says. -/
import Derived.Test.YtjmbphjgiodioaaGreatDoorMv38
import Derived.Test.YtjmbphjgiodioaaGreatDoorMv11
import Derived.Laws.BytesArg
set_option maxRecDepth 100000
set_option maxHeartbeats 32000000
namespace Go.Proofs.YtjmbphjgiodioaaGreatDoor
open Go.RowKit
def keyB (l:List Int):ByteArray:=strOfNums l
section
variable {M:Nat→Prop} {w:World} {a:Option Addr} {c:Nat} {l:List Int}
end
end Go.Proofs.YtjmbphjgiodioaaGreatDoor
