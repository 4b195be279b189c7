/- Several texts, one behind the other. Conditions: as each of them says. -/
import Derived.Test.YtjmbphjgiodioaaGreatDoorMv28
import Derived.Test.YtjmbphjgiodioaaGreatDoorMv19
import Derived.Test.YtjmbphjgiodioaaGreatDoorMv7
import Derived.Test.YtjmbphjgiodioaaGreatDoorMv4
set_option maxRecDepth 100000
set_option maxHeartbeats 32000000
namespace Go.Proofs.YtjmbphjgiodioaaGreatDoor
open Go.RowKit
section
variable {M:Nat→Prop} {w:World} {an ao bn bo:Option Addr} {acn aco bcn bco:Nat} {a b:Mach}
end
end Go.Proofs.YtjmbphjgiodioaaGreatDoor
