/- Several texts, one behind the other. Conditions: as each of them says. -/
import Derived.Test.YtjmbphjgiodioaaGreatDoorMv34
import Derived.Test.YtjmbphjgiodioaaGreatDoorProg
set_option maxRecDepth 100000
set_option maxHeartbeats 32000000
namespace Go.Proofs.YtjmbphjgiodioaaGreatDoor
theorem follows52:Tryz.prog.follows .mixedOrders=true:=by kernel_rfl
theorem yes52:Go.Ev.yesY (Go.Ev.cfF Tryz.prog 60 (.f 11) .ln (.mk .lf (.m .a .a .a .H)))=true:=by kernel_rfl
theorem awake52_any {w:World}:Calls Tryz.prog 11 #[] w fun e w'=>e= .returned (.bool true)∧RowKit.Below w.heap.size w w':=Go.Ev.calls_yes follows52 yes52 w
end Go.Proofs.YtjmbphjgiodioaaGreatDoor
