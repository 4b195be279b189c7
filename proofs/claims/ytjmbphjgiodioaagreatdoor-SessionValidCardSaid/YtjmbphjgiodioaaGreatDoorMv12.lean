/- Several texts, one behind the other. Conditions: as each of them says. -/
import Derived.Test.YtjmbphjgiodioaaGreatDoorMv7
import Derived.Deep.MidRow
set_option maxRecDepth 100000
set_option maxHeartbeats 32000000
namespace Go.Proofs.YtjmbphjgiodioaaGreatDoor
open Go.RowKit
theorem heap_at {w:World} {o:Obj} {k:Nat} (h:w.heap.size=k):(w.alloc o).heap[k]? =some o:=by subst h;exact heap_alloc_new w o
section
variable {w:World}
theorem box_new (w:World) (vs:Array Value) (T:TypeId) (o:Nat):(w.alloc (.cells vs T)).cell? ⟨w.heap.size,o,none⟩=vs[o]? :=by
 rw [cell_of_row _ _ _ _ _ _ (heap_alloc_new w _)]
end
end Go.Proofs.YtjmbphjgiodioaaGreatDoor
