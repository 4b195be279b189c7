/- Several texts, one behind the other. Conditions: as each of them says. -/
import Derived.Test.YtjmbphjgiodioaaGreatDoorMv39
import Derived.Deep.Cut
set_option maxRecDepth 100000
set_option maxHeartbeats 32000000
namespace Go.Proofs.YtjmbphjgiodioaaGreatDoor
open Go.RowKit
theorem Ow.other {α:Type} [GR α] {B:Nat} {M:Nat→Prop} {w w':World} {T:TypeId} {v:Value} {l:List α} {r:Option Nat} (h:Ow B M w T v l) (hg:w.grownBy w' r) (hr:∀k,r=some k→M k) (hne:∀k,v.ownBlock=some k→r=some k→False):Ow B M w' T v l:=
 h.ext (Ext.grownBy hg hr) fun k hk=>hg.block k (h.lt k hk).2 fun e=>hne k hk e.symm
section
variable {M:Nat→Prop} {w:World} {an ao:Option Addr} {cn co:Nat} {m:Mach}
end
end Go.Proofs.YtjmbphjgiodioaaGreatDoor
