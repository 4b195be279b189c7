/- Several texts, one behind the other. Conditions: as each of them says. -/
import Derived.Test.YtjagagpcjpcjjaaGreatMt32
import Derived.Test.YtjagagpcjpcjjaaGreatMt6
import Derived.Test.YtjagagpcjpcjjaaGreatMt4
import Derived.Test.YtjagagpcjpcjjaaGreatMt3
import Derived.Test.YtjagagpcjpcjjaaGreatMt1
import Derived.Deep.Cut
set_option maxRecDepth 100000
set_option maxHeartbeats 32000000
namespace Go.Proofs.YtjagagpcjpcjjaaGreat
open Go.RowKit
section
variable {M M':Nat→Prop} {w:World} {an ao b:Option Addr} {cn co d:Nat} {m:Mach} {l:List Int}
end
section
variable {M M':Nat→Prop} {w:World} {b q:Option Addr} {d c:Nat} {l P:List Int}
end
def posW (p:Int→Bool) (l:List Int) (k:Nat):List Int:=((List.range k).filter fun i=>p (l.getD i 0)).map fun i:Nat=>(i:Int)
section
variable {M M':Nat→Prop} {w:World} {an ao b:Option Addr} {cn co d:Nat} {m:Mach} {l:List Int}
end
end Go.Proofs.YtjagagpcjpcjjaaGreat
