/- Several texts, one behind the other. Conditions: as each of them says. -/
import Derived.Test.YtjagagpcjpcjjaaGreatMt23
import Derived.Test.YtjagagpcjpcjjaaGreatMt17
import Derived.Test.YtjagagpcjpcjjaaGreatMt6
import Derived.Test.YtjagagpcjpcjjaaGreatMt4
set_option maxRecDepth 100000
set_option maxHeartbeats 32000000
namespace Go.Proofs.YtjagagpcjpcjjaaGreat
open Go.RowKit
def ansW (o:Option (List Int)) (l:List Int) (f:Bool):Prop:=l=o.getD []∧f=o.isSome
section
variable {M:Nat→Prop} {w:World} {an ao bn bo:Option Addr} {acn aco bcn bco:Nat} {a b:Mach}
end
end Go.Proofs.YtjagagpcjpcjjaaGreat
