/- Several texts, one behind the other. Conditions: as each of them says. -/
import Derived.Test.YtjagagpcjpcjjaaGreatMc25
import Derived.Test.YtjagagpcjpcjjaaGreatMc19
import Derived.Test.YtjagagpcjpcjjaaGreatMc7
import Derived.Test.YtjagagpcjpcjjaaGreatMc4
set_option maxRecDepth 100000
set_option maxHeartbeats 32000000
namespace Go.Proofs.YtjagagpcjpcjjaaGreat
open Go.RowKit
def ansW (o:Option (List Int)) (l:List Int) (f:Bool):Prop:=l=o.getD []∧f=o.isSome
section
variable {M:Nat→Prop} {w:World} {an ao bn bo:Option Addr} {acn aco bcn bco:Nat} {a b:Mach}
end
end Go.Proofs.YtjagagpcjpcjjaaGreat
