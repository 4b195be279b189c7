/- Several texts, one behind the other. Conditions: as each of them says. -/
import Derived.Test.YtjagagpcjpcjjaaGreatMc35
import Derived.Test.YtjagagpcjpcjjaaGreatMc23
set_option maxRecDepth 100000
set_option maxHeartbeats 32000000
namespace Go.Proofs.YtjagagpcjpcjjaaGreat
open Go.RowKit
section
variable {M M':Nat→Prop} {w:World} {an ao a:Option Addr} {cn co c s t:Nat} {m:Mach}
end
end Go.Proofs.YtjagagpcjpcjjaaGreat
