/- Several texts, one behind the other. Conditions: as each of them says. -/
import Derived.Test.YtjagagpcjpcjjaaGreatMc4
import Derived.Test.YtjagagpcjpcjjaaGreatMc3
import Derived.Test.YtjagagpcjpcjjaaGreatMc2
import Derived.Test.YtjagagpcjpcjjaaGreatMc1
import Derived.IntWalk
set_option maxRecDepth 100000
set_option maxHeartbeats 32000000
namespace Go.Proofs.YtjagagpcjpcjjaaGreat
open Go.RowKit
namespace Mach
variable (m:Mach)
variable {m}
end Mach
section
variable {M:Nat→Prop} {cn co:Nat} {m:Mach} {bn on bo oo:Nat}
end
end Go.Proofs.YtjagagpcjpcjjaaGreat
