/- Several texts, one behind the other. Conditions: as each of them says. -/
import Derived.Test.YtknhegdepbmmlaaGreatMt20
import Derived.Test.YtknhegdepbmmlaaGreatMt9
import Derived.Test.YtknhegdepbmmlaaGreatMt6
import Derived.Test.YtknhegdepbmmlaaGreatMt3
import Derived.Test.YtknhegdepbmmlaaGreatMt1
set_option maxRecDepth 100000
set_option maxHeartbeats 32000000
namespace Go.Proofs.YtknhegdepbmmlaaGreat
open Go.RowKit
section
variable {M:Nat→Prop} {w:World} {an ao:Option Addr} {cn co:Nat} {m:Mach}
end
section
variable {M:Nat→Prop} {w:World} {an ao:Option Addr} {cn co:Nat} {m:Mach}
end
end Go.Proofs.YtknhegdepbmmlaaGreat
