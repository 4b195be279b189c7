/- Several texts, one behind the other. Conditions: as each of them says. -/
import Derived.Test.YtjagagpcjpcjjaaGreatMt27
import Derived.Test.YtjagagpcjpcjjaaGreatMt8
import Derived.Test.YtjagagpcjpcjjaaGreatMt4
import Derived.Test.YtjagagpcjpcjjaaGreatMt3
import Derived.Deep.Cut
set_option maxRecDepth 100000
set_option maxHeartbeats 32000000
namespace Go.Proofs.YtjagagpcjpcjjaaGreat
open Go.RowKit
section
variable {M M1 M2:Nat→Prop} {w:World} {an ao ai ac:Option Addr} {cn co ci cc bb:Nat} {m:Mach} {I C:List Int}
end
end Go.Proofs.YtjagagpcjpcjjaaGreat
