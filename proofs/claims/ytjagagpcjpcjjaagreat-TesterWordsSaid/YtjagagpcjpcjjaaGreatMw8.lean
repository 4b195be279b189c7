/- Lemmas, each with its own conditions. -/
import Derived.Test.YtjagagpcjpcjjaaGreatMw6
set_option maxRecDepth 100000
set_option maxHeartbeats 32000000
namespace Go.Proofs.YtjagagpcjpcjjaaGreat
open Go.RowKit Go.Joins Go.ChangeShapes Go.WideShapes Go.Deep
section
variable {H:Type} {enc:TypeId×Value->H} {w:World} {held:Bool} {fuel:Nat} {cs:List Value} {x:DataW H×List MemPlace}
end
