/- Several texts, one behind the other. Conditions: as each of them says. -/
import Derived.Test.YtknhegdepbmmlaaGreatMt13
import Derived.Test.YtknhegdepbmmlaaGreatMt12
import Derived.Test.YtknhegdepbmmlaaGreatMt6
import Derived.Test.YtknhegdepbmmlaaGreatMt3
/- The reference's search. Condition: both machines are valid and have the same inputs, and the states are theirs. -/
namespace Go.Proofs.YtknhegdepbmmlaaGreat
open Go.RowKit
def ansW (o : Option (List Int)) (l : List Int) (f : Bool) : Prop := l = o.getD [] ∧ f = o.isSome
section
variable {M : Nat → Prop} {w : World} {an ao bn bo : Option Addr} {acn aco bcn bco : Nat} {a b : Mach}
end
end Go.Proofs.YtknhegdepbmmlaaGreat
