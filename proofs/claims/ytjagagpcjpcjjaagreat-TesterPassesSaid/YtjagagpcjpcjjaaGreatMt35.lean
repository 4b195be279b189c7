/- Several texts, one behind the other. Conditions: as each of them says. -/
import Derived.Test.YtjagagpcjpcjjaaGreatMt32
import Derived.Laws.BytesArg
set_option maxRecDepth 100000
set_option maxHeartbeats 32000000
namespace Go.Proofs.YtjagagpcjpcjjaaGreat
open Go.RowKit
structure By where
 n:Int
instance:GR By where
 sz:=1
 rep _ _ cs x:=cs=[.int .u8 x.n]∧0≤x.n∧x.n<256
 len h:=by rw [h.1];rfl
 ext _ h:=h
section
variable {B:Nat} {M:Nat→Prop} {w:World} {T:TypeId} {a:Option Addr} {c:Nat}
end
section
variable {P:Program} {w:World} {o:Oper} {a:Act} {ops:Array Oper} {rest:List Oper} {Q:Exit→Act→World→Prop}
end
def keyB (l:List Int):ByteArray:=strOfNums l
section
variable {M:Nat→Prop} {w:World} {a:Option Addr} {c:Nat} {l:List Int}
end
end Go.Proofs.YtjagagpcjpcjjaaGreat
