/- Several texts, one behind the other. Conditions: as each of them says. -/
import Derived.Test.YtjmbphjgiodioaaGreatDoorMv16
import Derived.Test.YtjmbphjgiodioaaGreatDoorMv7
import Derived.Test.YtjmbphjgiodioaaGreatDoorMv1
import Derived.Carry
set_option maxRecDepth 100000
set_option maxHeartbeats 32000000
namespace Go.Proofs.YtjmbphjgiodioaaGreatDoor
open Go.RowKit
theorem Sl.val {M:Nat→Prop} {w:World} {a:Option Addr} {c:Nat} {l:List Int} (h:Sl M w a c l) (t:Nat):i64 (l.getD t 0):=by
 by_cases ht:t<l.length
 ·obtain ⟨_,_,x,_,_,h1,h2⟩:=h.at_int ht
  rw [getD_of_some h1.out];exact h2.out
 rw [List.getD_eq_getElem?_getD,List.getElem?_eq_none (by omega)]
 unfold i64;simp
section
variable {M M':Nat→Prop} {w:World} {an ao ac:Option Addr} {cn co cc:Nat} {m:Mach} {cls:List Int}
end
end Go.Proofs.YtjmbphjgiodioaaGreatDoor
