/- Several texts, one behind the other. Conditions: as each of them says. -/
import Derived.Test.YtjagagpcjpcjjaaGreatMc12
import Derived.Test.YtjagagpcjpcjjaaGreatMc7
import Derived.Test.YtjagagpcjpcjjaaGreatLaySortT
set_option maxRecDepth 100000
set_option maxHeartbeats 32000000
namespace Go.Proofs.YtjagagpcjpcjjaaGreat
open Go.RowKit Go.Sort Go.Shelf
section
variable {M M':Nat→Prop} {w:World} {a1 a2 b1 b2:Option Addr} {c1 c2 d1 d2:Nat}
end
structure TrE (w:World) (g:Nat) where
 v:List Value
 t:Tr
 ok:∃a c a' c',v=[.slice a t.inn.length c,.slice a' t.out.length c']∧Sl (fun k=>k=g) w a c t.inn∧Sl (fun k=>k=g) w a' c' t.out
instance (w:World) (g:Nat):Inhabited (TrE w g):=⟨⟨[.slice none 0 0,.slice none 0 0],⟨[],[]⟩,none,0,none,0,rfl,Sl.nil _ _ _ (by unfold maxLen;omega),Sl.nil _ _ _ (by unfold maxLen;omega)⟩⟩
section
variable {M:Nat→Prop} {w:World} {B g c:Nat} {l:List Tr}
end
end Go.Proofs.YtjagagpcjpcjjaaGreat
