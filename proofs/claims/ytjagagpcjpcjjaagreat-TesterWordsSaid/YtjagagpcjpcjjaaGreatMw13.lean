/- Lemmas, each with its own conditions. -/
import Derived.Test.YtjagagpcjpcjjaaGreatMw4
import Derived.Test.YtjagagpcjpcjjaaGreatMw3
set_option maxRecDepth 100000
set_option maxHeartbeats 32000000
namespace Go.Proofs.YtjagagpcjpcjjaaGreat
open Go.RowKit
namespace g_
variable (m:g_)
variable {m}
end g_
abbrev S8 (w:World) (bn on bo oo s t b1 o1 c1 l1 b2 o2 c2 l2 b3 o3 c3 l3 b4 o4 c4 l4:Nat) (x1 x2:Nat) (y1 y2:Int) (a:Nat):Prop:=
 w.cell? ⟨bn,on+s,none⟩=some (.slice (some ⟨b1,o1,none⟩) l1 c1)/\w.cell? ⟨bo,oo+s,none⟩=some (.slice (some ⟨b2,o2,none⟩) l2 c2)/\w.cell? ⟨bn,on+t,none⟩=some (.slice (some ⟨b3,o3,none⟩) l3 c3)/\w.cell? ⟨bo,oo+t,none⟩=some (.slice (some ⟨b4,o4,none⟩) l4 c4)/\
 w.cell? ⟨b1,o1+a,none⟩=some (.int .i64 (x1:Int))/\w.cell? ⟨b2,o2+a,none⟩=some (.int .i64 y1)/\w.cell? ⟨b3,o3+a,none⟩=some (.int .i64 (x2:Int))/\w.cell? ⟨b4,o4+a,none⟩=some (.int .i64 y2)
section
variable {M:Nat->Prop} {cn co:Nat} {m:g_} {bn on bo oo:Nat}
end
