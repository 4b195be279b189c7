/- Several texts, one behind the other. Conditions: as each of them says. -/
import Derived.Test.YtjagagpcjpcjjaaGreatMt27
import Derived.RangeFuncNested
import Derived.RangeFuncBound
import Derived.RangeFuncCalls
import Derived.RangeFuncLeaves
import Derived.Shelf.Abstract
import Derived.Shelf.RegionOpen
import Derived.WalkKit
import Derived.OwnWalkIn
import Derived.TacticsInMore
import Derived.LoopNIn
import Derived.LoopIn
set_option maxRecDepth 100000
set_option maxHeartbeats 32000000
namespace Go.Proofs.YtjagagpcjpcjjaaGreat
open Go.RowKit Go.Shelf
attribute [local go_sem] Oper.semAt_some
structure NdV where
 sa:Option Addr
 sn:Nat
 sc:Nat
 inp:Int
 ka:Option Addr
 kn:Nat
 kc:Nat
abbrev NdV.val (x:NdV):Value:= .agg #[.slice x.sa x.sn x.sc,.int .i64 x.inp,.slice x.ka x.kn x.kc]
abbrev NdV.obj (x:NdV):Obj:= .cells #[.slice x.sa x.sn x.sc,.int .i64 x.inp,.slice x.ka x.kn x.kc] 179
def NdV.leaf (x:NdV):Bool:=decide (x.inp= -1)
def NVs (n₀:Nat) (W:World) (a:Option Addr) (V:List NdV):Prop:=
 ∀j x,V[j]? =some x→∃b off,a=some ⟨b,off,none⟩∧b<n₀∧W.cell? ⟨b,off+j*3,none⟩=some (.slice x.sa x.sn x.sc)∧W.cell? ⟨b,off+j*3+1,none⟩=some (.int .i64 x.inp)∧W.cell? ⟨b,off+j*3+2,none⟩=some (.slice x.ka x.kn x.kc)
theorem NVs.below {n₀:Nat} {A B:World} {a:Option Addr} {V:List NdV} (h:Below n₀ A B) (hv:NVs n₀ A a V):NVs n₀ B a V:=fun j x hj=>by
 obtain ⟨b,off,h1,h2,h3,h4,h5⟩:=hv j x hj
 exact ⟨b,off,h1,h2,(h.cell (p:=⟨b,off+j*3,none⟩) h2).trans h3,(h.cell (p:=⟨b,off+j*3+1,none⟩) h2).trans h4,(h.cell (p:=⟨b,off+j*3+2,none⟩) h2).trans h5⟩
def NdV.of (x:NdV) (nd:Nd):Prop:=x.sn=nd.st.length∧x.inp=nd.inp
def complB (L:List Nd):Bool:=L.all (fun x=>decide (x.inp≠ -1∨x.st.length=1))&&decide (0<L.length)
def Box3 (W:World) (B:Nat) (x:NdV):Prop:=W.heap[B]? =some x.obj
end Go.Proofs.YtjagagpcjpcjjaaGreat
