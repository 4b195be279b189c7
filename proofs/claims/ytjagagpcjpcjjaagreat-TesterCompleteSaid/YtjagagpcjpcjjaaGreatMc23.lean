/- Several texts, one behind the other. Conditions: as each of them says. -/
import Derived.Test.YtjagagpcjpcjjaaGreatMc19
import Derived.Test.YtjagagpcjpcjjaaGreatMc15
import Derived.Test.YtjagagpcjpcjjaaGreatMc7
import Derived.Test.YtjagagpcjpcjjaaGreatMc4
import Derived.Test.YtjagagpcjpcjjaaGreatMc3
set_option maxRecDepth 100000
set_option maxHeartbeats 32000000
namespace Go.Proofs.YtjagagpcjpcjjaaGreat
open Go.RowKit
namespace Hy
variable (h:Hy)
def ac (s:Nat):List Int:=h.acc.getD s []
def stErr (s:Nat):Int:=if wErr (h.ac s) h.m.inputs≠0 then wErr (h.ac s) h.m.inputs else if h.m.endW h.m.start (h.ac s)≠s then 15 else 0
def stsErr:Nat→Int
 |0=>0
 |k+1=>if stsErr k=0 then h.stErr k else stsErr k
def err:Int:=
 if h.m.err≠0 then h.m.err
 else if h.acc.length≠h.m.next.length then 1
 else if h.stsErr h.acc.length≠0 then h.stsErr h.acc.length
 else if (h.ac h.m.start.toNat).length≠0 then 10 else 0
variable {h}
structure Ok (h:Hy):Prop where
 m:h.m.Ok
 len:h.acc.length=h.m.next.length
 word:∀s,s<h.acc.length→wErr (h.ac s) h.m.inputs=0∧h.m.endW h.m.start (h.ac s)=s
 start:h.ac h.m.start.toNat=[]
end Hy
theorem endW_ok {m:Mach} {w:List Int} (h:wErr w m.inputs=0):m.okS w∧w.length≤1024:=Mach.okS_of h
section
variable {M:Nat→Prop} {w:World} {an ao ac:Option Addr} {cn co cc:Nat} {h:Hy}
theorem start_ok {m:Mach} (ok:m.Ok):m.stErr m.start=0:=by
 unfold Mach.stErr
 rw [if_neg (by simp [m.err_of_ok ok]),if_neg (by have:=ok.s0;have:=ok.s1;omega)]
end
section
variable {P:Program} {Q:Exit→Act→World→Prop} {md:Region.Mode} {S:World→Prop} {L:List Nat}
end
section
variable {M M':Nat→Prop} {w:World} {a a':Option Addr} {c c':Nat} {t:Tr}
end
section
variable {M M':Nat→Prop} {w:World} {an ao a:Option Addr} {cn co c:Nat} {m:Mach}
end
end Go.Proofs.YtjagagpcjpcjjaaGreat
