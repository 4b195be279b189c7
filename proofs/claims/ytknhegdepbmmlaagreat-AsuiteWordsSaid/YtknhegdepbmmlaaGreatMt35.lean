/- Several texts, one behind the other. Conditions: as each of them says. -/
import Derived.Test.YtknhegdepbmmlaaGreatMt34
import Derived.Test.YtknhegdepbmmlaaGreatMt33
import Derived.Test.YtknhegdepbmmlaaGreatMt30
import Derived.Test.YtknhegdepbmmlaaGreatMt15
import Derived.Test.YtknhegdepbmmlaaGreatMt4
import Derived.Test.YtknhegdepbmmlaaGreatMt1
set_option maxRecDepth 100000
set_option maxHeartbeats 32000000
namespace Go.Proofs.YtknhegdepbmmlaaGreat
open Go.RowKit
def RightN (m:Mach) (T:List Nd) (f at':Nat) (g:Gp) (w:World) (e:Ending) (w':World):Prop:=∃r:Int,e= .returned (.int .i64 r)∧Hid ((∃n:Nat,m.right T f at' g=(n,true)∧r=(n:Int))∨((m.right T f at' g).2=false∧r= -1))∧Below w.heap.size w w'
def Right12C (f:Nat):Prop:=∀{M MT M1 M2:Nat→Prop} {w:World} {an ao aT ai ac:Option Addr} {cn co cT ci cc:Nat} {m:Mach} {T:List Nd} {at':Nat} {g:Gp},
    Ma M w an cn ao co m→Sl MT w aT cT T→Sl M1 w ai ci g.ini→Sl M2 w ac cc g.cur→Hid m.Ok→Hid (GOk m.next.length g)→Hid (g.cur.length<1000)→Hid (T.length<1000000000)→Hid (at'≤T.length)→Hid (T.length+1≤at'+f)→
    Calls Tryz.prog 78 #[maV m an cn ao co,.agg #[.slice aT T.length cT],.int .i64 at',.slice ai g.ini.length ci,.slice ac g.cur.length cc] w (RightN m T f at' g w)
def Mix (n0 B:Nat) (w:World) (v u:Value) (S:List Int) (W:List (List Int)):Prop:=
 Ow B (fun k=>B≤k) w 3 v S∧Oy (fun k=>v.ownBlock=some k∨k<n0) B w 45 u W∧Hid (∀k,v.ownBlock=some k→u.ownBlock=some k→False)
theorem Mix.below {n0 B:Nat} {w w':World} {v u:Value} {S:List Int} {W:List (List Int)} (h:Mix n0 B w v u S W) (hb:Below w.heap.size w w'):Mix n0 B w' v u S W:=⟨h.1.below hb,Ow.below h.2.1 hb,h.2.2⟩
theorem Mix.alloc {n0 B:Nat} {w:World} {v u:Value} {S:List Int} {W:List (List Int)} (h:Mix n0 B w v u S W) (o:Obj):Mix n0 B (w.alloc o) v u S W:=h.below ((Below.refl _ _).alloc (Nat.le_refl _) _)
theorem Mix.toSl {n0 B:Nat} {w:World} {v:Value} {a:Option Addr} {c:Nat} {S:List Int} {W:List (List Int)} (h:Mix n0 B w v (.slice a W.length c) S W) (hB:n0≤B):Sl (fun k=>k<n0) w a c W:=
 (h.2.1.subM (M':=fun k=>k<n0) fun k _ hm=> .inr (.inr hm)).toSl fun k hk=>by have:=(h.2.1.lt k hk).1;omega
section
variable {P:Program} {w:World} {o:Oper} {a:Act} {ops:Array Oper} {rest:List Oper} {Q:Exit→Act→World→Prop}
end
section
variable {M:Nat→Prop} {w:World} {b:Option Addr} {d:Nat} {l:List Int}
end
section
variable {M:Nat→Prop} {w:World} {an ao:Option Addr} {cn co:Nat} {m:Mach}
end
end Go.Proofs.YtknhegdepbmmlaaGreat
