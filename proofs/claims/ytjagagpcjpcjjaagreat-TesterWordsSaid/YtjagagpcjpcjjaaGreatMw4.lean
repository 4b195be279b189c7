/- Lemmas, each with its own conditions. -/
import Derived.Test.YtjagagpcjpcjjaaGreatMw2
import Derived.Test.YtjagagpcjpcjjaaGreatMw1
import Derived.Test.YtjagagpcjpcjjaaGreatProg
set_option maxRecDepth 100000
set_option maxHeartbeats 32000000
namespace Go.Proofs.YtjagagpcjpcjjaaGreat
open Tryz
open Go.RowKit
structure Ext (M M':Nat->Prop) (w w':World):Prop where
 size:w.heap.size<=w'.heap.size
 block:∀k,k<w.heap.size->¬M k->w'.heap[k]? =w.heap[k]?
 sub:∀k,k<w.heap.size->M' k->M k
theorem Ext.refl (M:Nat->Prop) (w:World):Ext M M w w:=⟨bM _,fun _ _ _=>rfl,fun _ _ h=>h⟩
theorem Ext.of_below {M:Nat->Prop} {w w':World} (h:Below w.heap.size w w'):Ext M M w w':=⟨h.size,fun k hk _=>h.block k hk,fun _ _ h=>h⟩
theorem Ext.jA {M M':Nat->Prop} {w:World} (h:∀k,k<w.heap.size->M' k->M k):Ext M M' w w:=⟨bM _,fun _ _ _=>rfl,h⟩
theorem Ext.alloc (M:Nat->Prop) (w:World) (o:Obj):Ext M M w (w.alloc o):=⟨aH,fun k hk _=>fA _ _ _ hk,fun _ _ h=>h⟩
theorem Ext.drew (M:Nat->Prop) (w:World):Ext M M w w.drew:=⟨bM _,fun _ _ _=>rfl,fun _ _ h=>h⟩
theorem Ext.setCell {M:Nat->Prop} (w:World) {p:Addr} (hp:M p.block) (u:Value):Ext M M w (w.setCell p u):=
 ⟨by simp [World.setCell],fun k _ hk=>dM _ _ _ _ (fun e=>hk (e▸hp)),fun _ _ h=>h⟩
theorem Ext.trans {M M' M'':Nat->Prop} {a b c:World} (h:Ext M M' a b) (k:Ext M' M'' b c):Ext M M'' a c:=
 ⟨dH h.size k.size,fun i hi hm=>(k.block i (eZ hi h.size) (fun e=>hm (h.sub i hi e))).trans (h.block i hi hm),
  fun i hi hm=>h.sub i hi (k.sub i (eZ hi h.size) hm)⟩
theorem Ext.grownBy {M:Nat->Prop} {w w':World} {row:Option Nat} (hg:w.grownBy w' row) (hr:∀k,row=some k->M k):Ext M M w w':=
 ⟨hg.size,fun k hk hm=>hg.block k hk (fun e=>hm (hr k e.symm)),fun _ _ h=>h⟩
class GR (α:Type) where
 sz:Nat
 rep:(Nat->Prop)->World->List Value->α->Prop
 len:∀{M w cs a},rep M w cs a->cs.length=sz
 ext:∀{M M' w w' cs a},Ext M M' w w'->rep M w cs a->rep M' w' cs a
def i64 (x:Int):Prop:= -9223372036854775808<=x/\x<=9223372036854775807
instance:GR Int where
 sz:=1
 rep _ _ cs a:=cs=[.int .i64 a]/\i64 a
 len h:=by rw [h.1];rfl
 ext _ h:=h
instance:GR Bool where
 sz:=1
 rep _ _ cs a:=cs=[.bool a]
 len h:=by rw [h];rfl
 ext _ h:=h
def Sl {α:Type} [GR α] (M:Nat->Prop) (w:World) (a:Option Addr) (c:Nat) (l:List α):Prop:=
 l.length<=c/\c<=maxLen/\∀j x,l[j]? =some x->∃b off cs,a=some ⟨b,off,none⟩/\b<w.heap.size/\¬M b/\GR.rep M w cs x/\
  ∀i u,cs[i]? =some u->w.cell? ⟨b,off+j*GR.sz α+i,none⟩=some u
theorem Sl.ext {α:Type} [GR α] {M M':Nat->Prop} {w w':World} {a:Option Addr} {c:Nat} {l:List α} (e:Ext M M' w w') (h:Sl M w a c l):Sl M' w' a c l:=by
 refine ⟨h.1,h.2.1,fun j x hj=> ?_⟩;obtain ⟨b,off,cs,ha,hb,hm,hr,hc⟩:=h.2.2 j x hj;refine ⟨b,off,cs,ha,eZ hb e.size,fun h'=>hm (e.sub b hb h'),GR.ext e hr,fun i u hi=> ?_⟩;rw [dD (w:=w) (e.block b hb hm)];exact hc i u hi
instance {α:Type} [GR α]:GR (List α) where
 sz:=1
 rep M w cs l:=∃a c,cs=[.slice a l.length c]/\Sl M w a c l
 len h:=by obtain ⟨a,c,h,_⟩:=h;rw [h];rfl
 ext e h:=by obtain ⟨a,c,h,hs⟩:=h;exact ⟨a,c,h,hs.ext e⟩
section
variable {M M':Nat->Prop} {w w':World} {a:Option Addr} {c:Nat}
theorem Sl.below {α:Type} [GR α] {l:List α} (h:Sl M w a c l) (hb:Below w.heap.size w w'):Sl M w' a c l:=h.ext (Ext.of_below hb)
theorem Sl.anti {α:Type} [GR α] {l:List α} (h:Sl M w a c l) (hs:∀k,k<w.heap.size->M' k->M k):Sl M' w a c l:=h.ext (Ext.jA hs)
theorem Sl.alloc {α:Type} [GR α] {l:List α} (h:Sl M w a c l) (o:Obj):Sl M (w.alloc o) a c l:=h.ext (Ext.alloc _ _ _)
theorem Sl.drew {α:Type} [GR α] {l:List α} (h:Sl M w a c l):Sl M w.drew a c l:=h.ext (Ext.drew _ _)
theorem Sl.drewN {α:Type} [GR α] {l:List α} (h:Sl M w a c l) (n:Nat):Sl M (w.drewN n) a c l:=h.ext (M:=M) (w:=w) (w':=w.drewN n) ⟨bM _,fun _ _ _=>rfl,fun _ _ h=>h⟩
theorem Sl.le {α:Type} [GR α] {l:List α} (h:Sl M w a c l):l.length<=9223372036854775807:=by
 have:=dH h.1 h.2.1;unfold maxLen at this;exact this
theorem Sl.nil {α:Type} [GR α] (M:Nat->Prop) (w:World) (a:Option Addr) {c:Nat} (hc:c<=maxLen):Sl M w a c ([]:List α):=⟨ap1 _,hc,fun j x h=>by simp at h⟩
theorem Sl.iC {l:List Int} (h:Sl M w a c l) {j:Nat} (hj:j<l.length):∃b off x,a=some ⟨b,off,none⟩/\w.cell? ⟨b,off+j,none⟩=some (.int .i64 x)/\Hid (l[j]? =some x)/\Hid (i64 x):=by
 obtain ⟨b,off,cs,ha,_,_,⟨rfl,hi⟩,hc⟩:=h.2.2 j l[j] (by simp [hj]);exact ⟨b,off,l[j],ha,by simpa [GR.sz] using hc 0 _ rfl,bK (by simp [hj]),hi⟩
theorem Sl.Er {l:List Bool} (h:Sl M w a c l) {j:Nat} (hj:j<l.length):∃b off x,a=some ⟨b,off,none⟩/\w.cell? ⟨b,off+j,none⟩=some (.bool x)/\Hid (l[j]? =some x):=by
 obtain ⟨b,off,cs,ha,_,_,rfl,hc⟩:=h.2.2 j l[j] (by simp [hj]);exact ⟨b,off,l[j],ha,by simpa [GR.sz] using hc 0 _ rfl,bK (by simp [hj])⟩
theorem Sl.iD {α:Type} [GR α] {l:List (List α)} (h:Sl M w a c l) {j:Nat} (hj:j<l.length):∃b off a' r c',a=some ⟨b,off,none⟩/\w.cell? ⟨b,off+j,none⟩=some (.slice a' r.length c')/\Hid (l[j]? =some r)/\Sl M w a' c' r:=by
 obtain ⟨b,off,cs,ha,_,_,⟨a',c',rfl,hs⟩,hc⟩:=h.2.2 j l[j] (by simp [hj]);exact ⟨b,off,a',l[j],c',ha,by simpa [GR.sz] using hc 0 _ rfl,bK (by simp [hj]),hs⟩
end
structure Ma (M:Nat->Prop) (w:World) (an:Option Addr) (cn:Nat) (ao:Option Addr) (co:Nat) (m:g_):Prop where
 gZ:i64 m.gZ
 start:i64 m.start
 h_:Sl M w an cn m.h_
 out:Sl M w ao co m.out
abbrev kF (m:g_) (an:Option Addr) (cn:Nat) (ao:Option Addr) (co:Nat):Value:=
 .agg #[.int .i64 m.gZ,.int .i64 m.start,.slice an m.h_.length cn,.slice ao m.out.length co]
theorem Ma.ext {M M':Nat->Prop} {w w':World} {an:Option Addr} {cn:Nat} {ao:Option Addr} {co:Nat} {m:g_} (e:Ext M M' w w') (h:Ma M w an cn ao co m):Ma M' w' an cn ao co m:=
 ⟨h.gZ,h.start,h.h_.ext e,h.out.ext e⟩
theorem Ma.below {M:Nat->Prop} {w w':World} {an:Option Addr} {cn:Nat} {ao:Option Addr} {co:Nat} {m:g_} (h:Ma M w an cn ao co m) (hb:Below w.heap.size w w'):Ma M w' an cn ao co m:=h.ext (Ext.of_below hb)
instance:GR g_ where
 sz:=4
 rep M w cs m:=∃an cn ao co,cs=[.int .i64 m.gZ,.int .i64 m.start,.slice an m.h_.length cn,.slice ao m.out.length co]/\Ma M w an cn ao co m
 len h:=by obtain ⟨_,_,_,_,h,_⟩:=h;rw [h];rfl
 ext e h:=by obtain ⟨an,cn,ao,co,h,hm⟩:=h;exact ⟨an,cn,ao,co,h,hm.ext e⟩
theorem Ma.row {M:Nat->Prop} {w:World} {an:Option Addr} {cn:Nat} {ao:Option Addr} {co:Nat} {m:g_} (h:Ma M w an cn ao co m) (ok:m.Ok) {s:Nat} (hs:s<m.h_.length):∃bn on a1 r1 c1 bo oo a2 r2 c2,an=some ⟨bn,on,none⟩/\ao=some ⟨bo,oo,none⟩/\w.cell? ⟨bn,on+s,none⟩=some (.slice a1 r1.length c1)/\w.cell? ⟨bo,oo+s,none⟩=some (.slice a2 r2.length c2)/\ Sl M w a1 c1 r1/\Sl M w a2 c2 r2/\Hid (m.h_[s]? =some r1)/\Hid (m.out[s]? =some r2)/\Hid ((r1.length:Int)=m.gZ)/\Hid ((r2.length:Int)=m.gZ)/\Hid (r1.length=m.gZ.toNat/\r2.length=m.gZ.toNat):=by
 obtain ⟨bn,on,a1,r1,c1,h1,h2,h3,h4⟩:=h.h_.iD hs;obtain ⟨bo,oo,a2,r2,c2,g1,g2,g3,g4⟩:=h.out.iD (j:=s) (by rw [ok.lo];exact hs);have e1:=ok.rn s hs;have e2:=ok.ro s hs;rw [iw h3.out] at e1;rw [iw g3.out] at e2;exact ⟨bn,on,a1,r1,c1,bo,oo,a2,r2,c2,h1,g1,h2,g2,h4,g4,h3,g3,e1,e2,⟨ah,ah⟩⟩
theorem Ma.entry {M:Nat->Prop} {w:World} {m:g_} (ok:m.Ok) {s:Nat} (hs:s<m.h_.length) {a1 a2:Option Addr} {c1 c2:Nat} {r1 r2:List Int} (s1:Sl M w a1 c1 r1) (s2:Sl M w a2 c2 r2) (h1:Hid (m.h_[s]? =some r1)) (h2:Hid (m.out[s]? =some r2)) (hl:Hid (r1.length=m.gZ.toNat/\r2.length=m.gZ.toNat)) {a:Nat} (ha:a<m.gZ.toNat):∃b1 o1 x b2 o2 y,a1=some ⟨b1,o1,none⟩/\a2=some ⟨b2,o2,none⟩/\w.cell? ⟨b1,o1+a,none⟩=some (.int .i64 ((x:Nat):Int))/\w.cell? ⟨b2,o2+a,none⟩=some (.int .i64 y)/\ x<m.h_.length/\0<=y/\y<=1048576/\Hid (m.nx s a=x)/\Hid (m.ot s a=y)/\a<r1.length/\a<r2.length:=by
 have l1:a<r1.length:=by rw [hl.out.1];exact ha
 have l2:a<r2.length:=by rw [hl.out.2];exact ha
 obtain ⟨b1,o1,x,e1,e2,e3,_⟩:=s1.iC l1;obtain ⟨b2,o2,y,g1,g2,g3,_⟩:=s2.iC l2;have n1:m.nx s a=x:=by unfold g_.nx;rw [iw h1.out,iw e3.out]
 have n2:m.ot s a=y:=by unfold g_.ot;rw [iw h2.out,iw g3.out]
 have k1:=ok.nx s a hs ha;have k2:=ok.ot s a hs ha;rw [n1] at k1;rw [n2] at k2;obtain ⟨x',rfl⟩:=b_ k1.1;exact ⟨b1,o1,x',b2,o2,y,e1,g1,e2,g2,ah,k2.1,k2.2,n1,n2,l1,l2⟩
theorem zB {n:Nat} (h:n<=9223372036854775807):i64 n:=bg
theorem below_drewN (B:Nat) (w:World) (n:Nat):Below B w (w.drewN n):=⟨rfl,rfl,rfl,bM _,fun _ _=>rfl⟩
theorem iF {B:Nat} {a w:World} (h:Below B a w) (n:Nat):Below B a (w.drewN n):=h.trans (below_drewN B w n)
abbrev C4 (w:World) (b:Nat) (an:Option Addr) (cn:Nat) (ao:Option Addr) (co:Nat) (m:g_):Prop:=
 w.cell? ⟨b,0,none⟩=some (.int .i64 m.gZ)/\w.cell? ⟨b,1,none⟩=some (.int .i64 m.start)/\w.cell? ⟨b,2,none⟩=some (.slice an m.h_.length cn)/\w.cell? ⟨b,3,none⟩=some (.slice ao m.out.length co)
abbrev iP (m:g_) (an:Option Addr) (cn:Nat) (ao:Option Addr) (co:Nat):Obj:= .cells #[.int .i64 m.gZ,.int .i64 m.start,.slice an m.h_.length cn,.slice ao m.out.length co] 24
theorem lt_of_cell {w:World} {b o:Nat} {v:Value} (h:w.cell? ⟨b,o,none⟩=some v):b<w.heap.size:=by
 by_cases e:b<w.heap.size;·exact e
 exfalso;unfold World.cell? at h;simp only [aqR (show w.heap.size<=b by omega)] at h;cases h
section
variable {B b:Nat} {w w':World} {an ao:Option Addr} {cn co:Nat} {m:g_}
theorem kI (w:World):C4 (w.alloc (iP m an cn ao co)) w.heap.size an cn ao co m:=by
 refine ⟨?_,?_,?_,?_⟩<;>simp
theorem jE (w:World) (m:g_) (an:Option Addr) (cn:Nat) (ao:Option Addr) (co:Nat):C4 (w.alloc (iP m an cn ao co)) w.heap.size an cn ao co m:=kI w
theorem C4.below (h:C4 w b an cn ao co m) (hb:Below B w w') (hlt:b<B):C4 w' b an cn ao co m:=
 ⟨(hb.cell (p:=⟨b,0,none⟩) hlt).trans h.1,(hb.cell (p:=⟨b,1,none⟩) hlt).trans h.2.1,(hb.cell (p:=⟨b,2,none⟩) hlt).trans h.2.2.1,(hb.cell (p:=⟨b,3,none⟩) hlt).trans h.2.2.2⟩
theorem C4.drew (h:C4 w b an cn ao co m):C4 w.drew b an cn ao co m:=⟨iq h.1,iq h.2.1,iq h.2.2.1,iq h.2.2.2⟩
end
section
variable {M:Nat->Prop} {w:World} {an ao:Option Addr} {cn co:Nat} {m:g_}
theorem Ma.addr (h:Ma M w an cn ao co m) (ok:m.Ok):∃bn on bo oo,an=some ⟨bn,on,none⟩/\ao=some ⟨bo,oo,none⟩:=by
 obtain ⟨bn,on,_,_,_,bo,oo,_,_,_,h1,h2,_⟩:=h.row ok (s:=0) ok.n0;exact ⟨bn,on,bo,oo,h1,h2⟩
theorem Ma.RQ {bn on bo oo:Nat} (h:Ma M w (some ⟨bn,on,none⟩) cn (some ⟨bo,oo,none⟩) co m) (ok:m.Ok) {s x:Nat} (hs:s<m.h_.length) (hx:x<m.gZ.toNat):∃b1 o1 c1 l1 b2 o2 c2 l2 n y,w.cell? ⟨bn,on+s,none⟩=some (.slice (some ⟨b1,o1,none⟩) l1 c1)/\w.cell? ⟨bo,oo+s,none⟩=some (.slice (some ⟨b2,o2,none⟩) l2 c2)/\ w.cell? ⟨b1,o1+x,none⟩=some (.int .i64 ((n:Nat):Int))/\w.cell? ⟨b2,o2+x,none⟩=some (.int .i64 y)/\n<m.h_.length/\0<=y/\y<=1048576/\Hid (m.nx s x=n)/\Hid (m.ot s x=y)/\x<l1/\x<l2/\l1<=64/\l2<=64:=by
 obtain ⟨bn',on',a1,r1,c1,bo',Zi,a2,r2,c2,h1,h2,h3,h4,h5,h6,h7,h8, -, -,h11⟩:=h.row ok hs;obtain ⟨b1,o1,n,b2,o2,y,e1,e2,e3,e4,e5,e6,e7,e8,e9,e10,e11⟩:=Ma.entry ok hs h5 h6 h7 h8 h11 hx;obtain ⟨rfl,rfl⟩:bn=bn'/\on=on':=iq h1;obtain ⟨rfl,rfl⟩:bo=bo'/\oo=Zi:=iq h2;subst e1;subst e2;have i1:=ok.i1;have l11:=h11.out;exact ⟨b1,o1,c1,_,b2,o2,c2,_,n,y,h3,h4,e3,e4,e5,e6,e7,e8,e9,e10,e11,ah,ah⟩
end
theorem kX {a b:Int} (h:a=b):Ending.returned (.int .i64 a)= .returned (.int .i64 b):=by rw [h]
section
variable {M:Nat->Prop} {w:World} {an ao:Option Addr} {cn co:Nat} {m:g_}
theorem qj (m:g_) (s:Nat) {r1 r2:List Int} (h1:m.h_[s]? =some r1) (h2:m.out[s]? =some r2) (h:(r1.length:Int)≠m.gZ\/(r2.length:Int)≠m.gZ):m.nI s=1:=by
 unfold g_.nI;rw [bQ];unfold g_.u_;rw [iw h1,iw h2];omega
theorem zC (m:g_) (s a:Nat) {r1 r2:List Int} {x y:Int} (h1:m.h_[s]? =some r1) (h2:m.out[s]? =some r2) (l1:(r1.length:Int)=m.gZ) (l2:(r2.length:Int)=m.gZ) (ha:a<r1.length) (hx:r1[a]? =some x) (hy:r2[a]? =some y) (h:x<0\/(m.h_.length:Int)<=x\/y<0\/1048576<y):m.nI s=2:=by
 unfold g_.nI;rw [bO,bQ];·refine ⟨a,ah,?_⟩;unfold g_.ug g_.nx g_.ot;rw [iw h1,iw h2,iw hx,iw hy];exact h
 unfold g_.u_;rw [iw h1,iw h2];omega
theorem C_ (m:g_) (s:Nat) {r1 r2:List Int} (h1:m.h_[s]? =some r1) (h2:m.out[s]? =some r2) (l1:(r1.length:Int)=m.gZ) (l2:(r2.length:Int)=m.gZ) (h:∀a,a<r1.length->¬m.ug s a):m.nI s=0:=by
 unfold g_.nI;rw [bO,bO];·rintro ⟨a,ha,hb⟩;exact h a ah hb
 unfold g_.u_;rw [iw h1,iw h2];omega
theorem Zj (m:g_) (s a:Nat) {r1 r2:List Int} {x y:Int} (h1:m.h_[s]? =some r1) (h2:m.out[s]? =some r2) (hx:r1[a]? =some x) (hy:r2[a]? =some y) (h:¬x<0/\¬(m.h_.length:Int)<=x/\¬y<0/\¬1048576<y):¬m.ug s a:=by
 unfold g_.ug g_.nx g_.ot;rw [iw h1,iw h2,iw hx,iw hy];omega
theorem acK (hm:Ma M w an cn ao co m) (s:Nat) (hs:s<m.h_.length) (ho:s<m.out.length):Calls prog 31 #[kF m an cn ao co,.int .i64 s] w fun e w'=>e= .returned (.int .i64 (m.nI s))/\Below w.heap.size w w':=by
 have l1:=hm.h_.le;have l2:=hm.out.le;have hm2:Ma M (w.alloc (.cells #[.int .i64 m.gZ,.int .i64 m.start,.slice an m.h_.length cn,.slice ao m.out.length co] 24)) an cn ao co m:=hm.ext (Ext.alloc _ _ _);obtain ⟨b1,o1,a1,r1,c1,rfl,hc1,hr1,hs1⟩:=hm2.h_.iD hs;obtain ⟨b2,o2,a2,r2,c2,rfl,hc2,hr2,hs2⟩:=hm2.out.iD ho;by_cases e1:(r1.length:Int)=m.gZ
 ·by_cases e2:(r2.length:Int)=m.gZ
  ·have e1':((r1.length:Int) !=m.gZ)=false:=by simp [e1]
   have e2':((r2.length:Int) !=m.gZ)=false:=by simp [e2]
   have E1:=bK e1;have E2:=bK e2;have afo:=hs1.le;clear e1 e2;go_enter func31,ntmps31;go_wp2;refine go_quiet fun nq=> ?_;go_wp2;go_loopw [5] (fun i wr=>∃k n:Nat,k<=r1.length/\i= .int .i64 k/\wr=(w.alloc (.cells #[.int .i64 m.gZ,.int .i64 m.start,.slice (some ⟨b1,o1,none⟩) m.h_.length cn,.slice (some ⟨b2,o2,none⟩) m.out.length co] 24)).drewN n/\Hid (∀a,a<k->¬m.ug s a)) (fun i _=>r1.length-(intOf i).toNat);case atStart=>exact ⟨0,_,ah,rfl,rfl,by intro a ha;omega⟩
   case round=>
    obtain ⟨k,n,hk,rfl,rfl,hE⟩:=hrel;by_cases hlt:k<r1.length
    ·have Lh:(k:Int)<m.gZ:=by have:=E1.out;omega
     have ni:k<r2.length:=by have:=E1.out;have:=E2.out;omega
     obtain ⟨b3,o3,x,rfl,hc3,hx, -⟩:=hs1.iC hlt;obtain ⟨b4,o4,y,rfl,hc4,hy, -⟩:=hs2.iC ni;go_wp2;refine kT aB aB ?_;by_cases hb:x<0\/(m.h_.length:Int)<=x\/y<0\/1048576<y
     ·have HB:=bK hb;have hb4:x<0\/(¬x<0/\(m.h_.length:Int)<=x)\/(¬x<0/\¬(m.h_.length:Int)<=x/\y<0)\/(¬x<0/\¬(m.h_.length:Int)<=x/\¬y<0/\1048576<y):=ah;clear hb;rcases hb4 with t1|⟨t1,t2⟩|⟨t1,t2,t3⟩|⟨t1,t2,t3,t4⟩
      all_goals
       repeat (first|go_big_quiet_step (fail)|quiet_step (fail))
       refine aqD ?_
       intro _ hw'
       obtain ⟨nq,wZ⟩:=hw'
       subst wZ
       go_wp2
       go_ret
       exact ⟨kX (zC m s k hr1.out hr2.out E1.out E2.out hlt hx.out hy.out HB.out).symm,by (repeat' (first|with_reducible exact bP _ _|with_reducible assumption|with_reducible refine iF ?_ _|with_reducible refine aqA ?_|with_reducible refine fF ?_ ?_ _|with_reducible refine dO ?_ ?_ _|omega|(simp;done)|(simp;omega)))⟩
     have t1:¬x<0:=ah;have t2:¬(m.h_.length:Int)<=x:=ah;have t3:¬y<0:=ah;have t4:¬1048576<y:=ah;clear hb;repeat (first|go_big_quiet_step (fail)|quiet_step (fail))
     refine aqD ?_;intro _ hw';obtain ⟨nq,wZ⟩:=hw';subst wZ;go_wp2;go_roundw
     case rel=>exact ⟨k+1,_,ah,by go_num,rfl,fun a ha=>by
      by_cases e:a=k
      ·rw [e];exact Zj m s k hr1.out hr2.out hx.out hy.out ⟨t1,t2,t3,t4⟩
      exact hE.out a ah⟩
     case measure=>exact bF
    have Lh:¬(k:Int)<m.gZ:=ig E1.out;go_wp2;go_ret;exact ⟨kX (C_ m s hr1.out hr2.out E1.out E2.out (fun a ha=>hE.out a ah)).symm,by (repeat' (first|with_reducible exact bP _ _|with_reducible assumption|with_reducible refine iF ?_ _|with_reducible refine aqA ?_|with_reducible refine fF ?_ ?_ _|with_reducible refine dO ?_ ?_ _|omega|(simp;done)|(simp;omega)))⟩
  have e1':((r1.length:Int) !=m.gZ)=false:=by simp [e1]
  have e2':((r2.length:Int) !=m.gZ)=true:=by simp [e2]
  have E2:=bK e2;clear e1 e2;go_enter func31,ntmps31;go_wp2;refine go_quiet fun nq=> ?_;go_wp2;go_ret;exact ⟨kX (qj m s hr1.out hr2.out (.inr E2.out)).symm,by (repeat' (first|with_reducible exact bP _ _|with_reducible assumption|with_reducible refine iF ?_ _|with_reducible refine aqA ?_|with_reducible refine fF ?_ ?_ _|with_reducible refine dO ?_ ?_ _|omega|(simp;done)|(simp;omega)))⟩
 have e1':((r1.length:Int) !=m.gZ)=true:=by simp [e1]
 have E1:=bK e1;clear e1;go_enter func31,ntmps31;go_wp2;refine go_quiet fun nq=> ?_;go_wp2;go_ret;exact ⟨kX (qj m s hr1.out hr2.out (.inl E1.out)).symm,by (repeat' (first|with_reducible exact bP _ _|with_reducible assumption|with_reducible refine iF ?_ _|with_reducible refine aqA ?_|with_reducible refine fF ?_ ?_ _|with_reducible refine dO ?_ ?_ _|omega|(simp;done)|(simp;omega)))⟩
end
section
variable {M:Nat->Prop} {w:World} {an ao:Option Addr} {cn co:Nat} {m:g_}
theorem oz (hm:Ma M w an cn ao co m):Calls prog 10 #[kF m an cn ao co] w fun e w'=>e= .returned (.int .i64 m.err)/\Below w.heap.size w w':=by
 have l1:=hm.h_.le;have l2:=hm.out.le;rcases m.EI with ⟨g1,he⟩|⟨g1,g2,he⟩|⟨g1,g2,g3,he⟩|⟨g1,g2,g3,g4,he⟩|⟨g1,g2,g3,g4,g5,he⟩|⟨g1,g2,g3,g4,g5,g6,he⟩|⟨g1,g2,g3,g4,g5,g6,g7,he⟩|⟨g1,g2,g3,g4,g5,g6,g7,k2,he⟩
 iterate 7
  ·have K1:=bK he
   clear he
   go_enter func10,ntmps10
   go_wp2
   go_ret
   exact ⟨kX K1.out.symm,by (repeat' (first|with_reducible exact bP _ _|with_reducible assumption|with_reducible refine iF ?_ _|with_reducible refine aqA ?_|with_reducible refine fF ?_ ?_ _|with_reducible refine dO ?_ ?_ _|omega|(simp;done)|(simp;omega)))⟩
 have K1:=bK he;have K2:=bK k2;clear he k2;go_enter func10,ntmps10;go_wp2;go_loopw [3] (fun i wr=>∃k:Nat,k<=m.h_.length/\i= .int .i64 k/\Below (w.heap.size+1) (w.alloc (.cells #[.int .i64 m.gZ,.int .i64 m.start,.slice an m.h_.length cn,.slice ao m.out.length co] 24)) wr/\Hid (m.lM k=0)) (fun i _=>m.h_.length-(intOf i).toNat);case atStart=>exact ⟨0,ah,rfl,bP _ _,rfl⟩
 case round=>
  obtain ⟨k,hk,rfl,hB,hE⟩:=hrel;have hbx:∀o,wr.cell? ⟨w.heap.size,o,none⟩=_:=fun o=>hB.cell aH;have hsz:w.heap.size+1<=wr.heap.size:=iq hB.size;have hmr:Ma M wr an cn ao co m:=hm.ext ((Ext.alloc M w _).trans (Ext.of_below (iq hB)));by_cases hlt:k<m.h_.length
  ·have yP:=acK hmr k hlt (by rw [K2.out];exact hlt);have HR:=bK yP;clear yP;have hsu:=m.pE k;rw [hE.out,bQ rfl] at hsu;have HS:=bK hsu;clear hsu;by_cases hz:m.nI k=0
   ·have hz':(m.nI k !=0)=false:=by simp [hz]
    have HZ:=bK hz;clear hz;go_wp2_with (go_at_call 31;refine (HR.out).mono ?_;rintro e w' ⟨rfl,hb'⟩);go_roundw;case rel=>exact ⟨k+1,ah,by go_num,hB.trans (hb'.mono hsz),HS.out.trans HZ.out⟩
    case measure=>exact bF
   have hz':(m.nI k !=0)=true:=by simp [hz]
   have HZ:=bK hz;clear hz;go_wp2_with (go_at_call 31;refine (HR.out).mono ?_;rintro e w' ⟨rfl,hb'⟩);go_ret;refine ⟨kX ?_,?_⟩;·rw [K1.out,m.rC (k:=k+1) ah (by rw [HS.out];exact HZ.out),HS.out]
   exact (((bP _ _).alloc (bM _) _).trans (hB.mono ah)).trans (hb'.mono ah)
  have e:k=m.h_.length:=ah;have HE:=bK e;clear e;go_wp2;go_ret;exact ⟨kX (by rw [K1.out,<-HE.out,hE.out]),((bP _ _).alloc (bM _) _).trans (hB.mono ah)⟩
end
section
variable {M:Nat->Prop} {w:World} {an ao:Option Addr} {cn co:Nat} {m:g_}
theorem jR (hm:Ma M w an cn ao co m):Calls prog 33 #[kF m an cn ao co] w fun e w'=>e= .returned (.int .i64 m.err)/\Below w.heap.size w w':=by
 have l1:=hm.h_.le;have l2:=hm.out.le;rcases m.EI with ⟨g1,he⟩|⟨g1,g2,he⟩|⟨g1,g2,g3,he⟩|⟨g1,g2,g3,g4,he⟩|⟨g1,g2,g3,g4,g5,he⟩|⟨g1,g2,g3,g4,g5,g6,he⟩|⟨g1,g2,g3,g4,g5,g6,g7,he⟩|⟨g1,g2,g3,g4,g5,g6,g7,k2,he⟩
 iterate 7
  ·have K1:=bK he
   clear he
   go_enter func33,ntmps33
   go_wp2
   go_ret
   exact ⟨kX K1.out.symm,by (repeat' (first|with_reducible exact bP _ _|with_reducible assumption|with_reducible refine iF ?_ _|with_reducible refine aqA ?_|with_reducible refine fF ?_ ?_ _|with_reducible refine dO ?_ ?_ _|omega|(simp;done)|(simp;omega)))⟩
 have K1:=bK he;have K2:=bK k2;clear he k2;have hm2:Ma M (w.alloc (.cells #[.int .i64 m.gZ,.int .i64 m.start,.slice an m.h_.length cn,.slice ao m.out.length co] 24)) an cn ao co m:=hm.ext (Ext.alloc _ _ _);go_enter func33,ntmps33;go_wp2;go_loopw [43] (fun i wr=>∃k n:Nat,k<=m.h_.length/\i= .int .i64 k/\wr=(w.alloc (.cells #[.int .i64 m.gZ,.int .i64 m.start,.slice an m.h_.length cn,.slice ao m.out.length co] 24)).drewN n/\Hid (m.lM k=0)) (fun i _=>m.h_.length-(intOf i).toNat);case atStart=>exact ⟨0,0,ah,rfl,rfl,rfl⟩
 case round=>
  obtain ⟨k,n,hk,rfl,rfl,hE⟩:=hrel;by_cases hlt:k<m.h_.length
  ·have hlo:k<m.out.length:=by have:=K2.out;omega
   obtain ⟨b1,o1,a1,r1,c1,rfl,hc1,hr1,hs1⟩:=hm2.h_.iD hlt;obtain ⟨b2,o2,a2,r2,c2,rfl,hc2,hr2,hs2⟩:=hm2.out.iD hlo;have afo:=hs1.le;have hsu:=m.pE k;rw [hE.out,bQ rfl] at hsu;have HS:=bK hsu;clear hsu;by_cases e1:(r1.length:Int)=m.gZ
   ·have e1':((r1.length:Int) !=m.gZ)=false:=by simp [e1]
    have E1:=bK e1;clear e1;by_cases e2:(r2.length:Int)=m.gZ
    ·have e2':((r2.length:Int) !=m.gZ)=false:=by simp [e2]
     have E2:=bK e2;clear e2;go_wp2;refine go_quiet fun nq=> ?_;go_wp2;go_loopw [68] (fun i wr=>∃a n:Nat,a<=r1.length/\i= .int .i64 a/\wr=(w.alloc (.cells #[.int .i64 m.gZ,.int .i64 m.start,.slice (some ⟨b1,o1,none⟩) m.h_.length cn,.slice (some ⟨b2,o2,none⟩) m.out.length co] 24)).drewN n/\Hid (∀j,j<a->¬m.ug k j)) (fun i _=>r1.length-(intOf i).toNat);case atStart=>exact ⟨0,_,ah,rfl,rfl,by intro a ha;omega⟩
     case round=>
      obtain ⟨a,n2,ha,rfl,rfl,hF⟩:=hrel;by_cases hla:a<r1.length
      ·have alG:(a:Int)<m.gZ:=by have:=E1.out;omega
       have alH:a<r2.length:=by have:=E1.out;have:=E2.out;omega
       obtain ⟨b3,o3,x,rfl,hc3,hx, -⟩:=hs1.iC hla;obtain ⟨b4,o4,y,rfl,hc4,hy, -⟩:=hs2.iC alH;go_wp2;refine go_quiet fun nq=> ?_;by_cases hb:x<0\/(m.h_.length:Int)<=x\/y<0\/1048576<y
       ·have HB:=bK hb;have hb4:x<0\/(¬x<0/\(m.h_.length:Int)<=x)\/(¬x<0/\¬(m.h_.length:Int)<=x/\y<0)\/(¬x<0/\¬(m.h_.length:Int)<=x/\¬y<0/\1048576<y):=ah;clear hb;rcases hb4 with t1|⟨t1,t2⟩|⟨t1,t2,t3⟩|⟨t1,t2,t3,t4⟩
        all_goals
         go_wp2
         go_ret
         exact ⟨kX (by rw [K1.out,m.rC (k:=k+1) ah (by rw [HS.out,zC m k a hr1.out hr2.out E1.out E2.out hla hx.out hy.out HB.out];decide),HS.out,zC m k a hr1.out hr2.out E1.out E2.out hla hx.out hy.out HB.out]),by (repeat' (first|with_reducible exact bP _ _|with_reducible assumption|with_reducible refine iF ?_ _|with_reducible refine aqA ?_|with_reducible refine fF ?_ ?_ _|with_reducible refine dO ?_ ?_ _|omega|(simp;done)|(simp;omega)))⟩
       have t1:¬x<0:=ah;have t2:¬(m.h_.length:Int)<=x:=ah;have t3:¬y<0:=ah;have t4:¬1048576<y:=ah;clear hb;go_wp2;go_roundw
       case rel=>exact ⟨a+1,_,ah,by go_num,rfl,fun j hj=>by
        by_cases e:j=a
        ·rw [e];exact Zj m k a hr1.out hr2.out hx.out hy.out ⟨t1,t2,t3,t4⟩
        exact hF.out j ah⟩
       case measure=>exact bF
      have alG:¬(a:Int)<m.gZ:=ig E1.out;go_wp2;go_roundw;case rel=>exact ⟨k+1,_,ah,by go_num,rfl,HS.out.trans (C_ m k hr1.out hr2.out E1.out E2.out (fun j hj=>hF.out j ah))⟩
      case measure=>exact bF
    have e2':((r2.length:Int) !=m.gZ)=true:=by simp [e2]
    have E2:=bK e2;clear e2;go_wp2;refine go_quiet fun nq=> ?_;go_wp2;go_ret;exact ⟨kX (by rw [K1.out,m.rC (k:=k+1) ah (by rw [HS.out,qj m k hr1.out hr2.out (.inr E2.out)];decide),HS.out,qj m k hr1.out hr2.out (.inr E2.out)]),by (repeat' (first|with_reducible exact bP _ _|with_reducible assumption|with_reducible refine iF ?_ _|with_reducible refine aqA ?_|with_reducible refine fF ?_ ?_ _|with_reducible refine dO ?_ ?_ _|omega|(simp;done)|(simp;omega)))⟩
   have e1':((r1.length:Int) !=m.gZ)=true:=by simp [e1]
   have E1:=bK e1;clear e1;go_wp2;refine go_quiet fun nq=> ?_;go_wp2;go_ret;exact ⟨kX (by rw [K1.out,m.rC (k:=k+1) ah (by rw [HS.out,qj m k hr1.out hr2.out (.inl E1.out)];decide),HS.out,qj m k hr1.out hr2.out (.inl E1.out)]),by (repeat' (first|with_reducible exact bP _ _|with_reducible assumption|with_reducible refine iF ?_ _|with_reducible refine aqA ?_|with_reducible refine fF ?_ ?_ _|with_reducible refine dO ?_ ?_ _|omega|(simp;done)|(simp;omega)))⟩
  have e:k=m.h_.length:=ah;have HE:=bK e;clear e;go_wp2;go_ret;exact ⟨kX (by rw [K1.out,<-HE.out,hE.out]),by (repeat' (first|with_reducible exact bP _ _|with_reducible assumption|with_reducible refine iF ?_ _|with_reducible refine aqA ?_|with_reducible refine fF ?_ ?_ _|with_reducible refine dO ?_ ?_ _|omega|(simp;done)|(simp;omega)))⟩
end
theorem vD {xs ys:List Int} {k:Nat} {x y:Int} (hx:xs[k]? =some x) (hy:ys[k]? =some y) (h:xs.take k=ys.take k) (e:x=y):xs.take (k+1)=ys.take (k+1):=by
 rw [dh,dh,hx,hy,h,e]
theorem Fh {xs ys:List Int} {k:Nat} {x y:Int} (hx:xs[k]? =some x) (hy:ys[k]? =some y) (e:x≠y):¬xs=ys:=by
 intro h;rw [h,hy] at hx;simp at hx;exact e hx.symm
theorem xg {xs ys:List Int} {k:Nat} (hl:xs.length=ys.length) (hk:k<=xs.length) (hk':¬k<xs.length) (h:xs.take k=ys.take k):xs=ys:=by
 rwa [bY ah,bY ah] at h
theorem kP {a b:Bool} (h:a=b):Ending.returned (.bool a)= .returned (.bool b):=by rw [h]
section
variable {M:Nat->Prop} {w:World} {a1 a2:Option Addr} {c1 c2:Nat} {xs ys:List Int}
theorem BS (h1:Sl M w a1 c1 xs) (h2:Sl M w a2 c2 ys):Calls prog 232 #[.slice a1 xs.length c1,.slice a2 ys.length c2] w fun e w'=>e= .returned (.bool (decide (xs=ys)))/\∃n,w'=w.drewN n:=by
 have hx:=h1.le;have hy:=h2.le;by_cases hl:xs.length=ys.length
 ·have hl':((xs.length:Int) !=(ys.length:Int))=false:=by simp [hl]
  have HL:=bK hl;clear hl;go_enter func232,ntmps232;go_wp2;go_loopw [5] (fun i wr=>∃k n:Nat,k<=xs.length/\i= .int .i64 k/\wr=w.drewN n/\Hid (xs.take k=ys.take k)) (fun i _=>xs.length-(intOf i).toNat);case atStart=>exact ⟨0,0,ap1 _,rfl,rfl,rfl⟩
  case round=>
   obtain ⟨k,n,hk,rfl,rfl,hE⟩:=hrel;by_cases hlt:k<xs.length
   ·have ni:k<ys.length:=HL.out▸hlt;obtain ⟨b,off,x,rfl,hc,hx1, -⟩:=h1.iC hlt;obtain ⟨b2,off2,y,rfl,hc2,hx2, -⟩:=h2.iC ni;by_cases hxy:x=y
    ·have Zk:(x !=y)=false:=by simp [hxy]
     have Li:=bK hxy;clear hxy;go_wp2;go_quiet (fail)
     go_wp2;go_roundw;case rel=>exact ⟨k+1,_,ah,by go_num,rfl,vD hx1.out hx2.out hE.out Li.out⟩
     case measure=>exact bF
    have Zk:(x !=y)=true:=by simp [hxy]
    have Li:=bK hxy;clear hxy;go_wp2;go_quiet (fail)
    go_wp2;go_ret;exact ⟨kP (iq (Fh hx1.out hx2.out Li.out)),_,ap4 _ _ _⟩
   go_wp2;go_ret;exact ⟨kP (iq (xg HL.out hk hlt hE.out)),_,rfl⟩
 have hl':((xs.length:Int) !=(ys.length:Int))=true:=aJ;have HL:=bK hl;clear hl;go_enter func232,ntmps232;go_wp2;go_ret;exact ⟨kP (by have:=HL.out;simp;intro h;exact this (by rw [h])),0,rfl⟩
theorem NN (h1:Sl M w a1 c1 xs) (h2:Sl M w a2 c2 ys):Calls prog 22 #[.slice a1 xs.length c1,.slice a2 ys.length c2] w fun e w'=>e= .returned (.bool (decide (xs=ys)))/\∃n,w'=w.drewN n:=by
 have hx:=h1.le;have hy:=h2.le;by_cases hl:xs.length=ys.length
 ·have hl':((xs.length:Int) !=(ys.length:Int))=false:=by simp [hl]
  have HL:=bK hl;clear hl;go_enter func22,ntmps22;go_wp2;go_loopw [5] (fun i wr=>∃k n:Nat,k<=xs.length/\i= .int .i64 k/\wr=w.drewN n/\Hid (xs.take k=ys.take k)) (fun i _=>xs.length-(intOf i).toNat);case atStart=>exact ⟨0,0,ap1 _,rfl,rfl,rfl⟩
  case round=>
   obtain ⟨k,n,hk,rfl,rfl,hE⟩:=hrel;by_cases hlt:k<xs.length
   ·have ni:k<ys.length:=HL.out▸hlt;obtain ⟨b,off,x,rfl,hc,hx1, -⟩:=h1.iC hlt;obtain ⟨b2,off2,y,rfl,hc2,hx2, -⟩:=h2.iC ni;by_cases hxy:x=y
    ·have Zk:(x !=y)=false:=by simp [hxy]
     have Li:=bK hxy;clear hxy;go_wp2;go_quiet (fail)
     go_wp2;go_roundw;case rel=>exact ⟨k+1,_,ah,by go_num,rfl,vD hx1.out hx2.out hE.out Li.out⟩
     case measure=>exact bF
    have Zk:(x !=y)=true:=by simp [hxy]
    have Li:=bK hxy;clear hxy;go_wp2;go_quiet (fail)
    go_wp2;go_ret;exact ⟨kP (iq (Fh hx1.out hx2.out Li.out)),_,ap4 _ _ _⟩
   go_wp2;go_ret;exact ⟨kP (iq (xg HL.out hk hlt hE.out)),_,rfl⟩
 have hl':((xs.length:Int) !=(ys.length:Int))=true:=aJ;have HL:=bK hl;clear hl;go_enter func22,ntmps22;go_wp2;go_ret;exact ⟨kP (by have:=HL.out;simp;intro h;exact this (by rw [h])),0,rfl⟩
theorem RU (h1:Sl M w a1 c1 xs) (h2:Sl M w a2 c2 ys):Calls prog 175 #[.slice a1 xs.length c1,.slice a2 ys.length c2] w fun e w'=>e= .returned (.bool (decide (xs=ys)))/\∃n,w'=w.drewN n:=by
 have hx:=h1.le;have hy:=h2.le;by_cases hl:xs.length=ys.length
 ·have hl':((xs.length:Int) !=(ys.length:Int))=false:=by simp [hl]
  have HL:=bK hl;clear hl;go_enter func175,ntmps175;go_wp2;go_loopw [13] (fun i wr=>∃k n:Nat,k<=xs.length/\i= .int .i64 k/\wr=w.drewN n/\Hid (xs.take k=ys.take k)) (fun i _=>xs.length-(intOf i).toNat);case atStart=>exact ⟨0,0,ap1 _,rfl,rfl,rfl⟩
  case round=>
   obtain ⟨k,n,hk,rfl,rfl,hE⟩:=hrel;by_cases hlt:k<xs.length
   ·have ni:k<ys.length:=HL.out▸hlt;obtain ⟨b,off,x,rfl,hc,hx1, -⟩:=h1.iC hlt;obtain ⟨b2,off2,y,rfl,hc2,hx2, -⟩:=h2.iC ni;by_cases hxy:x=y
    ·have Zk:(x !=y)=false:=by simp [hxy]
     have Li:=bK hxy;clear hxy;go_wp2;go_quiet (fail)
     go_wp2;go_roundw;case rel=>exact ⟨k+1,_,ah,by go_num,rfl,vD hx1.out hx2.out hE.out Li.out⟩
     case measure=>exact bF
    have Zk:(x !=y)=true:=by simp [hxy]
    have Li:=bK hxy;clear hxy;go_wp2;go_quiet (fail)
    go_wp2;go_ret;exact ⟨kP (iq (Fh hx1.out hx2.out Li.out)),_,ap4 _ _ _⟩
   go_wp2;go_ret;exact ⟨kP (iq (xg HL.out hk hlt hE.out)),_,rfl⟩
 have hl':((xs.length:Int) !=(ys.length:Int))=true:=aJ;have HL:=bK hl;clear hl;go_enter func175,ntmps175;go_wp2;go_ret;exact ⟨kP (by have:=HL.out;simp;intro h;exact this (by rw [h])),0,rfl⟩
end
def g_.great (m:g_):Bool:=decide (12<m.h_.length)||decide (12<m.out.length)||decide (6<m.gZ)||m.h_.any (fun r=>decide (12<r.length))||m.out.any (fun r=>decide (12<r.length))
section
variable {M:Nat->Prop} {w:World} {an ao:Option Addr} {cn co:Nat} {m:g_}
end
theorem IZ {α:Type} {xs ys:List α} {k:Nat} {x y:α} (hx:xs[k]? =some x) (hy:ys[k]? =some y) (h:xs.take k=ys.take k) (e:x=y):xs.take (k+1)=ys.take (k+1):=by
 rw [dh,dh,hx,hy,h,e]
theorem Wp {α:Type} {xs ys:List α} {k:Nat} {x y:α} (hx:xs[k]? =some x) (hy:ys[k]? =some y) (e:x≠y):¬xs=ys:=by
 intro h;rw [h,hy] at hx;simp at hx;exact e hx.symm
theorem Lj {α:Type} {xs ys:List α} {k:Nat} (hl:xs.length=ys.length) (hk':¬k<xs.length) (h:xs.take k=ys.take k):xs=ys:=by
 rwa [bY ah,bY ah] at h
theorem Da {α:Type} [GR α] {M:Nat->Prop} {w wr:World} {a:Option Addr} {c:Nat} {l:List α} (h:Hid (∃n,wr=w.drewN n)) (hs:Sl M w a c l):Sl M wr a c l:=by
 obtain ⟨n,rfl⟩:=h.out;exact hs.drewN n
theorem Ll {w wr:World} (h:Hid (∃n,wr=w.drewN n)) (m:Nat):∃n,wr.drewN m=w.drewN n:=by
 obtain ⟨n,rfl⟩:=h.out;exact ⟨_,ap4 _ _ _⟩
section
variable {M:Nat->Prop} {w:World} {a1 a2:Option Addr} {c1 c2:Nat}
theorem NP {xs ys:List Int} (h1:Sl M w a1 c1 xs) (h2:Sl M w a2 c2 ys) (h:xs=ys):
    Calls prog 22 #[.slice a1 xs.length c1,.slice a2 ys.length c2] w fun e w'=>e= .returned (.bool true)/\∃n,w'=w.drewN n:=
 (NN h1 h2).mono fun e w' ⟨he,hw⟩=>⟨by rw [he];exact kP (by simp [h]),hw⟩
theorem UL {xs ys:List Int} (h1:Sl M w a1 c1 xs) (h2:Sl M w a2 c2 ys) (h:xs≠ys):
    Calls prog 22 #[.slice a1 xs.length c1,.slice a2 ys.length c2] w fun e w'=>e= .returned (.bool false)/\∃n,w'=w.drewN n:=
 (NN h1 h2).mono fun e w' ⟨he,hw⟩=>⟨by rw [he];exact kP (by simp [h]),hw⟩
theorem yw {xs ys:List (List Int)} (h1:Sl M w a1 c1 xs) (h2:Sl M w a2 c2 ys):Calls prog 14 #[.slice a1 xs.length c1,.slice a2 ys.length c2] w fun e w'=>e= .returned (.bool (decide (xs=ys)))/\∃n,w'=w.drewN n:=by
 have hx:=h1.le;have hy:=h2.le;by_cases hl:xs.length=ys.length
 ·have hl':((xs.length:Int) !=(ys.length:Int))=false:=by simp [hl]
  have HL:=bK hl;clear hl;go_enter func14,ntmps14;go_wp2;go_loopw [5] (fun i wr=>∃k:Nat,k<=xs.length/\i= .int .i64 k/\Hid (∃n,wr=w.drewN n)/\Hid (xs.take k=ys.take k)) (fun i _=>xs.length-(intOf i).toNat);case atStart=>exact ⟨0,ap1 _,rfl,⟨0,rfl⟩,rfl⟩
  case round=>
   obtain ⟨k,hk,rfl,hW,hE⟩:=hrel;have h1r:=Da hW h1;have h2r:=Da hW h2;by_cases hlt:k<xs.length
   ·have ni:k<ys.length:=HL.out▸hlt;obtain ⟨b,off,a3,x,c3,rfl,hc,hx1,hs1⟩:=h1r.iD hlt;obtain ⟨b2,off2,a4,y,c4,rfl,hc2,hx2,hs2⟩:=h2r.iD ni;by_cases hxy:x=y
    ·have Li:=bK hxy;clear hxy;go_wp2;refine kT aB aB ?_;repeat (first|go_big_quiet_step ((go_at_call 22;exact aqn (NP (hs1.drewN _) (hs2.drewN _) Li.out)))|quiet_step ((go_at_call 22;exact aqn (NP (hs1.drewN _) (hs2.drewN _) Li.out))))
     refine aqD ?_;intro _ hw';obtain ⟨nq,wZ⟩:=hw';subst wZ;go_wp2;go_roundw;case rel=>exact ⟨k+1,ah,by go_num,Ll hW _,IZ hx1.out hx2.out hE.out Li.out⟩
     case measure=>exact bF
    have Li:=bK hxy;clear hxy;go_wp2;refine kT aB aB ?_;repeat (first|go_big_quiet_step ((go_at_call 22;exact aqn (UL (hs1.drewN _) (hs2.drewN _) Li.out)))|quiet_step ((go_at_call 22;exact aqn (UL (hs1.drewN _) (hs2.drewN _) Li.out))))
    refine aqD ?_;intro _ hw';obtain ⟨nq,wZ⟩:=hw';subst wZ;go_wp2;go_ret;exact ⟨kP (iq (Wp hx1.out hx2.out Li.out)),Ll hW _⟩
   go_wp2;go_ret;exact ⟨kP (iq (Lj HL.out hlt hE.out)),hW.out⟩
 have hl':((xs.length:Int) !=(ys.length:Int))=true:=aJ;have HL:=bK hl;clear hl;go_enter func14,ntmps14;go_wp2;go_ret;exact ⟨kP (by have:=HL.out;simp;intro h;exact this (by rw [h])),0,rfl⟩
end
section
variable {M:Nat->Prop} {w:World} {an ao:Option Addr} {cn co:Nat} {m:g_} {mW mY:Option Addr} {mZ m_:Nat} {m':g_}
end
section
variable {M:Nat->Prop} {w:World} {an ao bn bo:Option Addr} {tu uw JE NQ:Nat} {a b:g_}
end
