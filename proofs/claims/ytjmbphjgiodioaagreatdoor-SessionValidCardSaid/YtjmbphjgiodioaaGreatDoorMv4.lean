/- Several texts, one behind the other. Conditions: as each of them says. -/
import Derived.Test.YtjmbphjgiodioaaGreatDoorMv2
import Derived.Test.YtjmbphjgiodioaaGreatDoorMv1
import Derived.Test.YtjmbphjgiodioaaGreatDoorProg
import Derived.WalkKit
import Derived.Lib.Hide
import Derived.Deep.QuietTactic
import Derived.BigQuiet
set_option maxRecDepth 100000
set_option maxHeartbeats 32000000
namespace Go.Proofs.YtjmbphjgiodioaaGreatDoor
open Go.RowKit
structure Ext (M M':Nat→Prop) (w w':World):Prop where
 size:w.heap.size≤w'.heap.size
 block:∀k,k<w.heap.size→¬M k→w'.heap[k]? =w.heap[k]?
 sub:∀k,k<w.heap.size→M' k→M k
theorem Ext.refl (M:Nat→Prop) (w:World):Ext M M w w:=⟨Nat.le_refl _,fun _ _ _=>rfl,fun _ _ h=>h⟩
theorem Ext.of_below {M:Nat→Prop} {w w':World} (h:Below w.heap.size w w'):Ext M M w w':=⟨h.size,fun k hk _=>h.block k hk,fun _ _ h=>h⟩
theorem Ext.sub_only {M M':Nat→Prop} {w:World} (h:∀k,k<w.heap.size→M' k→M k):Ext M M' w w:=⟨Nat.le_refl _,fun _ _ _=>rfl,h⟩
theorem Ext.alloc (M:Nat→Prop) (w:World) (o:Obj):Ext M M w (w.alloc o):=⟨by simp,fun k hk _=>Below.heap_alloc _ _ _ hk,fun _ _ h=>h⟩
theorem Ext.drew (M:Nat→Prop) (w:World):Ext M M w w.drew:=⟨Nat.le_refl _,fun _ _ _=>rfl,fun _ _ h=>h⟩
theorem Ext.setCell {M:Nat→Prop} (w:World) {p:Addr} (hp:M p.block) (u:Value):Ext M M w (w.setCell p u):=
 ⟨by simp [World.setCell],fun k _ hk=>Below.heap_setCell _ _ _ _ (fun e=>hk (e▸hp)),fun _ _ h=>h⟩
theorem Ext.trans {M M' M'':Nat→Prop} {a b c:World} (h:Ext M M' a b) (k:Ext M' M'' b c):Ext M M'' a c:=
 ⟨Nat.le_trans h.size k.size,fun i hi hm=>(k.block i (Nat.lt_of_lt_of_le hi h.size) (fun e=>hm (h.sub i hi e))).trans (h.block i hi hm),
  fun i hi hm=>h.sub i hi (k.sub i (Nat.lt_of_lt_of_le hi h.size) hm)⟩
theorem Ext.grownBy {M:Nat→Prop} {w w':World} {row:Option Nat} (hg:w.grownBy w' row) (hr:∀k,row=some k→M k):Ext M M w w':=
 ⟨hg.size,fun k hk hm=>hg.block k hk (fun e=>hm (hr k e.symm)),fun _ _ h=>h⟩
class GR (α:Type) where
 sz:Nat
 rep:(Nat→Prop)→World→List Value→α→Prop
 len:∀{M w cs a},rep M w cs a→cs.length=sz
 ext:∀{M M' w w' cs a},Ext M M' w w'→rep M w cs a→rep M' w' cs a
def i64 (x:Int):Prop:= -9223372036854775808≤x∧x≤9223372036854775807
instance:GR Int where
 sz:=1
 rep _ _ cs a:=cs=[.int .i64 a]∧i64 a
 len h:=by rw [h.1];rfl
 ext _ h:=h
instance:GR Bool where
 sz:=1
 rep _ _ cs a:=cs=[.bool a]
 len h:=by rw [h];rfl
 ext _ h:=h
def Sl {α:Type} [GR α] (M:Nat→Prop) (w:World) (a:Option Addr) (c:Nat) (l:List α):Prop:=
 l.length≤c∧c≤maxLen∧∀j x,l[j]? =some x→∃b off cs,a=some ⟨b,off,none⟩∧b<w.heap.size∧¬M b∧GR.rep M w cs x∧
  ∀i u,cs[i]? =some u→w.cell? ⟨b,off+j*GR.sz α+i,none⟩=some u
theorem Sl.ext {α:Type} [GR α] {M M':Nat→Prop} {w w':World} {a:Option Addr} {c:Nat} {l:List α} (e:Ext M M' w w') (h:Sl M w a c l):Sl M' w' a c l:=by
 refine ⟨h.1,h.2.1,fun j x hj=> ?_⟩
 obtain ⟨b,off,cs,ha,hb,hm,hr,hc⟩:=h.2.2 j x hj
 refine ⟨b,off,cs,ha,Nat.lt_of_lt_of_le hb e.size,fun h'=>hm (e.sub b hb h'),GR.ext e hr,fun i u hi=> ?_⟩
 rw [World.cell?_of_block (w:=w) (e.block b hb hm)]
 exact hc i u hi
instance {α:Type} [GR α]:GR (List α) where
 sz:=1
 rep M w cs l:=∃a c,cs=[.slice a l.length c]∧Sl M w a c l
 len h:=by obtain ⟨a,c,h,_⟩:=h;rw [h];rfl
 ext e h:=by obtain ⟨a,c,h,hs⟩:=h;exact ⟨a,c,h,hs.ext e⟩
section
variable {M M':Nat→Prop} {w w':World} {a:Option Addr} {c:Nat}
theorem Sl.below {α:Type} [GR α] {l:List α} (h:Sl M w a c l) (hb:Below w.heap.size w w'):Sl M w' a c l:=h.ext (Ext.of_below hb)
theorem Sl.anti {α:Type} [GR α] {l:List α} (h:Sl M w a c l) (hs:∀k,k<w.heap.size→M' k→M k):Sl M' w a c l:=h.ext (Ext.sub_only hs)
theorem Sl.alloc {α:Type} [GR α] {l:List α} (h:Sl M w a c l) (o:Obj):Sl M (w.alloc o) a c l:=h.ext (Ext.alloc _ _ _)
theorem Sl.drew {α:Type} [GR α] {l:List α} (h:Sl M w a c l):Sl M w.drew a c l:=h.ext (Ext.drew _ _)
theorem Sl.drewN {α:Type} [GR α] {l:List α} (h:Sl M w a c l) (n:Nat):Sl M (w.drewN n) a c l:=h.ext (M:=M) (w:=w) (w':=w.drewN n) ⟨Nat.le_refl _,fun _ _ _=>rfl,fun _ _ h=>h⟩
theorem Sl.le {α:Type} [GR α] {l:List α} (h:Sl M w a c l):l.length≤9223372036854775807:=by
 have:=Nat.le_trans h.1 h.2.1
 unfold maxLen at this
 exact this
theorem Sl.nil {α:Type} [GR α] (M:Nat→Prop) (w:World) (a:Option Addr) {c:Nat} (hc:c≤maxLen):Sl M w a c ([]:List α):=⟨Nat.zero_le _,hc,fun j x h=>by simp at h⟩
theorem Sl.at_int {l:List Int} (h:Sl M w a c l) {j:Nat} (hj:j<l.length):
    ∃b off x,a=some ⟨b,off,none⟩∧w.cell? ⟨b,off+j,none⟩=some (.int .i64 x)∧Hid (l[j]? =some x)∧Hid (i64 x):=by
 obtain ⟨b,off,cs,ha,_,_,⟨rfl,hi⟩,hc⟩:=h.2.2 j l[j] (by simp [hj])
 exact ⟨b,off,l[j],ha,by simpa [GR.sz] using hc 0 _ rfl,by unfold Hid;simp [hj],hi⟩
theorem Sl.at_bool {l:List Bool} (h:Sl M w a c l) {j:Nat} (hj:j<l.length):
    ∃b off x,a=some ⟨b,off,none⟩∧w.cell? ⟨b,off+j,none⟩=some (.bool x)∧Hid (l[j]? =some x):=by
 obtain ⟨b,off,cs,ha,_,_,rfl,hc⟩:=h.2.2 j l[j] (by simp [hj])
 exact ⟨b,off,l[j],ha,by simpa [GR.sz] using hc 0 _ rfl,by unfold Hid;simp [hj]⟩
theorem Sl.at_row {α:Type} [GR α] {l:List (List α)} (h:Sl M w a c l) {j:Nat} (hj:j<l.length):
    ∃b off a' r c',a=some ⟨b,off,none⟩∧w.cell? ⟨b,off+j,none⟩=some (.slice a' r.length c')∧Hid (l[j]? =some r)∧Sl M w a' c' r:=by
 obtain ⟨b,off,cs,ha,_,_,⟨a',c',rfl,hs⟩,hc⟩:=h.2.2 j l[j] (by simp [hj])
 exact ⟨b,off,a',l[j],c',ha,by simpa [GR.sz] using hc 0 _ rfl,by unfold Hid;simp [hj],hs⟩
end
structure Ma (M:Nat→Prop) (w:World) (an:Option Addr) (cn:Nat) (ao:Option Addr) (co:Nat) (m:Mach):Prop where
 inputs:i64 m.inputs
 start:i64 m.start
 next:Sl M w an cn m.next
 out:Sl M w ao co m.out
abbrev maV (m:Mach) (an:Option Addr) (cn:Nat) (ao:Option Addr) (co:Nat):Value:=
 .agg #[.int .i64 m.inputs,.int .i64 m.start,.slice an m.next.length cn,.slice ao m.out.length co]
theorem Ma.ext {M M':Nat→Prop} {w w':World} {an:Option Addr} {cn:Nat} {ao:Option Addr} {co:Nat} {m:Mach} (e:Ext M M' w w') (h:Ma M w an cn ao co m):Ma M' w' an cn ao co m:=
 ⟨h.inputs,h.start,h.next.ext e,h.out.ext e⟩
theorem Ma.below {M:Nat→Prop} {w w':World} {an:Option Addr} {cn:Nat} {ao:Option Addr} {co:Nat} {m:Mach} (h:Ma M w an cn ao co m) (hb:Below w.heap.size w w'):Ma M w' an cn ao co m:=h.ext (Ext.of_below hb)
instance:GR Mach where
 sz:=4
 rep M w cs m:=∃an cn ao co,cs=[.int .i64 m.inputs,.int .i64 m.start,.slice an m.next.length cn,.slice ao m.out.length co]∧Ma M w an cn ao co m
 len h:=by obtain ⟨_,_,_,_,h,_⟩:=h;rw [h];rfl
 ext e h:=by obtain ⟨an,cn,ao,co,h,hm⟩:=h;exact ⟨an,cn,ao,co,h,hm.ext e⟩
theorem Ma.row {M:Nat→Prop} {w:World} {an:Option Addr} {cn:Nat} {ao:Option Addr} {co:Nat} {m:Mach} (h:Ma M w an cn ao co m) (ok:m.Ok) {s:Nat} (hs:s<m.next.length):
    ∃bn on a1 r1 c1 bo oo a2 r2 c2,an=some ⟨bn,on,none⟩∧ao=some ⟨bo,oo,none⟩∧w.cell? ⟨bn,on+s,none⟩=some (.slice a1 r1.length c1)∧w.cell? ⟨bo,oo+s,none⟩=some (.slice a2 r2.length c2)∧
     Sl M w a1 c1 r1∧Sl M w a2 c2 r2∧Hid (m.next[s]? =some r1)∧Hid (m.out[s]? =some r2)∧Hid ((r1.length:Int)=m.inputs)∧Hid ((r2.length:Int)=m.inputs)∧Hid (r1.length=m.inputs.toNat∧r2.length=m.inputs.toNat):=by
 obtain ⟨bn,on,a1,r1,c1,h1,h2,h3,h4⟩:=h.next.at_row hs
 obtain ⟨bo,oo,a2,r2,c2,g1,g2,g3,g4⟩:=h.out.at_row (j:=s) (by rw [ok.lo];exact hs)
 have e1:=ok.rn s hs
 have e2:=ok.ro s hs
 rw [getD_of_some h3.out] at e1
 rw [getD_of_some g3.out] at e2
 exact ⟨bn,on,a1,r1,c1,bo,oo,a2,r2,c2,h1,g1,h2,g2,h4,g4,h3,g3,e1,e2,⟨by omega,by omega⟩⟩
theorem Ma.entry {M:Nat→Prop} {w:World} {m:Mach} (ok:m.Ok) {s:Nat} (hs:s<m.next.length) {a1 a2:Option Addr} {c1 c2:Nat} {r1 r2:List Int} (s1:Sl M w a1 c1 r1) (s2:Sl M w a2 c2 r2)
    (h1:Hid (m.next[s]? =some r1)) (h2:Hid (m.out[s]? =some r2)) (hl:Hid (r1.length=m.inputs.toNat∧r2.length=m.inputs.toNat)) {a:Nat} (ha:a<m.inputs.toNat):
    ∃b1 o1 x b2 o2 y,a1=some ⟨b1,o1,none⟩∧a2=some ⟨b2,o2,none⟩∧w.cell? ⟨b1,o1+a,none⟩=some (.int .i64 ((x:Nat):Int))∧w.cell? ⟨b2,o2+a,none⟩=some (.int .i64 y)∧
     x<m.next.length∧0≤y∧y≤1048576∧Hid (m.nx s a=x)∧Hid (m.ot s a=y)∧a<r1.length∧a<r2.length:=by
 have l1:a<r1.length:=by rw [hl.out.1];exact ha
 have l2:a<r2.length:=by rw [hl.out.2];exact ha
 obtain ⟨b1,o1,x,e1,e2,e3,_⟩:=s1.at_int l1
 obtain ⟨b2,o2,y,g1,g2,g3,_⟩:=s2.at_int l2
 have n1:m.nx s a=x:=by unfold Mach.nx;rw [getD_of_some h1.out,getD_of_some e3.out]
 have n2:m.ot s a=y:=by unfold Mach.ot;rw [getD_of_some h2.out,getD_of_some g3.out]
 have k1:=ok.nx s a hs ha
 have k2:=ok.ot s a hs ha
 rw [n1] at k1
 rw [n2] at k2
 obtain ⟨x',rfl⟩:=Int.eq_ofNat_of_zero_le k1.1
 exact ⟨b1,o1,x',b2,o2,y,e1,g1,e2,g2,by omega,k2.1,k2.2,n1,n2,l1,l2⟩
theorem i64_of_nat {n:Nat} (h:n≤9223372036854775807):i64 n:=by unfold i64;omega
theorem below_drewN (B:Nat) (w:World) (n:Nat):Below B w (w.drewN n):=⟨rfl,rfl,rfl,Nat.le_refl _,fun _ _=>rfl⟩
theorem bl_drewN {B:Nat} {a w:World} (h:Below B a w) (n:Nat):Below B a (w.drewN n):=h.trans (below_drewN B w n)
abbrev C4 (w:World) (b:Nat) (an:Option Addr) (cn:Nat) (ao:Option Addr) (co:Nat) (m:Mach):Prop:=
 w.cell? ⟨b,0,none⟩=some (.int .i64 m.inputs)∧w.cell? ⟨b,1,none⟩=some (.int .i64 m.start)∧w.cell? ⟨b,2,none⟩=some (.slice an m.next.length cn)∧w.cell? ⟨b,3,none⟩=some (.slice ao m.out.length co)
abbrev maO (m:Mach) (an:Option Addr) (cn:Nat) (ao:Option Addr) (co:Nat):Obj:= .cells #[.int .i64 m.inputs,.int .i64 m.start,.slice an m.next.length cn,.slice ao m.out.length co] 41
theorem lt_of_cell {w:World} {b o:Nat} {v:Value} (h:w.cell? ⟨b,o,none⟩=some v):b<w.heap.size:=by
 by_cases e:b<w.heap.size
 ·exact e
 exfalso
 unfold World.cell? at h
 simp only [Array.getElem?_eq_none (show w.heap.size≤b by omega)] at h
 cases h
section
variable {B b:Nat} {w w':World} {an ao:Option Addr} {cn co:Nat} {m:Mach}
theorem c4_new (w:World):C4 (w.alloc (maO m an cn ao co)) w.heap.size an cn ao co m:=by
 refine ⟨?_,?_,?_,?_⟩<;>simp
theorem C4.below (h:C4 w b an cn ao co m) (hb:Below B w w') (hlt:b<B):C4 w' b an cn ao co m:=
 ⟨(hb.cell (p:=⟨b,0,none⟩) hlt).trans h.1,(hb.cell (p:=⟨b,1,none⟩) hlt).trans h.2.1,(hb.cell (p:=⟨b,2,none⟩) hlt).trans h.2.2.1,(hb.cell (p:=⟨b,3,none⟩) hlt).trans h.2.2.2⟩
theorem C4.drew (h:C4 w b an cn ao co m):C4 w.drew b an cn ao co m:=⟨by simpa using h.1,by simpa using h.2.1,by simpa using h.2.2.1,by simpa using h.2.2.2⟩
end
section
variable {M:Nat→Prop} {w:World} {an ao:Option Addr} {cn co:Nat} {m:Mach}
theorem Ma.addr (h:Ma M w an cn ao co m) (ok:m.Ok):∃bn on bo oo,an=some ⟨bn,on,none⟩∧ao=some ⟨bo,oo,none⟩:=by
 obtain ⟨bn,on,_,_,_,bo,oo,_,_,_,h1,h2,_⟩:=h.row ok (s:=0) ok.n0
 exact ⟨bn,on,bo,oo,h1,h2⟩
theorem Ma.atS {bn on bo oo:Nat} (h:Ma M w (some ⟨bn,on,none⟩) cn (some ⟨bo,oo,none⟩) co m) (ok:m.Ok) {s x:Nat} (hs:s<m.next.length) (hx:x<m.inputs.toNat):
    ∃b1 o1 c1 l1 b2 o2 c2 l2 n y,w.cell? ⟨bn,on+s,none⟩=some (.slice (some ⟨b1,o1,none⟩) l1 c1)∧w.cell? ⟨bo,oo+s,none⟩=some (.slice (some ⟨b2,o2,none⟩) l2 c2)∧
     w.cell? ⟨b1,o1+x,none⟩=some (.int .i64 ((n:Nat):Int))∧w.cell? ⟨b2,o2+x,none⟩=some (.int .i64 y)∧n<m.next.length∧0≤y∧y≤1048576∧Hid (m.nx s x=n)∧Hid (m.ot s x=y)∧x<l1∧x<l2∧l1≤64∧l2≤64:=by
 obtain ⟨bn',on',a1,r1,c1,bo',oo',a2,r2,c2,h1,h2,h3,h4,h5,h6,h7,h8, -, -,h11⟩:=h.row ok hs
 obtain ⟨b1,o1,n,b2,o2,y,e1,e2,e3,e4,e5,e6,e7,e8,e9,e10,e11⟩:=Ma.entry ok hs h5 h6 h7 h8 h11 hx
 obtain ⟨rfl,rfl⟩:bn=bn'∧on=on':=by simpa using h1
 obtain ⟨rfl,rfl⟩:bo=bo'∧oo=oo':=by simpa using h2
 subst e1
 subst e2
 have i1:=ok.i1
 have l11:=h11.out
 exact ⟨b1,o1,c1,_,b2,o2,c2,_,n,y,h3,h4,e3,e4,e5,e6,e7,e8,e9,e10,e11,by omega,by omega⟩
end
theorem ret_int {a b:Int} (h:a=b):Ending.returned (.int .i64 a)= .returned (.int .i64 b):=by rw [h]
section
variable {M:Nat→Prop} {w:World} {an ao:Option Addr} {cn co:Nat} {m:Mach}
theorem rowErr_one (m:Mach) (s:Nat) {r1 r2:List Int} (h1:m.next[s]? =some r1) (h2:m.out[s]? =some r2) (h:(r1.length:Int)≠m.inputs∨(r2.length:Int)≠m.inputs):m.rowErr s=1:=by
 unfold Mach.rowErr
 rw [if_pos]
 unfold Mach.rowLens
 rw [getD_of_some h1,getD_of_some h2]
 omega
theorem rowErr_two (m:Mach) (s a:Nat) {r1 r2:List Int} {x y:Int} (h1:m.next[s]? =some r1) (h2:m.out[s]? =some r2) (l1:(r1.length:Int)=m.inputs) (l2:(r2.length:Int)=m.inputs)
    (ha:a<r1.length) (hx:r1[a]? =some x) (hy:r2[a]? =some y) (h:x<0∨(m.next.length:Int)≤x∨y<0∨1048576<y):m.rowErr s=2:=by
 unfold Mach.rowErr
 rw [if_neg,if_pos]
 ·refine ⟨a,by omega,?_⟩
  unfold Mach.badAt Mach.nx Mach.ot
  rw [getD_of_some h1,getD_of_some h2,getD_of_some hx,getD_of_some hy]
  exact h
 unfold Mach.rowLens
 rw [getD_of_some h1,getD_of_some h2]
 omega
theorem rowErr_zero (m:Mach) (s:Nat) {r1 r2:List Int} (h1:m.next[s]? =some r1) (h2:m.out[s]? =some r2) (l1:(r1.length:Int)=m.inputs) (l2:(r2.length:Int)=m.inputs)
    (h:∀a,a<r1.length→¬m.badAt s a):m.rowErr s=0:=by
 unfold Mach.rowErr
 rw [if_neg,if_neg]
 ·rintro ⟨a,ha,hb⟩
  exact h a (by omega) hb
 unfold Mach.rowLens
 rw [getD_of_some h1,getD_of_some h2]
 omega
theorem goodAt (m:Mach) (s a:Nat) {r1 r2:List Int} {x y:Int} (h1:m.next[s]? =some r1) (h2:m.out[s]? =some r2) (hx:r1[a]? =some x) (hy:r2[a]? =some y)
    (h:¬x<0∧¬(m.next.length:Int)≤x∧¬y<0∧¬1048576<y):¬m.badAt s a:=by
 unfold Mach.badAt Mach.nx Mach.ot
 rw [getD_of_some h1,getD_of_some h2,getD_of_some hx,getD_of_some hy]
 omega
theorem row_any (hm:Ma M w an cn ao co m) (s:Nat) (hs:s<m.next.length) (ho:s<m.out.length):
    Calls Tryz.prog 135 #[maV m an cn ao co,.int .i64 s] w fun e w'=>e= .returned (.int .i64 (m.rowErr s))∧Below w.heap.size w w':=by
 have l1:=hm.next.le
 have l2:=hm.out.le
 have hm2:Ma M (w.alloc (.cells #[.int .i64 m.inputs,.int .i64 m.start,.slice an m.next.length cn,.slice ao m.out.length co] 41)) an cn ao co m:=hm.ext (Ext.alloc _ _ _)
 obtain ⟨b1,o1,a1,r1,c1,rfl,hc1,hr1,hs1⟩:=hm2.next.at_row hs
 obtain ⟨b2,o2,a2,r2,c2,rfl,hc2,hr2,hs2⟩:=hm2.out.at_row ho
 by_cases e1:(r1.length:Int)=m.inputs
 ·by_cases e2:(r2.length:Int)=m.inputs
  ·have e1':((r1.length:Int) !=m.inputs)=false:=by simp [e1]
   have e2':((r2.length:Int) !=m.inputs)=false:=by simp [e2]
   have E1:=Lib.hid e1
   have E2:=Lib.hid e2
   have r1le:=hs1.le
   clear e1 e2
   go_enter Tryz.func135,Tryz.ntmps135
   go_wp2
   refine wp_quiet_fast (by kernel_rfl) (by kernel_rfl) ?_
   repeat (first|go_big_quiet_step (fail)|quiet_step (fail))
   refine wpQuiet_nil ?_
   intro _ hw'
   obtain ⟨nq,hw''⟩:=hw'
   subst hw''
   go_wp2
   go_loopw [5] (fun i wr=>∃k n:Nat,k≤r1.length∧i= .int .i64 k∧wr=(w.alloc (.cells #[.int .i64 m.inputs,.int .i64 m.start,.slice (some ⟨b1,o1,none⟩) m.next.length cn,.slice (some ⟨b2,o2,none⟩) m.out.length co] 41)).drewN n∧Hid (∀a,a<k→¬m.badAt s a)) (fun i _=>r1.length-(intOf i).toNat)
   case atStart=>exact ⟨0,_,by omega,rfl,rfl,by intro a ha;omega⟩
   case round=>
    obtain ⟨k,n,hk,rfl,rfl,hE⟩:=hrel
    by_cases hlt:k<r1.length
    ·have hlt':(k:Int)<m.inputs:=by have:=E1.out;omega
     have hlt2:k<r2.length:=by have:=E1.out;have:=E2.out;omega
     obtain ⟨b3,o3,x,rfl,hc3,hx, -⟩:=hs1.at_int hlt
     obtain ⟨b4,o4,y,rfl,hc4,hy, -⟩:=hs2.at_int hlt2
     go_wp2
     refine wp_quiet_fast (by kernel_rfl) (by kernel_rfl) ?_
     by_cases hb:x<0∨(m.next.length:Int)≤x∨y<0∨1048576<y
     ·have HB:=Lib.hid hb
      have hb4:x<0∨(¬x<0∧(m.next.length:Int)≤x)∨(¬x<0∧¬(m.next.length:Int)≤x∧y<0)∨(¬x<0∧¬(m.next.length:Int)≤x∧¬y<0∧1048576<y):=by omega
      clear hb
      rcases hb4 with t1|⟨t1,t2⟩|⟨t1,t2,t3⟩|⟨t1,t2,t3,t4⟩
      all_goals
       repeat (first|go_big_quiet_step (fail)|quiet_step (fail))
       refine wpQuiet_nil ?_
       intro _ hw'
       obtain ⟨nq,hw''⟩:=hw'
       subst hw''
       go_wp2
       go_ret
       exact ⟨ret_int (rowErr_two m s k hr1.out hr2.out E1.out E2.out hlt hx.out hy.out HB.out).symm,by (repeat' (first|with_reducible exact Below.refl _ _|with_reducible assumption|with_reducible refine bl_drewN ?_ _|with_reducible refine Below.drew ?_|with_reducible refine Below.alloc ?_ ?_ _|with_reducible refine Below.setCell ?_ ?_ _|omega|(simp;done)|(simp;omega)))⟩
     have t1:¬x<0:=by omega
     have t2:¬(m.next.length:Int)≤x:=by omega
     have t3:¬y<0:=by omega
     have t4:¬1048576<y:=by omega
     clear hb
     repeat (first|go_big_quiet_step (fail)|quiet_step (fail))
     refine wpQuiet_nil ?_
     intro _ hw'
     obtain ⟨nq,hw''⟩:=hw'
     subst hw''
     go_wp2
     go_roundw
     case rel=>exact ⟨k+1,_,by omega,by go_num,rfl,fun a ha=>by
      by_cases e:a=k
      ·rw [e];exact goodAt m s k hr1.out hr2.out hx.out hy.out ⟨t1,t2,t3,t4⟩
      exact hE.out a (by omega)⟩
     case measure=>simp [intOf];omega
    have hlt':¬(k:Int)<m.inputs:=by have:=E1.out;omega
    go_wp2
    go_ret
    exact ⟨ret_int (rowErr_zero m s hr1.out hr2.out E1.out E2.out (fun a ha=>hE.out a (by omega))).symm,by (repeat' (first|with_reducible exact Below.refl _ _|with_reducible assumption|with_reducible refine bl_drewN ?_ _|with_reducible refine Below.drew ?_|with_reducible refine Below.alloc ?_ ?_ _|with_reducible refine Below.setCell ?_ ?_ _|omega|(simp;done)|(simp;omega)))⟩
  have e1':((r1.length:Int) !=m.inputs)=false:=by simp [e1]
  have e2':((r2.length:Int) !=m.inputs)=true:=by simp [e2]
  have E2:=Lib.hid e2
  clear e1 e2
  go_enter Tryz.func135,Tryz.ntmps135
  go_wp2
  refine wp_quiet_fast (by kernel_rfl) (by kernel_rfl) ?_
  repeat (first|go_big_quiet_step (fail)|quiet_step (fail))
  refine wpQuiet_nil ?_
  intro _ hw'
  obtain ⟨nq,hw''⟩:=hw'
  subst hw''
  go_wp2
  go_ret
  exact ⟨ret_int (rowErr_one m s hr1.out hr2.out (.inr E2.out)).symm,by (repeat' (first|with_reducible exact Below.refl _ _|with_reducible assumption|with_reducible refine bl_drewN ?_ _|with_reducible refine Below.drew ?_|with_reducible refine Below.alloc ?_ ?_ _|with_reducible refine Below.setCell ?_ ?_ _|omega|(simp;done)|(simp;omega)))⟩
 have e1':((r1.length:Int) !=m.inputs)=true:=by simp [e1]
 have E1:=Lib.hid e1
 clear e1
 go_enter Tryz.func135,Tryz.ntmps135
 go_wp2
 refine wp_quiet_fast (by kernel_rfl) (by kernel_rfl) ?_
 repeat (first|go_big_quiet_step (fail)|quiet_step (fail))
 refine wpQuiet_nil ?_
 intro _ hw'
 obtain ⟨nq,hw''⟩:=hw'
 subst hw''
 go_wp2
 go_ret
 exact ⟨ret_int (rowErr_one m s hr1.out hr2.out (.inl E1.out)).symm,by (repeat' (first|with_reducible exact Below.refl _ _|with_reducible assumption|with_reducible refine bl_drewN ?_ _|with_reducible refine Below.drew ?_|with_reducible refine Below.alloc ?_ ?_ _|with_reducible refine Below.setCell ?_ ?_ _|omega|(simp;done)|(simp;omega)))⟩
end
section
variable {M:Nat→Prop} {w:World} {an ao:Option Addr} {cn co:Nat} {m:Mach}
theorem valid6_any (hm:Ma M w an cn ao co m):
    Calls Tryz.prog 82 #[maV m an cn ao co] w fun e w'=>e= .returned (.int .i64 m.err)∧Below w.heap.size w w':=by
 have l1:=hm.next.le
 have l2:=hm.out.le
 rcases m.head_cases with ⟨g1,he⟩|⟨g1,g2,he⟩|⟨g1,g2,g3,he⟩|⟨g1,g2,g3,g4,he⟩|⟨g1,g2,g3,g4,g5,he⟩|⟨g1,g2,g3,g4,g5,g6,he⟩|⟨g1,g2,g3,g4,g5,g6,g7,he⟩|⟨g1,g2,g3,g4,g5,g6,g7,k2,he⟩
 iterate 7
  ·have K1:=Lib.hid he
   clear he
   go_enter Tryz.func82,Tryz.ntmps82
   go_wp2
   go_ret
   exact ⟨ret_int K1.out.symm,by (repeat' (first|with_reducible exact Below.refl _ _|with_reducible assumption|with_reducible refine bl_drewN ?_ _|with_reducible refine Below.drew ?_|with_reducible refine Below.alloc ?_ ?_ _|with_reducible refine Below.setCell ?_ ?_ _|omega|(simp;done)|(simp;omega)))⟩
 have K1:=Lib.hid he
 have K2:=Lib.hid k2
 clear he k2
 go_enter Tryz.func82,Tryz.ntmps82
 go_wp2
 go_loopw [3] (fun i wr=>∃k:Nat,k≤m.next.length∧i= .int .i64 k∧Below (w.heap.size+1) (w.alloc (.cells #[.int .i64 m.inputs,.int .i64 m.start,.slice an m.next.length cn,.slice ao m.out.length co] 41)) wr∧Hid (m.rowsErr k=0)) (fun i _=>m.next.length-(intOf i).toNat)
 case atStart=>exact ⟨0,by omega,rfl,Below.refl _ _,rfl⟩
 case round=>
  obtain ⟨k,hk,rfl,hB,hE⟩:=hrel
  have hbx:∀o,wr.cell? ⟨w.heap.size,o,none⟩=_:=fun o=>hB.cell (by simp)
  have hsz:w.heap.size+1≤wr.heap.size:=by have:=hB.size;simpa using this
  have hmr:Ma M wr an cn ao co m:=hm.ext ((Ext.alloc M w _).trans (Ext.of_below (by simpa using hB)))
  by_cases hlt:k<m.next.length
  ·have hrow:=row_any hmr k hlt (by rw [K2.out];exact hlt)
   have HR:=Lib.hid hrow
   clear hrow
   have hsu:=m.rowsErr_succ k
   rw [hE.out,if_pos rfl] at hsu
   have HS:=Lib.hid hsu
   clear hsu
   by_cases hz:m.rowErr k=0
   ·have hz':(m.rowErr k !=0)=false:=by simp [hz]
    have HZ:=Lib.hid hz
    clear hz
    go_wp2_with (go_at_call 135;refine (HR.out).mono ?_;rintro e w' ⟨rfl,hb'⟩)
    go_roundw
    case rel=>exact ⟨k+1,by omega,by go_num,hB.trans (hb'.mono hsz),HS.out.trans HZ.out⟩
    case measure=>simp [intOf];omega
   have hz':(m.rowErr k !=0)=true:=by simp [hz]
   have HZ:=Lib.hid hz
   clear hz
   go_wp2_with (go_at_call 135;refine (HR.out).mono ?_;rintro e w' ⟨rfl,hb'⟩)
   go_ret
   refine ⟨ret_int ?_,?_⟩
   ·rw [K1.out,m.rowsErr_stop (k:=k+1) (by omega) (by rw [HS.out];exact HZ.out),HS.out]
   exact (((Below.refl _ _).alloc (Nat.le_refl _) _).trans (hB.mono (by omega))).trans (hb'.mono (by omega))
  have e:k=m.next.length:=by omega
  have HE:=Lib.hid e
  clear e
  go_wp2
  go_ret
  exact ⟨ret_int (by rw [K1.out,←HE.out,hE.out]),((Below.refl _ _).alloc (Nat.le_refl _) _).trans (hB.mono (by omega))⟩
end
section
variable {M:Nat→Prop} {w:World} {an ao:Option Addr} {cn co:Nat} {m:Mach}
theorem valid_any (hm:Ma M w an cn ao co m):
    Calls Tryz.prog 74 #[maV m an cn ao co] w fun e w'=>e= .returned (.int .i64 m.err)∧Below w.heap.size w w':=by
 have l1:=hm.next.le
 have l2:=hm.out.le
 rcases m.head_cases with ⟨g1,he⟩|⟨g1,g2,he⟩|⟨g1,g2,g3,he⟩|⟨g1,g2,g3,g4,he⟩|⟨g1,g2,g3,g4,g5,he⟩|⟨g1,g2,g3,g4,g5,g6,he⟩|⟨g1,g2,g3,g4,g5,g6,g7,he⟩|⟨g1,g2,g3,g4,g5,g6,g7,k2,he⟩
 iterate 7
  ·have K1:=Lib.hid he
   clear he
   go_enter Tryz.func74,Tryz.ntmps74
   go_wp2
   go_ret
   exact ⟨ret_int K1.out.symm,by (repeat' (first|with_reducible exact Below.refl _ _|with_reducible assumption|with_reducible refine bl_drewN ?_ _|with_reducible refine Below.drew ?_|with_reducible refine Below.alloc ?_ ?_ _|with_reducible refine Below.setCell ?_ ?_ _|omega|(simp;done)|(simp;omega)))⟩
 have K1:=Lib.hid he
 have K2:=Lib.hid k2
 clear he k2
 have hm2:Ma M (w.alloc (.cells #[.int .i64 m.inputs,.int .i64 m.start,.slice an m.next.length cn,.slice ao m.out.length co] 41)) an cn ao co m:=hm.ext (Ext.alloc _ _ _)
 go_enter Tryz.func74,Tryz.ntmps74
 go_wp2
 go_loopw [43] (fun i wr=>∃k n:Nat,k≤m.next.length∧i= .int .i64 k∧wr=(w.alloc (.cells #[.int .i64 m.inputs,.int .i64 m.start,.slice an m.next.length cn,.slice ao m.out.length co] 41)).drewN n∧Hid (m.rowsErr k=0)) (fun i _=>m.next.length-(intOf i).toNat)
 case atStart=>exact ⟨0,0,by omega,rfl,rfl,rfl⟩
 case round=>
  obtain ⟨k,n,hk,rfl,rfl,hE⟩:=hrel
  by_cases hlt:k<m.next.length
  ·have hlo:k<m.out.length:=by have:=K2.out;omega
   obtain ⟨b1,o1,a1,r1,c1,rfl,hc1,hr1,hs1⟩:=hm2.next.at_row hlt
   obtain ⟨b2,o2,a2,r2,c2,rfl,hc2,hr2,hs2⟩:=hm2.out.at_row hlo
   have r1le:=hs1.le
   have hsu:=m.rowsErr_succ k
   rw [hE.out,if_pos rfl] at hsu
   have HS:=Lib.hid hsu
   clear hsu
   by_cases e1:(r1.length:Int)=m.inputs
   ·have e1':((r1.length:Int) !=m.inputs)=false:=by simp [e1]
    have E1:=Lib.hid e1
    clear e1
    by_cases e2:(r2.length:Int)=m.inputs
    ·have e2':((r2.length:Int) !=m.inputs)=false:=by simp [e2]
     have E2:=Lib.hid e2
     clear e2
     go_wp2
     refine wp_quiet_fast (by kernel_rfl) (by kernel_rfl) ?_
     repeat (first|go_big_quiet_step (fail)|quiet_step (fail))
     refine wpQuiet_nil ?_
     intro _ hw'
     obtain ⟨nq,hw''⟩:=hw'
     subst hw''
     go_wp2
     go_loopw [68] (fun i wr=>∃a n:Nat,a≤r1.length∧i= .int .i64 a∧wr=(w.alloc (.cells #[.int .i64 m.inputs,.int .i64 m.start,.slice (some ⟨b1,o1,none⟩) m.next.length cn,.slice (some ⟨b2,o2,none⟩) m.out.length co] 41)).drewN n∧Hid (∀j,j<a→¬m.badAt k j)) (fun i _=>r1.length-(intOf i).toNat)
     case atStart=>exact ⟨0,_,by omega,rfl,rfl,by intro a ha;omega⟩
     case round=>
      obtain ⟨a,n2,ha,rfl,rfl,hF⟩:=hrel
      by_cases hla:a<r1.length
      ·have hla':(a:Int)<m.inputs:=by have:=E1.out;omega
       have hla2:a<r2.length:=by have:=E1.out;have:=E2.out;omega
       obtain ⟨b3,o3,x,rfl,hc3,hx, -⟩:=hs1.at_int hla
       obtain ⟨b4,o4,y,rfl,hc4,hy, -⟩:=hs2.at_int hla2
       go_wp2
       refine wp_quiet_fast (by kernel_rfl) (by kernel_rfl) ?_
       repeat (first|go_big_quiet_step (fail)|quiet_step (fail))
       refine wpQuiet_nil ?_
       intro _ hw'
       obtain ⟨nq,hw''⟩:=hw'
       subst hw''
       by_cases hb:x<0∨(m.next.length:Int)≤x∨y<0∨1048576<y
       ·have HB:=Lib.hid hb
        have hb4:x<0∨(¬x<0∧(m.next.length:Int)≤x)∨(¬x<0∧¬(m.next.length:Int)≤x∧y<0)∨(¬x<0∧¬(m.next.length:Int)≤x∧¬y<0∧1048576<y):=by omega
        clear hb
        rcases hb4 with t1|⟨t1,t2⟩|⟨t1,t2,t3⟩|⟨t1,t2,t3,t4⟩
        all_goals
         go_wp2
         go_ret
         exact ⟨ret_int (by rw [K1.out,m.rowsErr_stop (k:=k+1) (by omega) (by rw [HS.out,rowErr_two m k a hr1.out hr2.out E1.out E2.out hla hx.out hy.out HB.out];decide),HS.out,rowErr_two m k a hr1.out hr2.out E1.out E2.out hla hx.out hy.out HB.out]),by (repeat' (first|with_reducible exact Below.refl _ _|with_reducible assumption|with_reducible refine bl_drewN ?_ _|with_reducible refine Below.drew ?_|with_reducible refine Below.alloc ?_ ?_ _|with_reducible refine Below.setCell ?_ ?_ _|omega|(simp;done)|(simp;omega)))⟩
       have t1:¬x<0:=by omega
       have t2:¬(m.next.length:Int)≤x:=by omega
       have t3:¬y<0:=by omega
       have t4:¬1048576<y:=by omega
       clear hb
       go_wp2
       go_roundw
       case rel=>exact ⟨a+1,_,by omega,by go_num,rfl,fun j hj=>by
        by_cases e:j=a
        ·rw [e];exact goodAt m k a hr1.out hr2.out hx.out hy.out ⟨t1,t2,t3,t4⟩
        exact hF.out j (by omega)⟩
       case measure=>simp [intOf];omega
      have hla':¬(a:Int)<m.inputs:=by have:=E1.out;omega
      go_wp2
      go_roundw
      case rel=>exact ⟨k+1,_,by omega,by go_num,rfl,HS.out.trans (rowErr_zero m k hr1.out hr2.out E1.out E2.out (fun j hj=>hF.out j (by omega)))⟩
      case measure=>simp [intOf];omega
    have e2':((r2.length:Int) !=m.inputs)=true:=by simp [e2]
    have E2:=Lib.hid e2
    clear e2
    go_wp2
    refine wp_quiet_fast (by kernel_rfl) (by kernel_rfl) ?_
    repeat (first|go_big_quiet_step (fail)|quiet_step (fail))
    refine wpQuiet_nil ?_
    intro _ hw'
    obtain ⟨nq,hw''⟩:=hw'
    subst hw''
    go_wp2
    go_ret
    exact ⟨ret_int (by rw [K1.out,m.rowsErr_stop (k:=k+1) (by omega) (by rw [HS.out,rowErr_one m k hr1.out hr2.out (.inr E2.out)];decide),HS.out,rowErr_one m k hr1.out hr2.out (.inr E2.out)]),by (repeat' (first|with_reducible exact Below.refl _ _|with_reducible assumption|with_reducible refine bl_drewN ?_ _|with_reducible refine Below.drew ?_|with_reducible refine Below.alloc ?_ ?_ _|with_reducible refine Below.setCell ?_ ?_ _|omega|(simp;done)|(simp;omega)))⟩
   have e1':((r1.length:Int) !=m.inputs)=true:=by simp [e1]
   have E1:=Lib.hid e1
   clear e1
   go_wp2
   refine wp_quiet_fast (by kernel_rfl) (by kernel_rfl) ?_
   repeat (first|go_big_quiet_step (fail)|quiet_step (fail))
   refine wpQuiet_nil ?_
   intro _ hw'
   obtain ⟨nq,hw''⟩:=hw'
   subst hw''
   go_wp2
   go_ret
   exact ⟨ret_int (by rw [K1.out,m.rowsErr_stop (k:=k+1) (by omega) (by rw [HS.out,rowErr_one m k hr1.out hr2.out (.inl E1.out)];decide),HS.out,rowErr_one m k hr1.out hr2.out (.inl E1.out)]),by (repeat' (first|with_reducible exact Below.refl _ _|with_reducible assumption|with_reducible refine bl_drewN ?_ _|with_reducible refine Below.drew ?_|with_reducible refine Below.alloc ?_ ?_ _|with_reducible refine Below.setCell ?_ ?_ _|omega|(simp;done)|(simp;omega)))⟩
  have e:k=m.next.length:=by omega
  have HE:=Lib.hid e
  clear e
  go_wp2
  go_ret
  exact ⟨ret_int (by rw [K1.out,←HE.out,hE.out]),by (repeat' (first|with_reducible exact Below.refl _ _|with_reducible assumption|with_reducible refine bl_drewN ?_ _|with_reducible refine Below.drew ?_|with_reducible refine Below.alloc ?_ ?_ _|with_reducible refine Below.setCell ?_ ?_ _|omega|(simp;done)|(simp;omega)))⟩
end
abbrev stV (s:Stg):Value:= .agg #[.int .i64 s.kind,.int .i64 s.extra,.int .u64 (s.seed:Int),.int .i64 s.count,.int .i64 s.len]
abbrev stO (s:Stg):Obj:= .cells #[.int .i64 s.kind,.int .i64 s.extra,.int .u64 (s.seed:Int),.int .i64 s.count,.int .i64 s.len] 24
abbrev S5 (w:World) (b:Nat) (s:Stg):Prop:=w.cell? ⟨b,0,none⟩=some (.int .i64 s.kind)∧w.cell? ⟨b,1,none⟩=some (.int .i64 s.extra)∧w.cell? ⟨b,2,none⟩=some (.int .u64 (s.seed:Int))∧w.cell? ⟨b,3,none⟩=some (.int .i64 s.count)∧w.cell? ⟨b,4,none⟩=some (.int .i64 s.len)
theorem S5.below {B b:Nat} {w w':World} {s:Stg} (h:S5 w b s) (hb:Below B w w') (hlt:b<B):S5 w' b s:=
 ⟨(hb.cell (p:=⟨b,0,none⟩) hlt).trans h.1,(hb.cell (p:=⟨b,1,none⟩) hlt).trans h.2.1,(hb.cell (p:=⟨b,2,none⟩) hlt).trans h.2.2.1,(hb.cell (p:=⟨b,3,none⟩) hlt).trans h.2.2.2.1,(hb.cell (p:=⟨b,4,none⟩) hlt).trans h.2.2.2.2⟩
section
variable {w:World}
theorem svalid_any (s:Stg):Calls Tryz.prog 44 #[stV s] w fun e w'=>e= .returned (.int .i64 s.err)∧Below w.heap.size w w':=by
 have hB0:=(Below.refl w.heap.size w).alloc (Nat.le_refl _) (stO s)
 obtain ⟨k,e,sd,c,l⟩:=s
 by_cases k1:k=1
 ·subst k1
  by_cases h1:e<0
  ·have h1b:decide (e<0)=true:=by simp [h1]
   have HF:Hid (Stg.err ⟨1,e,sd,c,l⟩=2):=by unfold Hid Stg.err;dsimp only;repeat (first|rfl|omega|(rw [if_pos (by omega)])|(rw [if_neg (by omega)]))
   clear h1
   go_enter Tryz.func44,Tryz.ntmps44
   go_wp2
   go_ret
   exact ⟨by rw [HF.out];rfl,hB0⟩
  have h1b:decide (e<0)=false:=by simp;omega
  by_cases h2:3<e
  ·have h2b:decide (3<e)=true:=by simp [h2]
   have HF:Hid (Stg.err ⟨1,e,sd,c,l⟩=2):=by unfold Hid Stg.err;dsimp only;repeat (first|rfl|omega|(rw [if_pos (by omega)])|(rw [if_neg (by omega)]))
   clear h1 h2
   go_enter Tryz.func44,Tryz.ntmps44
   go_wp2
   go_ret
   exact ⟨by rw [HF.out];rfl,hB0⟩
  have h2b:decide (3<e)=false:=by simp;omega
  by_cases h3:sd≠0
  ·have h3b:((sd:Int) !=0)=true:=by simp [h3]
   have HF:Hid (Stg.err ⟨1,e,sd,c,l⟩=1):=by unfold Hid Stg.err;dsimp only;repeat (first|rfl|omega|(rw [if_pos (by omega)])|(rw [if_neg (by omega)]))
   clear h1 h2 h3
   go_enter Tryz.func44,Tryz.ntmps44
   go_wp2
   go_ret
   exact ⟨by rw [HF.out];rfl,hB0⟩
  have h3b:((sd:Int) !=0)=false:=by simp;omega
  by_cases h4:c≠0
  ·have h4b:(c !=0)=true:=by simp [h4]
   have HF:Hid (Stg.err ⟨1,e,sd,c,l⟩=1):=by unfold Hid Stg.err;dsimp only;repeat (first|rfl|omega|(rw [if_pos (by omega)])|(rw [if_neg (by omega)]))
   clear h1 h2 h3 h4
   go_enter Tryz.func44,Tryz.ntmps44
   go_wp2
   go_ret
   exact ⟨by rw [HF.out];rfl,hB0⟩
  have h4b:(c !=0)=false:=by simp;omega
  by_cases h5:l≠0
  ·have h5b:(l !=0)=true:=by simp [h5]
   have HF:Hid (Stg.err ⟨1,e,sd,c,l⟩=1):=by unfold Hid Stg.err;dsimp only;repeat (first|rfl|omega|(rw [if_pos (by omega)])|(rw [if_neg (by omega)]))
   clear h1 h2 h3 h4 h5
   go_enter Tryz.func44,Tryz.ntmps44
   go_wp2
   go_ret
   exact ⟨by rw [HF.out];rfl,hB0⟩
  have h5b:(l !=0)=false:=by simp;omega
  have HF:Hid (Stg.err ⟨1,e,sd,c,l⟩=0):=by unfold Hid Stg.err;dsimp only;repeat (first|rfl|omega|(rw [if_pos (by omega)])|(rw [if_neg (by omega)]))
  clear h1 h2 h3 h4 h5
  go_enter Tryz.func44,Tryz.ntmps44
  go_wp2
  go_ret
  exact ⟨by rw [HF.out];rfl,hB0⟩
 have k1b:(k==1)=false:=by simp [k1]
 by_cases k2:k=2
 ·subst k2
  by_cases h1:e<0
  ·have h1b:decide (e<0)=true:=by simp [h1]
   have HF:Hid (Stg.err ⟨2,e,sd,c,l⟩=2):=by unfold Hid Stg.err;dsimp only;repeat (first|rfl|omega|(rw [if_pos (by omega)])|(rw [if_neg (by omega)]))
   clear h1
   go_enter Tryz.func44,Tryz.ntmps44
   go_wp2
   go_ret
   exact ⟨by rw [HF.out];rfl,hB0⟩
  have h1b:decide (e<0)=false:=by simp;omega
  by_cases h2:3<e
  ·have h2b:decide (3<e)=true:=by simp [h2]
   have HF:Hid (Stg.err ⟨2,e,sd,c,l⟩=2):=by unfold Hid Stg.err;dsimp only;repeat (first|rfl|omega|(rw [if_pos (by omega)])|(rw [if_neg (by omega)]))
   clear h1 h2
   go_enter Tryz.func44,Tryz.ntmps44
   go_wp2
   go_ret
   exact ⟨by rw [HF.out];rfl,hB0⟩
  have h2b:decide (3<e)=false:=by simp;omega
  by_cases h3:sd≠0
  ·have h3b:((sd:Int) !=0)=true:=by simp [h3]
   have HF:Hid (Stg.err ⟨2,e,sd,c,l⟩=1):=by unfold Hid Stg.err;dsimp only;repeat (first|rfl|omega|(rw [if_pos (by omega)])|(rw [if_neg (by omega)]))
   clear h1 h2 h3
   go_enter Tryz.func44,Tryz.ntmps44
   go_wp2
   go_ret
   exact ⟨by rw [HF.out];rfl,hB0⟩
  have h3b:((sd:Int) !=0)=false:=by simp;omega
  by_cases h4:c≠0
  ·have h4b:(c !=0)=true:=by simp [h4]
   have HF:Hid (Stg.err ⟨2,e,sd,c,l⟩=1):=by unfold Hid Stg.err;dsimp only;repeat (first|rfl|omega|(rw [if_pos (by omega)])|(rw [if_neg (by omega)]))
   clear h1 h2 h3 h4
   go_enter Tryz.func44,Tryz.ntmps44
   go_wp2
   go_ret
   exact ⟨by rw [HF.out];rfl,hB0⟩
  have h4b:(c !=0)=false:=by simp;omega
  by_cases h5:l≠0
  ·have h5b:(l !=0)=true:=by simp [h5]
   have HF:Hid (Stg.err ⟨2,e,sd,c,l⟩=1):=by unfold Hid Stg.err;dsimp only;repeat (first|rfl|omega|(rw [if_pos (by omega)])|(rw [if_neg (by omega)]))
   clear h1 h2 h3 h4 h5
   go_enter Tryz.func44,Tryz.ntmps44
   go_wp2
   go_ret
   exact ⟨by rw [HF.out];rfl,hB0⟩
  have h5b:(l !=0)=false:=by simp;omega
  have HF:Hid (Stg.err ⟨2,e,sd,c,l⟩=0):=by unfold Hid Stg.err;dsimp only;repeat (first|rfl|omega|(rw [if_pos (by omega)])|(rw [if_neg (by omega)]))
  clear h1 h2 h3 h4 h5
  go_enter Tryz.func44,Tryz.ntmps44
  go_wp2
  go_ret
  exact ⟨by rw [HF.out];rfl,hB0⟩
 have k2b:(k==2)=false:=by simp [k2]
 by_cases k3:k=3
 ·subst k3
  by_cases h1:e<0
  ·have h1b:decide (e<0)=true:=by simp [h1]
   have HF:Hid (Stg.err ⟨3,e,sd,c,l⟩=2):=by unfold Hid Stg.err;dsimp only;repeat (first|rfl|omega|(rw [if_pos (by omega)])|(rw [if_neg (by omega)]))
   clear h1
   go_enter Tryz.func44,Tryz.ntmps44
   go_wp2
   go_ret
   exact ⟨by rw [HF.out];rfl,hB0⟩
  have h1b:decide (e<0)=false:=by simp;omega
  by_cases h2:3<e
  ·have h2b:decide (3<e)=true:=by simp [h2]
   have HF:Hid (Stg.err ⟨3,e,sd,c,l⟩=2):=by unfold Hid Stg.err;dsimp only;repeat (first|rfl|omega|(rw [if_pos (by omega)])|(rw [if_neg (by omega)]))
   clear h1 h2
   go_enter Tryz.func44,Tryz.ntmps44
   go_wp2
   go_ret
   exact ⟨by rw [HF.out];rfl,hB0⟩
  have h2b:decide (3<e)=false:=by simp;omega
  by_cases h3:sd≠0
  ·have h3b:((sd:Int) !=0)=true:=by simp [h3]
   have HF:Hid (Stg.err ⟨3,e,sd,c,l⟩=1):=by unfold Hid Stg.err;dsimp only;repeat (first|rfl|omega|(rw [if_pos (by omega)])|(rw [if_neg (by omega)]))
   clear h1 h2 h3
   go_enter Tryz.func44,Tryz.ntmps44
   go_wp2
   go_ret
   exact ⟨by rw [HF.out];rfl,hB0⟩
  have h3b:((sd:Int) !=0)=false:=by simp;omega
  by_cases h4:c≠0
  ·have h4b:(c !=0)=true:=by simp [h4]
   have HF:Hid (Stg.err ⟨3,e,sd,c,l⟩=1):=by unfold Hid Stg.err;dsimp only;repeat (first|rfl|omega|(rw [if_pos (by omega)])|(rw [if_neg (by omega)]))
   clear h1 h2 h3 h4
   go_enter Tryz.func44,Tryz.ntmps44
   go_wp2
   go_ret
   exact ⟨by rw [HF.out];rfl,hB0⟩
  have h4b:(c !=0)=false:=by simp;omega
  by_cases h5:l≠0
  ·have h5b:(l !=0)=true:=by simp [h5]
   have HF:Hid (Stg.err ⟨3,e,sd,c,l⟩=1):=by unfold Hid Stg.err;dsimp only;repeat (first|rfl|omega|(rw [if_pos (by omega)])|(rw [if_neg (by omega)]))
   clear h1 h2 h3 h4 h5
   go_enter Tryz.func44,Tryz.ntmps44
   go_wp2
   go_ret
   exact ⟨by rw [HF.out];rfl,hB0⟩
  have h5b:(l !=0)=false:=by simp;omega
  have HF:Hid (Stg.err ⟨3,e,sd,c,l⟩=0):=by unfold Hid Stg.err;dsimp only;repeat (first|rfl|omega|(rw [if_pos (by omega)])|(rw [if_neg (by omega)]))
  clear h1 h2 h3 h4 h5
  go_enter Tryz.func44,Tryz.ntmps44
  go_wp2
  go_ret
  exact ⟨by rw [HF.out];rfl,hB0⟩
 have k3b:(k==3)=false:=by simp [k3]
 by_cases k4:k=4
 ·subst k4
  by_cases h1:e≠0
  ·have h1b:(e !=0)=true:=by simp [h1]
   have HF:Hid (Stg.err ⟨4,e,sd,c,l⟩=1):=by unfold Hid Stg.err;dsimp only;repeat (first|rfl|omega|(rw [if_pos (by omega)])|(rw [if_neg (by omega)]))
   clear h1
   go_enter Tryz.func44,Tryz.ntmps44
   go_wp2
   go_ret
   exact ⟨by rw [HF.out];rfl,hB0⟩
  have h1b:(e !=0)=false:=by simp;omega
  by_cases h2:c<0
  ·have h2b:decide (c<0)=true:=by simp [h2]
   have HF:Hid (Stg.err ⟨4,e,sd,c,l⟩=2):=by unfold Hid Stg.err;dsimp only;repeat (first|rfl|omega|(rw [if_pos (by omega)])|(rw [if_neg (by omega)]))
   clear h1 h2
   go_enter Tryz.func44,Tryz.ntmps44
   go_wp2
   go_ret
   exact ⟨by rw [HF.out];rfl,hB0⟩
  have h2b:decide (c<0)=false:=by simp;omega
  by_cases h3:10000<c
  ·have h3b:decide (10000<c)=true:=by simp [h3]
   have HF:Hid (Stg.err ⟨4,e,sd,c,l⟩=2):=by unfold Hid Stg.err;dsimp only;repeat (first|rfl|omega|(rw [if_pos (by omega)])|(rw [if_neg (by omega)]))
   clear h1 h2 h3
   go_enter Tryz.func44,Tryz.ntmps44
   go_wp2
   go_ret
   exact ⟨by rw [HF.out];rfl,hB0⟩
  have h3b:decide (10000<c)=false:=by simp;omega
  by_cases h4:l<0
  ·have h4b:decide (l<0)=true:=by simp [h4]
   have HF:Hid (Stg.err ⟨4,e,sd,c,l⟩=2):=by unfold Hid Stg.err;dsimp only;repeat (first|rfl|omega|(rw [if_pos (by omega)])|(rw [if_neg (by omega)]))
   clear h1 h2 h3 h4
   go_enter Tryz.func44,Tryz.ntmps44
   go_wp2
   go_ret
   exact ⟨by rw [HF.out];rfl,hB0⟩
  have h4b:decide (l<0)=false:=by simp;omega
  by_cases h5:1024<l
  ·have h5b:decide (1024<l)=true:=by simp [h5]
   have HF:Hid (Stg.err ⟨4,e,sd,c,l⟩=2):=by unfold Hid Stg.err;dsimp only;repeat (first|rfl|omega|(rw [if_pos (by omega)])|(rw [if_neg (by omega)]))
   clear h1 h2 h3 h4 h5
   go_enter Tryz.func44,Tryz.ntmps44
   go_wp2
   go_ret
   exact ⟨by rw [HF.out];rfl,hB0⟩
  have h5b:decide (1024<l)=false:=by simp;omega
  have HF:Hid (Stg.err ⟨4,e,sd,c,l⟩=0):=by unfold Hid Stg.err;dsimp only;repeat (first|rfl|omega|(rw [if_pos (by omega)])|(rw [if_neg (by omega)]))
  clear h1 h2 h3 h4 h5
  go_enter Tryz.func44,Tryz.ntmps44
  go_wp2
  go_ret
  exact ⟨by rw [HF.out];rfl,hB0⟩
 have k4b:(k==4)=false:=by simp [k4]
 by_cases k5:k<1
 ·have k5b:decide (k<1)=true:=by simp [k5]
  have HF:Hid (Stg.err ⟨k,e,sd,c,l⟩=2):=by unfold Hid Stg.err;dsimp only;repeat (first|rfl|omega|(rw [if_pos (by omega)])|(rw [if_neg (by omega)]))
  clear k1 k2 k3 k4 k5
  go_enter Tryz.func44,Tryz.ntmps44
  go_wp2
  go_ret
  exact ⟨by rw [HF.out];rfl,hB0⟩
 have k5b:decide (k<1)=false:=by simp;omega
 have k6b:decide (4<k)=true:=by simp;omega
 have HF:Hid (Stg.err ⟨k,e,sd,c,l⟩=2):=by unfold Hid Stg.err;dsimp only;repeat (first|rfl|omega|(rw [if_pos (by omega)])|(rw [if_neg (by omega)]))
 clear k1 k2 k3 k4 k5
 go_enter Tryz.func44,Tryz.ntmps44
 go_wp2
 go_ret
 exact ⟨by rw [HF.out];rfl,hB0⟩
theorem svalidR_any (s:Stg):Calls Tryz.prog 49 #[stV s] w fun e w'=>e= .returned (.int .i64 s.err)∧Below w.heap.size w w':=by
 have hB0:=(Below.refl w.heap.size w).alloc (Nat.le_refl _) (stO s)
 obtain ⟨k,e,sd,c,l⟩:=s
 by_cases k1:k=1
 ·subst k1
  by_cases h1:e<0
  ·have h1b:decide (e<0)=true:=by simp [h1]
   have HF:Hid (Stg.err ⟨1,e,sd,c,l⟩=2):=by unfold Hid Stg.err;dsimp only;repeat (first|rfl|omega|(rw [if_pos (by omega)])|(rw [if_neg (by omega)]))
   clear h1
   go_enter Tryz.func49,Tryz.ntmps49
   go_wp2
   go_ret
   exact ⟨by rw [HF.out];rfl,hB0⟩
  have h1b:decide (e<0)=false:=by simp;omega
  by_cases h2:3<e
  ·have h2b:decide (3<e)=true:=by simp [h2]
   have HF:Hid (Stg.err ⟨1,e,sd,c,l⟩=2):=by unfold Hid Stg.err;dsimp only;repeat (first|rfl|omega|(rw [if_pos (by omega)])|(rw [if_neg (by omega)]))
   clear h1 h2
   go_enter Tryz.func49,Tryz.ntmps49
   go_wp2
   go_ret
   exact ⟨by rw [HF.out];rfl,hB0⟩
  have h2b:decide (3<e)=false:=by simp;omega
  by_cases h3:sd≠0
  ·have h3b:((sd:Int) !=0)=true:=by simp [h3]
   have HF:Hid (Stg.err ⟨1,e,sd,c,l⟩=1):=by unfold Hid Stg.err;dsimp only;repeat (first|rfl|omega|(rw [if_pos (by omega)])|(rw [if_neg (by omega)]))
   clear h1 h2 h3
   go_enter Tryz.func49,Tryz.ntmps49
   go_wp2
   go_ret
   exact ⟨by rw [HF.out];rfl,hB0⟩
  have h3b:((sd:Int) !=0)=false:=by simp;omega
  by_cases h4:c≠0
  ·have h4b:(c !=0)=true:=by simp [h4]
   have HF:Hid (Stg.err ⟨1,e,sd,c,l⟩=1):=by unfold Hid Stg.err;dsimp only;repeat (first|rfl|omega|(rw [if_pos (by omega)])|(rw [if_neg (by omega)]))
   clear h1 h2 h3 h4
   go_enter Tryz.func49,Tryz.ntmps49
   go_wp2
   go_ret
   exact ⟨by rw [HF.out];rfl,hB0⟩
  have h4b:(c !=0)=false:=by simp;omega
  by_cases h5:l≠0
  ·have h5b:(l !=0)=true:=by simp [h5]
   have HF:Hid (Stg.err ⟨1,e,sd,c,l⟩=1):=by unfold Hid Stg.err;dsimp only;repeat (first|rfl|omega|(rw [if_pos (by omega)])|(rw [if_neg (by omega)]))
   clear h1 h2 h3 h4 h5
   go_enter Tryz.func49,Tryz.ntmps49
   go_wp2
   go_ret
   exact ⟨by rw [HF.out];rfl,hB0⟩
  have h5b:(l !=0)=false:=by simp;omega
  have HF:Hid (Stg.err ⟨1,e,sd,c,l⟩=0):=by unfold Hid Stg.err;dsimp only;repeat (first|rfl|omega|(rw [if_pos (by omega)])|(rw [if_neg (by omega)]))
  clear h1 h2 h3 h4 h5
  go_enter Tryz.func49,Tryz.ntmps49
  go_wp2
  go_ret
  exact ⟨by rw [HF.out];rfl,hB0⟩
 have k1b:(k==1)=false:=by simp [k1]
 by_cases k2:k=2
 ·subst k2
  by_cases h1:e<0
  ·have h1b:decide (e<0)=true:=by simp [h1]
   have HF:Hid (Stg.err ⟨2,e,sd,c,l⟩=2):=by unfold Hid Stg.err;dsimp only;repeat (first|rfl|omega|(rw [if_pos (by omega)])|(rw [if_neg (by omega)]))
   clear h1
   go_enter Tryz.func49,Tryz.ntmps49
   go_wp2
   go_ret
   exact ⟨by rw [HF.out];rfl,hB0⟩
  have h1b:decide (e<0)=false:=by simp;omega
  by_cases h2:3<e
  ·have h2b:decide (3<e)=true:=by simp [h2]
   have HF:Hid (Stg.err ⟨2,e,sd,c,l⟩=2):=by unfold Hid Stg.err;dsimp only;repeat (first|rfl|omega|(rw [if_pos (by omega)])|(rw [if_neg (by omega)]))
   clear h1 h2
   go_enter Tryz.func49,Tryz.ntmps49
   go_wp2
   go_ret
   exact ⟨by rw [HF.out];rfl,hB0⟩
  have h2b:decide (3<e)=false:=by simp;omega
  by_cases h3:sd≠0
  ·have h3b:((sd:Int) !=0)=true:=by simp [h3]
   have HF:Hid (Stg.err ⟨2,e,sd,c,l⟩=1):=by unfold Hid Stg.err;dsimp only;repeat (first|rfl|omega|(rw [if_pos (by omega)])|(rw [if_neg (by omega)]))
   clear h1 h2 h3
   go_enter Tryz.func49,Tryz.ntmps49
   go_wp2
   go_ret
   exact ⟨by rw [HF.out];rfl,hB0⟩
  have h3b:((sd:Int) !=0)=false:=by simp;omega
  by_cases h4:c≠0
  ·have h4b:(c !=0)=true:=by simp [h4]
   have HF:Hid (Stg.err ⟨2,e,sd,c,l⟩=1):=by unfold Hid Stg.err;dsimp only;repeat (first|rfl|omega|(rw [if_pos (by omega)])|(rw [if_neg (by omega)]))
   clear h1 h2 h3 h4
   go_enter Tryz.func49,Tryz.ntmps49
   go_wp2
   go_ret
   exact ⟨by rw [HF.out];rfl,hB0⟩
  have h4b:(c !=0)=false:=by simp;omega
  by_cases h5:l≠0
  ·have h5b:(l !=0)=true:=by simp [h5]
   have HF:Hid (Stg.err ⟨2,e,sd,c,l⟩=1):=by unfold Hid Stg.err;dsimp only;repeat (first|rfl|omega|(rw [if_pos (by omega)])|(rw [if_neg (by omega)]))
   clear h1 h2 h3 h4 h5
   go_enter Tryz.func49,Tryz.ntmps49
   go_wp2
   go_ret
   exact ⟨by rw [HF.out];rfl,hB0⟩
  have h5b:(l !=0)=false:=by simp;omega
  have HF:Hid (Stg.err ⟨2,e,sd,c,l⟩=0):=by unfold Hid Stg.err;dsimp only;repeat (first|rfl|omega|(rw [if_pos (by omega)])|(rw [if_neg (by omega)]))
  clear h1 h2 h3 h4 h5
  go_enter Tryz.func49,Tryz.ntmps49
  go_wp2
  go_ret
  exact ⟨by rw [HF.out];rfl,hB0⟩
 have k2b:(k==2)=false:=by simp [k2]
 by_cases k3:k=3
 ·subst k3
  by_cases h1:e<0
  ·have h1b:decide (e<0)=true:=by simp [h1]
   have HF:Hid (Stg.err ⟨3,e,sd,c,l⟩=2):=by unfold Hid Stg.err;dsimp only;repeat (first|rfl|omega|(rw [if_pos (by omega)])|(rw [if_neg (by omega)]))
   clear h1
   go_enter Tryz.func49,Tryz.ntmps49
   go_wp2
   go_ret
   exact ⟨by rw [HF.out];rfl,hB0⟩
  have h1b:decide (e<0)=false:=by simp;omega
  by_cases h2:3<e
  ·have h2b:decide (3<e)=true:=by simp [h2]
   have HF:Hid (Stg.err ⟨3,e,sd,c,l⟩=2):=by unfold Hid Stg.err;dsimp only;repeat (first|rfl|omega|(rw [if_pos (by omega)])|(rw [if_neg (by omega)]))
   clear h1 h2
   go_enter Tryz.func49,Tryz.ntmps49
   go_wp2
   go_ret
   exact ⟨by rw [HF.out];rfl,hB0⟩
  have h2b:decide (3<e)=false:=by simp;omega
  by_cases h3:sd≠0
  ·have h3b:((sd:Int) !=0)=true:=by simp [h3]
   have HF:Hid (Stg.err ⟨3,e,sd,c,l⟩=1):=by unfold Hid Stg.err;dsimp only;repeat (first|rfl|omega|(rw [if_pos (by omega)])|(rw [if_neg (by omega)]))
   clear h1 h2 h3
   go_enter Tryz.func49,Tryz.ntmps49
   go_wp2
   go_ret
   exact ⟨by rw [HF.out];rfl,hB0⟩
  have h3b:((sd:Int) !=0)=false:=by simp;omega
  by_cases h4:c≠0
  ·have h4b:(c !=0)=true:=by simp [h4]
   have HF:Hid (Stg.err ⟨3,e,sd,c,l⟩=1):=by unfold Hid Stg.err;dsimp only;repeat (first|rfl|omega|(rw [if_pos (by omega)])|(rw [if_neg (by omega)]))
   clear h1 h2 h3 h4
   go_enter Tryz.func49,Tryz.ntmps49
   go_wp2
   go_ret
   exact ⟨by rw [HF.out];rfl,hB0⟩
  have h4b:(c !=0)=false:=by simp;omega
  by_cases h5:l≠0
  ·have h5b:(l !=0)=true:=by simp [h5]
   have HF:Hid (Stg.err ⟨3,e,sd,c,l⟩=1):=by unfold Hid Stg.err;dsimp only;repeat (first|rfl|omega|(rw [if_pos (by omega)])|(rw [if_neg (by omega)]))
   clear h1 h2 h3 h4 h5
   go_enter Tryz.func49,Tryz.ntmps49
   go_wp2
   go_ret
   exact ⟨by rw [HF.out];rfl,hB0⟩
  have h5b:(l !=0)=false:=by simp;omega
  have HF:Hid (Stg.err ⟨3,e,sd,c,l⟩=0):=by unfold Hid Stg.err;dsimp only;repeat (first|rfl|omega|(rw [if_pos (by omega)])|(rw [if_neg (by omega)]))
  clear h1 h2 h3 h4 h5
  go_enter Tryz.func49,Tryz.ntmps49
  go_wp2
  go_ret
  exact ⟨by rw [HF.out];rfl,hB0⟩
 have k3b:(k==3)=false:=by simp [k3]
 by_cases k4:k=4
 ·subst k4
  by_cases h1:e≠0
  ·have h1b:(e !=0)=true:=by simp [h1]
   have HF:Hid (Stg.err ⟨4,e,sd,c,l⟩=1):=by unfold Hid Stg.err;dsimp only;repeat (first|rfl|omega|(rw [if_pos (by omega)])|(rw [if_neg (by omega)]))
   clear h1
   go_enter Tryz.func49,Tryz.ntmps49
   go_wp2
   go_ret
   exact ⟨by rw [HF.out];rfl,hB0⟩
  have h1b:(e !=0)=false:=by simp;omega
  by_cases h2:c<0
  ·have h2b:decide (c<0)=true:=by simp [h2]
   have HF:Hid (Stg.err ⟨4,e,sd,c,l⟩=2):=by unfold Hid Stg.err;dsimp only;repeat (first|rfl|omega|(rw [if_pos (by omega)])|(rw [if_neg (by omega)]))
   clear h1 h2
   go_enter Tryz.func49,Tryz.ntmps49
   go_wp2
   go_ret
   exact ⟨by rw [HF.out];rfl,hB0⟩
  have h2b:decide (c<0)=false:=by simp;omega
  by_cases h3:10000<c
  ·have h3b:decide (10000<c)=true:=by simp [h3]
   have HF:Hid (Stg.err ⟨4,e,sd,c,l⟩=2):=by unfold Hid Stg.err;dsimp only;repeat (first|rfl|omega|(rw [if_pos (by omega)])|(rw [if_neg (by omega)]))
   clear h1 h2 h3
   go_enter Tryz.func49,Tryz.ntmps49
   go_wp2
   go_ret
   exact ⟨by rw [HF.out];rfl,hB0⟩
  have h3b:decide (10000<c)=false:=by simp;omega
  by_cases h4:l<0
  ·have h4b:decide (l<0)=true:=by simp [h4]
   have HF:Hid (Stg.err ⟨4,e,sd,c,l⟩=2):=by unfold Hid Stg.err;dsimp only;repeat (first|rfl|omega|(rw [if_pos (by omega)])|(rw [if_neg (by omega)]))
   clear h1 h2 h3 h4
   go_enter Tryz.func49,Tryz.ntmps49
   go_wp2
   go_ret
   exact ⟨by rw [HF.out];rfl,hB0⟩
  have h4b:decide (l<0)=false:=by simp;omega
  by_cases h5:1024<l
  ·have h5b:decide (1024<l)=true:=by simp [h5]
   have HF:Hid (Stg.err ⟨4,e,sd,c,l⟩=2):=by unfold Hid Stg.err;dsimp only;repeat (first|rfl|omega|(rw [if_pos (by omega)])|(rw [if_neg (by omega)]))
   clear h1 h2 h3 h4 h5
   go_enter Tryz.func49,Tryz.ntmps49
   go_wp2
   go_ret
   exact ⟨by rw [HF.out];rfl,hB0⟩
  have h5b:decide (1024<l)=false:=by simp;omega
  have HF:Hid (Stg.err ⟨4,e,sd,c,l⟩=0):=by unfold Hid Stg.err;dsimp only;repeat (first|rfl|omega|(rw [if_pos (by omega)])|(rw [if_neg (by omega)]))
  clear h1 h2 h3 h4 h5
  go_enter Tryz.func49,Tryz.ntmps49
  go_wp2
  go_ret
  exact ⟨by rw [HF.out];rfl,hB0⟩
 have k4b:(k==4)=false:=by simp [k4]
 by_cases k5:k<1
 ·have k5b:decide (k<1)=true:=by simp [k5]
  have HF:Hid (Stg.err ⟨k,e,sd,c,l⟩=2):=by unfold Hid Stg.err;dsimp only;repeat (first|rfl|omega|(rw [if_pos (by omega)])|(rw [if_neg (by omega)]))
  clear k1 k2 k3 k4 k5
  go_enter Tryz.func49,Tryz.ntmps49
  go_wp2
  go_ret
  exact ⟨by rw [HF.out];rfl,hB0⟩
 have k5b:decide (k<1)=false:=by simp;omega
 have k6b:decide (4<k)=true:=by simp;omega
 have HF:Hid (Stg.err ⟨k,e,sd,c,l⟩=2):=by unfold Hid Stg.err;dsimp only;repeat (first|rfl|omega|(rw [if_pos (by omega)])|(rw [if_neg (by omega)]))
 clear k1 k2 k3 k4 k5
 go_enter Tryz.func49,Tryz.ntmps49
 go_wp2
 go_ret
 exact ⟨by rw [HF.out];rfl,hB0⟩
end
theorem take_eq_succ {xs ys:List Int} {k:Nat} {x y:Int} (hx:xs[k]? =some x) (hy:ys[k]? =some y) (h:xs.take k=ys.take k) (e:x=y):xs.take (k+1)=ys.take (k+1):=by
 rw [List.take_add_one,List.take_add_one,hx,hy,h,e]
theorem ne_of_at {xs ys:List Int} {k:Nat} {x y:Int} (hx:xs[k]? =some x) (hy:ys[k]? =some y) (e:x≠y):¬xs=ys:=by
 intro h;rw [h,hy] at hx;simp at hx;exact e hx.symm
theorem eq_of_takes {xs ys:List Int} {k:Nat} (hl:xs.length=ys.length) (hk:k≤xs.length) (hk':¬k<xs.length) (h:xs.take k=ys.take k):xs=ys:=by
 rwa [List.take_of_length_le (by omega),List.take_of_length_le (by omega)] at h
theorem ret_bool {a b:Bool} (h:a=b):Ending.returned (.bool a)= .returned (.bool b):=by rw [h]
section
variable {M:Nat→Prop} {w:World} {a1 a2:Option Addr} {c1 c2:Nat} {xs ys:List Int}
theorem equal_any (h1:Sl M w a1 c1 xs) (h2:Sl M w a2 c2 ys):
    Calls Tryz.prog 465 #[.slice a1 xs.length c1,.slice a2 ys.length c2] w fun e w'=>e= .returned (.bool (decide (xs=ys)))∧∃n,w'=w.drewN n:=by
 have hx:=h1.le
 have hy:=h2.le
 by_cases hl:xs.length=ys.length
 ·have hl':((xs.length:Int) !=(ys.length:Int))=false:=by simp [hl]
  have HL:=Lib.hid hl
  clear hl
  go_enter Tryz.func465,Tryz.ntmps465
  go_wp2
  go_loopw [5] (fun i wr=>∃k n:Nat,k≤xs.length∧i= .int .i64 k∧wr=w.drewN n∧Hid (xs.take k=ys.take k)) (fun i _=>xs.length-(intOf i).toNat)
  case atStart=>exact ⟨0,0,Nat.zero_le _,rfl,rfl,rfl⟩
  case round=>
   obtain ⟨k,n,hk,rfl,rfl,hE⟩:=hrel
   by_cases hlt:k<xs.length
   ·have hlt2:k<ys.length:=HL.out▸hlt
    obtain ⟨b,off,x,rfl,hc,hx1, -⟩:=h1.at_int hlt
    obtain ⟨b2,off2,y,rfl,hc2,hx2, -⟩:=h2.at_int hlt2
    by_cases hxy:x=y
    ·have hxy':(x !=y)=false:=by simp [hxy]
     have HXY:=Lib.hid hxy;clear hxy
     go_wp2
     go_quiet (fail)
     go_wp2
     go_roundw
     case rel=>exact ⟨k+1,_,by omega,by go_num,rfl,take_eq_succ hx1.out hx2.out hE.out HXY.out⟩
     case measure=>simp [intOf];omega
    have hxy':(x !=y)=true:=by simp [hxy]
    have HXY:=Lib.hid hxy;clear hxy
    go_wp2
    go_quiet (fail)
    go_wp2
    go_ret
    exact ⟨ret_bool (by simpa using ne_of_at hx1.out hx2.out HXY.out),_,World.drewN_drewN _ _ _⟩
   go_wp2
   go_ret
   exact ⟨ret_bool (by simpa using eq_of_takes HL.out hk hlt hE.out),_,rfl⟩
 have hl':((xs.length:Int) !=(ys.length:Int))=true:=by simp;omega
 have HL:=Lib.hid hl
 clear hl
 go_enter Tryz.func465,Tryz.ntmps465
 go_wp2
 go_ret
 exact ⟨ret_bool (by have:=HL.out;simp;intro h;exact this (by rw [h])),0,rfl⟩
theorem ints_any (h1:Sl M w a1 c1 xs) (h2:Sl M w a2 c2 ys):
    Calls Tryz.prog 58 #[.slice a1 xs.length c1,.slice a2 ys.length c2] w fun e w'=>e= .returned (.bool (decide (xs=ys)))∧∃n,w'=w.drewN n:=by
 have hx:=h1.le
 have hy:=h2.le
 by_cases hl:xs.length=ys.length
 ·have hl':((xs.length:Int) !=(ys.length:Int))=false:=by simp [hl]
  have HL:=Lib.hid hl
  clear hl
  go_enter Tryz.func58,Tryz.ntmps58
  go_wp2
  go_loopw [5] (fun i wr=>∃k n:Nat,k≤xs.length∧i= .int .i64 k∧wr=w.drewN n∧Hid (xs.take k=ys.take k)) (fun i _=>xs.length-(intOf i).toNat)
  case atStart=>exact ⟨0,0,Nat.zero_le _,rfl,rfl,rfl⟩
  case round=>
   obtain ⟨k,n,hk,rfl,rfl,hE⟩:=hrel
   by_cases hlt:k<xs.length
   ·have hlt2:k<ys.length:=HL.out▸hlt
    obtain ⟨b,off,x,rfl,hc,hx1, -⟩:=h1.at_int hlt
    obtain ⟨b2,off2,y,rfl,hc2,hx2, -⟩:=h2.at_int hlt2
    by_cases hxy:x=y
    ·have hxy':(x !=y)=false:=by simp [hxy]
     have HXY:=Lib.hid hxy;clear hxy
     go_wp2
     go_quiet (fail)
     go_wp2
     go_roundw
     case rel=>exact ⟨k+1,_,by omega,by go_num,rfl,take_eq_succ hx1.out hx2.out hE.out HXY.out⟩
     case measure=>simp [intOf];omega
    have hxy':(x !=y)=true:=by simp [hxy]
    have HXY:=Lib.hid hxy;clear hxy
    go_wp2
    go_quiet (fail)
    go_wp2
    go_ret
    exact ⟨ret_bool (by simpa using ne_of_at hx1.out hx2.out HXY.out),_,World.drewN_drewN _ _ _⟩
   go_wp2
   go_ret
   exact ⟨ret_bool (by simpa using eq_of_takes HL.out hk hlt hE.out),_,rfl⟩
 have hl':((xs.length:Int) !=(ys.length:Int))=true:=by simp;omega
 have HL:=Lib.hid hl
 clear hl
 go_enter Tryz.func58,Tryz.ntmps58
 go_wp2
 go_ret
 exact ⟨ret_bool (by have:=HL.out;simp;intro h;exact this (by rw [h])),0,rfl⟩
end
def Mach.great (m:Mach):Bool:=decide (12<m.next.length)||decide (12<m.out.length)||decide (6<m.inputs)||m.next.any (fun r=>decide (12<r.length))||m.out.any (fun r=>decide (12<r.length))
section
variable {M:Nat→Prop} {w:World} {an ao:Option Addr} {cn co:Nat} {m:Mach}
end
theorem take_eq_succ' {α:Type} {xs ys:List α} {k:Nat} {x y:α} (hx:xs[k]? =some x) (hy:ys[k]? =some y) (h:xs.take k=ys.take k) (e:x=y):xs.take (k+1)=ys.take (k+1):=by
 rw [List.take_add_one,List.take_add_one,hx,hy,h,e]
theorem ne_of_at' {α:Type} {xs ys:List α} {k:Nat} {x y:α} (hx:xs[k]? =some x) (hy:ys[k]? =some y) (e:x≠y):¬xs=ys:=by
 intro h;rw [h,hy] at hx;simp at hx;exact e hx.symm
theorem eq_of_takes' {α:Type} {xs ys:List α} {k:Nat} (hl:xs.length=ys.length) (hk':¬k<xs.length) (h:xs.take k=ys.take k):xs=ys:=by
 rwa [List.take_of_length_le (by omega),List.take_of_length_le (by omega)] at h
theorem sl_dr {α:Type} [GR α] {M:Nat→Prop} {w wr:World} {a:Option Addr} {c:Nat} {l:List α} (h:Hid (∃n,wr=w.drewN n)) (hs:Sl M w a c l):Sl M wr a c l:=by
 obtain ⟨n,rfl⟩:=h.out
 exact hs.drewN n
theorem dr_add {w wr:World} (h:Hid (∃n,wr=w.drewN n)) (m:Nat):∃n,wr.drewN m=w.drewN n:=by
 obtain ⟨n,rfl⟩:=h.out
 exact ⟨_,World.drewN_drewN _ _ _⟩
section
variable {M:Nat→Prop} {w:World} {a1 a2:Option Addr} {c1 c2:Nat}
theorem ints_yes {xs ys:List Int} (h1:Sl M w a1 c1 xs) (h2:Sl M w a2 c2 ys) (h:xs=ys):
    Calls Tryz.prog 58 #[.slice a1 xs.length c1,.slice a2 ys.length c2] w fun e w'=>e= .returned (.bool true)∧∃n,w'=w.drewN n:=
 (ints_any h1 h2).mono fun e w' ⟨he,hw⟩=>⟨by rw [he];exact ret_bool (by simp [h]),hw⟩
theorem ints_no {xs ys:List Int} (h1:Sl M w a1 c1 xs) (h2:Sl M w a2 c2 ys) (h:xs≠ys):
    Calls Tryz.prog 58 #[.slice a1 xs.length c1,.slice a2 ys.length c2] w fun e w'=>e= .returned (.bool false)∧∃n,w'=w.drewN n:=
 (ints_any h1 h2).mono fun e w' ⟨he,hw⟩=>⟨by rw [he];exact ret_bool (by simp [h]),hw⟩
theorem lists_any {xs ys:List (List Int)} (h1:Sl M w a1 c1 xs) (h2:Sl M w a2 c2 ys):
    Calls Tryz.prog 31 #[.slice a1 xs.length c1,.slice a2 ys.length c2] w fun e w'=>e= .returned (.bool (decide (xs=ys)))∧∃n,w'=w.drewN n:=by
 have hx:=h1.le
 have hy:=h2.le
 by_cases hl:xs.length=ys.length
 ·have hl':((xs.length:Int) !=(ys.length:Int))=false:=by simp [hl]
  have HL:=Lib.hid hl
  clear hl
  go_enter Tryz.func31,Tryz.ntmps31
  go_wp2
  go_loopw [5] (fun i wr=>∃k:Nat,k≤xs.length∧i= .int .i64 k∧Hid (∃n,wr=w.drewN n)∧Hid (xs.take k=ys.take k)) (fun i _=>xs.length-(intOf i).toNat)
  case atStart=>exact ⟨0,Nat.zero_le _,rfl,⟨0,rfl⟩,rfl⟩
  case round=>
   obtain ⟨k,hk,rfl,hW,hE⟩:=hrel
   have h1r:=sl_dr hW h1
   have h2r:=sl_dr hW h2
   by_cases hlt:k<xs.length
   ·have hlt2:k<ys.length:=HL.out▸hlt
    obtain ⟨b,off,a3,x,c3,rfl,hc,hx1,hs1⟩:=h1r.at_row hlt
    obtain ⟨b2,off2,a4,y,c4,rfl,hc2,hx2,hs2⟩:=h2r.at_row hlt2
    by_cases hxy:x=y
    ·have HXY:=Lib.hid hxy;clear hxy
     go_wp2
     refine wp_quiet_fast (by kernel_rfl) (by kernel_rfl) ?_
     repeat (first|go_big_quiet_step ((go_at_call 58;exact Calls.quiet_of (ints_yes (hs1.drewN _) (hs2.drewN _) HXY.out)))|quiet_step ((go_at_call 58;exact Calls.quiet_of (ints_yes (hs1.drewN _) (hs2.drewN _) HXY.out))))
     refine wpQuiet_nil ?_
     intro _ hw'
     obtain ⟨nq,hw''⟩:=hw'
     subst hw''
     go_wp2
     go_roundw
     case rel=>exact ⟨k+1,by omega,by go_num,dr_add hW _,take_eq_succ' hx1.out hx2.out hE.out HXY.out⟩
     case measure=>simp [intOf];omega
    have HXY:=Lib.hid hxy;clear hxy
    go_wp2
    refine wp_quiet_fast (by kernel_rfl) (by kernel_rfl) ?_
    repeat (first|go_big_quiet_step ((go_at_call 58;exact Calls.quiet_of (ints_no (hs1.drewN _) (hs2.drewN _) HXY.out)))|quiet_step ((go_at_call 58;exact Calls.quiet_of (ints_no (hs1.drewN _) (hs2.drewN _) HXY.out))))
    refine wpQuiet_nil ?_
    intro _ hw'
    obtain ⟨nq,hw''⟩:=hw'
    subst hw''
    go_wp2
    go_ret
    exact ⟨ret_bool (by simpa using ne_of_at' hx1.out hx2.out HXY.out),dr_add hW _⟩
   go_wp2
   go_ret
   exact ⟨ret_bool (by simpa using eq_of_takes' HL.out hlt hE.out),hW.out⟩
 have hl':((xs.length:Int) !=(ys.length:Int))=true:=by simp;omega
 have HL:=Lib.hid hl
 clear hl
 go_enter Tryz.func31,Tryz.ntmps31
 go_wp2
 go_ret
 exact ⟨ret_bool (by have:=HL.out;simp;intro h;exact this (by rw [h])),0,rfl⟩
end
section
variable {M:Nat→Prop} {w:World} {an ao:Option Addr} {cn co:Nat} {m:Mach} {an' ao':Option Addr} {cn' co':Nat} {m':Mach}
end
end Go.Proofs.YtjmbphjgiodioaaGreatDoor
