/- Several texts, one behind the other. Conditions: as each of them says. -/
import Derived.Test.YtjagagpcjpcjjaaGreatMc2
import Derived.Test.YtjagagpcjpcjjaaGreatMc1
import Derived.Test.YtjagagpcjpcjjaaGreatProg
import Derived.WalkKit
import Derived.Lib.Hide
import Derived.Deep.QuietTactic
import Derived.BigQuiet
set_option maxRecDepth 100000
set_option maxHeartbeats 32000000
namespace Go.Proofs.YtjagagpcjpcjjaaGreat
open Go.RowKit
structure Ext (M M':Nat→Prop) (w w':World):Prop where
 size:w.heap.size≤w'.heap.size
 block:∀k,k<w.heap.size→¬M k→w'.heap[k]? =w.heap[k]?
 sub:∀k,k<w.heap.size→M' k→M k
theorem Ext.refl (M:Nat→Prop) (w:World):Ext M M w w:=⟨Nat.le_refl _,fun _ _ _=>rfl,fun _ _ h=>h⟩
theorem Ext.of_below {M:Nat→Prop} {w w':World} (h:Below w.heap.size w w'):Ext M M w w':=⟨h.size,fun k hk _=>h.block k hk,fun _ _ h=>h⟩
theorem Ext.sub_only {M M':Nat→Prop} {w:World} (h:∀k,k<w.heap.size→M' k→M k):Ext M M' w w:=⟨Nat.le_refl _,fun _ _ _=>rfl,h⟩
theorem Ext.alloc (M:Nat→Prop) (w:World) (o:Obj):Ext M M w (w.alloc o):=⟨by simp,fun k hk _=>Below.heap_alloc _ _ _ hk,fun _ _ h=>h⟩
theorem Ext.drew (M:Nat→Prop) (w:World):Ext M M w w.drew:=⟨Nat.le_refl _,fun _ _ _=>rfl,fun _ _ h=>h⟩
theorem Ext.setCell {M:Nat→Prop} (w:World) {p:Addr} (hp:M p.block) (u:Value):Ext M M w (w.setCell p u):=
 ⟨by simp [World.setCell],fun k _ hk=>Below.heap_setCell _ _ _ _ (fun e=>hk (e▸hp)),fun _ _ h=>h⟩
theorem Ext.trans {M M' M'':Nat→Prop} {a b c:World} (h:Ext M M' a b) (k:Ext M' M'' b c):Ext M M'' a c:=
 ⟨Nat.le_trans h.size k.size,fun i hi hm=>(k.block i (Nat.lt_of_lt_of_le hi h.size) (fun e=>hm (h.sub i hi e))).trans (h.block i hi hm),
  fun i hi hm=>h.sub i hi (k.sub i (Nat.lt_of_lt_of_le hi h.size) hm)⟩
theorem Ext.grownBy {M:Nat→Prop} {w w':World} {row:Option Nat} (hg:w.grownBy w' row) (hr:∀k,row=some k→M k):Ext M M w w':=
 ⟨hg.size,fun k hk hm=>hg.block k hk (fun e=>hm (hr k e.symm)),fun _ _ h=>h⟩
class GR (α:Type) where
 sz:Nat
 rep:(Nat→Prop)→World→List Value→α→Prop
 len:∀{M w cs a},rep M w cs a→cs.length=sz
 ext:∀{M M' w w' cs a},Ext M M' w w'→rep M w cs a→rep M' w' cs a
def i64 (x:Int):Prop:= -9223372036854775808≤x∧x≤9223372036854775807
instance:GR Int where
 sz:=1
 rep _ _ cs a:=cs=[.int .i64 a]∧i64 a
 len h:=by rw [h.1];rfl
 ext _ h:=h
instance:GR Bool where
 sz:=1
 rep _ _ cs a:=cs=[.bool a]
 len h:=by rw [h];rfl
 ext _ h:=h
def Sl {α:Type} [GR α] (M:Nat→Prop) (w:World) (a:Option Addr) (c:Nat) (l:List α):Prop:=
 l.length≤c∧c≤maxLen∧∀j x,l[j]? =some x→∃b off cs,a=some ⟨b,off,none⟩∧b<w.heap.size∧¬M b∧GR.rep M w cs x∧
  ∀i u,cs[i]? =some u→w.cell? ⟨b,off+j*GR.sz α+i,none⟩=some u
theorem Sl.ext {α:Type} [GR α] {M M':Nat→Prop} {w w':World} {a:Option Addr} {c:Nat} {l:List α} (e:Ext M M' w w') (h:Sl M w a c l):Sl M' w' a c l:=by
 refine ⟨h.1,h.2.1,fun j x hj=> ?_⟩
 obtain ⟨b,off,cs,ha,hb,hm,hr,hc⟩:=h.2.2 j x hj
 refine ⟨b,off,cs,ha,Nat.lt_of_lt_of_le hb e.size,fun h'=>hm (e.sub b hb h'),GR.ext e hr,fun i u hi=> ?_⟩
 rw [World.cell?_of_block (w:=w) (e.block b hb hm)]
 exact hc i u hi
instance {α:Type} [GR α]:GR (List α) where
 sz:=1
 rep M w cs l:=∃a c,cs=[.slice a l.length c]∧Sl M w a c l
 len h:=by obtain ⟨a,c,h,_⟩:=h;rw [h];rfl
 ext e h:=by obtain ⟨a,c,h,hs⟩:=h;exact ⟨a,c,h,hs.ext e⟩
section
variable {M M':Nat→Prop} {w w':World} {a:Option Addr} {c:Nat}
theorem Sl.below {α:Type} [GR α] {l:List α} (h:Sl M w a c l) (hb:Below w.heap.size w w'):Sl M w' a c l:=h.ext (Ext.of_below hb)
theorem Sl.anti {α:Type} [GR α] {l:List α} (h:Sl M w a c l) (hs:∀k,k<w.heap.size→M' k→M k):Sl M' w a c l:=h.ext (Ext.sub_only hs)
theorem Sl.alloc {α:Type} [GR α] {l:List α} (h:Sl M w a c l) (o:Obj):Sl M (w.alloc o) a c l:=h.ext (Ext.alloc _ _ _)
theorem Sl.drew {α:Type} [GR α] {l:List α} (h:Sl M w a c l):Sl M w.drew a c l:=h.ext (Ext.drew _ _)
theorem Sl.drewN {α:Type} [GR α] {l:List α} (h:Sl M w a c l) (n:Nat):Sl M (w.drewN n) a c l:=h.ext (M:=M) (w:=w) (w':=w.drewN n) ⟨Nat.le_refl _,fun _ _ _=>rfl,fun _ _ h=>h⟩
theorem Sl.le {α:Type} [GR α] {l:List α} (h:Sl M w a c l):l.length≤9223372036854775807:=by
 have:=Nat.le_trans h.1 h.2.1
 unfold maxLen at this
 exact this
theorem Sl.nil {α:Type} [GR α] (M:Nat→Prop) (w:World) (a:Option Addr) {c:Nat} (hc:c≤maxLen):Sl M w a c ([]:List α):=⟨Nat.zero_le _,hc,fun j x h=>by simp at h⟩
theorem Sl.at_int {l:List Int} (h:Sl M w a c l) {j:Nat} (hj:j<l.length):
    ∃b off x,a=some ⟨b,off,none⟩∧w.cell? ⟨b,off+j,none⟩=some (.int .i64 x)∧Hid (l[j]? =some x)∧Hid (i64 x):=by
 obtain ⟨b,off,cs,ha,_,_,⟨rfl,hi⟩,hc⟩:=h.2.2 j l[j] (by simp [hj])
 exact ⟨b,off,l[j],ha,by simpa [GR.sz] using hc 0 _ rfl,by unfold Hid;simp [hj],hi⟩
theorem Sl.at_bool {l:List Bool} (h:Sl M w a c l) {j:Nat} (hj:j<l.length):
    ∃b off x,a=some ⟨b,off,none⟩∧w.cell? ⟨b,off+j,none⟩=some (.bool x)∧Hid (l[j]? =some x):=by
 obtain ⟨b,off,cs,ha,_,_,rfl,hc⟩:=h.2.2 j l[j] (by simp [hj])
 exact ⟨b,off,l[j],ha,by simpa [GR.sz] using hc 0 _ rfl,by unfold Hid;simp [hj]⟩
theorem Sl.at_row {α:Type} [GR α] {l:List (List α)} (h:Sl M w a c l) {j:Nat} (hj:j<l.length):
    ∃b off a' r c',a=some ⟨b,off,none⟩∧w.cell? ⟨b,off+j,none⟩=some (.slice a' r.length c')∧Hid (l[j]? =some r)∧Sl M w a' c' r:=by
 obtain ⟨b,off,cs,ha,_,_,⟨a',c',rfl,hs⟩,hc⟩:=h.2.2 j l[j] (by simp [hj])
 exact ⟨b,off,a',l[j],c',ha,by simpa [GR.sz] using hc 0 _ rfl,by unfold Hid;simp [hj],hs⟩
end
structure Ma (M:Nat→Prop) (w:World) (an:Option Addr) (cn:Nat) (ao:Option Addr) (co:Nat) (m:Mach):Prop where
 inputs:i64 m.inputs
 start:i64 m.start
 next:Sl M w an cn m.next
 out:Sl M w ao co m.out
abbrev maV (m:Mach) (an:Option Addr) (cn:Nat) (ao:Option Addr) (co:Nat):Value:=
 .agg #[.int .i64 m.inputs,.int .i64 m.start,.slice an m.next.length cn,.slice ao m.out.length co]
theorem Ma.ext {M M':Nat→Prop} {w w':World} {an:Option Addr} {cn:Nat} {ao:Option Addr} {co:Nat} {m:Mach} (e:Ext M M' w w') (h:Ma M w an cn ao co m):Ma M' w' an cn ao co m:=
 ⟨h.inputs,h.start,h.next.ext e,h.out.ext e⟩
theorem Ma.below {M:Nat→Prop} {w w':World} {an:Option Addr} {cn:Nat} {ao:Option Addr} {co:Nat} {m:Mach} (h:Ma M w an cn ao co m) (hb:Below w.heap.size w w'):Ma M w' an cn ao co m:=h.ext (Ext.of_below hb)
instance:GR Mach where
 sz:=4
 rep M w cs m:=∃an cn ao co,cs=[.int .i64 m.inputs,.int .i64 m.start,.slice an m.next.length cn,.slice ao m.out.length co]∧Ma M w an cn ao co m
 len h:=by obtain ⟨_,_,_,_,h,_⟩:=h;rw [h];rfl
 ext e h:=by obtain ⟨an,cn,ao,co,h,hm⟩:=h;exact ⟨an,cn,ao,co,h,hm.ext e⟩
theorem Ma.row {M:Nat→Prop} {w:World} {an:Option Addr} {cn:Nat} {ao:Option Addr} {co:Nat} {m:Mach} (h:Ma M w an cn ao co m) (ok:m.Ok) {s:Nat} (hs:s<m.next.length):
    ∃bn on a1 r1 c1 bo oo a2 r2 c2,an=some ⟨bn,on,none⟩∧ao=some ⟨bo,oo,none⟩∧w.cell? ⟨bn,on+s,none⟩=some (.slice a1 r1.length c1)∧w.cell? ⟨bo,oo+s,none⟩=some (.slice a2 r2.length c2)∧
     Sl M w a1 c1 r1∧Sl M w a2 c2 r2∧Hid (m.next[s]? =some r1)∧Hid (m.out[s]? =some r2)∧Hid ((r1.length:Int)=m.inputs)∧Hid ((r2.length:Int)=m.inputs)∧Hid (r1.length=m.inputs.toNat∧r2.length=m.inputs.toNat):=by
 obtain ⟨bn,on,a1,r1,c1,h1,h2,h3,h4⟩:=h.next.at_row hs
 obtain ⟨bo,oo,a2,r2,c2,g1,g2,g3,g4⟩:=h.out.at_row (j:=s) (by rw [ok.lo];exact hs)
 have e1:=ok.rn s hs
 have e2:=ok.ro s hs
 rw [getD_of_some h3.out] at e1
 rw [getD_of_some g3.out] at e2
 exact ⟨bn,on,a1,r1,c1,bo,oo,a2,r2,c2,h1,g1,h2,g2,h4,g4,h3,g3,e1,e2,⟨by omega,by omega⟩⟩
theorem Ma.entry {M:Nat→Prop} {w:World} {m:Mach} (ok:m.Ok) {s:Nat} (hs:s<m.next.length) {a1 a2:Option Addr} {c1 c2:Nat} {r1 r2:List Int} (s1:Sl M w a1 c1 r1) (s2:Sl M w a2 c2 r2)
    (h1:Hid (m.next[s]? =some r1)) (h2:Hid (m.out[s]? =some r2)) (hl:Hid (r1.length=m.inputs.toNat∧r2.length=m.inputs.toNat)) {a:Nat} (ha:a<m.inputs.toNat):
    ∃b1 o1 x b2 o2 y,a1=some ⟨b1,o1,none⟩∧a2=some ⟨b2,o2,none⟩∧w.cell? ⟨b1,o1+a,none⟩=some (.int .i64 ((x:Nat):Int))∧w.cell? ⟨b2,o2+a,none⟩=some (.int .i64 y)∧
     x<m.next.length∧0≤y∧y≤1048576∧Hid (m.nx s a=x)∧Hid (m.ot s a=y)∧a<r1.length∧a<r2.length:=by
 have l1:a<r1.length:=by rw [hl.out.1];exact ha
 have l2:a<r2.length:=by rw [hl.out.2];exact ha
 obtain ⟨b1,o1,x,e1,e2,e3,_⟩:=s1.at_int l1
 obtain ⟨b2,o2,y,g1,g2,g3,_⟩:=s2.at_int l2
 have n1:m.nx s a=x:=by unfold Mach.nx;rw [getD_of_some h1.out,getD_of_some e3.out]
 have n2:m.ot s a=y:=by unfold Mach.ot;rw [getD_of_some h2.out,getD_of_some g3.out]
 have k1:=ok.nx s a hs ha
 have k2:=ok.ot s a hs ha
 rw [n1] at k1
 rw [n2] at k2
 obtain ⟨x',rfl⟩:=Int.eq_ofNat_of_zero_le k1.1
 exact ⟨b1,o1,x',b2,o2,y,e1,g1,e2,g2,by omega,k2.1,k2.2,n1,n2,l1,l2⟩
theorem i64_of_nat {n:Nat} (h:n≤9223372036854775807):i64 n:=by unfold i64;omega
theorem below_drewN (B:Nat) (w:World) (n:Nat):Below B w (w.drewN n):=⟨rfl,rfl,rfl,Nat.le_refl _,fun _ _=>rfl⟩
theorem bl_drewN {B:Nat} {a w:World} (h:Below B a w) (n:Nat):Below B a (w.drewN n):=h.trans (below_drewN B w n)
abbrev C4 (w:World) (b:Nat) (an:Option Addr) (cn:Nat) (ao:Option Addr) (co:Nat) (m:Mach):Prop:=
 w.cell? ⟨b,0,none⟩=some (.int .i64 m.inputs)∧w.cell? ⟨b,1,none⟩=some (.int .i64 m.start)∧w.cell? ⟨b,2,none⟩=some (.slice an m.next.length cn)∧w.cell? ⟨b,3,none⟩=some (.slice ao m.out.length co)
abbrev maO (m:Mach) (an:Option Addr) (cn:Nat) (ao:Option Addr) (co:Nat):Obj:= .cells #[.int .i64 m.inputs,.int .i64 m.start,.slice an m.next.length cn,.slice ao m.out.length co] 24
theorem lt_of_cell {w:World} {b o:Nat} {v:Value} (h:w.cell? ⟨b,o,none⟩=some v):b<w.heap.size:=by
 by_cases e:b<w.heap.size
 ·exact e
 exfalso
 unfold World.cell? at h
 simp only [Array.getElem?_eq_none (show w.heap.size≤b by omega)] at h
 cases h
section
variable {B b:Nat} {w w':World} {an ao:Option Addr} {cn co:Nat} {m:Mach}
theorem c4_new (w:World):C4 (w.alloc (maO m an cn ao co)) w.heap.size an cn ao co m:=by
 refine ⟨?_,?_,?_,?_⟩<;>simp
theorem C4.below (h:C4 w b an cn ao co m) (hb:Below B w w') (hlt:b<B):C4 w' b an cn ao co m:=
 ⟨(hb.cell (p:=⟨b,0,none⟩) hlt).trans h.1,(hb.cell (p:=⟨b,1,none⟩) hlt).trans h.2.1,(hb.cell (p:=⟨b,2,none⟩) hlt).trans h.2.2.1,(hb.cell (p:=⟨b,3,none⟩) hlt).trans h.2.2.2⟩
theorem C4.drew (h:C4 w b an cn ao co m):C4 w.drew b an cn ao co m:=⟨by simpa using h.1,by simpa using h.2.1,by simpa using h.2.2.1,by simpa using h.2.2.2⟩
end
section
variable {M:Nat→Prop} {w:World} {an ao:Option Addr} {cn co:Nat} {m:Mach}
theorem Ma.addr (h:Ma M w an cn ao co m) (ok:m.Ok):∃bn on bo oo,an=some ⟨bn,on,none⟩∧ao=some ⟨bo,oo,none⟩:=by
 obtain ⟨bn,on,_,_,_,bo,oo,_,_,_,h1,h2,_⟩:=h.row ok (s:=0) ok.n0
 exact ⟨bn,on,bo,oo,h1,h2⟩
theorem Ma.atS {bn on bo oo:Nat} (h:Ma M w (some ⟨bn,on,none⟩) cn (some ⟨bo,oo,none⟩) co m) (ok:m.Ok) {s x:Nat} (hs:s<m.next.length) (hx:x<m.inputs.toNat):
    ∃b1 o1 c1 l1 b2 o2 c2 l2 n y,w.cell? ⟨bn,on+s,none⟩=some (.slice (some ⟨b1,o1,none⟩) l1 c1)∧w.cell? ⟨bo,oo+s,none⟩=some (.slice (some ⟨b2,o2,none⟩) l2 c2)∧
     w.cell? ⟨b1,o1+x,none⟩=some (.int .i64 ((n:Nat):Int))∧w.cell? ⟨b2,o2+x,none⟩=some (.int .i64 y)∧n<m.next.length∧0≤y∧y≤1048576∧Hid (m.nx s x=n)∧Hid (m.ot s x=y)∧x<l1∧x<l2∧l1≤64∧l2≤64:=by
 obtain ⟨bn',on',a1,r1,c1,bo',oo',a2,r2,c2,h1,h2,h3,h4,h5,h6,h7,h8, -, -,h11⟩:=h.row ok hs
 obtain ⟨b1,o1,n,b2,o2,y,e1,e2,e3,e4,e5,e6,e7,e8,e9,e10,e11⟩:=Ma.entry ok hs h5 h6 h7 h8 h11 hx
 obtain ⟨rfl,rfl⟩:bn=bn'∧on=on':=by simpa using h1
 obtain ⟨rfl,rfl⟩:bo=bo'∧oo=oo':=by simpa using h2
 subst e1
 subst e2
 have i1:=ok.i1
 have l11:=h11.out
 exact ⟨b1,o1,c1,_,b2,o2,c2,_,n,y,h3,h4,e3,e4,e5,e6,e7,e8,e9,e10,e11,by omega,by omega⟩
end
theorem ret_int {a b:Int} (h:a=b):Ending.returned (.int .i64 a)= .returned (.int .i64 b):=by rw [h]
section
variable {M:Nat→Prop} {w:World} {an ao:Option Addr} {cn co:Nat} {m:Mach}
theorem rowErr_one (m:Mach) (s:Nat) {r1 r2:List Int} (h1:m.next[s]? =some r1) (h2:m.out[s]? =some r2) (h:(r1.length:Int)≠m.inputs∨(r2.length:Int)≠m.inputs):m.rowErr s=1:=by
 unfold Mach.rowErr
 rw [if_pos]
 unfold Mach.rowLens
 rw [getD_of_some h1,getD_of_some h2]
 omega
theorem rowErr_two (m:Mach) (s a:Nat) {r1 r2:List Int} {x y:Int} (h1:m.next[s]? =some r1) (h2:m.out[s]? =some r2) (l1:(r1.length:Int)=m.inputs) (l2:(r2.length:Int)=m.inputs)
    (ha:a<r1.length) (hx:r1[a]? =some x) (hy:r2[a]? =some y) (h:x<0∨(m.next.length:Int)≤x∨y<0∨1048576<y):m.rowErr s=2:=by
 unfold Mach.rowErr
 rw [if_neg,if_pos]
 ·refine ⟨a,by omega,?_⟩
  unfold Mach.badAt Mach.nx Mach.ot
  rw [getD_of_some h1,getD_of_some h2,getD_of_some hx,getD_of_some hy]
  exact h
 unfold Mach.rowLens
 rw [getD_of_some h1,getD_of_some h2]
 omega
theorem rowErr_zero (m:Mach) (s:Nat) {r1 r2:List Int} (h1:m.next[s]? =some r1) (h2:m.out[s]? =some r2) (l1:(r1.length:Int)=m.inputs) (l2:(r2.length:Int)=m.inputs)
    (h:∀a,a<r1.length→¬m.badAt s a):m.rowErr s=0:=by
 unfold Mach.rowErr
 rw [if_neg,if_neg]
 ·rintro ⟨a,ha,hb⟩
  exact h a (by omega) hb
 unfold Mach.rowLens
 rw [getD_of_some h1,getD_of_some h2]
 omega
theorem goodAt (m:Mach) (s a:Nat) {r1 r2:List Int} {x y:Int} (h1:m.next[s]? =some r1) (h2:m.out[s]? =some r2) (hx:r1[a]? =some x) (hy:r2[a]? =some y)
    (h:¬x<0∧¬(m.next.length:Int)≤x∧¬y<0∧¬1048576<y):¬m.badAt s a:=by
 unfold Mach.badAt Mach.nx Mach.ot
 rw [getD_of_some h1,getD_of_some h2,getD_of_some hx,getD_of_some hy]
 omega
end
section
variable {M:Nat→Prop} {w:World} {an ao:Option Addr} {cn co:Nat} {m:Mach}
end
section
variable {M:Nat→Prop} {w:World} {an ao:Option Addr} {cn co:Nat} {m:Mach}
theorem valid_any (hm:Ma M w an cn ao co m):
    Calls Tryz.prog 33 #[maV m an cn ao co] w fun e w'=>e= .returned (.int .i64 m.err)∧Below w.heap.size w w':=by
 have l1:=hm.next.le
 have l2:=hm.out.le
 rcases m.head_cases with ⟨g1,he⟩|⟨g1,g2,he⟩|⟨g1,g2,g3,he⟩|⟨g1,g2,g3,g4,he⟩|⟨g1,g2,g3,g4,g5,he⟩|⟨g1,g2,g3,g4,g5,g6,he⟩|⟨g1,g2,g3,g4,g5,g6,g7,he⟩|⟨g1,g2,g3,g4,g5,g6,g7,k2,he⟩
 iterate 7
  ·have K1:=Lib.hid he
   clear he
   go_enter Tryz.func33,Tryz.ntmps33
   go_wp2
   go_ret
   exact ⟨ret_int K1.out.symm,by (repeat' (first|with_reducible exact Below.refl _ _|with_reducible assumption|with_reducible refine bl_drewN ?_ _|with_reducible refine Below.drew ?_|with_reducible refine Below.alloc ?_ ?_ _|with_reducible refine Below.setCell ?_ ?_ _|omega|(simp;done)|(simp;omega)))⟩
 have K1:=Lib.hid he
 have K2:=Lib.hid k2
 clear he k2
 have hm2:Ma M (w.alloc (.cells #[.int .i64 m.inputs,.int .i64 m.start,.slice an m.next.length cn,.slice ao m.out.length co] 24)) an cn ao co m:=hm.ext (Ext.alloc _ _ _)
 go_enter Tryz.func33,Tryz.ntmps33
 go_wp2
 go_loopw [43] (fun i wr=>∃k n:Nat,k≤m.next.length∧i= .int .i64 k∧wr=(w.alloc (.cells #[.int .i64 m.inputs,.int .i64 m.start,.slice an m.next.length cn,.slice ao m.out.length co] 24)).drewN n∧Hid (m.rowsErr k=0)) (fun i _=>m.next.length-(intOf i).toNat)
 case atStart=>exact ⟨0,0,by omega,rfl,rfl,rfl⟩
 case round=>
  obtain ⟨k,n,hk,rfl,rfl,hE⟩:=hrel
  by_cases hlt:k<m.next.length
  ·have hlo:k<m.out.length:=by have:=K2.out;omega
   obtain ⟨b1,o1,a1,r1,c1,rfl,hc1,hr1,hs1⟩:=hm2.next.at_row hlt
   obtain ⟨b2,o2,a2,r2,c2,rfl,hc2,hr2,hs2⟩:=hm2.out.at_row hlo
   have r1le:=hs1.le
   have hsu:=m.rowsErr_succ k
   rw [hE.out,if_pos rfl] at hsu
   have HS:=Lib.hid hsu
   clear hsu
   by_cases e1:(r1.length:Int)=m.inputs
   ·have e1':((r1.length:Int) !=m.inputs)=false:=by simp [e1]
    have E1:=Lib.hid e1
    clear e1
    by_cases e2:(r2.length:Int)=m.inputs
    ·have e2':((r2.length:Int) !=m.inputs)=false:=by simp [e2]
     have E2:=Lib.hid e2
     clear e2
     go_wp2
     refine wp_quiet_fast (by kernel_rfl) (by kernel_rfl) ?_
     repeat (first|go_big_quiet_step (fail)|quiet_step (fail))
     refine wpQuiet_nil ?_
     intro _ hw'
     obtain ⟨nq,hw''⟩:=hw'
     subst hw''
     go_wp2
     go_loopw [68] (fun i wr=>∃a n:Nat,a≤r1.length∧i= .int .i64 a∧wr=(w.alloc (.cells #[.int .i64 m.inputs,.int .i64 m.start,.slice (some ⟨b1,o1,none⟩) m.next.length cn,.slice (some ⟨b2,o2,none⟩) m.out.length co] 24)).drewN n∧Hid (∀j,j<a→¬m.badAt k j)) (fun i _=>r1.length-(intOf i).toNat)
     case atStart=>exact ⟨0,_,by omega,rfl,rfl,by intro a ha;omega⟩
     case round=>
      obtain ⟨a,n2,ha,rfl,rfl,hF⟩:=hrel
      by_cases hla:a<r1.length
      ·have hla':(a:Int)<m.inputs:=by have:=E1.out;omega
       have hla2:a<r2.length:=by have:=E1.out;have:=E2.out;omega
       obtain ⟨b3,o3,x,rfl,hc3,hx, -⟩:=hs1.at_int hla
       obtain ⟨b4,o4,y,rfl,hc4,hy, -⟩:=hs2.at_int hla2
       go_wp2
       refine wp_quiet_fast (by kernel_rfl) (by kernel_rfl) ?_
       repeat (first|go_big_quiet_step (fail)|quiet_step (fail))
       refine wpQuiet_nil ?_
       intro _ hw'
       obtain ⟨nq,hw''⟩:=hw'
       subst hw''
       by_cases hb:x<0∨(m.next.length:Int)≤x∨y<0∨1048576<y
       ·have HB:=Lib.hid hb
        have hb4:x<0∨(¬x<0∧(m.next.length:Int)≤x)∨(¬x<0∧¬(m.next.length:Int)≤x∧y<0)∨(¬x<0∧¬(m.next.length:Int)≤x∧¬y<0∧1048576<y):=by omega
        clear hb
        rcases hb4 with t1|⟨t1,t2⟩|⟨t1,t2,t3⟩|⟨t1,t2,t3,t4⟩
        all_goals
         go_wp2
         go_ret
         exact ⟨ret_int (by rw [K1.out,m.rowsErr_stop (k:=k+1) (by omega) (by rw [HS.out,rowErr_two m k a hr1.out hr2.out E1.out E2.out hla hx.out hy.out HB.out];decide),HS.out,rowErr_two m k a hr1.out hr2.out E1.out E2.out hla hx.out hy.out HB.out]),by (repeat' (first|with_reducible exact Below.refl _ _|with_reducible assumption|with_reducible refine bl_drewN ?_ _|with_reducible refine Below.drew ?_|with_reducible refine Below.alloc ?_ ?_ _|with_reducible refine Below.setCell ?_ ?_ _|omega|(simp;done)|(simp;omega)))⟩
       have t1:¬x<0:=by omega
       have t2:¬(m.next.length:Int)≤x:=by omega
       have t3:¬y<0:=by omega
       have t4:¬1048576<y:=by omega
       clear hb
       go_wp2
       go_roundw
       case rel=>exact ⟨a+1,_,by omega,by go_num,rfl,fun j hj=>by
        by_cases e:j=a
        ·rw [e];exact goodAt m k a hr1.out hr2.out hx.out hy.out ⟨t1,t2,t3,t4⟩
        exact hF.out j (by omega)⟩
       case measure=>simp [intOf];omega
      have hla':¬(a:Int)<m.inputs:=by have:=E1.out;omega
      go_wp2
      go_roundw
      case rel=>exact ⟨k+1,_,by omega,by go_num,rfl,HS.out.trans (rowErr_zero m k hr1.out hr2.out E1.out E2.out (fun j hj=>hF.out j (by omega)))⟩
      case measure=>simp [intOf];omega
    have e2':((r2.length:Int) !=m.inputs)=true:=by simp [e2]
    have E2:=Lib.hid e2
    clear e2
    go_wp2
    refine wp_quiet_fast (by kernel_rfl) (by kernel_rfl) ?_
    repeat (first|go_big_quiet_step (fail)|quiet_step (fail))
    refine wpQuiet_nil ?_
    intro _ hw'
    obtain ⟨nq,hw''⟩:=hw'
    subst hw''
    go_wp2
    go_ret
    exact ⟨ret_int (by rw [K1.out,m.rowsErr_stop (k:=k+1) (by omega) (by rw [HS.out,rowErr_one m k hr1.out hr2.out (.inr E2.out)];decide),HS.out,rowErr_one m k hr1.out hr2.out (.inr E2.out)]),by (repeat' (first|with_reducible exact Below.refl _ _|with_reducible assumption|with_reducible refine bl_drewN ?_ _|with_reducible refine Below.drew ?_|with_reducible refine Below.alloc ?_ ?_ _|with_reducible refine Below.setCell ?_ ?_ _|omega|(simp;done)|(simp;omega)))⟩
   have e1':((r1.length:Int) !=m.inputs)=true:=by simp [e1]
   have E1:=Lib.hid e1
   clear e1
   go_wp2
   refine wp_quiet_fast (by kernel_rfl) (by kernel_rfl) ?_
   repeat (first|go_big_quiet_step (fail)|quiet_step (fail))
   refine wpQuiet_nil ?_
   intro _ hw'
   obtain ⟨nq,hw''⟩:=hw'
   subst hw''
   go_wp2
   go_ret
   exact ⟨ret_int (by rw [K1.out,m.rowsErr_stop (k:=k+1) (by omega) (by rw [HS.out,rowErr_one m k hr1.out hr2.out (.inl E1.out)];decide),HS.out,rowErr_one m k hr1.out hr2.out (.inl E1.out)]),by (repeat' (first|with_reducible exact Below.refl _ _|with_reducible assumption|with_reducible refine bl_drewN ?_ _|with_reducible refine Below.drew ?_|with_reducible refine Below.alloc ?_ ?_ _|with_reducible refine Below.setCell ?_ ?_ _|omega|(simp;done)|(simp;omega)))⟩
  have e:k=m.next.length:=by omega
  have HE:=Lib.hid e
  clear e
  go_wp2
  go_ret
  exact ⟨ret_int (by rw [K1.out,←HE.out,hE.out]),by (repeat' (first|with_reducible exact Below.refl _ _|with_reducible assumption|with_reducible refine bl_drewN ?_ _|with_reducible refine Below.drew ?_|with_reducible refine Below.alloc ?_ ?_ _|with_reducible refine Below.setCell ?_ ?_ _|omega|(simp;done)|(simp;omega)))⟩
end
theorem take_eq_succ {xs ys:List Int} {k:Nat} {x y:Int} (hx:xs[k]? =some x) (hy:ys[k]? =some y) (h:xs.take k=ys.take k) (e:x=y):xs.take (k+1)=ys.take (k+1):=by
 rw [List.take_add_one,List.take_add_one,hx,hy,h,e]
theorem ne_of_at {xs ys:List Int} {k:Nat} {x y:Int} (hx:xs[k]? =some x) (hy:ys[k]? =some y) (e:x≠y):¬xs=ys:=by
 intro h;rw [h,hy] at hx;simp at hx;exact e hx.symm
theorem eq_of_takes {xs ys:List Int} {k:Nat} (hl:xs.length=ys.length) (hk:k≤xs.length) (hk':¬k<xs.length) (h:xs.take k=ys.take k):xs=ys:=by
 rwa [List.take_of_length_le (by omega),List.take_of_length_le (by omega)] at h
theorem ret_bool {a b:Bool} (h:a=b):Ending.returned (.bool a)= .returned (.bool b):=by rw [h]
section
variable {M:Nat→Prop} {w:World} {a1 a2:Option Addr} {c1 c2:Nat} {xs ys:List Int}
theorem ints_any (h1:Sl M w a1 c1 xs) (h2:Sl M w a2 c2 ys):
    Calls Tryz.prog 22 #[.slice a1 xs.length c1,.slice a2 ys.length c2] w fun e w'=>e= .returned (.bool (decide (xs=ys)))∧∃n,w'=w.drewN n:=by
 have hx:=h1.le
 have hy:=h2.le
 by_cases hl:xs.length=ys.length
 ·have hl':((xs.length:Int) !=(ys.length:Int))=false:=by simp [hl]
  have HL:=Lib.hid hl
  clear hl
  go_enter Tryz.func22,Tryz.ntmps22
  go_wp2
  go_loopw [5] (fun i wr=>∃k n:Nat,k≤xs.length∧i= .int .i64 k∧wr=w.drewN n∧Hid (xs.take k=ys.take k)) (fun i _=>xs.length-(intOf i).toNat)
  case atStart=>exact ⟨0,0,Nat.zero_le _,rfl,rfl,rfl⟩
  case round=>
   obtain ⟨k,n,hk,rfl,rfl,hE⟩:=hrel
   by_cases hlt:k<xs.length
   ·have hlt2:k<ys.length:=HL.out▸hlt
    obtain ⟨b,off,x,rfl,hc,hx1, -⟩:=h1.at_int hlt
    obtain ⟨b2,off2,y,rfl,hc2,hx2, -⟩:=h2.at_int hlt2
    by_cases hxy:x=y
    ·have hxy':(x !=y)=false:=by simp [hxy]
     have HXY:=Lib.hid hxy;clear hxy
     go_wp2
     go_quiet (fail)
     go_wp2
     go_roundw
     case rel=>exact ⟨k+1,_,by omega,by go_num,rfl,take_eq_succ hx1.out hx2.out hE.out HXY.out⟩
     case measure=>simp [intOf];omega
    have hxy':(x !=y)=true:=by simp [hxy]
    have HXY:=Lib.hid hxy;clear hxy
    go_wp2
    go_quiet (fail)
    go_wp2
    go_ret
    exact ⟨ret_bool (by simpa using ne_of_at hx1.out hx2.out HXY.out),_,World.drewN_drewN _ _ _⟩
   go_wp2
   go_ret
   exact ⟨ret_bool (by simpa using eq_of_takes HL.out hk hlt hE.out),_,rfl⟩
 have hl':((xs.length:Int) !=(ys.length:Int))=true:=by simp;omega
 have HL:=Lib.hid hl
 clear hl
 go_enter Tryz.func22,Tryz.ntmps22
 go_wp2
 go_ret
 exact ⟨ret_bool (by have:=HL.out;simp;intro h;exact this (by rw [h])),0,rfl⟩
theorem sequal_any (h1:Sl M w a1 c1 xs) (h2:Sl M w a2 c2 ys):
    Calls Tryz.prog 175 #[.slice a1 xs.length c1,.slice a2 ys.length c2] w fun e w'=>e= .returned (.bool (decide (xs=ys)))∧∃n,w'=w.drewN n:=by
 have hx:=h1.le
 have hy:=h2.le
 by_cases hl:xs.length=ys.length
 ·have hl':((xs.length:Int) !=(ys.length:Int))=false:=by simp [hl]
  have HL:=Lib.hid hl
  clear hl
  go_enter Tryz.func175,Tryz.ntmps175
  go_wp2
  go_loopw [13] (fun i wr=>∃k n:Nat,k≤xs.length∧i= .int .i64 k∧wr=w.drewN n∧Hid (xs.take k=ys.take k)) (fun i _=>xs.length-(intOf i).toNat)
  case atStart=>exact ⟨0,0,Nat.zero_le _,rfl,rfl,rfl⟩
  case round=>
   obtain ⟨k,n,hk,rfl,rfl,hE⟩:=hrel
   by_cases hlt:k<xs.length
   ·have hlt2:k<ys.length:=HL.out▸hlt
    obtain ⟨b,off,x,rfl,hc,hx1, -⟩:=h1.at_int hlt
    obtain ⟨b2,off2,y,rfl,hc2,hx2, -⟩:=h2.at_int hlt2
    by_cases hxy:x=y
    ·have hxy':(x !=y)=false:=by simp [hxy]
     have HXY:=Lib.hid hxy;clear hxy
     go_wp2
     go_quiet (fail)
     go_wp2
     go_roundw
     case rel=>exact ⟨k+1,_,by omega,by go_num,rfl,take_eq_succ hx1.out hx2.out hE.out HXY.out⟩
     case measure=>simp [intOf];omega
    have hxy':(x !=y)=true:=by simp [hxy]
    have HXY:=Lib.hid hxy;clear hxy
    go_wp2
    go_quiet (fail)
    go_wp2
    go_ret
    exact ⟨ret_bool (by simpa using ne_of_at hx1.out hx2.out HXY.out),_,World.drewN_drewN _ _ _⟩
   go_wp2
   go_ret
   exact ⟨ret_bool (by simpa using eq_of_takes HL.out hk hlt hE.out),_,rfl⟩
 have hl':((xs.length:Int) !=(ys.length:Int))=true:=by simp;omega
 have HL:=Lib.hid hl
 clear hl
 go_enter Tryz.func175,Tryz.ntmps175
 go_wp2
 go_ret
 exact ⟨ret_bool (by have:=HL.out;simp;intro h;exact this (by rw [h])),0,rfl⟩
end
def Mach.great (m:Mach):Bool:=decide (12<m.next.length)||decide (12<m.out.length)||decide (6<m.inputs)||m.next.any (fun r=>decide (12<r.length))||m.out.any (fun r=>decide (12<r.length))
section
variable {M:Nat→Prop} {w:World} {an ao:Option Addr} {cn co:Nat} {m:Mach}
end
theorem take_eq_succ' {α:Type} {xs ys:List α} {k:Nat} {x y:α} (hx:xs[k]? =some x) (hy:ys[k]? =some y) (h:xs.take k=ys.take k) (e:x=y):xs.take (k+1)=ys.take (k+1):=by
 rw [List.take_add_one,List.take_add_one,hx,hy,h,e]
theorem ne_of_at' {α:Type} {xs ys:List α} {k:Nat} {x y:α} (hx:xs[k]? =some x) (hy:ys[k]? =some y) (e:x≠y):¬xs=ys:=by
 intro h;rw [h,hy] at hx;simp at hx;exact e hx.symm
theorem eq_of_takes' {α:Type} {xs ys:List α} {k:Nat} (hl:xs.length=ys.length) (hk':¬k<xs.length) (h:xs.take k=ys.take k):xs=ys:=by
 rwa [List.take_of_length_le (by omega),List.take_of_length_le (by omega)] at h
theorem sl_dr {α:Type} [GR α] {M:Nat→Prop} {w wr:World} {a:Option Addr} {c:Nat} {l:List α} (h:Hid (∃n,wr=w.drewN n)) (hs:Sl M w a c l):Sl M wr a c l:=by
 obtain ⟨n,rfl⟩:=h.out
 exact hs.drewN n
theorem dr_add {w wr:World} (h:Hid (∃n,wr=w.drewN n)) (m:Nat):∃n,wr.drewN m=w.drewN n:=by
 obtain ⟨n,rfl⟩:=h.out
 exact ⟨_,World.drewN_drewN _ _ _⟩
section
variable {M:Nat→Prop} {w:World} {a1 a2:Option Addr} {c1 c2:Nat}
theorem ints_yes {xs ys:List Int} (h1:Sl M w a1 c1 xs) (h2:Sl M w a2 c2 ys) (h:xs=ys):
    Calls Tryz.prog 22 #[.slice a1 xs.length c1,.slice a2 ys.length c2] w fun e w'=>e= .returned (.bool true)∧∃n,w'=w.drewN n:=
 (ints_any h1 h2).mono fun e w' ⟨he,hw⟩=>⟨by rw [he];exact ret_bool (by simp [h]),hw⟩
theorem ints_no {xs ys:List Int} (h1:Sl M w a1 c1 xs) (h2:Sl M w a2 c2 ys) (h:xs≠ys):
    Calls Tryz.prog 22 #[.slice a1 xs.length c1,.slice a2 ys.length c2] w fun e w'=>e= .returned (.bool false)∧∃n,w'=w.drewN n:=
 (ints_any h1 h2).mono fun e w' ⟨he,hw⟩=>⟨by rw [he];exact ret_bool (by simp [h]),hw⟩
theorem lists_any {xs ys:List (List Int)} (h1:Sl M w a1 c1 xs) (h2:Sl M w a2 c2 ys):
    Calls Tryz.prog 14 #[.slice a1 xs.length c1,.slice a2 ys.length c2] w fun e w'=>e= .returned (.bool (decide (xs=ys)))∧∃n,w'=w.drewN n:=by
 have hx:=h1.le
 have hy:=h2.le
 by_cases hl:xs.length=ys.length
 ·have hl':((xs.length:Int) !=(ys.length:Int))=false:=by simp [hl]
  have HL:=Lib.hid hl
  clear hl
  go_enter Tryz.func14,Tryz.ntmps14
  go_wp2
  go_loopw [5] (fun i wr=>∃k:Nat,k≤xs.length∧i= .int .i64 k∧Hid (∃n,wr=w.drewN n)∧Hid (xs.take k=ys.take k)) (fun i _=>xs.length-(intOf i).toNat)
  case atStart=>exact ⟨0,Nat.zero_le _,rfl,⟨0,rfl⟩,rfl⟩
  case round=>
   obtain ⟨k,hk,rfl,hW,hE⟩:=hrel
   have h1r:=sl_dr hW h1
   have h2r:=sl_dr hW h2
   by_cases hlt:k<xs.length
   ·have hlt2:k<ys.length:=HL.out▸hlt
    obtain ⟨b,off,a3,x,c3,rfl,hc,hx1,hs1⟩:=h1r.at_row hlt
    obtain ⟨b2,off2,a4,y,c4,rfl,hc2,hx2,hs2⟩:=h2r.at_row hlt2
    by_cases hxy:x=y
    ·have HXY:=Lib.hid hxy;clear hxy
     go_wp2
     refine wp_quiet_fast (by kernel_rfl) (by kernel_rfl) ?_
     repeat (first|go_big_quiet_step ((go_at_call 22;exact Calls.quiet_of (ints_yes (hs1.drewN _) (hs2.drewN _) HXY.out)))|quiet_step ((go_at_call 22;exact Calls.quiet_of (ints_yes (hs1.drewN _) (hs2.drewN _) HXY.out))))
     refine wpQuiet_nil ?_
     intro _ hw'
     obtain ⟨nq,hw''⟩:=hw'
     subst hw''
     go_wp2
     go_roundw
     case rel=>exact ⟨k+1,by omega,by go_num,dr_add hW _,take_eq_succ' hx1.out hx2.out hE.out HXY.out⟩
     case measure=>simp [intOf];omega
    have HXY:=Lib.hid hxy;clear hxy
    go_wp2
    refine wp_quiet_fast (by kernel_rfl) (by kernel_rfl) ?_
    repeat (first|go_big_quiet_step ((go_at_call 22;exact Calls.quiet_of (ints_no (hs1.drewN _) (hs2.drewN _) HXY.out)))|quiet_step ((go_at_call 22;exact Calls.quiet_of (ints_no (hs1.drewN _) (hs2.drewN _) HXY.out))))
    refine wpQuiet_nil ?_
    intro _ hw'
    obtain ⟨nq,hw''⟩:=hw'
    subst hw''
    go_wp2
    go_ret
    exact ⟨ret_bool (by simpa using ne_of_at' hx1.out hx2.out HXY.out),dr_add hW _⟩
   go_wp2
   go_ret
   exact ⟨ret_bool (by simpa using eq_of_takes' HL.out hlt hE.out),hW.out⟩
 have hl':((xs.length:Int) !=(ys.length:Int))=true:=by simp;omega
 have HL:=Lib.hid hl
 clear hl
 go_enter Tryz.func14,Tryz.ntmps14
 go_wp2
 go_ret
 exact ⟨ret_bool (by have:=HL.out;simp;intro h;exact this (by rw [h])),0,rfl⟩
end
section
variable {M:Nat→Prop} {w:World} {an ao:Option Addr} {cn co:Nat} {m:Mach} {an' ao':Option Addr} {cn' co':Nat} {m':Mach}
end
def chk (a b:Mach):Int:=if a.err≠0 then a.err else if b.err≠0 then b.err else if a.inputs≠b.inputs then 15 else 0
theorem chk_a {a b:Mach} (h:¬a.err=0):chk a b=a.err:=by unfold chk;rw [if_pos h]
theorem chk_b {a b:Mach} (h:a.err=0) (h2:¬b.err=0):chk a b=b.err:=by unfold chk;rw [if_neg (by simpa using h),if_pos h2]
theorem chk_i {a b:Mach} (h:a.err=0) (h2:b.err=0) (h3:¬a.inputs=b.inputs):chk a b=15:=by unfold chk;rw [if_neg (by simpa using h),if_neg (by simpa using h2),if_pos h3]
theorem chk_0 {a b:Mach} (h:a.err=0) (h2:b.err=0) (h3:a.inputs=b.inputs):chk a b=0:=by unfold chk;rw [if_neg (by simpa using h),if_neg (by simpa using h2),if_neg (by simpa using h3)]
theorem chk_zero {a b:Mach} (h:chk a b=0):a.err=0∧b.err=0∧a.inputs=b.inputs:=by
 by_cases h1:a.err=0
 ·by_cases h2:b.err=0
  ·by_cases h3:a.inputs=b.inputs
   ·exact ⟨h1,h2,h3⟩
   rw [chk_i h1 h2 h3] at h;simp at h
  rw [chk_b h1 h2] at h;exact absurd h h2
 rw [chk_a h1] at h;exact absurd h h1
section
variable {M:Nat→Prop} {w:World} {an ao bn bo:Option Addr} {acn aco bcn bco:Nat} {a b:Mach}
theorem check_any (ha:Ma M w an acn ao aco a) (hb:Ma M w bn bcn bo bco b):
    Calls Tryz.prog 122 #[maV a an acn ao aco,maV b bn bcn bo bco] w fun e w'=>e= .returned (.int .i64 (chk a b))∧Below w.heap.size w w':=by
 have HA:=Lib.hid (ha.ext ((Ext.alloc M w (maO a an acn ao aco)).trans (Ext.alloc M _ (maO b bn bcn bo bco))))
 have HB:=Lib.hid (hb.ext ((Ext.alloc M w (maO a an acn ao aco)).trans (Ext.alloc M _ (maO b bn bcn bo bco))))
 have hB0:Below (w.heap.size+2) ((w.alloc (maO a an acn ao aco)).alloc (maO b bn bcn bo bco)) ((w.alloc (maO a an acn ao aco)).alloc (maO b bn bcn bo bco)):=Below.refl _ _
 have h0:Below w.heap.size w ((w.alloc (maO a an acn ao aco)).alloc (maO b bn bcn bo bco)):=((Below.refl _ _).alloc (Nat.le_refl _) _).alloc (by simp) _
 have hCa:C4 ((w.alloc (maO a an acn ao aco)).alloc (maO b bn bcn bo bco)) w.heap.size an acn ao aco a:=(c4_new w).below (B:=w.heap.size+1) ((Below.refl _ _).alloc (by simp) _) (by omega)
 have hCb:C4 ((w.alloc (maO a an acn ao aco)).alloc (maO b bn bcn bo bco)) (w.heap.size+1) bn bcn bo bco b:=by simpa using c4_new (m:=b) (an:=bn) (cn:=bcn) (ao:=bo) (co:=bco) (w.alloc (maO a an acn ao aco))
 have hz0:w.heap.size+2≤((w.alloc (maO a an acn ao aco)).alloc (maO b bn bcn bo bco)).heap.size:=by simp
 have hzW:((w.alloc (maO a an acn ao aco)).alloc (maO b bn bcn bo bco)).heap.size≤w.heap.size+2:=by simp
 have i0:∀w,(Instr.index 211 (.agg #[.int .i64 a.inputs,.int .i64 a.start,.slice an a.next.length acn,.slice ao a.out.length aco,.int .i64 b.inputs,.int .i64 b.start,.slice bn b.next.length bcn,.slice bo b.out.length bco]) (.int .i64 0)).run Tryz.prog w= .ok (.agg #[.int .i64 a.inputs,.int .i64 a.start,.slice an a.next.length acn,.slice ao a.out.length aco]) w:=fun _=>by kernel_rfl
 have i1:∀w,(Instr.index 211 (.agg #[.int .i64 a.inputs,.int .i64 a.start,.slice an a.next.length acn,.slice ao a.out.length aco,.int .i64 b.inputs,.int .i64 b.start,.slice bn b.next.length bcn,.slice bo b.out.length bco]) (.int .i64 1)).run Tryz.prog w= .ok (.agg #[.int .i64 b.inputs,.int .i64 b.start,.slice bn b.next.length bcn,.slice bo b.out.length bco]) w:=fun _=>by kernel_rfl
 clear ha hb
 go_enter Tryz.func122,Tryz.ntmps122
 go_wp2
 obtain ⟨W,hW⟩:∃W,W=((w.alloc (maO a an acn ao aco)).alloc (maO b bn bcn bo bco)):=⟨_,rfl⟩
 rw [←hW] at HA HB hB0 h0 hCa hCb hz0 hzW ⊢
 clear hW
 go_loopw [11] (fun i wr=>∃k:Nat,k≤2∧i= .int .i64 k∧Hid ((1≤k→a.err=0)∧(2≤k→b.err=0))∧Below (w.heap.size+2) W wr) (fun i _=>2-(intOf i).toNat)
 case atStart=>exact ⟨0,by omega,rfl,⟨fun h=>by omega,fun h=>by omega⟩,hB0⟩
 case round=>
  clear hB0
  obtain ⟨k,hk,rfl,hE,hB⟩:=hrel
  obtain ⟨w1,rfl⟩:∃w1:World,w1=wr:=⟨_,rfl⟩
  have hz1:w.heap.size+2≤w1.heap.size:=by have:=hB.size;omega
  by_cases k0:k=0
  ·subst k0
   have HV:=Lib.hid (valid_any ((HA.out.below (hB.mono hzW)).ext (Ext.alloc M w1 (maO a an acn ao aco))))
   go_wp2_with fail
   refine (HV.out).mono ?_
   rintro e w2 ⟨rfl,hb2⟩
   have hB2:Below (w.heap.size+2) W w2:=(hB.alloc hz1 _).trans (hb2.mono (by simp;omega))
   clear hb2 HV
   by_cases h1:a.err=0
   ·have h1':(a.err !=0)=false:=by simp [h1]
    have H1:=Lib.hid h1
    clear h1
    go_wp2
    go_roundw
    case rel=>exact ⟨1,by omega,by go_num,⟨fun _=>H1.out,fun h=>by omega⟩,hB2⟩
    case measure=>simp [intOf]
   have h1':(a.err !=0)=true:=by simp [h1]
   have H3:=Lib.hid (chk_a (b:=b) h1)
   clear h1
   have hBf:=h0.trans (hB2.mono (by omega))
   go_wp2
   go_ret
   exact ⟨ret_int H3.out.symm,hBf⟩
  by_cases k1:k=1
  ·subst k1
   have H1:=Lib.hid (hE.out.1 (by omega))
   have HV:=Lib.hid (valid_any ((HB.out.below (hB.mono hzW)).ext (Ext.alloc M w1 (maO b bn bcn bo bco))))
   go_wp2_with fail
   refine (HV.out).mono ?_
   rintro e w2 ⟨rfl,hb2⟩
   have hB2:Below (w.heap.size+2) W w2:=(hB.alloc hz1 _).trans (hb2.mono (by simp;omega))
   clear hb2 HV
   by_cases h1:b.err=0
   ·have h1':(b.err !=0)=false:=by simp [h1]
    have H2:=Lib.hid h1
    clear h1
    go_wp2
    go_roundw
    case rel=>exact ⟨2,by omega,by go_num,⟨fun _=>H1.out,fun _=>H2.out⟩,hB2⟩
    case measure=>simp [intOf]
   have h1':(b.err !=0)=true:=by simp [h1]
   have H3:=Lib.hid (chk_b H1.out h1)
   clear h1
   have hBf:=h0.trans (hB2.mono (by omega))
   go_wp2
   go_ret
   exact ⟨ret_int H3.out.symm,hBf⟩
  have hk2:k=2:=by omega
  subst hk2
  have H1:=Lib.hid (hE.out.1 (by omega))
  have H2:=Lib.hid (hE.out.2 (by omega))
  obtain ⟨j0,j1,j2,j3⟩:=hCa.below hB (by omega)
  obtain ⟨k0,k1,k2,k3⟩:=hCb.below hB (by omega)
  have hBf:=h0.trans (hB.mono (by omega))
  by_cases h3:a.inputs=b.inputs
  ·have h3':(a.inputs !=b.inputs)=false:=by simp [h3]
   have H3:=Lib.hid (chk_0 H1.out H2.out h3)
   clear h3
   go_wp2
   go_ret
   exact ⟨ret_int H3.out.symm,hBf⟩
  have h3':(a.inputs !=b.inputs)=true:=by simp [h3]
  have H3:=Lib.hid (chk_i H1.out H2.out h3)
  clear h3
  go_wp2
  go_ret
  exact ⟨ret_int H3.out.symm,hBf⟩
end
end Go.Proofs.YtjagagpcjpcjjaaGreat
