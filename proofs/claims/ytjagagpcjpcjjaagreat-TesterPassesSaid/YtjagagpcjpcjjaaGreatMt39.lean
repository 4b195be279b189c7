/- Several texts, one behind the other. Conditions: as each of them says. -/
import Derived.Test.YtjagagpcjpcjjaaGreatMt38
import Derived.Test.YtjagagpcjpcjjaaGreatMt36
import Derived.Test.YtjagagpcjpcjjaaGreatMt34
import Derived.Test.YtjagagpcjpcjjaaGreatMt33
import Derived.Test.YtjagagpcjpcjjaaGreatMt32
import Derived.Test.YtjagagpcjpcjjaaGreatMt31
import Derived.Test.YtjagagpcjpcjjaaGreatMt27
import Derived.Test.YtjagagpcjpcjjaaGreatMt17
import Derived.Test.YtjagagpcjpcjjaaGreatMt9
import Derived.Test.YtjagagpcjpcjjaaGreatMt6
import Derived.Test.YtjagagpcjpcjjaaGreatMt4
import Derived.Test.YtjagagpcjpcjjaaGreatMt1
import Derived.Deep.Cut
set_option maxRecDepth 100000
set_option maxHeartbeats 32000000
namespace Go.Proofs.YtjagagpcjpcjjaaGreat
structure GOk (n:Nat) (g:Gp):Prop where
 le:g.ini.length=g.cur.length
 pos:0<g.cur.length
 st:∀s∈g.cur,0≤s∧s<n
def addKid (t:Nat) (q:Kd) (K:List Nd):List Nd:=match K[t]? with
 |some nd=>K.set t ⟨nd.st,nd.inp,nd.kids++[q]⟩
 |none=>K
def gKid (rc:List Nd→Gp→List Nd) (t:Nat) (L:List Nd) (p:Int×Gp):List Nd:=if 4096<L.length then L else addKid t ⟨p.1,L.length⟩ (rc L p.2)
namespace Mach
variable (m:Mach)
def gWord (g:Gp) (w:List Int):List Int:=if w.length=0∧1<g.ini.length then (m.findW g.cur).1 else w
def gParts (x:Nat) (g:Gp):List (Int×Gp):=(m.outsI x g.cur).zip (m.grps x g.ini g.cur)
def grow:Nat→List Nd→Gp→List Int→List Nd
 |0,L,_,_=>L
 |f+1,L,g,w=>
  if 4096<L.length+1 then L++[⟨g.ini, -1,[]⟩] else
  match m.gWord g w with
  |[]=>L++[⟨g.ini, -1,[]⟩]
  |a::u=>(m.gParts a.toNat g).foldl (gKid (fun K h=>grow f K h u) L.length) (L++[⟨g.ini,a,[]⟩])
def gLoop (f t:Nat) (u:List Int) (ps:List (Int×Gp)) (L:List Nd):List Nd:=ps.foldl (gKid (fun K h=>m.grow f K h u) t) L
variable {m}
def FRok (m:Mach):FR→Prop
 | .go L=>∀p∈L,m.okS p.word
 | .word w=>m.okS w
 | .cut=>True
end Mach
namespace Mach
variable (m:Mach)
def rLoop (rc:Nat→Gp→Nat×Bool):List ((Int×Gp)×Kd)→Nat→Nat×Bool
 |[],n=>(n,true)
 |z::l,n=>if z.2.out≠z.1.1∨z.2.to≠n then (0,false) else match rc n z.1.2 with
  |(n',true)=>rLoop rc l n'
  |(_,false)=>(0,false)
def right (T:List Nd):Nat→Nat→Gp→Nat×Bool
 |0,_,_=>(0,false)
 |f+1,a,g=>match T[a]? with
  |none=>(0,false)
  |some x=>if x.st≠g.ini∨(iset g.cur).length≠g.cur.length then (0,false) else
   if x.inp= -1 then (a+1,decide (x.kids.length=0)) else
   if x.inp<0∨m.inputs≤x.inp then (0,false) else
   if (m.gParts x.inp.toNat g).length≠x.kids.length then (0,false) else
   rLoop (fun n h=>right T f n h) ((m.gParts x.inp.toNat g).zip x.kids) (a+1)
variable {m}
end Mach
def PlI (l:List Int) (o:Int) (p:Nat):Prop:=p≤l.length∧(∀(i:Nat) v,i<p→l[i]? =some v→v<o)∧∀v,l[p]? =some v→¬v<o
def DifI (l:List Int) (k:Nat):Prop:=∀(i j:Nat) (x y:Int),i<k→j<i→l[i]? =some x→l[j]? =some y→x≠y
namespace Mach
variable {m:Mach}
end Mach
def numB (r:Nat×Bool):Int:=if r.2=true then (r.1:Int) else -1
end Go.Proofs.YtjagagpcjpcjjaaGreat
namespace Go.Proofs.YtjagagpcjpcjjaaGreat
open Go.RowKit
structure Bd (n0:Nat) (W:Nat→Prop) (w:World) (bb:Nat) (an:Option Addr) (cn:Nat) (ao:Option Addr) (co:Nat) (m:Mach) (v:Value) (L:List Nd):Prop where
 c4:C4 w bb an cn ao co m
 nd:w.cell? ⟨bb,4,none⟩=some v
 fz:w.frozen? ⟨bb,4,none⟩=false
 ok:NdOk (fun k=>W k∨k<n0) (bb+1) w v L
 inW:W bb
 lt:∀k,W k→k<w.heap.size
 ge:∀k,W k→bb≤k
 old:n0≤bb
theorem Ext.cell {M M':Nat→Prop} {w w':World} {p:Addr} (e:Ext M M' w w') (hl:p.block<w.heap.size) (hm:¬M p.block):w'.cell? p=w.cell? p:=World.cell?_of_block (e.block _ hl hm)
theorem C4.kept {w w':World} {b:Nat} {an ao:Option Addr} {cn co:Nat} {m:Mach} (h:C4 w b an cn ao co m) (hb:w'.heap[b]? =w.heap[b]?):C4 w' b an cn ao co m:=
 ⟨(World.cell?_of_block (a:=⟨b,0,none⟩) hb).trans h.1,(World.cell?_of_block (a:=⟨b,1,none⟩) hb).trans h.2.1,(World.cell?_of_block (a:=⟨b,2,none⟩) hb).trans h.2.2.1,(World.cell?_of_block (a:=⟨b,3,none⟩) hb).trans h.2.2.2⟩
section
variable {n0:Nat} {W W':Nat→Prop} {w w':World} {bb:Nat} {an ao:Option Addr} {cn co:Nat} {m:Mach} {v:Value} {L:List Nd}
theorem NdOk.ownB {B:Nat} (h:NdOk W B w v L):∀k,v.ownBlock=some k→B≤k∧k<w.heap.size∧W k:=by
 obtain ⟨X,h1,h2, -⟩:=h
 exact fun k hk=>⟨(h1.lt k hk).1,(h1.lt k hk).2,h2 k hk⟩
theorem NdOk.addr {B:Nat} {a:Option Addr} {c:Nat} (h:NdOk W B w (.slice a L.length c) L) (h0:0<L.length):∃g,a=some ⟨g,0,none⟩:=by
 obtain ⟨X,h1, -,h3, -⟩:=h
 rw [←h3] at h1
 obtain ⟨g,hg, -⟩:=ow_some h1 (by omega)
 exact ⟨g,hg⟩
theorem NdOk.kidW {B g c:Nat} {l:List Nd} (h:NdOk W B w (.slice (some ⟨g,0,none⟩) l.length c) l) {i n ck:Nat} {nd:Nd} {ak:Option Addr} (hi:l[i]? =some nd) (hc:w.cell? ⟨g,i*3+2,none⟩=some (.slice ak n ck)):∀k,(Value.slice ak n ck).ownBlock=some k→W k∧k≠g:=by
 obtain ⟨X,h1,h2,h3,h4,h5⟩:=h
 obtain ⟨x,hx⟩:∃x,X[i]? =some x:=⟨_,List.getElem?_eq_getElem (by rw [h3];exact some_lt hi)⟩
 rw [←h3] at h1
 obtain ⟨-, -,c2, -, -⟩:=h1.nda_cells hx
 obtain ⟨g1,g2,g3,g4,g5⟩:=h4 i x nd hx hi
 rw [hc] at c2
 intro k hk
 have e:Value.slice ak n ck=x.kv:=by simpa using c2
 rw [e] at hk
 exact ⟨(g5 k hk).1,fun e2=>(g5 k hk).2 (by rw [e2];rfl)⟩
theorem NdOk.re {B:Nat} (h:NdOk W B w v L) (h1:∀k,k<w.heap.size→W' k→W k) (h2:∀k,k<w.heap.size→W k→W' k):NdOk W' B w v L:=h.ext (Ext.sub_only h1) h2 fun _ _ _=>rfl
theorem Bd.size (h:Bd n0 W w bb an cn ao co m v L):bb<w.heap.size:=h.lt bb h.inW
theorem Bd.ltV (h:Bd n0 W w bb an cn ao co m v L):∀k,W k∨k<n0→k<w.heap.size:=fun k hk=>hk.elim (h.lt k) fun e=>by have:=h.old;have:=h.size;omega
theorem Bd.ownW (h:Bd n0 W w bb an cn ao co m v L):∀k,v.ownBlock=some k→bb+1≤k∧k<w.heap.size∧W k:=fun k hk=>by
 obtain ⟨h1,h2,h3⟩:=h.ok.ownB k hk
 have:=h.old
 exact ⟨h1,h2,h3.elim id fun e=>by omega⟩
theorem Bd.below (h:Bd n0 W w bb an cn ao co m v L) (hb:Below w.heap.size w w'):Bd n0 W w' bb an cn ao co m v L:=
 ⟨h.c4.kept (hb.block bb h.size),(hb.cell (p:=⟨bb,4,none⟩) h.size).trans h.nd,(frozen_block (a:=⟨bb,4,none⟩) (hb.block bb h.size)).trans h.fz,h.ok.below hb h.ltV,h.inW,fun k hk=>Nat.lt_of_lt_of_le (h.lt k hk) hb.size,h.ge,h.old⟩
theorem Bd.len (h:Bd n0 W w bb an cn ao co m v L):∃a c,v= .slice a L.length c∧L.length≤c∧c≤maxLen:=h.ok.len
theorem C4.set4 {p:Addr} {u:Value} (h:C4 w bb an cn ao co m) (hp:p.block=bb→3<p.off):C4 (w.setCell p u) bb an cn ao co m:=by
 have hne:∀o,o≤3→p≠(⟨bb,o,none⟩:Addr):=fun o ho e=>by
  have:=hp (by rw [e])
  rw [e] at this
  simp at this;omega
 exact ⟨(World.cell?_setCell_other _ _ _ _ (hne 0 (by omega))).trans h.1,(World.cell?_setCell_other _ _ _ _ (hne 1 (by omega))).trans h.2.1,(World.cell?_setCell_other _ _ _ _ (hne 2 (by omega))).trans h.2.2.1,(World.cell?_setCell_other _ _ _ _ (hne 3 (by omega))).trans h.2.2.2⟩
theorem Bd.node {a':Option Addr} {c':Nat} {l':List Nd} (h:Bd n0 W w bb an cn ao co m v L) (hO:NdOk (fun k=>(W k∨k<n0)∨k=w.heap.size) (bb+1) w' (.slice a' l'.length c') l') (hg:w.grownBy w' v.ownBlock):
    ∃W1,Bd n0 W1 (w'.setCell ⟨bb,4,none⟩ (.slice a' l'.length c')) bb an cn ao co m (.slice a' l'.length c') l'∧Ext W W1 w (w'.setCell ⟨bb,4,none⟩ (.slice a' l'.length c')):=by
 have hb:w'.heap[bb]? =w.heap[bb]? :=hg.block bb h.size fun e=>by have:=(h.ownW bb e.symm).1;omega
 have hs:(w'.setCell ⟨bb,4,none⟩ (.slice a' l'.length c')).heap.size=w'.heap.size:=by simp [World.setCell]
 have hbs:=h.size
 have hes:=hg.size
 have hol:=h.old
 have he:Ext W (fun k=>W k∨k=w.heap.size) w w':=⟨hg.size,fun k hk hm=>hg.block k hk (fun e=>hm (h.ownW k e.symm).2.2),fun k hk hm=>hm.elim id (fun e=>by omega)⟩
 refine ⟨fun k=>(W k∨k=w.heap.size)∧k<(w'.setCell ⟨bb,4,none⟩ (.slice a' l'.length c')).heap.size,⟨(h.c4.kept hb).set4 (fun _=>by show 3<4;omega),?_,?_,(hO.setOther (p:=⟨bb,4,none⟩) (.inl (.inl h.inW)) (Nat.lt_succ_self bb) _).re (fun k hk e=> ?_) (fun k hk e=> ?_),⟨.inl h.inW,by rw [hs];omega⟩,fun k hk=>hk.2,fun k hk=> ?_,h.old⟩,(he.trans (Ext.setCell _ (p:=⟨bb,4,none⟩) (.inl h.inW) _)).trans (Ext.sub_only fun _ _ e=>e.1)⟩
 ·exact World.cell?_setCell_same _ _ _ ((World.cell?_of_block (a:=⟨bb,4,none⟩) hb).trans h.nd)
 ·rw [World.frozen?_setCell,frozen_block (a:=⟨bb,4,none⟩) hb];exact h.fz
 ·rcases e with e|e
  ·exact e.1.elim (fun e=> .inl (.inl e)) .inr
  exact .inl (.inr e)
 ·rcases e with (e|e)|e
  ·exact .inl ⟨.inl e,hk⟩
  ·exact .inr e
  exact .inl ⟨.inr e,hk⟩
 rcases hk.1 with e|e
 ·exact h.ge k e
 omega
theorem Bd.inp {g c:Nat} (h:Bd n0 W w bb an cn ao co m (.slice (some ⟨g,0,none⟩) L.length c) L) {i:Nat} {nd:Nd} (hi:L[i]? =some nd) {y:Int} (hy:i64 y):
    Bd n0 W (w.setCell ⟨g,i*3+1,none⟩ (.int .i64 y)) bb an cn ao co m (.slice (some ⟨g,0,none⟩) L.length c) (L.set i ⟨nd.st,y,nd.kids⟩)∧Ext W W w (w.setCell ⟨g,i*3+1,none⟩ (.int .i64 y)):=by
 have hgo:=h.ownW g rfl
 have hb:(w.setCell ⟨g,i*3+1,none⟩ (.int .i64 y)).heap[bb]? =w.heap[bb]? :=Below.heap_setCell _ _ _ _ (by show bb≠g;omega)
 have hs:(w.setCell ⟨g,i*3+1,none⟩ (.int .i64 y)).heap.size=w.heap.size:=by simp [World.setCell]
 have hl:(L.set i ⟨nd.st,y,nd.kids⟩).length=L.length:=List.length_set
 refine ⟨⟨h.c4.kept hb,(World.cell?_of_block (a:=⟨bb,4,none⟩) hb).trans h.nd,(frozen_block (a:=⟨bb,4,none⟩) hb).trans h.fz,h.ok.setInp hi hy,h.inW,fun k hk=>by rw [hs];exact h.lt k hk,h.ge,h.old⟩,Ext.setCell _ (p:=⟨g,i*3+1,none⟩) hgo.2.2 _⟩
theorem Bd.kidW {g c:Nat} (h:Bd n0 W w bb an cn ao co m (.slice (some ⟨g,0,none⟩) L.length c) L) {i ck:Nat} {nd:Nd} {ak:Option Addr} (hi:L[i]? =some nd) (hO:Ow (bb+1) (fun k=>W k∨k<n0) w 228 (.slice ak nd.kids.length ck) nd.kids) (hc:w.cell? ⟨g,i*3+2,none⟩=some (.slice ak nd.kids.length ck)):∀k,(Value.slice ak nd.kids.length ck).ownBlock=some k→W k∧k≠g:=fun k hk=>by
 obtain ⟨h1,h2⟩:=h.ok.kidW hi hc k hk
 have:=(hO.lt k hk).1
 have:=h.old
 exact ⟨h1.elim id fun e=>by omega,h2⟩
theorem Bd.kid {g c:Nat} (h:Bd n0 W w bb an cn ao co m (.slice (some ⟨g,0,none⟩) L.length c) L) {i:Nat} {nd:Nd} (hi:L[i]? =some nd) {ak a':Option Addr} {ck c':Nat} {K:List Kd} (hc:w.cell? ⟨g,i*3+2,none⟩=some (.slice ak nd.kids.length ck))
    (hO0:Ow (bb+1) (fun k=>W k∨k<n0) w 228 (.slice ak nd.kids.length ck) nd.kids) (hO:Ow (bb+1) (fun k=>(W k∨k<n0)∨k=w.heap.size) w' 228 (.slice a' K.length c') K) (hk:∀k,(Value.slice a' K.length c').ownBlock=some k→(Value.slice ak nd.kids.length ck).ownBlock=some k∨k=w.heap.size) (hgr:w.grownBy w' (Value.slice ak nd.kids.length ck).ownBlock) (hWk:∀k,(Value.slice ak nd.kids.length ck).ownBlock=some k→W k):
    ∃W1,Bd n0 W1 (w'.setCell ⟨g,i*3+2,none⟩ (.slice a' K.length c')) bb an cn ao co m (.slice (some ⟨g,0,none⟩) L.length c) (L.set i ⟨nd.st,nd.inp,K⟩)∧Ext W W1 w (w'.setCell ⟨g,i*3+2,none⟩ (.slice a' K.length c')):=by
 have hgo:=h.ownW g rfl
 have hb0:w'.heap[bb]? =w.heap[bb]? :=hgr.block bb h.size fun e=>by have:=(hO0.lt bb e.symm).1;omega
 have hb:(w'.setCell ⟨g,i*3+2,none⟩ (.slice a' K.length c')).heap[bb]? =w.heap[bb]? :=(Below.heap_setCell _ _ _ _ (by show bb≠g;omega)).trans hb0
 have hs:(w'.setCell ⟨g,i*3+2,none⟩ (.slice a' K.length c')).heap.size=w'.heap.size:=by simp [World.setCell]
 have hx1:Ext W (fun k=>W k∨k=w.heap.size) w w':=⟨hgr.size,fun k hk hm=>hgr.block k hk (fun e=>hm (hWk k e.symm)),fun k hk hm=>hm.elim id (fun e=>by omega)⟩
 have hbs:=h.size
 have hes:=hgr.size
 refine ⟨fun k=>(W k∨k=w.heap.size)∧k<(w'.setCell ⟨g,i*3+2,none⟩ (.slice a' K.length c')).heap.size,⟨h.c4.kept hb,(World.cell?_of_block (a:=⟨bb,4,none⟩) hb).trans h.nd,(frozen_block (a:=⟨bb,4,none⟩) hb).trans h.fz,?_,⟨.inl h.inW,by rw [hs];omega⟩,fun k hk=>hk.2,fun k hk=> ?_,h.old⟩,(hx1.trans (Ext.setCell _ (p:=⟨g,i*3+2,none⟩) (.inl hgo.2.2) _)).trans (Ext.sub_only fun _ _ e=>e.1)⟩
 ·refine (h.ok.pushKid hi hc hO hk hgr h.ltV).re (fun k hk e=> ?_) (fun k hk e=> ?_)
  ·rcases e with e|e
   ·exact e.1.elim (fun e=> .inl (.inl e)) .inr
   exact .inl (.inr e)
  rcases e with (e|e)|e
  ·exact .inl ⟨.inl e,hk⟩
  ·exact .inr e
  exact .inl ⟨.inr e,hk⟩
 rcases hk.1 with e|e
 ·exact h.ge k e
 omega
end
theorem Sl.notM {α:Type} [GR α] {M:Nat→Prop} {w:World} {b off c:Nat} {l:List α} (h:Sl M w (some ⟨b,off,none⟩) c l) {j:Nat} (hj:j<l.length):¬M b:=by
 obtain ⟨b',o',cs,ha, -,hm, -⟩:=h.2.2 j l[j] (by simp [hj])
 obtain ⟨rfl,rfl⟩:b=b'∧off=o':=by simpa using ha
 exact hm
def GrowC (f:Nat):Prop:=∀{n0:Nat} {W:Nat→Prop} {w:World} {bb:Nat} {an ao ai ac au:Option Addr} {cn co ci cc cu:Nat} {m:Mach} {v:Value} {L:List Nd} {g:Gp} {u:List Int},
    Bd n0 W w bb an cn ao co m v L→Ma W w an cn ao co m→Sl W w ai ci g.ini→Sl W w ac cc g.cur→Sl W w au cu u→Hid m.Ok→Hid (GOk m.next.length g)→Hid (g.cur.length<1000)→Hid (m.okS u)→Hid (L.length≤4096)→Hid (4097≤L.length+f)→
    Calls Tryz.prog 132 #[.pointer (some ⟨bb,0,none⟩),.agg #[.slice ai g.ini.length ci,.slice ac g.cur.length cc],.slice au u.length cu] w fun e w'=>∃(W':Nat→Prop) (v':Value),e= .returned (.int .i64 L.length)∧Bd n0 W' w' bb an cn ao co m v' (m.grow f L g u)∧Ext W W' w w'∧Below bb w w'
def RightR (m:Mach) (T:List Nd) (f at':Nat) (g:Gp) (w:World) (e:Ending) (w':World):Prop:=∃(n:Nat) (y:Bool),e= .returned (.tuple #[.int .i64 n,.bool y])∧Hid (m.right T f at' g=(n,y))∧Below w.heap.size w w'
def RightC (f:Nat):Prop:=∀{M MT M1 M2:Nat→Prop} {w:World} {bb:Nat} {an ao aT ai ac:Option Addr} {cn co cT ci cc:Nat} {m:Mach} {T:List Nd} {at':Nat} {g:Gp},
    C4 w bb an cn ao co m→bb<w.heap.size→Ma M w an cn ao co m→Sl MT w aT cT T→Sl M1 w ai ci g.ini→Sl M2 w ac cc g.cur→Hid m.Ok→Hid (GOk m.next.length g)→Hid (g.cur.length<1000)→Hid (T.length<1000000000)→Hid (at'≤T.length)→Hid (T.length+1≤at'+f)→
    Calls Tryz.prog 181 #[.pointer (some ⟨bb,0,none⟩),.agg #[.slice aT T.length cT],.int .i64 at',.agg #[.slice ai g.ini.length ci,.slice ac g.cur.length cc]] w (RightR m T f at' g w)
end Go.Proofs.YtjagagpcjpcjjaaGreat
namespace Go.Proofs.YtjagagpcjpcjjaaGreat
namespace Mach
variable (m:Mach)
def kidOf (l:List Kd) (o:Int):Option Kd:=l.find? (fun k=>decide (k.out=o))
def wordGo (T:List Nd):Nat→Nat→Int→List Int→List Int×Nat
 |0,a,_,w=>(w,a)
 |f+1,a,c,w=>match T[a]? with
  |none=>(w,a)
  |some x=>if x.inp<0 then (w,a) else match kidOf x.kids (m.ot c.toNat x.inp.toNat) with
   |none=>(w,a)
   |some k=>wordGo T f k.to.toNat (m.nx c.toNat x.inp.toNat) (w++[x.inp])
def adsW (T:List Nd) (s:Int):List Int×Nat:=m.wordGo T T.length 0 s []
def Wi (T:List Nd) (a:Nat) (c:Int):Prop:=∃f g e,m.right T f a g=(e,true)∧c∈g.cur∧GOk m.next.length g∧((∀s∈g.ini,0≤s∧s<(m.next.length:Int))∧g.cur.length≤m.next.length)
variable {m}
end Mach
end Go.Proofs.YtjagagpcjpcjjaaGreat
namespace Go.Proofs.YtjagagpcjpcjjaaGreat
open Go.RowKit
theorem Ow.base {α:Type} [GR α] {B B':Nat} {M:Nat→Prop} {w:World} {T:TypeId} {v:Value} {l:List α} (h:Ow B M w T v l) (hb:B'≤B):Ow B' M w T v l:=by
 obtain ⟨xs,h1,h2⟩:=h
 refine ⟨xs,⟨h1.1,?_⟩,h2⟩
 rcases h1.2 with e|⟨g,cap,cur,h3,h4,h5⟩
 ·exact .inl e
 exact .inr ⟨g,cap,cur,h3,Nat.le_trans hb h4,h5⟩
section
variable {M M':Nat→Prop} {w:World} {an ao b:Option Addr} {cn co d:Nat} {m:Mach} {l:List Int}
end
section
variable {M M':Nat→Prop} {w:World} {an ao b:Option Addr} {cn co d:Nat} {m:Mach} {l:List Int}
end
def Two (B:Nat) (w:World) (T:TypeId) (v u:Value) (K1 K2:List (List Int)):Prop:=
 Ow B (fun k=>v.ownBlock=some k∨u.ownBlock=some k) w T v K1∧Ow B (fun k=>v.ownBlock=some k∨u.ownBlock=some k) w T u K2∧Hid (∀k,v.ownBlock=some k→u.ownBlock=some k→False)
theorem Two.symm {B:Nat} {w:World} {T:TypeId} {v u:Value} {K1 K2:List (List Int)} (h:Two B w T v u K1 K2):Two B w T u v K2 K1:=
 ⟨h.2.1.subM fun _ _ hm=>hm.symm,h.1.subM fun _ _ hm=>hm.symm,fun k h1 h2=>h.2.2.out k h2 h1⟩
theorem Two.below {B:Nat} {w w':World} {T:TypeId} {v u:Value} {K1 K2:List (List Int)} (h:Two B w T v u K1 K2) (hb:Below w.heap.size w w'):Two B w' T v u K1 K2:=⟨h.1.below hb,h.2.1.below hb,h.2.2⟩
theorem Two.alloc {B:Nat} {w:World} {T:TypeId} {v u:Value} {K1 K2:List (List Int)} (h:Two B w T v u K1 K2) (o:Obj):Two B (w.alloc o) T v u K1 K2:=h.below ((Below.refl _ _).alloc (Nat.le_refl _) _)
theorem Two.fresh {B:Nat} {w w':World} {T:TypeId} {v u:Value} {K1 K2:List (List Int)} (h:Two B w T v u K1 K2) {a:Option Addr} {c:Nat} {r:List Int} (hs:Sl (fun k=>k<w.heap.size) w' a c r):Sl (fun k=>v.ownBlock=some k∨u.ownBlock=some k) w' a c r:=
 hs.anti fun k _ hm=>hm.elim (fun e=>(h.1.lt k e).2) fun e=>(h.2.1.lt k e).2
section
variable {P:Program} {w:World} {o:Oper} {a:Act} {ops:Array Oper} {rest:List Oper} {Q:Exit→Act→World→Prop}
end
section
variable {M M':Nat→Prop} {w:World} {an ao b:Option Addr} {cn co d:Nat} {m:Mach} {l:List Int}
end
def RightN (m:Mach) (T:List Nd) (f at':Nat) (g:Gp) (w:World) (e:Ending) (w':World):Prop:=∃r:Int,e= .returned (.int .i64 r)∧Hid ((∃n:Nat,m.right T f at' g=(n,true)∧r=(n:Int))∨((m.right T f at' g).2=false∧r= -1))∧Below w.heap.size w w'
def Right12C (f:Nat):Prop:=∀{M MT M1 M2:Nat→Prop} {w:World} {an ao aT ai ac:Option Addr} {cn co cT ci cc:Nat} {m:Mach} {T:List Nd} {at':Nat} {g:Gp},
    Ma M w an cn ao co m→Sl MT w aT cT T→Sl M1 w ai ci g.ini→Sl M2 w ac cc g.cur→Hid m.Ok→Hid (GOk m.next.length g)→Hid (g.cur.length<1000)→Hid (T.length<1000000000)→Hid (at'≤T.length)→Hid (T.length+1≤at'+f)→
    Calls Tryz.prog 199 #[maV m an cn ao co,.agg #[.slice aT T.length cT],.int .i64 at',.slice ai g.ini.length ci,.slice ac g.cur.length cc] w (RightN m T f at' g w)
end Go.Proofs.YtjagagpcjpcjjaaGreat
namespace Go.Proofs.YtjagagpcjpcjjaaGreat
theorem scan_len {a b:Mach} {p:Pl} {l:List Pl} {n:Nat} (hp:p.word.length≤n) (hl:∀q∈l,q.word.length≤n):∀x,(∀q∈(scan a b p l x).1,q.word.length≤n+1)∧∀w,(scan a b p l x).2=some w→w.length≤n+1
 |0=>⟨fun q hq=>Nat.le_succ_of_le (hl q hq),fun w hw=>by simp [scan] at hw⟩
 |x+1=>by
  obtain ⟨h1,h2⟩:=scan_len (a:=a) (b:=b) hp hl x
  unfold scan
  split
  ·rename_i w hw
   exact ⟨h1,fun v hv=>h2 v (by rw [hw];exact hv)⟩
  split
  ·exact ⟨h1,fun v hv=>by simp at hv;subst hv;simp;omega⟩
  split
  ·exact ⟨h1,fun v hv=>by simp at hv⟩
  refine ⟨fun q hq=> ?_,fun v hv=>by simp at hv⟩
  rcases List.mem_append.1 hq with e|e
  ·exact h1 q e
  rw [List.mem_singleton.1 e];simp;omega
theorem srch_len {a b:Mach} {s t:Int}:∀i,(∀q∈(srch a b s t i).1,q.word.length≤i)∧∀w,(srch a b s t i).2=some w→w.length≤i
 |0=>⟨fun q hq=>by simp [srch] at hq;subst hq;simp,fun w hw=>by simp [srch] at hw⟩
 |i+1=>by
  obtain ⟨h1,h2⟩:=srch_len (a:=a) (b:=b) (s:=s) (t:=t) i
  unfold srch
  split
  ·rename_i w hw
   exact ⟨fun q hq=>Nat.le_succ_of_le (h1 q hq),fun v hv=>by simp at hv;subst hv;exact Nat.le_succ_of_le (h2 _ hw)⟩
  split
  ·exact ⟨fun q hq=>Nat.le_succ_of_le (h1 q hq),fun v hv=>by simp at hv⟩
  rename_i p hp
  exact scan_len (h1 p (List.mem_of_getElem? hp)) h1 _
theorem first_len {a b:Mach} {s t:Int} {w:List Int} (h:firstW a b s t=some w):w.length≤a.next.length*b.next.length:=(srch_len _).2 w h
namespace Mach
variable (m:Mach)
def sepW (s x:Int):List Int:=(stW m s x).getD []
def nodeSt (T:List Nd) (l:Nat):List Int:=match T[l]? with|some x=>x.st|none=>[]
def idO (s:Int) (o:List Int):List (List Int):=(o.filter fun x=>decide (x≠s)).map fun x=>sepW m s x
def idA (T:List Nd) (s:Int):List (List Int):=if 0<(m.adsW T s).1.length∨(nodeSt T (m.adsW T s).2).length=1 then [(m.adsW T s).1] else []
def idW (T:List Nd) (s:Int):List (List Int):=m.idA T s++m.idO s (nodeSt T (m.adsW T s).2)
def ids (T:List Nd):List (List (List Int)):=(List.range m.next.length).map fun s:Nat=>srt cmpW (m.idW T (s:Int))
variable {m}
theorem sepW_len (hn:m.next.length<1000) (s x:Int):(m.sepW s x).length≤1000000:=by
 unfold sepW
 cases h:stW m s x with
 |none=>simp
 |some w=>
  show w.length≤_
  unfold stW at h
  split at h
  ·have:=first_len h
   have h2:m.next.length*m.next.length≤1000*1000:=Nat.mul_le_mul (by omega) (by omega)
   omega
  simp at h
end Mach
end Go.Proofs.YtjagagpcjpcjjaaGreat
namespace Go.Proofs.YtjagagpcjpcjjaaGreat
open Go.RowKit
structure Ig (M:Nat→Prop) (wM:World) (Bs:Nat) (w:World) (n:Nat) (F:Nat→Value) (s:Nat) (R:Nat→List (List Int)) (rows:List (List Int)):Prop where
 kg:KG w wM.heap.size n F
 cur:∃a c,F s= .slice a rows.length c
 ow:Ow Bs M w 49 (F s) rows
 inM:M wM.heap.size
 of:∀k,M k→k=wM.heap.size∨Bs≤k
 lt:∀k,M k→k<w.heap.size
 own:∀k,(F s).ownBlock=some k→M k
 nil:∀j,s<j→F j= .slice none 0 0
 old:∀j,j<s→∃a c,F j= .slice a (R j).length c∧Sl (fun k=>k=wM.heap.size∨Bs≤k) w a c (R j)
 bel:Below wM.heap.size wM w
 mb:wM.heap.size<Bs
 bs:Bs≤w.heap.size
section
variable {M:Nat→Prop} {wM w w':World} {Bs n s:Nat} {F:Nat→Value} {R:Nat→List (List Int)} {rows:List (List Int)}
theorem Ig.below (h:Ig M wM Bs w n F s R rows) (hb:Below w.heap.size w w'):Ig M wM Bs w' n F s R rows:=
 ⟨h.kg.kept (hb.block _ h.kg.lt),h.cur,h.ow.below hb,h.inM,h.of,fun k hk=>Nat.lt_of_lt_of_le (h.lt k hk) hb.size,h.own,h.nil,fun j hj=>by
  obtain ⟨a,c,h1,h2⟩:=h.old j hj
  exact ⟨a,c,h1,h2.below hb⟩,h.bel.trans (hb.mono h.bel.size),h.mb,Nat.le_trans h.bs hb.size⟩
theorem Ig.made (wM:World):Ig (fun k=>k=wM.heap.size) wM (wM.heap.size+1) (wM.alloc (.map #[] 0)) 0 (fun _=> .slice none 0 0) 0 R []:=
 ⟨KG.made wM,⟨none,0,rfl⟩,Ow.nil,rfl,fun _ hk=> .inl hk,fun k hk=>by subst hk;simp,fun k hk=>by simp [Value.ownBlock] at hk,fun _ _=>rfl,fun j hj=>by omega,(Below.refl _ _).alloc (Nat.le_refl _) _,Nat.lt_succ_self _,by simp⟩
theorem Ig.next (h:Ig M wM Bs w n F s R rows) (hr:R s=rows):Ig (fun k=>k=wM.heap.size) wM w.heap.size w n F (s+1) R []:=by
 have hmb:=h.mb
 have hbs:=h.bs
 obtain ⟨a,c,hF⟩:=h.cur
 refine ⟨h.kg,⟨none,0,h.nil _ (Nat.lt_succ_self s)⟩,by rw [h.nil _ (Nat.lt_succ_self s)];exact Ow.nil,rfl,fun _ hk=> .inl hk,fun k hk=>by subst hk;omega,fun k hk=>by rw [h.nil _ (Nat.lt_succ_self s)] at hk;simp [Value.ownBlock] at hk,fun j hj=>h.nil j (by omega),fun j hj=> ?_,h.bel,by omega,Nat.le_refl _⟩
 by_cases e:j=s
 ·subst e
  refine ⟨a,c,by rw [hr];exact hF,?_⟩
  rw [hr]
  have hO:=h.ow
  rw [hF] at hO
  refine ((hO.subM (M':=fun k=>k=wM.heap.size) (fun k _ e=>by subst e;exact h.inM)).toSl (fun k hk e=> ?_)).anti (fun k hk e=>e.elim id (fun e=>by omega))
  have:=(hO.lt k hk).1
  omega
 obtain ⟨a,c,h1,h2⟩:=h.old j (by omega)
 exact ⟨a,c,h1,h2.anti (fun k hk e=>e.elim .inl (fun e=>by omega))⟩
end
def Mix (n0 B:Nat) (w:World) (v u:Value) (S:List Int) (W:List (List Int)):Prop:=
 Ow B (fun k=>B≤k) w 3 v S∧Oy (fun k=>v.ownBlock=some k∨k<n0) B w 49 u W∧Hid (∀k,v.ownBlock=some k→u.ownBlock=some k→False)
theorem Mix.below {n0 B:Nat} {w w':World} {v u:Value} {S:List Int} {W:List (List Int)} (h:Mix n0 B w v u S W) (hb:Below w.heap.size w w'):Mix n0 B w' v u S W:=⟨h.1.below hb,Ow.below h.2.1 hb,h.2.2⟩
theorem Mix.alloc {n0 B:Nat} {w:World} {v u:Value} {S:List Int} {W:List (List Int)} (h:Mix n0 B w v u S W) (o:Obj):Mix n0 B (w.alloc o) v u S W:=h.below ((Below.refl _ _).alloc (Nat.le_refl _) _)
theorem Mix.toSl {n0 B:Nat} {w:World} {v:Value} {a:Option Addr} {c:Nat} {S:List Int} {W:List (List Int)} (h:Mix n0 B w v (.slice a W.length c) S W) (hB:n0≤B):Sl (fun k=>k<n0) w a c W:=
 (h.2.1.subM (M':=fun k=>k<n0) fun k _ hm=> .inr (.inr hm)).toSl fun k hk=>by have:=(h.2.1.lt k hk).1;omega
section
variable {P:Program} {w:World} {o:Oper} {a:Act} {ops:Array Oper} {rest:List Oper} {Q:Exit→Act→World→Prop}
end
section
variable {M:Nat→Prop} {w:World} {b:Option Addr} {d:Nat} {l:List Int}
end
section
variable {M:Nat→Prop} {w:World} {an ao:Option Addr} {cn co:Nat} {m:Mach}
end
end Go.Proofs.YtjagagpcjpcjjaaGreat
