/- Lemmas, each with its own conditions. -/
import Derived.Test.YtjagagpcjpcjjaaGreatMw9
import Derived.Lib.Walk
import Derived.Lib.AppendZerosOnto
set_option maxRecDepth 100000
set_option maxHeartbeats 32000000
namespace Go.Proofs.YtjagagpcjpcjjaaGreat
section
open Tryz
open Go.RowKit
section
variable {P:Program} {w:World} {o:Oper} {a:Act} {ops:Array Oper} {rest:List Oper} {Q:Exit->Act->World->Prop}
theorem ZT {B:Nat} {t ty e:TypeId} {i:TypeInfo} {n size:Nat} {v:Value} {xs:List Value} (ht:P.underlying t=some (.slice e)) (hi:P.info? e=some i) (h:w.ownsRow B e size v n xs) (c:Nat):(Builtin.append_ #[t,t] ty #[v,.slice none 0 c]).run P w= .ok v w:=by
 rcases h.2 with ⟨rfl,rfl⟩|⟨g,cap,cur,rfl,_,_,hnc,_⟩;·simp [Builtin.append_,ar8 ht,sizeOf,typeInfo,hi,Builtin.lenOf,Builtin.firstCells]
 simp [Builtin.append_,ar8 ht,sizeOf,typeInfo,hi,Builtin.lenOf,Builtin.firstCells,hnc,storeCells]
theorem jr {l0 l1:List Int} {s x:Operand} {t e:TypeId} {B:Nat} {M:Nat->Prop} {v:Value} {A:Option Addr} {c:Nat} (hg:o.guard=none) (hop:o.op= .call {callee:= .builtin .append,args:= #[s,x],argTypes:= #[t,t]}) (ht:P.underlying t=some (.slice e)) (hi:(P.info? e).map (fun i=>(i.zero,i.size,i.bytes))=some (some (.int .i64 0),1,8)) (hs:a.eval s=v) (hx:a.eval x= .slice A l1.length c) (jk:Ow B (fun k=>B<=k) w e v l0) (BZ:Sl M w A c l1) (iX:l0.length+l1.length<1000000000000) (hB:B<=w.heap.size) (h:∀(a':Option Addr) (c':Nat) (l':List Int) (w':World),Hid (l'=l0++l1)->Ow B (fun k=>B<=k) w' e (.slice a' l'.length c') l'->Below B w w'-> wpList P ops Q rest (a.put o.dst (.slice a' l'.length c')) w'):wpList P ops Q (o::rest) a w:=by
 cases A with
 |some ad=>exact wF hg hop ht hi hs hx jk BZ iX hB h
 |none=>
  have h0:l1=[]:=by
   cases l1 with
   |nil=>rfl
   |cons x l=>obtain ⟨_,_,_,ha,_⟩:=BZ.iC (j:=0) aH;cases ha
  subst h0;obtain ⟨i,hi1,_⟩:=aqa hi;obtain ⟨a',c',hv,_,_⟩:=jk.shape;have za:=jk;obtain ⟨xs,hr,_⟩:=jk;refine aqi hg fun K hK=> ?_;have oD:=ZT (ty:=o.type) ht hi1 hr c;unfold Oper.wp execOp;simp only [hop,resolve,invoke,builtin,ara,aqU,aqx,arU,fQ,ap7,hs,hx,ap6,oD];show K (a.put o.dst v) w;rw [hv] at za ⊢;exact hK _ _ (h a' c' l0 w (bK aH) za (bP _ _))
end
section
variable {M:Nat->Prop} {w:World}
theorem WO:Calls prog 177 #[.slice none 0 0,.int .i64 0] w fun e w'=>∃a c,e= .returned (.slice a 0 c)/\Ow (α:=Int) w.heap.size (fun k=>w.heap.size<=k) w' 3 (.slice a 0 c) []/\Below w.heap.size w w':=by
 go_enter func177,ntmps177;go_wp2;go_ret;exact ⟨none,0,rfl,Ow.nil,bP _ _⟩
theorem WQ (n:Nat) (h0:0<n) (hn:n<1000000000000):Calls prog 177 #[.slice none 0 0,.int .i64 n] w fun e w'=>∃a c,e= .returned (.slice a 0 c)/\Ow (α:=Int) w.heap.size (fun k=>w.heap.size<=k) w' 3 (.slice a 0 c) []/\Below w.heap.size w w':=by
 obtain ⟨i,hi1,hi2,hi3,hi4⟩:=aqa iE;have pq:(Builtin.firstCells i.size 0 (.slice none 0 0)).run prog w.drew= .ok (([]:List Value).toArray) w.drew:=run_firstCells_none w.drew i.size 0 0 0;have hGn:n<=grownCap w n 0 3:=grownCap_ge w _ _ _;have hGm:grownCap w n 0 3<=maxLen:=grownCap_le_maxLen w n 0 3 aS;obtain ⟨cur,hcs,hrz⟩:∃cur:Array Value,cur.size=grownCap w n 0 3/\∀ty,(Builtin.append_ #[49,3] ty #[.slice none 0 0,.int .i64 ((n:Nat):Int)]).run prog w= .ok (.slice (some ⟨w.heap.size,0,none⟩) n (grownCap w n 0 3)) (w.drew.alloc (.cells cur 3)):=by
  refine ⟨([]:List Value).toArray++Builtin.zeroCells (Value.int .i64 0).cells n++Builtin.zeroCells (Value.int .i64 0).cells (grownCap w n 0 3-n),?_,fun ty=> ?_⟩;rotate_left;·have h:=Lib.run_append_grow_zeros w 49 3 ty 3 i (.int .i64 0) .i64 .i64 underlying49 underlying3 hi1 hi2 none 0 0 [] pq n h0 (by rw [hi3];omega) ah ah (by rw [hi4];omega) (by rw [hi4];exact growslice_fits ah ah);rw [aqI] at h;exact h
  simp [Builtin.zeroCells,Value.cells];try omega
 obtain ⟨G,hG⟩:∃G,G=grownCap w n 0 3:=⟨_,rfl⟩;rw [<-hG] at hrz hGn hGm hcs;have aoL:G<=9223372036854775807:=by unfold maxLen at hGm;omega
 have HC:=bK hcs;clear pq hG hcs;go_enter func177,ntmps177;go_wp2_with (at_builtin;refine Lib.wpList_append_run _ rfl _ _ _ _ rfl _ _ rfl rfl _ _ (hrz _) ?_);go_wp2;go_ret;exact ⟨_,G,rfl,⟨[],⟨rfl,.inr ⟨w.heap.size,G,cur,rfl,bM _,dS w.drew _,ap1 _,hGm,by rw [HC.out];simp [GR.sz],rfl⟩⟩,fun j x hj=>by simp at hj⟩,((bP _ _).drew).alloc (bM _) _⟩
theorem ZU (n:Nat) (hn:n<1000000000000):Calls prog 177 #[.slice none 0 0,.int .i64 n] w fun e w'=>∃a c,e= .returned (.slice a 0 c)/\Ow (α:=Int) w.heap.size (fun k=>w.heap.size<=k) w' 3 (.slice a 0 c) []/\Below w.heap.size w w':=by
 rcases Nat.eq_zero_or_pos n with rfl|h;·exact WO
 exact WQ n h hn
theorem JO {rows:List (List Int)} {k:Nat} {r:List Int} (h:rows[k]? =some r):(rows.take (k+1)).flatten=(rows.take k).flatten++r:=by
 rw [dh,h];simp
theorem LJ (rows:List (List Int)) (k:Nat):(rows.take k).flatten.length<=rows.flatten.length:=by
 conv=>rhs;rw [<-fJ k rows]
 rw [List.flatten_append,dB];omega
theorem Sm {a:Option Addr} {c:Nat} {rows:List (List Int)} (h:Sl M w a c rows) (hn:rows.flatten.length<1000000000000):Calls prog 130 #[.slice a rows.length c] w fun e w'=>∃a' c' l',e= .returned (.slice a' l'.length c')/\Hid (l'=rows.flatten)/\Ow w.heap.size (fun k=>w.heap.size<=k) w' 3 (.slice a' l'.length c') l'/\Below w.heap.size w w':=by
 have hrl:=h.le;go_enter func130,ntmps130;go_wp2;go_loop [3,11] (fun sz i=>∃k:Nat,k<=rows.length/\i= .int .i64 k/\∃z:Nat,sz= .int .i64 z/\Hid (z=(rows.take k).flatten.length)) (fun _ i=>rows.length-(intOf i).toNat);case atStart=>exact ⟨0,ah,rfl,0,rfl,rfl⟩
 case round=>
  obtain ⟨k,hk,rfl,z,rfl,hz⟩:=hrel;have hzl:z<1000000000000:=by have:=LJ rows k;rw [hz.out];omega
  by_cases hlt:k<rows.length
  ·obtain ⟨b,off,a1,r,c1,rfl,hc,hr, -⟩:=h.iD hlt;have hz2:Hid (z+r.length=(rows.take (k+1)).flatten.length):=bK (by rw [JO hr.out,dB,hz.out]);have aoM:z+r.length<1000000000000:=by have:=LJ rows (k+1);rw [hz2.out];omega
   go_wp2;go_round;case rel=>exact ⟨k+1,ah,by go_num,z+r.length,by go_num,hz2⟩
   case measure=>exact bF
  go_wp2_with fail;refine (ZU z hzl).mono ?_;rintro e w1 ⟨a1,c1,rfl,hO,hb1⟩;have hz1:=hb1.size;have H:=bK h;clear h;go_wp2
  go_loopw [6,27] (fun v i wr=>∃(k:Nat) (a':Option Addr) (c':Nat) (l':List Int),k<=rows.length/\i= .int .i64 k/\v= .slice a' l'.length c'/\Hid (l'=(rows.take k).flatten)/\
   Ow w.heap.size (fun k=>w.heap.size<=k) wr 3 (.slice a' l'.length c') l'/\Below w.heap.size w wr) (fun _ i _=>rows.length-(intOf i).toNat)
  case atStart=>exact ⟨0,a1,c1,[],ah,rfl,rfl,rfl,hO,hb1⟩
  case round=>
   clear hO hb1;obtain ⟨j,a2,c2,l2,hj,rfl,rfl,hl2,hO,hB⟩:=hrel;obtain ⟨w2,rfl⟩:=iA wr;by_cases hlj:j<rows.length
   ·have hll:=LJ rows (j+1);obtain ⟨b,off,a3,r,c3,rfl,hc,hr,hS⟩:=(H.out.below hB).iD hlj;have hl3:Hid (l2++r=(rows.take (j+1)).flatten):=bK (by rw [JO hr.out,hl2.out]);have iX:l2.length+r.length<1000000000000:=by rw [<-dB,hl3.out];omega
    have hsz:=hB.size;clear hll;go_wp2_with (at_builtin;refine jr (B:=w.heap.size) (l0:=l2) (l1:=r) rfl rfl underlying49 iE rfl rfl hO hS iX hsz ?_);intro a4 c4 l4 w4 hl4 hO4 hb4;have hB4:=hB.trans hb4;go_wp2;go_roundw;case rel=>exact ⟨j+1,a4,c4,l4,ah,by go_num,rfl,bK (by rw [hl4.out];exact hl3.out),hO4,hB4⟩
    case measure=>exact bF
   go_wp2;go_ret;exact ⟨a2,c2,l2,rfl,bK (by rw [hl2.out,bY ah]),hO,hB⟩
theorem ZV {a:Option Addr} {c:Nat} {rows:List (List Int)} (h:Sl M w a c rows) (hn:rows.flatten.length<1000000000000):Calls prog 79 #[.slice a rows.length c] w fun e w'=>∃a' c' l',e= .returned (.slice a' l'.length c')/\Hid (l'=rows.flatten)/\Ow w.heap.size (fun k=>w.heap.size<=k) w' 3 (.slice a' l'.length c') l'/\Below w.heap.size w w':=by
 go_enter func79,ntmps79;go_wp2_with fail;refine (Sm h hn).mono ?_;rintro e w1 ⟨a1,c1,l1,rfl,hl,hS,hB⟩;go_wp2;go_ret;exact ⟨a1,c1,l1,rfl,hl,hS,hB⟩
theorem uM {a:Option Addr} {c:Nat} {rows:List (List Int)} (h:Sl M w a c rows) (hn:rows.flatten.length<1000000000000):
    Calls prog 79 #[.slice a rows.length c] w fun e w'=>∃a' c' l',e= .returned (.slice a' l'.length c')/\Hid (l'=rows.flatten)/\Sl (fun k=>k<w.heap.size) w' a' c' l'/\Below w.heap.size w w':=
 (ZV h hn).mono fun _ _ ⟨a',c',l',h1,h2,h3,h4⟩=>⟨a',c',l',h1,h2,h3.fresh (bM _),h4⟩
theorem vP {a:Option Addr} {c:Nat} {l:List Int} (x:Int) (hx:i64 x) (h:Sl M w a c l) (hn:l.length<100000000000):Calls prog 231 #[.slice a l.length c,.int .i64 x] w fun e w'=>∃a' c' l',e= .returned (.slice a' l'.length c')/\Hid (l'=l++[x])/\Sl (fun k=>k<w.heap.size) w' a' c' l'/\Below w.heap.size w w':=by
 go_enter func231,ntmps231;go_wp2_with (at_builtin;refine jr (B:=w.heap.size) (l0:=[]) (l1:=l) rfl rfl underlying49 iE rfl rfl Ow.nil h aJ (bM _) ?_);intro a1 c1 l1 w1 hl1 kH hb1;have hz1:=hb1.size;have hle:l1.length<100000000000:=by rw [hl1.out];simpa using hn
 go_wp2_with (at_builtin;refine iQ (B:=w.heap.size) (l:=l1) (y:=x) rfl rfl underlying49 iE rfl rfl (kH.alloc _) bf hx ah aJ ?_);intro a2 c2 l2 w2 hl2 hO2 hb2;go_wp2;go_ret;exact ⟨a2,c2,l2,rfl,bK (by rw [hl2.out,hl1.out]),hO2.fresh (bM _),(hb1.alloc hz1 _).trans hb2⟩
end
section
variable {M:Nat->Prop} {w:World}
end
def rJ (l p:List Int):Bool:=decide (jf l p=p.length)
namespace Ob
variable (o:Ob)
def find (w:List Int):Option Tr:=o.jg.find? (fun t=>rJ t.inn w)
def known (w:List Int):Bool:=decide (w=[])||(o.find w).isSome
def ans (w:List Int):List Int:=if w=[] then [] else match o.find w with|none=>[]|some t=>t.out.take w.length
def lens:Prop:=∀t∈o.jg,t.inn.length<=t.out.length/\t.out.length<100000000000
variable {o}
theorem ac4 {w:List Int} (h:w=[]):o.ans w=[]/\o.known w=true:=by
 unfold ans known;simp [h]
theorem ZW {w:List Int} (h:¬w=[]) (h2:∀t∈o.jg,rJ t.inn w=false):o.ans w=[]/\o.known w=false:=by
 have:o.find w=none:=by unfold find;rw [arb];intro t ht;rw [h2 t ht];decide
 unfold ans known;simp [h,this]
theorem ZX {w:List Int} {k:Nat} {t:Tr} (h:¬w=[]) (ht:o.jg[k]? =some t) (hp:rJ t.inn w=true) (h2:∀t∈o.jg.take k,rJ t.inn w=false):o.ans w=t.out.take w.length/\o.known w=true:=by
 have hk:k<o.jg.length:=by
  by_cases e:k<o.jg.length;·exact e
  rw [bZ ah] at ht;simp at ht
 have:o.find w=some t:=by
  unfold find;rw [arC];refine ⟨hp,o.jg.take k,o.jg.drop (k+1),?_,fun y hy=>by rw [h2 y hy];decide⟩;have e:o.jg[k]=t:=by rw [bN hk] at ht;simpa using ht
  rw [<-e,List.getElem_cons_drop,fJ]
 unfold ans known;simp [h,this]
end Ob
theorem Vj {l:List Tr} {w:List Int} {k:Nat} {t:Tr} (hx:l[k]? =some t) (hp:rJ t.inn w=false) (hn:∀y∈l.take k,rJ y.inn w=false):∀y∈l.take (k+1),rJ y.inn w=false:=by
 intro y hy;rw [dh,hx] at hy;simp at hy;rcases hy with hy|rfl;·exact hn y hy
 exact hp
theorem ac5 {l p:List Int} (h:rJ l p=true):p.length<=l.length:=by
 unfold rJ at h;have:=(Aw l p).1;have:=fT h;omega
theorem Sn {a:Option Addr} {n c:Nat} {x y:Bool} (h:x=y):Ending.returned (.tuple #[.slice a n c,.bool x])= .returned (.tuple #[.slice a n c,.bool y]):=by rw [h]
theorem afN {x y:Int} (h:x=y):Ending.returned (.int .i64 x)= .returned (.int .i64 y):=by rw [h]
theorem blw {w w':World} (h:Hid (∃n,w'=w.drewN n)) (B:Nat):Below B w w':=by
 obtain ⟨n,rfl⟩:=h.out;exact below_drewN _ _ _
section
variable {M M':Nat->Prop} {w:World} {a b:Option Addr} {c d:Nat}
theorem ac6 {xs ys:List Int} (h1:Sl M w a c xs) (h2:Sl M' w b d ys) {v:Bool} (h:rJ xs ys=v):
    Calls prog 62 #[.slice a xs.length c,.slice b ys.length d] w fun e w'=>e= .returned (.bool v)/\Below w.heap.size w w':=
 (Oe (h1.anti (M':=fun _=>False) fun _ _ h=>h.elim) (h2.anti (M':=fun _=>False) fun _ _ h=>h.elim)).mono fun e w' ⟨he,hw⟩=>⟨by rw [he,<-h];rfl,blw hw _⟩
theorem LK {t:Tr} {l:List Int} {b1 b2:Option Addr} {c1 c2 g:Nat} (h1:Sl M w b1 c1 t.inn) (h2:Sl M' w b d l) (hc:w.cell? ⟨g,0,none⟩=some (.slice b l.length d)) {v:Bool} (h:rJ t.inn l=v):Calls prog 66 #[trV t b1 c1 b2 c2,.pointer (some ⟨g,0,none⟩)] w fun e w'=>e= .returned (.bool v)/\Below w.heap.size w w':=by
 have hl2:=h2.le;have hlt:=lt_of_cell hc;have hc2:=(iB w (trO t b1 c1 b2 c2)).cell (p:=⟨g,0,none⟩) hlt;rw [hc] at hc2;have HC:=bK (ac6 (h1.alloc (trO t b1 c1 b2 c2)) (h2.alloc (trO t b1 c1 b2 c2)) h);have hB0:=iB w (trO t b1 c1 b2 c2);clear h1 h2 hc h hlt;go_enter func66,ntmps66;go_wp2_with fail;refine (HC.out).mono ?_;rintro e w2 ⟨rfl,hb2⟩;have hB:=hB0.trans (hb2.mono aH);go_wp2;go_ret;exact ⟨rfl,hB⟩
theorem ZY {l:List Tr} {p:List Int} {g k:Nat} {t:Tr} (hs:Sl M w a c l) (hw:Sl M' w b d p) (hc:w.cell? ⟨g,0,none⟩=some (.slice b p.length d)) (hk:l[k]? =some t) (hp:rJ t.inn p=true) (hn:∀y∈l.take k,rJ y.inn p=false):Calls prog 65 #[.slice a l.length c,.func (Fn.func 66) #[] #[.pointer (some ⟨g,0,none⟩)]] w fun e w'=>e= .returned (.int .i64 k)/\Below w.heap.size w w':=by
 have hll:=hs.le;have afO:=lt_of_cell hc;have HS:=bK hs;have HW:=bK hw;have HH:=bK hn;have hB0:=bP w.heap.size w;clear hs hw hn;go_enter func65,ntmps65;go_wp2;go_loopw [8] (fun i wr=>∃j:Nat,j<=l.length/\i= .int .i64 j/\Hid (∀y∈l.take j,rJ y.inn p=false)/\Below w.heap.size w wr) (fun i _=>l.length-(intOf i).toNat);case atStart=>exact ⟨0,ah,rfl,(fun y hy=>by simp at hy),hB0⟩
 case round=>
  clear hB0;obtain ⟨j,hj,rfl,hN,hB⟩:=hrel;obtain ⟨w1,rfl⟩:=iA wr;by_cases hlt:j<l.length
  ·obtain ⟨b1,o1,a1,c1,a2,c2,t',rfl,hc1,hc2,ht,hs1,hs2⟩:=(HS.out.below hB).UM hlt;have hcw:=(hB.cell (p:=⟨g,0,none⟩) afO).trans hc;by_cases hq:rJ t'.inn p=true
   ·have HC:=bK (LK (b2:=a2) (c2:=c2) hs1 (HW.out.below hB) hcw hq);have HE:Hid (((j:Nat):Int)=k):=by
     unfold Hid;have:¬k<j:=fun e=>by have:=hN.out t (by rw [arn];exact ⟨k,by rw [dL,bQ e];exact hk⟩);rw [hp] at this;cases this
     have:¬j<k:=fun e=>by have:=HH.out t' (by rw [arn];exact ⟨j,by rw [dL,bQ e];exact ht.out⟩);rw [hq] at this;cases this
     omega
    clear hs1 hs2 hcw hq;go_wp2_with fail;refine (HC.out).mono ?_;rintro e w2 ⟨rfl,hb2⟩;have hB2:=hB.trans (hb2.mono (ig hB.size));go_wp2;go_ret;exact ⟨afN (by rw [HE.out]),hB2⟩
   have HC:=bK (LK (b2:=a2) (c2:=c2) hs1 (HW.out.below hB) hcw (v:=false) (iq hq));have IG:Hid (∀y∈l.take (j+1),rJ y.inn p=false):=Vj ht.out (iq hq) hN.out;clear hs1 hs2 hcw hq hN;go_wp2_with fail;refine (HC.out).mono ?_;rintro e w2 ⟨rfl,hb2⟩;have hB2:=hB.trans (hb2.mono (ig hB.size));go_wp2;go_roundw;case rel=>exact ⟨j+1,ah,by go_num,IG,hB2⟩
   case measure=>exact bF
  exfalso;have hkl:k<l.length:=by
   by_cases e:k<l.length;·exact e
   rw [bZ ah] at hk;simp at hk
  have:=hN.out t (by rw [bY ah];exact bV hk);rw [hp] at this;cases this
theorem ac7 {l:List Tr} {p:List Int} {g:Nat} (hs:Sl M w a c l) (hw:Sl M' w b d p) (hc:w.cell? ⟨g,0,none⟩=some (.slice b p.length d)) (hn:∀y∈l,rJ y.inn p=false):Calls prog 65 #[.slice a l.length c,.func (Fn.func 66) #[] #[.pointer (some ⟨g,0,none⟩)]] w fun e w'=>e= .returned (.int .i64 (-1))/\Below w.heap.size w w':=by
 have hll:=hs.le;have afO:=lt_of_cell hc;have HS:=bK hs;have HW:=bK hw;have HH:=bK hn;have hB0:=bP w.heap.size w;clear hs hw hn;go_enter func65,ntmps65;go_wp2;go_loopw [8] (fun i wr=>∃j:Nat,j<=l.length/\i= .int .i64 j/\Hid (∀y∈l.take j,rJ y.inn p=false)/\Below w.heap.size w wr) (fun i _=>l.length-(intOf i).toNat);case atStart=>exact ⟨0,ah,rfl,(fun y hy=>by simp at hy),hB0⟩
 case round=>
  clear hB0;obtain ⟨j,hj,rfl,hN,hB⟩:=hrel;obtain ⟨w1,rfl⟩:=iA wr;by_cases hlt:j<l.length
  ·obtain ⟨b1,o1,a1,c1,a2,c2,t',rfl,hc1,hc2,ht,hs1,hs2⟩:=(HS.out.below hB).UM hlt;have hcw:=(hB.cell (p:=⟨g,0,none⟩) afO).trans hc;by_cases hq:rJ t'.inn p=true;·have:=HH.out t' (bV ht.out);rw [hq] at this;cases this
   have HC:=bK (LK (b2:=a2) (c2:=c2) hs1 (HW.out.below hB) hcw (v:=false) (iq hq));have IG:Hid (∀y∈l.take (j+1),rJ y.inn p=false):=Vj ht.out (iq hq) hN.out;clear hs1 hs2 hcw hq hN;go_wp2_with fail;refine (HC.out).mono ?_;rintro e w2 ⟨rfl,hb2⟩;have hB2:=hB.trans (hb2.mono (ig hB.size));go_wp2;go_roundw;case rel=>exact ⟨j+1,ah,by go_num,IG,hB2⟩
   case measure=>exact bF
  go_wp2;go_ret;exact ⟨rfl,hB⟩
theorem Sq (o:Ob) (l:List Int):(∀y∈o.jg,rJ y.inn l=false)\/∃(k:Nat) (t:Tr),o.jg[k]? =some t/\rJ t.inn l=true/\∀y∈o.jg.take k,rJ y.inn l=false:=by
 cases e:o.jg.find? (fun t=>rJ t.inn l) with
 |none=>rw [arb] at e;exact .inl fun y hy=>by simpa using e y hy
 |some t=>
  rw [arC] at e;obtain ⟨hp,xs,ys,hl,hn⟩:=e;refine .inr ⟨xs.length,t,?_,hp,fun y hy=> ?_⟩;·rw [hl];simp
  rw [hl] at hy;simp at hy;simpa using hn y hy
theorem ac8 {o:Ob} {l:List Int} (ho:Os M w a c o) (hw:Sl M' w b d l) (hl:Hid o.lens):Calls prog 25 #[obV o a c,.slice b l.length d] w fun e w'=>∃(a':Option Addr) (c':Nat) (l':List Int),e= .returned (.tuple #[.slice a' l'.length c',.bool (o.known l)])/\Hid (l'=o.ans l)/\ Sl (fun k=>k<w.heap.size) w' a' c' l'/\Below w.heap.size w w':=by
 have hll:=hw.le;have hol:=ho.jg.le;have hB0:=(iB w (Lm o a c)).alloc aH (.cells #[.slice b l.length d] 49);have HO:=bK ho;have HW:=bK hw;have hx0:O2 ((w.alloc (Lm o a c)).alloc (.cells #[.slice b l.length d] 49)) w.heap.size a c o:=(Zm w).below (B:=w.heap.size+1) ((bP _ _).alloc aH _) ah;have hz0:w.heap.size+2<=((w.alloc (Lm o a c)).alloc (.cells #[.slice b l.length d] 49)).heap.size:=aH;have hc0:((w.alloc (Lm o a c)).alloc (.cells #[.slice b l.length d] 49)).cell? ⟨w.heap.size+1,0,none⟩=some (.slice b l.length d):=acQ _ _ _ aH;clear ho hw;by_cases h0:l=[]
 ·have h0b:(((l.length:Nat):Int)==0)=true:=by simp [h0]
  have HF:=bK (o.ac4 h0);clear h0;go_enter func25,ntmps25;go_wp2;go_ret2;exact ⟨none,0,[],Sn HF.out.2.symm,HF.out.1.symm,Sl.nil _ _ _ aS,hB0⟩
 have h0b:(((l.length:Nat):Int)==0)=false:=by simp [h0]
 have H0:=bK h0;clear h0;rcases Sq o l with hn|⟨k,t,ht,hp,hn⟩
 ·have HF:=bK (o.ZW H0.out hn);have HC:=bK (ac7 (HO.out.below hB0).jg (HW.out.below hB0) hc0 hn);clear hn hx0;go_enter func25,ntmps25;go_wp2_with fail;generalize ((w.alloc (Lm o a c)).alloc (.cells #[.slice b l.length d] 49))=w0 at*
  refine (HC.out).mono ?_;rintro e w2 ⟨rfl,hb2⟩;have hB2:=hB0.trans (hb2.mono ah);clear hb2;go_wp2;go_ret2;exact ⟨none,0,[],Sn HF.out.2.symm,HF.out.1.symm,Sl.nil _ _ _ aS,hB2⟩
 have HF:=bK (o.ZX H0.out ht hp hn);have hkl:k<o.jg.length:=by
  by_cases e:k<o.jg.length;·exact e
  rw [bZ ah] at ht;simp at ht
 have HT:=bK ht;have hle:=bK (hl.out t (bV ht));have hlo:l.length<=t.out.length:=dH (ac5 hp) hle.out.1;have hto:t.out.length<100000000000:=hle.out.2;have HC:=bK (ZY (HO.out.below hB0).jg (HW.out.below hB0) hc0 ht hp hn);clear ht hp hn;go_enter func25,ntmps25;go_wp2_with fail;generalize ((w.alloc (Lm o a c)).alloc (.cells #[.slice b l.length d] 49))=w0 at*
 refine (HC.out).mono ?_;rintro e w2 ⟨rfl,hb2⟩;have hx2:=hx0.below hb2 ah;have hc2:=(hb2.cell (p:=⟨w.heap.size+1,0,none⟩) (by show w.heap.size+1<_;omega)).trans hc0;have hB2:=hB0.trans (hb2.mono ah);have hz2:w.heap.size+2<=w2.heap.size:=ig hb2.size;obtain ⟨b1,o1,a1,c1,a2,c2,t',rfl,hd1,hd2,ht',hs1,hs2⟩:=(HO.out.below hB2).jg.UM hkl;obtain rfl:t=t':=by have h1:=HT.out;have h2:=ht'.out;rw [h1] at h2;simpa using h2
 have aoN:=hs2.1;have aoO:=hs2.2.1;have aio:min ((l.length:Nat):Int) ((t.out.length:Nat):Int)=((l.length:Nat):Int):=ah;have HS:=bK hs2;clear hx0 hc0 hb2 HC hd1 hs1 hs2;go_wp2_with fail;have e1:(t.out.take l.length).length=l.length:=by rw [dx];omega
 have HC:=uJ (HS.out.taken hlo) ah;rw [e1] at HC;refine HC.mono ?_;rintro e w3 ⟨a3,c3,l3,rfl,hl3,hs3,hb3⟩;have hB3:=hB2.trans (hb3.mono ah);have hs4:=hs3.anti (M':=fun k=>k<w.heap.size) (fun k _ hk=>by omega);have hl4:Hid (l3=o.ans l):=bK (by rw [hl3.out,HF.out.1]);clear hl3 hs3 hb3 hB2;go_wp2;go_ret2;exact ⟨a3,c3,l3,Sn HF.out.2.symm,hl4,hs4,hB3⟩
end
theorem Ch {a:Option Addr} {n c:Nat} {b b':Bool} (h:b=b'):Ending.returned (.tuple #[.slice a n c,.bool b])= .returned (.tuple #[.slice a n c,.bool b']):=by rw [h]
theorem Z_ {a:Option Addr} {n n' c:Nat} {b b':Bool} (h:n=n') (h2:b=b'):Ending.returned (.tuple #[.slice a n c,.bool b])= .returned (.tuple #[.slice a n' c,.bool b']):=by rw [h,h2]
theorem row_of {w:List Int} {k:Nat} {l:List Int} (h:l=w.take k++List.replicate (w.length-k) 0) (hk:k<=w.length):l.length=w.length:=by rw [h,afE hk]
section
variable {M:Nat->Prop} {w:World} {a:Option Addr} {c:Nat}
theorem WR {l:List Int} (h:Sl M w a c l) (n:Int):Calls prog 125 #[.slice a l.length c,.int .i64 n] w fun e w'=>∃a' c' l',e= .returned (.tuple #[.slice a' l'.length c',.bool (nU l n)])/\Hid (l'=nT l n)/\Sl (fun k=>k<w.heap.size) w' a' c' l'/\Below w.heap.size w w':=by
 have hll:=h.le;have HC:=bK (vG h n);by_cases he:jI l n=0
 ·have he':(jI l n !=0)=false:=by simp [he]
  obtain ⟨n0,n1,hl2,hx2⟩:=JK he;have HX:=bK hx2;have HE:=bK he;clear he hx2;go_enter func125,ntmps125;go_wp2_with fail;refine (HC.out).mono ?_;rintro e w1 ⟨rfl,hB1⟩;have h1:=h.below hB1;have hz1:=hB1.size;clear h HC;go_wp2_with fail;refine (rV h1 ah).mono ?_;rintro e w2 ⟨a2,c2,l2,rfl,D_,hO,hb2⟩;have FL:Hid (l2.length=l.length):=bK (by rw [D_.out]);have hO':Ow w1.heap.size (fun k=>w1.heap.size<=k) w2 3 (.slice a2 l.length c2) l2:=by rw [<-FL.out];exact hO
  rw [FL.out];have hr0:Hid (l2=l.take l.length++List.replicate (l.length-l.length) 0):=bK (by rw [D_.out];simp);have hn0:Hid (xw n (l.drop l.length)=none):=bK (by simp [xw]);clear D_ FL hO;go_wp2
  go_loopw [7] (fun i wr=>∃(k:Nat) (pW:List Int),k<=l.length/\((0<k/\∃t:Nat,t+1=k/\i= .int .i64 t)\/(k=0/\i= .int .i64 (-1)))/\Hid (pW=l.take k++List.replicate (l.length-k) 0)/\Hid (xw n (l.drop k)=none)/\
   Ow w1.heap.size (fun k=>w1.heap.size<=k) wr 3 (.slice a2 l.length c2) pW/\Below w1.heap.size w1 wr) (fun i _=>(intOf i+1).toNat)
  case atStart=>
   refine ⟨l.length,l2,ah,?_,hr0,hn0,hO',hb2⟩;by_cases e:l.length=0;·exact .inr ⟨e,by rw [e];rfl⟩
   exact .inl ⟨ah,l.length-1,ah,by rw [show ((l.length-1:Nat):Int)=(l.length:Int)-1 from by omega]⟩
  case round=>
   clear hr0 hn0 hO' hb2;obtain ⟨k,pW,hk,hi,hr,hn,hO,hB⟩:=hrel;obtain ⟨w3,rfl⟩:=iA wr;have hs3:=hB.size;have iX:Hid (l.length=pW.length):=(row_of hr.out hk).symm;rcases hi with ⟨hk0,t,ht,rfl⟩|⟨hk0,rfl⟩
   ·obtain ⟨g,x,rfl,hc,hf,hx, -⟩:=hO.mO iX.out (j:=t) (ig iX.out);have hg:=(hO.lt g rfl).1;have hxl:Hid (l[t]? =some x):=by have htl:t<l.length:=ah;have e1:=hx.out;rw [hr.out,<-ht,aez (x:=l[t]) (bN htl)] at e1;rw [<-e1];exact bN htl
    obtain ⟨x0,x1⟩:=HX.out x (bV hxl.out);have hn':Hid (xw n (l.drop (t+1))=none):=by have:=hn.out;rw [<-ht] at this;exact this
    have hr':Hid (pW=l.take (t+1)++List.replicate (l.length-(t+1)) 0):=by have:=hr.out;rw [<-ht] at this;exact this
    by_cases hlt:x+1<n
    ·have HN:=bK (OC HE.out (ZA hxl.out hn'.out hlt));have hO2:=hO.nu (x:=x+1) iX.out hg t bg;have Vk:=bK hO2;clear hO2;go_wp2;go_ret2;have h3:=Vk.out;have e3:l.length=(pW.set t (x+1)).length:=by rw [iX.out];simp
     rw [e3] at h3;exact ⟨_,_,pW.set t (x+1),Z_ e3 HN.out.2.symm,bK (by rw [hr'.out];exact HN.out.1.symm),h3.fresh hz1,hB1.trans ((hB.setCell (p:=⟨g,t,none⟩) hg _).mono hz1)⟩
    have HN:=bK (Oz hxl.out hn'.out hlt);have HR:Hid (pW.set t 0=l.take t++List.replicate (l.length-t) 0):=bK (by rw [hr'.out];exact ZB hxl.out);have hO2:=hO.nu (x:=0) iX.out hg t bg;have Vk:=bK hO2;have HB:=bK (hB.setCell (p:=⟨g,t,none⟩) hg (.int .i64 0));clear hO2;go_wp2;go_roundw;case rel=>
     refine ⟨t,pW.set t 0,ah,?_,HR.out,HN.out,Vk.out,HB.out⟩;by_cases e:t=0;·exact .inr ⟨e,by subst e;rfl⟩
     exact .inl ⟨ah,t-1,ah,by rw [show ((t-1:Nat):Int)=(t:Int)-1 from by omega]⟩
    case measure=>simp [intOf]
   have hn':Hid (xw n l=none):=by have:=hn.out;rw [hk0] at this;exact this
   have hr':Hid (pW=List.replicate l.length 0):=bK (by rw [hr.out,hk0];simp);by_cases nH:l.length=1024
   ·have hfb:((l.length:Int)==1024)=true:=by simp [nH]
    have HN:=bK (JJ HE.out hn'.out nH);have HK:=bK hk0;clear nH hk0;go_wp2;go_ret2;exact ⟨none,0,[],Ch HN.out.2.symm,HN.out.1.symm,Sl.nil _ _ _ aS,hB1.trans (hB.mono hz1)⟩
   have hfb:((l.length:Int)==1024)=false:=aJ;have HN:=bK (Dj HE.out hn'.out nH);have HK:=bK hk0;have hO2:Ow w1.heap.size (fun k=>w1.heap.size<=k) w3 3 (.slice a2 pW.length c2) pW:=by rw [<-iX.out];exact hO
   have Vk:=bK hO2;clear nH hk0 hO2 hO;go_wp2_with (at_builtin;refine iQ (B:=w1.heap.size) (l:=pW) (y:=0) rfl rfl underlying49 iE (by rw [<-iX.out];rfl) rfl (Vk.out.alloc _) bf bg (by rw [<-iX.out];omega) aJ ?_);intro a5 c5 l5 w5 hl5 kV hb5;have jw:=hB1.trans (((hB.alloc hs3 _).trans hb5).mono hz1);have hF:Hid (l5=nT l n):=bK (by rw [HN.out.1,hl5.out,hr'.out]);clear hb5;go_wp2;go_ret2;exact ⟨a5,c5,l5,Ch HN.out.2.symm,hF.out,kV.fresh hz1,jw⟩
 have he':(jI l n !=0)=true:=by simp [he]
 have HN:=bK (Ov he);clear he;go_enter func125,ntmps125;go_wp2_with fail;refine (HC.out).mono ?_;rintro e w1 ⟨rfl,hB1⟩;clear HC;go_wp2;go_ret2;exact ⟨none,0,[],Ch HN.out.2.symm,HN.out.1.symm,Sl.nil _ _ _ aS,hB1⟩
theorem WS {l:List Int} (h:Sl M w a c l) (n:Int):Calls prog 188 #[.slice a l.length c,.int .i64 n] w fun e w'=>∃a' c' l',e= .returned (.tuple #[.slice a' l'.length c',.bool (nU l n)])/\Hid (l'=nT l n)/\Sl (fun k=>k<w.heap.size) w' a' c' l'/\Below w.heap.size w w':=by
 have hll:=h.le;have HC:=bK (xu h n);by_cases he:jI l n=0
 ·have he':(jI l n !=0)=false:=by simp [he]
  obtain ⟨n0,n1,hl2,hx2⟩:=JK he;have HX:=bK hx2;have HE:=bK he;clear he hx2;go_enter func188,ntmps188;go_wp2_with fail;refine (HC.out).mono ?_;rintro e w1 ⟨rfl,hw⟩;obtain rfl:w=w1:=hw.symm;have hB1:=bP w.heap.size w;have hz1:w.heap.size<=w.heap.size:=bM _;obtain ⟨w1,hw1⟩:∃w1,w1=w:=⟨_,rfl⟩;have H:=bK h;clear h HC;go_wp2_with (at_builtin;refine jr (B:=w.heap.size) (l0:=[]) (l1:=l) rfl rfl underlying49 iE rfl rfl (Ow.zero (bM _)) (H.out.alloc _) aJ aH ?_);intro a2 c2 l2 w2 D_ hO hb2;replace hb2:Below w.heap.size w w2:=((bP _ _).alloc (bM _) _).trans hb2;replace D_:Hid (l2=l):=iq D_;subst hw1;have FL:Hid (l2.length=l.length):=bK (by rw [D_.out]);have hO':Ow w1.heap.size (fun k=>w1.heap.size<=k) w2 3 (.slice a2 l.length c2) l2:=by rw [<-FL.out];exact hO
  rw [FL.out];have hr0:Hid (l2=l.take l.length++List.replicate (l.length-l.length) 0):=bK (by rw [D_.out];simp);have hn0:Hid (xw n (l.drop l.length)=none):=bK (by simp [xw]);clear D_ FL hO;go_wp2
  go_loopw [7] (fun i wr=>∃(k:Nat) (pW:List Int),k<=l.length/\((0<k/\∃t:Nat,t+1=k/\i= .int .i64 t)\/(k=0/\i= .int .i64 (-1)))/\Hid (pW=l.take k++List.replicate (l.length-k) 0)/\Hid (xw n (l.drop k)=none)/\
   Ow w1.heap.size (fun k=>w1.heap.size<=k) wr 3 (.slice a2 l.length c2) pW/\Below w1.heap.size w1 wr) (fun i _=>(intOf i+1).toNat)
  case atStart=>
   refine ⟨l.length,l2,ah,?_,hr0,hn0,hO',hb2⟩;by_cases e:l.length=0;·exact .inr ⟨e,by rw [e];rfl⟩
   exact .inl ⟨ah,l.length-1,ah,by rw [show ((l.length-1:Nat):Int)=(l.length:Int)-1 from by omega]⟩
  case round=>
   clear hr0 hn0 hO' hb2;obtain ⟨k,pW,hk,hi,hr,hn,hO,hB⟩:=hrel;obtain ⟨w3,rfl⟩:=iA wr;have hs3:=hB.size;have iX:Hid (l.length=pW.length):=(row_of hr.out hk).symm;rcases hi with ⟨hk0,t,ht,rfl⟩|⟨hk0,rfl⟩
   ·obtain ⟨g,x,rfl,hc,hf,hx, -⟩:=hO.mO iX.out (j:=t) (ig iX.out);have hg:=(hO.lt g rfl).1;have hxl:Hid (l[t]? =some x):=by have htl:t<l.length:=ah;have e1:=hx.out;rw [hr.out,<-ht,aez (x:=l[t]) (bN htl)] at e1;rw [<-e1];exact bN htl
    obtain ⟨x0,x1⟩:=HX.out x (bV hxl.out);have hn':Hid (xw n (l.drop (t+1))=none):=by have:=hn.out;rw [<-ht] at this;exact this
    have hr':Hid (pW=l.take (t+1)++List.replicate (l.length-(t+1)) 0):=by have:=hr.out;rw [<-ht] at this;exact this
    by_cases hlt:x<n-1
    ·have HN:=bK (OC HE.out (ZA hxl.out hn'.out ah));have hO2:=hO.nu (x:=x+1) iX.out hg t bg;have Vk:=bK hO2;clear hO2;go_wp2;go_ret2;have h3:=Vk.out;have e3:l.length=(pW.set t (x+1)).length:=by rw [iX.out];simp
     rw [e3] at h3;exact ⟨_,_,pW.set t (x+1),Z_ e3 HN.out.2.symm,bK (by rw [hr'.out];exact HN.out.1.symm),h3.fresh hz1,hB1.trans ((hB.setCell (p:=⟨g,t,none⟩) hg _).mono hz1)⟩
    have HN:=bK (Oz hxl.out hn'.out ah);have HR:Hid (pW.set t 0=l.take t++List.replicate (l.length-t) 0):=bK (by rw [hr'.out];exact ZB hxl.out);have hO2:=hO.nu (x:=0) iX.out hg t bg;have Vk:=bK hO2;have HB:=bK (hB.setCell (p:=⟨g,t,none⟩) hg (.int .i64 0));clear hO2;go_wp2;go_roundw;case rel=>
     refine ⟨t,pW.set t 0,ah,?_,HR.out,HN.out,Vk.out,HB.out⟩;by_cases e:t=0;·exact .inr ⟨e,by subst e;rfl⟩
     exact .inl ⟨ah,t-1,ah,by rw [show ((t-1:Nat):Int)=(t:Int)-1 from by omega]⟩
    case measure=>simp [intOf]
   have hn':Hid (xw n l=none):=by have:=hn.out;rw [hk0] at this;exact this
   have hr':Hid (pW=List.replicate l.length 0):=bK (by rw [hr.out,hk0];simp);by_cases nH:l.length=1024
   ·have hfb:((l.length:Int)==1024)=true:=by simp [nH]
    have HN:=bK (JJ HE.out hn'.out nH);have HK:=bK hk0;clear nH hk0;go_wp2;go_ret2;exact ⟨none,0,[],Ch HN.out.2.symm,HN.out.1.symm,Sl.nil _ _ _ aS,hB1.trans (hB.mono hz1)⟩
   have hfb:((l.length:Int)==1024)=false:=aJ;have HN:=bK (Dj HE.out hn'.out nH);have HK:=bK hk0;have hO2:Ow w1.heap.size (fun k=>w1.heap.size<=k) w3 3 (.slice a2 pW.length c2) pW:=by rw [<-iX.out];exact hO
   have Vk:=bK hO2;clear nH hk0 hO2 hO;go_wp2_with (at_builtin;refine iQ (B:=w1.heap.size) (l:=pW) (y:=0) rfl rfl underlying49 iE (by rw [<-iX.out];rfl) rfl (Vk.out.alloc _) bf bg (by rw [<-iX.out];omega) aJ ?_);intro a5 c5 l5 w5 hl5 kV hb5;have jw:=hB1.trans (((hB.alloc hs3 _).trans hb5).mono hz1);have hF:Hid (l5=nT l n):=bK (by rw [HN.out.1,hl5.out,hr'.out]);clear hb5;go_wp2;go_ret2;exact ⟨a5,c5,l5,Ch HN.out.2.symm,hF.out,kV.fresh hz1,jw⟩
 have he':(jI l n !=0)=true:=by simp [he]
 have HN:=bK (Ov he);clear he;go_enter func188,ntmps188;go_wp2_with fail;refine (HC.out).mono ?_;rintro e w1 ⟨rfl,hw⟩;obtain rfl:w=w1:=hw.symm;have hB1:=bP w.heap.size w;clear HC;go_wp2;go_ret2;exact ⟨none,0,[],Ch HN.out.2.symm,HN.out.1.symm,Sl.nil _ _ _ aS,hB1⟩
end
def II (n N:Int):Nat->List (List Int)->List Int->Bool->List (List Int)×Int
 |0,out,_,_=>(out,0)
 |f+1,out,w,ok=>if ok=true/\(w.length:Int)<=N then (if out.length=10000 then ([],11) else II n N f (out++[w]) (nT w n) (nU w n)) else (out,0)
def jM (n N:Int):List (List Int)×Int:=if (n<1\/1024<n)\/N<0\/1024<N then ([],2) else II n N 10001 [] [] true
theorem OO {n N:Int} {f:Nat} {out:List (List Int)} {w:List Int} {ok:Bool} (h:¬(ok=true/\(w.length:Int)<=N)):II n N f out w ok=(out,0):=by
 cases f with
 |zero=>rfl
 |succ f=>unfold II;rw [bO h]
theorem OP {n N:Int} {f:Nat} {out:List (List Int)} {w:List Int} {ok:Bool} (h:ok=true/\(w.length:Int)<=N) (h2:out.length=10000) (hf:f=10001-out.length):II n N f out w ok=([],11):=by
 obtain rfl:f=0+1:=ah;unfold II;rw [bQ h,bQ h2]
theorem aac {n N:Int} {f:Nat} {out:List (List Int)} {w:List Int} {ok:Bool} (h:ok=true/\(w.length:Int)<=N) (h2:¬out.length=10000) (h3:out.length<=10000) (hf:f=10001-out.length):II n N f out w ok=II n N (10001-(out.length+1)) (out++[w]) (nT w n) (nU w n):=by
 obtain ⟨f',rfl⟩:∃f',f=f'+1:=⟨f-1,ah⟩;have e:10001-(out.length+1)=f':=ah;rw [e];conv=>lhs;unfold II
 rw [bQ h,bO h2]
section
variable {w:World}
theorem afP (n:Int) (h:n<1\/1024<n):Calls prog 56 #[.slice none 0 0,.int .i64 n] w fun e w'=>e= .returned (.int .i64 2)/\Below w.heap.size w w':=by
 have:=vG (l:=[]) (Sl.nil (fun _=>False) w none (c:=0) aS) n;rwa [R_ h] at this
theorem ac9 (n:Int) (h:¬(n<1\/1024<n)):Calls prog 56 #[.slice none 0 0,.int .i64 n] w fun e w'=>e= .returned (.int .i64 0)/\Below w.heap.size w w':=by
 have:=vG (l:=[]) (Sl.nil (fun _=>False) w none (c:=0) aS) n;rwa [Sb h aH aH] at this
theorem afQ (n:Int) (h:n<1\/1024<n):Calls prog 99 #[.int .i64 n] w fun e w'=>e= .returned (.bool false)/\Below w.heap.size w w':=
 (UR n h).mono fun _ _ ⟨h1,h2⟩=>⟨h1,by rw [h2];exact bP _ _⟩
theorem ada (n:Int) (h:¬(n<1\/1024<n)):Calls prog 99 #[.int .i64 n] w fun e w'=>e= .returned (.bool true)/\Below w.heap.size w w':=
 (Oh n h).mono fun _ _ ⟨h1,h2⟩=>⟨h1,by rw [h2];exact bP _ _⟩
theorem FM (n N:Int):Calls prog 74 #[.int .i64 n,.int .i64 N] w fun e w'=>∃(a':Option Addr) (c':Nat) (L:List (List Int)) (er:Int),e= .returned (.tuple #[.slice a' L.length c',.int .i64 er])/\Hid (jM n N=(L,er))/\ Sl (fun k=>k<w.heap.size) w' a' c' L/\Below w.heap.size w w':=by
 by_cases h1:n<1\/1024<n
 ·have HF:Hid (jM n N=([],2)):=by unfold Hid jM;rw [bQ (.inl h1)]
  have HC:=bK (afP (w:=w) n h1);clear h1;go_enter func74,ntmps74;go_wp2_with fail;refine (HC.out).mono ?_;rintro e w1 ⟨rfl,hb1⟩;go_wp2;go_ret2;exact ⟨none,0,[],2,rfl,HF.out,Sl.nil _ _ _ aS,hb1⟩
 have HC:=bK (ac9 (w:=w) n h1);by_cases h2:N<0\/1024<N
 ·have HF:Hid (jM n N=([],2)):=by unfold Hid jM;rw [bQ (.inr h2)]
  rcases h2 with h2|h2;·clear h1;go_enter func74,ntmps74;go_wp2_with fail;refine (HC.out).mono ?_;rintro e w1 ⟨rfl,hb1⟩;go_wp2;go_ret2;exact ⟨none,0,[],2,rfl,HF.out,Sl.nil _ _ _ aS,hb1⟩
  have h3:¬N<0:=ah;clear h1;go_enter func74,ntmps74;go_wp2_with fail;refine (HC.out).mono ?_;rintro e w1 ⟨rfl,hb1⟩;go_wp2;go_ret2;exact ⟨none,0,[],2,rfl,HF.out,Sl.nil _ _ _ aS,hb1⟩
 have HF:Hid (jM n N=II n N (10001-0) [] [] true):=by unfold Hid jM;rw [bO (by rintro (h|h);exact h1 h;exact h2 h)]
 have h3:¬N<0:=ah;have h4:¬1024<N:=ah;clear h1 h2;go_enter func74,ntmps74;go_wp2_with fail;refine (HC.out).mono ?_;rintro e w1 ⟨rfl,hb1⟩;have kJ:Ox (α:=List Int) w.heap.size w.heap.size w1 49 (.slice none 0 0) []:=Ox.nil;have hS0:Sl (fun k=>(Value.slice none 0 0).ownBlock=some k\/k<w.heap.size) w1 none 0 ([]:List Int):=Sl.nil _ _ _ aS;clear HC;go_wp2
 go_loopw [6,7,8] (fun v0 u0 t wr=>∃(a':Option Addr) (c':Nat) (K:List (List Int)) (ax:Option Addr) (cx:Nat) (x:List Int) (ok:Bool),v0= .slice a' K.length c'/\u0= .slice ax x.length cx/\t= .bool ok/\K.length<=10000/\
  Hid (jM n N=II n N (10001-K.length) K x ok)/\Ox w.heap.size w.heap.size wr 49 (.slice a' K.length c') K/\Sl (fun k=>(Value.slice a' K.length c').ownBlock=some k\/k<w.heap.size) wr ax cx x/\Below w.heap.size w wr) (fun v0 u0 _ _=>10001-(match v0 with| .slice _ n _=>n|_=>0))
 case atStart=>exact ⟨none,0,[],none,0,[],true,rfl,rfl,rfl,aH,HF,kJ,hS0,hb1⟩
 case round=>
  clear kJ hS0 hb1 HF;obtain ⟨a2,c2,K,ax,cx,x,ok,rfl,rfl,rfl,hK,hF,hO,hS,hB⟩:=hrel;obtain ⟨w2,rfl⟩:=iA wr;have hxl:=hS.le;by_cases hc:ok=true/\(x.length:Int)<=N
  ·obtain ⟨rfl,hc2⟩:=hc;by_cases hk:K.length=10000
   ·have HF:Hid (jM n N=([],11)):=by unfold Hid;rw [hF.out];exact OP ⟨rfl,hc2⟩ hk rfl
    have hkb:(((K.length:Nat):Int)==10000)=true:=by simp [hk]
    clear hk hF;go_wp2;go_ret2;exact ⟨none,0,[],11,rfl,HF.out,Sl.nil _ _ _ aS,hB⟩
   have hkb:(((K.length:Nat):Int)==10000)=false:=aJ;have HF:Hid (jM n N=II n N (10001-(K.length+1)) (K++[x]) (nT x n) (nU x n)):=bK (by rw [hF.out];exact aac ⟨rfl,hc2⟩ hk hK rfl);have hk1:K.length+1<=10000:=ah;have hz:=hB.size;have pz:K.length<1000000000000:=ah;clear hk hF;go_wp2_with (at_builtin;refine jd (n0:=w.heap.size) (B:=w.heap.size) (r:=x) (ar:=ax) (cr:=cx) rfl rfl underlying22 iI rfl rfl (hO.alloc _) bf (hS.alloc _) pz aJ ?_);intro a4 c4 K4 w4 hK4 hO4 hbk hgr;have hB4:=(hB.alloc hz (.cells #[.slice ax x.length cx] 49)).grown hgr aJ (fun k hk=>(hO.lt k hk).1);have nN:=hB4.size;have ku:Sl (fun k=>(Value.slice a4 K4.length c4).ownBlock=some k\/k<w.heap.size) w4 ax cx x:=by
    refine (hS.alloc (.cells #[.slice ax x.length cx] 49)).ext ⟨hgr.size,fun k hk hm=>hgr.block k hk fun e=>hm (.inl e.symm),fun k hk hm=> ?_⟩;rcases hm with hm|hm
    ·rcases hbk.out k hm with e|e;·exact .inl e
     have hk':k<w2.heap.size+1:=iq hk;omega
    exact .inr hm
   have hl4:K4.length<=10000:=by rw [hK4.out];simpa using hk1
   have hF4:Hid (jM n N=II n N (10001-K4.length) K4 (nT x n) (nU x n)):=bK (by rw [HF.out,hK4.out];simp);have afR:K.length<K4.length:=by rw [hK4.out];simp
   have HC:=bK (WR ku n);clear hK4 hbk hgr hO hB hS HF ku;go_wp2_with fail;refine (HC.out).mono ?_;rintro e w5 ⟨a5,c5,x5,rfl,hx5,hs5,hb5⟩;have kV:=Ox.later hO4 hb5;have jw:=hB4.trans (hb5.mono ah)
   have hS5:=hs5.anti (M':=fun k=>(Value.slice a4 K4.length c4).ownBlock=some k\/k<w.heap.size) fun k _ hm=>by
    rcases hm with hm|hm
    ·exact (hO4.lt k hm).2
    omega
   have hF5:Hid (jM n N=II n N (10001-K4.length) K4 x5 (nU x n)):=bK (by rw [hF4.out,hx5.out]);clear hO4 hB4 hb5 hs5 hF4 hx5 HC;go_wp2;go_roundw;case rel=>exact ⟨a4,c4,K4,a5,c5,x5,nU x n,rfl,rfl,rfl,hl4,hF5,kV,hS5,jw⟩
   case measure=>simp;omega
  have HF:Hid (jM n N=(K,0)):=bK (by rw [hF.out];exact OO hc);have zh:=hO.jD (bM _);cases ok with
  |false=>clear hc hF;go_wp2;go_ret2;exact ⟨a2,c2,K,0,rfl,HF.out,zh,hB⟩
  |true=>have hc2:¬(x.length:Int)<=N:=fun h=>hc ⟨rfl,h⟩;clear hc hF;go_wp2;go_ret2;exact ⟨a2,c2,K,0,rfl,HF.out,zh,hB⟩
theorem WT (n N:Int):Calls prog 146 #[.int .i64 n,.int .i64 N] w fun e w'=>∃(a':Option Addr) (c':Nat) (L:List (List Int)) (er:Int),e= .returned (.tuple #[.slice a' L.length c',.int .i64 er])/\Hid (jM n N=(L,er))/\ Sl (fun k=>k<w.heap.size) w' a' c' L/\Below w.heap.size w w':=by
 by_cases h1:n<1\/1024<n
 ·have HF:Hid (jM n N=([],2)):=by unfold Hid jM;rw [bQ (.inl h1)]
  have HC:=bK (afQ (w:=w) n h1);clear h1;go_enter func146,ntmps146;go_wp2_with fail;refine (HC.out).mono ?_;rintro e w1 ⟨rfl,hb1⟩;go_wp2;go_ret2;exact ⟨none,0,[],2,rfl,HF.out,Sl.nil _ _ _ aS,hb1⟩
 have HC:=bK (ada (w:=w) n h1);by_cases h2:N<0\/1024<N
 ·have HF:Hid (jM n N=([],2)):=by unfold Hid jM;rw [bQ (.inr h2)]
  rcases h2 with h2|h2;·clear h1;go_enter func146,ntmps146;go_wp2_with fail;refine (HC.out).mono ?_;rintro e w1 ⟨rfl,hb1⟩;go_wp2;go_ret2;exact ⟨none,0,[],2,rfl,HF.out,Sl.nil _ _ _ aS,hb1⟩
  have h3:¬N<0:=ah;clear h1;go_enter func146,ntmps146;go_wp2_with fail;refine (HC.out).mono ?_;rintro e w1 ⟨rfl,hb1⟩;go_wp2;go_ret2;exact ⟨none,0,[],2,rfl,HF.out,Sl.nil _ _ _ aS,hb1⟩
 have HF:Hid (jM n N=II n N (10001-0) [] [] true):=by unfold Hid jM;rw [bO (by rintro (h|h);exact h1 h;exact h2 h)]
 have h3:¬N<0:=ah;have h4:¬1024<N:=ah;clear h1 h2;go_enter func146,ntmps146;go_wp2_with fail;refine (HC.out).mono ?_;rintro e w1 ⟨rfl,hb1⟩;have kJ:Ox (α:=List Int) w.heap.size w.heap.size w1 49 (.slice none 0 0) []:=Ox.nil;have hS0:Sl (fun k=>(Value.slice none 0 0).ownBlock=some k\/k<w.heap.size) w1 none 0 ([]:List Int):=Sl.nil _ _ _ aS;clear HC;go_wp2
 go_loopw [6,7,8] (fun v0 u0 t wr=>∃(a':Option Addr) (c':Nat) (K:List (List Int)) (ax:Option Addr) (cx:Nat) (x:List Int) (ok:Bool),u0= .slice a' K.length c'/\v0= .slice ax x.length cx/\t= .bool ok/\K.length<=10000/\
  Hid (jM n N=II n N (10001-K.length) K x ok)/\Ox w.heap.size w.heap.size wr 49 (.slice a' K.length c') K/\Sl (fun k=>(Value.slice a' K.length c').ownBlock=some k\/k<w.heap.size) wr ax cx x/\Below w.heap.size w wr) (fun v0 u0 _ _=>10001-(match u0 with| .slice _ n _=>n|_=>0))
 case atStart=>exact ⟨none,0,[],none,0,[],true,rfl,rfl,rfl,aH,HF,kJ,hS0,hb1⟩
 case round=>
  clear kJ hS0 hb1 HF;obtain ⟨a2,c2,K,ax,cx,x,ok,rfl,rfl,rfl,hK,hF,hO,hS,hB⟩:=hrel;obtain ⟨w2,rfl⟩:=iA wr;have hxl:=hS.le;by_cases hc:ok=true/\(x.length:Int)<=N
  ·obtain ⟨rfl,hc2⟩:=hc;by_cases hk:K.length=10000
   ·have HF:Hid (jM n N=([],11)):=by unfold Hid;rw [hF.out];exact OP ⟨rfl,hc2⟩ hk rfl
    have hkb:(((K.length:Nat):Int)==10000)=true:=by simp [hk]
    clear hk hF;go_wp2;go_ret2;exact ⟨none,0,[],11,rfl,HF.out,Sl.nil _ _ _ aS,hB⟩
   have hkb:(((K.length:Nat):Int)==10000)=false:=aJ;have HF:Hid (jM n N=II n N (10001-(K.length+1)) (K++[x]) (nT x n) (nU x n)):=bK (by rw [hF.out];exact aac ⟨rfl,hc2⟩ hk hK rfl);have hk1:K.length+1<=10000:=ah;have hz:=hB.size;have pz:K.length<1000000000000:=ah;clear hk hF;go_wp2_with (at_builtin;refine jd (n0:=w.heap.size) (B:=w.heap.size) (r:=x) (ar:=ax) (cr:=cx) rfl rfl underlying22 iI rfl rfl (hO.alloc _) bf (hS.alloc _) pz aJ ?_);intro a4 c4 K4 w4 hK4 hO4 hbk hgr;have hB4:=(hB.alloc hz (.cells #[.slice ax x.length cx] 49)).grown hgr aJ (fun k hk=>(hO.lt k hk).1);have nN:=hB4.size;have ku:Sl (fun k=>(Value.slice a4 K4.length c4).ownBlock=some k\/k<w.heap.size) w4 ax cx x:=by
    refine (hS.alloc (.cells #[.slice ax x.length cx] 49)).ext ⟨hgr.size,fun k hk hm=>hgr.block k hk fun e=>hm (.inl e.symm),fun k hk hm=> ?_⟩;rcases hm with hm|hm
    ·rcases hbk.out k hm with e|e;·exact .inl e
     have hk':k<w2.heap.size+1:=iq hk;omega
    exact .inr hm
   have hl4:K4.length<=10000:=by rw [hK4.out];simpa using hk1
   have hF4:Hid (jM n N=II n N (10001-K4.length) K4 (nT x n) (nU x n)):=bK (by rw [HF.out,hK4.out];simp);have afR:K.length<K4.length:=by rw [hK4.out];simp
   have HC:=bK (WS ku n);clear hK4 hbk hgr hO hB hS HF ku;go_wp2_with fail;refine (HC.out).mono ?_;rintro e w5 ⟨a5,c5,x5,rfl,hx5,hs5,hb5⟩;have kV:=Ox.later hO4 hb5;have jw:=hB4.trans (hb5.mono ah)
   have hS5:=hs5.anti (M':=fun k=>(Value.slice a4 K4.length c4).ownBlock=some k\/k<w.heap.size) fun k _ hm=>by
    rcases hm with hm|hm
    ·exact (hO4.lt k hm).2
    omega
   have hF5:Hid (jM n N=II n N (10001-K4.length) K4 x5 (nU x n)):=bK (by rw [hF4.out,hx5.out]);clear hO4 hB4 hb5 hs5 hF4 hx5 HC;go_wp2;go_roundw;case rel=>exact ⟨a4,c4,K4,a5,c5,x5,nU x n,rfl,rfl,rfl,hl4,hF5,kV,hS5,jw⟩
   case measure=>simp;omega
  have HF:Hid (jM n N=(K,0)):=bK (by rw [hF.out];exact OO hc);have zh:=hO.jD (bM _);cases ok with
  |false=>clear hc hF;go_wp2;go_ret2;exact ⟨a2,c2,K,0,rfl,HF.out,zh,hB⟩
  |true=>have hc2:¬(x.length:Int)<=N:=fun h=>hc ⟨rfl,h⟩;clear hc hF;go_wp2;go_ret2;exact ⟨a2,c2,K,0,rfl,HF.out,zh,hB⟩
end
end
section
open Tryz
end
