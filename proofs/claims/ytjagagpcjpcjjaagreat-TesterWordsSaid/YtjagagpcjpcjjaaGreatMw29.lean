/- Lemmas, each with its own conditions. -/
import Derived.Test.YtjagagpcjpcjjaaGreatMw25
import Derived.Test.YtjagagpcjpcjjaaGreatMw22
set_option maxRecDepth 100000
set_option maxHeartbeats 32000000
namespace Go.Proofs.YtjagagpcjpcjjaaGreat
open Tryz
open Go.RowKit
theorem xJ {α β:Type} {f:α->β} {l:List α} {k:Nat} {x:α} (h:l[k]? =some x):(l.take (k+1)).map f=(l.take k).map f++[f x]:=by
 rw [dh,h];simp
section
variable {M M':Nat->Prop} {w:World} {a b:Option Addr} {c d:Nat} {l:List (List Int)} {u:List Int}
theorem Gn (hu:Sl M w a c u) (hs:Sl M' w b d l) (hl:Hid (mK l)) (hul:u.length<1000000000):Calls prog 81 #[.slice a u.length c,.slice b l.length d] w fun e w'=>∃(a':Option Addr) (c':Nat) (L:List (List Int)),e= .returned (.slice a' L.length c')/\Hid (L=l.map (fun v=>u++v))/\ Sl (fun k=>k<w.heap.size) w' a' c' L/\Below w.heap.size w w':=by
 have hll:=hl.out.1;have apa:=hu.le;have HU:=bK (hu.anti (M':=fun _=>False) fun _ _ h=>h.elim);have HS:=bK (hs.anti (M':=fun _=>False) fun _ _ h=>h.elim);have kJ:Ox (α:=List Int) w.heap.size w.heap.size w 49 (.slice none 0 0) []:=Ox.nil;have hB0:=bP w.heap.size w;clear hu hs;go_enter func81,ntmps81;go_wp2
 go_loopw [5,10] (fun v i wr=>∃(k:Nat) (a':Option Addr) (c':Nat) (K:List (List Int)),k<=l.length/\i= .int .i64 k/\v= .slice a' K.length c'/\Hid (K=(l.take k).map (fun v=>u++v))/\
  Ox w.heap.size w.heap.size wr 49 (.slice a' K.length c') K/\Below w.heap.size w wr) (fun _ i _=>l.length-(intOf i).toNat)
 case atStart=>exact ⟨0,none,0,[],ah,rfl,rfl,bK aH,kJ,hB0⟩
 case round=>
  clear kJ hB0;obtain ⟨k,a2,c2,K,hk,rfl,rfl,hK,hO,hB⟩:=hrel;obtain ⟨w2,rfl⟩:=iA wr;have hz:=hB.size;by_cases hlt:k<l.length
  ·obtain ⟨b1,o1,ax,x,cx,rfl,hcx,hx,hsx⟩:=(HS.out.below hB).iD hlt;have hxl:=hl.out.2 x (bV hx.out);have rW:Hid (K.length=k):=bK (by rw [hK.out];simp;omega);have pz:K.length<1000000000000:=by rw [rW.out];omega
   have hKn:Hid ((l.take (k+1)).map (fun v=>u++v)=K++[u++x]):=bK (by rw [xJ hx.out,hK.out]);have hr:=UQ (T:=49) (HU.out.below hB) hsx rfl (m:=x.length) rfl;have HC:=bK (uM hr (by rw [Dh];simp;omega));have hba:=iB w2 (.cells #[.slice a u.length c,.slice ax x.length cx] 49);have hO3:=Ox.later hO hba;have hB3:=hB.trans (hba.mono hz);have hz3:=hB3.size;clear hr hsx hO hB hba;go_wp2_with fail;clear hcx;generalize hgg:w2.alloc (.cells #[.slice a u.length c,.slice ax x.length cx] 49)=w3 at*
   clear hgg;refine (HC.out).mono ?_;rintro e w4 ⟨a4,c4,x4,rfl,hx4,hs4,hb4⟩;have hO4:=Ox.later hO3 hb4;have hB4:=hB3.trans (hb4.mono hz3);have nN:=hB4.size
   have ku:=hs4.anti (M':=fun k=>(Value.slice a2 K.length c2).ownBlock=some k\/k<w.heap.size) fun k _ hm=>by
    rcases hm with hm|hm
    ·exact (hO3.lt k hm).2
    omega
   have hKn:Hid ((l.take (k+1)).map (fun v=>u++v)=K++[x4]):=bK (by rw [hKn.out,hx4.out,Dh]);clear HC hb4 hs4 hO3 hB3 hx4;go_wp2_with (at_builtin;refine jd (n0:=w.heap.size) (B:=w.heap.size) (r:=x4) (ar:=a4) (cr:=c4) rfl rfl underlying22 iI rfl rfl (hO4.alloc _) bf (ku.alloc _) pz aJ ?_);intro a5 c5 K5 w5 xE kV hbk hgr;have jw:=(hB4.alloc nN (.cells #[.slice a4 x4.length c4] 49)).grown hgr aJ (fun k hk=>(hO4.lt k hk).1);have hKn:Hid (K5=(l.take (k+1)).map (fun v=>u++v)):=bK (by rw [xE.out,hKn.out]);clear xE hbk hgr hO4 hB4 ku;go_wp2;go_roundw;case rel=>exact ⟨k+1,a5,c5,K5,ah,by go_num,rfl,hKn,kV,jw⟩
   case measure=>exact bF
  have hKn:Hid (K=l.map (fun v=>u++v)):=bK (by rw [hK.out,bY ah]);have zh:=hO.jD (bM _);go_wp2;go_ret;exact ⟨a2,c2,K,rfl,hKn,zh,hB⟩
def tJ (l:List (List (List Int))):Nat:=l.foldl (fun n r=>max n r.length) 1
theorem sM {l:List (List (List Int))} {k:Nat} {r:List (List Int)} (h:l[k]? =some r):tJ (l.take (k+1))=max (tJ (l.take k)) r.length:=by
 unfold tJ;rw [dh,h,aql];rfl
theorem Bb {l:List (List (List Int))} (hs:Sl M w a c l):Calls prog 84 #[.slice a l.length c] w fun e w'=>e= .returned (.int .i64 (tJ l))/\w'=w:=by
 have hll:=hs.le;go_enter func84,ntmps84;go_wp2;go_loop [3,8] (fun v i=>∃k n:Nat,k<=l.length/\i= .int .i64 k/\v= .int .i64 n/\Hid (n=tJ (l.take k))/\n<=9223372036854775807) (fun _ i=>l.length-(intOf i).toNat);case atStart=>exact ⟨0,1,ah,rfl,rfl,rfl,ah⟩
 case round=>
  obtain ⟨k,n,hk,rfl,rfl,hn,hnl⟩:=hrel;by_cases hlt:k<l.length
  ·obtain ⟨b1,o1,ax,x,cx,rfl,hcx,hx,hsx⟩:=hs.iD hlt;have hxl:=hsx.le;have hn2:Hid (max n x.length=tJ (l.take (k+1))):=bK (by rw [sM hx.out,hn.out]);by_cases hm:n<=x.length
   ·have wU:Hid (x.length=tJ (l.take (k+1))):=by rw [arW hm] at hn2;exact hn2
    have hm2:max (n:Int) (x.length:Int)=(x.length:Int):=ah;go_wp2;go_round;case rel=>exact ⟨k+1,x.length,ah,by go_num,by go_num,wU,hxl⟩
    case measure=>exact bF
   have wU:Hid (n=tJ (l.take (k+1))):=by rw [ar1 ah] at hn2;exact hn2
   have hm2:max (n:Int) (x.length:Int)=(n:Int):=ah;go_wp2;go_round;case rel=>exact ⟨k+1,n,ah,by go_num,by go_num,wU,hnl⟩
   case measure=>exact bF
  have wU:Hid (n=tJ l):=by have:=hn.out;rw [bY ah] at this;exact this
  go_wp2;go_ret;exact ⟨kQ (by rw [wU.out]),rfl⟩
end
def tailW (m:g_) (ids:List (List (List Int))) (w:List Int):List (List Int):=if ids.getD (m.lD m.start w).toNat []=[] then [[]] else ids.getD (m.lD m.start w).toNat []
section
variable {M M' M'':Nat->Prop} {w:World} {an ao a b:Option Addr} {cn co c d:Nat} {m:g_} {ids:List (List (List Int))} {l:List Int}
theorem Ki (hm:Ma M w an cn ao co m) (hi:Sl M' w a c ids) (hw:Sl M'' w b d l) (ok:Hid m.Ok) (Dl:Hid (jI l m.gZ=0)) (hil:Hid (ids.length=m.h_.length)) (hsm:Hid (∀r∈ids,mK r)):Calls prog 80 #[kF m an cn ao co,.slice a ids.length c,.slice b l.length d] w fun e w'=>∃(a':Option Addr) (c':Nat) (L:List (List Int)),e= .returned (.tuple #[.slice a' L.length c',.int .i64 0])/\Hid (L=tailW m ids l)/\ Sl (fun k=>k<w.heap.size) w' a' c' L/\Below w.heap.size w w':=by
 have hB0:=iB w (iP m an cn ao co);have hx0:=jE w m an cn ao co;have hz0:w.heap.size+1<=(w.alloc (iP m an cn ao co)).heap.size:=aH;have l1:=hm.h_.le;have l2:=hi.le;have n1:=ok.out.n1;have HM:=bK hm;have HI:=bK (hi.anti (M':=fun _=>False) fun _ _ h=>h.elim);have HW:=bK hw;have hfr:=g_.yC (FT ok.out) Dl.out;have hen:=g_.rX ok.out l m.start ok.out.s0 ok.out.s1 (g_.Cg Dl.out).1;obtain ⟨s,hs⟩:=b_ hen.1;have hsn:s<ids.length:=by rw [hil.out];omega
 have HC:=OM (HM.out.below hB0) (HW.out.below hB0) m.start;rw [hfr.1,hfr.2.2,hs] at HC;have HC:=bK HC;have PV:=bK hs;have hne:(((ids.length:Nat):Int) !=((m.h_.length:Nat):Int))=false:=by simp [hil.out]
 clear hm hi hw hfr hen hs;go_enter func80,ntmps80;go_wp2_with fail;generalize w.alloc (iP m an cn ao co)=w0 at*
 refine (HC.out).mono ?_;rintro e w1 ⟨a1,c1,q1,rfl, -, -,hb1⟩;have hB1:=hB0.trans (hb1.mono ah);have hx1:=hx0.below hb1 ah;have hz1:w.heap.size+1<=w1.heap.size:=ig hb1.size;obtain ⟨b2,o2,a2,r,c2,rfl,hc2,hr,hs2⟩:=(HI.out.below hB1).iD hsn;have hgr:Hid (ids.getD (m.lD m.start l).toNat []=r):=bK (by rw [PV.out,dK,bS,hr.out];rfl);have hsr:=hsm.out r (bV hr.out);have hrl:=hs2.le;clear HC hB0 hx0 hz0 hb1;by_cases h0:r=[]
 ·have hr0:((r.length:Nat):Int)=0:=by simp [h0]
  have hF:Hid ([([]:List Int)]=tailW m ids l):=by unfold Hid tailW;rw [hgr.out,bQ h0]
  clear h0 hsr hs2;go_wp2;have hS2:Hid (Sl (fun k=>k<w.heap.size) (w1.alloc (.cells #[.slice none 0 0] 49)) (some ⟨w1.heap.size,0,none⟩) 1 [([]:List Int)]):=by
   refine Sl.Wu (dS _ _) (by show ¬w1.heap.size<w.heap.size;omega) rfl aS fun j x hj=> ?_;match j,hj with
   |0,hj=>simp at hj;subst hj;exact ⟨none,0,rfl,Sl.nil _ _ _ aS⟩
  have hB2:=hB1.alloc ah (.cells #[.slice none 0 0] 49);go_ret2;exact ⟨some ⟨w1.heap.size,0,none⟩,1,[[]],rfl,hF,hS2.out,hB2⟩
 have hr0:0<r.length:=List.length_pos_iff.2 h0;have hF:Hid (r=tailW m ids l):=by unfold Hid tailW;rw [hgr.out,bO h0]
 have HC:=bK (Gn (Sl.nil (α:=Int) (fun _=>False) w1 none (c:=0) aS) hs2 (bK hsr) aH);clear h0 hsr hs2;go_wp2_with fail;refine (HC.out).mono ?_;rintro e w2 ⟨a3,c3,L,rfl,hL,hs3,hb2⟩;have hB2:=hB1.trans (hb2.mono ah);have hF2:Hid (L=tailW m ids l):=bK (by rw [hL.out,<-hF.out];simp);have hs4:=hs3.anti (M':=fun k=>k<w.heap.size) fun k _ hk=>by omega
 clear hL hs3 hb2 HC;go_wp2;go_ret2;exact ⟨a3,c3,L,rfl,hF2,hs4,hB2⟩
end
def LoW (l:List (List Int)) (w:List Int) (p:Nat):Prop:=∀(i:Nat) v,i<p->l[i]? =some v->iM v w<0
def HiW (l:List (List Int)) (w:List Int) (p:Nat):Prop:=∀(i:Nat) v,p<=i->l[i]? =some v->¬iM v w<0
def PlW (l:List (List Int)) (w:List Int) (p:Nat):Prop:=p<=l.length/\LoW l w p/\HiW l w p
theorem aaG:∀{l:List (List Int)} {w:List Int} {p:Nat},PlW l w p->(l[p]? =some w->ins iM w l=l)/\(l[p]?≠some w->ins iM w l=l.take p++w::l.drop p)
 |[],w,p,h=>by
  have hp:p=0:=by have:=h.1;simp at this;exact this
  subst hp
  simp [ins]
 |v::l,w,0,h=>by
  have hn:=h.2.2 0 v (bM _) rfl
  unfold ins
  rw [bO hn]
  constructor
  ·intro e
   obtain rfl:v=w:=iq e
   rw [bQ (pK v)]
  intro e
  rw [bO (fun h0=>e (by rw [uG h0];rfl))]
  rfl
 |v::l,w,p+1,h=>by
  have hl:=h.2.1 0 v ah rfl
  have ih:=aaG (l:=l) (w:=w) (p:=p) ⟨by have:=h.1;simp at this;omega,fun i x hi hx=>h.2.1 (i+1) x ah (iq hx),fun i x hi hx=>h.2.2 (i+1) x ah (iq hx)⟩
  unfold ins
  rw [bQ hl]
  constructor
  ·intro e;rw [ih.1 (iq e)]
  intro e;rw [ih.2 (iq e)];rfl
theorem agj {l:List (List Int)} {w:List Int} {k:Nat} {v:List Int} (h:Asc iM l) (hk:l[k]? =some v) (hc:iM v w<0):LoW l w (k+1):=by
 intro i x hi hx;by_cases e:i=k
 ·subst e;rw [hk] at hx;have ex:v=x:=by simpa using hx
  rw [<-ex];exact hc
 have hkl:k<l.length:=by
  by_cases e:k<l.length;·exact e
  rw [bZ ah] at hk;simp at hk
 have:=arO.1 h i k ah hkl ah;rw [bN ah] at hx hk;have ex:l[i]=x:=iq hx;have ev:l[k]=v:=iq hk;rw [ex,ev] at this;exact jF.lt_trans this hc
theorem adu {l:List (List Int)} {w:List Int} {k:Nat} {v:List Int} (h:Asc iM l) (hk:l[k]? =some v) (hc:¬iM v w<0):HiW l w k:=by
 intro i x hi hx hx2;by_cases e:i=k
 ·subst e;rw [hk] at hx;have ex:v=x:=by simpa using hx
  rw [<-ex] at hx2;exact hc hx2
 have hil:i<l.length:=by
  by_cases e:i<l.length;·exact e
  rw [bZ ah] at hx;simp at hx
 have:=arO.1 h k i ah hil ah;rw [bN ah] at hx hk;have ex:l[i]=x:=iq hx;have ev:l[k]=v:=iq hk;rw [ex,ev] at this;exact hc (jF.lt_trans this hx2)
section
variable {M M':Nat->Prop} {w:World} {a b:Option Addr} {c d:Nat} {l:List (List Int)} {x:List Int}
theorem Td (hs:Sl M w a c l) (hx:Sl M' w b d x) (hA:Hid (Asc iM l)) (hl:l.length<1000000000):Calls prog 158 #[.slice a l.length c,.slice b x.length d] w fun e w'=>∃p:Nat,e= .returned (.int .i64 p)/\Hid (PlW l x p)/\Hid (∃n,w'=w.drewN n):=by
 have HS:=bK (hs.anti (M':=fun _=>False) fun _ _ h=>h.elim);have HX:=bK (hx.anti (M':=fun _=>False) fun _ _ h=>h.elim);have hD0:Hid (∃n,w=w.drewN n):=⟨0,rfl⟩;clear hs hx;go_enter func158,ntmps158;go_wp2;go_loopw [5,6] (fun u v wr=>∃lo hi:Nat,lo<=hi/\hi<=l.length/\u= .int .i64 lo/\v= .int .i64 hi/\Hid (LoW l x lo)/\Hid (HiW l x hi)/\Hid (∃n,wr=w.drewN n)) (fun u v _=>(intOf v).toNat-(intOf u).toNat);case atStart=>exact ⟨0,l.length,ah,ah,rfl,rfl,fun i v hi=>by omega,fun i v hi hv=>by rw [bZ hi] at hv;simp at hv,hD0⟩
 case round=>
  clear hD0;obtain ⟨lo,hi,hlh,hhl,rfl,rfl,hL,hH,hD⟩:=hrel;obtain ⟨w1,rfl⟩:=iA wr;by_cases hlt:lo<hi
  ·have hq:((lo:Int)+(hi:Int)).tdiv 2=(((lo+hi)/2:Nat):Int):=by rw [Int.tdiv_eq_ediv_of_nonneg ah];omega
   obtain ⟨k,hk⟩:∃k,k=(lo+hi)/2:=⟨_,rfl⟩;have hk1:lo<=k:=ah;have hk2:k<hi:=ah;have hkl:k<l.length:=ah;rw [<-hk] at hq;have hb1:=Xe hD w.heap.size;obtain ⟨b1,o1,ay,y,cy,rfl,hcy,hy,hsy⟩:=(HS.out.below hb1).iD hkl;have HC:=bK (ZE hsy ((HX.out.below hb1).anti (M':=fun _=>False) fun _ _ h=>h));clear hk hsy hb1;by_cases hc:iM y x<0
   ·have hL2:=bK (agj hA.out hy.out hc);go_wp2_with fail;refine (HC.out).mono ?_;rintro e w2 ⟨rfl,hD2⟩;have hD3:Hid (∃n,w2=w.drewN n):=by obtain ⟨n1,rfl⟩:=hD.out;obtain ⟨n2,rfl⟩:=hD2.out;exact ⟨_,ap4 _ _ _⟩
    clear HC hD hD2 hcy;go_wp2;go_roundw;case rel=>exact ⟨k+1,hi,ah,hhl,by go_num,rfl,hL2,hH,hD3⟩
    case measure=>exact bF
   have hH2:=bK (adu hA.out hy.out hc);go_wp2_with fail;refine (HC.out).mono ?_;rintro e w2 ⟨rfl,hD2⟩;have hD3:Hid (∃n,w2=w.drewN n):=by obtain ⟨n1,rfl⟩:=hD.out;obtain ⟨n2,rfl⟩:=hD2.out;exact ⟨_,ap4 _ _ _⟩
   clear HC hD hD2 hcy;go_wp2;go_roundw;case rel=>exact ⟨lo,k,ah,ah,rfl,rfl,hL,hH2,hD3⟩
   case measure=>exact bF
  have hF:Hid (PlW l x lo):=⟨ah,hL.out,fun i v hi=>hH.out i v ah⟩;go_wp2;go_ret;exact ⟨lo,rfl,hF,hD⟩
end
structure Xn (l R:List (List Int)) (i:Nat):Prop where
 len:R.length=l.length+1
 low:∀j,j<=i->R[j]? =(l++[[]])[j]?
 high:∀j,i<j->j<=l.length->R[j]? =l[j-1]?
theorem Xn.start {l:List (List Int)}:Xn l (l++[[]]) l.length:=⟨aH,fun _ _=>rfl,fun j h1 h2=>by omega⟩
theorem Xn.step {l R:List (List Int)} {i:Nat} {r:List Int} (h:Xn l R i) (hi:0<i) (hil:i<=l.length) (hr:R[i-1]? =some r):Xn l (R.set i r) (i-1):=by
 refine ⟨iq h.len,fun j hj=> ?_,fun j h1 h2=> ?_⟩;·rw [dY ah];exact h.low j ah
 by_cases e:i=j;·subst e;rw [fI (ig h.len),<-hr,h.low _ ah,dz ah]
 rw [dY e];exact h.high j ah h2
theorem Xn.done {l R:List (List Int)} {p:Nat} (h:Xn l R p) (hp:p<=l.length) (x:List Int):R.set p x=l.take p++x::l.drop p:=by
 apply eY;intro j;have hl:=h.len;by_cases e:p=j;·subst e;rw [fI ah,dN (by rw [dx];omega),dx,fM hp,aq9];rfl
 rw [dY e];by_cases hj:j<p;·rw [h.low j ah,dz ah,dz (by rw [dx];omega),dL,bQ hj]
 rw [dN (by rw [dx];omega),dx,fM hp];obtain ⟨q,hq⟩:∃q,j-p=q+1:=⟨j-p-1,ah⟩;rw [hq,ar0,eu];by_cases hjl:j<=l.length;·rw [h.high j ah hjl];congr 1;omega
 rw [bZ ah,bZ ah]
section
variable {M':Nat->Prop} {w:World} {n0 B:Nat} {a b:Option Addr} {c d:Nat} {l:List (List Int)} {x:List Int}
theorem Xo (hO:Ox n0 B w 49 (.slice a l.length c) l) (hx:Sl (fun k=>n0<=k) w b d x) (hA:Hid (Asc iM l)) (hl:l.length<1000000000) (hxl:x.length<1000000000) (hB:B<=w.heap.size) (hn0:n0<=B):Calls prog 98 #[.slice a l.length c,.slice b x.length d] w fun e w'=>∃(a':Option Addr) (c':Nat) (L:List (List Int)),e= .returned (.slice a' L.length c')/\Hid (L=ins iM x l)/\ Ox n0 B w' 49 (.slice a' L.length c') L/\Below B w w':=by
 have zh:=(hO.oF (M':=fun _=>False) fun _ _ h=>h.elim).jD fun _ _ h=>h;have HC:=bK (Td zh hx hA hl);clear zh;go_enter func98,ntmps98;go_wp2_with fail;refine (HC.out).mono ?_;rintro e w1 ⟨p,rfl,hP,hD⟩;have hbd:=Xe hD w.heap.size;have kH:=Ox.later hO hbd;have hx1:=hx.below hbd;have hB1:=hbd.mono hB;have hz1:B<=w1.heap.size:=dH hB hbd.size;have hpl:=hP.out.1;have hIn:=bK (aaG hP.out);clear HC hO hx hD hbd;have nW:(p<l.length/\l[p]? =some x)\/(p<l.length/\l[p]?≠some x)\/¬p<l.length:=by
  by_cases h1:p<l.length
  ·by_cases h2:l[p]? =some x;·exact .inl ⟨h1,h2⟩
   exact .inr (.inl ⟨h1,h2⟩)
  exact .inr (.inr h1)
 rcases nW with ⟨h1,h2⟩|nW
 ·have hF:Hid (l=ins iM x l):=(hIn.out.1 h2).symm;obtain ⟨g,rfl, -, -⟩:=jZ kH ah;obtain ⟨ay,y,cy,hcy, -,hy,hsy⟩:=kH.iD rfl h1;have hyx:y=x:=by have:=hy.out;rw [h2] at this;simpa using this.symm
  have HC:=JG (hsy.anti (M':=fun _=>False) fun _ _ h=>h.elim) (hx1.anti (M':=fun _=>False) fun _ _ h=>h.elim);rw [dw hyx] at HC;have HC:=bK HC;clear h2 hyx hsy hx1;go_wp2_with fail;refine (HC.out).mono ?_;rintro e w2 ⟨rfl,hD2⟩;have hb2:=Xe hD2 w1.heap.size;have hO2:=Ox.later kH hb2;have hB2:=hB1.trans (hb2.mono hz1);clear kH hb2 hD2;go_wp2;go_ret;exact ⟨_,c,l,rfl,hF,hO2,hB2⟩
 have hF:Hid (ins iM x l=l.take p++x::l.drop p):=by
  refine hIn.out.2 ?_;rcases nW with h|h;·exact h.2
  rw [bZ ah];simp
 rcases nW with ⟨h1,h2⟩|h1
 ·obtain ⟨g0,rfl, -, -⟩:=jZ kH ah;obtain ⟨ay,y,cy,hcy, -,hy,hsy⟩:=kH.iD rfl h1;have hyx:¬y=x:=by intro e;rw [<-e] at h2;exact h2 hy.out
  have HC:=JG (hsy.anti (M':=fun _=>False) fun _ _ h=>h.elim) (hx1.anti (M':=fun _=>False) fun _ _ h=>h.elim);rw [cZ hyx] at HC;have HC:=bK HC;clear h2 hyx hsy;go_wp2_with fail;refine (HC.out).mono ?_;rintro e w2 ⟨rfl,hD2⟩;have hb2:=Xe hD2 w1.heap.size;have hO2:=Ox.later kH hb2;have hx2:=hx1.below hb2;have hB2:=hB1.trans (hb2.mono hz1);have hz2:B<=w2.heap.size:=dH hz1 hb2.size;clear kH hb2 hD2 hx1 hB1 hz1 hcy HC;go_wp2_with (at_builtin;refine jd (n0:=n0) (B:=B) (β:=Int) (r:=[]) (ar:=none) (cr:=0) rfl rfl underlying22 iI rfl rfl (hO2.alloc _) bf (Sl.nil _ _ _ aS) ah aJ ?_);intro a3 c3 R0 w3 hR0 hO3 hbk hgr;have hB3:=(hB2.alloc hz2 (.cells #[.slice none 0 0] 49)).grown hgr aJ (fun k hk=>(hO2.lt k hk).1);have hx3:=(hx2.alloc (.cells #[.slice none 0 0] 49)).ext (Ext.grownBy hgr fun k hk=>dH hn0 (hO2.lt k hk).1);have hz3:=hB3.size;have hRl:R0.length=l.length+1:=by rw [hR0.out];simp
  obtain ⟨g,rfl,hg,hgl⟩:=jZ hO3 ah;have aaH:((R0.length:Nat):Int)-1=((l.length:Nat):Int):=ah;have hS0:Hid (Xn l R0 l.length):=bK (by rw [hR0.out];exact Xn.start);have HRL:=bK hRl;have aaI:Hid (Value.slice (some ⟨g,0,none⟩) R0.length c3=Value.slice (some ⟨g,0,none⟩) (l.length+1) c3):=bK (by rw [hRl]);rw [aaI.out] at hO3 ⊢;clear hO2 hB2 hx2 hbk hgr hR0 hRl aaH aaI;go_wp2;go_loopw [6] (fun v wr=>∃(i:Nat) (R:List (List Int)),p<=i/\i<=l.length/\v= .int .i64 i/\Hid (Xn l R i)/\Ox n0 B wr 49 (.slice (some ⟨g,0,none⟩) (l.length+1) c3) R/\Sl (fun k=>n0<=k) wr b d x/\Below B w wr/\B<=wr.heap.size) (fun v _=>(intOf v).toNat);case atStart=>exact ⟨l.length,R0,ah,ah,by go_num,hS0,hO3,hx3,hB3,ah⟩
  case round=>
   clear hS0 hO3 hx3 hB3 hz3;obtain ⟨i,R,hpi,hil,rfl,hS,hO,hx,hB,hz⟩:=hrel;obtain ⟨w4,rfl⟩:=iA wr;have hRl:l.length+1=R.length:=hS.out.len.symm;by_cases hlt:p<i
   ·obtain ⟨ar,r,cr,hcr, -,hr,hsr⟩:=hO.iD hRl (show i-1<R.length by omega);obtain ⟨az,z,cz,hcz,hfz, -, -⟩:=hO.iD hRl (show i<R.length by omega);have hi1:((i:Int)-1)=((i-1:Nat):Int):=ah;have hiw:IntKind.i64.wrap ((i-1:Nat):Int)=((i-1:Nat):Int):=eP _ ah;have LG:i-1<l.length+1:=ah;have apb:i<l.length+1:=ah;have hS2:=bK (hS.out.step ah hil hr.out);have kV:=bK (hO.tH hRl (.inl rfl) i hsr);have hx5:=bK (hx.ext (Ext.setCell w4 (p:=⟨g,i,none⟩) (show n0<=g by omega) (.slice ar r.length cr)));have jw:=bK (hB.setCell (p:=⟨g,i,none⟩) hg (.slice ar r.length cr));have yJ:Hid (B<=(w4.setCell ⟨g,i,none⟩ (.slice ar r.length cr)).heap.size):=bK (iq hz);clear hO hx hB hz hS hsr hRl;go_wp2;go_roundw;case rel=>exact ⟨i-1,R.set i r,ah,ah,by go_num,hS2,kV.out,hx5.out,jw.out,yJ.out⟩
    case measure=>exact bF
   have hip:i=p:=ah;have HRl:=bK hRl;have wN:=hO;have hS2:=hS.out;rw [hip] at hS2;have hDn:=bK (hS2.done ah x);have amt:p<l.length+1:=ah;clear hip hS2 hRl hS;go_wp2_with (at_builtin;refine jr (B:=w4.heap.size) (l0:=[]) (l1:=x) rfl rfl underlying49 iE rfl rfl (Ow.zero (bM _)) (hx.alloc _) aJ aH ?_);intro a6 c6 x6 w6 hx6 lu hb6;have kG:=(iB w4 (.cells #[] 3)).trans hb6;have yR:=Ox.later hO kG;have jY:=hB.trans (kG.mono hz);have xK:B<=w6.heap.size:=dH hz kG.size;have amu:g<w4.heap.size:=(hO.lt g rfl).2;obtain ⟨az,z,cz,hcz,hfz, -, -⟩:=yR.iD HRl.out (show p<R.length by have:=HRl.out;omega)
   have hsx:=(lu.fresh (n:=w4.heap.size) (bM _)).anti (M':=fun k=>(Value.slice (some ⟨g,0,none⟩) (l.length+1) c3).ownBlock=some k\/k<n0) fun k _ hm=>by
    rcases hm with hm|hm
    ·simp [Value.ownBlock] at hm;omega
    omega
   have uf:=yR.tH HRl.out (.inl rfl) p hsx;have hE:Hid (R.set p x6=ins iM x l):=bK (by rw [hF.out,show x6=x from by simpa using hx6.out];exact hDn.out);have hEl:Hid ((R.set p x6).length=l.length+1):=bK (by rw [fB];exact HRl.out.symm);have uf:Hid (Ox n0 B (w6.setCell ⟨g,p,none⟩ (.slice a6 x6.length c6)) 49 (.slice (some ⟨g,0,none⟩) (R.set p x6).length c3) (R.set p x6)):=bK (by rw [hEl.out];exact uf);have mg:=bK (jY.setCell (p:=⟨g,p,none⟩) hg (.slice a6 x6.length c6));clear hO hx hB hz hb6 kG yR jY lu hsx wN hx6;go_wp2;go_ret;exact ⟨some ⟨g,0,none⟩,c3,R.set p x6,Gc hEl.out.symm,hE,uf.out,mg.out⟩
 skip
 go_wp2_with (at_builtin;refine jd (n0:=n0) (B:=B) (β:=Int) (r:=[]) (ar:=none) (cr:=0) rfl rfl underlying22 iI rfl rfl (kH.alloc _) bf (Sl.nil _ _ _ aS) ah aJ ?_);intro a3 c3 R0 w3 hR0 hO3 hbk hgr;have hB3:=(hB1.alloc hz1 (.cells #[.slice none 0 0] 49)).grown hgr aJ (fun k hk=>(kH.lt k hk).1);have hx3:=(hx1.alloc (.cells #[.slice none 0 0] 49)).ext (Ext.grownBy hgr fun k hk=>dH hn0 (kH.lt k hk).1);have hz3:=hB3.size;have hRl:R0.length=l.length+1:=by rw [hR0.out];simp
 obtain ⟨g,rfl,hg,hgl⟩:=jZ hO3 ah;have aaH:((R0.length:Nat):Int)-1=((l.length:Nat):Int):=ah;have hS0:Hid (Xn l R0 l.length):=bK (by rw [hR0.out];exact Xn.start);have HRL:=bK hRl;have aaI:Hid (Value.slice (some ⟨g,0,none⟩) R0.length c3=Value.slice (some ⟨g,0,none⟩) (l.length+1) c3):=bK (by rw [hRl]);rw [aaI.out] at hO3 ⊢;clear kH hB1 hx1 hbk hgr hR0 hRl aaH aaI;go_wp2;go_loopw [6] (fun v wr=>∃(i:Nat) (R:List (List Int)),p<=i/\i<=l.length/\v= .int .i64 i/\Hid (Xn l R i)/\Ox n0 B wr 49 (.slice (some ⟨g,0,none⟩) (l.length+1) c3) R/\Sl (fun k=>n0<=k) wr b d x/\Below B w wr/\B<=wr.heap.size) (fun v _=>(intOf v).toNat);case atStart=>exact ⟨l.length,R0,ah,ah,by go_num,hS0,hO3,hx3,hB3,ah⟩
 case round=>
  clear hS0 hO3 hx3 hB3 hz3;obtain ⟨i,R,hpi,hil,rfl,hS,hO,hx,hB,hz⟩:=hrel;obtain ⟨w4,rfl⟩:=iA wr;have hRl:l.length+1=R.length:=hS.out.len.symm;by_cases hlt:p<i;·omega
  have hip:i=p:=ah;have HRl:=bK hRl;have wN:=hO;have hS2:=hS.out;rw [hip] at hS2;have hDn:=bK (hS2.done ah x);have amt:p<l.length+1:=ah;clear hip hS2 hRl hS;go_wp2_with (at_builtin;refine jr (B:=w4.heap.size) (l0:=[]) (l1:=x) rfl rfl underlying49 iE rfl rfl (Ow.zero (bM _)) (hx.alloc _) aJ aH ?_);intro a6 c6 x6 w6 hx6 lu hb6;have kG:=(iB w4 (.cells #[] 3)).trans hb6;have yR:=Ox.later hO kG;have jY:=hB.trans (kG.mono hz);have xK:B<=w6.heap.size:=dH hz kG.size;have amu:g<w4.heap.size:=(hO.lt g rfl).2;obtain ⟨az,z,cz,hcz,hfz, -, -⟩:=yR.iD HRl.out (show p<R.length by have:=HRl.out;omega)
  have hsx:=(lu.fresh (n:=w4.heap.size) (bM _)).anti (M':=fun k=>(Value.slice (some ⟨g,0,none⟩) (l.length+1) c3).ownBlock=some k\/k<n0) fun k _ hm=>by
   rcases hm with hm|hm
   ·simp [Value.ownBlock] at hm;omega
   omega
  have uf:=yR.tH HRl.out (.inl rfl) p hsx;have hE:Hid (R.set p x6=ins iM x l):=bK (by rw [hF.out,show x6=x from by simpa using hx6.out];exact hDn.out);have hEl:Hid ((R.set p x6).length=l.length+1):=bK (by rw [fB];exact HRl.out.symm);have uf:Hid (Ox n0 B (w6.setCell ⟨g,p,none⟩ (.slice a6 x6.length c6)) 49 (.slice (some ⟨g,0,none⟩) (R.set p x6).length c3) (R.set p x6)):=bK (by rw [hEl.out];exact uf);have mg:=bK (jY.setCell (p:=⟨g,p,none⟩) hg (.slice a6 x6.length c6));clear hO hx hB hz hb6 kG yR jY lu hsx wN hx6;go_wp2;go_ret;exact ⟨some ⟨g,0,none⟩,c3,R.set p x6,Gc hEl.out.symm,hE,uf.out,mg.out⟩
end
def pU (L:List (List Int)) (i k:Nat):Bool:= !(List.range k).any fun j=>decide (i<j)&&(!decide ((L.getD j []).length=(L.getD i []).length)&&decide (jf (L.getD j []) (L.getD i [])=(L.getD i []).length))
def keepR (L:List (List Int)) (k:Nat):List (List Int):=((List.range k).filter fun i=>pU L i L.length).map (fun i=>L.getD i [])
theorem Xp {L:List (List Int)} {i k:Nat} (h:k<=i+1):pU L i k=true:=by
 unfold pU;rw [aqy,arM];intro j hj;rw [aqE] at hj;simp;omega
theorem vV {L:List (List Int)} {i k:Nat} (h:i<k):pU L i (k+1)=(pU L i k&& !(!decide ((L.getD k []).length=(L.getD i []).length)&&decide (jf (L.getD k []) (L.getD i [])=(L.getD i []).length))):=by
 unfold pU;rw [aqg,ar2,Bool.not_or];simp [h]
theorem Gq (L:List (List Int)) (k:Nat):keepR L (k+1)=if pU L k L.length=true then keepR L k++[L.getD k []] else keepR L k:=by
 unfold keepR;rw [aqg,fV];by_cases h:pU L k L.length=true;·rw [bQ h];simp [h]
 rw [bO h];simp [h]
theorem Xq (L:List (List Int)) (k:Nat):(keepR L k).length<=k:=by
 unfold keepR;rw [dJ];have:=fK (fun i=>pU L i L.length) (List.range k);simpa using this
theorem Kj {L:List (List Int)} (h:Asc iM L) {i:Nat} (hi:i<L.length):pU L i L.length=ZH L L[i]:=by
 have hp:=arO.1 h;have gi:∀j (hj:j<L.length),L.getD j []=L[j]:=fun j hj=>by rw [bS,bN hj];rfl
 rw [aqh,mQ];unfold pU;rw [aqy,arM];constructor
 ·intro hk v hv hne yQ;obtain ⟨j,hj,rfl⟩:=fq hv;have iX:=yQ.length_le;have hll:L[j].length≠L[i].length:=fun e=>hne (yQ.eq_of_length e.symm).symm;have hij:i<j:=by
   by_cases e:j<i;·have h1:=hp j i hj hi e;rw [Fz,uH ah] at h1;omega
   by_cases e2:i=j;·subst e2;exact absurd rfl hne
   omega
  have:=hk j (aqE.2 hj);rw [gi j hj,gi i hi] at this;exact this (by simp [hij,hll,oW.2 yQ])
 intro hk j hj;rw [aqE] at hj;rw [gi j hj,gi i hi];simp only [gP,gQ,aqy,aqm,not_and];intro hij hll hc;exact hk L[j] (dQ hj) (fun e=>hll (by rw [e])) (oW.1 hc)
theorem adv (l:List (List Int)):keepR (nK iM l) (nK iM l).length=pO l:=by
 have hA:=rH jF l;unfold pO;refine vL jF ?_ (rH jF _) fun x=> ?_
 ·have hr:(List.range (nK iM l).length).map (fun i=>(nK iM l).getD i [])=nK iM l:=by
   apply eY;intro j;rw [dP];by_cases hj:j<(nK iM l).length;·rw [fO hj,bN hj];simp [hj]
   rw [bZ aJ,bZ ah];rfl
  have hs:(keepR (nK iM l) (nK iM l).length).Sublist (nK iM l):=by have h1:((List.range (nK iM l).length).filter fun i=>pU (nK iM l) i (nK iM l).length).Sublist (List.range (nK iM l).length):=List.filter_sublist;have:=h1.map (fun i=>(nK iM l).getD i []);rw [hr] at this;exact this
  exact List.Pairwise.sublist hs hA
 rw [j_ jF,aq8];unfold keepR;rw [aqJ];constructor
 ·rintro ⟨i,hi,rfl⟩;rw [aq8,aqE] at hi;have gi:(nK iM l).getD i []=(nK iM l)[i]:=by rw [bS,bN hi.1];rfl
  rw [gi];have hm:=dQ hi.1;refine ⟨(j_ jF).1 hm,?_⟩;rw [Kj hA hi.1] at hi;exact mQ.2 fun v hv=>mQ.1 hi.2 v ((j_ jF).2 hv)
 rintro ⟨hx,ht⟩;obtain ⟨i,hi,rfl⟩:=fq ((j_ jF).2 hx);have gi:(nK iM l).getD i []=(nK iM l)[i]:=by rw [bS,bN hi];rfl
 refine ⟨i,aq8.2 ⟨aqE.2 hi,?_⟩,gi⟩;rw [Kj hA hi];exact mQ.2 fun v hv=>mQ.1 ht v ((j_ jF).1 hv)
section
variable {M M':Nat->Prop} {w w':World} {a b:Option Addr} {c d:Nat} {l l2:List (List Int)}
theorem amv {α:Type} [GR α] {B:Nat} {l:List α} (h:Sl (fun k=>B<=k) w a c l) (hb:Below B w w'):Sl (fun k=>B<=k) w' a c l:=h.ext ⟨hb.size,fun k _ hm=>hb.block k ah,fun _ _ h=>h⟩
theorem qQ (hs:Sl M w a c l) (hl:Hid (mK l)):Calls prog 43 #[.slice a l.length c] w fun e w'=>∃(a':Option Addr) (c':Nat) (L:List (List Int)),e= .returned (.slice a' L.length c')/\Hid (L=nK iM l)/\ Sl (fun k=>k<w.heap.size) w' a' c' L/\Below w.heap.size w w':=by
 have hll:=hl.out.1;have HS:=bK (Lx hs);have kJ:Ox (α:=List Int) w.heap.size w.heap.size w 49 (.slice none 0 0) []:=Ox.nil;have hB0:=bP w.heap.size w;clear hs;go_enter func43,ntmps43;go_wp2
 go_loopw [3,4] (fun v i wr=>∃(k:Nat) (a':Option Addr) (c':Nat) (K:List (List Int)),k<=l.length/\i= .int .i64 k/\v= .slice a' K.length c'/\Hid (K=nK iM (l.take k))/\
  Ox w.heap.size w.heap.size wr 49 (.slice a' K.length c') K/\Below w.heap.size w wr) (fun _ i _=>l.length-(intOf i).toNat)
 case atStart=>exact ⟨0,none,0,[],ah,rfl,rfl,bK (by simp [nK]),kJ,hB0⟩
 case round=>
  clear kJ hB0;obtain ⟨k,a2,c2,K,hk,rfl,rfl,hK,hO,hB⟩:=hrel;obtain ⟨w2,rfl⟩:=iA wr;have hz:=hB.size;by_cases hlt:k<l.length
  ·obtain ⟨b1,o1,ax,x,cx,rfl,hcx,hx,hsx⟩:=(amv HS.out hB).iD hlt;have hxl:=hl.out.2 x (bV hx.out);have rW:K.length<1000000000:=by have h1:=vM (cf:=iM) (l.take k);rw [hK.out];rw [dx] at h1;omega
   have hA:Hid (Asc iM K):=bK (by rw [hK.out];exact rH jF _);have hKn:Hid (nK iM (l.take (k+1))=ins iM x K):=bK (by rw [OE hx.out,hK.out]);have HC:=bK (Xo hO hsx hA rW hxl hz (bM _));clear hO hsx;go_wp2_with fail;refine (HC.out).mono ?_;rintro e w3 ⟨a3,c3,K3,rfl,hK3,hO3,hb3⟩;have hB3:=hB.trans hb3;have hKn:Hid (K3=nK iM (l.take (k+1))):=bK (by rw [hK3.out,hKn.out]);clear HC hB hb3 hK3;go_wp2;go_roundw;case rel=>exact ⟨k+1,a3,c3,K3,ah,by go_num,rfl,hKn,hO3,hB3⟩
   case measure=>exact bF
  have hKn:Hid (K=nK iM l):=bK (by rw [hK.out,bY ah]);have zh:=hO.jD (bM _);go_wp2;go_ret;exact ⟨a2,c2,K,rfl,hKn,zh,hB⟩
theorem Vw {xs ys:List Int} (h1:Sl M w a c xs) (h2:Sl M w b d ys) {v:Bool} (h:decide (jf xs ys=ys.length)=v):
    Calls prog 101 #[.slice a xs.length c,.slice b ys.length d] w fun e w'=>e= .returned (.bool v)/\∃n,w'=w.drewN n:=
 (Ww h1 h2).mono fun _ _ ⟨h3,h4⟩=>⟨by rw [h3,h],h4.out⟩
theorem Gs (hs:Sl M w a c l) (hl:Hid (mK l)):Calls prog 54 #[.slice a l.length c] w fun e w'=>∃(a':Option Addr) (c':Nat) (L:List (List Int)),e= .returned (.slice a' L.length c')/\Hid (L=pO l)/\ Sl (fun k=>k<w.heap.size) w' a' c' L/\Below w.heap.size w w':=by
 have HC:=bK (qQ hs hl);clear hs;go_enter func54,ntmps54;go_wp2_with fail;refine (HC.out).mono ?_;rintro e w1 ⟨a1,c1,L,rfl,hL,hs1,hb1⟩;have hz1:=hb1.size;have aiz:L.length<1000000000:=by have h1:=vM (cf:=iM) l;have h2:=hl.out.1;rw [hL.out];omega
 have HS:Hid (Sl (fun k=>w1.heap.size<=k\/k<w.heap.size) w1 a1 c1 L):=hs1.ext (Ext.jA fun k hk hm=>by rcases hm with hm|hm;omega;exact hm);have kJ:Ox (α:=List Int) w.heap.size w1.heap.size w1 49 (.slice none 0 0) []:=Ox.nil;have hB0:=bP w1.heap.size w1;clear HC hs1;go_wp2
 go_loopw [4,5] (fun v i wr=>∃(k:Nat) (a':Option Addr) (c':Nat) (K:List (List Int)),k<=L.length/\i= .int .i64 k/\v= .slice a' K.length c'/\Hid (K=keepR L k)/\
  Ox w.heap.size w1.heap.size wr 49 (.slice a' K.length c') K/\Below w1.heap.size w1 wr) (fun _ i _=>L.length-(intOf i).toNat)
 case atStart=>exact ⟨0,none,0,[],ah,rfl,rfl,rfl,kJ,hB0⟩
 case round=>
  clear kJ hB0;obtain ⟨i,a2,c2,K,hi,rfl,rfl,hK,hO,hB⟩:=hrel;obtain ⟨w2,rfl⟩:=iA wr;have aiA:K.length<=i:=by rw [hK.out];exact Xq L i
  by_cases hlt:i<L.length
  ·obtain ⟨b1,o1, -, -, -,rfl, -, -, -⟩:=(HS.out.below hB).iD hlt;have hT0:Hid (true=pU L i (i+1)):=(Xp (bM _)).symm;go_wp2
   go_loopw [6,7] (fun v u wr=>∃(k:Nat) (t:Bool),i<k/\k<=L.length/\u= .int .i64 k/\v= .bool t/\Hid (t=pU L i k)/\
    Ox w.heap.size w1.heap.size wr 49 (.slice a2 K.length c2) K/\Below w1.heap.size w1 wr) (fun _ u _=>L.length-(intOf u).toNat)
   case atStart=>exact ⟨i+1,true,ah,ah,by go_num,rfl,hT0,hO,hB⟩
   case round=>
    clear hO hB hT0;obtain ⟨k,t,hik,hk,rfl,rfl,hT,hO,hB⟩:=hrel;obtain ⟨w3,rfl⟩:=iA wr;by_cases hlk:k<L.length
    ·obtain ⟨b2,o2,ay,y,cy,hh,hcy,hy,hsy⟩:=((HS.out.below hB).anti (M':=fun _=>False) fun _ _ h=>h.elim).iD hlk;obtain ⟨b3,o3,ax,x,cx,hh3,hcx,hx,hsx⟩:=((HS.out.below hB).anti (M':=fun _=>False) fun _ _ h=>h.elim).iD hlt;obtain ⟨rfl,rfl⟩:b2=b1/\o2=o1:=by simp at hh;exact ⟨hh.1.symm,hh.2.symm⟩
     obtain ⟨rfl,rfl⟩:b3=b2/\o3=o2:=by simp at hh3;exact ⟨hh3.1.symm,hh3.2.symm⟩
     have hgy:Hid (L.getD k []=y):=bK (by rw [bS,hy.out];rfl);have hgx:Hid (L.getD i []=x):=bK (by rw [bS,hx.out];rfl);have hyl:=hsy.le;have hxl:=hsx.le;clear hh hh3;cases t with
     |false=>
      have Om:Hid (false=pU L i (k+1)):=bK (by rw [vV ah,<-hT.out,hgy.out,hgx.out];simp);go_wp2;refine go_quiet fun nq=> ?_;go_wp2;go_roundw;case rel=>exact ⟨k+1,false,ah,ah,by go_num,rfl,Om,hO.drewN _,iF hB _⟩
      case measure=>exact bF
     |true=>
      by_cases hle:y.length=x.length
      ·have hd:(((y.length:Nat):Int)==((x.length:Nat):Int))=true:=by simp [hle]
       have hf:=hle;clear hle;have Om:Hid (true=pU L i (k+1)):=bK (by rw [vV ah,<-hT.out,hgy.out,hgx.out];simp [hf]);clear hf;go_wp2;refine go_quiet fun nq=> ?_;go_wp2;go_roundw;case rel=>exact ⟨k+1,true,ah,ah,by go_num,rfl,Om,hO.drewN _,iF hB _⟩
       case measure=>exact bF
      have hd:(((y.length:Nat):Int)==((x.length:Nat):Int))=false:=aJ;cases hv:decide (jf y x=x.length) with
      |true=>
       have hf:=And.intro hle (fT hv);clear hle;have Om:Hid (false=pU L i (k+1)):=bK (by rw [vV ah,<-hT.out,hgy.out,hgx.out];simp [hf]);clear hf;go_wp2;refine kT aB aB ?_;repeat (first|go_big_quiet_step ((go_at_call 101;exact aqn (Vw (hsy.drewN _) (hsx.drewN _) hv)))|quiet_step ((go_at_call 101;exact aqn (Vw (hsy.drewN _) (hsx.drewN _) hv))))
       refine aqD ?_;intro _ hw';obtain ⟨nq,wZ⟩:=hw';subst wZ;go_wp2;go_roundw;case rel=>exact ⟨k+1,false,ah,ah,by go_num,rfl,Om,hO.drewN _,iF hB _⟩
       case measure=>exact bF
      |false=>
       have hf:=And.intro hle (apZ hv);clear hle;have Om:Hid (true=pU L i (k+1)):=bK (by rw [vV ah,<-hT.out,hgy.out,hgx.out];simp [hf]);clear hf;go_wp2;refine kT aB aB ?_;repeat (first|go_big_quiet_step ((go_at_call 101;exact aqn (Vw (hsy.drewN _) (hsx.drewN _) hv)))|quiet_step ((go_at_call 101;exact aqn (Vw (hsy.drewN _) (hsx.drewN _) hv))))
       refine aqD ?_;intro _ hw';obtain ⟨nq,wZ⟩:=hw';subst wZ;go_wp2;go_roundw;case rel=>exact ⟨k+1,true,ah,ah,by go_num,rfl,Om,hO.drewN _,iF hB _⟩
       case measure=>exact bF
    have hTL:Hid (t=pU L i L.length):=bK (by rw [hT.out,show k=L.length by omega]);obtain ⟨b3,o3,ax,x,cx,hh3,hcx,hx,aiU⟩:=(HS.out.below hB).iD hlt;obtain ⟨rfl,rfl⟩:b3=b1/\o3=o1:=by simp at hh3;exact ⟨hh3.1.symm,hh3.2.symm⟩
    have hgx:Hid (L.getD i []=x):=bK (by rw [bS,hx.out];rfl)
    have hsx:=aiU.anti (M':=fun k=>(Value.slice a2 K.length c2).ownBlock=some k\/k<w.heap.size) fun k _ hm=>by
     rcases hm with hm|hm
     ·exact .inl (hO.lt k hm).1
     exact .inr hm
    have hz3:=hB.size;have pz:K.length<1000000000000:=ah;clear hh3 aiU hT;cases t with
    |false=>
     have hKn:Hid (K=keepR L (i+1)):=bK (by rw [Gq,bO (by rw [<-hTL.out];decide),hK.out]);clear hTL;go_wp2;go_roundw;case rel=>exact ⟨i+1,a2,c2,K,ah,by go_num,rfl,hKn,hO,hB⟩
     case measure=>exact bF
    |true=>
     have hKn:Hid (keepR L (i+1)=K++[x]):=bK (by rw [Gq,bQ (by rw [<-hTL.out]),hK.out,hgx.out]);clear hTL;go_wp2_with (at_builtin;refine jd (n0:=w.heap.size) (B:=w1.heap.size) (r:=x) (ar:=ax) (cr:=cx) rfl rfl underlying22 iI rfl rfl (hO.alloc _) bf (hsx.alloc _) pz aJ ?_);intro a4 c4 K4 w4 hK4 hO4 hbk hgr;have hB4:=(hB.alloc hz3 (.cells #[.slice ax x.length cx] 49)).grown hgr aJ (fun k hk=>(hO.lt k hk).1);have hKn:Hid (K4=keepR L (i+1)):=bK (by rw [hK4.out,hKn.out]);clear hK4 hbk hgr hO hB;go_wp2;go_roundw;case rel=>exact ⟨i+1,a4,c4,K4,ah,by go_num,rfl,hKn,hO4,hB4⟩
     case measure=>exact bF
  have hE:Hid (K=pO l):=bK (by rw [hK.out,show i=L.length by omega,hL.out];exact adv l);have zh:=hO.jD hz1;have jh:=hb1.trans (hB.mono hz1);clear hO hB;go_wp2;go_ret;exact ⟨a2,c2,K,rfl,hE,zh,jh⟩
end
