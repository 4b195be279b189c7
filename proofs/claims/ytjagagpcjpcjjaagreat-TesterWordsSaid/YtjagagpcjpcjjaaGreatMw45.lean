/- Lemmas, each with its own conditions. -/
import Derived.Test.YtjagagpcjpcjjaaGreatMw44
import Derived.Test.YtjagagpcjpcjjaaGreatMw39
set_option maxRecDepth 100000
set_option maxHeartbeats 32000000
namespace Go.Proofs.YtjagagpcjpcjjaaGreat
section
open Tryz
open Go.RowKit
theorem Rf {xs ys:List Int} {k:Nat} (h:jf xs ys=k) (hx:k<xs.length) (hy:k<ys.length):yV xs ys=some k:=by
 unfold yV;rw [h,bQ ah]
theorem Rh {xs ys:List Int} {k:Nat} (h:jf xs ys=k) (hk:xs.length<=k\/ys.length<=k):yV xs ys=none:=by
 unfold yV;rw [h,bO ah]
section
variable {M M':Nat->Prop} {w:World} {a b:Option Addr} {c d:Nat}
theorem Ux {xs ys:List Int} (h1:Sl M w a c xs) (h2:Sl M' w b d ys):Calls prog 103 #[.slice a xs.length c,.slice b ys.length d] w fun e w'=>e= .returned (.tuple #[.int .i64 (((yV xs ys).getD 0:Nat):Int),.bool (yV xs ys).isSome])/\Hid (∃n,w'=w.drewN n):=by
 have hl1:=h1.le;have hl2:=h2.le;have hC0:Hid (jf xs ys=0+jf (xs.drop 0) (ys.drop 0)):=bK aH;have hD0:Hid (∃n,w=w.drewN n):=⟨0,rfl⟩;by_cases hm:xs.length<=ys.length
 ·have aio:min ((xs.length:Nat):Int) ((ys.length:Nat):Int)=((xs.length:Nat):Int):=ah;go_enter func103,ntmps103;go_wp2;go_loopw [12] (fun i wr=>∃k:Nat,k<=xs.length/\k<=ys.length/\i= .int .i64 k/\Hid (jf xs ys=k+jf (xs.drop k) (ys.drop k))/\Hid (∃n,wr=w.drewN n)) (fun i _=>xs.length-(intOf i).toNat);case atStart=>exact ⟨0,ah,ah,rfl,hC0,hD0⟩
  case round=>
   clear hC0 hD0;obtain ⟨k,hkx,hky,rfl,hC,hD⟩:=hrel;obtain ⟨w1,rfl⟩:=iA wr;by_cases hk:k<xs.length
   ·have hx:k<xs.length:=ah;have hy:k<ys.length:=ah;obtain ⟨b1,o1,x,rfl,hxc,hxk, -⟩:=(qV hD h1).iC hx;obtain ⟨b2,o2,y,rfl,Ca,hyk, -⟩:=(qV hD h2).iC hy;by_cases hxy:x=y
    ·have hb:(x !=y)=false:=by simp [hxy]
     have hC2:Hid (jf xs ys=(k+1)+jf (xs.drop (k+1)) (ys.drop (k+1))):=uD hC.out hxk.out (by rw [hxy];exact hyk.out);clear hxy;go_wp2;refine go_quiet fun nq=> ?_;go_wp2;go_roundw;case rel=>exact ⟨k+1,ah,ah,by go_num,hC2,lV hD _⟩
     case measure=>exact bF
    have hb:(x !=y)=true:=by simp [hxy]
    have HF:Hid (yV xs ys=some k):=Rf (uE hC.out hxk.out hyk.out hxy) hx hy;clear hxy;go_wp2;refine go_quiet fun nq=> ?_;go_wp2;go_ret2;exact ⟨by rw [HF.out];rfl,lV hD _⟩
   have HF:Hid (yV xs ys=none):=Rh (uF hC.out ah) ah;go_wp2
   all_goals
    first
     |(exfalso;omega)
     |(go_ret2;exact ⟨by rw [HF.out];rfl,hD⟩)
 have aio:min ((xs.length:Nat):Int) ((ys.length:Nat):Int)=((ys.length:Nat):Int):=ah;go_enter func103,ntmps103;go_wp2;go_loopw [12] (fun i wr=>∃k:Nat,k<=xs.length/\k<=ys.length/\i= .int .i64 k/\Hid (jf xs ys=k+jf (xs.drop k) (ys.drop k))/\Hid (∃n,wr=w.drewN n)) (fun i _=>ys.length-(intOf i).toNat);case atStart=>exact ⟨0,ah,ah,rfl,hC0,hD0⟩
 case round=>
  clear hC0 hD0;obtain ⟨k,hkx,hky,rfl,hC,hD⟩:=hrel;obtain ⟨w1,rfl⟩:=iA wr;by_cases hk:k<ys.length
  ·have hx:k<xs.length:=ah;have hy:k<ys.length:=ah;obtain ⟨b1,o1,x,rfl,hxc,hxk, -⟩:=(qV hD h1).iC hx;obtain ⟨b2,o2,y,rfl,Ca,hyk, -⟩:=(qV hD h2).iC hy;by_cases hxy:x=y
   ·have hb:(x !=y)=false:=by simp [hxy]
    have hC2:Hid (jf xs ys=(k+1)+jf (xs.drop (k+1)) (ys.drop (k+1))):=uD hC.out hxk.out (by rw [hxy];exact hyk.out);clear hxy;go_wp2;refine go_quiet fun nq=> ?_;go_wp2;go_roundw;case rel=>exact ⟨k+1,ah,ah,by go_num,hC2,lV hD _⟩
    case measure=>exact bF
   have hb:(x !=y)=true:=by simp [hxy]
   have HF:Hid (yV xs ys=some k):=Rf (uE hC.out hxk.out hyk.out hxy) hx hy;clear hxy;go_wp2;refine go_quiet fun nq=> ?_;go_wp2;go_ret2;exact ⟨by rw [HF.out];rfl,lV hD _⟩
  have HF:Hid (yV xs ys=none):=Rh (uF hC.out ah) ah;go_wp2
  all_goals
   first
    |(exfalso;omega)
    |(go_ret2;exact ⟨by rw [HF.out];rfl,hD⟩)
theorem acp {l:List (List Int)} (h:Sl M w a c l) (h0:0<l.length):Calls prog 160 #[.slice a l.length c,.func (.func 88) #[] #[]] w fun e w'=>∃(a':Option Addr) (c':Nat) (x:List Int),e= .returned (.slice a' x.length c')/\Hid (uX l=some x)/\Sl M w' a' c' x/\Below w.heap.size w w':=by
 have hll:=h.le;have HS:=bK h;obtain ⟨b0,o0,a0,x0,c0,rfl,hc0,hx0,hs0⟩:=h.iD h0;have aiB:¬((l.length:Int)<1):=ah;rw [aqr] at hc0;have hW0:Hid (uX (l.take 1)=some x0):=by
  unfold Hid;have e:l.take 1=[]++[x0]:=by rw [dh,hx0.out];rfl
  rw [e,KL];rfl
 have hB0:=bP w.heap.size w;have HS0:=bK hs0;clear h hs0;go_enter func160,ntmps160;go_wp2;go_loopw [5,6] (fun v i wr=>∃(k:Nat) (a':Option Addr) (c':Nat) (x:List Int),k<=l.length/\i= .int .i64 k/\v= .slice a' x.length c'/\Hid (uX (l.take k)=some x)/\Sl M wr a' c' x/\Below w.heap.size w wr) (fun _ i _=>l.length-(intOf i).toNat);case atStart=>exact ⟨1,a0,c0,x0,ah,rfl,rfl,hW0,HS0.out,hB0⟩
 case round=>
  clear hW0 hB0;obtain ⟨k,a1,c1,x,hk,rfl,rfl,hW,hs,hB⟩:=hrel;obtain ⟨w1,rfl⟩:=iA wr;have wX:=hB.size;by_cases hlt:k<l.length
  ·obtain ⟨b2,o2,a2,y,c2,he2,hc2,hy,hs2⟩:=(HS.out.below hB).iD hlt;have HC:=bK (FJ M M w1 a2 a1 c2 c1 y x hs2 hs);have jH:Hid (uX (l.take (k+1))=some (if iM y x<0 then y else x)):=by unfold Hid;rw [dh,hy.out];show uX (l.take k++[y])=_;rw [KL,hW.out];rfl
   have hyl:=hs2.le;have hxl:=hs.le;simp only [dW,aqM,aqY] at he2;obtain ⟨rfl,rfl⟩:=he2;by_cases ni:iM y x<0
   ·have hst:Hid (uX (l.take (k+1))=some y):=by unfold Hid;rw [jH.out,bQ ni]
    obtain ⟨z,hz⟩:∃z,z=iM y x:=⟨_,rfl⟩;rw [<-hz] at ni HC;have zR:=bK hs2;clear hs hs2 jH hz;go_wp2_with fail;refine (HC.out).mono ?_;rintro e w2 ⟨rfl,q,os,hw2⟩;have hb2:=LC.below hw2;have hB2:=hB.trans (hb2.mono wX);have apR:=(hb2.cell (p:=⟨b0,o0+k,none⟩) (lt_of_cell hc2)).trans hc2;have hsy:=zR.out.below hb2;clear HC hw2 hb2 hB hc2;go_wp2;go_roundw;case rel=>exact ⟨k+1,a2,c2,y,ah,by go_num,rfl,hst,hsy,hB2⟩
    case measure=>exact bF
   have hst:Hid (uX (l.take (k+1))=some x):=bK (by rw [jH.out,bO ni]);obtain ⟨z,hz⟩:∃z,z=iM y x:=⟨_,rfl⟩;rw [<-hz] at ni HC;have zR:=bK hs;clear hs hs2 jH hz;go_wp2_with fail;refine (HC.out).mono ?_;rintro e w2 ⟨rfl,q,os,hw2⟩;have hb2:=LC.below hw2;have hB2:=hB.trans (hb2.mono wX);have hsx:=zR.out.below hb2;clear HC hw2 hb2 hB hc2;go_wp2;go_roundw;case rel=>exact ⟨k+1,a1,c1,x,ah,by go_num,rfl,hst,hsx,hB2⟩
   case measure=>exact bF
  have hF:Hid (uX l=some x):=bK (by rw [<-hW.out,bY ah]);go_wp2;go_ret;exact ⟨a1,c1,x,rfl,hF,hs,hB⟩
theorem Yv {l:List (List Int)} (h:Sl M w a c l):Calls prog 104 #[.slice a l.length c,.func (.func 88) #[] #[]] w fun e w'=>∃(a':Option Addr) (c':Nat) (x:List Int) (f:Bool),e= .returned (.tuple #[.slice a' x.length c',.bool f])/\Hid (x=(uX l).getD []/\f=(uX l).isSome)/\Sl M w' a' c' x/\Below w.heap.size w w':=by
 have hll:=h.le;by_cases h0:l.length=0
 ·have hb:(((l.length:Nat):Int)==0)=true:=by rw [h0];rfl
  have hF:Hid (([]:List Int)=(uX l).getD []/\false=(uX l).isSome):=bK (by rw [List.length_eq_zero_iff.1 h0];exact ⟨rfl,rfl⟩);go_enter func104,ntmps104;go_wp2;go_ret2;exact ⟨none,0,[],false,rfl,hF,Sl.nil _ _ _ aS,bP _ _⟩
 have hb:(((l.length:Nat):Int)==0)=false:=by simp;exact fun e=>h0 (by rw [e];rfl)
 have HC:=bK (acp h ah);clear h h0;go_enter func104,ntmps104;go_wp2_with fail;refine (HC.out).mono ?_;rintro e w1 ⟨a1,c1,x,rfl,hx,hs,hb1⟩;have hF:Hid (x=(uX l).getD []/\true=(uX l).isSome):=bK (by rw [hx.out];exact ⟨rfl,rfl⟩);go_wp2;go_ret2;exact ⟨a1,c1,x,true,rfl,hF,hs,hb1⟩
end
def Ob.good (o:Ob):Prop:=o.jg.length<=10000/\∀t∈o.jg,jI t.inn o.gZ=0/\t.out.length=t.inn.length
theorem ah5 {xs ys:List Int} {k:Nat} (h:yV xs ys=some k):k<xs.length/\k<ys.length/\jf xs ys=k:=by
 unfold yV at h;split at h;·rename_i h1;simp only [dW] at h;omega
 simp at h
theorem Os.fresh {M:Nat->Prop} {w:World} {a:Option Addr} {c:Nat} {o:Ob} (h:Os M w a c o):Os (fun k=>w.heap.size<=k) w a c o:=h.ext (Ext.jA fun k hk hm=>by omega)
def RfR (h:Hy) (o:Ob) (w:World) (e:Ending) (w':World):Prop:=∃(a1:Option Addr) (c1:Nat) (x:List Int) (f:Bool) (er:Int),e= .returned (.tuple #[.slice a1 x.length c1,.bool f,.int .i64 er])/\Hid (YQ h o=(x,f,er))/\Sl (fun k=>k<w.heap.size) w' a1 c1 x/\Below w.heap.size w w'
section
variable {M M':Nat->Prop} {w:World} {an ao ac a:Option Addr} {cn co cc c:Nat} {h:Hy} {o:Ob}
theorem Ri (hh:Hp M w an cn ao co ac cc h) (ho:Os M' w a c o):H5 ((w.alloc (NU h an cn ao co ac cc)).alloc (Lm o a c)) w.heap.size an cn ao co ac cc h/\O2 ((w.alloc (NU h an cn ao co ac cc)).alloc (Lm o a c)) (w.heap.size+1) a c o/\Ma M ((w.alloc (NU h an cn ao co ac cc)).alloc (Lm o a c)) an cn ao co h.m/\ Os (fun k=>w.heap.size+2<=k) ((w.alloc (NU h an cn ao co ac cc)).alloc (Lm o a c)) a c o/\Below w.heap.size w ((w.alloc (NU h an cn ao co ac cc)).alloc (Lm o a c))/\((w.alloc (NU h an cn ao co ac cc)).alloc (Lm o a c)).heap.size=w.heap.size+2:=by
 have e1:(w.alloc (NU h an cn ao co ac cc)).heap.size=w.heap.size+1:=aH;have b1:=iB w (NU h an cn ao co ac cc);have b2:Below (w.heap.size+1) (w.alloc (NU h an cn ao co ac cc)) ((w.alloc (NU h an cn ao co ac cc)).alloc (Lm o a c)):=(bP _ _).alloc (by rw [e1];exact bM _) _;have b3:=b1.trans (b2.mono ah);have h2:=Zm (o:=o) (a:=a) (c:=c) (w.alloc (NU h an cn ao co ac cc));rw [e1] at h2;have e2:((w.alloc (NU h an cn ao co ac cc)).alloc (Lm o a c)).heap.size=w.heap.size+2:=aH;have h3:=(ho.below b3).fresh;rw [e2] at h3;exact ⟨(afp w).below b2 ah,h2,(hh.below b3).m,h3,b3,e2⟩
theorem Rj (hh:Hp M w an cn ao co ac cc h) (ho:Os M' w a c o) (ok:Hid h.m.Ok) (hg:Hid o.good):Calls prog 50 #[hyV h an cn ao co ac cc,obV o a c] w (RfR h o w):=by
 obtain ⟨hx0,hy0,hm0,ho0,hB0,hz0⟩:=Ri hh ho;have l1:=hh.m.h_.le;have l2:=hh.m.out.le;have l3:=hh.acc.le;have l4:=ho.jg.le;clear hh ho;go_enter func50,ntmps50;go_upto_region 1 with (fail);generalize (w.alloc (NU h an cn ao co ac cc)).alloc (Lm o a c)=w0 at*
 rw [<-hz0] at ho0
 have HS:Hid (∀w',Below w0.heap.size w0 w'->H5 w' w.heap.size an cn ao co ac cc h/\O2 w' (w.heap.size+1) a c o/\Ma M w' an cn ao co h.m/\Os (fun k=>w0.heap.size<=k) w' a c o/\Below w.heap.size w w'):=fun w' hb=>
  ⟨hx0.below hb ah,hy0.below hb ah,hm0.below hb,ho0.below hb,hB0.trans (hb.mono ah)⟩
 have hb0:=bP w0.heap.size w0;have hzw:w.heap.size+2<=w0.heap.size:=ah;clear hx0 hy0 hm0 ho0 hB0 hz0;by_cases hin:h.m.gZ=o.gZ
 ·have aop:(h.m.gZ !=o.gZ)=false:=by simp [hin]
  have HF:Hid (YQ h o=((h.m.acd o.jg).getD [],(h.m.acd o.jg).isSome,0)):=by unfold Hid YQ;rw [bO (by simp [hin])]
  have hgt:Hid (∀t∈o.jg,jI t.inn h.m.gZ=0/\t.out.length=t.inn.length):=bK (by rw [hin];exact hg.out.2);have hgn:Hid (o.jg.length<=10000):=hg.out.1;have HST:=bK (FT ok.out);have hsr:Hid (0<=h.m.start/\h.m.start<h.m.h_.length):=⟨ok.out.s0,ok.out.s1⟩;clear hin;obtain ⟨⟨⟨d0,d1,d2,d3⟩,d4⟩,⟨o0,o1⟩, -⟩:=HS.out _ hb0;have GZ:Hid (([]:List (List Int))=h.m.El (o.jg.take 0)):=rfl;have kJ:Ow (α:=List Int) w0.heap.size (fun k=>w0.heap.size<=k) w0 49 (.slice none 0 0) []:=Ow.nil;go_wp2;go_loopw [7,25] (fun v i wr=>∃(k:Nat) (a':Option Addr) (c':Nat) (K:List (List Int)),k<=o.jg.length/\i= .int .i64 k/\v= .slice a' K.length c'/\Hid (K=h.m.El (o.jg.take k))/\Ow w0.heap.size (fun k=>w0.heap.size<=k) wr 49 (.slice a' K.length c') K/\Below w0.heap.size w0 wr) (fun _ i _=>o.jg.length-(intOf i).toNat);case atStart=>exact ⟨0,none,0,[],ah,rfl,rfl,GZ,kJ,hb0⟩
  case round=>
   clear GZ kJ hb0 d0 d1 d2 d3 d4 o0 o1;obtain ⟨k,a',c',K,hk,rfl,rfl,hK,hO,hB⟩:=hrel;obtain ⟨w1,rfl⟩:=iA wr;have hz1:=hB.size;have rW:Hid (K.length<=o.jg.length):=by unfold Hid;rw [hK.out];unfold g_.El;exact dH (List.length_filterMap_le _ _) (by rw [dx];omega)
   by_cases hlt:k<o.jg.length
   ·obtain ⟨bT,oT,a1,c1,a2,c2,t,he1,hc1,hc2,ht,hs1,hs2⟩:=(HS.out _ hB).2.2.2.1.jg.UM hlt;have htg:=bK (hgt.out t (bV ht.out));have jH:=bK (g_.Yt (m:=h.m) ht.out);have htl:=hs1.le;have htc:=hs1.1;have apS:=hs2.le;have HT1:Hid (∀w',Below w1.heap.size w1 w'->Sl (fun k=>w0.heap.size<=k) w' a1 c1 t.inn/\Sl (fun k=>w0.heap.size<=k) w' a2 c2 t.out):=fun w' hb=>⟨hs1.below hb,hs2.below hb⟩;subst he1;obtain ⟨⟨⟨d0,d1,d2,d3⟩,d4⟩,⟨o0,o1⟩, -⟩:=HS.out _ hB;clear hs1 hs2;go_upto_region 7 with (fail);have hba:=iB w1 (trO t a1 c1 a2 c2);have hX2:T2 (w1.alloc (trO t a1 c1 a2 c2)) w1.heap.size a1 c1 a2 c2 t:=afq w1;have hB2:=hB.trans (hba.mono hz1);have hz2:w1.heap.size<(w1.alloc (trO t a1 c1 a2 c2)).heap.size:=aH;have hO2:=Ow.below hO hba;obtain ⟨f1,f2, -⟩:=g_.yC HST.out htg.out.1;have hfo:Hid (h.m.uL h.m.start t.inn=h.m.iY h.m.start t.inn):=f2;have Om:=HT1.out _ hba;have HR0:=ZR (HS.out _ hB2).2.2.1 Om.1;rw [f1] at HR0;have HR:=bK HR0;clear d0 d1 d2 d3 d4 o0 o1 hB hO hc1 hc2 f1 f2 HR0 Om;generalize w1.alloc (trO t a1 c1 a2 c2)=w2 at*
    obtain ⟨⟨⟨d0,d1,d2,d3⟩,d4⟩, -⟩:=HS.out _ hB2;obtain ⟨x0,x1⟩:=hX2;go_wp2_with fail;refine (HR.out).mono ?_;rintro e w3 ⟨a3,c3,q,rfl,hq,Ey,hb3⟩;have Jl:=hba.trans (hb3.mono ah);have hB3:=hB2.trans (hb3.mono hB2.size);have hO3:=Ow.below hO2 hb3;have Mx:T2 w3 w1.heap.size a1 c1 a2 c2 t:=T2.below ⟨x0,x1⟩ hb3 hz2;have hqe:Hid (q=h.m.iY h.m.start t.inn):=bK (by rw [hq.out,hfo.out]);have hT3:=HT1.out _ Jl;have hrd:Hid (h.m.Yr t=(yV q t.out).map fun i=>t.inn.take (i+1)):=bK (by rw [hqe.out];exact g_.ace);have HD0:=Ux Ey hT3.2;have hql:=Ey.le;clear d0 d1 d2 d3 d4 x0 x1 HR hba hb3 hB2 hO2 hz2 hq hT3 Ey;obtain ⟨x0,x1⟩:=Mx;cases hdf:yV q t.out with
    |none=>
     rw [hdf] at HD0;have HD:=bK HD0;have hKn:Hid (K=h.m.El (o.jg.take (k+1))):=bK (by rw [jH.out,hrd.out,hdf];simpa using hK.out);clear HD0 hdf;go_wp2_with fail;refine (HD.out).mono ?_;rintro e w4 ⟨rfl,hd4⟩;have hb4:=blw hd4 w3.heap.size;have hB4:=hB3.trans (hb4.mono hB3.size);have hO4:=Ow.below hO3 hb4;clear HD hd4 hb4 hO3 x0 x1;go_wp2;go_roundw;case rel=>exact ⟨k+1,a',c',K,ah,by go_num,rfl,hKn,hO4,hB4⟩
     case measure=>exact bF
    |some i=>
     rw [hdf] at HD0;have HD:Hid (Calls prog 103 #[.slice a3 q.length c3,.slice a2 t.out.length c2] w3 fun e w'=>e= .returned (.tuple #[.int .i64 ((i:Nat):Int),.bool true])/\Hid (∃n,w'=w3.drewN n)):=HD0;have hil:=(ah5 hdf).2.1;have LG:i+1<=t.inn.length:=by rw [htg.out.2] at hil;omega
     have hKn:Hid (K++[t.inn.take (i+1)]=h.m.El (o.jg.take (k+1))):=bK (by rw [jH.out,hrd.out,hdf,hK.out];rfl);clear HD0 hdf hil;go_wp2_with fail;refine (HD.out).mono ?_;rintro e w4 ⟨rfl,hd4⟩;have hb4:=blw hd4 w3.heap.size;have Jm:=Jl.trans (hb4.mono (ig Jl.size));have hB4:=hB3.trans (hb4.mono hB3.size);have hO4:=Ow.below hO3 hb4;obtain ⟨x0,x1⟩:=T2.below ⟨x0,x1⟩ hb4 (lt_of_cell x0);have yP:Hid (Sl (fun k=>w0.heap.size<=k) w4 a1 c1 (t.inn.take (i+1))):=(HT1.out _ Jm).1.taken LG;have hrl:Hid ((t.inn.take (i+1)).length=i+1):=bK (by rw [dx];omega);have hMo:∀k,(Value.slice a' K.length c').ownBlock=some k->w0.heap.size<=k:=fun k hk=>(hO4.lt k hk).1;have pz:K.length<1000000000000:=by have:=rW.out;have:=hgn.out;omega
     have nN:=hB4.size;clear HD hd4 hb4 hO3;go_wp2_with (at_builtin;refine jl (B:=w0.heap.size) (r:=t.inn.take (i+1)) (ar:=a1) (cr:=c1) rfl rfl underlying22 iI rfl rfl (hO4.alloc _) hMo (by rw [hrl.out];simp [go_sem]) (yP.out.alloc _) pz aJ ?_);intro a9 c9 K9 w9 yT yF hbk hgr;have mH:=(hB4.alloc nN (.cells #[.slice a1 (i+1) c1] 49)).grown hgr aJ (fun k hk=>(hO4.lt k hk).1);have hKe:Hid (K9=h.m.El (o.jg.take (k+1))):=bK (by rw [yT.out,hKn.out]);have hOe:=yF.oF (M':=fun k=>w0.heap.size<=k) fun k _ hm=> .inl hm;clear hbk hgr yT hO4 hB4 yF x0 x1 hMo pz nN;go_wp2;go_roundw;case rel=>exact ⟨k+1,a9,c9,K9,ah,by go_num,rfl,hKe,hOe,mH⟩
     case measure=>exact bF
   have hKf:Hid (K=h.m.El o.jg):=bK (by rw [hK.out,bY ah]);have hKs:Sl (fun _=>False) w1 a' c' K:=(hO.oF (M':=fun _=>False) fun _ _ h=>h.elim).jD fun _ _ h=>h;have HL:=bK (Yv hKs);have hll:=hKs.le;obtain ⟨⟨⟨d0,d1,d2,d3⟩,d4⟩,⟨o0,o1⟩, -⟩:=HS.out _ hB;clear hO hKs;go_wp2_with fail;refine (HL.out).mono ?_;rintro e w3 ⟨a3,c3,x,f,rfl,hx,hxs,hb3⟩;have hB3:=hB.trans (hb3.mono hz1);have hFx:Hid (YQ h o=(x,f,0)):=bK (by rw [HF.out];unfold g_.acd;rw [<-hKf.out,<-hx.out.1,<-hx.out.2]);have hxl:Hid (x.length<1000000000000):=by
    unfold Hid;rw [hx.out.1];by_cases hke:K=[];·rw [hke];simp [ab9]
    obtain ⟨y,hy1,hy2⟩:=Yq hke;rw [hy1];rw [hKf.out] at hy2;unfold g_.El at hy2;obtain ⟨t,ht,hy3⟩:=List.mem_filterMap.1 hy2;unfold g_.Yr at hy3;split at hy3;·simp only [dW] at hy3;have:=(Vp (hgt.out t ht).1).2;rw [<-hy3];show (List.take _ _).length<_;rw [dx];omega
    simp at hy3
   have HCl:=bK (uJ hxs hxl.out);have apT:=hxs.le;clear HL hb3 hB d0 d1 d2 d3 d4 o0 o1 hxs;go_wp2_with fail;refine (HCl.out).mono ?_;rintro e w4 ⟨a4,c4,y,rfl,hy,hys,hb4⟩;have jh:=(HS.out _ (hB3.trans (hb4.mono hB3.size))).2.2.2.2;have hFy:Hid (YQ h o=(y,f,0)):=bK (by rw [hFx.out,hy.out]);have hzf:=hB3.size;have wI:=hys.anti (M':=fun k=>k<w.heap.size) fun k _ hm=>by show k<_;omega
   clear HCl hb4 hys;go_wp2;exact dG (v:= .tuple #[.slice a4 y.length c4,.bool f,.int .i64 0]) (by simp [results,results50,go_sem]) rfl ⟨a4,c4,y,f,0,rfl,hFy,wI,jh⟩
 have aop:(h.m.gZ !=o.gZ)=true:=by simp [hin]
 have HF:Hid (YQ h o=([],false,15)):=by unfold Hid YQ;rw [bQ hin]
 obtain ⟨⟨⟨d0,d1,d2,d3⟩,d4⟩,⟨o0,o1⟩, -, -,jh⟩:=HS.out _ hb0;clear hin;go_wp2;exact dG (v:= .tuple #[.slice none 0 0,.bool false,.int .i64 15]) (by simp [results,results50,go_sem]) rfl ⟨none,0,[],false,15,rfl,HF,Sl.nil _ _ _ aS,jh⟩
end
def NxR (h:Hy) (o:Ob) (l:List (List Int)) (w:World) (e:Ending) (w':World):Prop:=∃(aL:Option Addr) (cL:Nat) (L:List (List Int)) (aX:Option Addr) (cX:Nat) (x:List Int) (dn:Bool) (er:Int),e= .returned (.tuple #[.slice aL L.length cL,.slice aX x.length cX,.bool dn,.int .i64 er])/\Hid (YR h o l=(L,x,dn,er))/\
 Sl (fun k=>k<w.heap.size) w' aL cL L/\Sl (fun k=>k<w.heap.size) w' aX cX x/\Below w.heap.size w w'
def wL (o:Ob) (l:List (List Int)):List (List Int):=l.filter fun v=> !o.known v
theorem Uy {o:Ob} {l:List (List Int)} {k:Nat} {v:List Int} (h:l[k]? =some v):wL o (l.take (k+1))=wL o (l.take k)++(if o.known v=true then [] else [v]):=by
 unfold wL;rw [dh,h,fV];congr 1
 cases hv:o.known v<;>simp [hv]
theorem Ob.Yw {o:Ob} (h:o.good):o.lens:=fun t ht=>by
 have h1:=h.2 t ht
 have h2:=(Vp (m:=⟨o.gZ,0,[],[]⟩) h1.1).2
 omega
section
variable {M M' M'':Nat->Prop} {w:World} {an ao ac a b:Option Addr} {cn co cc c d:Nat} {h:Hy} {o:Ob} {l:List (List Int)}
theorem Yx (hh:Hp M w an cn ao co ac cc h) (ho:Os M' w a c o) (hl:Sl M'' w b d l) (ok:Hid h.m.Ok) (hg:Hid o.good) (hsm:Hid (mK l)):Calls prog 20 #[hyV h an cn ao co ac cc,obV o a c,.slice b l.length d] w (NxR h o l w):=by
 obtain ⟨hx0,hy0,hm0,ho0,hB0,hz0⟩:=Ri hh ho;have hh0:=hh.below hB0;have hl0:Sl (fun k=>w.heap.size+2<=k) ((w.alloc (NU h an cn ao co ac cc)).alloc (Lm o a c)) b d l:=by have h:=(hl.below hB0).ext (M':=fun k=>((w.alloc (NU h an cn ao co ac cc)).alloc (Lm o a c)).heap.size<=k) (Ext.jA fun k hk hm=>by omega);rw [hz0] at h;exact h
 have l1:=hh.m.h_.le;have l2:=hh.m.out.le;have l3:=hh.acc.le;have l4:=ho.jg.le;have l5:=hl.le;clear hh ho hl;go_enter func20,ntmps20;go_upto_region 1 with (fail);generalize (w.alloc (NU h an cn ao co ac cc)).alloc (Lm o a c)=w0 at*
 rw [<-hz0] at ho0 hl0
 have HS:Hid (∀w',Below w0.heap.size w0 w'->H5 w' w.heap.size an cn ao co ac cc h/\O2 w' (w.heap.size+1) a c o/\Hp M w' an cn ao co ac cc h/\Os (fun k=>w0.heap.size<=k) w' a c o/\Sl (fun k=>w0.heap.size<=k) w' b d l/\Below w.heap.size w w'):=fun w' hb=>
  ⟨hx0.below hb ah,hy0.below hb ah,hh0.below hb,ho0.below hb,hl0.below hb,hB0.trans (hb.mono ah)⟩
 have hb0:=bP w0.heap.size w0;have hzw:w.heap.size+2<=w0.heap.size:=ah;have alx:Hid o.lens:=Ob.Yw hg.out;clear hx0 hy0 hm0 ho0 hB0 hz0 hh0 hl0;have HRf:=bK (Rj (HS.out _ hb0).2.2.1 (HS.out _ hb0).2.2.2.1 ok hg);obtain ⟨⟨⟨d0,d1,d2,d3⟩,d4⟩,⟨o0,o1⟩, -⟩:=HS.out _ hb0;go_wp2_with fail;refine (HRf.out).mono ?_;rintro e w1 ⟨a1,c1,x,f,er,rfl,hx,hxs,hb1⟩;have hz1:=hb1.size;clear HRf d0 d1 d2 d3 d4 o0 o1 hb0;have hX1:=bK (hxs.anti (M':=fun k=>k<w.heap.size) fun k _ hm=>by show k<_;omega);have hxl:=hxs.le;clear hxs;by_cases her:er=0
 ·have aoq:(er !=0)=false:=by simp [her]
  subst her;cases f with
  |true=>
   have hF:Hid (YR h o l=([],x,false,0)):=by unfold Hid YR;rw [hx.out];rfl
   have jh:=(HS.out _ hb1).2.2.2.2.2;go_wp2;exact dG (v:= .tuple #[.slice none 0 0,.slice a1 x.length c1,.bool false,.int .i64 0]) (by simp [results,results20,go_sem]) rfl ⟨none,0,[],a1,c1,x,false,0,rfl,hF,Sl.nil _ _ _ aS,hX1.out,jh⟩
  |false=>
   have hF:Hid (YR h o l=(pO (wL o l),[],decide ((pO (wL o l)).length=0),0)):=by unfold Hid YR;rw [hx.out];rfl
   have GZ:Hid (([]:List (List Int))=wL o (l.take 0)):=rfl;have kJ:Ow (α:=List Int) w0.heap.size (fun k=>w0.heap.size<=k) w1 49 (.slice none 0 0) []:=Ow.nil;have hzz:=hb1.size;clear hx hX1 hxl;go_wp2;go_loopw [13,34] (fun v i wr=>∃(k:Nat) (a':Option Addr) (c':Nat) (K:List (List Int)),k<=l.length/\i= .int .i64 k/\v= .slice a' K.length c'/\Hid (K=wL o (l.take k))/\Ow w0.heap.size (fun k=>w0.heap.size<=k) wr 49 (.slice a' K.length c') K/\Below w0.heap.size w0 wr) (fun _ i _=>l.length-(intOf i).toNat);case atStart=>exact ⟨0,none,0,[],ah,rfl,rfl,GZ,kJ,hb1⟩
   case round=>
    clear GZ kJ hb1 hz1;obtain ⟨k,a',c',K,hk,rfl,rfl,hK,hO,hB⟩:=hrel;obtain ⟨w2,rfl⟩:=iA wr;have hz2:=hB.size;have rW:Hid (K.length<=l.length):=by unfold Hid;rw [hK.out];unfold wL;exact dH (fK _ _) (by rw [dx];omega)
    by_cases hlt:k<l.length
    ·have hSo:=HS.out _ hB;obtain ⟨bL,oL,ax,v,cx,he1,EA,hv,hvs⟩:=hSo.2.2.2.2.1.iD hlt;have hvl:=hvs.le;have HA0:=ac8 hSo.2.2.2.1 hvs alx;have jH:=Uy (o:=o) hv.out;have HVs:=bK hvs;subst he1;cases hkn:o.known v with
     |true=>
      rw [hkn] at HA0;have HA:=bK HA0;obtain ⟨-,⟨o0,o1⟩, -⟩:=hSo;clear HA0 hvs;go_wp2_with fail;refine (HA.out).mono ?_;rintro e w3 ⟨a3,c3,y,rfl, -,hys,hb3⟩;have hyl:=hys.le;have hB3:=hB.trans (hb3.mono hz2);have hO3:=Ow.below hO hb3;have aor:=(hb3.cell (p:=⟨bL,oL+k,none⟩) (lt_of_cell EA)).trans EA;clear HA hys hB hO o0 o1 EA;have hKn:Hid (K=wL o (l.take (k+1))):=bK (by rw [jH,hK.out,hkn,bQ rfl,gD]);clear hb3 hK jH hkn HVs;go_wp2;go_roundw;case rel=>exact ⟨k+1,a',c',K,ah,by go_num,rfl,hKn,hO3,hB3⟩
      case measure=>exact bF
     |false=>
      rw [hkn] at HA0;have HA:=bK HA0;obtain ⟨-,⟨o0,o1⟩, -⟩:=hSo;clear HA0 hvs;go_wp2_with fail;refine (HA.out).mono ?_;rintro e w3 ⟨a3,c3,y,rfl, -,hys,hb3⟩;have hyl:=hys.le;have hB3:=hB.trans (hb3.mono hz2);have hO3:=Ow.below hO hb3;have aor:=(hb3.cell (p:=⟨bL,oL+k,none⟩) (lt_of_cell EA)).trans EA;clear HA hys hB hO o0 o1 EA;have hKn:Hid (K++[v]=wL o (l.take (k+1))):=bK (by rw [jH,hK.out,hkn,bO aH]);have hMo:∀k,(Value.slice a' K.length c').ownBlock=some k->w0.heap.size<=k:=fun k hk=>(hO3.lt k hk).1;have pz:K.length<1000000000000:=by have:=rW.out;have:=hsm.out.1;omega
      have aly:=HVs.out.below hb3;have hz3:=hB3.size;clear hb3 hK jH hkn HVs;go_wp2_with (at_builtin;refine jl (B:=w0.heap.size) (r:=v) (ar:=ax) (cr:=cx) rfl rfl underlying22 iI rfl rfl (hO3.alloc _) hMo bf (aly.alloc _) pz aJ ?_);intro a9 c9 K9 w9 yT yF hbk hgr;have mH:=(hB3.alloc hz3 (.cells #[.slice ax v.length cx] 49)).grown hgr aJ (fun k hk=>(hO3.lt k hk).1);have hKe:Hid (K9=wL o (l.take (k+1))):=bK (by rw [yT.out,hKn.out]);have hOe:=yF.oF (M':=fun k=>w0.heap.size<=k) fun k _ hm=> .inl hm;clear hbk hgr yT hO3 hB3 yF hMo pz hz3 aly;go_wp2;go_roundw;case rel=>exact ⟨k+1,a9,c9,K9,ah,by go_num,rfl,hKe,hOe,mH⟩
      case measure=>exact bF
    have hKf:Hid (K=wL o l):=bK (by rw [hK.out,bY ah]);have hKs:Sl (fun _=>False) w2 a' c' K:=(hO.oF (M':=fun _=>False) fun _ _ h=>h.elim).jD fun _ _ h=>h;have hsK:Hid (mK K):=by have h9:=hsm.out;refine ⟨by have:=rW.out;have:=h9.1;omega,fun r hr=> ?_⟩;rw [hKf.out] at hr;exact h9.2 r (aq8.1 hr).1
    have Ry:=bK (A_ hKs hsK);have hll:=hKs.le;obtain ⟨⟨⟨d0,d1,d2,d3⟩,d4⟩,⟨o0,o1⟩, -⟩:=HS.out _ hB;clear hO hKs;go_wp2_with fail;refine (Ry.out).mono ?_;rintro e w4 ⟨a4,c4,L,rfl,hL,Ag,hb4⟩;have jh:=(HS.out _ (hB.trans (hb4.mono hz2))).2.2.2.2.2;have wI:=Ag.anti (M':=fun k=>k<w.heap.size) fun k _ hm=>by show k<_;omega
    have qM:=Ag.le;have hFf:Hid (YR h o l=(L,[],decide (L.length=0),0)):=bK (by rw [hF.out,hL.out,hKf.out]);clear Ry hb4 Ag d0 d1 d2 d3 d4 o0 o1;by_cases hL0:L.length=0
    ·have aos:(((L.length:Nat):Int)==0)=true:=by rw [hL0];rfl
     have hFg:Hid (YR h o l=(L,[],true,0)):=bK (by rw [hFf.out,dw hL0]);clear hL0;go_wp2;exact dG (v:= .tuple #[.slice a4 L.length c4,.slice none 0 0,.bool true,.int .i64 0]) (by simp [results,results20,go_sem]) rfl ⟨a4,c4,L,none,0,[],true,0,rfl,hFg,wI,Sl.nil _ _ _ aS,jh⟩
    have aos:(((L.length:Nat):Int)==0)=false:=by simp;exact fun e=>hL0 (by rw [e];rfl)
    have hFg:Hid (YR h o l=(L,[],false,0)):=bK (by rw [hFf.out,cZ hL0]);clear hL0;go_wp2;exact dG (v:= .tuple #[.slice a4 L.length c4,.slice none 0 0,.bool false,.int .i64 0]) (by simp [results,results20,go_sem]) rfl ⟨a4,c4,L,none,0,[],false,0,rfl,hFg,wI,Sl.nil _ _ _ aS,jh⟩
 have aoq:(er !=0)=true:=by simp [her]
 have hx0:Hid (x=[]/\f=false/\YR h o l=([],[],false,er)):=by
  have h1:=hx.out;have h2:YR h o l=([],[],false,er):=by unfold YR;rw [h1,bQ (iq her)]
  unfold YQ at h1;split at h1;·simp only [dX] at h1;exact ⟨h1.1.symm,h1.2.1.symm,h2⟩
  simp only [dX] at h1;exact absurd h1.2.2.symm her
 obtain ⟨rfl,rfl,Gd⟩:=hx0.out;have hF:=bK Gd;have jh:=(HS.out _ hb1).2.2.2.2.2;clear her Gd hx0 hx;go_wp2;exact dG (v:= .tuple #[.slice none 0 0,.slice none 0 0,.bool false,.int .i64 er]) (by simp [results,results20,go_sem]) rfl ⟨none,0,[],none,0,[],false,er,rfl,hF,Sl.nil _ _ _ aS,Sl.nil _ _ _ aS,jh⟩
end
end
section
open Tryz
def nZ:g_:=⟨2,0,[[1,0],[1,0]],[[1,0],[1,2]]⟩
theorem CO:nZ.err=0:=by decide
theorem Yy:nZ.minOf=nZ:=by decide
theorem Yz:jM nZ.gZ (0+1)=([[],[0],[1]],0):=by decide
theorem YA:nZ.qm.map Pc.word=[[],[0]]:=by decide
theorem acr:nZ.QX=[[1]]:=by decide
theorem acs:nZ.zu 0=([[1,1],[0,0,1],[0,1,1]],0):=by
 unfold g_.zu;rw [bO (by simp [CO]),bO ah,Yz,bO aH,Yy,acr,YA];decide
theorem acu:nZ.wT ⟨1,0,0,0,0⟩=([[1,1],[0,0,1],[0,1,1]],0):=by
 unfold g_.wT;rw [bO (by simp [CO]),bO (by decide),bQ rfl];exact acs
theorem aep:YR ⟨nZ,[[],[0]]⟩ ⟨2,[⟨[1,1],[0,0]⟩]⟩ [[1,1],[0,0,1],[0,1,1]]=([[0,0,1],[0,1,1]],[],false,0):=by decide
theorem aer:lK.err ⟨0,0,0,0,0⟩=2:=by decide
end
section
open Tryz
open Go.RowKit
abbrev uY (w:World):World:=w.alloc (.cells #[.int .i64 2,.int .i64 0,.slice (some ⟨w.heap.size+1+1+1,0,none⟩) 2 2,.slice (some ⟨w.heap.size+1+1+1+1+1+1,0,none⟩) 2 2] 24)
theorem Rk (w:World):(uY w).heap.size=w.heap.size+1:=by simp [uY]
theorem alz (w:World):Ma (fun k=>k<w.heap.size) (qG (uY w)) (some ⟨w.heap.size+1+1+1,0,none⟩) 2 (some ⟨w.heap.size+1+1+1+1+1+1,0,none⟩) 2 nZ/\Below w.heap.size w (qG (uY w))/\ C4 (qG (uY w)) w.heap.size (some ⟨w.heap.size+1+1+1,0,none⟩) 2 (some ⟨w.heap.size+1+1+1+1+1+1,0,none⟩) 2 nZ:=by
 obtain ⟨⟨h1,h2⟩,h3⟩:=ais (uY w);have hsz:=Rk w;have hb:Below w.heap.size w (uY w):=(bP _ _).alloc (bM _) _;have h4:C4 (uY w) w.heap.size (some ⟨w.heap.size+1+1+1,0,none⟩) 2 (some ⟨w.heap.size+1+1+1+1+1+1,0,none⟩) 2 nZ:=kI (an:=some ⟨w.heap.size+1+1+1,0,none⟩) (cn:=2) (ao:=some ⟨w.heap.size+1+1+1+1+1+1,0,none⟩) (co:=2) (m:=nZ) w;have e2:Below (uY w).heap.size (uY w) (qG (uY w)):=h3;have h5:=h4.below e2 (by rw [hsz];omega);have h6:=hb.trans (e2.mono (by rw [hsz];omega));rw [hsz] at h1 h2;exact ⟨⟨by unfold i64 nZ;decide,by unfold i64 nZ;decide,h1.anti (fun k _ hk=>by show k<_;omega),h2.anti (fun k _ hk=>by show k<_;omega)⟩,h6,h5⟩
theorem Iz {w:World}:Calls prog 32 #[] w fun e w'=>∃(p q:Option Addr),e= .returned (.agg #[.int .i64 2,.int .i64 0,.slice p 2 2,.slice q 2 2])/\Ma (fun k=>k<w.heap.size) w' p 2 q 2 nZ/\Below w.heap.size w w':=by
 obtain ⟨h1,h2,h3⟩:=alz w;go_enter func32,ntmps32;go_wp2;obtain ⟨W,hW⟩:∃W,W=qG (uY w):=⟨_,rfl⟩;have hW2:=hW;unfold qG uY at hW2;simp only [Rk] at hW2;rw [<-hW] at h1 h2 h3;rw [<-hW2];have d0:W.cell? ⟨w.heap.size,0,none⟩=some (.int .i64 2):=h3.1;have d1:W.cell? ⟨w.heap.size,1,none⟩=some (.int .i64 0):=h3.2.1;have d2:W.cell? ⟨w.heap.size,2,none⟩=some (.slice (some ⟨w.heap.size+1+1+1,0,none⟩) 2 2):=h3.2.2.1;have d3:W.cell? ⟨w.heap.size,3,none⟩=some (.slice (some ⟨w.heap.size+1+1+1+1+1+1,0,none⟩) 2 2):=h3.2.2.2;exact dG (v:= .agg #[.int .i64 2,.int .i64 0,.slice (some ⟨w.heap.size+1+1+1,0,none⟩) 2 2,.slice (some ⟨w.heap.size+1+1+1+1+1+1,0,none⟩) 2 2]) (by simp [results,results32,go_sem,d0,d1,d2,d3]) rfl ⟨_,_,rfl,h1,h2⟩
abbrev exB (w:World) (p q:Option Addr):World:=(qH w).alloc (.cells #[.int .i64 2,.int .i64 0,.slice p 2 2,.slice q 2 2,.slice (some ⟨w.heap.size+1,0,none⟩) 2 2] 40)
abbrev exC (w:World) (p q:Option Addr):World:=(qO (exB w p q)).alloc (.cells #[.int .i64 2,.slice (some ⟨w.heap.size+1+1+1+1+1,0,none⟩) 1 1] 43)
theorem acv (w:World) (p q:Option Addr):(exB w p q).heap.size=w.heap.size+1+1+1:=by simp [exB,qH]
theorem exW (w:World) (p q:Option Addr):Sl (fun k=>k<w.heap.size) (exC w p q) (some ⟨w.heap.size+1,0,none⟩) 2 ([[],[0]]:List (List Int))/\Sl (fun k=>k<w.heap.size) (exC w p q) (some ⟨w.heap.size+1+1+1+1+1,0,none⟩) 1 ([⟨[1,1],[0,0]⟩]:List Tr)/\Below w.heap.size w (exC w p q):=by
 obtain ⟨h1,b1⟩:=ait w;have b2:Below (qH w).heap.size (qH w) (exB w p q):=(bP _ _).alloc (bM _) _;obtain ⟨h2,b3⟩:=aiu (exB w p q);have b4:Below (qO (exB w p q)).heap.size (qO (exB w p q)) (exC w p q):=(bP _ _).alloc (bM _) _;have b5:=b3.trans (b4.mono b3.size);have b6:=b2.trans (b5.mono b2.size);have hsz:=acv w p q;have h3:=h2.below b4;have h4:=h3.anti (M':=fun k=>k<w.heap.size) fun k _ hk=>by show k<_;rw [hsz];omega
 rw [hsz] at h4;exact ⟨h1.below b6,h4,b1.trans (b6.mono b1.size)⟩
section
variable {M M' M'':Nat->Prop} {w:World} {p q:Option Addr}
theorem acw {A O:Addr} {aL:Option Addr} {cL:Nat} {L:List (List Int)} (hm:Ma M w p 2 q 2 nZ) (ha:Sl M w (some A) 2 ([[],[0]]:List (List Int))) (ho:Sl M' w (some O) 1 ([⟨[1,1],[0,0]⟩]:List Tr)) (hl:Sl M'' w aL cL L) (hL:Hid (L=[[1,1],[0,0,1],[0,1,1]])):Calls prog 20 #[.agg #[.int .i64 2,.int .i64 0,.slice p 2 2,.slice q 2 2,.slice (some A) 2 2],.agg #[.int .i64 2,.slice (some O) 1 1],.slice aL L.length cL] w fun e w'=>∃(aN:Option Addr) (cN:Nat) (N:List (List Int)) (aX:Option Addr) (cX:Nat),e= .returned (.tuple #[.slice aN N.length cN,.slice aX 0 cX,.bool false,.int .i64 0])/\Hid (N=[[0,0,1],[0,1,1]])/\Sl (fun k=>k<w.heap.size) w' aN cN N/\Below w.heap.size w w':=by
 have hh:Hp M w p 2 q 2 (some A) 2 (⟨nZ,[[],[0]]⟩:Hy):=⟨hm,ha⟩;have hob:Os M' w (some O) 1 (⟨2,[⟨[1,1],[0,0]⟩]⟩:Ob):=⟨by show i64 2;unfold i64;decide,ho⟩;have ok:Hid (⟨nZ,[[],[0]]⟩:Hy).m.Ok:=g_.iG nZ CO
 have hg:Hid (⟨2,[⟨[1,1],[0,0]⟩]⟩:Ob).good:=⟨by decide,fun t ht=>by
  have ht:t=⟨[1,1],[0,0]⟩:=iq ht
  subst ht
  exact ⟨by decide,rfl⟩⟩
 have hs:Hid (mK L):=by unfold Hid;rw [hL.out];exact ⟨by decide,fun r hr=>by simp at hr;rcases hr with rfl|rfl|rfl<;>decide⟩
 refine (Yx hh hob hl ok hg hs).mono ?_;rintro e w' ⟨aN,cN,N,aX,cX,x,dn,er,h1,h2,h3,h4,h5⟩;have h:=h2.out;rw [hL.out,aep] at h;simp only [dX] at h;obtain ⟨e1,e2,e3,e4⟩:=h;exact ⟨aN,cN,N,aX,cX,by rw [h1,<-e3,<-e4,<-e2];rfl,e1.symm,h3,h5⟩
theorem acy:Calls prog 7 #[.agg #[.int .i64 0,.int .i64 0,.int .u64 0,.int .i64 0,.int .i64 0]] w fun e w'=>e= .returned (.int .i64 2)/\Below w.heap.size w w':=
 (wD (w:=w) ⟨0,0,0,0,0⟩).mono fun e w' h=>⟨by rw [h.1,aer],h.2⟩
theorem VW {a b:Option Addr} {c d:Nat} {xs ys:List (List Int)} (h1:Sl M w a c xs) (h2:Sl M' w b d ys) (h:xs=ys):Calls prog 14 #[.slice a xs.length c,.slice b ys.length d] w fun e w'=>e= .returned (.bool true)/\∃n,w'=w.drewN n:=by
 have h3:=yw (h1.anti (M':=fun _=>False) fun _ _ h=>h.elim) (h2.anti (M':=fun _=>False) fun _ _ h=>h.elim);rw [dw h] at h3;exact h3
theorem aes (hm:Ma M w p 2 q 2 nZ):Calls prog 12 #[.agg #[.int .i64 2,.int .i64 0,.slice p 2 2,.slice q 2 2],.agg #[.int .i64 1,.int .i64 0,.int .u64 0,.int .i64 0,.int .i64 0]] w fun e w'=>∃(a:Option Addr) (c:Nat) (L:List (List Int)),e= .returned (.tuple #[.slice a L.length c,.int .i64 0])/\Hid (L=[[1,1],[0,0,1],[0,1,1]])/\Sl (fun k=>k<w.heap.size) w' a c L/\Below w.heap.size w w':=
 (Rc hm ⟨1,0,0,0,0⟩ (bK rfl)).mono fun e w' ⟨a,c,L,e1,h1,h2,h3,h4⟩=>by
  have h:=h2.out
  rw [acu] at h
  simp only [dX] at h
  exact ⟨a,c,L,by rw [h1,<-h.2],h.1.symm,h3,h4⟩
end
theorem tN {w:World}:Calls prog 11 #[] w fun e w'=>e= .returned (.bool true)/\Below w.heap.size w w':=by
 go_enter func11,ntmps11;go_wp2_with fail;refine Iz.mono ?_;rintro e w1 ⟨p,q,rfl,hm1,hb1⟩;have HT:=bK (aes hm1);go_wp2_with fail;refine (HT.out).mono ?_;rintro e w2 ⟨aL,cL,L,rfl,hL,Ag,hb2⟩;have hB2:=hb1.trans (hb2.mono hb1.size);have HL:=bK (Ag.anti (M':=fun _=>False) fun _ _ h=>h.elim);have qM:=Ag.le;clear HT hm1 hb1 hb2 Ag;go_wp2_with fail;refine Iz.mono ?_;rintro e w3 ⟨p3,q3,rfl,hm3,hb3⟩;have hB3:=hB2.trans (hb3.mono hB2.size);have HL3:=bK (HL.out.below hb3);obtain ⟨hA,hO,hbC⟩:=exW w3 p3 q3;have HN:=bK (acw (hm3.below hbC) (hA.anti (M':=fun k=>k<w2.heap.size) fun k _ hk=>by have:=hb3.size;show k<_;omega) hO (HL3.out.below hbC) hL);have HL4:=bK (HL3.out.below hbC);have hB4:=hB3.trans (hbC.mono hB3.size);clear hB2 hb3 HL HL3 hB3 hA hO hbC hm3;go_wp2_with fail;obtain ⟨w4,hw4⟩:∃W,W=exC w3 p3 q3:=⟨_,rfl⟩;have hw5:=hw4;unfold exC qO at hw5;simp only [acv] at hw5;unfold exB qH at hw5;rw [<-hw5];rw [<-hw4] at HN HL4 hB4;clear hw4 hw5;refine (HN.out).mono ?_;rintro e w5 ⟨aN,cN,N,aX,cX,rfl,hN,hNs,hb5⟩;have jw:=hB4.trans (hb5.mono hB4.size);have HL5:=bK (HL4.out.below hb5);have HN5:=bK (hNs.anti (M':=fun _=>False) fun _ _ h=>h.elim);have hNl:=hNs.le;clear HN HL4 hB4 hb5 hNs;obtain ⟨hq,hbq⟩:=aiv w5;have HA:=bK (VW (HL5.out.below hbq) hq hL.out);have jo:=jw.trans (hbq.mono jw.size);have HN6:=bK (HN5.out.below hbq);clear HL5 HN5 jw hbq hq;go_wp2_with fail;refine (HA.out).mono ?_;rintro e w6 ⟨rfl,n6,hw6⟩;obtain ⟨w7,hw7⟩:∃W,W=qL w5:=⟨_,rfl⟩;rw [<-hw7] at hw6 jo HN6;subst hw6;have mg:=iF jo n6;have HN8:=bK (HN6.out.drewN n6);clear HA jo HN6 hw7;generalize w7.drewN n6=w8 at*
 obtain ⟨hq,hbq⟩:=aiw w8;have HA:=bK (VW (HN8.out.below hbq) hq hN.out);have mH:=mg.trans (hbq.mono mg.size);clear HN8 mg hbq hq;go_wp2_with fail;refine (HA.out).mono ?_;rintro e w9 ⟨rfl,n9,hw9⟩;obtain ⟨qo,alA⟩:∃W,W=qN w8:=⟨_,rfl⟩;rw [<-alA] at hw9 mH;subst hw9;have nE:=iF mH n9;clear HA mH alA;generalize qo.drewN n9=Ae at*
 have HV:=bK (acy (w:=Ae));go_wp2_with fail;refine (HV.out).mono ?_;rintro e Tt ⟨rfl,vX⟩;have jh:=nE.trans (vX.mono nE.size);go_wp2;go_ret;exact ⟨rfl,jh⟩
end
section
open Tryz
theorem g_.IB {m:g_} (hn:m.h_.length<1000):∀r∈m.sU,IU r:=fun r hr=>by
 unfold g_.sU at hr
 obtain ⟨i, -,rfl⟩:=aqJ.1 hr
 have h:IU ((if False then [[]] else [])++m.uT (i:Int) (jK m.h_.length)):=BF (W:=[]) aH (by rw [kS];exact hn) hn
 rw [bO id,gJ] at h
 exact ⟨eO (vM _) h.1,fun y hy=>h.2 y ((j_ jF).1 hy)⟩
end
section
open Tryz
open Go.RowKit
theorem YB {m:g_} {ids:List (List (List Int))} {w:List Int}:0<(tailW m ids w).length:=by
 unfold tailW;split;·simp
 rename_i h;exact List.length_pos_iff.2 h
section
variable {M:Nat->Prop} {w:World} {a:Option Addr} {c:Nat}
theorem Rl {l:List (List (List Int))} (hs:Sl M w a c l):Calls prog 78 #[.slice a l.length c] w fun e w'=>e= .returned (.int .i64 (tJ l))/\w'=w:=by
 have hll:=hs.le;go_enter func78,ntmps78;go_wp2;go_loop [3,8] (fun v i=>∃k n:Nat,k<=l.length/\i= .int .i64 k/\v= .int .i64 n/\Hid (n=tJ (l.take k))/\n<=9223372036854775807) (fun _ i=>l.length-(intOf i).toNat);case atStart=>exact ⟨0,1,ah,rfl,rfl,rfl,ah⟩
 case round=>
  obtain ⟨k,n,hk,rfl,rfl,hn,hnl⟩:=hrel;by_cases hlt:k<l.length
  ·obtain ⟨b1,o1,ax,x,cx,rfl,hcx,hx,hsx⟩:=hs.iD hlt;have hxl:=hsx.le;have hn2:Hid (max n x.length=tJ (l.take (k+1))):=bK (by rw [sM hx.out,hn.out]);by_cases hm:n<=x.length
   ·have wU:Hid (x.length=tJ (l.take (k+1))):=by rw [arW hm] at hn2;exact hn2
    have hm2:max (n:Int) (x.length:Int)=(x.length:Int):=ah;go_wp2;go_round;case rel=>exact ⟨k+1,x.length,ah,by go_num,by go_num,wU,hxl⟩
    case measure=>exact bF
   have wU:Hid (n=tJ (l.take (k+1))):=by rw [ar1 ah] at hn2;exact hn2
   have hm2:max (n:Int) (x.length:Int)=(n:Int):=ah;go_wp2;go_round;case rel=>exact ⟨k+1,n,ah,by go_num,by go_num,wU,hnl⟩
   case measure=>exact bF
  have wU:Hid (n=tJ l):=by have:=hn.out;rw [bY ah] at this;exact this
  go_wp2;go_ret;exact ⟨kQ (by rw [wU.out]),rfl⟩
end
section
variable {M:Nat->Prop} {w:World} {an ao:Option Addr} {cn co:Nat} {m:g_}
theorem Uz (hm:Ma M w an cn ao co m) (iy:Int):Calls prog 35 #[kF m an cn ao co,.int .i64 iy] w fun e w'=>∃(a:Option Addr) (c:Nat) (L:List (List Int)) (e1:Int),e= .returned (.tuple #[.slice a L.length c,.int .i64 e1])/\Hid (m.IV iy=(L,e1))/\Sl (fun k=>k<w.heap.size) w' a c L/\Below w.heap.size w w':=by
 have hB0:=iB w (iP m an cn ao co);have hx0:=jE w m an cn ao co;have hz0:w.heap.size<(w.alloc (iP m an cn ao co)).heap.size:=aH;have HM:=bK hm;have HV:=bK (jR (hm.below hB0));have l1:=hm.h_.le;have l2:=hm.out.le;clear hm;go_enter func35,ntmps35;go_wp2_with fail;generalize w.alloc (iP m an cn ao co)=w0 at*
 refine (HV.out).mono ?_;rintro e w1 ⟨rfl,hb1⟩;have hx1:=hx0.below hb1 hz0;have hB1:=hB0.trans (hb1.mono ah);have hz1:w.heap.size<w1.heap.size:=ig hb1.size;clear hx0 hB0 hz0 hb1 HV;by_cases he:m.err=0
 ·have he':(m.err !=0)=false:=by simp [he]
  have HE:=bK he;have ok:Hid m.Ok:=g_.iG m HE.out;clear he;by_cases hex:iy<0\/3<iy
  ·have hR:Hid (m.IV iy=([],2)):=by unfold Hid g_.IV;rw [bO (by simp [HE.out]),bQ hex]
   by_cases h1:iy<0;·clear hex;go_wp2;exact dG (v:= .tuple #[.slice none 0 0,.int .i64 2]) (by simp [results,results35,go_sem]) rfl ⟨none,0,[],2,rfl,hR,Sl.nil _ _ _ aS,hB1⟩
   have h2:3<iy:=hex.elim (fun e=>absurd e h1) id;clear hex;go_wp2;exact dG (v:= .tuple #[.slice none 0 0,.int .i64 2]) (by simp [results,results35,go_sem]) rfl ⟨none,0,[],2,rfl,hR,Sl.nil _ _ _ aS,hB1⟩
  have h1:decide (iy<0)=false:=cZ (fun e=>hex (.inl e));have h2:decide (3<iy)=false:=cZ (fun e=>hex (.inr e));have HX:=bK hex;have hwr:IntKind.i64.wrap (iy+1)=iy+1:=eP _ ah;have ht0:=Ew (HM.out.below hB1);rw [HE.out] at ht0;have VP:=bK ht0;obtain ⟨d0,d1,d2,d3⟩:=hx1;clear hex ht0;go_wp2_with fail;refine (VP.out).mono ?_;rintro e w3 ⟨mW,mZ,mY,m_,t,rfl,ht,DN,hb3⟩;have WZ:Hid (t=m.lF):=bK (by rw [ht.out,g_.jU HE.out]);have rz:Hid t.Ok:=by rw [WZ.out];exact g_.pQ ok.out
  have hme:Hid (t.iU=0):=bK (by rw [WZ.out];exact (g_.uW ok.out).1);have htn:Hid (t.h_.length<1000):=by have:=rz.out.n1;unfold Hid;omega
  have hti:Hid (t.gZ=m.gZ):=bK (by rw [WZ.out];rfl);have HTm:=bK (DN.ext (M':=fun k=>k<w.heap.size) (Ext.jA (fun k _ e=>by omega)));have hB3:=hB1.trans (hb3.mono ah);have hz3:w.heap.size<w3.heap.size:=ig hb3.size;have lt1:=DN.h_.le;have lt2:=DN.out.le;clear d0 d1 d2 d3 hB1 hz1 VP DN hb3;go_upto_region 9 with (fail);have hba:=iB w3 (iP t mW mZ mY m_);have hc4:C4 (w3.alloc (iP t mW mZ mY m_)) w3.heap.size mW mZ mY m_ t:=kI w3;have hB4:=hB3.trans (hba.mono ah);have JZ:=bK (HTm.out.below hba);have nN:w3.heap.size<(w3.alloc (iP t mW mZ mY m_)).heap.size:=aH;clear hba hB3 HTm;generalize w3.alloc (iP t mW mZ mY m_)=w4 at*
  have hte:=bK (g_.jv hme.out).1;have HCv:=bK (Cq JZ.out hte);obtain ⟨d0,d1,d2,d3⟩:=hc4;go_wp2_with fail;refine (HCv.out).mono ?_;rintro e w5 ⟨aA,cA,A,rfl,hA,hAs,hb5⟩;have DF:C4 w5 w3.heap.size mW mZ mY m_ t:=C4.below ⟨d0,d1,d2,d3⟩ hb5 nN;have jw:=hB4.trans (hb5.mono ah);have J_:=bK (JZ.out.below hb5);have aen:=bK (hAs.anti (M':=fun k=>k<w.heap.size) (fun k _ e=>by omega));have yJ:w3.heap.size<w5.heap.size:=ig hb5.size;clear d0 d1 d2 d3 hB4 JZ nN hb5 HCv hAs;have HUp:=bK (FM (w:=w5) t.gZ (iy+1));go_wp2_with fail;refine (HUp.out).mono ?_;rintro e w6 ⟨aX,cX,X,e2,rfl,hX0,yM,hb6⟩;have hX:Hid (jM m.gZ (iy+1)=(X,e2)):=bK (by rw [<-hti.out];exact hX0.out);have hc6:=DF.below hb6 yJ;have jo:=jw.trans (hb6.mono ah);have Gf:=bK (J_.out.below hb6);have alB:=bK (aen.out.below hb6);have ab0:=bK (yM.anti (M':=fun k=>k<w.heap.size) (fun k _ e=>by omega));have qR:w3.heap.size<w6.heap.size:=ig hb6.size;clear DF jw J_ aen yJ hb6 HUp yM hX0;by_cases he2:e2=0
  ·have abZ:(e2 !=0)=false:=by simp [he2]
   have HE2:=bK he2;clear he2;have HId:=bK (Uv Gf.out hme htn);obtain ⟨d0,d1,d2,d3⟩:=hc6;go_wp2_with fail;refine (HId.out).mono ?_;rintro e w8 ⟨aI,cI,I,rfl,hI,hIs,rP⟩;have hc8:C4 w8 w3.heap.size mW mZ mY m_ t:=C4.below ⟨d0,d1,d2,d3⟩ rP qR;have mg:=jo.trans (rP.mono ah);have PE:=bK (Gf.out.below rP);have ab1:=bK (ab0.out.below rP);have ab2:=bK (alB.out.below rP);have Ul:=bK (hIs.anti (M':=fun k=>k<w.heap.size) (fun k _ e=>by omega));have IQ:w3.heap.size<w8.heap.size:=ig rP.size;have wS:Hid (∀r∈I,IU r):=bK (by rw [hI.out];exact g_.IB htn.out);have YP:Hid (I.length=t.h_.length):=bK (by rw [hI.out];unfold g_.sU;simp);clear d0 d1 d2 d3 jo Gf ab0 alB qR rP HId hIs;have CK:Hid (A.length<=1000/\∀p∈A,t.nQ p/\p.length<=1000):=by
    have hn1:=rz.out.n1;unfold Hid;rw [hA.out];refine ⟨?_,fun p hp=> ?_⟩;·rw [dJ];have h1:=t.rE t.h_.length;have h2:=g_.og rz.out t.h_.length;unfold g_.qm;omega
    obtain ⟨q,hq,rfl⟩:=aqJ.1 hp;have h1:=g_.rF rz.out t.h_.length q hq;exact ⟨h1.2.2.1,ig h1.2.2.2.1⟩
   have Du:Hid (X.length<=10001/\∀x∈X,InW m.gZ (iy+1).toNat x):=by have h:=yN m.gZ (iy+1);rw [hX.out] at h;exact ⟨h.2,h.1⟩
   have Xv:Hid (tJ I<=10000):=Uj ah (fun r hr=>by have:=(wS.out r hr).1;omega);skip
   have HGr:=bK (Rl Ul.out);obtain ⟨G,hG⟩:∃G,Hid (G=tJ I):=⟨_,rfl⟩;rw [<-hG.out] at Xv;have hG0:Hid ((tJ I:Int)=(G:Int)):=bK (by rw [hG.out]);have hA1:=CK.out.1;have hX1:=Du.out.1;have hG1:=Xv.out;have Um:A.length*X.length<=1000*10001:=eX hA1 hX1;have Ij:A.length*X.length*G<=1000*10001*10000:=eX Um hG1;obtain ⟨P1,hP1⟩:∃P1,P1=A.length*X.length:=⟨_,rfl⟩;obtain ⟨P2,hP2⟩:∃P2,P2=P1*G:=⟨_,rfl⟩;have hw1:IntKind.i64.wrap ((A.length:Int)*(X.length:Int))=(P1:Int):=by rw [show ((A.length:Int)*(X.length:Int))=((P1:Nat):Int) by rw [hP1];simp];exact eP _ ah
   have hw2:IntKind.i64.wrap ((P1:Int)*(G:Int))=(P2:Int):=by rw [show ((P1:Int)*(G:Int))=((P2:Nat):Int) by rw [hP2];simp];rw [<-hP1] at Ij;rw [<-hP2] at Ij;exact eP _ ah
   have Ik:=Rl Ul.out;rw [hG0.out] at Ik;have Un:=bK Ik;have hP3:Hid (P2=A.length*X.length*tJ I):=bK (by rw [hP2,hP1,hG.out]);have hR0:Hid (m.IV iy=if 10000<P2 then ([],11) else (pO (sS t I A X),0)):=by unfold Hid g_.IV;rw [bO (by simp [HE.out]),bO HX.out,hX.out,bO (by simp [HE2.out]),<-ht.out,<-hI.out,<-hA.out,hP3.out]
   clear Ik HGr hP1 hP2 Um Ij;by_cases mP:10000<P2
   ·have hR:Hid (m.IV iy=([],11)):=by unfold Hid;rw [hR0.out,bQ mP]
    go_wp2_with fail;refine (Un.out).mono ?_;rintro e w9 ⟨rfl,rfl⟩;go_wp2;exact dG (v:= .tuple #[.slice none 0 0,.int .i64 11]) (by simp [results,results35,go_sem]) rfl ⟨none,0,[],11,rfl,hR,Sl.nil _ _ _ aS,mg⟩
   have hGb:Hid (0<A.length->0<X.length->G<=10000):=fun _ _=>hG1;have Nh:Hid (m.IV iy=(pO (sS t I A X),0)):=bK (by rw [hR0.out,bO mP]);go_wp2_with fail;refine (Un.out).mono ?_;rintro e w9 ⟨rfl,rfl⟩;clear Un hR0
   have HS:Hid (∀w',Below w9.heap.size w9 w'->C4 w' w3.heap.size mW mZ mY m_ t/\Ma (fun k=>k<w.heap.size) w' mW mZ mY m_ t/\Sl (fun k=>k<w.heap.size) w' aI cI I/\Sl (fun k=>k<w.heap.size) w' aA cA A/\Sl (fun k=>k<w.heap.size) w' aX cX X/\Below w.heap.size w w'):=fun w' h=>
    ⟨hc8.below h ah,PE.out.below h,Ul.out.below h,ab2.out.below h,ab1.out.below h,mg.trans (h.mono ah)⟩
   have kJ:Ox (α:=List Int) w9.heap.size w9.heap.size w9 49 (.slice none 0 0) []:=Ox.nil;have sO:=bP w9.heap.size w9;have hwz:w.heap.size<=w9.heap.size:=ah;have hIm:Hid (∀r∈I,mK r):=fun r hr=>⟨ig ((wS.out r hr).1),fun y hy=>by have:=(wS.out r hr).2 y hy;omega⟩;have hti:Hid (t.gZ=m.gZ):=bK (by rw [WZ.out];rfl);clear hc8 mg;go_wp2_with fail
   go_loopw [77,12] (fun i v wr=>∃(k1:Nat) (a':Option Addr) (c':Nat) (K:List (List Int)),k1<=A.length/\i= .int .i64 k1/\v= .slice a' K.length c'/\Hid (K=(A.take k1).flatMap (sf t I X))/\Hid (K.length<=k1*200000000)/\
    Ox w9.heap.size w9.heap.size wr 49 (.slice a' K.length c') K/\Below w9.heap.size w9 wr) (fun i _ _=>A.length-(intOf i).toNat)
   case atStart=>exact ⟨0,none,0,[],ah,rfl,rfl,by simp [Hid],by simp [Hid],kJ,sO⟩
   case round=>
    clear kJ sO;obtain ⟨k1,a1,c1,K1,hk1,rfl,rfl,hK1,Ju,hO,hB⟩:=hrel;obtain ⟨wo,rfl⟩:=iA wr;by_cases hlt:k1<A.length
    ·obtain ⟨bA,oA,ap,p,cp,rfl,hpc,hp,hps⟩:=ab2.out.iD hlt;have ahW:=(hB.cell (p:=⟨bA,oA+k1,none⟩) (lt_of_cell hpc)).trans hpc;have HP:=bK hps;have hpA:=CK.out.2 p (bV hp.out);have hpl:=hpA.2;have hpo:=bK hpA.1;have hK2:Hid (K1=(A.take k1).flatMap (sf t I X)++(X.take 0).flatMap (sg t I p)):=bK (by rw [hK1.out];simp);have nY:Hid (K1.length<=k1*200000000+0*10000):=dH Ju.out (ap0 _ _);have HO:=bK hO;have Qs:=bK hB;clear hps hpA hO hB hpc;go_wp2_with fail
     go_loopw [83,12] (fun i v wr=>∃(k2:Nat) (a':Option Addr) (c':Nat) (K:List (List Int)),k2<=X.length/\i= .int .i64 k2/\v= .slice a' K.length c'/\Hid (K=(A.take k1).flatMap (sf t I X)++(X.take k2).flatMap (sg t I p))/\Hid (K.length<=k1*200000000+k2*10000)/\
      Ox w9.heap.size w9.heap.size wr 49 (.slice a' K.length c') K/\Below w9.heap.size w9 wr) (fun i _ _=>X.length-(intOf i).toNat)
     case atStart=>exact ⟨0,a1,c1,K1,ah,rfl,rfl,hK2,nY,HO.out,Qs.out⟩
     case round=>
      clear hK2 nY HO Qs ahW;obtain ⟨k2,a2,c2,K2,hk2,rfl,rfl,hK2,nY,hO,hB⟩:=hrel;obtain ⟨wi,rfl⟩:=iA wr;by_cases ni:k2<X.length
      ·obtain ⟨bX,oX,ax,x,cx,rfl,hxc,hx,hxs⟩:=ab1.out.iD ni;have Tx:=(hB.cell (p:=⟨bX,oX+k2,none⟩) (lt_of_cell hxc)).trans hxc;have hxX:=Du.out.2 x (bV hx.out);have hxl:=hxX.2;have Dl:Hid (jI (p++x) t.gZ=0):=MP rz.out hpo.out hpl (N:=(iy+1).toNat) (ig HX.out) (by rw [hti.out];exact hxX);have ale:x.length<=4:=ig HX.out;have hr:=UQ (T:=49) (HP.out.below hB) (hxs.below hB) (n:=p.length) rfl (m:=x.length) rfl;have HJ:=bK (uM hr (by rw [Dh];simp;omega));have hba:=iB wi (.cells #[.slice ap p.length cp,.slice ax x.length cx] 49);have hO3:=Ox.later hO hba;have hB3:=hB.trans (hba.mono hB.size);have hz3:=hB3.size;clear hr hxs hO hB hba hxc hxX;go_wp2_with fail;generalize hgg:wi.alloc (.cells #[.slice ap p.length cp,.slice ax x.length cx] 49)=wa at*
       clear hgg;refine (HJ.out).mono ?_;rintro e wb ⟨aw,cw,W,rfl,hW,hWs,hbb⟩;have hO4:=Ox.later hO3 hbb;have hB4:=hB3.trans (hbb.mono hz3);have nN:=hB4.size;have hWe:Hid (W=p++x):=bK (by rw [hW.out,Dh]);have Jv:=bK (hWs.anti (M':=fun k=>(Value.slice a2 K2.length c2).ownBlock=some k) (fun k _ hm=>(hO3.lt k hm).2));have hSb:=HS.out _ hB4;have hcb:=hSb.1;have ab3:Hid (jI W t.gZ=0):=by rw [hWe.out];exact Dl
       have HTl:=bK (Ki hSb.2.1 hSb.2.2.1 Jv.out rz ab3 YP hIm);clear HJ hbb hWs hO3 hB3 hW Tx hSb Dl ab3;go_wp2_with fail;refine (HTl.out).mono ?_;rintro e wc ⟨at1,ct1,TL,rfl,hTL,hTs,hbc⟩;have kV:=Ox.later hO4 hbc;have jw:=hB4.trans (hbc.mono nN);have QM:=bK (Jv.out.below hbc);have Il:=bK (hTs.anti (M':=fun k=>(Value.slice a2 K2.length c2).ownBlock=some k) (fun k _ hm=>(hO4.lt k hm).2));have hTl:Hid (TL.length<10000/\∀v∈TL,v.length<=1000000):=by rw [hTL.out];exact (xV wS.out).2
       have ahX:=hTl.out.1;have Bf:Hid (W.length<=1000+4):=bK (by rw [hWe.out,dB];omega);have hgs:Hid (sg t I p x=TL.map fun v=>W++v):=by unfold Hid sg;rw [hTL.out,hWe.out]
       have aot:Hid (0<TL.length):=bK (by rw [hTL.out];exact YB);have HBh:=bK (Gn QM.out Il.out (bK ⟨ah,fun v hv=>by have:=hTl.out.2 v hv;omega⟩) (ig Bf.out));have yJ:=jw.size;clear HTl hbc hTs hO4 hB4 Jv hcb;go_wp2_with fail;refine (HBh.out).mono ?_;rintro e wd ⟨aL,cL,L,rfl,hL,Ag,hbd⟩;have lu:=Ox.later kV hbd;have jo:=jw.trans (hbd.mono yJ);have qM:Hid (L.length=TL.length):=bK (by rw [hL.out];simp);have hLp:0<L.length:=by rw [qM.out];exact aot.out
       have aou:L.length<10000:=by rw [qM.out];exact ahX
       have ah6:Sl (fun k=>(Value.slice a2 K2.length c2).ownBlock=some k\/k<w9.heap.size) wd aL cL L:=Ag.anti fun k _ hm=>by
        rcases hm with hm|hm
        ·exact (kV.lt k hm).2
        omega
       obtain ⟨bL,oL, -, -, -,rfl, -, -, -⟩:=ah6.iD hLp;have pz:K2.length+L.length<1000000000000:=by have e1:k1*200000000<=1000*200000000:=eD _ ah;have e2:k2*10000<=10001*10000:=eD _ ah;have:=nY.out;omega
       have qR:=jo.size;clear HBh kV jw hbd Ag QM Il hLp;go_wp2_with (at_builtin;refine LA (n0:=w9.heap.size) (B:=w9.heap.size) rfl rfl underlying22 iI rfl rfl lu ah6 pz ah ?_);intro a5 c5 K5 w5' xE kV hgr;have jw:=jo.grown hgr ah (fun k hk=>(lu.lt k hk).1);have hKn:Hid (K5=(A.take k1).flatMap (sf t I X)++(X.take (k2+1)).flatMap (sg t I p)):=by unfold Hid;rw [xE.out,hK2.out,qB hx.out,hgs.out,hL.out,eH]
       have oK:Hid (K5.length<=k1*200000000+(k2+1)*10000):=by unfold Hid;rw [xE.out,dB];have:=nY.out;rw [aqf,<-ap9];omega
       clear xE hgr lu jo ah6 pz aou;go_wp2;go_roundw;case rel=>exact ⟨k2+1,a5,c5,K5,ah,by go_num,rfl,hKn,oK,kV,jw⟩
       case measure=>exact bF
      have hKn:Hid (K2=(A.take (k1+1)).flatMap (sf t I X)):=by unfold Hid;rw [hK2.out,qB hp.out,bY (l:=X) (i:=k2) ah];rfl
      have oK:Hid (K2.length<=(k1+1)*200000000):=bK (ig nY.out);go_wp2;go_roundw;case rel=>exact ⟨k1+1,a2,c2,K2,ah,by go_num,rfl,hKn,oK,hO,hB⟩
      case measure=>exact bF
    have hKf:Hid (K1=sS t I A X):=bK (by rw [hK1.out,bY ah];rfl);have hsm:Hid (mK K1):=by
     refine ⟨?_,fun r hr=> ?_⟩;·have h:=CG (t:=t) (A:=A) (X:=X) wS.out;rw [hKf.out];rw [<-hP3.out] at h;omega
     rw [hKf.out] at hr;have h:=CJ wS.out hr (fun p hp=>(CK.out.2 p hp).2) (fun x hx=>(Du.out.2 x hx).2);have:=HX.out;omega
    have hKs:=(hO.jD (bM _));have Ry:=bK (A_ hKs hsm);have jh:=(HS.out _ hB).2.2.2.2.2;clear hO hB hKs;go_wp2_with fail;refine (Ry.out).mono ?_;rintro e wf ⟨aM,cM,LM,rfl,hLM,MR,hbf⟩;have MS:=jh.trans (hbf.mono jh.size);have hR:Hid (m.IV iy=(LM,0)):=bK (by rw [Nh.out,hLM.out,hKf.out]);have MU:=MR.anti (M':=fun k=>k<w.heap.size) (fun k _ e=>by have:=jh.size;omega);go_wp2;exact dG (v:= .tuple #[.slice aM LM.length cM,.int .i64 0]) (by simp [results,results35,go_sem]) rfl ⟨aM,cM,LM,0,rfl,hR,MU,MS⟩
  have abZ:(e2 !=0)=true:=by simp [he2]
  have hR:Hid (m.IV iy=([],e2)):=by unfold Hid g_.IV;rw [bO (by simp [HE.out]),bO HX.out,hX.out,bQ he2]
  clear he2;go_wp2;exact dG (v:= .tuple #[.slice none 0 0,.int .i64 e2]) (by simp [results,results35,go_sem]) rfl ⟨none,0,[],e2,rfl,hR,Sl.nil _ _ _ aS,jo⟩
 have he':(m.err !=0)=true:=by simp [he]
 have hR:Hid (m.IV iy=([],m.err)):=by unfold Hid g_.IV;rw [bQ he]
 clear he;go_wp2;exact dG (v:= .tuple #[.slice none 0 0,.int .i64 m.err]) (by simp [results,results35,go_sem]) rfl ⟨none,0,[],m.err,rfl,hR,Sl.nil _ _ _ aS,hB1⟩
end
theorem g_.acz {m:g_} (ok:m.Ok) (hn:m.h_.length<=30) (s x:Int):jI (m.mq s x) m.gZ=0:=by
 have h0:=ok.i0;have h1:=ok.i1;have hl:(m.mq s x).length<=1024:=by
  unfold g_.mq;cases h:Ez m s x with
  |none=>simp
  |some w=>
   show w.length<=_;unfold Ez at h;split at h;·have:=KF h;have h2:m.h_.length*m.h_.length<=30*30:=eX hn hn;omega
   simp at h
 unfold jI;rw [bO ah,bO ah,bO];rintro ⟨a,ha,hb⟩;have:=g_.Q_ m s x a ha;omega
theorem g_.aeu {m:g_} (ok:m.Ok) (hn:m.h_.length<=30) {s k:Nat}:∀w∈m.Jy s (m.yU s) k,jI w m.gZ=0:=fun w hw=>by
 have h:∃a b:Int,w=m.mq a b:=by
  rcases g_.ED k w hw with h|h
  ·exact g_.EF s w h
  exact h
 obtain ⟨a,b,rfl⟩:=h
 exact g_.acz ok hn a b
theorem KP {M:Nat->Prop} {w:World} {an ao:Option Addr} {cn co:Nat} {m:g_} (hm:Ma M w an cn ao co m) (hme:Hid (m.iU=0)):Calls prog 148 #[kF m an cn ao co] w fun e w'=>e= .returned (.int .i64 0)/\Below w.heap.size w w':=by
 have h:=xW hm;rw [hme.out] at h;exact h
section
variable {M:Nat->Prop} {w:World} {an ao:Option Addr} {cn co:Nat} {m:g_}
theorem Jz (hm:Ma M w an cn ao co m) (hme:Hid (m.iU=0)) (xZ:Hid (m.h_.length<=30)):Calls prog 90 #[kF m an cn ao co] w fun e w'=>∃(a:Option Addr) (c:Nat) (L:List (List Int)),e= .returned (.tuple #[.slice a L.length c,.int .i64 0])/\Hid (L=m.QX)/\Sl (fun k=>k<w.heap.size) w' a c L/\Below w.heap.size w w':=by
 have hB0:=iB w (iP m an cn ao co);have hx0:=jE w m an cn ao co;have hz0:w.heap.size+1<=(w.alloc (iP m an cn ao co)).heap.size:=aH;have ok:Hid m.Ok:=g_.iG m (g_.jv hme.out).1;have hn:Hid (m.h_.length<1000):=by have:=xZ.out;unfold Hid;omega
 have hnl:=hn.out;have HM:=bK hm;have HC:=bK (KP (hm.below hB0) hme);clear hm;go_enter func90,ntmps90;go_upto_region 1 with (fail);generalize w.alloc (iP m an cn ao co)=w0 at*
 obtain ⟨d0,d1,d2,d3⟩:=hx0;go_wp2_with fail;refine (HC.out).mono ?_;rintro e w1 ⟨rfl,hb1⟩;have hx1:C4 w1 w.heap.size an cn ao co m:=C4.below ⟨d0,d1,d2,d3⟩ hb1 ah;have hB1:=hB0.trans (hb1.mono ah);have hz1:w.heap.size+1<=w1.heap.size:=ig hb1.size;clear d0 d1 d2 d3 hB0 hb1 HC hz0
 have zR:Hid (∀w',Below w1.heap.size w1 w'->C4 w' w.heap.size an cn ao co m/\Ma M w' an cn ao co m/\Below w.heap.size w w'):=fun w' h=>
  ⟨hx1.below h ah,HM.out.below (hB1.trans (h.mono ah)),hB1.trans (h.mono ah)⟩
 have Uw:=hx1.2.2.1;have kJ:Ox (α:=List Int) w1.heap.size w1.heap.size w1 49 (.slice none 0 0) []:=Ox.nil;have GZ:Hid (([]:List (List Int))=m.yU 0):=rfl;have sO:=bP w1.heap.size w1;clear hx1 hB1;go_wp2;go_loopw [5,6] (fun v i wr=>∃(s:Nat) (a':Option Addr) (c':Nat) (K:List (List Int)),s<=m.h_.length/\i= .int .i64 s/\v= .slice a' K.length c'/\Hid (K=m.yU s)/\Ox w1.heap.size w1.heap.size wr 49 (.slice a' K.length c') K/\Below w1.heap.size w1 wr) (fun _ i _=>m.h_.length-(intOf i).toNat);case atStart=>exact ⟨0,none,0,[],ah,rfl,rfl,GZ,kJ,sO⟩
 case round=>
  clear kJ GZ sO Uw;obtain ⟨s,a',c',K,hs,rfl,rfl,hK,hO,hB⟩:=hrel;obtain ⟨wo,rfl⟩:=iA wr;by_cases hlt:s<m.h_.length
  ·have hT0:Hid (K=m.Jy s (m.yU s) 0):=hK;have hd2:=(zR.out _ hB).1.2.2.1;go_wp2;go_loopw [5,7] (fun v i wr=>∃(k:Nat) (a':Option Addr) (c':Nat) (K:List (List Int)),s+1+k<=m.h_.length/\i= .int .i64 ((s+1+k:Nat):Int)/\v= .slice a' K.length c'/\Hid (K=m.Jy s (m.yU s) k)/\Ox w1.heap.size w1.heap.size wr 49 (.slice a' K.length c') K/\Below w1.heap.size w1 wr) (fun _ i _=>m.h_.length-(intOf i).toNat);case atStart=>exact ⟨0,a',c',K,ah,by go_num,rfl,hT0,hO,hB⟩
   case round=>
    clear hT0 hK hO hB hd2;obtain ⟨k,a',c',K,hk,rfl,rfl,hK,hO,hB⟩:=hrel;obtain ⟨wo,rfl⟩:=iA wr;have hSo:=zR.out _ hB;have wX:=hB.size;by_cases htn:s+1+k<m.h_.length
    ·obtain ⟨t,ht⟩:∃t,t=s+1+k:=⟨_,rfl⟩;rw [<-ht] at htn ⊢;have HT:=bK ht;have Xt:Hid (∀l∈K,jI l m.gZ=0):=bK (by rw [hK.out];exact g_.aeu ok.out xZ.out);have rW:Hid (K.length<1100000):=bK (by rw [hK.out];exact g_.yO hn.out hs ah);have ach:=rW.out;have jH:Hid (m.Jy s (m.yU s) (k+1)=if K.any (Mi m s t)=true then K else K++[m.mq (s:Int) (t:Int)]):=by unfold Hid;rw [hK.out,HT.out];rfl
     have hKs:=hO.jD (bM _);obtain ⟨d0,d1,d2,d3⟩:=hSo.1;clear ht;cases hq:K.any (Mi m s t) with
     |true=>
      have HSe:=bK (GJ (s:=s) (t:=t) hSo.2.1 hKs ok hlt htn Xt hq);have hK2:Hid (K=m.Jy s (m.yU s) (k+1)):=bK (by rw [jH.out,hq,bQ rfl]);have htk:(t:Int)+1=((s+1+(k+1):Nat):Int):=ig HT.out;clear hSo hq hKs;go_wp2_with fail;refine (HSe.out).mono ?_;rintro e w3 ⟨rfl,hb3⟩;have hB3:=hB.trans (hb3.mono wX);have hO3:=Ox.later hO hb3;clear HSe hb3 hB hO d0 d1 d2 d3;go_wp2;go_roundw;case rel=>exact ⟨k+1,a',c',K,ig HT.out,by rw [<-htk];go_num,rfl,hK2,hO3,hB3⟩
      case measure=>exact bF
     |false=>
      have HSe:=bK (GJ (s:=s) (t:=t) hSo.2.1 hKs ok hlt htn Xt hq);have hK2:Hid (K++[m.mq (s:Int) (t:Int)]=m.Jy s (m.yU s) (k+1)):=bK (by rw [jH.out,hq,bO aH]);have htk:(t:Int)+1=((s+1+(k+1):Nat):Int):=ig HT.out;clear hSo hq hKs;go_wp2_with fail;refine (HSe.out).mono ?_;rintro e w3 ⟨rfl,hb3⟩;have hB3:=hB.trans (hb3.mono wX);have hO3:=Ox.later hO hb3;have kC:=zR.out _ hB3;have z_:=xO kC.2.1 (s:Int) (t:Int) bg bg;rw [EH ok.out (s:=(s:Int)) (t:=(t:Int)) ah ah] at z_;have Ii:=bK z_;clear HSe hb3 hB hO d0 d1 d2 d3 z_;obtain ⟨d0,d1,d2,d3⟩:=kC.1;clear kC;go_wp2_with fail;refine (Ii.out).mono ?_;rintro e w4 ⟨ad,cd,l,f,rfl,hl,hsl,hb4⟩;have hle:Hid (l=m.mq (s:Int) (t:Int)):=BH hl.out;have hB4:=hB3.trans (hb4.mono hB3.size);have hO4:=Ox.later hO3 hb4
      have Rb:Sl (fun k=>(Value.slice a' K.length c').ownBlock=some k\/k<w1.heap.size) w4 ad cd l:=hsl.anti fun k _ hm=>by
       rcases hm with hm|hm
       ·exact (hO3.lt k hm).2
       have:=hB3.size;show k<_;omega
      have hll:=hsl.le;have nN:=hB4.size;clear Ii hB3 hO3 hsl hb4 d0 d1 d2 d3 hl;go_wp2_with (at_builtin;refine jd (n0:=w1.heap.size) (B:=w1.heap.size) (r:=l) (ar:=ad) (cr:=cd) rfl rfl underlying22 iI rfl rfl (hO4.alloc _) bf (Rb.alloc _) ah aJ ?_);intro a9 c9 K9 w9 yT yF hbk hgr;have mH:=(hB4.alloc nN (.cells #[.slice ad l.length cd] 49)).grown hgr aJ (fun k hk=>(hO4.lt k hk).1);have hKn:Hid (K9=m.Jy s (m.yU s) (k+1)):=bK (by rw [yT.out,hle.out,hK2.out]);clear hbk hgr yT hO4 hB4 Rb nN;go_wp2;go_roundw;case rel=>exact ⟨k+1,a9,c9,K9,ig HT.out,by rw [<-htk];go_num,rfl,hKn,yF,mH⟩
      case measure=>exact bF
    have hKn:Hid (K=m.yU (s+1)):=by unfold Hid;rw [hK.out,show k=m.h_.length-(s+1) by omega];rfl
    have hd2:=hSo.1.2.2.1;clear hSo;go_wp2;go_roundw;case rel=>exact ⟨s+1,a',c',K,ah,by go_num,rfl,hKn,hO,hB⟩
    case measure=>exact bF
  have hKf:Hid (K=m.yU m.h_.length):=bK (by rw [hK.out,show s=m.h_.length by omega]);have rW:Hid (K.length<1100000):=bK (by rw [hK.out];exact g_.yO (k:=0) hn.out hs ah)
  have VR:=bK (qQ (hO.jD (bM _)) (bK ⟨ig rW.out,fun r hr=>by
   rw [hK.out] at hr
   have:=(g_.KO hn.out r hr).2;omega⟩))
  have qK:=(zR.out _ hB).2.2;have wX:=qK.size;have hll:=(hO.jD (bM _)).le;have hd2:=(zR.out _ hB).1.2.2.1;go_wp2_with fail;refine (VR.out).mono ?_;rintro e w8 ⟨a8,c8,L8,rfl,TV,Jp,rP⟩;have YM:Hid (L8=m.QX):=by unfold Hid g_.QX;rw [TV.out,hKf.out]
  have wI:=Jp.anti (M':=fun k=>k<w.heap.size) fun k _ hm=>by show k<_;omega
  have jh:=qK.trans (rP.mono wX);clear VR Jp rP;go_wp2;go_ret2;exact ⟨a8,c8,L8,rfl,YM,wI,jh⟩
end
theorem aev {n k:Nat} (h:k<n):(jK n)[k]? =some (k:Int):=by
 unfold jK;rw [dP,fO h];rfl
section
variable {M:Nat->Prop} {w:World} {an ao:Option Addr} {cn co:Nat} {m:g_}
theorem Rm (hm:Ma M w an cn ao co m) (hme:Hid (m.iU=0)) (xZ:Hid (m.h_.length<=30)):Calls prog 92 #[kF m an cn ao co] w fun e w'=>∃(a:Option Addr) (c:Nat) (L:List (List (List Int))),e= .returned (.tuple #[.slice a L.length c,.int .i64 0])/\Hid (L=m.sU)/\Sl (fun k=>k<w.heap.size) w' a c L/\Below w.heap.size w w':=by
 have hB0:=iB w (iP m an cn ao co);have hx0:=jE w m an cn ao co;have hz0:w.heap.size+1<=(w.alloc (iP m an cn ao co)).heap.size:=aH;have ok:Hid m.Ok:=g_.iG m (g_.jv hme.out).1;have hn:Hid (m.h_.length<1000):=by have:=xZ.out;unfold Hid;omega
 have hnl:=hn.out;have HM:=bK hm;have HC:=bK (KP (hm.below hB0) hme);clear hm;go_enter func92,ntmps92;go_upto_region 1 with (fail);generalize w.alloc (iP m an cn ao co)=w0 at*
 obtain ⟨d0,d1,d2,d3⟩:=hx0;go_wp2_with fail;refine (HC.out).mono ?_;rintro e w1 ⟨rfl,hb1⟩;have hx1:C4 w1 w.heap.size an cn ao co m:=C4.below ⟨d0,d1,d2,d3⟩ hb1 ah;have hB1:=hB0.trans (hb1.mono ah);have hz1:w.heap.size+1<=w1.heap.size:=ig hb1.size;clear d0 d1 d2 d3 hB0 hb1 HC hz0
 have zR:Hid (∀w',Below w1.heap.size w1 w'->C4 w' w.heap.size an cn ao co m/\Ma M w' an cn ao co m/\Below w.heap.size w w'):=fun w' h=>
  ⟨hx1.below h ah,HM.out.below (hB1.trans (h.mono ah)),hB1.trans (h.mono ah)⟩
 have kJ:Ox (α:=List (List Int)) w1.heap.size w1.heap.size w1 22 (.slice none 0 0) []:=Ox.nil;have GZ:Hid (([]:List (List (List Int)))=m.sU.take 0):=rfl;have sO:=bP w1.heap.size w1;have hsl:Hid (m.sU.length=m.h_.length):=by unfold Hid g_.sU;simp
 have Uw:=hx1.2.2.1;clear hx1 hB1;go_wp2;go_loopw [5,6] (fun v i wr=>∃(s:Nat) (a':Option Addr) (c':Nat) (K:List (List (List Int))),s<=m.h_.length/\i= .int .i64 s/\v= .slice a' K.length c'/\Hid (K=m.sU.take s)/\Ox w1.heap.size w1.heap.size wr 22 (.slice a' K.length c') K/\Below w1.heap.size w1 wr) (fun _ i _=>m.h_.length-(intOf i).toNat);case atStart=>exact ⟨0,none,0,[],ah,rfl,rfl,GZ,kJ,sO⟩
 case round=>
  clear kJ GZ sO Uw;obtain ⟨s,a',c',K,hs,rfl,rfl,hK,hO,hB⟩:=hrel;obtain ⟨wo,rfl⟩:=iA wr;have rW:Hid (K.length=s):=bK (by rw [hK.out,dx,hsl.out];omega);have wX:=hB.size;have HOo:Hid (∀w',Below wo.heap.size wo w'->Ox w1.heap.size w1.heap.size w' 22 (.slice a' K.length c') K/\Below w1.heap.size w1 w'/\wo.heap.size<=w'.heap.size):=fun w' h=>⟨Ox.later hO h,hB.trans (h.mono wX),h.size⟩;have hOb:Hid (∀k,(Value.slice a' K.length c').ownBlock=some k->k<wo.heap.size):=fun k hk=>(hO.lt k hk).2;by_cases hlt:s<m.h_.length
  ·have hL0:Hid (([]:List (List Int))=m.uT (s:Int) ((jK m.h_.length).take 0)):=rfl;have hP0:Ox (α:=List Int) wo.heap.size wo.heap.size wo 49 (.slice none 0 0) []:=Ox.nil;have NY:=bP wo.heap.size wo;have hSo:=(zR.out _ hB).1.2.2.1;clear hO hB;go_wp2;go_loopw [7,8] (fun v i wr=>∃(t:Nat) (a1:Option Addr) (c1:Nat) (L:List (List Int)),t<=m.h_.length/\i= .int .i64 t/\v= .slice a1 L.length c1/\Hid (L=m.uT (s:Int) ((jK m.h_.length).take t))/\Ox wo.heap.size wo.heap.size wr 49 (.slice a1 L.length c1) L/\Below wo.heap.size wo wr) (fun _ i _=>m.h_.length-(intOf i).toNat);case atStart=>exact ⟨0,none,0,[],ah,rfl,rfl,hL0,hP0,NY⟩
   case round=>
    clear hL0 hP0 NY hSo;obtain ⟨t,a1,c1,L,ht,rfl,rfl,hL,hP,hb⟩:=hrel;obtain ⟨wi,rfl⟩:=iA wr;have hSi:=zR.out _ (HOo.out _ hb).2.1;have hzi:=hb.size;have qM:Hid (L.length<=1000):=by have h:=g_.EC (m:=m) (s:=(s:Int)) (o:=(jK m.h_.length).take t);rw [dx,kS] at h;unfold Hid;rw [hL.out];omega
    have hLw:Hid (∀r∈L,r.length<1000000000):=by intro r hr;rw [hL.out] at hr;unfold g_.uT at hr;obtain ⟨y, -,rfl⟩:=aqJ.1 hr;have:=g_.uU hn.out (s:Int) y;omega
    obtain ⟨d0,d1,d2,d3⟩:=hSi.1;by_cases htn:t<m.h_.length
    ·have jH:=g_.xS (m:=m) (s:=(s:Int)) (o:=jK m.h_.length) (aev htn);by_cases hts:t=s
     ·have hq:(((t:Nat):Int) !=((s:Nat):Int))=false:=by simp [hts]
      have hL2:Hid (L=m.uT (s:Int) ((jK m.h_.length).take (t+1))):=by unfold Hid;rw [hL.out,jH,bQ ah,gD]
      clear jH hL;go_wp2;go_roundw;case rel=>exact ⟨t+1,a1,c1,L,ah,by go_num,rfl,hL2,hP,hb⟩
      case measure=>exact bF
     have hq:(((t:Nat):Int) !=((s:Nat):Int))=true:=aJ;have hL2:Hid (L++[m.mq (s:Int) (t:Int)]=m.uT (s:Int) ((jK m.h_.length).take (t+1))):=by unfold Hid;rw [hL.out,jH,bO ah]
     have z_:=xO hSi.2.1 (s:Int) (t:Int) bg bg;rw [EH ok.out (s:=(s:Int)) (t:=(t:Int)) ah ah] at z_;have Ii:=bK z_;clear jH hL z_ hSi hts;go_wp2_with fail;refine (Ii.out).mono ?_;rintro e w4 ⟨ad,cd,l,f,rfl,hl,ah7,hb4⟩;have hle:Hid (l=m.mq (s:Int) (t:Int)):=BH hl.out;have hB4:=hb.trans (hb4.mono hzi);have hP4:=Ox.later hP hb4
     have Rb:Sl (fun k=>(Value.slice a1 L.length c1).ownBlock=some k\/k<wo.heap.size) w4 ad cd l:=ah7.anti fun k _ hm=>by
      rcases hm with hm|hm
      ·exact (hP.lt k hm).2
      show k<_;omega
     have hll:=ah7.le;have nN:=hB4.size;have aov:L.length<1000000000000:=ig qM.out;clear Ii hb hP ah7 hb4 d0 d1 d2 d3 hl;go_wp2_with (at_builtin;refine jd (n0:=wo.heap.size) (B:=wo.heap.size) (r:=l) (ar:=ad) (cr:=cd) rfl rfl underlying22 iI rfl rfl (hP4.alloc _) bf (Rb.alloc _) aov aJ ?_);intro a9 c9 K9 w9 yT yF hbk hgr;have mH:=(hB4.alloc nN (.cells #[.slice ad l.length cd] 49)).grown hgr aJ (fun k hk=>(hP4.lt k hk).1);have hKn:Hid (K9=m.uT (s:Int) ((jK m.h_.length).take (t+1))):=bK (by rw [yT.out,hle.out,hL2.out]);clear hbk hgr yT hP4 hB4 Rb nN;go_wp2;go_roundw;case rel=>exact ⟨t+1,a9,c9,K9,ah,by go_num,rfl,hKn,yF,mH⟩
     case measure=>exact bF
    have YM:Hid (L=m.uT (s:Int) (jK m.h_.length)):=bK (by rw [hL.out,bY (by rw [kS];omega)]);have VR:=bK (qQ (hP.jD (bM _)) (bK ⟨ig qM.out,hLw.out⟩));have hll:=(hP.jD (bM _)).le;have pz:K.length<1000000000000:=by rw [rW.out];omega
    clear hP hL hSi;go_wp2_with fail;refine (VR.out).mono ?_;rintro e w8 ⟨a8,c8,L8,rfl,TV,Jp,rP⟩;have aew:=hb.trans (rP.mono hzi);have uf:=(HOo.out _ aew).1;have mg:=(HOo.out _ aew).2.1
    have Iq:Sl (fun k=>(Value.slice a' K.length c').ownBlock=some k\/k<w1.heap.size) w8 a8 c8 L8:=Jp.anti fun k _ hm=>by
     rcases hm with hm|hm
     ·have:=hOb.out k hm;show k<_;omega
     show k<_;omega
    have alp:=Iq.le;have IQ:=mg.size;have apU:=(HOo.out _ aew).2.2;clear VR Jp rP aew hb d0 d1 d2 d3;go_wp2_with (at_builtin;refine jd (n0:=w1.heap.size) (B:=w1.heap.size) (r:=L8) (ar:=a8) (cr:=c8) rfl rfl underlying110 vU rfl rfl (uf.alloc _) bf (Iq.alloc _) pz aJ ?_);intro a9 c9 K9 w9 yT yF hbk hgr;have mH:=(mg.alloc IQ (.cells #[.slice a8 L8.length c8] 22)).grown hgr aJ (fun k hk=>(uf.lt k hk).1);have hKn:Hid (K9=m.sU.take (s+1)):=bK (by rw [yT.out,hK.out,dh,g_.QW hlt,TV.out,YM.out];rfl);clear hbk hgr yT uf mg Iq IQ;go_wp2;go_roundw;case rel=>exact ⟨s+1,a9,c9,K9,ah,by go_num,rfl,hKn,yF,mH⟩
    case measure=>exact bF
  have hKf:Hid (K=m.sU):=bK (by rw [hK.out,bY (by rw [hsl.out];omega)]);have qK:=(zR.out _ hB);obtain ⟨d0,d1,d2,d3⟩:=qK.1;have wI:=(hO.jD (bM _)).anti (M':=fun k=>k<w.heap.size) fun k _ hm=>by show k<_;omega
  have jh:=qK.2.2;clear qK hO hB;go_wp2;go_ret2;exact ⟨a',c',K,rfl,hKf,wI,jh⟩
end
section
variable {M:Nat->Prop} {w:World} {an ao:Option Addr} {cn co:Nat} {m:g_}
theorem Rn (hm:Ma M w an cn ao co m) (xZ:Hid (m.h_.length<=30)) (iy:Int):Calls prog 40 #[kF m an cn ao co,.int .i64 iy] w fun e w'=>∃(a:Option Addr) (c:Nat) (L:List (List Int)) (e1:Int),e= .returned (.tuple #[.slice a L.length c,.int .i64 e1])/\Hid (m.IV iy=(L,e1))/\Sl (fun k=>k<w.heap.size) w' a c L/\Below w.heap.size w w':=by
 have hB0:=iB w (iP m an cn ao co);have hx0:=jE w m an cn ao co;have HM:=bK hm;have l1:=hm.h_.le;have l2:=hm.out.le;have HPt:=bK (xX (hm.below hB0) iy);clear hm;go_enter func40,ntmps40;go_upto_region 1 with (fail);generalize w.alloc (iP m an cn ao co)=w0 at*
 have hz0:w.heap.size<w0.heap.size:=lt_of_cell hx0.1;obtain ⟨d0,d1,d2,d3⟩:=hx0;go_wp2_with fail;refine (HPt.out).mono ?_;rintro e w1 ⟨mW,mZ,mY,m_,t,aA,cA,A,aX,cX,X,e1,rfl,hP,DN,hAs,yM,hb1⟩;have hB1:=hB0.trans (hb1.mono ah);have QU:=bK (DN.ext (M':=fun k=>k<w.heap.size) (Ext.jA fun k _ e=>by omega));have hA1:=bK (hAs.anti (M':=fun k=>k<w.heap.size) fun k _ e=>by omega);have hX1:=bK (yM.anti (M':=fun k=>k<w.heap.size) fun k _ e=>by omega);have hz1:w.heap.size<w1.heap.size:=ig hb1.size;clear d0 d1 d2 d3 hB0 hb1 DN hAs yM HPt;go_upto_region 2 with (fail);have hba:=iB w1 (iP t mW mZ mY m_);have hc2:C4 (w1.alloc (iP t mW mZ mY m_)) w1.heap.size mW mZ mY m_ t:=kI w1;have hB2:=hB1.trans (hba.mono ah);have wC:=bK (QU.out.below hba);have hA2:=bK (hA1.out.below hba);have hX2:=bK (hX1.out.below hba);have hz2:w1.heap.size<(w1.alloc (iP t mW mZ mY m_)).heap.size:=aH;clear hB1 QU hA1 hX1 hba;generalize w1.alloc (iP t mW mZ mY m_)=w2 at*
 by_cases he:e1=0
 ·have he':(e1 !=0)=false:=by simp [he]
  have kE:Hid (m.err=0/\¬(iy<0\/3<iy)/\(jM m.gZ (iy+1)).2=0/\t=m.minOf/\A=m.minOf.qm.map Pc.word/\X=(jM m.gZ (iy+1)).1):=by
   have h:=hP.out;rw [he] at h;unfold g_.nP at h;by_cases h1:m.err=0
   ·rw [bO (by simp [h1])] at h;by_cases h2:iy<0\/3<iy;·rw [bQ h2] at h;simp at h
    rw [bO h2] at h;by_cases h3:(jM m.gZ (iy+1)).2=0;·rw [bO (by simp [h3])] at h;simp only [dX,aqY] at h;exact ⟨h1,h2,h3,h.1.symm,h.2.1.symm,h.2.2.symm⟩
    rw [bQ h3] at h;simp only [dX] at h;exact absurd h.2.2.2 h3
   rw [bQ h1] at h;simp only [dX] at h;exact absurd h.2.2.2 h1
  clear he hP;have HE:=bK kE.out.1;have ok:Hid m.Ok:=g_.iG m HE.out;have ht:=bK kE.out.2.2.2.1;have hA:=bK kE.out.2.2.2.2.1;have hX:=bK kE.out.2.2.2.2.2;have hti:Hid (t.gZ=m.gZ):=bK (by rw [ht.out,g_.jU HE.out];rfl);have rz:Hid t.Ok:=by rw [ht.out,g_.jU HE.out];exact g_.pQ ok.out
  have htn:Hid (t.h_.length<1000):=by have:=rz.out.n1;unfold Hid;omega
  have CK:Hid (A.length<=1000/\∀p∈A,t.nQ p/\p.length<=1000):=by
   have hn1:=rz.out.n1;unfold Hid;rw [hA.out,<-ht.out];refine ⟨?_,fun p hp=> ?_⟩;·rw [dJ];have h1:=t.rE t.h_.length;have h2:=g_.og rz.out t.h_.length;unfold g_.qm;omega
   obtain ⟨q,hq,rfl⟩:=aqJ.1 hp;have h1:=g_.rF rz.out t.h_.length q hq;exact ⟨h1.2.2.1,ig h1.2.2.2.1⟩
  have Du:Hid (X.length<=10001/\∀x∈X,InW t.gZ 4 x):=by have h:=yN m.gZ (iy+1);have h2:=kE.out.2.1;unfold Hid;rw [hX.out,hti.out];exact ⟨h.2,fun x hx=>⟨(h.1 x hx).1,ig ((h.1 x hx).2)⟩⟩
  have hme:Hid (t.iU=0):=bK (by rw [ht.out,g_.jU HE.out];exact (g_.uW ok.out).1);have Ro:Hid (t.h_.length<=30):=by have g:=(g_.uW ok.out).2.2.2;have g2:=xZ.out;unfold Hid;rw [ht.out,g_.jU HE.out];omega
  have Nh:Hid (∀I,I=t.sU->m.IV iy=uV t I A X):=by unfold Hid;rintro I rfl;unfold g_.IV uV;rw [bO (by simp [HE.out]),bO kE.out.2.1,bO (by simp [kE.out.2.2.1]),<-ht.out,hA.out,<-ht.out,hX.out]
  have HId:=bK (Rm wC.out hme Ro);have lt1:=wC.out.h_.le;have lt2:=wC.out.out.le;obtain ⟨d0,d1,d2,d3⟩:=hc2;clear kE ht hA hX;go_wp2_with fail;refine (HId.out).mono ?_;rintro e w3 ⟨aI,cI,I,rfl,hI,hIs,hb3⟩;have hc3:C4 w3 w1.heap.size mW mZ mY m_ t:=C4.below ⟨d0,d1,d2,d3⟩ hb3 hz2;have hB3:=hB2.trans (hb3.mono ah);have Ur:=bK (wC.out.below hb3);have hA3:=bK (hA2.out.below hb3);have Mx:=bK (hX2.out.below hb3);have Ih:=bK (hIs.anti (M':=fun k=>k<w.heap.size) fun k _ e=>by omega);have YP:Hid (I.length=t.h_.length):=bK (by rw [hI.out];unfold g_.sU;simp);have hIm:Hid (∀r∈I,IU r):=bK (by rw [hI.out];exact g_.IB htn.out);have HMd:=bK (Im Ur.out hA3.out Mx.out Ih.out rz YP hIm CK Du);have hR2:Hid (m.IV iy=uV t I A X):=Nh.out I hI.out;have hz3:w.heap.size<=w3.heap.size:=hB3.size;clear d0 d1 d2 d3 hB2 wC hA2 hX2 hb3 hIs HId Nh;obtain ⟨d0,d1,d2,d3⟩:=hc3;go_wp2_with fail;refine (HMd.out).mono ?_;rintro e w6 ⟨aM,cM,K,e5,rfl,hK,hKs,hb6⟩;have jh:=hB3.trans (hb6.mono hz3);have hR:Hid (m.IV iy=(K,e5)):=bK (by rw [hR2.out,hK.out]);have Xt:=bK (hKs.anti (M':=fun k=>k<w.heap.size) fun k _ e=>by omega);go_wp2;exact dG (v:= .tuple #[.slice aM K.length cM,.int .i64 e5]) (by simp [results,results40,go_sem]) rfl ⟨aM,cM,K,e5,rfl,hR,Xt.out,jh⟩
 have he':(e1 !=0)=true:=by simp [he]
 have hR:Hid (m.IV iy=([],e1)):=by
  have h:=hP.out;unfold g_.nP at h;unfold Hid g_.IV;by_cases h1:m.err=0
  ·rw [bO (by simp [h1])] at h ⊢;by_cases h2:iy<0\/3<iy;·rw [bQ h2] at h ⊢;simp only [dX] at h;rw [h.2.2.2]
   rw [bO h2] at h ⊢;by_cases h3:(jM m.gZ (iy+1)).2=0;·rw [bO (by simp [h3])] at h;simp only [dX] at h;exact absurd h.2.2.2.symm he
   rw [bQ h3] at h ⊢;simp only [dX] at h;rw [h.2.2.2]
  rw [bQ h1] at h ⊢;simp only [dX] at h;rw [h.2.2.2]
 clear he;go_wp2;exact dG (v:= .tuple #[.slice none 0 0,.int .i64 e1]) (by simp [results,results40,go_sem]) rfl ⟨none,0,[],e1,rfl,hR,Sl.nil _ _ _ aS,hB2⟩
end
def YC (D:List (List Int)) (p x:List Int):List (List Int):=D.map fun v=>(p++x)++v
def Rz (X D:List (List Int)) (p:List Int):List (List Int):=X.flatMap (YC D p)
theorem Na {α β:Type} {f:α->List β} {N:Nat}:∀(l:List α),(∀x∈l,(f x).length=N)->(l.flatMap f).length=l.length*N
 |[],_=>by simp
 |x::l,h=>by
  rw [List.flatMap_cons,dB,fD,aq4,ari,Na l (fun y hy=>h y (.tail _ hy)),h x (.head _)]
  omega
theorem KQ {A X D:List (List Int)}:(g_.rA A X D).length=A.length*X.length*D.length:=by
 unfold g_.rA;rw [Na (N:=X.length*D.length) A (fun p _=>Na X fun x _=>dJ _),arj]
section
variable {M:Nat->Prop} {w:World} {an ao:Option Addr} {cn co:Nat} {m:g_}
theorem Rp (hm:Ma M w an cn ao co m) (xZ:Hid (m.h_.length<=30)) (iy:Int):Calls prog 39 #[kF m an cn ao co,.int .i64 iy] w fun e w'=>∃(a:Option Addr) (c:Nat) (L:List (List Int)) (e1:Int),e= .returned (.tuple #[.slice a L.length c,.int .i64 e1])/\Hid (m.zu iy=(L,e1))/\Sl (fun k=>k<w.heap.size) w' a c L/\Below w.heap.size w w':=by
 have hB0:=iB w (iP m an cn ao co);have hx0:=jE w m an cn ao co;have HM:=bK hm;have l1:=hm.h_.le;have l2:=hm.out.le;have HPt:=bK (xX (hm.below hB0) iy);clear hm;go_enter func39,ntmps39;go_upto_region 1 with (fail);generalize w.alloc (iP m an cn ao co)=w0 at*
 have hz0:w.heap.size<w0.heap.size:=lt_of_cell hx0.1;obtain ⟨d0,d1,d2,d3⟩:=hx0;go_wp2_with fail;refine (HPt.out).mono ?_;rintro e w1 ⟨mW,mZ,mY,m_,t,aA,cA,A,aX,cX,X,e1,rfl,hP,DN,hAs,yM,hb1⟩;have hB1:=hB0.trans (hb1.mono ah);have QU:=bK (DN.ext (M':=fun k=>k<w.heap.size) (Ext.jA fun k _ e=>by omega));have hA1:=bK (hAs.anti (M':=fun k=>k<w.heap.size) fun k _ e=>by omega);have hX1:=bK (yM.anti (M':=fun k=>k<w.heap.size) fun k _ e=>by omega);have hz1:w.heap.size<w1.heap.size:=ig hb1.size;clear d0 d1 d2 d3 hB0 hb1 DN hAs yM HPt;go_upto_region 2 with (fail);have hba:=iB w1 (iP t mW mZ mY m_);have hc2:C4 (w1.alloc (iP t mW mZ mY m_)) w1.heap.size mW mZ mY m_ t:=kI w1;have hB2:=hB1.trans (hba.mono ah);have wC:=bK (QU.out.below hba);have hA2:=bK (hA1.out.below hba);have hX2:=bK (hX1.out.below hba);have hz2:w1.heap.size<(w1.alloc (iP t mW mZ mY m_)).heap.size:=aH;clear hB1 QU hA1 hX1 hba;generalize w1.alloc (iP t mW mZ mY m_)=w2 at*
 by_cases he:e1=0
 ·have he':(e1 !=0)=false:=by simp [he]
  have kE:Hid (m.err=0/\¬(iy<0\/3<iy)/\(jM m.gZ (iy+1)).2=0/\t=m.minOf/\A=m.minOf.qm.map Pc.word/\X=(jM m.gZ (iy+1)).1):=by
   have h:=hP.out;rw [he] at h;unfold g_.nP at h;by_cases h1:m.err=0
   ·rw [bO (by simp [h1])] at h;by_cases h2:iy<0\/3<iy;·rw [bQ h2] at h;simp at h
    rw [bO h2] at h;by_cases h3:(jM m.gZ (iy+1)).2=0;·rw [bO (by simp [h3])] at h;simp only [dX,aqY] at h;exact ⟨h1,h2,h3,h.1.symm,h.2.1.symm,h.2.2.symm⟩
    rw [bQ h3] at h;simp only [dX] at h;exact absurd h.2.2.2 h3
   rw [bQ h1] at h;simp only [dX] at h;exact absurd h.2.2.2 h1
  clear he hP;have HE:=bK kE.out.1;have ok:Hid m.Ok:=g_.iG m HE.out;have ht:=bK kE.out.2.2.2.1;have hA:=bK kE.out.2.2.2.2.1;have hX:=bK kE.out.2.2.2.2.2;have hti:Hid (t.gZ=m.gZ):=bK (by rw [ht.out,g_.jU HE.out];rfl);have rz:Hid t.Ok:=by rw [ht.out,g_.jU HE.out];exact g_.pQ ok.out
  have htn:Hid (t.h_.length<1000):=by have:=rz.out.n1;unfold Hid;omega
  have CK:Hid (A.length<=1000/\∀p∈A,t.nQ p/\p.length<=1000):=by
   have hn1:=rz.out.n1;unfold Hid;rw [hA.out,<-ht.out];refine ⟨?_,fun p hp=> ?_⟩;·rw [dJ];have h1:=t.rE t.h_.length;have h2:=g_.og rz.out t.h_.length;unfold g_.qm;omega
   obtain ⟨q,hq,rfl⟩:=aqJ.1 hp;have h1:=g_.rF rz.out t.h_.length q hq;exact ⟨h1.2.2.1,ig h1.2.2.2.1⟩
  have Du:Hid (X.length<=10001/\∀x∈X,InW t.gZ 4 x):=by have h:=yN m.gZ (iy+1);have h2:=kE.out.2.1;unfold Hid;rw [hX.out,hti.out];exact ⟨h.2,fun x hx=>⟨(h.1 x hx).1,ig ((h.1 x hx).2)⟩⟩
  have hme:Hid (t.iU=0):=bK (by rw [ht.out,g_.jU HE.out];exact (g_.uW ok.out).1);have Ro:Hid (t.h_.length<=30):=by have g:=(g_.uW ok.out).2.2.2;have g2:=xZ.out;unfold Hid;rw [ht.out,g_.jU HE.out];omega
  have Nh:Hid (m.zu iy=if 10000<A.length*X.length*(g_.wK t.QX).length then ([],11) else (pO (g_.rA A X (g_.wK t.QX)),0)):=by unfold Hid;unfold g_.zu;rw [bO (by simp [HE.out]),bO kE.out.2.1,bO (by simp [kE.out.2.2.1]),<-ht.out,hA.out,<-ht.out,hX.out]
  have HCh:=bK (Jz wC.out hme Ro);have lt1:=wC.out.h_.le;have lt2:=wC.out.out.le;have hA1:=CK.out.1;have hX1:=Du.out.1;obtain ⟨d0,d1,d2,d3⟩:=hc2;clear kE ht hA hX;go_wp2_with fail;refine (HCh.out).mono ?_;rintro e w3 ⟨aC,cC,C,rfl,hC,hCs,hb3⟩;have hB3:=hB2.trans (hb3.mono ah);have hA3:=bK (hA2.out.below hb3);have Mx:=bK (hX2.out.below hb3);have hC3:=bK (hCs.anti (M':=fun k=>k<w.heap.size) fun k _ e=>by omega);have hz3:w.heap.size<=w3.heap.size:=hB3.size;have hCl:Hid (C.length<=1000/\∀v∈C,v.length<=1000000):=by
   unfold Hid;rw [hC.out];refine ⟨?_,fun v hv=> ?_⟩;·have h1:=g_.VU (m:=t);have h2:t.h_.length*t.h_.length<=30*30:=eX Ro.out Ro.out;omega
   obtain ⟨x,y,rfl⟩:=g_.VT hv;exact g_.uU htn.out x y
  have hC1:=hCl.out.1;have Um:A.length*X.length<=1000*10001:=eX hA1 hX1;obtain ⟨P1,hP1⟩:∃P1,P1=A.length*X.length:=⟨_,rfl⟩;rw [<-hP1] at Um;have hw1:IntKind.i64.wrap ((A.length:Int)*(X.length:Int))=(P1:Int):=by rw [<-aqu,<-hP1];exact eP _ ah
  rw [<-hP1] at Nh;have HP1:=bK hP1;clear hP1;clear d0 d1 d2 d3 hB2 wC hA2 hX2 hb3 hCs HCh;by_cases hC0:C.length=0
  ·have hcb:(((C.length:Nat):Int)==0)=true:=by rw [hC0];rfl
   obtain ⟨D,hD⟩:∃D:List (List Int),D=[[]]:=⟨_,rfl⟩;have hnn:Hid (g_.wK t.QX=D):=by unfold Hid g_.wK;rw [<-hC.out,bQ (List.length_eq_zero_iff.1 hC0),hD]
   have hDm:Hid (∀v∈D,v.length<=1000000):=bK (by rw [hD];simp);have hsz:(w3.alloc (.cells #[] 3)).heap.size=w3.heap.size+1:=aH;have hbW:Below w3.heap.size w3 ((w3.alloc (.cells #[] 3)).alloc (.cells #[.slice (some ⟨w3.heap.size,0,none⟩) 0 0] 49)):=((bP _ _).alloc (bM _) _).alloc (by rw [hsz];omega) _;have hD3:Hid (Sl (fun k=>k<w.heap.size) ((w3.alloc (.cells #[] 3)).alloc (.cells #[.slice (some ⟨w3.heap.size,0,none⟩) 0 0] 49)) (some ⟨w3.heap.size+1,0,none⟩) 1 D):=by
    have h:=dS (w3.alloc (.cells #[] 3)) (.cells #[.slice (some ⟨w3.heap.size,0,none⟩) 0 0] 49);rw [hsz] at h;unfold Hid;rw [hD];refine Sl.Wu h ah rfl aS fun j x hj=> ?_;match j,hj with
    |0,hj=>simp at hj;subst hj;exact ⟨some ⟨w3.heap.size,0,none⟩,0,rfl,⟨aH,by unfold maxLen;simp,fun j y hy=>by simp at hy⟩⟩
    |j+1,hj=>simp at hj
   have hDl:D.length=1:=by rw [hD];rfl
   clear hD hcb;have hA4:=bK (hA3.out.below hbW);have hX4:=bK (Mx.out.below hbW);have hB4:=hB3.trans (hbW.mono hz3);have hw2:IntKind.i64.wrap (P1:Int)=((P1*D.length:Nat):Int):=by rw [hDl,gy];exact eP _ ah
   have hcb:(((C.length:Nat):Int)==0)=true:=by rw [hC0];rfl
   rw [hnn.out] at Nh;have hR2:=bK Nh.out;have HDl:=bK hDl;clear Nh hbW;have hQ:P1*D.length<=1000*10001*1000:=eX Um ah;obtain ⟨P2,hP2⟩:∃P2,P2=P1*D.length:=⟨_,rfl⟩;rw [<-hP2] at hw2 hQ hR2;have HP2:=bK hP2;have UA:Hid (P2<=10000->(g_.rA A X D).length<=10000):=fun h=>by rw [KQ,<-HP1.out];rw [<-HP2.out];exact h
   clear hP2;by_cases mP:10000<P2
   ·have hR:Hid (m.zu iy=([],11)):=by unfold Hid;rw [hR2.out,bQ mP]
    have hbd:decide ((10000:Int)<(P2:Int))=true:=dw ah;go_wp2;exact dG (v:= .tuple #[.slice none 0 0,.int .i64 11]) (by simp [results,results39,go_sem]) rfl ⟨none,0,[],11,rfl,hR,Sl.nil _ _ _ aS,hB4⟩
   have hR3:Hid (m.zu iy=(pO (g_.rA A X D),0)):=bK (by rw [hR2.out,bO mP]);have UA:=bK (UA.out ah);have hbd:decide ((10000:Int)<(P2:Int))=false:=cZ ah;go_wp2_with fail;generalize (w3.alloc (.cells #[] 3)).alloc (.cells #[.slice (some ⟨w3.heap.size,0,none⟩) 0 0] 49)=w4 at*
   have HS:Hid (∀w',Below w4.heap.size w4 w'->Sl (fun k=>k<w.heap.size) w' aA cA A/\Sl (fun k=>k<w.heap.size) w' aX cX X/\Sl (fun k=>k<w.heap.size) w' (some ⟨w3.heap.size+1,0,none⟩) 1 D/\Below w.heap.size w w'):=fun w' h=>
    ⟨hA4.out.below h,hX4.out.below h,hD3.out.below h,hB4.trans (h.mono (by exact hB4.size))⟩
   have kJ:Ox (α:=List Int) w4.heap.size w4.heap.size w4 49 (.slice none 0 0) []:=Ox.nil;have sO:=bP w4.heap.size w4;have apV:=HDl.out
   go_loopw [12,13] (fun v i wr=>∃(k1:Nat) (a':Option Addr) (c':Nat) (K:List (List Int)),k1<=A.length/\i= .int .i64 k1/\v= .slice a' K.length c'/\Hid (K=(A.take k1).flatMap (Rz X D))/\Hid (K.length<=k1*20000000)/\
    Ox w4.heap.size w4.heap.size wr 49 (.slice a' K.length c') K/\Below w4.heap.size w4 wr) (fun _ i _=>A.length-(intOf i).toNat)
   case atStart=>exact ⟨0,none,0,[],ah,rfl,rfl,by simp [Hid],by simp [Hid],kJ,sO⟩
   case round=>
    clear kJ sO;obtain ⟨k1,a1,c1,K1,hk1,rfl,rfl,hK1,Ju,hO,hB⟩:=hrel;obtain ⟨wo,rfl⟩:=iA wr;by_cases hlt:k1<A.length
    ·obtain ⟨bA,oA,ap,p,cp,rfl,hpc,hp,hps⟩:=(HS.out _ (bP _ _)).1.iD hlt;have Jw:Hid (∀w',Below w4.heap.size w4 w'->w'.cell? ⟨bA,oA+k1,none⟩=some (.slice ap p.length cp)/\Sl (fun _=>False) w' ap cp p):=fun w' h=>⟨(h.cell (p:=⟨bA,oA+k1,none⟩) (lt_of_cell hpc)).trans hpc,(hps.anti (M':=fun _=>False) fun _ _ h=>h.elim).below h⟩;have hpl:=(CK.out.2 p (bV hp.out)).2;have hK2:Hid (K1=(A.take k1).flatMap (Rz X D)++(X.take 0).flatMap (YC D p)):=bK (by rw [hK1.out];simp);have nY:Hid (K1.length<=k1*20000000+0*1000):=dH Ju.out (ap0 _ _);clear hpc hps;go_wp2
     go_loopw [12,14] (fun v i wr=>∃(k2:Nat) (a':Option Addr) (c':Nat) (K:List (List Int)),k2<=X.length/\i= .int .i64 k2/\v= .slice a' K.length c'/\Hid (K=(A.take k1).flatMap (Rz X D)++(X.take k2).flatMap (YC D p))/\Hid (K.length<=k1*20000000+k2*1000)/\
      Ox w4.heap.size w4.heap.size wr 49 (.slice a' K.length c') K/\Below w4.heap.size w4 wr) (fun _ i _=>X.length-(intOf i).toNat)
     case atStart=>exact ⟨0,a1,c1,K1,ah,rfl,rfl,hK2,nY,hO,hB⟩
     case round=>
      clear hK2 nY hO hB;obtain ⟨k2,a2,c2,K2,hk2,rfl,rfl,hK2,nY,hO,hB⟩:=hrel;obtain ⟨wi,rfl⟩:=iA wr;by_cases ni:k2<X.length
      ·obtain ⟨bX,oX,ax,x,cx,rfl,hxc,hx,hxs⟩:=(HS.out _ (bP _ _)).2.1.iD ni;have BL:Hid (∀w',Below w4.heap.size w4 w'->w'.cell? ⟨bX,oX+k2,none⟩=some (.slice ax x.length cx)/\Sl (fun _=>False) w' ax cx x):=fun w' h=>⟨(h.cell (p:=⟨bX,oX+k2,none⟩) (lt_of_cell hxc)).trans hxc,(hxs.anti (M':=fun _=>False) fun _ _ h=>h.elim).below h⟩;have hxl:=(Du.out.2 x (bV hx.out)).2;have hK3:Hid (K2=(A.take k1).flatMap (Rz X D)++(X.take k2).flatMap (YC D p)++((D.take 0).map fun v=>(p++x)++v)):=bK (by rw [hK2.out];simp);have lW:Hid (K2.length<=k1*20000000+k2*1000+0):=dH nY.out (ap0 _ _);clear hxc hxs;go_wp2
       go_loopw [12,15] (fun v i wr=>∃(k3:Nat) (a':Option Addr) (c':Nat) (K:List (List Int)),k3<=D.length/\i= .int .i64 k3/\v= .slice a' K.length c'/\Hid (K=(A.take k1).flatMap (Rz X D)++(X.take k2).flatMap (YC D p)++((D.take k3).map fun v=>(p++x)++v))/\Hid (K.length<=k1*20000000+k2*1000+k3)/\
        Ox w4.heap.size w4.heap.size wr 49 (.slice a' K.length c') K/\Below w4.heap.size w4 wr) (fun _ i _=>D.length-(intOf i).toNat)
       case atStart=>exact ⟨0,a2,c2,K2,ah,rfl,rfl,hK3,lW,hO,hB⟩
       case round=>
        clear hK3 lW hO hB;obtain ⟨k3,a3,c3,K3,hk3,rfl,rfl,hK3,lW,hO,hB⟩:=hrel;obtain ⟨wd,rfl⟩:=iA wr;by_cases wP:k3<D.length
        ·obtain ⟨bT,oT,av,v,cv,hbT,EA,hv,hvs⟩:=(HS.out _ (bP _ _)).2.2.1.iD wP;have YS:Hid (∀w',Below w4.heap.size w4 w'->w'.cell? ⟨bT,oT+k3,none⟩=some (.slice av v.length cv)/\Sl (fun _=>False) w' av cv v):=fun w' h=>⟨(h.cell (p:=⟨bT,oT+k3,none⟩) (lt_of_cell EA)).trans EA,(hvs.anti (M':=fun _=>False) fun _ _ h=>h.elim).below h⟩;have hvl:=hDm.out v (bV hv.out);have pz:K3.length<1000000000000:=by refine eO lW.out ?_;have e1:k1*20000000<=1000*20000000:=eD _ ah;have e2:k2*1000<=10001*1000:=eD _ ah;omega
         simp only [dW,aqM,aqY] at hbT;obtain ⟨rfl,rfl⟩:=hbT;simp only [aqI] at YS;clear EA hvs;go_upto_region 19 with (fail);refine iO (fun w'=>(w'.cell? ⟨bA,oA+k1,none⟩=some (.slice ap p.length cp)/\w'.cell? ⟨bX,oX+k2,none⟩=some (.slice ax x.length cx))/\w'.cell? ⟨(w3.heap.size+1),k3,none⟩=some (.slice av v.length cv)) [0,1,2,3,4,5,6,7,8,9,10,11,12,16] aB ?_;have hbd:=(bP wd.heap.size wd).drew;have kH:=Ox.later hO hbd;have hB1:=hB.trans (hbd.mono hB.size);have hS1:=And.intro (And.intro (Jw.out _ hB1).1 (BL.out _ hB1).1) (YS.out _ hB1).1;clear hO hB hbd;generalize wd.drew=w5 at*
         have HJ:=bK (wu (Jw.out _ hB1).2 (BL.out _ hB1).2 (YS.out _ hB1).2 (bK ⟨ah,ah,ah⟩));refine iT [0,1,2,3,4,5,6,7,8,9,10,11,12] ?_;refine iJ 13 fun K hK=> ?_;go_simp;refine (HJ.out).mono ?_;rintro e w6 ⟨a4,c4,x4,rfl,hx4,hs4,hb6⟩;have hz1:=hB1.size;have hO2:=Ox.later kH hb6;have jo:=hB1.trans (hb6.mono hz1);have hS2:=And.intro (And.intro (Jw.out _ jo).1 (BL.out _ jo).1) (YS.out _ jo).1
         have ku:=bK (hs4.anti (M':=fun k=>(Value.slice a3 K3.length c3).ownBlock=some k\/k<w4.heap.size) fun k _ hm=>by
          rcases hm with hm|hm
          ·exact (kH.lt k hm).2
          omega)
         have hz2:=jo.size;refine hK _ _ (fun _=>hS2) ?_;clear hK K HJ kH hB1 hS1 hb6 hs4 hz1;refine iJ 14 fun K hK=> ?_;go_simp;have hba:=iB w6 (.cells #[.slice a4 x4.length c4] 49);have hO3:=Ox.later hO2 hba;have jY:=jo.trans (hba.mono hz2);have kC:=And.intro (And.intro (Jw.out _ jY).1 (BL.out _ jY).1) (YS.out _ jY).1;have QO:=bK (ku.out.below hba);have xK:=jY.size;refine hK _ _ (fun _=>kC) ?_;clear hK K hO2 jo hS2 hba ku;refine iJ 15 fun K hK=> ?_;refine yB (n0:=w4.heap.size) (B:=w4.heap.size) (r:=x4) (v:= .slice a3 K3.length c3) (rows:=K3) (g:=w6.heap.size) (c:=1) (ar:=a4) (cr:=c4) rfl underlying22 iI rfl rfl hO3 aH QO.out pz xK ?_;intro a5 c5 K5 w5' xE kV hbk hgr;have jw:=jY.grown hgr xK (fun k hk=>(hO3.lt k hk).1);have hS5:=And.intro (And.intro (Jw.out _ jw).1 (BL.out _ jw).1) (YS.out _ jw).1;refine hK _ _ (fun _=>hS5) ?_;clear hK K hO3 jY kC QO hgr hbk;refine iT [16] ?_;refine iN aB ?_ _;clear hS5;have hKn:Hid (K5=(A.take k1).flatMap (Rz X D)++(X.take k2).flatMap (YC D p)++((D.take (k3+1)).map fun v=>(p++x)++v)):=by unfold Hid;rw [xE.out,hK3.out,xJ hv.out,hx4.out,eH (List.flatMap _ _++List.flatMap _ _)]
         have oK:Hid (K5.length<=k1*20000000+k2*1000+(k3+1)):=bK (by rw [xE.out,dB,eT,<-ap9 (k1*20000000+k2*1000) k3 1];exact aq0 lW.out 1);clear xE;go_wp2;go_roundw;case rel=>exact ⟨k3+1,a5,c5,K5,ah,by go_num,rfl,hKn,oK,kV,jw⟩
         case measure=>exact bF
        have hKn:Hid (K3=(A.take k1).flatMap (Rz X D)++(X.take (k2+1)).flatMap (YC D p)):=by unfold Hid;rw [hK3.out,qB hx.out,bY (l:=D) (i:=k3) ah,eH];rfl
        have h10:k3<=1000:=ah;have oK:Hid (K3.length<=k1*20000000+(k2+1)*1000):=by refine dH lW.out ?_;rw [aqf,<-ap9];exact aq5 h10 _
        go_wp2;go_roundw;case rel=>exact ⟨k2+1,a3,c3,K3,ah,by go_num,rfl,hKn,oK,hO,hB⟩
        case measure=>exact bF
      have hKn:Hid (K2=(A.take (k1+1)).flatMap (Rz X D)):=by unfold Hid;rw [hK2.out,qB hp.out,bY (l:=X) (i:=k2) ah];rfl
      have oK:Hid (K2.length<=(k1+1)*20000000):=bK (ig nY.out);go_wp2;go_roundw;case rel=>exact ⟨k1+1,a2,c2,K2,ah,by go_num,rfl,hKn,oK,hO,hB⟩
      case measure=>exact bF
    have hKf:Hid (K1=g_.rA A X D):=bK (by rw [hK1.out,bY ah];rfl);have hsm:Hid (mK K1):=by
     refine ⟨?_,fun r hr=> ?_⟩;·have e1:k1*20000000<=1000*20000000:=eD _ ah;have h:=UA.out;rw [<-hKf.out] at h;omega
     rw [hKf.out] at hr;unfold g_.rA at hr;obtain ⟨p,hp,hr⟩:=List.mem_flatMap.1 hr;obtain ⟨x,hx,hr⟩:=List.mem_flatMap.1 hr;obtain ⟨v,hv,rfl⟩:=aqJ.1 hr;have g1:=(CK.out.2 p hp).2;have g2:=(Du.out.2 x hx).2;have g3:=hDm.out v hv;simp only [dB];omega
    have hKs:=(hO.jD (bM _));have Ry:=bK (Gs hKs hsm);have jh:=(HS.out _ hB).2.2.2;clear hO hB hKs;go_wp2_with fail;refine (Ry.out).mono ?_;rintro e wf ⟨aM,cM,LM,rfl,hLM,MR,hbf⟩;have MS:=jh.trans (hbf.mono jh.size);have hR:Hid (m.zu iy=(LM,0)):=bK (by rw [hR3.out,hLM.out,hKf.out]);have MU:=MR.anti (M':=fun k=>k<w.heap.size) (fun k _ e=>by have:=jh.size;omega);go_wp2;exact dG (v:= .tuple #[.slice aM LM.length cM,.int .i64 0]) (by simp [results,results39,go_sem]) rfl ⟨aM,cM,LM,0,rfl,hR,MU,MS⟩
  have hcb:(((C.length:Nat):Int)==0)=false:=by simp;exact fun h=>hC0 (by simp [h])
  have hnn:Hid (g_.wK t.QX=C):=by unfold Hid g_.wK;rw [<-hC.out,bO (fun h=>hC0 (by rw [h];rfl))]
  rw [hnn.out] at Nh;have hR2:=bK Nh.out;clear Nh;have hw2:IntKind.i64.wrap ((P1:Int)*((C.length:Nat):Int))=((P1*C.length:Nat):Int):=by have hQ0:P1*C.length<=1000*10001*1000:=eX Um hC1;rw [<-aqu];exact eP _ ah
  have hQ:P1*C.length<=1000*10001*1000:=eX Um ah;obtain ⟨P2,hP2⟩:∃P2,P2=P1*C.length:=⟨_,rfl⟩;rw [<-hP2] at hw2 hQ hR2;have HP2:=bK hP2;have UA:Hid (P2<=10000->(g_.rA A X C).length<=10000):=fun h=>by rw [KQ,<-HP1.out];rw [<-HP2.out];exact h
  clear hP2;by_cases mP:10000<P2
  ·have hR:Hid (m.zu iy=([],11)):=by unfold Hid;rw [hR2.out,bQ mP]
   have hbd:decide ((10000:Int)<(P2:Int))=true:=dw ah;go_wp2;exact dG (v:= .tuple #[.slice none 0 0,.int .i64 11]) (by simp [results,results39,go_sem]) rfl ⟨none,0,[],11,rfl,hR,Sl.nil _ _ _ aS,hB3⟩
  have hR3:Hid (m.zu iy=(pO (g_.rA A X C),0)):=bK (by rw [hR2.out,bO mP]);have UA:=bK (UA.out ah);have hbd:decide ((10000:Int)<(P2:Int))=false:=cZ ah;have hDm:Hid (∀v∈C,v.length<=1000000):=hCl.out.2;obtain ⟨w4,rfl⟩:∃w4:World,w4=w3:=⟨_,rfl⟩
  have HS:Hid (∀w',Below w4.heap.size w4 w'->Sl (fun k=>k<w.heap.size) w' aA cA A/\Sl (fun k=>k<w.heap.size) w' aX cX X/\Sl (fun k=>k<w.heap.size) w' aC cC C/\Below w.heap.size w w'):=fun w' h=>
   ⟨hA3.out.below h,Mx.out.below h,hC3.out.below h,hB3.trans (h.mono ah)⟩
  have kJ:Ox (α:=List Int) w4.heap.size w4.heap.size w4 49 (.slice none 0 0) []:=Ox.nil;have sO:=bP w4.heap.size w4;go_wp2_with fail
  go_loopw [12,13] (fun v i wr=>∃(k1:Nat) (a':Option Addr) (c':Nat) (K:List (List Int)),k1<=A.length/\i= .int .i64 k1/\v= .slice a' K.length c'/\Hid (K=(A.take k1).flatMap (Rz X C))/\Hid (K.length<=k1*20000000)/\
   Ox w4.heap.size w4.heap.size wr 49 (.slice a' K.length c') K/\Below w4.heap.size w4 wr) (fun _ i _=>A.length-(intOf i).toNat)
  case atStart=>exact ⟨0,none,0,[],ah,rfl,rfl,by simp [Hid],by simp [Hid],kJ,sO⟩
  case round=>
   clear kJ sO;obtain ⟨k1,a1,c1,K1,hk1,rfl,rfl,hK1,Ju,hO,hB⟩:=hrel;obtain ⟨wo,rfl⟩:=iA wr;by_cases hlt:k1<A.length
   ·obtain ⟨bA,oA,ap,p,cp,rfl,hpc,hp,hps⟩:=(HS.out _ (bP _ _)).1.iD hlt;have Jw:Hid (∀w',Below w4.heap.size w4 w'->w'.cell? ⟨bA,oA+k1,none⟩=some (.slice ap p.length cp)/\Sl (fun _=>False) w' ap cp p):=fun w' h=>⟨(h.cell (p:=⟨bA,oA+k1,none⟩) (lt_of_cell hpc)).trans hpc,(hps.anti (M':=fun _=>False) fun _ _ h=>h.elim).below h⟩;have hpl:=(CK.out.2 p (bV hp.out)).2;have hK2:Hid (K1=(A.take k1).flatMap (Rz X C)++(X.take 0).flatMap (YC C p)):=bK (by rw [hK1.out];simp);have nY:Hid (K1.length<=k1*20000000+0*1000):=dH Ju.out (ap0 _ _);clear hpc hps;go_wp2
    go_loopw [12,14] (fun v i wr=>∃(k2:Nat) (a':Option Addr) (c':Nat) (K:List (List Int)),k2<=X.length/\i= .int .i64 k2/\v= .slice a' K.length c'/\Hid (K=(A.take k1).flatMap (Rz X C)++(X.take k2).flatMap (YC C p))/\Hid (K.length<=k1*20000000+k2*1000)/\
     Ox w4.heap.size w4.heap.size wr 49 (.slice a' K.length c') K/\Below w4.heap.size w4 wr) (fun _ i _=>X.length-(intOf i).toNat)
    case atStart=>exact ⟨0,a1,c1,K1,ah,rfl,rfl,hK2,nY,hO,hB⟩
    case round=>
     clear hK2 nY hO hB;obtain ⟨k2,a2,c2,K2,hk2,rfl,rfl,hK2,nY,hO,hB⟩:=hrel;obtain ⟨wi,rfl⟩:=iA wr;by_cases ni:k2<X.length
     ·obtain ⟨bX,oX,ax,x,cx,rfl,hxc,hx,hxs⟩:=(HS.out _ (bP _ _)).2.1.iD ni;have BL:Hid (∀w',Below w4.heap.size w4 w'->w'.cell? ⟨bX,oX+k2,none⟩=some (.slice ax x.length cx)/\Sl (fun _=>False) w' ax cx x):=fun w' h=>⟨(h.cell (p:=⟨bX,oX+k2,none⟩) (lt_of_cell hxc)).trans hxc,(hxs.anti (M':=fun _=>False) fun _ _ h=>h.elim).below h⟩;have hxl:=(Du.out.2 x (bV hx.out)).2;have hK3:Hid (K2=(A.take k1).flatMap (Rz X C)++(X.take k2).flatMap (YC C p)++((C.take 0).map fun v=>(p++x)++v)):=bK (by rw [hK2.out];simp);have lW:Hid (K2.length<=k1*20000000+k2*1000+0):=dH nY.out (ap0 _ _);clear hxc hxs;go_wp2
      go_loopw [12,15] (fun v i wr=>∃(k3:Nat) (a':Option Addr) (c':Nat) (K:List (List Int)),k3<=C.length/\i= .int .i64 k3/\v= .slice a' K.length c'/\Hid (K=(A.take k1).flatMap (Rz X C)++(X.take k2).flatMap (YC C p)++((C.take k3).map fun v=>(p++x)++v))/\Hid (K.length<=k1*20000000+k2*1000+k3)/\
       Ox w4.heap.size w4.heap.size wr 49 (.slice a' K.length c') K/\Below w4.heap.size w4 wr) (fun _ i _=>C.length-(intOf i).toNat)
      case atStart=>exact ⟨0,a2,c2,K2,ah,rfl,rfl,hK3,lW,hO,hB⟩
      case round=>
       clear hK3 lW hO hB;obtain ⟨k3,a3,c3,K3,hk3,rfl,rfl,hK3,lW,hO,hB⟩:=hrel;obtain ⟨wd,rfl⟩:=iA wr;by_cases wP:k3<C.length
       ·obtain ⟨bT,oT,av,v,cv,hbT,EA,hv,hvs⟩:=(HS.out _ (bP _ _)).2.2.1.iD wP;have YS:Hid (∀w',Below w4.heap.size w4 w'->w'.cell? ⟨bT,oT+k3,none⟩=some (.slice av v.length cv)/\Sl (fun _=>False) w' av cv v):=fun w' h=>⟨(h.cell (p:=⟨bT,oT+k3,none⟩) (lt_of_cell EA)).trans EA,(hvs.anti (M':=fun _=>False) fun _ _ h=>h.elim).below h⟩;have hvl:=hDm.out v (bV hv.out);have pz:K3.length<1000000000000:=by refine eO lW.out ?_;have e1:k1*20000000<=1000*20000000:=eD _ ah;have e2:k2*1000<=10001*1000:=eD _ ah;omega
        subst hbT;clear EA hvs;go_upto_region 19 with (fail);refine iO (fun w'=>(w'.cell? ⟨bA,oA+k1,none⟩=some (.slice ap p.length cp)/\w'.cell? ⟨bX,oX+k2,none⟩=some (.slice ax x.length cx))/\w'.cell? ⟨bT,oT+k3,none⟩=some (.slice av v.length cv)) [0,1,2,3,4,5,6,7,8,9,10,11,12,16] aB ?_;have hbd:=(bP wd.heap.size wd).drew;have kH:=Ox.later hO hbd;have hB1:=hB.trans (hbd.mono hB.size);have hS1:=And.intro (And.intro (Jw.out _ hB1).1 (BL.out _ hB1).1) (YS.out _ hB1).1;clear hO hB hbd;generalize wd.drew=w5 at*
        have HJ:=bK (wu (Jw.out _ hB1).2 (BL.out _ hB1).2 (YS.out _ hB1).2 (bK ⟨ah,ah,ah⟩));refine iT [0,1,2,3,4,5,6,7,8,9,10,11,12] ?_;refine iJ 13 fun K hK=> ?_;go_simp;refine (HJ.out).mono ?_;rintro e w6 ⟨a4,c4,x4,rfl,hx4,hs4,hb6⟩;have hz1:=hB1.size;have hO2:=Ox.later kH hb6;have jo:=hB1.trans (hb6.mono hz1);have hS2:=And.intro (And.intro (Jw.out _ jo).1 (BL.out _ jo).1) (YS.out _ jo).1
        have ku:=bK (hs4.anti (M':=fun k=>(Value.slice a3 K3.length c3).ownBlock=some k\/k<w4.heap.size) fun k _ hm=>by
         rcases hm with hm|hm
         ·exact (kH.lt k hm).2
         omega)
        have hz2:=jo.size;refine hK _ _ (fun _=>hS2) ?_;clear hK K HJ kH hB1 hS1 hb6 hs4 hz1;refine iJ 14 fun K hK=> ?_;go_simp;have hba:=iB w6 (.cells #[.slice a4 x4.length c4] 49);have hO3:=Ox.later hO2 hba;have jY:=jo.trans (hba.mono hz2);have kC:=And.intro (And.intro (Jw.out _ jY).1 (BL.out _ jY).1) (YS.out _ jY).1;have QO:=bK (ku.out.below hba);have xK:=jY.size;refine hK _ _ (fun _=>kC) ?_;clear hK K hO2 jo hS2 hba ku;refine iJ 15 fun K hK=> ?_;refine yB (n0:=w4.heap.size) (B:=w4.heap.size) (r:=x4) (v:= .slice a3 K3.length c3) (rows:=K3) (g:=w6.heap.size) (c:=1) (ar:=a4) (cr:=c4) rfl underlying22 iI rfl rfl hO3 aH QO.out pz xK ?_;intro a5 c5 K5 w5' xE kV hbk hgr;have jw:=jY.grown hgr xK (fun k hk=>(hO3.lt k hk).1);have hS5:=And.intro (And.intro (Jw.out _ jw).1 (BL.out _ jw).1) (YS.out _ jw).1;refine hK _ _ (fun _=>hS5) ?_;clear hK K hO3 jY kC QO hgr hbk;refine iT [16] ?_;refine iN aB ?_ _;clear hS5;have hKn:Hid (K5=(A.take k1).flatMap (Rz X C)++(X.take k2).flatMap (YC C p)++((C.take (k3+1)).map fun v=>(p++x)++v)):=by unfold Hid;rw [xE.out,hK3.out,xJ hv.out,hx4.out,eH (List.flatMap _ _++List.flatMap _ _)]
        have oK:Hid (K5.length<=k1*20000000+k2*1000+(k3+1)):=bK (by rw [xE.out,dB,eT,<-ap9 (k1*20000000+k2*1000) k3 1];exact aq0 lW.out 1);clear xE;go_wp2;go_roundw;case rel=>exact ⟨k3+1,a5,c5,K5,ah,by go_num,rfl,hKn,oK,kV,jw⟩
        case measure=>exact bF
       have hKn:Hid (K3=(A.take k1).flatMap (Rz X C)++(X.take (k2+1)).flatMap (YC C p)):=by unfold Hid;rw [hK3.out,qB hx.out,bY (l:=C) (i:=k3) ah,eH];rfl
       have h10:k3<=1000:=ah;have oK:Hid (K3.length<=k1*20000000+(k2+1)*1000):=by refine dH lW.out ?_;rw [aqf,<-ap9];exact aq5 h10 _
       go_wp2;go_roundw;case rel=>exact ⟨k2+1,a3,c3,K3,ah,by go_num,rfl,hKn,oK,hO,hB⟩
       case measure=>exact bF
     have hKn:Hid (K2=(A.take (k1+1)).flatMap (Rz X C)):=by unfold Hid;rw [hK2.out,qB hp.out,bY (l:=X) (i:=k2) ah];rfl
     have oK:Hid (K2.length<=(k1+1)*20000000):=bK (ig nY.out);go_wp2;go_roundw;case rel=>exact ⟨k1+1,a2,c2,K2,ah,by go_num,rfl,hKn,oK,hO,hB⟩
     case measure=>exact bF
   have hKf:Hid (K1=g_.rA A X C):=bK (by rw [hK1.out,bY ah];rfl);have hsm:Hid (mK K1):=by
    refine ⟨?_,fun r hr=> ?_⟩;·have e1:k1*20000000<=1000*20000000:=eD _ ah;have h:=UA.out;rw [<-hKf.out] at h;omega
    rw [hKf.out] at hr;unfold g_.rA at hr;obtain ⟨p,hp,hr⟩:=List.mem_flatMap.1 hr;obtain ⟨x,hx,hr⟩:=List.mem_flatMap.1 hr;obtain ⟨v,hv,rfl⟩:=aqJ.1 hr;have g1:=(CK.out.2 p hp).2;have g2:=(Du.out.2 x hx).2;have g3:=hDm.out v hv;simp only [dB];omega
   have hKs:=(hO.jD (bM _));have Ry:=bK (Gs hKs hsm);have jh:=(HS.out _ hB).2.2.2;clear hO hB hKs;go_wp2_with fail;refine (Ry.out).mono ?_;rintro e wf ⟨aM,cM,LM,rfl,hLM,MR,hbf⟩;have MS:=jh.trans (hbf.mono jh.size);have hR:Hid (m.zu iy=(LM,0)):=bK (by rw [hR3.out,hLM.out,hKf.out]);have MU:=MR.anti (M':=fun k=>k<w.heap.size) (fun k _ e=>by have:=jh.size;omega);go_wp2;exact dG (v:= .tuple #[.slice aM LM.length cM,.int .i64 0]) (by simp [results,results39,go_sem]) rfl ⟨aM,cM,LM,0,rfl,hR,MU,MS⟩
 have he':(e1 !=0)=true:=by simp [he]
 have hR:Hid (m.zu iy=([],e1)):=by
  have h:=hP.out;unfold g_.nP at h;unfold Hid g_.zu;by_cases h1:m.err=0
  ·rw [bO (by simp [h1])] at h ⊢;by_cases h2:iy<0\/3<iy;·rw [bQ h2] at h ⊢;simp only [dX] at h;rw [h.2.2.2]
   rw [bO h2] at h ⊢;by_cases h3:(jM m.gZ (iy+1)).2=0;·rw [bO (by simp [h3])] at h;simp only [dX] at h;exact absurd h.2.2.2.symm he
   rw [bQ h3] at h ⊢;simp only [dX] at h;rw [h.2.2.2]
  rw [bQ h1] at h ⊢;simp only [dX] at h;rw [h.2.2.2]
 clear he;go_wp2;exact dG (v:= .tuple #[.slice none 0 0,.int .i64 e1]) (by simp [results,results39,go_sem]) rfl ⟨none,0,[],e1,rfl,hR,Sl.nil _ _ _ aS,hB2⟩
end
def Aa (m:g_) (s:lK):Bool:=decide (m.h_.length<=7/\m.gZ<=4/\s.iy<=2/\s.count<=100/\s.len<=100)
section
variable {M:Nat->Prop} {w:World} {an ao ac a:Option Addr} {cn co cc c:Nat} {m:g_} {h:Hy} {o:Ob}
theorem acA (hm:Ma M w an cn ao co m) (s:lK):Calls prog 9 #[kF m an cn ao co,stV s] w fun e w'=>e= .returned (.bool (Aa m s))/\Below w.heap.size w w':=by
 have hB0:=(iB w (iP m an cn ao co)).alloc aH (EG s);have l1:=hm.h_.le;have l2:=hm.out.le;clear hm;by_cases h1:¬m.h_.length<=7
 ·have h1b:decide ((m.h_.length:Int)<=7)=false:=aJ;have HV:Hid (Aa m s=false):=by unfold Hid Aa;rw [cZ ah]
  go_enter func9,ntmps9;go_wp2;go_ret;exact ⟨by rw [HV.out];rfl,hB0⟩
 have h1b:decide ((m.h_.length:Int)<=7)=true:=aJ;by_cases h2:¬m.gZ<=4
 ·have Ei:decide ((m.gZ:Int)<=4)=false:=aJ;have HV:Hid (Aa m s=false):=by unfold Hid Aa;rw [cZ ah]
  go_enter func9,ntmps9;go_wp2;go_ret;exact ⟨by rw [HV.out];rfl,hB0⟩
 have Ei:decide ((m.gZ:Int)<=4)=true:=aJ;by_cases h3:¬s.iy<=2
 ·have Gm:decide ((s.iy:Int)<=2)=false:=aJ;have HV:Hid (Aa m s=false):=by unfold Hid Aa;rw [cZ ah]
  go_enter func9,ntmps9;go_wp2;go_ret;exact ⟨by rw [HV.out];rfl,hB0⟩
 have Gm:decide ((s.iy:Int)<=2)=true:=aJ;by_cases h4:¬s.count<=100
 ·have Jq:decide ((s.count:Int)<=100)=false:=aJ;have HV:Hid (Aa m s=false):=by unfold Hid Aa;rw [cZ ah]
  go_enter func9,ntmps9;go_wp2;go_ret;exact ⟨by rw [HV.out];rfl,hB0⟩
 have Jq:decide ((s.count:Int)<=100)=true:=aJ;by_cases h5:¬s.len<=100
 ·have QY:decide ((s.len:Int)<=100)=false:=aJ;have HV:Hid (Aa m s=false):=by unfold Hid Aa;rw [cZ ah]
  go_enter func9,ntmps9;go_wp2;go_ret;exact ⟨by rw [HV.out];rfl,hB0⟩
 have QY:decide ((s.len:Int)<=100)=true:=aJ;have HV:Hid (Aa m s=true):=by unfold Hid Aa;rw [dw ah]
 go_enter func9,ntmps9;go_wp2;go_ret;exact ⟨by rw [HV.out];rfl,hB0⟩
end
end
