/- Lemmas, each with its own conditions. -/
import Derived.Test.YtjagagpcjpcjjaaGreatMw45
import Derived.Test.YtjagagpcjpcjjaaGreatMw14
set_option maxRecDepth 100000
set_option maxHeartbeats 32000000
namespace Go.Proofs.YtjagagpcjpcjjaaGreat
open Tryz
open Go.RowKit
theorem acB {k n s:Nat} {W:List Int}:RB k (n+1) s W=RB k n (oO s k).2 (W++[((oO s k).1:Int)]):=rfl
theorem VX {k:Nat}:∀(n s:Nat) (W:List Int),(RB k n s W).1.length=W.length+n
 |0,_,_=>rfl
 |n+1,s,W=>by rw [acB,VX n];simp;omega
theorem BI {k l n s:Nat} {L:List (List Int)}:DT k l (n+1) s L=DT k l n (RD s k l).2 (L++[(RD s k l).1]):=rfl
theorem VY {k l:Nat}:∀(n s:Nat) (L:List (List Int)),(DT k l n s L).length=L.length+n
 |0,_,_=>rfl
 |n+1,s,L=>by rw [BI,VY n];simp;omega
theorem VZ {k l:Nat}:∀(n s:Nat) (L:List (List Int)),(∀r∈L,r.length=l)->∀r∈DT k l n s L,r.length=l
 |0,_,_,h=>h
 |n+1,s,L,h=>by
  rw [BI]
  refine VZ n _ _ fun r hr=> ?_
  rcases eG.1 hr with hr|hr
  ·exact h r hr
  rw [dZ.1 hr];unfold RD;rw [VX];simp
theorem KR {s:Nat} {i c l:Int}:(zw s i c l).1.length<=10000/\∀r∈(zw s i c l).1,r.length<=1024:=by
 unfold zw;split;·simp
 rename_i h;refine ⟨?_,fun r hr=> ?_⟩;·show (DT _ _ _ _ _).length<=_;rw [VY];simp;omega
 have:=VZ _ _ _ aH r hr;omega
def afl:Value->Nat
 | .slice _ n _=>n
 |_=>0
def RwR (s k n:Nat) (w:World) (e:Ending) (w':World):Prop:=∃(a:Option Addr) (c:Nat) (L:List Int) (st:Nat),e= .returned (.tuple #[.slice a L.length c,.int .u64 ((st:Nat):Int),.int .i64 0])/\Hid (RD s k n=(L,st))/\Hid (st<jQ)/\Sl (fun k=>k<w.heap.size) w' a c L/\Below w.heap.size w w'
section
variable {w:World}
theorem YD {s k n:Nat} (hs:s<jQ) (hk:0<k) (hk2:k<=1024) (hn:n<=1024):Calls prog 86 #[.int .u64 (s:Int),.int .i64 (k:Int),.int .i64 (n:Int)] w (RwR s k n w):=by
 have HS:=bK hs;have t1:¬((k:Int)<1):=ah;have t2:¬(1024<(k:Int)):=ah;have t3:¬((n:Int)<0):=ah;have t4:¬(1024<(n:Int)):=ah;clear hs;go_enter func86,ntmps86;go_wp2_with (at_make;refine jX (B:=w.heap.size) (n:=n) rfl rfl underlying49 iE rfl ah (bM _) ?_);intro g c l w2 hl hO hb2 hg;have hln:l.length=n:=by rw [hl.out];simp
 rw [hln] at hO ⊢;have hl0:Hid (l=[]++List.replicate (n-0) 0):=bK (by rw [hl.out];simp);have hW0:Hid (RB k (n-0) s []=RD s k n):=rfl;have alC:Hid (([]:List Int).length=0):=rfl;clear hln hl;go_wp2;go_loopw [0,28] (fun st i wr=>∃(j t:Nat) (W L:List Int),j<=n/\i= .int .i64 j/\st= .int .u64 (t:Int)/\Hid (t<jQ)/\Hid (RB k (n-j) t W=RD s k n)/\Hid (W.length=j)/\Hid (L=W++List.replicate (n-j) 0)/\Ow w.heap.size (fun k=>w.heap.size<=k) wr 3 (.slice (some ⟨g,0,none⟩) n c) L/\Below w.heap.size w wr) (fun _ i _=>n-(intOf i).toNat);case atStart=>exact ⟨0,s,[],l,ah,rfl,rfl,HS,hW0,alC,hl0,hO,hb2⟩
 case round=>
  clear hl0 hW0 alC hO hb2;obtain ⟨j,t,W,L,hj,rfl,rfl,ht,hW,Bf,hL,hO,hB⟩:=hrel;obtain ⟨w3,rfl⟩:=iA wr;have qM:n=L.length:=by rw [hL.out,dB,Bf.out,fC];omega
  by_cases hlt:j<n
  ·obtain ⟨g',z,hgg,hcz,hfz, -, -⟩:=hO.mO qM (show j<L.length by omega);obtain rfl:g'=g:=iq hgg.symm;have Rw:=WG (w:=w3) ht.out hk (show k<1000000 by omega);have hx1:=OG (s:=t) hk;have hx2:=OH (k:=k) ht.out;have jH:RB k (n-j) t W=RB k (n-(j+1)) (oO t k).2 (W++[((oO t k).1:Int)]):=by rw [show n-j=(n-(j+1))+1 by omega];rfl
   rw [jH] at hW;obtain ⟨⟨x,t2⟩,hd⟩:∃p,p=oO t k:=⟨_,rfl⟩;rw [<-hd] at Rw hx1 hx2 hW;have HC:=bK Rw;have HX2:=bK hx2;have hO4:=bK (hO.nu qM ah j (show i64 ((x:Nat):Int) by unfold i64;have:x<k:=hx1;omega));have hB4:=bK (hB.setCell (p:=⟨g',j,none⟩) (by show w.heap.size<=g';omega) (.int .i64 (x:Int)));have hL4:Hid (L.set j ((x:Nat):Int)=(W++[((x:Nat):Int)])++List.replicate (n-(j+1)) 0):=by unfold Hid;rw [hL.out,show n-j=(n-(j+1))+1 by omega,aqK,<-Bf.out];simp
   have ahA:Hid ((W++[((x:Nat):Int)]).length=j+1):=bK (by rw [dB,Bf.out];rfl);have HW:=bK hW.out;clear hO hB hL qM hgg Rw hx1 hx2 hd jH hW;go_wp2_with fail;refine (HC.out).mono ?_;rintro e w4 ⟨rfl,hw4⟩;obtain rfl:w3=w4:=hw4.symm;clear HC;go_wp2;go_roundw;case rel=>exact ⟨j+1,t2,W++[((x:Nat):Int)],L.set j ((x:Nat):Int),ah,by go_num,rfl,HX2,HW.out,ahA,hL4,hO4.out,hB4.out⟩
   case measure=>exact bF
  have hF:Hid (RD s k n=(L,t)):=by unfold Hid;rw [<-hW.out,hL.out,show n-j=0 by omega];simp [RB]
  have HLl:=bK qM;rw [qM] at hO;have hS:=hO.fresh (n:=w.heap.size) (bM _);clear hO hL hW qM;go_wp2;go_ret3;exact ⟨some ⟨g,0,none⟩,c,L,t,by rw [<-HLl.out];rfl,hF,ht,hS,hB⟩
theorem UC {s k n:Nat} (hs:s<jQ) (hk:0<k) (hk2:k<=1024) (hn:n<=1024):Calls prog 97 #[.int .u64 (s:Int),.int .i64 (k:Int),.int .i64 (n:Int)] w (RwR s k n w):=by
 have HS:=bK hs;have t1:¬((k:Int)<1):=ah;have t2:¬(1024<(k:Int)):=ah;have t3:¬((n:Int)<0):=ah;have t4:¬(1024<(n:Int)):=ah;have hW0:Hid (RB k (n-([]:List Int).length) s []=RD s k n):=rfl;have kJ:Ow (α:=Int) w.heap.size (fun k=>w.heap.size<=k) w 3 (.slice none 0 0) []:=Ow.nil;have hb0:=bP w.heap.size w;clear hs;go_enter func97,ntmps97;go_wp2;go_loopw [0,9] (fun st v wr=>∃(t:Nat) (a':Option Addr) (c':Nat) (W:List Int),W.length<=n/\st= .int .u64 (t:Int)/\v= .slice a' W.length c'/\Hid (t<jQ)/\Hid (RB k (n-W.length) t W=RD s k n)/\Ow w.heap.size (fun k=>w.heap.size<=k) wr 3 (.slice a' W.length c') W/\Below w.heap.size w wr) (fun _ v _=>n-afl v);case atStart=>exact ⟨s,none,0,[],aH,rfl,rfl,HS,hW0,kJ,hb0⟩
 case round=>
  clear hW0 kJ hb0;obtain ⟨t,a',c',W,hj,rfl,rfl,ht,hW,hO,hB⟩:=hrel;obtain ⟨w3,rfl⟩:=iA wr;have wX:=hB.size;by_cases hlt:W.length<n
  ·have Rw:=WI (w:=w3) ht.out hk (show k<1000000 by omega);have hx1:=OG (s:=t) hk;have hx2:=OH (k:=k) ht.out;have jH:RB k (n-W.length) t W=RB k (n-(W.length+1)) (oO t k).2 (W++[((oO t k).1:Int)]):=by rw [show n-W.length=(n-(W.length+1))+1 by omega];rfl
   rw [jH] at hW;obtain ⟨⟨x,t2⟩,hd⟩:∃p,p=oO t k:=⟨_,rfl⟩;rw [<-hd] at Rw hx1 hx2 hW;have HC:=bK Rw;have HX2:=bK hx2;have hxi:i64 ((x:Nat):Int):=by unfold i64;have:x<k:=hx1;omega
   have HW:=bK hW.out;clear Rw hx1 hx2 hd jH hW;go_wp2_with fail;refine (HC.out).mono ?_;rintro e w4 ⟨rfl,hw4⟩;obtain rfl:w3=w4:=hw4.symm;clear HC;go_wp2_with (at_builtin;refine iQ (B:=w.heap.size) (l:=W) (y:=((x:Nat):Int)) rfl rfl underlying49 iE rfl rfl (hO.alloc _) bf hxi ah aJ ?_);intro a5 c5 W5 w5 hW5 kV hb5;have jw:=(hB.alloc wX (.cells #[.int .i64 ((x:Nat):Int)] 3)).trans hb5;have Mq:Hid (RB k (n-W5.length) t2 W5=RD s k n):=by unfold Hid;rw [<-HW.out,hW5.out];simp
   have Bf:W5.length=W.length+1:=by rw [hW5.out];simp
   have HWl:=bK Bf;clear hO hb5 hB HW Bf hW5;go_wp2;go_roundw;case rel=>exact ⟨t2,a5,c5,W5,ig HWl.out,rfl,rfl,HX2,Mq,kV,jw⟩
   case measure=>have:=HWl.out;simp [afl];omega
  have hF:Hid (RD s k n=(W,t)):=by unfold Hid;rw [<-hW.out,show n-W.length=0 by omega];rfl
  have hS:=hO.fresh (n:=w.heap.size) (bM _);clear hO hW;go_wp2;go_ret3;exact ⟨a',c',W,t,rfl,hF,ht,hS,hB⟩
end
def jJ (c l:Int):Bool:=decide (c<0\/10000<c\/l<0\/1024<l)
def RsR (s:Nat) (i c l:Int) (w:World) (e:Ending) (w':World):Prop:=∃(a:Option Addr) (cp:Nat) (L:List (List Int)) (er:Int),e= .returned (.tuple #[.slice a L.length cp,.int .i64 er])/\Hid (zw s i c l=(L,er))/\Sl (fun k=>k<w.heap.size) w' a cp L/\Below w.heap.size w w'
section
variable {w:World}
theorem YE (c l:Int):Calls prog 85 #[.int .i64 c,.int .i64 l] w fun e w'=>e= .returned (.bool (jJ c l))/\w'=w:=by
 by_cases h1:c<0
 ·have HV:Hid ((jJ c l)=true):=by unfold Hid jJ;rw [dw (.inl h1)]<;>rfl
  have h1c:¬0<=c:=ah;go_enter func85,ntmps85;go_wp2;go_ret;exact ⟨by rw [HV.out];rfl,rfl⟩
 have h1c:0<=c:=ah;by_cases h2:10000<c
 ·have HV:Hid ((jJ c l)=true):=by unfold Hid jJ;rw [dw (.inr (.inl h2))]<;>rfl
  have h2c:¬c<=10000:=ah;go_enter func85,ntmps85;go_wp2;go_ret;exact ⟨by rw [HV.out];rfl,rfl⟩
 have h2c:c<=10000:=ah;by_cases h3:l<0
 ·have HV:Hid ((jJ c l)=true):=by unfold Hid jJ;rw [dw (.inr (.inr (.inl h3)))]<;>rfl
  have h3c:¬0<=l:=ah;go_enter func85,ntmps85;go_wp2;go_ret;exact ⟨by rw [HV.out];rfl,rfl⟩
 have h3c:0<=l:=ah;by_cases h4:1024<l
 ·have HV:Hid ((jJ c l)=true):=by unfold Hid jJ;rw [dw (.inr (.inr (.inr h4)))]<;>rfl
  have h4c:¬l<=1024:=ah;go_enter func85,ntmps85;go_wp2;go_ret;exact ⟨by rw [HV.out];rfl,rfl⟩
 have h4c:l<=1024:=ah;have HV:Hid ((jJ c l)=false):=by unfold Hid jJ;rw [cZ ah]<;>rfl
 go_enter func85,ntmps85;go_wp2;go_ret;exact ⟨by rw [HV.out];rfl,rfl⟩
theorem YF (c l:Int):Calls prog 96 #[.int .i64 c,.int .i64 l] w fun e w'=>e= .returned (.bool ((!jJ c l)))/\w'=w:=by
 by_cases h1:c<0
 ·have HV:Hid (((!jJ c l))=false):=by unfold Hid jJ;rw [dw (.inl h1)]<;>rfl
  have h1c:¬0<=c:=ah;go_enter func96,ntmps96;go_wp2;go_ret;exact ⟨by rw [HV.out];rfl,rfl⟩
 have h1c:0<=c:=ah;by_cases h2:10000<c
 ·have HV:Hid (((!jJ c l))=false):=by unfold Hid jJ;rw [dw (.inr (.inl h2))]<;>rfl
  have h2c:¬c<=10000:=ah;go_enter func96,ntmps96;go_wp2;go_ret;exact ⟨by rw [HV.out];rfl,rfl⟩
 have h2c:c<=10000:=ah;by_cases h3:l<0
 ·have HV:Hid (((!jJ c l))=false):=by unfold Hid jJ;rw [dw (.inr (.inr (.inl h3)))]<;>rfl
  have h3c:¬0<=l:=ah;go_enter func96,ntmps96;go_wp2;go_ret;exact ⟨by rw [HV.out];rfl,rfl⟩
 have h3c:0<=l:=ah;by_cases h4:1024<l
 ·have HV:Hid (((!jJ c l))=false):=by unfold Hid jJ;rw [dw (.inr (.inr (.inr h4)))]<;>rfl
  have h4c:¬l<=1024:=ah;go_enter func96,ntmps96;go_wp2;go_ret;exact ⟨by rw [HV.out];rfl,rfl⟩
 have h4c:l<=1024:=ah;have HV:Hid (((!jJ c l))=true):=by unfold Hid jJ;rw [cZ ah]<;>rfl
 go_enter func96,ntmps96;go_wp2;go_ret;exact ⟨by rw [HV.out];rfl,rfl⟩
theorem UD {s:Nat} (i c l:Int) (hs:s<jQ):Calls prog 37 #[.int .u64 (s:Int),.int .i64 i,.int .i64 c,.int .i64 l] w (RsR s i c l w):=by
 by_cases h1:i<1
 ·have HV:Hid (zw s i c l=([],2)):=by unfold Hid zw;rw [bQ (.inl h1)]
  go_enter func37,ntmps37;go_wp2;go_ret2;exact ⟨none,0,[],2,rfl,HV.out,Sl.nil _ _ _ aS,bP _ _⟩
 by_cases h2:64<i
 ·have HV:Hid (zw s i c l=([],2)):=by unfold Hid zw;rw [bQ (.inr (.inl h2))]
  go_enter func37,ntmps37;go_wp2;go_ret2;exact ⟨none,0,[],2,rfl,HV.out,Sl.nil _ _ _ aS,bP _ _⟩
 have CP:=YE (w:=w) c l;by_cases h3:c<0\/10000<c\/l<0\/1024<l
 ·have HV:Hid (zw s i c l=([],2)):=by unfold Hid zw;rw [bQ (.inr (.inr h3))]
  have e1:jJ c l=true:=by unfold jJ;rw [dw h3]
  rw [e1] at CP;have HWr:=bK CP;clear CP e1 h3;go_enter func37,ntmps37;go_wp2_with fail;refine (HWr.out).mono ?_;rintro e w1 ⟨rfl,hw1⟩;obtain rfl:w=w1:=hw1.symm;go_wp2;go_ret2;exact ⟨none,0,[],2,rfl,HV.out,Sl.nil _ _ _ aS,bP _ _⟩
 have e1:jJ c l=false:=by unfold jJ;rw [cZ h3]
 rw [e1] at CP;have HWr:=bK CP;obtain ⟨k,rfl⟩:=b_ (show 0<=i by omega);obtain ⟨n,rfl⟩:=b_ (show 0<=c by omega);obtain ⟨len,rfl⟩:=b_ (show 0<=l by omega);have HV:Hid (zw s (k:Int) (n:Int) (len:Int)=(DT k len n s [],0)):=by unfold Hid zw;rw [bO ah];rfl
 have hk1:0<k:=ah;have hk2:k<=64:=ah;have hn:n<=10000:=ah;have iX:len<=1024:=ah;have HS:=bK hs;have hL0:Hid (DT k len (n-0) s []=DT k len n s []):=rfl;have hb0:=bP w.heap.size w;clear CP e1 h3 hs;go_enter func37,ntmps37;go_wp2_with fail;refine (HWr.out).mono ?_;rintro e w1 ⟨rfl,hw1⟩;obtain rfl:w=w1:=hw1.symm;clear HWr;go_wp2_with (at_make;refine sN (α:=List Int) rfl _ _ _ rfl _ _ _ underlying22 iI w.heap.size (fun k=>(Value.slice (some ⟨w.heap.size,0,none⟩) 0 n).ownBlock=some k\/k<w.heap.size) n rfl rfl ah aS (bM _) ?_);intro w1 kH hb1;have kJ:Ox (α:=List Int) w.heap.size w.heap.size w1 49 (.slice (some ⟨w.heap.size,0,none⟩) ([]:List (List Int)).length n) ([]:List (List Int)):=kH;have hb0:=hb1;have ah8:Hid (([]:List (List Int)).length=0):=rfl;clear kH hb1;go_wp2;go_loopw [0,10,28] (fun st v i wr=>∃(j t:Nat) (a':Option Addr) (c':Nat) (K:List (List Int)),j<=n/\i= .int .i64 j/\st= .int .u64 (t:Int)/\v= .slice a' K.length c'/\Hid (t<jQ)/\Hid (DT k len (n-j) t K=DT k len n s [])/\Hid (K.length=j)/\Ox w.heap.size w.heap.size wr 49 (.slice a' K.length c') K/\Below w.heap.size w wr) (fun _ _ i _=>n-(intOf i).toNat);case atStart=>exact ⟨0,s,_,_,[],ah,rfl,rfl,rfl,HS,hL0,ah8,kJ,hb0⟩
 case round=>
  clear kJ hL0 hb0;obtain ⟨j,t,a',c',K,hj,rfl,rfl,rfl,ht,hK,rW,hO,hB⟩:=hrel;obtain ⟨w3,rfl⟩:=iA wr;have wX:=hB.size;by_cases hlt:j<n
  ·have HC:=bK (YD (w:=w3) ht.out hk1 (show k<=1024 by omega) iX)
   have jH:Hid (∀r st,RD t k len=(r,st)->DT k len (n-(j+1)) st (K++[r])=DT k len n s []):=fun r st h=>by
    rw [<-hK.out,show n-j=(n-(j+1))+1 by omega,BI,h]
   have ach:K.length<1000000000000:=ig rW.out;clear hK;go_wp2_with fail;refine (HC.out).mono ?_;rintro e w4 ⟨ar,cr,r,st,rfl,hr,hst,hsr,hb4⟩;have hK2:=bK (jH.out _ _ hr.out);have hO4:=Ox.later hO hb4;have hB4:=hB.trans (hb4.mono wX)
   have ku:Sl (fun k=>(Value.slice a' K.length c').ownBlock=some k\/k<w.heap.size) w4 ar cr r:=hsr.anti fun k _ hm=>by
    rcases hm with hm|hm
    ·exact (hO.lt k hm).2
    show k<_;omega
   have hll:=hsr.le;have nN:=hB4.size;clear HC hO hsr hb4 hB hr jH;go_wp2_with (at_builtin;refine jd (n0:=w.heap.size) (B:=w.heap.size) (r:=r) (ar:=ar) (cr:=cr) rfl rfl underlying22 iI rfl rfl (hO4.alloc _) bf (ku.alloc _) ach aJ ?_);intro a9 c9 K9 w9 yT yF hbk hgr;have mH:=(hB4.alloc nN (.cells #[.slice ar r.length cr] 49)).grown hgr aJ (fun k hk=>(hO4.lt k hk).1);have hKn:Hid (DT k len (n-(j+1)) st K9=DT k len n s []):=bK (by rw [yT.out];exact hK2.out);have oK:Hid (K9.length=j+1):=bK (by rw [yT.out,dB,rW.out];rfl);clear hbk hgr yT hO4 hB4 ku nN hK2;go_wp2;go_roundw;case rel=>exact ⟨j+1,st,a9,c9,K9,ah,by go_num,rfl,rfl,hst,hKn,oK,yF,mH⟩
   case measure=>exact bF
  have hF:Hid (zw s (k:Int) (n:Int) (len:Int)=(K,0)):=by unfold Hid;rw [HV.out,<-hK.out,show n-j=0 by omega];rfl
  have hS:=hO.jD (bM _);clear hO hK;go_wp2;go_ret2;exact ⟨a',c',K,0,rfl,hF,hS,hB⟩
theorem Rq {s:Nat} (i c l:Int) (hs:s<jQ):Calls prog 42 #[.int .u64 (s:Int),.int .i64 i,.int .i64 c,.int .i64 l] w (RsR s i c l w):=by
 by_cases h1:i<1
 ·have HV:Hid (zw s i c l=([],2)):=by unfold Hid zw;rw [bQ (.inl h1)]
  go_enter func42,ntmps42;go_wp2;go_ret2;exact ⟨none,0,[],2,rfl,HV.out,Sl.nil _ _ _ aS,bP _ _⟩
 by_cases h2:64<i
 ·have HV:Hid (zw s i c l=([],2)):=by unfold Hid zw;rw [bQ (.inr (.inl h2))]
  go_enter func42,ntmps42;go_wp2;go_ret2;exact ⟨none,0,[],2,rfl,HV.out,Sl.nil _ _ _ aS,bP _ _⟩
 have CP:=YF (w:=w) c l;by_cases h3:c<0\/10000<c\/l<0\/1024<l
 ·have HV:Hid (zw s i c l=([],2)):=by unfold Hid zw;rw [bQ (.inr (.inr h3))]
  have e1:jJ c l=true:=by unfold jJ;rw [dw h3]
  rw [e1] at CP;have HWr:=bK CP;clear CP e1 h3;go_enter func42,ntmps42;go_wp2_with fail;refine (HWr.out).mono ?_;rintro e w1 ⟨rfl,hw1⟩;obtain rfl:w=w1:=hw1.symm;go_wp2;go_ret2;exact ⟨none,0,[],2,rfl,HV.out,Sl.nil _ _ _ aS,bP _ _⟩
 have e1:jJ c l=false:=by unfold jJ;rw [cZ h3]
 rw [e1] at CP;have HWr:=bK CP;obtain ⟨k,rfl⟩:=b_ (show 0<=i by omega);obtain ⟨n,rfl⟩:=b_ (show 0<=c by omega);obtain ⟨len,rfl⟩:=b_ (show 0<=l by omega);have HV:Hid (zw s (k:Int) (n:Int) (len:Int)=(DT k len n s [],0)):=by unfold Hid zw;rw [bO ah];rfl
 have hk1:0<k:=ah;have hk2:k<=64:=ah;have hn:n<=10000:=ah;have iX:len<=1024:=ah;have HS:=bK hs;have hL0:Hid (DT k len (n-0) s []=DT k len n s []):=rfl;have hb0:=bP w.heap.size w;clear CP e1 h3 hs;go_enter func42,ntmps42;go_wp2_with fail;refine (HWr.out).mono ?_;rintro e w1 ⟨rfl,hw1⟩;obtain rfl:w=w1:=hw1.symm;clear HWr;have kJ:Ox (α:=List Int) w.heap.size w.heap.size w 49 (.slice none 0 0) []:=Ox.nil;have ah8:Hid (([]:List (List Int)).length=0):=rfl;go_wp2;go_loopw [0,10,11] (fun st v i wr=>∃(j t:Nat) (a':Option Addr) (c':Nat) (K:List (List Int)),j<=n/\i= .int .i64 j/\st= .int .u64 (t:Int)/\v= .slice a' K.length c'/\Hid (t<jQ)/\Hid (DT k len (n-j) t K=DT k len n s [])/\Hid (K.length=j)/\Ox w.heap.size w.heap.size wr 49 (.slice a' K.length c') K/\Below w.heap.size w wr) (fun _ _ i _=>n-(intOf i).toNat);case atStart=>exact ⟨0,s,none,0,[],ah,rfl,rfl,rfl,HS,hL0,ah8,kJ,hb0⟩
 case round=>
  clear kJ hL0 hb0;obtain ⟨j,t,a',c',K,hj,rfl,rfl,rfl,ht,hK,rW,hO,hB⟩:=hrel;obtain ⟨w3,rfl⟩:=iA wr;have wX:=hB.size;by_cases hlt:j<n
  ·have HC:=bK (UC (w:=w3) ht.out hk1 (show k<=1024 by omega) iX)
   have jH:Hid (∀r st,RD t k len=(r,st)->DT k len (n-(j+1)) st (K++[r])=DT k len n s []):=fun r st h=>by
    rw [<-hK.out,show n-j=(n-(j+1))+1 by omega,BI,h]
   have ach:K.length<1000000000000:=ig rW.out;clear hK;go_wp2_with fail;refine (HC.out).mono ?_;rintro e w4 ⟨ar,cr,r,st,rfl,hr,hst,hsr,hb4⟩;have hK2:=bK (jH.out _ _ hr.out);have hO4:=Ox.later hO hb4;have hB4:=hB.trans (hb4.mono wX)
   have ku:Sl (fun k=>(Value.slice a' K.length c').ownBlock=some k\/k<w.heap.size) w4 ar cr r:=hsr.anti fun k _ hm=>by
    rcases hm with hm|hm
    ·exact (hO.lt k hm).2
    show k<_;omega
   have hll:=hsr.le;have nN:=hB4.size;clear HC hO hsr hb4 hB hr jH;go_wp2_with (at_builtin;refine jd (n0:=w.heap.size) (B:=w.heap.size) (r:=r) (ar:=ar) (cr:=cr) rfl rfl underlying22 iI rfl rfl (hO4.alloc _) bf (ku.alloc _) ach aJ ?_);intro a9 c9 K9 w9 yT yF hbk hgr;have mH:=(hB4.alloc nN (.cells #[.slice ar r.length cr] 49)).grown hgr aJ (fun k hk=>(hO4.lt k hk).1);have hKn:Hid (DT k len (n-(j+1)) st K9=DT k len n s []):=bK (by rw [yT.out];exact hK2.out);have oK:Hid (K9.length=j+1):=bK (by rw [yT.out,dB,rW.out];rfl);clear hbk hgr yT hO4 hB4 ku nN hK2;go_wp2;go_roundw;case rel=>exact ⟨j+1,st,a9,c9,K9,ah,by go_num,rfl,rfl,hst,hKn,oK,yF,mH⟩
   case measure=>exact bF
  have hF:Hid (zw s (k:Int) (n:Int) (len:Int)=(K,0)):=by unfold Hid;rw [HV.out,<-hK.out,show n-j=0 by omega];rfl
  have hS:=hO.jD (bM _);clear hO hK;go_wp2;go_ret2;exact ⟨a',c',K,0,rfl,hF,hS,hB⟩
end
theorem lK.V_ {s:lK} (h:s.err=0):(s.kind=1\/s.kind=2\/s.kind=3\/s.kind=4)/\(s.kind=4->0<=s.count/\s.count<=10000/\0<=s.len/\s.len<=1024):=by
 unfold lK.err at h;split at h;·omega
 split at h
 ·split at h;·omega
  split at h<;>omega
 omega
theorem acC {s:Nat} {i c l:Int} (hi:1<=i/\i<=64) (h:0<=c/\c<=10000/\0<=l/\l<=1024):(zw s i c l).2=0:=by
 unfold zw;rw [bO ah]
section
variable {M:Nat->Prop} {w:World} {an ao:Option Addr} {cn co:Nat} {m:g_}
theorem Ab (hm:Ma M w an cn ao co m) (s:lK) (hsd:Hid (s.seed<jQ)):Calls prog 12 #[kF m an cn ao co,stV s] w (TwR m s w):=by
 have hB0:=(iB w (iP m an cn ao co)).alloc aH (EG s);have g1:(w.alloc (iP m an cn ao co)).heap.size=w.heap.size+1:=aH;have hx0:C4 ((w.alloc (iP m an cn ao co)).alloc (EG s)) w.heap.size an cn ao co m:=(kI w).below (B:=w.heap.size+1) ((bP _ _).alloc (by rw [g1];exact bM _) _) ah;have hs0:S5 ((w.alloc (iP m an cn ao co)).alloc (EG s)) (w.heap.size+1) s:=by have h:=M_ (w.alloc (iP m an cn ao co)) s;rw [g1] at h;exact h
 have hz0:w.heap.size+2<=((w.alloc (iP m an cn ao co)).alloc (EG s)).heap.size:=aH;have l1:=hm.h_.le;have l2:=hm.out.le;have HM:=bK (hm.below hB0);clear hm g1;go_enter func12,ntmps12;go_upto_region 1 with (fail);generalize (w.alloc (iP m an cn ao co)).alloc (EG s)=w0 at*
 have HS:Hid (∀w',Below w0.heap.size w0 w'->C4 w' w.heap.size an cn ao co m/\S5 w' (w.heap.size+1) s/\Ma M w' an cn ao co m/\Below w.heap.size w w'/\w.heap.size+2<=w'.heap.size):=fun w' h=>
  ⟨hx0.below h ah,hs0.below h ah,HM.out.below h,hB0.trans (h.mono ah),ig h.size⟩
 have hb0:=bP w0.heap.size w0;clear hx0 hs0 hB0 hz0;have HV:=bK (jR (HS.out _ hb0).2.2.1);have hc:=(HS.out _ hb0).1;obtain ⟨d0,d1,d2,d3⟩:=hc;go_wp2_with fail;refine (HV.out).mono ?_;rintro e w1 ⟨rfl,hb1⟩;clear d0 d1 d2 d3 HV hb0;by_cases he:m.err=0
 ·have he':(m.err !=0)=false:=by simp [he]
  have HE:=bK he;have ok:Hid m.Ok:=g_.iG m HE.out;clear he;have HSv:=bK (wD (w:=w1) s);obtain ⟨s0,s1,s2,s3,s4⟩:=(HS.out _ hb1).2.1;go_wp2_with fail;refine (HSv.out).mono ?_;rintro e w2 ⟨rfl,hb2⟩;have hb2:=hb1.trans (hb2.mono hb1.size);clear s0 s1 s2 s3 s4 HSv hb1;by_cases hse:s.err=0
  ·have acj:(s.err !=0)=false:=by simp [hse]
   have hk:=(lK.V_ hse).1;have hcl:=(lK.V_ hse).2;have PV:=bK hse;clear hse;have HS2:=HS.out _ hb2;obtain ⟨d0,d1,d2,d3⟩:=HS2.1;obtain ⟨s0,s1,s2,s3,s4⟩:=HS2.2.1;rcases hk with hk|hk|hk|hk
   ·have HR:Hid (∀L e1,m.zu s.iy=(L,e1)->m.wT s=(L,e1)):=fun L e1 h=>by unfold g_.wT;rw [bO (by simp [HE.out]),bO (by simp [PV.out]),bQ hk,h]
    have HC:=bK (Iy HS2.2.2.1 s.iy);have hzz:=HS2.2.2.2.2;have sO:=HS2.2.2.2.1;clear hcl HS2;rw [hk] at s0;clear hk;go_wp2_with fail;refine (HC.out).mono ?_;rintro e w3 ⟨a3,c3,L,e1,rfl,hL,kC,hb3⟩;have jh:=sO.trans (hb3.mono ah);have wI:=kC.anti (M':=fun k=>k<w.heap.size) fun k _ hm=>by show k<_;omega
    have hR:=bK (HR.out _ _ hL.out);clear HC d0 d1 d2 d3 s0 s1 s2 s3 s4 hb3;go_wp2;go_ret2;exact ⟨a3,c3,L,e1,rfl,hR,wI,jh⟩
   ·have HR:Hid (∀L e1,m.IV s.iy=(L,e1)->m.wT s=(L,e1)):=fun L e1 h=>by unfold g_.wT;rw [bO (by simp [HE.out]),bO (by simp [PV.out]),bO ah,bQ hk,h]
    have HC:=bK (Uz HS2.2.2.1 s.iy);have hzz:=HS2.2.2.2.2;have sO:=HS2.2.2.2.1;clear hcl HS2;rw [hk] at s0;clear hk;go_wp2_with fail;refine (HC.out).mono ?_;rintro e w3 ⟨a3,c3,L,e1,rfl,hL,kC,hb3⟩;have jh:=sO.trans (hb3.mono ah);have wI:=kC.anti (M':=fun k=>k<w.heap.size) fun k _ hm=>by show k<_;omega
    have hR:=bK (HR.out _ _ hL.out);clear HC d0 d1 d2 d3 s0 s1 s2 s3 s4 hb3;go_wp2;go_ret2;exact ⟨a3,c3,L,e1,rfl,hR,wI,jh⟩
   ·have HR:Hid (∀L e1,m.BM s.iy=(L,e1)->m.wT s=(L,e1)):=fun L e1 h=>by unfold g_.wT;rw [bO (by simp [HE.out]),bO (by simp [PV.out]),bO ah,bO ah,bQ hk,h]
    have HC:=bK (Yj HS2.2.2.1 s.iy);have hzz:=HS2.2.2.2.2;have sO:=HS2.2.2.2.1;clear hcl HS2;rw [hk] at s0;clear hk;go_wp2_with fail;refine (HC.out).mono ?_;rintro e w3 ⟨a3,c3,L,e1,rfl,hL,kC,hb3⟩;have jh:=sO.trans (hb3.mono ah);have wI:=kC.anti (M':=fun k=>k<w.heap.size) fun k _ hm=>by show k<_;omega
    have hR:=bK (HR.out _ _ hL.out);clear HC d0 d1 d2 d3 s0 s1 s2 s3 s4 hb3;go_wp2;go_ret2;exact ⟨a3,c3,L,e1,rfl,hR,wI,jh⟩
   have HR:Hid (m.wT s=(nK iM (zw s.seed m.gZ s.count s.len).1,(zw s.seed m.gZ s.count s.len).2)):=by unfold Hid g_.wT;rw [bO (by simp [HE.out]),bO (by simp [PV.out]),bO ah,bO ah,bO ah]
   have Ru:Hid ((zw s.seed m.gZ s.count s.len).2=0):=acC ⟨ok.out.i0,ok.out.i1⟩ (hcl hk);have HC:=bK (UD (w:=w2) (s:=s.seed) m.gZ s.count s.len hsd.out);have hzz:=HS2.2.2.2.2;have sO:=HS2.2.2.2.1;clear hcl HS2;rw [hk] at s0;clear hk;go_wp2_with fail;refine (HC.out).mono ?_;rintro e w3 ⟨a3,c3,L,e1,rfl,hL,kC,hb3⟩;have h1:=Ru.out;rw [hL.out] at h1;have h1:e1=0:=h1;subst h1;have Ag:Hid (L.length<=10000/\∀r∈L,r.length<=1024):=by have h:=KR (s:=s.seed) (i:=m.gZ) (c:=s.count) (l:=s.len);rw [hL.out] at h;exact h
   have hB3:=sO.trans (hb3.mono ah);have hz3:=hb3.size;have HSo:=bK (sK kC (ig Ag.out.1) (bK fun r hr=>by have:=Ag.out.2 r hr;omega));have hll:=kC.le;have hRf:Hid (m.wT s=(nK iM L,0)):=bK (by rw [HR.out,hL.out]);clear HC d0 d1 d2 d3 s0 s1 s2 s3 s4 hb3 kC;go_wp2_with fail;refine (HSo.out).mono ?_;rintro e w4 ⟨a4,c4,L4,rfl,hL4,ku,hb4⟩;have jh:=hB3.trans (hb4.mono ah);have wI:=ku.anti (M':=fun k=>k<w.heap.size) fun k _ hm=>by show k<_;omega
   have hRg:Hid (m.wT s=(L4,0)):=bK (by rw [hRf.out,hL4.out]);clear HSo hb4 ku;go_wp2;go_ret2;exact ⟨a4,c4,L4,0,rfl,hRg,wI,jh⟩
  have acj:(s.err !=0)=true:=by simp [hse]
  have HR:Hid (m.wT s=([],s.err)):=by unfold Hid g_.wT;rw [bO (by simp [HE.out]),bQ hse]
  have jh:=(HS.out _ hb2).2.2.2.1;clear hse;go_wp2;go_ret2;exact ⟨none,0,[],s.err,rfl,HR,Sl.nil _ _ _ aS,jh⟩
 have he':(m.err !=0)=true:=by simp [he]
 have HR:Hid (m.wT s=([],m.err)):=by unfold Hid g_.wT;rw [bQ he]
 have jh:=(HS.out _ hb1).2.2.2.1;clear he;go_wp2;go_ret2;exact ⟨none,0,[],m.err,rfl,HR,Sl.nil _ _ _ aS,jh⟩
theorem yc (hm:Ma M w an cn ao co m) (s:lK) (hsd:Hid (s.seed<jQ)) (xZ:Hid (m.err=0->s.err=0->m.h_.length<=30)):Calls prog 13 #[kF m an cn ao co,stV s] w (TwR m s w):=by
 have hB0:=(iB w (iP m an cn ao co)).alloc aH (EG s);have g1:(w.alloc (iP m an cn ao co)).heap.size=w.heap.size+1:=aH;have hx0:C4 ((w.alloc (iP m an cn ao co)).alloc (EG s)) w.heap.size an cn ao co m:=(kI w).below (B:=w.heap.size+1) ((bP _ _).alloc (by rw [g1];exact bM _) _) ah;have hs0:S5 ((w.alloc (iP m an cn ao co)).alloc (EG s)) (w.heap.size+1) s:=by have h:=M_ (w.alloc (iP m an cn ao co)) s;rw [g1] at h;exact h
 have hz0:w.heap.size+2<=((w.alloc (iP m an cn ao co)).alloc (EG s)).heap.size:=aH;have l1:=hm.h_.le;have l2:=hm.out.le;have HM:=bK (hm.below hB0);clear hm g1;go_enter func13,ntmps13;go_upto_region 1 with (fail);generalize (w.alloc (iP m an cn ao co)).alloc (EG s)=w0 at*
 have HS:Hid (∀w',Below w0.heap.size w0 w'->C4 w' w.heap.size an cn ao co m/\S5 w' (w.heap.size+1) s/\Ma M w' an cn ao co m/\Below w.heap.size w w'/\w.heap.size+2<=w'.heap.size):=fun w' h=>
  ⟨hx0.below h ah,hs0.below h ah,HM.out.below h,hB0.trans (h.mono ah),ig h.size⟩
 have hb0:=bP w0.heap.size w0;clear hx0 hs0 hB0 hz0;have HV:=bK (oz (HS.out _ hb0).2.2.1);have hc:=(HS.out _ hb0).1;obtain ⟨d0,d1,d2,d3⟩:=hc;go_wp2_with fail;refine (HV.out).mono ?_;rintro e w1 ⟨rfl,hb1⟩;clear d0 d1 d2 d3 HV hb0;by_cases he:m.err=0
 ·have he':(m.err !=0)=false:=by simp [he]
  have HE:=bK he;have ok:Hid m.Ok:=g_.iG m HE.out;clear he;have HSv:=bK (xY (w:=w1) s);obtain ⟨s0,s1,s2,s3,s4⟩:=(HS.out _ hb1).2.1;go_wp2_with fail;refine (HSv.out).mono ?_;rintro e w2 ⟨rfl,hb2⟩;have hb2:=hb1.trans (hb2.mono hb1.size);clear s0 s1 s2 s3 s4 HSv hb1;by_cases hse:s.err=0
  ·have acj:(s.err !=0)=false:=by simp [hse]
   have hk:=(lK.V_ hse).1;have hcl:=(lK.V_ hse).2;have PV:=bK hse;clear hse;have HS2:=HS.out _ hb2;obtain ⟨d0,d1,d2,d3⟩:=HS2.1;obtain ⟨s0,s1,s2,s3,s4⟩:=HS2.2.1;rcases hk with hk|hk|hk|hk
   ·have HR:Hid (∀L e1,m.zu s.iy=(L,e1)->m.wT s=(L,e1)):=fun L e1 h=>by unfold g_.wT;rw [bO (by simp [HE.out]),bO (by simp [PV.out]),bQ hk,h]
    have HC:=bK (Rp HS2.2.2.1 (bK (xZ.out HE.out PV.out)) s.iy);have hzz:=HS2.2.2.2.2;have sO:=HS2.2.2.2.1;clear hcl HS2;rw [hk] at s0;clear hk;go_wp2_with fail;refine (HC.out).mono ?_;rintro e w3 ⟨a3,c3,L,e1,rfl,hL,kC,hb3⟩;have jh:=sO.trans (hb3.mono ah);have wI:=kC.anti (M':=fun k=>k<w.heap.size) fun k _ hm=>by show k<_;omega
    have hR:=bK (HR.out _ _ hL.out);clear HC d0 d1 d2 d3 s0 s1 s2 s3 s4 hb3;go_wp2;go_ret2;exact ⟨a3,c3,L,e1,rfl,hR,wI,jh⟩
   ·have HR:Hid (∀L e1,m.IV s.iy=(L,e1)->m.wT s=(L,e1)):=fun L e1 h=>by unfold g_.wT;rw [bO (by simp [HE.out]),bO (by simp [PV.out]),bO ah,bQ hk,h]
    have HC:=bK (Rn HS2.2.2.1 (bK (xZ.out HE.out PV.out)) s.iy);have hzz:=HS2.2.2.2.2;have sO:=HS2.2.2.2.1;clear hcl HS2;rw [hk] at s0;clear hk;go_wp2_with fail;refine (HC.out).mono ?_;rintro e w3 ⟨a3,c3,L,e1,rfl,hL,kC,hb3⟩;have jh:=sO.trans (hb3.mono ah);have wI:=kC.anti (M':=fun k=>k<w.heap.size) fun k _ hm=>by show k<_;omega
    have hR:=bK (HR.out _ _ hL.out);clear HC d0 d1 d2 d3 s0 s1 s2 s3 s4 hb3;go_wp2;go_ret2;exact ⟨a3,c3,L,e1,rfl,hR,wI,jh⟩
   ·have HR:Hid (∀L e1,m.BM s.iy=(L,e1)->m.wT s=(L,e1)):=fun L e1 h=>by unfold g_.wT;rw [bO (by simp [HE.out]),bO (by simp [PV.out]),bO ah,bO ah,bQ hk,h]
    have HC:=bK (QT HS2.2.2.1 s.iy);have hzz:=HS2.2.2.2.2;have sO:=HS2.2.2.2.1;clear hcl HS2;rw [hk] at s0;clear hk;go_wp2_with fail;refine (HC.out).mono ?_;rintro e w3 ⟨a3,c3,L,e1,rfl,hL,kC,hb3⟩;have jh:=sO.trans (hb3.mono ah);have wI:=kC.anti (M':=fun k=>k<w.heap.size) fun k _ hm=>by show k<_;omega
    have hR:=bK (HR.out _ _ hL.out);clear HC d0 d1 d2 d3 s0 s1 s2 s3 s4 hb3;go_wp2;go_ret2;exact ⟨a3,c3,L,e1,rfl,hR,wI,jh⟩
   have HR:Hid (m.wT s=(nK iM (zw s.seed m.gZ s.count s.len).1,(zw s.seed m.gZ s.count s.len).2)):=by unfold Hid g_.wT;rw [bO (by simp [HE.out]),bO (by simp [PV.out]),bO ah,bO ah,bO ah]
   have Ru:Hid ((zw s.seed m.gZ s.count s.len).2=0):=acC ⟨ok.out.i0,ok.out.i1⟩ (hcl hk);have HC:=bK (Rq (w:=w2) (s:=s.seed) m.gZ s.count s.len hsd.out);have hzz:=HS2.2.2.2.2;have sO:=HS2.2.2.2.1;clear hcl HS2;rw [hk] at s0;clear hk;go_wp2_with fail;refine (HC.out).mono ?_;rintro e w3 ⟨a3,c3,L,e1,rfl,hL,kC,hb3⟩;have h1:=Ru.out;rw [hL.out] at h1;have h1:e1=0:=h1;subst h1;have Ag:Hid (L.length<=10000/\∀r∈L,r.length<=1024):=by have h:=KR (s:=s.seed) (i:=m.gZ) (c:=s.count) (l:=s.len);rw [hL.out] at h;exact h
   have hB3:=sO.trans (hb3.mono ah);have hz3:=hb3.size;have HSo:=bK (qQ kC (bK ⟨ig Ag.out.1,fun r hr=>by have:=Ag.out.2 r hr;omega⟩));have hll:=kC.le;have hRf:Hid (m.wT s=(nK iM L,0)):=bK (by rw [HR.out,hL.out]);clear HC d0 d1 d2 d3 s0 s1 s2 s3 s4 hb3 kC;go_wp2_with fail;refine (HSo.out).mono ?_;rintro e w4 ⟨a4,c4,L4,rfl,hL4,ku,hb4⟩;have jh:=hB3.trans (hb4.mono ah);have wI:=ku.anti (M':=fun k=>k<w.heap.size) fun k _ hm=>by show k<_;omega
   have hRg:Hid (m.wT s=(L4,0)):=bK (by rw [hRf.out,hL4.out]);clear HSo hb4 ku;go_wp2;go_ret2;exact ⟨a4,c4,L4,0,rfl,hRg,wI,jh⟩
  have acj:(s.err !=0)=true:=by simp [hse]
  have HR:Hid (m.wT s=([],s.err)):=by unfold Hid g_.wT;rw [bO (by simp [HE.out]),bQ hse]
  have jh:=(HS.out _ hb2).2.2.2.1;clear hse;go_wp2;go_ret2;exact ⟨none,0,[],s.err,rfl,HR,Sl.nil _ _ _ aS,jh⟩
 have he':(m.err !=0)=true:=by simp [he]
 have HR:Hid (m.wT s=([],m.err)):=by unfold Hid g_.wT;rw [bQ he]
 have jh:=(HS.out _ hb1).2.2.2.1;clear he;go_wp2;go_ret2;exact ⟨none,0,[],m.err,rfl,HR,Sl.nil _ _ _ aS,jh⟩
end
section
variable {M:Nat->Prop} {w:World} {an ao:Option Addr} {cn co:Nat} {m:g_}
theorem IC (hm:Ma M w an cn ao co m) (s:lK) (hsd:Hid (s.seed<jQ)):Calls prog 3 #[kF m an cn ao co,stV s] w fun e w'=>e= .returned (.bool true)/\Below w.heap.size w w':=by
 have hB0:=(iB w (iP m an cn ao co)).alloc aH (EG s);have g1:(w.alloc (iP m an cn ao co)).heap.size=w.heap.size+1:=aH;have hx0:C4 ((w.alloc (iP m an cn ao co)).alloc (EG s)) w.heap.size an cn ao co m:=(kI w).below (B:=w.heap.size+1) ((bP _ _).alloc (by rw [g1];exact bM _) _) ah;have hs0:S5 ((w.alloc (iP m an cn ao co)).alloc (EG s)) (w.heap.size+1) s:=by have h:=M_ (w.alloc (iP m an cn ao co)) s;rw [g1] at h;exact h
 have hz0:w.heap.size+2<=((w.alloc (iP m an cn ao co)).alloc (EG s)).heap.size:=aH;have l1:=hm.h_.le;have l2:=hm.out.le;have HM:=bK (hm.below hB0);clear hm g1;go_enter func3,ntmps3;go_upto_region 1 with (fail);generalize (w.alloc (iP m an cn ao co)).alloc (EG s)=w0 at*
 have HS:Hid (∀w',Below w0.heap.size w0 w'->C4 w' w.heap.size an cn ao co m/\S5 w' (w.heap.size+1) s/\Ma M w' an cn ao co m/\Below w.heap.size w w'/\w.heap.size+2<=w'.heap.size):=fun w' h=>
  ⟨hx0.below h ah,hs0.below h ah,HM.out.below h,hB0.trans (h.mono ah),ig h.size⟩
 clear hx0 hs0 hB0 hz0;refine iL (fun w'=>S5 w' (w.heap.size+1) s) [0,2,4] aB ?_;have hb0:=(bP w0.heap.size w0).drew;have hS1:=(HS.out _ hb0).2.1;generalize w0.drew=w1 at*
 refine iZ [0,2] ?_;have HV:=bK (wD (w:=w1) s);refine iK 1 fun K hK=> ?_;go_simp;refine (HV.out).mono ?_;rintro e w2 ⟨rfl,hb2⟩;have hb2:=hb0.trans (hb2.mono hb0.size);refine hK _ _ (fun _=>(HS.out _ hb2).2.1) ?_;clear hK K HV hS1 hb0;have HV:=bK (xY (w:=w2) s);refine iK 3 fun K hK=> ?_;go_simp;refine (HV.out).mono ?_;rintro e w3 ⟨rfl,hb3⟩;have hb3:=hb2.trans (hb3.mono hb2.size);refine hK _ _ (fun _=>(HS.out _ hb3).2.1) ?_;clear hK K HV hb2;refine iK 4 fun K hK=> ?_;go_simp;refine hK _ _ (fun _=>(HS.out _ hb3).2.1) ?_;clear hK K;refine iH aB ?_ _;have HG0:=acA (HS.out _ hb3).2.2.1 s;cases hsm:Aa m s with
 |true=>
  rw [hsm] at HG0;have HG:=bK HG0;have hn:m.h_.length<=7:=by unfold Aa at hsm;exact (fT hsm).1
  have xZ:Hid (m.err=0->s.err=0->m.h_.length<=30):=fun _ _=>by omega
  obtain ⟨⟨d0,d1,d2,d3⟩,⟨s0,s1,s2,s3,s4⟩, -⟩:=HS.out _ hb3;clear HG0 hsm;go_wp2_with fail;refine (HG.out).mono ?_;rintro e w4 ⟨rfl,hb4⟩;have hb4:=hb3.trans (hb4.mono hb3.size);clear HG d0 d1 d2 d3 s0 s1 s2 s3 s4 hb3;have HT:=bK (Ab (HS.out _ hb4).2.2.1 s hsd);obtain ⟨⟨d0,d1,d2,d3⟩,⟨s0,s1,s2,s3,s4⟩, -⟩:=HS.out _ hb4;go_wp2_with fail;refine (HT.out).mono ?_;rintro e u1 ⟨a1,c1,L1,e1,rfl,hL1,hs1,hu1⟩;have hu1:=hb4.trans (hu1.mono hb4.size);have hS1:=bK (hs1.anti (M':=fun _=>False) fun _ _ h=>h.elim);have ab4:=hs1.le;clear HT d0 d1 d2 d3 s0 s1 s2 s3 s4 hs1 hb4;have HT:=bK (yc (HS.out _ hu1).2.2.1 s hsd xZ);obtain ⟨⟨d0,d1,d2,d3⟩,⟨s0,s1,s2,s3,s4⟩, -⟩:=HS.out _ hu1;go_wp2_with fail;refine (HT.out).mono ?_;rintro e u2 ⟨a2,c2,L2,e2,rfl,hL2,hs2,hu2⟩;have acD:=bK (hS1.out.below hu2);have hu2:=hu1.trans (hu2.mono hu1.size);have hS2:=bK (hs2.anti (M':=fun _=>False) fun _ _ h=>h.elim);have Xz:=hs2.le;have hee:Hid (L1=L2/\e1=e2):=by have h1:=hL1.out;rw [hL2.out] at h1;simp only [dX] at h1;exact ⟨h1.1.symm,h1.2.symm⟩
  have acE:=hee.out.2;subst acE;have SS:=yw acD.out hS2.out;rw [dw hee.out.1] at SS;have HL:=bK SS;clear HT d0 d1 d2 d3 s0 s1 s2 s3 s4 hs2 hu1 SS hS1;go_wp2_with fail;refine (HL.out).mono ?_;rintro e u3 ⟨rfl,n3,rfl⟩;have hu3:=iF hu2 n3;generalize u2.drewN n3=u3 at*
  clear HL hu2;go_wp2_with fail;refine (tN (w:=u3)).mono ?_;rintro e u4 ⟨rfl,hu4⟩;have jh:=(HS.out _ (hu3.trans (hu4.mono hu3.size))).2.2.2.1;go_wp2;go_ret;exact ⟨rfl,jh⟩
 |false=>
  rw [hsm] at HG0;have HG:=bK HG0;obtain ⟨⟨d0,d1,d2,d3⟩,⟨s0,s1,s2,s3,s4⟩, -⟩:=HS.out _ hb3;clear HG0 hsm;go_wp2_with fail;refine (HG.out).mono ?_;rintro e w4 ⟨rfl,hb4⟩;have hb4:=hb3.trans (hb4.mono hb3.size);clear HG d0 d1 d2 d3 s0 s1 s2 s3 s4 hb3;have HV:=bK (oz (HS.out _ hb4).2.2.1);obtain ⟨⟨d0,d1,d2,d3⟩, -, -⟩:=HS.out _ hb4;by_cases he:m.err=0
  ·have LV:(m.err==0)=true:=by simp [he]
   go_wp2_with fail;refine (HV.out).mono ?_;rintro e w5 ⟨rfl,hb5⟩;have hb5:=hb4.trans (hb5.mono hb4.size);clear HV d0 d1 d2 d3 hb4;have HV:=bK (xY (w:=w5) s);obtain ⟨-,⟨s0,s1,s2,s3,s4⟩, -⟩:=HS.out _ hb5;by_cases hse:s.err=0
   ·have aow:(s.err==0)=true:=by simp [hse]
    go_wp2_with fail;refine (HV.out).mono ?_;rintro e w6 ⟨rfl,hb6⟩;have hb6:=hb5.trans (hb6.mono hb5.size);clear s0 s1 s2 s3 s4;go_wp2_with fail;refine (tN (w:=w6)).mono ?_;rintro e w7 ⟨rfl,kG⟩;have jh:=(HS.out _ (hb6.trans (kG.mono hb6.size))).2.2.2.1;go_wp2;go_ret;exact ⟨rfl,jh⟩
   have aow:(s.err==0)=false:=by simp [hse]
   have xZ:Hid (m.err=0->s.err=0->m.h_.length<=30):=fun _ h=>absurd h hse;go_wp2_with fail;refine (HV.out).mono ?_;rintro e w6 ⟨rfl,hb6⟩;have hb6:=hb5.trans (hb6.mono hb5.size);clear s0 s1 s2 s3 s4 HV hb5;have HT:=bK (Ab (HS.out _ hb6).2.2.1 s hsd);obtain ⟨⟨d0,d1,d2,d3⟩,⟨s0,s1,s2,s3,s4⟩, -⟩:=HS.out _ hb6;go_wp2_with fail;refine (HT.out).mono ?_;rintro e u1 ⟨a1,c1,L1,e1,rfl,hL1,hs1,hu1⟩;have hu1:=hb6.trans (hu1.mono hb6.size);have hS1:=bK (hs1.anti (M':=fun _=>False) fun _ _ h=>h.elim);have ab4:=hs1.le;clear HT d0 d1 d2 d3 s0 s1 s2 s3 s4 hs1 hb6;have HT:=bK (yc (HS.out _ hu1).2.2.1 s hsd xZ);obtain ⟨⟨d0,d1,d2,d3⟩,⟨s0,s1,s2,s3,s4⟩, -⟩:=HS.out _ hu1;go_wp2_with fail;refine (HT.out).mono ?_;rintro e u2 ⟨a2,c2,L2,e2,rfl,hL2,hs2,hu2⟩;have acD:=bK (hS1.out.below hu2);have hu2:=hu1.trans (hu2.mono hu1.size);have hS2:=bK (hs2.anti (M':=fun _=>False) fun _ _ h=>h.elim);have Xz:=hs2.le;have hee:Hid (L1=L2/\e1=e2):=by have h1:=hL1.out;rw [hL2.out] at h1;simp only [dX] at h1;exact ⟨h1.1.symm,h1.2.symm⟩
   have acE:=hee.out.2;subst acE;have SS:=yw acD.out hS2.out;rw [dw hee.out.1] at SS;have HL:=bK SS;clear HT d0 d1 d2 d3 s0 s1 s2 s3 s4 hs2 hu1 SS hS1;go_wp2_with fail;refine (HL.out).mono ?_;rintro e u3 ⟨rfl,n3,rfl⟩;have hu3:=iF hu2 n3;generalize u2.drewN n3=u3 at*
   clear HL hu2;go_wp2_with fail;refine (tN (w:=u3)).mono ?_;rintro e u4 ⟨rfl,hu4⟩;have jh:=(HS.out _ (hu3.trans (hu4.mono hu3.size))).2.2.2.1;go_wp2;go_ret;exact ⟨rfl,jh⟩
  have LV:(m.err==0)=false:=by simp [he]
  have xZ:Hid (m.err=0->s.err=0->m.h_.length<=30):=fun h=>absurd h he;go_wp2_with fail;refine (HV.out).mono ?_;rintro e w5 ⟨rfl,hb5⟩;have hb5:=hb4.trans (hb5.mono hb4.size);clear HV d0 d1 d2 d3 hb4;have HT:=bK (Ab (HS.out _ hb5).2.2.1 s hsd);obtain ⟨⟨d0,d1,d2,d3⟩,⟨s0,s1,s2,s3,s4⟩, -⟩:=HS.out _ hb5;go_wp2_with fail;refine (HT.out).mono ?_;rintro e u1 ⟨a1,c1,L1,e1,rfl,hL1,hs1,hu1⟩;have hu1:=hb5.trans (hu1.mono hb5.size);have hS1:=bK (hs1.anti (M':=fun _=>False) fun _ _ h=>h.elim);have ab4:=hs1.le;clear HT d0 d1 d2 d3 s0 s1 s2 s3 s4 hs1 hb5;have HT:=bK (yc (HS.out _ hu1).2.2.1 s hsd xZ);obtain ⟨⟨d0,d1,d2,d3⟩,⟨s0,s1,s2,s3,s4⟩, -⟩:=HS.out _ hu1;go_wp2_with fail;refine (HT.out).mono ?_;rintro e u2 ⟨a2,c2,L2,e2,rfl,hL2,hs2,hu2⟩;have acD:=bK (hS1.out.below hu2);have hu2:=hu1.trans (hu2.mono hu1.size);have hS2:=bK (hs2.anti (M':=fun _=>False) fun _ _ h=>h.elim);have Xz:=hs2.le;have hee:Hid (L1=L2/\e1=e2):=by have h1:=hL1.out;rw [hL2.out] at h1;simp only [dX] at h1;exact ⟨h1.1.symm,h1.2.symm⟩
  have acE:=hee.out.2;subst acE;have SS:=yw acD.out hS2.out;rw [dw hee.out.1] at SS;have HL:=bK SS;clear HT d0 d1 d2 d3 s0 s1 s2 s3 s4 hs2 hu1 SS hS1;go_wp2_with fail;refine (HL.out).mono ?_;rintro e u3 ⟨rfl,n3,rfl⟩;have hu3:=iF hu2 n3;generalize u2.drewN n3=u3 at*
  clear HL hu2;go_wp2_with fail;refine (tN (w:=u3)).mono ?_;rintro e u4 ⟨rfl,hu4⟩;have jh:=(HS.out _ (hu3.trans (hu4.mono hu3.size))).2.2.2.1;go_wp2;go_ret;exact ⟨rfl,jh⟩
end
