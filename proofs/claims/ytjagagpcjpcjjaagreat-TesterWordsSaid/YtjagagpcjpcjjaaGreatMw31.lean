/- Lemmas, each with its own conditions. -/
import Derived.Test.YtjagagpcjpcjjaaGreatMw24
import Derived.Test.YtjagagpcjpcjjaaGreatMw18
set_option maxRecDepth 100000
set_option maxHeartbeats 32000000
namespace Go.Proofs.YtjagagpcjpcjjaaGreat
open Tryz
open Go.RowKit
def Gu (o:Option (List Int)) (l:List Int) (f:Bool):Prop:=l=o.getD []/\f=o.isSome
theorem Xr:(prog.info? 279).map (fun i=>(i.zero,i.size,i.bytes))=some (some (.agg #[.int .i64 0,.int .i64 0,.slice none 0 0]),3,40):=aB
section
variable {M:Nat->Prop} {w:World} {an ao bn bo:Option Addr} {tu uw JE NQ:Nat} {a b:g_}
theorem Te (ha:Ma M w an tu ao uw a) (hb:Ma M w bn JE bo NQ b) (ea:a.err=0) (eb:b.err=0) (hi:a.gZ=b.gZ) (s t:Nat) (hs:s<a.h_.length) (ht:t<b.h_.length):Calls prog 192 #[kF a an tu ao uw,kF b bn JE bo NQ,.int .i64 s,.int .i64 t] w fun e w'=> ∃ad c l f,e= .returned (.tuple #[.slice ad l.length c,.bool f])/\Hid (Gu (lS a b s t) l f)/\Sl (fun k=>k<w.heap.size) w' ad c l/\Below w.heap.size w w':=by
 have OA:=bK (a.iG ea);have OB:=bK (b.iG eb);have HI:=bK hi;obtain ⟨nb,no,ob,oo,rfl,rfl⟩:=ha.addr OA.out;obtain ⟨nb',no',ob',Zi,rfl,rfl⟩:=hb.addr OB.out;have hi0:=OA.out.i0;have hi1:=OA.out.i1;have hn1:=OA.out.n1;have WB:=OB.out.n1;have HA:=bK ha;have HB:=bK hb;have hle:a.h_.length*b.h_.length<=16384:=eX hn1 WB
 have hN:∀l i,kY a b s t i=(l,none)->mM a b l:=fun l i h=>by
  have:=mM.kY OA.out OB.out hi (s:=s) (t:=t) ⟨ah,ah⟩ ⟨ah,ah⟩ i
  rw [h] at this
  exact this
 have HN:=bK hN;clear ea eb hi ha hb hN;obtain ⟨w2,hw2⟩:∃w2,w2=(w.alloc (iP a (some ⟨nb,no,none⟩) tu (some ⟨ob,oo,none⟩) uw)).alloc (iP b (some ⟨nb',no',none⟩) JE (some ⟨ob',Zi,none⟩) NQ):=⟨_,rfl⟩;have Az:w2.heap.size=w.heap.size+2:=by rw [hw2];simp
 have hA2:C4 w2 w.heap.size (some ⟨nb,no,none⟩) tu (some ⟨ob,oo,none⟩) uw a:=by rw [hw2];exact (kI w).below (B:=w.heap.size+1) ((bP _ _).alloc aH _) ah
 have hB2:C4 w2 (w.heap.size+1) (some ⟨nb',no',none⟩) JE (some ⟨ob',Zi,none⟩) NQ b:=by rw [hw2];simpa using kI (m:=b) (an:=(some ⟨nb',no',none⟩)) (cn:=JE) (ao:=(some ⟨ob',Zi,none⟩)) (co:=NQ) (w.alloc (iP a (some ⟨nb,no,none⟩) tu (some ⟨ob,oo,none⟩) uw))
 have Eb:Below w.heap.size w w2:=by rw [hw2];exact ((bP _ _).alloc (bM _) _).alloc aH _
 go_enter func192,ntmps192;go_wp2;rw [<-hw2];have hq0:Qu 0 (w.heap.size+2) (w2.alloc (.cells #[.int .i64 s,.int .i64 t,.slice none 0 0] 279)) 279 (.slice (some ⟨w.heap.size+1+1,0,none⟩) 1 1) [⟨s,t,[]⟩]:=by have:=Qu.one (N:=0) (T:=279) (s:=(s:Int)) (t:=(t:Int)) (B:=w.heap.size+2) (w:=w2) bg bg ah;rw [Az] at this;exact this
 have hb0:Below (w.heap.size+2) w2 (w2.alloc (.cells #[.int .i64 s,.int .i64 t,.slice none 0 0] 279)):=(bP _ _).alloc ah _;have hz2:w.heap.size+2<=w2.heap.size:=ah;have afC:w2.heap.size<=w.heap.size+2:=ah;clear hw2 Az
 go_loopw [10,11] (fun vl vi wr=>∃(i:Nat) (l:List Pl) (aq:Option Addr) (cq:Nat),i<=l.length/\vi= .int .i64 i/\vl= .slice aq l.length cq/\Hid (kY a b s t i=(l,none))/\
  Qu 0 (w.heap.size+2) wr 279 (.slice aq l.length cq) l/\Below (w.heap.size+2) w2 wr) (fun _ vi _=>a.h_.length*b.h_.length+1-(intOf vi).toNat)
 case atStart=>exact ⟨0,[⟨s,t,[]⟩],_,_,ah,rfl,rfl,rfl,hq0,hb0⟩
 case round=>
  clear hq0 hb0;obtain ⟨i,l,aq,cq,hil,rfl,rfl,hS,hQ,hB⟩:=hrel;obtain ⟨w3,rfl⟩:=iA wr;have hG:Hid (mM a b l):=HN.out l i hS.out;have hgl:l.length<=a.h_.length*b.h_.length:=hG.out.le;by_cases hlt:i<l.length
  ·obtain ⟨p,hp⟩:∃p,l[i]? =some p:=⟨_,bN hlt⟩;have HP:=bK hp;have hpm:Hid (p∈l):=bV hp;obtain ⟨r1,r2,r3,r4⟩:=hG.out.range p hpm.out;have hwl:p.word.length<=16384:=ig (hG.out.word p hpm.out);clear hp;obtain ⟨ps,pt,pw⟩:=p;simp only at r1 r2 r3 r4 hwl;obtain ⟨ps,rfl⟩:=b_ r1;obtain ⟨pt,rfl⟩:=b_ r3;have q2:ps<a.h_.length:=ah;have q4:pt<b.h_.length:=ah;have q2o:ps<a.out.length:=by rw [OA.out.lo];exact q2
   have q4o:pt<b.out.length:=by rw [OB.out.lo];exact q4
   clear r1 r2 r3 r4;go_wp2
   go_loopw [10,12] (fun vl vx wr=>∃(x:Nat) (l2:List Pl) (aq:Option Addr) (cq:Nat),x<=a.gZ.toNat/\vx= .int .i64 x/\vl= .slice aq l2.length cq/\Hid (scan a b ⟨ps,pt,pw⟩ l x=(l2,none))/\
    Qu 0 (w.heap.size+2) wr 279 (.slice aq l2.length cq) l2/\Below (w.heap.size+2) w2 wr) (fun _ vx _=>a.gZ.toNat-(intOf vx).toNat)
   case atStart=>exact ⟨0,l,aq,cq,ah,rfl,rfl,rfl,hQ,hB⟩
   case round=>
    clear hQ hB;obtain ⟨x,l2,aq2,YJ,hx,rfl,rfl,hS2,hQ,hB⟩:=hrel;obtain ⟨w4,rfl⟩:=iA wr;have hp2:Hid (l2[i]? =some ⟨ps,pt,pw⟩):=by obtain ⟨r,hr⟩:=vB a b ⟨ps,pt,pw⟩ l x;rw [hS2.out] at hr;simp only at hr;unfold Hid;rw [hr,dz hlt];exact HP.out
    have hG2:Hid (mM a b l2):=by have:=hG.out.scan OA.out OB.out HI.out hpm.out x hx;rw [hS2.out] at this;exact this
    have amw:l2.length<=a.h_.length*b.h_.length:=hG2.out.le;have LG:i<l2.length:=by
     by_cases e:i<l2.length;·exact e
     have:=hp2.out;rw [bZ ah] at this;simp at this
    have nN:w.heap.size+2<=w4.heap.size:=ig hB.size;obtain ⟨cA0,cA1,cA2,cA3⟩:=hA2.below hB ah;by_cases hlx:x<a.gZ.toNat
    ·have agk:x<b.gZ.toNat:=by rw [<-HI.out];exact hlx
     obtain ⟨gq,ad,cw,rfl,hq0,hq1,hq2,IK, -, -, -⟩:=hQ.at hp2.out;have HE:=bK (vP (x:Int) bg IK (by simp only;omega));go_wp2_with fail;refine (HE.out).mono ?_;rintro e w5 ⟨aw,Kk,wd,rfl,hwd,hSw,hb5⟩;clear cA0 cA1 cA2 cA3 hq0 hq1 hq2 IK HE;have hQ5:=hQ.later hb5;have jw:=hB.trans (hb5.mono nN);have yJ:=hb5.size;have aiV:Sl (Ou 0 (.slice (some ⟨gq,0,none⟩) l2.length YJ)) w5 aw Kk wd:=hSw.anti fun k _ hk=>hk.elim (fun e=>(hQ.lt k e).2) (fun e=>absurd e (arq k));replace hSw:Sl (fun k=>k<w.heap.size) w5 aw Kk wd:=hSw.anti fun k _ hk=>by omega
     clear hQ hB hb5;obtain ⟨cA0,cA1,cA2,cA3⟩:=hA2.below jw ah;obtain ⟨cB0,cB1,cB2,cB3⟩:=hB2.below jw ah;obtain ⟨gq', -, -,hgq,hq0,hq1, -, -, -, -, -⟩:=hQ5.at hp2.out;obtain rfl:gq=gq':=iq hgq;obtain ⟨b1,o1,c1,l1,b3,o3,c3,l3,n,y,e1,e2,e3,e4,e5,e6,e7,e8,e9,e10,e11,e12,e13⟩:=(HA.out.below (Eb.trans (jw.mono ah))).RQ OA.out q2 hlx;obtain ⟨b1',o1',c1',l1',b3',o3',c3',l3',n',y',d1,d2,d3,d4,d5,d6,d7,d8,d9,d10,d11,d12,d13⟩:=(HB.out.below (Eb.trans (jw.mono ah))).RQ OB.out q4 agk;by_cases hy:y=y'
     ·have hyb:(y !=y')=false:=by simp [hy]
      have HY:=bK hy;clear hy;go_wp2;refine go_quiet fun nq=> ?_;revert nq
      intro nqa;go_wp2;refine go_quiet fun nq=> ?_;have hQ6:Qu 0 (w.heap.size+2) ((w5.drewN nqa).drewN nq) 279 (.slice (some ⟨gq,0,none⟩) l2.length YJ) l2:=(hQ5.drewN nqa).drewN nq;have jo:Below (w.heap.size+2) w2 ((w5.drewN nqa).drewN nq):=iF (iF jw nqa) nq;have uK:=(aiV.drewN nqa).drewN nq;have qR:w4.heap.size<=((w5.drewN nqa).drewN nq).heap.size:=yJ;clear hQ5 jw aiV hSw yJ hq0 hq1 cA0 cA1 cA2 cA3 cB0 cB1 cB2 cB3 e1 e2 e3 e4 d1 d2 d3 d4;go_wp2;have hk0:Hid (false=known (l2.take 0) n n'):=bK (by simp [known])
      go_loopw [16,17] (fun vk vi wr=>∃(k:Nat) (f:Bool),k<=l2.length/\vi= .int .i64 k/\vk= .bool f/\Hid (f=known (l2.take k) n n')/\Qu 0 (w.heap.size+2) wr 279 (.slice (some ⟨gq,0,none⟩) l2.length YJ) l2/\
       Below (w.heap.size+2) w2 wr/\Sl (Ou 0 (.slice (some ⟨gq,0,none⟩) l2.length YJ)) wr aw Kk wd/\w4.heap.size<=wr.heap.size) (fun _ vi _=>l2.length-(intOf vi).toNat)
      case atStart=>exact ⟨0,false,ah,rfl,rfl,hk0,hQ6,jo,uK,qR⟩
      case round=>
       clear hQ6 jo uK qR hk0;obtain ⟨k,f,hk,rfl,rfl,hf,hQ7,jY,IL,xK⟩:=hrel;obtain ⟨w7,rfl⟩:=iA wr;by_cases hkl:k<l2.length
       ·obtain ⟨q,hq⟩:∃q,l2[k]? =some q:=⟨_,bN hkl⟩;have HQ:=bK hq;clear hq;have hks:Hid (known (l2.take (k+1)) n n'=(f||decide (q.s=n/\q.t=n'))):=by unfold Hid;rw [dh,HQ.out];simp only [aqd];rw [EN,<-hf.out]
        cases f with
        |true=>
         go_wp2;go_roundw;case rel=>exact ⟨k+1,true,ah,by go_num,rfl,bK (by rw [hks.out];rfl),hQ7,jY,IL,xK⟩
         case measure=>exact bF
        |false=>
         obtain ⟨gq', -, -,hgq,hq0,hq1, -, -, -, -, -⟩:=hQ7.at HQ.out;obtain rfl:gq=gq':=iq hgq;obtain ⟨qs,qt,qw⟩:=q;simp only at hq0 hq1;by_cases h1:qs=(n:Int)
         ·have h1':(qs==(n:Int))=true:=by simp [h1]
          have H1:=bK h1;clear h1;by_cases h2:qt=(n':Int)
          ·have h2':(qt==(n':Int))=true:=by simp [h2]
           have hk1:Hid (true=known (l2.take (k+1)) n n'):=bK (by rw [hks.out];have:=H1.out;simp [this,h2]);clear h2;go_wp2;go_roundw;case rel=>exact ⟨k+1,true,ah,by go_num,rfl,hk1,hQ7,jY,IL,xK⟩
           case measure=>exact bF
          have h2':(qt==(n':Int))=false:=by simp [h2]
          have hk1:Hid (false=known (l2.take (k+1)) n n'):=bK (by rw [hks.out];simp [h2]);clear h2;go_wp2;go_roundw;case rel=>exact ⟨k+1,false,ah,by go_num,rfl,hk1,hQ7,jY,IL,xK⟩
          case measure=>exact bF
         have h1':(qs==(n:Int))=false:=by simp [h1]
         have hk1:Hid (false=known (l2.take (k+1)) n n'):=bK (by rw [hks.out];simp [h1]);clear h1;go_wp2;go_roundw;case rel=>exact ⟨k+1,false,ah,by go_num,rfl,hk1,hQ7,jY,IL,xK⟩
         case measure=>exact bF
       have hf2:Hid (f=known l2 n n'):=bK (by rw [hf.out,bY ah]);have hsd:Hid (a.ot (((ps:Nat):Int)).toNat x=b.ot (((pt:Nat):Int)).toNat x):=bK (by rw [dK,dK,e9.out,d9.out];exact HY.out);have hnx:Hid (a.nx (((ps:Nat):Int)).toNat x=n/\b.nx (((pt:Nat):Int)).toNat x=n'):=bK (by rw [dK,dK,e8.out,d8.out];exact ⟨rfl,rfl⟩);cases f with
       |true=>
        have kC:Hid (scan a b ⟨ps,pt,pw⟩ l (x+1)=(l2,none)):=EO hS2.out hsd.out (by simp only;rw [hnx.out.1,hnx.out.2];exact hf2.out.symm);go_wp2;go_roundw;case rel=>exact ⟨x+1,l2,_,_,ah,by go_num,rfl,kC,hQ7,jY⟩
        case measure=>exact bF
       |false=>
        have kC:Hid (scan a b ⟨ps,pt,pw⟩ l (x+1)=(l2++[⟨n,n',wd⟩],none)):=by have h1:=Nz hS2.out hsd.out (by simp only;rw [hnx.out.1,hnx.out.2];exact hf2.out.symm);simp only at h1;rw [hnx.out.1,hnx.out.2,<-hwd.out] at h1;exact h1
        have hzs:w.heap.size+2<=w7.heap.size:=ah;have hQa:=hQ7.alloc (.cells #[.int .i64 n,.int .i64 n',.slice aw wd.length Kk] 279);have hSa:=IL.alloc (.cells #[.int .i64 n,.int .i64 n',.slice aw wd.length Kk] 279);clear hQ7 IL;go_wp2_with (at_builtin;refine FD (N:=0) (B:=w.heap.size+2) (l:=l2) (q:=⟨n,n',wd⟩) rfl rfl underlying280 Xr rfl rfl rfl hQa bf bf bf hSa (by unfold i64;simp only;omega) (by unfold i64;simp only;omega) ah aJ ?_);intro a8 c8 l8 w8 hl8 hQ8 Xh Mf;have mg:Below (w.heap.size+2) w2 w8:=(jY.alloc ah _).grown Mf aJ (fun q hq=>(hQa.lt q hq).1);go_wp2;go_roundw;case rel=>exact ⟨x+1,l8,a8,c8,ah,by go_num,rfl,bK (by rw [hl8.out];exact kC.out),hQ8,mg⟩
        case measure=>exact bF
     have hyb:(y !=y')=true:=by simp [hy]
     have HF:=bK (CU hS.out HP.out (JD hS2.out (by simp only [dK];rw [e9.out,d9.out];exact hy)) ah ah);clear hy;go_wp2;refine go_quiet fun nq=> ?_;go_wp2;go_ret2;refine ⟨aw,Kk,wd,true,rfl,?_,hSw.drewN _,iF (Eb.trans (jw.mono ah)) _⟩;unfold Hid Gu;rw [HF.out,hwd.out];exact ⟨rfl,rfl⟩
    go_wp2;go_roundw;case rel=>exact ⟨i+1,l2,aq2,YJ,ah,by go_num,rfl,bK (by rw [BR hS.out HP.out,<-hS2.out,show a.gZ.toNat=x by omega]),hQ,hB⟩
    case measure=>exact bF
  have HF:=bK (EP hS.out ah ah);have hbf:=Eb.trans (hB.mono ah);go_wp2;go_ret2;refine ⟨none,0,[],false,rfl,?_,Sl.nil _ _ _ aS,hbf⟩;unfold Hid Gu;rw [HF.out];exact ⟨rfl,rfl⟩
end
