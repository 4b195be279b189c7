/- Lemmas, each with its own conditions. -/
import Derived.Test.YtjagagpcjpcjjaaGreatMw43
import Derived.Test.YtjagagpcjpcjjaaGreatMw38
import Derived.Test.YtjagagpcjpcjjaaGreatMw30
import Derived.Test.YtjagagpcjpcjjaaGreatMw27
set_option maxRecDepth 100000
set_option maxHeartbeats 32000000
namespace Go.Proofs.YtjagagpcjpcjjaaGreat
section
open Tryz
open Go.RowKit
theorem wz {x y:Int} (h:x=y):Ending.returned (.int .i64 x)= .returned (.int .i64 y):=by rw [h]
section
variable {M MT:Nat->Prop} {w:World} {an ao aT:Option Addr} {cn co cT:Nat} {m:g_} {T:List Nd}
theorem xW (hm:Ma M w an cn ao co m):Calls prog 148 #[kF m an cn ao co] w fun e w'=>e= .returned (.int .i64 m.iU)/\Below w.heap.size w w':=by
 have hB0:=iB w (iP m an cn ao co);have hx0:=jE w m an cn ao co;have hz0:w.heap.size+1<=(w.alloc (iP m an cn ao co)).heap.size:=aH;have HM:=bK hm;have HC:=bK (oz (HM.out.below hB0));clear hm;by_cases he:m.err=0;rotate_left
 ·have LV:(m.err !=0)=true:=by simp [he]
  have hF:Hid (m.err=m.iU):=(g_.Gv he).symm;clear he;go_enter func148,ntmps148;go_wp2_with fail;generalize w.alloc (iP m an cn ao co)=w0 at*
  refine (HC.out).mono ?_;rintro e w1 ⟨rfl,hb1⟩;have hB1:=hB0.trans (hb1.mono ah);go_wp2;go_ret;exact ⟨wz hF.out,hB1⟩
 have LV:(m.err !=0)=false:=by simp [he]
 have HE:=bK he;clear he;go_enter func148,ntmps148;go_wp2_with fail;generalize w.alloc (iP m an cn ao co)=w0 at*
 refine (HC.out).mono ?_;rintro e w1 ⟨rfl,hb1⟩;have hB1:=hB0.trans (hb1.mono ah);have hx1:=hx0.below hb1 ah;have hz1:w.heap.size+1<=w1.heap.size:=ig hb1.size;have HC:=bK (Mg (HM.out.below hB1));clear hB0 hx0 hz0 hb1;go_wp2_with fail;refine (HC.out).mono ?_;rintro e w2 ⟨v,rfl,hv,hb2⟩;have hB2:=hB1.trans (hb2.mono ah);clear HC hb2 hB1;cases v with
 |true=>have hF:Hid ((0:Int)=m.iU):=(g_.Gx HE.out hv.out.symm).symm;go_wp2;go_ret;exact ⟨wz hF.out,hB2⟩
 |false=>have hF:Hid ((1:Int)=m.iU):=(g_.Gw HE.out hv.out.symm).symm;go_wp2;go_ret;exact ⟨wz hF.out,hB2⟩
theorem DR (hm:Ma M w an cn ao co m) (hT:Sl MT w aT cT T) (hn:Hid (m.h_.length<1000)) (TH:Hid (T.length<1000000000)):Calls prog 155 #[kF m an cn ao co,.agg #[.slice aT T.length cT]] w fun e w'=>e= .returned (.int .i64 (m.jm T))/\Below w.heap.size w w':=by
 have hB0:=iB w (iP m an cn ao co);have hx0:=jE w m an cn ao co;have hB1:=hB0.alloc aH (.cells #[.slice aT T.length cT] 119);have hx1:=hx0.below ((bP (w.heap.size+1) (w.alloc (iP m an cn ao co))).alloc aH (.cells #[.slice aT T.length cT] 119)) ah;have ht1:((w.alloc (iP m an cn ao co)).alloc (.cells #[.slice aT T.length cT] 119)).cell? ⟨w.heap.size+1,0,none⟩=some (.slice aT T.length cT):=aH;have hz1:((w.alloc (iP m an cn ao co)).alloc (.cells #[.slice aT T.length cT] 119)).heap.size=w.heap.size+2:=aH;have l1:=hm.h_.le;have l2:=hm.out.le;have l5:=hT.le;have HM:=bK hm;have HT:=bK hT;have Ht:=bK (xW (hm.below hB1));clear hm hT hB0 hx0;go_enter func155,ntmps155;go_upto_region 1 with (fail);generalize (w.alloc (iP m an cn ao co)).alloc (.cells #[.slice aT T.length cT] 119)=w1 at*
 go_wp2_with fail;refine (Ht.out).mono ?_;rintro e w2 ⟨rfl,hb2⟩;have hx2:=hx1.below hb2 ah;have hB2:=hB1.trans (hb2.mono ah);have ht2:=(hb2.cell (p:=⟨w.heap.size+1,0,none⟩) (by show w.heap.size+1<_;omega)).trans ht1;have hz2:w.heap.size+2<=w2.heap.size:=ig hb2.size;clear hx1 hB1 hb2 hz1 Ht ht1;by_cases he:m.iU=0
 ·have he':(m.iU !=0)=false:=by simp [he]
  have HE:=bK he;have ok:Hid m.Ok:=g_.iG m (g_.jv HE.out).1;clear he;have Ii:=bK (Bc (w:=w2) m.h_.length (ig hn.out));go_wp2_with fail;refine (Ii.out).mono ?_;rintro e w3 ⟨a3,c3,I3,rfl,Ih,hs3,hb3⟩;have hx3:=hx2.below hb3 ah;have hB3:=hB2.trans (hb3.mono ah);have ht3:=(hb3.cell (p:=⟨w.heap.size+1,0,none⟩) (by show w.heap.size+1<_;omega)).trans ht2;have hz3:w.heap.size+2<=w3.heap.size:=ig hb3.size;clear hx2 hB2 ht2 hz2 hb3 Ii;go_upto_region 5 with (fail);by_cases mP:4096<T.length
  ·have hR:Hid ((1:Int)=m.jm T):=by unfold Hid g_.jm;rw [bO (by simp [HE.out]),bQ mP]
   have hbb:(((T.length:Nat):Int)>4096):=ah;have aob:decide (4096<(T.length:Int))=true:=dw ah;refine iL (fun w'=>C4 w' w.heap.size an cn ao co m/\w'.cell? ⟨w.heap.size+1,0,none⟩=some (.slice aT T.length cT)) [0,1,2,3,4,5,6,7,8,9,10,11,12,13,14] aB ?_;have hbd:=(bP w3.heap.size w3).drew;have hB4:=hB3.trans (hbd.mono ah);have ku:=And.intro (hx3.below hbd ah) ((hbd.cell (p:=⟨w.heap.size+1,0,none⟩) (by show w.heap.size+1<_;omega)).trans ht3);clear hx3 hB3 ht3 hbd hz3;generalize w3.drew=w4 at*
   refine iZ [0,1,2,3,4] ?_;refine je 5 ?_;try simp only [Act.put,cB,dF,dI]
   refine je 6 ?_;try simp only [Act.put,cB,dF,dI]
   refine je 7 ?_;try simp only [Act.put,cB,dF,dI]
   refine je 8 ?_;try simp only [Act.put,cB,dF,dI]
   refine je 10 ?_;try simp only [Act.put,cB,dF,dI]
   refine je 11 ?_;try simp only [Act.put,cB,dF,dI]
   refine je 12 ?_;try simp only [Act.put,cB,dF,dI]
   refine kZ 9 ?_;try simp only [Act.put,cB,dF,dI]
   refine kZ 13 ?_;try simp only [Act.put,cB,dF,dI]
   refine iZ [14] ?_;refine iH aB ?_ _;clear ku;go_wp2;go_ret;exact ⟨wz hR.out,hB4⟩
  have KH:=bK mP;have hbb:¬(((T.length:Nat):Int)>4096):=ah;have aob:decide (4096<(T.length:Int))=false:=cZ ah;refine iL (fun w'=>C4 w' w.heap.size an cn ao co m/\w'.cell? ⟨w.heap.size+1,0,none⟩=some (.slice aT T.length cT)) [0,1,2,3,4,5,6,7,8,10,11,12,13,14] aB ?_;have hbd:=(bP w3.heap.size w3).drew;have hB4:=hB3.trans (hbd.mono ah);have ku:=And.intro (hx3.below hbd ah) ((hbd.cell (p:=⟨w.heap.size+1,0,none⟩) (by show w.heap.size+1<_;omega)).trans ht3);have nN:w.heap.size+2<=w3.drew.heap.size:=hz3;have hs4:=bK (hs3.below hbd);clear hx3 hB3 ht3 hbd hz3;generalize w3.drew=w4 at*
  have MN:Hid (Ms m.h_.length ⟨I3,I3⟩):=BA ok.out Ih.out Ih.out;have HRi:=bK (Qz (T.length+1) (at':=0) (g:=⟨I3,I3⟩) (HM.out.below hB4) (HT.out.below hB4) hs4.out hs4.out ok MN (by show Hid (I3.length<1000);unfold Hid;rw [Ih.out,kS];exact hn.out) TH (bK (ap1 _)) (bK ah));have hgr:Hid (∀r,m.right T (T.length+1) 0 ⟨I3,I3⟩=r->m.right T (T.length+1) 0 ⟨jK m.h_.length,jK m.h_.length⟩=r):=fun r h=>by rw [<-h,Ih.out]
  refine iZ [0,1,2,3,4,5,6,7,8,10,11,12] ?_;refine iK 9 fun K hK=> ?_;go_simp;refine (HRi.out).mono ?_;rintro e w5 ⟨r,rfl,hr,hb5⟩;have jw:=hB4.trans (hb5.mono ah);have hS5:=And.intro (ku.1.below hb5 ah) ((hb5.cell (p:=⟨w.heap.size+1,0,none⟩) (by show w.heap.size+1<_;omega)).trans ku.2);refine hK _ _ (fun _=>hS5) ?_;clear hK K hB4 ku nN hs4 HRi hb5;by_cases hrT:r=(T.length:Int)
  ·have hR:Hid ((0:Int)=m.jm T):=by
    unfold Hid g_.jm;rw [bO (by simp [HE.out]),bO KH.out];rcases hr.out with ⟨n,h1,h2⟩|⟨h1,h2⟩;·rw [hgr.out _ h1,bQ (by rw [show n=T.length by omega])]
    omega
   have hrb:(r !=(T.length:Int))=false:=by simp [hrT]
   clear hrT hr;refine iZ [13,14] ?_;refine iH aB ?_ _;clear hS5;go_wp2;go_ret;exact ⟨wz hR.out,jw⟩
  have hR:Hid ((1:Int)=m.jm T):=by
   unfold Hid g_.jm;rw [bO (by simp [HE.out]),bO KH.out];rcases hr.out with ⟨n,h1,h2⟩|⟨h1,h2⟩;·rw [hgr.out _ h1,bO aJ]
   rw [bO];intro e;rw [<-Ih.out] at e;rw [e] at h1;simp at h1
  have hrb:(r !=(T.length:Int))=true:=by simp [hrT]
  clear hrT hr;refine iZ [13,14] ?_;refine iH aB ?_ _;clear hS5;go_wp2;go_ret;exact ⟨wz hR.out,jw⟩
 have he':(m.iU !=0)=true:=by simp [he]
 have hR:Hid (m.iU=m.jm T):=by unfold Hid g_.jm;rw [bQ he]
 clear he;go_wp2;go_ret;exact ⟨wz hR.out,hB2⟩
theorem aem {a:Nat} {c:Int} {x:Nd} (h:m.Wi T a c) (hx:T[a]? =some x) (h0:0<=x.inp) {i j:Nat} {p q:Kd} (hi:x.kids[i]? =some p) (hj:x.kids[j]? =some q) (e:p.out=q.out):i=j:=by
 obtain ⟨f,g,e',hr,hc,hg,hgi⟩:=h;obtain ⟨h1,h2,f',h3⟩:=g_.DC hr hx h0
 have Wm:∀(j:Nat) (kj:Kd),x.kids[j]? =some kj->∃oj,(m.jG x.inp.toNat g.cur)[j]? =some oj/\kj.out=oj:=fun j kj hj=>by
  have hjl:=iW hj
  obtain ⟨oj,hoj⟩:∃oj,(m.jG x.inp.toNat g.cur)[j]? =some oj:=⟨_,bN (by rw [<-g_.oJ,h2];exact hjl)⟩
  have:=h3 j ((oj,m.yH x.inp.toNat g.jC g.cur oj),kj) (List.getElem?_zip_eq_some.2 ⟨g_.o_ hoj,hj⟩)
  exact ⟨oj,hoj,this.1⟩
 obtain ⟨o1,h4,h5⟩:=Wm i p hi;obtain ⟨o2,h6,h7⟩:=Wm j q hj;have hA:qP (m.jG x.inp.toNat g.cur):=xI _;have a1:=oH hA h4;have a2:=oH hA h6;rw [<-h5,e,h7] at a1;omega
theorem Uo (hm:Ma M w an cn ao co m) (hT:Sl MT w aT cT T) (hn:Hid (m.h_.length<1000)) (hc:Hid (m.jm T=0)) (s:Nat) (hs:s<m.h_.length):Calls prog 156 #[kF m an cn ao co,.agg #[.slice aT T.length cT],.int .i64 s] w fun e w'=>∃(a:Option Addr) (c:Nat) (W:List Int) (l:Nat),e= .returned (.tuple #[.slice a W.length c,.int .i64 l,.int .i64 0])/\Hid (m.uS T s=(W,l))/\Hid (W.length<=l/\l<T.length/\∃c,m.Wi T l c)/\Sl (fun k=>k<w.heap.size) w' a c W/\Below w.heap.size w w':=by
 have ok:Hid m.Ok:=g_.iG m (g_.jv (g_.lg hc.out).1).1;have hT4:=bK (g_.lg hc.out).2.1;have hTl:=hT4.out;have hw0:=bK (g_.ahw ok.out hc.out hs);have hB0:=iB w (iP m an cn ao co);have hx0:=jE w m an cn ao co;have hB1:=hB0.alloc aH (.cells #[.slice aT T.length cT] 119);have hx1:=hx0.below ((bP (w.heap.size+1) (w.alloc (iP m an cn ao co))).alloc aH (.cells #[.slice aT T.length cT] 119)) ah;have ht1:((w.alloc (iP m an cn ao co)).alloc (.cells #[.slice aT T.length cT] 119)).cell? ⟨w.heap.size+1,0,none⟩=some (.slice aT T.length cT):=aH;have hz1:((w.alloc (iP m an cn ao co)).alloc (.cells #[.slice aT T.length cT] 119)).heap.size=w.heap.size+2:=aH;have n1:=ok.out.n1;have l1:=hm.h_.le;have l2:=hm.out.le;have l5:=hT.le;have HM:=bK hm;have HT:=bK hT;have TY:=DR (hm.below hB1) (hT.below hB1) hn (bK ah);rw [hc.out] at TY;have Ht:=bK TY;have hW0:Hid (m.uS T s=m.lY T T.length 0 s []):=rfl;clear hm hT hB0 hx0 TY;go_enter func156,ntmps156;go_upto_region 1 with (fail);generalize (w.alloc (iP m an cn ao co)).alloc (.cells #[.slice aT T.length cT] 119)=w1 at*
 go_wp2_with fail;refine (Ht.out).mono ?_;rintro e w2 ⟨rfl,hb2⟩;have hx2:=hx1.below hb2 ah;have hB2:=hB1.trans (hb2.mono ah);have ht2:=(hb2.cell (p:=⟨w.heap.size+1,0,none⟩) (by show w.heap.size+1<_;omega)).trans ht1;have hz2:w.heap.size+2<=w2.heap.size:=ig hb2.size;clear hx1 hB1 hb2 hz1 Ht ht1
 have HS:Hid (∀w',Below w2.heap.size w2 w'->C4 w' w.heap.size an cn ao co m/\w'.cell? ⟨w.heap.size+1,0,none⟩=some (.slice aT T.length cT)):=fun w' h=>
  ⟨hx2.below h ah,(h.cell (p:=⟨w.heap.size+1,0,none⟩) (by show w.heap.size+1<_;omega)).trans ht2⟩
 have hs0:decide ((s:Int)<0)=false:=cZ ah;have hs1:decide (m.h_.length<=s)=false:=cZ ah;have hba:=bP w2.heap.size w2;go_wp2_with fail
 go_loopw [2,10,11] (fun u v i wr=>∃(at' c fu:Nat) (a':Option Addr) (c':Nat) (W:List Int),u= .int .i64 c/\i= .int .i64 at'/\v= .slice a' W.length c'/\Hid (m.uS T s=m.lY T fu at' c W)/\Hid (m.Wi T at' c)/\Hid (T.length<=at'+fu)/\Hid (W.length<=at')/\
  Ow w2.heap.size (fun k=>w2.heap.size<=k) wr 3 (.slice a' W.length c') W/\Below w2.heap.size w2 wr) (fun _ _ i _=>T.length-(intOf i).toNat)
 case atStart=>exact ⟨0,s,T.length,none,0,[],rfl,rfl,rfl,hW0,hw0,bK ah,by simp [Hid],Ow.nil,hba⟩
 case round=>
  clear hW0 hw0 hba;obtain ⟨at',c,fu,a',c',W,rfl,rfl,rfl,hWg,hWi,hfu,Bf,hO,hB⟩:=hrel;obtain ⟨wo,rfl⟩:=iA wr;have hwl:=bK (g_.VJ hWi.out);have abE:=hwl.out.1;have hcl:c<m.h_.length:=ig hwl.out.2.2;have hSo:=HS.out _ hB;have hto:=hSo.2;have hm3:=hSo.1.2.2.2;have qK:=hB2.trans (hB.mono ah);obtain ⟨bT,oT,a1,c1,a2,c2,x,rfl,hx0,hx1,T_,hxe,hxs,hxk,hxi⟩:=HT.out.Dx abE;have HX1:Hid (∀w',Below w.heap.size w w'->w'.cell? ⟨bT,oT+at'*3+1,none⟩=some (.int .i64 x.inp)):=fun w' h=>(h.cell (p:=⟨bT,oT+at'*3+1,none⟩) (lt_of_cell hx1)).trans hx1;have HX2:Hid (∀w',Below w.heap.size w w'->w'.cell? ⟨bT,oT+at'*3+2,none⟩=some (.slice a2 x.kids.length c2)):=fun w' h=>(h.cell (p:=⟨bT,oT+at'*3+2,none⟩) (lt_of_cell T_)).trans T_;clear hxs hx0 hx1 T_;have hx1:=HX1.out _ qK;have HXK:=bK hxk;have ag6:=hxk.le;clear hxk hSo;by_cases h0:x.inp>=0
  ·obtain ⟨xn,hxn⟩:=b_ h0;obtain ⟨ahx,k,kd,n',hkd,hko,hkb,hkt,han,TI,Mq⟩:=g_.ME ok.out hWi.out hxe.out h0;have hun:Hid (∀(j:Nat) (q:Kd),x.kids[j]? =some q->q.out=kd.out->j=k):=fun j q hq e=>aem hWi.out hxe.out h0 hq hkd e;have aeb:xn<m.gZ.toNat:=ah;rw [hxn] at hx1 hko hkb Mq;have h0x:(xn:Int)>=0:=ah;have hkl:=iW hkd;have abF:=bK hko;have Ua:=bK hkd;have Jr:=bK hkb;have abG:=bK hkt;have ahy:=bK Mq;have DZ:=bK hxn;obtain ⟨bn,on,bo,oo,rfl,rfl⟩:=(HM.out.addr ok.out);clear hko hkd hkb hkt Mq hxn h0 ahx;obtain ⟨b1,o1,d1,r1,b2,o2,d2,r2,nn,y,hn1,hn2,wU,hn4,hn5,hy0,hy1,hnx,hot,hr1,hr2,hr3,hr4⟩:=HM.out.RQ ok.out hcl aeb
   have HN:Hid (∀w',Below w.heap.size w w'->(w'.cell? ⟨bo,oo+c,none⟩=some (.slice (some ⟨b2,o2,none⟩) r2 d2)/\w'.cell? ⟨b2,o2+xn,none⟩=some (.int .i64 y))/\w'.cell? ⟨bn,on+c,none⟩=some (.slice (some ⟨b1,o1,none⟩) r1 d1)/\w'.cell? ⟨b1,o1+xn,none⟩=some (.int .i64 nn)):=fun w' h=>
    ⟨⟨(h.cell (p:=⟨bo,oo+c,none⟩) (lt_of_cell hn2)).trans hn2,(h.cell (p:=⟨b2,o2+xn,none⟩) (lt_of_cell hn4)).trans hn4⟩,(h.cell (p:=⟨bn,on+c,none⟩) (lt_of_cell hn1)).trans hn1,(h.cell (p:=⟨b1,o1+xn,none⟩) (lt_of_cell wU)).trans wU⟩
   clear hn1 hn2 wU hn4;obtain ⟨⟨hq1,hq2⟩, -, -⟩:=HN.out _ qK;have hso:c<m.out.length:=by rw [ok.out.lo];exact hcl
   have ahA:=Bf.out;have abI:Hid (i64 (xn:Int)):=by have h:=hxi.out;rw [DZ.out] at h;exact h
   have alj:=hB.size;go_wp2_with (at_builtin;refine iQ (B:=w2.heap.size) (l:=W) (y:=(xn:Int)) rfl rfl underlying49 iE rfl rfl (hO.alloc _) bf abI.out ah aJ ?_);intro a6 c6 W6 w6 BK lu hb6;have jo:=(hB.alloc alj (.cells #[.int .i64 (xn:Int)] 3)).trans hb6;have pY:=hB2.trans (jo.mono ah);have uK:=HS.out _ jo;have ht6:=uK.2;have hm2:=uK.1.2.2.1;obtain ⟨-,hq3,hq4⟩:=HN.out _ pY;have P_:=HX2.out _ pY;have hHK:=bK (HXK.out.below pY);have ahB:Hid (W6.length=W.length+1):=bK (by rw [BK.out];simp);clear hO hB qK hto hm3 hx1 hq1 hq2 hb6 uK alj;obtain ⟨Ye,hfe⟩:∃Ye,fu=Ye+1:=⟨fu-1,ig hfu.out⟩;have aoc:Hid (m.ot c xn=y):=hot;have alk:Hid (m.nx c xn=(nn:Int)):=hnx;have ahD:Hid (m.uS T s=m.lY T Ye n' nn W6):=by unfold Hid;rw [hWg.out,hfe,g_.CB hxe.out (by rw [DZ.out];exact Int.natCast_nonneg _) (g_.He Ua.out (by rw [abF.out,DZ.out]) (by rw [DZ.out];exact Jr.out)),abG.out,DZ.out,BK.out];show m.lY T Ye n' (m.nx c xn) _=_;rw [alk.out]
   have ahE:Hid (m.Wi T n' nn):=by have h:=ahy.out;rw [show m.nx ((c:Int)).toNat ((xn:Int)).toNat=(nn:Int) from alk.out] at h;exact h
   have ahF:Hid (T.length<=n'+Ye):=bK (ig hfu.out);have ahG:Hid (W6.length<=n'):=bK (by rw [ahB.out];have:=Bf.out;omega);have alm:Hid (kd.out=y):=bK (by rw [abF.out,<-aoc.out];rfl);clear hfe hnx hot;have hE0:Hid (at'=if k<0 then n' else at'):=bK (by rw [bO ah]);go_wp2_with fail;go_loop [11,15] (fun u i=>∃j v:Nat,j<=x.kids.length/\i= .int .i64 j/\u= .int .i64 v/\Hid (v=if k<j then n' else at')) (fun _ i=>x.kids.length-(intOf i).toNat);case atStart=>exact ⟨0,at',ah,rfl,rfl,hE0⟩
   case round=>
    clear hE0;obtain ⟨j,v,hj,rfl,rfl,hv⟩:=hrel;by_cases hjl:j<x.kids.length
    ·obtain ⟨bk,okk,q,rfl,akC,abH,hqe, -⟩:=hHK.out.PN hjl;by_cases hqo:q.out=y
     ·have hqb:(q.out==y)=true:=by simp [hqo]
      have hjk:j=k:=hun.out j q hqe.out (by rw [hqo,alm.out]);have hqt:q.to=(n':Int):=by have h:=hqe.out;rw [hjk,Ua.out] at h;obtain rfl:=fH h;exact abG.out
      rw [hqt] at abH;have hv2:Hid (n'=if k<j+1 then n' else at'):=bK (by rw [bQ ah]);clear hqo hjk hqt;go_wp2;go_round;case rel=>exact ⟨j+1,n',ah,by go_num,rfl,hv2⟩
      case measure=>exact bF
     have hqb:(q.out==y)=false:=by simp [hqo]
     have hjk:j≠k:=fun e=>hqo (by
      have h:=hqe.out
      rw [e,Ua.out] at h
      obtain rfl:=fH h
      exact alm.out)
     have hv2:Hid (v=if k<j+1 then n' else at'):=by
      unfold Hid;rw [hv.out];by_cases e:k<j;·rw [bQ e,bQ ah]
      rw [bO e,bO ah]
     clear hqo hjk;go_wp2;go_round;case rel=>exact ⟨j+1,v,ah,by go_num,rfl,hv2⟩
     case measure=>exact bF
    have hvn:v=n':=by have h:=hv.out;rw [bQ ah] at h;exact h
    subst hvn;go_wp2;go_roundw;case rel=>exact ⟨v,nn,Ye,a6,c6,W6,rfl,rfl,rfl,ahD,ahE,ahF,ahG,lu,jo⟩
    case measure=>exact bF
  have hF:Hid (m.uS T s=(W,at')):=bK (by rw [hWg.out];exact g_.xR hxe.out ah);have hfr:=hO.fresh (n:=w.heap.size) ah;go_wp2;exact dG (v:= .tuple #[.slice a' W.length c',.int .i64 at',.int .i64 0]) (by simp [results,results156,go_sem]) rfl ⟨a',c',W,at',rfl,hF,bK ⟨Bf.out,abE,_,hWi.out⟩,hfr,qK⟩
end
theorem Yk {L:List Nd} {k:Nat} {nd:Nd} (h:L[k]? =some nd) (h1:nd.inp= -1) (h2:nd.st.length≠1):lZ L=false:=by
 unfold lZ;rw [Bool.and_eq_false_iff];exact .inl (aqw.2 ⟨nd,bV h,by simp [h1,h2]⟩)
theorem Uq {L:List Nd} (h:∀(j:Nat) (nd:Nd),j<L.length->L[j]? =some nd->nd.inp≠ -1\/nd.st.length=1):lZ L=decide (0<L.length):=by
 unfold lZ
 have:L.all (fun x=>decide (x.inp≠ -1\/x.st.length=1))=true:=f_.2 fun x hx=>by
  obtain ⟨j,hj,rfl⟩:=fq hx
  exact dw (h j _ hj (bN hj))
 rw [this,aq1]
section
variable {M:Nat->Prop} {w:World} {a:Option Addr} {c:Nat} {L:List Nd}
theorem Io (hs:Sl M w a c L) (hn:Hid (L.length<1000000)):Calls prog 154 #[.agg #[.slice a L.length c]] w fun e w'=>e= .returned (.bool (lZ L))/\Below w.heap.size w w':=by
 have hB0:=iB w (.cells #[.slice a L.length c] 119);have ht0:(w.alloc (.cells #[.slice a L.length c] 119)).cell? ⟨w.heap.size,0,none⟩=some (.slice a L.length c):=aH;have hz0:w.heap.size<(w.alloc (.cells #[.slice a L.length c] 119)).heap.size:=aH;have hn1:=hn.out;have HS:=bK hs;have hle:=hs.le;clear hs;go_enter func154,ntmps154;go_upto_region 1 with (fail);generalize w.alloc (.cells #[.slice a L.length c] 119)=w0 at*
 have HT:Hid (∀w',Below w0.heap.size w0 w'->w'.cell? ⟨w.heap.size,0,none⟩=some (.slice a L.length c)):=fun w' h=>(h.cell (p:=⟨w.heap.size,0,none⟩) hz0).trans ht0;have hR0:Hid (∀(j:Nat) (nd:Nd),j<0->L[j]? =some nd->nd.inp≠ -1\/nd.st.length=1):=fun j nd h=>by omega
 have Qw:=bP w0.heap.size w0;clear ht0;go_wp2;go_loopw [3] (fun i wr=>∃k:Nat,k<=L.length/\i= .int .i64 k/\Hid (∀(j:Nat) (nd:Nd),j<k->L[j]? =some nd->nd.inp≠ -1\/nd.st.length=1)/\Below w0.heap.size w0 wr) (fun i _=>L.length-(intOf i).toNat);case atStart=>exact ⟨0,ah,rfl,hR0,Qw⟩
 case round=>
  clear hR0 Qw;obtain ⟨k,hk,rfl,hR,hBl⟩:=hrel;obtain ⟨wo,rfl⟩:=iA wr;have qK:=hB0.trans (hBl.mono ah);have ht:=HT.out _ hBl;by_cases hlt:k<L.length
  ·obtain ⟨b,off,a1,c1,a2,c2,q,rfl,h1,h2,h3,hq,Ey, -, -⟩:=(HS.out.below qK).Dx hlt;have ant:=Ey.le;clear Ey;by_cases hin:q.inp= -1
   ·have ahq:(q.inp== -1)=true:=by simp [hin]
    by_cases hst:q.st.length=1
    ·have aod:(((q.st.length:Nat):Int) !=1)=false:=by simp [hst]
     have hR2:Hid (∀(j:Nat) (nd:Nd),j<k+1->L[j]? =some nd->nd.inp≠ -1\/nd.st.length=1):=fun j nd hj hnd=>by
      by_cases e:j=k
      ·subst e;rw [hq.out] at hnd;obtain rfl:=fH hnd;exact .inr hst
      exact hR.out j nd ah hnd
     clear hin hst;go_wp2;go_roundw;case rel=>exact ⟨k+1,ah,by go_num,hR2,hBl⟩
     case measure=>exact bF
    have aod:(((q.st.length:Nat):Int) !=1)=true:=aJ;have hC:Hid (lZ L=false):=Yk hq.out hin hst;clear hin hst;go_wp2;go_ret;exact ⟨by rw [hC.out];rfl,qK⟩
   have ahq:(q.inp== -1)=false:=by simp [hin]
   have hR2:Hid (∀(j:Nat) (nd:Nd),j<k+1->L[j]? =some nd->nd.inp≠ -1\/nd.st.length=1):=fun j nd hj hnd=>by
    by_cases e:j=k
    ·subst e;rw [hq.out] at hnd;obtain rfl:=fH hnd;exact .inl hin
    exact hR.out j nd ah hnd
   clear hin;go_wp2;go_roundw;case rel=>exact ⟨k+1,ah,by go_num,hR2,hBl⟩
   case measure=>exact bF
  have hC:Hid (lZ L=decide (0<L.length)):=Uq fun j nd hj=>hR.out j nd ah;by_cases h0:0<L.length;·have h0i:((L.length:Nat):Int)>0:=ah;have h0d:decide (0<L.length)=true:=dw h0;have hC2:Hid (lZ L=true):=bK (by rw [hC.out,h0d]);go_wp2;go_ret;exact ⟨by rw [hC2.out];rfl,qK⟩
  have h0i:¬((L.length:Nat):Int)>0:=ah;have h0d:decide (0<L.length)=false:=cZ h0;have hC2:Hid (lZ L=false):=bK (by rw [hC.out,h0d]);go_wp2;go_ret;exact ⟨by rw [hC2.out];rfl,qK⟩
end
section
variable {M:Nat->Prop} {w:World} {an ao:Option Addr} {cn co:Nat} {m:g_}
theorem QS (hm:Ma M w an cn ao co m) (hn:Hid (m.h_.length<1000)):Calls prog 94 #[kF m an cn ao co] w fun e w'=>∃(a:Option Addr) (c:Nat) (L:List Nd) (y:Bool) (e1:Int),e= .returned (.tuple #[.agg #[.slice a L.length c],.bool y,.int .i64 e1])/\ Hid (m.mV=(L,y,e1))/\Sl (fun k=>k<w.heap.size) w' a c L/\Below w.heap.size w w':=by
 have hB0:=iB w (iP m an cn ao co);have hx0:=jE w m an cn ao co;have hB1:=hB0.alloc aH (.cells #[.slice none 0 0] 119);have hx1:=hx0.below ((bP (w.heap.size+1) (w.alloc (iP m an cn ao co))).alloc aH (.cells #[.slice none 0 0] 119)) ah;have hr1:Hid (((w.alloc (iP m an cn ao co)).alloc (.cells #[.slice none 0 0] 119)).heap[w.heap.size+1]? =some (.cells #[.slice none 0 0] 119 (0,0))):=by have:=dS (w.alloc (iP m an cn ao co)) (.cells #[.slice none 0 0] 119);unfold Hid;simpa using this
 have hz1:((w.alloc (iP m an cn ao co)).alloc (.cells #[.slice none 0 0] 119)).heap.size=w.heap.size+2:=aH;have HM:=bK hm;have hnl:=hm.h_.le;have Ht:=bK (xW (hm.below hB1));clear hm hB0 hx0;go_enter func94,ntmps94;go_upto_region 1 with (fail);generalize (w.alloc (iP m an cn ao co)).alloc (.cells #[.slice none 0 0] 119)=w1 at*
 go_upto_region 2 with (refine (Ht.out).mono ?_;rintro e w2 ⟨rfl,hb2⟩);have hx2:=hx1.below hb2 ah;have hB2:=hB1.trans (hb2.mono ah);have hr2:Hid (w2.heap[w.heap.size+1]? =some (.cells #[.slice none 0 0] 119 (0,0))):=(hb2.block _ ah).trans hr1.out;have hz2:w.heap.size+2<=w2.heap.size:=ig hb2.size;clear hx1 hB1 hr1 hb2 hz1 Ht;have hc2:=cell_of_heap hr2.out;have hf2:=frozen_of_heap hr2.out;by_cases he:m.iU=0
 ·have he':(m.iU !=0)=false:=by simp [he]
  have HE:=bK he;have ok:Hid m.Ok:=g_.iG m (g_.jv HE.out).1;have n0:=ok.out.n0;clear he;have Ii:=bK (Bc (w:=w2) m.h_.length (ig hn.out));obtain ⟨d0,d1,d2,d3⟩:=hx2;go_wp2_with fail;refine (Ii.out).mono ?_;rintro e w5 ⟨a5,c5,I5,rfl,VL,Hu,hb5⟩;have hx5:C4 w5 w.heap.size an cn ao co m:=C4.below ⟨d0,d1,d2,d3⟩ hb5 ah;have jw:=hB2.trans (hb5.mono ah);have hr5:Hid (w5.heap[w.heap.size+1]? =some (.cells #[.slice none 0 0] 119 (0,0))):=(hb5.block _ ah).trans hr2.out;have yJ:w2.heap.size<=w5.heap.size:=hb5.size;have abC:Hid (I5.length=m.h_.length):=bK (by rw [VL.out,kS])
  have MN:Hid (Ms m.h_.length ⟨I5,I5⟩):=⟨rfl,by show 0<List.length I5;rw [abC.out];exact ok.out.n0,fun s hs=>by
   have hs:s∈I5:=hs
   rw [VL.out] at hs
   unfold jK at hs
   obtain ⟨k,hk,rfl⟩:=aqJ.1 hs
   have:=aqE.1 hk
   omega⟩
  have hgr:Hid (m.grow 4097 [] ⟨I5,I5⟩ []=m.Bz):=by unfold Hid g_.Bz;rw [VL.out]
  have hMw:Ma (fun _=>False) w5 an cn ao co m:=HM.out.ext ⟨jw.size,fun k hk _=>jw.block k hk,fun k hk h=>h.elim⟩;have Ik:=Ue 4097 (g:=⟨I5,I5⟩) (u:=[]) (L:=[]) (aL:=none) (cL:=0) (au:=none) (cu:=0) (n0:=w.heap.size+2) (W:=fun _=>False) (w:=w5) (Nn.nil ah) hMw (Hu.anti fun k _ hm=>hm.elim (fun e=>e.elim) (fun e=>by omega)) (Hu.anti fun k _ hm=>hm.elim) (Sl.nil (α:=Int) _ _ none (c:=0) aS) ok MN (by show Hid (List.length I5<1000);unfold Hid;rw [abC.out];exact hn.out) (fun y hy=>by simp at hy) (by simp [Hid]) (by simp [Hid]);rw [hgr.out] at Ik;have HGr:=bK Ik;obtain ⟨d0,d1,d2,d3⟩:=hx5;clear Ik hgr MN hMw Hu hc2 hf2 hr2 hB2 hb5 Ii;go_wp2_with fail;refine (HGr.out).mono ?_;rintro e w7 ⟨W7,aL,cL,L,rfl,Rv,hR7, -,hE7,kG⟩;have jY:=jw.trans (kG.mono ah);have hr7:Hid (w7.heap[w.heap.size+1]? =some (.cells #[.slice none 0 0] 119 (0,0))):=(kG.block _ ah).trans hr5.out;have xK:w.heap.size+2<=w7.heap.size:=Rv.old;have JY:=cell_of_heap hr7.out;have hf7:=frozen_of_heap hr7.out;have Ag:Hid (Sl (fun k=>k<w.heap.size+2) w7 aL cL L):=Rv.sl;clear jw hr5 yJ VL abC HGr hE7 kG Rv;by_cases nH:4096<L.length
  ·have hR:Hid (m.mV=([],false,11)):=by unfold Hid g_.mV;rw [bO (by simp [HE.out]),bQ];exact hR7.out.elim (fun e=>by rw [<-e.1];exact nH) (fun e=>e.2)
   have hfi:((L.length:Nat):Int)>4096:=ah;have hfd:decide (4096<((L.length:Nat):Int))=true:=dw hfi;go_wp2;have hc3:=eU w7 ⟨w.heap.size+1,0,none⟩ (.slice none 0 0) JY;have jh:=jY.setCell (p:=⟨w.heap.size+1,0,none⟩) aH (.slice none 0 0);generalize w7.setCell ⟨w.heap.size+1,0,none⟩ (.slice none 0 0)=wf at*
   exact dG (v:= .tuple #[.agg #[.slice none 0 0],.bool false,.int .i64 11]) (by simp [results,results94,go_sem,hc3]) rfl ⟨none,0,[],false,11,rfl,hR,Sl.nil _ _ _ aS,jh⟩
  have hLe:Hid (L=m.Bz):=hR7.out.elim (fun e=>e.1) (fun e=>absurd e.1 nH);have hR:Hid (m.mV=(L,lZ L,0)):=by unfold Hid g_.mV;rw [bO (by simp [HE.out]),<-hLe.out,bO nH]
  have hfi:¬((L.length:Nat):Int)>4096:=ah;have hfd:decide (4096<((L.length:Nat):Int))=false:=cZ hfi;go_upto_region 9 with (fail);have hba:=iB w7 (.cells #[.slice aL L.length cL] 119);have mg:=jY.trans (hba.mono ah);have hr8:Hid ((w7.alloc (.cells #[.slice aL L.length cL] 119)).heap[w.heap.size+1]? =some (.cells #[.slice none 0 0] 119 (0,0))):=(hba.block _ ah).trans hr7.out;have ht8:Hid ((w7.alloc (.cells #[.slice aL L.length cL] 119)).heap[w7.heap.size]? =some (.cells #[.slice aL L.length cL] 119 (0,0))):=dS _ _;have TV:Hid (Sl (fun k=>k<w.heap.size+2) (w7.alloc (.cells #[.slice aL L.length cL] 119)) aL cL L):=Ag.out.below hba;have hs8:w7.heap.size<(w7.alloc (.cells #[.slice aL L.length cL] 119)).heap.size:=aH;clear hba jY hr7 Ag JY hf7;generalize w7.alloc (.cells #[.slice aL L.length cL] 119)=w8 at*
  refine iO (fun w'=>w'.cell? ⟨w7.heap.size,0,none⟩=some (.slice aL L.length cL)) [0,1,4,5] aB ?_;have hbd:=(bP w8.heap.size w8).drew;have mH:=mg.trans (hbd.mono ah);have hr9:Hid (w8.drew.heap[w.heap.size+1]? =some (.cells #[.slice none 0 0] 119 (0,0))):=hr8.out;have ht9:Hid (w8.drew.heap[w7.heap.size]? =some (.cells #[.slice aL L.length cL] 119 (0,0))):=ht8.out;have hL9:Hid (Sl (fun k=>k<w.heap.size+2) w8.drew aL cL L):=TV.out.below hbd;have Rt:w7.heap.size<w8.drew.heap.size:=hs8;clear hbd mg hr8 ht8 TV hs8;generalize w8.drew=w9 at*
  have W_:=cell_of_heap ht9.out;have HCo:=bK (Io hL9.out (bK ah));refine iT [0,1] ?_;refine iJ 2 fun K hK=> ?_;go_simp;refine (HCo.out).mono ?_;rintro e qo ⟨rfl,nO⟩;have nE:=mH.trans (nO.mono ah);have abD:Hid (qo.heap[w.heap.size+1]? =some (.cells #[.slice none 0 0] 119 (0,0))):=(nO.block _ ah).trans hr9.out;have aht:Hid (qo.heap[w7.heap.size]? =some (.cells #[.slice aL L.length cL] 119 (0,0))):=(nO.block _ Rt).trans ht9.out;have ahu:=bK (hL9.out.below nO);have rQ:=cell_of_heap aht.out;refine hK _ _ (fun _=>rQ) ?_;clear hK K HCo mH hr9 ht9 hL9 Rt W_ nO;have LY:=cell_of_heap abD.out;have afX:=frozen_of_heap abD.out;refine iJ 3 fun K hK=> ?_;go_simp;have qZ:=(dR qo ⟨w.heap.size+1,0,none⟩ ⟨w7.heap.size,0,none⟩ (.slice aL L.length cL) (fun e=>by have:=(ar6 e).1;omega)).trans rQ;refine hK _ _ (fun _=>qZ) ?_;clear hK K;have ahv:=eU qo ⟨w.heap.size+1,0,none⟩ (.slice aL L.length cL) LY;have sZ:=nE.setCell (p:=⟨w.heap.size+1,0,none⟩) aH (.slice aL L.length cL);have TW:Sl (fun k=>k<w.heap.size) (qo.setCell ⟨w.heap.size+1,0,none⟩ (.slice aL L.length cL)) aL cL L:=(ahu.out.ext (Ext.setCell qo (p:=⟨w.heap.size+1,0,none⟩) (by show w.heap.size+1<w.heap.size+2;omega) (.slice aL L.length cL))).anti (fun k _ hk=>by omega);generalize qo.setCell ⟨w.heap.size+1,0,none⟩ (.slice aL L.length cL)=wf at*
  refine iT [4,5] ?_;refine iN aB ?_ _;go_wp2;exact dG (v:= .tuple #[.agg #[.slice aL L.length cL],.bool (lZ L),.int .i64 0]) (by simp [results,results94,go_sem,ahv]) rfl ⟨aL,cL,L,lZ L,0,rfl,hR,TW,sZ⟩
 have he':(m.iU !=0)=true:=by simp [he]
 have hR:Hid (m.mV=([],false,m.iU)):=by unfold Hid g_.mV;rw [bQ he]
 clear he;go_wp2;have hc3:=eU w2 ⟨w.heap.size+1,0,none⟩ (.slice none 0 0) hc2;have jh:=hB2.setCell (p:=⟨w.heap.size+1,0,none⟩) aH (.slice none 0 0);generalize w2.setCell ⟨w.heap.size+1,0,none⟩ (.slice none 0 0)=wf at*
 exact dG (v:= .tuple #[.agg #[.slice none 0 0],.bool false,.int .i64 m.iU]) (by simp [results,results94,go_sem,hc3]) rfl ⟨none,0,[],false,m.iU,rfl,hR,Sl.nil _ _ _ aS,jh⟩
end
def g_.nP (m:g_) (iy:Int):g_×List (List Int)×List (List Int)×Int:=
 if m.err≠0 then (g_.nothing,[],[],m.err) else
 if iy<0\/3<iy then (g_.nothing,[],[],2) else
 if (jM m.gZ (iy+1)).2≠0 then (g_.nothing,[],[],(jM m.gZ (iy+1)).2) else
 (m.minOf,m.minOf.qm.map Pc.word,(jM m.gZ (iy+1)).1,0)
def ab5 (m:g_) (iy:Int) (w:World) (e:Ending) (w':World):Prop:=∃(an:Option Addr) (cn:Nat) (ao:Option Addr) (co:Nat) (t:g_) (aA:Option Addr) (cA:Nat) (A:List (List Int)) (aX:Option Addr) (cX:Nat) (X:List (List Int)) (e1:Int),
 e= .returned (.tuple #[kF t an cn ao co,.slice aA A.length cA,.slice aX X.length cX,.int .i64 e1])/\Hid (m.nP iy=(t,A,X,e1))/\Ma (fun k=>k<w.heap.size) w' an cn ao co t/\Sl (fun k=>k<w.heap.size) w' aA cA A/\Sl (fun k=>k<w.heap.size) w' aX cX X/\Below w.heap.size w w'
theorem BG {m:g_} {iy e1:Int} {w w':World} (h:m.nP iy=(g_.nothing,[],[],e1)) (hb:Below w.heap.size w w'):ab5 m iy w (.returned (.tuple #[.agg #[.int .i64 0,.int .i64 0,.slice none 0 0,.slice none 0 0],.slice none 0 0,.slice none 0 0,.int .i64 e1])) w':=
 ⟨none,0,none,0,g_.nothing,none,0,[],none,0,[],e1,rfl,h,vR _ _,Sl.nil _ _ _ aS,Sl.nil _ _ _ aS,hb⟩
section
variable {M:Nat->Prop} {w:World} {an ao:Option Addr} {cn co:Nat} {m:g_}
theorem xX (hm:Ma M w an cn ao co m) (iy:Int):Calls prog 89 #[kF m an cn ao co,.int .i64 iy] w (ab5 m iy w):=by
 have hB0:=iB w (iP m an cn ao co);have hx0:=jE w m an cn ao co;have hB1:=hB0.alloc aH (.cells #[.int .i64 0,.int .i64 0,.slice none 0 0,.slice none 0 0] 24);have hx1:=hx0.below ((bP (w.heap.size+1) (w.alloc (iP m an cn ao co))).alloc aH (.cells #[.int .i64 0,.int .i64 0,.slice none 0 0,.slice none 0 0] 24)) ah;have hr1:Hid (((w.alloc (iP m an cn ao co)).alloc (.cells #[.int .i64 0,.int .i64 0,.slice none 0 0,.slice none 0 0] 24)).heap[w.heap.size+1]? =some (.cells #[.int .i64 0,.int .i64 0,.slice none 0 0,.slice none 0 0] 24 (0,0))):=by have:=dS (w.alloc (iP m an cn ao co)) (.cells #[.int .i64 0,.int .i64 0,.slice none 0 0,.slice none 0 0] 24);unfold Hid;simpa using this
 have hz1:((w.alloc (iP m an cn ao co)).alloc (.cells #[.int .i64 0,.int .i64 0,.slice none 0 0,.slice none 0 0] 24)).heap.size=w.heap.size+2:=aH;have HM:=bK hm;have l1:=hm.h_.le;have l2:=hm.out.le;have VP:=bK (PD (hm.below hB1));clear hm hB0 hx0;go_enter func89,ntmps89;go_upto_region 1 with (fail);generalize (w.alloc (iP m an cn ao co)).alloc (.cells #[.int .i64 0,.int .i64 0,.slice none 0 0,.slice none 0 0] 24)=w1 at*
 obtain ⟨d0,d1,d2,d3⟩:=hx1;go_wp2_with fail;refine (VP.out).mono ?_;rintro e w2 ⟨mW,mZ,mY,m_,t,rfl,ht,DN,hb2⟩;have hx2:C4 w2 w.heap.size an cn ao co m:=C4.below ⟨d0,d1,d2,d3⟩ hb2 ah;have hr2:Hid (w2.heap[w.heap.size+1]? =some (.cells #[.int .i64 0,.int .i64 0,.slice none 0 0,.slice none 0 0] 24 (0,0))):=(hb2.block _ ah).trans hr1.out;have hB2:=hB1.trans (hb2.mono ah);have hz2:w.heap.size+2<=w2.heap.size:=ig hb2.size;have wC:=bK (DN.ext (M':=fun k=>k<w.heap.size+2) (Ext.jA fun k _ e=>by omega));clear d0 d1 d2 d3 hr1 hB1 hb2 DN VP;go_upto_region 2 with (fail);have hba:=iB w2 (iP t mW mZ mY m_);have hc3:C4 (w2.alloc (iP t mW mZ mY m_)) w2.heap.size mW mZ mY m_ t:=kI w2;have hx3:=hx2.below hba ah;have hr3:Hid ((w2.alloc (iP t mW mZ mY m_)).heap[w.heap.size+1]? =some (.cells #[.int .i64 0,.int .i64 0,.slice none 0 0,.slice none 0 0] 24 (0,0))):=(hba.block _ ah).trans hr2.out;have hB3:=hB2.trans (hba.mono ah);have Ur:=bK (wC.out.below hba);have hz3:w2.heap.size<(w2.alloc (iP t mW mZ mY m_)).heap.size:=aH;clear hx2 hr2 hB2 hba wC;generalize w2.alloc (iP t mW mZ mY m_)=w3 at*
 have HNo:Hid (∀(w':World),w'.heap[w.heap.size+1]? =some (.cells #[.int .i64 0,.int .i64 0,.slice none 0 0,.slice none 0 0] 24 (0,0))->Below w.heap.size w w'->
     (∀o,w'.frozen? ⟨w.heap.size+1,o,none⟩=false)/\Below w.heap.size w ((((w'.setCell ⟨w.heap.size+1,0,none⟩ (.int .i64 0)).setCell ⟨w.heap.size+1,1,none⟩ (.int .i64 0)).setCell ⟨w.heap.size+1,2,none⟩ (.slice none 0 0)).setCell ⟨w.heap.size+1,3,none⟩ (.slice none 0 0))/\
     ((((w'.setCell ⟨w.heap.size+1,0,none⟩ (.int .i64 0)).setCell ⟨w.heap.size+1,1,none⟩ (.int .i64 0)).setCell ⟨w.heap.size+1,2,none⟩ (.slice none 0 0)).setCell ⟨w.heap.size+1,3,none⟩ (.slice none 0 0)).heap[w.heap.size+1]? =some (.cells #[.int .i64 0,.int .i64 0,.slice none 0 0,.slice none 0 0] 24 (0,0))):=fun w' h hb=>
  ⟨fun o=>gB _ _ _ _ _ h,dO (dO (dO (dO hb aH _) aH _) aH _) aH _,Ja h⟩
 by_cases he:m.err=0
 ·have he':(m.err !=0)=false:=by simp [he]
  have HE:=bK he;have ok:Hid m.Ok:=g_.iG m HE.out;clear he;by_cases hex:iy<0\/3<iy
  ·have hR:Hid (m.nP iy=(g_.nothing,[],[],2)):=by unfold Hid g_.nP;rw [bO (by simp [HE.out]),bQ hex]
   obtain ⟨k0,k1,k2,k3⟩:=kU hr3.out;obtain ⟨kf,jh,hrf⟩:=HNo.out _ hr3.out hB3;have hrf:=bK hrf;by_cases h1:iy<0
   ·clear hex;go_wp2;obtain ⟨q0,q1,q2,q3⟩:=kU hrf.out;generalize ((((w3.setCell ⟨w.heap.size+1,0,none⟩ (.int .i64 0)).setCell ⟨w.heap.size+1,1,none⟩ (.int .i64 0)).setCell ⟨w.heap.size+1,2,none⟩ (.slice none 0 0)).setCell ⟨w.heap.size+1,3,none⟩ (.slice none 0 0))=wf at*
    exact dG (v:= .tuple #[.agg #[.int .i64 0,.int .i64 0,.slice none 0 0,.slice none 0 0],.slice none 0 0,.slice none 0 0,.int .i64 2]) (by simp [results,results89,go_sem,q0,q1,q2,q3]) rfl (BG hR.out jh)
   have h2:3<iy:=hex.elim (fun e=>absurd e h1) id;have h1d:decide (iy<0)=false:=cZ h1;have h2d:decide (3<iy)=true:=dw h2;clear hex;go_wp2;obtain ⟨q0,q1,q2,q3⟩:=kU hrf.out;generalize ((((w3.setCell ⟨w.heap.size+1,0,none⟩ (.int .i64 0)).setCell ⟨w.heap.size+1,1,none⟩ (.int .i64 0)).setCell ⟨w.heap.size+1,2,none⟩ (.slice none 0 0)).setCell ⟨w.heap.size+1,3,none⟩ (.slice none 0 0))=wf at*
   exact dG (v:= .tuple #[.agg #[.int .i64 0,.int .i64 0,.slice none 0 0,.slice none 0 0],.slice none 0 0,.slice none 0 0,.int .i64 2]) (by simp [results,results89,go_sem,q0,q1,q2,q3]) rfl (BG hR.out jh)
  have h1:decide (iy<0)=false:=cZ (fun e=>hex (.inl e));have h2:decide (3<iy)=false:=cZ (fun e=>hex (.inr e));have HX:=bK hex;have hwr:IntKind.i64.wrap (iy+1)=iy+1:=eP _ ah;have HUp:=bK (WT (w:=w3) m.gZ (iy+1));have ahU:=hx3.1;clear hex;go_wp2_with fail;refine (HUp.out).mono ?_;rintro e w4 ⟨aX,cX,X,e2,rfl,hX,yM,hb4⟩;have hB4:=hB3.trans (hb4.mono ah);have hr4:Hid (w4.heap[w.heap.size+1]? =some (.cells #[.int .i64 0,.int .i64 0,.slice none 0 0,.slice none 0 0] 24 (0,0))):=(hb4.block _ ah).trans hr3.out;have hc4:=hc3.below hb4 hz3;have Us:=bK (Ur.out.below hb4);have HXs:=bK (yM.anti (M':=fun k=>k<w.heap.size+2) (fun k _ e=>by omega));have nN:w2.heap.size<w4.heap.size:=ig hb4.size;clear hx3 hr3 hB3 hc3 Ur hb4 HUp yM ahU hz3;by_cases he2:e2=0
  ·have abZ:(e2 !=0)=false:=by simp [he2]
   have hte:Hid (t.err=0):=by unfold Hid;rw [ht.out,g_.jU HE.out];exact g_.oM _ (g_.pQ ok.out)
   have HE2:=bK he2;clear he2;have HCv:=bK (TR Us.out hte);obtain ⟨d0,d1,d2,d3⟩:=hc4;go_wp2_with fail;refine (HCv.out).mono ?_;rintro e w5 ⟨aA,cA,A,rfl,hA,hAs,hb5⟩;have jw:=hB4.trans (hb5.mono ah);have hr5:Hid (w5.heap[w.heap.size+1]? =some (.cells #[.int .i64 0,.int .i64 0,.slice none 0 0,.slice none 0 0] 24 (0,0))):=(hb5.block _ ah).trans hr4.out;have DF:C4 w5 w2.heap.size mW mZ mY m_ t:=C4.below ⟨d0,d1,d2,d3⟩ hb5 nN;have ahZ:=bK (Us.out.below hb5);have ael:=bK (HXs.out.below hb5);have aen:=bK (hAs.anti (M':=fun k=>k<w.heap.size+2) (fun k _ e=>by omega));have hR:Hid (m.nP iy=(t,A,X,0)):=by unfold Hid g_.nP;rw [bO (by simp [HE.out]),bO HX.out,hX.out,bO (by simp [HE2.out]),<-ht.out,<-hA.out]
   clear d0 d1 d2 d3 hB4 hr4 Us HXs hAs hb5 HCv;obtain ⟨k0,k1,k2,k3⟩:=kU hr5.out;have kf:∀o,w5.frozen? ⟨w.heap.size+1,o,none⟩=false:=fun o=>gB _ _ _ _ _ hr5.out;obtain ⟨d0,d1,d2,d3⟩:=DF
   have hex:Ext (fun k=>k<w.heap.size+2) (fun k=>k<w.heap.size+2) w5 ((((w5.setCell ⟨w.heap.size+1,0,none⟩ (.int .i64 t.gZ)).setCell ⟨w.heap.size+1,1,none⟩ (.int .i64 t.start)).setCell ⟨w.heap.size+1,2,none⟩ (.slice mW t.h_.length mZ)).setCell ⟨w.heap.size+1,3,none⟩ (.slice mY t.out.length m_)):=
    (((Ext.setCell _ (by show w.heap.size+1<_;omega) _).trans (Ext.setCell _ (by show w.heap.size+1<_;omega) _)).trans (Ext.setCell _ (by show w.heap.size+1<_;omega) _)).trans (Ext.setCell _ (by show w.heap.size+1<_;omega) _)
   have jh:Below w.heap.size w ((((w5.setCell ⟨w.heap.size+1,0,none⟩ (.int .i64 t.gZ)).setCell ⟨w.heap.size+1,1,none⟩ (.int .i64 t.start)).setCell ⟨w.heap.size+1,2,none⟩ (.slice mW t.h_.length mZ)).setCell ⟨w.heap.size+1,3,none⟩ (.slice mY t.out.length m_)):=
    dO (dO (dO (dO jw aH _) aH _) aH _) aH _
   have hrf:=bK (Ja (y0:= .int .i64 t.gZ) (y1:= .int .i64 t.start) (y2:= .slice mW t.h_.length mZ) (y3:= .slice mY t.out.length m_) hr5.out);go_wp2;obtain ⟨q0,q1,q2,q3⟩:=kU hrf.out;have hT6:=bK ((ahZ.out.ext hex).ext (M':=fun k=>k<w.heap.size) (Ext.jA fun k _ e=>by omega));have hX6:=bK ((ael.out.ext hex).anti (M':=fun k=>k<w.heap.size) fun k _ e=>by omega);have hA6:=bK ((aen.out.ext hex).anti (M':=fun k=>k<w.heap.size) fun k _ e=>by omega);clear hrf hex;generalize ((((w5.setCell ⟨w.heap.size+1,0,none⟩ (.int .i64 t.gZ)).setCell ⟨w.heap.size+1,1,none⟩ (.int .i64 t.start)).setCell ⟨w.heap.size+1,2,none⟩ (.slice mW t.h_.length mZ)).setCell ⟨w.heap.size+1,3,none⟩ (.slice mY t.out.length m_))=wf at*
   exact dG (v:= .tuple #[kF t mW mZ mY m_,.slice aA A.length cA,.slice aX X.length cX,.int .i64 0]) (by simp [results,results89,go_sem,q0,q1,q2,q3]) rfl ⟨mW,mZ,mY,m_,t,aA,cA,A,aX,cX,X,0,rfl,hR,hT6.out,hA6.out,hX6.out,jh⟩
  have abZ:(e2 !=0)=true:=by simp [he2]
  have hR:Hid (m.nP iy=(g_.nothing,[],[],e2)):=by unfold Hid g_.nP;rw [bO (by simp [HE.out]),bO HX.out,hX.out,bQ he2]
  clear he2;obtain ⟨k0,k1,k2,k3⟩:=kU hr4.out;obtain ⟨kf,jh,hrf⟩:=HNo.out _ hr4.out hB4;have hrf:=bK hrf;go_wp2;obtain ⟨q0,q1,q2,q3⟩:=kU hrf.out;generalize ((((w4.setCell ⟨w.heap.size+1,0,none⟩ (.int .i64 0)).setCell ⟨w.heap.size+1,1,none⟩ (.int .i64 0)).setCell ⟨w.heap.size+1,2,none⟩ (.slice none 0 0)).setCell ⟨w.heap.size+1,3,none⟩ (.slice none 0 0))=wf at*
  exact dG (v:= .tuple #[.agg #[.int .i64 0,.int .i64 0,.slice none 0 0,.slice none 0 0],.slice none 0 0,.slice none 0 0,.int .i64 e2]) (by simp [results,results89,go_sem,q0,q1,q2,q3]) rfl (BG hR.out jh)
 have he':(m.err !=0)=true:=by simp [he]
 have hR:Hid (m.nP iy=(g_.nothing,[],[],m.err)):=by unfold Hid g_.nP;rw [bQ he]
 clear he;obtain ⟨k0,k1,k2,k3⟩:=kU hr3.out;obtain ⟨kf,jh,hrf⟩:=HNo.out _ hr3.out hB3;have hrf:=bK hrf;go_wp2;obtain ⟨q0,q1,q2,q3⟩:=kU hrf.out;generalize ((((w3.setCell ⟨w.heap.size+1,0,none⟩ (.int .i64 0)).setCell ⟨w.heap.size+1,1,none⟩ (.int .i64 0)).setCell ⟨w.heap.size+1,2,none⟩ (.slice none 0 0)).setCell ⟨w.heap.size+1,3,none⟩ (.slice none 0 0))=wf at*
 exact dG (v:= .tuple #[.agg #[.int .i64 0,.int .i64 0,.slice none 0 0,.slice none 0 0],.slice none 0 0,.slice none 0 0,.int .i64 m.err]) (by simp [results,results89,go_sem,q0,q1,q2,q3]) rfl (BG hR.out jh)
end
theorem IU.small {l:List (List Int)} (h:IU l):mK l:=⟨ig h.1,fun r hr=>by have:=h.2 r hr;omega⟩
theorem g_.ah0 {m:g_} {T:List Nd} {s:Nat} (h:s<m.h_.length):(m.ids T)[s]? =some (nK iM (m.Rx T (s:Int))):=by
 unfold ids;rw [dP,fO h];rfl
theorem g_.VQ {m:g_} {T:List Nd}:(m.ids T).length=m.h_.length:=by unfold ids;simp
section
variable {M MT:Nat->Prop} {w:World} {an ao aT:Option Addr} {cn co cT:Nat} {m:g_} {T:List Nd}
theorem Ip (hm:Ma M w an cn ao co m) (hT:Sl MT w aT cT T) (hn:Hid (m.h_.length<1000)) (TH:Hid (T.length<1000000000)):Calls prog 95 #[kF m an cn ao co,.agg #[.slice aT T.length cT]] w fun e w'=>∃(a:Option Addr) (c:Nat) (L:List (List (List Int))) (e1:Int),e= .returned (.tuple #[.slice a L.length c,.int .i64 e1])/\Hid (m.DL T=(L,e1))/\Sl (fun k=>k<w.heap.size) w' a c L/\Below w.heap.size w w':=by
 have hB0:=iB w (iP m an cn ao co);have hx0:=jE w m an cn ao co;have hB1:=hB0.alloc aH (.cells #[.slice aT T.length cT] 119);have hx1:=hx0.below ((bP (w.heap.size+1) (w.alloc (iP m an cn ao co))).alloc aH (.cells #[.slice aT T.length cT] 119)) ah;have ht1:((w.alloc (iP m an cn ao co)).alloc (.cells #[.slice aT T.length cT] 119)).cell? ⟨w.heap.size+1,0,none⟩=some (.slice aT T.length cT):=aH;have hz1:((w.alloc (iP m an cn ao co)).alloc (.cells #[.slice aT T.length cT] 119)).heap.size=w.heap.size+2:=aH;have l1:=hm.h_.le;have l2:=hm.out.le;have l5:=hT.le;have HM:=bK hm;have HT:=bK hT;have Ht:=bK (DR (hm.below hB1) (hT.below hB1) hn TH);clear hm hT hB0 hx0;go_enter func95,ntmps95;go_upto_region 1 with (fail);generalize (w.alloc (iP m an cn ao co)).alloc (.cells #[.slice aT T.length cT] 119)=w1 at*
 go_wp2_with fail;refine (Ht.out).mono ?_;rintro e w2 ⟨rfl,hb2⟩;have hx2:=hx1.below hb2 ah;have hB2:=hB1.trans (hb2.mono ah);have ht2:=(hb2.cell (p:=⟨w.heap.size+1,0,none⟩) (by show w.heap.size+1<_;omega)).trans ht1;have hz2:w.heap.size+2<=w2.heap.size:=ig hb2.size;clear hx1 hB1 hb2 hz1 Ht ht1;by_cases he:m.jm T=0
 ·have he':(m.jm T !=0)=false:=by simp [he]
  have HE:=bK he;have ok:Hid m.Ok:=g_.iG m (g_.jv (g_.lg HE.out).1).1;have n1:=ok.out.n1;clear he
  have HS:Hid (∀w',Below w2.heap.size w2 w'->(C4 w' w.heap.size an cn ao co m/\w'.cell? ⟨w.heap.size+1,0,none⟩=some (.slice aT T.length cT))/\Below w.heap.size w w'):=fun w' h=>
   ⟨⟨hx2.below h ah,(h.cell (p:=⟨w.heap.size+1,0,none⟩) (by show w.heap.size+1<_;omega)).trans ht2⟩,hB2.trans (h.mono ah)⟩
  have hba:=bP w2.heap.size w2;have kJ:Ox (α:=List (List Int)) w2.heap.size w2.heap.size w2 22 (.slice none 0 0) []:=Ox.nil;clear hx2 hB2 ht2;go_wp2_with fail;go_loopw [7,8] (fun v i wr=>∃(s:Nat) (a':Option Addr) (c':Nat) (K:List (List (List Int))),s<=m.h_.length/\i= .int .i64 s/\v= .slice a' K.length c'/\Hid (K=(m.ids T).take s)/\Ox w2.heap.size w2.heap.size wr 22 (.slice a' K.length c') K/\Below w2.heap.size w2 wr) (fun _ i _=>m.h_.length-(intOf i).toNat);case atStart=>exact ⟨0,none,0,[],ah,rfl,rfl,rfl,kJ,hba⟩
  case round=>
   clear kJ hba;obtain ⟨s,a',c',K,hsn,rfl,rfl,hK,hO,hB⟩:=hrel;obtain ⟨wo,rfl⟩:=iA wr;have hSo:=HS.out _ hB;have hto:=hSo.1.2;have hm0:=hSo.1.1;have aoe:=hm0.2.2.1;have wX:=hB.size;have rW:Hid (K.length=s):=bK (by rw [hK.out,dx,g_.VQ];omega);by_cases hlt:s<m.h_.length
   ·have zZ:s<1000:=by have:=hn.out;omega
    have HWd:=bK (Uo (HM.out.below hSo.2) (HT.out.below hSo.2) hn HE s hlt);clear hSo;go_wp2_with fail;refine (HWd.out).mono ?_;rintro e w3 ⟨aW,cW,W,l,rfl,hW,Bf,hWs,hb3⟩;have hB3:=hB.trans (hb3.mono wX);have kC:=HS.out _ hB3;have ht3:=kC.1.2;have hll:=Bf.out.2.1;have anW:=Bf.out.1;have hT4:=(g_.lg HE.out).2.1;obtain ⟨bT,oT,a1,c1,a2,c2,x,rfl,hq0, -, -,hxe,hxs, -, -⟩:=HT.out.Dx hll;have hq3:=(kC.2.cell (p:=⟨bT,oT+l*3,none⟩) (lt_of_cell hq0)).trans hq0;have HX:=bK hxs;have aaO:=hxs.le;have QK:=bK (g_.MF Bf.out.2.2.choose_spec hxe.out);have hxn:=QK.out.2;have anv:=hWs.le;obtain ⟨P,hP⟩:∃P:List (List Int),Hid (P=if 0<W.length\/x.st.length=1 then [W] else []):=⟨_,rfl⟩;have hid:Hid (m.Rx T (s:Int)=P++m.uT s x.st):=bK (by rw [hP.out];exact g_.Uh hW.out hxe.out);have hsm:Hid (IU (P++m.uT s x.st)):=bK (by rw [hP.out];exact BF ah (ig hn.out) hn.out);have hPl:Hid (P.length<=1):=bK (by rw [hP.out];split<;>simp);have HO:=bK hO;have HKe:=bK hK.out;have HWs:=bK hWs;clear hq0 hxs hO kC hto hm0 aoe HWd hWs Bf hK;have nW:(0<W.length/\Hid (P=[W]))\/(¬0<W.length/\Hid (P=[W])/\((x.st.length:Int)==1)=true)\/(¬0<W.length/\Hid (P=[])/\((x.st.length:Int)==1)=false):=by
     by_cases h1:0<W.length;·exact .inl ⟨h1,bK (by rw [hP.out,bQ (.inl h1)])⟩
     by_cases h2:x.st.length=1;·exact .inr (.inl ⟨h1,bK (by rw [hP.out,bQ (.inr h2)]),by simp [h2]⟩)
     exact .inr (.inr ⟨h1,bK (by rw [hP.out,bO ah]),aJ⟩)
    have aof:=hb3.size
    have Mq:Sl (fun k=>(Value.slice none 0 0).ownBlock=some k\/k<wo.heap.size) w3 aW cW W:=HWs.out.anti fun k _ hm=>by
     rcases hm with hm|hm
     ·simp [Value.ownBlock] at hm
     exact hm
    have hOn:Ox (α:=List Int) wo.heap.size wo.heap.size w3 49 (.slice none 0 0) []:=Ox.nil;have Dm:Hid (∀K2:List (List Int),K2=P++m.uT s x.st->(m.ids T)[s]? =some (nK iM K2)):=fun K2 h=>by rw [g_.ah0 hlt,hid.out,h]
    rcases nW with ⟨hw0,hPe⟩|⟨hw0,hPe,hw1⟩|⟨hw0,hPe,hw1⟩
    all_goals
     have aog:=hw0
     (first
      | (go_wp2_with (at_builtin;refine jd (n0:=wo.heap.size) (B:=wo.heap.size) (v:= .slice none 0 0) (rows:=[]) (r:=W) (ar:=aW) (cr:=cW) rfl rfl underlying22 iI rfl rfl (hOn.alloc _) bf (Mq.alloc _) aH aJ ?_)
         intro a4 c4 K4 w4 hK4 hO4 hbk hgr
         have hB4:=(hb3.alloc aof (.cells #[.slice aW W.length cW] 49)).grown hgr aJ (fun k hk=>by simp [Value.ownBlock] at hk)
         have hKP:Hid (K4=P++m.uT s (x.st.take 0)):=bK (by rw [hK4.out,hPe.out];simp [g_.uT])
         clear hbk hgr hK4)
      | (go_wp2_with fail
         have hB4:=hb3
         have hO4:=hOn
         have hKP:Hid (([]:List (List Int))=P++m.uT s (x.st.take 0)):=bK (by rw [hPe.out];simp [g_.uT])))
     clear Mq hOn hw0 aog hPe
     try clear hw1
     go_wp2_with fail
     go_loopw [13,14] (fun v i wr=>∃(j:Nat) (a5:Option Addr) (c5:Nat) (K5:List (List Int)),j<=x.st.length/\i= .int .i64 j/\v= .slice a5 K5.length c5/\Hid (K5=P++m.uT s (x.st.take j))/\Ox wo.heap.size wo.heap.size wr 49 (.slice a5 K5.length c5) K5/\Below wo.heap.size wo wr) (fun _ i _=>x.st.length-(intOf i).toNat)
     case atStart=>first|exact ⟨0,a4,c4,K4,ah,rfl,rfl,hKP,hO4,hB4⟩|exact ⟨0,none,0,[],ah,rfl,rfl,hKP,hO4,hB4⟩
     case round=>
      clear hKP hO4 hB4 ht3 hq3
      obtain ⟨j,a5,c5,K5,hj,rfl,rfl,xE,kV,jw⟩:=hrel
      obtain ⟨wi,rfl⟩:=iA wr
      have Ut:=hB.trans (jw.mono wX)
      have hS5:=HS.out _ Ut
      have aln:Hid (K5.length<10000):=by
       have h1:=hPl.out
       have h2:=g_.EC (m:=m) (s:=(s:Int)) (o:=x.st.take j)
       have h3:=hn.out
       unfold Hid;rw [xE.out,dB];rw [dx] at h2;omega
      have hzi:=jw.size
      by_cases hjl:j<x.st.length
      ·obtain ⟨bs,os,y,hbe,Ca,hy,apM⟩:=(HX.out.below hS5.2).iC hjl
       have hyr:=QK.out.1 y (bV hy.out)
       obtain ⟨yn,rfl⟩:=b_ hyr.1
       subst hbe
       by_cases hys:yn=s
       ·have hyb:(((yn:Nat):Int) !=(s:Int))=false:=by simp [hys]
        have Dy:Hid (K5=P++m.uT s (x.st.take (j+1))):=bK (by rw [xE.out,g_.xS hy.out,bQ ah,gD])
        clear hys hyr
        go_wp2
        go_roundw
        case rel=>exact ⟨j+1,a5,c5,K5,ah,by go_num,rfl,Dy,kV,jw⟩
        case measure=>exact bF
       have hyb:(((yn:Nat):Int) !=(s:Int))=true:=aJ
       have Dy:Hid (P++m.uT s (x.st.take (j+1))=K5++[m.mq s yn]):=bK (by rw [xE.out,g_.xS hy.out,bO ah,eH])
       have adl:=bK hyr.2
       have hez:=bK (VO (m:=m) (g_.jv (g_.lg HE.out).1).1 (s:=(s:Int)) (x:=(yn:Int)) ah hyr)
       clear hys hyr xE
       go_upto_region 17 with (fail)
       refine iL (fun w'=>C4 w' w.heap.size an cn ao co m/\w'.cell? ⟨bs,os+j,none⟩=some (.int .i64 (yn:Int))) [0,1,2,3,4,5,7,8,9,10,11,12,13] aB ?_
       have hdr:=(bP wi.heap.size wi).drew
       have jo:=jw.trans (hdr.mono hzi)
       have ab6:=Ut.trans (hdr.mono Ut.size)
       have uK:=And.intro (HS.out _ ab6).1.1 (show wi.drew.cell? ⟨bs,os+j,none⟩=some (.int .i64 (yn:Int)) from Ca)
       have lu:=Ox.later kV hdr
       have ah1:=xO (HM.out.below (HS.out _ ab6).2) (s:Int) (yn:Int) bg (by have:=adl.out;unfold i64;omega)
       rw [hez.out] at ah1
       have Ii:=bK ah1
       clear ah1 hS5 jw Ut kV hdr hzi Ca hez
       generalize wi.drew=w6 at*
       have qR:=jo.size
       refine iZ [0,1,2,3,4,5] ?_
       refine iK 6 fun K hK=> ?_
       go_simp
       refine (Ii.out).mono ?_
       rintro e w7 ⟨ad,cd,V,fv,rfl,hV,hVs,kG⟩
       have jY:=jo.trans (kG.mono qR)
       have alo:=ab6.trans (kG.mono ab6.size)
       have IL:=And.intro (HS.out _ alo).1.1 ((kG.cell (p:=⟨bs,os+j,none⟩) (lt_of_cell uK.2)).trans uK.2)
       have yR:=Ox.later lu kG
       have hVe:Hid (V=m.mq s yn):=hV.out.1
       refine hK _ _ (fun _=>IL) ?_
       clear hK K Ii hV ab6 alo uK
       refine iZ [7,8,9,10,11,12,13] ?_
       refine iH aB ?_ _
       have hV7:Sl (fun k=>(Value.slice a5 K5.length c5).ownBlock=some k\/k<wo.heap.size) w7 ad cd V:=hVs.anti fun k _ hm=>by
        rcases hm with hm|hm
        ·exact (lu.lt k hm).2
        omega
       have xK:=jY.size
       have hVl:=hV7.le
       clear IL hVs lu kG jo qR
       go_wp2_with (at_builtin;refine jd (n0:=wo.heap.size) (B:=wo.heap.size) (r:=V) (ar:=ad) (cr:=cd) rfl rfl underlying22 iI rfl rfl (yR.alloc _) bf (hV7.alloc _) (ig aln.out) aJ ?_)
       intro a8 c8 K8 w8 hK8 uf hbk hgr
       have mg:=(jY.alloc xK (.cells #[.slice ad V.length cd] 49)).grown hgr aJ (fun k hk=>(yR.lt k hk).1)
       have yT:Hid (K8=P++m.uT s (x.st.take (j+1))):=bK (by rw [hK8.out,Dy.out,hVe.out])
       clear hbk hgr hK8 yR jY hV7 xK
       go_wp2
       go_roundw
       case rel=>exact ⟨j+1,a8,c8,K8,ah,by go_num,rfl,yT,uf,mg⟩
       case measure=>exact bF
      have Dy:Hid (K5=P++m.uT s x.st):=bK (by rw [xE.out,bY ah])
      have VR:=bK (qQ (kV.jD (bM _)) (bK (IU.small (by rw [Dy.out];exact hsm.out))))
      have ah2:=Dm.out _ Dy.out
      have ah2:=bK ah2
      go_wp2_with fail
      refine (VR.out).mono ?_
      rintro e w8 ⟨a8,c8,L8,rfl,TV,Jp,rP⟩
      have mg:=Ut.trans (rP.mono Ut.size)
      have uf:=Ox.later (Ox.later HO.out jw) rP
      have Iq:Sl (fun k=>(Value.slice a' K.length c').ownBlock=some k\/k<w2.heap.size) w8 a8 c8 L8:=Jp.anti fun k _ hm=>by
       rcases hm with hm|hm
       ·have:=(HO.out.lt k hm).2;omega
       omega
      have alp:=Iq.le
      have IQ:=mg.size
      clear VR jw Ut hS5 kV Jp rP xE aln hzi
      go_wp2_with (at_builtin;refine jd (n0:=w2.heap.size) (B:=w2.heap.size) (r:=L8) (ar:=a8) (cr:=c8) rfl rfl underlying110 Ie rfl rfl (uf.alloc _) bf (Iq.alloc _) (by rw [rW.out];omega) aJ ?_)
      intro a9 c9 K9 w9 yT yF hbk hgr
      have mH:=(mg.alloc IQ (.cells #[.slice a8 L8.length c8] 22)).grown hgr aJ (fun k hk=>(uf.lt k hk).1)
      have hKn:Hid (K9=(m.ids T).take (s+1)):=bK (by rw [yT.out,HKe.out,dh,ah2.out,TV.out];rfl)
      clear hbk hgr yT uf mg Iq IQ
      go_wp2
      go_roundw
      case rel=>exact ⟨s+1,a9,c9,K9,ah,by go_num,rfl,hKn,yF,mH⟩
      case measure=>exact bF
   have hF:Hid (m.DL T=(K,0)):=by unfold Hid g_.DL;rw [bO (by simp [HE.out]),hK.out,bY (by rw [g_.VQ];omega)]
   have zh:=(hO.jD (bM _)).anti (M':=fun k=>k<w.heap.size) fun k _ hm=>by show k<_;omega
   have jh:=hSo.2;go_wp2;go_ret2;exact ⟨a',c',K,0,rfl,hF,zh,jh⟩
 have he':(m.jm T !=0)=true:=by simp [he]
 have hF:Hid (m.DL T=([],m.jm T)):=by unfold Hid g_.DL;rw [bQ he]
 clear he;go_wp2;go_ret2;exact ⟨none,0,[],_,rfl,hF,Sl.nil _ _ _ aS,hB2⟩
end
namespace g_
variable {m:g_}
theorem KJ {T:List Nd} (ok:m.Ok):∀(f a:Nat) (c:Int) (w:List Int),m.Wi T a c->T.length<=a+f->w.length<=a->(m.lY T f a c w).1.length<=(m.lY T f a c w).2/\(m.lY T f a c w).2<T.length/\∃c',m.Wi T (m.lY T f a c w).2 c'
 |0,a,c,w,h,hf,hw=>by have:=(VJ h).1;omega
 |f+1,a,c,w,h,hf,hw=>by
  have hl:=(VJ h).1
  have hx:T[a]? =some T[a]:=bN hl
  by_cases h0:T[a].inp<0
  ·rw [xR hx h0];exact ⟨hw,hl,c,h⟩
  obtain ⟨-,k,kd,n',h1,h2,h3,h4,h5,h6,h7⟩:=ME ok h hx ah
  rw [CB hx ah (He h1 h2 h3),h4,dK]
  exact KJ ok f n' _ _ h7 ah (by rw [dB];simp;omega)
theorem Yl {T:List Nd} (hn:m.h_.length<1000):∀r∈(m.DL T).1,IU r:=by
 unfold DL;split;·intro r hr;simp at hr
 rename_i h;have h:m.jm T=0:=fG h;have ok:m.Ok:=g_.iG m (g_.jv (g_.lg h).1).1;intro r hr;unfold ids at hr;obtain ⟨s,hs,rfl⟩:=aqJ.1 hr;obtain ⟨h1,h2,c',h3⟩:=KJ ok T.length 0 (s:Int) [] (ahw ok h (aqE.1 hs)) ah aH;have hx:T[(m.uS T s).2]? =some T[(m.uS T s).2]:=bN h2;have hT:=(g_.lg h).2.1;have hq:IU (m.Rx T (s:Int)):=by rw [Uh (W:=(m.uS T s).1) (l:=(m.uS T s).2) rfl hx];exact BF (dH h1 (by have:(m.uS T s).2<T.length:=h2;omega)) (ig ((MF h3 hx).2)) hn
 exact ⟨eO (vM _) hq.1,fun y hy=>hq.2 y ((j_ jF).1 hy)⟩
theorem ab7 {n:g_} (h:n.mV.2.2=0):(n.DL n.mV.1).2=0:=by
 unfold DL;rw [bO (by simp [abM h])]
end g_
section
variable {M:Nat->Prop} {w:World} {an ao:Option Addr} {cn co:Nat} {m:g_}
theorem QT (hm:Ma M w an cn ao co m) (iy:Int):Calls prog 41 #[kF m an cn ao co,.int .i64 iy] w fun e w'=>∃(a:Option Addr) (c:Nat) (L:List (List Int)) (e1:Int),e= .returned (.tuple #[.slice a L.length c,.int .i64 e1])/\Hid (m.BM iy=(L,e1))/\Sl (fun k=>k<w.heap.size) w' a c L/\Below w.heap.size w w':=by
 have hB0:=iB w (iP m an cn ao co);have hx0:=jE w m an cn ao co;have HM:=bK hm;have l1:=hm.h_.le;have l2:=hm.out.le;have HPt:=bK (xX (hm.below hB0) iy);clear hm;go_enter func41,ntmps41;go_upto_region 1 with (fail);generalize w.alloc (iP m an cn ao co)=w0 at*
 have hz0:w.heap.size<w0.heap.size:=lt_of_cell hx0.1;obtain ⟨d0,d1,d2,d3⟩:=hx0;go_wp2_with fail;refine (HPt.out).mono ?_;rintro e w1 ⟨mW,mZ,mY,m_,t,aA,cA,A,aX,cX,X,e1,rfl,hP,DN,hAs,yM,hb1⟩;have hB1:=hB0.trans (hb1.mono ah);have QU:=bK (DN.ext (M':=fun k=>k<w.heap.size) (Ext.jA fun k _ e=>by omega));have hA1:=bK (hAs.anti (M':=fun k=>k<w.heap.size) fun k _ e=>by omega);have hX1:=bK (yM.anti (M':=fun k=>k<w.heap.size) fun k _ e=>by omega);have hz1:w.heap.size<w1.heap.size:=ig hb1.size;clear d0 d1 d2 d3 hB0 hb1 DN hAs yM HPt;go_upto_region 2 with (fail);have hba:=iB w1 (iP t mW mZ mY m_);have hc2:C4 (w1.alloc (iP t mW mZ mY m_)) w1.heap.size mW mZ mY m_ t:=kI w1;have hB2:=hB1.trans (hba.mono ah);have wC:=bK (QU.out.below hba);have hA2:=bK (hA1.out.below hba);have hX2:=bK (hX1.out.below hba);have hz2:w1.heap.size<(w1.alloc (iP t mW mZ mY m_)).heap.size:=aH;clear hB1 QU hA1 hX1 hba;generalize w1.alloc (iP t mW mZ mY m_)=w2 at*
 by_cases he:e1=0
 ·have he':(e1 !=0)=false:=by simp [he]
  have kE:Hid (m.err=0/\¬(iy<0\/3<iy)/\(jM m.gZ (iy+1)).2=0/\t=m.minOf/\A=m.minOf.qm.map Pc.word/\X=(jM m.gZ (iy+1)).1):=by
   have h:=hP.out;rw [he] at h;unfold g_.nP at h;by_cases h1:m.err=0
   ·rw [bO (by simp [h1])] at h;by_cases h2:iy<0\/3<iy;·rw [bQ h2] at h;simp at h
    rw [bO h2] at h;by_cases h3:(jM m.gZ (iy+1)).2=0;·rw [bO (by simp [h3])] at h;simp only [dX,aqY] at h;exact ⟨h1,h2,h3,h.1.symm,h.2.1.symm,h.2.2.symm⟩
    rw [bQ h3] at h;simp only [dX] at h;exact absurd h.2.2.2 h3
   rw [bQ h1] at h;simp only [dX] at h;exact absurd h.2.2.2 h1
  clear he hP;have HE:=bK kE.out.1;have ok:Hid m.Ok:=g_.iG m HE.out;have ht:=bK kE.out.2.2.2.1;have hA:=bK kE.out.2.2.2.2.1;have hX:=bK kE.out.2.2.2.2.2;have hti:Hid (t.gZ=m.gZ):=bK (by rw [ht.out,g_.jU HE.out];rfl);have rz:Hid t.Ok:=by rw [ht.out,g_.jU HE.out];exact g_.pQ ok.out
  have htn:Hid (t.h_.length<1000):=by have:=rz.out.n1;unfold Hid;omega
  have CK:Hid (A.length<=1000/\∀p∈A,t.nQ p/\p.length<=1000):=by
   have hn1:=rz.out.n1;unfold Hid;rw [hA.out,<-ht.out];refine ⟨?_,fun p hp=> ?_⟩;·rw [dJ];have h1:=t.rE t.h_.length;have h2:=g_.og rz.out t.h_.length;unfold g_.qm;omega
   obtain ⟨q,hq,rfl⟩:=aqJ.1 hp;have h1:=g_.rF rz.out t.h_.length q hq;exact ⟨h1.2.2.1,ig h1.2.2.2.1⟩
  have Du:Hid (X.length<=10001/\∀x∈X,InW t.gZ 4 x):=by have h:=yN m.gZ (iy+1);have h2:=kE.out.2.1;unfold Hid;rw [hX.out,hti.out];exact ⟨h.2,fun x hx=>⟨(h.1 x hx).1,ig ((h.1 x hx).2)⟩⟩
  have hsu:Hid (m.BM iy=if t.mV.2.2≠0 then ([],t.mV.2.2) else if (t.DL t.mV.1).2≠0 then ([],(t.DL t.mV.1).2) else uV t (t.DL t.mV.1).1 A X):=by unfold Hid g_.BM uV;rw [bO (by simp [HE.out]),bO kE.out.2.1,bO (by simp [kE.out.2.2.1]),<-ht.out,hA.out,<-ht.out,hX.out]
  have HBu:=bK (QS wC.out htn);have lt1:=wC.out.h_.le;have lt2:=wC.out.out.le;obtain ⟨d0,d1,d2,d3⟩:=hc2;clear kE ht hA hX;go_wp2_with fail;refine (HBu.out).mono ?_;rintro e w3 ⟨aL,cL,L,y3,e3,rfl,hL,Ag,hb3⟩;have hc3:C4 w3 w1.heap.size mW mZ mY m_ t:=C4.below ⟨d0,d1,d2,d3⟩ hb3 hz2;have hB3:=hB2.trans (hb3.mono ah);have Ur:=bK (wC.out.below hb3);have hA3:=bK (hA2.out.below hb3);have Mx:=bK (hX2.out.below hb3);have hL3:=bK (Ag.anti (M':=fun k=>k<w.heap.size) fun k _ e=>by omega);have hz3:w1.heap.size<w3.heap.size:=ig hb3.size;have qM:Hid (L.length<=4097):=by have h:=t.QL;rw [hL.out] at h;exact h
  clear d0 d1 d2 d3 hB2 wC hA2 hX2 hb3 Ag HBu;go_upto_region 5 with (fail);have hba:=iB w3 (.cells #[.slice aL L.length cL] 119);have ha4:(w3.alloc (.cells #[.slice aL L.length cL] 119)).cell? ⟨w3.heap.size,0,none⟩=some (.slice aL L.length cL):=aH;have hc4:=hc3.below hba hz3;have hB4:=hB3.trans (hba.mono ah);have Us:=bK (Ur.out.below hba);have hA4:=bK (hA3.out.below hba);have hX4:=bK (Mx.out.below hba);have hL4:=bK (hL3.out.below hba);have nN:w3.heap.size<(w3.alloc (.cells #[.slice aL L.length cL] 119)).heap.size:=aH;clear hc3 hB3 Ur hA3 Mx hL3 hba;generalize w3.alloc (.cells #[.slice aL L.length cL] 119)=w4 at*
  by_cases Oo:e3=0
  ·have ahV:(e3 !=0)=false:=by simp [Oo]
   have hbz:Hid (t.mV.2.2=0):=bK (by rw [hL.out];exact Oo);have hR0:Hid (m.BM iy=uV t (t.DL L).1 A X):=by have h:=g_.ab7 hbz.out;unfold Hid;rw [hsu.out,bO (by simp [hbz.out]),bO (by simp [h]),hL.out]
   have hI0:Hid ((t.DL L).2=0):=by have h:=g_.ab7 hbz.out;rw [hL.out] at h;exact h
   clear Oo;have HId:=bK (Ip Us.out hL4.out htn (bK (ig qM.out)));obtain ⟨d0,d1,d2,d3⟩:=hc4;go_wp2_with fail;refine (HId.out).mono ?_;rintro e w5 ⟨aI,cI,I,e4,rfl,hI,hIs,hb5⟩;have DF:C4 w5 w1.heap.size mW mZ mY m_ t:=C4.below ⟨d0,d1,d2,d3⟩ hb5 ah;have jw:=hB4.trans (hb5.mono ah);have ahZ:=bK (Us.out.below hb5);have hA5:=bK (hA4.out.below hb5);have hX5:=bK (hX4.out.below hb5);have VL:=bK (hIs.anti (M':=fun k=>k<w.heap.size) fun k _ e=>by omega);have YP:Hid (I.length=t.h_.length):=by have h:=g_.afj (n:=t) (T:=L) hI0.out;rw [hI.out] at h;exact h
   have hIm:Hid (∀r∈I,IU r):=by have h:=g_.Yl (m:=t) (T:=L) htn.out;rw [hI.out] at h;exact h
   have HMd:=bK (Im ahZ.out hA5.out hX5.out VL.out rz YP hIm CK Du);have Nh:Hid (m.BM iy=uV t I A X):=bK (by rw [hR0.out,hI.out]);obtain ⟨d0,d1,d2,d3⟩:=DF;have yJ:w.heap.size<=w5.heap.size:=jw.size;clear hB4 Us hA4 hX4 hL4 hb5 hIs HId ha4 hR0 hsu;go_wp2_with fail;refine (HMd.out).mono ?_;rintro e w6 ⟨aM,cM,K,e5,rfl,hK,hKs,hb6⟩;have jh:=jw.trans (hb6.mono yJ);have hR:Hid (m.BM iy=(K,e5)):=bK (by rw [Nh.out,hK.out]);have Xt:=bK (hKs.anti (M':=fun k=>k<w.heap.size) fun k _ e=>by omega);go_wp2;exact dG (v:= .tuple #[.slice aM K.length cM,.int .i64 e5]) (by simp [results,results41,go_sem]) rfl ⟨aM,cM,K,e5,rfl,hR,Xt.out,jh⟩
  have ahV:(e3 !=0)=true:=by simp [Oo]
  have hR:Hid (m.BM iy=([],e3)):=bK (by rw [hsu.out,hL.out,bQ Oo]);clear Oo;go_wp2;exact dG (v:= .tuple #[.slice none 0 0,.int .i64 e3]) (by simp [results,results41,go_sem]) rfl ⟨none,0,[],e3,rfl,hR,Sl.nil _ _ _ aS,hB4⟩
 have he':(e1 !=0)=true:=by simp [he]
 have hR:Hid (m.BM iy=([],e1)):=by
  have h:=hP.out;unfold g_.nP at h;unfold Hid g_.BM;by_cases h1:m.err=0
  ·rw [bO (by simp [h1])] at h ⊢;by_cases h2:iy<0\/3<iy;·rw [bQ h2] at h ⊢;simp only [dX] at h;rw [h.2.2.2]
   rw [bO h2] at h ⊢;by_cases h3:(jM m.gZ (iy+1)).2=0;·rw [bO (by simp [h3])] at h;simp only [dX] at h;exact absurd h.2.2.2.symm he
   rw [bQ h3] at h ⊢;simp only [dX] at h;rw [h.2.2.2]
  rw [bQ h1] at h ⊢;simp only [dX] at h;rw [h.2.2.2]
 clear he;go_wp2;exact dG (v:= .tuple #[.slice none 0 0,.int .i64 e1]) (by simp [results,results41,go_sem]) rfl ⟨none,0,[],e1,rfl,hR,Sl.nil _ _ _ aS,hB2⟩
end
end
section
open Tryz
namespace g_
variable {m:g_}
theorem uW (ok:m.Ok):m.lF.iU=0/\m.lF.minOf=m.lF/\m.lF.err=0/\m.lF.h_.length<=m.h_.length:=by
 have rz:=pQ ok;have he:=g_.oM _ rz;have h1:m.lF.minOf=m.lF:=by rw [g_.jU he,JU ok]
 have h2:m.lF.minimal=true:=by unfold minimal;have:=Sz ok;simp [he,this,h1]
 exact ⟨g_.Gx he h2,h1,he,by rw [FN];exact dH (Cj ok) (qE ok)⟩
end g_
namespace g_
variable {m:g_}
theorem Ym (ok:m.Ok) {s t:Int} (hs:0<=s/\s<m.h_.length) (ht:0<=t/\t<m.h_.length):m.mq s t=m.mq t s:=by
 have he:∀{s t:Int},0<=s/\s<m.h_.length->0<=t/\t<m.h_.length->Ez m s t=lS m m s t:=fun {s t} hs ht=>by
  unfold Ez
  rw [bQ]
  rcases xM (g_.oM _ ok) s t with h|h|h|h|h
  all_goals first|omega|exact h.2.2.2.2
 unfold mq;rw [he hs ht,he ht hs,SA ok ok rfl ht hs]
def WiP (m:g_) (T:List Nd) (a:Nat) (s c:Int):Prop:=∃f g e,m.right T f a g=(e,true)/\(s,c)∈g.jC.zip g.cur/\Ms m.h_.length g/\((∀s∈g.jC,0<=s/\s<(m.h_.length:Int))/\g.cur.length<=m.h_.length)
theorem WiP.wi {T:List Nd} {a:Nat} {s c:Int} (h:m.WiP T a s c):m.Wi T a c:=by
 obtain ⟨f,g,e,h1,h2,h3,h4⟩:=h;exact ⟨f,g,e,h1,(List.of_mem_zip h2).2,h3,h4⟩
end g_
namespace g_
variable {n i:g_}
section
variable {ids:List (List (List Int))} {X:List (List Int)} {k:Nat}
end
end g_
namespace g_
variable {m:g_}
def sU (m:g_):List (List (List Int)):=(List.range m.h_.length).map fun s:Nat=>nK iM (m.uT (s:Int) (jK m.h_.length))
def alq (s t i j:Nat):Prop:=i≠j/\(min i j<s\/(min i j=s/\max i j<t))
structure Ir (m:g_) (s t:Nat) (F:Nat->List (List Int)):Prop where
 mem:∀i,i<m.h_.length->∀x,x∈F i↔∃j:Nat,j<m.h_.length/\alq s t i j/\x=m.mq (i:Int) (j:Int)
 len:∀i,(F i).length<=s*m.h_.length+t
theorem ah3 {t:Nat} (h:t<=1):m.Ir 0 t (fun _=>[]):=⟨fun i _ x=>⟨fun h=>by simp at h,fun ⟨j,_,⟨h1,h2⟩,_⟩=>by omega⟩,fun i=>by simp⟩
theorem Yn (ok:m.Ok) {s t:Nat} {F:Nat->List (List Int)} (h:m.Ir s t F) (hst:s<t) (ht:t<m.h_.length):m.Ir s (t+1) (fun j=>if j=t then (if j=s then F s++[m.mq (s:Int) (t:Int)] else F j)++[m.mq (s:Int) (t:Int)] else if j=s then F s++[m.mq (s:Int) (t:Int)] else F j):=by
 have hsw:m.mq (s:Int) (t:Int)=m.mq (t:Int) (s:Int):=Ym ok ah ah;refine ⟨fun i hi x=> ?_,fun i=> ?_⟩
 ·by_cases e:i=t
  ·subst e;rw [bQ rfl,bO ah,eG,dZ,h.mem i hi];constructor
   ·rintro (⟨j,h1,h2,h3⟩|rfl);·exact ⟨j,h1,⟨h2.1,ig h2.2⟩,h3⟩
    exact ⟨s,ah,⟨ah,ah⟩,hsw⟩
   rintro ⟨j,h1,⟨h2,h2'⟩,h3⟩;by_cases e:j=s;·subst e;exact .inr (h3.trans hsw.symm)
   exact .inl ⟨j,h1,⟨h2,ah⟩,h3⟩
  rw [bO e];by_cases e2:i=s
  ·subst e2;rw [bQ rfl,eG,dZ,h.mem i hi];constructor
   ·rintro (⟨j,h1,h2,h3⟩|rfl);·exact ⟨j,h1,⟨h2.1,ig h2.2⟩,h3⟩
    exact ⟨t,ht,⟨ah,ah⟩,rfl⟩
   rintro ⟨j,h1,⟨h2,h2'⟩,h3⟩;by_cases e:j=t;·subst e;exact .inr h3
   exact .inl ⟨j,h1,⟨h2,ah⟩,h3⟩
  rw [bO e2,h.mem i hi];constructor;·rintro ⟨j,h1,h2,h3⟩;exact ⟨j,h1,⟨h2.1,ig h2.2⟩,h3⟩
  rintro ⟨j,h1,⟨h2,h2'⟩,h3⟩;exact ⟨j,h1,⟨h2,ah⟩,h3⟩
 have h1:=h.len i;have h2:=h.len s;split;·rename_i e;rw [bO ah,dB,eT];omega
 split;·rename_i e;subst e;rw [dB,eT];omega
 omega
theorem Yo {s:Nat} {F:Nat->List (List Int)} (h:m.Ir s m.h_.length F):m.Ir (s+1) (s+2) F:=by
 refine ⟨fun i hi x=> ?_,fun i=>by have:=h.len i;rw [aqf];omega⟩;rw [h.mem i hi];constructor;·rintro ⟨j,h1,⟨h2,h2'⟩,h3⟩;exact ⟨j,h1,⟨h2,ah⟩,h3⟩
 rintro ⟨j,h1,⟨h2,h2'⟩,h3⟩;exact ⟨j,h1,⟨h2,ah⟩,h3⟩
theorem QV {n:Nat} {x:Int}:x∈jK n↔∃k:Nat,k<n/\x=(k:Int):=by
 unfold jK;rw [aqJ];constructor;·rintro ⟨k,hk,rfl⟩;exact ⟨k,aqE.1 hk,rfl⟩
 rintro ⟨k,hk,rfl⟩;exact ⟨k,aqE.2 hk,rfl⟩
theorem Yp {l l':List (List Int)} (h:∀x,x∈l↔x∈l'):nK iM l=nK iM l':=
 Sj jF (rH jF l') fun x=>by rw [j_ jF,h x]
theorem ab8 {s t:Nat} {F:Nat->List (List Int)} (h:m.Ir s t F) (hs:m.h_.length<=s) {i:Nat} (hi:i<m.h_.length):nK iM (F i)=nK iM (m.uT (i:Int) (jK m.h_.length)):=by
 refine Yp fun x=> ?_;rw [h.mem i hi];unfold uT;rw [aqJ];constructor;·rintro ⟨j,h1,⟨h2,h2'⟩,rfl⟩;exact ⟨(j:Int),aq8.2 ⟨QV.2 ⟨j,h1,rfl⟩,aJ⟩,rfl⟩
 rintro ⟨y,hy,rfl⟩;obtain ⟨h1,h2⟩:=aq8.1 hy;obtain ⟨j,hj,rfl⟩:=QV.1 h1;have h3:(j:Int)≠(i:Int):=iq h2;exact ⟨j,hj,⟨ah,ah⟩,rfl⟩
theorem QW {i:Nat} (hi:i<m.h_.length):m.sU[i]? =some (nK iM (m.uT (i:Int) (jK m.h_.length))):=by
 unfold sU;rw [dP,fO hi];rfl
end g_
namespace g_
variable {m n i:g_}
def apB (m:g_) (s t:Int) (w:List Int):Bool:=decide (m.iY s w≠m.iY t w)
def MV (m:g_) (s t:Nat) (C:List (List Int)):List (List Int):=if C.any (m.apB (s:Int) (t:Int))=true then C else C++[m.mq (s:Int) (t:Int)]
def Jy (m:g_) (s:Nat) (C:List (List Int)):Nat->List (List Int)
 |0=>C
 |k+1=>m.MV s (s+1+k) (Jy m s C k)
def yU (m:g_):Nat->List (List Int)
 |0=>[]
 |s+1=>m.Jy s (yU m s) (m.h_.length-(s+1))
def QX (m:g_):List (List Int):=nK iM (m.yU m.h_.length)
theorem Uu {s t:Nat} {C:List (List Int)} {w:List Int} (h:w∈m.MV s t C):w∈C\/w=m.mq (s:Int) (t:Int):=by
 unfold MV at h;split at h;·exact .inl h
 rcases eG.1 h with h|h;·exact .inl h
 exact .inr (dZ.1 h)
theorem ED {s:Nat} {C:List (List Int)}:∀k,∀w∈m.Jy s C k,w∈C\/∃a b:Int,w=m.mq a b
 |0,_,h=> .inl h
 |k+1,w,h=>by
  rcases Uu h with h|h
  ·exact ED k w h
  exact .inr ⟨_,_,h⟩
theorem EF:∀s,∀w∈m.yU s,∃a b:Int,w=m.mq a b
 |0,w,h=>by simp [yU] at h
 |s+1,w,h=>by
  rcases ED _ w h with h|h
  ·exact EF s w h
  exact h
theorem VT {w:List Int} (h:w∈m.QX):∃a b:Int,w=m.mq a b:=EF _ w ((j_ jF).1 h)
theorem MW {s:Nat} {C:List (List Int)}:∀k,(m.Jy s C k).length<=C.length+k
 |0=>bM _
 |k+1=>by
  have h:=MW (s:=s) (C:=C) k
  unfold Jy MV
  split
  ·omega
  rw [dB,eT];omega
theorem MZ:∀s,(m.yU s).length<=s*m.h_.length
 |0=>by simp [yU]
 |s+1=>by
  have h1:=MZ s
  have h2:=MW (m:=m) (s:=s) (C:=m.yU s) (m.h_.length-(s+1))
  rw [aqf]
  show (m.Jy s (m.yU s) (m.h_.length-(s+1))).length<=_
  omega
theorem VU:m.QX.length<=m.h_.length*m.h_.length:=dH (vM _) (MZ _)
def rA (A X C:List (List Int)):List (List Int):=A.flatMap fun p=>X.flatMap fun x=>C.map fun t=>(p++x)++t
def wK (C:List (List Int)):List (List Int):=if C=[] then [[]] else C
def zu (m:g_) (iy:Int):List (List Int)×Int:=
 if m.err≠0 then ([],m.err) else
 if iy<0\/3<iy then ([],2) else
 if (jM m.gZ (iy+1)).2≠0 then ([],(jM m.gZ (iy+1)).2) else
 if 10000<(m.minOf.qm.map Pc.word).length*(jM m.gZ (iy+1)).1.length*(wK m.minOf.QX).length then ([],11) else
 (pO (rA (m.minOf.qm.map Pc.word) (jM m.gZ (iy+1)).1 (wK m.minOf.QX)),0)
def IV (m:g_) (iy:Int):List (List Int)×Int:=
 if m.err≠0 then ([],m.err) else
 if iy<0\/3<iy then ([],2) else
 if (jM m.gZ (iy+1)).2≠0 then ([],(jM m.gZ (iy+1)).2) else
 if 10000<(m.minOf.qm.map Pc.word).length*(jM m.gZ (iy+1)).1.length*tJ m.minOf.sU then ([],11) else
 (pO (sS m.minOf m.minOf.sU (m.minOf.qm.map Pc.word) (jM m.gZ (iy+1)).1),0)
end g_
def aeo (b:Option (List Int)) (x:List Int):Option (List Int):=
 match b with
 |none=>some x
 |some b=>some (if iM x b<0 then x else b)
def uX (l:List (List Int)):Option (List Int):=l.foldl aeo none
theorem KL (l:List (List Int)) (x:List Int):uX (l++[x])=aeo (uX l) x:=by unfold uX;rw [aql];rfl
theorem ab9:uX []=none:=rfl
theorem Iu:∀(l:List (List Int)) (b:List Int),∃x,l.foldl aeo (some b)=some x/\(x=b\/x∈l)
 |[],b=>⟨b,rfl,.inl rfl⟩
 |y::l,b=>by
  rw [arA]
  show ∃x,l.foldl aeo (some (if iM y b<0 then y else b))=some x/\_
  obtain ⟨x,h1,h2⟩:=Iu l (if iM y b<0 then y else b)
  refine ⟨x,h1,?_⟩
  rcases h2 with h2|h2
  ·split at h2
   ·exact .inr (by rw [h2];exact List.mem_cons_self ..)
   exact .inl h2
  exact .inr (aqZ _ h2)
theorem Yq {l:List (List Int)} (h:l≠[]):∃x,uX l=some x/\x∈l:=by
 cases l with
 |nil=>exact absurd rfl h
 |cons y l=>
  obtain ⟨x,h1,h2⟩:=Iu l y;refine ⟨x,h1,?_⟩;rcases h2 with rfl|h2;·exact List.mem_cons_self ..
  exact aqZ _ h2
def g_.Yr (m:g_) (t:Tr):Option (List Int):=
 if jf (m.iY m.start t.inn) t.out<min t.inn.length t.out.length then some (t.inn.take (jf (m.iY m.start t.inn) t.out+1)) else none
def g_.El (m:g_) (T:List Tr):List (List Int):=T.filterMap m.Yr
def g_.acd (m:g_) (T:List Tr):Option (List Int):=uX (m.El T)
theorem g_.Yt {m:g_} {T:List Tr} {k:Nat} {t:Tr} (h:T[k]? =some t):m.El (T.take (k+1))=m.El (T.take k)++(m.Yr t).toList:=by
 unfold g_.El;rw [dh,h,List.filterMap_append];congr 1
def yV (a b:List Int):Option Nat:=if jf a b<min a.length b.length then some (jf a b) else none
theorem g_.ace {m:g_} {t:Tr}:m.Yr t=(yV (m.iY m.start t.inn) t.out).map fun i=>t.inn.take (i+1):=by
 unfold g_.Yr yV;rw [g_.uh];split<;>rfl
def YQ (h:Hy) (o:Ob):List Int×Bool×Int:=
 if h.m.gZ≠o.gZ then ([],false,15) else ((h.m.acd o.jg).getD [],(h.m.acd o.jg).isSome,0)
def YR (h:Hy) (o:Ob) (l:List (List Int)):List (List Int)×List Int×Bool×Int:=
 if (YQ h o).2.2≠0 then ([],[],false,(YQ h o).2.2) else
 if (YQ h o).2.1=true then ([],(YQ h o).1,false,0) else
 (pO (l.filter fun v=> !o.known v),[],decide ((pO (l.filter fun v=> !o.known v)).length=0),0)
structure lK where
 kind:Int
 iy:Int
 seed:Nat
 count:Int
 len:Int
namespace lK
def err (s:lK):Int:=
 if s.kind<1\/4<s.kind then 2 else
 if s.kind=4 then (if s.iy≠0 then 1 else if s.count<0\/10000<s.count\/s.len<0\/1024<s.len then 2 else 0) else
 if s.iy<0\/3<s.iy then 2 else if s.seed≠0\/s.count≠0\/s.len≠0 then 1 else 0
end lK
theorem iV {p:Prop} (h:p:=by unfold lK.err;dsimp only;repeat (first|rfl|omega|(rw [bQ ah])|(rw [bO ah]))):RowKit.Hid p:=h
def zw (seed:Nat) (gZ count len:Int):List (List Int)×Int:=
 if gZ<1\/64<gZ\/count<0\/10000<count\/len<0\/1024<len then ([],2) else (DT gZ.toNat len.toNat count.toNat seed [],0)
def g_.wT (m:g_) (s:lK):List (List Int)×Int:=
 if m.err≠0 then ([],m.err) else if s.err≠0 then ([],s.err) else
 if s.kind=1 then m.zu s.iy else if s.kind=2 then m.IV s.iy else if s.kind=3 then m.BM s.iy else
 (nK iM (zw s.seed m.gZ s.count s.len).1,(zw s.seed m.gZ s.count s.len).2)
end
section
open Tryz
open Go.RowKit
abbrev stV (s:lK):Value:= .agg #[.int .i64 s.kind,.int .i64 s.iy,.int .u64 (s.seed:Int),.int .i64 s.count,.int .i64 s.len]
abbrev EG (s:lK):Obj:= .cells #[.int .i64 s.kind,.int .i64 s.iy,.int .u64 (s.seed:Int),.int .i64 s.count,.int .i64 s.len] 27
abbrev S5 (w:World) (b:Nat) (s:lK):Prop:=w.cell? ⟨b,0,none⟩=some (.int .i64 s.kind)/\w.cell? ⟨b,1,none⟩=some (.int .i64 s.iy)/\w.cell? ⟨b,2,none⟩=some (.int .u64 (s.seed:Int))/\w.cell? ⟨b,3,none⟩=some (.int .i64 s.count)/\w.cell? ⟨b,4,none⟩=some (.int .i64 s.len)
theorem M_ (w:World) (s:lK):S5 (w.alloc (EG s)) w.heap.size s:=by refine ⟨?_,?_,?_,?_,?_⟩<;>simp
theorem S5.below {B b:Nat} {w w':World} {s:lK} (h:S5 w b s) (hb:Below B w w') (hlt:b<B):S5 w' b s:=
 ⟨(hb.cell (p:=⟨b,0,none⟩) hlt).trans h.1,(hb.cell (p:=⟨b,1,none⟩) hlt).trans h.2.1,(hb.cell (p:=⟨b,2,none⟩) hlt).trans h.2.2.1,(hb.cell (p:=⟨b,3,none⟩) hlt).trans h.2.2.2.1,(hb.cell (p:=⟨b,4,none⟩) hlt).trans h.2.2.2.2⟩
section
variable {w:World}
theorem wD (s:lK):Calls prog 7 #[stV s] w fun e w'=>e= .returned (.int .i64 s.err)/\Below w.heap.size w w':=by
 have hB0:=iB w (EG s);obtain ⟨k,e,sd,c,l⟩:=s;by_cases k1:k=1
 ·subst k1;by_cases h1:e<0
  ·have h1b:decide (e<0)=true:=by simp [h1]
   have HF:Hid (lK.err ⟨1,e,sd,c,l⟩=2):=iV;clear h1;go_enter func7,ntmps7;go_wp2;go_ret;exact ⟨by rw [HF.out];rfl,hB0⟩
  have h1b:decide (e<0)=false:=aJ;by_cases h2:3<e
  ·have Ei:decide (3<e)=true:=by simp [h2]
   have HF:Hid (lK.err ⟨1,e,sd,c,l⟩=2):=iV;clear h1 h2;go_enter func7,ntmps7;go_wp2;go_ret;exact ⟨by rw [HF.out];rfl,hB0⟩
  have Ei:decide (3<e)=false:=aJ;by_cases h3:sd≠0
  ·have Gm:((sd:Int) !=0)=true:=by simp [h3]
   have HF:Hid (lK.err ⟨1,e,sd,c,l⟩=1):=iV;clear h1 h2 h3;go_enter func7,ntmps7;go_wp2;go_ret;exact ⟨by rw [HF.out];rfl,hB0⟩
  have Gm:((sd:Int) !=0)=false:=aJ;by_cases h4:c≠0
  ·have Jq:(c !=0)=true:=by simp [h4]
   have HF:Hid (lK.err ⟨1,e,sd,c,l⟩=1):=iV;clear h1 h2 h3 h4;go_enter func7,ntmps7;go_wp2;go_ret;exact ⟨by rw [HF.out];rfl,hB0⟩
  have Jq:(c !=0)=false:=aJ;by_cases h5:l≠0
  ·have QY:(l !=0)=true:=by simp [h5]
   have HF:Hid (lK.err ⟨1,e,sd,c,l⟩=1):=iV;clear h1 h2 h3 h4 h5;go_enter func7,ntmps7;go_wp2;go_ret;exact ⟨by rw [HF.out];rfl,hB0⟩
  have QY:(l !=0)=false:=aJ;have HF:Hid (lK.err ⟨1,e,sd,c,l⟩=0):=iV;clear h1 h2 h3 h4 h5;go_enter func7,ntmps7;go_wp2;go_ret;exact ⟨by rw [HF.out];rfl,hB0⟩
 have k1b:(k==1)=false:=by simp [k1]
 by_cases k2:k=2
 ·subst k2;by_cases h1:e<0
  ·have h1b:decide (e<0)=true:=by simp [h1]
   have HF:Hid (lK.err ⟨2,e,sd,c,l⟩=2):=iV;clear h1;go_enter func7,ntmps7;go_wp2;go_ret;exact ⟨by rw [HF.out];rfl,hB0⟩
  have h1b:decide (e<0)=false:=aJ;by_cases h2:3<e
  ·have Ei:decide (3<e)=true:=by simp [h2]
   have HF:Hid (lK.err ⟨2,e,sd,c,l⟩=2):=iV;clear h1 h2;go_enter func7,ntmps7;go_wp2;go_ret;exact ⟨by rw [HF.out];rfl,hB0⟩
  have Ei:decide (3<e)=false:=aJ;by_cases h3:sd≠0
  ·have Gm:((sd:Int) !=0)=true:=by simp [h3]
   have HF:Hid (lK.err ⟨2,e,sd,c,l⟩=1):=iV;clear h1 h2 h3;go_enter func7,ntmps7;go_wp2;go_ret;exact ⟨by rw [HF.out];rfl,hB0⟩
  have Gm:((sd:Int) !=0)=false:=aJ;by_cases h4:c≠0
  ·have Jq:(c !=0)=true:=by simp [h4]
   have HF:Hid (lK.err ⟨2,e,sd,c,l⟩=1):=iV;clear h1 h2 h3 h4;go_enter func7,ntmps7;go_wp2;go_ret;exact ⟨by rw [HF.out];rfl,hB0⟩
  have Jq:(c !=0)=false:=aJ;by_cases h5:l≠0
  ·have QY:(l !=0)=true:=by simp [h5]
   have HF:Hid (lK.err ⟨2,e,sd,c,l⟩=1):=iV;clear h1 h2 h3 h4 h5;go_enter func7,ntmps7;go_wp2;go_ret;exact ⟨by rw [HF.out];rfl,hB0⟩
  have QY:(l !=0)=false:=aJ;have HF:Hid (lK.err ⟨2,e,sd,c,l⟩=0):=iV;clear h1 h2 h3 h4 h5;go_enter func7,ntmps7;go_wp2;go_ret;exact ⟨by rw [HF.out];rfl,hB0⟩
 have k2b:(k==2)=false:=by simp [k2]
 by_cases k3:k=3
 ·subst k3;by_cases h1:e<0
  ·have h1b:decide (e<0)=true:=by simp [h1]
   have HF:Hid (lK.err ⟨3,e,sd,c,l⟩=2):=iV;clear h1;go_enter func7,ntmps7;go_wp2;go_ret;exact ⟨by rw [HF.out];rfl,hB0⟩
  have h1b:decide (e<0)=false:=aJ;by_cases h2:3<e
  ·have Ei:decide (3<e)=true:=by simp [h2]
   have HF:Hid (lK.err ⟨3,e,sd,c,l⟩=2):=iV;clear h1 h2;go_enter func7,ntmps7;go_wp2;go_ret;exact ⟨by rw [HF.out];rfl,hB0⟩
  have Ei:decide (3<e)=false:=aJ;by_cases h3:sd≠0
  ·have Gm:((sd:Int) !=0)=true:=by simp [h3]
   have HF:Hid (lK.err ⟨3,e,sd,c,l⟩=1):=iV;clear h1 h2 h3;go_enter func7,ntmps7;go_wp2;go_ret;exact ⟨by rw [HF.out];rfl,hB0⟩
  have Gm:((sd:Int) !=0)=false:=aJ;by_cases h4:c≠0
  ·have Jq:(c !=0)=true:=by simp [h4]
   have HF:Hid (lK.err ⟨3,e,sd,c,l⟩=1):=iV;clear h1 h2 h3 h4;go_enter func7,ntmps7;go_wp2;go_ret;exact ⟨by rw [HF.out];rfl,hB0⟩
  have Jq:(c !=0)=false:=aJ;by_cases h5:l≠0
  ·have QY:(l !=0)=true:=by simp [h5]
   have HF:Hid (lK.err ⟨3,e,sd,c,l⟩=1):=iV;clear h1 h2 h3 h4 h5;go_enter func7,ntmps7;go_wp2;go_ret;exact ⟨by rw [HF.out];rfl,hB0⟩
  have QY:(l !=0)=false:=aJ;have HF:Hid (lK.err ⟨3,e,sd,c,l⟩=0):=iV;clear h1 h2 h3 h4 h5;go_enter func7,ntmps7;go_wp2;go_ret;exact ⟨by rw [HF.out];rfl,hB0⟩
 have k3b:(k==3)=false:=by simp [k3]
 by_cases k4:k=4
 ·subst k4;by_cases h1:e≠0
  ·have h1b:(e !=0)=true:=by simp [h1]
   have HF:Hid (lK.err ⟨4,e,sd,c,l⟩=1):=iV;clear h1;go_enter func7,ntmps7;go_wp2;go_ret;exact ⟨by rw [HF.out];rfl,hB0⟩
  have h1b:(e !=0)=false:=aJ;by_cases h2:c<0
  ·have Ei:decide (c<0)=true:=by simp [h2]
   have HF:Hid (lK.err ⟨4,e,sd,c,l⟩=2):=iV;clear h1 h2;go_enter func7,ntmps7;go_wp2;go_ret;exact ⟨by rw [HF.out];rfl,hB0⟩
  have Ei:decide (c<0)=false:=aJ;by_cases h3:10000<c
  ·have Gm:decide (10000<c)=true:=by simp [h3]
   have HF:Hid (lK.err ⟨4,e,sd,c,l⟩=2):=iV;clear h1 h2 h3;go_enter func7,ntmps7;go_wp2;go_ret;exact ⟨by rw [HF.out];rfl,hB0⟩
  have Gm:decide (10000<c)=false:=aJ;by_cases h4:l<0
  ·have Jq:decide (l<0)=true:=by simp [h4]
   have HF:Hid (lK.err ⟨4,e,sd,c,l⟩=2):=iV;clear h1 h2 h3 h4;go_enter func7,ntmps7;go_wp2;go_ret;exact ⟨by rw [HF.out];rfl,hB0⟩
  have Jq:decide (l<0)=false:=aJ;by_cases h5:1024<l
  ·have QY:decide (1024<l)=true:=by simp [h5]
   have HF:Hid (lK.err ⟨4,e,sd,c,l⟩=2):=iV;clear h1 h2 h3 h4 h5;go_enter func7,ntmps7;go_wp2;go_ret;exact ⟨by rw [HF.out];rfl,hB0⟩
  have QY:decide (1024<l)=false:=aJ;have HF:Hid (lK.err ⟨4,e,sd,c,l⟩=0):=iV;clear h1 h2 h3 h4 h5;go_enter func7,ntmps7;go_wp2;go_ret;exact ⟨by rw [HF.out];rfl,hB0⟩
 have k4b:(k==4)=false:=by simp [k4]
 by_cases k5:k<1
 ·have k5b:decide (k<1)=true:=by simp [k5]
  have HF:Hid (lK.err ⟨k,e,sd,c,l⟩=2):=iV;clear k1 k2 k3 k4 k5;go_enter func7,ntmps7;go_wp2;go_ret;exact ⟨by rw [HF.out];rfl,hB0⟩
 have k5b:decide (k<1)=false:=aJ;have k6b:decide (4<k)=true:=aJ;have HF:Hid (lK.err ⟨k,e,sd,c,l⟩=2):=iV;clear k1 k2 k3 k4 k5;go_enter func7,ntmps7;go_wp2;go_ret;exact ⟨by rw [HF.out];rfl,hB0⟩
theorem xY (s:lK):Calls prog 8 #[stV s] w fun e w'=>e= .returned (.int .i64 s.err)/\Below w.heap.size w w':=by
 have hB0:=iB w (EG s);obtain ⟨k,e,sd,c,l⟩:=s;by_cases k1:k=1
 ·subst k1;by_cases h1:e<0
  ·have h1b:decide (e<0)=true:=by simp [h1]
   have HF:Hid (lK.err ⟨1,e,sd,c,l⟩=2):=iV;clear h1;go_enter func8,ntmps8;go_wp2;go_ret;exact ⟨by rw [HF.out];rfl,hB0⟩
  have h1b:decide (e<0)=false:=aJ;by_cases h2:3<e
  ·have Ei:decide (3<e)=true:=by simp [h2]
   have HF:Hid (lK.err ⟨1,e,sd,c,l⟩=2):=iV;clear h1 h2;go_enter func8,ntmps8;go_wp2;go_ret;exact ⟨by rw [HF.out];rfl,hB0⟩
  have Ei:decide (3<e)=false:=aJ;by_cases h3:sd≠0
  ·have Gm:((sd:Int) !=0)=true:=by simp [h3]
   have HF:Hid (lK.err ⟨1,e,sd,c,l⟩=1):=iV;clear h1 h2 h3;go_enter func8,ntmps8;go_wp2;go_ret;exact ⟨by rw [HF.out];rfl,hB0⟩
  have Gm:((sd:Int) !=0)=false:=aJ;by_cases h4:c≠0
  ·have Jq:(c !=0)=true:=by simp [h4]
   have HF:Hid (lK.err ⟨1,e,sd,c,l⟩=1):=iV;clear h1 h2 h3 h4;go_enter func8,ntmps8;go_wp2;go_ret;exact ⟨by rw [HF.out];rfl,hB0⟩
  have Jq:(c !=0)=false:=aJ;by_cases h5:l≠0
  ·have QY:(l !=0)=true:=by simp [h5]
   have HF:Hid (lK.err ⟨1,e,sd,c,l⟩=1):=iV;clear h1 h2 h3 h4 h5;go_enter func8,ntmps8;go_wp2;go_ret;exact ⟨by rw [HF.out];rfl,hB0⟩
  have QY:(l !=0)=false:=aJ;have HF:Hid (lK.err ⟨1,e,sd,c,l⟩=0):=iV;clear h1 h2 h3 h4 h5;go_enter func8,ntmps8;go_wp2;go_ret;exact ⟨by rw [HF.out];rfl,hB0⟩
 have k1b:(k==1)=false:=by simp [k1]
 by_cases k2:k=2
 ·subst k2;by_cases h1:e<0
  ·have h1b:decide (e<0)=true:=by simp [h1]
   have HF:Hid (lK.err ⟨2,e,sd,c,l⟩=2):=iV;clear h1;go_enter func8,ntmps8;go_wp2;go_ret;exact ⟨by rw [HF.out];rfl,hB0⟩
  have h1b:decide (e<0)=false:=aJ;by_cases h2:3<e
  ·have Ei:decide (3<e)=true:=by simp [h2]
   have HF:Hid (lK.err ⟨2,e,sd,c,l⟩=2):=iV;clear h1 h2;go_enter func8,ntmps8;go_wp2;go_ret;exact ⟨by rw [HF.out];rfl,hB0⟩
  have Ei:decide (3<e)=false:=aJ;by_cases h3:sd≠0
  ·have Gm:((sd:Int) !=0)=true:=by simp [h3]
   have HF:Hid (lK.err ⟨2,e,sd,c,l⟩=1):=iV;clear h1 h2 h3;go_enter func8,ntmps8;go_wp2;go_ret;exact ⟨by rw [HF.out];rfl,hB0⟩
  have Gm:((sd:Int) !=0)=false:=aJ;by_cases h4:c≠0
  ·have Jq:(c !=0)=true:=by simp [h4]
   have HF:Hid (lK.err ⟨2,e,sd,c,l⟩=1):=iV;clear h1 h2 h3 h4;go_enter func8,ntmps8;go_wp2;go_ret;exact ⟨by rw [HF.out];rfl,hB0⟩
  have Jq:(c !=0)=false:=aJ;by_cases h5:l≠0
  ·have QY:(l !=0)=true:=by simp [h5]
   have HF:Hid (lK.err ⟨2,e,sd,c,l⟩=1):=iV;clear h1 h2 h3 h4 h5;go_enter func8,ntmps8;go_wp2;go_ret;exact ⟨by rw [HF.out];rfl,hB0⟩
  have QY:(l !=0)=false:=aJ;have HF:Hid (lK.err ⟨2,e,sd,c,l⟩=0):=iV;clear h1 h2 h3 h4 h5;go_enter func8,ntmps8;go_wp2;go_ret;exact ⟨by rw [HF.out];rfl,hB0⟩
 have k2b:(k==2)=false:=by simp [k2]
 by_cases k3:k=3
 ·subst k3;by_cases h1:e<0
  ·have h1b:decide (e<0)=true:=by simp [h1]
   have HF:Hid (lK.err ⟨3,e,sd,c,l⟩=2):=iV;clear h1;go_enter func8,ntmps8;go_wp2;go_ret;exact ⟨by rw [HF.out];rfl,hB0⟩
  have h1b:decide (e<0)=false:=aJ;by_cases h2:3<e
  ·have Ei:decide (3<e)=true:=by simp [h2]
   have HF:Hid (lK.err ⟨3,e,sd,c,l⟩=2):=iV;clear h1 h2;go_enter func8,ntmps8;go_wp2;go_ret;exact ⟨by rw [HF.out];rfl,hB0⟩
  have Ei:decide (3<e)=false:=aJ;by_cases h3:sd≠0
  ·have Gm:((sd:Int) !=0)=true:=by simp [h3]
   have HF:Hid (lK.err ⟨3,e,sd,c,l⟩=1):=iV;clear h1 h2 h3;go_enter func8,ntmps8;go_wp2;go_ret;exact ⟨by rw [HF.out];rfl,hB0⟩
  have Gm:((sd:Int) !=0)=false:=aJ;by_cases h4:c≠0
  ·have Jq:(c !=0)=true:=by simp [h4]
   have HF:Hid (lK.err ⟨3,e,sd,c,l⟩=1):=iV;clear h1 h2 h3 h4;go_enter func8,ntmps8;go_wp2;go_ret;exact ⟨by rw [HF.out];rfl,hB0⟩
  have Jq:(c !=0)=false:=aJ;by_cases h5:l≠0
  ·have QY:(l !=0)=true:=by simp [h5]
   have HF:Hid (lK.err ⟨3,e,sd,c,l⟩=1):=iV;clear h1 h2 h3 h4 h5;go_enter func8,ntmps8;go_wp2;go_ret;exact ⟨by rw [HF.out];rfl,hB0⟩
  have QY:(l !=0)=false:=aJ;have HF:Hid (lK.err ⟨3,e,sd,c,l⟩=0):=iV;clear h1 h2 h3 h4 h5;go_enter func8,ntmps8;go_wp2;go_ret;exact ⟨by rw [HF.out];rfl,hB0⟩
 have k3b:(k==3)=false:=by simp [k3]
 by_cases k4:k=4
 ·subst k4;by_cases h1:e≠0
  ·have h1b:(e !=0)=true:=by simp [h1]
   have HF:Hid (lK.err ⟨4,e,sd,c,l⟩=1):=iV;clear h1;go_enter func8,ntmps8;go_wp2;go_ret;exact ⟨by rw [HF.out];rfl,hB0⟩
  have h1b:(e !=0)=false:=aJ;by_cases h2:c<0
  ·have Ei:decide (c<0)=true:=by simp [h2]
   have HF:Hid (lK.err ⟨4,e,sd,c,l⟩=2):=iV;clear h1 h2;go_enter func8,ntmps8;go_wp2;go_ret;exact ⟨by rw [HF.out];rfl,hB0⟩
  have Ei:decide (c<0)=false:=aJ;by_cases h3:10000<c
  ·have Gm:decide (10000<c)=true:=by simp [h3]
   have HF:Hid (lK.err ⟨4,e,sd,c,l⟩=2):=iV;clear h1 h2 h3;go_enter func8,ntmps8;go_wp2;go_ret;exact ⟨by rw [HF.out];rfl,hB0⟩
  have Gm:decide (10000<c)=false:=aJ;by_cases h4:l<0
  ·have Jq:decide (l<0)=true:=by simp [h4]
   have HF:Hid (lK.err ⟨4,e,sd,c,l⟩=2):=iV;clear h1 h2 h3 h4;go_enter func8,ntmps8;go_wp2;go_ret;exact ⟨by rw [HF.out];rfl,hB0⟩
  have Jq:decide (l<0)=false:=aJ;by_cases h5:1024<l
  ·have QY:decide (1024<l)=true:=by simp [h5]
   have HF:Hid (lK.err ⟨4,e,sd,c,l⟩=2):=iV;clear h1 h2 h3 h4 h5;go_enter func8,ntmps8;go_wp2;go_ret;exact ⟨by rw [HF.out];rfl,hB0⟩
  have QY:decide (1024<l)=false:=aJ;have HF:Hid (lK.err ⟨4,e,sd,c,l⟩=0):=iV;clear h1 h2 h3 h4 h5;go_enter func8,ntmps8;go_wp2;go_ret;exact ⟨by rw [HF.out];rfl,hB0⟩
 have k4b:(k==4)=false:=by simp [k4]
 by_cases k5:k<1
 ·have k5b:decide (k<1)=true:=by simp [k5]
  have HF:Hid (lK.err ⟨k,e,sd,c,l⟩=2):=iV;clear k1 k2 k3 k4 k5;go_enter func8,ntmps8;go_wp2;go_ret;exact ⟨by rw [HF.out];rfl,hB0⟩
 have k5b:decide (k<1)=false:=aJ;have k6b:decide (4<k)=true:=aJ;have HF:Hid (lK.err ⟨k,e,sd,c,l⟩=2):=iV;clear k1 k2 k3 k4 k5;go_enter func8,ntmps8;go_wp2;go_ret;exact ⟨by rw [HF.out];rfl,hB0⟩
end
section
variable {M:Nat->Prop} {w:World} {an ao:Option Addr} {cn co:Nat} {m:g_}
theorem Iw (hm:Ma M w an cn ao co m) (hme:Hid (m.iU=0)):Calls prog 126 #[kF m an cn ao co] w fun e w'=>e= .returned (.int .i64 0)/\Below w.heap.size w w':=by
 have hB0:=iB w (iP m an cn ao co);have hx0:=jE w m an cn ao co;have hz0:w.heap.size+1<=(w.alloc (iP m an cn ao co)).heap.size:=aH;have l1:=hm.h_.le;have l2:=hm.out.le;have HM:=bK hm;have HV0:=jR (hm.below hB0);rw [(g_.jv hme.out).1] at HV0;have HV:=bK HV0;clear hm HV0;go_enter func126,ntmps126;go_upto_region 1 with (fail);generalize w.alloc (iP m an cn ao co)=w0 at*
 obtain ⟨d0,d1,d2,d3⟩:=hx0;go_wp2_with fail;refine (HV.out).mono ?_;rintro e w1 ⟨rfl,hb1⟩;have hx1:C4 w1 w.heap.size an cn ao co m:=C4.below ⟨d0,d1,d2,d3⟩ hb1 ah;have hB1:=hB0.trans (hb1.mono ah);have VP:=bK (Dq (HM.out.below hB1));clear d0 d1 d2 d3 hB0 hb1 HV;obtain ⟨d0,d1,d2,d3⟩:=hx1;go_wp2_with fail;refine (VP.out).mono ?_;rintro e w2 ⟨b,rfl,hb,hb2⟩;have hbt:b=true:=hb.out.trans (g_.jv hme.out).2;subst hbt;have hB2:=hB1.trans (hb2.mono hB1.size);clear d0 d1 d2 d3 hB1 hb2 VP;go_wp2;go_ret;exact ⟨rfl,hB2⟩
theorem BH {s t:Int} {l:List Int} {f:Bool} (h:Gu (Ez m s t) l f):l=m.mq s t:=h.1
theorem EH (ok:m.Ok) {s t:Int} (hs:0<=s/\s<m.h_.length) (ht:0<=t/\t<m.h_.length):jq m s t=0:=by
 rcases xM (g_.oM _ ok) s t with h|h|h|h|h;all_goals first|omega|exact h.2.2.2.2
theorem afk {s t n:Nat} (hs:s<=n) (ht:t<=n) (hn:n<1000):s*n+t<1002000:=by
 have h1:s*n<=1000*1000:=eX ah ah;omega
theorem Uv (hm:Ma M w an cn ao co m) (hme:Hid (m.iU=0)) (hn:Hid (m.h_.length<1000)):Calls prog 77 #[kF m an cn ao co] w fun e w'=>∃(a:Option Addr) (c:Nat) (L:List (List (List Int))),e= .returned (.tuple #[.slice a L.length c,.int .i64 0])/\Hid (L=m.sU)/\Sl (fun k=>k<w.heap.size) w' a c L/\Below w.heap.size w w':=by
 have hB0:=iB w (iP m an cn ao co);have hx0:=jE w m an cn ao co;have hz0:w.heap.size+1<=(w.alloc (iP m an cn ao co)).heap.size:=aH;have ok:Hid m.Ok:=g_.iG m (g_.jv hme.out).1;have hnl:=hn.out;have HM:=bK hm;have HC:=bK (Iw (hm.below hB0) hme);clear hm;go_enter func77,ntmps77;go_upto_region 1 with (fail);generalize w.alloc (iP m an cn ao co)=w0 at*
 obtain ⟨d0,d1,d2,d3⟩:=hx0;go_wp2_with fail;refine (HC.out).mono ?_;rintro e w1 ⟨rfl,hb1⟩;have hx1:C4 w1 w.heap.size an cn ao co m:=C4.below ⟨d0,d1,d2,d3⟩ hb1 ah;have hB1:=hB0.trans (hb1.mono ah);have hz1:w.heap.size+1<=w1.heap.size:=ig hb1.size;clear d0 d1 d2 d3 hB0 hb1 HC hz0
 have zR:Hid (∀w',Below w1.heap.size w1 w'->C4 w' w.heap.size an cn ao co m/\Ma M w' an cn ao co m/\Below w.heap.size w w'):=fun w' h=>
  ⟨hx1.below h ah,HM.out.below (hB1.trans (h.mono ah)),hB1.trans (h.mono ah)⟩
 have Uw:=hx1.2.2.1;have xL:Hid (vT w1.heap.size (fun k=>k=w1.heap.size) (w1.alloc (.cells (madeCells #[.slice none 0 0] m.h_.length) 22)) w1.heap.size m.h_.length (fun _=>[])):=vT.made;have hba:=iB w1 (.cells (madeCells #[.slice none 0 0] m.h_.length) 22);have aoh:=(zR.out _ hba).1.2.2.1;have Gd:Hid (m.Ir 0 1 (fun _=>[])):=g_.ah3 ah;go_wp2_with (at_make;refine qW rfl _ _ _ rfl 22 (.slice none 0 0) 24 underlying110 vU rfl m.h_.length rfl rfl ah aS ?_);clear hx1 Uw hB1;generalize w1.alloc (.cells (madeCells #[.slice none 0 0] m.h_.length) 22)=w2 at*
 clear hz1;go_wp2;go_loopw [26] (fun v wr=>∃(s:Nat) (W:Nat->Prop) (F:Nat->List (List Int)),s<=m.h_.length/\v= .int .i64 s/\Hid (vT w1.heap.size W wr w1.heap.size m.h_.length F)/\Hid (m.Ir s (s+1) F)/\Below w1.heap.size w1 wr) (fun v _=>m.h_.length-(intOf v).toNat);case atStart=>exact ⟨0,_,_,ah,rfl,xL,Gd,hba⟩
 case round=>
  clear xL hba Gd aoh;obtain ⟨s,W,F,hs,rfl,xL,hF,hB⟩:=hrel;obtain ⟨wo,rfl⟩:=iA wr;by_cases hlt:s<m.h_.length
  ·go_wp2;go_loopw [7] (fun v wr=>∃(t:Nat) (W:Nat->Prop) (F:Nat->List (List Int)),s+1<=t/\t<=m.h_.length/\v= .int .i64 t/\Hid (vT w1.heap.size W wr w1.heap.size m.h_.length F)/\Hid (m.Ir s t F)/\Below w1.heap.size w1 wr) (fun v _=>m.h_.length-(intOf v).toNat);case atStart=>exact ⟨s+1,W,F,ah,ah,by go_num,xL,hF,hB⟩
   case round=>
    clear xL hF hB;obtain ⟨t,W,F,hst,ht,rfl,xL,hF,hB⟩:=hrel;obtain ⟨wo,rfl⟩:=iA wr;have hSo:=zR.out _ hB;have wX:=hB.size;by_cases htn:t<m.h_.length
    ·have hsr:Hid ((0:Int)<=s/\(s:Int)<m.h_.length/\(0:Int)<=t/\(t:Int)<m.h_.length):=by unfold Hid;omega
     have z_:=zS hSo.2.1 (s:Int) (t:Int) bg bg;rw [EH ok.out ⟨hsr.out.1,hsr.out.2.1⟩ ⟨hsr.out.2.2.1,hsr.out.2.2.2⟩] at z_;have Ii:=bK z_;obtain ⟨d0,d1,d2,d3⟩:=hSo.1;clear z_ hSo;go_wp2_with fail;refine (Ii.out).mono ?_;rintro e w3 ⟨ad,cd,l,f,rfl,hl,hsl,hb3⟩;have hle:Hid (l=m.mq (s:Int) (t:Int)):=BH hl.out;have hB3:=hB.trans (hb3.mono wX);have hz3:=hB3.size;have acf:=bK (xL.out.below hb3);have hlW:Hid (Sl (fun k=>k<wo.heap.size) w3 ad cd l):=hsl;have hll:=hsl.le;have acg:Hid (∀k,W k->k<wo.heap.size):=fun k hk=>(xL.out.lo k hk).2;have aoi:Hid (W w1.heap.size):=xL.out.gW;obtain ⟨a0,c0,hc0, -, -, -⟩:=acf.out.cell s hlt;have iX:Hid ((F s).length<1010000/\(F t).length<1010000):=by have h1:=hF.out.len s;have h2:=hF.out.len t;have h3:=afk (s:=s) (t:=t) (n:=m.h_.length) ah ah hn.out;exact ⟨ah,ah⟩
     have hls:=iX.out.1;have ni:=iX.out.2;clear hl hsl hB xL hb3 Ii d0 d1 d2 d3;have hF4:=bK (acf.out.below (iB w3 (.cells #[.slice ad l.length cd] 49)));have hc4:(w3.alloc (.cells #[.slice ad l.length cd] 49)).cell? ⟨w1.heap.size,s,none⟩=some (.slice a0 (F s).length c0):=((iB w3 _).cell (p:=⟨w1.heap.size,s,none⟩) (lt_of_cell hc0)).trans hc0
     have hl4:=(hlW.out.alloc (.cells #[.slice ad l.length cd] 49)).anti (M':=fun k=>W k\/k<w1.heap.size) fun k _ hm=>by
      rcases hm with hm|hm
      ·exact acg.out k hm
      show k<_;omega
     have HL4:=bK hl4;clear hl4;go_wp2_with (at_builtin;refine zl (F:=F) (i:=s) (r:=l) rfl rfl underlying22 iI rfl rfl hF4 hlt hc4 bf HL4.out ah aJ ?_);intro a5 c5 n5 w5 hn5 QZ apN apO hb5 hu5;have hB4:=hB3.alloc hz3 (.cells #[.slice ad l.length cd] 49);have jw:=hB4.trans hb5;have jo:=jw.setCell (p:=⟨w1.heap.size,s,none⟩) (bM _) (.slice a5 n5 c5);have qR:=jo.size;have yJ:w1.heap.size<=w5.heap.size:=jw.size;obtain ⟨F6,YH⟩:∃F6,F6=(fun j=>if j=s then F s++[l] else F j):=⟨_,rfl⟩;rw [<-YH] at QZ;obtain ⟨W6,BK⟩:∃W6:Nat->Prop,W6=(fun k=>W k\/(k=w3.heap.size+1/\k<w5.heap.size)):=⟨_,rfl⟩;rw [<-BK] at QZ;have hgo:w1.heap.size<wo.heap.size:=acg.out _ aoi.out;have alr:Hid (Sl (fun k=>W6 k\/k<w1.heap.size) (w5.setCell ⟨w1.heap.size,s,none⟩ (.slice a5 n5 c5)) ad cd l):=by
      have hsa:(w3.alloc (.cells #[.slice ad l.length cd] 49)).heap.size=w3.heap.size+1:=aH;refine (hlW.out.alloc (.cells #[.slice ad l.length cd] 49)).ext ⟨by have:=hb5.size;simpa [World.setCell] using this,fun k hk hm=> ?_,fun k hk hm=> ?_⟩;·rw [hsa] at hk;rw [dM _ _ _ _ (fun e=>hm (by simp at e;omega)),hu5.out k hk (fun e=>hm (acg.out k e))]
      rw [BK] at hm;rw [hsa] at hk;rcases hm with (hm|hm)|hm;·exact acg.out k hm
      ·omega
      show k<_;omega
     have aoj:Hid (F6 t=F t):=bK (by rw [YH];exact bO ah);have als:Hid ((F6 t).length<1010000):=bK (by rw [aoj.out];exact ni);obtain ⟨a7,c7,JY, -, -, -⟩:=QZ.out.cell t htn;have ah4:=(bP (w5.setCell ⟨w1.heap.size,s,none⟩ (.slice a5 n5 c5)).heap.size (w5.setCell ⟨w1.heap.size,s,none⟩ (.slice a5 n5 c5))).alloc (bM _) (.cells #[.slice ad l.length cd] 49);have YK:=bK (QZ.out.below ah4);have aok:((w5.setCell ⟨w1.heap.size,s,none⟩ (.slice a5 n5 c5)).alloc (.cells #[.slice ad l.length cd] 49)).cell? ⟨w1.heap.size,t,none⟩=some (.slice a7 (F6 t).length c7):=(ah4.cell (p:=⟨w1.heap.size,t,none⟩) (lt_of_cell JY)).trans JY;have HL7:=bK (alr.out.alloc (.cells #[.slice ad l.length cd] 49));have HF6:=bK YH;clear QZ alr BK hu5 acf hF4 HL4 acg hgo hB3 hB4 jw hb5 YH;go_wp2_with (at_builtin;(refine zl (F:=F6) (i:=t) (r:=l) rfl rfl underlying22 iI rfl rfl YK htn aok bf HL7.out (ig als.out) aJ ?_));intro a8 c8 n8 w8 hn8 alu apP apQ rP hu8;have mg:=((jo.alloc qR (.cells #[.slice ad l.length cd] 49)).trans rP).setCell (p:=⟨w1.heap.size,t,none⟩) (bM _) (.slice a8 n8 c8);have hF8:Hid (m.Ir s (t+1) (fun j=>if j=t then F6 t++[l] else F6 j)):=by
      have h1:=g_.Yn ok.out hF.out ah htn;rw [<-hle.out] at h1;have h2:(fun j=>if j=t then F6 t++[l] else F6 j)=(fun j=>if j=t then (if j=s then F s++[l] else F j)++[l] else if j=s then F s++[l] else F j):=by
       funext j;rw [HF6.out];by_cases e:j=t;·subst e;simp only [aqj]
       simp only [bO e]
      unfold Hid;rw [h2];exact h1
     clear HF6 YK HL7 ah4 jo hu8 rP hF;go_wp2;go_roundw;case rel=>exact ⟨t+1,_,_,ah,ah,by go_num,alu,hF8,mg⟩
     case measure=>exact bF
    have hF2:Hid (m.Ir (s+1) (s+1+1) F):=by have h:=hF.out;rw [show t=m.h_.length by omega] at h;exact g_.Yo h
    have hd2:=hSo.1.2.2.1;clear hSo;go_wp2;go_roundw;case rel=>exact ⟨s+1,W,F,ah,by go_num,xL,hF2,hB⟩
    case measure=>exact bF
  have hsn:Hid (m.h_.length<=s):=bK ah;have wX:=hB.size;have hBw:=(zR.out _ hB).2.2;have hwo:=hBw.size;go_wp2_with (at_make;refine sN (α:=List (List Int)) rfl _ _ _ rfl _ _ _ underlying110 vU wo.heap.size (fun k=>(Value.slice (some ⟨wo.heap.size,0,none⟩) 0 m.h_.length).ownBlock=some k\/k<wo.heap.size) m.h_.length rfl rfl ah aS (bM _) ?_);intro w3 hO3 hb3;have alv:Ox wo.heap.size wo.heap.size w3 22 (.slice (some ⟨wo.heap.size,0,none⟩) ([]:List (List (List Int))).length m.h_.length) ([]:List (List (List Int))):=hO3;have GZ:Hid (([]:List (List (List Int)))=m.sU.take 0):=rfl;clear hO3 hwo;go_wp2;go_loopw [75,11] (fun i v wr=>∃(k:Nat) (a':Option Addr) (c':Nat) (K:List (List (List Int))),k<=m.h_.length/\i= .int .i64 k/\v= .slice a' K.length c'/\Hid (K=m.sU.take k)/\Ox wo.heap.size wo.heap.size wr 22 (.slice a' K.length c') K/\Below wo.heap.size wo wr) (fun i _ _=>m.h_.length-(intOf i).toNat);case atStart=>exact ⟨0,_,_,[],ah,rfl,rfl,GZ,alv,hb3⟩
  case round=>
   clear alv hb3 GZ;obtain ⟨k,a',c',K,hk,rfl,rfl,hK,hO,hB3⟩:=hrel;obtain ⟨w3,rfl⟩:=iA wr;have hz3:=hB3.size;have hsl:Hid (m.sU.length=m.h_.length):=by unfold Hid g_.sU;simp
   have rW:Hid (K.length=k):=bK (by rw [hK.out,dx,hsl.out];omega);by_cases hkn:k<m.h_.length
   ·obtain ⟨a0,c0,hc0,hs0⟩:=(xL.out.below hB3).jD hkn;have iX:Hid ((F k).length<1010000):=by have h1:=hF.out.len k;have h3:=afk (s:=s) (t:=0) (n:=m.h_.length) ah ah hn.out;unfold Hid;omega
    have VR:=bK (sK hs0 (ig iX.out) (bK fun r hr=>by
     obtain ⟨j, -, -,rfl⟩:=(hF.out.mem k hkn r).1 hr
     have:=g_.uU hn.out (k:Int) (j:Int);omega))
    have hll:=hs0.le;clear hs0;go_wp2_with fail;refine (VR.out).mono ?_;rintro e w8 ⟨a8,c8,L8,rfl,TV,Jp,rP⟩;have mg:=hB3.trans (rP.mono hz3);have uf:=Ox.later hO rP
    have Iq:Sl (fun k=>(Value.slice a' K.length c').ownBlock=some k\/k<wo.heap.size) w8 a8 c8 L8:=Jp.anti fun k _ hm=>by
     rcases hm with hm|hm
     ·exact (hO.lt k hm).2
     show k<_;omega
    have alp:=Iq.le;have IQ:=mg.size;clear VR hB3 Jp rP hO;go_wp2_with (at_builtin;refine jd (n0:=wo.heap.size) (B:=wo.heap.size) (r:=L8) (ar:=a8) (cr:=c8) rfl rfl underlying110 vU rfl rfl (uf.alloc _) bf (Iq.alloc _) (by rw [rW.out];omega) aJ ?_);intro a9 c9 K9 w9 yT yF hbk hgr;have mH:=(mg.alloc IQ (.cells #[.slice a8 L8.length c8] 22)).grown hgr aJ (fun k hk=>(uf.lt k hk).1);have hKn:Hid (K9=m.sU.take (k+1)):=bK (by rw [yT.out,hK.out,dh,g_.QW hkn,TV.out,g_.ab8 hF.out hsn.out hkn];rfl);clear hbk hgr yT uf mg Iq IQ;go_wp2;go_roundw;case rel=>exact ⟨k+1,a9,c9,K9,ah,by go_num,rfl,hKn,yF,mH⟩
    case measure=>exact bF
   have hKf:Hid (K=m.sU):=bK (by rw [hK.out,bY (by rw [hsl.out];omega)]);have wI:=(hO.jD (bM _)).anti (M':=fun k=>k<w.heap.size) fun k _ hm=>by have:=hBw.size;show k<_;omega
   have jh:=hBw.trans (hB3.mono hBw.size);go_wp2;go_ret2;exact ⟨a',c',K,rfl,hKf,wI,jh⟩
end
end
section
open Tryz
namespace g_
variable {m n i:g_}
theorem Q_ (n:g_) (s t:Int):n.nQ (n.mq s t):=by
 unfold mq;cases h:Ez n s t with
 |none=>exact fun y hy=>by simp at hy
 |some w=>
  unfold Ez at h;split at h;·exact (sI h).1.1
  simp at h
end g_
end
section
open Tryz
open Go.RowKit
namespace g_
variable {m:g_}
theorem KN (hn:m.h_.length<1000) {s k:Nat}:∀w∈m.Jy s (m.yU s) k,m.nQ w/\w.length<=1000000:=fun w hw=>by
 have h:∃a b:Int,w=m.mq a b:=by
  rcases ED k w hw with h|h
  ·exact EF s w h
  exact h
 obtain ⟨a,b,rfl⟩:=h
 exact ⟨Q_ m a b,uU hn a b⟩
theorem KO (hn:m.h_.length<1000) {s:Nat}:∀w∈m.yU s,m.nQ w/\w.length<=1000000:=fun w hw=>KN hn (s:=s) (k:=0) w hw
theorem yO (hn:m.h_.length<1000) {s k:Nat} (hs:s<=m.h_.length) (hk:k<=m.h_.length):(m.Jy s (m.yU s) k).length<1100000:=by
 have h1:=MW (m:=m) (s:=s) (C:=m.yU s) k;have h2:=MZ (m:=m) s;have h3:s*m.h_.length<=1000*1000:=eX ah ah;omega
end g_
section
variable {M:Nat->Prop} {w:World} {an ao:Option Addr} {cn co:Nat} {m:g_}
theorem Ra (hm:Ma M w an cn ao co m) (hme:Hid (m.iU=0)) (hn:Hid (m.h_.length<1000)):Calls prog 75 #[kF m an cn ao co] w fun e w'=>∃(a:Option Addr) (c:Nat) (L:List (List Int)),e= .returned (.tuple #[.slice a L.length c,.int .i64 0])/\Hid (L=m.QX)/\Sl (fun k=>k<w.heap.size) w' a c L/\Below w.heap.size w w':=by
 have hB0:=iB w (iP m an cn ao co);have hx0:=jE w m an cn ao co;have hz0:w.heap.size+1<=(w.alloc (iP m an cn ao co)).heap.size:=aH;have ok:Hid m.Ok:=g_.iG m (g_.jv hme.out).1;have hnl:=hn.out;have HM:=bK hm;have HC:=bK (Iw (hm.below hB0) hme);clear hm;go_enter func75,ntmps75;go_upto_region 1 with (fail);generalize w.alloc (iP m an cn ao co)=w0 at*
 obtain ⟨d0,d1,d2,d3⟩:=hx0;go_wp2_with fail;refine (HC.out).mono ?_;rintro e w1 ⟨rfl,hb1⟩;have hx1:C4 w1 w.heap.size an cn ao co m:=C4.below ⟨d0,d1,d2,d3⟩ hb1 ah;have hB1:=hB0.trans (hb1.mono ah);have hz1:w.heap.size+1<=w1.heap.size:=ig hb1.size;clear d0 d1 d2 d3 hB0 hb1 HC hz0
 have zR:Hid (∀w',Below w1.heap.size w1 w'->C4 w' w.heap.size an cn ao co m/\Ma M w' an cn ao co m/\Below w.heap.size w w'):=fun w' h=>
  ⟨hx1.below h ah,HM.out.below (hB1.trans (h.mono ah)),hB1.trans (h.mono ah)⟩
 have Uw:=hx1.2.2.1;have kJ:Ox (α:=List Int) w1.heap.size w1.heap.size w1 49 (.slice none 0 0) []:=Ox.nil;have GZ:Hid (([]:List (List Int))=m.yU 0):=rfl;have sO:=bP w1.heap.size w1;clear hx1 hB1;go_wp2;go_loopw [5,19] (fun v i wr=>∃(s:Nat) (a':Option Addr) (c':Nat) (K:List (List Int)),s<=m.h_.length/\i= .int .i64 s/\v= .slice a' K.length c'/\Hid (K=m.yU s)/\Ox w1.heap.size w1.heap.size wr 49 (.slice a' K.length c') K/\Below w1.heap.size w1 wr) (fun _ i _=>m.h_.length-(intOf i).toNat);case atStart=>exact ⟨0,none,0,[],ah,rfl,rfl,GZ,kJ,sO⟩
 case round=>
  clear kJ GZ sO Uw;obtain ⟨s,a',c',K,hs,rfl,rfl,hK,hO,hB⟩:=hrel;obtain ⟨wo,rfl⟩:=iA wr;by_cases hlt:s<m.h_.length
  ·have hT0:Hid (K=m.Jy s (m.yU s) 0):=hK;go_wp2;go_loopw [5,7] (fun v i wr=>∃(k:Nat) (a':Option Addr) (c':Nat) (K:List (List Int)),s+1+k<=m.h_.length/\i= .int .i64 ((s+1+k:Nat):Int)/\v= .slice a' K.length c'/\Hid (K=m.Jy s (m.yU s) k)/\Ox w1.heap.size w1.heap.size wr 49 (.slice a' K.length c') K/\Below w1.heap.size w1 wr) (fun _ i _=>m.h_.length-(intOf i).toNat);case atStart=>exact ⟨0,a',c',K,ah,by go_num,rfl,hT0,hO,hB⟩
   case round=>
    clear hT0 hK hO hB;obtain ⟨k,a',c',K,hk,rfl,rfl,hK,hO,hB⟩:=hrel;obtain ⟨wo,rfl⟩:=iA wr;have hSo:=zR.out _ hB;have wX:=hB.size;by_cases htn:s+1+k<m.h_.length
    ·obtain ⟨t,ht⟩:∃t,t=s+1+k:=⟨_,rfl⟩;rw [<-ht] at htn ⊢;have HT:=bK ht;have Xt:Hid (∀l∈K,m.nQ l/\l.length<=1000000):=bK (by rw [hK.out];exact g_.KN hn.out);have rW:Hid (K.length<1100000):=bK (by rw [hK.out];exact g_.yO hn.out hs ah);have ach:=rW.out;have jH:Hid (m.Jy s (m.yU s) (k+1)=if K.any (Mi m s t)=true then K else K++[m.mq (s:Int) (t:Int)]):=by unfold Hid;rw [hK.out,HT.out];rfl
     have hKs:=hO.jD (bM _);obtain ⟨d0,d1,d2,d3⟩:=hSo.1;clear ht;cases hq:K.any (Mi m s t) with
     |true=>
      have HSe:=bK (zm (s:=s) (t:=t) hSo.2.1 hKs ok hlt htn Xt hq);have hK2:Hid (K=m.Jy s (m.yU s) (k+1)):=bK (by rw [jH.out,hq,bQ rfl]);have htk:(t:Int)+1=((s+1+(k+1):Nat):Int):=ig HT.out;clear hSo hq hKs;go_wp2_with fail;refine (HSe.out).mono ?_;rintro e w3 ⟨rfl,hb3⟩;have hB3:=hB.trans (hb3.mono wX);have hO3:=Ox.later hO hb3;clear HSe hb3 hB hO d0 d1 d2 d3;go_wp2;go_roundw;case rel=>exact ⟨k+1,a',c',K,ig HT.out,by rw [<-htk];go_num,rfl,hK2,hO3,hB3⟩
      case measure=>exact bF
     |false=>
      have HSe:=bK (zm (s:=s) (t:=t) hSo.2.1 hKs ok hlt htn Xt hq);have hK2:Hid (K++[m.mq (s:Int) (t:Int)]=m.Jy s (m.yU s) (k+1)):=bK (by rw [jH.out,hq,bO aH]);have htk:(t:Int)+1=((s+1+(k+1):Nat):Int):=ig HT.out;clear hSo hq hKs;go_wp2_with fail;refine (HSe.out).mono ?_;rintro e w3 ⟨rfl,hb3⟩;have hB3:=hB.trans (hb3.mono wX);have hO3:=Ox.later hO hb3;have kC:=zR.out _ hB3;have z_:=zS kC.2.1 (s:Int) (t:Int) bg bg;rw [EH ok.out (s:=(s:Int)) (t:=(t:Int)) ah ah] at z_;have Ii:=bK z_;clear HSe hb3 hB hO d0 d1 d2 d3 z_;obtain ⟨d0,d1,d2,d3⟩:=kC.1;clear kC;go_wp2_with fail;refine (Ii.out).mono ?_;rintro e w4 ⟨ad,cd,l,f,rfl,hl,hsl,hb4⟩;have hle:Hid (l=m.mq (s:Int) (t:Int)):=BH hl.out;have hB4:=hB3.trans (hb4.mono hB3.size);have hO4:=Ox.later hO3 hb4
      have Rb:Sl (fun k=>(Value.slice a' K.length c').ownBlock=some k\/k<w1.heap.size) w4 ad cd l:=hsl.anti fun k _ hm=>by
       rcases hm with hm|hm
       ·exact (hO3.lt k hm).2
       have:=hB3.size;show k<_;omega
      have hll:=hsl.le;have nN:=hB4.size;clear Ii hB3 hO3 hsl hb4 d0 d1 d2 d3 hl;go_wp2_with (at_builtin;refine jd (n0:=w1.heap.size) (B:=w1.heap.size) (r:=l) (ar:=ad) (cr:=cd) rfl rfl underlying22 iI rfl rfl (hO4.alloc _) bf (Rb.alloc _) ah aJ ?_);intro a9 c9 K9 w9 yT yF hbk hgr;have mH:=(hB4.alloc nN (.cells #[.slice ad l.length cd] 49)).grown hgr aJ (fun k hk=>(hO4.lt k hk).1);have hKn:Hid (K9=m.Jy s (m.yU s) (k+1)):=bK (by rw [yT.out,hle.out,hK2.out]);clear hbk hgr yT hO4 hB4 Rb nN;go_wp2;go_roundw;case rel=>exact ⟨k+1,a9,c9,K9,ig HT.out,by rw [<-htk];go_num,rfl,hKn,yF,mH⟩
      case measure=>exact bF
    have hKn:Hid (K=m.yU (s+1)):=by unfold Hid;rw [hK.out,show k=m.h_.length-(s+1) by omega];rfl
    have hd2:=hSo.1.2.2.1;clear hSo;go_wp2;go_roundw;case rel=>exact ⟨s+1,a',c',K,ah,by go_num,rfl,hKn,hO,hB⟩
    case measure=>exact bF
  have hKf:Hid (K=m.yU m.h_.length):=bK (by rw [hK.out,show s=m.h_.length by omega]);have rW:Hid (K.length<1100000):=bK (by rw [hK.out];exact g_.yO (k:=0) hn.out hs ah)
  have VR:=bK (sK (hO.jD (bM _)) (ig rW.out) (bK fun r hr=>by
   rw [hK.out] at hr
   have:=(g_.KO hn.out r hr).2;omega))
  have qK:=(zR.out _ hB).2.2;have wX:=qK.size;have hll:=(hO.jD (bM _)).le;go_wp2_with fail;refine (VR.out).mono ?_;rintro e w8 ⟨a8,c8,L8,rfl,TV,Jp,rP⟩;have YM:Hid (L8=m.QX):=by unfold Hid g_.QX;rw [TV.out,hKf.out]
  have wI:=Jp.anti (M':=fun k=>k<w.heap.size) fun k _ hm=>by show k<_;omega
  have jh:=qK.trans (rP.mono wX);clear VR Jp rP;go_wp2;go_ret2;exact ⟨a8,c8,L8,rfl,YM,wI,jh⟩
end
end
section
open Tryz
open Go.RowKit Go.Shelf
attribute [local go_sem] Oper.semAt_some
private theorem sV {α:Type} (c:Nat):∀l:List α,(l.map fun _=>c).sum=l.length*c
 |[]=>by simp
 |_::l=>by rw [fQ,List.sum_cons,sV c l,fD,aqf];omega
section
variable {M:Nat->Prop} {w:World} {an ao:Option Addr} {cn co:Nat} {m:g_}
theorem Iy (hm:Ma M w an cn ao co m) (iy:Int):Calls prog 34 #[kF m an cn ao co,.int .i64 iy] w fun e w'=>∃(a:Option Addr) (c:Nat) (L:List (List Int)) (e1:Int),e= .returned (.tuple #[.slice a L.length c,.int .i64 e1])/\Hid (m.zu iy=(L,e1))/\Sl (fun k=>k<w.heap.size) w' a c L/\Below w.heap.size w w':=by
 refine (callsIn_wide (n:=6)).1 ?_;have hB0:=iB w (iP m an cn ao co);have hx0:=jE w m an cn ao co;have hz0:w.heap.size<(w.alloc (iP m an cn ao co)).heap.size:=aH;have HM:=bK hm;have HV:=bK (jR (hm.below hB0));have l1:=hm.h_.le;have l2:=hm.out.le;clear hm;refine callsIn_of_wp_marks func34 rfl trivial ?_ rfl;simp only [ntmps34,aqS,fD,ap6,Nat.reduceAdd,Nat.reduceSub,aqB,aqC,aqT,aqL,gJ,gu];obtain ⟨d0,d1,d2,d3⟩:=hx0;gi_wp2_with fail
 generalize w.alloc (iP m an cn ao co)=w0 at*
 refine ⟨trivial,(callsIn_wide.2 HV.out).mono ?_⟩;rintro e w1 ⟨rfl,hb1⟩;have hx1:C4 w1 w.heap.size an cn ao co m:=C4.below ⟨d0,d1,d2,d3⟩ hb1 hz0;have hB1:=hB0.trans (hb1.mono ah);have hz1:w.heap.size<w1.heap.size:=ig hb1.size;clear d0 d1 d2 d3 hB0 hz0 hb1 HV;by_cases he:m.err=0
 ·have he':(m.err !=0)=false:=by simp [he]
  have HE:=bK he;have ok:Hid m.Ok:=g_.iG m HE.out;clear he;by_cases hex:iy<0\/3<iy
  ·have hR:Hid (m.zu iy=([],2)):=by unfold Hid g_.zu;rw [bO (by simp [HE.out]),bQ hex]
   by_cases h1:iy<0
   ·clear hex;gi_wp2
    exact ⟨.tuple #[.slice none 0 0,.int .i64 2],by simp [results,results34,go_sem],none,0,[],2,rfl,hR,Sl.nil _ _ _ aS,hB1⟩
   have h2:3<iy:=hex.elim (fun e=>absurd e h1) id;clear hex;gi_wp2
   exact ⟨.tuple #[.slice none 0 0,.int .i64 2],by simp [results,results34,go_sem],none,0,[],2,rfl,hR,Sl.nil _ _ _ aS,hB1⟩
  have h1:decide (iy<0)=false:=cZ (fun e=>hex (.inl e));have h2:decide (3<iy)=false:=cZ (fun e=>hex (.inr e));have HX:=bK hex;have hwr:IntKind.i64.wrap (iy+1)=iy+1:=eP _ ah;have ht0:=Ew (HM.out.below hB1);rw [HE.out] at ht0;have VP:=bK ht0;obtain ⟨d0,d1,d2,d3⟩:=hx1;clear hex ht0;gi_wp2_with fail
  refine ⟨trivial,(callsIn_wide.2 VP.out).mono ?_⟩;rintro e w3 ⟨mW,mZ,mY,m_,t,rfl,ht,DN,hb3⟩;have WZ:Hid (t=m.lF):=bK (by rw [ht.out,g_.jU HE.out]);have rz:Hid t.Ok:=by rw [WZ.out];exact g_.pQ ok.out
  have hme:Hid (t.iU=0):=bK (by rw [WZ.out];exact (g_.uW ok.out).1);have htn:Hid (t.h_.length<1000):=by have:=rz.out.n1;unfold Hid;omega
  have hti:Hid (t.gZ=m.gZ):=bK (by rw [WZ.out];rfl);have HTm:=bK (DN.ext (M':=fun k=>k<w.heap.size) (Ext.jA (fun k _ e=>by omega)));have hB3:=hB1.trans (hb3.mono ah);have hz3:w.heap.size<w3.heap.size:=ig hb3.size;have lt1:=DN.h_.le;have lt2:=DN.out.le;clear d0 d1 d2 d3 hB1 hz1 VP DN hb3;have hba:=iB w3 (iP t mW mZ mY m_);have hc4:C4 (w3.alloc (iP t mW mZ mY m_)) w3.heap.size mW mZ mY m_ t:=kI w3;have hB4:=hB3.trans (hba.mono ah);have JZ:=bK (HTm.out.below hba);have nN:w3.heap.size<(w3.alloc (iP t mW mZ mY m_)).heap.size:=aH;have HCv:=bK (Cq JZ.out (g_.jv hme.out).1);clear hba hB3 HTm;obtain ⟨d0,d1,d2,d3⟩:=hc4;gi_wp2_with fail
  generalize w3.alloc (iP t mW mZ mY m_)=w4 at*
  refine ⟨trivial,(callsIn_wide.2 HCv.out).mono ?_⟩;rintro e w5 ⟨aA,cA,A,rfl,hA,hAs,hb5⟩;have DF:C4 w5 w3.heap.size mW mZ mY m_ t:=C4.below ⟨d0,d1,d2,d3⟩ hb5 ah;have jw:=hB4.trans (hb5.mono ah);have J_:=bK (JZ.out.below hb5);have HA5:=bK (hAs.anti (M':=fun k=>k<w.heap.size) (fun k _ e=>by omega));have yJ:w3.heap.size<w5.heap.size:=ig hb5.size;have lA:=hAs.le;have CK:Hid (A.length<=1000/\∀p∈A,t.nQ p/\p.length<=1000):=by
   have hn1:=rz.out.n1;unfold Hid;rw [hA.out];refine ⟨?_,fun p hp=> ?_⟩;·rw [dJ];have h1:=t.rE t.h_.length;have h2:=g_.og rz.out t.h_.length;unfold g_.qm;omega
   obtain ⟨q,hq,rfl⟩:=aqJ.1 hp;have h1:=g_.rF rz.out t.h_.length q hq;exact ⟨h1.2.2.1,ig h1.2.2.2.1⟩
  clear d0 d1 d2 d3 hB4 nN HCv JZ hAs hb5;have HUp:=bK (FM (w:=w5) t.gZ (iy+1));obtain ⟨d0,d1,d2,d3⟩:=DF;gi_wp2_with fail
  refine ⟨trivial,(callsIn_wide.2 HUp.out).mono ?_⟩;rintro e w6 ⟨aX,cX,X,e6,rfl,hX,yM,hb6⟩;have hc6:C4 w6 w3.heap.size mW mZ mY m_ t:=C4.below ⟨d0,d1,d2,d3⟩ hb6 ah;have jo:=jw.trans (hb6.mono ah);have Gf:=bK (J_.out.below hb6);have HA6:=bK (HA5.out.below hb6);have HX6:=bK (yM.anti (M':=fun k=>k<w.heap.size) (fun k _ e=>by omega));have qR:w3.heap.size<w6.heap.size:=ig hb6.size;have lX:=yM.le;have hXe:Hid (jM m.gZ (iy+1)=(X,e6)):=bK (by rw [<-hti.out];exact hX.out);have Du:Hid (X.length<=10001/\∀x∈X,InW m.gZ (iy+1).toNat x):=by have h:=yN m.gZ (iy+1);rw [hXe.out] at h;exact ⟨h.2,h.1⟩
  clear d0 d1 d2 d3 jw yJ HUp J_ HA5 yM hb6;by_cases he6:e6=0
  ·have aol:(e6 !=0)=false:=by simp [he6]
   have HE6:=bK he6;clear he6;have HCh:=bK (Ra Gf.out hme htn);obtain ⟨d0,d1,d2,d3⟩:=hc6;gi_wp2_with fail
   refine ⟨trivial,(callsIn_wide.2 HCh.out).mono ?_⟩;rintro e w7 ⟨aC,cC,C,rfl,hC,hCs,kG⟩;have jY:=jo.trans (kG.mono ah);have HA7:=bK (HA6.out.below kG);have HX7:=bK (HX6.out.below kG);have HC7:=bK (hCs.anti (M':=fun k=>k<w.heap.size) (fun k _ e=>by omega));have xK:w.heap.size<w7.heap.size:=ig kG.size;have lC:=hCs.le;clear d0 d1 d2 d3 jo qR HCh Gf HA6 HX6 hCs kG;have hCm:Hid (C.length<1000000/\∀v∈C,v.length<=1000000):=by
    unfold Hid;rw [hC.out];refine ⟨?_,fun v hv=> ?_⟩;·have h1:=g_.VU (m:=t);have h2:t.h_.length*t.h_.length<=999*999:=eX (ig htn.out) (ig htn.out);omega
    obtain ⟨x,y,rfl⟩:=g_.VT hv;exact g_.uU htn.out x y
   have hA1:=CK.out.1;have hX1:=Du.out.1;have hC1:=hCm.out.1;have Um:A.length*X.length<=1000*10001:=eX hA1 hX1;obtain ⟨P,hP⟩:∃P,P=A.length*X.length:=⟨_,rfl⟩;rw [<-hP] at Um;have hw1:IntKind.i64.wrap ((A.length:Int)*(X.length:Int))=(P:Int):=by rw [<-aqu,<-hP];exact eP _ ah
   have HP:=bK hP;clear hP;by_cases hC0:C.length=0
   ·have hcb:(((C.length:Nat):Int)==0)=true:=by rw [hC0];rfl
    have hw0:IntKind.i64.wrap (P:Int)=(P:Int):=eP _ ah;obtain ⟨D0,hD0⟩:∃D0:List (List Int),D0=[[]]:=⟨_,rfl⟩;have hnn:Hid (g_.wK t.QX=D0):=by unfold Hid g_.wK;rw [<-hC.out,bQ (List.length_eq_zero_iff.1 hC0),hD0]
    have hDl:Hid (D0.length=1):=bK (by rw [hD0];rfl);have hDm:Hid (D0.length<1000000/\∀v∈D0,v.length<=1000000):=bK (by rw [hD0];simp);have HN:Hid (P=A.length*X.length*D0.length):=bK (by rw [HP.out,hDl.out,gy]);have hbW:Below w7.heap.size w7 (w7.alloc (.cells #[.slice none 0 0] 49)):=(bP _ _).alloc aH _;have HA8:=bK (HA7.out.below hbW);have HX8:=bK (HX7.out.below hbW)
    have HC8:Hid (Sl (fun k=>k<w.heap.size) (w7.alloc (.cells #[.slice none 0 0] 49)) (some ⟨w7.heap.size,0,none⟩) 1 D0):=⟨by rw [hD0];exact bM _,aS,fun j x h=>by
     rw [hD0] at h
     rcases j with _|j
     ·simp at h;subst h
      exact ⟨w7.heap.size,0,[.slice none 0 0],rfl,aH,ah,⟨none,0,rfl,Sl.nil _ _ _ aS⟩,fun i u hi=>by
       rcases i with _|i
       ·cases hi;exact (Boxed.new w7 _ _).cell
       simp at hi⟩
     simp at h⟩
    clear hbW hD0;have hsu:Hid (m.zu iy=if 10000<P then ([],11) else (pO (g_.rA A X D0),0)):=by unfold Hid g_.zu;rw [bO (by simp [HE.out]),bO HX.out,hXe.out,bO (by simp [HE6.out]),<-ht.out,<-hA.out,hnn.out,<-HN.out]
    by_cases mP:10000<P
    ·have hbd:decide (10000<(P:Int))=true:=dw ah;have hR:Hid (m.zu iy=([],11)):=bK (by rw [hsu.out,bQ mP]);clear mP;gi_wp2
     exact ⟨.tuple #[.slice none 0 0,.int .i64 11],by simp [results,results34,go_sem],none,0,[],_,rfl,hR,Sl.nil _ _ _ aS,(jY.alloc ah _)⟩
    have hbd:decide (10000<(P:Int))=false:=cZ ah;have hR:Hid (m.zu iy=(pO (g_.rA A X D0),0)):=bK (by rw [hsu.out,bO mP]);have hNs:P<=10000:=ah;clear mP;gi_wp2_with fail
    refine ⟨trivial,(callsIn_wide.2 Ky).mono ?_⟩;rintro e w9 ⟨rfl,hw9⟩;have z8:((w7.alloc (.cells #[.slice none 0 0] 49)).alloc (.cells #[.slice none 0 0] 22)).heap.size=(w7.heap.size+1)+1:=aH;have Yu:=(((Boxed.new (w7.alloc (.cells #[.slice none 0 0] 49)) 22 (.slice none 0 0)).alloc (.cells #[.slice aA A.length cA] 22)).alloc (.cells #[.slice aX X.length cX] 22)).alloc (.cells #[.slice (some ⟨w7.heap.size,0,none⟩) 1 1] 22);have bA:=((Boxed.new ((w7.alloc (.cells #[.slice none 0 0] 49)).alloc (.cells #[.slice none 0 0] 22)) 22 (.slice aA A.length cA)).alloc (.cells #[.slice aX X.length cX] 22)).alloc (.cells #[.slice (some ⟨w7.heap.size,0,none⟩) 1 1] 22);have bX:=(Boxed.new (((w7.alloc (.cells #[.slice none 0 0] 49)).alloc (.cells #[.slice none 0 0] 22)).alloc (.cells #[.slice aA A.length cA] 22)) 22 (.slice aX X.length cX)).alloc (.cells #[.slice (some ⟨w7.heap.size,0,none⟩) 1 1] 22);have bC:=Boxed.new ((((w7.alloc (.cells #[.slice none 0 0] 49)).alloc (.cells #[.slice none 0 0] 22)).alloc (.cells #[.slice aA A.length cA] 22)).alloc (.cells #[.slice aX X.length cX] 22)) 22 (.slice (some ⟨w7.heap.size,0,none⟩) 1 1);have wO:Below (w7.heap.size+1) (w7.alloc (.cells #[.slice none 0 0] 49)) (((((w7.alloc (.cells #[.slice none 0 0] 49)).alloc (.cells #[.slice none 0 0] 22)).alloc (.cells #[.slice aA A.length cA] 22)).alloc (.cells #[.slice aX X.length cX] 22)).alloc (.cells #[.slice (some ⟨w7.heap.size,0,none⟩) 1 1] 22)):=((((bP _ _).alloc aH _).alloc aH _).alloc aH _).alloc aH _;have z9:(((((w7.alloc (.cells #[.slice none 0 0] 49)).alloc (.cells #[.slice none 0 0] 22)).alloc (.cells #[.slice aA A.length cA] 22)).alloc (.cells #[.slice aX X.length cX] 22)).alloc (.cells #[.slice (some ⟨w7.heap.size,0,none⟩) 1 1] 22)).heap.size=(w7.heap.size+1)+4:=aH;simp only [aqc] at Yu bA bX bC;rw [<-hw9] at Yu bA bX bC wO z9;clear hw9;have Z9:=bK z9;have hz9:(w7.heap.size+1)+4<=w9.heap.size:=ah;have aom:w9.heap.size<=(w7.heap.size+1)+4:=ah;clear z9 z8;have mH:=(jY.alloc ah _).trans (wO.mono ah);have hA9:=(HA8.out.anti (M':=fun k=>k=(w7.heap.size+1)) fun k hk e=>absurd e (by rw [aqc] at hk;omega)).below (wO.mono aH);have hX9:=(HX8.out.anti (M':=fun k=>k=(w7.heap.size+1)) fun k hk e=>absurd e (by rw [aqc] at hk;omega)).below (wO.mono aH);have hC9:=(HC8.out.anti (M':=fun k=>k=(w7.heap.size+1)) fun k hk e=>absurd e (by rw [aqc] at hk;omega)).below (wO.mono aH);have Xa:=bK hA9;have HX9:=bK hX9;have HC9:=bK hC9;have HbA:=bK bA;have HbX:=bK bX;have HbC:=bK bC;have sA:Hid (Sm7 A):=⟨ah,fun r hr=>by have:=(CK.out.2 r hr).2;omega⟩;have sX:Hid (Sm7 X):=⟨ah,fun r hr=>by have:=(Du.out.2 r hr).2;have:=HX.out;omega⟩;have sC:Hid (Sm7 D0):=hDm;have aci:Hid ((A.flatMap (kM X D0)).length<=10000):=by
     have h1:(A.flatMap (kM X D0)).length=A.length*(X.length*D0.length):=by
      have hp:∀p,(kM X D0 p).length=X.length*D0.length:=fun p=>by
       unfold kM
       rw [aq6]
       rw [show (X.map fun x=>(Ku D0 p x).length)=X.map fun _=>D0.length from fP fun x _=>by unfold Ku;simp]
       exact sV _ _
      rw [aq6,show (A.map fun p=>(kM X D0 p).length)=A.map fun _=>X.length*D0.length from fP fun p _=>hp p];exact sV _ _
     have h2:=HN.out;unfold Hid;rw [h1,<-arj,<-h2];omega
    have hsm:Hid (mK (A.flatMap (kM X D0))):=by refine ⟨ig aci.out,fun r hr=> ?_⟩;obtain ⟨p,hp,hr⟩:=List.mem_flatMap.1 hr;unfold kM at hr;obtain ⟨x,hx,hr⟩:=List.mem_flatMap.1 hr;unfold Ku at hr;obtain ⟨v,hv,rfl⟩:=aqJ.1 hr;have h1:=(CK.out.2 p hp).2;have h2:=sX.out.2 x hx;have h3:=hDm.out.2 v hv;simp only [dB];omega
    clear hA9 hX9 hC9 bA bX bC wO HA8 HX8 HC8;gi_wp2_with fail
    refine Ba ((w7.heap.size+1)) 13 rfl ah (gf:=129) (lb:= #[.pointer (some ⟨(w7.heap.size+1)+1,0,none⟩),.pointer (some ⟨(w7.heap.size+1)+1+1,0,none⟩),.pointer (some ⟨(w7.heap.size+1)+1+1+1,0,none⟩)]) rfl trivial (enters_of func129 aB rfl)
     (fun K W=>∃a c,Boxed W (w7.heap.size+1) 22 (.slice a K.length c)/\Ox w9.heap.size w9.heap.size W 49 (.slice a K.length c) K/\Below w.heap.size w W)
     ?own (xs:=A.flatMap (kM X D0)) ?seq ?start ?assign ?body ?done
    case own=>rintro s W W' row ⟨a,c,h1,h2,h3⟩ hg hr;exact ⟨a,c,boxed_own (β:=Unit) (w7.heap.size+1) 22 (fun _=> .slice a s.length c) () W W' row h1 hg (fun r e=>(hr r e).2),Ow.turn h2 hg (fun r e=>(hr r e).2),ownFrom_below (β:=Unit) (n₀:=w.heap.size) (B:=w9.heap.size) (w₀:=w) (bM _) ah () W W' row h3 hg hr⟩
    case seq=>intro l J' W hW hJ' hY h0';exact Kw (n:=5) ah l (w7.heap.size+1) ((w7.heap.size+1)+1) ((w7.heap.size+1)+1+1) ((w7.heap.size+1)+1+1+1) J' w9 W (Dr.of_below hW (bM _)) hJ' hY HbA.out.cell HbX.out.cell (by rw [hDl.out];exact HbC.out.cell) ah ah ah Xa.out HX9.out HC9.out rfl rfl rfl sA sX sC h0'
    case start=>exact ⟨none,0,Yu,Ox.nil,mH⟩
    case assign=>
     intro l v W K hK;gi_wp2
     exact hK
    case body=>
     rintro l K x ax cx W0 W1 hl ⟨a,c,b0,hO,hB⟩ hgo aon hzw hs hpx;have b1:=hgo (fun _ W=>Boxed W (w7.heap.size+1) 22 (.slice a K.length c)) ((boxed_own _ _ _).from _) b0;have kH:Ox w9.heap.size w9.heap.size W1 49 (.slice a K.length c) K:=hgo (fun _ W=>Ox w9.heap.size w9.heap.size W 49 (.slice a K.length c) K) (fun s A B row h hg hr=>Ow.turn h hg fun r e=>(hr r e).2) hO;have hB1:=hgo (fun _ W=>Below w.heap.size w W) (ownFrom_below (bM _) ah) hB
     have hs1:Sl (fun k=>(Value.slice a K.length c).ownBlock=some k\/k<w9.heap.size) W1 ax cx x:=hs.anti fun k _ hm=>by
      rcases hm with hm|hm
      ·exact (hO.lt k hm).2
      show k<_;omega
     have rW:K.length<10000:=by have:=hpx.length_le;have:=aci.out;rw [dB,eT] at*;omega
     have c1:=b1.cell;have f1:=b1.frozen;have hz1:w9.heap.size<=W1.heap.size:=ah;have aoo:=hs1.le;simp only [cB,dF,dI];gi_wp2_with (gi_at_builtin;refine wG (n0:=w9.heap.size) (B:=w9.heap.size) (r:=x) (ar:=ax) (cr:=cx) rfl rfl underlying22 iI rfl rfl (kH.alloc _) bf (hs1.alloc _) ah aJ ?_;intro a5 c5 l5 w5 hl5 kV hbk hgr;have b5:=(b1.alloc (.cells #[.slice ax x.length cx] 49)).kept hgr (fun e=>by have:=(kH.lt _ e.symm).1;omega);have c5':=b5.cell;have f5:=b5.frozen)
     have hko:=((KeepsOthers.alloc W1 (.cells #[.slice ax x.length cx] 49)).trans (KeepsOthers.of_grownBy hgr (fun j o e ho=>by
      obtain ⟨cur,hc⟩:=Ow.cells (kH.alloc (.cells #[.slice ax x.length cx] 49)) e
      rw [hc] at ho;cases ho;rfl))).trans (KeepsOthers.setCell w5 ⟨(w7.heap.size+1),0,none⟩ (.slice a5 l5.length c5))
     refine ⟨hko.from _,⟨hko.1,fun k hk hb=> ?_⟩,?_⟩;·rw [dM _ _ _ _ (fun e=>hb e),hgr.block k aJ (fun e=>by have:=(kH.lt k e.symm).1;omega),fA _ _ _ ah]
     rw [<-hl5.out]
     exact ⟨a5,c5,b5.set _,Ow.setOther kV (p:=⟨(w7.heap.size+1),0,none⟩) (Or.inr (show (w7.heap.size+1)<w9.heap.size by omega)) (fun k hk=>by have:=(kV.lt k hk).1;show k≠(w7.heap.size+1);omega) _,
      ((hB1.alloc ah _).grown hgr aJ (fun k hk=>by have:=(kH.lt k hk).1;omega)).setCell (p:=⟨(w7.heap.size+1),0,none⟩) (by show w.heap.size<=(w7.heap.size+1);omega) _⟩
    case done=>
     rintro D W hD ⟨a,c,bW,hO,hB⟩ hK;obtain ⟨F,hF⟩:∃F,F=A.flatMap (kM X D0):=⟨_,rfl⟩;rw [<-hF] at bW hO hsm;have HF:=bK hF;clear hF;have cW:=bW.cell;have hsl:=hO.jD (bM _);have hll:=hsl.le;have hzW:w9.heap.size<=W.heap.size:=ig ((Array.getElem?_eq_some_iff.1 hK).1);have Ry:=bK (A_ hsl hsm);clear hsl hO;gi_wp2_with fail
     refine ⟨trivial,(callsIn_wide.2 Ry.out).mono ?_⟩;rintro e Ae ⟨a11,c11,L11,rfl,TW,qZ,pV⟩;have hDl:=(Array.getElem?_eq_some_iff.1 hK).1;have hK2:Ae.heap[D]? =some (.deferred (some [])):=(pV.block _ hDl).trans hK;gi_wp2
     refine ⟨aH,.inl ⟨_,_,rfl,run_takeDeferred hK2,?_⟩⟩;refine ⟨.tuple #[.slice a11 L11.length c11,.int .i64 0],by simp [results,results34,go_sem],a11,c11,L11,0,rfl,?_,?_,?_⟩;·unfold Hid;rw [hR.out,TW.out,HF.out];rfl
     ·exact (qZ.ext (M':=fun k=>k<W.heap.size) ⟨aH,fun k hk hm=>World.putObj_heap_other (fun e=>hm (by rw [e];exact hDl)),fun _ _ h=>h⟩).anti fun k _ hm=>by have:=hB.size;show k<_;omega
     exact (hB.trans (pV.mono hB.size)).trans (belowK_b (w:=w) (bM _) Ae D _ _ ah hK2 rfl rfl)
   have hcb:(((C.length:Nat):Int)==0)=false:=by rw [arD];omega
   obtain ⟨N,hN⟩:∃N,N=P*C.length:=⟨_,rfl⟩;have hNb:N<=10001000*1000000:=by rw [hN];exact eX ah ah
   have hw2:IntKind.i64.wrap ((P:Int)*(C.length:Int))=(N:Int):=by rw [<-aqu,<-hN];exact eP _ ah
   have HN:Hid (N=A.length*X.length*C.length):=bK (by rw [hN,HP.out]);clear hN;have hnn:Hid (g_.wK t.QX=C):=by unfold Hid g_.wK;rw [<-hC.out,bO (fun e=>hC0 (by rw [e];rfl))]
   have hsu:Hid (m.zu iy=if 10000<N then ([],11) else (pO (g_.rA A X C),0)):=by unfold Hid g_.zu;rw [bO (by simp [HE.out]),bO HX.out,hXe.out,bO (by simp [HE6.out]),<-ht.out,<-hA.out,hnn.out,<-HN.out]
   by_cases mP:10000<N
   ·have hbd:decide (10000<(N:Int))=true:=dw ah;have hR:Hid (m.zu iy=([],11)):=bK (by rw [hsu.out,bQ mP]);clear mP;gi_wp2
    exact ⟨.tuple #[.slice none 0 0,.int .i64 11],by simp [results,results34,go_sem],none,0,[],_,rfl,hR,Sl.nil _ _ _ aS,jY⟩
   have hbd:decide (10000<(N:Int))=false:=cZ ah;have hR:Hid (m.zu iy=(pO (g_.rA A X C),0)):=bK (by rw [hsu.out,bO mP]);have hNs:N<=10000:=ah;clear mP;gi_wp2_with fail
   refine ⟨trivial,(callsIn_wide.2 Ky).mono ?_⟩;rintro e w9 ⟨rfl,hw9⟩;have z8:(w7.alloc (.cells #[.slice none 0 0] 22)).heap.size=w7.heap.size+1:=aH;have Yu:=(((Boxed.new w7 22 (.slice none 0 0)).alloc (.cells #[.slice aA A.length cA] 22)).alloc (.cells #[.slice aX X.length cX] 22)).alloc (.cells #[.slice aC C.length cC] 22);have bA:=((Boxed.new (w7.alloc (.cells #[.slice none 0 0] 22)) 22 (.slice aA A.length cA)).alloc (.cells #[.slice aX X.length cX] 22)).alloc (.cells #[.slice aC C.length cC] 22);have bX:=(Boxed.new ((w7.alloc (.cells #[.slice none 0 0] 22)).alloc (.cells #[.slice aA A.length cA] 22)) 22 (.slice aX X.length cX)).alloc (.cells #[.slice aC C.length cC] 22);have bC:=Boxed.new (((w7.alloc (.cells #[.slice none 0 0] 22)).alloc (.cells #[.slice aA A.length cA] 22)).alloc (.cells #[.slice aX X.length cX] 22)) 22 (.slice aC C.length cC);have wO:Below w7.heap.size w7 ((((w7.alloc (.cells #[.slice none 0 0] 22)).alloc (.cells #[.slice aA A.length cA] 22)).alloc (.cells #[.slice aX X.length cX] 22)).alloc (.cells #[.slice aC C.length cC] 22)):=((((bP _ _).alloc (bM _) _).alloc aH _).alloc aJ _).alloc aJ _;have z9:((((w7.alloc (.cells #[.slice none 0 0] 22)).alloc (.cells #[.slice aA A.length cA] 22)).alloc (.cells #[.slice aX X.length cX] 22)).alloc (.cells #[.slice aC C.length cC] 22)).heap.size=w7.heap.size+4:=aH;simp only [aqc] at bA bX bC;rw [<-hw9] at Yu bA bX bC wO z9;clear hw9;have Z9:=bK z9;have hz9:w7.heap.size+4<=w9.heap.size:=ah;have aom:w9.heap.size<=w7.heap.size+4:=ah;clear z9 z8;have mH:=jY.trans (wO.mono ah);have hA9:=(HA7.out.anti (M':=fun k=>k=w7.heap.size) fun k hk e=>absurd e ah).below wO;have hX9:=(HX7.out.anti (M':=fun k=>k=w7.heap.size) fun k hk e=>absurd e ah).below wO;have hC9:=(HC7.out.anti (M':=fun k=>k=w7.heap.size) fun k hk e=>absurd e ah).below wO;have Xa:=bK hA9;have HX9:=bK hX9;have HC9:=bK hC9;have HbA:=bK bA;have HbX:=bK bX;have HbC:=bK bC;have sA:Hid (Sm7 A):=⟨ah,fun r hr=>by have:=(CK.out.2 r hr).2;omega⟩;have sX:Hid (Sm7 X):=⟨ah,fun r hr=>by have:=(Du.out.2 r hr).2;have:=HX.out;omega⟩;have sC:Hid (Sm7 C):=hCm;have aci:Hid ((A.flatMap (kM X C)).length<=10000):=by
    have h1:(A.flatMap (kM X C)).length=A.length*(X.length*C.length):=by
     have hp:∀p,(kM X C p).length=X.length*C.length:=fun p=>by
      unfold kM
      rw [aq6]
      rw [show (X.map fun x=>(Ku C p x).length)=X.map fun _=>C.length from fP fun x _=>by unfold Ku;simp]
      exact sV _ _
     rw [aq6,show (A.map fun p=>(kM X C p).length)=A.map fun _=>X.length*C.length from fP fun p _=>hp p];exact sV _ _
    have h2:=HN.out;unfold Hid;rw [h1,<-arj,<-h2];omega
   have hsm:Hid (mK (A.flatMap (kM X C))):=by refine ⟨ig aci.out,fun r hr=> ?_⟩;obtain ⟨p,hp,hr⟩:=List.mem_flatMap.1 hr;unfold kM at hr;obtain ⟨x,hx,hr⟩:=List.mem_flatMap.1 hr;unfold Ku at hr;obtain ⟨v,hv,rfl⟩:=aqJ.1 hr;have h1:=(CK.out.2 p hp).2;have h2:=sX.out.2 x hx;have h3:=hCm.out.2 v hv;simp only [dB];omega
   clear hA9 hX9 hC9 bA bX bC wO HA7 HX7 HC7;gi_wp2_with fail
   refine Ba (w7.heap.size) 13 rfl ah (gf:=129) (lb:= #[.pointer (some ⟨w7.heap.size+1,0,none⟩),.pointer (some ⟨w7.heap.size+1+1,0,none⟩),.pointer (some ⟨w7.heap.size+1+1+1,0,none⟩)]) rfl trivial (enters_of func129 aB rfl)
    (fun K W=>∃a c,Boxed W w7.heap.size 22 (.slice a K.length c)/\Ox w9.heap.size w9.heap.size W 49 (.slice a K.length c) K/\Below w.heap.size w W)
    ?own (xs:=A.flatMap (kM X C)) ?seq ?start ?assign ?body ?done
   case own=>rintro s W W' row ⟨a,c,h1,h2,h3⟩ hg hr;exact ⟨a,c,boxed_own (β:=Unit) w7.heap.size 22 (fun _=> .slice a s.length c) () W W' row h1 hg (fun r e=>(hr r e).2),Ow.turn h2 hg (fun r e=>(hr r e).2),ownFrom_below (β:=Unit) (n₀:=w.heap.size) (B:=w9.heap.size) (w₀:=w) (bM _) ah () W W' row h3 hg hr⟩
   case seq=>intro l J' W hW hJ' hY h0';exact Kw (n:=5) ah l w7.heap.size (w7.heap.size+1) (w7.heap.size+1+1) (w7.heap.size+1+1+1) J' w9 W (Dr.of_below hW (bM _)) hJ' hY HbA.out.cell HbX.out.cell HbC.out.cell ah ah ah Xa.out HX9.out HC9.out rfl rfl rfl sA sX sC h0'
   case start=>exact ⟨none,0,Yu,Ox.nil,mH⟩
   case assign=>
    intro l v W K hK;gi_wp2
    exact hK
   case body=>
    rintro l K x ax cx W0 W1 hl ⟨a,c,b0,hO,hB⟩ hgo aon hzw hs hpx;have b1:=hgo (fun _ W=>Boxed W w7.heap.size 22 (.slice a K.length c)) ((boxed_own _ _ _).from _) b0;have kH:Ox w9.heap.size w9.heap.size W1 49 (.slice a K.length c) K:=hgo (fun _ W=>Ox w9.heap.size w9.heap.size W 49 (.slice a K.length c) K) (fun s A B row h hg hr=>Ow.turn h hg fun r e=>(hr r e).2) hO;have hB1:=hgo (fun _ W=>Below w.heap.size w W) (ownFrom_below (bM _) ah) hB
    have hs1:Sl (fun k=>(Value.slice a K.length c).ownBlock=some k\/k<w9.heap.size) W1 ax cx x:=hs.anti fun k _ hm=>by
     rcases hm with hm|hm
     ·exact (hO.lt k hm).2
     show k<_;omega
    have rW:K.length<10000:=by have:=hpx.length_le;have:=aci.out;rw [dB,eT] at*;omega
    have c1:=b1.cell;have f1:=b1.frozen;have hz1:w9.heap.size<=W1.heap.size:=ah;have aoo:=hs1.le;simp only [cB,dF,dI];gi_wp2_with (gi_at_builtin;refine wG (n0:=w9.heap.size) (B:=w9.heap.size) (r:=x) (ar:=ax) (cr:=cx) rfl rfl underlying22 iI rfl rfl (kH.alloc _) bf (hs1.alloc _) ah aJ ?_;intro a5 c5 l5 w5 hl5 kV hbk hgr;have b5:=(b1.alloc (.cells #[.slice ax x.length cx] 49)).kept hgr (fun e=>by have:=(kH.lt _ e.symm).1;omega);have c5':=b5.cell;have f5:=b5.frozen)
    have hko:=((KeepsOthers.alloc W1 (.cells #[.slice ax x.length cx] 49)).trans (KeepsOthers.of_grownBy hgr (fun j o e ho=>by
     obtain ⟨cur,hc⟩:=Ow.cells (kH.alloc (.cells #[.slice ax x.length cx] 49)) e
     rw [hc] at ho;cases ho;rfl))).trans (KeepsOthers.setCell w5 ⟨w7.heap.size,0,none⟩ (.slice a5 l5.length c5))
    refine ⟨hko.from _,⟨hko.1,fun k hk hb=> ?_⟩,?_⟩;·rw [dM _ _ _ _ (fun e=>hb e),hgr.block k aJ (fun e=>by have:=(kH.lt k e.symm).1;omega),fA _ _ _ ah]
    rw [<-hl5.out]
    exact ⟨a5,c5,b5.set _,Ow.setOther kV (p:=⟨w7.heap.size,0,none⟩) (Or.inr (show w7.heap.size<w9.heap.size by omega)) (fun k hk=>by have:=(kV.lt k hk).1;show k≠w7.heap.size;omega) _,
     ((hB1.alloc ah _).grown hgr aJ (fun k hk=>by have:=(kH.lt k hk).1;omega)).setCell (p:=⟨w7.heap.size,0,none⟩) (by show w.heap.size<=w7.heap.size;omega) _⟩
   case done=>
    rintro D W hD ⟨a,c,bW,hO,hB⟩ hK;obtain ⟨F,hF⟩:∃F,F=A.flatMap (kM X C):=⟨_,rfl⟩;rw [<-hF] at bW hO hsm;have HF:=bK hF;clear hF;have cW:=bW.cell;have hsl:=hO.jD (bM _);have hll:=hsl.le;have hzW:w9.heap.size<=W.heap.size:=ig ((Array.getElem?_eq_some_iff.1 hK).1);have Ry:=bK (A_ hsl hsm);clear hsl hO;gi_wp2_with fail
    refine ⟨trivial,(callsIn_wide.2 Ry.out).mono ?_⟩;rintro e Ae ⟨a11,c11,L11,rfl,TW,qZ,pV⟩;have hDl:=(Array.getElem?_eq_some_iff.1 hK).1;have hK2:Ae.heap[D]? =some (.deferred (some [])):=(pV.block _ hDl).trans hK;gi_wp2
    refine ⟨aH,.inl ⟨_,_,rfl,run_takeDeferred hK2,?_⟩⟩;refine ⟨.tuple #[.slice a11 L11.length c11,.int .i64 0],by simp [results,results34,go_sem],a11,c11,L11,0,rfl,?_,?_,?_⟩;·unfold Hid;rw [hR.out,TW.out,HF.out];rfl
    ·exact (qZ.ext (M':=fun k=>k<W.heap.size) ⟨aH,fun k hk hm=>World.putObj_heap_other (fun e=>hm (by rw [e];exact hDl)),fun _ _ h=>h⟩).anti fun k _ hm=>by have:=hB.size;show k<_;omega
    exact (hB.trans (pV.mono hB.size)).trans (belowK_b (w:=w) (bM _) Ae D _ _ ah hK2 rfl rfl)
  have aol:(e6 !=0)=true:=by simp [he6]
  have hR:Hid (m.zu iy=([],e6)):=by unfold Hid g_.zu;rw [bO (by simp [HE.out]),bO HX.out,hXe.out,bQ he6]
  clear he6;gi_wp2
  exact ⟨.tuple #[.slice none 0 0,.int .i64 e6],by simp [results,results34,go_sem],none,0,[],_,rfl,hR,Sl.nil _ _ _ aS,jo⟩
 have he':(m.err !=0)=true:=by simp [he]
 have hR:Hid (m.zu iy=([],m.err)):=by unfold Hid g_.zu;rw [bQ he]
 clear he;gi_wp2
 exact ⟨.tuple #[.slice none 0 0,.int .i64 m.err],by simp [results,results34,go_sem],none,0,[],_,rfl,hR,Sl.nil _ _ _ aS,hB1⟩
end
end
section
open Tryz
open Go.RowKit
def TwR (m:g_) (s:lK) (w:World) (e:Ending) (w':World):Prop:=∃(a:Option Addr) (c:Nat) (L:List (List Int)) (e1:Int),e= .returned (.tuple #[.slice a L.length c,.int .i64 e1])/\Hid (m.wT s=(L,e1))/\Sl (fun k=>k<w.heap.size) w' a c L/\Below w.heap.size w w'
section
variable {M:Nat->Prop} {w:World} {an ao:Option Addr} {cn co:Nat} {m:g_}
theorem Rc (hm:Ma M w an cn ao co m) (s:lK) (hk:Hid (s.kind=1)):Calls prog 12 #[kF m an cn ao co,stV s] w (TwR m s w):=by
 have hB0:=(iB w (iP m an cn ao co)).alloc aH (EG s);have g1:(w.alloc (iP m an cn ao co)).heap.size=w.heap.size+1:=aH;have hx0:C4 ((w.alloc (iP m an cn ao co)).alloc (EG s)) w.heap.size an cn ao co m:=(kI w).below (B:=w.heap.size+1) ((bP _ _).alloc (by rw [g1];exact bM _) _) ah;have hs0:S5 ((w.alloc (iP m an cn ao co)).alloc (EG s)) (w.heap.size+1) s:=by have h:=M_ (w.alloc (iP m an cn ao co)) s;rw [g1] at h;exact h
 have hz0:w.heap.size+2<=((w.alloc (iP m an cn ao co)).alloc (EG s)).heap.size:=aH;have l1:=hm.h_.le;have l2:=hm.out.le;have HM:=bK (hm.below hB0);clear hm g1;go_enter func12,ntmps12;go_upto_region 1 with (fail);generalize (w.alloc (iP m an cn ao co)).alloc (EG s)=w0 at*
 have HS:Hid (∀w',Below w0.heap.size w0 w'->C4 w' w.heap.size an cn ao co m/\S5 w' (w.heap.size+1) s/\Ma M w' an cn ao co m/\Below w.heap.size w w'/\w.heap.size+2<=w'.heap.size):=fun w' h=>
  ⟨hx0.below h ah,hs0.below h ah,HM.out.below h,hB0.trans (h.mono ah),ig h.size⟩
 have hb0:=bP w0.heap.size w0;clear hx0 hs0 hB0 hz0;have HV:=bK (jR (HS.out _ hb0).2.2.1);have hc:=(HS.out _ hb0).1;obtain ⟨d0,d1,d2,d3⟩:=hc;go_wp2_with fail;refine (HV.out).mono ?_;rintro e w1 ⟨rfl,hb1⟩;clear d0 d1 d2 d3 HV hb0;by_cases he:m.err=0
 ·have he':(m.err !=0)=false:=by simp [he]
  have HE:=bK he;have ok:Hid m.Ok:=g_.iG m HE.out;clear he;have HSv:=bK (wD (w:=w1) s);obtain ⟨s0,s1,s2,s3,s4⟩:=(HS.out _ hb1).2.1;go_wp2_with fail;refine (HSv.out).mono ?_;rintro e w2 ⟨rfl,hb2⟩;have hb2:=hb1.trans (hb2.mono hb1.size);clear s0 s1 s2 s3 s4 HSv hb1;by_cases hse:s.err=0
  ·have acj:(s.err !=0)=false:=by simp [hse]
   have hk:=hk.out;have PV:=bK hse;clear hse;have HS2:=HS.out _ hb2;obtain ⟨d0,d1,d2,d3⟩:=HS2.1;obtain ⟨s0,s1,s2,s3,s4⟩:=HS2.2.1;have HR:Hid (∀L e1,m.zu s.iy=(L,e1)->m.wT s=(L,e1)):=fun L e1 h=>by unfold g_.wT;rw [bO (by simp [HE.out]),bO (by simp [PV.out]),bQ hk,h]
   have HC:=bK (Iy HS2.2.2.1 s.iy);have hzz:=HS2.2.2.2.2;have sO:=HS2.2.2.2.1;clear HS2;rw [hk] at s0;clear hk;go_wp2_with fail;refine (HC.out).mono ?_;rintro e w3 ⟨a3,c3,L,e1,rfl,hL,kC,hb3⟩;have jh:=sO.trans (hb3.mono ah);have wI:=kC.anti (M':=fun k=>k<w.heap.size) fun k _ hm=>by show k<_;omega
   have hR:=bK (HR.out _ _ hL.out);clear HC d0 d1 d2 d3 s0 s1 s2 s3 s4 hb3;go_wp2;go_ret2;exact ⟨a3,c3,L,e1,rfl,hR,wI,jh⟩
  have acj:(s.err !=0)=true:=by simp [hse]
  have HR:Hid (m.wT s=([],s.err)):=by unfold Hid g_.wT;rw [bO (by simp [HE.out]),bQ hse]
  have jh:=(HS.out _ hb2).2.2.2.1;clear hse;go_wp2;go_ret2;exact ⟨none,0,[],s.err,rfl,HR,Sl.nil _ _ _ aS,jh⟩
 have he':(m.err !=0)=true:=by simp [he]
 have HR:Hid (m.wT s=([],m.err)):=by unfold Hid g_.wT;rw [bQ he]
 have jh:=(HS.out _ hb1).2.2.2.1;clear he;go_wp2;go_ret2;exact ⟨none,0,[],m.err,rfl,HR,Sl.nil _ _ _ aS,jh⟩
end
end
