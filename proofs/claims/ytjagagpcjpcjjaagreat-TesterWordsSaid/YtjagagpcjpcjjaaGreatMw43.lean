/- Lemmas, each with its own conditions. -/
import Derived.Test.YtjagagpcjpcjjaaGreatMw42
import Derived.Test.YtjagagpcjpcjjaaGreatMw41
import Derived.Test.YtjagagpcjpcjjaaGreatMw29
import Derived.Test.YtjagagpcjpcjjaaGreatMw20
set_option maxRecDepth 100000
set_option maxHeartbeats 32000000
namespace Go.Proofs.YtjagagpcjpcjjaaGreat
section
open Tryz
open Go.RowKit
theorem Bd.new {w:World} {an ao:Option Addr} {cn co:Nat} {m:g_} {n0:Nat} (hn:n0<=w.heap.size):Bd n0 (fun k=>k=w.heap.size) (w.alloc (.cells #[.int .i64 m.gZ,.int .i64 m.start,.slice an m.h_.length cn,.slice ao m.out.length co,.slice none 0 0] 169)) w.heap.size an cn ao co m (.slice none 0 0) []:=by
 refine ⟨⟨?_,?_,?_,?_⟩,?_,?_,lG.nil,rfl,fun k hk=> ?_,fun k hk=>arB hk.symm,hn⟩;·simp
 ·simp
 ·simp
 ·simp
 ·simp
 ·unfold World.frozen?;rw [dS];simp
 subst hk;simp
def g_.Bz (m:g_):List Nd:=m.grow 4097 [] ⟨jK m.h_.length,jK m.h_.length⟩ []
def g_.mV (m:g_):List Nd×Bool×Int:=if m.iU≠0 then ([],false,m.iU) else if 4096<m.Bz.length then ([],false,11) else (m.Bz,lZ m.Bz,0)
theorem cell_of_heap {w:World} {b:Nat} {v:Value} {T:TypeId} (h:w.heap[b]? =some (.cells #[v] T (0,0))):w.cell? ⟨b,0,none⟩=some v:=by simp [World.cell?,h]
theorem frozen_of_heap {w:World} {b:Nat} {v:Value} {T:TypeId} (h:w.heap[b]? =some (.cells #[v] T (0,0))):w.frozen? ⟨b,0,none⟩=false:=by simp [World.frozen?,h]
section
variable {M:Nat->Prop} {w:World} {an ao:Option Addr} {cn co:Nat} {m:g_}
theorem TT (hm:Ma M w an cn ao co m) (hn:Hid (m.h_.length<1000)):Calls prog 82 #[kF m an cn ao co] w fun e w'=>∃(a:Option Addr) (c:Nat) (L:List Nd) (y:Bool) (e1:Int),e= .returned (.tuple #[.agg #[.slice a L.length c],.bool y,.int .i64 e1])/\ Hid (m.mV=(L,y,e1))/\Sl (fun k=>k<w.heap.size) w' a c L/\Below w.heap.size w w':=by
 have hB0:=iB w (iP m an cn ao co);have hx0:=jE w m an cn ao co;have hB1:=hB0.alloc aH (.cells #[.slice none 0 0] 119);have hx1:=hx0.below ((bP (w.heap.size+1) (w.alloc (iP m an cn ao co))).alloc aH (.cells #[.slice none 0 0] 119)) ah;have hr1:Hid (((w.alloc (iP m an cn ao co)).alloc (.cells #[.slice none 0 0] 119)).heap[w.heap.size+1]? =some (.cells #[.slice none 0 0] 119 (0,0))):=by have:=dS (w.alloc (iP m an cn ao co)) (.cells #[.slice none 0 0] 119);unfold Hid;simpa using this
 have hz1:((w.alloc (iP m an cn ao co)).alloc (.cells #[.slice none 0 0] 119)).heap.size=w.heap.size+2:=aH;have HM:=bK hm;have Ht:=bK (Gy (hm.below hB1));clear hm hB0 hx0;go_enter func82,ntmps82;go_upto_region 1 with (fail);generalize (w.alloc (iP m an cn ao co)).alloc (.cells #[.slice none 0 0] 119)=w1 at*
 go_upto_region 2 with (refine (Ht.out).mono ?_;rintro e w2 ⟨rfl,hb2⟩);have hx2:=hx1.below hb2 ah;have hB2:=hB1.trans (hb2.mono ah);have hr2:Hid (w2.heap[w.heap.size+1]? =some (.cells #[.slice none 0 0] 119 (0,0))):=(hb2.block _ ah).trans hr1.out;have hz2:w.heap.size+2<=w2.heap.size:=ig hb2.size;clear hx1 hB1 hr1 hb2 hz1 Ht;have hc2:=cell_of_heap hr2.out;have hf2:=frozen_of_heap hr2.out;by_cases he:m.iU=0
 ·have he':(m.iU !=0)=false:=by simp [he]
  have HE:=bK he;have ok:Hid m.Ok:=g_.iG m (g_.jv HE.out).1;clear he;go_upto_region 5 with (fail);have hba:=iB w2 (.cells #[.int .i64 m.gZ,.int .i64 m.start,.slice an m.h_.length cn,.slice ao m.out.length co,.slice none 0 0] 169);have xP:Bd (w.heap.size+2) _ _ w2.heap.size an cn ao co m (.slice none 0 0) []:=Bd.new ah;have hx3:=hx2.below hba ah;have hB3:=hB2.trans (hba.mono ah);have hr3:Hid ((w2.alloc (.cells #[.int .i64 m.gZ,.int .i64 m.start,.slice an m.h_.length cn,.slice ao m.out.length co,.slice none 0 0] 169)).heap[w.heap.size+1]? =some (.cells #[.slice none 0 0] 119 (0,0))):=(hba.block _ ah).trans hr2.out;clear hx2 hB2 hr2 hba hc2 hf2;generalize w2.alloc (.cells #[.int .i64 m.gZ,.int .i64 m.start,.slice an m.h_.length cn,.slice ao m.out.length co,.slice none 0 0] 169)=w3 at*
  refine iO (fun w'=>C4 w' w.heap.size an cn ao co m) [0,1,3,5] aB ?_;have hbd:=(bP w3.heap.size w3).drew;have ahr:=xP.below hbd;have hx4:=hx3.below hbd (ig xP.size);have hB4:=hB3.trans (hbd.mono (ig xP.size));have hr4:Hid (w3.drew.heap[w.heap.size+1]? =some (.cells #[.slice none 0 0] 119 (0,0))):=hr3.out;clear xP hx3 hB3 hr3 hbd;generalize w3.drew=w4 at*
  have nN:w2.heap.size<w4.heap.size:=ahr.size;have zR:=bK (tK (HM.out.below hB4) (ig hn.out));refine iT [0,1,3] ?_;refine iJ 2 fun K hK=> ?_;go_simp;refine (zR.out).mono ?_;rintro e w5 ⟨a5,c5,I5,rfl,VL,Hu,hb5⟩;have Eh:=ahr.below hb5;have hx5:=hx4.below hb5 ah;have jw:=hB4.trans (hb5.mono ah);have hr5:Hid (w5.heap[w.heap.size+1]? =some (.cells #[.slice none 0 0] 119 (0,0))):=(hb5.block _ ah).trans hr4.out;replace Hu:=Hu.anti (M':=fun k=>k=w2.heap.size) (fun k _ hm=>by omega);have yJ:w2.heap.size<w5.heap.size:=Eh.size;refine hK _ _ (fun _=>hx5) ?_;clear hK K ahr hx4 hB4 hr4 nN hb5 zR;have HS2:=bK (tK (HM.out.below jw) (ig hn.out));refine iJ 4 fun K hK=> ?_;go_simp;refine (HS2.out).mono ?_;rintro e w6 ⟨a6,c6,I6,rfl,hI6,TU,hb6⟩;have Mw:=Eh.below hb6;have hx6:=hx5.below hb6 ah;have jo:=jw.trans (hb6.mono ah);have hr6:Hid (w6.heap[w.heap.size+1]? =some (.cells #[.slice none 0 0] 119 (0,0))):=(hb6.block _ ah).trans hr5.out;have QD:=Hu.below hb6;replace TU:=TU.anti (M':=fun k=>k=w2.heap.size) (fun k _ hm=>by omega);have qR:w2.heap.size<w6.heap.size:=Mw.size;refine hK _ _ (fun _=>hx6) ?_;have hMw:Ma (fun k=>k=w2.heap.size) w6 an cn ao co m:=HM.out.ext ⟨jo.size,fun k hk _=>jo.block k hk,fun k hk h=>by omega⟩;clear hK K Eh hx5 jw hr5 yJ hb6 HS2 Hu;have abC:Hid (I5.length=m.h_.length):=bK (by rw [VL.out,kS]);have ahs:Hid (I6.length=m.h_.length):=bK (by rw [hI6.out,kS])
  have MN:Hid (Ms m.h_.length ⟨I5,I6⟩):=⟨by rw [VL.out,hI6.out],by show 0<List.length I6;rw [ahs.out];exact ok.out.n0,fun s hs=>by
   have hs:s∈I6:=hs
   rw [hI6.out] at hs
   unfold jK at hs
   obtain ⟨k,hk,rfl⟩:=aqJ.1 hs
   have:=aqE.1 hk
   omega⟩
  have HGr:=bK (XQ 4097 (u:=[]) Mw hMw QD TU (Sl.nil (α:=Int) _ _ none (c:=0) aS) ok MN (by show Hid (List.length I6<1000);unfold Hid;rw [ahs.out];exact hn.out) (fun y hy=>by simp at hy) (by simp [Hid]) (by simp [Hid]));have hgr:Hid (m.grow 4097 [] ⟨I5,I6⟩ []=m.Bz):=by unfold Hid g_.Bz;rw [VL.out,hI6.out]
  refine iT [5] ?_;refine iJ 6 fun K hK=> ?_;go_simp;refine (HGr.out).mono ?_;rintro e w7 ⟨W7,v7,rfl,xQ,hE7,kG⟩;rw [hgr.out] at xQ;have jY:=jo.trans (kG.mono ah);have hr7:Hid (w7.heap[w.heap.size+1]? =some (.cells #[.slice none 0 0] 119 (0,0))):=(kG.block _ ah).trans hr6.out;refine hK _ _ (fun _=>hx6.below kG ah) ?_;clear hK K;refine iN aB ?_ _;clear Mw hx6 jo hr6 QD TU qR hMw abC ahs MN HGr hgr hE7 kG VL hI6;obtain ⟨L,hL⟩:∃L,Hid (L=m.Bz):=⟨_,rfl⟩;rw [<-hL.out] at xQ;obtain ⟨aL,cL,rfl,hcL,hcM⟩:=xQ.len;have agR:=xQ.nd;have xK:w.heap.size+2<=w7.heap.size:=ig xQ.size;have JY:=cell_of_heap hr7.out;have hf7:=frozen_of_heap hr7.out;have Ag:Hid (Sl (fun k=>k<w.heap.size+2) w7 aL cL L):=xQ.ok.jD (fun k hk=>by omega) (fun k hk hm=> .inr hm);by_cases nH:4096<L.length
  ·have hR:Hid (m.mV=([],false,11)):=by unfold Hid g_.mV;rw [bO (by simp [HE.out]),<-hL.out,bQ nH]
   go_wp2;have hc3:=eU w7 ⟨w.heap.size+1,0,none⟩ (.slice none 0 0) JY;have jh:=jY.setCell (p:=⟨w.heap.size+1,0,none⟩) aH (.slice none 0 0);generalize w7.setCell ⟨w.heap.size+1,0,none⟩ (.slice none 0 0)=wf at*
   exact dG (v:= .tuple #[.agg #[.slice none 0 0],.bool false,.int .i64 11]) (by simp [results,results82,go_sem,hc3]) rfl ⟨none,0,[],false,11,rfl,hR,Sl.nil _ _ _ aS,jh⟩
  have hR:Hid (m.mV=(L,lZ L,0)):=by unfold Hid g_.mV;rw [bO (by simp [HE.out]),<-hL.out,bO nH]
  go_upto_region 9 with (fail);have hba:=iB w7 (.cells #[.slice aL L.length cL] 119);have mg:=jY.trans (hba.mono ah);have hr8:Hid ((w7.alloc (.cells #[.slice aL L.length cL] 119)).heap[w.heap.size+1]? =some (.cells #[.slice none 0 0] 119 (0,0))):=(hba.block _ ah).trans hr7.out;have ht8:Hid ((w7.alloc (.cells #[.slice aL L.length cL] 119)).heap[w7.heap.size]? =some (.cells #[.slice aL L.length cL] 119 (0,0))):=dS _ _;have TV:Hid (Sl (fun k=>k<w.heap.size+2) (w7.alloc (.cells #[.slice aL L.length cL] 119)) aL cL L):=Ag.out.below hba;have hs8:w7.heap.size<(w7.alloc (.cells #[.slice aL L.length cL] 119)).heap.size:=aH;clear hba jY hr7 Ag xQ agR JY hf7;generalize w7.alloc (.cells #[.slice aL L.length cL] 119)=w8 at*
  refine iO (fun w'=>w'.cell? ⟨w7.heap.size,0,none⟩=some (.slice aL L.length cL)) [0,1,4,5] aB ?_;have hbd:=(bP w8.heap.size w8).drew;have mH:=mg.trans (hbd.mono ah);have hr9:Hid (w8.drew.heap[w.heap.size+1]? =some (.cells #[.slice none 0 0] 119 (0,0))):=hr8.out;have ht9:Hid (w8.drew.heap[w7.heap.size]? =some (.cells #[.slice aL L.length cL] 119 (0,0))):=ht8.out;have hL9:Hid (Sl (fun k=>k<w.heap.size+2) w8.drew aL cL L):=TV.out.below hbd;have Rt:w7.heap.size<w8.drew.heap.size:=hs8;clear hbd mg hr8 ht8 TV hs8;generalize w8.drew=w9 at*
  have W_:=cell_of_heap ht9.out;have HCo:=bK (Yc hL9.out (bK ah));refine iT [0,1] ?_;refine iJ 2 fun K hK=> ?_;go_simp;refine (HCo.out).mono ?_;rintro e qo ⟨rfl,nO⟩;have nE:=mH.trans (nO.mono ah);have abD:Hid (qo.heap[w.heap.size+1]? =some (.cells #[.slice none 0 0] 119 (0,0))):=(nO.block _ ah).trans hr9.out;have aht:Hid (qo.heap[w7.heap.size]? =some (.cells #[.slice aL L.length cL] 119 (0,0))):=(nO.block _ Rt).trans ht9.out;have ahu:=bK (hL9.out.below nO);have rQ:=cell_of_heap aht.out;refine hK _ _ (fun _=>rQ) ?_;clear hK K HCo mH hr9 ht9 hL9 Rt W_ nO;have LY:=cell_of_heap abD.out;have afX:=frozen_of_heap abD.out;refine iJ 3 fun K hK=> ?_;go_simp;have qZ:=(dR qo ⟨w.heap.size+1,0,none⟩ ⟨w7.heap.size,0,none⟩ (.slice aL L.length cL) (fun e=>by have:=(ar6 e).1;omega)).trans rQ;refine hK _ _ (fun _=>qZ) ?_;clear hK K;have ahv:=eU qo ⟨w.heap.size+1,0,none⟩ (.slice aL L.length cL) LY;have sZ:=nE.setCell (p:=⟨w.heap.size+1,0,none⟩) aH (.slice aL L.length cL);have TW:Sl (fun k=>k<w.heap.size) (qo.setCell ⟨w.heap.size+1,0,none⟩ (.slice aL L.length cL)) aL cL L:=(ahu.out.ext (Ext.setCell qo (p:=⟨w.heap.size+1,0,none⟩) (by show w.heap.size+1<w.heap.size+2;omega) (.slice aL L.length cL))).anti (fun k _ hk=>by omega);generalize qo.setCell ⟨w.heap.size+1,0,none⟩ (.slice aL L.length cL)=wf at*
  refine iT [4,5] ?_;refine iN aB ?_ _;go_wp2;exact dG (v:= .tuple #[.agg #[.slice aL L.length cL],.bool (lZ L),.int .i64 0]) (by simp [results,results82,go_sem,ahv]) rfl ⟨aL,cL,L,lZ L,0,rfl,hR,TW,sZ⟩
 have he':(m.iU !=0)=true:=by simp [he]
 have hR:Hid (m.mV=([],false,m.iU)):=by unfold Hid g_.mV;rw [bQ he]
 clear he;go_wp2;have hc3:=eU w2 ⟨w.heap.size+1,0,none⟩ (.slice none 0 0) hc2;have jh:=hB2.setCell (p:=⟨w.heap.size+1,0,none⟩) aH (.slice none 0 0);generalize w2.setCell ⟨w.heap.size+1,0,none⟩ (.slice none 0 0)=wf at*
 exact dG (v:= .tuple #[.agg #[.slice none 0 0],.bool false,.int .i64 m.iU]) (by simp [results,results82,go_sem,hc3]) rfl ⟨none,0,[],false,m.iU,rfl,hR,Sl.nil _ _ _ aS,jh⟩
end
def g_.jm (m:g_) (T:List Nd):Int:=if m.iU≠0 then m.iU else if 4096<T.length then 1 else if m.right T (T.length+1) 0 ⟨jK m.h_.length,jK m.h_.length⟩=(T.length,true) then 0 else 1
theorem BA {m:g_} (ok:m.Ok) {I J:List Int} (hI:I=jK m.h_.length) (hJ:J=jK m.h_.length):Ms m.h_.length ⟨I,J⟩:=by
 subst hI hJ;refine ⟨rfl,by show 0<(jK m.h_.length).length;rw [kS];exact ok.n0,fun s hs=> ?_⟩;have hs:s∈jK m.h_.length:=hs;unfold jK at hs;obtain ⟨k,hk,rfl⟩:=aqJ.1 hs;have:=aqE.1 hk;omega
section
variable {M MT:Nat->Prop} {w:World} {an ao aT:Option Addr} {cn co cT:Nat} {m:g_} {T:List Nd}
theorem Hw (hm:Ma M w an cn ao co m) (hT:Sl MT w aT cT T) (hn:Hid (m.h_.length<1000)) (TH:Hid (T.length<1000000000)):Calls prog 135 #[kF m an cn ao co,.agg #[.slice aT T.length cT]] w fun e w'=>e= .returned (.int .i64 (m.jm T))/\Below w.heap.size w w':=by
 have hB0:=iB w (iP m an cn ao co);have hx0:=jE w m an cn ao co;have hB1:=hB0.alloc aH (.cells #[.slice aT T.length cT] 119);have hx1:=hx0.below ((bP (w.heap.size+1) (w.alloc (iP m an cn ao co))).alloc aH (.cells #[.slice aT T.length cT] 119)) ah;have ht1:((w.alloc (iP m an cn ao co)).alloc (.cells #[.slice aT T.length cT] 119)).cell? ⟨w.heap.size+1,0,none⟩=some (.slice aT T.length cT):=aH;have hz1:((w.alloc (iP m an cn ao co)).alloc (.cells #[.slice aT T.length cT] 119)).heap.size=w.heap.size+2:=aH;have l5:=hT.le;have HM:=bK hm;have HT:=bK hT;have Ht:=bK (Gy (hm.below hB1));clear hm hT hB0 hx0;go_enter func135,ntmps135;go_upto_region 1 with (fail);generalize (w.alloc (iP m an cn ao co)).alloc (.cells #[.slice aT T.length cT] 119)=w1 at*
 go_upto_region 2 with (refine (Ht.out).mono ?_;rintro e w2 ⟨rfl,hb2⟩);have hx2:=hx1.below hb2 ah;have hB2:=hB1.trans (hb2.mono ah);have ht2:=(hb2.cell (p:=⟨w.heap.size+1,0,none⟩) (by show w.heap.size+1<_;omega)).trans ht1;have hz2:w.heap.size+2<=w2.heap.size:=ig hb2.size;clear hx1 hB1 hb2 hz1 Ht ht1;by_cases he:m.iU=0
 ·have he':(m.iU !=0)=false:=by simp [he]
  have HE:=bK he;have ok:Hid m.Ok:=g_.iG m (g_.jv HE.out).1;clear he;by_cases mP:4096<T.length
  ·have hR:Hid ((1:Int)=m.jm T):=by unfold Hid g_.jm;rw [bO (by simp [HE.out]),bQ mP]
   go_wp2;go_ret;exact ⟨by rw [<-hR.out];rfl,hB2⟩
  have KH:=bK mP;go_upto_region 7 with (fail);have hba:=iB w2 (.cells #[.int .i64 m.gZ,.int .i64 m.start,.slice an m.h_.length cn,.slice ao m.out.length co,.slice none 0 0] 169);have hc3:C4 (w2.alloc (.cells #[.int .i64 m.gZ,.int .i64 m.start,.slice an m.h_.length cn,.slice ao m.out.length co,.slice none 0 0] 169)) w2.heap.size an cn ao co m:=⟨aH,aH,aH,aH⟩;have hx3:=hx2.below hba ah;have hB3:=hB2.trans (hba.mono ah);have ht3:=(hba.cell (p:=⟨w.heap.size+1,0,none⟩) (by show w.heap.size+1<_;omega)).trans ht2;have hz3:w2.heap.size<(w2.alloc (.cells #[.int .i64 m.gZ,.int .i64 m.start,.slice an m.h_.length cn,.slice ao m.out.length co,.slice none 0 0] 169)).heap.size:=aH;clear hx2 hB2 ht2 hba;generalize w2.alloc (.cells #[.int .i64 m.gZ,.int .i64 m.start,.slice an m.h_.length cn,.slice ao m.out.length co,.slice none 0 0] 169)=w3 at*
  refine iO (fun w'=>C4 w' w.heap.size an cn ao co m/\w'.cell? ⟨w.heap.size+1,0,none⟩=some (.slice aT T.length cT)) [0,1,2,4,6,8,9,10,11,12] aB ?_;have hbd:=(bP w3.heap.size w3).drew;have hc4:=hc3.below hbd hz3;have hB4:=hB3.trans (hbd.mono ah);have ku:=And.intro (hx3.below hbd ah) ((hbd.cell (p:=⟨w.heap.size+1,0,none⟩) (by show w.heap.size+1<_;omega)).trans ht3);have nN:w2.heap.size<w3.drew.heap.size:=hz3;clear hc3 hx3 hB3 ht3 hbd hz3;generalize w3.drew=w4 at*
  have zR:=bK (tK (HM.out.below hB4) (ig hn.out));refine iT [0,1,2,4] ?_;refine iJ 3 fun K hK=> ?_;go_simp;refine (zR.out).mono ?_;rintro e w5 ⟨a5,c5,I5,rfl,VL,Hu,hb5⟩;have DF:=hc4.below hb5 nN;have jw:=hB4.trans (hb5.mono ah);have hS5:=And.intro (ku.1.below hb5 ah) ((hb5.cell (p:=⟨w.heap.size+1,0,none⟩) (by show w.heap.size+1<_;omega)).trans ku.2);have yJ:w2.heap.size<w5.heap.size:=ig hb5.size;refine hK _ _ (fun _=>hS5) ?_;clear hK K hc4 hB4 ku nN hb5 zR;have HS2:=bK (tK (HM.out.below jw) (ig hn.out));refine iJ 5 fun K hK=> ?_;go_simp;refine (HS2.out).mono ?_;rintro e w6 ⟨a6,c6,I6,rfl,hI6,TU,hb6⟩;have hc6:=DF.below hb6 yJ;have jo:=jw.trans (hb6.mono ah);have uK:=And.intro (hS5.1.below hb6 ah) ((hb6.cell (p:=⟨w.heap.size+1,0,none⟩) (by show w.heap.size+1<_;omega)).trans hS5.2);have qR:w2.heap.size<w6.heap.size:=ig hb6.size;have QD:=Hu.below hb6;refine hK _ _ (fun _=>uK) ?_;clear hK K DF jw hS5 yJ hb6 HS2 Hu;have MN:Hid (Ms m.h_.length ⟨I5,I6⟩):=BA ok.out VL.out hI6.out;have HRi:=bK (XW (T.length+1) (at':=0) (g:=⟨I5,I6⟩) hc6 qR (HM.out.below jo) (HT.out.below jo) QD TU ok MN (by show Hid (I6.length<1000);unfold Hid;rw [hI6.out,kS];exact hn.out) TH (bK (ap1 _)) (bK ah));have hgr:Hid (∀r,m.right T (T.length+1) 0 ⟨I5,I6⟩=r->m.right T (T.length+1) 0 ⟨jK m.h_.length,jK m.h_.length⟩=r):=fun r h=>by rw [<-h,VL.out,hI6.out]
  refine iT [6] ?_;refine iJ 7 fun K hK=> ?_;go_simp;refine (HRi.out).mono ?_;rintro e w7 ⟨n,y,rfl,hr,kG⟩;have jY:=jo.trans (kG.mono ah);have IL:=And.intro (uK.1.below kG ah) ((kG.cell (p:=⟨w.heap.size+1,0,none⟩) (by show w.heap.size+1<_;omega)).trans uK.2);refine hK _ _ (fun _=>IL) ?_;have hr2:=bK (hgr.out _ hr.out);clear hK K hc6 jo uK qR QD TU HRi hr hgr kG;refine iT [8,9,10,11,12] ?_;refine iN aB ?_ _;have ht7:=IL.2;clear IL;cases y with
  |false=>
   have hR:Hid ((1:Int)=m.jm T):=by unfold Hid g_.jm;rw [bO (by simp [HE.out]),bO KH.out,hr2.out,bO aH]
   go_wp2;go_ret;exact ⟨by rw [<-hR.out];rfl,jY⟩
  |true=>
   by_cases TI:n=T.length
   ·have hR:Hid ((0:Int)=m.jm T):=by unfold Hid g_.jm;rw [bO (by simp [HE.out]),bO KH.out,hr2.out,bQ (by rw [TI])]
    have hnb:((n:Int) !=(T.length:Int))=false:=by simp [TI]
    clear TI hr2;go_wp2;go_ret;exact ⟨by rw [<-hR.out];rfl,jY⟩
   have hR:Hid ((1:Int)=m.jm T):=by unfold Hid g_.jm;rw [bO (by simp [HE.out]),bO KH.out,hr2.out,bO (by simp [TI])]
   have hnb:((n:Int) !=(T.length:Int))=true:=aJ;clear TI hr2;go_wp2;go_ret;exact ⟨by rw [<-hR.out];rfl,jY⟩
 have he':(m.iU !=0)=true:=by simp [he]
 have hR:Hid (m.iU=m.jm T):=by unfold Hid g_.jm;rw [bQ he]
 clear he;go_wp2;go_ret;exact ⟨by rw [<-hR.out];rfl,hB2⟩
end
theorem g_.lg {m:g_} {T:List Nd} (h:m.jm T=0):m.iU=0/\T.length<=4096/\m.right T (T.length+1) 0 ⟨jK m.h_.length,jK m.h_.length⟩=(T.length,true):=by
 unfold jm at h;split at h;·rename_i h1;exact absurd h h1
 rename_i h1;split at h;·simp at h
 split at h;·rename_i h2 h3;exact ⟨fG h1,ah,h3⟩
 simp at h
theorem g_.ahw {m:g_} {T:List Nd} (ok:m.Ok) (h:m.jm T=0) {s:Nat} (hs:s<m.h_.length):m.Wi T 0 (s:Int):=
 ⟨_,_,_,(lg h).2.2,aqJ.2 ⟨s,aqE.2 hs,rfl⟩,BA ok rfl rfl,(fun s hs=>(BA ok rfl rfl:Ms _ ⟨jK m.h_.length,jK m.h_.length⟩).st s hs),by show (jK m.h_.length).length<=_;rw [kS];exact bM _⟩
section
variable {M MT:Nat->Prop} {w:World} {an ao aT:Option Addr} {cn co cT:Nat} {m:g_} {T:List Nd}
theorem Yd (hm:Ma M w an cn ao co m) (hT:Sl MT w aT cT T) (hn:Hid (m.h_.length<1000)) (hc:Hid (m.jm T=0)) (s:Nat) (hs:s<m.h_.length):Calls prog 136 #[kF m an cn ao co,.agg #[.slice aT T.length cT],.int .i64 s] w fun e w'=>∃(a:Option Addr) (c:Nat) (W:List Int) (l:Nat),e= .returned (.tuple #[.slice a W.length c,.int .i64 l,.int .i64 0])/\Hid (m.uS T s=(W,l))/\Hid (W.length<=l/\l<T.length/\∃c,m.Wi T l c)/\Sl (fun k=>k<w.heap.size) w' a c W/\Below w.heap.size w w':=by
 have ok:Hid m.Ok:=g_.iG m (g_.jv (g_.lg hc.out).1).1;have hT4:=bK (g_.lg hc.out).2.1;have hTl:=hT4.out;have hw0:=bK (g_.ahw ok.out hc.out hs);have hB0:=iB w (iP m an cn ao co);have hx0:=jE w m an cn ao co;have hB1:=hB0.alloc aH (.cells #[.slice aT T.length cT] 119);have hx1:=hx0.below ((bP (w.heap.size+1) (w.alloc (iP m an cn ao co))).alloc aH (.cells #[.slice aT T.length cT] 119)) ah;have ht1:((w.alloc (iP m an cn ao co)).alloc (.cells #[.slice aT T.length cT] 119)).cell? ⟨w.heap.size+1,0,none⟩=some (.slice aT T.length cT):=aH;have hz1:((w.alloc (iP m an cn ao co)).alloc (.cells #[.slice aT T.length cT] 119)).heap.size=w.heap.size+2:=aH;have n1:=ok.out.n1;have l1:=hm.h_.le;have l2:=hm.out.le;have l5:=hT.le;have HM:=bK hm;have HT:=bK hT;have TY:=Hw (hm.below hB1) (hT.below hB1) hn (bK ah);rw [hc.out] at TY;have Ht:=bK TY;have hW0:Hid (m.uS T s=m.lY T T.length 0 s []):=rfl;clear hm hT hB0 hx0 TY;go_enter func136,ntmps136;go_upto_region 1 with (fail);generalize (w.alloc (iP m an cn ao co)).alloc (.cells #[.slice aT T.length cT] 119)=w1 at*
 go_wp2_with fail;refine (Ht.out).mono ?_;rintro e w2 ⟨rfl,hb2⟩;have hx2:=hx1.below hb2 ah;have hB2:=hB1.trans (hb2.mono ah);have ht2:=(hb2.cell (p:=⟨w.heap.size+1,0,none⟩) (by show w.heap.size+1<_;omega)).trans ht1;have hz2:w.heap.size+2<=w2.heap.size:=ig hb2.size;clear hx1 hB1 hb2 hz1 Ht ht1
 have HS:Hid (∀w',Below w2.heap.size w2 w'->C4 w' w.heap.size an cn ao co m/\w'.cell? ⟨w.heap.size+1,0,none⟩=some (.slice aT T.length cT)):=fun w' h=>
  ⟨hx2.below h ah,(h.cell (p:=⟨w.heap.size+1,0,none⟩) (by show w.heap.size+1<_;omega)).trans ht2⟩
 have hs0:decide ((s:Int)<0)=false:=cZ ah;have hs1:decide (m.h_.length<=s)=false:=cZ ah;go_upto_region 7 with (fail);go_wp2_with fail;have hba:=iB w2 (.cells #[.int .i64 (s:Int)] 3);have hcu:(w2.alloc (.cells #[.int .i64 (s:Int)] 3)).cell? ⟨w2.heap.size,0,none⟩=some (.int .i64 (s:Int)):=aH;have hcf:(w2.alloc (.cells #[.int .i64 (s:Int)] 3)).frozen? ⟨w2.heap.size,0,none⟩=false:=by unfold World.frozen?;rw [dS];simp
 have hcz:w2.heap.size<(w2.alloc (.cells #[.int .i64 (s:Int)] 3)).heap.size:=aH
 go_loopw [10,11] (fun v i wr=>∃(at' c fu:Nat) (a':Option Addr) (c':Nat) (W:List Int),i= .int .i64 at'/\v= .slice a' W.length c'/\Hid (m.uS T s=m.lY T fu at' c W)/\Hid (m.Wi T at' c)/\Hid (T.length<=at'+fu)/\Hid (W.length<=at')/\
  Ow (w2.heap.size+1) (fun k=>w2.heap.size+1<=k) wr 3 (.slice a' W.length c') W/\wr.cell? ⟨w2.heap.size,0,none⟩=some (.int .i64 c)/\wr.frozen? ⟨w2.heap.size,0,none⟩=false/\Below w2.heap.size w2 wr/\w2.heap.size<wr.heap.size) (fun _ i _=>T.length-(intOf i).toNat)
 case atStart=>exact ⟨0,s,T.length,none,0,[],rfl,rfl,hW0,hw0,bK ah,by simp [Hid],Ow.nil,hcu,hcf,hba,hcz⟩
 case round=>
  clear hW0 hw0 hba hcu hcf hcz;obtain ⟨at',c,fu,a',c',W,rfl,rfl,hWg,hWi,hfu,Bf,hO,hcu,hcf,hB,hz⟩:=hrel;obtain ⟨wo,rfl⟩:=iA wr;have hwl:=bK (g_.VJ hWi.out);have abE:=hwl.out.1;have hcl:c<m.h_.length:=ig hwl.out.2.2;have hSo:=HS.out _ hB;have hto:=hSo.2;have qK:=hB2.trans (hB.mono ah);obtain ⟨bT,oT,a1,c1,a2,c2,x,rfl,hx0,hx1,T_,hxe,hxs,hxk,hxi⟩:=HT.out.Dx abE;have HX1:Hid (∀w',Below w.heap.size w w'->w'.cell? ⟨bT,oT+at'*3+1,none⟩=some (.int .i64 x.inp)):=fun w' h=>(h.cell (p:=⟨bT,oT+at'*3+1,none⟩) (lt_of_cell hx1)).trans hx1;have HX2:Hid (∀w',Below w.heap.size w w'->w'.cell? ⟨bT,oT+at'*3+2,none⟩=some (.slice a2 x.kids.length c2)):=fun w' h=>(h.cell (p:=⟨bT,oT+at'*3+2,none⟩) (lt_of_cell T_)).trans T_;clear hxs hx0 hx1 T_;have hx1:=HX1.out _ qK;have HXK:=bK hxk;have ag6:=hxk.le;clear hxk;by_cases h0:x.inp>=0
  ·obtain ⟨xn,hxn⟩:=b_ h0;obtain ⟨ahx,k,kd,n',hkd,hko,hkb,hkt,han,TI,Mq⟩:=g_.ME ok.out hWi.out hxe.out h0;have aeb:xn<m.gZ.toNat:=ah;rw [hxn] at hx1 hko hkb Mq;have h0x:(xn:Int)>=0:=ah;have hkl:=iW hkd;have abF:=bK hko;have Ua:=bK hkd;have Jr:=bK hkb;have abG:=bK hkt;have ahy:=bK Mq;have DZ:=bK hxn;obtain ⟨bn,on,bo,oo,rfl,rfl⟩:=(HM.out.addr ok.out);clear hko hkd hkb hkt Mq hxn h0 ahx;obtain ⟨bk,okk,q,rfl,akC,abH,hqe, -⟩:=HXK.out.PN hkl;have hqk:Hid (q=kd):=bK (by have h:=hqe.out;rw [Ua.out] at h;simpa using h.symm)
   have HK1:Hid (∀w',Below w.heap.size w w'->w'.cell? ⟨bk,okk+k*2+1,none⟩=some (.int .i64 (n':Int))):=fun w' h=>by
    rw [(h.cell (p:=⟨bk,okk+k*2+1,none⟩) (lt_of_cell abH)).trans abH,hqk.out,abG.out]
   obtain ⟨bn2,on2,a3,r1,c3,hbe,hn1,hr1,hS1⟩:=HM.out.h_.iD hcl;obtain ⟨rfl,rfl⟩:bn=bn2/\on=on2:=iq hbe;have Ls:=hS1.le;have hrl:Hid ((r1.length:Int)=m.gZ):=by have:=ok.out.rn c hcl;rw [iw hr1.out] at this;exact this
   have hxl:xn<r1.length:=ig hrl.out;obtain ⟨b3,o3,t0,rfl,htc,ht0,vK⟩:=hS1.iC hxl;have hnx:Hid (m.nx c xn=t0):=by unfold Hid g_.nx;rw [iw hr1.out,iw ht0.out]
   have HN:Hid (∀w',Below w.heap.size w w'->w'.cell? ⟨bn,on+c,none⟩=some (.slice (some ⟨b3,o3,none⟩) r1.length c3)/\w'.cell? ⟨b3,o3+xn,none⟩=some (.int .i64 t0)):=fun w' h=>
    ⟨(h.cell (p:=⟨bn,on+c,none⟩) (lt_of_cell hn1)).trans hn1,(h.cell (p:=⟨b3,o3+xn,none⟩) (lt_of_cell htc)).trans htc⟩
   clear akC abH hqe hbe hn1 hS1 htc;go_upto_region 10 with (fail);have hba:=iB wo (.cells #[.int .i64 (xn:Int)] 3);have hB4:=hB.trans (hba.mono ah);have Jh:=qK.trans (hba.mono (ig qK.size));have hO4:=hO.below hba;have ahz:=(hba.cell (p:=⟨w2.heap.size,0,none⟩) hz).trans hcu;have akD:=(iR (a:=⟨w2.heap.size,0,none⟩) (hba.block _ hz)).trans hcf;have ha4:(wo.alloc (.cells #[.int .i64 (xn:Int)] 3)).cell? ⟨wo.heap.size,0,none⟩=some (.int .i64 (xn:Int)):=aH;have nN:wo.heap.size<(wo.alloc (.cells #[.int .i64 (xn:Int)] 3)).heap.size:=aH;have hk4:=HX2.out _ Jh;have anJ:=hO.lt;clear hba hB qK hO hcu hcf hx1 hSo hto;generalize wo.alloc (.cells #[.int .i64 (xn:Int)] 3)=w4 at*
   have ku:=HS.out _ hB4;have ht4:=ku.2;have HIx:=bK (Xm ku.1 (HM.out.below Jh) ok c xn hcl aeb ahz ha4 (HXK.out.below Jh) Ua (bK abF.out) Jr);go_wp2_with fail;refine (HIx.out).mono ?_;rintro e w5 ⟨rfl,hb5⟩;have jw:=hB4.trans (hb5.mono ah);have zL:=Jh.trans (hb5.mono (ig Jh.size));have kV:=hO4.below hb5;have akE:=(hb5.cell (p:=⟨w2.heap.size,0,none⟩) (show w2.heap.size<w4.heap.size by omega)).trans ahz;have akF:=(iR (a:=⟨w2.heap.size,0,none⟩) (hb5.block w2.heap.size ah)).trans akD;have ha5:=(hb5.cell (p:=⟨wo.heap.size,0,none⟩) nN).trans ha4;have yJ:wo.heap.size<w5.heap.size:=ig hb5.size;clear HIx hB4 Jh hO4 ahz akD ha4 nN hk4 hb5 ku ht4;have ahA:=Bf.out;have abI:Hid (i64 (xn:Int)):=by have h:=hxi.out;rw [DZ.out] at h;exact h
   go_wp2_with (at_builtin;refine mG (B:=w2.heap.size+1) (M:=fun k=>w2.heap.size+1<=k) (l:=W) (y:=(xn:Int)) rfl rfl underlying49 iE rfl rfl (kV.alloc _) bf abI.out ah aJ ?_);intro a6 c6 W6 w6 BK lu P_ XF;have hba:=iB w5 (.cells #[.int .i64 (xn:Int)] 3);have hlo:∀k,(Value.slice a' W.length c').ownBlock=some k->w2.heap.size+1<=k/\k<wo.heap.size:=anJ;have zX:Below (w2.heap.size+1) w5 w6:=((bP (w2.heap.size+1) w5).alloc ah _).grown XF aJ (fun k hk=>(hlo k hk).1);have jo:=jw.trans (zX.mono ah);have pY:=zL.trans (zX.mono (ig zL.size));have akG:=(zX.cell (p:=⟨w2.heap.size,0,none⟩) (show w2.heap.size<w2.heap.size+1 by omega)).trans akE;have akH:=(iR (a:=⟨w2.heap.size,0,none⟩) (zX.block w2.heap.size ah)).trans akF;have hgb:=XF.block wo.heap.size aJ (fun e=>by have:=(hlo _ e.symm).2;omega);have ha6:=(dD (a:=⟨wo.heap.size,0,none⟩) hgb).trans ((hba.cell (p:=⟨wo.heap.size,0,none⟩) yJ).trans ha5);have qR:wo.heap.size<w6.heap.size:=by have:=XF.size;simp at this;omega
   have ahB:Hid (W6.length=W.length+1):=bK (by rw [BK.out];simp);clear jw zL kV akE akF ha5 yJ XF P_ hba zX hgb;have uK:=HS.out _ jo;have ht6:=uK.2;have P_:=HX2.out _ pY;have anK:=HK1.out _ pY;go_upto_region 13 with (fail);refine iO (fun w'=>w'.cell? ⟨w.heap.size,2,none⟩=some (.slice (some ⟨bn,on,none⟩) m.h_.length cn)/\w'.cell? ⟨w2.heap.size,0,none⟩=some (.int .i64 (c:Int))/\w'.cell? ⟨wo.heap.size,0,none⟩=some (.int .i64 (xn:Int))/\w'.cell? ⟨bn,on+c,none⟩=some (.slice (some ⟨b3,o3,none⟩) r1.length c3)/\w'.cell? ⟨b3,o3+xn,none⟩=some (.int .i64 t0)) [0,1,2,3,4,5,6,7] aB ?_;have hdr:=(bP w6.heap.size w6).drew;have jY:=jo.trans (hdr.mono ah);have Xc:=pY.trans (hdr.mono (ig pY.size));have yR:=lu.below hdr;have ahC:w6.drew.cell? ⟨w2.heap.size,0,none⟩=some (.int .i64 (c:Int)):=akG;have akI:w6.drew.frozen? ⟨w2.heap.size,0,none⟩=false:=akH;have hSS:=And.intro (HS.out _ jY).1.2.2.1 (And.intro ahC (And.intro (show w6.drew.cell? ⟨wo.heap.size,0,none⟩=some (.int .i64 (xn:Int)) from ha6) (HN.out _ Xc)));have xK:wo.heap.size<w6.drew.heap.size:=qR;clear uK ht6 P_ anK hdr jo pY lu akG akH ha6 qR;generalize w6.drew=w7 at*
   refine iT [0,1,2,3,4,5,6,7] ?_;refine jW (i:=8) aB aB rfl rfl (fun K hK=> ?_);go_simp;refine hK _ _ ?_;clear hK K;refine iN aB ?_ _;obtain ⟨tn,htn⟩:=b_ (show 0<=t0 by have h:=ok.out.nx c xn hcl aeb;rw [hnx.out] at h;exact h.1);have akJ:=eU w7 ⟨w2.heap.size,0,none⟩ (.int .i64 t0) ahC;have anL:(w7.setCell ⟨w2.heap.size,0,none⟩ (.int .i64 t0)).frozen? ⟨w2.heap.size,0,none⟩=false:=by rw [gI];exact akI
   have uf:=yR.ny (p:=⟨w2.heap.size,0,none⟩) (fun k hk=>by have:=(yR.lt k hk).1;show k≠w2.heap.size;omega) (.int .i64 t0);have mg:=jY.setCell (p:=⟨w2.heap.size,0,none⟩) (bM _) (.int .i64 t0);have IQ:w2.heap.size<(w7.setCell ⟨w2.heap.size,0,none⟩ (.int .i64 t0)).heap.size:=by simp [World.setCell];omega
   clear hSS jY Xc yR ahC akI xK;generalize w7.setCell ⟨w2.heap.size,0,none⟩ (.int .i64 t0)=w8 at*
   have anM:=hfu.out;obtain ⟨Ye,hfe⟩:∃Ye,fu=Ye+1:=⟨fu-1,ah⟩;have ahD:Hid (m.uS T s=m.lY T Ye n' tn W6):=by unfold Hid;rw [hWg.out,hfe,g_.CB hxe.out (by rw [DZ.out];exact Int.natCast_nonneg _) (g_.He Ua.out (by rw [abF.out,DZ.out]) (by rw [DZ.out];exact Jr.out)),abG.out,DZ.out,BK.out];show m.lY T Ye n' (m.nx c xn) _=_;rw [hnx.out,htn]
   have ahE:Hid (m.Wi T n' tn):=by have h:=ahy.out;rw [show m.nx ((c:Int)).toNat ((xn:Int)).toNat=t0 from hnx.out,htn] at h;exact h
   have ahF:Hid (T.length<=n'+Ye):=bK ah;have ahG:Hid (W6.length<=n'):=bK (by rw [ahB.out];have:=Bf.out;omega);rw [htn] at akJ;clear hfe anM htn;go_wp2;go_roundw;case rel=>exact ⟨n',tn,Ye,a6,c6,W6,rfl,rfl,ahD,ahE,ahF,ahG,uf,akJ,anL,mg,IQ⟩
   case measure=>exact bF
  have hF:Hid (m.uS T s=(W,at')):=bK (by rw [hWg.out];exact g_.xR hxe.out ah);have hfr:=hO.fresh (n:=w.heap.size) ah;go_wp2;exact dG (v:= .tuple #[.slice a' W.length c',.int .i64 at',.int .i64 0]) (by simp [results,results136,go_sem]) rfl ⟨a',c',W,at',rfl,hF,bK ⟨Bf.out,abE,_,hWi.out⟩,hfr,qK⟩
end
end
section
open Tryz
namespace g_
variable (m:g_)
def sP:List Int->List Int->Option (List Int)
 |l,[]=>some l
 |l,a::w=>if (m.wQ a.toNat l).2.1=true/\(m.wQ a.toNat l).2.2=true then sP (m.wQ a.toNat l).1 w else none
def Hz:List Int->List Int->Prop
 |_,[]=>False
 |l,a::w=>(m.wQ a.toNat l).2.1=true/\((w=[]/\(m.wQ a.toNat l).2.2=false)\/((m.wQ a.toNat l).2.2=true/\Hz (m.wQ a.toNat l).1 w))
variable {m}
theorem H_:∀{w l l':List Int} {a:Int},m.sP l w=some l'->(m.wQ a.toNat l').2.1=true->(m.wQ a.toNat l').2.2=true->m.sP l (w++[a])=some (m.wQ a.toNat l').1
 |[],l,l',a,h,h1,h2=>by
  obtain rfl:l=l':=by simpa [sP] using h
  simp only [gJ,sP]
  rw [bQ ⟨h1,h2⟩]
 |b::w,l,l',a,h,h1,h2=>by
  simp only [sP] at h
  split at h
  ·rename_i hc
   simp only [gu,sP]
   rw [bQ hc]
   exact H_ h h1 h2
  simp at h
theorem Ia:∀{w l l':List Int} {a:Int},m.sP l w=some l'->(m.wQ a.toNat l').2.1=true->(m.wQ a.toNat l').2.2=false->m.Hz l (w++[a])
 |[],l,l',a,h,h1,h2=>by
  obtain rfl:l=l':=by simpa [sP] using h
  exact ⟨h1,.inl ⟨rfl,h2⟩⟩
 |b::w,l,l',a,h,h1,h2=>by
  simp only [sP] at h
  split at h
  ·rename_i hc
   exact ⟨hc.1,.inr ⟨hc.2,Ia h h1 h2⟩⟩
  simp at h
def FRp (m:g_) (l:List Int):FR->Prop
 | .go L=>∀q∈L,m.sP l q.word=some q.st
 | .word w=>m.Hz l w
 | .cut=>True
theorem ahH {l:List Int} {q:Fq} {a:Nat} {L:List Fq} (hL:∀q∈L,m.sP l q.word=some q.st) (hq:m.sP l q.word=some q.st):FRp m l (m.vZ q a L):=by
 unfold vZ;split;·exact hL
 rename_i h1;have h1:(m.wQ a q.st).2.1=true:=iq h1;split;·rename_i h2;exact Ia (a:=(a:Int)) hq h1 h2
 rename_i h2;have h2:(m.wQ a q.st).2.2=true:=iq h2;split;·exact hL
 split;·trivial
 intro p hp;rcases eG.1 hp with e|e;·exact hL p e
 rw [dZ.1 e];exact H_ (a:=(a:Int)) hq h1 h2
theorem abJ {l:List Int} {q:Fq} {L:List Fq} (hL:∀q∈L,m.sP l q.word=some q.st) (hq:m.sP l q.word=some q.st):∀a,FRp m l (m.fRow q L a)
 |0=>hL
 |a+1=>by
  have ih:=abJ hL hq a
  unfold fRow
  split
  ·rename_i K hK
   rw [hK] at ih
   exact ahH ih hq
  exact ih
theorem abK {l:List Int}:∀i,FRp m l (m.Af l i)
 |0=>by
  intro p hp
  obtain rfl:p=⟨l,[]⟩:=iq hp
  rfl
 |i+1=>by
  have ih:=abK (l:=l) i
  unfold Af
  split
  ·rename_i L hL
   rw [hL] at ih
   split
   ·rename_i hi
    refine abJ ih ?_ _
    rw [bS,bN hi]
    exact ih _ (dQ hi)
   exact ih
  exact ih
theorem Ub {l:List Int} (h:(m.oZ l).1≠[]):m.Hz l (m.oZ l).1:=by
 have h2:=abK (m:=m) (l:=l) Cr;unfold oZ at h ⊢;cases e:m.Af l Cr with
 |go L=>rw [e] at h;exact absurd rfl h
 |word w=>rw [e] at h2;exact h2
 |cut=>rw [e] at h;exact absurd rfl h
theorem KI {a:Nat} {l:List Int}:∀{n:Nat},n<=l.length->m.jN a l n=true->(l.take n).Pairwise fun t s=>m.mrg a s t=false
 |0,_,_=>by simp
 |n+1,hn,h=>by
  simp only [jN,gP] at h
  have ih:=KI (n:=n) ah h.1
  have hx:l[n]? =some l[n]:=bN hn
  rw [dh,hx,asf]
  refine ⟨ih,aH,fun t ht s hs=> ?_⟩
  obtain rfl:s=l[n]:=iq hs
  have h2:=h.2
  unfold qU at h2
  rw [f_] at h2
  have:=h2 t ht
  rw [iw hx] at this
  simpa using this
theorem QE {a:Nat} {l:List Int} (h:(m.wQ a l).2.1=true):m.jN a l l.length=true:=by
 unfold wQ at h;split at h;·rename_i h1;exact h1
 simp at h
theorem akK {a:Nat} {l:List Int} (h:(m.wQ a l).2.1=true):(m.wQ a l).1=l.map (fun s=>m.nx s.toNat a)/\(m.wQ a l).2.2=m.vW a l l.length:=by
 have h1:=QE h;unfold wQ;rw [bQ h1];unfold wH;rw [dV];exact ⟨rfl,rfl⟩
theorem Yf {a:Nat} {I C:List Int} (Vu:I.length=C.length) (h:m.jN a C C.length=true) (o:Int):(m.IJ a I C o).Nodup:=by
 have h1:=KI (bM _) h;rw [dV] at h1;have hz:(I.zip C).map Prod.snd=C:=ark ah;rw [<-hz,arN] at h1;unfold IJ;unfold List.Nodup;rw [arN];refine arP ?_ (h1.filter _);intro p q hp hq hpq e;have hp:=(aq8.1 hp).2;have hq:=(aq8.1 hq).2;have hp:m.ot p.2.toNat a=o:=iq hp;have hq:m.ot q.2.toNat a=o:=iq hq;unfold mrg at hpq;rw [hp,hq,e] at hpq;simp at hpq
theorem Uc {l:List Int} (h:l.Nodup):¬(kR l).length≠l.length:=by
 refine Qm fun i j x y hi hj hx hy e=> ?_;have hil:=iW hx;have:=arO.1 h j i ah hil hj;rw [bN hil] at hx;rw [bN ah] at hy;have e1:l[i]=x:=iq hx;have e2:l[j]=y:=iq hy;exact this (by rw [e1,e2,e])
theorem aec {a:Nat} {I C:List Int} (Vu:I.length=C.length) {o:Int} (h:∀s∈C,m.ot s.toNat a=o):m.IJ a I C o=C.map fun s=>m.nx s.toNat a:=by
 have hz:(I.zip C).map Prod.snd=C:=ark ah;unfold IJ
 rw [asi.2 fun p hp=>by
  have:p.2∈C:=by rw [<-hz];exact gU hp
  simp [h _ this]]
 conv=>rhs;rw [<-hz]
 rw [aru];rfl
structure GInv (m:g_) (g:Gp) (w:List Int):Prop where
 ok:Ms m.h_.length g
 nd:g.cur.Nodup
 wd:w=[]\/m.Hz g.cur w
 ok2:m.nQ w
theorem Ud {g:Gp} {w:List Int} (h:GInv m g w) (h1:m.qc g w≠[]):m.Hz g.cur (m.qc g w):=by
 unfold qc at h1 ⊢;split;·rename_i hc;rw [bQ hc] at h1;exact Ub h1
 rename_i hc;rw [bO hc] at h1;rcases h.wd with e|e;·exact absurd e h1
 exact e
theorem abL {g:Gp} {w u:List Int} {a:Int} {o:Int} (ok:m.Ok) (h:GInv m g w) (hw:m.qc g w=a::u) (ho:o∈m.jG a.toNat g.cur):GInv m (m.yH a.toNat g.jC g.cur o) u:=by
 have hs:=Ud h (by rw [hw];simp);have hok:=Bh (g:=g) h.ok2;rw [hw] at hs hok;have ha:=(uj hok).1;have hI:=ok.i0;refine ⟨Cx ok ah h.ok ho,Yf h.ok.le (QE hs.1) o,?_,(uj hok).2⟩;rcases hs.2 with ⟨e, -⟩|⟨e,hs2⟩;·exact .inl e
 refine .inr ?_;have h1:=akK hs.1;have kE:∀s∈g.cur,m.ot s.toNat a.toNat=o:=by have e2:=h1.2;rw [e] at e2;have e2:=e2.symm;unfold vW at e2;rw [dV,f_] at e2;have hm:=ho;unfold jG at hm;rw [pR,aqJ] at hm;obtain ⟨s0,hs0,rfl⟩:=hm;intro s hs;have a1:=e2 s hs;have a2:=e2 s0 hs0;simp only [gQ] at a1 a2;rw [a1,a2]
 show m.Hz (m.IJ a.toNat g.jC g.cur o) u;rw [aec h.ok.le kE,<-h1.1];exact hs2
theorem DI {f t:Nat} {u:List Int} (ih:∀(L:List Nd) (g:Gp),GInv m g u->(m.grow f L g u).length<=4096->4097<=L.length+f->∀(T:List Nd),(∀i,L.length<=i->i<(m.grow f L g u).length->T[i]? =(m.grow f L g u)[i]?)->∀F,(m.grow f L g u).length-L.length<=F->m.right T F L.length g=((m.grow f L g u).length,true)):
    ∀(ps:List (Int×Gp)) (L0:List Nd) (y:Nd),(∀p∈ps,GInv m p.2 u)->t<L0.length->L0[t]? =some y->(m.jO f t u ps L0).length<=4096->4097<=L0.length+f->
     ∃ks:List Kd,ks.length=ps.length/\(m.jO f t u ps L0)[t]? =some ⟨y.st,y.inp,y.kids++ks⟩/\
      ∀(T:List Nd),(∀i,L0.length<=i->i<(m.jO f t u ps L0).length->T[i]? =(m.jO f t u ps L0)[i]?)->∀F,(m.jO f t u ps L0).length-L0.length<=F->mU (fun n h=>m.right T F n h) (ps.zip ks) L0.length=((m.jO f t u ps L0).length,true)
 |[],L0,y,_,ht,hy,_,_=>⟨[],rfl,by simpa [jO] using hy,fun T _ F _=>rfl⟩
 |p::ps,L0,y,hp,ht,hy,hR,hf=>by
  have QF:=mR (m:=m) f L0 p.2 u
  have hR':m.jO f t u (p::ps) L0=m.jO f t u ps (qb (fun K h=>m.grow f K h u) t L0 p):=rfl
  have hL0:¬4096<L0.length:=by
   intro e
   rw [Cu _ _ e] at hR
   omega
  have hK:qb (fun K h=>m.grow f K h u) t L0 p=jB t ⟨p.1,L0.length⟩ (m.grow f L0 p.2 u):=by unfold qb;rw [bO hL0]
  rw [hR',hK] at hR ⊢
  have hGt:(m.grow f L0 p.2 u)[t]? =some y:=by rw [QF.2 t ht];exact hy
  have anN:(jB t ⟨p.1,L0.length⟩ (m.grow f L0 p.2 u)).length=(m.grow f L0 p.2 u).length:=qy
  have anO:(jB t ⟨p.1,L0.length⟩ (m.grow f L0 p.2 u))[t]? =some ⟨y.st,y.inp,y.kids++[⟨p.1,L0.length⟩]⟩:=by
   rw [kD hGt]
   have:=iW hGt
   simp [this]
  have hgl:=uP (t:=t) (u:=u) (mR (m:=m) f) ps (jB t ⟨p.1,L0.length⟩ (m.grow f L0 p.2 u))
  obtain ⟨ks,h1,h2,h3⟩:=DI ih ps (jB t ⟨p.1,L0.length⟩ (m.grow f L0 p.2 u)) _ (fun q hq=>hp q (.tail _ hq)) (ig QF.1) anO hR (ig QF.1)
  refine ⟨⟨p.1,L0.length⟩::ks,by simp [h1],by rw [h2];simp,fun T hT F hF=> ?_⟩
  have hG:=ih L0 p.2 (hp p (.head _)) (ig hgl.1) hf T (fun i hi1 hi2=>by
   rw [hT i hi1 (ig hgl.1),hgl.2 i ah ah,wh ah]) F (ig hgl.1)
  show mU (fun n h=>m.right T F n h) ((p,(⟨p.1,L0.length⟩:Kd))::ps.zip ks) L0.length=_
  unfold mU
  rw [bO aH,hG]
  show mU (fun n h=>m.right T F n h) (ps.zip ks) _=_
  rw [<-anN]
  exact h3 T (fun i hi1 hi2=>hT i (ig QF.1) hi2) F (ig QF.1)
theorem Ib (ok:m.Ok):∀(f:Nat) (L:List Nd) (g:Gp) (w:List Int),GInv m g w->(m.grow f L g w).length<=4096->4097<=L.length+f->∀(T:List Nd),(∀i,L.length<=i->i<(m.grow f L g w).length->T[i]? =(m.grow f L g w)[i]?)->∀F,(m.grow f L g w).length-L.length<=F->m.right T F L.length g=((m.grow f L g w).length,true)
 |0,L,g,w,h,hR,hf,T,hT,F,hF=>by
  have:(m.grow 0 L g w).length=L.length:=rfl
  omega
 |f+1,L,g,w,h,hR,hf,T,hT,F,hF=>by
  have hno:∀x:Nd,x.st=g.jC->¬(x.st≠g.jC\/(kR g.cur).length≠g.cur.length):=fun x hx e=>e.elim (fun e=>e hx) (Uc h.nd)
  by_cases h0:4096<L.length+1
  ·rw [Cv h0] at hR
   simp at hR
   omega
  cases hw:m.qc g w with
  |nil=>
   have hG:=Cw (f:=f) (L:=L) hw
   rw [hG] at hT hF hR ⊢
   obtain ⟨F',rfl⟩:∃F',F=F'+1:=⟨F-1,by simp at hF;omega⟩
   have hx:T[L.length]? =some ⟨g.jC, -1,[]⟩:=by rw [hT L.length (bM _) aH];simp
   rw [zW hx (hno _ rfl) rfl]
   simp
  |cons a u=>
   have hG:=Mt (f:=f) (L:=L) h0 hw
   rw [hG] at hT hF hR ⊢
   have hok:=Bh (g:=g) h.ok2
   rw [hw] at hok
   have ha:=(uj hok).1
   obtain ⟨ks,h1,h2,h3⟩:=DI (fun L g hg=>Ib ok f L g u hg) (m.jS a.toNat g) (L++[⟨g.jC,a,[]⟩]) ⟨g.jC,a,[]⟩ (fun p hp=>by
    obtain ⟨k,hk⟩:=arn.1 hp
    have hkl:=iW hk
    rw [oJ] at hkl
    have e:=o_ (m:=m) (g:=g) (x:=a.toNat) (bN hkl)
    rw [hk] at e
    obtain rfl:=fH e
    exact abL ok h hw (dQ hkl)) (t:=L.length) aH aH hR aJ
   have yQ:=uP (t:=L.length) (u:=u) (mR (m:=m) f) (m.jS a.toNat g) (L++[⟨g.jC,a,[]⟩])
   have hle:=yQ.1
   simp at hle
   obtain ⟨F',rfl⟩:∃F',F=F'+1:=⟨F-1,ah⟩
   have hx:T[L.length]? =some ⟨g.jC,a,ks⟩:=by rw [hT L.length (bM _) ah,h2];simp
   rw [Bj hx (hno _ rfl) (show a≠ -1 by omega) (show ¬(a<0\/m.gZ<=a) by omega) (show ¬(m.jS a.toNat g).length≠ks.length by omega)]
   have h4:=h3 T (fun i hi1 hi2=>hT i (by simp at hi1;omega) hi2) F' aJ
   simpa using h4
theorem abM {n:g_} (h:n.mV.2.2=0):n.jm n.mV.1=0:=by
 unfold mV at h ⊢;split at h;·rename_i h1;exact absurd h h1
 rename_i h1;rw [bO h1];split at h;·simp at h
 rename_i h2;rw [bO h2];have h1:n.iU=0:=fG h1;have ok:=g_.iG n (g_.jv h1).1;show n.jm n.Bz=0;unfold jm;rw [bO (by simp [h1]),bO h2,bQ];have hnd:(jK n.h_.length).Nodup:=by unfold jK List.Nodup;rw [arN];exact List.Pairwise.imp (fun h=>by omega) List.pairwise_lt_range
 have hle:(n.grow 4097 [] ⟨jK n.h_.length,jK n.h_.length⟩ []).length<=4096:=by show n.Bz.length<=4096;omega
 exact Ib ok 4097 [] ⟨jK n.h_.length,jK n.h_.length⟩ [] ⟨BA ok rfl rfl,hnd,.inl rfl,fun y hy=>by simp at hy⟩ hle aH n.Bz (fun _ _ _=>rfl) _ (by show n.Bz.length-0<=_;omega)
end g_
namespace g_
variable {m:g_}
end g_
namespace g_
variable {m:g_}
end g_
namespace g_
variable {m:g_}
end g_
end
section
open Tryz
open Go.RowKit
structure Nn (n0:Nat) (W:Nat->Prop) (w:World) (v:Value) (L:List Nd):Prop where
 ok:lG (fun k=>W k\/k<n0) n0 w v L
 lt:∀k,W k->k<w.heap.size
 old:n0<=w.heap.size
section
variable {n0:Nat} {W W':Nat->Prop} {w w':World} {v:Value} {L:List Nd}
theorem Nn.ltV (h:Nn n0 W w v L):∀k,W k\/k<n0->k<w.heap.size:=fun k hk=>hk.elim (h.lt k) fun e=>by have:=h.old;omega
theorem Nn.Ef (h:Nn n0 W w v L):∀k,v.ownBlock=some k->n0<=k/\k<w.heap.size/\W k:=fun k hk=>by
 obtain ⟨h1,h2,h3⟩:=h.ok.ownB k hk
 exact ⟨h1,h2,h3.elim id fun e=>by omega⟩
theorem Nn.below (h:Nn n0 W w v L) (hb:Below w.heap.size w w'):Nn n0 W w' v L:=
 ⟨h.ok.below hb h.ltV,fun k hk=>eZ (h.lt k hk) hb.size,dH h.old hb.size⟩
theorem Nn.len (h:Nn n0 W w v L):∃a c,v= .slice a L.length c/\L.length<=c/\c<=maxLen:=h.ok.len
theorem Nn.nil (hn:n0<=w.heap.size):Nn n0 (fun _=>False) w (.slice none 0 0) []:=⟨lG.nil,fun _ h=>h.elim,hn⟩
theorem Nn.fresh {a:Option Addr} {c:Nat} {l:List Int} (h:Nn n0 W w v L) (hs:Sl (fun k=>k<w.heap.size) w' a c l):Sl (fun k=>W k\/k<n0) w' a c l:=hs.anti fun k _ hm=>h.ltV k hm
theorem Nn.sl {a:Option Addr} {c:Nat} (h:Nn n0 W w (.slice a L.length c) L):Sl (fun k=>k<n0) w a c L:=h.ok.jD (fun _ h=>h) fun _ _ h=> .inr h
theorem Nn.node {a':Option Addr} {c':Nat} {l':List Nd} (h:Nn n0 W w v L) (hO:lG (fun k=>(W k\/k<n0)\/k=w.heap.size) n0 w' (.slice a' l'.length c') l') (hg:w.grownBy w' v.ownBlock):∃W1,Nn n0 W1 w' (.slice a' l'.length c') l'/\Ext W W1 w w'/\Below n0 w w':=by
 have hes:=hg.size;have hol:=h.old;have he:Ext W (fun k=>W k\/k=w.heap.size) w w':=⟨hg.size,fun k hk hm=>hg.block k hk (fun e=>hm (h.Ef k e.symm).2.2),fun k hk hm=>hm.elim id (fun e=>by omega)⟩;refine ⟨fun k=>(W k\/k=w.heap.size)/\k<w'.heap.size,⟨hO.re (fun k hk e=> ?_) (fun k hk e=> ?_),fun k hk=>hk.2,ah⟩,he.trans (Ext.jA fun _ _ e=>e.1),(bP _ _).grown hg hol fun k hk=>(h.Ef k hk).1⟩
 ·rcases e with e|e;·exact e.1.elim (fun e=> .inl (.inl e)) .inr
  exact .inl (.inr e)
 rcases e with (e|e)|e;·exact .inl ⟨.inl e,hk⟩
 ·exact .inr e
 exact .inl ⟨.inr e,hk⟩
theorem Nn.inp {g c:Nat} (h:Nn n0 W w (.slice (some ⟨g,0,none⟩) L.length c) L) {i:Nat} {nd:Nd} (hi:L[i]? =some nd) {y:Int} (hy:i64 y):Nn n0 W (w.setCell ⟨g,i*3+1,none⟩ (.int .i64 y)) (.slice (some ⟨g,0,none⟩) L.length c) (L.set i ⟨nd.st,y,nd.kids⟩)/\Ext W W w (w.setCell ⟨g,i*3+1,none⟩ (.int .i64 y))/\Below n0 w (w.setCell ⟨g,i*3+1,none⟩ (.int .i64 y)):=by
 have hgo:=h.Ef g rfl;have hs:(w.setCell ⟨g,i*3+1,none⟩ (.int .i64 y)).heap.size=w.heap.size:=by simp [World.setCell]
 exact ⟨⟨h.ok.aaE hi hy,fun k hk=>by rw [hs];exact h.lt k hk,by rw [hs];exact h.old⟩,Ext.setCell _ (p:=⟨g,i*3+1,none⟩) hgo.2.2 _,(bP _ _).setCell (p:=⟨g,i*3+1,none⟩) hgo.1 _⟩
theorem Nn.kid {g c:Nat} (h:Nn n0 W w (.slice (some ⟨g,0,none⟩) L.length c) L) {i:Nat} {nd:Nd} (hi:L[i]? =some nd) {ak a':Option Addr} {ck c':Nat} {K:List Kd} (hc:w.cell? ⟨g,i*3+2,none⟩=some (.slice ak nd.kids.length ck)) (kJ:Ow n0 (fun k=>W k\/k<n0) w 228 (.slice ak nd.kids.length ck) nd.kids) (hO:Ow n0 (fun k=>(W k\/k<n0)\/k=w.heap.size) w' 228 (.slice a' K.length c') K) (hk:∀k,(Value.slice a' K.length c').ownBlock=some k->(Value.slice ak nd.kids.length ck).ownBlock=some k\/k=w.heap.size) (hgr:w.grownBy w' (Value.slice ak nd.kids.length ck).ownBlock):∃W1,Nn n0 W1 (w'.setCell ⟨g,i*3+2,none⟩ (.slice a' K.length c')) (.slice (some ⟨g,0,none⟩) L.length c) (L.set i ⟨nd.st,nd.inp,K⟩)/\Ext W W1 w (w'.setCell ⟨g,i*3+2,none⟩ (.slice a' K.length c'))/\Below n0 w (w'.setCell ⟨g,i*3+2,none⟩ (.slice a' K.length c')):=by
 have hgo:=h.Ef g rfl
 have hWk:∀k,(Value.slice ak nd.kids.length ck).ownBlock=some k->W k:=fun k hk=>by
  have h1:=(h.ok.aa4 hi hc k hk).1
  have:=(kJ.lt k hk).1
  exact h1.elim id fun e=>by omega
 have hs:(w'.setCell ⟨g,i*3+2,none⟩ (.slice a' K.length c')).heap.size=w'.heap.size:=by simp [World.setCell]
 have hx1:Ext W (fun k=>W k\/k=w.heap.size) w w':=⟨hgr.size,fun k hk hm=>hgr.block k hk (fun e=>hm (hWk k e.symm)),fun k hk hm=>hm.elim id (fun e=>by omega)⟩;have hes:=hgr.size;have hol:=h.old;have hb1:=(bP n0 w).grown hgr hol fun k hk=>(kJ.lt k hk).1;refine ⟨fun k=>(W k\/k=w.heap.size)/\k<(w'.setCell ⟨g,i*3+2,none⟩ (.slice a' K.length c')).heap.size,⟨(h.ok.Vv hi hc hO hk hgr h.ltV).re (fun k hk e=> ?_) (fun k hk e=> ?_),fun k hk=>hk.2,by rw [hs];omega⟩,(hx1.trans (Ext.setCell _ (p:=⟨g,i*3+2,none⟩) (.inl hgo.2.2) _)).trans (Ext.jA fun _ _ e=>e.1),hb1.setCell (p:=⟨g,i*3+2,none⟩) hgo.1 _⟩
 ·rcases e with e|e;·exact e.1.elim (fun e=> .inl (.inl e)) .inr
  exact .inl (.inr e)
 rcases e with (e|e)|e;·exact .inl ⟨.inl e,hk⟩
 ·exact .inr e
 exact .inl ⟨.inr e,hk⟩
end
section
variable {P:Program} {w:World} {o:Oper} {a:Act} {ops:Array Oper} {rest:List Oper} {Q:Exit->Act->World->Prop}
theorem sQ {n0:Nat} {W:Nat->Prop} {l:List Nd} {s x:Operand} {t:TypeId} {v:Value} {g c:Nat} {st:List Int} {y:Int} {ar:Option Addr} {cr:Nat} (hg:o.guard=none) (hop:o.op= .call {callee:= .builtin .append,args:= #[s,x],argTypes:= #[t,t]})
    (ht:P.underlying t=some (.slice 179)) (hi:(P.info? 179).map (fun i=>(i.zero,i.size,i.bytes))=some (some (.agg #[.slice none 0 0,.int .i64 0,.slice none 0 0]),3,56))
    (hs:a.eval s=v) (hx:a.eval x= .slice (some ⟨g,0,none⟩) 1 c) (jk:Nn n0 W w v l) (hn0:w.cell? ⟨g,0,none⟩=some (.slice ar st.length cr)) (hn1:w.cell? ⟨g,1,none⟩=some (.int .i64 y)) (hn2:w.cell? ⟨g,2,none⟩=some (.slice none 0 0)) (hy:Sl (fun k=>W k\/k<n0) w ar cr st) (hy2:i64 y)
    (iX:l.length<1000000000)
    (h:∀(a':Option Addr) (c':Nat) (l':List Nd) (w':World) (W1:Nat->Prop),Hid (l'=l++[⟨st,y,[]⟩])->Nn n0 W1 w' (.slice a' l'.length c') l'->Ext W W1 w w'->Below n0 w w'->wpList P ops Q rest (a.put o.dst (.slice a' l'.length c')) w'):wpList P ops Q (o::rest) a w:=
 aqi hg fun _ hK=>Gi hop ht hi hs hx jk.ok hn0 hn1 hn2 hy hy2 iX jk.old jk.ltV fun a' c' l' w' h1 h2 _ h4=>by
  obtain ⟨W1,h5,h6,h7⟩:=jk.node h2 h4
  exact hK _ _ (h a' c' l' w' W1 h1 h5 h6 h7)
end
def Js (R G:List Nd):Prop:=(R=G/\G.length<=4096)\/(4096<R.length/\4096<G.length)
def zq (L R:List Nd):Prop:=L.length<=R.length/\R.length<=4097/\∀i,i<L.length->R[i]? =L[i]?
theorem zq.trans {L R S:List Nd} (h:zq L R) (k:zq R S):zq L S:=⟨dH h.1 k.1,k.2.1,fun i hi=>(k.2.2 i (ig h.1)).trans (h.2.2 i hi)⟩
namespace g_
variable {m:g_}
theorem aed {l W:List Int} {y:Bool} (h:m.oZ l=(W,y)):y=decide (0<W.length):=by
 have h2:=abK (m:=m) (l:=l) Cr;unfold oZ at h;cases e:m.Af l Cr with
 |go L=>rw [e] at h;simp only [fRes,dX] at h;obtain ⟨rfl,rfl⟩:=h;rfl
 |word w=>
  rw [e] at h h2;simp only [fRes,dX] at h;obtain ⟨rfl,rfl⟩:=h;cases w with
  |nil=>exact h2.elim
  |cons a u=>simp
 |cut=>rw [e] at h;simp only [fRes,dX] at h;obtain ⟨rfl,rfl⟩:=h;rfl
theorem BD {f t t':Nat} {u:List Int} {q:Kd} (ih:∀L g w,t'<L.length->m.grow f (jB t' q L) g w=jB t' q (m.grow f L g w)):∀(ps:List (Int×Gp)) (L:List Nd),t'<L.length->t≠t'->t<L.length->m.jO f t u ps (jB t' q L)=jB t' q (m.jO f t u ps L)
 |[],L,_,_,_=>rfl
 |p::ps,L,ht',hne,ht=>by
  have hc:∀K:List Nd,t'<K.length->t<K.length->jB t ⟨p.1,L.length⟩ (jB t' q K)=jB t' q (jB t ⟨p.1,L.length⟩ K):=fun K h1 h2=>by
   have e1:K[t']? =some K[t']:=bN h1
   have e2:K[t]? =some K[t]:=bN h2
   have e3:(jB t' q K)[t]? =some K[t]:=by rw [wh hne];exact e2
   have e4:(jB t ⟨p.1,L.length⟩ K)[t']? =some K[t']:=by rw [wh (fun e=>hne e.symm)];exact e1
   rw [kD e3,kD e4,kD e1,kD e2]
   exact (List.set_comm _ _ hne).symm
  have hk:qb (fun K h=>m.grow f K h u) t (jB t' q L) p=jB t' q (qb (fun K h=>m.grow f K h u) t L p):=by
   unfold qb
   rw [qy]
   split
   ·rfl
   show jB t _ (m.grow f (jB t' q L) p.2 u)=jB t' q (jB t _ (m.grow f L p.2 u))
   rw [ih L p.2 u ht',hc _ (ig ((mR (m:=m) f L p.2 u).1)) (ig ((mR (m:=m) f L p.2 u).1))]
  have hl:L.length<=(qb (fun K h=>m.grow f K h u) t L p).length:=by
   unfold qb
   split
   ·exact bM _
   rw [qy];exact (mR (m:=m) f L p.2 u).1
  show m.jO f t u ps (qb (fun K h=>m.grow f K h u) t (jB t' q L) p)=jB t' q (m.jO f t u ps (qb (fun K h=>m.grow f K h u) t L p))
  rw [hk]
  exact BD ih ps _ ah hne ah
theorem zY {t:Nat} {q:Kd} {L X:List Nd} (h:t<L.length):jB t q L++X=jB t q (L++X):=by
 have e1:L[t]? =some L[t]:=bN h;have e2:(L++X)[t]? =some L[t]:=by rw [dz h];exact e1
 rw [kD e1,kD e2,List.set_append_left _ _ h]
theorem DJ {t:Nat} {q:Kd}:∀(f:Nat) (L:List Nd) (g:Gp) (w:List Int),t<L.length->m.grow f (jB t q L) g w=jB t q (m.grow f L g w)
 |0,L,g,w,_=>rfl
 |f+1,L,g,w,h=>by
  unfold grow
  rw [qy]
  split
  ·exact zY h
  split
  ·exact zY h
  rename_i a u _
  rw [zY h]
  exact BD (t:=L.length) (DJ f) _ _ aJ ah aH
theorem abN {f t:Nat} {u:List Int} {R G R2:List Nd} {p:Int×Gp} {y:Nd} (h:Js R G) (ht:t<R.length) (hy:R[t]? =some y) (h2:Js R2 (m.grow f (R.set t ⟨y.st,y.inp,y.kids++[⟨p.1,R.length⟩]⟩) p.2 u)) (hl:R.length<=R2.length):Js R2 (qb (fun K h=>m.grow f K h u) t G p):=by
 rw [<-kD (q:=⟨p.1,R.length⟩) hy,DJ f R p.2 u ht] at h2;rcases h with ⟨rfl,h1⟩|⟨h1,h3⟩;·unfold qb;rw [bO ah];exact h2
 unfold qb;rw [bQ h3];exact .inr ⟨ah,h3⟩
end g_
def Grown (n0:Nat) (W:Nat->Prop) (w:World) (L G:List Nd) (e:Ending) (w':World):Prop:=
 ∃(W':Nat->Prop) (a':Option Addr) (c':Nat) (R:List Nd),e= .returned (.slice a' R.length c')/\Nn n0 W' w' (.slice a' R.length c') R/\Hid (Js R G)/\Hid (zq L R)/\Ext W W' w w'/\Below n0 w w'
def aee (f:Nat):Prop:=∀{n0:Nat} {W:Nat->Prop} {w:World} {an ao ai ac au aL:Option Addr} {cn co ci cc cu cL:Nat} {m:g_} {L:List Nd} {g:Gp} {u:List Int},
    Nn n0 W w (.slice aL L.length cL) L->Ma W w an cn ao co m->Sl (fun k=>W k\/k<n0) w ai ci g.jC->Sl W w ac cc g.cur->Sl W w au cu u->Hid m.Ok->Hid (Ms m.h_.length g)->Hid (g.cur.length<1000)->Hid (m.nQ u)->Hid (L.length<=4097)->Hid (4097<=L.length+f)->
    Calls prog 153 #[kF m an cn ao co,.slice ai g.jC.length ci,.slice ac g.cur.length cc,.slice au u.length cu,.slice aL L.length cL] w (Grown n0 W w L (m.grow f L g u))
theorem Nn.alloc {n0:Nat} {W:Nat->Prop} {w:World} {v:Value} {L:List Nd} (h:Nn n0 W w v L) (o:Obj):Nn n0 W (w.alloc o) v L:=h.below ((bP _ _).alloc (bM _) _)
theorem Ic {L L3 G:List Nd} {g:Gp} (h:L3=L++[⟨g.jC, -1,[]⟩]) (hG:G=L++[⟨g.jC, -1,[]⟩]) (hl:L.length<=4096):Hid (Js L3 G)/\Hid (zq L L3):=by
 subst h hG;refine ⟨?_,aH,aJ,fun i hi=>dz hi⟩;by_cases e:L.length<4096;·exact .inl ⟨rfl,aJ⟩
 exact .inr ⟨aJ,aJ⟩
theorem DK {n0:Nat} {W:Nat->Prop} {w:World} {an ao ai ac au aL:Option Addr} {cn co ci cc cu cL:Nat} {m:g_} {L:List Nd} {g:Gp} {u:List Int} {f:Nat} (hN:Nn n0 W w (.slice aL L.length cL) L) (hL:Hid (L.length<=4097)) (mP:4096<L.length):Calls prog 153 #[kF m an cn ao co,.slice ai g.jC.length ci,.slice ac g.cur.length cc,.slice au u.length cu,.slice aL L.length cL] w (Grown n0 W w L (m.grow f L g u)):=by
 have hba:=iB w (iP m an cn ao co);have hN0:=hN.below hba;have hE0:=Ext.of_below (M:=W) hba;have hB0:=hba.mono hN.old;have hR:Hid (Js L (m.grow f L g u)):= .inr ⟨mP,ig ((g_.mR (m:=m) f L g u).1)⟩;have hP:Hid (zq L L):=⟨bM _,hL.out,fun _ _=>rfl⟩;have hgt:((L.length:Int)>4096):=ah;have apH:decide (4096<(L.length:Int))=true:=dw hgt;clear hN hba;go_enter func153,ntmps153;go_wp2;go_ret;exact ⟨W,aL,cL,L,rfl,hN0,hR,hP,hE0,hB0⟩
theorem Ue:∀(f:Nat),aee f:=by
 intro f;induction f with
 |zero=>intro n0 W w an ao ai ac au aL cn co ci cc cu cL m L g u hN hm hI hC hU ok hg hn hu hL hf;exact DK hN hL (ig hf.out)
 |succ f ih=>
  intro n0 W w an ao ai ac au aL cn co ci cc cu cL m L g u hN hm hI hC hU ok hg hn hu hL hf;by_cases mP:4096<L.length;·exact DK hN hL mP
  have n1:=ok.out.n1;have l1:=hm.h_.le;have l2:=hm.out.le;have l3:=hI.le;have l4:=hC.le;have l5:=hU.le;have hL4:=hL.out;have hba:=iB w (iP m an cn ao co);have hx0:=jE w m an cn ao co;have hwz:¬W w.heap.size:=fun h=>by have:=hN.lt _ h;omega
  have hN0:=hN.below hba;have hEw:=Ext.of_below (M:=W) hba;have hB0:=hba.mono hN.old;have HM:=bK (hm.below hba);have HI:=bK (hI.below hba);have HC:=bK (hC.below hba);have HU:=bK (hU.below hba);obtain ⟨G,hG⟩:∃G,Hid (G=m.grow (f+1) L g u):=⟨_,rfl⟩;obtain ⟨gw,hgw⟩:∃gw,Hid (gw=m.qc g u):=⟨_,rfl⟩;have Xv:Hid (gw=[]->G=L++[⟨g.jC, -1,[]⟩]):=fun e=>by rw [hG.out];exact g_.Cw (by rw [<-hgw.out];exact e)
  have hGf:Hid (L.length=4096->G=L++[⟨g.jC, -1,[]⟩]):=fun e=>by rw [hG.out];exact g_.Cv ah
  have hGo:Hid (∀a v,L.length<4096->gw=a::v->G=m.jO f L.length v (m.jS a.toNat g) (L++[⟨g.jC,a,[]⟩])):=fun a v h e=>by rw [hG.out];exact g_.Mt ah (by rw [<-hgw.out];exact e)
  have aa5:Hid (m.nQ gw):=by rw [hgw.out];exact g_.Bh hu.out
  have hng:¬((L.length:Int)>4096):=ah;have apI:decide (4096<(L.length:Int))=false:=cZ hng;have XC:Hid (∀e w',Grown n0 W w L G e w'->Grown n0 W w L (m.grow (f+1) L g u) e w'):=fun e w' h=>by rw [hG.out] at h;exact h
  refine Calls.mono ?_ XC.out;have nW:(0<u.length/\Hid (u=gw))\/(u.length=0/\1<g.jC.length/\Hid (gw=(m.oZ g.cur).1))\/(u.length=0/\¬1<g.jC.length/\Hid (u=gw)):=by
   by_cases h1:u.length=0
   ·by_cases h2:1<g.jC.length;·exact .inr (.inl ⟨h1,h2,bK (by rw [hgw.out];unfold g_.qc;rw [bQ ⟨h1,h2⟩])⟩)
    exact .inr (.inr ⟨h1,h2,bK (by rw [hgw.out];unfold g_.qc;rw [bO (fun h=>h2 h.2)])⟩)
   exact .inl ⟨ah,bK (by rw [hgw.out];unfold g_.qc;rw [bO (fun h=>h1 h.1)])⟩
  clear hN hm hI hC hU hba hG hgw XC;go_enter func153,ntmps153;go_upto_region 1 with (fail);generalize w.alloc (iP m an cn ao co)=w0 at*
  have hz0:=lt_of_cell hx0.1;have HS:Hid (∀{W':Nat->Prop} {w':World},Ext W W' w0 w'->C4 w' w.heap.size an cn ao co m):=fun e=>hx0.kept (e.block _ hz0 hwz);have hE0:Ext W W w0 w0:=Ext.refl _ _;rcases nW with ⟨hu0,hue⟩|⟨hu0,hi1,hue⟩|⟨hu0,hi1,hue⟩;rotate_left 2;·have hd1:¬((u.length:Int)>0):=ah;have hd2:decide (0<u.length)=false:=cZ ah;have hd3:¬((g.jC.length:Int)>1):=ah;have hd4:decide (1<g.jC.length)=false:=cZ hi1;have hgn:Hid (gw=[]):=bK (by rw [<-hue.out];exact fE hu0);go_wp2_with (at_builtin;refine sQ (st:=g.jC) (y:= -1) (ar:=ai) (cr:=ci) rfl rfl underlying117 yI rfl rfl (hN0.alloc _) bf bf bf (HI.out.alloc _) bg ah ?_);intro a3 c3 L3 w3 W3 hL3 Oj hE3 hB3;have hEf:=hEw.trans ((Ext.alloc W w0 (.cells #[.slice ai g.jC.length ci,.int .i64 (-1),.slice none 0 0] 179)).trans hE3);have jh:=hB0.trans (((bP n0 w0).alloc hN0.old (.cells #[.slice ai g.jC.length ci,.int .i64 (-1),.slice none 0 0] 179)).trans hB3);have hRl:=bK (Ic (G:=G) (g:=g) hL3.out (Xv.out hgn.out) ah);go_wp2;go_ret;exact ⟨W3,a3,c3,L3,rfl,Oj,hRl.out.1,hRl.out.2,hEf,jh⟩
  rotate_left 1
  focus
   have hd1:¬((u.length:Int)>0):=ah
   have hd2:decide (0<u.length)=false:=cZ ah
   have hd3:((g.jC.length:Int)>1):=ah
   have hd4:decide (1<g.jC.length)=true:=dw hi1
   obtain ⟨c0,c1,c2,c3⟩:=hx0
   have HFd:=bK (TN HM.out HC.out ok (bK hg.out.st) hn (bK hg.out.pos))
   go_wp2_with fail
   refine (HFd.out).mono ?_
   rintro e w2 ⟨aU,cU,U,y,rfl,hfw,hUs,hb2⟩
   have IG:=hN0.below hb2
   have hE2:=Ext.of_below (M:=W) hb2
   have hB2:=hB0.trans (hb2.mono hN0.old)
   have HI2:=bK (HI.out.below hb2)
   have hUe:Hid (U=gw):=bK (by rw [hue.out,hfw.out])
   have HU2:=bK (hUs.anti (M':=W) fun k _ hm=>hN0.lt k hm)
   have hye:=bK (g_.aed hfw.out)
   have anP:=hUs.le
   clear HFd hUs hb2 hfw c0 c1 c2 c3 hu0 hi1 hd1 hd2 hd3 hd4 hue HU HI hN0
   by_cases hU0:U.length=0
   ·obtain rfl:y=false:=by rw [hye.out];exact cZ ah
    have hgn:Hid (gw=[]):=bK (by rw [<-hUe.out];exact fE hU0)
    clear hU0
    go_wp2_with (at_builtin;refine sQ (st:=g.jC) (y:= -1) (ar:=ai) (cr:=ci) rfl rfl underlying117 yI rfl rfl (IG.alloc _) bf bf bf (HI2.out.alloc _) bg ah ?_)
    intro a3 c3 L3 w3 W3 hL3 Oj hE3 hB3
    have hEf:=hEw.trans (hE2.trans ((Ext.alloc W w2 (.cells #[.slice ai g.jC.length ci,.int .i64 (-1),.slice none 0 0] 179)).trans hE3))
    have jh:=hB2.trans (((bP n0 w2).alloc IG.old (.cells #[.slice ai g.jC.length ci,.int .i64 (-1),.slice none 0 0] 179)).trans hB3)
    have hRl:=bK (Ic (G:=G) (g:=g) hL3.out (Xv.out hgn.out) ah)
    go_wp2
    go_ret
    exact ⟨W3,a3,c3,L3,rfl,Oj,hRl.out.1,hRl.out.2,hEf,jh⟩
   obtain rfl:y=true:=by rw [hye.out];exact dw ah
   have hUl:0<U.length:=ah
   clear hU0 hye
  rotate_left 1
  focus
   have hd1:((u.length:Int)>0):=ah
   have hd2:decide (0<u.length)=true:=dw hu0
   clear hx0
   go_upto_region 6 with (fail)
   obtain ⟨U,rfl⟩:∃U:List Int,U=u:=⟨_,rfl⟩
   obtain ⟨aU,rfl⟩:∃aU:Option Addr,aU=au:=⟨_,rfl⟩
   obtain ⟨cU,rfl⟩:∃cU:Nat,cU=cu:=⟨_,rfl⟩
   have hUl:0<U.length:=hu0
   have IG:=hN0
   have hE2:=hE0
   have hB2:=hB0
   have HI2:=HI
   have HU2:=HU
   have hUe:Hid (U=gw):=hue
   have anP:=l5
   clear hd1 hd2 hu0 hN0 hB0 hE0 HI HU hue
   obtain ⟨w2,rfl⟩:∃w2:World,w2=w0:=⟨_,rfl⟩
  all_goals
   go_wp2_with (at_builtin;refine sQ (st:=g.jC) (y:= -1) (ar:=ai) (cr:=ci) rfl rfl underlying117 yI rfl rfl (IG.alloc _) bf bf bf (HI2.out.alloc _) bg ah ?_)
   intro a3 c3 L3 w3 W3 hL3 Oj aef akL
   have hEa:=Ext.alloc W w2 (.cells #[.slice ai g.jC.length ci,.int .i64 (-1),.slice none 0 0] 179)
   have hE3:=hE2.trans (hEa.trans aef)
   have hB3:=hB2.trans (((bP n0 w2).alloc IG.old (.cells #[.slice ai g.jC.length ci,.int .i64 (-1),.slice none 0 0] 179)).trans akL)
   have HU3:=bK (HU2.out.ext (hEa.trans aef))
   have HI3:=bK ((HI2.out.anti (M':=W) fun _ _ h=> .inl h).ext (hEa.trans aef))
   clear IG hE2 hB2 HU2 aef akL hEa HI2
   have aa6:Hid (m.nQ U):=by rw [hUe.out];exact aa5.out
   obtain ⟨u1,hu1⟩:∃u1,Hid (u1=U.drop 1):=⟨_,rfl⟩
   obtain ⟨bU,oU,x0,rfl,hxc,hx0,agO⟩:=HU3.out.iC (j:=0) hUl
   rw [aqr] at hxc
   have CY:=aa6.out x0 (bV hx0.out)
   obtain ⟨x,rfl⟩:=b_ CY.1
   have hxi:x<m.gZ.toNat:=ah
   have hUx:Hid (U=(x:Int)::u1):=by
    unfold Hid;rw [hu1.out]
    cases hq:U with
    |nil=>rw [hq] at hUl;simp at hUl
    |cons y ys=>have:=hx0.out;rw [hq] at this;simp at this;rw [this];rfl
   have aa7:Hid (m.nQ u1):=fun y hy=>aa6.out y (by rw [hUx.out];exact aqZ _ hy)
   have agP:Hid (U.length-1=u1.length):=bK (by rw [hUx.out];simp)
   have anQ:Hid (L3.length=L.length+1):=bK (by rw [hL3.out];simp)
   have wP:L.length<L3.length:=ig anQ.out
   obtain ⟨gN,rfl⟩:=Oj.ok.addr ah
   have hnd:Hid (L3[L.length]? =some ⟨g.jC, -1,[]⟩):=bK (by rw [hL3.out];simp)
   obtain ⟨akn,ckn, -,hi7,adV, -,hgN,agQ,ajM⟩:=Oj.ok.at hnd.out
   have Tx:=hxc
   go_upto_region 11 with (fail)
   obtain ⟨hN4,YO,hBs⟩:=Oj.inp hnd.out agO.out
   have hE4:=hE3.trans YO
   have hB4:=hB3.trans hBs
   have HU4:=bK (HU3.out.ext YO)
   have HI4:=bK (HI3.out.ext YO)
   clear Oj hE3 hB3 HU3 HI3 YO hBs hi7 adV hxc agQ ajM Tx CY wP
   generalize w3.setCell ⟨gN,L.length*3+1,none⟩ (.int .i64 (x:Int))=w4 at*
   have HUc:Hid (∀{W':Nat->Prop} {w':World},Ext W3 W' w4 w'->w'.cell? ⟨bU,oU,none⟩=some (.int .i64 (x:Int))):=fun e=>by
    obtain ⟨b',o',x',hb',hc',hx', -⟩:=(HU4.out.ext e).iC (j:=0) hUl
    obtain ⟨rfl,rfl⟩:bU=b'/\oU=o':=iq hb'
    rw [hx0.out] at hx'
    obtain rfl:(x:Int)=x':=iq hx'.out
    simpa using hc'
   refine iO (fun w'=>C4 w' w.heap.size an cn ao co m/\w'.cell? ⟨bU,oU,none⟩=some (.int .i64 (x:Int))) [0,1,2,3,4,6] aB ?_
   have hbd:=(bP w4.heap.size w4).drew
   have IE:=hN4.below hbd
   have aeg:=Ext.of_below (M:=W3) hbd
   have Nf:=hE4.trans aeg
   have jw:=hB4.trans (hbd.mono hN4.old)
   have hS5:=And.intro (HS.out Nf) (HUc.out aeg)
   clear hN4 hE4 hB4 hbd
   generalize w4.drew=w5 at*
   have HOu:=bK (t_ (HM.out.ext Nf) (HC.out.ext Nf) ok (bK hg.out.st) (bK (ig hn.out)) x hxi)
   refine iT [0,1,2,3,4] ?_
   refine iJ 5 fun K hK=> ?_
   go_simp
   refine (HOu.out).mono ?_
   rintro e w6 ⟨aX,cX,X,rfl,hX,yM,hb6⟩
   have Ol:=IE.below hb6
   have Jt:=aeg.trans (Ext.of_below (M:=W3) hb6)
   have Jo:=Nf.trans (Ext.of_below (M:=W3) hb6)
   have jo:=jw.trans (hb6.mono IE.old)
   have uK:=And.intro (HS.out Jo) (HUc.out Jt)
   refine hK _ _ (fun _=>uK) ?_
   have HX:=bK (yM.anti (M':=W3) fun k _ hm=>IE.lt k hm)
   clear hK K HOu IE Nf aeg jw hS5 hb6 yM
   refine iT [6] ?_
   refine iN aB ?_ _
   clear uK
   obtain ⟨L7,hL7⟩:∃L7:List Nd,Hid (L7=L++[(⟨g.jC,(x:Int),[]⟩:Nd)]):=⟨_,rfl⟩
   have abb:Hid (L3.set L.length ⟨g.jC,(x:Int),[]⟩=L7):=bK (by rw [hL7.out,hL3.out];simp)
   have adW:Hid (L3.length=L7.length):=by rw [<-abb.out];exact fB.symm
   replace Ol:Nn n0 W3 w6 (.slice (some ⟨gN,0,none⟩) L7.length c3) L7:=by rw [<-adW.out,<-abb.out];exact Ol
   obtain ⟨P,hP⟩:∃P,Hid (P=m.jS x g):=⟨_,rfl⟩
   have hPl:Hid (P.length=X.length):=bK (by rw [hP.out,g_.oJ,hX.out])
   have hXn:Hid (X.length<1000):=by
    unfold Hid;rw [hX.out];unfold g_.jG
    exact eO (uN _) (by rw [dJ];exact hn.out)
   have ajN:=HX.out.le
   have ane:=hXn.out
   have TA:Hid (L7.length=L.length+1):=bK (by rw [hL7.out];simp)
   have GZ:Hid (Js L7 (m.jO f L.length u1 (P.take 0) L7)):=by
    have:=TA.out
    by_cases e:L.length<4096
    ·exact .inl ⟨rfl,by show L7.length<=4096;omega⟩
    exact .inr ⟨ah,by show 4096<L7.length;omega⟩
   have hP0:Hid (zq L L7):=⟨ig TA.out,ig TA.out,fun i hi=>by rw [hL7.out];exact dz hi⟩
   have hl0:Hid (L.length<L7.length):=by have:=TA.out;unfold Hid;omega
   have hy0:Hid (∃y,L7[L.length]? =some y/\y.kids.length<=0):=⟨_,by rw [hL7.out];simp;rfl,aH⟩
   have hEl:Ext W3 W3 w6 w6:=Ext.refl _ _
   have hBl:Below n0 w6 w6:=bP _ _
   have HN6:=bK Ol
   clear Ol
   go_wp2_with fail
   go_loopw [4,14] (fun v i wr=>∃(k:Nat) (W':Nat->Prop) (av:Option Addr) (cv:Nat) (Kn:List Nd),k<=X.length/\i= .int .i64 k/\v= .slice av Kn.length cv/\Hid (Js Kn (m.jO f L.length u1 (P.take k) L7))/\Hid (zq L Kn)/\Hid (L.length<Kn.length)/\Hid (∃y,Kn[L.length]? =some y/\y.kids.length<=k)/\Nn n0 W' wr (.slice av Kn.length cv) Kn/\Ext W3 W' w6 wr/\Below n0 w6 wr) (fun _ i _=>X.length-(intOf i).toNat)
   case atStart=>exact ⟨0,W3,some ⟨gN,0,none⟩,c3,L7,ah,rfl,by rw [adW.out],GZ,hP0,hl0,hy0,HN6.out,hEl,hBl⟩
   case round=>
    clear GZ hP0 hl0 hy0 hEl hBl HN6
    obtain ⟨k,W7,a7,c7,Kn,hk,rfl,rfl,hKr,hKp,rW,hKy,Rv,hEl,hBl⟩:=hrel
    obtain ⟨wo,rfl⟩:=iA wr
    by_cases hlt:k<X.length
    ·have hE7:=Jo.trans hEl
     have jY:=jo.trans hBl
     obtain ⟨bX,oX,o0,rfl,hoc,VE,agU⟩:=(HX.out.ext hEl).iC hlt
     have BL:Hid (∀{W':Nat->Prop} {w':World},Ext W3 W' w6 w'->w'.cell? ⟨bX,oX+k,none⟩=some (.int .i64 o0)):=fun e=>by
      obtain ⟨b',o',x',hb',hc',hx', -⟩:=(HX.out.ext e).iC hlt
      obtain ⟨rfl,rfl⟩:bX=b'/\oX=o':=iq hb'
      rw [VE.out] at hx'
      obtain rfl:o0=x':=iq hx'.out
      exact hc'
     have VF:o0∈m.jG x g.cur:=by rw [<-hX.out];exact bV VE.out
     have hPk:Hid (P[k]? =some (o0,m.yH x g.jC g.cur o0)):=by
      unfold Hid;rw [hP.out]
      exact g_.o_ (by rw [<-hX.out];exact VE.out)
     have Qn:Hid (Ms m.h_.length (m.yH x g.jC g.cur o0)):=g_.Cx ok.out hxi hg.out VF
     have YG:Hid ((m.yH x g.jC g.cur o0).cur.length<1000):=eO g_.GQ hn.out
     clear VF hoc
     go_upto_region 15 with (fail)
     refine iO (fun w'=>(C4 w' w.heap.size an cn ao co m/\w'.cell? ⟨bU,oU,none⟩=some (.int .i64 (x:Int)))/\w'.cell? ⟨bX,oX+k,none⟩=some (.int .i64 o0)) [0,1,2,3,4,5,6,7,8,10] aB ?_
     have hbd:=(bP wo.heap.size wo).drew
     have hN8:=Rv.below hbd
     have Uf:=hEl.trans (Ext.of_below (M:=W7) hbd)
     have akM:=hBl.trans (hbd.mono Rv.old)
     have Jp:=And.intro (And.intro (HS.out (Jo.trans Uf)) (HUc.out (Jt.trans Uf))) (BL.out Uf)
     clear Rv hEl hBl hE7 jY hbd
     generalize wo.drew=w8 at*
     have HPa:=bK (GD (HM.out.ext (Jo.trans Uf)) (HC.out.ext (Jo.trans Uf)) ok (bK hg.out.st) (bK (ig hn.out)) x hxi o0)
     refine iT [0,1,2,3,4,5,6,7,8] ?_
     refine iJ 9 fun K hK=> ?_
     go_simp
     refine (HPa.out).mono ?_
     rintro e w9 ⟨aQ,cQ,Q,rfl,hQ,hQs,wO⟩
     have hN9:=hN8.below wO
     have Yg:=Uf.trans (Ext.of_below (M:=W7) wO)
     have XZ:=akM.trans (wO.mono hN8.old)
     have W_:=And.intro (And.intro (HS.out (Jo.trans Yg)) (HUc.out (Jt.trans Yg))) (BL.out Yg)
     refine hK _ _ (fun _=>W_) ?_
     have HQ:=bK (hQs.anti (M':=W7) fun k _ hm=>hN8.lt k hm)
     have hQl:=hQs.le
     have hQn:Hid (Q.length<1000000):=bK (by rw [hQ.out];have:=GA (p:=fun s=>decide (m.ot s.toNat x=o0)) (l:=g.cur) (k:=g.cur.length);have:=hn.out;omega)
     have hQi:Hid (∀i∈Q,0<=i/\i<(g.jC.length:Int)):=fun i hi=>by rw [hQ.out] at hi;have:=Bq hi;have:=hg.out.le;omega
     have hQc:Hid (∀i∈Q,0<=i/\i<(g.cur.length:Int)):=fun i hi=>by rw [hQ.out] at hi;exact Bq hi
     clear hK K HPa hN8 Uf akM Jp wO hQs
     refine iT [10] ?_
     refine iN aB ?_ _
     clear W_
     obtain ⟨y,hyK,hyk⟩:=hKy.out
     have hyK:=bK hyK
     have agX:Hid (y.kids.length<1000):=bK ah
     have hyk:=bK hyk
     have Tg:=rW.out
     obtain ⟨gM,rfl⟩:=hN9.ok.addr ah
     obtain ⟨akk,ckk,hk9, -,akN,akO,hgM,TD,anh⟩:=hN9.ok.at hyK.out
     have hWk:=bK (hN9.ok.aa4 hyK.out hk9)
     have hX9:=BL.out Yg
     have abf:Hid (i64 (Kn.length:Int)):=by unfold Hid i64;have:=hKp.out.2.1;omega
     go_upto_region 16 with (fail)
     refine iO (fun w'=>w'.cell? ⟨gM,L.length*3+2,none⟩=some (.slice akk y.kids.length ckk)/\w'.cell? ⟨bX,oX+k,none⟩=some (.int .i64 o0)) [0,1,2,3,4,5,6,7,8,9,10,11,12,13,16,17] aB ?_
     have hbd:=(bP w9.heap.size w9).drew
     have Qe:=hN9.below hbd
     have abO:=Yg.trans (Ext.of_below (M:=W7) hbd)
     have Br:=XZ.trans (hbd.mono hN9.old)
     have SK:=(hbd.cell (p:=⟨gM,L.length*3+2,none⟩) TD).trans hk9
     have aaL:=akO.below hbd
     have afc:w9.drew.frozen? ⟨gM,L.length*3+2,none⟩=false:=akN _
     have rQ:=And.intro SK (BL.out abO)
     have abh:gM<w9.drew.heap.size:=TD
     have akP:=bK (HQ.out.below hbd)
     clear hN9 Yg XZ hbd hk9 akO akN TD hX9 HQ
     generalize w9.drew=qo at*
     refine iT [0,1,2,3,4,5,6,7,8,9,10,11,12,13] ?_
     refine iJ 14 fun K hK=> ?_
     go_simp
     have hba:=iB qo (.cells #[.int .i64 o0,.int .i64 (Kn.length:Int)] 228)
     have ahI:=Qe.below hba
     have VN:=abO.trans (Ext.of_below (M:=W7) hba)
     have Bt:=Br.trans (hba.mono Qe.old)
     have Xu:=(hba.cell (p:=⟨gM,L.length*3+2,none⟩) abh).trans SK
     have Ti:=aaL.below hba
     have afd:=(iR (a:=⟨gM,L.length*3+2,none⟩) (hba.block _ abh)).trans afc
     have qZ:=And.intro Xu (BL.out VN)
     have akQ:=bK (akP.out.below hba)
     refine hK _ _ (fun _=>qZ) ?_
     clear hK K Qe abO Br SK aaL afc rQ hba akP
     refine iJ 15 fun K hK=> ?_
     refine Gj (B:=n0) (W:=fun k=>W7 k\/k<n0) (v:= .slice akk y.kids.length ckk) (l:=y.kids) (g:=qo.heap.size) (c:=1) (q:=⟨o0,(Kn.length:Int)⟩) rfl underlying177 PO rfl rfl rfl Ti (fun k hk=>(hWk.out k hk).1) bf bf ⟨agU.out,abf.out⟩ (ig agX.out) ahI.old ?_
     intro a12 c12 l12 Tt akR akS akT zn
     have akU:∀j,(Value.slice akk y.kids.length ckk).ownBlock=some j->W7 j:=fun j hj=>by
      have h1:=(hWk.out j hj).1
      have h2:=(Ti.lt j hj).1
      exact h1.elim id fun e=>by omega
     have ag1:gM<(qo.alloc (.cells #[.int .i64 o0,.int .i64 (Kn.length:Int)] 228)).heap.size:=aJ
     have hgg:=zn.block gM ag1 (fun e=>(hWk.out gM e.symm).2 rfl)
     have yS:=And.intro ((dD (a:=⟨gM,L.length*3+2,none⟩) hgg).trans qZ.1) (BL.out (VN.trans (Ext.grownBy zn akU)))
     have akV:=(iR (a:=⟨gM,L.length*3+2,none⟩) hgg).trans afd
     refine hK _ _ (fun _=>yS) ?_
     obtain ⟨W13,Jk,ahJ,zQ⟩:=ahI.kid hyK.out Xu Ti akS (fun k hk=>(akT.out k hk).1) zn
     have abP:=VN.trans ahJ
     have Bu:=Bt.trans zQ
     have abv:=bK (akQ.out.ext ahJ)
     clear hK K ahI VN Bt Xu Ti afd qZ akQ akS akT zn hgg ahJ zQ akU
     refine iT [16,17] ?_
     refine jW (i:=18) aB aB rfl rfl (fun K hK=> ?_)
     go_simp
     refine hK _ _ ?_
     clear hK K
     refine iN aB ?_ _
     clear yS akV
     generalize Tt.setCell ⟨gM,L.length*3+2,none⟩ (.slice a12 l12.length c12)=w13 at*
     obtain ⟨K3,hK3⟩:∃K3:List Nd,Hid (K3=Kn.set L.length ⟨y.st,y.inp,l12⟩):=⟨_,rfl⟩
     have lW:Hid (Kn.length=K3.length):=bK (by rw [hK3.out];exact fB.symm)
     replace Jk:Nn n0 W13 w13 (.slice (some ⟨gM,0,none⟩) K3.length c7) K3:=by rw [<-lW.out,hK3.out];exact Jk
     have anf:(1:Int)<=((U.length:Nat):Int):=ah
     obtain ⟨b2,hb2⟩:∃b2,b2=dA (some ⟨bU,oU,none⟩) cU 1:=⟨_,rfl⟩
     have hdb:(if cU=1 then some (⟨bU,oU,none⟩:Addr) else some ⟨bU,oU+1,none⟩)=b2:=by rw [hb2];simp [dA,Addr.add]
     have HUd:=bK ((HU4.out.ext (Jt.trans abP)).drop (i:=1) ah)
     rw [<-hb2,<-hu1.out] at HUd
     clear hb2
     go_upto_region 17 with (fail)
     refine iO (fun w'=>C4 w' w.heap.size an cn ao co m/\w'.cell? ⟨bU,oU,none⟩=some (.int .i64 (x:Int))) [0,1,2,4,5,6,8,9,10,12,13,14,16] aB ?_
     have hbd:=(bP w13.heap.size w13).drew
     have aeh:=Jk.below hbd
     have Ug:=Ext.of_below (M:=W13) hbd
     have QG:=abP.trans Ug
     have Bv:=Bu.trans (hbd.mono Jk.old)
     have TB:=And.intro (HS.out (Jo.trans QG)) (HUc.out (Jt.trans QG))
     have ahK:=bK (abv.out.below hbd)
     have HP1:=bK (vY (HI4.out.ext (Jt.trans QG)) ahK.out hQi hQn)
     clear Jk abP Bu hbd abv
     generalize w13.drew=w14 at*
     refine iT [0,1,2,4,5,6,8,9,10,12,13,14] ?_
     refine iJ 3 fun K hK=> ?_
     go_simp
     refine (HP1.out).mono ?_
     rintro e w15 ⟨aI,cI,I15,rfl,anR,afe,Ho⟩
     have ahL:=aeh.below Ho
     have TF:=Ext.of_below (M:=W13) Ho
     have abQ:=Ug.trans TF
     have QH:=QG.trans TF
     have Bw:=Bv.trans (Ho.mono aeh.old)
     have TG:=And.intro (HS.out (Jo.trans QH)) (HUc.out (Jt.trans QH))
     have akW:=bK (ahK.out.ext TF)
     have abx:=bK (aeh.fresh afe)
     have HP2:=bK (vY (HC.out.ext (Jo.trans QH)) akW.out hQc hQn)
     refine hK _ _ (fun _=>TG) ?_
     clear hK K HP1 aeh QG Bv TB TF Ug Ho ahK afe
     refine iJ 7 fun K hK=> ?_
     go_simp
     refine (HP2.out).mono ?_
     rintro e w16 ⟨aC,cC,C16,rfl,ahM,aff,Hq⟩
     have aei:=ahL.below Hq
     have XV:=Ext.of_below (M:=W13) Hq
     have abR:=abQ.trans XV
     have QI:=QH.trans XV
     have Hr:=Bw.trans (Hq.mono ahL.old)
     have AY:=And.intro (HS.out (Jo.trans QI)) (HUc.out (Jt.trans QI))
     have akX:=bK (abx.out.below Hq)
     have afg:Hid (∀s∈C16,0<=s/\s<m.h_.length):=fun s hs=>by
      rw [ahM.out] at hs
      obtain ⟨i,hi,rfl⟩:=aqJ.1 hs
      exact hg.out.st _ (Qy (hQc.out i hi))
     have HNx:=bK (zT (HM.out.ext (Jo.trans QI)) aff ok afg (bK (by rw [ahM.out,dJ];exact hQn.out)) x hxi)
     refine hK _ _ (fun _=>AY) ?_
     clear hK K HP2 ahL QH Bw TG XV abQ Hq akW abx aff
     refine iJ 11 fun K hK=> ?_
     go_simp
     refine (HNx.out).mono ?_
     rintro e w17 ⟨aD,cD,D17,rfl,anS,afh,abS⟩
     have akY:=aei.below abS
     have ahN:=Ext.of_below (M:=W13) abS
     have abT:=abR.trans ahN
     have QJ:=QI.trans ahN
     have afi:=Hr.trans (abS.mono aei.old)
     have abk:=And.intro (HS.out (Jo.trans QJ)) (HUc.out (Jt.trans QJ))
     have akZ:=bK (akX.out.below abS)
     have TP:Hid ((⟨I15,D17⟩:Gp)=m.yH x g.jC g.cur o0):=by
      unfold Hid g_.yH
      rw [anR.out,anS.out,ahM.out,hQ.out,g_.VA hg.out.le,g_.VB hg.out.le]
     have ahO:=ih (g:=⟨I15,D17⟩) akY (HM.out.ext (Jo.trans QJ)) akZ.out (afh.anti fun k _ hm=>aei.lt k hm) (HUd.out.ext abT) ok (by rw [TP.out];exact Qn) (by rw [TP.out];exact YG) aa7 (bK (by rw [<-lW.out];exact hKp.out.2.1)) (bK (by rw [<-lW.out];have:=rW.out;have:=hf.out;omega))
     rw [<-agP.out,<-lW.out] at ahO
     have HIh:=bK ahO
     refine hK _ _ (fun _=>abk) ?_
     clear hK K HNx aei QI Hr AY ahN abR abS akX afh afg ahO
     refine iJ 15 fun K hK=> ?_
     go_simp
     refine (HIh.out).mono ?_
     rintro e w18 ⟨W18,a18,c18,R18,rfl,anT,anU,Yh,abl,ag2⟩
     have abU:=QJ.trans abl
     have ak0:=afi.trans ag2
     have ak1:=And.intro (HS.out (Jo.trans abU)) (HUc.out (Jt.trans abU))
     refine hK _ _ (fun _=>ak1) ?_
     clear hK K HIh akY QJ afi abk abT akZ HUd
     refine iT [16] ?_
     refine iN aB ?_ _
     clear ak1
     have hRs:Hid (Js R18 (m.jO f L.length u1 (P.take (k+1)) L7)):=by
      have h2:=anU.out
      rw [hK3.out,akR.out,TP.out] at h2
      unfold Hid
      rw [g_.GN L7 hPk.out]
      exact g_.abN (p:=(o0,m.yH x g.jC g.cur o0)) hKr.out Tg hyK.out h2 (by have:=Yh.out.1;have:=lW.out;omega)
     have hPs:Hid (zq L R18):=⟨by have:=Yh.out.1;have:=lW.out;omega,Yh.out.2.1,fun i hi=>by
      rw [Yh.out.2.2 i (ig lW.out),hK3.out,dY ah]
      exact hKp.out.2.2 i hi⟩
     have hls:Hid (L.length<R18.length):=by have:=Yh.out.1;have:=lW.out;unfold Hid;omega
     have hys:Hid (∃z,R18[L.length]? =some z/\z.kids.length<=k+1):=by
      refine ⟨⟨y.st,y.inp,l12⟩,?_,?_⟩
      ·rw [Yh.out.2.2 _ (ig lW.out),hK3.out,fI Tg]
      show l12.length<=k+1
      rw [akR.out,dB];simp;exact hyk.out
     go_wp2
     go_roundw
     case rel=>exact ⟨k+1,W18,a18,c18,R18,ah,by go_num,rfl,hRs,hPs,hls,hys,anT,abU,ak0⟩
     case measure=>exact bF
    have hR:Hid (Js Kn G):=by
     have h1:=hKr.out
     rw [bY (ig hPl.out)] at h1
     by_cases e:L.length<4096
     ·rw [hGo.out _ _ e (by rw [<-hUe.out];exact hUx.out),<-hL7.out,show ((x:Int)).toNat=x from rfl,<-hP.out];exact h1
     exact .inr ⟨ig rW.out,by rw [hGf.out ah];simp;omega⟩
    have hEf:=hEw.trans (Jo.trans hEl)
    have jh:=jo.trans hBl
    go_wp2
    go_ret
    exact ⟨W7,a7,c7,Kn,rfl,Rv,hR,hKp,hEf,jh⟩
def g_.DL (m:g_) (T:List Nd):List (List (List Int))×Int:=if m.jm T≠0 then ([],m.jm T) else (m.ids T,0)
theorem Yi {α:Type} {l:List α} {d x:α} {k n:Nat} (hl:l.length=n) (hk:l[k]? =some x):(l.take k++List.replicate (n-k) d).set k x=l.take (k+1)++List.replicate (n-(k+1)) d:=by
 have hkn:k<n:=by rw [<-hl];exact iW hk
 have hlk:(l.take k).length=k:=by rw [dx];omega
 rw [aro _ _ ah,hlk,aq9,dh,hk];obtain ⟨j,hj⟩:∃j,n-k=j+1:=⟨n-k-1,ah⟩;rw [hj,aqK,show n-(k+1)=j by omega];simp
theorem VO {m:g_} (h:m.err=0) {s x:Int} (h1:0<=s/\s<m.h_.length) (h2:0<=x/\x<m.h_.length):jq m s x=0:=by
 rcases xM h s x with ⟨e,_⟩|⟨_,e,_⟩|⟨_,_,e,_⟩|⟨_,_,_,e,_⟩|⟨_,_,_,_,e⟩;·omega
 ·omega
 ·omega
 ·omega
 exact e
theorem g_.Uh {m:g_} {T:List Nd} {s:Int} {W:List Int} {l:Nat} {x:Nd} (h:m.uS T s=(W,l)) (hx:T[l]? =some x):m.Rx T s=(if 0<W.length\/x.st.length=1 then [W] else [])++m.uT s x.st:=by
 unfold Rx idA TQ;rw [h];simp only [];rw [hx]
def IU (l:List (List Int)):Prop:=l.length<10000/\∀r∈l,r.length<=1000000
theorem BF {m:g_} {p:Prop} [Decidable p] {W o:List Int} {s:Int} (h1:W.length<=4096) (h2:o.length<1000) (h3:m.h_.length<1000):IU ((if p then [W] else [])++m.uT s o):=by
 constructor
 ·rw [dB];have:=g_.EC (m:=m) (s:=s) (o:=o);have:(if p then [W] else ([]:List (List Int))).length<=1:=by split<;>simp
  omega
 intro r hr;rcases eG.1 hr with e|e
 ·split at e;·rw [dZ.1 e];omega
  simp at e
 obtain ⟨x, -,rfl⟩:=aqJ.1 e;have:=g_.uU h3 s x;omega
theorem Ie:(prog.info? 22).map (fun i=>(i.zero,i.size,i.bytes))=some (some (.slice none 0 0),1,24):=aB
section
variable {M MT:Nat->Prop} {w:World} {an ao aT:Option Addr} {cn co cT:Nat} {m:g_} {T:List Nd}
theorem MO (hm:Ma M w an cn ao co m) (hT:Sl MT w aT cT T) (hn:Hid (m.h_.length<1000)) (TH:Hid (T.length<1000000000)):Calls prog 83 #[kF m an cn ao co,.agg #[.slice aT T.length cT]] w fun e w'=>∃(a:Option Addr) (c:Nat) (L:List (List (List Int))) (e1:Int),e= .returned (.tuple #[.slice a L.length c,.int .i64 e1])/\Hid (m.DL T=(L,e1))/\Hid (∀r∈L,IU r)/\Sl (fun k=>k<w.heap.size) w' a c L/\Below w.heap.size w w':=by
 have hB0:=iB w (iP m an cn ao co);have hx0:=jE w m an cn ao co;have hB1:=hB0.alloc aH (.cells #[.slice aT T.length cT] 119);have hx1:=hx0.below ((bP (w.heap.size+1) (w.alloc (iP m an cn ao co))).alloc aH (.cells #[.slice aT T.length cT] 119)) ah;have ht1:((w.alloc (iP m an cn ao co)).alloc (.cells #[.slice aT T.length cT] 119)).cell? ⟨w.heap.size+1,0,none⟩=some (.slice aT T.length cT):=aH;have hz1:((w.alloc (iP m an cn ao co)).alloc (.cells #[.slice aT T.length cT] 119)).heap.size=w.heap.size+2:=aH;have l1:=hm.h_.le;have l2:=hm.out.le;have l5:=hT.le;have HM:=bK hm;have HT:=bK hT;have Ht:=bK (Hw (hm.below hB1) (hT.below hB1) hn TH);clear hm hT hB0 hx0;have hmm:= @asv prog;go_enter func83,ntmps83;go_upto_region 1 with (fail);generalize (w.alloc (iP m an cn ao co)).alloc (.cells #[.slice aT T.length cT] 119)=w1 at*
 go_wp2_with fail;refine (Ht.out).mono ?_;rintro e w2 ⟨rfl,hb2⟩;have hx2:=hx1.below hb2 ah;have hB2:=hB1.trans (hb2.mono ah);have ht2:=(hb2.cell (p:=⟨w.heap.size+1,0,none⟩) (by show w.heap.size+1<_;omega)).trans ht1;have hz2:w.heap.size+2<=w2.heap.size:=ig hb2.size;clear hx1 hB1 hb2 hz1 Ht ht1;by_cases he:m.jm T=0
 ·have he':(m.jm T !=0)=false:=by simp [he]
  have HE:=bK he;have ok:Hid m.Ok:=g_.iG m (g_.jv (g_.lg HE.out).1).1;have n1:=ok.out.n1;clear he
  have HS:Hid (∀w',Below w2.heap.size w2 w'->(C4 w' w.heap.size an cn ao co m/\w'.cell? ⟨w.heap.size+1,0,none⟩=some (.slice aT T.length cT))/\Below w.heap.size w w'):=fun w' h=>
   ⟨⟨hx2.below h ah,(h.cell (p:=⟨w.heap.size+1,0,none⟩) (by show w.heap.size+1<_;omega)).trans ht2⟩,hB2.trans (h.mono ah)⟩
  have hI0:Ig (fun k=>k=w2.heap.size) w2 (w2.heap.size+1) (w2.alloc (.map #[] 0)) 0 (fun _=> .slice none 0 0) 0 (fun j=>m.Rx T (j:Int)) []:=Ig.made w2;have hba:=iB w2 (.map #[] 0);have hx3:=hx2.below hba ah;have anV:=hx3.2.2.1;clear hba hx3 ht2 hx2 hB2;have HI0:=bK hI0;clear hI0;go_upto_region 5 with (fail);go_wp2_with fail;go_loopw [27] (fun i wr=>∃(s n Bs:Nat) (F:Nat->Value),s<=m.h_.length/\i= .int .i64 s/\Hid (n<=s*2000)/\Hid (∀j:Nat,j<s->IU (m.Rx T (j:Int)))/\Ig (fun k=>k=w2.heap.size) w2 Bs wr n F s (fun j=>m.Rx T (j:Int)) []) (fun i _=>m.h_.length-(intOf i).toNat);case atStart=>exact ⟨0,0,_,_,ah,rfl,by simp [Hid],fun j hj=>by omega,HI0.out⟩
  case round=>
   clear HI0 anV;obtain ⟨s,n,Bs,F,hsn,rfl,hnn,hsm,Ui⟩:=hrel;obtain ⟨wo,rfl⟩:=iA wr;have hSo:=HS.out _ Ui.bel;have hto:=hSo.1.2;have hm0:=hSo.1.1;by_cases hlt:s<m.h_.length
   ·have zZ:s<1000:=by have:=hn.out;omega
    have HWd:=bK (Yd (HM.out.below hSo.2) (HT.out.below hSo.2) hn HE s hlt);clear hSo;go_wp2_with fail;refine (HWd.out).mono ?_;rintro e w3 ⟨aW,cW,W,l,rfl,hW,Bf,hWs,hb3⟩;have Ih:=Ui.below hb3;have abV:=bK (hWs.anti (M':=fun k=>k=w2.heap.size) (fun k _ e=>by have:=Ui.lt k e;omega));have kC:=HS.out _ Ih.bel;have ht3:=kC.1.2;have hm3:=kC.1.1;have hll:=Bf.out.2.1;have anW:=Bf.out.1;have hT4:=(g_.lg HE.out).2.1;obtain ⟨bT,oT,a1,c1,a2,c2,x,rfl,hq0, -, -,hxe,hxs, -, -⟩:=HT.out.Dx hll;have hq3:=(kC.2.cell (p:=⟨bT,oT+l*3,none⟩) (lt_of_cell hq0)).trans hq0;have HX:=bK hxs;have aaO:=hxs.le;have QK:=bK (g_.MF Bf.out.2.2.choose_spec hxe.out);have hxn:=QK.out.2;have HIw:=bK (g_.Uh hW.out hxe.out);clear HWd hWs hb3 Ui hxs hq0 hto hm0 kC;have nW:0<W.length\/(¬0<W.length/\x.st.length=1)\/(¬0<W.length/\¬x.st.length=1):=by
     by_cases h1:0<W.length;·exact .inl h1
     by_cases h2:x.st.length=1;·exact .inr (.inl ⟨h1,h2⟩)
     exact .inr (.inr ⟨h1,h2⟩)
    rcases nW with hA|⟨hA,hC⟩|⟨hA,hC⟩;rotate_left 2
    focus
     have hAb:decide (0<W.length)=false:=cZ hA
     have hCb:((x.st.length:Int)==1)=false:=aJ
     have HIc:=bK Ih
     have xU:Hid (([]:List (List Int))=if 0<W.length\/x.st.length=1 then [W] else []):=bK (by rw [bO ah])
     have hnb:Hid (n<=s*2000+1):=bK (ig hnn.out)
     have hi0:Hid (([]:List (List Int))=(if 0<W.length\/x.st.length=1 then [W] else [])++m.uT s (x.st.take 0)):=bK (by rw [<-xU.out];simp [g_.uT])
     clear Ih
     go_wp2_with fail
    rotate_left 1
    focus
     have hAb:decide (0<W.length)=true:=dw hA
     have hlk:=Ih.kg.look zZ
     go_wp2_with (at_builtin;refine jl (B:=Bs) (M:=fun k=>k=w2.heap.size) (v:=F s) (rows:=[]) (r:=W) rfl rfl underlying22 iI rfl rfl (Ih.ow.alloc _) Ih.own bf (abV.out.alloc _) aH (by have:=Ih.bs;simp;omega) ?_)
     intro a6 c6 l6 w6 JI lu P_ XF
     have hba:=iB w3 (.cells #[.slice aW W.length cW] 49)
     obtain ⟨w7,M7,F7,ak2,hI7⟩:=(Ih.below hba).app zZ (ig hnn.out) aH XF lu P_.out
     have HIc:=bK hI7
     have xU:Hid (l6=if 0<W.length\/x.st.length=1 then [W] else []):=bK (by rw [JI.out,bQ (by first|exact .inl hA|exact .inr HC1.out)])
     have hnb:Hid (n+1<=s*2000+1):=bK (ig hnn.out)
     clear Ih hlk hba XF lu P_ hI7 JI hq3
     have hi0:Hid (l6=(if 0<W.length\/x.st.length=1 then [W] else [])++m.uT s (x.st.take 0)):=bK (by rw [<-xU.out];simp [g_.uT])
     go_wp2_with fail
    rotate_left 1
    focus
     have hAb:decide (0<W.length)=false:=cZ hA
     have hCb:((x.st.length:Int)==1)=true:=by simp [hC]
     have hlk:=Ih.kg.look zZ
     have HC1:=bK hC
     clear hC
     go_wp2_with (at_builtin;refine jl (B:=Bs) (M:=fun k=>k=w2.heap.size) (v:=F s) (rows:=[]) (r:=W) rfl rfl underlying22 iI rfl rfl (Ih.ow.alloc _) Ih.own bf (abV.out.alloc _) aH (by have:=Ih.bs;simp;omega) ?_)
     intro a6 c6 l6 w6 JI lu P_ XF
     have hba:=iB w3 (.cells #[.slice aW W.length cW] 49)
     obtain ⟨w7,M7,F7,ak2,hI7⟩:=(Ih.below hba).app zZ (ig hnn.out) aH XF lu P_.out
     have HIc:=bK hI7
     have xU:Hid (l6=if 0<W.length\/x.st.length=1 then [W] else []):=bK (by rw [JI.out,bQ (by first|exact .inl hA|exact .inr HC1.out)])
     have hnb:Hid (n+1<=s*2000+1):=bK (ig hnn.out)
     clear Ih hlk hba XF lu P_ hI7 JI hq3
     have hi0:Hid (l6=(if 0<W.length\/x.st.length=1 then [W] else [])++m.uT s (x.st.take 0)):=bK (by rw [<-xU.out];simp [g_.uT])
     go_wp2_with fail
    all_goals
     go_loopw [65] (fun i wr=>∃(k n':Nat) (M':Nat->Prop) (F':Nat->Value) (rows:List (List Int)),k<=x.st.length/\i= .int .i64 k/\Hid (n'<=s*2000+1+k)/\Hid (rows=(if 0<W.length\/x.st.length=1 then [W] else [])++m.uT s (x.st.take k))/\Ig M' w2 Bs wr n' F' s (fun j=>m.Rx T (j:Int)) rows) (fun i _=>x.st.length-(intOf i).toNat)
     case atStart=>first|exact ⟨0,n+1,M7,F7,l6,ah,rfl,hnb,hi0,HIc.out⟩|exact ⟨0,n,_,F,[],ah,rfl,hnb,hi0,HIc.out⟩
     case round=>
      clear hi0 HIc hnb xU
      obtain ⟨k,n',M',F',rows,hk,rfl,hnb,xU,Ui⟩:=hrel
      obtain ⟨wi,rfl⟩:=iA wr
      have hSi:=HS.out _ Ui.bel
      have hmi:=hSi.1.1
      by_cases hkl:k<x.st.length
      ·obtain ⟨b1,o1,y,rfl,Ca,hye, -⟩:=(HX.out.below hSi.2).iC hkl
       have hyr:=QK.out.1 y (bV hye.out)
       obtain ⟨yn,rfl⟩:=b_ hyr.1
       have hyl:yn<m.h_.length:=ah
       by_cases hys:yn=s
       ·have anX:((yn:Int)==(s:Int))=true:=by simp [hys]
        have FU:Hid (rows=(if 0<W.length\/x.st.length=1 then [W] else [])++m.uT s (x.st.take (k+1))):=by
         have h9:=g_.xS (m:=m) (s:=(s:Int)) hye.out
         rw [bQ (by rw [hys]),gD] at h9
         unfold Hid;rw [xU.out,h9]
        have ahP:Hid (n'<=s*2000+1+(k+1)):=bK (ig hnb.out)
        clear hys
        go_wp2
        go_roundw
        case rel=>exact ⟨k+1,n',M',F',rows,ah,by go_num,ahP,FU,Ui⟩
        case measure=>exact bF
       have anX:((yn:Int)==(s:Int))=false:=aJ
       have hne:Hid (((yn:Nat):Int)≠(s:Int)):=bK ah
       have WH:=zS (HM.out.below hSi.2) (s:Int) (yn:Int) bg bg
       rw [VO (g_.jv (g_.lg HE.out).1).1 (s:=(s:Int)) (x:=(yn:Int)) ah ah] at WH
       have Ii:=bK WH
       clear WH hys hSi
       go_wp2_with fail
       refine (Ii.out).mono ?_
       rintro e wj ⟨ad,cd,v,fl,rfl,XD,hvs,hbj⟩
       have hIj:=Ui.below hbj
       have anY:=bK (hvs.anti (M':=M') (fun k _ e=>Ui.lt k e))
       have hve:Hid (v=m.mq s yn):=XD.out.1
       have hlk:=hIj.kg.look zZ
       have hrl:Hid (rows.length<1000000):=by
        unfold Hid;rw [xU.out,dB]
        have h1:=g_.EC (m:=m) (s:=(s:Int)) (o:=x.st.take k)
        rw [dx] at h1
        have h2:(if 0<W.length\/x.st.length=1 then [W] else ([]:List (List Int))).length<=1:=by split<;>simp
        have:=hn.out
        omega
       clear Ii hvs hbj Ui XD
       go_wp2_with (at_builtin;refine jl (B:=Bs) (M:=M') (v:=F' s) (rows:=rows) (r:=v) rfl rfl underlying22 iI rfl rfl (hIj.ow.alloc _) hIj.own bf (anY.out.alloc _) (ig hrl.out) (by have:=hIj.bs;simp;omega) ?_)
       intro ak ck lk wk ak3 hOk hkk YI
       have hba:=(bP wj.heap.size wj).alloc (bM _) (.cells #[.slice ad v.length cd] 49)
       obtain ⟨wl,Ml,Fl,aoC,YP⟩:=(hIj.below hba).app zZ (ig hnb.out) aH YI hOk hkk.out
       have HIl:=bK YP
       have FU:Hid (lk=(if 0<W.length\/x.st.length=1 then [W] else [])++m.uT s (x.st.take (k+1))):=by
        have h9:=g_.xS (m:=m) (s:=(s:Int)) hye.out
        rw [bO hne.out] at h9
        unfold Hid;rw [ak3.out,xU.out,h9,eH,hve.out]
       have ahP:Hid (n'+1<=s*2000+1+(k+1)):=bK (ig hnb.out)
       clear hIj hlk hba YI hOk hkk YP ak3
       go_wp2
       go_roundw
       case rel=>exact ⟨k+1,n'+1,Ml,Fl,lk,ah,by go_num,ahP,FU,HIl.out⟩
       case measure=>exact bF
      have Lu:Hid (m.Rx T ((s:Nat):Int)=rows):=by
       unfold Hid;rw [HIw.out,xU.out,bY ah]
      have HIn:=bK (Ui.h_ (R:=fun j=>m.Rx T (j:Int)) Lu.out)
      have anZ:Hid (n'<=(s+1)*2000):=bK (by have:=hnb.out;have:=hn.out;omega)
      have an1:Hid (∀j:Nat,j<s+1->IU (m.Rx T (j:Int))):=fun j hj=>by
       by_cases e:j=s
       ·rw [e,HIw.out];exact BF ah (ig hn.out) hn.out
       exact hsm.out j ah
      clear Ui
      go_wp2
      go_roundw
      case rel=>exact ⟨s+1,n',wi.heap.size,F',ah,by go_num,anZ,an1,HIn.out⟩
      case measure=>exact bF
   obtain ⟨N,hN⟩:∃N,Hid (N=m.h_.length):=⟨_,rfl⟩;have hsN:s=m.h_.length:=ah
   have HOL:Hid (∀w',Below wo.heap.size wo w'->KG w' w2.heap.size n F/\∀j,j<m.h_.length->∃a c,F j= .slice a (m.Rx T (j:Int)).length c/\Sl (fun k=>k=w2.heap.size\/Bs<=k) w' a c (m.Rx T (j:Int))):=fun w' h=>
    ⟨(Ui.below h).kg,fun j hj=>(Ui.below h).old j ah⟩
   have hB3:=bK hSo.2;have an2:=hm0.2.2.1;have hwz:=hSo.2.size;have ak4:Hid (∀j:Nat,j<m.h_.length->IU (m.Rx T (j:Int))):=fun j hj=>hsm.out j ah;have ahQ:Hid ((m.ids T).length=m.h_.length):=by unfold Hid g_.ids;simp
   clear Ui hSo hsN hto hsm hnn;go_wp2_with (at_make;refine BX (B:=wo.heap.size) (M:=fun _=>True) rfl _ _ 110 rfl 22 (.slice none 0 0) 24 underlying110 Ie rfl (d:=([]:List (List Int))) rfl (fun w=>nD (l:=([]:List (List Int))) (Sl.nil _ w none (c:=0) aS)) m.h_.length rfl rfl (ig hn.out) (by unfold maxLen;have:=hn.out;omega) (bM _) ?_);intro g c l w4 hl hO hgz apJ hb4;have hln:l.length=m.h_.length:=by rw [hl.out];simp
   have hO2:=hO.oF (M':=fun k=>k<=g) (fun _ _ _=>trivial);rw [hln] at hO2 ⊢;have hl0:Hid (l=(m.ids T).take 0++List.replicate (m.h_.length-0) []):=bK (by rw [hl.out];simp);have Vk:=bK hO2;have hgw:=(hO.lt g rfl).2;clear hln hl hO hO2;go_wp2_with fail;go_loopw [99] (fun i wr=>∃(k:Nat) (L:List (List (List Int))),k<=m.h_.length/\i= .int .i64 k/\Hid (L=(m.ids T).take k++List.replicate (m.h_.length-k) [])/\Ow wo.heap.size (fun k=>k<=g) wr 22 (.slice (some ⟨g,0,none⟩) m.h_.length c) L/\Below wo.heap.size wo wr/\g<wr.heap.size) (fun i _=>m.h_.length-(intOf i).toNat);case atStart=>exact ⟨0,l,ah,rfl,hl0,Vk.out,hb4,hgw⟩
   case round=>
    clear hl0 Vk hb4 hgw an2;obtain ⟨k,L,hk,rfl,hL,hO,hB,hgw⟩:=hrel;obtain ⟨wi,rfl⟩:=iA wr;have qM:Hid (L.length=m.h_.length):=bK (by rw [hL.out,dB,dx,fC,ahQ.out];omega);by_cases hkl:k<m.h_.length
    ·have ahR:k<1000:=by have:=hn.out;omega
     obtain ⟨hKG,ak5⟩:=HOL.out _ hB;obtain ⟨aF,cF,hFk,hFs⟩:=ak5 k hkl;have hlk:=hKG.look ahR;rw [hFk] at hlk;have ak6:=ak4.out k hkl;have HSo:=bK (sK hFs (ig ak6.1) (bK (fun r hr=>by have:=ak6.2 r hr;omega)));clear hKG ak5 hFk hFs;go_wp2_with fail;refine (HSo.out).mono ?_;rintro e wk ⟨aL,cL,Lk,rfl,hLk,ahS,hbk⟩;have hOk:=hO.below hbk;have YI:g<wk.heap.size:=ig hbk.size;have hBk:=hB.trans (hbk.mono hB.size);have an3:Hid ((m.ids T)[k]? =some Lk):=by unfold Hid g_.ids;rw [dP,fO hkl,hLk.out];rfl
     have an4:=bK (ahS.anti (M':=fun k=>k<=g) (fun k _ e=>by omega));have ak7:=hOk;rw [<-qM.out] at ak7;obtain ⟨xs,hx1,hx2⟩:=ak7;have hkL:k<L.length:=ig qM.out;have hcg:=hx1.cellAt k (by simp [GR.sz];omega);have hfg:=hx1.frozenAt k;obtain ⟨u0,hu0⟩:∃u0,xs[k]? =some u0:=⟨_,bN (by have:=hx1.1;simp [GR.sz] at this;omega)⟩;rw [hu0] at hcg;have apK:=ahS.le;clear hx1 hx2 ahS hbk hB hO HSo;go_wp2
     have hOn:Ow wo.heap.size (fun k=>k<=g) (wk.setCell ⟨g,k,none⟩ (.slice aL Lk.length cL)) 22 (.slice (some ⟨g,0,none⟩) L.length c) (L.set k Lk):=
      Ow.set (M:=fun k=>k<=g) (x:=Lk) rfl (by rw [qM.out];exact hOk) (bM g) (nD (an4.out.ext (Ext.setCell (M:=fun k=>k<=g) wk (p:=⟨g,k,none⟩) (bM g) _)))
     rw [qM.out] at hOn;have hLn:Hid (L.set k Lk=(m.ids T).take (k+1)++List.replicate (m.h_.length-(k+1)) []):=by unfold Hid;rw [hL.out];exact Yi ahQ.out an3.out
     have hBn:=hBk.setCell (p:=⟨g,k,none⟩) hgz (.slice aL Lk.length cL);have hgn:g<(wk.setCell ⟨g,k,none⟩ (.slice aL Lk.length cL)).heap.size:=by simpa [World.setCell] using YI
     clear hOk hBk hcg hfg YI;generalize wk.setCell ⟨g,k,none⟩ (.slice aL Lk.length cL)=wn at*
     go_roundw;case rel=>exact ⟨k+1,L.set k Lk,ah,by go_num,hLn,hOn,hBn,hgn⟩
     case measure=>exact bF
    have YM:Hid (L=m.ids T):=bK (by rw [hL.out,bY (ig ahQ.out),show m.h_.length-k=0 by omega];simp);have hR:Hid (m.DL T=(L,0)):=by unfold Hid g_.DL;rw [bO (by simp [HE.out]),YM.out]
    have hSm:Hid (∀r∈L,IU r):=fun r hr=>by
     rw [YM.out] at hr
     unfold g_.ids at hr
     obtain ⟨j,hj,rfl⟩:=aqJ.1 hr
     have h1:=ak4.out j (aqE.1 hj)
     exact ⟨eO (vM _) h1.1,fun y hy=>h1.2 y ((j_ jF).1 hy)⟩
    have hO3:Ow wo.heap.size (fun k=>k<=g) wi 22 (.slice (some ⟨g,0,none⟩) L.length c) L:=by rw [qM.out];exact hO
    have Ag:=bK ((hO3.oF (M':=fun k=>k<w.heap.size) (fun k _ e=>by omega)).jD (fun k hk e=>by have:=(hO3.lt k hk).1;omega));have jh:=hB3.out.trans (hB.mono hwz);have an5:=qM.out;clear hO hO3;go_wp2;exact dG (v:= .tuple #[.slice (some ⟨g,0,none⟩) m.h_.length c,.int .i64 0]) (by simp [results,results83,go_sem]) rfl ⟨some ⟨g,0,none⟩,c,L,0,by rw [an5],hR,hSm,Ag.out,jh⟩
 have he':(m.jm T !=0)=true:=by simp [he]
 have hR:Hid (m.DL T=([],m.jm T)):=by unfold Hid g_.DL;rw [bQ he]
 clear he;go_wp2;exact dG (v:= .tuple #[.slice none 0 0,.int .i64 (m.jm T)]) (by simp [results,results83,go_sem]) rfl ⟨none,0,[],m.jm T,rfl,hR,fun r hr=>by simp at hr,Sl.nil _ _ _ aS,hB2⟩
end
end
section
open Tryz
def InW (n:Int) (N:Nat) (w:List Int):Prop:=(∀a∈w,0<=a/\a<n)/\w.length<=N
theorem abW {n:Int}:∀{w ys:List Int},(∀a∈w,0<=a/\a<n)->xw n w=some ys->(∀a∈ys,0<=a/\a<n)/\ys.length=w.length
 |[],ys,h,e=>by simp [xw] at e
 |x::xs,ys,h,e=>by
  have hx:=h x (.head _)
  unfold xw at e
  split at e
  ·rename_i zs hz
   obtain ⟨h1,h2⟩:=abW (fun a ha=>h a (.tail _ ha)) hz
   simp at e;subst e
   refine ⟨fun a ha=> ?_,by simp [h2]⟩
   rcases gH.1 ha with rfl|ha
   ·exact hx
   exact h1 a ha
  split at e
  ·rename_i hlt
   simp at e;subst e
   refine ⟨fun a ha=> ?_,aH⟩
   rcases gH.1 ha with rfl|ha
   ·omega
   rw [arY ha];omega
  simp at e
theorem abX {n:Int} (hn:1<=n) {w:List Int} (h:∀a∈w,0<=a/\a<n):∀a∈nT w n,0<=a/\a<n:=by
 unfold nT;split;·intro a ha;simp at ha
 split;·rename_i y hy;exact (abW h hy).1
 split;·intro a ha;simp at ha
 intro a ha;rw [arY ha];omega
theorem abY {n N:Int} (hn:1<=n):∀(f:Nat) (out:List (List Int)) (w:List Int) (ok:Bool),(∀x∈out,InW n N.toNat x)->(∀a∈w,0<=a/\a<n)->(∀x∈(II n N f out w ok).1,InW n N.toNat x)/\(II n N f out w ok).1.length<=out.length+f
 |0,out,w,ok,ho,hw=>⟨ho,bM _⟩
 |f+1,out,w,ok,ho,hw=>by
  unfold II
  split
  ·rename_i h1
   split
   ·exact ⟨fun x hx=>by simp at hx,aH⟩
   have h2:=abY (N:=N) hn f (out++[w]) (nT w n) (nU w n) (fun x hx=>by
    rcases eG.1 hx with e|e
    ·exact ho x e
    rw [dZ.1 e];exact ⟨hw,ig h1.2⟩) (abX hn hw)
   refine ⟨h2.1,?_⟩
   have:=h2.2
   simp at this
   omega
  exact ⟨ho,by show out.length<=_;omega⟩
theorem yN (n N:Int):(∀x∈(jM n N).1,InW n N.toNat x)/\(jM n N).1.length<=10001:=by
 unfold jM;split;·exact ⟨fun x hx=>by simp at hx,aH⟩
 rename_i h;have:=abY (n:=n) (N:=N) ah 10001 [] [] true (fun x hx=>by simp at hx) (fun a ha=>by simp at ha);simpa using this
theorem aej {l:List (List (List Int))} {r:List (List Int)} (h:r∈l):r.length<=tJ l:=by
 obtain ⟨k,hk⟩:=arn.1 h;have h1:∀j,k+1<=j->r.length<=tJ (l.take j):=by
  intro j hj;induction j with
  |zero=>omega
  |succ j ih=>
   by_cases e:k+1=j+1;·obtain rfl:k=j:=ah;rw [sM hk];exact Nat.le_max_right _ _
   have h2:=ih ah;by_cases hj2:j<l.length;·rw [sM (bN hj2)];exact dH h2 (Nat.le_max_left _ _)
   have e1:l.take (j+1)=l.take j:=by rw [bY ah,bY ah]
   rw [e1];exact h2
 have h2:=h1 l.length (iW hk);rwa [dV] at h2
theorem aek (l:List (List (List Int))):1<=tJ l:=by
 have:∀j,1<=tJ (l.take j):=by
  intro j;induction j with
  |zero=>simp [tJ]
  |succ j ih=>
   by_cases hj:j<l.length;·rw [sM (bN hj)];exact dH ih (Nat.le_max_left _ _)
   have e1:l.take (j+1)=l.take j:=by rw [bY ah,bY ah]
   rw [e1];exact ih
 have h:=this l.length;rwa [dV] at h
def sg (n:g_) (ids:List (List (List Int))) (p x:List Int):List (List Int):=(tailW n ids (p++x)).map fun t=>(p++x)++t
def sf (n:g_) (ids:List (List (List Int))) (X:List (List Int)) (p:List Int):List (List Int):=X.flatMap fun x=>sg n ids p x
def sS (n:g_) (ids:List (List (List Int))) (A X:List (List Int)):List (List Int):=A.flatMap fun p=>sf n ids X p
theorem qB {α β:Type} {l:List α} {f:α->List β} {k:Nat} {x:α} (h:l[k]? =some x):(l.take (k+1)).flatMap f=(l.take k).flatMap f++f x:=by
 rw [dh,h,arE];simp
theorem xV {n:g_} {ids:List (List (List Int))} {w:List Int} (hs:∀r∈ids,IU r):(tailW n ids w).length<=tJ ids/\IU (tailW n ids w):=by
 unfold tailW;split;·exact ⟨by simp;exact aek ids,by constructor<;>simp⟩
 rename_i h;cases e:ids[(n.lD n.start w).toNat]? with
 |none=>exact absurd (by rw [bS,e];rfl) h
 |some r=>rw [bS,e];exact ⟨aej (bV e),hs r (bV e)⟩
namespace g_
def BM (m:g_) (iy:Int):List (List Int)×Int:=
 if m.err≠0 then ([],m.err) else
 if iy<0\/3<iy then ([],2) else
 if (jM m.gZ (iy+1)).2≠0 then ([],(jM m.gZ (iy+1)).2) else
 if m.minOf.mV.2.2≠0 then ([],m.minOf.mV.2.2) else
 if (m.minOf.DL m.minOf.mV.1).2≠0 then ([],(m.minOf.DL m.minOf.mV.1).2) else
 if 10000<(m.minOf.qm.map Pc.word).length*(jM m.gZ (iy+1)).1.length*tJ (m.minOf.DL m.minOf.mV.1).1 then ([],11) else
 (pO (sS m.minOf (m.minOf.DL m.minOf.mV.1).1 (m.minOf.qm.map Pc.word) (jM m.gZ (iy+1)).1),0)
end g_
end
section
open Tryz
open Go.RowKit
theorem Uj {l:List (List (List Int))} {N:Nat} (hN:1<=N) (h:∀r∈l,r.length<=N):tJ l<=N:=by
 have:∀j,tJ (l.take j)<=N:=by
  intro j;induction j with
  |zero=>simpa [tJ] using hN
  |succ j ih=>
   by_cases hj:j<l.length;·rw [sM (bN hj)];exact Nat.max_le.2 ⟨ih,h _ (dQ hj)⟩
   have e1:l.take (j+1)=l.take j:=by rw [bY ah,bY ah]
   rw [e1];exact ih
 have h:=this l.length;rwa [dV] at h
theorem g_.QL (n:g_):n.mV.1.length<=4097:=by
 unfold mV;split;·simp
 split;·simp
 show n.Bz.length<=4097;omega
theorem g_.ahT {n:g_} (h:n.mV.2.2=0):n.iU=0:=by
 unfold mV at h;split at h;·rename_i h1;exact absurd h h1
 rename_i h1;exact fG h1
theorem g_.afj {n:g_} {T:List Nd} (h:(n.DL T).2=0):(n.DL T).1.length=n.h_.length:=by
 unfold DL at h ⊢;split;·rename_i h1;rw [bQ h1] at h;exact absurd h h1
 simp [ids]
theorem MP {t:g_} (rz:t.Ok) {p x:List Int} (hp:t.nQ p) (hpl:p.length<=1000) {N:Nat} (hN:N<=4) (hx:InW t.gZ N x):jI (p++x) t.gZ=0:=by
 have h0:=rz.i0;have h1:=rz.i1;unfold jI;rw [bO ah,bO (by rw [dB];have:=hx.2;omega),bO];rintro ⟨a,ha,hb⟩;rcases eG.1 ha with e|e;·have:=hp a e;omega
 have:=hx.1 a e;omega
theorem Uk {α β:Type} {f:α->List β} {N:Nat}:∀(l:List α),(∀x∈l,(f x).length<=N)->(l.flatMap f).length<=l.length*N
 |[],_=>by simp
 |x::l,h=>by
  rw [List.flatMap_cons,dB,fD,aq4,ari]
  have:=Uk l (fun y hy=>h y (.tail _ hy))
  have:=h x (.head _)
  omega
theorem CG {t:g_} {I:List (List (List Int))} {A X:List (List Int)} (hs:∀r∈I,IU r):(sS t I A X).length<=A.length*X.length*tJ I:=by
 unfold sS
 have h:=Uk (f:=sf t I X) (N:=X.length*tJ I) A (fun p _=>by
  unfold sf
  exact Uk X (fun x _=>by unfold sg;rw [dJ];exact (xV hs).1))
 rwa [<-arj] at h
theorem CJ {t:g_} {I:List (List (List Int))} {A X:List (List Int)} (hs:∀r∈I,IU r) {r:List Int} (hr:r∈sS t I A X) {N1 N2:Nat} (h1:∀p∈A,p.length<=N1) (h2:∀x∈X,x.length<=N2):r.length<=N1+N2+1000000:=by
 unfold sS at hr;obtain ⟨p,hp,hr⟩:=List.mem_flatMap.1 hr;unfold sf at hr;obtain ⟨x,hx,hr⟩:=List.mem_flatMap.1 hr;unfold sg at hr;obtain ⟨v,hv,rfl⟩:=aqJ.1 hr;have:=(xV (w:=p++x) (n:=t) hs).2.2 v hv;have:=h1 p hp;have:=h2 x hx;simp only [dB];omega
section
variable {M:Nat->Prop} {w:World} {an ao:Option Addr} {cn co:Nat} {m:g_}
theorem Yj (hm:Ma M w an cn ao co m) (iy:Int):Calls prog 36 #[kF m an cn ao co,.int .i64 iy] w fun e w'=>∃(a:Option Addr) (c:Nat) (L:List (List Int)) (e1:Int),e= .returned (.tuple #[.slice a L.length c,.int .i64 e1])/\Hid (m.BM iy=(L,e1))/\Sl (fun k=>k<w.heap.size) w' a c L/\Below w.heap.size w w':=by
 have hB0:=iB w (iP m an cn ao co);have hx0:=jE w m an cn ao co;have hz0:w.heap.size<(w.alloc (iP m an cn ao co)).heap.size:=aH;have HM:=bK hm;have HV:=bK (jR (hm.below hB0));have l1:=hm.h_.le;have l2:=hm.out.le;clear hm;go_enter func36,ntmps36;go_wp2_with fail;generalize w.alloc (iP m an cn ao co)=w0 at*
 refine (HV.out).mono ?_;rintro e w1 ⟨rfl,hb1⟩;have hx1:=hx0.below hb1 hz0;have hB1:=hB0.trans (hb1.mono ah);have hz1:w.heap.size<w1.heap.size:=ig hb1.size;clear hx0 hB0 hz0 hb1 HV;by_cases he:m.err=0
 ·have he':(m.err !=0)=false:=by simp [he]
  have HE:=bK he;have ok:Hid m.Ok:=g_.iG m HE.out;clear he;by_cases hex:iy<0\/3<iy
  ·have hR:Hid (m.BM iy=([],2)):=by unfold Hid g_.BM;rw [bO (by simp [HE.out]),bQ hex]
   by_cases h1:iy<0;·clear hex;go_wp2;exact dG (v:= .tuple #[.slice none 0 0,.int .i64 2]) (by simp [results,results36,go_sem]) rfl ⟨none,0,[],2,rfl,hR,Sl.nil _ _ _ aS,hB1⟩
   have h2:3<iy:=hex.elim (fun e=>absurd e h1) id;clear hex;go_wp2;exact dG (v:= .tuple #[.slice none 0 0,.int .i64 2]) (by simp [results,results36,go_sem]) rfl ⟨none,0,[],2,rfl,hR,Sl.nil _ _ _ aS,hB1⟩
  have h1:decide (iy<0)=false:=cZ (fun e=>hex (.inl e));have h2:decide (3<iy)=false:=cZ (fun e=>hex (.inr e));have HX:=bK hex;have hwr:IntKind.i64.wrap (iy+1)=iy+1:=eP _ ah;have HUp:=bK (FM (w:=w1) m.gZ (iy+1));have ahU:=hx1.1;clear hex;go_wp2_with fail;refine (HUp.out).mono ?_;rintro e w2 ⟨aX,cX,X,e2,rfl,hX,yM,hb2⟩;have hx2:=hx1.below hb2 hz1;have hB2:=hB1.trans (hb2.mono ah);have hz2:w.heap.size<w2.heap.size:=ig hb2.size;have HXs:=bK (yM.anti (M':=fun k=>k<w.heap.size) (fun k _ e=>by omega));clear hx1 hB1 hz1 hb2 HUp yM ahU;by_cases he2:e2=0
  ·have abZ:(e2 !=0)=false:=by simp [he2]
   have HE2:=bK he2;clear he2;have ht0:=Ew (HM.out.below hB2);rw [HE.out] at ht0;have VP:=bK ht0;clear ht0;go_wp2_with fail;refine (VP.out).mono ?_;rintro e w3 ⟨mW,mZ,mY,m_,t,rfl,ht,DN,hb3⟩;have WZ:Hid (t=m.lF):=bK (by rw [ht.out,g_.jU HE.out]);have rz:Hid t.Ok:=by rw [WZ.out];exact g_.pQ ok.out
   have htn:Hid (t.h_.length<1000):=by have:=rz.out.n1;unfold Hid;omega
   have HTm:=bK (DN.ext (M':=fun k=>k<w.heap.size) (Ext.jA (fun k _ e=>by omega)));have hB3:=hB2.trans (hb3.mono ah);have hz3:w.heap.size<w3.heap.size:=ig hb3.size;have ak8:=bK (HXs.out.below hb3);have lt1:=DN.h_.le;have lt2:=DN.out.le;clear hx2 hB2 hz2 VP DN hb3 HXs;go_upto_region 12 with (fail);have hba:=iB w3 (iP t mW mZ mY m_);have hc4:C4 (w3.alloc (iP t mW mZ mY m_)) w3.heap.size mW mZ mY m_ t:=kI w3;have hB4:=hB3.trans (hba.mono ah);have JZ:=bK (HTm.out.below hba);have ak9:=bK (ak8.out.below hba);have nN:w3.heap.size<(w3.alloc (iP t mW mZ mY m_)).heap.size:=aH;clear hba hB3 HTm ak8;generalize w3.alloc (iP t mW mZ mY m_)=w4 at*
   have HBu:=bK (TT JZ.out htn);go_wp2_with fail;refine (HBu.out).mono ?_;rintro e w5 ⟨aL,cL,L,y3,e3,rfl,hL,Ag,hb5⟩;have DF:=hc4.below hb5 nN;have jw:=hB4.trans (hb5.mono ah);have J_:=bK (JZ.out.below hb5);have ael:=bK (ak9.out.below hb5);have ala:=bK (Ag.anti (M':=fun k=>k<w.heap.size) (fun k _ e=>by omega));have yJ:w3.heap.size<w5.heap.size:=ig hb5.size;have qM:Hid (L.length<=4097):=by have h:=t.QL;rw [hL.out] at h;exact h
   clear hc4 hB4 JZ ak9 nN hb5 HBu Ag;by_cases Oo:e3=0
   ·have ahV:(e3 !=0)=false:=by simp [Oo]
    have HE3:=bK Oo;have hme:=bK (g_.ahT (n:=t) (by rw [hL.out];exact Oo));clear Oo;go_upto_region 15 with (fail);have hba:=iB w5 (.cells #[.slice aL L.length cL] 119);have ha6:(w5.alloc (.cells #[.slice aL L.length cL] 119)).cell? ⟨w5.heap.size,0,none⟩=some (.slice aL L.length cL):=aH;have hc6:=DF.below hba yJ;have jo:=jw.trans (hba.mono ah);have Gf:=bK (J_.out.below hba);have ab0:=bK (ael.out.below hba);have alb:=bK (ala.out.below hba);have qR:w5.heap.size<(w5.alloc (.cells #[.slice aL L.length cL] 119)).heap.size:=aH;clear hba DF jw J_ ael ala;generalize w5.alloc (.cells #[.slice aL L.length cL] 119)=w6 at*
    have HId:=bK (MO Gf.out alb.out htn (bK (ig qM.out)));go_wp2_with fail;refine (HId.out).mono ?_;rintro e w7 ⟨aI,cI,I,e4,rfl,hI,wS,hIs,kG⟩;have JY:=hc6.below kG ah;have jY:=jo.trans (kG.mono ah);have Ka:=bK (Gf.out.below kG);have alc:=bK (ab0.out.below kG);have ald:=bK (hIs.anti (M':=fun k=>k<w.heap.size) (fun k _ e=>by omega));have xK:w5.heap.size<w7.heap.size:=ig kG.size;clear hc6 jo Gf ab0 kG HId hIs alb ha6 qR;by_cases he4:e4=0
    ·have an6:(e4 !=0)=false:=by simp [he4]
     have HE4:=bK he4;have YP:Hid (I.length=t.h_.length):=by have h:=g_.afj (n:=t) (T:=L) (by rw [hI.out];exact he4);rw [hI.out] at h;exact h
     have hte:=bK (g_.jv hme.out).1;clear he4;have HCv:=bK (Cq Ka.out hte);go_wp2_with fail;refine (HCv.out).mono ?_;rintro e w8 ⟨aA,cA,A,rfl,hA,hAs,rP⟩;have hc8:=JY.below rP ah;have mg:=jY.trans (rP.mono ah);have PE:=bK (Ka.out.below rP);have ab1:=bK (alc.out.below rP);have Ul:=bK (ald.out.below rP);have ab2:=bK (hAs.anti (M':=fun k=>k<w.heap.size) (fun k _ e=>by omega));have IQ:w5.heap.size<w8.heap.size:=ig rP.size;have CK:Hid (A.length<=1000/\∀p∈A,t.nQ p/\p.length<=1000):=by
      have hn1:=rz.out.n1;unfold Hid;rw [hA.out];refine ⟨?_,fun p hp=> ?_⟩;·rw [dJ];have h1:=t.rE t.h_.length;have h2:=g_.og rz.out t.h_.length;unfold g_.qm;omega
      obtain ⟨q,hq,rfl⟩:=aqJ.1 hp;have h1:=g_.rF rz.out t.h_.length q hq;exact ⟨h1.2.2.1,ig h1.2.2.2.1⟩
     have Du:Hid (X.length<=10001/\∀x∈X,InW m.gZ (iy+1).toNat x):=by have h:=yN m.gZ (iy+1);rw [hX.out] at h;exact ⟨h.2,h.1⟩
     have Xv:Hid (tJ I<=10000):=Uj ah (fun r hr=>by have:=(wS.out r hr).1;omega);clear JY jY Ka alc ald rP HCv hAs;have HGr:=bK (Bb Ul.out);obtain ⟨G,hG⟩:∃G,Hid (G=tJ I):=⟨_,rfl⟩;rw [<-hG.out] at Xv;have hG0:Hid ((tJ I:Int)=(G:Int)):=bK (by rw [hG.out]);have hA1:=CK.out.1;have hX1:=Du.out.1;have hG1:=Xv.out;have Um:A.length*X.length<=1000*10001:=eX hA1 hX1;have Ij:A.length*X.length*G<=1000*10001*10000:=eX Um hG1;obtain ⟨P1,hP1⟩:∃P1,P1=A.length*X.length:=⟨_,rfl⟩;obtain ⟨P2,hP2⟩:∃P2,P2=P1*G:=⟨_,rfl⟩;have hw1:IntKind.i64.wrap ((A.length:Int)*(X.length:Int))=(P1:Int):=by rw [show ((A.length:Int)*(X.length:Int))=((P1:Nat):Int) by rw [hP1];simp];exact eP _ ah
     have hw2:IntKind.i64.wrap ((P1:Int)*(G:Int))=(P2:Int):=by rw [show ((P1:Int)*(G:Int))=((P2:Nat):Int) by rw [hP2];simp];rw [<-hP1] at Ij;rw [<-hP2] at Ij;exact eP _ ah
     have Ik:=Bb Ul.out;rw [hG0.out] at Ik;have Un:=bK Ik;have hP3:Hid (P2=A.length*X.length*tJ I):=bK (by rw [hP2,hP1,hG.out]);have hR0:Hid (m.BM iy=if 10000<P2 then ([],11) else (pO (sS t I A X),0)):=by unfold Hid g_.BM;rw [bO (by simp [HE.out]),bO HX.out,hX.out,bO (by simp [HE2.out]),<-ht.out,hL.out,bO (by simp [HE3.out]),hI.out,bO (by simp [HE4.out]),<-hA.out,hP3.out]
     clear Ik HGr hP1 hP2 Um Ij;by_cases mP:10000<P2
     ·have hR:Hid (m.BM iy=([],11)):=by unfold Hid;rw [hR0.out,bQ mP]
      go_wp2_with fail;refine (Un.out).mono ?_;rintro e w9 ⟨rfl,rfl⟩;go_wp2;exact dG (v:= .tuple #[.slice none 0 0,.int .i64 11]) (by simp [results,results36,go_sem]) rfl ⟨none,0,[],11,rfl,hR,Sl.nil _ _ _ aS,mg⟩
     have hGb:Hid (0<A.length->0<X.length->G<=10000):=fun _ _=>hG1;have Nh:Hid (m.BM iy=(pO (sS t I A X),0)):=bK (by rw [hR0.out,bO mP]);go_wp2_with fail;refine (Un.out).mono ?_;rintro e w9 ⟨rfl,rfl⟩;clear Un hR0
     have HS:Hid (∀w',Below w9.heap.size w9 w'->C4 w' w3.heap.size mW mZ mY m_ t/\Ma (fun k=>k<w.heap.size) w' mW mZ mY m_ t/\Sl (fun k=>k<w.heap.size) w' aI cI I/\Sl (fun k=>k<w.heap.size) w' aA cA A/\Sl (fun k=>k<w.heap.size) w' aX cX X/\Below w.heap.size w w'):=fun w' h=>
      ⟨hc8.below h ah,PE.out.below h,Ul.out.below h,ab2.out.below h,ab1.out.below h,mg.trans (h.mono ah)⟩
     have kJ:Ox (α:=List Int) w9.heap.size w9.heap.size w9 49 (.slice none 0 0) []:=Ox.nil;have sO:=bP w9.heap.size w9;have hwz:w.heap.size<=w9.heap.size:=ah;have hIm:Hid (∀r∈I,mK r):=fun r hr=>⟨ig ((wS.out r hr).1),fun y hy=>by have:=(wS.out r hr).2 y hy;omega⟩;have hti:Hid (t.gZ=m.gZ):=bK (by rw [WZ.out];rfl);clear hc8 mg;go_wp2_with fail
     go_loopw [91,14] (fun i v wr=>∃(k1:Nat) (a':Option Addr) (c':Nat) (K:List (List Int)),k1<=A.length/\i= .int .i64 k1/\v= .slice a' K.length c'/\Hid (K=(A.take k1).flatMap (sf t I X))/\Hid (K.length<=k1*200000000)/\
      Ox w9.heap.size w9.heap.size wr 49 (.slice a' K.length c') K/\Below w9.heap.size w9 wr) (fun i _ _=>A.length-(intOf i).toNat)
     case atStart=>exact ⟨0,none,0,[],ah,rfl,rfl,by simp [Hid],by simp [Hid],kJ,sO⟩
     case round=>
      clear kJ sO;obtain ⟨k1,a1,c1,K1,hk1,rfl,rfl,hK1,Ju,hO,hB⟩:=hrel;obtain ⟨wo,rfl⟩:=iA wr;by_cases hlt:k1<A.length
      ·obtain ⟨bA,oA,ap,p,cp,rfl,hpc,hp,hps⟩:=ab2.out.iD hlt;have ahW:=(hB.cell (p:=⟨bA,oA+k1,none⟩) (lt_of_cell hpc)).trans hpc;have HP:=bK hps;have hpA:=CK.out.2 p (bV hp.out);have hpl:=hpA.2;have hpo:=bK hpA.1;have hK2:Hid (K1=(A.take k1).flatMap (sf t I X)++(X.take 0).flatMap (sg t I p)):=bK (by rw [hK1.out];simp);have nY:Hid (K1.length<=k1*200000000+0*10000):=dH Ju.out (ap0 _ _);have HO:=bK hO;have Qs:=bK hB;clear hps hpA hO hB hpc;go_wp2_with fail
       go_loopw [97,14] (fun i v wr=>∃(k2:Nat) (a':Option Addr) (c':Nat) (K:List (List Int)),k2<=X.length/\i= .int .i64 k2/\v= .slice a' K.length c'/\Hid (K=(A.take k1).flatMap (sf t I X)++(X.take k2).flatMap (sg t I p))/\Hid (K.length<=k1*200000000+k2*10000)/\
        Ox w9.heap.size w9.heap.size wr 49 (.slice a' K.length c') K/\Below w9.heap.size w9 wr) (fun i _ _=>X.length-(intOf i).toNat)
       case atStart=>exact ⟨0,a1,c1,K1,ah,rfl,rfl,hK2,nY,HO.out,Qs.out⟩
       case round=>
        clear hK2 nY HO Qs ahW;obtain ⟨k2,a2,c2,K2,hk2,rfl,rfl,hK2,nY,hO,hB⟩:=hrel;obtain ⟨wi,rfl⟩:=iA wr;by_cases ni:k2<X.length
        ·obtain ⟨bX,oX,ax,x,cx,rfl,hxc,hx,hxs⟩:=ab1.out.iD ni;have Tx:=(hB.cell (p:=⟨bX,oX+k2,none⟩) (lt_of_cell hxc)).trans hxc;have hxX:=Du.out.2 x (bV hx.out);have hxl:=hxX.2;have Dl:Hid (jI (p++x) t.gZ=0):=MP rz.out hpo.out hpl (N:=(iy+1).toNat) (ig HX.out) (by rw [hti.out];exact hxX);have ale:x.length<=4:=ig HX.out;have hr:=UQ (T:=49) (HP.out.below hB) (hxs.below hB) (n:=p.length) rfl (m:=x.length) rfl;have HJ:=bK (uM hr (by rw [Dh];simp;omega));have hba:=iB wi (.cells #[.slice ap p.length cp,.slice ax x.length cx] 49);have hO3:=Ox.later hO hba;have hB3:=hB.trans (hba.mono hB.size);have hz3:=hB3.size;clear hr hxs hO hB hba hxc hxX;go_wp2_with fail;generalize hgg:wi.alloc (.cells #[.slice ap p.length cp,.slice ax x.length cx] 49)=wa at*
         clear hgg;refine (HJ.out).mono ?_;rintro e wb ⟨aw,cw,W,rfl,hW,hWs,hbb⟩;have hO4:=Ox.later hO3 hbb;have hB4:=hB3.trans (hbb.mono hz3);have nN:=hB4.size;have hWe:Hid (W=p++x):=bK (by rw [hW.out,Dh]);have Jv:=bK (hWs.anti (M':=fun k=>(Value.slice a2 K2.length c2).ownBlock=some k) (fun k _ hm=>(hO3.lt k hm).2));have hSb:=HS.out _ hB4;have hcb:=hSb.1;have ab3:Hid (jI W t.gZ=0):=by rw [hWe.out];exact Dl
         have HTl:=bK (Ki hSb.2.1 hSb.2.2.1 Jv.out rz ab3 YP hIm);clear HJ hbb hWs hO3 hB3 hW Tx hSb Dl ab3;go_wp2_with fail;refine (HTl.out).mono ?_;rintro e wc ⟨at1,ct1,TL,rfl,hTL,hTs,hbc⟩;have kV:=Ox.later hO4 hbc;have jw:=hB4.trans (hbc.mono nN);have QM:=bK (Jv.out.below hbc);have Il:=bK (hTs.anti (M':=fun k=>(Value.slice a2 K2.length c2).ownBlock=some k) (fun k _ hm=>(hO4.lt k hm).2));have hTl:Hid (TL.length<10000/\∀v∈TL,v.length<=1000000):=by rw [hTL.out];exact (xV wS.out).2
         have ahX:=hTl.out.1;have Bf:Hid (W.length<=1000+4):=bK (by rw [hWe.out,dB];omega);have hgs:Hid (sg t I p x=TL.map fun v=>W++v):=by unfold Hid sg;rw [hTL.out,hWe.out]
         have hK3:Hid (K2=(A.take k1).flatMap (sf t I X)++(X.take k2).flatMap (sg t I p)++((TL.take 0).map fun v=>W++v)):=bK (by rw [hK2.out];simp);have lW:Hid (K2.length<=k1*200000000+k2*10000+0):=dH nY.out (ap0 _ _);have HO:=bK kV;have Qs:=bK jw;clear HTl hbc hTs hO4 hB4 Jv kV jw hcb;go_wp2_with fail
         go_loopw [117,14] (fun i v wr=>∃(k3:Nat) (a':Option Addr) (c':Nat) (K:List (List Int)),k3<=TL.length/\i= .int .i64 k3/\v= .slice a' K.length c'/\Hid (K=(A.take k1).flatMap (sf t I X)++(X.take k2).flatMap (sg t I p)++((TL.take k3).map fun v=>W++v))/\Hid (K.length<=k1*200000000+k2*10000+k3)/\
          Ox w9.heap.size w9.heap.size wr 49 (.slice a' K.length c') K/\Below w9.heap.size w9 wr/\Sl (fun k=>(Value.slice a' K.length c').ownBlock=some k) wr aw cw W/\Sl (fun k=>(Value.slice a' K.length c').ownBlock=some k) wr at1 ct1 TL) (fun i _ _=>TL.length-(intOf i).toNat)
         case atStart=>exact ⟨0,a2,c2,K2,ah,rfl,rfl,hK3,lW,HO.out,Qs.out,QM.out,Il.out⟩
         case round=>
          clear hK3 lW HO Qs QM Il hK2 nY;obtain ⟨k3,a3,c3,K3,hk3,rfl,rfl,hK3,lW,hO,hB,hWs,hTs⟩:=hrel;obtain ⟨wd,rfl⟩:=iA wr;by_cases wP:k3<TL.length
          ·obtain ⟨bT,oT,av,v,cv,rfl,EA,hv,hvs⟩:=hTs.iD wP;have hvl:=hTl.out.2 v (bV hv.out);have apL:=Bf.out;have hr:=UQ (T:=49) hWs hvs (n:=W.length) rfl (m:=v.length) rfl;have HJ:=bK (uM hr (by rw [Dh];simp;omega));have hba:=(bP wd.heap.size wd).alloc (bM _) (.cells #[.slice aw W.length cw,.slice av v.length cv] 49);have hO3:=Ox.later hO hba;have hB3:=hB.trans (hba.mono hB.size);have hz3:=hB3.size;have abV:=hWs.below hba;have MQ:=hTs.below hba;have pz:K3.length<1000000000000:=by refine eO lW.out ?_;have e1:k1*200000000<=1000*200000000:=eD _ ah;have e2:k2*10000<=10001*10000:=eD _ ah;omega
           clear hr hvs hO hB hba hWs hTs;go_wp2_with fail;clear EA;generalize hgg:wd.alloc (.cells #[.slice aw W.length cw,.slice av v.length cv] 49)=we at*
           clear hgg;refine (HJ.out).mono ?_;rintro e wf ⟨a4,c4,x4,rfl,hx4,hs4,hb4⟩;have hO4:=Ox.later hO3 hb4;have hB4:=hB3.trans (hb4.mono hz3);have nN:=hB4.size;have Jv:=abV.below hb4;have alf:=MQ.below hb4
           have ku:=hs4.anti (M':=fun k=>(Value.slice a3 K3.length c3).ownBlock=some k\/k<w9.heap.size) fun k _ hm=>by
            rcases hm with hm|hm
            ·exact (hO3.lt k hm).2
            omega
           have hxe:Hid (x4=W++v):=bK (by rw [hx4.out,Dh]);have QM:=bK (Jv.alloc (.cells #[.slice a4 x4.length c4] 49));have Il:=bK (alf.alloc (.cells #[.slice a4 x4.length c4] 49));clear HJ hb4 hs4 hO3 hB3 hx4 abV MQ Jv alf;go_wp2_with (at_builtin;refine jd (n0:=w9.heap.size) (B:=w9.heap.size) (r:=x4) (ar:=a4) (cr:=c4) rfl rfl underlying22 iI rfl rfl (hO4.alloc _) bf (ku.alloc _) pz aJ ?_);intro a5 c5 K5 w5' xE kV hbk hgr;have jw:=(hB4.alloc nN (.cells #[.slice a4 x4.length c4] 49)).grown hgr aJ (fun k hk=>(hO4.lt k hk).1)
           have hex:Ext (fun k=>(Value.slice a3 K3.length c3).ownBlock=some k) (fun k=>(Value.slice a5 K5.length c5).ownBlock=some k) (wf.alloc (.cells #[.slice a4 x4.length c4] 49)) w5':=
            ⟨hgr.size,fun k hk hm=>hgr.block k hk (fun e=>hm e.symm),fun k hk hm=>by
             rcases hbk.out k hm with e|e
             ·exact e
             simp at hk e;omega⟩
           have an7:=QM.out.ext hex;have an8:=Il.out.ext hex;have hKn:Hid (K5=(A.take k1).flatMap (sf t I X)++(X.take k2).flatMap (sg t I p)++((TL.take (k3+1)).map fun v=>W++v)):=by unfold Hid;rw [xE.out,hK3.out,xJ hv.out,hxe.out,eH]
           have oK:Hid (K5.length<=k1*200000000+k2*10000+(k3+1)):=bK (by rw [xE.out,dB,eT,<-ap9 (k1*200000000+k2*10000) k3 1];exact aq0 lW.out 1);clear xE hbk hgr hO4 hB4 ku hex QM Il;go_wp2;go_roundw;case rel=>exact ⟨k3+1,a5,c5,K5,ah,by go_num,rfl,hKn,oK,kV,jw,an7,an8⟩
           case measure=>exact bF
          have hKn:Hid (K3=(A.take k1).flatMap (sf t I X)++(X.take (k2+1)).flatMap (sg t I p)):=by unfold Hid;rw [hK3.out,qB hx.out,bY (l:=TL) (i:=k3) ah,hgs.out,eH]
          have h10:k3<=10000:=ah;have oK:Hid (K3.length<=k1*200000000+(k2+1)*10000):=by refine dH lW.out ?_;rw [aqf,<-ap9];exact aq5 h10 _
          clear hWs hTs;go_wp2;go_roundw;case rel=>exact ⟨k2+1,a3,c3,K3,ah,by go_num,rfl,hKn,oK,hO,hB⟩
          case measure=>exact bF
        have hKn:Hid (K2=(A.take (k1+1)).flatMap (sf t I X)):=by unfold Hid;rw [hK2.out,qB hp.out,bY (l:=X) (i:=k2) ah];rfl
        have oK:Hid (K2.length<=(k1+1)*200000000):=bK (ig nY.out);go_wp2;go_roundw;case rel=>exact ⟨k1+1,a2,c2,K2,ah,by go_num,rfl,hKn,oK,hO,hB⟩
        case measure=>exact bF
      have hKf:Hid (K1=sS t I A X):=bK (by rw [hK1.out,bY ah];rfl);have hsm:Hid (mK K1):=by
       refine ⟨?_,fun r hr=> ?_⟩;·have h:=CG (t:=t) (A:=A) (X:=X) wS.out;rw [hKf.out];rw [<-hP3.out] at h;omega
       rw [hKf.out] at hr;have h:=CJ wS.out hr (fun p hp=>(CK.out.2 p hp).2) (fun x hx=>(Du.out.2 x hx).2);have:=HX.out;omega
      have hKs:=(hO.jD (bM _));have Ry:=bK (A_ hKs hsm);have jh:=(HS.out _ hB).2.2.2.2.2;clear hO hB hKs;go_wp2_with fail;refine (Ry.out).mono ?_;rintro e wf ⟨aM,cM,LM,rfl,hLM,MR,hbf⟩;have MS:=jh.trans (hbf.mono jh.size);have hR:Hid (m.BM iy=(LM,0)):=bK (by rw [Nh.out,hLM.out,hKf.out]);have MU:=MR.anti (M':=fun k=>k<w.heap.size) (fun k _ e=>by have:=jh.size;omega);go_wp2;exact dG (v:= .tuple #[.slice aM LM.length cM,.int .i64 0]) (by simp [results,results36,go_sem]) rfl ⟨aM,cM,LM,0,rfl,hR,MU,MS⟩
    have an6:(e4 !=0)=true:=by simp [he4]
    have hR:Hid (m.BM iy=([],e4)):=by unfold Hid g_.BM;rw [bO (by simp [HE.out]),bO HX.out,hX.out,bO (by simp [HE2.out]),<-ht.out,hL.out,bO (by simp [HE3.out]),hI.out,bQ he4]
    clear he4;go_wp2;exact dG (v:= .tuple #[.slice none 0 0,.int .i64 e4]) (by simp [results,results36,go_sem]) rfl ⟨none,0,[],e4,rfl,hR,Sl.nil _ _ _ aS,jY⟩
   have ahV:(e3 !=0)=true:=by simp [Oo]
   have hR:Hid (m.BM iy=([],e3)):=by unfold Hid g_.BM;rw [bO (by simp [HE.out]),bO HX.out,hX.out,bO (by simp [HE2.out]),<-ht.out,hL.out,bQ Oo]
   clear Oo;go_wp2;exact dG (v:= .tuple #[.slice none 0 0,.int .i64 e3]) (by simp [results,results36,go_sem]) rfl ⟨none,0,[],e3,rfl,hR,Sl.nil _ _ _ aS,(jw.alloc ah _)⟩
  have abZ:(e2 !=0)=true:=by simp [he2]
  have hR:Hid (m.BM iy=([],e2)):=by unfold Hid g_.BM;rw [bO (by simp [HE.out]),bO HX.out,hX.out,bQ he2]
  clear he2;go_wp2;exact dG (v:= .tuple #[.slice none 0 0,.int .i64 e2]) (by simp [results,results36,go_sem]) rfl ⟨none,0,[],e2,rfl,hR,Sl.nil _ _ _ aS,hB2⟩
 have he':(m.err !=0)=true:=by simp [he]
 have hR:Hid (m.BM iy=([],m.err)):=by unfold Hid g_.BM;rw [bQ he]
 clear he;go_wp2;exact dG (v:= .tuple #[.slice none 0 0,.int .i64 m.err]) (by simp [results,results36,go_sem]) rfl ⟨none,0,[],m.err,rfl,hR,Sl.nil _ _ _ aS,hB1⟩
end
section
variable {M M' M'':Nat->Prop} {w:World} {an ao a b d:Option Addr} {cn co ca cb cd:Nat} {m:g_} {xs ys zs:List Int}
theorem wu (h1:Sl M w a ca xs) (h2:Sl M' w b cb ys) (h3:Sl M'' w d cd zs) (hl:Hid (xs.length<1000000000/\ys.length<1000000000/\zs.length<1000000000)):Calls prog 91 #[.slice a xs.length ca,.slice b ys.length cb,.slice d zs.length cd] w fun e w'=>∃(a':Option Addr) (c':Nat) (L:List Int),e= .returned (.slice a' L.length c')/\Hid (L=(xs++ys)++zs)/\Sl (fun k=>k<w.heap.size) w' a' c' L/\Below w.heap.size w w':=by
 have H1:=bK h1;have H2:=bK h2;have H3:=bK h3;have hl1:=hl.out.1;have hl2:=hl.out.2.1;have hl3:=hl.out.2.2;clear h1 h2 h3;go_enter func91,ntmps91;go_wp2_with (at_builtin;refine jr (B:=w.heap.size) (l0:=[]) (l1:=xs) rfl rfl underlying49 iE rfl rfl Ow.nil H1.out (by simp<;>omega) (bM _) ?_);intro a1 c1 l1 w1 agi kH hb1;have hz1:=hb1.size;have ab4:Hid (l1.length=xs.length):=bK (by rw [agi.out]);go_wp2_with (at_builtin;refine jr (B:=w.heap.size) (l0:=l1) (l1:=ys) rfl rfl underlying49 iE rfl rfl kH (H2.out.below hb1) (by rw [ab4.out];omega) hz1 ?_);intro a2 c2 l2 w2 D_ hO2 hb2;have hB2:=hb1.trans (hb2.mono (bM _));have hz2:=hB2.size;have Xz:Hid (l2.length=xs.length+ys.length):=bK (by rw [D_.out,dB,ab4.out]);clear kH hb1 hb2 hz1;go_wp2_with (at_builtin;refine jr (B:=w.heap.size) (l0:=l2) (l1:=zs) rfl rfl underlying49 iE rfl rfl hO2 (H3.out.below hB2) (by rw [Xz.out];omega) hz2 ?_);intro a3 c3 l3 w3 an9 hO3 hb3;have hB3:=hB2.trans (hb3.mono (bM _));have hS:=hO3.fresh (n:=w.heap.size) (bM _);have hF:Hid (l3=(xs++ys)++zs):=bK (by rw [an9.out,D_.out,agi.out]);go_wp2;go_ret;exact ⟨a3,c3,l3,rfl,hF,hS,hB3⟩
end
section
variable {M M' M'':Nat->Prop} {w:World} {an ao a b:Option Addr} {cn co c d:Nat} {m:g_} {ids:List (List (List Int))} {l:List Int}
theorem QN (hm:Ma M w an cn ao co m) (hi:Sl M' w a c ids) (hw:Sl M'' w b d l) (ok:Hid m.Ok) (Dl:Hid (jI l m.gZ=0)) (hil:Hid (ids.length=m.h_.length)):Calls prog 151 #[kF m an cn ao co,.slice a ids.length c,.slice b l.length d] w fun e w'=>∃(a':Option Addr) (c':Nat) (L:List (List Int)),e= .returned (.slice a' L.length c')/\Hid (L=tailW m ids l)/\ Sl (fun k=>M' k/\k<w.heap.size) w' a' c' L/\Below w.heap.size w w':=by
 have hB0:=iB w (iP m an cn ao co);have hx0:=jE w m an cn ao co;have hz0:w.heap.size+1<=(w.alloc (iP m an cn ao co)).heap.size:=aH;have l1:=hm.h_.le;have l2:=hi.le;have l3:=hw.le;have n1:=ok.out.n1;have HM:=bK hm;have HI:=bK (hi.anti (M':=fun k=>M' k/\k<w.heap.size) fun _ _ h=>h.1);have HW:=bK hw;have hfr:=g_.yC (FT ok.out) Dl.out;have hen:=g_.rX ok.out l m.start ok.out.s0 ok.out.s1 (g_.Cg Dl.out).1;obtain ⟨s,hs⟩:=b_ hen.1;have hsn:s<ids.length:=by rw [hil.out];omega
 have HC:=JV (HM.out.below hB0) (HW.out.below hB0) m.start;rw [hfr.1,hfr.2.2,hs] at HC;have HC:=bK HC;have PV:=bK hs;have hc1:=hx0.2.1;clear hm hi hw hfr hen hs;go_enter func151,ntmps151;go_upto_region 1 with (fail);generalize w.alloc (iP m an cn ao co)=w0 at*
 go_wp2_with fail;refine (HC.out).mono ?_;rintro e w1 ⟨a1,c1,q1,rfl, -, -,hb1⟩;have hB1:=hB0.trans (hb1.mono ah);have hx1:=hx0.below hb1 ah;have hz1:w.heap.size+1<=w1.heap.size:=ig hb1.size;obtain ⟨b2,o2,a2,r,c2,rfl,hc2,hr,hs2⟩:=(HI.out.below hB1).iD hsn;have hgr:Hid (ids.getD (m.lD m.start l).toNat []=r):=bK (by rw [PV.out,dK,bS,hr.out];rfl);have hrl:=hs2.le;clear HC hB0 hx0 hz0 hb1 hc1;by_cases h0:r=[]
 ·have hr0:((r.length:Int)==0)=true:=by simp [h0]
  have hF:Hid ([([]:List Int)]=tailW m ids l):=by unfold Hid tailW;rw [hgr.out,bQ h0]
  clear h0 hs2;go_wp2;have hS2:Hid (Sl (fun k=>M' k/\k<w.heap.size) ((w1.alloc (.cells #[] 3)).alloc (.cells #[.slice (some ⟨w1.heap.size,0,none⟩) 0 0] 49)) (some ⟨w1.heap.size+1,0,none⟩) 1 [([]:List Int)]):=by
   have hsz:(w1.alloc (.cells #[] 3)).heap.size=w1.heap.size+1:=aH;have h:=dS (w1.alloc (.cells #[] 3)) (.cells #[.slice (some ⟨w1.heap.size,0,none⟩) 0 0] 49);rw [hsz] at h;refine Sl.Wu h (fun h=>by have:=h.2;omega) rfl aS fun j x hj=> ?_;match j,hj with
   |0,hj=>simp at hj;subst hj;exact ⟨_,0,rfl,Sl.nil _ _ _ aS⟩
  have hB2:=(hB1.alloc ah (.cells #[] 3)).alloc aJ (.cells #[.slice (some ⟨w1.heap.size,0,none⟩) 0 0] 49);go_ret;exact ⟨some ⟨w1.heap.size+1,0,none⟩,1,[[]],rfl,hF,hS2.out,hB2⟩
 have hr0:((r.length:Int)==0)=false:=by simp;exact h0
 have hF:Hid (r=tailW m ids l):=by unfold Hid tailW;rw [hgr.out,bO h0]
 clear h0;go_wp2;go_ret;exact ⟨a2,c2,r,rfl,hF,hs2,hB1⟩
end
def uV (t:g_) (I:List (List (List Int))) (A X:List (List Int)):List (List Int)×Int:=if 10000<A.length*X.length*tJ I then ([],11) else (pO (sS t I A X),0)
section
variable {M MA MX MI:Nat->Prop} {w:World} {an ao aA aX aI:Option Addr} {cn co cA cX cI:Nat} {t:g_} {A X:List (List Int)} {I:List (List (List Int))}
theorem Im (hm:Ma M w an cn ao co t) (hA:Sl MA w aA cA A) (hX:Sl MX w aX cX X) (hI:Sl MI w aI cI I) (rz:Hid t.Ok) (YP:Hid (I.length=t.h_.length)) (wS:Hid (∀r∈I,IU r)) (CK:Hid (A.length<=1000/\∀p∈A,t.nQ p/\p.length<=1000)) (Du:Hid (X.length<=10001/\∀x∈X,InW t.gZ 4 x)):Calls prog 93 #[kF t an cn ao co,.slice aA A.length cA,.slice aX X.length cX,.slice aI I.length cI] w fun e w'=>∃(a:Option Addr) (c:Nat) (L:List (List Int)) (e1:Int),e= .returned (.tuple #[.slice a L.length c,.int .i64 e1])/\Hid (uV t I A X=(L,e1))/\Sl (fun k=>k<w.heap.size) w' a c L/\Below w.heap.size w w':=by
 have hB0:=iB w (iP t an cn ao co);have hx0:C4 (w.alloc (iP t an cn ao co)) w.heap.size an cn ao co t:=kI w;have hz0:w.heap.size<(w.alloc (iP t an cn ao co)).heap.size:=aH;have HM:=bK (hm.below hB0);have HA:=bK ((hA.below hB0).anti (M':=fun _=>False) fun _ _ h=>h.elim);have HX:=bK ((hX.below hB0).anti (M':=fun _=>False) fun _ _ h=>h.elim);have HI:=bK ((hI.anti (M':=fun k=>w.heap.size<=k) (fun k h1 h2=>absurd h1 ah)).below hB0);have lt1:=hm.h_.le;have lt2:=hm.out.le;have lA:=hA.le;have lX:=hX.le;have lI:=hI.le;have hA1:=CK.out.1;have hX1:=Du.out.1;have hG1:=Uj (l:=I) (N:=10000) ah (fun r hr=>by have:=(wS.out r hr).1;omega);clear hm hA hX hI;go_enter func93,ntmps93;go_upto_region 1 with (fail);generalize w.alloc (iP t an cn ao co)=w0 at*
 have hg0:Hid (1=tJ (I.take 0)):=rfl;go_wp2;go_loop [10,11] (fun v i=>∃k n:Nat,k<=I.length/\i= .int .i64 k/\v= .int .i64 n/\Hid (n=tJ (I.take k))/\n<=9223372036854775807) (fun _ i=>I.length-(intOf i).toNat);case atStart=>exact ⟨0,1,ah,rfl,rfl,hg0,ah⟩
 case round=>
  obtain ⟨k,n,hk,rfl,rfl,hn,hnl⟩:=hrel;by_cases hlt:k<I.length
  ·obtain ⟨b1,o1,ax,x,cx,rfl,hcx,hx,hsx⟩:=HI.out.iD hlt;have hxl:=hsx.le;have hn2:Hid (max n x.length=tJ (I.take (k+1))):=bK (by rw [sM hx.out,hn.out]);clear hsx;by_cases hmx:n<=x.length
   ·have wU:Hid (x.length=tJ (I.take (k+1))):=by rw [arW hmx] at hn2;exact hn2
    have hm2:max (n:Int) (x.length:Int)=(x.length:Int):=ah;go_wp2;go_round;case rel=>exact ⟨k+1,x.length,ah,by go_num,by go_num,wU,hxl⟩
    case measure=>exact bF
   have wU:Hid (n=tJ (I.take (k+1))):=by rw [ar1 ah] at hn2;exact hn2
   have hm2:max (n:Int) (x.length:Int)=(n:Int):=ah;go_wp2;go_round;case rel=>exact ⟨k+1,n,ah,by go_num,by go_num,wU,hnl⟩
   case measure=>exact bF
  have wU:Hid (n=tJ I):=by have:=hn.out;rw [bY ah] at this;exact this
  have hn1:Hid (n<=10000):=by rw [wU.out];exact hG1
  have WB:=hn1.out;have Um:A.length*X.length<=1000*10001:=eX hA1 hX1;have Ij:A.length*X.length*n<=1000*10001*10000:=eX Um WB;obtain ⟨P1,hP1⟩:∃P1,P1=A.length*X.length:=⟨_,rfl⟩;obtain ⟨P2,hP2⟩:∃P2,P2=P1*n:=⟨_,rfl⟩;have hw1:IntKind.i64.wrap ((A.length:Int)*(X.length:Int))=(P1:Int):=by rw [show ((A.length:Int)*(X.length:Int))=((P1:Nat):Int) by rw [hP1];simp];exact eP _ ah
  have hw2:IntKind.i64.wrap ((P1:Int)*(n:Int))=(P2:Int):=by rw [show ((P1:Int)*(n:Int))=((P2:Nat):Int) by rw [hP2];simp];rw [<-hP1] at Ij;rw [<-hP2] at Ij;exact eP _ ah
  have hP3:Hid (P2=A.length*X.length*tJ I):=bK (by rw [hP2,hP1,wU.out]);clear hP1 hP2 Um Ij hn wU hn1 hG1;by_cases mP:10000<P2
  ·have hR:Hid (uV t I A X=([],11)):=by unfold Hid uV;rw [bQ (by rw [<-hP3.out];exact mP)]
   have hbi:(P2:Int)>10000:=ah;have hbd:decide (10000<P2)=true:=dw mP;go_wp2;exact dG (v:= .tuple #[.slice none 0 0,.int .i64 11]) (by simp [results,results93,go_sem]) rfl ⟨none,0,[],11,rfl,hR,Sl.nil _ _ _ aS,hB0⟩
  have Nh:Hid (uV t I A X=(pO (sS t I A X),0)):=by unfold Hid uV;rw [bO (by rw [<-hP3.out];exact mP)]
  have hbi:¬(P2:Int)>10000:=ah;have hbd:decide (10000<P2)=false:=cZ mP
  have HS:Hid (∀w',Below w0.heap.size w0 w'->C4 w' w.heap.size an cn ao co t/\Ma M w' an cn ao co t/\Sl (fun k=>w.heap.size<=k) w' aI cI I/\Sl (fun _=>False) w' aA cA A/\Sl (fun _=>False) w' aX cX X/\Below w.heap.size w w'):=fun w' h=>
   ⟨hx0.below h hz0,HM.out.below h,HI.out.below h,HA.out.below h,HX.out.below h,hB0.trans (h.mono ah)⟩
  have kJ:Ox (α:=List Int) w0.heap.size w0.heap.size w0 49 (.slice none 0 0) []:=Ox.nil;have sO:=bP w0.heap.size w0;have hwz:w.heap.size<=w0.heap.size:=ah;clear hx0 hB0 HM HI HA HX;go_wp2
  go_loopw [12,13] (fun v i wr=>∃(k1:Nat) (a':Option Addr) (c':Nat) (K:List (List Int)),k1<=A.length/\i= .int .i64 k1/\v= .slice a' K.length c'/\Hid (K=(A.take k1).flatMap (sf t I X))/\Hid (K.length<=k1*200000000)/\
   Ox w0.heap.size w0.heap.size wr 49 (.slice a' K.length c') K/\Below w0.heap.size w0 wr) (fun _ i _=>A.length-(intOf i).toNat)
  case atStart=>exact ⟨0,none,0,[],ah,rfl,rfl,by simp [Hid],by simp [Hid],kJ,sO⟩
  case round=>
   clear kJ sO;obtain ⟨k1,a1,c1,K1,hk1,rfl,rfl,hK1,Ju,hO,hB⟩:=hrel;obtain ⟨wo,rfl⟩:=iA wr;by_cases hlt:k1<A.length
   ·obtain ⟨bA,oA,ap,p,cp,rfl,hpc,hp,hps⟩:=(HS.out _ (bP _ _)).2.2.2.1.iD hlt;have Jw:Hid (∀w',Below w0.heap.size w0 w'->w'.cell? ⟨bA,oA+k1,none⟩=some (.slice ap p.length cp)/\Sl (fun _=>False) w' ap cp p):=fun w' h=>⟨(h.cell (p:=⟨bA,oA+k1,none⟩) (lt_of_cell hpc)).trans hpc,hps.below h⟩;clear hpc hps;have hpA:=bK (CK.out.2 p (bV hp.out));have hK2:Hid (K1=(A.take k1).flatMap (sf t I X)++(X.take 0).flatMap (sg t I p)):=bK (by rw [hK1.out];simp);have nY:Hid (K1.length<=k1*200000000+0*10000):=dH Ju.out (ap0 _ _);have HO:=bK hO;have Qs:=bK hB;clear hO hB hK1 Ju;go_wp2
    go_loopw [12,14] (fun v i wr=>∃(k2:Nat) (a':Option Addr) (c':Nat) (K:List (List Int)),k2<=X.length/\i= .int .i64 k2/\v= .slice a' K.length c'/\Hid (K=(A.take k1).flatMap (sf t I X)++(X.take k2).flatMap (sg t I p))/\Hid (K.length<=k1*200000000+k2*10000)/\
     Ox w0.heap.size w0.heap.size wr 49 (.slice a' K.length c') K/\Below w0.heap.size w0 wr) (fun _ i _=>X.length-(intOf i).toNat)
    case atStart=>exact ⟨0,a1,c1,K1,ah,rfl,rfl,hK2,nY,HO.out,Qs.out⟩
    case round=>
     clear hK2 nY HO Qs;obtain ⟨k2,a2,c2,K2,hk2,rfl,rfl,hK2,nY,hO,hB⟩:=hrel;obtain ⟨wi,rfl⟩:=iA wr;by_cases ni:k2<X.length
     ·obtain ⟨bX,oX,ax,x,cx,rfl,hxc,hx,hxs⟩:=(HS.out _ (bP _ _)).2.2.2.2.1.iD ni;have BL:Hid (∀w',Below w0.heap.size w0 w'->w'.cell? ⟨bX,oX+k2,none⟩=some (.slice ax x.length cx)/\Sl (fun _=>False) w' ax cx x):=fun w' h=>⟨(h.cell (p:=⟨bX,oX+k2,none⟩) (lt_of_cell hxc)).trans hxc,hxs.below h⟩;have hxX:=bK (Du.out.2 x (bV hx.out));have hpl:=hpA.out.2;have ale:=hxX.out.2;have Dl:Hid (jI (p++x) t.gZ=0):=MP rz.out hpA.out.1 hpl (N:=4) ah hxX.out
      have HJ0:Hid (∀w',Below w0.heap.size w0 w'->Calls prog 91 #[.slice ap p.length cp,.slice ax x.length cx,.slice none 0 0] w' fun e w''=>∃(a':Option Addr) (c':Nat) (L:List Int),e= .returned (.slice a' L.length c')/\Hid (L=p++x)/\Sl (fun k=>k<w'.heap.size) w'' a' c' L/\Below w'.heap.size w' w''):=fun w' h=>by
       have h1:=wu (Jw.out _ h).2 (BL.out _ h).2 (Sl.nil (α:=Int) (fun _=>False) w' none (c:=0) aS) (bK ⟨ah,ah,aH⟩)
       rw [gD] at h1
       exact h1
      clear hxc hxs;go_upto_region 15 with (fail);refine iO (fun w'=>(C4 w' w.heap.size an cn ao co t/\w'.cell? ⟨bA,oA+k1,none⟩=some (.slice ap p.length cp))/\w'.cell? ⟨bX,oX+k2,none⟩=some (.slice ax x.length cx)) [0,1,2,3,4,5,6,7,8,9,12] aB ?_;have hbd:=(bP wi.heap.size wi).drew;have kH:=Ox.later hO hbd;have hB1:=hB.trans (hbd.mono hB.size);have hS1:=And.intro (And.intro (HS.out _ hB1).1 (Jw.out _ hB1).1) (BL.out _ hB1).1;clear hO hB hbd;generalize wi.drew=w1 at*
      have HJ:=bK (HJ0.out _ hB1);refine iT [0,1,2,3,4,5,6,7,8,9] ?_;refine iJ 10 fun K hK=> ?_;go_simp;refine (HJ.out).mono ?_;rintro e w2 ⟨aw,cw,W,rfl,hW,hWs,hb2⟩;have hz1:=hB1.size;have hO2:=Ox.later kH hb2;have hB2:=hB1.trans (hb2.mono hz1);have hS2:=And.intro (And.intro (HS.out _ hB2).1 (Jw.out _ hB2).1) (BL.out _ hB2).1;have ahY:=HS.out _ hB2;have HTl:=bK (QN ahY.2.1 (ahY.2.2.1.anti (M':=fun k=>(Value.slice a2 K2.length c2).ownBlock=some k) fun k _ hm=>by have:=(hO2.lt k hm).1;omega) hWs rz (by rw [hW.out];exact Dl) YP);have hz2:=hB2.size;refine hK _ _ (fun _=>hS2) ?_;clear hK K HJ kH hB1 hS1 hb2 hz1 ahY;refine iJ 11 fun K hK=> ?_;go_simp;refine (HTl.out).mono ?_;rintro e w3 ⟨at1,ct1,TL,rfl,hTL,hTs,hb3⟩;have hO3:=Ox.later hO2 hb3;have hB3:=hB2.trans (hb3.mono hz2);have kC:=And.intro (And.intro (HS.out _ hB3).1 (Jw.out _ hB3).1) (BL.out _ hB3).1;have MQ:=bK (hTs.anti (M':=fun k=>(Value.slice a2 K2.length c2).ownBlock=some k) fun k _ hm=>⟨hm,(hO2.lt k hm).2⟩);refine hK _ _ (fun _=>kC) ?_;clear hK K HTl hO2 hB2 hS2 hb3 hz2 hTs hWs;refine iT [12] ?_;refine iN aB ?_ _;clear kC;have hTl:Hid (TL.length<10000/\∀v∈TL,v.length<=1000000):=by rw [hTL.out];exact (xV wS.out).2
      have ahX:=hTl.out.1;have hgs:Hid (sg t I p x=TL.map fun v=>(p++x)++v):=by unfold Hid sg;rw [hTL.out,hW.out]
      have hK3:Hid (K2=(A.take k1).flatMap (sf t I X)++(X.take k2).flatMap (sg t I p)++((TL.take 0).map fun v=>(p++x)++v)):=bK (by rw [hK2.out];simp);have lW:Hid (K2.length<=k1*200000000+k2*10000+0):=dH nY.out (ap0 _ _);have HO:=bK hO3;have Qs:=bK hB3;clear hO3 hB3;go_wp2_with fail
      go_loopw [12,16] (fun v i wr=>∃(k3:Nat) (a':Option Addr) (c':Nat) (K:List (List Int)),k3<=TL.length/\i= .int .i64 k3/\v= .slice a' K.length c'/\Hid (K=(A.take k1).flatMap (sf t I X)++(X.take k2).flatMap (sg t I p)++((TL.take k3).map fun v=>(p++x)++v))/\Hid (K.length<=k1*200000000+k2*10000+k3)/\
       Ox w0.heap.size w0.heap.size wr 49 (.slice a' K.length c') K/\Below w0.heap.size w0 wr/\Sl (fun k=>(Value.slice a' K.length c').ownBlock=some k) wr at1 ct1 TL) (fun _ i _=>TL.length-(intOf i).toNat)
      case atStart=>exact ⟨0,a2,c2,K2,ah,rfl,rfl,hK3,lW,HO.out,Qs.out,MQ.out⟩
      case round=>
       clear hK3 lW HO Qs MQ hK2 nY;obtain ⟨k3,a3,c3,K3,hk3,rfl,rfl,hK3,lW,hO,hB,hTs⟩:=hrel;obtain ⟨wd,rfl⟩:=iA wr;by_cases wP:k3<TL.length
       ·obtain ⟨bT,oT,av,v,cv,rfl,EA,hv,hvs⟩:=hTs.iD wP;have hvl:=hTl.out.2 v (bV hv.out);have pz:K3.length<1000000000000:=by refine eO lW.out ?_;have e1:k1*200000000<=1000*200000000:=eD _ ah;have e2:k2*10000<=10001*10000:=eD _ ah;omega
        have hTV:=bK hvs;clear hvs;go_upto_region 19 with (fail);refine iO (fun w'=>(w'.cell? ⟨bA,oA+k1,none⟩=some (.slice ap p.length cp)/\w'.cell? ⟨bX,oX+k2,none⟩=some (.slice ax x.length cx))/\w'.cell? ⟨bT,oT+k3,none⟩=some (.slice av v.length cv)) [0,1,2,3,4,5,6,7,8,9,10,11,12,16] aB ?_;have hbd:=(bP wd.heap.size wd).drew;have kH:=Ox.later hO hbd;have hB1:=hB.trans (hbd.mono hB.size);have alg:=hTs.below hbd;have alh:=bK (hTV.out.below hbd);have hS1:=And.intro (And.intro (Jw.out _ hB1).1 (BL.out _ hB1).1) (show wd.drew.cell? ⟨bT,oT+k3,none⟩=some (.slice av v.length cv) from EA);clear hO hB hbd hTs hTV EA;generalize wd.drew=w1 at*
        have HJ:=bK (wu (Jw.out _ hB1).2 (BL.out _ hB1).2 alh.out (bK ⟨ah,ah,ah⟩));refine iT [0,1,2,3,4,5,6,7,8,9,10,11,12] ?_;refine iJ 13 fun K hK=> ?_;go_simp;refine (HJ.out).mono ?_;rintro e w2 ⟨a4,c4,x4,rfl,hx4,hs4,hb2⟩;have hz1:=hB1.size;have hO2:=Ox.later kH hb2;have hB2:=hB1.trans (hb2.mono hz1);have ali:=alg.below hb2;have hS2:=And.intro (And.intro (Jw.out _ hB2).1 (BL.out _ hB2).1) ((hb2.cell (p:=⟨bT,oT+k3,none⟩) (lt_of_cell hS1.2)).trans hS1.2)
        have ku:=bK (hs4.anti (M':=fun k=>(Value.slice a3 K3.length c3).ownBlock=some k\/k<w0.heap.size) fun k _ hm=>by
         rcases hm with hm|hm
         ·exact (kH.lt k hm).2
         omega)
        have hz2:=hB2.size;refine hK _ _ (fun _=>hS2) ?_;clear hK K HJ kH hB1 alg alh hS1 hb2 hs4 hz1;refine iJ 14 fun K hK=> ?_;go_simp;have hba:=iB w2 (.cells #[.slice a4 x4.length c4] 49);have hO3:=Ox.later hO2 hba;have hB3:=hB2.trans (hba.mono hz2);have MQ:=ali.below hba;have kC:=And.intro (And.intro (Jw.out _ hB3).1 (BL.out _ hB3).1) ((hba.cell (p:=⟨bT,oT+k3,none⟩) (lt_of_cell hS2.2)).trans hS2.2);have QO:=bK (ku.out.below hba);have hz3:=hB3.size;refine hK _ _ (fun _=>kC) ?_;clear hK K hO2 hB2 ali hS2 hba ku;refine iJ 15 fun K hK=> ?_;refine yB (n0:=w0.heap.size) (B:=w0.heap.size) (r:=x4) (v:= .slice a3 K3.length c3) (rows:=K3) (g:=w2.heap.size) (c:=1) (ar:=a4) (cr:=c4) rfl underlying22 iI rfl rfl hO3 aH QO.out pz hz3 ?_;intro a5 c5 K5 w5' xE kV hbk hgr;have jw:=hB3.grown hgr hz3 (fun k hk=>(hO3.lt k hk).1)
        have hex:Ext (fun k=>(Value.slice a3 K3.length c3).ownBlock=some k) (fun k=>(Value.slice a5 K5.length c5).ownBlock=some k) (w2.alloc (.cells #[.slice a4 x4.length c4] 49)) w5':=
         ⟨hgr.size,fun k hk hm=>hgr.block k hk (fun e=>hm e.symm),fun k hk hm=>by
          rcases hbk.out k hm with e|e
          ·exact e
          omega⟩
        have Il:=MQ.ext hex;obtain ⟨b',o',a',v',c',hbe,aoa,hv5, -⟩:=Il.iD wP
        have hS5:((w5'.cell? ⟨bA,oA+k1,none⟩=some (.slice ap p.length cp)/\w5'.cell? ⟨bX,oX+k2,none⟩=some (.slice ax x.length cx))/\w5'.cell? ⟨bT,oT+k3,none⟩=some (.slice av v.length cv)):=
         And.intro (And.intro (Jw.out _ jw).1 (BL.out _ jw).1) ((hex.cell (p:=⟨bT,oT+k3,none⟩) (lt_of_cell kC.2) (MQ.notM wP)).trans kC.2)
        clear hbe aoa hv5;refine hK _ _ (fun _=>hS5) ?_;clear hK K hO3 hB3 MQ kC QO hgr hex hbk;refine iT [16] ?_;refine iN aB ?_ _;clear hS5;have hKn:Hid (K5=(A.take k1).flatMap (sf t I X)++(X.take k2).flatMap (sg t I p)++((TL.take (k3+1)).map fun v=>(p++x)++v)):=by unfold Hid;rw [xE.out,hK3.out,xJ hv.out,hx4.out,eH (List.flatMap _ _++List.flatMap _ _)]
        have oK:Hid (K5.length<=k1*200000000+k2*10000+(k3+1)):=bK (by rw [xE.out,dB,eT,<-ap9 (k1*200000000+k2*10000) k3 1];exact aq0 lW.out 1);clear xE;go_wp2;go_roundw;case rel=>exact ⟨k3+1,a5,c5,K5,ah,by go_num,rfl,hKn,oK,kV,jw,Il⟩
        case measure=>exact bF
       have hKn:Hid (K3=(A.take k1).flatMap (sf t I X)++(X.take (k2+1)).flatMap (sg t I p)):=by unfold Hid;rw [hK3.out,qB hx.out,bY (l:=TL) (i:=k3) ah,hgs.out,eH]
       have h10:k3<=10000:=ah;have oK:Hid (K3.length<=k1*200000000+(k2+1)*10000):=by refine dH lW.out ?_;rw [aqf,<-ap9];exact aq5 h10 _
       clear hTs;go_wp2;go_roundw;case rel=>exact ⟨k2+1,a3,c3,K3,ah,by go_num,rfl,hKn,oK,hO,hB⟩
       case measure=>exact bF
     have hKn:Hid (K2=(A.take (k1+1)).flatMap (sf t I X)):=by unfold Hid;rw [hK2.out,qB hp.out,bY (l:=X) (i:=k2) ah];rfl
     have oK:Hid (K2.length<=(k1+1)*200000000):=bK (ig nY.out);go_wp2;go_roundw;case rel=>exact ⟨k1+1,a2,c2,K2,ah,by go_num,rfl,hKn,oK,hO,hB⟩
     case measure=>exact bF
   have hKf:Hid (K1=sS t I A X):=bK (by rw [hK1.out,bY ah];rfl);have hsm:Hid (mK K1):=by
    refine ⟨?_,fun r hr=> ?_⟩;·have h:=CG (t:=t) (A:=A) (X:=X) wS.out;rw [hKf.out];rw [<-hP3.out] at h;omega
    rw [hKf.out] at hr;have h:=CJ wS.out hr (fun p hp=>(CK.out.2 p hp).2) (fun x hx=>(Du.out.2 x hx).2);omega
   have hKs:=(hO.jD (bM _));have Ry:=bK (Gs hKs hsm);have jh:=(HS.out _ hB).2.2.2.2.2;clear hO hB hKs;go_wp2_with fail;refine (Ry.out).mono ?_;rintro e wf ⟨aM,cM,LM,rfl,hLM,MR,hbf⟩;have MS:=jh.trans (hbf.mono jh.size);have hR:Hid (uV t I A X=(LM,0)):=bK (by rw [Nh.out,hLM.out,hKf.out]);have MU:=MR.anti (M':=fun k=>k<w.heap.size) (fun k _ e=>by have:=jh.size;omega);go_wp2;exact dG (v:= .tuple #[.slice aM LM.length cM,.int .i64 0]) (by simp [results,results93,go_sem]) rfl ⟨aM,cM,LM,0,rfl,hR,MU,MS⟩
end
end
