/- Lemmas, each with its own conditions. -/
import Derived.Test.YtjagagpcjpcjjaaGreatMw34
import Derived.Deep.Cut
set_option maxRecDepth 100000
set_option maxHeartbeats 32000000
namespace Go.Proofs.YtjagagpcjpcjjaaGreat
open Tryz
open Go.RowKit
abbrev Mo (n0 n1:Nat):Nat->Prop:=fun k=>k<n0\/n1<=k
theorem Ow.other {α:Type} [GR α] {B:Nat} {M:Nat->Prop} {w w':World} {T:TypeId} {v:Value} {l:List α} {r:Option Nat} (h:Ow B M w T v l) (hg:w.grownBy w' r) (hr:∀k,r=some k->M k) (hne:∀k,v.ownBlock=some k->r=some k->False):Ow B M w' T v l:=
 h.ext (Ext.grownBy hg hr) fun k hk=>hg.block k (h.lt k hk).2 fun e=>hne k hk e.symm
theorem Sl.UY {M:Nat->Prop} {w:World} {a:Option Addr} {c:Nat} {l:List Pc} (h:Sl M w a c l) {j:Nat} (hj:j<l.length):∃b off aw cw q,a=some ⟨b,off,none⟩/\w.cell? ⟨b,off+j*2,none⟩=some (.int .i64 q.s)/\w.cell? ⟨b,off+j*2+1,none⟩=some (.slice aw q.word.length cw)/\Hid (l[j]? =some q)/\Sl M w aw cw q.word/\Hid (i64 q.s):=by
 obtain ⟨b,off,cs,ha,_,_,⟨⟨aw,cw,rfl,h1⟩,h2⟩,hc⟩:=h.2.2 j l[j] (by simp [hj]);exact ⟨b,off,aw,cw,l[j],ha,by simpa [GR.sz] using hc 0 _ rfl,by simpa [GR.sz] using hc 1 _ rfl,bK (by simp [hj]),h1,h2⟩
section
variable {M:Nat->Prop} {w:World} {an ao:Option Addr} {cn co:Nat} {m:g_}
theorem Tn (hm:Ma M w an cn ao co m) (he:Hid (m.err=0)):Calls prog 124 #[kF m an cn ao co] w fun e w'=>∃(a b:Option Addr) (c d:Nat) (S:List Int) (L:List (List Int)),e= .returned (.tuple #[.slice a S.length c,.slice b L.length d,.int .i64 0])/\ Hid (L=m.qm.map Pc.word)/\Sl (fun k=>k<w.heap.size) w' b d L/\Below w.heap.size w w':=by
 have hB0:=iB w (iP m an cn ao co);have hx0:=jE w m an cn ao co;have hz0:w.heap.size+1<=(w.alloc (iP m an cn ao co)).heap.size:=aH;have ok:=m.iG he.out;have n1:=ok.n1;have HV:=bK (jR (hm.below hB0));rw [he.out] at HV;have HM:=bK hm;have OK:=bK ok;clear hm ok;go_enter func124,ntmps124;go_wp2_with fail;generalize w.alloc (iP m an cn ao co)=w0 at*
 refine (HV.out).mono ?_;rintro e w1 ⟨rfl,hb1⟩;have hB1:=hB0.trans (hb1.mono ah);have hx1:=hx0.below hb1 ah;have hz1:w.heap.size+1<=w1.heap.size:=ig hb1.size;have HP:=bK (Tm (HM.out.below hB1) OK);clear HV hB0 hx0 hb1 hz0;go_wp2_with fail;refine (HP.out).mono ?_;rintro e w2 ⟨a2,c2,L,rfl,hL,hS2,hb2⟩;have hB2:=bK (hB1.trans (hb2.mono ah));have hz2:Hid (w.heap.size<=w2.heap.size):=bK (ig hb2.size);have hS2:=bK (hS2.anti (M':=fun k=>k<w.heap.size\/w2.heap.size<=k) fun k hk hm=>by rcases hm with e|e<;>omega);have hLn:=hS2.out.le;have ajq:Hid (L.length<=128):=by unfold Hid;rw [hL.out];unfold g_.qm;rw [g_.rE];exact dH (g_.og OK.out _) n1
 clear HP hB1 hx1 hz1 hb2;go_wp2
 go_loopw [6,7,20] (fun v6 v7 i wr=>∃(k:Nat) (a b:Option Addr) (c d:Nat) (S:List Int) (W:List (List Int)),k<=L.length/\i= .int .i64 k/\v6= .slice a S.length c/\v7= .slice b W.length d/\Hid (S=(L.take k).map Pc.s)/\Hid (W=(L.take k).map Pc.word)/\
  Ow w2.heap.size (Mo w.heap.size w2.heap.size) wr 3 (.slice a S.length c) S/\Ow w2.heap.size (Mo w.heap.size w2.heap.size) wr 49 (.slice b W.length d) W/\Hid (∀k,(Value.slice a S.length c).ownBlock=some k->(Value.slice b W.length d).ownBlock=some k->False)/\
  Below w2.heap.size w2 wr) (fun _ _ i _=>L.length-(intOf i).toNat)
 case atStart=>exact ⟨0,none,none,0,0,[],[],ah,rfl,rfl,rfl,rfl,rfl,Ow.nil,Ow.nil,fun k hk=>by simp [Value.ownBlock] at hk,bP _ _⟩
 case round=>
  obtain ⟨k,a,b,c,d,S,W,hk,rfl,rfl,rfl,hS,hW,hO,hN,hne,hB⟩:=hrel;obtain ⟨wo,rfl⟩:=iA wr;have wX:w2.heap.size<=wo.heap.size:=hB.size;by_cases hlt:k<L.length
  ·have hSo:=hS2.out.below hB;obtain ⟨bp,op,aw,cw,q,rfl,hq0,hq1,hq,IK,Ey⟩:=hSo.UY hlt;have adG:=IK.le;have hSn:Hid (S++[q.s]=(L.take (k+1)).map Pc.s):=bK (by rw [dh,hq.out,hS.out];simp);have Mq:Hid (W++[q.word]=(L.take (k+1)).map Pc.word):=bK (by rw [dh,hq.out,hW.out];simp);have zh:Hid (S.length=k):=bK (by rw [hS.out];simp;omega);have Bf:Hid (W.length=k):=bK (by rw [hW.out];simp;omega);have hba:=iB wo (.cells #[.int .i64 q.s,.slice aw q.word.length cw] 219);have hcl:(wo.alloc (.cells #[.int .i64 q.s,.slice aw q.word.length cw] 219)).heap[wo.heap.size]? =_:=dS _ _;have kH:=hO.below hba;have hN1:=hN.below hba;have hW1:=IK.below hba;have hB1:=hB.trans (hba.mono wX);have hzp:wo.heap.size<(wo.alloc (.cells #[.int .i64 q.s,.slice aw q.word.length cw] 219)).heap.size:=aH;have amY:(wo.alloc (.cells #[.int .i64 q.s,.slice aw q.word.length cw] 219)).cell? ⟨wo.heap.size,0,none⟩=some (.int .i64 q.s):=aH;have ajr:(wo.alloc (.cells #[.int .i64 q.s,.slice aw q.word.length cw] 219)).cell? ⟨wo.heap.size,1,none⟩=some (.slice aw q.word.length cw):=aH;have hoo:Hid (∀k,(Value.slice a S.length c).ownBlock=some k->k<wo.heap.size):=fun k hk=>(hO.lt k hk).2;have hnn:Hid (∀k,(Value.slice b W.length d).ownBlock=some k->k<wo.heap.size):=fun k hk=>(hN.lt k hk).2;clear hSo hS hW hO hN hB IK hba hcl;go_upto_region 9 with (fail);generalize hgg:wo.alloc (.cells #[.int .i64 q.s,.slice aw q.word.length cw] 219)=w4 at*
   clear hgg;go_wp2_with (at_builtin;refine mG (B:=w2.heap.size) (M:=Mo w.heap.size w2.heap.size) (l:=S) (y:=q.s) rfl rfl underlying49 iE rfl rfl (kH.alloc _) bf Ey.out (by have:=zh.out;have:=ajq.out;omega) aJ ?_);intro a5 c5 S5 w5 hS5 kV hk5 XG;have yJ:w4.heap.size+1<=w5.heap.size:=iq XG.size;have IE:=(hN1.alloc (.cells #[.int .i64 q.s] 3)).other XG (fun k hk=> .inr (kH.lt k hk).1) (fun k h1 h2=>hne.out k h2 h1);have hW5:=(hW1.alloc (.cells #[.int .i64 q.s] 3)).ext (Ext.grownBy XG (fun k hk=> .inr (kH.lt k hk).1));have jw:=(hB1.alloc hB1.size (.cells #[.int .i64 q.s] 3)).grown XG aJ (fun k hk=>(kH.lt k hk).1)
   have apu:w5.cell? ⟨wo.heap.size,1,none⟩=some (.slice aw q.word.length cw):=
    (dD (XG.block wo.heap.size aJ (fun e=>by have:=hoo.out _ e.symm;omega))).trans ((dD (a:=⟨wo.heap.size,1,none⟩) (fA _ _ _ hzp)).trans ajr)
   have agw:Hid (∀k,(Value.slice a5 S5.length c5).ownBlock=some k->(Value.slice b W.length d).ownBlock=some k->False):=fun k h1 h2=>by
    rcases (hk5.out k h1).1 with e|e
    ·exact hne.out k e h2
    have:=hnn.out k h2;omega
   have ajs:Hid (∀k,(Value.slice a5 S5.length c5).ownBlock=some k->k<w5.heap.size):=fun k h1=>(hk5.out k h1).2;have hSn:Hid (S5=(L.take (k+1)).map Pc.s):=hS5.out.trans hSn.out;clear hS5 hk5 XG kH hN1 hW1 hB1 amY ajr hne;go_wp2_with (at_builtin;refine jl (B:=w2.heap.size) (M:=Mo w.heap.size w2.heap.size) (rows:=W) (r:=q.word) (ar:=aw) (cr:=cw) rfl rfl underlying22 iI rfl rfl (IE.alloc _) (fun k hk=> .inr (IE.lt k hk).1) bf (hW5.alloc _) (by have:=Bf.out;have:=ajq.out;omega) aJ ?_);intro a6 b6 W6 w6 BK Ol P_ agx;have lu:=(kV.alloc (.cells #[.slice aw q.word.length cw] 49)).other agx (fun k hk=> .inr (IE.lt k hk).1) (fun k h1 h2=>agw.out k h1 h2);have Rv:=Ol.oF (M':=Mo w.heap.size w2.heap.size) fun k _ hk=> .inl hk;have jo:=(jw.alloc jw.size (.cells #[.slice aw q.word.length cw] 49)).grown agx aJ (fun k hk=>(IE.lt k hk).1)
   have amZ:Hid (∀k,(Value.slice a5 S5.length c5).ownBlock=some k->(Value.slice a6 W6.length b6).ownBlock=some k->False):=fun k h1 h2=>by
    rcases (P_.out k h2).1 with e|e
    ·exact agw.out k h1 e
    have:=ajs.out k h1;omega
   have Mq:Hid (W6=(L.take (k+1)).map Pc.word):=BK.out.trans Mq.out;clear BK Ol P_ agx IE kV hW5 jw agw ajs;go_wp2;go_roundw;case rel=>exact ⟨k+1,a5,a6,c5,b6,S5,W6,ah,by go_num,rfl,rfl,hSn,Mq,lu,Rv,amZ,jo⟩
   case measure=>exact bF
  have hF:Hid (W=m.qm.map Pc.word):=bK (by rw [hW.out,bY ah,hL.out]);have zh:=(hN.oF (M':=fun k=>k<w.heap.size) fun k _ hk=> .inl hk).jD fun k hk=>by have:=(hN.lt k hk).1;have:=hz2.out;omega
  have mH:=hB2.out.trans (hB.mono hz2.out);clear hO hN hB;go_wp2;go_ret3;exact ⟨a,b,c,d,S,W,rfl,hF,zh,mH⟩
theorem Cq (hm:Ma M w an cn ao co m) (he:Hid (m.err=0)):Calls prog 73 #[kF m an cn ao co] w fun e w'=>∃(b:Option Addr) (d:Nat) (L:List (List Int)),e= .returned (.tuple #[.slice b L.length d,.int .i64 0])/\ Hid (L=m.qm.map Pc.word)/\Sl (fun k=>k<w.heap.size) w' b d L/\Below w.heap.size w w':=by
 have hB0:=iB w (iP m an cn ao co);have hx0:=jE w m an cn ao co;have hz0:w.heap.size<=(w.alloc (iP m an cn ao co)).heap.size:=aH;have HC:=bK (Tn (hm.below hB0) he);have n1:=hm.h_.le;have n2:=hm.out.le;clear hm;go_enter func73,ntmps73;go_wp2_with fail;generalize w.alloc (iP m an cn ao co)=w0 at*
 refine (HC.out).mono ?_;rintro e w1 ⟨a,b,c,d,S,L,rfl,hL,hS,hb⟩;have hB1:=hB0.trans (hb.mono hz0);have hS1:=hS.anti (M':=fun k=>k<w.heap.size) fun k _ hk=>by omega
 clear hS hb HC hB0 hx0;go_wp2;go_ret2;exact ⟨b,d,L,rfl,hL,hS1,hB1⟩
end
