/- Lemmas, each with its own conditions. -/
import Derived.Test.YtjagagpcjpcjjaaGreatMw28
set_option maxRecDepth 100000
set_option maxHeartbeats 32000000
namespace Go.Proofs.YtjagagpcjpcjjaaGreat
open Tryz
open Go.RowKit
theorem Tf:(prog.info? 172).map (fun i=>(i.zero,i.size,i.bytes))=some (some (.agg #[.slice none 0 0,.slice none 0 0]),2,48):=aB
theorem adw (w:World) (n:Nat) (hn:n<1000000000):(Instr.makeSlice 224 (.int .i64 n) (.int .i64 n)).run prog w= .ok (.slice (some ⟨w.heap.size,0,none⟩) n n) (w.alloc (.cells (madeCells #[.slice none 0 0,.slice none 0 0] (n*2)) 172)):=by
 obtain ⟨i,hi1,hi2,hi3,hi4⟩:=aqa Tf;have:=run_make (P:=prog) w 224 172 i _ underlying224 hi1 hi2 .i64 .i64 n n ah (arh _) (by rw [hi4];omega) ah;rw [hi3] at this;simpa [Value.cells] using this
theorem adx (n i:Nat) (hi:i<n*2):(madeCells #[.slice none 0 0,.slice none 0 0] (n*2))[i]? =some (.slice none 0 0):=by
 unfold madeCells;rw [Array.getElem?_map,Array.getElem?_range,bQ hi];have:i%2=0\/i%2=1:=ah;rcases this with e|e<;>simp [e]
theorem ady {a b:Option Addr} {n c k k' d:Nat} (h:k=k'):Ending.returned (.tuple #[.slice a n c,.slice b k d])= .returned (.tuple #[.slice a n c,.slice b k' d]):=by rw [h]
theorem adz {g n c k:Nat} (h:(Value.slice (some ⟨g,0,none⟩) n c).ownBlock=some k):g=k:=by simpa [Value.ownBlock] using h
section
variable {M M1 M2:Nat->Prop} {w:World} {an ao ai ac:Option Addr} {cn co ci cc bb:Nat} {m:g_} {I C:List Int}
theorem Kl (hb:C4 w bb an cn ao co m) (hbb:bb<w.heap.size) (hm:Ma M w an cn ao co m) (hI:Sl M1 w ai ci I) (hC:Sl M2 w ac cc C) (ok:Hid m.Ok) (Vu:Hid (I.length=C.length)) (h0:Hid (0<C.length)) (hn:Hid (C.length<1000)) (hr:Hid (∀s∈C,0<=s/\s<m.h_.length)) (x:Nat) (hx:x<m.gZ.toNat):Calls prog 179 #[.pointer (some ⟨bb,0,none⟩),.agg #[.slice ai I.length ci,.slice ac C.length cc],.int .i64 x] w fun e w'=>∃(a b:Option Addr) (c d:Nat) (X:List Int) (G:List Gp),e= .returned (.tuple #[.slice a X.length c,.slice b G.length d])/\ Hid (X=m.jG x C)/\Hid (G=m.Jj x I C)/\Sl (fun k=>k<w.heap.size) w' a c X/\Sl (fun k=>k<w.heap.size) w' b d G/\Below w.heap.size w w':=by
 obtain ⟨bn,on,bo,oo,rfl,rfl⟩:=hm.addr ok.out;have hB0:=iB w (.cells #[.slice ai I.length ci,.slice ac C.length cc] 172);have hg0:(w.alloc (.cells #[.slice ai I.length ci,.slice ac C.length cc] 172)).cell? ⟨w.heap.size,0,none⟩=some (.slice ai I.length ci):=aH;have hg1:(w.alloc (.cells #[.slice ai I.length ci,.slice ac C.length cc] 172)).cell? ⟨w.heap.size,1,none⟩=some (.slice ac C.length cc):=aH;have hz0:w.heap.size<(w.alloc (.cells #[.slice ai I.length ci,.slice ac C.length cc] 172)).heap.size:=aH;have n1:=ok.out.n1;have l1:=hm.h_.le;have l2:=hm.out.le;have l3:=hI.le;have l4:=hC.le;have HM:=bK hm;have HI:=bK hI;have HC:=bK hC;have HB:=bK hb;clear hm hI hC hb;go_enter func179,ntmps179;go_upto_region 1 with (fail);generalize w.alloc (.cells #[.slice ai I.length ci,.slice ac C.length cc] 172)=w0 at*
 go_wp2
 go_loopw [8,20] (fun v i wr=>∃(k:Nat) (a':Option Addr) (c':Nat) (O:List Int),k<=C.length/\i= .int .i64 k/\v= .slice a' O.length c'/\Hid (O=(C.take k).map fun s=>m.ot s.toNat x)/\
  Ow (w.heap.size+1) (fun k=>w.heap.size+1<=k) wr 3 (.slice a' O.length c') O/\wr.cell? ⟨w.heap.size,0,none⟩=some (.slice ai I.length ci)/\wr.cell? ⟨w.heap.size,1,none⟩=some (.slice ac C.length cc)/\w.heap.size<wr.heap.size/\Below w.heap.size w wr) (fun _ i _=>C.length-(intOf i).toNat)
 case atStart=>exact ⟨0,none,0,[],ah,rfl,rfl,rfl,Ow.nil,hg0,hg1,hz0,hB0⟩
 case round=>
  clear hg0 hg1 hz0 hB0;obtain ⟨k,a',c',O,hk,rfl,rfl,hO,hOw,hg0,hg1,hz,hB⟩:=hrel;obtain ⟨wo,rfl⟩:=iA wr;have hOl:Hid (O.length=k):=bK (by rw [hO.out];simp;omega);by_cases hlt:k<C.length
  ·obtain ⟨bs,os,s0,rfl,hcs,hs0, -⟩:=(HC.out.below hB).iC hlt;have hsr:=hr.out s0 (bV hs0.out);obtain ⟨s,rfl⟩:=b_ hsr.1;have hsn:s<m.h_.length:=ah;have hso:s<m.out.length:=ig ok.out.lo;obtain ⟨bo2,oo2,a1,r1,c1,hbe,hn1,hr1,hS1⟩:=(HM.out.out.below hB).iD hso;obtain ⟨rfl,rfl⟩:bo=bo2/\oo=oo2:=iq hbe;have Ls:=hS1.le;have hrl:Hid ((r1.length:Int)=m.gZ):=by have:=ok.out.ro s hsn;rw [iw hr1.out] at this;exact this
   have hxl:x<r1.length:=ig hrl.out;obtain ⟨b3,o3,t0,rfl,htc,ht0,vK⟩:=hS1.iC hxl;have hot:Hid (m.ot s x=t0):=by unfold Hid g_.ot;rw [iw hr1.out,iw ht0.out]
   have hOn:Hid (O++[t0]=(C.take (k+1)).map fun s=>m.ot s.toNat x):=by unfold Hid;rw [dh,hs0.out,eB,hO.out,<-hot.out];rfl
   have hb3:wo.cell? ⟨bb,3,none⟩=some (.slice (some ⟨bo,oo,none⟩) m.out.length co):=(hB.cell (p:=⟨bb,3,none⟩) hbb).trans HB.out.2.2.2;clear hsr hbe hS1 hO;go_wp2_with (at_builtin;refine iQ (B:=w.heap.size+1) (l:=O) (y:=t0) rfl rfl underlying49 iE rfl rfl (hOw.alloc _) bf vK.out (by have:=hOl.out;have:=hn.out;omega) aJ ?_);intro a2 c2 O2 w2 hO2 amx hb2;have hba:=((bP (w.heap.size+1) wo).alloc ah (.cells #[.int .i64 t0] 3)).trans hb2;have amy:=(hba.cell (p:=⟨w.heap.size,0,none⟩) (show w.heap.size<w.heap.size+1 by omega)).trans hg0;have amz:=(hba.cell (p:=⟨w.heap.size,1,none⟩) (show w.heap.size<w.heap.size+1 by omega)).trans hg1;have hB2:=hB.trans (hba.mono ah);have hz2:w.heap.size<w2.heap.size:=ig hba.size;have hOn:Hid (O2=(C.take (k+1)).map fun s=>m.ot s.toNat x):=bK (by rw [hO2.out,hOn.out]);clear hb2 hba hg0 hg1 hB hO2 hOw hb3;go_wp2;go_roundw;case rel=>exact ⟨k+1,a2,c2,O2,ah,by go_num,rfl,hOn,amx,amy,amz,hz2,hB2⟩
   case measure=>exact bF
  have kH:Hid (O=C.map fun s=>m.ot s.toNat x):=bK (by rw [hO.out,bY ah]);have aaJ:Hid (O.length=C.length):=bK (ig hOl.out);obtain ⟨go,rfl,hgo,apc⟩:=jZ hOw (by have:=aaJ.out;have:=h0.out;omega);have hOs:Sl (fun _=>False) wo (some ⟨go,0,none⟩) c' O:=(hOw.anyM (M':=fun _=>False)).jD fun _ _ h=>h;have HCl:=bK (rV hOs (by have:=aaJ.out;have:=hn.out;omega));clear hO hOl hOs;go_wp2_with fail;refine (HCl.out).mono ?_;rintro e w2 ⟨a2,c2,K1,rfl,hK1,agl,hb2⟩;have Tg:Hid (K1.length=C.length):=bK (by rw [hK1.out];exact aaJ.out);obtain ⟨gk,rfl,YI,apd⟩:=jZ agl (by have:=Tg.out;have:=h0.out;omega);have HS:=bK (Ke agl (by have:=Tg.out;have:=hn.out;omega));clear HCl;go_wp2_with fail;refine (HS.out).mono ?_;rintro e w3 ⟨rfl,K2,hK2,agm,aiW,PU⟩;have HS2:=bK (Kg aiW (by have:=Tg.out;have:=agm.out;have:=hn.out;omega));rw [agm.out] at HS2;have hb3:=hb2.grown PU hb2.size (fun k hk=>by cases hk;exact YI);clear HS agl aiW PU hb2;go_wp2_with fail;refine (HS2.out).mono ?_;rintro e w4 ⟨X,rfl,hK3,Xt,PW⟩;have hKF:Hid (X=m.jG x C):=by unfold Hid g_.jG;rw [hK3.out,hK2.out,Kc,hK1.out,kH.out]
  have hb4:=hb3.grown PW hb3.size (fun k hk=>by cases hk;exact YI);have ape:gk<w4.heap.size:=(Xt.lt gk rfl).2;have hKA:Hid (qP X):=by rw [hKF.out];exact xI _
  have hKn:Hid (X.length<=C.length):=bK (by rw [hKF.out];have:=uN (C.map fun s=>m.ot s.toNat x);rw [dJ] at this;exact this);have amA:=hOw.below hb4;have amB:=(hb4.cell (p:=⟨w.heap.size,0,none⟩) hz).trans hg0;have amC:=(hb4.cell (p:=⟨w.heap.size,1,none⟩) hz).trans hg1;have hB4:=hB.trans (hb4.mono ah);have apf:w.heap.size<gk:=ah;have apg:go<w4.heap.size:=ah;clear HS2 hb3 PW hb4 hOw hg0 hg1 hB hz agm hK1 hK2 hK3 Tg;have hmk:=adw w4 X.length (by have:=hKn.out;have:=hn.out;omega);have xL:Kh (w4.heap.size+1) (w4.alloc (.cells (madeCells #[.slice none 0 0,.slice none 0 0] (X.length*2)) 172)) w4.heap.size (X.length*2) (fun _=>[]):=Kh.made (adx X.length);have xL:Hid (Kh (w4.heap.size+1) (w4.alloc (.cells (madeCells #[.slice none 0 0,.slice none 0 0] (X.length*2)) 172)) w4.heap.size (X.length*2) (m.qx x I C X 0)):=xL.congr fun i _=>(g_.Xj x I C X i).symm;have hBl:Hid (Below w4.heap.size w4 (w4.alloc (.cells (madeCells #[.slice none 0 0,.slice none 0 0] (X.length*2)) 172))):=iB w4 _;have hgl:Hid (w4.heap.size<(w4.alloc (.cells (madeCells #[.slice none 0 0,.slice none 0 0] (X.length*2)) 172)).heap.size):=bK aH;go_wp2;generalize hgg:w4.alloc (.cells (madeCells #[.slice none 0 0,.slice none 0 0] (X.length*2)) 172)=w5 at*
  clear hgg hmk;go_loopw [50] (fun v wr=>∃k:Nat,k<=C.length/\v= .int .i64 k/\Kh (w4.heap.size+1) wr w4.heap.size (X.length*2) (m.qx x I C X k)/\Below w4.heap.size w4 wr/\w4.heap.size<wr.heap.size) (fun v _=>C.length-(intOf v).toNat);case atStart=>exact ⟨0,ah,rfl,xL.out,hBl.out,hgl.out⟩
  case round=>
   clear xL hBl hgl;obtain ⟨k,hk,rfl,hF,hB,hz⟩:=hrel;obtain ⟨wo,rfl⟩:=iA wr;have mH:=hB4.trans (hB.mono ah);by_cases hlt:k<O.length
   ·have hkC:k<C.length:=by have:=aaJ.out;omega
    obtain ⟨bC,oC,s0,hac,hcC,hs0, -⟩:=HC.out.iC hkC;obtain ⟨bI,oI,p,hai,hcI,hp,amD⟩:=HI.out.iC (j:=k) (ig Vu.out);have hsr:=hr.out s0 (bV hs0.out);obtain ⟨s,rfl⟩:=b_ hsr.1;have hsn:s<m.h_.length:=ah;obtain ⟨bn2,on2,a1,r1,c1,hbe,hn1,hr1,hS1⟩:=HM.out.h_.iD hsn;obtain ⟨rfl,rfl⟩:bn=bn2/\on=on2:=iq hbe;have Ls:=hS1.le;have hrl:Hid ((r1.length:Int)=m.gZ):=by have:=ok.out.rn s hsn;rw [iw hr1.out] at this;exact this
    have hxl:x<r1.length:=ig hrl.out;obtain ⟨b3,o3,t0,rfl,htc,ht0,vK⟩:=hS1.iC hxl;have hnx:Hid (m.nx s x=t0):=by unfold Hid g_.nx;rw [iw hr1.out,iw ht0.out]
    obtain ⟨go2,o0,aiX,hoc, -,ho0, -⟩:=(amA.upto hB (fun k hk=>by have:=adz hk;omega)).iC hlt;obtain rfl:go=go2:=iq aiX;have hoe:Hid (m.ot s x=o0):=by have h1:=ho0.out;rw [kH.out,dP,hs0.out] at h1;unfold Hid;simpa using h1
    obtain ⟨j,hj⟩:∃j,X[j]? =some o0:=by
     have h1:o0∈X:=by rw [hKF.out];unfold g_.jG;rw [pR,<-kH.out];exact bV ho0.out
     exact arn.1 h1
    have hjK:j<X.length:=by
     by_cases e:j<X.length;·exact e
     rw [bZ ah] at hj;simp at hj
    have HJ:=bK hj;have HFD:=bK (Xi (M:=fun _=>False) rfl ((((Xt.anyM (M':=fun _=>False)).upto hB (fun k hk=>by have:=adz hk;omega)).jD fun _ _ h=>h)) (by have:=hKn.out;have:=hn.out;omega) hKA.out hj)
    have HS:Hid (∀w',Below w4.heap.size w4 w'->(w'.cell? ⟨w.heap.size,0,none⟩=some (.slice (some ⟨bI,oI,none⟩) I.length ci)/\w'.cell? ⟨bI,oI+k,none⟩=some (.int .i64 p))/\(w'.cell? ⟨w.heap.size,1,none⟩=some (.slice (some ⟨bC,oC,none⟩) C.length cc)/\w'.cell? ⟨bC,oC+k,none⟩=some (.int .i64 (s:Int)))/\
        (w'.cell? ⟨bb,2,none⟩=some (.slice (some ⟨bn,on,none⟩) m.h_.length cn)/\w'.cell? ⟨bn,on+s,none⟩=some (.slice (some ⟨b3,o3,none⟩) r1.length c1)/\w'.cell? ⟨b3,o3+x,none⟩=some (.int .i64 t0))):=by
     intro w' h
     have h2:=hB4.trans (h.mono hB4.size)
     refine ⟨⟨?_,?_⟩,⟨?_,?_⟩,?_,?_,?_⟩
     ·rw [<-hai];exact (h.cell (p:=⟨w.heap.size,0,none⟩) (by show w.heap.size<_;omega)).trans amB
     ·exact (h2.cell (p:=⟨bI,oI+k,none⟩) (lt_of_cell hcI)).trans hcI
     ·rw [<-hac];exact (h.cell (p:=⟨w.heap.size,1,none⟩) (by show w.heap.size<_;omega)).trans amC
     ·exact (h2.cell (p:=⟨bC,oC+k,none⟩) (lt_of_cell hcC)).trans hcC
     ·exact (h2.cell (p:=⟨bb,2,none⟩) hbb).trans HB.out.2.2.1
     ·exact (h2.cell (p:=⟨bn,on+s,none⟩) (lt_of_cell hn1)).trans hn1
     exact (h2.cell (p:=⟨b3,o3+x,none⟩) (lt_of_cell htc)).trans htc
    clear hai hac hcC hcI hsr hbe hn1 hS1 htc aiX hj;go_wp2_with fail;refine (HFD.out).mono ?_;rintro e w6 ⟨rfl,hb6⟩;have YH:=hF.below hz hb6;have jo:=hB.trans (hb6.mono hB.size);have qR:w4.heap.size<w6.heap.size:=ig hb6.size;clear HFD hF hB hoc mH hb6;go_upto_region 15 with (fail);obtain ⟨aF,cF,hcF,hfF,hOF⟩:=YH.at (i:=j*2) ah;refine iO (fun w'=>w'.cell? ⟨w4.heap.size,j*2,none⟩=some (.slice aF (m.qx x I C X k (j*2)).length cF)/\w'.cell? ⟨w.heap.size,0,none⟩=some (.slice (some ⟨bI,oI,none⟩) I.length ci)/\w'.cell? ⟨bI,oI+k,none⟩=some (.int .i64 p)) [0,1,2,3,4,5,6,7,8,9,10,11,14,15] aB ?_;have hbd:=(bP w6.heap.size w6).drew;have YK:=YH.below qR hbd;have jY:=jo.trans (hbd.mono jo.size);have xK:w4.heap.size<w6.drew.heap.size:=qR;have aiY:=hOF.drew;have agn:w6.drew.cell? ⟨w4.heap.size,j*2,none⟩=some (.slice aF (m.qx x I C X k (j*2)).length cF):=hcF;have aiZ:w6.drew.frozen? ⟨w4.heap.size,j*2,none⟩=false:=hfF;clear YH jo qR hcF hfF hOF hbd;generalize w6.drew=w7 at*
    have hSd:=And.intro agn (HS.out w7 jY).1;have hfl:Hid ((m.qx x I C X k (j*2)).length<1000000):=by unfold Hid g_.qx;rw [bQ ah];unfold g_.gpI;rw [dJ];refine eO (fK _ _) ?_;rw [aqO,dx,dx];have:=hn.out;omega
    have hIk:k<I.length:=ig Vu.out;refine iT [0,1,2,3,4,5,6,7,8,9,10,11] ?_;refine iJ 12 fun K hK=> ?_;go_simp;have hba:=iB w7 (.cells #[.int .i64 p] 3);have mg:=jY.trans (hba.mono jY.size);have hF8:=YK.below xK hba;have adA:=aiY.alloc (.cells #[.int .i64 p] 3);have adB:=(hba.cell (p:=⟨w4.heap.size,j*2,none⟩) xK).trans agn;refine hK _ _ (fun _=>And.intro adB (HS.out _ mg).1) ?_;have IQ:w4.heap.size+1<=w7.heap.size:=ah;have ai0:(w7.alloc (.cells #[.int .i64 p] 3)).frozen? ⟨w4.heap.size,j*2,none⟩=false:=(iR (a:=⟨w4.heap.size,j*2,none⟩) (hba.block _ xK)).trans aiZ;clear hK K hSd YK aiY jY hba agn aiZ;refine iJ 13 fun K hK=> ?_;refine ql (B:=w4.heap.size+1) (M:=fun k=>w4.heap.size+1<=k) (v:= .slice aF (m.qx x I C X k (j*2)).length cF) (l:=m.qx x I C X k (j*2)) (y:=p) rfl underlying49 iE rfl rfl adA bf amD.out (ig hfl.out) aJ ?_;intro a9 c9 l9 w9 hl9 yF hk9 hg9
    have hFp:=bK (hF8.push (gL _) aJ (i:=j*2) ah adB hl9.out yF (fun k hk=>by
     rcases (hk9.out k hk).1 with e|e
     ·exact .inl e
     exact .inr ah) hg9)
    have hgb:w9.heap[w4.heap.size]? =(w7.alloc (.cells #[.int .i64 p] 3)).heap[w4.heap.size]? :=hg9.block _ aJ (fun e=>by have:=(adA.lt _ e.symm).1;omega);have mH:=mg.grown hg9 aJ (fun k hk=>by have:=(adA.lt k hk).1;omega);have ai1:=(dD (a:=⟨w4.heap.size,j*2,none⟩) hgb).trans adB;have amE:=(iR (a:=⟨w4.heap.size,j*2,none⟩) hgb).trans ai0;have hz9:w4.heap.size<w9.heap.size:=by have:=hg9.size;simp at this;omega
    have W_:=And.intro ai1 (HS.out _ mH).1;refine hK _ _ (fun _=>W_) ?_;clear hK K hF8 adA adB ai0 mg yF hk9 hg9 hgb;refine iT [14,15] ?_;refine jW (i:=16) aB aB rfl rfl (fun K hK=> ?_);go_simp;refine hK _ _ ?_;clear hK K;refine iN aB ?_ _;obtain ⟨F1,hF1⟩:∃F1:Nat->List Int,F1=fun i=>if i=j*2 then m.qx x I C X k (j*2)++[p] else m.qx x I C X k i:=⟨_,rfl⟩;rw [<-hF1] at hFp;have HF1:=bK hF1;have Gl:=mH.setCell (p:=⟨w4.heap.size,j*2,none⟩) (bM _) (.slice a9 l9.length c9);have hzq:w4.heap.size<(w9.setCell ⟨w4.heap.size,j*2,none⟩ (.slice a9 l9.length c9)).heap.size:=by simpa [World.setCell] using hz9
    have ai2:Hid ((F1 (j*2+1)).length<1000000):=by unfold Hid;rw [hF1];simp only [];rw [bO ah];unfold g_.qx;rw [bO ah];unfold g_.IJ;rw [dJ];refine eO (fK _ _) ?_;rw [aqO,dx,dx];have:=hn.out;omega
    clear hF1 mH ai1 amE hz9 hfl W_;generalize w9.setCell ⟨w4.heap.size,j*2,none⟩ (.slice a9 l9.length c9)=wq at*
    obtain ⟨aG,cG,hcG,hfG,hOG⟩:=hFp.out.at (i:=j*2+1) ah;go_upto_region 16 with (fail)
    refine iO (fun w'=>w'.cell? ⟨w4.heap.size,j*2+1,none⟩=some (.slice aG (F1 (j*2+1)).length cG)/\(w'.cell? ⟨w.heap.size,1,none⟩=some (.slice (some ⟨bC,oC,none⟩) C.length cc)/\w'.cell? ⟨bC,oC+k,none⟩=some (.int .i64 (s:Int)))/\
        (w'.cell? ⟨bb,2,none⟩=some (.slice (some ⟨bn,on,none⟩) m.h_.length cn)/\w'.cell? ⟨bn,on+s,none⟩=some (.slice (some ⟨b3,o3,none⟩) r1.length c1)/\w'.cell? ⟨b3,o3+x,none⟩=some (.int .i64 t0))) [0,1,2,3,4,5,6,7,8,9,10,11,12,13,14,15,16,17,18,19,20,21,24,25] aB ?_
    have hbd:=(bP wq.heap.size wq).drew;have YK:=hFp.out.below hzq hbd;have jY:=Gl.trans (hbd.mono Gl.size);have xK:w4.heap.size<wq.drew.heap.size:=hzq;have ai3:=hOG.drew;have agp:wq.drew.cell? ⟨w4.heap.size,j*2+1,none⟩=some (.slice aG (F1 (j*2+1)).length cG):=hcG;have ai4:wq.drew.frozen? ⟨w4.heap.size,j*2+1,none⟩=false:=hfG;clear hFp Gl hzq hcG hfG hOG hbd;generalize wq.drew=wr7 at*
    have hSd:=And.intro agp (HS.out wr7 jY).2;refine iT [0,1,2,3,4,5,6,7,8,9,10,11,12,13,14,15,16,17,18,19,20,21] ?_;refine iJ 22 fun K hK=> ?_;go_simp;have hba:=(bP wr7.heap.size wr7).alloc (bM _) (.cells #[.int .i64 t0] 3);have mg:=jY.trans (hba.mono jY.size);have hF8:=YK.below xK hba;have adC:=ai3.alloc (.cells #[.int .i64 t0] 3);have adD:=(hba.cell (p:=⟨w4.heap.size,j*2+1,none⟩) xK).trans agp;refine hK _ _ (fun _=>And.intro adD (HS.out _ mg).2) ?_;have IQ:w4.heap.size+1<=wr7.heap.size:=ah;have ai5:(wr7.alloc (.cells #[.int .i64 t0] 3)).frozen? ⟨w4.heap.size,j*2+1,none⟩=false:=(iR (a:=⟨w4.heap.size,j*2+1,none⟩) (hba.block _ xK)).trans ai4;clear hK K hSd YK ai3 jY hba agp ai4;refine iJ 23 fun K hK=> ?_;refine ql (B:=w4.heap.size+1) (M:=fun k=>w4.heap.size+1<=k) (v:= .slice aG (F1 (j*2+1)).length cG) (l:=F1 (j*2+1)) (y:=t0) rfl underlying49 iE rfl rfl adC bf vK.out (ig ai2.out) aJ ?_;intro a11 c11 l11 Ae amF Ti Xu aaK
    have hFp:=bK (hF8.push (gL _) aJ (i:=j*2+1) ah adD amF.out Ti (fun k hk=>by
     rcases (Xu.out k hk).1 with e|e
     ·exact .inl e
     exact .inr ah) aaK)
    have hgb:Ae.heap[w4.heap.size]? =(wr7.alloc (.cells #[.int .i64 t0] 3)).heap[w4.heap.size]? :=aaK.block _ aJ (fun e=>by have:=(adC.lt _ e.symm).1;omega);have sZ:=mg.grown aaK aJ (fun k hk=>by have:=(adC.lt k hk).1;omega);have aeH:=(dD (a:=⟨w4.heap.size,j*2+1,none⟩) hgb).trans adD;have ai6:=(iR (a:=⟨w4.heap.size,j*2+1,none⟩) hgb).trans ai5;have agq:w4.heap.size<Ae.heap.size:=by have:=aaK.size;simp at this;omega
    have qZ:=And.intro aeH (HS.out _ sZ).2;refine hK _ _ (fun _=>qZ) ?_;clear hK K hF8 adC adD ai5 mg Ti Xu aaK hgb;refine iT [24,25] ?_;refine jW (i:=26) aB aB rfl rfl (fun K hK=> ?_);go_simp;refine hK _ _ ?_;clear hK K;refine iN aB ?_ _
    have hFn:Hid (Kh (w4.heap.size+1) (Ae.setCell ⟨w4.heap.size,j*2+1,none⟩ (.slice a11 l11.length c11)) w4.heap.size (X.length*2) (m.qx x I C X (k+1))):=hFp.out.congr fun i hi=>by
     have h1:=g_.Xk (m:=m) (x:=x) (I:=I) (C:=C) (K:=X) (k:=k) (j:=j) hp.out hs0.out hKA.out (by rw [HJ.out];congr 1;simpa using hoe.out.symm) i hi
     rw [<-h1,HF1.out]
     simp only [asr 2 j]
     rw [show m.nx ((s:Int).toNat) x=t0 from hnx.out]
    have hBn:=sZ.setCell (p:=⟨w4.heap.size,j*2+1,none⟩) (bM _) (.slice a11 l11.length c11);have hzn:w4.heap.size<(Ae.setCell ⟨w4.heap.size,j*2+1,none⟩ (.slice a11 l11.length c11)).heap.size:=by simpa [World.setCell] using agq
    clear hFp sZ aeH ai6 agq ai2 HS qZ;generalize Ae.setCell ⟨w4.heap.size,j*2+1,none⟩ (.slice a11 l11.length c11)=wn at*
    go_wp2;go_roundw;case rel=>exact ⟨k+1,ah,by go_num,hFn.out,hBn,hzn⟩
    case measure=>exact bF
   have hkC:k=C.length:=ig aaJ.out;have hGS:Hid (Sl (fun k=>k<w.heap.size) wo (some ⟨w4.heap.size,0,none⟩) X.length (X.map (m.yH x I C))):=by rw [hkC] at hF;exact hF.jD Vu.out rfl hz ah (fun k hk=>by omega) (bM _) (by have:=hKn.out;have:=hn.out;unfold maxLen;omega)
   have hXS:Hid (Sl (fun k=>k<w.heap.size) wo (some ⟨gk,0,none⟩) c2 X):=((Xt.anyM (M':=fun k=>k<w.heap.size)).upto hB (fun k hk=>by have:=adz hk;omega)).jD (fun k hk hm=>by have:=adz hk;omega);have hGF:Hid (X.map (m.yH x I C)=m.Jj x I C):=by unfold Hid g_.Jj;rw [hKF.out]
   have Xv:Hid ((X.map (m.yH x I C)).length=X.length):=dJ _;clear hF hB hkC;go_wp2;go_ret2;exact ⟨some ⟨gk,0,none⟩,some ⟨w4.heap.size,0,none⟩,c2,X.length,X,X.map (m.yH x I C),ady Xv.out.symm,hKF,hGF,hXS.out,hGS.out,mH⟩
end
