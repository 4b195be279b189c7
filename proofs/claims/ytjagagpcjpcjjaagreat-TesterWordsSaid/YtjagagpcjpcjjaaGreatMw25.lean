/- Lemmas, each with its own conditions. -/
import Derived.Test.YtjagagpcjpcjjaaGreatMw23
set_option maxRecDepth 100000
set_option maxHeartbeats 32000000
namespace Go.Proofs.YtjagagpcjpcjjaaGreat
section
open Tryz
open Go.RowKit Go.Sort
structure Mv (L R:List (List Int)) (k p:Nat):Prop where
 len:R.length=L.length
 done:R.take k=Ad (L.take p)
 kl:k=(Ad (L.take p)).length
 rest:∀i,p<=i+1->R[i]? =L[i]?
theorem af3 (l:List (List Int)):(Ad l).length<=l.length:=by
 cases l with
 |nil=>simp [Ad]
 |cons v l=>have:=ZG v l;simp [Ad];exact this
theorem Mv.start {L:List (List Int)} {k:Nat} {x:List Int} (h0:0<k) (hd:Jc L k) (hx:L[k]? =some x) (hy:L[k-1]? =some x):Mv L L k (k+1):=by
 have hkl:k<L.length:=by
  by_cases e:k<L.length;·exact e
  rw [bZ ah] at hx;simp at hx
 have e:Ad (L.take (k+1))=L.take k:=by rw [AX h0 hx hy,bQ rfl];exact hd
 exact ⟨rfl,e.symm,by rw [e,dx];omega,fun _ _=>rfl⟩
theorem Mv.lt {L R:List (List Int)} {k p:Nat} (h:Mv L R k p) (hp:p<=L.length):k<=p:=by
 have:=af3 (L.take p);rw [dx] at this;have:=h.kl;omega
theorem Mv.same {L R:List (List Int)} {k p:Nat} {x:List Int} (h:Mv L R k p) (h0:0<p) (hx:L[p]? =some x) (hy:L[p-1]? =some x):Mv L R k (p+1):=by
 have e:Ad (L.take (p+1))=Ad (L.take p):=by rw [AX h0 hx hy,bQ rfl]
 exact ⟨h.len,by rw [e];exact h.done,by rw [e];exact h.kl,fun i hi=>h.rest i ah⟩
theorem Mv.diff {L R:List (List Int)} {k p:Nat} {x y:List Int} (h:Mv L R k p) (h0:0<p) (hk:k<p) (hx:L[p]? =some x) (hy:L[p-1]? =some y) (hxy:x≠y):Mv L (R.set k x) (k+1) (p+1):=by
 have hpl:p<L.length:=by
  by_cases e:p<L.length;·exact e
  rw [bZ ah] at hx;simp at hx
 have e:Ad (L.take (p+1))=Ad (L.take p)++[x]:=by rw [AX h0 hx hy,bO hxy]
 have hl:=h.len;refine ⟨iq h.len,?_,by rw [e,dB,<-h.kl];rfl,fun i hi=> ?_⟩;·rw [e,<-h.done,dh,asl (bM _),fI ah];rfl
 rw [dY ah];exact h.rest i ah
theorem Gc {a:Option Addr} {n m c:Nat} (h:n=m):Ending.returned (.slice a n c)= .returned (.slice a m c):=by rw [h]
theorem Cm {B g:Nat} {w:World} (hg:B<=g):∀(vs:List Value) (k:Nat) (w1:World),Below B w w1->Below B w (w1.setCells g k vs)
 |[],_,_,h=>h
 |v::vs,k,_,h=>Cm hg vs (k+1) _ (h.setCell (p:=⟨g,k,none⟩) hg v)
section
variable {w:World} {B g c bo:Nat} {L:List (List Int)}
theorem Xb (hO:Ow B (fun k=>k=g) w 49 (.slice (some ⟨g,0,none⟩) L.length c) L) (hg:B<=g) (hb:w.cell? ⟨bo,0,none⟩=some (.func (.func 88) #[] #[])) (NY:bo<B) (hn:L.length<1000000000000) (hBw:B<=w.heap.size):Calls prog 140 #[.slice (some ⟨g,0,none⟩) L.length c,.func (.func 141) #[] #[.pointer (some ⟨bo,0,none⟩)]] w fun e w'=>∃R:List (List Int),e= .returned (.slice (some ⟨g,0,none⟩) R.length c)/\Hid (R=Ad L)/\ Ow B (fun k=>k=g) w' 49 (.slice (some ⟨g,0,none⟩) R.length c) R/\Below B w w':=by
 have Px:L.length<=c/\c<=9223372036854775807:=by obtain ⟨a',c',hv,h1,h2⟩:=hO.shape;simp only [dU,aqo] at hv;obtain ⟨_,rfl⟩:=hv;exact ⟨h1,by unfold maxLen at h2;exact h2⟩
 have aix:=Px.1;have aiy:=Px.2;have HB:Hid (∀w',Below B w w'->w'.cell? ⟨bo,0,none⟩=some (.func (.func 88) #[] #[])):=fun w' h=>(h.cell (p:=⟨bo,0,none⟩) NY).trans hb;have hB0:=bP B w;clear Px hb;by_cases h2:L.length<2;·have HF:=bK (JX h2);go_enter func140,ntmps140;go_wp2;go_ret;exact ⟨L,rfl,HF.out,hO,hB0⟩
 go_enter func140,ntmps140;go_wp2;go_loopw [5] (fun i wr=>∃k:Nat,1<=k/\k<=L.length/\i= .int .i64 k/\Hid (Jc L k)/\Ow B (fun k=>k=g) wr 49 (.slice (some ⟨g,0,none⟩) L.length c) L/\Below B w wr/\B<=wr.heap.size) (fun i _=>L.length-(intOf i).toNat);case atStart=>exact ⟨1,ah,ah,rfl,Pf,hO,hB0,hBw⟩
 case round=>
  clear hO hB0 hBw;obtain ⟨k,hk1,hk,rfl,hD,hO,hB,hBw⟩:=hrel;obtain ⟨w1,rfl⟩:=iA wr;by_cases hlt:k<L.length
  ·obtain ⟨ax,x,cx,hcx, -,hx,hsx⟩:=(hO.drew).iD rfl hlt;obtain ⟨ay,y,cy,hcy, -,hy,hsy⟩:=(hO.drew).iD rfl (show k-1<L.length by omega);have af4:((k:Int)-1)=((k-1:Nat):Int):=ah;have hkw:IntKind.i64.wrap ((k-1:Nat):Int)=((k-1:Nat):Int):=eP _ ah;have hkl:k-1<L.length:=ah;have HC:=Pj hsx hsy (HB.out _ hB.drew);have hbd:=(bP w1.heap.size w1).drew;have wN:=hO.drew;have hBd:=hB.drew;have qp:B<=w1.drew.heap.size:=hBw;by_cases hxy:x=y
   ·rw [dw hxy] at HC;have HC:=bK HC;have hM0:=bK (Mv.start ah hD.out hx.out (by rw [hy.out,hxy]));clear hO hB hBw hsx hsy hbd hxy;go_wp2;refine iL (fun w'=>w'.cell? ⟨g,k,none⟩=some (.slice ax x.length cx)/\w'.cell? ⟨g,k-1,none⟩=some (.slice ay y.length cy)) [0,1,2,3,4,5,6,7,8,9] aB ?_;have hSd:=And.intro hcx hcy;clear hcx hcy;generalize hgg:w1.drew=w2 at*
    clear hgg;refine iZ [0,1,2,3,4,5,6,7,8,9] ?_;refine iK 10 fun K hK=> ?_;go_simp;refine (HC.out).mono ?_;rintro e w3 ⟨rfl,hb3⟩;have hgl:g<w2.heap.size:=(wN.lt g rfl).2;have kC:=And.intro ((hb3.cell (p:=⟨g,k,none⟩) hgl).trans hSd.1) ((hb3.cell (p:=⟨g,k-1,none⟩) hgl).trans hSd.2);have hO3:=wN.below hb3;have hB3:=hBd.trans (hb3.mono qp);have zN:B<=w3.heap.size:=dH qp hb3.size;refine hK _ _ (fun _=>kC) ?_;clear hK K kC hSd hb3 wN hBd qp HC;refine iH aB ?_ _;have hck:¬c=k:=ah;have aar:k<k+1:=ah;go_wp2;go_loopw [5,7] (fun v u wr=>∃(kk k2:Nat) (R:List (List Int)),1<=k2/\k2<=L.length-k/\kk<k+k2/\v= .int .i64 kk/\u= .int .i64 k2/\Hid (Mv L R kk (k+k2))/\Ow B (fun k=>k=g) wr 49 (.slice (some ⟨g,0,none⟩) L.length c) R/\Below B w wr/\B<=wr.heap.size) (fun _ u _=>L.length-(intOf u).toNat);case atStart=>exact ⟨k,1,L,ah,ah,aar,rfl,rfl,hM0,hO3,hB3,zN⟩
    case round=>
     clear hO3 hB3 zN hM0 aar;obtain ⟨kk,k2,R,amd,hk2,hkk,rfl,rfl,OD,hO,hB,hBw⟩:=hrel;obtain ⟨w4,rfl⟩:=iA wr;have LZ:L.length=R.length:=OD.out.len.symm;have HRL:=bK LZ;by_cases ni:k2<L.length-k
     ·have wP:(k2:Int)<((L.length-k:Nat):Int):=ah;obtain ⟨ax,x,cx,hcx, -,hx,hsx⟩:=(hO.drew).iD LZ (show k+k2<R.length by omega);obtain ⟨ay,y,cy,hcy, -,hy,hsy⟩:=(hO.drew).iD LZ (show k+(k2-1)<R.length by omega);have hxL:Hid (L[k+k2]? =some x):=bK (by rw [<-OD.out.rest _ ah];exact hx.out);have hyL:Hid (L[k+k2-1]? =some y):=bK (by rw [<-OD.out.rest _ ah,show k+k2-1=k+(k2-1) by omega];exact hy.out);have af4:((k2:Int)-1)=((k2-1:Nat):Int):=ah;have hkw:IntKind.i64.wrap ((k2-1:Nat):Int)=((k2-1:Nat):Int):=eP _ ah;have ame:k2-1<L.length-k:=ah;have HC:=Pj hsx hsy (HB.out _ hB.drew);have hbd:=(bP w4.heap.size w4).drew;have wN:=hO.drew;have hBd:=hB.drew;have qp:B<=w4.drew.heap.size:=hBw;by_cases hxy:x=y
      ·rw [dw hxy] at HC;have HC:=bK HC;have hM2:Hid (Mv L R kk (k+(k2+1))):=OD.out.same ah hxL.out (by rw [hyL.out,hxy]);clear hO hB hBw hsx hsy hbd hxy LZ;go_wp2;refine iL (fun w'=>w'.cell? ⟨g,k+k2,none⟩=some (.slice ax x.length cx)/\w'.cell? ⟨g,k+(k2-1),none⟩=some (.slice ay y.length cy)) [0,1,2,3,4,5,6,7,8,9,11] aB ?_;have hSd:=And.intro hcx hcy;clear hcx hcy;generalize hgg:w4.drew=w5 at*
       clear hgg;refine iZ [0,1,2,3,4,5,6,7,8,9] ?_;refine iK 10 fun K hK=> ?_;go_simp;refine (HC.out).mono ?_;rintro e w6 ⟨rfl,hb6⟩;have hgl:g<w5.heap.size:=(wN.lt g rfl).2;have uK:=And.intro ((hb6.cell (p:=⟨g,k+k2,none⟩) hgl).trans hSd.1) ((hb6.cell (p:=⟨g,k+(k2-1),none⟩) hgl).trans hSd.2);have lu:=wN.below hb6;have jo:=hBd.trans (hb6.mono qp);have pY:B<=w6.heap.size:=dH qp hb6.size;refine hK _ _ (fun _=>uK) ?_;clear hK K hSd hb6 wN hBd qp HC;refine iZ [11] ?_;clear uK;refine iH aB ?_ _;go_wp2;go_roundw;case rel=>exact ⟨kk,k2+1,R,ah,ah,ah,rfl,by go_num,hM2,lu,jo,pY⟩
       case measure=>exact bF
      rw [cZ hxy] at HC;have HC:=bK HC;have hM2:Hid (Mv L (R.set kk x) (kk+1) (k+(k2+1))):=OD.out.diff ah hkk hxL.out hyL.out hxy;have HSX:=bK hsx;clear hO hB hBw hsx hsy hbd hxy LZ;go_wp2;refine iL (fun w'=>w'.cell? ⟨g,k+k2,none⟩=some (.slice ax x.length cx)/\w'.cell? ⟨g,k+(k2-1),none⟩=some (.slice ay y.length cy)) [0,1,2,3,4,5,6,7,8,9,11] aB ?_;have hSd:=And.intro hcx hcy;clear hcx hcy;generalize hgg:w4.drew=w5 at*
      clear hgg;refine iZ [0,1,2,3,4,5,6,7,8,9] ?_;refine iK 10 fun K hK=> ?_;go_simp;refine (HC.out).mono ?_;rintro e w6 ⟨rfl,hb6⟩;have hgl:g<w5.heap.size:=(wN.lt g rfl).2;have uK:=And.intro ((hb6.cell (p:=⟨g,k+k2,none⟩) hgl).trans hSd.1) ((hb6.cell (p:=⟨g,k+(k2-1),none⟩) hgl).trans hSd.2);have lu:=wN.below hb6;have jo:=hBd.trans (hb6.mono qp);have pY:B<=w6.heap.size:=dH qp hb6.size;have HSX:=bK (HSX.out.below hb6);refine hK _ _ (fun _=>uK) ?_;clear hK K hSd hb6 wN hBd qp HC;refine iZ [11] ?_;obtain ⟨amf, -⟩:=uK;obtain ⟨az,z,cz,hcz,hfz, -, -⟩:=lu.iD HRL.out (show kk<R.length by have:=HRL.out;omega);have yR:=bK (lu.tH HRL.out rfl kk HSX.out);have jY:=bK (jo.setCell (p:=⟨g,kk,none⟩) hg (.slice ax x.length cx));have Xc:Hid (B<=(w6.setCell ⟨g,kk,none⟩ (.slice ax x.length cx)).heap.size):=bK (iq pY);have amg:kk<L.length:=ah;clear lu jo pY HSX;refine iH aB ?_ _;go_wp2;go_roundw;case rel=>exact ⟨kk+1,k2+1,R.set kk x,ah,ah,ah,by go_num,by go_num,hM2,yR.out,jY.out,Xc.out⟩
      case measure=>exact bF
     have wP:¬(k2:Int)<((L.length-k:Nat):Int):=ah;have amh:¬c=kk:=ah;have ami:kk<L.length:=ah
     have hcl:∀ty,(Builtin.clear_ #[22] ty #[.slice (some ⟨g,kk,none⟩) (L.length-kk) (c-kk)]).run prog w4= .ok (.tuple #[]) (w4.setCells g kk (List.replicate (L.length-kk) (.slice none 0 0))):=
      fun ty=>Lib.run_clear_slice w4 _ _ ty _ underlying22 zeroValue49 rfl rfl g kk _ _ ah (fun j hj=>by obtain ⟨az,z,cz,hcz,hfz, -, -⟩:=hO.iD LZ (show kk+j<R.length by omega);rw [hcz];rfl) (fun j hj=>by obtain ⟨az,z,cz,hcz,hfz, -, -⟩:=hO.iD LZ (show kk+j<R.length by omega);exact hfz)
     have hM3:Hid (R.take kk=Ad L/\(R.take kk).length=kk):=by have e:=OD.out.done;rw [show k+k2=L.length by omega,dV] at e;exact ⟨e,by rw [dx];omega⟩
     obtain ⟨R',e1,e2,uf⟩:=Ow.clear (M:=fun k=>k=g) rfl (L.length-kk) kk R w4 hO LZ ah;have aas:(R'.take kk).length=kk:=by rw [dx];omega
     have yF:=bK (uf.take e1.symm (show kk<=L.length by omega));have hE9:Hid (R'.take kk=Ad L):=bK (by rw [e2];exact hM3.out.1);have mH:Hid (Below B w (w4.setCells g kk (List.replicate (L.length-kk) (.slice none 0 0)))):=Cm hg _ _ _ hB;have HR':=bK aas;clear hO hB hBw OD hM3 uf e1 e2 aas LZ HRL;go_wp2;go_ret;refine ⟨R'.take kk,Gc HR'.out.symm,hE9,?_,mH.out⟩;rw [HR'.out];exact yF.out
   rw [cZ hxy] at HC;have HC:=bK HC;have hD2:=bK (JW ah hx.out hy.out hD.out hxy);clear hO hB hBw hsx hsy hbd hxy;go_wp2;refine iL (fun w'=>w'.cell? ⟨g,k,none⟩=some (.slice ax x.length cx)/\w'.cell? ⟨g,k-1,none⟩=some (.slice ay y.length cy)) [0,1,2,3,4,5,6,7,8,9] aB ?_;have hSd:=And.intro hcx hcy;clear hcx hcy;generalize hgg:w1.drew=w2 at*
   clear hgg;refine iZ [0,1,2,3,4,5,6,7,8,9] ?_;refine iK 10 fun K hK=> ?_;go_simp;refine (HC.out).mono ?_;rintro e w3 ⟨rfl,hb3⟩;have hgl:g<w2.heap.size:=(wN.lt g rfl).2;have kC:=And.intro ((hb3.cell (p:=⟨g,k,none⟩) hgl).trans hSd.1) ((hb3.cell (p:=⟨g,k-1,none⟩) hgl).trans hSd.2);have hO3:=wN.below hb3;have hB3:=hBd.trans (hb3.mono qp);have zN:B<=w3.heap.size:=dH qp hb3.size;refine hK _ _ (fun _=>kC) ?_;clear hK K kC hSd hb3 wN hBd qp HC;refine iH aB ?_ _;go_wp2;go_roundw;case rel=>exact ⟨k+1,ah,ah,by go_num,hD2,hO3,hB3,zN⟩
   case measure=>exact bF
  have HF:=bK (Pg hlt hD.out);go_wp2;go_ret;exact ⟨L,rfl,HF.out,hO,hB⟩
theorem Xd (hO:Ow B (fun k=>k=g) w 49 (.slice (some ⟨g,0,none⟩) L.length c) L) (hg:B<=g) (hb:w.cell? ⟨bo,0,none⟩=some (.func (.func 105) #[] #[])) (NY:bo<B) (hn:L.length<1000000000000) (hBw:B<=w.heap.size):Calls prog 140 #[.slice (some ⟨g,0,none⟩) L.length c,.func (.func 141) #[] #[.pointer (some ⟨bo,0,none⟩)]] w fun e w'=>∃R:List (List Int),e= .returned (.slice (some ⟨g,0,none⟩) R.length c)/\Hid (R=Ad L)/\ Ow B (fun k=>k=g) w' 49 (.slice (some ⟨g,0,none⟩) R.length c) R/\Below B w w':=by
 have Px:L.length<=c/\c<=9223372036854775807:=by obtain ⟨a',c',hv,h1,h2⟩:=hO.shape;simp only [dU,aqo] at hv;obtain ⟨_,rfl⟩:=hv;exact ⟨h1,by unfold maxLen at h2;exact h2⟩
 have aix:=Px.1;have aiy:=Px.2;have HB:Hid (∀w',Below B w w'->w'.cell? ⟨bo,0,none⟩=some (.func (.func 105) #[] #[])):=fun w' h=>(h.cell (p:=⟨bo,0,none⟩) NY).trans hb;have hB0:=bP B w;clear Px hb;by_cases h2:L.length<2;·have HF:=bK (JX h2);go_enter func140,ntmps140;go_wp2;go_ret;exact ⟨L,rfl,HF.out,hO,hB0⟩
 go_enter func140,ntmps140;go_wp2;go_loopw [5] (fun i wr=>∃k:Nat,1<=k/\k<=L.length/\i= .int .i64 k/\Hid (Jc L k)/\Ow B (fun k=>k=g) wr 49 (.slice (some ⟨g,0,none⟩) L.length c) L/\Below B w wr/\B<=wr.heap.size) (fun i _=>L.length-(intOf i).toNat);case atStart=>exact ⟨1,ah,ah,rfl,Pf,hO,hB0,hBw⟩
 case round=>
  clear hO hB0 hBw;obtain ⟨k,hk1,hk,rfl,hD,hO,hB,hBw⟩:=hrel;obtain ⟨w1,rfl⟩:=iA wr;by_cases hlt:k<L.length
  ·obtain ⟨ax,x,cx,hcx, -,hx,hsx⟩:=(hO.drew).iD rfl hlt;obtain ⟨ay,y,cy,hcy, -,hy,hsy⟩:=(hO.drew).iD rfl (show k-1<L.length by omega);have af4:((k:Int)-1)=((k-1:Nat):Int):=ah;have hkw:IntKind.i64.wrap ((k-1:Nat):Int)=((k-1:Nat):Int):=eP _ ah;have hkl:k-1<L.length:=ah;have HC:=Pk hsx hsy (HB.out _ hB.drew);have hbd:=(bP w1.heap.size w1).drew;have wN:=hO.drew;have hBd:=hB.drew;have qp:B<=w1.drew.heap.size:=hBw;by_cases hxy:x=y
   ·rw [dw hxy] at HC;have HC:=bK HC;have hM0:=bK (Mv.start ah hD.out hx.out (by rw [hy.out,hxy]));clear hO hB hBw hsx hsy hbd hxy;go_wp2;refine iL (fun w'=>w'.cell? ⟨g,k,none⟩=some (.slice ax x.length cx)/\w'.cell? ⟨g,k-1,none⟩=some (.slice ay y.length cy)) [0,1,2,3,4,5,6,7,8,9] aB ?_;have hSd:=And.intro hcx hcy;clear hcx hcy;generalize hgg:w1.drew=w2 at*
    clear hgg;refine iZ [0,1,2,3,4,5,6,7,8,9] ?_;refine iK 10 fun K hK=> ?_;go_simp;refine (HC.out).mono ?_;rintro e w3 ⟨rfl,hb3⟩;have hgl:g<w2.heap.size:=(wN.lt g rfl).2;have kC:=And.intro ((hb3.cell (p:=⟨g,k,none⟩) hgl).trans hSd.1) ((hb3.cell (p:=⟨g,k-1,none⟩) hgl).trans hSd.2);have hO3:=wN.below hb3;have hB3:=hBd.trans (hb3.mono qp);have zN:B<=w3.heap.size:=dH qp hb3.size;refine hK _ _ (fun _=>kC) ?_;clear hK K kC hSd hb3 wN hBd qp HC;refine iH aB ?_ _;have hck:¬c=k:=ah;have aar:k<k+1:=ah;go_wp2;go_loopw [5,7] (fun v u wr=>∃(kk k2:Nat) (R:List (List Int)),1<=k2/\k2<=L.length-k/\kk<k+k2/\v= .int .i64 kk/\u= .int .i64 k2/\Hid (Mv L R kk (k+k2))/\Ow B (fun k=>k=g) wr 49 (.slice (some ⟨g,0,none⟩) L.length c) R/\Below B w wr/\B<=wr.heap.size) (fun _ u _=>L.length-(intOf u).toNat);case atStart=>exact ⟨k,1,L,ah,ah,aar,rfl,rfl,hM0,hO3,hB3,zN⟩
    case round=>
     clear hO3 hB3 zN hM0 aar;obtain ⟨kk,k2,R,amd,hk2,hkk,rfl,rfl,OD,hO,hB,hBw⟩:=hrel;obtain ⟨w4,rfl⟩:=iA wr;have LZ:L.length=R.length:=OD.out.len.symm;have HRL:=bK LZ;by_cases ni:k2<L.length-k
     ·have wP:(k2:Int)<((L.length-k:Nat):Int):=ah;obtain ⟨ax,x,cx,hcx, -,hx,hsx⟩:=(hO.drew).iD LZ (show k+k2<R.length by omega);obtain ⟨ay,y,cy,hcy, -,hy,hsy⟩:=(hO.drew).iD LZ (show k+(k2-1)<R.length by omega);have hxL:Hid (L[k+k2]? =some x):=bK (by rw [<-OD.out.rest _ ah];exact hx.out);have hyL:Hid (L[k+k2-1]? =some y):=bK (by rw [<-OD.out.rest _ ah,show k+k2-1=k+(k2-1) by omega];exact hy.out);have af4:((k2:Int)-1)=((k2-1:Nat):Int):=ah;have hkw:IntKind.i64.wrap ((k2-1:Nat):Int)=((k2-1:Nat):Int):=eP _ ah;have ame:k2-1<L.length-k:=ah;have HC:=Pk hsx hsy (HB.out _ hB.drew);have hbd:=(bP w4.heap.size w4).drew;have wN:=hO.drew;have hBd:=hB.drew;have qp:B<=w4.drew.heap.size:=hBw;by_cases hxy:x=y
      ·rw [dw hxy] at HC;have HC:=bK HC;have hM2:Hid (Mv L R kk (k+(k2+1))):=OD.out.same ah hxL.out (by rw [hyL.out,hxy]);clear hO hB hBw hsx hsy hbd hxy LZ;go_wp2;refine iL (fun w'=>w'.cell? ⟨g,k+k2,none⟩=some (.slice ax x.length cx)/\w'.cell? ⟨g,k+(k2-1),none⟩=some (.slice ay y.length cy)) [0,1,2,3,4,5,6,7,8,9,11] aB ?_;have hSd:=And.intro hcx hcy;clear hcx hcy;generalize hgg:w4.drew=w5 at*
       clear hgg;refine iZ [0,1,2,3,4,5,6,7,8,9] ?_;refine iK 10 fun K hK=> ?_;go_simp;refine (HC.out).mono ?_;rintro e w6 ⟨rfl,hb6⟩;have hgl:g<w5.heap.size:=(wN.lt g rfl).2;have uK:=And.intro ((hb6.cell (p:=⟨g,k+k2,none⟩) hgl).trans hSd.1) ((hb6.cell (p:=⟨g,k+(k2-1),none⟩) hgl).trans hSd.2);have lu:=wN.below hb6;have jo:=hBd.trans (hb6.mono qp);have pY:B<=w6.heap.size:=dH qp hb6.size;refine hK _ _ (fun _=>uK) ?_;clear hK K hSd hb6 wN hBd qp HC;refine iZ [11] ?_;clear uK;refine iH aB ?_ _;go_wp2;go_roundw;case rel=>exact ⟨kk,k2+1,R,ah,ah,ah,rfl,by go_num,hM2,lu,jo,pY⟩
       case measure=>exact bF
      rw [cZ hxy] at HC;have HC:=bK HC;have hM2:Hid (Mv L (R.set kk x) (kk+1) (k+(k2+1))):=OD.out.diff ah hkk hxL.out hyL.out hxy;have HSX:=bK hsx;clear hO hB hBw hsx hsy hbd hxy LZ;go_wp2;refine iL (fun w'=>w'.cell? ⟨g,k+k2,none⟩=some (.slice ax x.length cx)/\w'.cell? ⟨g,k+(k2-1),none⟩=some (.slice ay y.length cy)) [0,1,2,3,4,5,6,7,8,9,11] aB ?_;have hSd:=And.intro hcx hcy;clear hcx hcy;generalize hgg:w4.drew=w5 at*
      clear hgg;refine iZ [0,1,2,3,4,5,6,7,8,9] ?_;refine iK 10 fun K hK=> ?_;go_simp;refine (HC.out).mono ?_;rintro e w6 ⟨rfl,hb6⟩;have hgl:g<w5.heap.size:=(wN.lt g rfl).2;have uK:=And.intro ((hb6.cell (p:=⟨g,k+k2,none⟩) hgl).trans hSd.1) ((hb6.cell (p:=⟨g,k+(k2-1),none⟩) hgl).trans hSd.2);have lu:=wN.below hb6;have jo:=hBd.trans (hb6.mono qp);have pY:B<=w6.heap.size:=dH qp hb6.size;have HSX:=bK (HSX.out.below hb6);refine hK _ _ (fun _=>uK) ?_;clear hK K hSd hb6 wN hBd qp HC;refine iZ [11] ?_;obtain ⟨amf, -⟩:=uK;obtain ⟨az,z,cz,hcz,hfz, -, -⟩:=lu.iD HRL.out (show kk<R.length by have:=HRL.out;omega);have yR:=bK (lu.tH HRL.out rfl kk HSX.out);have jY:=bK (jo.setCell (p:=⟨g,kk,none⟩) hg (.slice ax x.length cx));have Xc:Hid (B<=(w6.setCell ⟨g,kk,none⟩ (.slice ax x.length cx)).heap.size):=bK (iq pY);have amg:kk<L.length:=ah;clear lu jo pY HSX;refine iH aB ?_ _;go_wp2;go_roundw;case rel=>exact ⟨kk+1,k2+1,R.set kk x,ah,ah,ah,by go_num,by go_num,hM2,yR.out,jY.out,Xc.out⟩
      case measure=>exact bF
     have wP:¬(k2:Int)<((L.length-k:Nat):Int):=ah;have amh:¬c=kk:=ah;have ami:kk<L.length:=ah
     have hcl:∀ty,(Builtin.clear_ #[22] ty #[.slice (some ⟨g,kk,none⟩) (L.length-kk) (c-kk)]).run prog w4= .ok (.tuple #[]) (w4.setCells g kk (List.replicate (L.length-kk) (.slice none 0 0))):=
      fun ty=>Lib.run_clear_slice w4 _ _ ty _ underlying22 zeroValue49 rfl rfl g kk _ _ ah (fun j hj=>by obtain ⟨az,z,cz,hcz,hfz, -, -⟩:=hO.iD LZ (show kk+j<R.length by omega);rw [hcz];rfl) (fun j hj=>by obtain ⟨az,z,cz,hcz,hfz, -, -⟩:=hO.iD LZ (show kk+j<R.length by omega);exact hfz)
     have hM3:Hid (R.take kk=Ad L/\(R.take kk).length=kk):=by have e:=OD.out.done;rw [show k+k2=L.length by omega,dV] at e;exact ⟨e,by rw [dx];omega⟩
     obtain ⟨R',e1,e2,uf⟩:=Ow.clear (M:=fun k=>k=g) rfl (L.length-kk) kk R w4 hO LZ ah;have aas:(R'.take kk).length=kk:=by rw [dx];omega
     have yF:=bK (uf.take e1.symm (show kk<=L.length by omega));have hE9:Hid (R'.take kk=Ad L):=bK (by rw [e2];exact hM3.out.1);have mH:Hid (Below B w (w4.setCells g kk (List.replicate (L.length-kk) (.slice none 0 0)))):=Cm hg _ _ _ hB;have HR':=bK aas;clear hO hB hBw OD hM3 uf e1 e2 aas LZ HRL;go_wp2;go_ret;refine ⟨R'.take kk,Gc HR'.out.symm,hE9,?_,mH.out⟩;rw [HR'.out];exact yF.out
   rw [cZ hxy] at HC;have HC:=bK HC;have hD2:=bK (JW ah hx.out hy.out hD.out hxy);clear hO hB hBw hsx hsy hbd hxy;go_wp2;refine iL (fun w'=>w'.cell? ⟨g,k,none⟩=some (.slice ax x.length cx)/\w'.cell? ⟨g,k-1,none⟩=some (.slice ay y.length cy)) [0,1,2,3,4,5,6,7,8,9] aB ?_;have hSd:=And.intro hcx hcy;clear hcx hcy;generalize hgg:w1.drew=w2 at*
   clear hgg;refine iZ [0,1,2,3,4,5,6,7,8,9] ?_;refine iK 10 fun K hK=> ?_;go_simp;refine (HC.out).mono ?_;rintro e w3 ⟨rfl,hb3⟩;have hgl:g<w2.heap.size:=(wN.lt g rfl).2;have kC:=And.intro ((hb3.cell (p:=⟨g,k,none⟩) hgl).trans hSd.1) ((hb3.cell (p:=⟨g,k-1,none⟩) hgl).trans hSd.2);have hO3:=wN.below hb3;have hB3:=hBd.trans (hb3.mono qp);have zN:B<=w3.heap.size:=dH qp hb3.size;refine hK _ _ (fun _=>kC) ?_;clear hK K kC hSd hb3 wN hBd qp HC;refine iH aB ?_ _;go_wp2;go_roundw;case rel=>exact ⟨k+1,ah,ah,by go_num,hD2,hO3,hB3,zN⟩
   case measure=>exact bF
  have HF:=bK (Pg hlt hD.out);go_wp2;go_ret;exact ⟨L,rfl,HF.out,hO,hB⟩
end
end
section
open Tryz
open Go.RowKit Go.Sort Go.Shelf
def Fr (w:World) (n0 g j:Nat) (R:List (List Int)):Prop:=∀i r,i<j->R[i]? =some r->∃a c,w.cell? ⟨g,i,none⟩=some (.slice a r.length c)/\Sl (fun k=>k<n0\/k=g) w a c r
section
variable {w w':World} {B n0 g j n c:Nat} {R:List (List Int)} {T:TypeId}
theorem Fr.below (h:Fr w n0 g j R) (hb:Below w.heap.size w w') (hg:g<w.heap.size):Fr w' n0 g j R:=by
 intro i r hi hr;obtain ⟨a,c,h1,h2⟩:=h i r hi hr;exact ⟨a,c,(hb.cell (p:=⟨g,i,none⟩) hg).trans h1,h2.below hb⟩
theorem Fr.step (h:Fr w n0 g j R) {a':Option Addr} {c':Nat} {r:List Int} (hr:R[j]? =some r) (hs:Sl (fun k=>k<n0\/k=g) w a' c' r) (hO:Ow B (fun k=>k=g) (w.setCell ⟨g,j,none⟩ (.slice a' r.length c')) T (.slice (some ⟨g,0,none⟩) R.length c) R) (hc:∃v,w.cell? ⟨g,j,none⟩=some v):Fr (w.setCell ⟨g,j,none⟩ (.slice a' r.length c')) n0 g (j+1) R:=by
 intro i x hi hx;by_cases e:i=j
 ·subst e;rw [hr] at hx;obtain rfl:r=x:=iq hx;obtain ⟨v,hv⟩:=hc;refine ⟨a',c',?_,hs.ext (Ext.setCell w (p:=⟨g,i,none⟩) (.inr rfl) _)⟩
  obtain ⟨a1,x1,c1,h1, -,hx1, -⟩:=hO.iD rfl (show i<R.length by
   by_cases e:i<R.length;·exact e
   rw [bZ ah] at hr;simp at hr)
  exact eU _ _ _ hv
 obtain ⟨a,c,h1,h2⟩:=h i x ah hx;refine ⟨a,c,?_,h2.ext (Ext.setCell w (p:=⟨g,j,none⟩) (.inr rfl) _)⟩;rw [dR _ _ _ _ (fun h=>e (iq ((aqQ Addr.off h).symm)))];exact h1
theorem Fr.jD (h:Fr w n0 g R.length R) (hO:Ow B (fun k=>k=g) w T (.slice (some ⟨g,0,none⟩) R.length c) R) (hg:n0<=g):Sl (fun k=>k<n0) w (some ⟨g,0,none⟩) c R:=by
 obtain ⟨a',c',hv,h1,h2⟩:=hO.shape;simp only [dU,aqo] at hv;obtain ⟨_,rfl⟩:=hv;refine ⟨h1,h2,fun j x hj=> ?_⟩;have hjl:j<R.length:=by
  by_cases e:j<R.length;·exact e
  rw [bZ ah] at hj;simp at hj
 obtain ⟨a,c2,h3,h4⟩:=h j x hjl hj;refine ⟨g,0,[.slice a x.length c2],rfl,(hO.lt g rfl).2,ah,⟨a,c2,rfl,h4.anti fun k _ hk=> .inl hk⟩,fun i u hi=> ?_⟩;match i,hi with
 |0,hi=>simp at hi;subst hi;simpa [GR.sz] using h3
end
section
variable {M:Nat->Prop} {w:World} {a:Option Addr} {c:Nat} {l:List (List Int)}
theorem Py (p:Option Addr) (cap:Nat) (fv:Value) (w:World):Calls prog 139 #[.slice p 0 cap,fv] w fun e w'=>e= .returned (.tuple #[])/\w'=w:=by
 have h:=AnyF.slices_SortFunc_none (P:=prog) (ρ:=sortRows_ren) {sortRows with} p cap fv w;exact h
theorem Pz (p:Option Addr) (cap:Nat) (fv:Value) (w:World):Calls prog 140 #[.slice p 0 cap,fv] w fun e w'=>e= .returned (.slice p 0 cap)/\w'=w:=by
 go_enter func140,ntmps140;go_wp2;go_ret;exact ⟨rfl,rfl⟩
theorem set_self {α:Type} {l:List α} {j:Nat} {x:α} (h:l[j]? =some x):l.set j x=l:=by
 apply eY;intro i;by_cases e:j=i
 ·subst e;rw [ard];simp only [aqj];split;·exact h.symm
  rename_i h2;rw [bZ ah] at h;simp at h
 rw [dY e]
theorem SQ (hs:Sl M w a c l) (hn:l.length<1000000000000) (hrl:Hid (∀r∈l,r.length<1000000000000)):Calls prog 87 #[.slice a l.length c,.func (.func 88) #[] #[]] w fun e w'=>∃(a':Option Addr) (c':Nat) (L:List (List Int)),e= .returned (.slice a' L.length c')/\Hid (L=nK iM l)/\ Sl (fun k=>k<w.heap.size) w' a' c' L/\Below w.heap.size w w':=by
 have hB0:=iB w (.cells #[.func (.func 88) #[] #[]] 85);have hb0:(w.alloc (.cells #[.func (.func 88) #[] #[]] 85)).cell? ⟨w.heap.size,0,none⟩=some (.func (.func 88) #[] #[]):=aH;have hz0:(w.alloc (.cells #[.func (.func 88) #[] #[]] 85)).heap.size=w.heap.size+1:=aH;have HZ0:=bK hz0;have HC:=bK (FE (hs.alloc (.cells #[.func (.func 88) #[] #[]] 85)) hn);clear hs hz0;by_cases h0:l=[]
 ·have SS:Hid (([]:List (List Int))=nK iM l):=by unfold Hid;rw [h0];rfl
  have H0:=bK h0;clear h0;go_enter func87,ntmps87;go_wp2_with fail;generalize hgg:w.alloc (.cells #[.func (.func 88) #[] #[]] 85)=w0 at*
  clear hgg;refine (HC.out).mono ?_;rintro e w1 ⟨a1,c1,l1,rfl,hl1,kH,hb1⟩;have hB1:=hB0.trans (hb1.mono (ig HZ0.out));obtain rfl:l1=[]:=by rw [hl1.out,H0.out]
  have hc1:Hid (Sl (fun k=>k<w.heap.size) w1 a1 c1 ([]:List (List Int))):=by obtain ⟨a',c',hv,_,h2⟩:=kH.shape;simp only [dU,aqo] at hv;obtain ⟨_,rfl⟩:=hv;exact Sl.nil _ _ _ h2
  have hb2:=(hb1.cell (p:=⟨w.heap.size,0,none⟩) (by have:=HZ0.out;show w.heap.size<_;omega)).trans hb0;clear hb0 hb1 kH hl1 HC;go_wp2_with (first|(go_at_call 139;refine (Py _ _ _ _).mono ?_;rintro e w2 ⟨rfl,hw2⟩;obtain rfl:w1=w2:=hw2.symm)|(go_at_call 140;refine (Pz _ _ _ _).mono ?_;rintro e w2 ⟨rfl,hw2⟩;obtain rfl:w1=w2:=hw2.symm));refine wp_loop_rounds 1 ?_;rw [rounds_succ];go_wp2;go_ret;exact ⟨a1,c1,[],rfl,SS,hc1.out,hB1⟩
 go_enter func87,ntmps87;go_wp2_with fail;generalize hgg:w.alloc (.cells #[.func (.func 88) #[] #[]] 85)=w0 at*
 clear hgg;refine (HC.out).mono ?_;rintro e w1 ⟨a1,c1,l1,rfl,hl1,kH,hb1⟩;have hB1:=hb1;have Wx:=hb1.size;have hb2:=(hb1.cell (p:=⟨w.heap.size,0,none⟩) (by have:=HZ0.out;show w.heap.size<_;omega)).trans hb0;obtain ⟨g,rfl,hg,hg1⟩:=jZ kH (List.length_pos_iff.2 (by rw [hl1.out];exact h0));have HS:=bK (JL (cf:=iM) (kH) hg hg (by rw [hl1.out];exact hn) FJ jF (enters_of func88 aB rfl));clear h0 hb0 hb1 HC;go_wp2_with fail;refine (HS.out).mono ?_;rintro e w2 ⟨rfl,L2,hL2,hO2,L_⟩;have qM:L2.length=l.length:=by rw [hL2.out.1.length_eq,hl1.out]
 have hB2:=hB1.trans L_;have hb3:=(L_.cell (p:=⟨w.heap.size,0,none⟩) (by have:=HZ0.out;show w.heap.size<_;omega)).trans hb2;have Az:=L_.size;have e12:l1.length=L2.length:=by rw [qM,hl1.out]
 have HK:=bK (Xb hO2 hg hb3 (ig HZ0.out) ah ah);have hE2:Hid (Ad L2=nK iM l):=Vb jF (by rw [<-hl1.out];exact hL2.out.1) hL2.out.2;rw [e12];clear HS hb2 L_ hb3 kH hO2 hl1 hB1 e12 qM;go_wp2_with fail;refine (HK.out).mono ?_;rintro e w3 ⟨R,rfl,hR,hO3,hb3⟩;have hB3:=hB2.trans hb3;have WL:=hb3.size;have hRR:Hid (R=nK iM l):=bK (by rw [hR.out,hE2.out]);have hRl:=hO3.le;have hRm:Hid (∀r∈R,r.length<1000000000000):=fun r hr=>hrl.out r ((j_ jF).1 (by rw [<-hRR.out];exact hr));have zN:w0.heap.size<=w3.heap.size:=ah;have Gd:Hid (Fr w3 w.heap.size g 0 R):=fun i r hi=>by omega
 clear HK hR hE2 hB2 hb3 hL2;go_wp2;go_loopw [18] (fun i wr=>∃j:Nat,j<=R.length/\i= .int .i64 j/\Ow w0.heap.size (fun k=>k=g) wr 49 (.slice (some ⟨g,0,none⟩) R.length c1) R/\Hid (Fr wr w.heap.size g j R)/\Below w0.heap.size w0 wr/\w0.heap.size<=wr.heap.size) (fun i _=>R.length-(intOf i).toNat);case atStart=>exact ⟨0,ah,rfl,hO3,Gd,hB3,zN⟩
 case round=>
  clear hO3 Gd hB3 zN;obtain ⟨j,hj,rfl,hO,hF,hB,hBw⟩:=hrel;obtain ⟨w4,rfl⟩:=iA wr;by_cases hlt:j<R.length
  ·obtain ⟨ax,x,cx,hcx, -,hx,hsx⟩:=hO.iD rfl hlt;have HC:=bK (uJ hsx (hRm.out x (bV hx.out)));clear hsx;go_wp2_with fail;refine (HC.out).mono ?_;rintro e w5 ⟨a5,c5,l5,rfl,hl5,hs5,hb5⟩;have kV:=hO.below hb5;have hgl:g<w4.heap.size:=(hO.lt g rfl).2;have hF5:=bK (hF.out.below hb5 hgl);have jw:=hB.trans (hb5.mono hBw);have zL:w0.heap.size<=w5.heap.size:=dH hBw hb5.size;obtain ⟨ay,y,cy,hcy,hfy, -, -⟩:=kV.iD rfl hlt;have e5:Hid (R.set j l5=R):=set_self (by rw [hl5.out];exact hx.out);have lu:=kV.tH (r:=l5) rfl rfl j (hs5.anti fun k _ hk=>by rw [hk];exact hgl);rw [e5.out] at lu;have YH:=bK (Fr.step (r:=l5) hF5.out (by rw [hl5.out];exact hx.out) (hs5.anti fun k _ hk=>by have:=HZ0.out;omega) lu ⟨_,hcy⟩);have lu:=bK lu;have jo:=bK (jw.setCell (p:=⟨g,j,none⟩) hg (.slice a5 l5.length c5));have pY:Hid (w0.heap.size<=(w5.setCell ⟨g,j,none⟩ (.slice a5 l5.length c5)).heap.size):=bK (iq zL);clear hO hF hB hBw hs5 kV hF5 jw zL hb5 HC e5 hcx;go_wp2;go_roundw;case rel=>exact ⟨j+1,ah,by go_num,lu.out,YH,jo.out,pY.out⟩
   case measure=>exact bF
  have hjR:j=R.length:=ah;have zh:Hid (Sl (fun k=>k<w.heap.size) w4 (some ⟨g,0,none⟩) c1 R):=Fr.jD (by rw [<-hjR];exact hF.out) hO (ig HZ0.out);have jh:=hB0.trans (hB.mono (ig HZ0.out));clear hO hF hjR;go_wp2;go_ret;exact ⟨some ⟨g,0,none⟩,c1,R,rfl,hRR,zh.out,jh⟩
theorem SV (hs:Sl M w a c l) (hn:l.length<1000000000000) (hrl:Hid (∀r∈l,r.length<1000000000000)):Calls prog 87 #[.slice a l.length c,.func (.func 105) #[] #[]] w fun e w'=>∃(a':Option Addr) (c':Nat) (L:List (List Int)),e= .returned (.slice a' L.length c')/\Hid (L=nK jc l)/\ Sl (fun k=>k<w.heap.size) w' a' c' L/\Below w.heap.size w w':=by
 have hB0:=iB w (.cells #[.func (.func 105) #[] #[]] 85);have hb0:(w.alloc (.cells #[.func (.func 105) #[] #[]] 85)).cell? ⟨w.heap.size,0,none⟩=some (.func (.func 105) #[] #[]):=aH;have hz0:(w.alloc (.cells #[.func (.func 105) #[] #[]] 85)).heap.size=w.heap.size+1:=aH;have HZ0:=bK hz0;have HC:=bK (FE (hs.alloc (.cells #[.func (.func 105) #[] #[]] 85)) hn);clear hs hz0;by_cases h0:l=[]
 ·have SS:Hid (([]:List (List Int))=nK jc l):=by unfold Hid;rw [h0];rfl
  have H0:=bK h0;clear h0;go_enter func87,ntmps87;go_wp2_with fail;generalize hgg:w.alloc (.cells #[.func (.func 105) #[] #[]] 85)=w0 at*
  clear hgg;refine (HC.out).mono ?_;rintro e w1 ⟨a1,c1,l1,rfl,hl1,kH,hb1⟩;have hB1:=hB0.trans (hb1.mono (ig HZ0.out));obtain rfl:l1=[]:=by rw [hl1.out,H0.out]
  have hc1:Hid (Sl (fun k=>k<w.heap.size) w1 a1 c1 ([]:List (List Int))):=by obtain ⟨a',c',hv,_,h2⟩:=kH.shape;simp only [dU,aqo] at hv;obtain ⟨_,rfl⟩:=hv;exact Sl.nil _ _ _ h2
  have hb2:=(hb1.cell (p:=⟨w.heap.size,0,none⟩) (by have:=HZ0.out;show w.heap.size<_;omega)).trans hb0;clear hb0 hb1 kH hl1 HC;go_wp2_with (first|(go_at_call 139;refine (Py _ _ _ _).mono ?_;rintro e w2 ⟨rfl,hw2⟩;obtain rfl:w1=w2:=hw2.symm)|(go_at_call 140;refine (Pz _ _ _ _).mono ?_;rintro e w2 ⟨rfl,hw2⟩;obtain rfl:w1=w2:=hw2.symm));refine wp_loop_rounds 1 ?_;rw [rounds_succ];go_wp2;go_ret;exact ⟨a1,c1,[],rfl,SS,hc1.out,hB1⟩
 go_enter func87,ntmps87;go_wp2_with fail;generalize hgg:w.alloc (.cells #[.func (.func 105) #[] #[]] 85)=w0 at*
 clear hgg;refine (HC.out).mono ?_;rintro e w1 ⟨a1,c1,l1,rfl,hl1,kH,hb1⟩;have hB1:=hb1;have Wx:=hb1.size;have hb2:=(hb1.cell (p:=⟨w.heap.size,0,none⟩) (by have:=HZ0.out;show w.heap.size<_;omega)).trans hb0;obtain ⟨g,rfl,hg,hg1⟩:=jZ kH (List.length_pos_iff.2 (by rw [hl1.out];exact h0));have HS:=bK (JL (cf:=jc) (kH) hg hg (by rw [hl1.out];exact hn) Ph rG (enters_of func105 aB rfl));clear h0 hb0 hb1 HC;go_wp2_with fail;refine (HS.out).mono ?_;rintro e w2 ⟨rfl,L2,hL2,hO2,L_⟩;have qM:L2.length=l.length:=by rw [hL2.out.1.length_eq,hl1.out]
 have hB2:=hB1.trans L_;have hb3:=(L_.cell (p:=⟨w.heap.size,0,none⟩) (by have:=HZ0.out;show w.heap.size<_;omega)).trans hb2;have Az:=L_.size;have e12:l1.length=L2.length:=by rw [qM,hl1.out]
 have HK:=bK (Xd hO2 hg hb3 (ig HZ0.out) ah ah);have hE2:Hid (Ad L2=nK jc l):=Vb rG (by rw [<-hl1.out];exact hL2.out.1) hL2.out.2;rw [e12];clear HS hb2 L_ hb3 kH hO2 hl1 hB1 e12 qM;go_wp2_with fail;refine (HK.out).mono ?_;rintro e w3 ⟨R,rfl,hR,hO3,hb3⟩;have hB3:=hB2.trans hb3;have WL:=hb3.size;have hRR:Hid (R=nK jc l):=bK (by rw [hR.out,hE2.out]);have hRl:=hO3.le;have hRm:Hid (∀r∈R,r.length<1000000000000):=fun r hr=>hrl.out r ((j_ rG).1 (by rw [<-hRR.out];exact hr));have zN:w0.heap.size<=w3.heap.size:=ah;have Gd:Hid (Fr w3 w.heap.size g 0 R):=fun i r hi=>by omega
 clear HK hR hE2 hB2 hb3 hL2;go_wp2;go_loopw [18] (fun i wr=>∃j:Nat,j<=R.length/\i= .int .i64 j/\Ow w0.heap.size (fun k=>k=g) wr 49 (.slice (some ⟨g,0,none⟩) R.length c1) R/\Hid (Fr wr w.heap.size g j R)/\Below w0.heap.size w0 wr/\w0.heap.size<=wr.heap.size) (fun i _=>R.length-(intOf i).toNat);case atStart=>exact ⟨0,ah,rfl,hO3,Gd,hB3,zN⟩
 case round=>
  clear hO3 Gd hB3 zN;obtain ⟨j,hj,rfl,hO,hF,hB,hBw⟩:=hrel;obtain ⟨w4,rfl⟩:=iA wr;by_cases hlt:j<R.length
  ·obtain ⟨ax,x,cx,hcx, -,hx,hsx⟩:=hO.iD rfl hlt;have HC:=bK (uJ hsx (hRm.out x (bV hx.out)));clear hsx;go_wp2_with fail;refine (HC.out).mono ?_;rintro e w5 ⟨a5,c5,l5,rfl,hl5,hs5,hb5⟩;have kV:=hO.below hb5;have hgl:g<w4.heap.size:=(hO.lt g rfl).2;have hF5:=bK (hF.out.below hb5 hgl);have jw:=hB.trans (hb5.mono hBw);have zL:w0.heap.size<=w5.heap.size:=dH hBw hb5.size;obtain ⟨ay,y,cy,hcy,hfy, -, -⟩:=kV.iD rfl hlt;have e5:Hid (R.set j l5=R):=set_self (by rw [hl5.out];exact hx.out);have lu:=kV.tH (r:=l5) rfl rfl j (hs5.anti fun k _ hk=>by rw [hk];exact hgl);rw [e5.out] at lu;have YH:=bK (Fr.step (r:=l5) hF5.out (by rw [hl5.out];exact hx.out) (hs5.anti fun k _ hk=>by have:=HZ0.out;omega) lu ⟨_,hcy⟩);have lu:=bK lu;have jo:=bK (jw.setCell (p:=⟨g,j,none⟩) hg (.slice a5 l5.length c5));have pY:Hid (w0.heap.size<=(w5.setCell ⟨g,j,none⟩ (.slice a5 l5.length c5)).heap.size):=bK (iq zL);clear hO hF hB hBw hs5 kV hF5 jw zL hb5 HC e5 hcx;go_wp2;go_roundw;case rel=>exact ⟨j+1,ah,by go_num,lu.out,YH,jo.out,pY.out⟩
   case measure=>exact bF
  have hjR:j=R.length:=ah;have zh:Hid (Sl (fun k=>k<w.heap.size) w4 (some ⟨g,0,none⟩) c1 R):=Fr.jD (by rw [<-hjR];exact hF.out) hO (ig HZ0.out);have jh:=hB0.trans (hB.mono (ig HZ0.out));clear hO hF hjR;go_wp2;go_ret;exact ⟨some ⟨g,0,none⟩,c1,R,rfl,hRR,zh.out,jh⟩
theorem sK (hs:Sl M w a c l) (hn:l.length<1000000000000) (hrl:Hid (∀r∈l,r.length<1000000000000)):Calls prog 38 #[.slice a l.length c] w fun e w'=>∃(a':Option Addr) (c':Nat) (L:List (List Int)),e= .returned (.slice a' L.length c')/\Hid (L=nK iM l)/\ Sl (fun k=>k<w.heap.size) w' a' c' L/\Below w.heap.size w w':=by
 have HC:=bK (SQ hs hn hrl);clear hs;go_enter func38,ntmps38;go_wp2_with fail;refine (HC.out).mono ?_;rintro e w1 ⟨a1,c1,L,rfl,hL,hs1,hb1⟩;go_wp2;go_ret;exact ⟨a1,c1,L,rfl,hL,hs1,hb1⟩
end
end
section
open Tryz
open Go.RowKit
theorem Xe {w w':World} (h:Hid (∃n,w'=w.drewN n)) (B:Nat):Below B w w':=by
 obtain ⟨n,rfl⟩:=h.out;exact below_drewN _ _ _
def mK (l:List (List Int)):Prop:=l.length<1000000000/\∀r∈l,r.length<1000000000
section
variable {M M':Nat->Prop} {w:World} {a b:Option Addr} {c d:Nat} {l l2:List (List Int)}
theorem A_ (hs:Sl M w a c l) (hl:Hid (mK l)):Calls prog 51 #[.slice a l.length c] w fun e w'=>∃(a':Option Addr) (c':Nat) (L:List (List Int)),e= .returned (.slice a' L.length c')/\Hid (L=pO l)/\ Sl (fun k=>k<w.heap.size) w' a' c' L/\Below w.heap.size w w':=by
 have HC:=bK (SV hs (ig hl.out.1) (bK fun r hr=>by have:=hl.out.2 r hr;omega));clear hs;go_enter func51,ntmps51;go_wp2_with fail;refine (HC.out).mono ?_;rintro e w1 ⟨a1,c1,L,rfl,hL,hs1,hb1⟩;have hz1:=hb1.size;have aiz:L.length<1000000000:=by have h1:=vM (cf:=jc) l;have h2:=hl.out.1;rw [hL.out];omega
 have HS:=bK (Lx hs1);have HSF:=bK hs1;have HLr:Hid (∀r∈L,r.length<1000000000):=fun r hr=>hl.out.2 r ((j_ rG).1 (by rw [<-hL.out];exact hr));have kJ:Ow (α:=List Int) w1.heap.size (fun k=>w1.heap.size<=k) w1 49 (.slice none 0 0) []:=Ow.nil;have hB0:=bP w1.heap.size w1;clear HC hs1;go_wp2
 go_loopw [4,11] (fun v i wr=>∃(k:Nat) (a':Option Addr) (c':Nat) (K:List (List Int)),k<=L.length/\i= .int .i64 k/\v= .slice a' K.length c'/\Hid (K=nM L k)/\
  Ow w1.heap.size (fun k=>w1.heap.size<=k) wr 49 (.slice a' K.length c') K/\Below w1.heap.size w1 wr) (fun _ i _=>L.length-(intOf i).toNat)
 case atStart=>exact ⟨0,none,0,[],ah,rfl,rfl,rfl,kJ,hB0⟩
 case round=>
  clear kJ hB0;obtain ⟨k,a2,c2,K,hk,rfl,rfl,hK,hO,hB⟩:=hrel;obtain ⟨w2,rfl⟩:=iA wr;have aiA:K.length<=k:=by rw [hK.out];exact Sk L k
  by_cases hlt:k<L.length
  ·obtain ⟨b1,o1,ax,x,cx,rfl,hcx,hx,hsx⟩:=(HS.out.below hB).iD hlt;have hgx:Hid (L.getD k []=x):=bK (by rw [bS,hx.out];rfl);have Mc:=hB.size;by_cases Dm:k+1=L.length
   ·have hlb:(((k:Int)+1)==((L.length:Nat):Int))=true:=aJ;have hKn:Hid (nM L (k+1)=K++[x]):=by
     have e:qX L k=true:=by unfold qX;simp [Dm]
     unfold Hid;rw [xA,bQ e,hK.out,hgx.out]
    have pz:K.length<1000000000000:=ah;have hMo:∀k,(Value.slice a2 K.length c2).ownBlock=some k->w1.heap.size<=k:=fun k hk=>(hO.lt k hk).1;clear Dm;go_wp2_with (at_builtin;refine jl (r:=x) (ar:=ax) (cr:=cx) rfl rfl underlying22 iI rfl rfl (hO.alloc _) hMo bf (hsx.alloc _) pz aJ ?_);intro a4 c4 K4 w4 hK4 hO4 hbk hgr;have hB4:=(hB.alloc Mc (.cells #[.slice ax x.length cx] 49)).grown hgr aJ hMo;have kV:=hO4.oF (M':=fun k=>w1.heap.size<=k) fun k _ hm=> .inl hm;have hKn:Hid (K4=nM L (k+1)):=bK (by rw [hK4.out,hKn.out]);clear hO4 hK4 hbk hgr hO hB;go_wp2;go_roundw;case rel=>exact ⟨k+1,a4,c4,K4,ah,by go_num,rfl,hKn,kV,hB4⟩
    case measure=>exact bF
   have hlb:(((k:Int)+1)==((L.length:Nat):Int))=false:=aJ;have aiB:k+1<L.length:=ah;obtain ⟨b2,o2,ay,y,cy,hh,hcy,hy,hsy⟩:=(HS.out.below hB).iD aiB;simp only [dW,aqM,aqY] at hh;obtain ⟨rfl,rfl⟩:=hh;have hgy:Hid (L.getD (k+1) []=y):=bK (by rw [bS,hy.out];rfl);have HP:=Oe hsy hsx;have pz:K.length<1000000000000:=ah;have hLn:=bK Dm;clear Dm hsy;by_cases hp:jf y x=x.length
   ·rw [dw hp] at HP;have HP:=bK HP;have hKn:Hid (nM L (k+1)=K):=by
     have e:¬qX L k=true:=by unfold qX;rw [hgy.out,hgx.out];simp [hp,hLn.out]
     unfold Hid;rw [xA,bO e,hK.out]
    clear hp;go_wp2_with fail;refine (HP.out).mono ?_;rintro e w3 ⟨rfl,hD3⟩;have hb3:=Xe hD3 w2.heap.size;have hO3:=hO.below hb3;have hB3:=hB.trans (hb3.mono Mc);have hKn:Hid (K=nM L (k+1)):=hKn.out.symm;clear hb3 hO hB hD3 HP;go_wp2;go_roundw;case rel=>exact ⟨k+1,a2,c2,K,ah,by go_num,rfl,hKn,hO3,hB3⟩
    case measure=>exact bF
   rw [cZ hp] at HP;have HP:=bK HP;have hKn:Hid (nM L (k+1)=K++[x]):=by
    have e:qX L k=true:=by unfold qX;rw [hgy.out,hgx.out];simp [hp]
    unfold Hid;rw [xA,bQ e,hK.out,hgx.out]
   clear hp;go_wp2_with fail;refine (HP.out).mono ?_;rintro e w3 ⟨rfl,hD3⟩;have hb3:=Xe hD3 w2.heap.size;have hsx:=hsx.below hb3;have hO:=hO.below hb3;have hB:=hB.trans (hb3.mono Mc);have Mc:=hB.size;have hMo:∀k,(Value.slice a2 K.length c2).ownBlock=some k->w1.heap.size<=k:=fun k hk=>(hO.lt k hk).1;clear hb3 hD3 HP;go_wp2_with (at_builtin;refine jl (r:=x) (ar:=ax) (cr:=cx) rfl rfl underlying22 iI rfl rfl (hO.alloc _) hMo bf (hsx.alloc _) pz aJ ?_);intro a4 c4 K4 w4 hK4 hO4 hbk hgr;have hB4:=(hB.alloc Mc (.cells #[.slice ax x.length cx] 49)).grown hgr aJ hMo;have kV:=hO4.oF (M':=fun k=>w1.heap.size<=k) fun k _ hm=> .inl hm;have hKn:Hid (K4=nM L (k+1)):=bK (by rw [hK4.out,hKn.out]);clear hO4 hK4 hbk hgr hO hB;go_wp2;go_roundw;case rel=>exact ⟨k+1,a4,c4,K4,ah,by go_num,rfl,hKn,kV,hB4⟩
   case measure=>exact bF
  have hkL:k=L.length:=ah
  have hKm:Hid (∀r∈K,r.length<1000000000000):=fun r hr=>by
   rw [hK.out,hkL,FI (by rw [hL.out];exact rH rG l)] at hr
   have:=HLr.out r hr.1
   omega
  have HC:=bK (sK ((hO.oF (M':=fun _=>False) fun _ _ h=>h.elim).jD fun _ _ h=>h) ah hKm);have hE:Hid (nK iM K=pO l):=bK (by rw [hK.out,hkL,hL.out,ZI]);have Az:=hB.size;clear hkL hO hK;go_wp2_with fail;refine (HC.out).mono ?_;rintro e w5 ⟨a5,c5,L5,rfl,hL5,hs5,hb5⟩;have jw:=hb1.trans ((hB.mono hz1).trans (hb5.mono ah));have hs6:=hs5.anti (M':=fun k=>k<w.heap.size) fun k _ hk=>by omega
  have Nf:Hid (L5=pO l):=bK (by rw [hL5.out,hE.out]);clear hs5 hb5 hB hL5;go_wp2;go_ret;exact ⟨a5,c5,L5,rfl,Nf,hs6,jw⟩
end
end
