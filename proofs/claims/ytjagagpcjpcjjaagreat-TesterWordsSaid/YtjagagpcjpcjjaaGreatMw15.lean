/- Lemmas, each with its own conditions. -/
import Derived.Test.YtjagagpcjpcjjaaGreatMw7
import Derived.Test.YtjagagpcjpcjjaaGreatMw3
set_option maxRecDepth 100000
set_option maxHeartbeats 32000000
namespace Go.Proofs.YtjagagpcjpcjjaaGreat
open Tryz
open Go.RowKit
section
variable {P:Program} {w:World} {o:Oper} {a:Act} {ops:Array Oper} {rest:List Oper} {Q:Exit->Act->World->Prop}
theorem WJ {K:Act->World->Prop} {l:List Int} {s x:Operand} {t e:TypeId} {B:Nat} {M:Nat->Prop} {v:Value} {g:Nat} {c:Nat} {y:Int} (hop:o.op= .call {callee:= .builtin .append,args:= #[s,x],argTypes:= #[t,t]})
    (ht:P.underlying t=some (.slice e)) (hi:(P.info? e).map (fun i=>(i.zero,i.size,i.bytes))=some (some (.int .i64 0),1,8))
    (hs:a.eval s=v) (hx:a.eval x= .slice (some ⟨g,0,none⟩) 1 c) (jk:Ow B M w e v l) (lU:w.cell? ⟨g,0,none⟩=some (.int .i64 y)) (hy:i64 y)
    (iX:l.length<1000000000000) (hB:B<=w.heap.size)
    (h:∀(a':Option Addr) (c':Nat) (l':List Int) (w':World),Hid (l'=l++[y])->Ow B M w' e (.slice a' l'.length c') l'->Below B w w'->K (a.put o.dst (.slice a' l'.length c')) w'):o.wp P a w K Q:=
 ql hop ht hi hs hx jk lU hy iX hB fun a' c' l' w' h1 h2 _ h4=>h a' c' l' w' h1 h2 (Below.grown (bP B w) h4 hB fun k hk=>(jk.lt k hk).1)
end
section
variable {M M':Nat->Prop} {w:World} {an ao a:Option Addr} {cn co c:Nat} {m:g_}
theorem afH {a:Option Addr} {n c:Nat} {x y:Int} (h:x=y):Ending.returned (.tuple #[.slice a n c,.int .i64 x])= .returned (.tuple #[.slice a n c,.int .i64 y]):=by rw [h]
theorem WK {l:List Int} {s:Int} (hm:Ma M w an cn ao co m) (hw:Sl M' w a c l) (ok:Hid m.Ok) (hs:Hid (0<=s/\s<m.h_.length)) (hok:Hid (m.nQ l)) (hl:l.length<1000000000):Calls prog 46 #[kF m an cn ao co,.int .i64 s,.slice a l.length c] w fun e w'=>∃(a':Option Addr) (c':Nat) (l':List Int),e= .returned (.tuple #[.slice a' l'.length c',.int .i64 (m.lD s l)])/\Hid (l'=m.iY s l)/\ Sl (fun k=>k<w.heap.size) w' a' c' l'/\Below w.heap.size w w':=by
 have hll:=hw.le;have n1:=ok.out.n1;have i1:=ok.out.i1;have HM:=bK hm;have HS:=bK hw;have hB0:=iB w (iP m an cn ao co);have hx0:=jE w m an cn ao co;have kJ:Ow (α:=Int) (w.heap.size+1) (fun k=>w.heap.size<=k) (w.alloc (iP m an cn ao co)) 3 (.slice none 0 0) []:=Ow.nil;have hz0:w.heap.size+1<=(w.alloc (iP m an cn ao co)).heap.size:=aH;have hb0:=bP (w.heap.size+1) (w.alloc (iP m an cn ao co));clear hm hw;go_enter func46,ntmps46;go_wp2;generalize w.alloc (iP m an cn ao co)=w0 at*
 go_loopw [1,8,9] (fun st v i wr=>∃(k:Nat) (a':Option Addr) (c':Nat) (l':List Int),k<=l.length/\i= .int .i64 k/\st= .int .i64 (m.lD s (l.take k))/\v= .slice a' l'.length c'/\Hid (l'=m.iY s (l.take k))/\
  Ow (w.heap.size+1) (fun k=>w.heap.size<=k) wr 3 (.slice a' l'.length c') l'/\Below (w.heap.size+1) w0 wr) (fun _ _ i _=>l.length-(intOf i).toNat)
 case atStart=>exact ⟨0,none,0,[],ah,rfl,rfl,rfl,rfl,kJ,hb0⟩
 case round=>
  clear kJ hb0;obtain ⟨k,a2,c2,l2,hk,rfl,rfl,rfl,hl2,hO,hb⟩:=hrel;obtain ⟨w1,rfl⟩:=iA wr;have hx:=hx0.below hb ah;have hB:=hB0.trans (hb.mono ah);have hsz:w.heap.size+1<=w1.heap.size:=ig hb.size;have hr:=g_.rX ok.out (l.take k) s hs.out.1 hs.out.2 (g_.Nj hok.out k);obtain ⟨sn,hsn⟩:=b_ hr.1;rw [hsn] at hr;have HSN:=bK hsn;rw [hsn];clear hsn;by_cases hlt:k<l.length
  ·obtain ⟨bl,ol,x,rfl,hxc,hxk, -⟩:=HS.out.iC hlt;obtain ⟨x0,x1⟩:=hok.out x (bV hxk.out);obtain ⟨xn,rfl⟩:=b_ x0;have ac2:sn<m.h_.length:=ah;have hxn:xn<m.gZ.toNat:=ah;obtain ⟨bn,on,bo,oo,rfl,rfl⟩:=HM.out.addr ok.out;obtain ⟨b1,o1,d1,r1,b2,o2,d2,r2,nn,y,hn1,hn2,wU,hn4,hn5,hy0,hy1,hnx,hot,hr1,hr2,hr3,hr4⟩:=HM.out.RQ ok.out ac2 hxn;have aik:=bK (show l2.length<=k by rw [hl2.out,g_.uh,dx];omega);have hl3:Hid (l2++[y]=m.iY s (l.take (k+1))):=by unfold Hid;rw [g_.rR hxk.out,g_.lN,HSN.out,<-hl2.out];simp [hot.out]
   have Oo:Hid (((nn:Nat):Int)=m.lD s (l.take (k+1))):=by unfold Hid;rw [g_.rR hxk.out,g_.oN,HSN.out];simp [hnx.out]
   have hso:sn<m.out.length:=by rw [ok.out.lo];exact ac2
   have HK:Hid (∀w',Below w.heap.size w w'->(w'.cell? ⟨bl,ol+k,none⟩=some (.int .i64 xn)/\w'.cell? ⟨bo,oo+sn,none⟩=some (.slice (some ⟨b2,o2,none⟩) r2 d2)/\w'.cell? ⟨b2,o2+xn,none⟩=some (.int .i64 y))/\w'.cell? ⟨bn,on+sn,none⟩=some (.slice (some ⟨b1,o1,none⟩) r1 d1)/\w'.cell? ⟨b1,o1+xn,none⟩=some (.int .i64 nn)):=fun w' hb'=>
    ⟨⟨(hb'.cell (p:=⟨bl,ol+k,none⟩) (lt_of_cell hxc)).trans hxc,(hb'.cell (p:=⟨bo,oo+sn,none⟩) (lt_of_cell hn2)).trans hn2,(hb'.cell (p:=⟨b2,o2+xn,none⟩) (lt_of_cell hn4)).trans hn4⟩,(hb'.cell (p:=⟨bn,on+sn,none⟩) (lt_of_cell hn1)).trans hn1,(hb'.cell (p:=⟨b1,o1+xn,none⟩) (lt_of_cell wU)).trans wU⟩
   clear x0 x1 hr hl2 hxc hn1 hn2 wU hn4;go_wp2;refine iL (fun w'=>C4 w' w.heap.size (some ⟨bn,on,none⟩) cn (some ⟨bo,oo,none⟩) co m/\w'.cell? ⟨bl,ol+k,none⟩=some (.int .i64 xn)/\w'.cell? ⟨bo,oo+sn,none⟩=some (.slice (some ⟨b2,o2,none⟩) r2 d2)/\w'.cell? ⟨b2,o2+xn,none⟩=some (.int .i64 y)) [0,1,2,3,4,5,6,7,8,9,10,11,14] aB ?_;have hSS:C4 w1.drew w.heap.size (some ⟨bn,on,none⟩) cn (some ⟨bo,oo,none⟩) co m/\w1.drew.cell? ⟨bl,ol+k,none⟩=some (.int .i64 xn)/\w1.drew.cell? ⟨bo,oo+sn,none⟩=some (.slice (some ⟨b2,o2,none⟩) r2 d2)/\w1.drew.cell? ⟨b2,o2+xn,none⟩=some (.int .i64 y):=⟨hx.below (bP w1.heap.size w1).drew ah,(HK.out _ hB.drew).1⟩;have wN:=hO.drew;have hbd:=hb.drew;have hBd:=hB.drew;have hzd:w.heap.size+1<=w1.drew.heap.size:=hsz;clear hx hO hb hsz hB;generalize w1.drew=w2 at*
   refine iZ [0,1,2,3,4,5,6,7,8,9,10,11] ?_;refine iK 12 fun K hK=> ?_;go_simp;have hba:=hBd.alloc ah (.cells #[.int .i64 y] 3);refine hK _ _ (fun _=>⟨hSS.1.below (iB w2 _) ah,(HK.out _ hba).1⟩) ?_;clear hK K;refine iK 13 fun K hK=> ?_;refine WJ (B:=w.heap.size+1) (M:=fun k=>w.heap.size<=k) (v:= .slice a2 l2.length c2) (l:=l2) (y:=y) rfl underlying49 iE rfl rfl (wN.alloc _) bf bg (ig aik.out) aJ ?_;intro a5 c5 l5 w5 hl5 kV hb5;have hb6:=(hbd.alloc ah (.cells #[.int .i64 y] 3)).trans hb5;have jo:=hba.trans (hb5.mono ah);have hx6:=hx0.below hb6 ah;have uK:=And.intro hx6 (HK.out _ jo).1;refine hK _ _ (fun _=>uK) ?_;clear hK K hSS wN hbd hBd hzd hba hb5;refine iZ [14] ?_;refine iH aB ?_ _;have JI:Hid (l5=m.iY s (l.take (k+1))):=bK (by rw [hl5.out,hl3.out]);obtain ⟨⟨hc1, -, -⟩,hc2,hc3⟩:=HK.out _ jo;clear hl5 hl3 HK;go_wp2;refine go_quiet fun nq=> ?_;have kG:=iF hb6 nq;have yR:=kV.drewN nq;clear hx6 hc1 hc2 hc3 hb6 kV;go_wp2;go_roundw;case rel=>exact ⟨k+1,a5,c5,l5,ah,by go_num,by rw [<-Oo.out],rfl,JI,yR,kG⟩
   case measure=>exact bF
  have e:k=l.length:=ah;have JI:Hid (l2=m.iY s l):=bK (by rw [hl2.out,e,dV]);have he6:Hid (((sn:Nat):Int)=m.lD s l):=bK (by rw [<-HSN.out,e,dV]);have hS:=(hO.anyM (M':=fun k=>k<w.heap.size)).jD fun k hk hlt=>by have:=(hO.lt k hk).1;omega
  clear hl2 e;go_wp2;go_ret2;exact ⟨a2,c2,l2,afH he6.out,JI,hS,hB⟩
end
abbrev R5 (w:World) (b:Nat) (an:Option Addr) (cn:Nat) (ao:Option Addr) (co:Nat) (m:g_) (z:Int):Prop:=
 C4 w b an cn ao co m/\w.cell? ⟨b,4,none⟩=some (.int .i64 z)/\w.frozen? ⟨b,4,none⟩=false
section
variable {B b:Nat} {w w':World} {an ao:Option Addr} {cn co:Nat} {m:g_} {z:Int}
theorem R5.below (h:R5 w b an cn ao co m z) (hb:Below B w w') (hlt:b<B):R5 w' b an cn ao co m z:=
 ⟨h.1.below hb hlt,(hb.cell (p:=⟨b,4,none⟩) hlt).trans h.2.1,(hb.frozen (p:=⟨b,4,none⟩) hlt).trans h.2.2⟩
theorem R5.set (h:R5 w b an cn ao co m z) (y:Int):R5 (w.setCell ⟨b,4,none⟩ (.int .i64 y)) b an cn ao co m y:=
 ⟨⟨by rw [dR _ _ _ _ aH];exact h.1.1,by rw [dR _ _ _ _ aH];exact h.1.2.1,by rw [dR _ _ _ _ aH];exact h.1.2.2.1,by rw [dR _ _ _ _ aH];exact h.1.2.2.2⟩,
  eU _ _ _ h.2.1,iq h.2.2⟩
end
section
variable {M:Nat->Prop} {w:World} {an ao a:Option Addr} {cn co c:Nat} {m:g_}
theorem ZP (hm:Ma M w an cn ao co m) (ok:m.Ok) {s x:Nat} (hs:s<m.h_.length) (hx:x<m.gZ.toNat):Calls prog 161 #[kF m an cn ao co,.int .i64 (s:Int),.int .i64 (x:Int)] w fun e w'=>∃(n:Nat) (y:Int),e= .returned (.tuple #[.int .i64 (n:Int),.int .i64 y])/\n<m.h_.length/\0<=y/\y<=1048576/\Hid (m.nx s x=n)/\Hid (m.ot s x=y)/\Below w.heap.size w w':=by
 have hsz:s<m.out.length:=ig ok.lo;have n1:=ok.n1;have i1:=ok.i1;obtain ⟨bn,on,bo,oo,rfl,rfl⟩:=hm.addr ok;have hm2:=hm.ext (Ext.alloc M w (.cells #[.int .i64 m.gZ,.int .i64 m.start,.slice (some ⟨bn,on,none⟩) m.h_.length cn,.slice (some ⟨bo,oo,none⟩) m.out.length co] 148));obtain ⟨b1,o1,c1,l1,b2,o2,c2,l2,n,y,k1,k2,k3,k4,hn,hy0,hy1,hnx,hot,hl1,hl2,hl3,hl4⟩:=hm2.RQ ok hs hx;have hB:=iB w (.cells #[.int .i64 m.gZ,.int .i64 m.start,.slice (some ⟨bn,on,none⟩) m.h_.length cn,.slice (some ⟨bo,oo,none⟩) m.out.length co] 148);have HM:=bK hm2;have OK:=bK ok;clear hm hm2 ok;go_enter func161,ntmps161;go_wp2;refine go_quiet fun nq=> ?_;go_wp2;go_ret2;exact ⟨n,y,rfl,hn,hy0,hy1,hnx,hot,iF hB _⟩
theorem ac3 {M':Nat->Prop} {B b:Nat} {l:List Int} {s:Int} (hb:B<=b) (hbw:b<w.heap.size) (HM:∀w',Below B w w'->Ma M w' an cn ao co m) (HS:∀w',Below B w w'->Sl M' w' a c l) (ok:m.Ok) (h5:R5 w b an cn ao co m s) (hs:0<=s/\s<m.h_.length) (hw:m.nQ l) (hl:l.length<=1024):Calls prog 109 #[.pointer (some ⟨b,0,none⟩),.slice a l.length c] w fun e w'=>∃(a':Option Addr) (c':Nat) (l':List Int),e= .returned (.slice a' l'.length c')/\Hid (l'=m.iY s l)/\ Sl (fun k=>k<w.heap.size) w' a' c' l'/\Below B w w'/\R5 w' b an cn ao co m (m.lD s l):=by
 have OK:=bK ok;have HW:=bK hw;have HS0:=bK hs;have n1:=ok.n1;have i1:=ok.i1;have HMh:=bK HM;have HSh:=bK HS;have hl0:Hid (([]:List Int)=m.iY s (l.take 0)):=rfl;have kJ:Ow (α:=Int) w.heap.size (fun k=>w.heap.size<=k) w 3 (.slice none 0 0) []:=Ow.nil;have hB0:=bP B w;clear HM HS ok hw hs;go_enter func109,ntmps109;go_wp2
 go_loopw [5,12] (fun v i wr=>∃(k:Nat) (a':Option Addr) (c':Nat) (l':List Int),k<=l.length/\i= .int .i64 k/\v= .slice a' l'.length c'/\l'.length<=1024/\Hid (l'=m.iY s (l.take k))/\
  Ow w.heap.size (fun k=>w.heap.size<=k) wr 3 (.slice a' l'.length c') l'/\Below B w wr/\R5 wr b an cn ao co m (m.lD s (l.take k))) (fun _ i _=>l.length-(intOf i).toNat)
 case atStart=>exact ⟨0,none,0,[],ah,rfl,rfl,aH,hl0,kJ,hB0,h5⟩
 case round=>
  clear hl0 kJ hB0 h5;obtain ⟨k,a2,c2,l2,hk,rfl,rfl,hl2,ho2,hO,hB,h5⟩:=hrel;obtain ⟨w1,rfl⟩:=iA wr;have hsz:=hB.size;by_cases hlt:k<l.length
  ·obtain ⟨bl,ol,x,rfl,hxc,hx, -⟩:=(HSh.out w1 hB).iC hlt;obtain ⟨x0,x1⟩:=HW.out x (bV hx.out);obtain ⟨xn,rfl⟩:=b_ x0;have hr:=g_.rX OK.out (l.take k) s HS0.out.1 HS0.out.2 (g_.Nj HW.out k);have alR:Hid (l2.length=k):=bK (by rw [ho2.out,g_.uh,dx];omega);obtain ⟨sn,hsn⟩:=b_ hr.1;rw [hsn] at h5 hr;have ac2:sn<m.h_.length:=ah;have hxn:xn<m.gZ.toNat:=ah;have DZ:xn<64:=ah;have HSN:=bK hsn;have hmm:=HMh.out w1 hB;have HMM:=bK hmm;clear hsn hr x0 x1 hmm;go_wp2;refine iL (fun w'=>R5 w' b an cn ao co m (sn:Int)) [0,1,2,3,4,5,6,7,8,11,12] aB ?_;have h5d:R5 w1.drew b an cn ao co m (sn:Int):=⟨h5.1.drew,iq h5.2.1,iq h5.2.2⟩;have hBd:=hB.drew;have wN:=hO.drew;have HMd:=bK (HMM.out.ext (Ext.drew _ _));have afI:w.heap.size<=w1.drew.heap.size:=hsz;clear h5 hB hO HMM;generalize w1.drew=w2 at*
   refine iZ [0,1,2,3,4,5,6,7,8] ?_;refine iK 9 fun K hK=> ?_;go_simp;refine (ZP HMd.out OK.out ac2 hxn).mono ?_;rintro e w3 ⟨n,y,rfl,hn,hy0,hy1,hnx,hot,hb3⟩;have h53:=h5d.below hb3 ah;have hB3:=hBd.trans (hb3.mono ah);have hO3:=wN.below hb3;have WL:w.heap.size<=w3.heap.size:=ig hb3.size;refine hK _ _ (fun _=>h53) ?_;clear hK K h5d hBd wN hb3 HMd;refine iK 10 fun K hK=> ?_;go_simp;refine hK _ _ (fun _=>h53) ?_;clear hK K;refine iZ [11,12] ?_;refine iK 13 fun K hK=> ?_;go_simp;refine hK _ _ (fun _=>h53) ?_;clear hK K;refine iK 14 fun K hK=> ?_;go_simp;refine hK _ _ (fun _=>h53) ?_;clear hK K;refine iH aB ?_ _;have h54:=h53.set (n:Int);have hB4:=hB3.setCell (p:=⟨b,4,none⟩) hb (.int .i64 (n:Int));have hO4:=hO3.ny (p:=⟨b,4,none⟩) (fun k hk=>by have:=(hO3.lt k hk).1;simp;omega) (.int .i64 (n:Int));have H54:=bK h54;have HB4:=bK hB4;have HO4:=bK hO4;clear h54 hB4 hO4 hO3 hB3;have hll:l2.length<1024:=by rw [alR.out];omega
   go_wp2_with (at_builtin;refine iQ (B:=w.heap.size) (l:=l2) (y:=y) rfl rfl underlying49 iE rfl rfl (HO4.out.alloc _) bf bg ah aJ ?_);intro a5 c5 l5 w5 hl5 kV hb5;have hbA:=(bP _ _).alloc (B:=(w3.setCell ⟨b,4,none⟩ (.int .i64 (n:Int))).heap.size) (bM _) (.cells #[.int .i64 y] 3);have hlb:b<(w3.setCell ⟨b,4,none⟩ (.int .i64 (n:Int))).heap.size:=aJ;have aoK:b<w.heap.size:=hbw;have h55:=(H54.out.below hbA hlb).below hb5 hbw;have jw:=(HB4.out.alloc aJ (.cells #[.int .i64 y] 3)).trans (hb5.mono ah);have ho5:Hid (l5=m.iY s (l.take (k+1))):=by unfold Hid;rw [hl5.out,ho2.out,g_.rR hx.out,g_.lN,HSN.out];simp only [dK];rw [hot.out]
   have he5:Hid ((n:Int)=m.lD s (l.take (k+1))):=by unfold Hid;rw [g_.rR hx.out,g_.oN,HSN.out];simp only [dK];rw [hnx.out]
   have h56:R5 w5 b an cn ao co m (m.lD s (l.take (k+1))):=by rw [<-he5.out];exact h55
   have alS:l5.length<=1024:=by rw [hl5.out];simp;omega
   clear h55 h53 H54 hbA hb5;have H56:=bK h56;clear h56;go_wp2;go_roundw;case rel=>exact ⟨k+1,a5,c5,l5,ah,by go_num,rfl,alS,ho5,kV,jw,H56.out⟩
   case measure=>exact bF
  have e:l.take k=l:=bY ah;have h56:R5 w1 b an cn ao co m (m.lD s l):=by rw [e] at h5;exact h5
  have ho5:Hid (l2=m.iY s l):=bK (by rw [ho2.out,e]);have H56:=bK h56;clear e h56 h5;go_wp2;go_ret;exact ⟨a2,c2,l2,rfl,ho5,hO.fresh (bM _),hB,H56.out⟩
end
namespace g_
variable (m:g_)
def jq (s:Int):Int:=if m.err≠0 then m.err else if s<0\/(m.h_.length:Int)<=s then 2 else 0
def sG (s:Int) (w:List Int):Int:=if m.jq s≠0 then m.jq s else jI w m.gZ
def uL (s:Int) (w:List Int):List Int:=if m.sG s w=0 then m.iY s w else []
def AO (s:Int) (w:List Int):Int:=if m.sG s w=0 then m.lD s w else 0
variable {m}
theorem ZQ {s:Int} (h:m.jq s=0):m.err=0/\0<=s/\s<m.h_.length:=by
 unfold jq at h;split at h;·rename_i h1;exact absurd h h1
 rename_i h1;split at h;·simp at h
 exact ⟨iq h1,ah,ah⟩
theorem AP {s:Int} {w:List Int} (h:m.jq s≠0):m.sG s w=m.jq s/\m.uL s w=[]/\m.AO s w=0:=by
 have e:m.sG s w=m.jq s:=by unfold sG;rw [bQ h]
 refine ⟨e,?_,?_⟩;·unfold uL;rw [bO (by rw [e];exact h)]
 unfold AO;rw [bO (by rw [e];exact h)]
theorem Vi {s:Int} {w:List Int} (h:m.jq s=0) (h2:jI w m.gZ≠0):m.sG s w=jI w m.gZ/\m.uL s w=[]/\m.AO s w=0:=by
 have e:m.sG s w=jI w m.gZ:=by unfold sG;rw [bO (by simp [h])]
 refine ⟨e,?_,?_⟩;·unfold uL;rw [bO (by rw [e];exact h2)]
 unfold AO;rw [bO (by rw [e];exact h2)]
theorem yC {s:Int} {w:List Int} (h:m.jq s=0) (h2:jI w m.gZ=0):m.sG s w=0/\m.uL s w=m.iY s w/\m.AO s w=m.lD s w:=by
 have e:m.sG s w=0:=by unfold sG;rw [bO (by simp [h]),h2]
 refine ⟨e,?_,?_⟩;·unfold uL;rw [bQ e]
 unfold AO;rw [bQ e]
theorem Cg {w:List Int} (h:jI w m.gZ=0):m.nQ w/\w.length<=1024:=by
 unfold jI at h;split at h;·simp at h
 rename_i h1;split at h;·simp at h
 rename_i h2;split at h;·simp at h
 rename_i h3;refine ⟨fun x hx=> ?_,ah⟩;have:¬(x<0\/m.gZ<=x):=fun e=>h3 ⟨x,hx,e⟩;omega
end g_
theorem xC {a:Option Addr} {n n' c:Nat} {x x' y y':Int} (h:n=n') (h2:x=x') (h3:y=y'):Ending.returned (.tuple #[.slice a n c,.int .i64 x,.int .i64 y])= .returned (.tuple #[.slice a n' c,.int .i64 x',.int .i64 y']):=by rw [h,h2,h3]
section
variable {M:Nat->Prop} {w:World} {an ao a:Option Addr} {cn co c:Nat} {m:g_}
theorem WM (hm:Ma M w an cn ao co m) (s:Int):Calls prog 108 #[kF m an cn ao co,.int .i64 s] w fun e w'=>e= .returned (.int .i64 (m.jq s))/\Below w.heap.size w w':=by
 have hle:=hm.h_.le;have hv:=jR (hm.ext (Ext.alloc M w (.cells #[.int .i64 m.gZ,.int .i64 m.start,.slice an m.h_.length cn,.slice ao m.out.length co] 24)));have HV:=bK hv;clear hv;by_cases he:m.err=0
 ·have he':(m.err !=0)=false:=by simp [he]
  by_cases hs:s<0
  ·have HF:Hid (m.jq s=2):=by unfold Hid g_.jq;rw [bO (by simp [he]),bQ (.inl hs)]
   have hd:decide (s<0)=true:=by simp [hs]
   clear he;go_enter func108,ntmps108;go_wp2_with fail;refine (HV.out).mono ?_;rintro e w1 ⟨rfl,hb1⟩;have hB:=(iB w (.cells #[.int .i64 m.gZ,.int .i64 m.start,.slice an m.h_.length cn,.slice ao m.out.length co] 24)).trans (hb1.mono aH);go_wp2;go_ret;exact ⟨kX HF.out.symm,hB⟩
  have hd:decide (s<0)=false:=aJ;by_cases hs2:(m.h_.length:Int)<=s
  ·have HF:Hid (m.jq s=2):=by unfold Hid g_.jq;rw [bO (by simp [he]),bQ (.inr hs2)]
   have hd2:decide ((m.h_.length:Int)<=s)=true:=by simp [hs2]
   clear he;go_enter func108,ntmps108;go_wp2_with fail;refine (HV.out).mono ?_;rintro e w1 ⟨rfl,hb1⟩;have hbx:∀o,w1.cell? ⟨w.heap.size,o,none⟩=_:=fun o=>hb1.cell aH;have hB:=(iB w (.cells #[.int .i64 m.gZ,.int .i64 m.start,.slice an m.h_.length cn,.slice ao m.out.length co] 24)).trans (hb1.mono aH);go_wp2;go_ret;exact ⟨kX HF.out.symm,hB⟩
  have HF:Hid (m.jq s=0):=by unfold Hid g_.jq;rw [bO (by simp [he]),bO ah]
  have hd2:decide ((m.h_.length:Int)<=s)=false:=aJ;clear he;go_enter func108,ntmps108;go_wp2_with fail;refine (HV.out).mono ?_;rintro e w1 ⟨rfl,hb1⟩;have hbx:∀o,w1.cell? ⟨w.heap.size,o,none⟩=_:=fun o=>hb1.cell aH;have hB:=(iB w (.cells #[.int .i64 m.gZ,.int .i64 m.start,.slice an m.h_.length cn,.slice ao m.out.length co] 24)).trans (hb1.mono aH);go_wp2;go_ret;exact ⟨kX HF.out.symm,hB⟩
 have he':(m.err !=0)=true:=by simp [he]
 have HF:Hid (m.jq s=m.err):=by unfold Hid g_.jq;rw [bQ he]
 clear he;go_enter func108,ntmps108;go_wp2_with fail;refine (HV.out).mono ?_;rintro e w1 ⟨rfl,hb1⟩;have hB:=(iB w (.cells #[.int .i64 m.gZ,.int .i64 m.start,.slice an m.h_.length cn,.slice ao m.out.length co] 24)).trans (hb1.mono aH);go_wp2;go_ret;exact ⟨kX HF.out.symm,hB⟩
theorem OM {M':Nat->Prop} {l:List Int} (hm:Ma M w an cn ao co m) (hw:Sl M' w a c l) (s:Int):Calls prog 55 #[kF m an cn ao co,.int .i64 s,.slice a l.length c] w fun e w'=>∃(a':Option Addr) (c':Nat) (l':List Int),e= .returned (.tuple #[.slice a' l'.length c',.int .i64 (m.AO s l),.int .i64 (m.sG s l)])/\Hid (l'=m.uL s l)/\ Sl (fun k=>k<w.heap.size) w' a' c' l'/\Below w.heap.size w w':=by
 have hll:=hw.le;have hle:=hm.h_.le;have HM:=bK hm;have HW:=bK hw;have afJ:=kI (m:=m) (an:=an) (cn:=cn) (ao:=ao) (co:=co) w;have hB0:=iB w (iP m an cn ao co);have HC:=bK (WM (HM.out.ext (Ext.alloc M w (iP m an cn ao co))) s);clear hm hw;by_cases hst:m.jq s=0
 ·have alT:(m.jq s !=0)=false:=by simp [hst]
  have HST:=bK hst;clear hst;go_enter func55,ntmps55;go_wp2_with fail;refine (HC.out).mono ?_;rintro e w1 ⟨rfl,hb1⟩;have hB1:=hB0.trans (hb1.mono aH);have h41:=afJ.below hb1 aH;have hz1:w.heap.size+1<=w1.heap.size:=iq hb1.size;clear afJ hB0 hb1 HC;have HC:=bK (vG (HW.out.below hB1) m.gZ);go_wp2_with fail;refine (HC.out).mono ?_;rintro e w2 ⟨rfl,hb2⟩;have hB2:=hB1.trans (hb2.mono ah);have h42:=h41.below hb2 ah;have hz2:w.heap.size+1<=w2.heap.size:=ig hb2.size;clear hB1 h41 hb2 HC;by_cases Dl:jI l m.gZ=0
  ·have alU:(jI l m.gZ !=0)=false:=by simp [Dl]
   obtain ⟨hok,hl2⟩:=g_.Cg Dl;obtain ⟨he,hs0,hs1⟩:=g_.ZQ HST.out;have OK:=bK (m.iG he);have HF:=bK (g_.yC HST.out Dl);have hB3:=hB2.alloc ah (.cells #[.int .i64 m.gZ,.int .i64 m.start,.slice an m.h_.length cn,.slice ao m.out.length co,.int .i64 s] 150);have h5:R5 (w2.alloc (.cells #[.int .i64 m.gZ,.int .i64 m.start,.slice an m.h_.length cn,.slice ao m.out.length co,.int .i64 s] 150)) w2.heap.size an cn ao co m s:=by refine ⟨⟨?_,?_,?_,?_⟩,?_,?_⟩<;>simp
   have HR:=bK (ac3 (B:=w2.heap.size) (b:=w2.heap.size) (w:=w2.alloc (.cells #[.int .i64 m.gZ,.int .i64 m.start,.slice an m.h_.length cn,.slice ao m.out.length co,.int .i64 s] 150)) (bM _) aH
    (fun w' hb=>HM.out.below (hB3.trans (hb.mono ah))) (fun w' hb=>HW.out.below (hB3.trans (hb.mono ah))) OK.out h5 ⟨hs0,hs1⟩ hok hl2)
   clear he Dl hok h5;go_wp2_with fail;refine (HR.out).mono ?_;rintro e w3 ⟨a3,c3,l3,rfl,hl3,hs3,hb3,h53⟩;have jh:=hB3.trans (hb3.mono ah);have hl4:Hid (l3=m.uL s l):=bK (by rw [hl3.out,HF.out.2.1]);have hs4:=hs3.anti (M':=fun k=>k<w.heap.size) (fun k _ hk=>by simp;omega);have hat:=h53.2.1;clear hl3 hs3 hb3 h53 hB3 hB2 h42 HR;go_wp2;refine go_quiet fun nq=> ?_;go_wp2;exact dG (v:= .tuple #[.slice a3 l3.length c3,.int .i64 (m.lD s l),.int .i64 0]) (by simp [results,results55,go_sem]) rfl ⟨a3,c3,l3,xC rfl HF.out.2.2.symm HF.out.1.symm,hl4,hs4.drewN _,iF jh _⟩
  have alU:(jI l m.gZ !=0)=true:=by simp [Dl]
  have HF:=bK (g_.Vi HST.out Dl);clear Dl;go_wp2;exact dG (v:= .tuple #[.slice none 0 0,.int .i64 0,.int .i64 (jI l m.gZ)]) (by simp [results,results55,go_sem]) rfl ⟨none,0,[],xC rfl HF.out.2.2.symm HF.out.1.symm,HF.out.2.1.symm,Sl.nil _ _ _ aS,hB2⟩
 have alT:(m.jq s !=0)=true:=by simp [hst]
 have HF:=bK (g_.AP (w:=l) hst);clear hst;go_enter func55,ntmps55;go_wp2_with fail;refine (HC.out).mono ?_;rintro e w1 ⟨rfl,hb1⟩;have hB1:=hB0.trans (hb1.mono aH);clear afJ hB0 hb1 HC;go_wp2;exact dG (v:= .tuple #[.slice none 0 0,.int .i64 0,.int .i64 (m.jq s)]) (by simp [results,results55,go_sem]) rfl ⟨none,0,[],xC rfl HF.out.2.2.symm HF.out.1.symm,HF.out.2.1.symm,Sl.nil _ _ _ aS,hB1⟩
theorem afK {a:Option Addr} {n c:Nat} {x y:Int} (h:x=y):Ending.returned (.tuple #[.slice a n c,.int .i64 x])= .returned (.tuple #[.slice a n c,.int .i64 y]):=by rw [h]
theorem ZR {M':Nat->Prop} {l:List Int} (hm:Ma M w an cn ao co m) (hw:Sl M' w a c l):Calls prog 26 #[kF m an cn ao co,.slice a l.length c] w fun e w'=>∃(a':Option Addr) (c':Nat) (l':List Int),e= .returned (.tuple #[.slice a' l'.length c',.int .i64 (m.sG m.start l)])/\Hid (l'=m.uL m.start l)/\ Sl (fun k=>k<w.heap.size) w' a' c' l'/\Below w.heap.size w w':=by
 have HC:=bK (OM (hm.ext (Ext.alloc M w (iP m an cn ao co))) (hw.alloc (iP m an cn ao co)) m.start);have hB0:=iB w (iP m an cn ao co);clear hm hw;go_enter func26,ntmps26;go_wp2_with fail;refine (HC.out).mono ?_;rintro e w1 ⟨a1,c1,l1,rfl,hl1,hs1,hb1⟩;have hB1:=hB0.trans (hb1.mono aH);have hs2:=hs1.anti (M':=fun k=>k<w.heap.size) (fun k _ hk=>by simp;omega);clear hs1 hb1 hB0;go_wp2;go_ret2;exact ⟨a1,c1,l1,afK rfl,hl1,hs2,hB1⟩
end
