/- Lemmas, each with its own conditions. -/
import Derived.Test.YtjagagpcjpcjjaaGreatMw33
set_option maxRecDepth 100000
set_option maxHeartbeats 32000000
namespace Go.Proofs.YtjagagpcjpcjjaaGreat
open Tryz
open Go.RowKit
theorem XE (n:Nat):jK (n+1)=jK n++[(n:Int)]:=by simp [jK,aqg]
section
variable {M M':Nat->Prop} {w:World} {an ao b:Option Addr} {cn co d:Nat} {m:g_} {l:List Int}
theorem Bc (n:Nat) (hn:n<1000000):Calls prog 152 #[.int .i64 n] w fun e w'=>∃(a':Option Addr) (c':Nat) (L:List Int),e= .returned (.slice a' L.length c')/\Hid (L=jK n)/\Sl (fun k=>k<w.heap.size) w' a' c' L/\Below w.heap.size w w':=by
 have kJ:Ow (α:=Int) w.heap.size (fun k=>w.heap.size<=k) w 3 (.slice none 0 0) []:=Ow.nil;have hB0:=bP w.heap.size w;go_enter func152,ntmps152;go_wp2;go_loopw [3,4] (fun v i wr=>∃(k:Nat) (a':Option Addr) (c':Nat) (L:List Int),k<=n/\i= .int .i64 k/\v= .slice a' L.length c'/\Hid (L=jK k)/\Ow w.heap.size (fun k=>w.heap.size<=k) wr 3 (.slice a' L.length c') L/\Below w.heap.size w wr) (fun _ i _=>n-(intOf i).toNat);case atStart=>exact ⟨0,none,0,[],ah,rfl,rfl,rfl,kJ,hB0⟩
 case round=>
  clear kJ hB0;obtain ⟨k,a2,c2,L,hk,rfl,rfl,hL,hO,hB⟩:=hrel;obtain ⟨wo,rfl⟩:=iA wr;have hz:=hB.size;have qM:Hid (L.length=k):=bK (by rw [hL.out,kS]);by_cases hlt:k<n
  ·have agv:Hid (i64 (k:Int)):=by unfold Hid i64;omega
   go_wp2_with (at_builtin;refine iQ (B:=w.heap.size) (l:=L) (y:=(k:Int)) rfl rfl underlying49 iE rfl rfl (hO.alloc _) bf agv.out (ig qM.out) aJ ?_);intro a3 c3 L3 w3 hL3 hO3 hb3;have hB3:=(hB.alloc hz (.cells #[.int .i64 (k:Int)] 3)).trans hb3;have hLn:Hid (L3=jK (k+1)):=bK (by rw [hL3.out,hL.out,XE]);clear hO hB hb3;go_wp2;go_roundw;case rel=>exact ⟨k+1,a3,c3,L3,ah,by go_num,rfl,hLn,hO3,hB3⟩
   case measure=>exact bF
  have hkn:Hid (L=jK n):=bK (by rw [hL.out,show k=n by omega]);have hS:=hO.fresh (n:=w.heap.size) (bM _);go_wp2;go_ret;exact ⟨a2,c2,L,rfl,hkn,hS,hB⟩
theorem zT (hm:Ma M w an cn ao co m) (hs:Sl M' w b d l) (ok:Hid m.Ok) (hl:Hid (∀s∈l,0<=s/\s<m.h_.length)) (hll:Hid (l.length<1000000)) (x:Nat) (hx:x<m.gZ.toNat):Calls prog 198 #[kF m an cn ao co,.slice b l.length d,.int .i64 x] w fun e w'=>∃(a':Option Addr) (c':Nat) (L:List Int),e= .returned (.slice a' L.length c')/\Hid (L=l.map fun s=>m.nx s.toNat x)/\Sl (fun k=>k<w.heap.size) w' a' c' L/\Below w.heap.size w w':=by
 obtain ⟨bn,on,bo,oo,rfl,rfl⟩:=hm.addr ok.out;have hB0:=iB w (iP m (some ⟨bn,on,none⟩) cn (some ⟨bo,oo,none⟩) co);have hx0:=jE w m (some ⟨bn,on,none⟩) cn (some ⟨bo,oo,none⟩) co;have hc0:=hx0.2.2.1;have hz0:w.heap.size<(w.alloc (iP m (some ⟨bn,on,none⟩) cn (some ⟨bo,oo,none⟩) co)).heap.size:=aH;have n1:=ok.out.n1;have l1:=hm.h_.le;have l2:=hm.out.le;have l3:=hs.le;have HM:=bK hm;have HL:=bK hs;have kJ:∀w':World,Ow (α:=Int) (w.heap.size+1) (fun k=>w.heap.size+1<=k) w' 3 (.slice none 0 0) []:=fun _=>Ow.nil;clear hm hs hx0;go_enter func198,ntmps198;go_upto_region 1 with (fail);generalize w.alloc (iP m (some ⟨bn,on,none⟩) cn (some ⟨bo,oo,none⟩) co)=w0 at*
 have kH:=kJ w0;clear kJ;go_wp2_with fail
 go_loopw [7,8] (fun v i wr=>∃(k:Nat) (a':Option Addr) (c':Nat) (L:List Int),k<=l.length/\i= .int .i64 k/\v= .slice a' L.length c'/\Hid (L=(l.take k).map fun s=>m.nx s.toNat x)/\Ow (w.heap.size+1) (fun k=>w.heap.size+1<=k) wr 3 (.slice a' L.length c') L/\
  wr.cell? ⟨w.heap.size,2,none⟩=some (.slice (some ⟨bn,on,none⟩) m.h_.length cn)/\w.heap.size<wr.heap.size/\Below w.heap.size w wr) (fun _ i _=>l.length-(intOf i).toNat)
 case atStart=>exact ⟨0,none,0,[],ah,rfl,rfl,rfl,kH,hc0,hz0,hB0⟩
 case round=>
  clear kH hc0 hz0 hB0;obtain ⟨k,a2,c2,L,hk,rfl,rfl,hL,hO,hc,hz,hB⟩:=hrel;obtain ⟨wo,rfl⟩:=iA wr;have qM:Hid (L.length=k):=bK (by rw [hL.out];simp;omega);by_cases hlt:k<l.length
  ·obtain ⟨bs,os,s0,rfl,hcs,hs0, -⟩:=(HL.out.below hB).iC hlt;have hsr:=hl.out s0 (bV hs0.out);obtain ⟨s,rfl⟩:=b_ hsr.1;have hsn:s<m.h_.length:=ah;obtain ⟨bn2,on2,a1,r1,c1,hbe,hn1,hr1,hS1⟩:=(HM.out.h_.below hB).iD hsn;obtain ⟨rfl,rfl⟩:bn=bn2/\on=on2:=iq hbe;have Ls:=hS1.le;have hrl:Hid ((r1.length:Int)=m.gZ):=by have:=ok.out.rn s hsn;rw [iw hr1.out] at this;exact this
   have hxl:x<r1.length:=ig hrl.out;obtain ⟨b3,o3,t0,rfl,htc,ht0,vK⟩:=hS1.iC hxl;have hnx:Hid (m.nx s x=t0):=by unfold Hid g_.nx;rw [iw hr1.out,iw ht0.out]
   have hLn:Hid ((l.take (k+1)).map (fun s=>m.nx s.toNat x)=L++[t0]):=by unfold Hid;rw [dh,hs0.out,eB,hL.out,<-hnx.out];rfl
   clear hbe hS1 hsr;go_upto_region 5 with (fail);refine iO (fun w'=>w'.cell? ⟨w.heap.size,2,none⟩=some (.slice (some ⟨bn,on,none⟩) m.h_.length cn)/\w'.cell? ⟨bs,os+k,none⟩=some (.int .i64 (s:Int))/\w'.cell? ⟨bn,on+s,none⟩=some (.slice (some ⟨b3,o3,none⟩) r1.length c1)/\w'.cell? ⟨b3,o3+x,none⟩=some (.int .i64 t0)) [0,1,2,3,4,5,6,7,8,9,10,11] aB ?_;have hd:=(bP wo.heap.size wo).drew;have hO4:=hO.below hd;have hB4:=hB.trans (hd.mono ah);have ku:=And.intro (show wo.drew.cell? ⟨w.heap.size,2,none⟩=some (.slice (some ⟨bn,on,none⟩) m.h_.length cn) from hc) (And.intro (show wo.drew.cell? ⟨bs,os+k,none⟩=some (.int .i64 (s:Int)) from hcs) (And.intro (show wo.drew.cell? ⟨bn,on+s,none⟩=some (.slice (some ⟨b3,o3,none⟩) r1.length c1) from hn1) (show wo.drew.cell? ⟨b3,o3+x,none⟩=some (.int .i64 t0) from htc)));have nN:w.heap.size<wo.drew.heap.size:=hz;have HK:Hid (∀w',Below (w.heap.size+1) wo.drew w'->w'.cell? ⟨w.heap.size,2,none⟩=some (.slice (some ⟨bn,on,none⟩) m.h_.length cn)):=fun w' h=>(h.cell (p:=⟨w.heap.size,2,none⟩) (gL _)).trans ku.1;clear hd hO hB hc hz hcs hn1 htc;generalize wo.drew=w4 at*
   refine iT [0,1,2,3,4,5,6,7,8,9,10,11] ?_;refine iJ 12 fun K hK=> ?_;go_simp;have hba:=iB w4 (.cells #[.int .i64 t0] 3);have hS5:=And.intro ((hba.cell (p:=⟨w.heap.size,2,none⟩) (lt_of_cell ku.1)).trans ku.1) (And.intro ((hba.cell (p:=⟨bs,os+k,none⟩) (lt_of_cell ku.2.1)).trans ku.2.1) (And.intro ((hba.cell (p:=⟨bn,on+s,none⟩) (lt_of_cell ku.2.2.1)).trans ku.2.2.1) ((hba.cell (p:=⟨b3,o3+x,none⟩) (lt_of_cell ku.2.2.2)).trans ku.2.2.2)));refine hK _ _ (fun _=>hS5) ?_;clear hK K ku;refine jW (i:=13) aB aB rfl rfl (fun K hK=> ?_);refine ql (B:=w.heap.size+1) (M:=fun k=>w.heap.size+1<=k) (v:= .slice a2 L.length c2) (l:=L) (y:=t0) rfl underlying49 iE rfl rfl (hO4.alloc _) bf vK.out (by have:=qM.out;have:=hll.out;omega) aJ ?_;intro a6 c6 L6 w6 hL6 lu P_ XF;have hb6:=((bP (w.heap.size+1) w4).alloc ah (.cells #[.int .i64 t0] 3)).grown XF aJ (fun k hk=>(hO4.lt k hk).1);have jo:=hB4.trans (hb6.mono ah);have hc6:=HK.out w6 hb6;have qR:w.heap.size<w6.heap.size:=ig hb6.size;have aaS:Hid (L6=(l.take (k+1)).map fun s=>m.nx s.toNat x):=bK (by rw [hL6.out,hLn.out]);refine hK _ _ ?_;clear hK K hS5 HK hO4 hB4 hba XF P_ hb6 hL6;refine jW (i:=14) aB aB rfl rfl (fun K hK=> ?_);go_simp;refine hK _ _ ?_;clear hK K;refine iN aB ?_ _;go_wp2;go_roundw;case rel=>exact ⟨k+1,a6,c6,L6,ah,by go_num,rfl,aaS,lu,hc6,qR,jo⟩
   case measure=>exact bF
  have hkn:Hid (L=l.map fun s=>m.nx s.toNat x):=bK (by rw [hL.out,bY ah]);have hS:=hO.fresh (n:=w.heap.size) ah;go_wp2;go_ret;exact ⟨a2,c2,L,rfl,hkn,hS,hB⟩
end
section
variable {M M':Nat->Prop} {w:World} {b q:Option Addr} {d c:Nat} {l P:List Int}
theorem vY (hs:Sl M w b d l) (hp:Sl M' w q c P) (hr:Hid (∀i∈P,0<=i/\i<(l.length:Int))) (hn:Hid (P.length<1000000)):Calls prog 197 #[.slice b l.length d,.slice q P.length c] w fun e w'=>∃(a':Option Addr) (c':Nat) (L:List Int),e= .returned (.slice a' L.length c')/\Hid (L=P.map fun i=>l.getD i.toNat 0)/\Sl (fun k=>k<w.heap.size) w' a' c' L/\Below w.heap.size w w':=by
 have kJ:Ow (α:=Int) w.heap.size (fun k=>w.heap.size<=k) w 3 (.slice none 0 0) []:=Ow.nil;have hB0:=bP w.heap.size w;have l1:=hs.le;have l2:=hp.le;have HS:=bK hs;have HP:=bK hp;clear hs hp;go_enter func197,ntmps197;go_wp2;go_loopw [5,6] (fun v i wr=>∃(k:Nat) (a':Option Addr) (c':Nat) (L:List Int),k<=P.length/\i= .int .i64 k/\v= .slice a' L.length c'/\Hid (L=(P.take k).map fun i=>l.getD i.toNat 0)/\Ow w.heap.size (fun k=>w.heap.size<=k) wr 3 (.slice a' L.length c') L/\Below w.heap.size w wr) (fun _ i _=>P.length-(intOf i).toNat);case atStart=>exact ⟨0,none,0,[],ah,rfl,rfl,rfl,kJ,hB0⟩
 case round=>
  clear kJ hB0;obtain ⟨k,a2,c2,L,hk,rfl,rfl,hL,hO,hB⟩:=hrel;obtain ⟨wo,rfl⟩:=iA wr;have hz:=hB.size;have qM:Hid (L.length=k):=bK (by rw [hL.out];simp;omega);by_cases hlt:k<P.length
  ·obtain ⟨bp,op,i0,rfl,hic,hi0, -⟩:=(HP.out.below hB).iC hlt;have hir:=hr.out i0 (bV hi0.out);obtain ⟨i,rfl⟩:=b_ hir.1;have hil:i<l.length:=ah;obtain ⟨bl,ol,t0,rfl,htc,ht0,vK⟩:=(HS.out.below hB).iC hil;have hLn:Hid ((P.take (k+1)).map (fun i=>l.getD i.toNat 0)=L++[t0]):=by unfold Hid;rw [dh,hi0.out,eB,hL.out];simp [ht0.out]
   clear hir;go_wp2_with (at_builtin;refine iQ (B:=w.heap.size) (l:=L) (y:=t0) rfl rfl underlying49 iE rfl rfl (hO.alloc _) bf vK.out (by have:=qM.out;have:=hn.out;omega) aJ ?_);intro a3 c3 L3 w3 hL3 hO3 hb3;have hB3:=(hB.alloc hz (.cells #[.int .i64 t0] 3)).trans hb3;have amX:Hid (L3=(P.take (k+1)).map fun i=>l.getD i.toNat 0):=bK (by rw [hL3.out,hLn.out]);clear hO hB hb3 hic htc;go_wp2;go_roundw;case rel=>exact ⟨k+1,a3,c3,L3,ah,by go_num,rfl,amX,hO3,hB3⟩
   case measure=>exact bF
  have hkn:Hid (L=P.map fun i=>l.getD i.toNat 0):=bK (by rw [hL.out,bY ah]);have hS:=hO.fresh (n:=w.heap.size) (bM _);go_wp2;go_ret;exact ⟨a2,c2,L,rfl,hkn,hS,hB⟩
end
def wR (p:Int->Bool) (l:List Int) (k:Nat):List Int:=((List.range k).filter fun i=>p (l.getD i 0)).map fun i:Nat=>(i:Int)
theorem Kr {p:Int->Bool} {l:List Int} {k:Nat}:wR p l (k+1)=wR p l k++if p (l.getD k 0)=true then [(k:Int)] else []:=by
 unfold wR;rw [aqg,fV,eB];congr 1
 simp only [arX,ar3];cases p (l.getD k 0)<;>rfl
theorem GA {p:Int->Bool} {l:List Int} {k:Nat}:(wR p l k).length<=k:=by
 unfold wR;rw [dJ];exact dH (fK _ _) aH
section
variable {M M':Nat->Prop} {w:World} {an ao b:Option Addr} {cn co d:Nat} {m:g_} {l:List Int}
theorem GD (hm:Ma M w an cn ao co m) (hs:Sl M' w b d l) (ok:Hid m.Ok) (hl:Hid (∀s∈l,0<=s/\s<m.h_.length)) (hll:Hid (l.length<1000000)) (x:Nat) (hx:x<m.gZ.toNat) (o:Int):Calls prog 196 #[kF m an cn ao co,.slice b l.length d,.int .i64 x,.int .i64 o] w fun e w'=>∃(a':Option Addr) (c':Nat) (L:List Int),e= .returned (.slice a' L.length c')/\Hid (L=wR (fun s=>decide (m.ot s.toNat x=o)) l l.length)/\Sl (fun k=>k<w.heap.size) w' a' c' L/\Below w.heap.size w w':=by
 obtain ⟨bn,on,bo,oo,rfl,rfl⟩:=hm.addr ok.out;have hB0:=iB w (iP m (some ⟨bn,on,none⟩) cn (some ⟨bo,oo,none⟩) co);have hx0:=jE w m (some ⟨bn,on,none⟩) cn (some ⟨bo,oo,none⟩) co;have hc0:=hx0.2.2.2;have hz0:w.heap.size<(w.alloc (iP m (some ⟨bn,on,none⟩) cn (some ⟨bo,oo,none⟩) co)).heap.size:=aH;have n1:=ok.out.n1;have l1:=hm.h_.le;have l2:=hm.out.le;have l3:=hs.le;have HM:=bK hm;have HL:=bK hs;have kJ:∀w':World,Ow (α:=Int) (w.heap.size+1) (fun k=>w.heap.size+1<=k) w' 3 (.slice none 0 0) []:=fun _=>Ow.nil;clear hm hs hx0;go_enter func196,ntmps196;go_upto_region 1 with (fail);generalize w.alloc (iP m (some ⟨bn,on,none⟩) cn (some ⟨bo,oo,none⟩) co)=w0 at*
 have kH:=kJ w0;clear kJ;go_wp2_with fail
 go_loopw [9,10] (fun v i wr=>∃(k:Nat) (a':Option Addr) (c':Nat) (L:List Int),k<=l.length/\i= .int .i64 k/\v= .slice a' L.length c'/\Hid (L=wR (fun s=>decide (m.ot s.toNat x=o)) l k)/\Ow (w.heap.size+1) (fun k=>w.heap.size+1<=k) wr 3 (.slice a' L.length c') L/\
  wr.cell? ⟨w.heap.size,3,none⟩=some (.slice (some ⟨bo,oo,none⟩) m.out.length co)/\w.heap.size<wr.heap.size/\Below w.heap.size w wr) (fun _ i _=>l.length-(intOf i).toNat)
 case atStart=>exact ⟨0,none,0,[],ah,rfl,rfl,rfl,kH,hc0,hz0,hB0⟩
 case round=>
  clear kH hc0 hz0 hB0;obtain ⟨k,a2,c2,L,hk,rfl,rfl,hL,hO,hc,hz,hB⟩:=hrel;obtain ⟨wo,rfl⟩:=iA wr;have qM:Hid (L.length<=k):=bK (by rw [hL.out];exact GA);by_cases hlt:k<l.length
  ·obtain ⟨bs,os,s0,rfl,hcs,hs0, -⟩:=(HL.out.below hB).iC hlt;have hsr:=hl.out s0 (bV hs0.out);obtain ⟨s,rfl⟩:=b_ hsr.1;have hsn:s<m.h_.length:=ah;have hso:s<m.out.length:=ig ok.out.lo;obtain ⟨bn2,on2,a1,r1,c1,hbe,hn1,hr1,hS1⟩:=(HM.out.out.below hB).iD hso;obtain ⟨rfl,rfl⟩:bo=bn2/\oo=on2:=iq hbe;have Ls:=hS1.le;have hrl:Hid ((r1.length:Int)=m.gZ):=by have:=ok.out.ro s hsn;rw [iw hr1.out] at this;exact this
   have hxl:x<r1.length:=ig hrl.out;obtain ⟨b3,o3,t0,rfl,htc,ht0,vK⟩:=hS1.iC hxl;have hot:Hid (m.ot s x=t0):=by unfold Hid g_.ot;rw [iw hr1.out,iw ht0.out]
   have hLn:Hid (wR (fun s=>decide (m.ot s.toNat x=o)) l (k+1)=L++if t0=o then [(k:Int)] else []):=by
    unfold Hid;rw [Kr,hL.out,iw hs0.out];congr 1
    simp only [gQ];rw [show m.ot ((s:Int)).toNat x=t0 from hot.out]
   clear hbe hS1 hsr;have p1:∀n,(wo.drewN n).cell? ⟨w.heap.size,3,none⟩=some (.slice (some ⟨bo,oo,none⟩) m.out.length co):=fun n=>by simpa using hc
   have p2:∀n,(wo.drewN n).cell? ⟨bs,os+k,none⟩=some (.int .i64 (s:Int)):=fun n=>by simpa using hcs
   have p3:∀n,(wo.drewN n).cell? ⟨bo,oo+s,none⟩=some (.slice (some ⟨b3,o3,none⟩) r1.length c1):=fun n=>by simpa using hn1
   have p4:∀n,(wo.drewN n).cell? ⟨b3,o3+x,none⟩=some (.int .i64 t0):=fun n=>by simpa using htc
   by_cases he:t0=o
   ·have LV:(t0==o)=true:=by simp [he]
    rw [bQ he] at hLn;clear he;go_upto_region 5 with (fail);refine go_quiet fun nq=> ?_;have hd:=below_drewN wo.heap.size wo nq;have hO4:=hO.below hd;have hB4:=hB.trans (hd.mono ah);have hc4:=p1 nq;have nN:w.heap.size<(wo.drewN nq).heap.size:=ig hd.size;clear p1 p2 p3 p4 hd hO hB hc hz hcs hn1 htc;generalize wo.drewN nq=w4 at*
    have agv:Hid (i64 (k:Int)):=by unfold Hid i64;omega
    go_wp2_with (at_builtin;refine iQ (B:=w.heap.size+1) (l:=L) (y:=(k:Int)) rfl rfl underlying49 iE rfl rfl (hO4.alloc _) bf agv.out (by have:=qM.out;have:=hll.out;omega) aJ ?_);intro a6 c6 L6 w6 hL6 lu hb6;have Ed:=((bP (w.heap.size+1) w4).alloc ah (.cells #[.int .i64 (k:Int)] 3)).trans hb6;have jo:=hB4.trans (Ed.mono ah);have hc6:=(Ed.cell (p:=⟨w.heap.size,3,none⟩) (gL _)).trans hc4;have qR:w.heap.size<w6.heap.size:=ig Ed.size;have aaS:Hid (L6=wR (fun s=>decide (m.ot s.toNat x=o)) l (k+1)):=bK (by rw [hL6.out,hLn.out]);clear hO4 hB4 hc4 hb6 Ed;go_wp2;go_roundw;case rel=>exact ⟨k+1,a6,c6,L6,ah,by go_num,rfl,aaS,lu,hc6,qR,jo⟩
    case measure=>exact bF
   have LV:(t0==o)=false:=by simp [he]
   rw [bO he,gD] at hLn;have aaS:Hid (L=wR (fun s=>decide (m.ot s.toNat x=o)) l (k+1)):=hLn.out.symm;clear he;go_upto_region 5 with (fail);refine go_quiet fun nq=> ?_;have hd:=below_drewN wo.heap.size wo nq;have hO4:=hO.below hd;have hB4:=hB.trans (hd.mono ah);have hc4:=p1 nq;have nN:w.heap.size<(wo.drewN nq).heap.size:=ig hd.size;clear p1 p2 p3 p4 hd hO hB hc hz hcs hn1 htc;generalize wo.drewN nq=w4 at*
   go_wp2;go_roundw;case rel=>exact ⟨k+1,a2,c2,L,ah,by go_num,rfl,aaS,hO4,hc4,nN,hB4⟩
   case measure=>exact bF
  have hkn:Hid (L=wR (fun s=>decide (m.ot s.toNat x=o)) l l.length):=bK (by rw [hL.out,show k=l.length by omega]);have hS:=hO.fresh (n:=w.heap.size) ah;go_wp2;go_ret;exact ⟨a2,c2,L,rfl,hkn,hS,hB⟩
end
