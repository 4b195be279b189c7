/- Lemmas, each with its own conditions. -/
import Derived.Test.YtjagagpcjpcjjaaGreatMw25
import Derived.Test.YtjagagpcjpcjjaaGreatMw24
import Derived.Test.YtjagagpcjpcjjaaGreatMw15
set_option maxRecDepth 100000
set_option maxHeartbeats 32000000
namespace Go.Proofs.YtjagagpcjpcjjaaGreat
open Tryz
open Go.RowKit
def g_.iU (m:g_):Int:=if m.err≠0 then m.err else if m.minimal=false then 1 else 0
theorem g_.Gv {m:g_} (h:m.err≠0):m.iU=m.err:=by unfold iU;rw [bQ h]
theorem g_.Gw {m:g_} (h:m.err=0) (h2:m.minimal=false):m.iU=1:=by unfold iU;rw [bO (by simp [h]),bQ h2]
theorem g_.Gx {m:g_} (h:m.err=0) (h2:m.minimal=true):m.iU=0:=by unfold iU;rw [bO (by simp [h]),bO (by simp [h2])]
theorem g_.jv {m:g_} (h:m.iU=0):m.err=0/\m.minimal=true:=by
 by_cases e:m.err=0
 ·cases h2:m.minimal with
  |true=>exact ⟨e,rfl⟩
  |false=>rw [Gw e h2] at h;simp at h
 rw [Gv e] at h;exact absurd h e
def jK (n:Nat):List Int:=(List.range n).map (fun k:Nat=>(k:Int))
theorem kS (n:Nat):(jK n).length=n:=by simp [jK]
theorem Xw {n j:Nat} (h:j<n):((jK j)++List.replicate (n-j) 0).set j (j:Int)=jK (j+1)++List.replicate (n-(j+1)) 0:=by
 rw [aro _ _ (by rw [kS];exact bM _),kS,aq9];obtain ⟨q,hq⟩:∃q,n-j=q+1:=⟨n-j-1,ah⟩;rw [hq,show n-(j+1)=q by omega,aqK];simp [jK,aqg]
section
variable {M:Nat->Prop} {w:World} {an ao:Option Addr} {cn co:Nat} {m:g_}
theorem Gy (hm:Ma M w an cn ao co m):Calls prog 131 #[kF m an cn ao co] w fun e w'=>e= .returned (.int .i64 m.iU)/\Below w.heap.size w w':=by
 have hB0:=iB w (iP m an cn ao co);have hx0:=jE w m an cn ao co;have hz0:w.heap.size+1<=(w.alloc (iP m an cn ao co)).heap.size:=aH;have HM:=bK hm;have HC:=bK (jR (HM.out.below hB0));clear hm;by_cases he:m.err=0;rotate_left
 ·have LV:(m.err !=0)=true:=by simp [he]
  have hF:Hid (m.err=m.iU):=(g_.Gv he).symm;clear he;go_enter func131,ntmps131;go_wp2_with fail;generalize w.alloc (iP m an cn ao co)=w0 at*
  refine (HC.out).mono ?_;rintro e w1 ⟨rfl,hb1⟩;have hB1:=hB0.trans (hb1.mono ah);go_wp2;go_ret;exact ⟨kQ hF.out,hB1⟩
 have LV:(m.err !=0)=false:=by simp [he]
 have HE:=bK he;clear he;go_enter func131,ntmps131;go_wp2_with fail;generalize w.alloc (iP m an cn ao co)=w0 at*
 refine (HC.out).mono ?_;rintro e w1 ⟨rfl,hb1⟩;have hB1:=hB0.trans (hb1.mono ah);have hx1:=hx0.below hb1 ah;have hz1:w.heap.size+1<=w1.heap.size:=ig hb1.size;have HC:=bK (Dq (HM.out.below hB1));clear hB0 hx0 hz0 hb1;go_wp2_with fail;refine (HC.out).mono ?_;rintro e w2 ⟨v,rfl,hv,hb2⟩;have hB2:=hB1.trans (hb2.mono ah);clear HC hb2 hB1;cases v with
 |true=>have hF:Hid ((0:Int)=m.iU):=(g_.Gx HE.out hv.out.symm).symm;go_wp2;go_ret;exact ⟨kQ hF.out,hB2⟩
 |false=>have hF:Hid ((1:Int)=m.iU):=(g_.Gw HE.out hv.out.symm).symm;go_wp2;go_ret;exact ⟨kQ hF.out,hB2⟩
theorem tK (hm:Ma M w an cn ao co m) (hn:m.h_.length<1000000000):Calls prog 133 #[kF m an cn ao co] w fun e w'=>∃(a':Option Addr) (c':Nat) (L:List Int),e= .returned (.slice a' L.length c')/\Hid (L=jK m.h_.length)/\ Sl (fun k=>k<w.heap.size) w' a' c' L/\Below w.heap.size w w':=by
 have hB0:=iB w (iP m an cn ao co);have hx0:=jE w m an cn ao co;have hz0:w.heap.size+1<=(w.alloc (iP m an cn ao co)).heap.size:=aH;have l1:=hm.h_.le;clear hm;go_enter func133,ntmps133;go_wp2_with (at_make;refine jX (B:=w.heap.size+1) (n:=m.h_.length) rfl rfl underlying49 iE rfl ah aH ?_);intro g c l w2 hl hO hb2 hg;have hln:l.length=m.h_.length:=by rw [hl.out];simp
 rw [hln] at hO ⊢;have hl0:Hid (l=jK 0++List.replicate (m.h_.length-0) 0):=bK (by rw [hl.out];simp [jK]);have hB2:=hB0.trans (hb2.mono ah);clear hln hl hb2 hx0 hB0;go_wp2;go_loopw [11] (fun i wr=>∃(j:Nat) (L:List Int),j<=m.h_.length/\i= .int .i64 j/\Hid (L=jK j++List.replicate (m.h_.length-j) 0)/\Ow (w.heap.size+1) (fun k=>w.heap.size+1<=k) wr 3 (.slice (some ⟨g,0,none⟩) m.h_.length c) L/\Below w.heap.size w wr) (fun i _=>m.h_.length-(intOf i).toNat);case atStart=>exact ⟨0,l,ah,rfl,hl0,hO,hB2⟩
 case round=>
  clear hl0 hO hB2;obtain ⟨j,L,hj,rfl,hL,hO,hB⟩:=hrel;obtain ⟨w3,rfl⟩:=iA wr;have qM:m.h_.length=L.length:=by rw [hL.out,dB,kS,fC];omega
  by_cases hlt:j<m.h_.length
  ·obtain ⟨g',z,hgg,hcz,hfz, -, -⟩:=hO.mO qM (show j<L.length by omega);obtain rfl:g'=g:=iq hgg.symm;have hO4:=bK (hO.nu qM ah j (show i64 (j:Int) by unfold i64;omega));have hB4:=bK (hB.setCell (p:=⟨g',j,none⟩) (by show w.heap.size<=g';omega) (.int .i64 j));have hL4:Hid (L.set j (j:Int)=jK (j+1)++List.replicate (m.h_.length-(j+1)) 0):=bK (by rw [hL.out];exact Xw hlt);clear hO hB hL qM hgg;go_wp2;go_roundw;case rel=>exact ⟨j+1,L.set j (j:Int),ah,by go_num,hL4,hO4.out,hB4.out⟩
   case measure=>exact bF
  have hF:Hid (L=jK m.h_.length):=bK (by rw [hL.out,show j=m.h_.length by omega];simp);rw [qM] at hO;have hS:=hO.fresh (n:=w.heap.size) ah;have HLl:=bK qM;clear hO hL qM;go_wp2;go_ret;exact ⟨some ⟨g,0,none⟩,c,L,Gc HLl.out,hF,hS,hB⟩
end
section
variable {P:Program} {α:Type} [GR α] {w:World} {ops:Array Oper} {rest:List Oper} {o:Oper} {a:Act} {Q:Exit->Act->World->Prop}
theorem sN (hg:o.guard=none) (x y:Operand) (t:TypeId) (hop:o.op= .makeSlice t x y) (e:TypeId) (z:Value) (bytes:Nat) (ht:P.underlying t=some (.slice e)) (hi:(P.info? e).map (fun i=>(i.zero,i.size,i.bytes))=some (some z,GR.sz α,bytes)) (B:Nat) (M:Nat->Prop) (n:Nat) (hx:a.eval x= .int .i64 0) (hy:a.eval y= .int .i64 n) (hn:bytes*n<=281474976710656) (hn2:n<=maxLen) (hB:B<=w.heap.size) (h:∀w',Ow B M w' e (.slice (some ⟨w.heap.size,0,none⟩) 0 n) ([]:List α)->Below w.heap.size w w'-> wpList P ops Q rest (a.put o.dst (.slice (some ⟨w.heap.size,0,none⟩) 0 n)) w'):wpList P ops Q (o::rest) a w:=by
 refine aqi hg fun K hK=> ?_;obtain ⟨i,hi1,hi2,hi3,hi4⟩:=aqa hi;obtain ⟨w',hr,ho,hgr⟩:=run_make_own (P:=P) w B t e i z (GR.sz α) ht hi1 hi2 hi3 .i64 .i64 n (by rw [hi4];exact hn) hn2 hB;unfold Oper.wp;simp only [execOp,hop,hx,hy,hr,ara,aqx,aqU,Oper.upon];exact hK _ _ (h w' ⟨[],ho,fun j x hj=>by simp at hj⟩ ((bP _ _).grown hgr (bM _) (fun k hk=>by cases hk)))
end
namespace g_
variable (m:g_)
def mrg (a:Nat) (s t:Int):Bool:=decide (m.ot s.toNat a=m.ot t.toNat a)&&decide (m.nx s.toNat a=m.nx t.toNat a)
def qU (a:Nat) (l:List Int) (s:Int):Bool:=l.all fun t=> !m.mrg a s t
def jN (a:Nat) (l:List Int):Nat->Bool
 |0=>true
 |k+1=>jN a l k&&m.qU a (l.take k) (l.getD k 0)
def vW (a:Nat) (l:List Int) (k:Nat):Bool:=(l.take k).all fun s=>decide (m.ot s.toNat a=m.ot (l.getD 0 0).toNat a)
def wH (a:Nat) (l:List Int) (k:Nat):List Int:=(l.take k).map fun s=>m.nx s.toNat a
def wQ (a:Nat) (l:List Int):List Int×Bool×Bool:=if m.jN a l l.length=true then (m.wH a l l.length,true,m.vW a l l.length) else ([],false,false)
variable {m}
theorem Km {a:Nat} {l:List Int} {k n:Nat} (hk:k<=n) (h:m.jN a l k=false):m.jN a l n=false:=by
 induction n with
 |zero=>obtain rfl:k=0:=ah;exact h
 |succ n ih=>
  by_cases e:k=n+1;·rw [<-e];exact h
  simp only [jN];rw [ih ah];rfl
theorem Ko {a:Nat} {l:List Int} {s t:Int} {j:Nat} (h:l[j]? =some t) (hm:m.mrg a s t=true):m.qU a l s=false:=by
 unfold qU;rw [aqw];exact ⟨t,bV h,by simp [hm]⟩
theorem zO {a:Nat} {l:List Int} {s t:Int} {j:Nat} (h:l[j]? =some t) (hm:m.mrg a s t=false) (hj:m.qU a (l.take j) s=true):m.qU a (l.take (j+1)) s=true:=by
 unfold qU at hj ⊢;rw [dh,h];simp only [List.all_append,hj,aq1];simp [hm]
theorem zP {a:Nat} {l:List Int} {k:Nat} {s:Int} (h:l[k]? =some s):m.wH a l (k+1)=m.wH a l k++[m.nx s.toNat a]:=by
 unfold wH;rw [dh,h];simp
theorem Xx {a:Nat} {l:List Int} {k:Nat} {s:Int} (h:l[k]? =some s):m.vW a l (k+1)=(m.vW a l k&&decide (m.ot s.toNat a=m.ot (l.getD 0 0).toNat a)):=by
 unfold vW;rw [dh,h];simp [List.all_append]
end g_
section
variable {M M':Nat->Prop} {w:World} {an ao b:Option Addr} {cn co d:Nat} {m:g_} {l:List Int}
theorem Xy (hm:Ma M w an cn ao co m) (hs:Sl M' w b d l) (ok:Hid m.Ok) (hl:Hid (∀s∈l,0<=s/\s<m.h_.length)) (hll:l.length<1000000000) (x:Nat) (hx:x<m.gZ.toNat):Calls prog 215 #[kF m an cn ao co,.slice b l.length d,.int .i64 x] w fun e w'=>∃(a':Option Addr) (c':Nat) (L:List Int) (p q:Bool),e= .returned (.tuple #[.slice a' L.length c',.bool p,.bool q])/\Hid (m.wQ x l=(L,p,q))/\ Sl (fun k=>k<w.heap.size) w' a' c' L/\Below w.heap.size w w':=by
 obtain ⟨bn,on,bo,oo,rfl,rfl⟩:=hm.addr ok.out;have hB0:=iB w (iP m (some ⟨bn,on,none⟩) cn (some ⟨bo,oo,none⟩) co);have hx0:=jE w m (some ⟨bn,on,none⟩) cn (some ⟨bo,oo,none⟩) co;have hz0:w.heap.size+1<=(w.alloc (iP m (some ⟨bn,on,none⟩) cn (some ⟨bo,oo,none⟩) co)).heap.size:=aH;have n1:=ok.out.n1;have lo:=ok.out.lo;have i1:=ok.out.i1;have l1:=hm.h_.le;have l2:=hm.out.le;have HM:=bK hm;have HS:=bK (hs.anti (M':=fun _=>False) fun _ _ h=>h.elim);have HLO:=bK lo;clear hm hs lo;go_enter func215,ntmps215;go_wp2_with (at_make;refine sN (α:=Int) rfl _ _ _ rfl _ _ _ underlying49 iE (w.heap.size+1) (fun k=>w.heap.size+1<=k) l.length rfl rfl ah aS hz0 ?_);intro w1 kH hb1;have hB1:=hB0.trans (hb1.mono ah);have hx1:=hx0.below hb1 ah;have hz1:w.heap.size+1<=w1.heap.size:=by have:=hb1.size;simp at this;omega
 clear hB0 hx0 hb1;go_wp2
 go_loopw [9,10,20] (fun v t i wr=>∃(k:Nat) (a':Option Addr) (c':Nat) (K:List Int) (q:Bool),k<=l.length/\i= .int .i64 k/\v= .slice a' K.length c'/\t= .bool q/\Hid (K=m.wH x l k/\q=m.vW x l k/\m.jN x l k=true)/\
  Ow (w.heap.size+1) (fun k=>w.heap.size+1<=k) wr 3 (.slice a' K.length c') K/\C4 wr w.heap.size (some ⟨bn,on,none⟩) cn (some ⟨bo,oo,none⟩) co m/\w.heap.size+1<=wr.heap.size/\Below w.heap.size w wr) (fun _ _ i _=>l.length-(intOf i).toNat)
 case atStart=>exact ⟨0,_,_,[],true,ah,rfl,rfl,rfl,⟨rfl,rfl,rfl⟩,kH,hx1,hz1,hB1⟩
 case round=>
  clear kH hx1 hz1 hB1;obtain ⟨k,a2,c2',K,q,hk,rfl,rfl,rfl,hK,hO,hC,hz,hB⟩:=hrel;obtain ⟨w2,rfl⟩:=iA wr;by_cases hlt:k<l.length
  ·obtain ⟨bs,os,s0,rfl,hcs,hs0, -⟩:=(HS.out.below hB).iC hlt;have hsr:=hl.out s0 (bV hs0.out);obtain ⟨s,rfl⟩:=b_ hsr.1;have hsn:s<m.h_.length:=ah;have hM0:Hid (m.qU x (l.take 0) (s:Int)=true):=bK (by simp [g_.qU]);have Px:k<=d:=ig HS.out.1;clear hsr;go_wp2
   go_loopw [29] (fun u wr=>∃j:Nat,j<=k/\u= .int .i64 j/\Hid (m.qU x (l.take j) (s:Int)=true)/\
    Ow (w.heap.size+1) (fun k=>w.heap.size+1<=k) wr 3 (.slice a2 K.length c2') K/\C4 wr w.heap.size (some ⟨bn,on,none⟩) cn (some ⟨bo,oo,none⟩) co m/\w.heap.size+1<=wr.heap.size/\Below w.heap.size w wr) (fun u _=>k-(intOf u).toNat)
   case atStart=>exact ⟨0,ah,rfl,hM0,hO,hC,hz,hB⟩
   case round=>
    clear hM0 hO hC hz hB hcs;obtain ⟨j,hj,rfl,hN,hO,hC,hz,hB⟩:=hrel;obtain ⟨w3,rfl⟩:=iA wr;by_cases hjk:j<k
    ·obtain ⟨bt,ot,t0,hht,hct,ht0, -⟩:=(HS.out.below hB).iC (show j<l.length by omega);obtain ⟨rfl,rfl⟩:bt=bs/\ot=os:=by simp at hht;exact ⟨hht.1.symm,hht.2.symm⟩
     have htr:=hl.out t0 (bV ht0.out);obtain ⟨t,rfl⟩:=b_ htr.1;have htn:t<m.h_.length:=ah;have htj:Hid ((l.take k)[j]? =some (t:Int)):=bK (by rw [dL,bQ hjk];exact ht0.out);have htl:t<m.out.length:=by rw [HLO.out];exact htn
     have hsl:s<m.out.length:=by rw [HLO.out];exact hsn
     clear htr hht;obtain ⟨b1,o1,c1,q1,b2,o2,c2,q2,sn,sy,e1,e2,e3,e4,e5,e6,e7,e8,e9,e10,e11,e12,e13⟩:=(HM.out.below hB).RQ ok.out hsn hx;obtain ⟨b3,o3,c3,q3,b4,o4,c4,q4,tn,ty,f1,f2,f3,f4,f5,f6,f7,f8,f9,f10,f11,f12,f13⟩:=(HM.out.below hB).RQ ok.out htn hx;have hmr:Hid (m.mrg x (s:Int) (t:Int)=(decide (sy=ty)&&decide ((sn:Int)=(tn:Int)))):=by unfold Hid g_.mrg;rw [dK,dK,e8.out,e9.out,f8.out,f9.out]
     by_cases hy:sy=ty
     ·have hyb:(sy==ty)=true:=by simp [hy]
      by_cases hn:sn=tn
      ·have hnb:((sn:Int)==(tn:Int))=true:=by simp [hn]
       have hF:Hid (m.wQ x l=([],false,false)):=by
        have h1:m.qU x (l.take k) (s:Int)=false:=g_.Ko htj.out (by rw [hmr.out];simp [hy,hn]);have h2:m.jN x l (k+1)=false:=by simp only [g_.jN];rw [bS,hs0.out];simp [h1]
        unfold Hid g_.wQ;rw [g_.Km (show k+1<=l.length by omega) h2];rfl
       clear hy hn hmr;go_wp2;refine go_quiet fun nq=> ?_;go_wp2;go_ret3;exact ⟨none,0,[],false,false,rfl,hF.out,Sl.nil _ _ _ aS,iF hB _⟩
      have hnb:((sn:Int)==(tn:Int))=false:=aJ;have IG:=bK (g_.zO (l:=l.take k) htj.out (by rw [hmr.out];simp;omega) (by rw [aqp,fM ah];exact hN.out));have IG:Hid (m.qU x (l.take (j+1)) (s:Int)=true):=by have:=IG.out;rwa [aqp,fM ah] at this
      clear hy hn hmr;go_wp2;refine go_quiet fun nq=> ?_;go_wp2;go_roundw;case rel=>exact ⟨j+1,ah,by go_num,IG,hO.drewN _,hC.below (below_drewN (w.heap.size+1) _ _) ah,iq hz,iF hB _⟩
      case measure=>exact bF
     have hyb:(sy==ty)=false:=by simp [hy]
     have IG:=bK (g_.zO (l:=l.take k) htj.out (by rw [hmr.out];simp [hy]) (by rw [aqp,fM ah];exact hN.out));have IG:Hid (m.qU x (l.take (j+1)) (s:Int)=true):=by have:=IG.out;rwa [aqp,fM ah] at this
     clear hy hmr;go_wp2;refine go_quiet fun nq=> ?_;go_wp2;go_roundw;case rel=>exact ⟨j+1,ah,by go_num,IG,hO.drewN _,hC.below (below_drewN (w.heap.size+1) _ _) ah,iq hz,iF hB _⟩
     case measure=>exact bF
    have ai7:j=k:=ah;have wI:Hid (m.jN x l (k+1)=true):=by unfold Hid;simp only [g_.jN];rw [bS,hs0.out,hK.out.2.2];have:=hN.out;rw [ai7] at this;simpa using this
    obtain ⟨bt,ot,t0,hht,hct,ht0, -⟩:=(HS.out.below hB).iC (show 0<l.length by omega);obtain ⟨rfl,rfl⟩:bt=bs/\ot=os:=by simp at hht;exact ⟨hht.1.symm,hht.2.symm⟩
    have htr:=hl.out t0 (bV ht0.out);obtain ⟨t,rfl⟩:=b_ htr.1;have htn:t<m.h_.length:=ah;have htl:t<m.out.length:=by rw [HLO.out];exact htn
    have hsl:s<m.out.length:=by rw [HLO.out];exact hsn
    have rW:K.length<=k:=by rw [hK.out.1];simp [g_.wH];omega
    have aph:0<l.length:=ah;have hct:w3.cell? ⟨bt,ot,none⟩=some (.int .i64 ((t:Nat):Int)):=hct;clear htr hht hN ai7;obtain ⟨b1,o1,c1,q1,b2,o2,c2,q2,sn,sy,e1,e2,e3,e4,e5,e6,e7,e8,e9,e10,e11,e12,e13⟩:=(HM.out.below hB).RQ ok.out hsn hx;obtain ⟨b3,o3,c3,q3,b4,o4,c4,q4,tn,ty,f1,f2,f3,f4,f5,f6,f7,f8,f9,f10,f11,f12,f13⟩:=(HM.out.below hB).RQ ok.out htn hx;have hQ0:Hid (m.vW x l (k+1)=(q&&decide (sy=ty))):=by unfold Hid;rw [g_.Xx hs0.out,hK.out.2.1,bS,ht0.out];simp only [gV,dK,e9.out,f9.out]
    cases q with
    |false=>
     have hQ:Hid (false=m.vW x l (k+1)):=bK (by rw [hQ0.out];rfl);clear hQ0;go_wp2;refine go_quiet fun nq=> ?_;go_wp2_with (at_builtin;refine iQ (B:=w.heap.size+1) (l:=K) (y:=(sn:Int)) rfl rfl underlying49 iE rfl rfl ((hO.drewN _).alloc _) (acQ _ _ _ rfl) bg ah aJ ?_);intro a6 c6 K6 w6 Dy lu hb6;have kG:=((below_drewN (w.heap.size+1) w3 nq).alloc (iq hz) (.cells #[.int .i64 ((sn:Nat):Int)] 3)).trans hb6;have YL:=hC.below kG ah;have jo:=hB.trans (kG.mono ah);have qR:w.heap.size+1<=w6.heap.size:=dH hz kG.size;have Dy:Hid (K6=m.wH x l (k+1)/\false=m.vW x l (k+1)/\m.jN x l (k+1)=true):=⟨by rw [Dy.out,hK.out.1,g_.zP hs0.out,dK,e8.out],hQ.out,wI.out⟩;clear hO hb6 kG hC hB hQ;go_wp2;go_roundw;case rel=>exact ⟨k+1,a6,c6,K6,false,ah,by go_num,rfl,rfl,Dy,lu,YL,qR,jo⟩
     case measure=>exact bF
    |true=>
     by_cases hy:sy=ty
     ·have hyb:(sy==ty)=true:=by simp [hy]
      have hQ:Hid (true=m.vW x l (k+1)):=bK (by rw [hQ0.out];simp [hy]);clear hQ0 hy;go_wp2;refine go_quiet fun nq=> ?_;go_wp2_with (at_builtin;refine iQ (B:=w.heap.size+1) (l:=K) (y:=(sn:Int)) rfl rfl underlying49 iE rfl rfl ((hO.drewN _).alloc _) (acQ _ _ _ rfl) bg ah aJ ?_);intro a6 c6 K6 w6 Dy lu hb6;have kG:=((below_drewN (w.heap.size+1) w3 nq).alloc (iq hz) (.cells #[.int .i64 ((sn:Nat):Int)] 3)).trans hb6;have YL:=hC.below kG ah;have jo:=hB.trans (kG.mono ah);have qR:w.heap.size+1<=w6.heap.size:=dH hz kG.size;have Dy:Hid (K6=m.wH x l (k+1)/\true=m.vW x l (k+1)/\m.jN x l (k+1)=true):=⟨by rw [Dy.out,hK.out.1,g_.zP hs0.out,dK,e8.out],hQ.out,wI.out⟩;clear hO hb6 kG hC hB hQ;go_wp2;go_roundw;case rel=>exact ⟨k+1,a6,c6,K6,true,ah,by go_num,rfl,rfl,Dy,lu,YL,qR,jo⟩
      case measure=>exact bF
     have hyb:(sy==ty)=false:=by simp [hy]
     have hQ:Hid (false=m.vW x l (k+1)):=bK (by rw [hQ0.out];simp [hy]);clear hQ0 hy;go_wp2;refine go_quiet fun nq=> ?_;go_wp2_with (at_builtin;refine iQ (B:=w.heap.size+1) (l:=K) (y:=(sn:Int)) rfl rfl underlying49 iE rfl rfl ((hO.drewN _).alloc _) (acQ _ _ _ rfl) bg ah aJ ?_);intro a6 c6 K6 w6 Dy lu hb6;have kG:=((below_drewN (w.heap.size+1) w3 nq).alloc (iq hz) (.cells #[.int .i64 ((sn:Nat):Int)] 3)).trans hb6;have YL:=hC.below kG ah;have jo:=hB.trans (kG.mono ah);have qR:w.heap.size+1<=w6.heap.size:=dH hz kG.size;have Dy:Hid (K6=m.wH x l (k+1)/\false=m.vW x l (k+1)/\m.jN x l (k+1)=true):=⟨by rw [Dy.out,hK.out.1,g_.zP hs0.out,dK,e8.out],hQ.out,wI.out⟩;clear hO hb6 kG hC hB hQ;go_wp2;go_roundw;case rel=>exact ⟨k+1,a6,c6,K6,false,ah,by go_num,rfl,rfl,Dy,lu,YL,qR,jo⟩
     case measure=>exact bF
  have hF:Hid (m.wQ x l=(K,true,q)):=by have h:=hK.out;rw [show k=l.length by omega] at h;unfold Hid g_.wQ;rw [bQ h.2.2,<-h.1,<-h.2.1]
  have zh:=hO.fresh (n:=w.heap.size) ah;clear hO hC;go_wp2;go_ret3;exact ⟨a2,c2',K,true,q,rfl,hF.out,zh,hB⟩
end
section
variable {M M':Nat->Prop} {w:World} {an ao a:Option Addr} {cn co c:Nat} {m:g_}
theorem Kq {l:List Int} (hm:Ma M w an cn ao co m) (hw:Sl M' w a c l) (ok:Hid m.Ok) (s:Nat) (hs:s<m.h_.length) (hok:Hid (m.nQ l)) (hll:l.length<=1000000):Calls prog 176 #[kF m an cn ao co,.int .i64 s,.slice a l.length c] w fun e w'=>∃(a':Option Addr) (c':Nat) (l':List Int),e= .returned (.slice a' l'.length c')/\Hid (l'=m.iY (s:Int) l)/\Sl (fun k=>k<w.heap.size) w' a' c' l'/\Below w.heap.size w w':=by
 have hB0:=iB w (iP m an cn ao co);have hx0:=jE w m an cn ao co;have hz0:(w.alloc (iP m an cn ao co)).heap.size=w.heap.size+1:=aH;have l1:=hm.h_.le;have l2:=hm.out.le;obtain ⟨bn,on,bo,oo,rfl,rfl⟩:=hm.addr ok.out;have hM0:=hm.below hB0;have hW0:=hw.below hB0;clear hm hw;go_enter func176,ntmps176;go_upto_region 1 with (fail);generalize w.alloc (iP m (some ⟨bn,on,none⟩) cn (some ⟨bo,oo,none⟩) co)=w0 at*
 have HS:Hid (∀w',Below w0.heap.size w0 w'->C4 w' w.heap.size (some ⟨bn,on,none⟩) cn (some ⟨bo,oo,none⟩) co m/\Ma M w' (some ⟨bn,on,none⟩) cn (some ⟨bo,oo,none⟩) co m/\Sl M' w' a c l/\Below w.heap.size w w'):=fun w' h=>
  ⟨hx0.below h ah,hM0.below h,hW0.below h,hB0.trans (h.mono ah)⟩
 have hzw:w.heap.size+1<=w0.heap.size:=ah;clear hx0 hM0 hW0 hB0 hz0;go_wp2_with (at_make;refine sN (α:=Int) rfl _ _ _ rfl _ _ _ underlying49 iE w0.heap.size (fun k=>w0.heap.size<=k) l.length rfl rfl ah aS (bM _) ?_);intro w1 kH hb1;have aaL:Ow w0.heap.size (fun k=>w0.heap.size<=k) w1 3 (.slice (some ⟨w0.heap.size,0,none⟩) ([]:List Int).length l.length) ([]:List Int):=kH;have hl0:Hid (([]:List Int)=m.iY (s:Int) (l.take 0)):=rfl;have he0:Hid (m.lD (s:Int) (l.take 0)=((s:Nat):Int)):=rfl;clear kH;go_wp2
 go_loopw [1,7,15] (fun st v i wr=>∃(k sn:Nat) (a':Option Addr) (c':Nat) (l':List Int),k<=l.length/\sn<m.h_.length/\i= .int .i64 k/\st= .int .i64 sn/\v= .slice a' l'.length c'/\Hid (m.lD (s:Int) (l.take k)=((sn:Nat):Int))/\Hid (l'=m.iY (s:Int) (l.take k))/\
  Ow w0.heap.size (fun k=>w0.heap.size<=k) wr 3 (.slice a' l'.length c') l'/\Below w0.heap.size w0 wr) (fun _ _ i _=>l.length-(intOf i).toNat)
 case atStart=>exact ⟨0,s,_,_,[],ah,hs,rfl,rfl,rfl,he0,hl0,aaL,hb1⟩
 case round=>
  clear aaL hb1 hl0 he0;obtain ⟨k,sn,a2,c2,K,hk,hsn,rfl,rfl,rfl,hE,hL,hO,hB⟩:=hrel;obtain ⟨wo,rfl⟩:=iA wr;have hSo:=HS.out _ hB;have wX:=hB.size;have rW:Hid (K.length=k):=bK (by rw [hL.out,g_.uh,dx];omega);by_cases hlt:k<l.length
  ·obtain ⟨bl,ol,x0,rfl,hxc,hx, -⟩:=hSo.2.2.1.iC hlt;have CY:=bK (hok.out x0 (bV hx.out));obtain ⟨x,rfl⟩:=b_ CY.out.1;have hxn:x<m.gZ.toNat:=ig CY.out.2;obtain ⟨b1,o1,c1,q1,b2,o2,c2',q2,nx,y,e1,e2,e3,e4,hnx,hy0,hy1,aaM,adE,hx1,hx2,hq1,hq2⟩:=hSo.2.1.RQ ok.out hsn hxn;obtain ⟨-, -,d2,d3⟩:=hSo.1;have hso:sn<m.out.length:=ig ok.out.lo;have hE2:Hid (m.lD (s:Int) (l.take (k+1))=((nx:Nat):Int)):=by unfold Hid;rw [g_.rR hx.out,g_.oN,hE.out];simpa using aaM.out
   have hL2:Hid (m.iY (s:Int) (l.take (k+1))=K++[y]):=by unfold Hid;rw [g_.rR hx.out,g_.lN,hE.out,<-hL.out];simpa using adE.out
   have hO2:=hO;have hba:=iB wo (.cells #[.int .i64 y] 3);clear hSo hO CY;go_wp2_with (at_builtin;refine iQ (B:=w0.heap.size) (l:=K) (y:=y) rfl rfl underlying49 iE rfl rfl (hO2.alloc _) bf bg (by rw [rW.out];omega) aJ ?_);intro a5 c5 l5 w5 hl5 kV hb5;have jw:=(hB.alloc wX (.cells #[.int .i64 y] 3)).trans hb5;have hS5:=HS.out _ jw;obtain ⟨b1',o1',c1',q1',b2,o2,c2',q2,nx',y',f1, -,f3, -, -, -, -,amG, -,apj, -,apk, -⟩:=hS5.2.1.RQ ok.out hsn hxn;obtain rfl:nx=nx':=by have h1:=aaM.out;have h2:=amG.out;omega
   have hL5:Hid (l5=m.iY (s:Int) (l.take (k+1))):=bK (by rw [hl5.out,hL2.out]);obtain ⟨-, -,g2, -⟩:=hS5.1;clear hS5 e1 e2 e3 e4 d2 d3 hO2 hB hba hb5 hl5 hx1 hq1 hxc;go_wp2;go_roundw;case rel=>exact ⟨k+1,nx,a5,c5,l5,ah,hnx,by go_num,rfl,rfl,hE2,hL5,kV,jw⟩
   case measure=>exact bF
  have YM:Hid (K=m.iY (s:Int) l):=bK (by rw [hL.out,bY ah]);have wI:=(hO.anyM (M':=fun k=>k<w.heap.size)).jD fun k hk hlt=>by have:=(hO.lt k hk).1;omega
  have jh:=hSo.2.2.2;clear hSo;go_wp2;go_ret;exact ⟨a2,c2,K,rfl,YM,wI,jh⟩
end
def Mi (m:g_) (s t:Nat) (l:List Int):Bool:=decide (m.iY (s:Int) l≠m.iY (t:Int) l)
structure Bx3 (w:World) (b0 b1 b2:Nat) (an:Option Addr) (cn:Nat) (ao:Option Addr) (co:Nat) (m:g_) (s t:Nat):Prop where
 h0:C4 w b0 an cn ao co m
 h1:w.cell? ⟨b1,0,none⟩=some (.int .i64 s)
 h2:w.cell? ⟨b2,0,none⟩=some (.int .i64 t)
theorem Bx3.below {w w':World} {b0 b1 b2 cn co s t:Nat} {an ao:Option Addr} {m:g_} (h:Bx3 w b0 b1 b2 an cn ao co m s t) (hb:Below w.heap.size w w'):Bx3 w' b0 b1 b2 an cn ao co m s t:=
 ⟨h.h0.below hb (lt_of_cell h.h0.1),(hb.cell (p:=⟨b1,0,none⟩) (lt_of_cell h.h1)).trans h.h1,(hb.cell (p:=⟨b2,0,none⟩) (lt_of_cell h.h2)).trans h.h2⟩
section
variable {M M':Nat->Prop} {w:World} {an ao a:Option Addr} {cn co c b0 b1 b2 s t:Nat} {m:g_}
theorem PX {l:List Int} (hm:Ma M w an cn ao co m) (hw:Sl M' w a c l) (hx:Bx3 w b0 b1 b2 an cn ao co m s t) (ok:Hid m.Ok) (hs:s<m.h_.length) (ht:t<m.h_.length) (hok:Hid (m.nQ l)) (hll:l.length<=1000000) {v:Bool} (hv:Mi m s t l=v):Calls prog 174 #[.slice a l.length c,.pointer (some ⟨b0,0,none⟩),.pointer (some ⟨b1,0,none⟩),.pointer (some ⟨b2,0,none⟩)] w fun e w'=>e= .returned (.bool v)/\Below w.heap.size w w':=by
 have HS:Hid (∀w',Below w.heap.size w w'->(C4 w' b0 an cn ao co m/\w'.cell? ⟨b1,0,none⟩=some (.int .i64 s)/\w'.cell? ⟨b2,0,none⟩=some (.int .i64 t))/\Ma M w' an cn ao co m/\Sl M' w' a c l):=fun w' h=>
  ⟨⟨(hx.below h).h0,(hx.below h).h1,(hx.below h).h2⟩,hm.below h,hw.below h⟩
 have HV:=bK hv;have l1:=hm.h_.le;have l2:=hm.out.le;have l3:=hw.le;clear hm hw hx hv;go_enter func174,ntmps174;go_upto_region 1 with (fail);refine iL (fun w'=>C4 w' b0 an cn ao co m/\w'.cell? ⟨b1,0,none⟩=some (.int .i64 s)/\w'.cell? ⟨b2,0,none⟩=some (.int .i64 t)) [0,1,2,4,5,6,9,10] aB ?_;have hB1:=(bP w.heap.size w).drew;have hS1:=(HS.out _ hB1).1;generalize w.drew=w1 at*
 have HO:=bK (Kq (HS.out _ hB1).2.1 (HS.out _ hB1).2.2 ok s hs hok hll);refine iZ [0,1,2,4,5,6] ?_;refine iK 3 fun K hK=> ?_;go_simp;refine (HO.out).mono ?_;rintro e w2 ⟨a2,c2,l2',rfl,hl2,hs2,hb2⟩;have hB2:=hB1.trans (hb2.mono hB1.size);have hS2:=(HS.out _ hB2).1;have HL2:=bK (hs2.anti (M':=fun _=>False) fun _ _ h=>h.elim);have Xz:=hs2.le;refine hK _ _ (fun _=>hS2) ?_;clear hK K HO hS1 hs2 hb2 hB1;have HO:=bK (Kq (HS.out _ hB2).2.1 (HS.out _ hB2).2.2 ok t ht hok hll);refine iK 7 fun K hK=> ?_;go_simp;refine (HO.out).mono ?_;rintro e w3 ⟨a3,c3,l3',rfl,hl3,hs3,hb3⟩;have hB3:=hB2.trans (hb3.mono hB2.size);have kC:=(HS.out _ hB3).1;have HL3:=bK (hs3.anti (M':=fun _=>False) fun _ _ h=>h.elim);have agr:=bK (HL2.out.below hb3);have amH:=hs3.le;have Ru:=RU agr.out HL3.out;have hev:decide (l2'=l3')= !v:=by rw [hl2.out,hl3.out,<-HV.out];unfold Mi;by_cases e:m.iY (s:Int) l=m.iY (t:Int) l<;>simp [e]
 rw [hev] at Ru;have HE:=bK Ru;refine hK _ _ (fun _=>kC) ?_;clear hK K HO hS2 hs3 hb3 hB2 Ru hev;refine iK 8 fun K hK=> ?_;go_simp;refine (HE.out).mono ?_;rintro e w4 ⟨rfl,n4,rfl⟩;have hB4:=iF hB3 n4;have ku:=(HS.out _ hB4).1;refine hK _ _ (fun _=>ku) ?_;clear hK K HE kC hB3;generalize w3.drewN n4=w4 at*
 refine iZ [9,10] ?_;refine iH aB ?_ _;clear ku;go_wp2;go_ret;exact ⟨aH,hB4⟩
theorem aaN {L:List (List Int)} (hm:Ma M w an cn ao co m) (hL:Sl M' w a c L) (hx:Bx3 w b0 b1 b2 an cn ao co m s t) (ok:Hid m.Ok) (hs:s<m.h_.length) (ht:t<m.h_.length) (hok:Hid (∀l∈L,m.nQ l/\l.length<=1000000)) {v:Bool} (hv:L.any (Mi m s t)=v):Calls prog 173 #[.slice a L.length c,.func (.func 174) #[] #[.pointer (some ⟨b0,0,none⟩),.pointer (some ⟨b1,0,none⟩),.pointer (some ⟨b2,0,none⟩)]] w fun e w'=>e= .returned (.bool v)/\Below w.heap.size w w':=by
 have HS:Hid (∀w',Below w.heap.size w w'->Bx3 w' b0 b1 b2 an cn ao co m s t/\Ma M w' an cn ao co m/\Sl M' w' a c L):=fun w' h=>⟨hx.below h,hm.below h,hL.below h⟩;have HV:=bK hv;have l3:=hL.le;have hT0:Hid ((L.take 0).any (Mi m s t)=false):=rfl;have sO:=bP w.heap.size w;clear hm hL hx hv;go_enter func173,ntmps173;go_wp2;go_loopw [9] (fun i wr=>∃k:Nat,k<=L.length/\i= .int .i64 k/\Hid ((L.take k).any (Mi m s t)=false)/\Below w.heap.size w wr) (fun i _=>L.length-(intOf i).toNat);case atStart=>exact ⟨0,ah,rfl,hT0,sO⟩
 case round=>
  clear hT0 sO;obtain ⟨k,hk,rfl,hT,hB⟩:=hrel;obtain ⟨wo,rfl⟩:=iA wr;have wX:=hB.size;by_cases hlt:k<L.length
  ·obtain ⟨bL,oL,ax,x,cx,rfl,hxc,hx,hxs⟩:=(HS.out _ hB).2.2.iD hlt;have hxo:=bK (hok.out x (bV hx.out));have aaO:=hxs.le;cases hq:Mi m s t x with
   |true=>
    have HC:=bK (PX (HS.out _ hB).2.1 hxs (HS.out _ hB).1 ok hs ht (bK hxo.out.1) hxo.out.2 hq);have hvt:v=true:=by rw [<-HV.out];exact List.any_eq_true.2 ⟨x,bV hx.out,hq⟩
    subst hvt;clear hxs hq;go_wp2_with fail;refine (HC.out).mono ?_;rintro e w2 ⟨rfl,hb2⟩;have hB2:=hB.trans (hb2.mono wX);go_wp2;go_ret;exact ⟨rfl,hB2⟩
   |false=>
    have HC:=bK (PX (HS.out _ hB).2.1 hxs (HS.out _ hB).1 ok hs ht (bK hxo.out.1) hxo.out.2 hq);have Om:Hid ((L.take (k+1)).any (Mi m s t)=false):=bK (by rw [dh,hx.out,ar2,hT.out];simp [hq]);clear hxs hq;go_wp2_with fail;refine (HC.out).mono ?_;rintro e w2 ⟨rfl,hb2⟩;have hB2:=hB.trans (hb2.mono wX);clear HC hb2 hB hxc;go_wp2;go_roundw;case rel=>exact ⟨k+1,ah,by go_num,Om,hB2⟩
    case measure=>exact bF
  have hvf:v=false:=by rw [<-HV.out];have h:=hT.out;rwa [bY ah] at h
  subst hvf;go_wp2;go_ret;exact ⟨rfl,hB⟩
theorem zm {L:List (List Int)} (hm:Ma M w an cn ao co m) (hL:Sl M' w a c L) (ok:Hid m.Ok) (hs:s<m.h_.length) (ht:t<m.h_.length) (hok:Hid (∀l∈L,m.nQ l/\l.length<=1000000)) {v:Bool} (hv:L.any (Mi m s t)=v):Calls prog 127 #[kF m an cn ao co,.slice a L.length c,.int .i64 s,.int .i64 t] w fun e w'=>e= .returned (.bool v)/\Below w.heap.size w w':=by
 have hB0:=((iB w (iP m an cn ao co)).alloc aH (.cells #[.int .i64 s] 3)).alloc aJ (.cells #[.int .i64 t] 3);have hx:Bx3 (((w.alloc (iP m an cn ao co)).alloc (.cells #[.int .i64 s] 3)).alloc (.cells #[.int .i64 t] 3)) w.heap.size (w.heap.size+1) (w.heap.size+1+1) an cn ao co m s t:=by have e1:(w.alloc (iP m an cn ao co)).heap.size=w.heap.size+1:=aH;have e2:((w.alloc (iP m an cn ao co)).alloc (.cells #[.int .i64 s] 3)).heap.size=w.heap.size+1+1:=aH;have g1:=dS (w.alloc (iP m an cn ao co)) (.cells #[.int .i64 (s:Int)] 3);have g2:=dS ((w.alloc (iP m an cn ao co)).alloc (.cells #[.int .i64 (s:Int)] 3)) (.cells #[.int .i64 (t:Int)] 3);rw [e1] at g1;rw [e2] at g2;have b1:Below (w.heap.size+1) (w.alloc (iP m an cn ao co)) ((w.alloc (iP m an cn ao co)).alloc (.cells #[.int .i64 (s:Int)] 3)):=(bP _ _).alloc (by rw [e1];exact bM _) _;have b2:Below (w.heap.size+1+1) ((w.alloc (iP m an cn ao co)).alloc (.cells #[.int .i64 (s:Int)] 3)) (((w.alloc (iP m an cn ao co)).alloc (.cells #[.int .i64 (s:Int)] 3)).alloc (.cells #[.int .i64 (t:Int)] 3)):=(bP _ _).alloc (by rw [e2];exact bM _) _;exact ⟨((kI w).below b1 ah).below b2 ah,(b2.cell (p:=⟨w.heap.size+1,0,none⟩) (show w.heap.size+1<w.heap.size+1+1 by omega)).trans (ap2 _ _ _ _ _ _ g1),ap2 _ _ _ _ _ _ g2⟩
 have HC:=bK (aaN (hm.below hB0) (hL.below hB0) hx ok hs ht hok hv);have hmf:∀(fn:Fn) (first cap:Array Value) (w:World),(Instr.makeFunc fn first cap).run prog w= .ok (.func fn first cap) w:=fun _ _ _ _=>rfl;have l1:=hm.h_.le;have l2:=hm.out.le;have l3:=hL.le;clear hm hL hx hv;go_enter func127,ntmps127;go_wp2_with fail;refine (HC.out).mono ?_;rintro e w2 ⟨rfl,hb2⟩;have hB2:=hB0.trans (hb2.mono hB0.size);go_wp2;go_ret;exact ⟨rfl,hB2⟩
end
