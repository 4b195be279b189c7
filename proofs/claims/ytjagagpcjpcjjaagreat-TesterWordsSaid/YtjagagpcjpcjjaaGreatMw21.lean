/- Lemmas, each with its own conditions. -/
import Derived.Test.YtjagagpcjpcjjaaGreatMw19
set_option maxRecDepth 100000
set_option maxHeartbeats 32000000
namespace Go.Proofs.YtjagagpcjpcjjaaGreat
open Tryz
open Go.RowKit
section
variable {M M':Nat->Prop} {w:World} {an ao ac:Option Addr} {cn co cc:Nat} {m:g_} {cls:List Int}
theorem alX (hm:Ma M w an cn ao co m) (ok:m.Ok) (k:Int) (hk:k<0):Calls prog 165 #[kF m an cn ao co,.int .i64 k] w fun e w'=> ∃a c l d,e= .returned (.tuple #[.slice a l.length c,.int .i64 ((d:Nat):Int)])/\Hid (l=(m.pp d).1/\m.Steps (0) d)/\Sl (fun k=>k<w.heap.size) w' a c l/\Below w.heap.size w w':=by
 have OK:=bK ok;have n1:=ok.n1;have n0:=ok.n0;have hk2:=hk;clear ok;go_enter func165,ntmps165;go_wp2_with (at_make;refine jX (B:=w.heap.size+1) (n:=m.h_.length) rfl rfl underlying49 iE rfl ah aH ?_);intro g c l w1 hl hO hb1 hg;have tV:∀o,w1.cell? ⟨w.heap.size,o,none⟩=_:=fun o=>hb1.cell aH;have hS:=hO.fresh (n:=w.heap.size) ah;go_wp2
 go_loopw [6,7,21] (fun v n i wr=>∃(j:Nat) (a':Option Addr) (c':Nat) (l:List Int) (q:Int),j<=0/\i= .int .i64 j/\v= .slice a' l.length c'/\n= .int .i64 q/\Hid (m.pp j=(l,q))/\Hid (∀j',j'<j->(m.pp (j'+1)).2≠(m.pp j').2)/\Sl (fun k=>k<w.heap.size) wr a' c' l/\
     Below (w.heap.size+1) (w.alloc (.cells #[.int .i64 m.gZ,.int .i64 m.start,.slice an m.h_.length cn,.slice ao m.out.length co] 24)) wr) (fun _ _ i _=>(0)-(intOf i).toNat)
 case atStart=>exact ⟨0,_,_,l,1,ah,rfl,rfl,rfl,bK (by rw [hl.out];rfl),fun j hj=>by omega,hS,hb1⟩
 case round=>
  clear hO hb1 hS tV hl;obtain ⟨j,a',c',l,q,hj,rfl,rfl,rfl,hpp,hdf,hS,hB⟩:=hrel;obtain ⟨wo,rfl⟩:=iA wr;have hbx:∀o,wo.cell? ⟨w.heap.size,o,none⟩=_:=fun o=>hB.cell aH;have hsz:w.heap.size+1<=wo.heap.size:=iq hB.size;have hB3:Below w.heap.size w wo:=((bP _ _).alloc (bM _) _).trans (hB.mono ah);have hpl:Hid ((m.pp j).1=l/\(m.pp j).2=q):=bK (by rw [hpp.out];exact ⟨rfl,rfl⟩);by_cases hlt:j<0
  ·have Lh:(j:Int)<0:=ah;have hll:l.length=m.h_.length:=by rw [<-hpl.out.1,m.yt]
   have HF:=bK (AR (hm.below hB3) hS OK.out hll);have Oq:=bK hll;clear hll;by_cases hq:(m.pp (j+1)).2=q;·have HQ:=bK hq;clear hq;go_wp2_with (go_at_call 211;refine (HF.out).mono ?_;rintro e w4 ⟨a4,c4,l4,q4,rfl,hl4,ku,hb4⟩;have hqq:(q4==q)=true:=by (rw [Oq.out,<-hpl.out.1,<-m.lQ] at hl4;have h5:=HQ.out;rw [hl4.out] at h5;simpa using h5));go_ret2;exact ⟨a',c',l,j,rfl,⟨hpl.out.1.symm,ah,hdf.out,.inr (by rw [hpl.out.2];exact HQ.out)⟩,hS.below' hb4,hB3.trans (hb4.mono ah)⟩
   have HQ:=bK hq;clear hq;go_wp2_with (go_at_call 211;refine (HF.out).mono ?_;rintro e w4 ⟨a4,c4,l4,q4,rfl,hl4,ku,hb4⟩;have hqq:(q4==q)=false:=by (rw [Oq.out,<-hpl.out.1,<-m.lQ] at hl4;have h5:=HQ.out;rw [hl4.out] at h5;simpa using h5));go_roundw
   case rel=>exact ⟨j+1,a4,c4,l4,q4,ah,by go_num,rfl,rfl,bK (by rw [m.lQ,hpl.out.1,<-Oq.out];exact hl4.out),fun j' hj'=>by
    by_cases e:j'=j
    ·subst e;rw [hpl.out.2];exact HQ.out
    exact hdf.out j' ah,ku.anti (fun q _ hq=>by omega),hB.trans (hb4.mono hsz)⟩
   case measure=>exact bF
  have Lh:¬(j:Int)<0:=ah;have hjk:Hid (j=0):=bK ah;go_wp2;refine go_quiet fun nq=> ?_;go_wp2;go_ret2;refine ⟨a',c',l,j,yD (ig hjk.out),⟨hpl.out.1.symm,ah,hdf.out,.inl hjk.out⟩,?_,?_⟩;·exact hS.ext ⟨bM _,fun _ _ _=>rfl,fun _ _ h=>h⟩
  exact iF hB3 _
theorem alY (hm:Ma M w an cn ao co m) (ok:m.Ok) (p:Nat) (hk:p<m.h_.length):Calls prog 165 #[kF m an cn ao co,.int .i64 (p:Int)] w fun e w'=> ∃a c l d,e= .returned (.tuple #[.slice a l.length c,.int .i64 ((d:Nat):Int)])/\Hid (l=(m.pp d).1/\m.Steps (p) d)/\Sl (fun k=>k<w.heap.size) w' a c l/\Below w.heap.size w w':=by
 have OK:=bK ok;have n1:=ok.n1;have n0:=ok.n0;have hk2:=hk;clear ok;go_enter func165,ntmps165;go_wp2_with (at_make;refine jX (B:=w.heap.size+1) (n:=m.h_.length) rfl rfl underlying49 iE rfl ah aH ?_);intro g c l w1 hl hO hb1 hg;have tV:∀o,w1.cell? ⟨w.heap.size,o,none⟩=_:=fun o=>hb1.cell aH;have hS:=hO.fresh (n:=w.heap.size) ah;go_wp2
 go_loopw [6,7,21] (fun v n i wr=>∃(j:Nat) (a':Option Addr) (c':Nat) (l:List Int) (q:Int),j<=p/\i= .int .i64 j/\v= .slice a' l.length c'/\n= .int .i64 q/\Hid (m.pp j=(l,q))/\Hid (∀j',j'<j->(m.pp (j'+1)).2≠(m.pp j').2)/\Sl (fun k=>k<w.heap.size) wr a' c' l/\
     Below (w.heap.size+1) (w.alloc (.cells #[.int .i64 m.gZ,.int .i64 m.start,.slice an m.h_.length cn,.slice ao m.out.length co] 24)) wr) (fun _ _ i _=>(p)-(intOf i).toNat)
 case atStart=>exact ⟨0,_,_,l,1,ah,rfl,rfl,rfl,bK (by rw [hl.out];rfl),fun j hj=>by omega,hS,hb1⟩
 case round=>
  clear hO hb1 hS tV hl;obtain ⟨j,a',c',l,q,hj,rfl,rfl,rfl,hpp,hdf,hS,hB⟩:=hrel;obtain ⟨wo,rfl⟩:=iA wr;have hbx:∀o,wo.cell? ⟨w.heap.size,o,none⟩=_:=fun o=>hB.cell aH;have hsz:w.heap.size+1<=wo.heap.size:=iq hB.size;have hB3:Below w.heap.size w wo:=((bP _ _).alloc (bM _) _).trans (hB.mono ah);have hpl:Hid ((m.pp j).1=l/\(m.pp j).2=q):=bK (by rw [hpp.out];exact ⟨rfl,rfl⟩);by_cases hlt:j<p
  ·have Lh:(j:Int)<(p:Int):=ah;have hll:l.length=m.h_.length:=by rw [<-hpl.out.1,m.yt]
   have HF:=bK (AR (hm.below hB3) hS OK.out hll);have Oq:=bK hll;clear hll;by_cases hq:(m.pp (j+1)).2=q;·have HQ:=bK hq;clear hq;go_wp2_with (go_at_call 211;refine (HF.out).mono ?_;rintro e w4 ⟨a4,c4,l4,q4,rfl,hl4,ku,hb4⟩;have hqq:(q4==q)=true:=by (rw [Oq.out,<-hpl.out.1,<-m.lQ] at hl4;have h5:=HQ.out;rw [hl4.out] at h5;simpa using h5));go_ret2;exact ⟨a',c',l,j,rfl,⟨hpl.out.1.symm,ah,hdf.out,.inr (by rw [hpl.out.2];exact HQ.out)⟩,hS.below' hb4,hB3.trans (hb4.mono ah)⟩
   have HQ:=bK hq;clear hq;go_wp2_with (go_at_call 211;refine (HF.out).mono ?_;rintro e w4 ⟨a4,c4,l4,q4,rfl,hl4,ku,hb4⟩;have hqq:(q4==q)=false:=by (rw [Oq.out,<-hpl.out.1,<-m.lQ] at hl4;have h5:=HQ.out;rw [hl4.out] at h5;simpa using h5));go_roundw
   case rel=>exact ⟨j+1,a4,c4,l4,q4,ah,by go_num,rfl,rfl,bK (by rw [m.lQ,hpl.out.1,<-Oq.out];exact hl4.out),fun j' hj'=>by
    by_cases e:j'=j
    ·subst e;rw [hpl.out.2];exact HQ.out
    exact hdf.out j' ah,ku.anti (fun q _ hq=>by omega),hB.trans (hb4.mono hsz)⟩
   case measure=>exact bF
  have Lh:¬(j:Int)<(p:Int):=ah;have hjk:Hid (j=p):=bK ah;go_wp2;refine go_quiet fun nq=> ?_;go_wp2;go_ret2;refine ⟨a',c',l,j,yD (ig hjk.out),⟨hpl.out.1.symm,ah,hdf.out,.inl hjk.out⟩,?_,?_⟩;·exact hS.ext ⟨bM _,fun _ _ _=>rfl,fun _ _ h=>h⟩
  exact iF hB3 _
theorem alZ (hm:Ma M w an cn ao co m) (ok:m.Ok) (k:Int) (hk:(m.h_.length:Int)<k):Calls prog 165 #[kF m an cn ao co,.int .i64 k] w fun e w'=> ∃a c l d,e= .returned (.tuple #[.slice a l.length c,.int .i64 ((d:Nat):Int)])/\Hid (l=(m.pp d).1/\m.Steps (m.h_.length) d)/\Sl (fun k=>k<w.heap.size) w' a c l/\Below w.heap.size w w':=by
 have OK:=bK ok;have n1:=ok.n1;have n0:=ok.n0;have hk2:=hk;clear ok;go_enter func165,ntmps165;go_wp2_with (at_make;refine jX (B:=w.heap.size+1) (n:=m.h_.length) rfl rfl underlying49 iE rfl ah aH ?_);intro g c l w1 hl hO hb1 hg;have tV:∀o,w1.cell? ⟨w.heap.size,o,none⟩=_:=fun o=>hb1.cell aH;have hS:=hO.fresh (n:=w.heap.size) ah;go_wp2
 go_loopw [6,7,21] (fun v n i wr=>∃(j:Nat) (a':Option Addr) (c':Nat) (l:List Int) (q:Int),j<=m.h_.length/\i= .int .i64 j/\v= .slice a' l.length c'/\n= .int .i64 q/\Hid (m.pp j=(l,q))/\Hid (∀j',j'<j->(m.pp (j'+1)).2≠(m.pp j').2)/\Sl (fun k=>k<w.heap.size) wr a' c' l/\
     Below (w.heap.size+1) (w.alloc (.cells #[.int .i64 m.gZ,.int .i64 m.start,.slice an m.h_.length cn,.slice ao m.out.length co] 24)) wr) (fun _ _ i _=>(m.h_.length)-(intOf i).toNat)
 case atStart=>exact ⟨0,_,_,l,1,ah,rfl,rfl,rfl,bK (by rw [hl.out];rfl),fun j hj=>by omega,hS,hb1⟩
 case round=>
  clear hO hb1 hS tV hl;obtain ⟨j,a',c',l,q,hj,rfl,rfl,rfl,hpp,hdf,hS,hB⟩:=hrel;obtain ⟨wo,rfl⟩:=iA wr;have hbx:∀o,wo.cell? ⟨w.heap.size,o,none⟩=_:=fun o=>hB.cell aH;have hsz:w.heap.size+1<=wo.heap.size:=iq hB.size;have hB3:Below w.heap.size w wo:=((bP _ _).alloc (bM _) _).trans (hB.mono ah);have hpl:Hid ((m.pp j).1=l/\(m.pp j).2=q):=bK (by rw [hpp.out];exact ⟨rfl,rfl⟩);by_cases hlt:j<m.h_.length
  ·have Lh:(j:Int)<(m.h_.length:Int):=ah;have hll:l.length=m.h_.length:=by rw [<-hpl.out.1,m.yt]
   have HF:=bK (AR (hm.below hB3) hS OK.out hll);have Oq:=bK hll;clear hll;by_cases hq:(m.pp (j+1)).2=q;·have HQ:=bK hq;clear hq;go_wp2_with (go_at_call 211;refine (HF.out).mono ?_;rintro e w4 ⟨a4,c4,l4,q4,rfl,hl4,ku,hb4⟩;have hqq:(q4==q)=true:=by (rw [Oq.out,<-hpl.out.1,<-m.lQ] at hl4;have h5:=HQ.out;rw [hl4.out] at h5;simpa using h5));go_ret2;exact ⟨a',c',l,j,rfl,⟨hpl.out.1.symm,ah,hdf.out,.inr (by rw [hpl.out.2];exact HQ.out)⟩,hS.below' hb4,hB3.trans (hb4.mono ah)⟩
   have HQ:=bK hq;clear hq;go_wp2_with (go_at_call 211;refine (HF.out).mono ?_;rintro e w4 ⟨a4,c4,l4,q4,rfl,hl4,ku,hb4⟩;have hqq:(q4==q)=false:=by (rw [Oq.out,<-hpl.out.1,<-m.lQ] at hl4;have h5:=HQ.out;rw [hl4.out] at h5;simpa using h5));go_roundw
   case rel=>exact ⟨j+1,a4,c4,l4,q4,ah,by go_num,rfl,rfl,bK (by rw [m.lQ,hpl.out.1,<-Oq.out];exact hl4.out),fun j' hj'=>by
    by_cases e:j'=j
    ·subst e;rw [hpl.out.2];exact HQ.out
    exact hdf.out j' ah,ku.anti (fun q _ hq=>by omega),hB.trans (hb4.mono hsz)⟩
   case measure=>exact bF
  have Lh:¬(j:Int)<(m.h_.length:Int):=ah;have hjk:Hid (j=m.h_.length):=bK ah;go_wp2;refine go_quiet fun nq=> ?_;go_wp2;go_ret2;refine ⟨a',c',l,j,yD (ig hjk.out),⟨hpl.out.1.symm,ah,hdf.out,.inl hjk.out⟩,?_,?_⟩;·exact hS.ext ⟨bM _,fun _ _ _=>rfl,fun _ _ h=>h⟩
  exact iF hB3 _
theorem al0 (hm:Ma M w an cn ao co m) (ok:m.Ok) (hk:0<m.h_.length):Calls prog 165 #[kF m an cn ao co,.int .i64 (m.h_.length:Int)] w fun e w'=> ∃a c l d,e= .returned (.tuple #[.slice a l.length c,.int .i64 ((d:Nat):Int)])/\Hid (l=(m.pp d).1/\m.Steps (m.h_.length) d)/\Sl (fun k=>k<w.heap.size) w' a c l/\Below w.heap.size w w':=by
 have OK:=bK ok;have n1:=ok.n1;have n0:=ok.n0;have hk2:=hk;clear ok;go_enter func165,ntmps165;go_wp2_with (at_make;refine jX (B:=w.heap.size+1) (n:=m.h_.length) rfl rfl underlying49 iE rfl ah aH ?_);intro g c l w1 hl hO hb1 hg;have tV:∀o,w1.cell? ⟨w.heap.size,o,none⟩=_:=fun o=>hb1.cell aH;have hS:=hO.fresh (n:=w.heap.size) ah;go_wp2
 go_loopw [6,7,21] (fun v n i wr=>∃(j:Nat) (a':Option Addr) (c':Nat) (l:List Int) (q:Int),j<=m.h_.length/\i= .int .i64 j/\v= .slice a' l.length c'/\n= .int .i64 q/\Hid (m.pp j=(l,q))/\Hid (∀j',j'<j->(m.pp (j'+1)).2≠(m.pp j').2)/\Sl (fun k=>k<w.heap.size) wr a' c' l/\
     Below (w.heap.size+1) (w.alloc (.cells #[.int .i64 m.gZ,.int .i64 m.start,.slice an m.h_.length cn,.slice ao m.out.length co] 24)) wr) (fun _ _ i _=>(m.h_.length)-(intOf i).toNat)
 case atStart=>exact ⟨0,_,_,l,1,ah,rfl,rfl,rfl,bK (by rw [hl.out];rfl),fun j hj=>by omega,hS,hb1⟩
 case round=>
  clear hO hb1 hS tV hl;obtain ⟨j,a',c',l,q,hj,rfl,rfl,rfl,hpp,hdf,hS,hB⟩:=hrel;obtain ⟨wo,rfl⟩:=iA wr;have hbx:∀o,wo.cell? ⟨w.heap.size,o,none⟩=_:=fun o=>hB.cell aH;have hsz:w.heap.size+1<=wo.heap.size:=iq hB.size;have hB3:Below w.heap.size w wo:=((bP _ _).alloc (bM _) _).trans (hB.mono ah);have hpl:Hid ((m.pp j).1=l/\(m.pp j).2=q):=bK (by rw [hpp.out];exact ⟨rfl,rfl⟩);by_cases hlt:j<m.h_.length
  ·have Lh:(j:Int)<(m.h_.length:Int):=ah;have hll:l.length=m.h_.length:=by rw [<-hpl.out.1,m.yt]
   have HF:=bK (AR (hm.below hB3) hS OK.out hll);have Oq:=bK hll;clear hll;by_cases hq:(m.pp (j+1)).2=q;·have HQ:=bK hq;clear hq;go_wp2_with (go_at_call 211;refine (HF.out).mono ?_;rintro e w4 ⟨a4,c4,l4,q4,rfl,hl4,ku,hb4⟩;have hqq:(q4==q)=true:=by (rw [Oq.out,<-hpl.out.1,<-m.lQ] at hl4;have h5:=HQ.out;rw [hl4.out] at h5;simpa using h5));go_ret2;exact ⟨a',c',l,j,rfl,⟨hpl.out.1.symm,ah,hdf.out,.inr (by rw [hpl.out.2];exact HQ.out)⟩,hS.below' hb4,hB3.trans (hb4.mono ah)⟩
   have HQ:=bK hq;clear hq;go_wp2_with (go_at_call 211;refine (HF.out).mono ?_;rintro e w4 ⟨a4,c4,l4,q4,rfl,hl4,ku,hb4⟩;have hqq:(q4==q)=false:=by (rw [Oq.out,<-hpl.out.1,<-m.lQ] at hl4;have h5:=HQ.out;rw [hl4.out] at h5;simpa using h5));go_roundw
   case rel=>exact ⟨j+1,a4,c4,l4,q4,ah,by go_num,rfl,rfl,bK (by rw [m.lQ,hpl.out.1,<-Oq.out];exact hl4.out),fun j' hj'=>by
    by_cases e:j'=j
    ·subst e;rw [hpl.out.2];exact HQ.out
    exact hdf.out j' ah,ku.anti (fun q _ hq=>by omega),hB.trans (hb4.mono hsz)⟩
   case measure=>exact bF
  have Lh:¬(j:Int)<(m.h_.length:Int):=ah;have hjk:Hid (j=m.h_.length):=bK ah;go_wp2;refine go_quiet fun nq=> ?_;go_wp2;go_ret2;refine ⟨a',c',l,j,yD (ig hjk.out),⟨hpl.out.1.symm,ah,hdf.out,.inl hjk.out⟩,?_,?_⟩;·exact hS.ext ⟨bM _,fun _ _ _=>rfl,fun _ _ h=>h⟩
  exact iF hB3 _
theorem SB (hm:Ma M w an cn ao co m) (ok:m.Ok) (k:Int):Calls prog 165 #[kF m an cn ao co,.int .i64 k] w fun e w'=> ∃a c l d,e= .returned (.tuple #[.slice a l.length c,.int .i64 ((d:Nat):Int)])/\Hid (l=(m.pp d).1/\m.Steps (min k.toNat m.h_.length) d)/\Sl (fun k=>k<w.heap.size) w' a c l/\Below w.heap.size w w':=by
 by_cases h1:k<0;·have:=alX hm ok k h1;rwa [show min k.toNat m.h_.length=0 from by omega]
 obtain ⟨p,rfl⟩:=b_ (show 0<=k by omega);by_cases h2:p<m.h_.length;·have:=alY hm ok p h2;rwa [show min (p:Int).toNat m.h_.length=p from by omega]
 by_cases h3:p=m.h_.length;·subst h3;have:=al0 hm ok ok.n0;rwa [show min (m.h_.length:Int).toNat m.h_.length=m.h_.length from by omega]
 have:=alZ hm ok (p:Int) ah;rwa [show min (p:Int).toNat m.h_.length=m.h_.length from by omega]
end
def g_.Ev (m:g_) (d:Nat):Prop:=if m.err=0 then m.Steps m.h_.length d else d=0
section
variable {M:Nat->Prop} {w:World} {an ao:Option Addr} {cn co:Nat} {m:g_}
theorem aah (hm:Ma M w an cn ao co m) (k:Int):Calls prog 119 #[kF m an cn ao co,.int .i64 k] w fun e w'=> ∃a c l,e= .returned (.tuple #[.slice a l.length c,.int .i64 m.err])/\Hid (l=m.partOf k)/\Sl (fun k=>k<w.heap.size) w' a c l/\Below w.heap.size w w':=by
 have HV:=bK (jR (hm.ext (Ext.alloc M w (.cells #[.int .i64 m.gZ,.int .i64 m.start,.slice an m.h_.length cn,.slice ao m.out.length co] 24))));by_cases he:m.err=0
 ·have ok:=m.iG he;have OK:=bK ok;have he':(m.err !=0)=false:=by simp [he]
  have HE:=bK he;clear he ok;go_enter func119,ntmps119;go_wp2_with (go_at_call 33;refine (HV.out).mono ?_;rintro e w1 ⟨rfl,hb1⟩;have tV:∀o,w1.cell? ⟨w.heap.size,o,none⟩=_:=fun o=>hb1.cell aH;have hm1:=(hm.ext (Ext.alloc M w (.cells #[.int .i64 m.gZ,.int .i64 m.start,.slice an m.h_.length cn,.slice ao m.out.length co] 24))).below hb1;have HR:=bK (SB hm1 OK.out k);clear hm1;try (go_at_call 165));have Wx:w.heap.size+1<=w1.heap.size:=iq hb1.size;refine (HR.out).mono ?_;rintro e w2 ⟨a,c,l,d,rfl,hl,hs,hb2⟩;go_wp2;go_ret2;exact ⟨a,c,l,Fx HE.out.symm,by unfold Hid g_.partOf;rw [bQ HE.out,hl.out.1,hl.out.2.classes OK.out],hs.anti (fun q _ hq=>by omega),(((bP _ _).alloc (bM _) _).trans (hb1.mono aH)).trans (hb2.mono ah)⟩
 have he':(m.err !=0)=true:=by simp [he]
 have HE:=bK he;clear he;go_enter func119,ntmps119;go_wp2_with (go_at_call 33;refine (HV.out).mono ?_;rintro e w1 ⟨rfl,hb1⟩);go_ret2;exact ⟨none,0,[],rfl,by unfold Hid g_.partOf;rw [bO HE.out],Sl.nil _ _ _ aS,((bP _ _).alloc (bM _) _).trans (hb1.mono aH)⟩
theorem O_ (hm:Ma M w an cn ao co m):Calls prog 69 #[kF m an cn ao co] w fun e w'=> ∃a c l,e= .returned (.tuple #[.slice a l.length c,.int .i64 m.err])/\Hid (l=m.partOf 128)/\Sl (fun k=>k<w.heap.size) w' a c l/\Below w.heap.size w w':=by
 have HP:=bK (aah (hm.ext (Ext.alloc M w (.cells #[.int .i64 m.gZ,.int .i64 m.start,.slice an m.h_.length cn,.slice ao m.out.length co] 24))) 128);go_enter func69,ntmps69;go_wp2_with (go_at_call 119;refine (HP.out).mono ?_;rintro e w1 ⟨a,c,l,rfl,hl,hs,hb⟩);go_ret2;exact ⟨a,c,l,rfl,hl,hs.anti (fun q _ hq=>by simp;omega),((bP _ _).alloc (bM _) _).trans (hb.mono aH)⟩
end
theorem g_.Steps.unique {m:g_} {n d d':Nat} (h:m.Steps n d) (h':m.Steps n d'):d=d':=by
 rcases arJ d d' with e|e|e
 ·rcases h.2.2 with h1|h1;·have:=h'.1;omega
  exact absurd h1 (h'.2.1 d e)
 ·exact e
 rcases h'.2.2 with h1|h1;·have:=h.1;omega
 exact absurd h1 (h.2.1 d' e)
theorem g_.Ev.unique {m:g_} {d d':Nat} (h:m.Ev d) (h':m.Ev d'):d=d':=by
 unfold Ev at h h';by_cases e:m.err=0;·rw [bQ e] at h h';exact h.unique h'
 rw [bO e] at h h';rw [h,h']
section
variable {M:Nat->Prop} {w:World} {an ao:Option Addr} {cn co:Nat} {m:g_}
end
