/- Lemmas, each with its own conditions. -/
import Derived.Test.YtjagagpcjpcjjaaGreatMw18
import Derived.Test.YtjagagpcjpcjjaaGreatMw15
set_option maxRecDepth 100000
set_option maxHeartbeats 32000000
namespace Go.Proofs.YtjagagpcjpcjjaaGreat
open Tryz
open Go.RowKit
namespace Hy
variable (h:Hy)
def ac (s:Nat):List Int:=h.acc.getD s []
def jq (s:Nat):Int:=if jI (h.ac s) h.m.gZ≠0 then jI (h.ac s) h.m.gZ else if h.m.lD h.m.start (h.ac s)≠s then 15 else 0
def LU:Nat->Int
 |0=>0
 |k+1=>if LU k=0 then h.jq k else LU k
def err:Int:=
 if h.m.err≠0 then h.m.err
 else if h.acc.length≠h.m.h_.length then 1
 else if h.LU h.acc.length≠0 then h.LU h.acc.length
 else if (h.ac h.m.start.toNat).length≠0 then 10 else 0
variable {h}
structure Ok (h:Hy):Prop where
 m:h.m.Ok
 len:h.acc.length=h.m.h_.length
 word:∀s,s<h.acc.length->jI (h.ac s) h.m.gZ=0/\h.m.lD h.m.start (h.ac s)=s
 start:h.ac h.m.start.toNat=[]
end Hy
theorem Vp {m:g_} {w:List Int} (h:jI w m.gZ=0):m.nQ w/\w.length<=1024:=g_.Cg h
section
variable {M:Nat->Prop} {w:World} {an ao ac:Option Addr} {cn co cc:Nat} {h:Hy}
theorem FT {m:g_} (ok:m.Ok):m.jq m.start=0:=by
 unfold g_.jq;rw [bO (by simp [m.oM ok]),bO (by have:=ok.s0;have:=ok.s1;omega)]
end
section
variable {P:Program} {Q:Exit->Act->World->Prop} {md:Region.Mode} {S:World->Prop} {L:List Nat}
end
section
variable {M M':Nat->Prop} {w:World} {a a':Option Addr} {c c':Nat} {t:Tr}
end
section
variable {M M':Nat->Prop} {w:World} {an ao a:Option Addr} {cn co c:Nat} {m:g_}
theorem JV {l:List Int} (hm:Ma M w an cn ao co m) (hw:Sl M' w a c l) (s:Int):Calls prog 193 #[kF m an cn ao co,.int .i64 s,.slice a l.length c] w fun e w'=>∃(a':Option Addr) (c':Nat) (l':List Int),e= .returned (.tuple #[.slice a' l'.length c',.int .i64 (m.AO s l),.int .i64 (m.sG s l)])/\Hid (l'=m.uL s l)/\ Sl (fun k=>k<w.heap.size) w' a' c' l'/\Below w.heap.size w w':=by
 have hll:=hw.le;have hle:=hm.h_.le;have HM:=bK hm;have HW:=bK hw;have hx0:=kI (m:=m) (an:=an) (cn:=cn) (ao:=ao) (co:=co) w;have hB0:=iB w (iP m an cn ao co);have hz0:w.heap.size+1<=(w.alloc (iP m an cn ao co)).heap.size:=aH;have HC:=bK (oz (HM.out.below hB0));clear hm hw;by_cases he:m.err=0
 ·have LV:(m.err !=0)=false:=by simp [he]
  by_cases hs:s<0
  ·have hd:decide (s<0)=true:=by simp [hs]
   have hst:m.jq s=2:=by unfold g_.jq;rw [bO (by simp [he]),bQ (.inl hs)]
   have HF:=g_.AP (w:=l) (by rw [hst];decide);rw [hst] at HF;have HF:=bK HF;clear he hst;go_enter func193,ntmps193;go_wp2_with fail;refine (HC.out).mono ?_;rintro e w1 ⟨rfl,hb1⟩;have hB1:=hB0.trans (hb1.mono aH);go_wp2;go_ret3;exact ⟨none,0,[],xC rfl HF.out.2.2.symm HF.out.1.symm,HF.out.2.1.symm,Sl.nil _ _ _ aS,hB1⟩
  have hd:decide (s<0)=false:=aJ;by_cases hs2:(m.h_.length:Int)<=s
  ·have hst:m.jq s=2:=by unfold g_.jq;rw [bO (by simp [he]),bQ (.inr hs2)]
   have HF:=g_.AP (w:=l) (by rw [hst];decide);rw [hst] at HF;have HF:=bK HF;clear he hst;go_enter func193,ntmps193;go_wp2_with fail;refine (HC.out).mono ?_;rintro e w1 ⟨rfl,hb1⟩;have hB1:=hB0.trans (hb1.mono aH);have hx1:=hx0.below hb1 aH;go_wp2;go_ret3;exact ⟨none,0,[],xC rfl HF.out.2.2.symm HF.out.1.symm,HF.out.2.1.symm,Sl.nil _ _ _ aS,hB1⟩
  have hst:m.jq s=0:=by unfold g_.jq;rw [bO (by simp [he]),bO ah]
  have hs3:s<(m.h_.length:Int):=ah;have OK:=bK (m.iG he);have HST:=bK hst;by_cases hw:jI l m.gZ=0
  ·have hwb:(jI l m.gZ !=0)=false:=by simp [hw]
   have HF:=bK (g_.yC hst hw);have HKW:=bK (g_.Cg hw);have hlw:=(g_.Cg hw).2;clear he hst hw;go_enter func193,ntmps193;go_wp2_with fail;refine (HC.out).mono ?_;rintro e w1 ⟨rfl,hb1⟩;have hB1:=hB0.trans (hb1.mono aH);have hx1:=hx0.below hb1 aH;have hz1:w.heap.size+1<=w1.heap.size:=ig hb1.size;have HC:=bK (xu (HW.out.below hB1) m.gZ);clear hx0 hB0 hb1 hz0;go_wp2_with fail;refine (HC.out).mono ?_;rintro e w2 ⟨rfl,hw2⟩;obtain rfl:w1=w2:=hw2.symm;have HC:=bK (WK (HM.out.below hB1) (HW.out.below hB1) OK (bK ⟨ah,ah⟩) (bK HKW.out.1) ah (s:=s));go_wp2_with fail;refine (HC.out).mono ?_;rintro e w3 ⟨a3,c3,l3,rfl,hl3,hs3,hb3⟩;have hB3:=hB1.trans (hb3.mono ah);have hs4:=hs3.anti (M':=fun k=>k<w.heap.size) (fun k _ hk=>by omega);have hl4:Hid (l3=m.uL s l):=bK (by rw [hl3.out,HF.out.2.1]);clear hl3 hs3 hb3 hB1 hx1;go_wp2;go_ret3;exact ⟨a3,c3,l3,xC rfl HF.out.2.2.symm HF.out.1.symm,hl4,hs4,hB3⟩
  have hwb:(jI l m.gZ !=0)=true:=by simp [hw]
  have HF:=bK (g_.Vi hst hw);clear he hst hw;go_enter func193,ntmps193;go_wp2_with fail;refine (HC.out).mono ?_;rintro e w1 ⟨rfl,hb1⟩;have hB1:=hB0.trans (hb1.mono aH);have hx1:=hx0.below hb1 aH;have hz1:w.heap.size+1<=w1.heap.size:=ig hb1.size;have HC:=bK (xu (HW.out.below hB1) m.gZ);clear hx0 hB0 hb1 hz0;go_wp2_with fail;refine (HC.out).mono ?_;rintro e w2 ⟨rfl,hw2⟩;obtain rfl:w1=w2:=hw2.symm;go_wp2;go_ret3;exact ⟨none,0,[],xC rfl HF.out.2.2.symm HF.out.1.symm,HF.out.2.1.symm,Sl.nil _ _ _ aS,hB1⟩
 have LV:(m.err !=0)=true:=by simp [he]
 have hst:m.jq s=m.err:=by unfold g_.jq;rw [bQ he]
 have HF:=g_.AP (w:=l) (s:=s) (m:=m) (by rw [hst];exact he);rw [hst] at HF;have HF:=bK HF;clear he hst;go_enter func193,ntmps193;go_wp2_with fail;refine (HC.out).mono ?_;rintro e w1 ⟨rfl,hb1⟩;have hB1:=hB0.trans (hb1.mono aH);go_wp2;go_ret3;exact ⟨none,0,[],xC rfl HF.out.2.2.symm HF.out.1.symm,HF.out.2.1.symm,Sl.nil _ _ _ aS,hB1⟩
end
