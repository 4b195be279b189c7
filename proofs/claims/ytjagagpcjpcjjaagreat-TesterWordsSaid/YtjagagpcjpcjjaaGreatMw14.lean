/- Lemmas, each with its own conditions. -/
import Derived.Test.YtjagagpcjpcjjaaGreatMw5
import Derived.Test.YtjagagpcjpcjjaaGreatMw3
set_option maxRecDepth 100000
set_option maxHeartbeats 32000000
namespace Go.Proofs.YtjagagpcjpcjjaaGreat
open Tryz
open Go.RowKit
open Classical in
noncomputable def ixN (s x:Nat):Nat:=if h:∃i,i<jQ/\zy s i=x then Classical.choose h else 0
theorem ZM {s i:Nat} (hi:i<jQ):ixN s (zy s i)=i:=by
 unfold ixN;have h:∃j,j<jQ/\zy s j=zy s i:=⟨i,hi,rfl⟩;rw [dif_pos h];have h1:=Classical.choose_spec h;exact UF h1.1 hi h1.2
theorem LD {s k i:Nat} (hk:0<k) (hk2:k<1000000) (h:∀j,j<i->rej k (nJ s j)=true):i<1000000:=by
 have h1:=UG hk hk2 h;have h2:jQ%k<k:=gG _ hk;generalize jQ%k=q at h1 h2;omega
theorem OG {s k:Nat} (hk:0<k):(oO s k).1<k:=by
 unfold oO;have h:∀f t,(Ah k f t).1<k:=by
  intro f;induction f with
  |zero=>intro t;exact hk
  |succ f ih=>
   intro t;unfold Ah;split;·exact ih _
   exact gG _ hk
 exact h _ _
theorem OH {s k:Nat} (hs:s<jQ):(oO s k).2<jQ:=by
 unfold oO;have h:∀f t,t<jQ->(Ah k f t).2<jQ:=by
  intro f;induction f with
  |zero=>intro t ht;exact ht
  |succ f ih=>
   intro t _;unfold Ah;split;·exact ih _ (Aq _)
   exact Aq _
 exact h _ _ hs
theorem ZN {k:Nat} (hk2:k<jQ):IntKind.u64.wrap (k:Int)=(k:Int):=by
 rw [aqH];simp only [jQ] at hk2;omega
theorem Vd {k:Nat} (hk2:k<1000000):IntKind.i64.wrap (k:Int)=(k:Int):=eP _ ah
theorem OI {k:Nat} (hk:0<k) (hk2:k<jQ):IntKind.u64.wrap (-(k:Int))=((jQ-k:Nat):Int):=by
 rw [aqH];simp only [jQ] at hk2 ⊢;omega
theorem Ve {k:Nat} (_hk:0<k) (hk2:k<jQ):(jQ-k)%k=jQ%k:=by
 have h:jQ=(jQ-k)+k:=ah;rw [h,Nat.add_sub_cancel,Nat.add_mod_right]
noncomputable def WE (s:Nat) (v:Value):Nat:=1000001-ixN s (intOf v).toNat
theorem Vf (s t:Nat):WE s (.int .u64 (t:Int))=1000001-ixN s t:=by unfold WE;simp [intOf]
theorem afF {i j:Nat} (h:i<1000000) (e:j=i+1):1000001-j<1000001-i:=ah
theorem OJ {s i t y:Nat} (ht:t=zy s i) (hy:y=zy s (i+1)) (h:i<1000000):WE s (.int .u64 (y:Int))<WE s (.int .u64 (t:Int)):=by
 rw [Vf,Vf,hy,ht,ZM (eO h (by decide)),ZM (Nat.lt_trans h (by decide))];exact afF h rfl
def RelB (s k:Nat) (w:World) (st:Value) (wr:World):Prop:=∃(i t:Nat),st= .int .u64 (t:Int)/\Hid (t=zy s i)/\Hid (∀j,j<i->rej k (nJ s j)=true)/\wr=w
theorem Vg {s k:Nat} {w:World} {i t:Nat} (h1:Hid (t=zy s i)) (h2:Hid (∀j,j<i->rej k (nJ s j)=true)):RelB s k w (.int .u64 (t:Int)) w:=⟨i,t,rfl,h1,h2,rfl⟩
theorem JM (s i:Nat):sW (pX (zy s i))=nJ s i/\pX (zy s i)=zy s (i+1):=by
 unfold nJ;rw [rY];exact ⟨rfl,rfl⟩
section
variable {w:World}
theorem WG {s k:Nat} (hs:s<jQ) (hk:0<k) (hk2:k<1000000):Calls prog 137 #[.int .u64 (s:Int),.int .i64 (k:Int)] w fun e w'=>e= .returned (.tuple #[.int .i64 (((oO s k).1:Nat):Int),.int .u64 (((oO s k).2:Nat):Int)])/\w'=w:=by
 have HS:=bK hs;have HK:=bK hk;have g1:=ZN (k:=k) (by unfold jQ;omega);have g2:=OI hk (by unfold jQ;omega);have hR:Hid (jQ%k<k):=gG _ hk;obtain ⟨R,hRe⟩:∃R,Hid (R=jQ%k):=⟨_,rfl⟩;have hRk:R<k:=by rw [hRe.out];exact hR.out
 have g3:Hid ((jQ-k)%k=R):=bK (by rw [Ve hk (by unfold jQ;omega),hRe.out]);obtain ⟨Q,hQ⟩:∃Q,Q=jQ-k:=⟨_,rfl⟩;rw [<-hQ] at g2 g3;have g4:((Q:Nat):Int)%(k:Int)=((R:Nat):Int):=by rw [<-g3.out];simp
 have hQM:Q<jQ:=ah;have hk0:¬(k:Int)=0:=ah;have h0:Hid (∀j,j<0->rej k (nJ s j)=true):=fun j hj=>by omega
 have WH:Hid (s=zy s 0):=(YU hs).symm;clear hQ hs;go_enter func137,ntmps137;go_wp2;simp only [g4];go_loopw [0] (fun st wr=>RelB s k w st wr) (fun st _=>WE s st);case atStart=>exact Vg WH h0
 case round=>
  clear h0 WH;obtain ⟨i,t,rfl,ht,hr,hw⟩:=hrel;obtain rfl:w=wr:=hw.symm;have hil:=LD hk hk2 hr.out;have hxo:Hid (sW (pX t)=nJ s i):=by unfold Hid nJ;rw [ht.out,rY]
  have hxs:Hid (pX t=zy s (i+1)):=bK (by rw [ht.out,rY]);have Vh:=Wq (w:=w) (s:=t);have hxl:=UE (pX t);have hyl:=Aq t;obtain ⟨x,hx⟩:∃x,x=sW (pX t):=⟨_,rfl⟩;obtain ⟨y,hy⟩:∃y,y=pX t:=⟨_,rfl⟩;rw [<-hx] at Vh hxl hxo;rw [<-hy] at Vh hyl hxs;have HN:=bK Vh;have hmk:x%k<k:=gG _ hk;obtain ⟨z,hz⟩:∃z,Hid (z=x%k):=⟨_,rfl⟩;have g5:((x:Nat):Int)%(k:Int)=((z:Nat):Int):=by rw [hz.out];simp
  have hzk:z<k:=by rw [hz.out];exact hmk
  have g6:IntKind.i64.wrap ((z:Nat):Int)=((z:Nat):Int):=Vd ah;have ZO:Hid (rej k (nJ s i)=decide (R≠0/\jQ-R<=x)):=by unfold Hid rej;rw [<-hRe.out,<-hxo.out]
  clear hx hy Vh hmk hxl hyl;by_cases hR0:R=0
  ·have afG:(((R:Nat):Int)==0)=true:=by rw [hR0];rfl
   have hf:rej k (nJ s i)=false:=by rw [ZO.out];exact cZ (fun h=>h.1 hR0)
   have hF:=Ai HS.out hk hk2 hr.out hf;rw [<-hxo.out,<-hz.out,<-hxs.out] at hF;have HF:=bK hF;clear hf hF hR0;go_wp2_with fail;refine (HN.out).mono ?_;rintro e w2 ⟨rfl,hw2⟩;obtain rfl:w=w2:=hw2.symm;go_wp2;go_ret2;exact ⟨by rw [HF.out];rfl,rfl⟩
  have afG:(((R:Nat):Int)==0)=false:=by simp;exact hR0
  have g7:=OI (k:=R) ah (by unfold jQ;omega);obtain ⟨Q2,hQ2⟩:∃Q2,Hid (Q2=jQ-R):=⟨_,rfl⟩;rw [<-hQ2.out] at g7;have OL:Hid (rej k (nJ s i)=decide (Q2<=x)):=by
   unfold Hid;rw [ZO.out,hQ2.out];by_cases e:jQ-R<=x;·rw [dw e,dw ⟨hR0,e⟩]
   rw [cZ e,cZ (fun h=>e h.2)]
  by_cases hq:Q2<=x
  ·have hr2:Hid (∀j,j<i+1->rej k (nJ s j)=true):=by
    intro j hj;by_cases e:j=i;·rw [e,OL.out];exact dw hq
    exact hr.out j ah
   have hqd:decide (((x:Nat):Int)<((Q2:Nat):Int))=false:=cZ ah;have LG:=LD hk hk2 hr2.out;have HIL:=bK hil;clear LG hil hr;have HK2:=bK hk2;clear hk2;go_wp2_with fail;refine (HN.out).mono ?_;rintro e w2 ⟨rfl,hw2⟩;obtain rfl:w=w2:=hw2.symm;go_wp2;go_roundw;case rel=>exact Vg hxs hr2
   case measure=>exact OJ ht.out hxs.out HIL.out
  have hqd:decide (((x:Nat):Int)<((Q2:Nat):Int))=true:=dw ah;have hf:rej k (nJ s i)=false:=by rw [OL.out];exact cZ hq
  have hF:=Ai HS.out hk hk2 hr.out hf;rw [<-hxo.out,<-hz.out,<-hxs.out] at hF;have HF:=bK hF;clear hf hF;go_wp2_with fail;refine (HN.out).mono ?_;rintro e w2 ⟨rfl,hw2⟩;obtain rfl:w=w2:=hw2.symm;go_wp2;go_ret2;exact ⟨by rw [HF.out];rfl,rfl⟩
theorem WI {s k:Nat} (hs:s<jQ) (hk:0<k) (hk2:k<1000000):Calls prog 157 #[.int .u64 (s:Int),.int .i64 (k:Int)] w fun e w'=>e= .returned (.tuple #[.int .i64 (((oO s k).1:Nat):Int),.int .u64 (((oO s k).2:Nat):Int)])/\w'=w:=by
 have HS:=bK hs;have HK:=bK hk;have g1:=ZN (k:=k) (by unfold jQ;omega);have hR:Hid (jQ%k<k):=gG _ hk;obtain ⟨R,hRe⟩:∃R,Hid (R=jQ%k):=⟨_,rfl⟩;have hRk:R<k:=by rw [hRe.out];exact hR.out
 have g3:Hid ((jQ-k)%k=R):=bK (by rw [Ve hk (by unfold jQ;omega),hRe.out]);obtain ⟨Q,hQ⟩:∃Q,Q=jQ-k:=⟨_,rfl⟩;rw [<-hQ] at g3;have g2a:IntKind.u64.wrap (18446744073709551615-(k:Int))=18446744073709551615-(k:Int):=by rw [aqH];omega
 have g2b:IntKind.u64.wrap (18446744073709551615-(k:Int)+1)=((Q:Nat):Int):=by rw [aqH,hQ];simp only [jQ];omega
 have g4:((Q:Nat):Int)%(k:Int)=((R:Nat):Int):=by rw [<-g3.out];simp
 have hk0:¬(k:Int)=0:=ah;have hi0:=JM s 0;rw [YU hs] at hi0;have Vh:=Fp (w:=w) (s:=s);obtain ⟨x0,hx0⟩:∃x,x=sW (pX s):=⟨_,rfl⟩;obtain ⟨y0,hy0⟩:∃y,y=pX s:=⟨_,rfl⟩;rw [<-hx0] at Vh;rw [<-hy0] at Vh;have h0:Hid (∀j,j<0->rej k (nJ s j)=true):=fun j hj=>by omega
 have aif:Hid (x0=nJ s 0):=bK (by rw [hx0];exact hi0.1);have aii:Hid (y0=zy s (0+1)):=bK (by rw [hy0];exact hi0.2);have HN:=bK Vh;clear hQ hs Vh hx0 hy0 hi0;go_enter func157,ntmps157;go_wp2_with fail;refine (HN.out).mono ?_;rintro e w1 ⟨rfl,hw1⟩;obtain rfl:w=w1:=hw1.symm;clear HN;go_wp2;go_loopw [7,8] (fun xv st wr=>∃(i x t:Nat),xv= .int .u64 (x:Int)/\st= .int .u64 (t:Int)/\Hid (x=nJ s i)/\Hid (t=zy s (i+1))/\Hid (∀j,j<i->rej k (nJ s j)=true)/\wr=w) (fun _ st _=>WE s st);case atStart=>exact ⟨0,x0,y0,rfl,rfl,aif,aii,h0,rfl⟩
 case round=>
  clear h0 aif aii;obtain ⟨i,x,t,rfl,rfl,hxo,ht,hr,hw⟩:=hrel;obtain rfl:w=wr:=hw.symm;have hil:=LD hk hk2 hr.out;have hmk:x%k<k:=gG _ hk;obtain ⟨z,hz⟩:∃z,Hid (z=x%k):=⟨_,rfl⟩;have g5:((x:Nat):Int)%(k:Int)=((z:Nat):Int):=by rw [hz.out];simp
  have hzk:z<k:=by rw [hz.out];exact hmk
  have g6:IntKind.i64.wrap ((z:Nat):Int)=((z:Nat):Int):=Vd ah;have ZO:Hid (rej k (nJ s i)=decide (R≠0/\jQ-R<=x)):=by unfold Hid rej;rw [<-hRe.out,<-hxo.out]
  clear hmk;by_cases hR0:R=0
  ·have afG:decide ((0:Int)<((R:Nat):Int))=false:=by rw [hR0];rfl
   have hf:rej k (nJ s i)=false:=by rw [ZO.out];exact cZ (fun h=>h.1 hR0)
   have hF:=Ai HS.out hk hk2 hr.out hf;rw [<-hxo.out,<-hz.out,<-ht.out] at hF;have HF:=bK hF;clear hf hF;go_wp2;go_ret2;exact ⟨by rw [HF.out];rfl,rfl⟩
  have afG:decide ((0:Int)<((R:Nat):Int))=true:=dw ah;have g7:IntKind.u64.wrap (18446744073709551615-((R:Nat):Int))=18446744073709551615-((R:Nat):Int):=by rw [aqH];omega
  obtain ⟨Q2,hQ2⟩:∃Q2,Hid (Q2=jQ-R):=⟨_,rfl⟩;have hQ3:(18446744073709551615-((R:Nat):Int))+1=((Q2:Nat):Int):=by rw [hQ2.out];simp only [jQ];omega
  have OL:Hid (rej k (nJ s i)=decide (Q2<=x)):=by
   unfold Hid;rw [ZO.out,hQ2.out];by_cases e:jQ-R<=x;·rw [dw e,dw ⟨hR0,e⟩]
   rw [cZ e,cZ (fun h=>e h.2)]
  by_cases hq:Q2<=x
  ·have hr2:Hid (∀j,j<i+1->rej k (nJ s j)=true):=by
    intro j hj;by_cases e:j=i;·rw [e,OL.out];exact dw hq
    exact hr.out j ah
   have hqd:decide (18446744073709551615-((R:Nat):Int)<((x:Nat):Int))=true:=dw ah;have LG:=LD hk hk2 hr2.out;have Vh:=Fp (w:=w) (s:=t);have hi1:=JM s (i+1);rw [<-ht.out] at hi1;obtain ⟨x1,hx1⟩:∃x,x=sW (pX t):=⟨_,rfl⟩;obtain ⟨y1,hy1⟩:∃y,y=pX t:=⟨_,rfl⟩;rw [<-hx1] at Vh hi1;rw [<-hy1] at Vh hi1;have HN:=bK Vh;have alQ:=bK hi1.1;have aij:=bK hi1.2;have HIL:=bK LG;clear LG hil hr;have HK2:=bK hk2;clear hk2;clear Vh hx1 hy1 hi1;go_wp2_with fail;refine (HN.out).mono ?_;rintro e w2 ⟨rfl,hw2⟩;obtain rfl:w=w2:=hw2.symm;go_wp2;go_roundw;case rel=>exact ⟨i+1,x1,y1,rfl,rfl,alQ,aij,hr2,trivial⟩
   case measure=>exact OJ ht.out aij.out HIL.out
  have hqd:decide (18446744073709551615-((R:Nat):Int)<((x:Nat):Int))=false:=cZ ah;have hf:rej k (nJ s i)=false:=by rw [OL.out];exact cZ hq
  have hF:=Ai HS.out hk hk2 hr.out hf;rw [<-hxo.out,<-hz.out,<-ht.out] at hF;have HF:=bK hF;clear hf hF;go_wp2;go_ret2;exact ⟨by rw [HF.out];rfl,rfl⟩
end
