/- Lemmas, each with its own conditions. -/
import Derived.Test.YtjagagpcjpcjjaaGreatMw33
set_option maxRecDepth 100000
set_option maxHeartbeats 32000000
namespace Go.Proofs.YtjagagpcjpcjjaaGreat
open Tryz
open Go.RowKit
structure By where
 n:Int
instance:GR By where
 sz:=1
 rep _ _ cs x:=cs=[.int .u8 x.n]/\0<=x.n/\x.n<256
 len h:=by rw [h.1];rfl
 ext _ h:=h
theorem Kt:(prog.info? 5).map (fun i=>(i.zero,i.size,i.bytes))=some (some (.int .u8 0),1,1):=aB
section
variable {B:Nat} {M:Nat->Prop} {w:World} {T:TypeId} {a:Option Addr} {c:Nat}
theorem Ow.aeN {l:List By} (h:Ow B M w T (.slice a l.length c) l) {j:Nat} (hj:j<l.length):∃g,a=some ⟨g,0,none⟩/\w.cell? ⟨g,0+j,none⟩=some (.int .u8 ((l.map By.n).getD j 0)):=by
 obtain ⟨g,rfl,_,_⟩:=jZ h ah;obtain ⟨xs,h1,h2⟩:=h;obtain ⟨h3,h4⟩:=h2 j l[j] (by simp [hj]);refine ⟨g,rfl,?_⟩;rw [aqI,h1.cellAt j (by simpa [GR.sz] using hj),mF h3];simp [hj]
end
section
variable {P:Program} {w:World} {o:Oper} {a:Act} {ops:Array Oper} {rest:List Oper} {Q:Exit->Act->World->Prop}
theorem GH {l:List By} {s x:Operand} {t e:TypeId} {B:Nat} {v:Value} {g:Nat} {c:Nat} {y:By} (hg:o.guard=none) (hop:o.op= .call {callee:= .builtin .append,args:= #[s,x],argTypes:= #[t,t]}) (ht:P.underlying t=some (.slice e)) (hi:(P.info? e).map (fun i=>(i.zero,i.size,i.bytes))=some (some (.int .u8 0),1,1)) (hs:a.eval s=v) (hx:a.eval x= .slice (some ⟨g,0,none⟩) 1 c) (jk:Ow B (fun k=>B<=k) w e v l) (lU:w.cell? ⟨g,0,none⟩=some (.int .u8 y.n)) (hy:0<=y.n/\y.n<256) (iX:l.length<1000000000000) (hB:B<=w.heap.size) (h:∀(a':Option Addr) (c':Nat) (l':List By) (w':World),Hid (l'=l++[y])->Ow B (fun k=>B<=k) w' e (.slice a' l'.length c') l'->Below B w w'-> wpList P ops Q rest (a.put o.dst (.slice a' l'.length c')) w'):wpList P ops Q (o::rest) a w:=by
 refine Db hg s x t hop e (.int .u8 0) 1 1 ht hi rfl (by decide) B (fun k=>B<=k) v l hs rfl jk (fun k hk=>(jk.lt k hk).1) ⟨g,0,none⟩ c [.int .u8 y.n] y hx ⟨rfl,hy⟩ ?_ ?_ ah aS hB ?_
 ·intro j u hj;match j,hj with
  |0,hj=>simp at hj;subst hj;simpa [Addr.add] using lU
 ·intro u hu;simp at hu;subst hu;rfl
 intro a' c' l' w' h1 h2 h3;exact h a' c' l' w' h1 h2 ((bP _ _).grown h3 hB (fun k hk=>(jk.lt k hk).1))
end
def zU (l:List Int):ByteArray:=strOfNums l
section
variable {M:Nat->Prop} {w:World} {a:Option Addr} {c:Nat} {l:List Int}
theorem Mj (hs:Sl M w a c l) (hl:Hid (∀x∈l,0<=x/\x<256)) (hn:Hid (l.length<100000)):Calls prog 214 #[.slice a l.length c] w fun e w'=>e= .returned (.string (zU l))/\Below w.heap.size w w':=by
 have ll:=hs.le;have hn':=hn.out;go_enter func214,ntmps214;go_wp2_with (at_make;refine sN (α:=By) rfl _ _ _ rfl _ _ _ underlying291 Kt w.heap.size (fun k=>w.heap.size<=k) l.length rfl rfl ah aS (bM _) ?_);intro w1 kH hb1;have hz1:w.heap.size<=w1.heap.size:=hb1.size;have HS:=bK hs;clear hs;go_wp2;go_loopw [3,11] (fun v i wr=>∃(k:Nat) (a':Option Addr) (c':Nat) (K:List By),k<=l.length/\i= .int .i64 k/\v= .slice a' K.length c'/\Hid (K.map By.n=l.take k)/\Ow w.heap.size (fun k=>w.heap.size<=k) wr 5 (.slice a' K.length c') K/\Below w.heap.size w wr) (fun _ i _=>l.length-(intOf i).toNat);case atStart=>exact ⟨0,_,_,[],ah,rfl,rfl,rfl,kH,hb1⟩
 case round=>
  clear kH hb1 hz1;obtain ⟨k,a2,c2,K,hk,rfl,rfl,hK,hO,hB⟩:=hrel;obtain ⟨wo,rfl⟩:=iA wr;have hz:=hB.size;have rW:Hid (K.length=k):=by have h1:=aqQ List.length hK.out;rw [dJ,dx] at h1;unfold Hid;omega
  by_cases hlt:k<l.length
  ·obtain ⟨bs,os,x,rfl,hcx,hx, -⟩:=(HS.out.below hB).iC hlt;have CY:=hl.out x (bV hx.out);have hx0:0<=x:=CY.1;have hx1:x<256:=CY.2;have hwr:IntKind.u8.wrap x=x:=by unfold IntKind.wrap;simp [IntKind.signed,IntKind.bits];omega
   have hKn:Hid ((K++[(⟨x⟩:By)]).map By.n=l.take (k+1)):=bK (by rw [dh,hx.out,eB,hK.out];rfl);clear CY;go_wp2_with (at_builtin;refine GH (B:=w.heap.size) (l:=K) (y:=⟨x⟩) rfl rfl underlying291 Kt rfl rfl (hO.alloc _) bf ⟨hx0,hx1⟩ (ig rW.out) aJ ?_);intro a3 c3 K3 w3 hK3 hO3 hb3;have hB3:=hB.trans (((bP w.heap.size wo).alloc hz (.cells #[.int .u8 x] 5)).trans hb3);have hKn:Hid (K3.map By.n=l.take (k+1)):=bK (by rw [hK3.out];exact hKn.out);clear hO hB hK3 hb3;go_wp2;go_roundw;case rel=>exact ⟨k+1,a3,c3,K3,ah,by go_num,rfl,hKn,hO3,hB3⟩
   case measure=>exact bF
  have hKm:Hid (K.map By.n=l):=bK (by rw [hK.out,bY ah]);by_cases h0:0<K.length
  ·obtain ⟨g,rfl, -⟩:=hO.aeN h0;have HO:=bK hO
   have kc:=asb (P:=prog) wo 291 5 underlying291 underlying5 g 0 K.length c2 (K.map By.n) aH (fun i hi=>by
    obtain ⟨g',hg',hc⟩:=HO.out.aeN hi
    obtain rfl:g=g':=iq hg'
    exact hc) 9 underlying9
   rw [hKm.out] at kc;clear hO;go_wp2;go_ret;exact ⟨rfl,hB⟩
  have h00:Hid (l=[]):=by have:=aqQ List.length hKm.out;rw [dJ] at this;exact fE ah
  have hKz:K.length=0:=ah;have hF:Hid (zU l=ByteArray.empty):=by unfold Hid zU;rw [h00.out];rfl
  have hsh:a2=none\/∃g,a2=some ⟨g,0,none⟩:=by
   obtain ⟨xs,⟨_,h2⟩,_⟩:=hO;rcases h2 with ⟨hv,_⟩|⟨g,cap,cur,hv,_⟩;·simp only [dU] at hv;exact .inl hv.1
   simp only [dU] at hv;exact .inr ⟨g,hv.1⟩
  rcases hsh with rfl|⟨g,rfl⟩;·have kc:=run_convert_bytes_nil (P:=prog) wo 291 5 underlying291 underlying5 0 c2 9 underlying9;rw [<-hF.out] at kc;clear hO;go_wp2;go_ret;exact ⟨rfl,hB⟩
  have kc:=asb (P:=prog) wo 291 5 underlying291 underlying5 g 0 0 c2 [] rfl (fun i hi=>absurd hi (arq _)) 9 underlying9;have e0:strOfNums []=zU l:=by rw [hF.out];rfl
  rw [e0] at kc;clear hO e0;go_wp2;go_ret;exact ⟨rfl,hB⟩
end
