/- Lemmas, each with its own conditions. -/
import Derived.Test.YtjagagpcjpcjjaaGreatMw12
import Derived.Test.YtjagagpcjpcjjaaGreatMw9
import Derived.Test.YtjagagpcjpcjjaaGreatMw3
set_option maxRecDepth 100000
set_option maxHeartbeats 32000000
namespace Go.Proofs.YtjagagpcjpcjjaaGreat
open Tryz
open Go.RowKit Go.Sort
theorem Pb:∀(v:List Int) (l:List (List Int)) (x:List Int),Nc v (l++[x])=if x=(v::l).getLast aH then Nc v l else Nc v l++[x]
 |v,[],x=>by by_cases e:x=v<;>simp [Nc,e]
 |v,w::l,x=>by
  have ih:=Pb w l x
  rw [List.getLast_cons aH]
  simp only [gu,Nc]
  by_cases e:w=v
  ·rw [bQ e,bQ e,ih]
  rw [bO e,bO e,ih]
  split<;>simp
theorem AX {L:List (List Int)} {p:Nat} {x y:List Int} (hp:0<p) (hx:L[p]? =some x) (hy:L[p-1]? =some y):Ad (L.take (p+1))=if x=y then Ad (L.take p) else Ad (L.take p)++[x]:=by
 have hpl:p<L.length:=by
  by_cases e:p<L.length;·exact e
  rw [bZ ah] at hx;simp at hx
 rw [dh,hx];simp only [aqd];obtain ⟨v,l,hl⟩:∃v l,L.take p=v::l:=by
  cases h:L.take p with
  |nil=>have:=aqQ List.length h;rw [dx,ap6] at this;omega
  |cons v l=>exact ⟨v,l,rfl⟩
 have Dm:(v::l).getLast aH=y:=by
  have e1:(L.take p).getLast? =some y:=by rw [List.getLast?_eq_getElem?,dx,fM (show p<=L.length by omega),dL,bQ (show p-1<p by omega)];exact hy
  rw [hl,List.getLast?_eq_some_getLast aH] at e1;simpa using e1
 rw [hl];simp only [gu,Ad];rw [Pb,Dm];split<;>simp
def Jc (L:List (List Int)) (k:Nat):Prop:=Ad (L.take k)=L.take k
theorem Pf {L:List (List Int)}:Jc L 1:=by
 unfold Jc;cases L with
 |nil=>rfl
 |cons v l=>simp [Ad,Nc]
theorem JW {L:List (List Int)} {p:Nat} {x y:List Int} (hp:0<p) (hx:L[p]? =some x) (hy:L[p-1]? =some y) (h:Jc L p) (e:x≠y):Jc L (p+1):=by
 unfold Jc at h ⊢;rw [AX hp hx hy,bO e,h,dh,hx];rfl
theorem Pg {L:List (List Int)} {p:Nat} (hp:¬p<L.length) (h:Jc L p):L=Ad L:=by
 unfold Jc at h;rw [bY ah] at h;exact h.symm
theorem JX {L:List (List Int)} (h:L.length<2):L=Ad L:=by
 match L,h with
 |[],_=>rfl
 |[v],_=>simp [Ad,Nc]
section
variable {B:Nat} {M:Nat->Prop} {w:World} {T:TypeId} {a:Option Addr} {c n:Nat}
theorem Ow.iD {l:List (List Int)} {g:Nat} (h:Ow B M w T (.slice (some ⟨g,0,none⟩) n c) l) (hn:n=l.length) {j:Nat} (hj:j<l.length):∃a' r c',w.cell? ⟨g,j,none⟩=some (.slice a' r.length c')/\w.frozen? ⟨g,j,none⟩=false/\Hid (l[j]? =some r)/\Sl M w a' c' r:=by
 subst hn;obtain ⟨xs,h1,h2⟩:=h;obtain ⟨a',c',h3,h4⟩:=h2 j l[j] (by simp [hj]);refine ⟨a',l[j],c',?_,h1.frozenAt j,bK (by simp [hj]),h4⟩;rw [h1.cellAt j (by simpa [GR.sz] using hj)];exact mF h3
theorem Ow.tH {l:List (List Int)} {g:Nat} (h:Ow B M w T (.slice (some ⟨g,0,none⟩) n c) l) (hn:n=l.length) (hM:M g) {a':Option Addr} {c':Nat} {r:List Int} (j:Nat) (hr:Sl M w a' c' r):Ow B M (w.setCell ⟨g,j,none⟩ (.slice a' r.length c')) T (.slice (some ⟨g,0,none⟩) n c) (l.set j r):=by
 subst hn;exact Ow.set rfl h hM ⟨a',c',rfl,hr.ext (Ext.setCell w (p:=⟨g,j,none⟩) hM _)⟩
theorem Ow.clear {g:Nat} (hM:M g):∀(q:Nat) (k:Nat) (l:List (List Int)) (w:World),Ow B M w T (.slice (some ⟨g,0,none⟩) n c) l->n=l.length->k+q=n->
    ∃l',l'.length=n/\l'.take k=l.take k/\Ow B M (w.setCells g k (List.replicate q (.slice none 0 0))) T (.slice (some ⟨g,0,none⟩) n c) l'
 |0,k,l,w,h,hn,hk=>⟨l,hn.symm,rfl,h⟩
 |q+1,k,l,w,h,hn,hk=>by
  have h2:=h.tH hn hM k (Sl.nil (α:=Int) M w none (c:=0) aS)
  obtain ⟨l',e1,e2,e3⟩:=Ow.clear hM q (k+1) (l.set k []) _ h2 (iq hn) ah
  refine ⟨l',e1,?_,e3⟩
  have:(l'.take (k+1)).take k=((l.set k []).take (k+1)).take k:=by rw [e2]
  rw [aqp,aqp,fM ah] at this
  rw [this,asl ah]
theorem Ow.take {α:Type} [GR α] {l:List α} {g:Nat} (h:Ow B M w T (.slice (some ⟨g,0,none⟩) n c) l) (hn:n=l.length) {k:Nat} (hk:k<=n):Ow B M w T (.slice (some ⟨g,0,none⟩) k c) (l.take k):=by
 subst hn;obtain ⟨xs,h1,h2⟩:=h;have hxl:xs.length=l.length*GR.sz α:=h1.1;have hkl:(l.take k).length=k:=by rw [dx];omega
 have al1:k*GR.sz α<=l.length*GR.sz α:=eD _ hk;rcases h1.2 with ⟨hv, -⟩|⟨g',cap,cur,hv,hb,hg,h3,h4,h5,h6⟩;·simp at hv
 simp only [dU,dW,aqM,aqo,aqY] at hv;obtain ⟨rfl,rfl⟩:=hv;refine ⟨xs.take (k*GR.sz α),⟨by rw [hkl,dx];omega,.inr ⟨g,c,cur,by rw [hkl],hb,hg,ah,h4,h5,by rw [hkl,<-h6,aqp,fM al1]⟩⟩,fun j x hj=> ?_⟩;have hjk:j<k:=by
  by_cases e:j<k;·exact e
  rw [bZ ah] at hj;simp at hj
 rw [dL,bQ hjk] at hj;have:=h2 j x hj;have e1:(j+1)*GR.sz α<=k*GR.sz α:=eD _ hjk;rw [aq4,ari] at e1;have e2:((xs.take (k*GR.sz α)).drop (j*GR.sz α)).take (GR.sz α)=(xs.drop (j*GR.sz α)).take (GR.sz α):=by rw [List.drop_take,aqp,fM ah]
 rw [e2];exact this
end
section
variable {M M':Nat->Prop} {w:World} {a b:Option Addr} {c d bo:Nat} {xs ys:List Int}
theorem Ph:LC 105 jc:=by
 intro M M' w a b c d xs ys h1 h2;refine (acP (M:=fun _=>False) (h1.anti fun _ _ h=>h.elim) (h2.anti fun _ _ h=>h.elim)).mono ?_;rintro e w' ⟨rfl,hw⟩;exact ⟨rfl,0,#[],by rw [hw];simp [grow,World.drewN]⟩
theorem aai {p q:Bool} (h:p=q):Ending.returned (.bool p)= .returned (.bool q):=by rw [h]
theorem Pj (h1:Sl M w a c xs) (h2:Sl M' w b d ys) (hb:w.cell? ⟨bo,0,none⟩=some (.func (.func 88) #[] #[])):Calls prog 141 #[.slice a xs.length c,.slice b ys.length d,.pointer (some ⟨bo,0,none⟩)] w fun e w'=>e= .returned (.bool (decide (xs=ys)))/\Below w.heap.size w w':=by
 have HC:=bK (FJ M M' w a b c d xs ys h1 h2);have he:((iM xs ys==0):Bool)=decide (xs=ys):=by
  by_cases e:xs=ys;·subst e;simp [pK]
  simp only [e,arR,arD];exact fun h=>e (uG h)
 have HE:=bK he;clear he;go_enter func141,ntmps141;go_wp2_with fail;refine (HC.out).mono ?_;rintro e w1 ⟨rfl,q,os,hw⟩;have hB:=LC.below hw;clear hw;go_wp2;go_ret;exact ⟨aai HE.out,hB⟩
theorem Pk (h1:Sl M w a c xs) (h2:Sl M' w b d ys) (hb:w.cell? ⟨bo,0,none⟩=some (.func (.func 105) #[] #[])):Calls prog 141 #[.slice a xs.length c,.slice b ys.length d,.pointer (some ⟨bo,0,none⟩)] w fun e w'=>e= .returned (.bool (decide (xs=ys)))/\Below w.heap.size w w':=by
 have HC:=bK (Ph M M' w a b c d xs ys h1 h2);have he:((jc xs ys==0):Bool)=decide (xs=ys):=by
  by_cases e:xs=ys;·subst e;simp [AA]
  simp only [e,arR,arD];exact fun h=>e (AB h)
 have HE:=bK he;clear he;go_enter func141,ntmps141;go_wp2_with fail;refine (HC.out).mono ?_;rintro e w1 ⟨rfl,q,os,hw⟩;have hB:=LC.below hw;clear hw;go_wp2;go_ret;exact ⟨aai HE.out,hB⟩
end
