/- Lemmas, each with its own conditions. -/
import Derived.Test.YtjagagpcjpcjjaaGreatMw23
import Derived.Test.YtjagagpcjpcjjaaGreatLayInts
import Derived.Sort.OwnSortedInts
set_option maxRecDepth 100000
set_option maxHeartbeats 32000000
namespace Go.Proofs.YtjagagpcjpcjjaaGreat
section
open Tryz
open Go.RowKit Go.Sort Go.Shelf
def nV (x:Int):List Int->List Int
 |[]=>[x]
 |y::l=>if y<x then y::nV x l else if y=x then y::l else x::y::l
def kR (l:List Int):List Int:=l.foldl (fun L x=>nV x L) []
def qP (l:List Int):Prop:=l.Pairwise (·<·)
theorem Gg {x z:Int}:∀{l:List Int},z∈nV x l↔z=x\/z∈l
 |[]=>by simp [nV]
 |y::l=>by
  unfold nV
  split
  ·rw [gH,Gg (l:=l),gH]
   constructor
   ·rintro (h|h|h)
    ·exact .inr (.inl h)
    ·exact .inl h
    exact .inr (.inr h)
   rintro (h|h|h)
   ·exact .inr (.inl h)
   ·exact .inl h
   exact .inr (.inr h)
  split
  ·rename_i h0
   subst h0
   simp
  simp
theorem PI {x:Int}:∀{l:List Int},qP l->qP (nV x l)
 |[],_=>by simp [nV,qP]
 |y::l,hl=>by
  unfold qP at hl
  rw [gY] at hl
  unfold nV
  split
  ·rename_i h1
   refine gY.2 ⟨fun z hz=> ?_,PI hl.2⟩
   rcases Gg.1 hz with rfl|hz
   ·exact h1
   exact hl.1 z hz
  split
  ·exact gY.2 hl
  refine gY.2 ⟨fun z hz=> ?_,gY.2 hl⟩
  rcases gH.1 hz with rfl|hz
  ·omega
  have:=hl.1 z hz;omega
theorem Cn:∀(l L:List Int),qP L->qP (l.foldl (fun L x=>nV x L) L)/\∀z,z∈l.foldl (fun L x=>nV x L) L↔z∈l\/z∈L
 |[],L,hL=>⟨hL,fun z=>by simp⟩
 |x::l,L,hL=>by
  obtain ⟨h1,h2⟩:=Cn l (nV x L) (PI hL)
  refine ⟨h1,fun z=> ?_⟩
  rw [arA,h2 z,Gg,gH]
  constructor
  ·rintro (h|h|h)
   ·exact .inl (.inr h)
   ·exact .inl (.inl h)
   exact .inr h
  rintro ((h|h)|h)
  ·exact .inr (.inl h)
  ·exact .inl h
  exact .inr (.inr h)
theorem xI (l:List Int):qP (kR l):=(Cn l [] (by simp [qP])).1
theorem pR {l:List Int} {z:Int}:z∈kR l↔z∈l:=by
 have:=(Cn l [] (by simp [qP])).2 z;simpa [kR] using this
theorem yG {l:List Int} {k:Nat} {x:Int} (h:l[k]? =some x):kR (l.take (k+1))=nV x (kR (l.take k)):=by
 rw [dh,h];unfold kR;rw [aql];rfl
theorem Dw:∀{l l':List Int},qP l->qP l'->(∀z,z∈l↔z∈l')->l=l'
 |[],[],_,_,_=>rfl
 |[],y::l',_,_,hm=>by have:=(hm y).2 aH;simp at this
 |x::l,[],_,_,hm=>by have:=(hm x).1 aH;simp at this
 |x::l,y::l',hl,hl',hm=>by
  unfold qP at hl hl'
  rw [gY] at hl hl'
  have hxy:x=y:=by
   rcases gH.1 ((hm x).1 aH) with e|e
   ·exact e
   rcases gH.1 ((hm y).2 aH) with e2|e2
   ·exact e2.symm
   have h1:=hl'.1 x e
   have h2:=hl.1 y e2
   omega
  subst hxy
  rw [Dw hl.2 hl'.2 fun z=>⟨fun hz=>by
   rcases gH.1 ((hm z).1 (by simp [hz])) with e|e
   ·have:=hl.1 z hz;omega
   ·exact e,fun hz=>by
   rcases gH.1 ((hm z).2 (by simp [hz])) with e|e
   ·have:=hl'.1 z hz;omega
   exact e⟩]
theorem Vs {l L:List Int} (ha:qP L) (hm:∀z,z∈L↔z∈l):kR l=L:=Dw (xI l) ha fun z=>by rw [pR,hm]
theorem uN (l:List Int):(kR l).length<=l.length:=by
 have hi:∀(x:Int) (L:List Int),(nV x L).length<=L.length+1:=by
  intro x L;induction L with
  |nil=>simp [nV]
  |cons y L ih=>unfold nV;split<;>(try split)<;>simp<;>omega
 have:∀k,k<=l.length->(kR (l.take k)).length<=k:=by
  intro k;induction k with
  |zero=>intro _;simp [kR]
  |succ k ih=>intro hk;rw [yG (bN (show k<l.length by omega))];have:=hi l[k] (kR (l.take k));have:=ih ah;omega
 have h:=this l.length (bM _);rwa [dV] at h
theorem oH {l:List Int} (h:qP l) {k:Nat} {x:Int} (hk:l[k]? =some x):l.countP (·<x)=k:=by
 induction l generalizing k with
 |nil=>simp at hk
 |cons y l ih=>
  unfold qP at h;rw [gY] at h;cases k with
  |zero=>
   obtain rfl:y=x:=iq hk;rw [List.countP_cons];have:l.countP (·<y)=0:=by rw [List.countP_eq_zero];intro z hz;have:=h.1 z hz;simp;omega
   simp [this]
  |succ k=>have hk':l[k]? =some x:=iq hk;rw [List.countP_cons,ih h.2 hk'];have:=h.1 x (bV hk');simp [this]
theorem Kc (l:List Int):Lib.compact (l.mergeSort fun x y=>decide (x<=y))=kR l:=by
 have hp:=asn l fun x y=>decide (x<=y)
 have hs:(l.mergeSort fun x y=>decide (x<=y)).Pairwise fun a b=>decide (a<=b)=true:=
  List.pairwise_mergeSort (fun a b c h1 h2=>by simp at*;omega) (fun a b=>by simp;omega) l
 generalize l.mergeSort (fun x y=>decide (x<=y))=zs at hp hs;have hs2:∀i j,i<j->j<zs.length->zs.getD i 0<=zs.getD j 0:=by intro i j hij hj;rw [arO] at hs;have:=hs i j ah hj hij;rw [bS,bS,bN ah,bN hj];simpa using this
 have hg:∀j,zs.toArray[j]! =zs.getD j 0:=fun j=>by
  rw [bS];simp [getElem!_def];cases zs[j]? <;>rfl
 have main:∀m,m<=zs.length->qP (Lib.compactUpTo zs.toArray m)/\(∀z,z∈Lib.compactUpTo zs.toArray m↔∃j,j<m/\zs.getD j 0=z):=by
  intro m;induction m with
  |zero=>intro _;exact ⟨by simp [Lib.compactUpTo,qP],fun z=>by simp [Lib.compactUpTo]⟩
  |succ m ih=>
   intro hm;obtain ⟨h1,h2⟩:=ih ah;rw [Lib.compactUpTo_succ,hg];by_cases hk:Lib.keeps zs.toArray m=true
   ·rw [bQ hk];constructor
    ·unfold qP at h1 ⊢;rw [asf];refine ⟨h1,aH,fun a ha b hb=> ?_⟩;obtain rfl:=dZ.1 hb;obtain ⟨j,hj,rfl⟩:=(h2 a).1 ha;have hm0:0<m:=ah;have hne:zs.getD m 0≠zs.getD (m-1) 0:=by intro e;rw [Lib.keeps_neg hm0 (by rw [hg,hg];exact e)] at hk;cases hk
     have e1:=hs2 (m-1) m ah ah;have e2:zs.getD j 0<=zs.getD (m-1) 0:=by
      by_cases e:j=m-1;·rw [e];exact arh _
      exact hs2 j (m-1) ah ah
     omega
    intro z;rw [eG,h2,dZ];constructor
    ·rintro (⟨j,hj,e⟩|e);·exact ⟨j,ah,e⟩
     exact ⟨m,ah,e.symm⟩
    rintro ⟨j,hj,e⟩;by_cases e2:j=m;·subst e2;exact .inr e.symm
    exact .inl ⟨j,ah,e⟩
   rw [bO hk,gD];refine ⟨h1,fun z=> ?_⟩;rw [h2];constructor;·rintro ⟨j,hj,e⟩;exact ⟨j,ah,e⟩
   rintro ⟨j,hj,e⟩;by_cases e2:j=m
   ·subst e2;have hm0:0<j:=by
     by_cases e0:j=0;·subst e0;exact absurd (Lib.keeps_lt_one zs.toArray 0 ah) hk
     omega
    refine ⟨j-1,ah,?_⟩;have:¬zs.toArray[j]!≠zs.toArray[j-1]! :=fun h=>hk (Lib.keeps_pos h);rw [hg,hg] at this;have:zs.getD j 0=zs.getD (j-1) 0:=Classical.not_not.1 this;rw [<-this];exact e
   exact ⟨j,ah,e⟩
 obtain ⟨h1,h2⟩:=main zs.length (bM _);refine (Vs h1 fun z=> ?_).symm;rw [h2,<-hp.mem_iff];constructor;·rintro ⟨j,hj,rfl⟩;rw [bS,bN hj];exact dQ hj
 intro hz;obtain ⟨j,hj,e⟩:=List.mem_iff_getElem.1 hz;exact ⟨j,hj,by rw [bS,bN hj];exact e⟩
section
variable {M:Nat->Prop} {w:World} {B g c:Nat} {l:List Int}
theorem Vt (h:Ow B M w 3 (.slice (some ⟨g,0,none⟩) l.length c) l):∃cur,B<=g/\g<w.heap.size/\w.heap[g]? =some (.cells cur 3 (0,0))/\l.length<=c/\c<=maxLen/\cur.size=c*1/\cur.toList.take l.length=l.map (Value.int .i64)/\∀x∈l,i64 x:=by
 obtain ⟨xs,h1,h2⟩:=h;have hxl:xs.length=l.length:=by have:=h1.1;simpa [GR.sz] using this
 have hxs:xs=l.map (Value.int .i64):=by apply arV (iq hxl);intro j hj hj2;have hjl:j<l.length:=ah;have h3:=mF (h2 j l[j] (by simp [hjl])).1;rw [bN hj] at h3;simpa using h3
 rcases h1.2 with ⟨hv, -⟩|⟨g',cap,cur,hv,hb,hg,h3,h4,h5,h6⟩;·simp at hv
 simp only [dU,dW,aqM,aqo,aqY] at hv;obtain ⟨rfl,rfl⟩:=hv;refine ⟨cur,hb,(Array.getElem?_eq_some_iff.1 hg).1,hg,h3,h4,by simpa [GR.sz] using h5,?_,fun x hx=> ?_⟩;·rw [<-hxs];simpa [GR.sz] using h6
 obtain ⟨j,hj,rfl⟩:=List.mem_iff_getElem.1 hx;exact (h2 j l[j] (by simp [hj])).2
theorem Gh {w':World} {L:List Int} (h:w'.ownsRow B 3 1 (.slice (some ⟨g,0,none⟩) L.length c) L.length (L.map (Value.int .i64))) (hi:∀x∈L,i64 x):Ow B M w' 3 (.slice (some ⟨g,0,none⟩) L.length c) L:=by
 refine ⟨L.map (Value.int .i64),h,fun j x hj=>⟨?_,hi x (bV hj)⟩⟩;apply eY;intro i;rcases i with _|i;·simp [GR.sz,hj]
 rw [dL,bO (by simp only [GR.sz];omega)];simp
theorem Ke (hO:Ow B M w 3 (.slice (some ⟨g,0,none⟩) l.length c) l) (hn:l.length<1000000000000):Calls prog 216 #[.slice (some ⟨g,0,none⟩) l.length c] w fun e w'=>e= .returned (.tuple #[])/\∃L,Hid (L=l.mergeSort fun x y=>decide (x<=y))/\Hid (L.length=l.length)/\Ow B M w' 3 (.slice (some ⟨g,0,none⟩) L.length c) L/\w.grownBy w' (some g):=by
 obtain ⟨cur,hb,hg,hgc,h1,h2,h3,h4,h5⟩:=Vt hO;have Ce:=AnyM.slices_Sort_int sortInts g 0 c l w (holds_of_blockI hgc h4) hg ah;change Calls prog 216 _ _ _ at Ce;refine Ce.mono ?_;rintro e w' ⟨rfl,n,os,rfl⟩;have hl:(l.mergeSort fun x y=>decide (x<=y)).length=l.length:=List.length_mergeSort l;have ho:=ownsRow_sortedI (w:=w) (n:=n) (os:=os) hl hb hgc h1 h2 h3;refine ⟨rfl,_,rfl,hl,Gh (by rw [hl];exact ho) (fun x hx=>h5 x (((asn l _).mem_iff).1 hx)),grownBy_sortedI _⟩
theorem Kg (hO:Ow B M w 3 (.slice (some ⟨g,0,none⟩) l.length c) l) (hn:l.length<1000000000000):Calls prog 217 #[.slice (some ⟨g,0,none⟩) l.length c] w fun e w'=>∃L,e= .returned (.slice (some ⟨g,0,none⟩) L.length c)/\Hid (L=Lib.compact l)/\Ow B M w' 3 (.slice (some ⟨g,0,none⟩) L.length c) L/\w.grownBy w' (some g):=by
 obtain ⟨cur,hb,hg,hgc,h1,h2,h3,h4,h5⟩:=Vt hO;have Ce:=AnyG.slices_Compact_int compInts g 0 c l w (holds_of_blockI hgc h4) ah h1;change Calls prog 217 _ _ _ at Ce;refine Ce.mono ?_;rintro e w' ⟨rfl,n,rfl⟩;have hcl:(Lib.compact l).length<=l.length:=by unfold Lib.compact Lib.compactUpTo;rw [dJ];exact dH (fK _ _) aH
 have hl:(Lib.compact l++List.replicate (l.length-(Lib.compact l).length) 0).length=l.length:=aJ;have ho:=ownsRow_sortedI (w:=w) (n:=n) (os:= #[]) hl hb hgc h1 h2 h3;rw [grow_empty] at ho;have hin:∀x∈Lib.compact l,x∈l:=by intro x hx;unfold Lib.compact Lib.compactUpTo at hx;obtain ⟨j,hj,rfl⟩:=aqJ.1 hx;have hj2:j<l.length:=iq ((aq8.1 hj).1);simp [hj2]
 have hO2:Ow B M (putRow (Value.int .i64) (Sort.ahead w n) g 0 (Lib.compact l++List.replicate (l.length-(Lib.compact l).length) 0).toArray) 3 (.slice (some ⟨g,0,none⟩) (Lib.compact l++List.replicate (l.length-(Lib.compact l).length) 0).length c) (Lib.compact l++List.replicate (l.length-(Lib.compact l).length) 0):=
  Gh (by rw [hl];exact ho) fun x hx=>by
   rcases eG.1 hx with h|h
   ·exact h5 x (hin x h)
   rw [(List.mem_replicate.1 h).2];unfold i64;omega
 have hO3:=hO2.take rfl (k:=(Lib.compact l).length) (by rw [hl];exact hcl);rw [List.take_left] at hO3;have hgr:=grownBy_sortedI (w:=w) (g:=g) (n:=n) (os:= #[]) (Lib.compact l++List.replicate (l.length-(Lib.compact l).length) 0).toArray;rw [grow_empty] at hgr;exact ⟨_,rfl,rfl,hO3,hgr⟩
theorem Xi {M:Nat->Prop} {n:Nat} (hn:n=l.length) (hO:Sl M w (some ⟨g,0,none⟩) c l) (hl:l.length<1000000000000) (ha:qP l) {k:Nat} {x:Int} (hk:l[k]? =some x):Calls prog 218 #[.slice (some ⟨g,0,none⟩) n c,.int .i64 x] w fun e w'=>e= .returned (.tuple #[.int .i64 k,.bool true])/\Below w.heap.size w w':=by
 subst hn
 have Ce:=AnyG.slices_BinarySearch_int findInts g 0 l.length c l x w (bM _) ah (fun j hj=>by
  obtain ⟨b,off,y,hb,hc,hy, -⟩:=hO.iC hj
  simp only [dW,aqM,aqY] at hb
  obtain ⟨rfl,rfl⟩:=hb
  rw [hc,bS,hy.out];rfl) (by rw [dV];exact ha.imp fun h=>by omega)
 change Calls prog 218 _ _ _ at Ce;rw [dV,oH ha hk,show l.contains x=true from by simpa using bV hk] at Ce;refine Ce.mono ?_;rintro e w' ⟨rfl,q,rfl⟩;exact ⟨rfl,below_drewN _ _ _⟩
end
end
section
open Tryz
open Go.RowKit
def Kh (B:Nat) (w:World) (g n:Nat) (F:Nat->List Int):Prop:=
 (∀i,i<n->∃a c,w.cell? ⟨g,i,none⟩=some (.slice a (F i).length c)/\w.frozen? ⟨g,i,none⟩=false/\Ow B (fun k=>B<=k) w 3 (.slice a (F i).length c) (F i))/\
 ∀i j a c n1 a' c' n2 k,i<n->j<n->i≠j->w.cell? ⟨g,i,none⟩=some (.slice a n1 c)->w.cell? ⟨g,j,none⟩=some (.slice a' n2 c')->(Value.slice a n1 c).ownBlock=some k->(Value.slice a' n2 c').ownBlock=some k->False
section
variable {B:Nat} {w w':World} {g n:Nat} {F:Nat->List Int}
theorem Kh.at (h:Kh B w g n F) {i:Nat} (hi:i<n):∃a c,w.cell? ⟨g,i,none⟩=some (.slice a (F i).length c)/\w.frozen? ⟨g,i,none⟩=false/\Ow B (fun k=>B<=k) w 3 (.slice a (F i).length c) (F i):=h.1 i hi
theorem Kh.congr {G:Nat->List Int} (h:Kh B w g n F) (e:∀i,i<n->F i=G i):Kh B w g n G:=
 ⟨fun i hi=>by rw [<-e i hi];exact h.1 i hi,h.2⟩
theorem iR {a:Addr} (h:w'.heap[a.block]? =w.heap[a.block]?):w'.frozen? a=w.frozen? a:=by unfold World.frozen?;rw [h]
theorem Kh.below (h:Kh B w g n F) (hg:g<w.heap.size) (hb:Below w.heap.size w w'):Kh B w' g n F:=by
 have hc:∀i,w'.cell? ⟨g,i,none⟩=w.cell? ⟨g,i,none⟩:=fun i=>dD (hb.block g hg);refine ⟨fun i hi=> ?_,fun i j a c n1 a' c' n2 k hi hj hij h1 h2=>h.2 i j a c n1 a' c' n2 k hi hj hij (by rw [<-hc];exact h1) (by rw [<-hc];exact h2)⟩;obtain ⟨a,c,h1,h2,h3⟩:=h.1 i hi;exact ⟨a,c,by rw [hc];exact h1,(iR (a:=⟨g,i,none⟩) (hb.block g hg)).trans h2,h3.below hb⟩
theorem Kh.push (h:Kh B w g n F) (hg:g<B) (hB:B<=w.heap.size) {i:Nat} (hi:i<n) {a a':Option Addr} {c c':Nat} {l':List Int} {y:Int} (hc:w.cell? ⟨g,i,none⟩=some (.slice a (F i).length c)) (hl:l'=F i++[y]) (hO:Ow B (fun k=>B<=k) w' 3 (.slice a' l'.length c') l') (hk:∀k,(Value.slice a' l'.length c').ownBlock=some k->(Value.slice a (F i).length c).ownBlock=some k\/w.heap.size<=k) (hgr:w.grownBy w' (Value.slice a (F i).length c).ownBlock):Kh B (w'.setCell ⟨g,i,none⟩ (.slice a' l'.length c')) g n (fun j=>if j=i then F i++[y] else F j):=by
 subst hl;obtain ⟨a0,c0,h1,h2,h3⟩:=h.1 i hi;rw [hc] at h1;simp only [dW,dU,aqo] at h1;obtain ⟨rfl,rfl⟩:=h1;have hgw:g<w.heap.size:=ah;have hgb:w'.heap[g]? =w.heap[g]? :=hgr.block g hgw (fun e=>by have:=(h3.lt g e.symm).1;omega);have hcg:∀j,w'.cell? ⟨g,j,none⟩=w.cell? ⟨g,j,none⟩:=fun j=>dD hgb;have lU:(w'.setCell ⟨g,i,none⟩ (.slice a' (F i++[y]).length c')).cell? ⟨g,i,none⟩=some (.slice a' (F i++[y]).length c'):=eU _ _ _ ((hcg i).trans hc);have pq:∀j,j≠i->(w'.setCell ⟨g,i,none⟩ (.slice a' (F i++[y]).length c')).cell? ⟨g,j,none⟩=w.cell? ⟨g,j,none⟩:=fun j hj=>(dR _ _ _ _ (fun e:(⟨g,i,none⟩:Addr)=⟨g,j,none⟩=>hj (ar6 e).2.1.symm)).trans (hcg j);have hes:∀{v:Value} {l:List Int},Ow B (fun k=>B<=k) w' 3 v l->Ow B (fun k=>B<=k) (w'.setCell ⟨g,i,none⟩ (.slice a' (F i++[y]).length c')) 3 v l:=fun hv=>hv.ny (fun k hk=>by have:=(hv.lt k hk).1;show k≠g;omega) _;refine ⟨fun j hj=> ?_,fun j j' x cx nx x' cx' nx' k hj hj' hjj h1 h2 h4 h5=> ?_⟩
 ·by_cases e:j=i;·subst e;simp only [aqj];exact ⟨a',c',lU,by rw [gI,iR (a:=⟨g,j,none⟩) hgb];exact h2,hes hO⟩
  simp only [bO e];obtain ⟨aj,cj,hj1,hj2,hj3⟩:=h.1 j hj;refine ⟨aj,cj,by rw [pq j e];exact hj1,by rw [gI,iR (a:=⟨g,j,none⟩) hgb];exact hj2,hes ?_⟩;refine hj3.kept hgr.size fun k hk=>hgr.block k (hj3.lt k hk).2 fun e2=> ?_;exact h.2 j i aj cj _ a c _ k hj hi e hj1 hc hk e2.symm
 by_cases e:j=i
 ·subst e;rw [lU] at h1;simp only [dW,dU] at h1;obtain ⟨rfl,rfl,rfl⟩:=h1;rw [pq j' (arl hjj)] at h2;rcases hk k h4 with e1|e1;·exact h.2 j j' a c _ x' cx' nx' k hi hj' hjj hc h2 e1 h5
  obtain ⟨aj,cj,hj1,hj2,hj3⟩:=h.1 j' hj';rw [hj1] at h2;simp only [dW,dU] at h2;obtain ⟨rfl,rfl,rfl⟩:=h2;have:=(hj3.lt k h5).2;omega
 rw [pq j e] at h1;by_cases e':j'=i
 ·subst e';rw [lU] at h2;simp only [dW,dU] at h2;obtain ⟨rfl,rfl,rfl⟩:=h2;rcases hk k h5 with e1|e1;·exact h.2 j j' x cx nx a c _ k hj hi hjj h1 hc h4 e1
  obtain ⟨aj,cj,hj1,hj2,hj3⟩:=h.1 j hj;rw [hj1] at h1;simp only [dW,dU] at h1;obtain ⟨rfl,rfl,rfl⟩:=h1;have:=(hj3.lt k h4).2;omega
 rw [pq j' e'] at h2;exact h.2 j j' x cx nx x' cx' nx' k hj hj' hjj h1 h2 h4 h5
theorem Kh.made {T:TypeId} {N:Nat} {z:Array Value} (hz:∀i,i<N->(madeCells z N)[i]? =some (.slice none 0 0)):Kh (w.heap.size+1) (w.alloc (.cells (madeCells z N) T)) w.heap.size N (fun _=>[]):=by
 have hh:(w.alloc (.cells (madeCells z N) T)).heap[w.heap.size]? =some (.cells (madeCells z N) T):=dS _ _
 have hc:∀i,i<N->(w.alloc (.cells (madeCells z N) T)).cell? ⟨w.heap.size,i,none⟩=some (.slice none 0 0):=fun i hi=>by
  unfold World.cell?
  simp only [hh]
  simpa using hz i hi
 refine ⟨fun i hi=>⟨none,0,hc i hi,by unfold World.frozen?;rw [hh];simp,Ow.nil⟩,fun i j a c n1 a' c' n2 k hi hj _ h1 _ h3 _=> ?_⟩;rw [hc i hi] at h1;simp only [dW,dU] at h1;obtain ⟨rfl,rfl,rfl⟩:=h1;simp [Value.ownBlock] at h3
end
structure Gp where
 jC:List Int
 cur:List Int
 deriving DecidableEq
instance:GR Gp where
 sz:=2
 rep M w cs q:=∃a c b d,cs=[.slice a q.jC.length c,.slice b q.cur.length d]/\Sl M w a c q.jC/\Sl M w b d q.cur
 len h:=by obtain ⟨a,c,b,d,h,_⟩:=h;rw [h];rfl
 ext e h:=by obtain ⟨a,c,b,d,h,h1,h2⟩:=h;exact ⟨a,c,b,d,h,h1.ext e,h2.ext e⟩
theorem Sl.aeE {M:Nat->Prop} {w:World} {a:Option Addr} {c:Nat} {l:List Gp} (h:Sl M w a c l) {j:Nat} (hj:j<l.length):∃b off a1 c1 a2 c2 q,a=some ⟨b,off,none⟩/\w.cell? ⟨b,off+j*2,none⟩=some (.slice a1 q.jC.length c1)/\w.cell? ⟨b,off+j*2+1,none⟩=some (.slice a2 q.cur.length c2)/\Hid (l[j]? =some q)/\ Sl M w a1 c1 q.jC/\Sl M w a2 c2 q.cur:=by
 obtain ⟨b,off,cs,ha,_,_,⟨a1,c1,a2,c2,rfl,h1,h2⟩,hc⟩:=h.2.2 j l[j] (by simp [hj]);refine ⟨b,off,a1,c1,a2,c2,l[j],ha,by simpa [GR.sz] using hc 0 _ rfl,by simpa [GR.sz] using hc 1 _ rfl,bK (by simp [hj]),h1,h2⟩
namespace g_
variable (m:g_)
def jG (x:Nat) (C:List Int):List Int:=kR (C.map fun s=>m.ot s.toNat x)
def gpI (x:Nat) (I C:List Int) (o:Int):List Int:=((I.zip C).filter fun p=>decide (m.ot p.2.toNat x=o)).map Prod.fst
def IJ (x:Nat) (I C:List Int) (o:Int):List Int:=((I.zip C).filter fun p=>decide (m.ot p.2.toNat x=o)).map fun p=>m.nx p.2.toNat x
def yH (x:Nat) (I C:List Int) (o:Int):Gp:=⟨m.gpI x I C o,m.IJ x I C o⟩
def Jj (x:Nat) (I C:List Int):List Gp:=(m.jG x C).map (m.yH x I C)
def qx (x:Nat) (I C K:List Int) (k i:Nat):List Int:=if i%2=0 then m.gpI x (I.take k) (C.take k) (K.getD (i/2) 0) else m.IJ x (I.take k) (C.take k) (K.getD (i/2) 0)
variable {m}
theorem tY {I C:List Int} {k:Nat} {p s:Int} (h1:I[k]? =some p) (h2:C[k]? =some s):(I.take (k+1)).zip (C.take (k+1))=(I.take k).zip (C.take k)++[(p,s)]:=by
 have e:∀j,(I.take j).zip (C.take j)=(I.zip C).take j:=fun j=>by unfold List.zip;rw [List.take_zipWith]
 rw [e,e,dh];congr 1
 rw [show (I.zip C)[k]? =some (p,s) from List.getElem?_zip_eq_some.2 ⟨h1,h2⟩];rfl
theorem PK {x:Nat} {I C:List Int} {k:Nat} {p s o:Int} (h1:I[k]? =some p) (h2:C[k]? =some s):m.gpI x (I.take (k+1)) (C.take (k+1)) o=m.gpI x (I.take k) (C.take k) o++(if m.ot s.toNat x=o then [p] else []):=by
 unfold gpI;rw [tY h1 h2,fV,eB];congr 1
 by_cases e:m.ot s.toNat x=o<;>simp [e]
theorem PL {x:Nat} {I C:List Int} {k:Nat} {p s o:Int} (h1:I[k]? =some p) (h2:C[k]? =some s):m.IJ x (I.take (k+1)) (C.take (k+1)) o=m.IJ x (I.take k) (C.take k) o++(if m.ot s.toNat x=o then [m.nx s.toNat x] else []):=by
 unfold IJ;rw [tY h1 h2,fV,eB];congr 1
 by_cases e:m.ot s.toNat x=o<;>simp [e]
theorem Xj (x:Nat) (I C K:List Int) (i:Nat):m.qx x I C K 0 i=[]:=by unfold qx gpI IJ;simp
theorem Xk {x:Nat} {I C K:List Int} {k j:Nat} {p s:Int} (h1:I[k]? =some p) (h2:C[k]? =some s) (hK:qP K) (hj:K[j]? =some (m.ot s.toNat x)) (i:Nat) (hi:i<K.length*2):(if i=2*j+1 then (if 2*j+1=2*j then m.qx x I C K k (2*j)++[p] else m.qx x I C K k (2*j+1))++[m.nx s.toNat x] else if i=2*j then m.qx x I C K k (2*j)++[p] else m.qx x I C K k i)=m.qx x I C K (k+1) i:=by
 have hKj:K.getD j 0=m.ot s.toNat x:=by rw [bS,hj];rfl
 by_cases e1:i=2*j+1;·subst e1;rw [bQ rfl,bO ah];unfold qx;rw [bO ah,bO ah,show (2*j+1)/2=j by omega,PL h1 h2,hKj,bQ rfl]
 rw [bO e1];by_cases e2:i=2*j;·subst e2;rw [bQ rfl];unfold qx;rw [bQ ah,bQ ah,show (2*j)/2=j by omega,PK h1 h2,hKj,bQ rfl]
 rw [bO e2];have hne:¬m.ot s.toNat x=K.getD (i/2) 0:=by
  intro e;have hi2:i/2<K.length:=ah;have hg:K[i/2]? =some (K.getD (i/2) 0):=by rw [bS,bN hi2];rfl
  rw [<-e] at hg;have a1:=oH hK hg;have a2:=oH hK hj;omega
 unfold qx;by_cases e3:i%2=0;·rw [bQ e3,bQ e3,PK h1 h2,bO hne,gD]
 rw [bO e3,bO e3,PL h1 h2,bO hne,gD]
end g_
theorem Kh.jD {M:Nat->Prop} {B:Nat} {w:World} {g c:Nat} {m:g_} {x:Nat} {I C K:List Int} {G:List Gp} (h:Kh B w g (K.length*2) (m.qx x I C K C.length)) (Vu:I.length=C.length) (hG:G=K.map (m.yH x I C)) (hg:g<w.heap.size) (hgM:¬M g) (hMB:∀k,M k->k<B) (hc:K.length<=c) (hc2:c<=maxLen):Sl M w (some ⟨g,0,none⟩) c G:=by
 subst hG;refine ⟨iq hc,hc2,fun j q hj=> ?_⟩;rw [dP] at hj;obtain ⟨o,ho,rfl⟩:=Option.map_eq_some_iff.1 hj;have hjl:j<K.length:=by
  by_cases e:j<K.length;·exact e
  rw [bZ ah] at ho;simp at ho
 have hKj:K.getD j 0=o:=by rw [bS,ho];rfl
 obtain ⟨a1,c1,h1, -,h2⟩:=h.1 (2*j) ah;obtain ⟨a2,c2,h3, -,h4⟩:=h.1 (2*j+1) ah;have e1:m.qx x I C K C.length (2*j)=(m.yH x I C o).jC:=by unfold g_.qx g_.yH;rw [bQ ah,show (2*j)/2=j by omega,hKj,dV,bY ah]
 have e2:m.qx x I C K C.length (2*j+1)=(m.yH x I C o).cur:=by unfold g_.qx g_.yH;rw [bO ah,show (2*j+1)/2=j by omega,hKj,dV,bY ah]
 rw [e1] at h1 h2;rw [e2] at h3 h4;refine ⟨g,0,[.slice a1 (m.yH x I C o).jC.length c1,.slice a2 (m.yH x I C o).cur.length c2],rfl,hg,hgM,⟨a1,c1,a2,c2,rfl,(h2.anyM (M':=M)).jD fun k hk hm=> ?_,(h4.anyM (M':=M)).jD fun k hk hm=> ?_⟩,fun i u hi=> ?_⟩;·have:=(h2.lt k hk).1;have:=hMB k hm;omega
 ·have:=(h4.lt k hk).1;have:=hMB k hm;omega
 match i,hi with
 |0,hi=>simp at hi;subst hi;simpa [GR.sz,asr] using h1
 |1,hi=>simp at hi;subst hi;simpa [GR.sz,asr] using h3
 |i+2,hi=>simp at hi
structure Kd where
 out:Int
 to:Int
 deriving DecidableEq
structure Nd where
 st:List Int
 inp:Int
 kids:List Kd
 deriving DecidableEq
instance:GR Kd where
 sz:=2
 rep _ _ cs x:=cs=[.int .i64 x.out,.int .i64 x.to]/\i64 x.out/\i64 x.to
 len h:=by rw [h.1];rfl
 ext _ h:=h
instance:GR Nd where
 sz:=3
 rep M w cs x:=(∃a c b d,cs=[.slice a x.st.length c,.int .i64 x.inp,.slice b x.kids.length d]/\Sl M w a c x.st/\Sl M w b d x.kids)/\i64 x.inp
 len h:=by obtain ⟨⟨a,c,b,d,h,_⟩,_⟩:=h;rw [h];rfl
 ext e h:=by obtain ⟨⟨a,c,b,d,h,h1,h2⟩,h3⟩:=h;exact ⟨⟨a,c,b,d,h,h1.ext e,h2.ext e⟩,h3⟩
theorem Sl.PN {M:Nat->Prop} {w:World} {a:Option Addr} {c:Nat} {l:List Kd} (h:Sl M w a c l) {j:Nat} (hj:j<l.length):∃b off q,a=some ⟨b,off,none⟩/\w.cell? ⟨b,off+j*2,none⟩=some (.int .i64 q.out)/\w.cell? ⟨b,off+j*2+1,none⟩=some (.int .i64 q.to)/\Hid (l[j]? =some q)/\Hid (i64 q.out/\i64 q.to):=by
 obtain ⟨b,off,cs,ha,_,_,⟨rfl,h1⟩,hc⟩:=h.2.2 j l[j] (by simp [hj]);exact ⟨b,off,l[j],ha,by simpa [GR.sz] using hc 0 _ rfl,by simpa [GR.sz] using hc 1 _ rfl,bK (by simp [hj]),h1⟩
theorem Sl.Dx {M:Nat->Prop} {w:World} {a:Option Addr} {c:Nat} {l:List Nd} (h:Sl M w a c l) {j:Nat} (hj:j<l.length):∃b off a1 c1 a2 c2 q,a=some ⟨b,off,none⟩/\w.cell? ⟨b,off+j*3,none⟩=some (.slice a1 q.st.length c1)/\w.cell? ⟨b,off+j*3+1,none⟩=some (.int .i64 q.inp)/\w.cell? ⟨b,off+j*3+2,none⟩=some (.slice a2 q.kids.length c2)/\Hid (l[j]? =some q)/\ Sl M w a1 c1 q.st/\Sl M w a2 c2 q.kids/\Hid (i64 q.inp):=by
 obtain ⟨b,off,cs,ha,_,_,⟨⟨a1,c1,a2,c2,rfl,h1,h2⟩,h3⟩,hc⟩:=h.2.2 j l[j] (by simp [hj]);exact ⟨b,off,a1,c1,a2,c2,l[j],ha,by simpa [GR.sz] using hc 0 _ rfl,by simpa [GR.sz] using hc 1 _ rfl,by simpa [GR.sz] using hc 2 _ rfl,bK (by simp [hj]),h1,h2,h3⟩
structure Ng where
 st:List Int
 inp:Int
 ak:Option Addr
 nk:Nat
 ck:Nat
abbrev Ng.kv (x:Ng):Value:= .slice x.ak x.nk x.ck
instance:GR Ng where
 sz:=3
 rep M w cs x:=(∃a c,cs=[.slice a x.st.length c,.int .i64 x.inp,x.kv]/\Sl M w a c x.st)/\i64 x.inp
 len h:=by obtain ⟨⟨a,c,h,_⟩,_⟩:=h;rw [h];rfl
 ext e h:=by obtain ⟨⟨a,c,h,h1⟩,h2⟩:=h;exact ⟨⟨a,c,h,h1.ext e⟩,h2⟩
theorem zk {xs:List Value} {s i j o:Nat} {u:Value} (ho:o<s):((xs.set (i*s+o) u).drop (j*s)).take s=if j=i then ((xs.drop (i*s)).take s).set o u else (xs.drop (j*s)).take s:=by
 apply eY;intro k;by_cases hk:k<s
 ·by_cases e:j=i
  ·subst e;rw [bQ rfl,dL,bQ hk,eu,ard,ard];by_cases e2:o=k
   ·subst e2;rw [bQ rfl,bQ rfl];simp only [dx,aqb];by_cases h:j*s+o<xs.length;·rw [bQ h,bQ ah]
    rw [bO h,bO ah]
   rw [bO ah,bO e2,dL,bQ hk,eu]
  rw [bO e,dL,bQ hk,eu,dL,bQ hk,eu,dY];intro h;rcases Nat.lt_or_gt_of_ne e with h2|h2;·have:=eD s (show j+1<=i from h2);rw [aq4,ari] at this;omega
  have:=eD s (show i+1<=j from h2);rw [aq4,ari] at this;omega
 rw [dL,bO hk];split;·rw [ard,dL,bO hk];simp only [dx,aqb];rw [bO ah]
 rw [dL,bO hk]
section
variable {B:Nat} {W:Nat->Prop} {w:World} {T:TypeId} {g c:Nat} {L:List Ng}
theorem Ow.Co (h:Ow B W w T (.slice (some ⟨g,0,none⟩) L.length c) L) {i:Nat} {x:Ng} (hx:L[i]? =some x):(∃a c,w.cell? ⟨g,i*3,none⟩=some (.slice a x.st.length c)/\Sl W w a c x.st)/\w.cell? ⟨g,i*3+1,none⟩=some (.int .i64 x.inp)/\w.cell? ⟨g,i*3+2,none⟩=some x.kv/\(∀o,w.frozen? ⟨g,o,none⟩=false)/\i64 x.inp:=by
 obtain ⟨xs,h1,h2⟩:=h;obtain ⟨⟨a,c,h3,h4⟩,h5⟩:=h2 i x hx;have hj:i<L.length:=by
  by_cases e:i<L.length;·exact e
  rw [bZ ah] at hx;simp at hx
 have hc:∀o u,o<3->[Value.slice a x.st.length c,.int .i64 x.inp,x.kv][o]? =some u->w.cell? ⟨g,i*3+o,none⟩=some u:=by intro o u ho hu;have hlt:i*3+o<L.length*3:=ah;rw [h1.cellAt (i*3+o) hlt];rw [<-h3,dL,bQ (by exact ho),eu] at hu;exact hu
 exact ⟨⟨a,c,hc 0 _ ah rfl,h4⟩,hc 1 _ ah rfl,hc 2 _ ah rfl,h1.frozenAt,h5⟩
theorem Ow.ads (h:Ow B W w T (.slice (some ⟨g,0,none⟩) L.length c) L) (hW:W g) {i:Nat} {x:Ng} (hx:L[i]? =some x) {y:Int} (hy:i64 y):Ow B W (w.setCell ⟨g,i*3+1,none⟩ (.int .i64 y)) T (.slice (some ⟨g,0,none⟩) L.length c) (L.set i ⟨x.st,y,x.ak,x.nk,x.ck⟩):=by
 obtain ⟨xs,h1,h2⟩:=h;refine ⟨xs.set (i*3+1) (.int .i64 y),iq ((h1.stored (i*3+1) (.int .i64 y)).1),fun j z hj=> ?_⟩;show GR.rep W _ (((xs.set (i*3+1) (.int .i64 y)).drop (j*3)).take 3) z;rw [zk (s:=3) (i:=i) (j:=j) (o:=1) ah];by_cases e:j=i
 ·subst e;rw [bQ rfl];have hl:j<L.length:=by
   by_cases e:j<L.length;·exact e
   rw [bZ ah] at hx;simp at hx
  simp [hl] at hj;subst hj;obtain ⟨⟨a,c,h3,h4⟩,h5⟩:=h2 j x hx;have h3:(xs.drop (j*3)).take 3=[.slice a x.st.length c,.int .i64 x.inp,x.kv]:=h3;rw [h3];exact ⟨⟨a,c,rfl,h4.ext (Ext.setCell w (p:=⟨g,j*3+1,none⟩) hW _)⟩,hy⟩
 rw [bO e];rw [dY (fun h=>e h.symm)] at hj;exact GR.ext (Ext.setCell w (p:=⟨g,i*3+1,none⟩) hW _) (h2 j z hj)
theorem Ow.aaD (h:Ow B W w T (.slice (some ⟨g,0,none⟩) L.length c) L) (hW:W g) {i:Nat} {x:Ng} (hx:L[i]? =some x) (ak:Option Addr) (nk ck:Nat):Ow B W (w.setCell ⟨g,i*3+2,none⟩ (.slice ak nk ck)) T (.slice (some ⟨g,0,none⟩) L.length c) (L.set i ⟨x.st,x.inp,ak,nk,ck⟩):=by
 obtain ⟨xs,h1,h2⟩:=h;refine ⟨xs.set (i*3+2) (.slice ak nk ck),iq ((h1.stored (i*3+2) (.slice ak nk ck)).1),fun j z hj=> ?_⟩;show GR.rep W _ (((xs.set (i*3+2) (.slice ak nk ck)).drop (j*3)).take 3) z;rw [zk (s:=3) (i:=i) (j:=j) (o:=2) ah];by_cases e:j=i
 ·subst e;rw [bQ rfl];have hl:j<L.length:=by
   by_cases e:j<L.length;·exact e
   rw [bZ ah] at hx;simp at hx
  simp [hl] at hj;subst hj;obtain ⟨⟨a,c,h3,h4⟩,h5⟩:=h2 j x hx;have h3:(xs.drop (j*3)).take 3=[.slice a x.st.length c,.int .i64 x.inp,x.kv]:=h3;rw [h3];exact ⟨⟨a,c,rfl,h4.ext (Ext.setCell w (p:=⟨g,j*3+2,none⟩) hW _)⟩,h5⟩
 rw [bO e];rw [dY (fun h=>e h.symm)] at hj;exact GR.ext (Ext.setCell w (p:=⟨g,i*3+2,none⟩) hW _) (h2 j z hj)
end
def lG (W:Nat->Prop) (B:Nat) (w:World) (v:Value) (l:List Nd):Prop:=
 ∃L:List Ng,Ow B W w 179 v L/\(∀k,v.ownBlock=some k->W k)/\L.length=l.length/\
  (∀(i:Nat) (x:Ng) (nd:Nd),L[i]? =some x->l[i]? =some nd->x.st=nd.st/\x.inp=nd.inp/\x.nk=nd.kids.length/\Ow B W w 228 (.slice x.ak nd.kids.length x.ck) nd.kids/\∀k,x.kv.ownBlock=some k->W k/\v.ownBlock≠some k)/\
  ∀(i j:Nat) (x y:Ng) (k:Nat),i≠j->L[i]? =some x->L[j]? =some y->x.kv.ownBlock=some k->y.kv.ownBlock=some k->False
section
variable {B:Nat} {W W':Nat->Prop} {w w':World} {v:Value} {l:List Nd}
theorem lG.nil:lG W B w (.slice none 0 0) []:=⟨[],Ow.nil,fun k hk=>by simp [Value.ownBlock] at hk,rfl,fun i x nd h=>by simp at h,fun i j x y k _ h=>by simp at h⟩
theorem rM {a:Option Addr} {n m c d:Nat}:(Value.slice a n c).ownBlock=(Value.slice a m d).ownBlock:=by cases a<;>rfl
theorem lG.ext (h:lG W B w v l) (e:Ext W W' w w') (hs:∀k,k<w.heap.size->W k->W' k) (hb:∀k,W k->B<=k->w'.heap[k]? =w.heap[k]?):lG W' B w' v l:=by
 obtain ⟨L,h1,h2,h3,h4,h5⟩:=h;refine ⟨L,h1.ext e fun k hk=>hb k (h2 k hk) (h1.lt k hk).1,fun k hk=>hs k (h1.lt k hk).2 (h2 k hk),h3,fun i x nd hx hn=> ?_,h5⟩;obtain ⟨g1,g2,g3,g4,g5⟩:=h4 i x nd hx hn;have ho:∀k,(Value.slice x.ak nd.kids.length x.ck).ownBlock=some k->x.kv.ownBlock=some k:=fun k hk=>(rM (m:=nd.kids.length) (d:=x.ck)).trans hk;exact ⟨g1,g2,g3,g4.ext e fun k hk=>hb k (g5 k (ho k hk)).1 (g4.lt k hk).1,fun k hk=>⟨hs k (g4.lt k (rM.trans hk)).2 (g5 k hk).1,(g5 k hk).2⟩⟩
theorem lG.below (h:lG W B w v l) (hb:Below w.heap.size w w') (hW:∀k,W k->k<w.heap.size):lG W B w' v l:=
 h.ext (Ext.of_below hb) (fun _ _ h=>h) fun k hk _=>hb.block k (hW k hk)
theorem lG.setOther (h:lG W B w v l) {p:Addr} (hp:W p.block) (hB:p.block<B) (u:Value):lG W B (w.setCell p u) v l:=
 h.ext (Ext.setCell w hp u) (fun _ _ h=>h) fun k _ hk=>dM _ _ _ _ ah
theorem lG.len (h:lG W B w v l):∃a c,v= .slice a l.length c/\l.length<=c/\c<=maxLen:=by
 obtain ⟨L,h1,h2,h3,h4⟩:=h;obtain ⟨a,c,hv,h5,h6⟩:=h1.shape;exact ⟨a,c,by rw [hv,h3],ah,h6⟩
theorem iW {α:Type} {l:List α} {i:Nat} {x:α} (h:l[i]? =some x):i<l.length:=by
 by_cases e:i<l.length;·exact e
 rw [bZ ah] at h;simp at h
theorem lG.at {g c:Nat} (h:lG W B w (.slice (some ⟨g,0,none⟩) l.length c) l) {i:Nat} {nd:Nd} (hi:l[i]? =some nd):∃ak ck,w.cell? ⟨g,i*3+2,none⟩=some (.slice ak nd.kids.length ck)/\(w.cell? ⟨g,i*3+1,none⟩=some (.int .i64 nd.inp))/\(∀o,w.frozen? ⟨g,o,none⟩=false)/\Ow B W w 228 (.slice ak nd.kids.length ck) nd.kids/\B<=g/\g<w.heap.size/\W g:=by
 obtain ⟨L,h1,h2,h3,h4,h5⟩:=h;obtain ⟨x,hx⟩:∃x,L[i]? =some x:=⟨_,bN (by rw [h3];exact iW hi)⟩;rw [<-h3] at h1;obtain ⟨⟨a,c,c0, -⟩,c1,c2,c3, -⟩:=h1.Co hx;obtain ⟨g1,g2,g3,g4,g5⟩:=h4 i x nd hx hi;have hlt:=h1.lt g rfl;exact ⟨x.ak,x.ck,by rw [c2,<-g3],by rw [c1,g2],c3,g4,hlt.1,hlt.2,h2 g rfl⟩
theorem lG.aaE {g c:Nat} (h:lG W B w (.slice (some ⟨g,0,none⟩) l.length c) l) {i:Nat} {nd:Nd} (hi:l[i]? =some nd) {y:Int} (hy:i64 y):lG W B (w.setCell ⟨g,i*3+1,none⟩ (.int .i64 y)) (.slice (some ⟨g,0,none⟩) l.length c) (l.set i ⟨nd.st,y,nd.kids⟩):=by
 obtain ⟨L,h1,h2,h3,h4,h5⟩:=h;obtain ⟨x,hx⟩:∃x,L[i]? =some x:=⟨_,bN (by rw [h3];exact iW hi)⟩;rw [<-h3] at h1;have hs:=h1.ads (h2 g rfl) hx hy;rw [h3] at hs;refine ⟨_,hs,h2,by simp [h3],fun j z nz hz hn=> ?_,fun j j' z z' k hjj hz hz'=> ?_⟩
 ·have hke:∀{u:List Kd} {vv:Value},Ow B W w 228 vv u->(∀k,vv.ownBlock=some k->(Value.slice (some ⟨g,0,none⟩) l.length c).ownBlock≠some k)->Ow B W (w.setCell ⟨g,i*3+1,none⟩ (.int .i64 y)) 228 vv u:=fun hv hne=>
    hv.setOther (h2 g rfl) (fun k hk e=>hne k hk (by rw [show k=g from e];rfl)) _
  by_cases e:j=i;·subst e;have hjl:=iW hx;have agh:=iW hi;simp [hjl] at hz;simp [agh] at hn;subst hz hn;obtain ⟨g1,g2,g3,g4,g5⟩:=h4 j x nd hx hi;exact ⟨g1,rfl,g3,hke g4 fun k hk=>(g5 k (rM.trans hk)).2,g5⟩
  rw [dY (fun h=>e h.symm)] at hz hn;obtain ⟨g1,g2,g3,g4,g5⟩:=h4 j z nz hz hn;exact ⟨g1,g2,g3,hke g4 fun k hk=>(g5 k (rM.trans hk)).2,g5⟩
 have aeF:∀{j:Nat} {z:Ng},(L.set i ⟨x.st,y,x.ak,x.nk,x.ck⟩)[j]? =some z->∃z',L[j]? =some z'/\z'.kv=z.kv:=by
  intro j z hz;by_cases e:j=i;·subst e;have hjl:=iW hx;simp [hjl] at hz;subst hz;exact ⟨x,hx,rfl⟩
  rw [dY (fun h=>e h.symm)] at hz;exact ⟨z,hz,rfl⟩
 obtain ⟨z1,e1,e2⟩:=aeF hz;obtain ⟨z2,e3,e4⟩:=aeF hz';rw [<-e2,<-e4];exact h5 j j' z1 z2 k hjj e1 e3
theorem lG.Vv {g c:Nat} (h:lG W B w (.slice (some ⟨g,0,none⟩) l.length c) l) {i:Nat} {nd:Nd} (hi:l[i]? =some nd) {ak a':Option Addr} {ck c':Nat} {K:List Kd} (hc:w.cell? ⟨g,i*3+2,none⟩=some (.slice ak nd.kids.length ck)) (hO:Ow B (fun k=>W k\/k=w.heap.size) w' 228 (.slice a' K.length c') K) (hk:∀k,(Value.slice a' K.length c').ownBlock=some k->(Value.slice ak nd.kids.length ck).ownBlock=some k\/k=w.heap.size) (hgr:w.grownBy w' (Value.slice ak nd.kids.length ck).ownBlock) (hW:∀k,W k->k<w.heap.size):lG (fun k=>W k\/k=w.heap.size) B (w'.setCell ⟨g,i*3+2,none⟩ (.slice a' K.length c')) (.slice (some ⟨g,0,none⟩) l.length c) (l.set i ⟨nd.st,nd.inp,K⟩):=by
 obtain ⟨L,h1,h2,h3,h4,h5⟩:=h;obtain ⟨x,hx⟩:∃x,L[i]? =some x:=⟨_,bN (by rw [h3];exact iW hi)⟩;rw [<-h3] at h1;obtain ⟨-, -,c2, -, -⟩:=h1.Co hx;obtain ⟨g1,g2,g3,g4,g5⟩:=h4 i x nd hx hi;rw [hc] at c2;simp only [dW,dU] at c2;obtain ⟨rfl,hnk,rfl⟩:=c2;have hox:∀k,(Value.slice x.ak nd.kids.length x.ck).ownBlock=some k->x.kv.ownBlock=some k:=fun k hk=>rM.trans hk;have hWx:∀k,(Value.slice x.ak nd.kids.length x.ck).ownBlock=some k->W k:=fun k hk=>(g5 k (hox k hk)).1;have e1:Ext W (fun k=>W k\/k=w.heap.size) w w':=⟨hgr.size,fun k hk hm=>hgr.block k hk (fun e=>hm (hWx k e.symm)),fun k hk hm=>hm.elim id (fun e=>by omega)⟩;have hgw:=(h1.lt g rfl);have hgb:w'.heap[g]? =w.heap[g]? :=hgr.block g hgw.2 fun e=>(g5 g (hox g e.symm)).2 rfl;have h1':Ow B (fun k=>W k\/k=w.heap.size) w' 179 (.slice (some ⟨g,0,none⟩) L.length c) L:=h1.ext e1 (fun k hk=>by obtain rfl:g=k:=(by simpa [Value.ownBlock] using hk);exact hgb);have hs:=h1'.aaD (.inl (h2 g rfl)) hx a' K.length c';rw [h3] at hs
 have aiS:∀{u:List Kd} {vv:Value},Ow B (fun k=>W k\/k=w.heap.size) w' 228 vv u->(∀k,vv.ownBlock=some k->k≠g)->Ow B (fun k=>W k\/k=w.heap.size) (w'.setCell ⟨g,i*3+2,none⟩ (.slice a' K.length c')) 228 vv u:=fun hv hne=>
  hv.setOther (.inl (h2 g rfl)) hne _
 have YI:∀k,(Value.slice a' K.length c').ownBlock=some k->(W k\/k=w.heap.size)/\k≠g:=fun k hk'=>by
  rcases hk k hk' with e|e
  ·exact ⟨.inl (hWx k e),fun e2=>(g5 k (hox k e)).2 (by rw [e2];rfl)⟩
  exact ⟨.inr e,ah⟩
 refine ⟨_,hs,fun k hk=> .inl (h2 k hk),by simp [h3],fun j z nz hz hn=> ?_,fun j j' z z' k hjj hz hz' h6 h7=> ?_⟩
 ·by_cases e:j=i;·subst e;have hjl:=iW hx;have agh:=iW hi;simp [hjl] at hz;simp [agh] at hn;subst hz hn;refine ⟨g1,g2,rfl,aiS hO fun k hk'=>(YI k hk').2,fun k hk'=>⟨(YI k hk').1,fun e2=>(YI k hk').2 ?_⟩⟩;simpa [Value.ownBlock] using e2.symm
  rw [dY (fun h=>e h.symm)] at hz hn;obtain ⟨f1,f2,f3,f4,f5⟩:=h4 j z nz hz hn;have hoz:∀k,(Value.slice z.ak nz.kids.length z.ck).ownBlock=some k->z.kv.ownBlock=some k:=fun k hk=>rM.trans hk;refine ⟨f1,f2,f3,aiS (f4.ext e1 fun k hk'=>hgr.block k (f4.lt k hk').2 fun e2=> ?_) fun k hk' e2=>(f5 k (hoz k hk')).2 (by rw [e2];rfl),fun k hk'=>⟨.inl (f5 k hk').1,(f5 k hk').2⟩⟩;exact h5 j i z x k e hz hx (hoz k hk') (hox k e2.symm)
 have nW:∀{j:Nat} {z:Ng},(L.set i ⟨x.st,x.inp,a',K.length,c'⟩)[j]? =some z->(j=i/\z.kv= .slice a' K.length c')\/(j≠i/\L[j]? =some z):=by
  intro j z hz;by_cases e:j=i;·subst e;have hjl:=iW hx;simp [hjl] at hz;subst hz;exact .inl ⟨rfl,rfl⟩
  rw [dY (fun h=>e h.symm)] at hz;exact .inr ⟨e,hz⟩
 have pq:∀{j:Nat} {z:Ng},j≠i->L[j]? =some z->z.kv.ownBlock=some k->(Value.slice a' K.length c').ownBlock=some k->False:=by
  intro j z hji hz h8 h9;rcases hk k h9 with e|e;·exact h5 j i z x k hji hz hx h8 (hox k e)
  obtain ⟨nz,hnz⟩:∃nz,l[j]? =some nz:=⟨_,bN (by rw [<-h3];exact iW hz)⟩;have:=hW k ((h4 j z nz hz hnz).2.2.2.2 k h8).1;omega
 rcases nW hz with ⟨rfl,e2⟩|⟨e1,e2⟩
 ·rcases nW hz' with ⟨e3,e4⟩|⟨e3,e4⟩;·exact hjj e3.symm
  rw [e2] at h6;exact pq e3 e4 h7 h6
 rcases nW hz' with ⟨rfl,e4⟩|⟨e3,e4⟩;·rw [e4] at h7;exact pq e1 e2 h6 h7
 exact h5 j j' z z' k hjj e2 e4 h6 h7
end
theorem yI:(prog.info? 179).map (fun i=>(i.zero,i.size,i.bytes))=some (some (.agg #[.slice none 0 0,.int .i64 0,.slice none 0 0]),3,56):=aB
theorem PO:(prog.info? 228).map (fun i=>(i.zero,i.size,i.bytes))=some (some (.agg #[.int .i64 0,.int .i64 0]),2,16):=aB
section
variable {P:Program} {w:World} {o:Oper} {a:Act} {Q:Exit->Act->World->Prop}
theorem Gi {K:Act->World->Prop} {W:Nat->Prop} {l:List Nd} {s x:Operand} {t:TypeId} {B:Nat} {v:Value} {g c:Nat} {st:List Int} {y:Int} {ar:Option Addr} {cr:Nat} (hop:o.op= .call {callee:= .builtin .append,args:= #[s,x],argTypes:= #[t,t]}) (ht:P.underlying t=some (.slice 179)) (hi:(P.info? 179).map (fun i=>(i.zero,i.size,i.bytes))=some (some (.agg #[.slice none 0 0,.int .i64 0,.slice none 0 0]),3,56)) (hs:a.eval s=v) (hx:a.eval x= .slice (some ⟨g,0,none⟩) 1 c) (jk:lG W B w v l) (hn0:w.cell? ⟨g,0,none⟩=some (.slice ar st.length cr)) (hn1:w.cell? ⟨g,1,none⟩=some (.int .i64 y)) (hn2:w.cell? ⟨g,2,none⟩=some (.slice none 0 0)) (hy:Sl W w ar cr st) (hy2:i64 y) (iX:l.length<1000000000) (hB:B<=w.heap.size) (hW:∀k,W k->k<w.heap.size) (h:∀(a':Option Addr) (c':Nat) (l':List Nd) (w':World),Hid (l'=l++[⟨st,y,[]⟩])->lG (fun k=>W k\/k=w.heap.size) B w' (.slice a' l'.length c') l'->Ext W (fun k=>W k\/k=w.heap.size) w w'->w.grownBy w' v.ownBlock->K (a.put o.dst (.slice a' l'.length c')) w'):o.wp P a w K Q:=by
 obtain ⟨L,h1,h2,h3,h4,h5⟩:=jk;refine sF s x t hop 179 _ 3 56 ht hi rfl (by decide) B W v L hs rfl h1 h2 ⟨g,0,none⟩ c [.slice ar st.length cr,.int .i64 y,.slice none 0 0] (⟨st,y,none,0,0⟩:Ng) hx ⟨⟨ar,cr,rfl,hy⟩,hy2⟩ ?_ ?_ ah aS hB ?_
 ·intro j u hj;match j,hj with
  |0,hj=>simp at hj;subst hj;simpa [Addr.add] using hn0
  |1,hj=>simp at hj;subst hj;simpa [Addr.add] using hn1
  |2,hj=>simp at hj;subst hj;simpa [Addr.add] using hn2
  |j+3,hj=>simp at hj
 ·intro u hu;simp at hu;rcases hu with rfl|rfl|rfl<;>rfl
 intro a' c' L' w' e1 e2 e3 e4;have e1:=e1.out;subst e1;have hel:(L++[(⟨st,y,none,0,0⟩:Ng)]).length=(l++[(⟨st,y,[]⟩:Nd)]).length:=by simp [h3]
 have hx1:Ext W (fun k=>W k\/k=w.heap.size) w w':=⟨e4.size,fun k hk hm=>e4.block k hk (fun e=>hm (h2 k e.symm)),fun k hk hm=>hm.elim id (fun e=>by omega)⟩;have PS:=h a' c' (l++[(⟨st,y,[]⟩:Nd)]) w' rfl ?_ hx1 e4;·rw [<-hel] at PS;exact PS
 refine ⟨_,by rw [<-hel];exact e2,fun k hk=> ?_,hel,fun j z nz hz hn=> ?_,fun j j' z z' k hjj hz hz' h6 h7=> ?_⟩
 ·rcases (e3.out k (rM.trans hk)).1 with e|e;·exact .inl (h2 k e)
  exact .inr e
 ·by_cases hjl:j<L.length
  ·rw [dz hjl] at hz;rw [dz ah] at hn;obtain ⟨f1,f2,f3,f4,f5⟩:=h4 j z nz hz hn;have hoz:∀k,(Value.slice z.ak nz.kids.length z.ck).ownBlock=some k->z.kv.ownBlock=some k:=fun k hk=>rM.trans hk;refine ⟨f1,f2,f3,f4.ext hx1 fun k hk'=>e4.block k (f4.lt k hk').2 fun e=>(f5 k (hoz k hk')).2 e.symm,fun k hk'=>⟨.inl (f5 k hk').1,fun e=> ?_⟩⟩;rcases (e3.out k (rM.trans e)).1 with e'|e';·exact (f5 k hk').2 e'
   have:=hW k (f5 k hk').1;omega
  have hjn:j=L.length:=by have:=iW hz;simp at this;omega
  subst hjn;rw [dN (bM _)] at hz;rw [h3,dN (bM _)] at hn;simp at hz hn;subst hz hn;exact ⟨rfl,rfl,rfl,Ow.nil,fun k hk'=>by simp [Value.ownBlock] at hk'⟩
 have hin:∀{j:Nat} {z:Ng},(L++[(⟨st,y,none,0,0⟩:Ng)])[j]? =some z->z.kv.ownBlock=some k->L[j]? =some z:=by
  intro j z hz h8;by_cases hjl:j<L.length;·rwa [dz hjl] at hz
  have hjn:j=L.length:=by have:=iW hz;simp at this;omega
  subst hjn;rw [dN (bM _)] at hz;simp at hz;subst hz;simp [Value.ownBlock] at h8
 exact h5 j j' z z' k hjj (hin hz h6) (hin hz' h7) h6 h7
theorem Gj {K:Act->World->Prop} {W:Nat->Prop} {l:List Kd} {s x:Operand} {t e:TypeId} {z:Value} {B:Nat} {v:Value} {g c:Nat} {q:Kd} (hop:o.op= .call {callee:= .builtin .append,args:= #[s,x],argTypes:= #[t,t]}) (ht:P.underlying t=some (.slice e)) (hi:(P.info? e).map (fun i=>(i.zero,i.size,i.bytes))=some (some z,2,16)) (hzs:z.cells.size=2) (hs:a.eval s=v) (hx:a.eval x= .slice (some ⟨g,0,none⟩) 1 c) (jk:Ow B W w e v l) (hM:∀k,v.ownBlock=some k->W k) (hn0:w.cell? ⟨g,0,none⟩=some (.int .i64 q.out)) (hn1:w.cell? ⟨g,1,none⟩=some (.int .i64 q.to)) (hq:i64 q.out/\i64 q.to) (iX:l.length<1000000000) (hB:B<=w.heap.size) (h:∀(a':Option Addr) (c':Nat) (l':List Kd) (w':World),Hid (l'=l++[q])->Ow B (fun k=>W k\/k=w.heap.size) w' e (.slice a' l'.length c') l'->Hid (∀k,(Value.slice a' l'.length c').ownBlock=some k->(v.ownBlock=some k\/k=w.heap.size)/\k<w'.heap.size)->w.grownBy w' v.ownBlock->K (a.put o.dst (.slice a' l'.length c')) w'):o.wp P a w K Q:=by
 refine sF s x t hop e z 2 16 ht hi hzs (by decide) B W v l hs rfl jk hM ⟨g,0,none⟩ c [.int .i64 q.out,.int .i64 q.to] q hx ⟨rfl,hq⟩ ?_ ?_ ah aS hB h
 ·intro j u hj;match j,hj with
  |0,hj=>simp at hj;subst hj;simpa [Addr.add] using hn0
  |1,hj=>simp at hj;subst hj;simpa [Addr.add] using hn1
  |j+2,hj=>simp at hj
 intro u hu;simp at hu;rcases hu with rfl|rfl<;>rfl
end
theorem lG.jD {M:Nat->Prop} {B:Nat} {W:Nat->Prop} {w:World} {a:Option Addr} {c:Nat} {l:List Nd} (h:lG W B w (.slice a l.length c) l) (hM:∀k,M k->k<B) (hMW:∀k,k<w.heap.size->M k->W k):Sl M w a c l:=by
 obtain ⟨L,h1,h2,h3,h4,h5⟩:=h;have hO:Ow B M w 179 (.slice a L.length c) L:=by rw [h3];exact h1.ext ⟨bM _,fun _ _ _=>rfl,hMW⟩ fun _ _=>rfl
 have hS:=hO.jD fun k hk hm=>by have:=(hO.lt k hk).1;have:=hM k hm;omega
 refine ⟨by rw [<-h3];exact hS.1,hS.2.1,fun j nd hj=> ?_⟩;obtain ⟨x,hx⟩:∃x,L[j]? =some x:=⟨_,bN (by rw [h3];exact iW hj)⟩;obtain ⟨b,off,cs,ha,hb,hmb,⟨⟨a1,c1,rfl,s1⟩,s2⟩,hc⟩:=hS.2.2 j x hx;obtain ⟨g1,g2,g3,g4,g5⟩:=h4 j x nd hx hj;refine ⟨b,off,[.slice a1 nd.st.length c1,.int .i64 nd.inp,.slice x.ak nd.kids.length x.ck],ha,hb,hmb,⟨⟨a1,c1,x.ak,x.ck,rfl,by rw [<-g1];exact s1,?_⟩,by rw [<-g2];exact s2⟩,?_⟩;·have g4':Ow B M w 228 (.slice x.ak nd.kids.length x.ck) nd.kids:=g4.ext ⟨bM _,fun _ _ _=>rfl,hMW⟩ fun _ _=>rfl;exact g4'.jD fun k hk hm=>by have:=(g4.lt k hk).1;have:=hM k hm;omega
 intro i u hi;refine hc i u ?_;rw [<-hi,g1,g2];simp only [Ng.kv,g3]
section
variable {M:Nat->Prop} {w:World} {a:Option Addr} {c:Nat} {l:List Int}
theorem Mh (hs:Sl M w a c l) (h0:Hid (0<l.length)) (hn:Hid (l.length<1000000000)):Calls prog 220 #[.slice a l.length c] w fun e w'=>e= .returned (.int .i64 (kR l).length)/\Below w.heap.size w w':=by
 have ll:=hs.le;have hl:=uN l;have HC:=bK (rV hs (ig hn.out));clear hs;go_enter func220,ntmps220;go_wp2_with fail;refine (HC.out).mono ?_;rintro e w1 ⟨a1,c1,L1,rfl,hL1,kH,hb1⟩;have hl1:Hid (L1.length<1000000000):=by rw [hL1.out];exact hn
 obtain ⟨g,rfl,hg,hgw⟩:=jZ kH (by rw [hL1.out];exact h0.out);have agi:=hl1.out;have HC2:=bK (Ke kH (ig hl1.out));clear HC;go_wp2_with fail;refine (HC2.out).mono ?_;rintro e w2 ⟨rfl,L2,hL2,hl2,hO2,aiT⟩;have HC3:=bK (Kg hO2 (by have:=hl1.out;have:=hl2.out;omega));rw [hl2.out] at HC3;have hb2:=hb1.grown aiT (hb1.size) (fun k hk=>by cases hk;exact hg);clear HC2 kH hO2 aiT hb1;go_wp2_with fail;refine (HC3.out).mono ?_;rintro e w3 ⟨L3,rfl,hL3,hO3,PU⟩;have hF:Hid (L3=kR l):=bK (by rw [hL3.out,hL2.out,Kc,hL1.out]);have hb3:=hb2.grown PU (hb2.size) (fun k hk=>by cases hk;exact hg);clear HC3 hL3 hO3 PU hb2;go_wp2;go_ret;exact ⟨kQ (by rw [hF.out]),hb3⟩
end
theorem adt {l r:List Int} (hl:l.length=r.length) {k:Nat} (h:∀i,i<k->l[i]? =r[i]?) (hk:l.length<=k):l=r:=by
 apply eY;intro i;by_cases e:i<k;·exact h i e
 rw [bZ ah,bZ ah]
section
variable {M M':Nat->Prop} {w:World} {a b:Option Addr} {c d:Nat} {l r:List Int}
theorem aaF (h1:Sl M w a c l) (h2:Sl M' w b d r):Calls prog 175 #[.slice a l.length c,.slice b r.length d] w fun e w'=>e= .returned (.bool (decide (l=r)))/\Below w.heap.size w w':=by
 have l1:=h1.le;have l2:=h2.le;have H1:=bK h1;have H2:=bK h2;clear h1 h2;by_cases iX:l.length=r.length
 ·have tC:=bK iX;have hR0:Hid (∀i,i<0->l[i]? =r[i]?):=fun i hi=>by omega
  have hB0:=bP w.heap.size w;have hne:((l.length:Int) !=(r.length:Int))=false:=by simp [iX]
  clear iX;go_enter func175,ntmps175;go_wp2;go_loopw [13] (fun i wr=>∃(k:Nat),k<=l.length/\i= .int .i64 k/\Hid (∀i,i<k->l[i]? =r[i]?)/\Below w.heap.size w wr) (fun i _=>l.length-(intOf i).toNat);case atStart=>exact ⟨0,ah,rfl,hR0,hB0⟩
  case round=>
   clear hR0 hB0;obtain ⟨k,hk,rfl,hR,hB⟩:=hrel;obtain ⟨wo,rfl⟩:=iA wr;by_cases hlt:k<l.length
   ·have ni:k<r.length:=by have:=tC.out;omega
    obtain ⟨b1,o1,x,rfl,hc1,hx, -⟩:=(H1.out.below hB).iC hlt;obtain ⟨b2,o2,y,rfl,hc2,hy, -⟩:=(H2.out.below hB).iC ni;have HS:Hid (∀n,(wo.drewN n).cell? ⟨b1,o1+k,none⟩=some (.int .i64 x)/\(wo.drewN n).cell? ⟨b2,o2+k,none⟩=some (.int .i64 y)):=fun n=>⟨iq hc1,iq hc2⟩;by_cases he:x=y
    ·have hR2:Hid (∀i,i<k+1->l[i]? =r[i]?):=fun i hi=>by
       by_cases e:i=k
       ·subst e;rw [hx.out,hy.out,he]
       exact hR.out i ah
     subst he;have ams:(x !=x)=false:=aH;go_wp2;refine go_quiet fun nq=> ?_;have hB2:=iF hB nq;generalize wo.drewN nq=w2 at*
     go_wp2;go_roundw;case rel=>exact ⟨k+1,ah,by go_num,hR2,hB2⟩
     case measure=>exact bF
    have hF:Hid (decide (l=r)=false):=bK (by exact cZ fun e=>he (by have h1:=hx.out;rw [e,hy.out] at h1;simpa using h1.symm));have ams:(x !=y)=true:=by simp [he]
    clear he;go_wp2;refine go_quiet fun nq=> ?_;have hB2:=iF hB nq;generalize wo.drewN nq=w2 at*
    go_wp2;go_ret;exact ⟨by rw [hF.out];rfl,hB2⟩
   have hT:Hid (decide (l=r)=true):=bK (by exact dw (adt tC.out hR.out ah));go_wp2;go_ret;exact ⟨by rw [hT.out];rfl,hB⟩
 have hF:Hid (decide (l=r)=false):=bK (by exact cZ fun e=>iX (by rw [e]));have hne:((l.length:Int) !=(r.length:Int))=true:=aJ;clear iX;go_enter func175,ntmps175;go_wp2;go_ret;exact ⟨by rw [hF.out];rfl,bP _ _⟩
end
section
variable {M M':Nat->Prop} {w:World} {bm bc ba:Nat} {an ao ak:Option Addr} {cn co ck:Nat} {m:g_} {l:List Kd}
theorem Xl (hb:C4 w bm an cn ao co m) (hm:Ma M w an cn ao co m) (ok:Hid m.Ok) (c x:Nat) (hc:c<m.h_.length) (hx:x<m.gZ.toNat) (h1:w.cell? ⟨bc,0,none⟩=some (.int .i64 (c:Int))) (h2:w.cell? ⟨ba,0,none⟩=some (.int .i64 (x:Int))) (kd:Kd):Calls prog 183 #[.agg #[.int .i64 kd.out,.int .i64 kd.to],.pointer (some ⟨bm,0,none⟩),.pointer (some ⟨bc,0,none⟩),.pointer (some ⟨ba,0,none⟩)] w fun e w'=>e= .returned (.bool (kd.out==m.ot c x))/\Below w.heap.size w w':=by
 obtain ⟨bn,on,bo,oo,rfl,rfl⟩:=hm.addr ok.out;have hso:c<m.out.length:=ig ok.out.lo;obtain ⟨bo2,oo2,a1,r1,c1,hbe,hn1,hr1,hS1⟩:=hm.out.iD hso;obtain ⟨rfl,rfl⟩:bo=bo2/\oo=oo2:=iq hbe;have Ls:=hS1.le;have hrl:Hid ((r1.length:Int)=m.gZ):=by have:=ok.out.ro c hc;rw [iw hr1.out] at this;exact this
 have hxl:x<r1.length:=ig hrl.out;obtain ⟨b3,o3,t0,rfl,htc,ht0,vK⟩:=hS1.iC hxl;have hot:Hid (m.ot c x=t0):=by unfold Hid g_.ot;rw [iw hr1.out,iw ht0.out]
 have hB0:=iB w (.cells #[.int .i64 kd.out,.int .i64 kd.to] 228);have l2:=hm.out.le;have hk0:(w.alloc (.cells #[.int .i64 kd.out,.int .i64 kd.to] 228)).cell? ⟨w.heap.size,0,none⟩=some (.int .i64 kd.out):=aH;have q1:=(hB0.cell (p:=⟨bm,3,none⟩) (lt_of_cell hb.2.2.2)).trans hb.2.2.2;have q2:=(hB0.cell (p:=⟨bc,0,none⟩) (lt_of_cell h1)).trans h1;have q3:=(hB0.cell (p:=⟨ba,0,none⟩) (lt_of_cell h2)).trans h2;have q4:=(hB0.cell (p:=⟨bo,oo+c,none⟩) (lt_of_cell hn1)).trans hn1;have q5:=(hB0.cell (p:=⟨b3,o3+x,none⟩) (lt_of_cell htc)).trans htc;clear hb hm hbe hn1 hS1 htc h1 h2;go_enter func183,ntmps183;go_upto_region 1 with (fail);generalize w.alloc (.cells #[.int .i64 kd.out,.int .i64 kd.to] 228)=w0 at*
 have p0:∀n,(w0.drewN n).cell? ⟨w.heap.size,0,none⟩=some (.int .i64 kd.out):=fun n=>by simpa using hk0
 have p1:∀n,(w0.drewN n).cell? ⟨bm,3,none⟩=some (.slice (some ⟨bo,oo,none⟩) m.out.length co):=fun n=>by simpa using q1
 have p2:∀n,(w0.drewN n).cell? ⟨bc,0,none⟩=some (.int .i64 (c:Int)):=fun n=>by simpa using q2
 have p3:∀n,(w0.drewN n).cell? ⟨ba,0,none⟩=some (.int .i64 (x:Int)):=fun n=>by simpa using q3
 have p4:∀n,(w0.drewN n).cell? ⟨bo,oo+c,none⟩=some (.slice (some ⟨b3,o3,none⟩) r1.length c1):=fun n=>by simpa using q4
 have p5:∀n,(w0.drewN n).cell? ⟨b3,o3+x,none⟩=some (.int .i64 t0):=fun n=>by simpa using q5
 refine go_quiet fun nq=> ?_;have Gl:=iF hB0 nq;clear p0 p1 p2 p3 p4 p5 q1 q2 q3 q4 q5 hk0 hB0;generalize w0.drewN nq=w1 at*
 go_wp2;go_ret;exact ⟨by rw [hot.out];rfl,Gl⟩
theorem Xm (hb:C4 w bm an cn ao co m) (hm:Ma M w an cn ao co m) (ok:Hid m.Ok) (c x:Nat) (hc:c<m.h_.length) (hx:x<m.gZ.toNat) (h1:w.cell? ⟨bc,0,none⟩=some (.int .i64 (c:Int))) (h2:w.cell? ⟨ba,0,none⟩=some (.int .i64 (x:Int))) (hl:Sl M' w ak ck l) {k0:Nat} {kd0:Kd} (hk:Hid (l[k0]? =some kd0)) (ho:Hid (kd0.out=m.ot c x)) (hbf:Hid (∀(j:Nat) (kj:Kd),j<k0->l[j]? =some kj->kj.out≠m.ot c x)):Calls prog 182 #[.slice ak l.length ck,.func (.func 183) #[] #[.pointer (some ⟨bm,0,none⟩),.pointer (some ⟨bc,0,none⟩),.pointer (some ⟨ba,0,none⟩)]] w fun e w'=>e= .returned (.int .i64 (k0:Int))/\Below w.heap.size w w':=by
 have ll:=hl.le;have hkl:=iW hk.out
 have HW:Hid (∀w',Below w.heap.size w w'->∀kd:Kd,Calls prog 183 #[.agg #[.int .i64 kd.out,.int .i64 kd.to],.pointer (some ⟨bm,0,none⟩),.pointer (some ⟨bc,0,none⟩),.pointer (some ⟨ba,0,none⟩)] w' fun e w''=>e= .returned (.bool (kd.out==m.ot c x))/\Below w'.heap.size w' w''):=fun w' h kd=>
  Xl (hb.below h (lt_of_cell hb.1)) (hm.below h) ok c x hc hx ((h.cell (p:=⟨bc,0,none⟩) (lt_of_cell h1)).trans h1) ((h.cell (p:=⟨ba,0,none⟩) (lt_of_cell h2)).trans h2) kd
 have HL:=bK hl;have hB0:=bP w.heap.size w;clear hb hm h1 h2 hl;go_enter func182,ntmps182;go_wp2;go_loopw [8] (fun i wr=>∃(k:Nat),k<=k0/\i= .int .i64 k/\Below w.heap.size w wr) (fun i _=>l.length-(intOf i).toNat);case atStart=>exact ⟨0,ah,rfl,hB0⟩
 case round=>
  clear hB0;obtain ⟨k,hkk,rfl,hB⟩:=hrel;obtain ⟨wo,rfl⟩:=iA wr;have hlt:k<l.length:=ah;obtain ⟨b,off,q,rfl,hq0,hq1,hqe, -⟩:=(HL.out.below hB).PN hlt;have HC:=bK (HW.out wo hB q);by_cases he:k=k0
  ·subst he;have hqq:Hid ((q.out==m.ot c x)=true):=by unfold Hid;have h1:=hqe.out;rw [hk.out] at h1;obtain rfl:=fH h1;rw [ho.out];simp
   rw [hqq.out] at HC;go_wp2_with fail;refine (HC.out).mono ?_;rintro e w2 ⟨rfl,hb2⟩;have hB2:=hB.trans (hb2.mono hB.size);go_wp2;go_ret;exact ⟨rfl,hB2⟩
  have hqq:Hid ((q.out==m.ot c x)=false):=by unfold Hid;have:=hbf.out k q ah hqe.out;simp [this]
  rw [hqq.out] at HC;go_wp2_with fail;refine (HC.out).mono ?_;rintro e w2 ⟨rfl,hb2⟩;have hB2:=hB.trans (hb2.mono hB.size);go_wp2;go_roundw;case rel=>exact ⟨k+1,ah,by go_num,hB2⟩
  case measure=>exact bF
end
structure vT (n0:Nat) (W:Nat->Prop) (w:World) (g n:Nat) (F:Nat->List (List Int)):Prop where
 lo:∀k,W k->n0<=k/\k<w.heap.size
 gW:W g
 cell:∀i,i<n->∃a c,w.cell? ⟨g,i,none⟩=some (.slice a (F i).length c)/\w.frozen? ⟨g,i,none⟩=false/\Ow n0 (fun k=>W k\/k<n0) w 49 (.slice a (F i).length c) (F i)/\∀k,(Value.slice a (F i).length c).ownBlock=some k->W k/\k≠g
 apart:∀i j a c n1 a' c' n2 k,i<n->j<n->i≠j->w.cell? ⟨g,i,none⟩=some (.slice a n1 c)->w.cell? ⟨g,j,none⟩=some (.slice a' n2 c')->(Value.slice a n1 c).ownBlock=some k->(Value.slice a' n2 c').ownBlock=some k->False
section
variable {n0:Nat} {W:Nat->Prop} {w w':World} {g n:Nat} {F:Nat->List (List Int)}
theorem vT.congr {G:Nat->List (List Int)} (h:vT n0 W w g n F) (e:∀i,i<n->F i=G i):vT n0 W w g n G:=
 ⟨h.lo,h.gW,fun i hi=>by rw [<-e i hi];exact h.cell i hi,h.apart⟩
theorem vT.below (h:vT n0 W w g n F) (hb:Below w.heap.size w w'):vT n0 W w' g n F:=by
 have hg:=(h.lo g h.gW).2;have hc:∀i,w'.cell? ⟨g,i,none⟩=w.cell? ⟨g,i,none⟩:=fun i=>dD (hb.block g hg);refine ⟨fun k hk=>⟨(h.lo k hk).1,by have:=(h.lo k hk).2;have:=hb.size;omega⟩,h.gW,fun i hi=> ?_,fun i j a c n1 a' c' n2 k hi hj hij h1 h2=>h.apart i j a c n1 a' c' n2 k hi hj hij (by rw [<-hc];exact h1) (by rw [<-hc];exact h2)⟩;obtain ⟨a,c,h1,h2,h3,h4⟩:=h.cell i hi;exact ⟨a,c,by rw [hc];exact h1,(iR (a:=⟨g,i,none⟩) (hb.block g hg)).trans h2,h3.below hb,h4⟩
theorem vT.push (h:vT n0 W w g n F) (hn0:n0<=w.heap.size) {i:Nat} (hi:i<n) {a a':Option Addr} {c c':Nat} {l':List (List Int)} {y:List Int} (hc:w.cell? ⟨g,i,none⟩=some (.slice a (F i).length c)) (hl:l'=F i++[y]) (hO:Ow n0 (fun k=>(W k\/k<n0)\/k=w.heap.size) w' 49 (.slice a' l'.length c') l') (hk:∀k,(Value.slice a' l'.length c').ownBlock=some k->((Value.slice a (F i).length c).ownBlock=some k\/k=w.heap.size)/\k<w'.heap.size) (hgr:w.grownBy w' (Value.slice a (F i).length c).ownBlock):vT n0 (fun k=>W k\/(k=w.heap.size/\k<w'.heap.size)) (w'.setCell ⟨g,i,none⟩ (.slice a' l'.length c')) g n (fun j=>if j=i then F i++[y] else F j):=by
 subst hl;obtain ⟨a0,c0,h1,h2,h3,Gm⟩:=h.cell i hi;rw [hc] at h1;simp only [dW,dU,aqo] at h1;obtain ⟨rfl,rfl⟩:=h1;have hgw:g<w.heap.size:=(h.lo g h.gW).2;have hsz:(w'.setCell ⟨g,i,none⟩ (.slice a' (F i++[y]).length c')).heap.size=w'.heap.size:=by simp [World.setCell]
 have hgb:w'.heap[g]? =w.heap[g]? :=hgr.block g hgw (fun e=>(Gm g e.symm).2 rfl);have hcg:∀j,w'.cell? ⟨g,j,none⟩=w.cell? ⟨g,j,none⟩:=fun j=>dD hgb;have lU:(w'.setCell ⟨g,i,none⟩ (.slice a' (F i++[y]).length c')).cell? ⟨g,i,none⟩=some (.slice a' (F i++[y]).length c'):=eU _ _ _ ((hcg i).trans hc);have pq:∀j,j≠i->(w'.setCell ⟨g,i,none⟩ (.slice a' (F i++[y]).length c')).cell? ⟨g,j,none⟩=w.cell? ⟨g,j,none⟩:=fun j hj=>(dR _ _ _ _ (fun e:(⟨g,i,none⟩:Addr)=⟨g,j,none⟩=>hj (ar6 e).2.1.symm)).trans (hcg j)
 have heA:Ext (fun k=>W k\/k<n0) (fun k=>(W k\/(k=w.heap.size/\k<w'.heap.size))\/k<n0) w w':=⟨hgr.size,fun k hk hm=>hgr.block k hk (fun e=>hm (.inl (Gm k e.symm).1)),fun k hk hm=>by
  rcases hm with (hm|hm)|hm
  ·exact .inl hm
  ·omega
  exact .inr hm⟩
 have heB:Ext (fun k=>(W k\/(k=w.heap.size/\k<w'.heap.size))\/k<n0) (fun k=>(W k\/(k=w.heap.size/\k<w'.heap.size))\/k<n0) w' (w'.setCell ⟨g,i,none⟩ (.slice a' (F i++[y]).length c')):=Ext.setCell w' (p:=⟨g,i,none⟩) (.inl (.inl h.gW)) _;refine ⟨fun k hk=> ?_,.inl h.gW,fun j hj=> ?_,fun j j' x cx nx x' cx' nx' k hj hj' hjj h1 h2 h4 h5=> ?_⟩
 ·rw [hsz];rcases hk with hk|hk;·have:=h.lo k hk;have:=hgr.size;exact ⟨ah,ah⟩
  exact ⟨ah,hk.2⟩
 ·by_cases e:j=i
  ·subst e;simp only [aqj];refine ⟨a',c',lU,by rw [gI,iR (a:=⟨g,j,none⟩) hgb];exact h2,?_,fun k hk2=> ?_⟩
   ·refine (hO.oF (M':=fun k=>(W k\/(k=w.heap.size/\k<w'.heap.size))\/k<n0) fun k _ hm=> ?_).ext heB fun k hk2=> ?_
    ·rcases hm with (hm|hm)|hm;·exact .inl (.inl hm)
     ·exact .inr hm.1
     exact .inl (.inr hm)
    refine dM _ _ _ _ fun e=> ?_;rcases (hk k hk2).1 with e2|e2;·exact (Gm k e2).2 e
    simp at e;omega
   obtain ⟨e1,e2⟩:=hk k hk2;rcases e1 with e1|e1;·exact ⟨.inl (Gm k e1).1,(Gm k e1).2⟩
   exact ⟨.inr ⟨e1,e2⟩,ah⟩
  simp only [bO e];obtain ⟨aj,cj,hj1,hj2,hj3,hj4⟩:=h.cell j hj;refine ⟨aj,cj,by rw [pq j e];exact hj1,by rw [gI,iR (a:=⟨g,j,none⟩) hgb];exact hj2,?_,fun k hk2=>⟨.inl (hj4 k hk2).1,(hj4 k hk2).2⟩⟩;refine (hj3.ext heA fun k hk2=>hgr.block k (hj3.lt k hk2).2 fun e2=> ?_).ext heB fun k hk2=>dM _ _ _ _ fun e2=>(hj4 k hk2).2 e2;exact h.apart j i aj cj _ a c _ k hj hi e hj1 hc hk2 e2.symm
 by_cases e:j=i
 ·subst e;rw [lU] at h1;simp only [dW,dU] at h1;obtain ⟨rfl,rfl,rfl⟩:=h1;rw [pq j' (arl hjj)] at h2;rcases (hk k h4).1 with e1|e1;·exact h.apart j j' a c _ x' cx' nx' k hi hj' hjj hc h2 e1 h5
  obtain ⟨aj,cj,hj1,hj2,hj3,hj4⟩:=h.cell j' hj';rw [hj1] at h2;simp only [dW,dU] at h2;obtain ⟨rfl,rfl,rfl⟩:=h2;have:=(hj3.lt k h5).2;omega
 rw [pq j e] at h1;by_cases e':j'=i
 ·subst e';rw [lU] at h2;simp only [dW,dU] at h2;obtain ⟨rfl,rfl,rfl⟩:=h2;rcases (hk k h5).1 with e1|e1;·exact h.apart j j' x cx nx a c _ k hj hi hjj h1 hc h4 e1
  obtain ⟨aj,cj,hj1,hj2,hj3,hj4⟩:=h.cell j hj;rw [hj1] at h1;simp only [dW,dU] at h1;obtain ⟨rfl,rfl,rfl⟩:=h1;have:=(hj3.lt k h4).2;omega
 rw [pq j' e'] at h2;exact h.apart j j' x cx nx x' cx' nx' k hj hj' hjj h1 h2 h4 h5
theorem vT.made {T:TypeId} {N:Nat}:vT w.heap.size (fun k=>k=w.heap.size) (w.alloc (.cells (madeCells #[.slice none 0 0] N) T)) w.heap.size N (fun _=>[]):=by
 have hh:(w.alloc (.cells (madeCells #[.slice none 0 0] N) T)).heap[w.heap.size]? =some (.cells (madeCells #[.slice none 0 0] N) T):=dS _ _
 have hc:∀i,i<N->(w.alloc (.cells (madeCells #[.slice none 0 0] N) T)).cell? ⟨w.heap.size,i,none⟩=some (.slice none 0 0):=fun i hi=>by
  unfold World.cell?
  simp only [hh]
  rw [<-aqV,arx,ap3,bQ hi]
  rfl
 refine ⟨fun k hk=>by subst hk;simp,rfl,fun i hi=>⟨none,0,hc i hi,by unfold World.frozen?;rw [hh];simp,Ow.nil,fun k hk=>by simp [Value.ownBlock] at hk⟩,fun i j a c n1 a' c' n2 k hi hj _ h1 _ h3 _=> ?_⟩;rw [hc i hi] at h1;simp only [dW,dU] at h1;obtain ⟨rfl,rfl,rfl⟩:=h1;simp [Value.ownBlock] at h3
theorem vT.jD (h:vT n0 W w g n F) {i:Nat} (hi:i<n):∃a c,w.cell? ⟨g,i,none⟩=some (.slice a (F i).length c)/\Sl (fun _=>False) w a c (F i):=by
 obtain ⟨a,c,h1,h2,h3,h4⟩:=h.cell i hi;exact ⟨a,c,h1,(h3.oF (M':=fun _=>False) fun _ _ h=>h.elim).jD fun _ _ h=>h⟩
end
theorem vU:(prog.info? 22).map (fun i=>(i.zero,i.size,i.bytes))=some (some (.slice none 0 0),1,24):=aB
section
variable {P:Program} {w:World} {o:Oper} {a:Act} {ops:Array Oper} {rest:List Oper} {Q:Exit->Act->World->Prop}
theorem zl {n0 g n i b c c0 cr:Nat} {W:Nat->Prop} {F:Nat->List (List Int)} {s x:Operand} {t:TypeId} {a0 ar:Option Addr} {r:List Int} (hg:o.guard=none) (hop:o.op= .call {callee:= .builtin .append,args:= #[s,x],argTypes:= #[t,t]}) (ht:P.underlying t=some (.slice 49)) (hi:(P.info? 49).map (fun i=>(i.zero,i.size,i.bytes))=some (some (.slice none 0 0),1,24)) (hs:a.eval s= .slice a0 (F i).length c0) (hx:a.eval x= .slice (some ⟨b,0,none⟩) 1 c) (hF:Hid (vT n0 W w g n F)) (hin:i<n) (hc:w.cell? ⟨g,i,none⟩=some (.slice a0 (F i).length c0)) (lU:w.cell? ⟨b,0,none⟩=some (.slice ar r.length cr)) (hy:Sl (fun k=>W k\/k<n0) w ar cr r) (iX:(F i).length<1000000000) (hn0:n0<=w.heap.size) (h:∀(a':Option Addr) (c' l':Nat) (w':World),Hid (l'=(F i).length+1)->Hid (vT n0 (fun k=>W k\/(k=w.heap.size/\k<w'.heap.size)) (w'.setCell ⟨g,i,none⟩ (.slice a' l' c')) g n (fun j=>if j=i then F i++[r] else F j))-> w'.cell? ⟨g,i,none⟩=some (.slice a0 (F i).length c0)->w'.frozen? ⟨g,i,none⟩=false->Below n0 w w'->Hid (∀k,k<w.heap.size->¬W k->w'.heap[k]? =w.heap[k]?)->wpList P ops Q rest (a.put o.dst (.slice a' l' c')) w'):wpList P ops Q (o::rest) a w:=by
 obtain ⟨a1,c1,h1,h2,h3,h4⟩:=hF.out.cell i hin;rw [hc] at h1;simp only [dW,dU,aqo] at h1;obtain ⟨rfl,rfl⟩:=h1;refine rD hg s x t hop 49 (.slice none 0 0) 1 24 ht hi rfl (by decide) n0 (fun k=>W k\/k<n0) _ (F i) hs rfl h3 (fun k hk=> .inl (h4 k hk).1) ⟨b,0,none⟩ c [.slice ar r.length cr] r hx (nD hy) ?_ ?_ ah aS hn0 ?_
 ·intro j u hj;match j,hj with
  |0,hj=>simp at hj;subst hj;simpa [Addr.add] using lU
 ·intro u hu;simp at hu;subst hu;rfl
 intro a' c' l' w' e1 e2 e3 e4;have hgb:w'.heap[g]? =w.heap[g]? :=e4.block g (hF.out.lo g hF.out.gW).2 (fun e=>(h4 g e.symm).2 rfl)
 exact h a' c' l'.length w' (bK (by rw [e1.out];simp)) (bK (hF.out.push hn0 hin hc e1.out e2 e3.out e4)) ((dD (a:=⟨g,i,none⟩) hgb).trans hc) ((iR (a:=⟨g,i,none⟩) hgb).trans h2)
  ((bP n0 w).grown e4 hn0 fun k hk=>(hF.out.lo k (h4 k hk).1).1) (bK fun k hk hn=>e4.block k hk fun e=>hn (h4 k e.symm).1)
end
end
