/- Lemmas, each with its own conditions. -/
import Derived.Test.YtjagagpcjpcjjaaGreatMw10
import Derived.Test.YtjagagpcjpcjjaaGreatLaySort
set_option maxRecDepth 100000
set_option maxHeartbeats 32000000
namespace Go.Proofs.YtjagagpcjpcjjaaGreat
open Tryz
open Go.RowKit Go.Sort Go.Shelf
def LC (g:Nat) (cf:List Int->List Int->Int):Prop:=∀(M M':Nat->Prop) (w:World) (a b:Option Addr) (c d:Nat) (xs ys:List Int),Sl M w a c xs->Sl M' w b d ys->
 Calls prog g #[.slice a xs.length c,.slice b ys.length d] w fun e w'=>e= .returned (.int .i64 (cf xs ys))/\∃q os,w'=grow (w.drewN q) os
theorem LC.below {w w':World} {q:Nat} {os:Array Obj} (h:w'=grow (w.drewN q) os):Below w.heap.size w w':=by
 subst h;refine (below_drewN w.heap.size w q).trans ⟨rfl,rfl,rfl,by simp [grow],fun k hk=> ?_⟩;have:k<(w.drewN q).heap.size:=hk;simp only [grow];rw [aq3 this]
theorem FJ:LC 88 iM:=by
 intro M M' w a b c d xs ys h1 h2;have hl1:=h1.le;have hl2:=h2.le
 have HO:=bK (afx (M:=fun _=>False) (w:=w.alloc (.cells #[.int .i64 (tQ xs.length ys.length),.int .i64 (jc xs ys)] 3)) (a:=some ⟨w.heap.size,0,none⟩) (c:=2) (l:=[tQ xs.length ys.length,jc xs ys])
  (Sl.lit (dS _ _) rfl id (fun x hx=>by
   simp only [gH,List.not_mem_nil,or_false] at hx
   have r1:=uy xs.length ys.length
   have r2:=zG xs ys
   unfold i64
   rcases hx with rfl|rfl<;>omega) rfl aS))
 go_enter func88,ntmps88;go_wp2_with fail;refine (Av _ _).mono ?_;rintro e w' ⟨rfl,hw⟩;obtain rfl:w=w':=hw.symm;go_wp2_with fail;refine (Oc (M:=fun _=>False) (h1.anti fun _ _ h=>h.elim) (h2.anti fun _ _ h=>h.elim)).mono ?_;rintro e w' ⟨rfl,hw⟩;obtain rfl:w=w':=hw.symm;go_wp2_with fail;refine (HO.out).mono ?_;rintro e w2 ⟨rfl,hw⟩;subst hw;go_wp2;go_ret;exact ⟨kQ (acM xs ys),0,_,alloc_eq_grow _ _⟩
structure ac0 (w:World) (g:Nat) where
 v:Value
 l:List Int
 ok:∃a c,v= .slice a l.length c/\Sl (fun k=>k=g) w a c l
instance (w:World) (g:Nat):Inhabited (ac0 w g):=⟨⟨.slice none 0 0,[],none,0,rfl,Sl.nil _ _ _ aS⟩⟩
def DY {w:World} {g:Nat} (x:ac0 w g):Value:=x.v
def cfE (cf:List Int->List Int->Int) {w:World} {g:Nat} (x y:ac0 w g):Int:=cf x.l y.l
theorem ZK {w:World} {g:Nat}:OneCell (DY (w:=w) (g:=g)):=by
 rintro ⟨v,l,a,c,h, -⟩;subst h;rfl
theorem ac1 {cf:List Int->List Int->Int} (h:Si cf) {w:World} {g:Nat}:SWO (ltOf (cfE cf (w:=w) (g:=g))) where
 irrefl x:=by simp [ltOf,cfE,h.same]
 trans x y z h1 h2:=by
  have h1:cf x.l y.l<0:=fT h1
  have h2:cf y.l z.l<0:=fT h2
  exact dw (h.lt_trans h1 h2)
 ntrans x y z h1 h2:=by
  have h1:¬cf x.l y.l<0:=apZ h1
  have h2:¬cf y.l z.l<0:=apZ h2
  have e1:=h.swap y.l x.l
  have e2:=h.swap z.l y.l
  have e3:=h.swap z.l x.l
  have:=(h.trans z.l y.l x.l ah ah).1
  refine cZ (p:=cf x.l z.l<0) ?_
  omega
theorem AL {α:Type} [Inhabited α] (enc:α->Value) (w:World) (g m:Nat) (d:Array α) (os:Array Obj):Ext (fun k=>k=g) (fun k=>k=g) w (sortWorld enc w g 0 m d os):=by
 refine ⟨by simp [sortWorld,grow,putRow,mapBlock,Sort.ahead],fun k hk hn=> ?_,fun _ _ h=>h⟩;have hs:k<(putRow enc (Sort.ahead w m) g 0 d).heap.size:=by simpa [putRow,mapBlock,Sort.ahead] using hk
 simp only [sortWorld,grow];rw [aq3 hs];simp only [putRow,mapBlock,Sort.ahead,asa];rw [bO (arl hn)]
theorem ZL {g0:Nat} {cf:List Int->List Int->Int} (h:LC g0 cf) (w:World) (g n:Nat):CmpLays1 prog g0 #[] (DY (w:=w) (g:=g)) (cfE cf) g 0 n w:=by
 rintro m os dk-⟨v,l,a,c,e1,h1⟩ ⟨v',l',a',c',e2,h2⟩;subst e1 e2;exact h _ _ _ a a' c c' l l' (h1.ext (AL _ _ _ _ _ _)) (h2.ext (AL _ _ _ _ _ _))
theorem aeC {w:World} {g:Nat}:∀(xs:List Value) (rows:List (List Int)),xs.length=rows.length->(∀(j:Nat) (v:Value) (r:List Int),xs[j]? =some v->rows[j]? =some r->∃a c,v=Value.slice a r.length c/\Sl (fun k=>k=g) w a c r)->
    ∃ds:List (ac0 w g),ds.map DY=xs/\ds.map (fun x=>x.l)=rows
 |[],[],_,_=>⟨[],rfl,rfl⟩
 |[],_::_,h,_=>by simp at h
 |_::_,[],h,_=>by simp at h
 |v::xs,r::rows,h,hr=>by
  obtain ⟨ds,e1,e2⟩:=aeC xs rows (iq h) fun j v r hv hr'=>hr (j+1) v r (iq hv) (iq hr')
  exact ⟨⟨v,r,hr 0 v r rfl rfl⟩::ds,by simp [DY,e1],by simp [e2]⟩
section
variable {M:Nat->Prop} {w:World} {B g c g0:Nat} {rows:List (List Int)} {cf:List Int->List Int->Int}
theorem qY {α:Type} [Inhabited α] (d:Array α) (j:Nat) (hj:j<d.size):d[j]! =d.toList[j]'(iq hj):=by
 rw [getElem!_pos d j hj];simp
theorem JL (hO:Ow B M w 49 (.slice (some ⟨g,0,none⟩) rows.length c) rows) (hM:M g) (hg:B<=g) (hn:rows.length<1000000000000) (h0:LC g0 cf) (hT:Si cf) (eg:∀args w,(callFunc g0 args).run prog w= .ok (.enter g0 args) w):Calls prog 139 #[.slice (some ⟨g,0,none⟩) rows.length c,.func (.func g0) #[] #[]] w fun e w'=>e= .returned (.tuple #[])/\∃L:List (List Int),Hid (L.Perm rows/\Ord cf L)/\ Ow B (fun k=>k=g) w' 49 (.slice (some ⟨g,0,none⟩) L.length c) L/\Below B w w':=by
 obtain ⟨xs,h1,h2⟩:=hO;have hxl:xs.length=rows.length:=by have:=h1.1;simpa [GR.sz] using this
 obtain ⟨ds,e1,e2⟩:=aeC (w:=w) (g:=g) xs rows hxl fun j v r hv hr=>by
  obtain ⟨a,c,he,hs⟩:=h2 j r hr
  refine ⟨a,c,?_,hs.anti fun k _ hk=>by rw [hk];exact hM⟩
  have:=mF he
  rw [hv] at this
  simpa using this
 have hdl:ds.length=rows.length:=by rw [<-e2];simp
 rcases h1.2 with ⟨hv, -⟩|⟨g',cap,cur,hv,hb,hgc,hc1,hc2,hcs,hct⟩;·simp at hv
 simp only [dU,dW,aqM,aqo,aqY] at hv;obtain ⟨rfl,rfl⟩:=hv;have hgl:g<w.heap.size:=(Array.getElem?_eq_some_iff.1 hgc).1;have hH:Holds DY w g 0 ds.toArray:=by intro j hj;have hj2:j<ds.length:=iq hj;refine ⟨?_,by rw [aqI];exact h1.frozenAt j⟩;rw [aqI,h1.cellAt j (by simp [GR.sz];omega),<-e1,qY _ _ hj];simp [hj2]
 have Ce:=Any.slices_SortFunc sortRows DY ZK (cfE cf) (ac1 hT) g0 #[] g 0 c ds.toArray w eg (ZL h0 w g _) hH hgl aJ;change Calls prog 139 _ _ _ at Ce;rw [show ds.toArray.size=rows.length from by simp [hdl]] at Ce;refine Ce.mono ?_;rintro e w' ⟨rfl,d',n,os,hp,hs,rfl⟩;have hds:d'.size=rows.length:=by rw [hp.1];simp [hdl]
 refine ⟨rfl,d'.toList.map (fun x=>x.l),⟨?_,?_⟩,?_,?_⟩
 ·have h3:=hp.2.2;have e3:(d'.extract 0 rows.length).toList=d'.toList:=by rw [<-hds];simp
  have e4:(ds.toArray.extract 0 rows.length).toList=ds:=by rw [<-hdl];simp
  rw [e3,e4] at h3;rw [<-e2];exact h3.map _
 ·unfold Ord;rw [arO];intro i j hi hj hij;simp only [dJ,Array.length_toList] at hi hj;have h4:=hs i j (ap1 _) hij ah;rw [qY _ _ hi,qY _ _ hj] at h4;have h4:¬cf d'.toList[j].l d'.toList[i].l<0:=apZ h4;simp only [arQ];have:=hT.swap (d'.toList[i].l) (d'.toList[j].l);omega
 ·have hL:(d'.toList.map (fun x=>x.l)).length=rows.length:=by simp [hds]
  refine ⟨d'.toList.map DY,⟨by simp [GR.sz],.inr ⟨g,c,putCells DY 0 d' cur,by rw [hL],hg,?_,by rw [hL];exact hc1,hc2,by simp [putCells,hcs],?_⟩⟩,?_⟩
  ·have hs2:g<(putRow DY (Sort.ahead w n) g 0 d').heap.size:=by simpa [putRow,mapBlock,Sort.ahead] using hgl
   simp only [sortWorld,grow];rw [aq3 hs2];simp only [putRow,mapBlock,Sort.ahead,asa,aqj];rw [hgc];rfl
  ·rw [hL];apply eY;intro j;simp only [GR.sz,gy] at hcs ⊢;rw [dL];by_cases hj:j<rows.length;·rw [bQ hj];have hjc:j<cur.size:=ah;simp only [putCells,aqV,Array.getElem?_mapIdx,dP,aqz hjc,aqt];rw [bQ ⟨ah,ah⟩,Nat.sub_zero,getElem!_pos d' j ah,aqz ah];rfl
   rw [bO hj,bZ aJ]
  intro j r hr;rw [dP] at hr;cases hx:d'.toList[j]? with
  |none=>rw [hx] at hr;cases hr
  |some x=>
   rw [hx] at hr;obtain rfl:x.l=r:=iq hr;obtain ⟨v,l,a,c',ev,hsl⟩:=x;subst ev;have:((d'.toList.map DY).drop (j*GR.sz (List Int))).take (GR.sz (List Int))=[.slice a l.length c']:=by
    apply eY;intro i;rcases i with _|i;·simp only [GR.sz,gy,dL,eu,dP,aqr,hx];simp [DY]
    rw [dL,bO (by simp only [GR.sz];omega)];simp
   rw [this];exact ⟨a,c',rfl,hsl.ext (AL _ _ _ _ _ _)⟩
 refine ⟨rfl,rfl,rfl,by simp [sortWorld,grow,putRow,mapBlock,Sort.ahead],fun k hk=> ?_⟩;by_cases hks:k<w.heap.size;·exact (AL DY w g n d' os).block k hks (fun e=>by subst e;omega)
 omega
end
