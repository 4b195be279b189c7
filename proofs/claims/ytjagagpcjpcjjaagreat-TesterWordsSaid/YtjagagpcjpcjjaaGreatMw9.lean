/- Lemmas, each with its own conditions. -/
import Derived.Test.YtjagagpcjpcjjaaGreatMw7
import Derived.WalkSpells
set_option maxRecDepth 100000
set_option maxHeartbeats 32000000
namespace Go.Proofs.YtjagagpcjpcjjaaGreat
open Tryz
open Go.RowKit
section
variable {M:Nat->Prop} {w:World} {a:Option Addr} {c:Nat} {l:List Int}
theorem rV (h:Sl M w a c l) (hl:l.length<1000000000000):Calls prog 67 #[.slice a l.length c] w fun e w'=>∃a' c' l',e= .returned (.slice a' l'.length c')/\Hid (l'=l)/\Ow w.heap.size (fun k=>w.heap.size<=k) w' 3 (.slice a' l'.length c') l'/\Below w.heap.size w w':=by
 have he:=fun (w:World) (a:Option Addr) (n c:Nat)=>Lib.run_eql_slice_nil (P:=prog) w 49 3 a n c 0 0 underlying49;cases a with
 |none=>
  have h0:l=[]:=by
   cases l with
   |nil=>rfl
   |cons x l=>obtain ⟨_,_,_,ha,_⟩:=h.iC (j:=0) aH;cases ha
  subst h0;go_enter func67,ntmps67;go_wp2;go_ret;exact ⟨none,0,[],rfl,rfl,Ow.nil,bP _ _⟩
 |some ad=>go_enter func67,ntmps67;go_wp2_with (at_builtin;refine wF (B:=w.heap.size) (l0:=[]) rfl rfl underlying49 iE rfl rfl (Ow.zero (bM _)) (h.alloc _) (iq hl) aH ?_);intro a' c' l' w' hl' hO hb;go_wp2;go_ret;exact ⟨a',c',l',rfl,iq hl',hO,((bP _ _).alloc (bM _) _).trans hb⟩
theorem uJ (h:Sl M w a c l) (hl:l.length<1000000000000):
    Calls prog 67 #[.slice a l.length c] w fun e w'=>∃a' c' l',e= .returned (.slice a' l'.length c')/\Hid (l'=l)/\Sl (fun k=>k<w.heap.size) w' a' c' l'/\Below w.heap.size w w':=
 (rV h hl).mono fun _ _ ⟨a',c',l',h1,h2,h3,h4⟩=>⟨a',c',l',h1,h2,h3.fresh (bM _),h4⟩
end
section
variable {P:Program} {w:World} {o:Oper} {a:Act} {ops:Array Oper} {rest:List Oper} {Q:Exit->Act->World->Prop}
theorem DX {l0 l1:List (List Int)} {s x:Operand} {t e:TypeId} {B:Nat} {v:Value} {ad:Addr} {c:Nat} (hg:o.guard=none) (hop:o.op= .call {callee:= .builtin .append,args:= #[s,x],argTypes:= #[t,t]}) (ht:P.underlying t=some (.slice e)) (hi:(P.info? e).map (fun i=>(i.zero,i.size,i.bytes))=some (some (.slice none 0 0),1,24)) (hs:a.eval s=v) (hx:a.eval x= .slice (some ad) l1.length c) (jk:Ow B (fun k=>B<=k) w e v l0) (BZ:Sl (fun k=>B<=k) w (some ad) c l1) (iX:l0.length+l1.length<1000000000000) (hB:B<=w.heap.size) (h:∀(a':Option Addr) (c':Nat) (l':List (List Int)) (w':World),Hid (l'=l0++l1)->Ow B (fun k=>B<=k) w' e (.slice a' l'.length c') l'->Below B w w'-> wpList P ops Q rest (a.put o.dst (.slice a' l'.length c')) w'):wpList P ops Q (o::rest) a w:=by
 obtain ⟨i,hi1,hi2,hi3,hi4⟩:=aqa hi;have za:=jk;obtain ⟨xs,hr,vF⟩:=jk;have Di:∀(j:Nat) (r:List Int),l1[j]? =some r->∃a' c',w.cell? (ad.add j)=some (.slice a' r.length c')/\Sl (fun k=>B<=k) w a' c' r:=by
  intro j r hj;have hjl:j<l1.length:=by
   by_cases e:j<l1.length;·exact e
   rw [bZ ah] at hj;simp at hj
  obtain ⟨b,off,a',r',c',had,hc,hr',hsl⟩:=BZ.iD hjl;have RX:ad=⟨b,off,none⟩:=iq had;have hz':r=r':=by have:=hr'.out;rw [hj] at this;simpa using this
  subst hz';refine ⟨a',c',?_,hsl⟩;rw [RX,Addr.add];split;·rename_i h0;subst h0;simpa using hc
  exact hc
 have nG:∀(j:Nat) (u:Value),((List.range l1.length).map fun j=>(w.cell? (ad.add j)).getD (.int .i64 0))[j]? =some u->∃r,l1[j]? =some r/\∃a' c',u= .slice a' r.length c'/\w.cell? (ad.add j)=some u/\Sl (fun k=>B<=k) w a' c' r:=by
  intro j u hj;rw [dP] at hj;obtain ⟨y,hy,rfl⟩:=Option.map_eq_some_iff.1 hj;have hjl:j<l1.length:=by
   by_cases e:j<l1.length;·exact e
   rw [bZ aJ] at hy;simp at hy
  rw [fO hjl] at hy;obtain rfl:j=y:=iq hy;obtain ⟨a',c',hc,hsl⟩:=Di j l1[j] (bN hjl);exact ⟨l1[j],bN hjl,a',c',by rw [hc];rfl,by rw [hc];rfl,hsl⟩
 refine arK w hg s x t hop B e i (.slice none 0 0) 1 24 ht hi1 hi2 hi3 hi4 rfl (by decide) v l0.length xs hs hr ad l1.length c ((List.range l1.length).map fun j=>(w.cell? (ad.add j)).getD (.int .i64 0)) hx aH ?_ ?_ aS ah hB ?_;·intro j u hj;obtain ⟨_,_,_,_,_,hc,_⟩:=nG j u hj;exact hc
 ·intro u hu;obtain ⟨j,hj,hu⟩:=fq hu;obtain ⟨_,_,_,_,rfl,_⟩:=nG j u (by rw [bN hj,hu]);rfl
 intro v' w' ho hgr afr;have hl0:xs.length=l0.length:=by have:=hr.1;simpa [GR.sz] using this
 have hE:Ext (fun k=>B<=k) (fun k=>B<=k) w w':=⟨hgr.size,fun k hk hm=>hgr.block k hk fun e=>hm (za.lt k e.symm).1,fun k hk hm=>hm⟩;have kW:Ow B (fun k=>B<=k) w' e v' (l0++l1):=by
  refine ⟨xs++(List.range l1.length).map fun j=>(w.cell? (ad.add j)).getD (.int .i64 0),by simpa [GR.sz] using ho,fun j y hj=> ?_⟩;by_cases hlt:j<l0.length;·rw [dz hlt] at hj;have:=GR.ext hE (vF j y hj);simp only [GR.sz,gy] at this ⊢;rw [gF ah,fU aJ];exact this
  rw [dN ah] at hj;have hjl:j-l0.length<l1.length:=by
   by_cases e:j-l0.length<l1.length;·exact e
   rw [bZ ah] at hj;simp at hj
  obtain ⟨a',c',hc,hsl⟩:=Di _ _ hj;simp only [GR.sz,gy];have e1:((xs++(List.range l1.length).map fun j=>(w.cell? (ad.add j)).getD (.int .i64 0)).drop j).take 1=[.slice a' y.length c']:=by
   apply eY;intro q;rcases q with _|q;·rw [dL,bQ ah,eu,dN ah,dP,hl0,aqr,fO hjl];simp [hc]
   rw [dL,bO ah];rfl
  rw [e1];exact ⟨a',c',rfl,hsl.ext hE⟩
 obtain ⟨a',c',hv,_,_⟩:=kW.shape;rw [hv];rw [hv] at kW;exact h a' c' _ w' rfl kW ((bP _ _).grown hgr hB (fun k hk=>(za.lt k hk).1))
end
section
variable {M:Nat->Prop} {w:World} {a:Option Addr} {c:Nat} {l:List (List Int)}
theorem Lx {α:Type} [GR α] {l:List α} (h:Sl M w a c l):Sl (fun k=>w.heap.size<=k) w a c l:=h.ext (Ext.jA fun k hk hm=>by omega)
theorem FE (h:Sl M w a c l) (hl:l.length<1000000000000):Calls prog 138 #[.slice a l.length c] w fun e w'=>∃a' c' l',e= .returned (.slice a' l'.length c')/\Hid (l'=l)/\Ow w.heap.size (fun k=>w.heap.size<=k) w' 49 (.slice a' l'.length c') l'/\Below w.heap.size w w':=by
 have he:=fun (w:World) (a:Option Addr) (n c:Nat)=>Lib.run_eql_slice_nil (P:=prog) w 22 49 a n c 0 0 underlying22;cases a with
 |none=>
  have h0:l=[]:=by
   cases l with
   |nil=>rfl
   |cons x l=>obtain ⟨_,_,_,_,_,ha,_⟩:=h.iD (j:=0) aH;cases ha
  subst h0;go_enter func138,ntmps138;go_wp2;go_ret;exact ⟨none,0,[],rfl,rfl,Ow.nil,bP _ _⟩
 |some ad=>have hs:=(Lx h).alloc (.cells #[] 49);go_enter func138,ntmps138;go_wp2_with (at_builtin;refine DX (B:=w.heap.size) (l0:=[]) rfl rfl underlying22 iI rfl rfl (Ow.zero (bM _)) hs (iq hl) aH ?_);intro a' c' l' w' hl' hO hb;go_wp2;go_ret;exact ⟨a',c',l',rfl,iq hl',hO,((bP _ _).alloc (bM _) _).trans hb⟩
end
section
variable {P:Program} {w:World} {o:Oper} {a:Act} {ops:Array Oper} {rest:List Oper} {Q:Exit->Act->World->Prop}
theorem LA {l0 l1:List (List Int)} {s x:Operand} {t e:TypeId} {n0 B:Nat} {v:Value} {ad:Addr} {c:Nat} (hg:o.guard=none) (hop:o.op= .call {callee:= .builtin .append,args:= #[s,x],argTypes:= #[t,t]}) (ht:P.underlying t=some (.slice e)) (hi:(P.info? e).map (fun i=>(i.zero,i.size,i.bytes))=some (some (.slice none 0 0),1,24)) (hs:a.eval s=v) (hx:a.eval x= .slice (some ad) l1.length c) (jk:Ox n0 B w e v l0) (BZ:Sl (fun k=>v.ownBlock=some k\/k<n0) w (some ad) c l1) (iX:l0.length+l1.length<1000000000000) (hB:B<=w.heap.size) (h:∀(a':Option Addr) (c':Nat) (l':List (List Int)) (w':World),Hid (l'=l0++l1)->Ox n0 B w' e (.slice a' l'.length c') l'->w.grownBy w' v.ownBlock-> wpList P ops Q rest (a.put o.dst (.slice a' l'.length c')) w'):wpList P ops Q (o::rest) a w:=by
 refine aqi hg fun K hK=> ?_;obtain ⟨i,hi1,hi2,hi3,hi4⟩:=aqa hi;have za:=jk;obtain ⟨xs,hr,vF⟩:=jk;obtain ⟨M,hM⟩:∃M:Nat->Prop,M=fun k=>v.ownBlock=some k\/k<n0:=⟨_,rfl⟩;rw [<-hM] at BZ vF;have OD:∀k,v.ownBlock=some k->M k:=fun k hk=>by rw [hM];exact .inl hk
 have Di:∀(j:Nat) (r:List Int),l1[j]? =some r->∃a' c',w.cell? (ad.add j)=some (.slice a' r.length c')/\Sl M w a' c' r:=by
  intro j r hj;have hjl:j<l1.length:=by
   by_cases e:j<l1.length;·exact e
   rw [bZ ah] at hj;simp at hj
  obtain ⟨b,off,a',r',c',had,hc,hr',hsl⟩:=BZ.iD hjl;have RX:ad=⟨b,off,none⟩:=iq had;have hz':r=r':=by have:=hr'.out;rw [hj] at this;simpa using this
  subst hz';refine ⟨a',c',?_,hsl⟩;rw [RX,Addr.add];split;·rename_i h0;subst h0;simpa using hc
  exact hc
 have nG:∀(j:Nat) (u:Value),((List.range l1.length).map fun j=>(w.cell? (ad.add j)).getD (.int .i64 0))[j]? =some u->∃r,l1[j]? =some r/\∃a' c',u= .slice a' r.length c'/\w.cell? (ad.add j)=some u/\Sl M w a' c' r:=by
  intro j u hj;rw [dP] at hj;obtain ⟨y,hy,rfl⟩:=Option.map_eq_some_iff.1 hj;have hjl:j<l1.length:=by
   by_cases e:j<l1.length;·exact e
   rw [bZ aJ] at hy;simp at hy
  rw [fO hjl] at hy;obtain rfl:j=y:=iq hy;obtain ⟨a',c',hc,hsl⟩:=Di j l1[j] (bN hjl);exact ⟨l1[j],bN hjl,a',c',by rw [hc];rfl,by rw [hc];rfl,hsl⟩
 obtain ⟨news,hne⟩:∃news,news=(List.range l1.length).map fun j=>(w.cell? (ad.add j)).getD (.int .i64 0):=⟨_,rfl⟩;rw [<-hne] at nG;have hnl:news.length=l1.length*1:=by rw [hne];simp
 have hn2:∀j u,news[j]? =some u->w.cell? (ad.add j)=some u:=fun j u hj=>by
  obtain ⟨_,_,_,_,_,hc,_⟩:=nG j u hj
  exact hc
 have hn1:∀u∈news,u.oneCell'=true:=fun u hu=>by
  obtain ⟨j,hj,hu⟩:=fq hu
  obtain ⟨_,_,_,_,rfl,_⟩:=nG j u (by rw [bN hj,hu])
  rfl
 have alO:xs.length=l0.length:=by have:=hr.1;simpa [GR.sz] using this
 obtain ⟨v',w',oD,ho,hgr,_⟩:=ar9 (P:=P) w B t o.type e i (.slice none 0 0) 1 24 ht hi1 hi2 hi3 hi4 rfl (by decide) v l0.length xs hr ad l1.length c news hnl hn2 hn1 aS ah hB;have xk:=vE ht hi1 hi2 hi3 hi4 hr hnl hn2 hn1 aS ah oD;have hE:Ext M (fun k=>M k\/k=w.heap.size) w w':=⟨hgr.size,fun k hk hm=>hgr.block k hk (fun e=>hm (OD k e.symm)),fun k hk hm=>hm.elim id (fun e=>by omega)⟩;have kW:Ow B (fun k=>M k\/k=w.heap.size) w' e v' (l0++l1):=by
  refine ⟨xs++news,by simpa [GR.sz] using ho,fun j y hj=> ?_⟩;by_cases hlt:j<l0.length;·rw [dz hlt] at hj;have:=GR.ext hE (vF j y hj);simp only [GR.sz,gy] at this ⊢;rw [gF ah,fU aJ];exact this
  rw [dN ah] at hj;have hjl:j-l0.length<l1.length:=by
   by_cases e:j-l0.length<l1.length;·exact e
   rw [bZ ah] at hj;simp at hj
  obtain ⟨a',c',hc,hsl⟩:=Di _ _ hj;simp only [GR.sz,gy];have e1:((xs++news).drop j).take 1=[.slice a' y.length c']:=by
   apply eY;intro q;rcases q with _|q;·rw [hne,dL,bQ ah,eu,dN ah,dP,alO,aqr,fO hjl];simp [hc]
   rw [dL,bO ah];rfl
  rw [e1];exact ⟨a',c',rfl,hsl.ext hE⟩
 obtain ⟨a',c',hv,_,_⟩:=kW.shape
 have Lu:Ox n0 B w' e v' (l0++l1):=kW.oF fun k hm=>by
  intro hm2
  rw [hM]
  rcases hm2 with hm2|hm2
  ·rcases xk with e|e
   ·exact .inl (.inl (e▸hm2))
   exact .inr (by rw [e] at hm2;simpa using hm2.symm)
  exact .inl (.inr hm2)
 rw [hv] at Lu;unfold Oper.wp execOp;simp only [hop,resolve,invoke,builtin,ara,aqU,aqx,arU,fQ,ap7,hs,hx,oD];show K (a.put o.dst v') w';rw [hv];exact hK _ _ (h a' c' _ w' rfl Lu hgr)
end
