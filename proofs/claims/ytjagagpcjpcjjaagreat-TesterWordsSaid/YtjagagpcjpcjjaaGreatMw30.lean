/- Lemmas, each with its own conditions. -/
import Derived.Test.YtjagagpcjpcjjaaGreatMw26
import Derived.Test.YtjagagpcjpcjjaaGreatMw7
set_option maxRecDepth 100000
set_option maxHeartbeats 32000000
namespace Go.Proofs.YtjagagpcjpcjjaaGreat
open Go.RowKit Go.Shelf
theorem Ow.turn {B:Nat} {M:Nat->Prop} {W W':World} {T:TypeId} {v:Value} {l:List (List Int)} {row:Option Nat} (h:Ow B M W T v l) (hg:W.grownBy W' row) (hr:∀r,row=some r->∃o:Obj,W.heap[r]? =some o/\o.isCells=false):Ow B M W' T v l:=by
 obtain ⟨xs,h1,h2⟩:=h;refine ⟨xs,pJ h1 fun k hk=> ?_,fun j x hx=> ?_⟩
 ·rcases h1.2 with ⟨e, -⟩|⟨g,cap,cur,e, -,hc, -⟩;·rw [e] at hk;simp [Value.ownBlock] at hk
  rw [e] at hk;obtain rfl:g=k:=by simpa [Value.ownBlock] using hk
  refine hg.block g (Array.getElem?_eq_some_iff.1 hc).1 fun e2=> ?_;obtain ⟨o,ho,ho2⟩:=hr g e2.symm;rw [hc] at ho;cases ho;cases ho2
 obtain ⟨a,c,e,hs⟩:=h2 j x hx;exact ⟨a,c,e,Vr hs hg hr⟩
theorem Ow.cells {α:Type} [GR α] {B:Nat} {M:Nat->Prop} {W:World} {T:TypeId} {v:Value} {l:List α} (h:Ow B M W T v l) {k:Nat} (hk:v.ownBlock=some k):∃cur,W.heap[k]? =some (.cells cur T (0,0)):=by
 obtain ⟨xs,h1, -⟩:=h;rcases h1.2 with ⟨e, -⟩|⟨g,cap,cur,e, -,hc, -⟩;·rw [e] at hk;simp [Value.ownBlock] at hk
 rw [e] at hk;obtain rfl:g=k:=by simpa [Value.ownBlock] using hk
 exact ⟨cur,hc⟩
section
variable {P:Program} {α:Type} [GR α] {w:World} {ops:Array Oper} {rest:List Oper} {o:Oper} {a:Act} {Q:Exit->Act->World->Prop}
theorem Gt {F:Fence} {n:Nat} (hg:o.guard=none) (s x:Operand) (t:TypeId) (hop:o.op= .call {callee:= .builtin .append,args:= #[s,x],argTypes:= #[t,t]}) (e:TypeId) (z:Value) (size bytes:Nat) (ht:P.underlying t=some (.slice e)) (hi:(P.info? e).map (fun i=>(i.zero,i.size,i.bytes))=some (some z,size,bytes)) (hzs:z.cells.size=size) (hsz:0<size) (B:Nat) (M:Nat->Prop) (v:Value) (l:List α) (hs:a.eval s=v) (hsA:GR.sz α=size) (jk:Ow B M w e v l) (hM:∀k,v.ownBlock=some k->M k) (ad:Addr) (c:Nat) (news:List Value) (y:α) (hx:a.eval x= .slice (some ad) 1 c) (hy:GR.rep M w news y) (nG:∀j u,news[j]? =some u->w.cell? (ad.add j)=some u) (h1:∀u∈news,u.oneCell'=true) (iX:(l.length+1)*bytes<=140737488355328) (tC:l.length+1<=maxLen) (hB:B<=w.heap.size) (h:∀(a':Option Addr) (c':Nat) (l':List α) (w':World),Hid (l'=l++[y])->Ow B (fun k=>M k\/k=w.heap.size) w' e (.slice a' l'.length c') l'->Hid (∀k,(Value.slice a' l'.length c').ownBlock=some k->(v.ownBlock=some k\/k=w.heap.size)/\k<w'.heap.size)-> w.grownBy w' v.ownBlock->wpListIn F n P ops Q rest (a.put o.dst (.slice a' l'.length c')) w'):wpListIn F n P ops Q (o::rest) a w:=by
 refine wpListIn_plain hg fun K hK=> ?_;obtain ⟨i,hi1,hi2,hi3,hi4⟩:=aqa hi;obtain ⟨xs,hr,vF⟩:=jk;subst hsA;have hnl:news.length=1*GR.sz α:=by rw [GR.len hy];omega
 obtain ⟨v',w',oD,ho,hgr,_⟩:=ar9 (P:=P) w B t o.type e i z (GR.sz α) bytes ht hi1 hi2 hi3 hi4 hzs hsz v l.length xs hr ad 1 c news hnl nG h1 tC iX hB;have xk:=vE ht hi1 hi2 hi3 hi4 hr hnl nG h1 tC iX oD;have he:Ext M (fun k=>M k\/k=w.heap.size) w w':=⟨hgr.size,fun k hk hm=>hgr.block k hk (fun e=>hm (hM k e.symm)),fun k hk hm=>hm.elim id (fun e=>by omega)⟩;have hn:GR.rep (fun k=>M k\/k=w.heap.size) w' news y:=GR.ext he hy;have kW:Ow B (fun k=>M k\/k=w.heap.size) w' e v' (l++[y]):=Ow.push hr vF he ho hn;obtain ⟨a',c',hv,_,_⟩:=kW.shape;have hb2:∀k,v'.ownBlock=some k->(v.ownBlock=some k\/k=w.heap.size)/\k<w'.heap.size:=by
  intro k hk;refine ⟨?_,(kW.lt k hk).2⟩;rcases xk with e|e;·exact .inl (e▸hk)
  exact .inr (by rw [e] at hk;simpa using hk.symm)
 rw [hv] at kW hb2;unfold Oper.wpIn;refine ⟨?_,?_⟩;·simp [Oper.about,hop,resolve,Target.leads]
 rw [Oper.semAt_plain F _ _ (by rw [hop];intro c hc';cases hc')];simp [execOp,hop,resolve,invoke,builtin,hs,hx,oD,Result.andThen];rw [hv];exact hK _ _ (h a' c' _ w' rfl kW hb2 hgr)
end
theorem wG {F:Fence} {n:Nat} {P:Program} {w:World} {ops:Array Oper} {aeG:List Oper} {o:Oper} {a:Act} {Q:Exit->Act->World->Prop} {rows:List (List Int)} {r:List Int} {s x:Operand} {t e:TypeId} {n0 B:Nat} {v:Value} {g c:Nat} {ar:Option Addr} {cr:Nat} (hg:o.guard=none) (hop:o.op= .call {callee:= .builtin .append,args:= #[s,x],argTypes:= #[t,t]}) (ht:P.underlying t=some (.slice e)) (hi:(P.info? e).map (fun i=>(i.zero,i.size,i.bytes))=some (some (.slice none 0 0),1,24)) (hs:a.eval s=v) (hx:a.eval x= .slice (some ⟨g,0,none⟩) 1 c) (jk:Ox n0 B w e v rows) (lU:w.cell? ⟨g,0,none⟩=some (.slice ar r.length cr)) (hy:Sl (fun k=>v.ownBlock=some k\/k<n0) w ar cr r) (iX:rows.length<1000000000000) (hB:B<=w.heap.size) (h:∀(a':Option Addr) (c':Nat) (l':List (List Int)) (w':World),Hid (l'=rows++[r])->Ox n0 B w' e (.slice a' l'.length c') l'->Hid (∀k,(Value.slice a' l'.length c').ownBlock=some k->v.ownBlock=some k\/k=w.heap.size)->w.grownBy w' v.ownBlock-> wpListIn F n P ops Q aeG (a.put o.dst (.slice a' l'.length c')) w'):wpListIn F n P ops Q (o::aeG) a w:=by
 refine Gt hg s x t hop e (.slice none 0 0) 1 24 ht hi rfl (by decide) B _ v rows hs rfl jk (fun k hk=> .inl hk) ⟨g,0,none⟩ c [.slice ar r.length cr] r hx (nD hy) ?_ ?_ ah aS hB ?_
 ·intro j u hj;match j,hj with
  |0,hj=>simp at hj;subst hj;simpa [Addr.add] using lU
 ·intro u hu;simp at hu;subst hu;rfl
 intro a' c' l' w' h1 h2 h3 h4;refine h a' c' l' w' h1 (h2.oF fun k hk hm=> ?_) (fun k hk=>(h3.out k hk).1) h4;rcases hm with hm|hm
 ·rcases (h3.out k hm).1 with e|e;·exact .inl (.inl e)
  exact .inr e
 exact .inl (.inr hm)
