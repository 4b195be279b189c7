/- Several texts, one behind the other. Conditions: as each of them says. -/
import Derived.Test.YtjagagpcjpcjjaaGreatMc27
import Derived.Test.YtjagagpcjpcjjaaGreatMc7
set_option maxRecDepth 100000
set_option maxHeartbeats 32000000
namespace Go.Proofs.YtjagagpcjpcjjaaGreat
open Go.RowKit Go.Shelf
theorem Ow.turn {B:Nat} {M:Nat→Prop} {W W':World} {T:TypeId} {v:Value} {l:List (List Int)} {row:Option Nat} (h:Ow B M W T v l) (hg:W.grownBy W' row) (hr:∀r,row=some r→∃o:Obj,W.heap[r]? =some o∧o.isCells=false):Ow B M W' T v l:=by
 obtain ⟨xs,h1,h2⟩:=h
 refine ⟨xs,ownsRow_same h1 fun k hk=> ?_,fun j x hx=> ?_⟩
 ·rcases h1.2 with ⟨e, -⟩|⟨g,cap,cur,e, -,hc, -⟩
  ·rw [e] at hk;simp [Value.ownBlock] at hk
  rw [e] at hk
  obtain rfl:g=k:=by simpa [Value.ownBlock] using hk
  refine hg.block g (Array.getElem?_eq_some_iff.1 hc).1 fun e2=> ?_
  obtain ⟨o,ho,ho2⟩:=hr g e2.symm
  rw [hc] at ho
  cases ho
  cases ho2
 obtain ⟨a,c,e,hs⟩:=h2 j x hx
 exact ⟨a,c,e,sl_kept hs hg hr⟩
theorem Ow.cells {α:Type} [GR α] {B:Nat} {M:Nat→Prop} {W:World} {T:TypeId} {v:Value} {l:List α} (h:Ow B M W T v l) {k:Nat} (hk:v.ownBlock=some k):∃cur,W.heap[k]? =some (.cells cur T (0,0)):=by
 obtain ⟨xs,h1, -⟩:=h
 rcases h1.2 with ⟨e, -⟩|⟨g,cap,cur,e, -,hc, -⟩
 ·rw [e] at hk;simp [Value.ownBlock] at hk
 rw [e] at hk
 obtain rfl:g=k:=by simpa [Value.ownBlock] using hk
 exact ⟨cur,hc⟩
section
variable {P:Program} {α:Type} [GR α] {w:World} {ops:Array Oper} {rest:List Oper} {o:Oper} {a:Act} {Q:Exit→Act→World→Prop}
theorem wpListIn_push2 {F:Fence} {n:Nat} (hg:o.guard=none) (s x:Operand) (t:TypeId) (hop:o.op= .call {callee:= .builtin .append,args:= #[s,x],argTypes:= #[t,t]})
    (e:TypeId) (z:Value) (size bytes:Nat) (ht:P.underlying t=some (.slice e)) (hi:(P.info? e).map (fun i=>(i.zero,i.size,i.bytes))=some (some z,size,bytes)) (hzs:z.cells.size=size) (hsz:0<size)
    (B:Nat) (M:Nat→Prop) (v:Value) (l:List α) (hs:a.eval s=v) (hsA:GR.sz α=size) (hown:Ow B M w e v l) (hM:∀k,v.ownBlock=some k→M k)
    (ad:Addr) (c:Nat) (news:List Value) (y:α) (hx:a.eval x= .slice (some ad) 1 c) (hy:GR.rep M w news y) (hnews:∀j u,news[j]? =some u→w.cell? (ad.add j)=some u) (h1:∀u∈news,u.oneCell'=true)
    (hlen:(l.length+1)*bytes≤140737488355328) (hlen2:l.length+1≤maxLen) (hB:B≤w.heap.size)
    (h:∀(a':Option Addr) (c':Nat) (l':List α) (w':World),Hid (l'=l++[y])→Ow B (fun k=>M k∨k=w.heap.size) w' e (.slice a' l'.length c') l'→Hid (∀k,(Value.slice a' l'.length c').ownBlock=some k→(v.ownBlock=some k∨k=w.heap.size)∧k<w'.heap.size)→
     w.grownBy w' v.ownBlock→wpListIn F n P ops Q rest (a.put o.dst (.slice a' l'.length c')) w'):wpListIn F n P ops Q (o::rest) a w:=by
 refine wpListIn_plain hg fun K hK=> ?_
 obtain ⟨i,hi1,hi2,hi3,hi4⟩:=info_parts hi
 obtain ⟨xs,hr,hrep⟩:=hown
 subst hsA
 have hnl:news.length=1*GR.sz α:=by rw [GR.len hy];omega
 obtain ⟨v',w',hrun,ho,hgr,_⟩:=run_append_own (P:=P) w B t o.type e i z (GR.sz α) bytes ht hi1 hi2 hi3 hi4 hzs hsz v l.length xs hr ad 1 c news hnl hnews h1 hlen2 hlen hB
 have hblk:=append_block ht hi1 hi2 hi3 hi4 hr hnl hnews h1 hlen2 hlen hrun
 have he:Ext M (fun k=>M k∨k=w.heap.size) w w':=⟨hgr.size,fun k hk hm=>hgr.block k hk (fun e=>hm (hM k e.symm)),fun k hk hm=>hm.elim id (fun e=>by omega)⟩
 have hn:GR.rep (fun k=>M k∨k=w.heap.size) w' news y:=GR.ext he hy
 have hpush:Ow B (fun k=>M k∨k=w.heap.size) w' e v' (l++[y]):=Ow.push hr hrep he ho hn
 obtain ⟨a',c',hv,_,_⟩:=hpush.shape
 have hb2:∀k,v'.ownBlock=some k→(v.ownBlock=some k∨k=w.heap.size)∧k<w'.heap.size:=by
  intro k hk
  refine ⟨?_,(hpush.lt k hk).2⟩
  rcases hblk with e|e
  ·exact .inl (e▸hk)
  exact .inr (by rw [e] at hk;simpa using hk.symm)
 rw [hv] at hpush hb2
 unfold Oper.wpIn
 refine ⟨?_,?_⟩
 ·simp [Oper.about,hop,resolve,Target.leads,Sem.run_pure]
 rw [Oper.semAt_plain F _ _ (by rw [hop];intro c hc';cases hc')]
 simp [execOp,hop,resolve,invoke,builtin,hs,hx,hrun,Result.andThen]
 rw [hv]
 exact hK _ _ (h a' c' _ w' rfl hpush hb2 hgr)
end
theorem wpListIn_push_x {F:Fence} {n:Nat} {P:Program} {w:World} {ops:Array Oper} {rest2:List Oper} {o:Oper} {a:Act} {Q:Exit→Act→World→Prop} {rows:List (List Int)} {r:List Int} {s x:Operand} {t e:TypeId} {n0 B:Nat} {v:Value} {g c:Nat} {ar:Option Addr} {cr:Nat} (hg:o.guard=none) (hop:o.op= .call {callee:= .builtin .append,args:= #[s,x],argTypes:= #[t,t]})
    (ht:P.underlying t=some (.slice e)) (hi:(P.info? e).map (fun i=>(i.zero,i.size,i.bytes))=some (some (.slice none 0 0),1,24))
    (hs:a.eval s=v) (hx:a.eval x= .slice (some ⟨g,0,none⟩) 1 c) (hown:Ox n0 B w e v rows) (hnew:w.cell? ⟨g,0,none⟩=some (.slice ar r.length cr)) (hy:Sl (fun k=>v.ownBlock=some k∨k<n0) w ar cr r)
    (hlen:rows.length<1000000000000) (hB:B≤w.heap.size)
    (h:∀(a':Option Addr) (c':Nat) (l':List (List Int)) (w':World),Hid (l'=rows++[r])→Ox n0 B w' e (.slice a' l'.length c') l'→Hid (∀k,(Value.slice a' l'.length c').ownBlock=some k→v.ownBlock=some k∨k=w.heap.size)→w.grownBy w' v.ownBlock→
     wpListIn F n P ops Q rest2 (a.put o.dst (.slice a' l'.length c')) w'):wpListIn F n P ops Q (o::rest2) a w:=by
 refine wpListIn_push2 hg s x t hop e (.slice none 0 0) 1 24 ht hi rfl (by decide) B _ v rows hs rfl hown (fun k hk=> .inl hk) ⟨g,0,none⟩ c [.slice ar r.length cr] r hx (rep_slice hy) ?_ ?_ (by omega) (by unfold maxLen;omega) hB ?_
 ·intro j u hj
  match j,hj with
  |0,hj=>simp at hj;subst hj;simpa [Addr.add] using hnew
 ·intro u hu;simp at hu;subst hu;rfl
 intro a' c' l' w' h1 h2 h3 h4
 refine h a' c' l' w' h1 (h2.subM fun k hk hm=> ?_) (fun k hk=>(h3.out k hk).1) h4
 rcases hm with hm|hm
 ·rcases (h3.out k hm).1 with e|e
  ·exact .inl (.inl e)
  exact .inr e
 exact .inl (.inr hm)
end Go.Proofs.YtjagagpcjpcjjaaGreat
