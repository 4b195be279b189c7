/- Lemmas, each with its own conditions. -/
import Derived.Test.YtjagagpcjpcjjaaGreatMw7
import Derived.Lib.SmallJoins
set_option maxRecDepth 100000
set_option maxHeartbeats 32000000
namespace Go.Proofs.YtjagagpcjpcjjaaGreat
open Go.RowKit
theorem Ow.weaken {B B':Nat} {M:Nat->Prop} {w:World} {T:TypeId} {v:Value} {l:List Int} (h:Ow B M w T v l) (hb:B'<=B):Ow B' (fun _=>True) w T v l:=by
 obtain ⟨xs,hr,hx⟩:=h.anyM (M':=fun _=>True);exact ⟨xs,Joins.ownsRow_le hr hb,hx⟩
structure Free (M:Nat->Prop) (bo:Nat) (vN vO:Value) (q:Nat):Prop where
 m:M q
 b:q≠bo
 n:vN.ownBlock≠some q
 o:vO.ownBlock≠some q
structure Tab (B B4 B0:Nat) (M:Nat->Prop) (w1 w:World) (g c n:Nat) (nm:List Int) (a6:Option Addr) (c6:Nat) (ord:List Int) (aX:Option Addr) (cX:Nat) (X:List Int) (aY:Option Addr) (cY:Nat) (Y:List Int)
    (bo:Nat) (inp:Int) (aN:Option Addr) (cN:Nat) (rN:List (List Int)) (aO:Option Addr) (cO:Nat) (rO:List (List Int)):Prop where
 num:Ow B (fun _=>True) w 3 (.slice (some ⟨g,0,none⟩) n c) nm
 hn:Hid (n=nm.length)
 od:Ow B (fun _=>True) w 3 (.slice a6 ord.length c6) ord
 ox:Ow B4 (fun _=>True) w 3 (.slice aX X.length cX) X
 oy:Ow B4 (fun _=>True) w 3 (.slice aY Y.length cY) Y
 xB:Mk B0 M w bo inp 0 aN cN rN aO cO rO
 below:Below B w1 w
 go:Free M bo (.slice aN rN.length cN) (.slice aO rO.length cO) g
 oo:∀q,(Value.slice a6 ord.length c6).ownBlock=some q->Free M bo (.slice aN rN.length cN) (.slice aO rO.length cO) q/\q≠g
 xo:∀q,(Value.slice aX X.length cX).ownBlock=some q->Free M bo (.slice aN rN.length cN) (.slice aO rO.length cO) q/\q≠g/\(Value.slice a6 ord.length c6).ownBlock≠some q
 yo:∀q,(Value.slice aY Y.length cY).ownBlock=some q->Free M bo (.slice aN rN.length cN) (.slice aO rO.length cO) q/\q≠g/\(Value.slice a6 ord.length c6).ownBlock≠some q/\(Value.slice aX X.length cX).ownBlock≠some q
section
variable {B B4 B0:Nat} {M:Nat->Prop} {w1 w w':World} {g c n:Nat} {nm:List Int} {a6:Option Addr} {c6:Nat} {ord:List Int} {aX:Option Addr} {cX:Nat} {X:List Int} {aY:Option Addr} {cY:Nat} {Y:List Int}
 {bo:Nat} {inp:Int} {aN:Option Addr} {cN:Nat} {rN:List (List Int)} {aO:Option Addr} {cO:Nat} {rO:List (List Int)}
theorem Tab.alloc (h:Tab B B4 B0 M w1 w g c n nm a6 c6 ord aX cX X aY cY Y bo inp aN cN rN aO cO rO) (hB:B<=w.heap.size) (o:Obj):Tab B B4 B0 M w1 (w.alloc o) g c n nm a6 c6 ord aX cX X aY cY Y bo inp aN cN rN aO cO rO:=
 ⟨h.num.alloc o,h.hn,h.od.alloc o,h.ox.alloc o,h.oy.alloc o,h.xB.alloc o,h.below.alloc hB o,h.go,h.oo,h.xo,h.yo⟩
theorem Tab.ZJ (h:Tab B B4 B0 M w1 w g c n nm a6 c6 ord aX cX X aY cY Y bo inp aN cN rN aO cO rO) (hB:B<=g) {z:Int} (j:Nat) (hz:i64 z):Tab B B4 B0 M w1 (w.setCell ⟨g,j,none⟩ (.int .i64 z)) g c n (nm.set j z) a6 c6 ord aX cX X aY cY Y bo inp aN cN rN aO cO rO:=by
 have hk:∀q,q≠g->(w.setCell ⟨g,j,none⟩ (.int .i64 z)).heap[q]? =w.heap[q]? :=fun q hq=>dM _ _ _ _ (iq hq);refine ⟨h.num.nu h.hn.out trivial j hz,bK (by rw [fB];exact h.hn.out),h.od.ny (fun q hq=>(h.oo q hq).2) _,h.ox.ny (fun q hq=>(h.xo q hq).2.1) _,h.oy.ny (fun q hq=>(h.yo q hq).2.1) _,?_,h.below.setCell hB _,h.go,h.oo,h.xo,h.yo⟩;exact h.xB.touch (Ext.setCell _ (p:=⟨g,j,none⟩) h.go.m _) (hk _ fun e=>h.go.b e.symm) (fun q hq=>hk q fun e=>h.go.n (e▸hq)) (fun q hq=>hk q fun e=>h.go.o (e▸hq))
def plus (M:Nat->Prop) (w w':World) (j:Nat):Prop:=M j\/(j=w.heap.size/\j<w'.heap.size)
theorem Free.grow {vN vO:Value} {q:Nat} (h:Free M bo vN vO q):Free (plus M w w') bo vN vO q:=⟨.inl h.m,h.b,h.n,h.o⟩
theorem Mk.new (h:Mk B0 M w bo inp 0 aN cN rN aO cO rO) (hs:w.heap.size<w'.heap.size):Free (plus M w w') bo (.slice aN rN.length cN) (.slice aO rO.length cO) w.heap.size:=
 ⟨.inr ⟨rfl,hs⟩,ig h.zD,fun e=>by have:=(h.n.lt _ e).2;omega,fun e=>by have:=(h.o.lt _ e).2;omega⟩
theorem Mk.beside (h:Mk B0 M w bo inp 0 aN cN rN aO cO rO) {r:Option Nat} (hr:∀q,r=some q->Free M bo (.slice aN rN.length cN) (.slice aO rO.length cO) q) (hgr:w.grownBy w' r):Mk B0 (plus M w w') w' bo inp 0 aN cN rN aO cO rO:=by
 have hk:∀q,q<w.heap.size->r≠some q->w'.heap[q]? =w.heap[q]? :=fun q hq hn=>hgr.block q hq (fun e=>hn e.symm);have e:Ext M (plus M w w') w w':=⟨hgr.size,fun q hq hm=>hk q hq fun er=>hm (hr q er).m,fun q hq hm=>hm.elim id (fun e=>by omega)⟩
 exact ⟨fun q hq=> .inl (h.old q hq),.inl h.NW,(hk _ h.zD fun er=>(hr _ er).b rfl).trans h.blk,h.n.ext e fun q hq=>hk q (h.n.lt q hq).2 fun er=>(hr q er).n hq,h.o.ext e fun q hq=>hk q (h.o.lt q hq).2 fun er=>(hr q er).o hq,
  fun q hq=>⟨.inl (h.mn q hq).1,(h.mn q hq).2⟩,fun q hq=>⟨.inl (h.mo q hq).1,(h.mo q hq).2⟩,h.no,h.b0,fun q h1 h2=>h2.elim (fun h3=>eZ (h.lt q h1 h3) hgr.size) (fun e=>e.2)⟩
theorem Tab.acY (h:Tab B B4 B0 M w1 w g c n nm a6 c6 ord aX cX X aY cY Y bo inp aN cN rN aO cO rO) (hB:B<=w.heap.size) {a':Option Addr} {c':Nat} {l':List Int} (ho:Ow B (fun _=>True) w' 3 (.slice a' l'.length c') l') (hb:∀k,(Value.slice a' l'.length c').ownBlock=some k->((Value.slice a6 ord.length c6).ownBlock=some k\/k=w.heap.size)/\k<w'.heap.size) (hgr:w.grownBy w' (Value.slice a6 ord.length c6).ownBlock):Tab B B4 B0 (plus M w w') w1 w' g c n nm a' c' l' aX cX X aY cY Y bo inp aN cN rN aO cO rO:=by
 have hk:∀q,q<w.heap.size->(Value.slice a6 ord.length c6).ownBlock≠some q->w'.heap[q]? =w.heap[q]? :=fun q hq hn=>hgr.block q hq (fun e=>hn e.symm);have hg:=(h.num.lt g rfl).2
 refine ⟨h.num.kept hgr.size fun q hq=>hk q (h.num.lt q hq).2 fun e=>(h.oo q e).2 (by simpa [Value.ownBlock] using hq.symm),h.hn,ho,h.ox.kept hgr.size fun q hq=>hk q (h.ox.lt q hq).2 (h.xo q hq).2.2,h.oy.kept hgr.size fun q hq=>hk q (h.oy.lt q hq).2 (h.yo q hq).2.2.1,
  h.xB.beside (fun q hq=>(h.oo q hq).1) hgr,h.below.grown hgr hB (fun q hq=>(h.od.lt q hq).1),h.go.grow,fun q hq=> ?_,fun q hq=>⟨(h.xo q hq).1.grow,(h.xo q hq).2.1,fun e=> ?_⟩,fun q hq=>⟨(h.yo q hq).1.grow,(h.yo q hq).2.1,fun e=> ?_,(h.yo q hq).2.2.2⟩⟩
 ·rcases (hb q hq).1 with e|rfl;·exact ⟨(h.oo q e).1.grow,(h.oo q e).2⟩
  exact ⟨h.xB.new (hb _ hq).2,ah⟩
 ·rcases (hb q e).1 with e|rfl;·exact (h.xo q hq).2.2 e
  have:=(h.ox.lt _ hq).2;omega
 rcases (hb q e).1 with e|rfl;·exact (h.yo q hq).2.2.1 e
 have:=(h.oy.lt _ hq).2;omega
theorem Tab.aeA (h:Tab B B4 B0 M w1 w g c n nm a6 c6 ord aX cX X aY cY Y bo inp aN cN rN aO cO rO) (hB:B<=w.heap.size) (hB4:B<=B4) {a':Option Addr} {c':Nat} {l':List Int} (ho:Ow B4 (fun _=>True) w' 3 (.slice a' l'.length c') l') (hb:∀k,(Value.slice a' l'.length c').ownBlock=some k->((Value.slice aX X.length cX).ownBlock=some k\/k=w.heap.size)/\k<w'.heap.size) (hgr:w.grownBy w' (Value.slice aX X.length cX).ownBlock):Tab B B4 B0 (plus M w w') w1 w' g c n nm a6 c6 ord a' c' l' aY cY Y bo inp aN cN rN aO cO rO:=by
 have hk:∀q,q<w.heap.size->(Value.slice aX X.length cX).ownBlock≠some q->w'.heap[q]? =w.heap[q]? :=fun q hq hn=>hgr.block q hq (fun e=>hn e.symm);have hg:=(h.num.lt g rfl).2
 refine ⟨h.num.kept hgr.size fun q hq=>hk q (h.num.lt q hq).2 fun e=>(h.xo q e).2.1 (by simpa [Value.ownBlock] using hq.symm),h.hn,h.od.kept hgr.size fun q hq=>hk q (h.od.lt q hq).2 fun e=>(h.xo q e).2.2 hq,ho,h.oy.kept hgr.size fun q hq=>hk q (h.oy.lt q hq).2 (h.yo q hq).2.2.2,
  h.xB.beside (fun q hq=>(h.xo q hq).1) hgr,h.below.grown hgr hB (fun q hq=>dH hB4 (h.ox.lt q hq).1),h.go.grow,fun q hq=>⟨(h.oo q hq).1.grow,(h.oo q hq).2⟩,fun q hq=> ?_,fun q hq=>⟨(h.yo q hq).1.grow,(h.yo q hq).2.1,(h.yo q hq).2.2.1,fun e=> ?_⟩⟩
 ·rcases (hb q hq).1 with e|rfl;·exact ⟨(h.xo q e).1.grow,(h.xo q e).2⟩
  exact ⟨h.xB.new (hb _ hq).2,ah,fun e=>by have:=(h.od.lt _ e).2;omega⟩
 rcases (hb q e).1 with e|rfl;·exact (h.yo q hq).2.2.2 e
 have:=(h.oy.lt _ hq).2;omega
theorem Tab.aeB (h:Tab B B4 B0 M w1 w g c n nm a6 c6 ord aX cX X aY cY Y bo inp aN cN rN aO cO rO) (hB:B<=w.heap.size) (hB4:B<=B4) {a':Option Addr} {c':Nat} {l':List Int} (ho:Ow B4 (fun _=>True) w' 3 (.slice a' l'.length c') l') (hb:∀k,(Value.slice a' l'.length c').ownBlock=some k->((Value.slice aY Y.length cY).ownBlock=some k\/k=w.heap.size)/\k<w'.heap.size) (hgr:w.grownBy w' (Value.slice aY Y.length cY).ownBlock):Tab B B4 B0 (plus M w w') w1 w' g c n nm a6 c6 ord aX cX X a' c' l' bo inp aN cN rN aO cO rO:=by
 have hk:∀q,q<w.heap.size->(Value.slice aY Y.length cY).ownBlock≠some q->w'.heap[q]? =w.heap[q]? :=fun q hq hn=>hgr.block q hq (fun e=>hn e.symm);have hg:=(h.num.lt g rfl).2
 refine ⟨h.num.kept hgr.size fun q hq=>hk q (h.num.lt q hq).2 fun e=>(h.yo q e).2.1 (by simpa [Value.ownBlock] using hq.symm),h.hn,h.od.kept hgr.size fun q hq=>hk q (h.od.lt q hq).2 fun e=>(h.yo q e).2.2.1 hq,h.ox.kept hgr.size fun q hq=>hk q (h.ox.lt q hq).2 fun e=>(h.yo q e).2.2.2 hq,ho,
  h.xB.beside (fun q hq=>(h.yo q hq).1) hgr,h.below.grown hgr hB (fun q hq=>dH hB4 (h.oy.lt q hq).1),h.go.grow,fun q hq=>⟨(h.oo q hq).1.grow,(h.oo q hq).2⟩,fun q hq=>⟨(h.xo q hq).1.grow,(h.xo q hq).2⟩,fun q hq=> ?_⟩
 rcases (hb q hq).1 with e|rfl;·exact ⟨(h.yo q e).1.grow,(h.yo q e).2⟩
 exact ⟨h.xB.new (hb _ hq).2,ah,fun e=>by have:=(h.od.lt _ e).2;omega,fun e=>by have:=(h.ox.lt _ e).2;omega⟩
theorem Tab.close (h:Tab B B4 B0 M w1 w g c n nm a6 c6 ord aX cX X aY cY Y bo inp aN cN rN aO cO rO) (hB:B0<=B4):∃M':Nat->Prop,Mk B0 M' w bo inp 0 aN cN rN aO cO rO/\Sl M' w aX cX X/\Sl M' w aY cY Y/\Free M' bo (.slice aN rN.length cN) (.slice aO rO.length cO) g/\ ∀q,(Value.slice a6 ord.length c6).ownBlock=some q->Free M' bo (.slice aN rN.length cN) (.slice aO rO.length cO) q/\q≠g:=by
 refine ⟨fun q=>M q/\(Value.slice aX X.length cX).ownBlock≠some q/\(Value.slice aY Y.length cY).ownBlock≠some q,?_,?_,?_,?_,fun q hq=> ?_⟩
 ·refine h.xB.sub (fun _ hk=>hk.1) (fun q hq=>⟨h.xB.old q hq,fun e=> ?_,fun e=> ?_⟩) ⟨h.xB.NW,fun e=>(h.xo _ e).1.b rfl,fun e=>(h.yo _ e).1.b rfl⟩
    (fun q hq=>⟨(h.xB.mn q hq).1,fun e=>(h.xo q e).1.n hq,fun e=>(h.yo q e).1.n hq⟩) (fun q hq=>⟨(h.xB.mo q hq).1,fun e=>(h.xo q e).1.o hq,fun e=>(h.yo q e).1.o hq⟩)
  ·have:=(h.ox.lt q e).1;omega
  have:=(h.oy.lt q e).1;omega
 ·exact h.ox.anyM.jD fun q hq hm=>hm.2.1 hq
 ·exact h.oy.anyM.jD fun q hq hm=>hm.2.2 hq
 ·exact ⟨⟨h.go.m,fun e=>(h.xo g e).2.1 rfl,fun e=>(h.yo g e).2.1 rfl⟩,h.go.b,h.go.n,h.go.o⟩
 obtain ⟨hf,hg⟩:=h.oo q hq;exact ⟨⟨⟨hf.m,fun e=>(h.xo q e).2.2 hq,fun e=>(h.yo q e).2.2.1 hq⟩,hf.b,hf.n,hf.o⟩,hg⟩
theorem Tab.later (h:Tab B B4 B0 M w1 w g c n nm a6 c6 ord aX cX X aY cY Y bo inp aN cN rN aO cO rO) (hB:B<=w.heap.size) (hb:Below w.heap.size w w'):Tab B B4 B0 M w1 w' g c n nm a6 c6 ord aX cX X aY cY Y bo inp aN cN rN aO cO rO:=
 ⟨h.num.below hb,h.hn,h.od.below hb,h.ox.below hb,h.oy.below hb,h.xB.below hb,h.below.trans (hb.mono hB),h.go,h.oo,h.xo,h.yo⟩
theorem Tab.b4 (h:Tab B B4 B0 M w1 w g c n nm a6 c6 ord none 0 [] none 0 [] bo inp aN cN rN aO cO rO) (B4':Nat):Tab B B4' B0 M w1 w g c n nm a6 c6 ord none 0 [] none 0 [] bo inp aN cN rN aO cO rO:=
 ⟨h.num,h.hn,h.od,Ow.nil,Ow.nil,h.xB,h.below,h.go,h.oo,h.xo,h.yo⟩
theorem Tab.closed (h:Tab B B4 B0 M w1 w g c n nm a6 c6 ord aX cX X aY cY Y bo inp aN cN rN aO cO rO) (hB:B0<=B4):∃M':Nat->Prop,Tab B 0 B0 M' w1 w g c n nm a6 c6 ord none 0 [] none 0 [] bo inp aN cN rN aO cO rO/\Sl M' w aX cX X/\Sl M' w aY cY Y:=by
 obtain ⟨M',h1,h2,h3,h4,h5⟩:=h.close hB;exact ⟨M',⟨h.num,h.hn,h.od,Ow.nil,Ow.nil,h1,h.below,h4,h5,fun q hq=>by simp [Value.ownBlock] at hq,fun q hq=>by simp [Value.ownBlock] at hq⟩,h2,h3⟩
theorem Tab.NZ (h:Tab B B4 B0 M w1 w g c n nm a6 c6 ord none 0 [] none 0 [] bo inp aN cN rN aO cO rO) (hB:B<=B0) {a':Option Addr} {c':Nat} {l':List (List Int)} (ho:Ow B0 (fun k=>M k\/k=w.heap.size) w' 49 (.slice a' l'.length c') l') (hb:∀k,(Value.slice a' l'.length c').ownBlock=some k->((Value.slice aN rN.length cN).ownBlock=some k\/k=w.heap.size)/\k<w'.heap.size) (hgr:w.grownBy w' (Value.slice aN rN.length cN).ownBlock):Tab B B4 B0 (plus M w w') w1 (w'.setCell ⟨bo,2,none⟩ (.slice a' l'.length c')) g c n nm a6 c6 ord none 0 [] none 0 [] bo inp a' c' l' aO cO rO:=by
 have NY:=h.xB.zD;have hb0:=h.xB.b0
 have hk:∀q,q<w.heap.size->q≠bo->(Value.slice aN rN.length cN).ownBlock≠some q->(w'.setCell ⟨bo,2,none⟩ (.slice a' l'.length c')).heap[q]? =w.heap[q]? :=fun q hq h1 hn=>
  (dM _ _ _ _ (iq h1)).trans (hgr.block q hq (fun e=>hn e.symm))
 have hs:w.heap.size<=(w'.setCell ⟨bo,2,none⟩ (.slice a' l'.length c')).heap.size:=by have:=hgr.size;simpa [World.setCell] using this
 have hf:∀q,q<w.heap.size->Free M bo (.slice aN rN.length cN) (.slice aO rO.length cO) q->Free (plus M w w') bo (.slice a' l'.length c') (.slice aO rO.length cO) q:=fun q hq hq2=>
  ⟨.inl hq2.m,hq2.b,fun e=>by
   rcases (hb q e).1 with e2|e2
   ·exact hq2.n e2
   omega,hq2.o⟩
 have hg:=(h.num.lt g rfl).2;refine ⟨h.num.kept hs fun q hq=> ?_,h.hn,h.od.kept hs fun q hq=> ?_,Ow.nil,Ow.nil,h.xB.NZ ho (fun k hk=>(hb k hk).1) hgr (fun k hk=>(hb k hk).2),?_,hf g hg h.go,fun q hq=>⟨hf q (h.od.lt q hq).2 (h.oo q hq).1,(h.oo q hq).2⟩,fun q hq=>by simp [Value.ownBlock] at hq,fun q hq=>by simp [Value.ownBlock] at hq⟩
 ·obtain rfl:g=q:=by simpa [Value.ownBlock] using hq
  exact hk g hg h.go.b h.go.n
 ·exact hk q (h.od.lt q hq).2 (h.oo q hq).1.b (h.oo q hq).1.n
 exact (h.below.grown hgr ah (fun q hq=>dH hB (h.xB.n.lt q hq).1)).setCell aJ _
theorem Tab.Oa (h:Tab B B4 B0 M w1 w g c n nm a6 c6 ord none 0 [] none 0 [] bo inp aN cN rN aO cO rO) (hB:B<=B0) {a':Option Addr} {c':Nat} {l':List (List Int)} (ho:Ow B0 (fun k=>M k\/k=w.heap.size) w' 49 (.slice a' l'.length c') l') (hb:∀k,(Value.slice a' l'.length c').ownBlock=some k->((Value.slice aO rO.length cO).ownBlock=some k\/k=w.heap.size)/\k<w'.heap.size) (hgr:w.grownBy w' (Value.slice aO rO.length cO).ownBlock):Tab B B4 B0 (plus M w w') w1 (w'.setCell ⟨bo,3,none⟩ (.slice a' l'.length c')) g c n nm a6 c6 ord none 0 [] none 0 [] bo inp aN cN rN a' c' l':=by
 have NY:=h.xB.zD;have hb0:=h.xB.b0
 have hk:∀q,q<w.heap.size->q≠bo->(Value.slice aO rO.length cO).ownBlock≠some q->(w'.setCell ⟨bo,3,none⟩ (.slice a' l'.length c')).heap[q]? =w.heap[q]? :=fun q hq h1 hn=>
  (dM _ _ _ _ (iq h1)).trans (hgr.block q hq (fun e=>hn e.symm))
 have hs:w.heap.size<=(w'.setCell ⟨bo,3,none⟩ (.slice a' l'.length c')).heap.size:=by have:=hgr.size;simpa [World.setCell] using this
 have hf:∀q,q<w.heap.size->Free M bo (.slice aN rN.length cN) (.slice aO rO.length cO) q->Free (plus M w w') bo (.slice aN rN.length cN) (.slice a' l'.length c') q:=fun q hq hq2=>
  ⟨.inl hq2.m,hq2.b,hq2.n,fun e=>by
   rcases (hb q e).1 with e2|e2
   ·exact hq2.o e2
   omega⟩
 have hg:=(h.num.lt g rfl).2;refine ⟨h.num.kept hs fun q hq=> ?_,h.hn,h.od.kept hs fun q hq=> ?_,Ow.nil,Ow.nil,h.xB.Oa ho (fun k hk=>(hb k hk).1) hgr (fun k hk=>(hb k hk).2),?_,hf g hg h.go,fun q hq=>⟨hf q (h.od.lt q hq).2 (h.oo q hq).1,(h.oo q hq).2⟩,fun q hq=>by simp [Value.ownBlock] at hq,fun q hq=>by simp [Value.ownBlock] at hq⟩
 ·obtain rfl:g=q:=by simpa [Value.ownBlock] using hq
  exact hk g hg h.go.b h.go.o
 ·exact hk q (h.od.lt q hq).2 (h.oo q hq).1.b (h.oo q hq).1.o
 exact (h.below.grown hgr ah (fun q hq=>dH hB (h.xB.o.lt q hq).1)).setCell aJ _
theorem Tab.acZ (h:Tab B B4 B0 M w1 w g c n nm a6 c6 ord none 0 [] none 0 [] bo inp aN cN rN aO cO rO) {aR:Option Addr} {cR:Nat} {R:List Int} (hR:Sl M w aR cR R) {u:Value} (hgr:w.grownBy w' (Value.slice aN rN.length cN).ownBlock):Sl (plus M w w') (w'.setCell ⟨bo,2,none⟩ u) aR cR R:=by
 have e1:Ext M (plus M w w') w w':=⟨hgr.size,fun k hk hm=>hgr.block k hk (fun e=>hm (h.xB.mn k e.symm).1),fun k hk hm=>hm.elim id (fun e=>by omega)⟩;exact (hR.ext e1).ext (Ext.setCell w' (p:=⟨bo,2,none⟩) (.inl h.xB.NW) u)
end
