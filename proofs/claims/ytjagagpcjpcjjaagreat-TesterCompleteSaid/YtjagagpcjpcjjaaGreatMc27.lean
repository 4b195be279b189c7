/- Several texts, one behind the other. Conditions: as each of them says. -/
import Derived.Test.YtjagagpcjpcjjaaGreatMc4
import Derived.RangeFuncNested
import Derived.RangeFuncBound
import Derived.RangeFuncCalls
import Derived.RangeFuncLeaves
import Derived.Shelf.Abstract
import Derived.Shelf.RegionOpen
import Derived.WalkKit
import Derived.OwnWalkIn
import Derived.TacticsInMore
import Derived.LoopNIn
import Derived.LoopIn
set_option maxRecDepth 100000
set_option maxHeartbeats 32000000
namespace Go.Proofs.YtjagagpcjpcjjaaGreat
open Go.RowKit Go.Shelf
theorem sl_kept {M:Nat→Prop} {W W':World} {a:Option Addr} {c:Nat} {x:List Int} {row:Option Nat} (h:Sl M W a c x) (hg:W.grownBy W' row) (hr:∀r,row=some r→∃o:Obj,W.heap[r]? =some o∧o.isCells=false):Sl M W' a c x:=by
 refine ⟨h.1,h.2.1,fun j y hj=> ?_⟩
 obtain ⟨b,off,cs,h1,h2,h3,h4,h5⟩:=h.2.2 j y hj
 exact ⟨b,off,cs,h1,Nat.lt_of_lt_of_le h2 hg.size,h3,h4,fun i u hi=>cell_kept (h5 i u hi) hg hr⟩
theorem grown_of_below {W W':World} (h:Below W.heap.size W W'):W.grownBy W' none:=⟨h.1,h.2,h.3,h.size,fun k hk _=>h.block k hk⟩
def Goes (B:Nat) (W W':World):Prop:=∀I:Unit→World→Prop,OwnFrom B I→I () W→I () W'
def Kep (nL B:Nat) (A W:World):Prop:=A.heap.size≤W.heap.size∧∀k,k<nL→k≠B→W.heap[k]? =A.heap[k]?
theorem Kep.trans {nL B:Nat} {A W V:World} (h:Kep nL B A W) (k:Kep nL B W V):Kep nL B A V:=⟨Nat.le_trans h.1 k.1,fun i hi hb=>(k.2 i hi hb).trans (h.2 i hi hb)⟩
theorem Kep.of_below {nL B:Nat} {A W:World} (h:Below A.heap.size A W) (hn:nL≤A.heap.size):Kep nL B A W:=⟨h.size,fun k hk _=>h.block k (by omega)⟩
theorem Kep.refl (nL B:Nat) (A:World):Kep nL B A A:=⟨Nat.le_refl _,fun _ _ _=>rfl⟩
theorem Kep.cell {nL B:Nat} {A W:World} (h:Kep nL B A W) {b o:Nat} {v:Value} (hl:b<nL) (hb:b≠B) (hc:A.cell? ⟨b,o,none⟩=some v):W.cell? ⟨b,o,none⟩=some v:=(World.cell?_of_block (a:=⟨b,o,none⟩) (h.2 b hl hb)).trans hc
theorem Kep.sl {α:Type} [GR α] {A W:World} {B:Nat} {M:Nat→Prop} {a:Option Addr} {c:Nat} {l:List α} (h:Kep A.heap.size B A W) (hM:M B) (hs:Sl M A a c l):Sl M W a c l:=
 hs.ext ⟨h.1,fun k hk hm=>h.2 k hk (fun e=>hm (e▸hM)),fun _ _ h=>h⟩
section
variable {F:Fence} {n:Nat} {P:Program}
theorem wpIn_range_R (B:Nat) {g:Operand} {p:Tmp} {assign body:Code} {Q:Exit→Act→World→Prop} {a:Act} {w:World}
    (hro:F.round=none) (h1:1≤n) {gf:Nat} {lb:Array Value} (hg:a.eval g= .func (.func gf) #[] lb) (hFg:F.fn gf) (eg:∀args w,(callFunc gf args).run P w= .ok (.enter gf args) w)
    (J:List (List Int)→World→Prop) (hJ:OwnFrom w.heap.size J) {xs:List (List Int)}
    (hseq:∀(l:Nat) (J':List (List Int)→World→Prop) (W:World),Below w.heap.size w W→(∀K A B,J' K A→Below A.heap.size A B→J' K B)→
     (∀K (x:List Int) (ax:Option Addr) (cx:Nat) W0 W1,J' K W0→Below W0.heap.size W0 W1→Sl (fun k=>k<W0.heap.size) W1 ax cx x→K++[x]<+:xs→
      YieldAt F (n-1-1) P l #[.slice ax x.length cx] W1 fun e W'=>e= .returned (.bool true)∧J' (K++[x]) W'∧Kep w.heap.size B W1 W')→
     J' [] W→CallsIn F (n-1) P gf (#[.func (.yield l) #[] #[]]++lb) W fun e W'=>(∃v,e= .returned v)∧J' xs W')
    (h0:J [] w) (a₁:Value→Act)
    (hassign:∀(l:Nat) (v:Value) (W:World) (K:Act→World→Prop),K (a₁ v) W→
     assign.wpIn (F.inRound l) (n-1-1) P (Exit.then K (fun _ _ _=>False)) {tmps:=(#[p].zip #[v]).foldl (fun t (p,v)=>t.setIfInBounds p v) a.tmps,defers:=[]} W)
    (hbody:∀(l:Nat) (K:List (List Int)) (x:List Int) (ax:Option Addr) (cx:Nat) (W0 W1:World),w.heap.size≤l→J K W0→Goes w.heap.size W0 W1→W0.heap.size≤W1.heap.size→w.heap.size≤W0.heap.size→Sl (fun k=>k<W0.heap.size) W1 ax cx x→K++[x]<+:xs→
     body.wpIn (F.inRound l) (n-1-1) P (ownPostG w.heap.size (Kep w.heap.size B) J (fun _ _ _=>False) (K++[x]) W1) (a₁ (.slice ax x.length cx)) W1)
    (hdone:∀(D:Nat) (W:World),w.heap.size≤D→J xs W→W.heap[D]? =some (.deferred (some []))→Q .normal {a with defers:={target:= .collected D,args:= #[]}::a.defers} W):
    (Code.rangeFunc g #[p] assign body).wpIn F n P Q a w:=by
 refine wpIn_rangeFunc ?_
 intro fn hfn
 rw [hro]
 obtain ⟨rec,hrec⟩:∃rec:LoopState→Option Code→Loop,rec=fun st pe=>{state:=st,pending:=pe,fn,tmps:=a.tmps,params:= #[p],assign,body,defers:=w.heap.size}:=⟨_,rfl⟩
 obtain ⟨Ws,hWs⟩:∃Ws,(w.alloc (.deferred (some []))).alloc (.loop (rec .ready none))=Ws:=⟨_,rfl⟩
 have hL1:Ws.heap[w.heap.size+1]? =some (.loop (rec .ready none)):=by
  rw [←hWs];have:=World.alloc_heap_new (w.alloc (.deferred (some []))) (.loop (rec .ready none));rwa [World.size_alloc] at this
 have hK1:Ws.heap[w.heap.size]? =some (.deferred (some [])):=by
  rw [←hWs];exact (Below.heap_alloc _ _ _ (by simp)).trans (World.alloc_heap_new w _)
 have hI1:J [] Ws:=by rw [←hWs];exact hJ.alloc _ (hJ.alloc _ h0)
 have hb1:Below w.heap.size w Ws:=by
  rw [←hWs];exact (((Below.refl _ w).alloc (Nat.le_refl _) _).alloc (by simp) _)
 refine ⟨w.heap.size+1,[{target:= .collected w.heap.size,args:= #[]}],Ws,{target:= .fn (.func gf) lb,args:= #[.func (.yield (w.heap.size+1)) #[] #[]]},Ws,gf,
  #[.func (.yield (w.heap.size+1)) #[] #[]]++lb,Ws,?_,?_,?_,?_,fun _=>h1,?_⟩
 ·rw [←hWs,hrec];exact run_enterLoop_outer _ _ _ _ _
 ·simp only [resolve,hg]
  simp [go_sem]
 ·intro f' hf';simp [Target.leads] at hf';subst hf';exact hFg
 ·simp [invoke,go_sem,eg]
 refine (hseq (w.heap.size+1)
  (fun K W=>J K W∧W.heap[w.heap.size+1]? =some (.loop (rec .ready none))∧W.heap[w.heap.size]? =some (.deferred (some []))∧w.heap.size≤W.heap.size)
  Ws hb1 (fun K A B hs hb=>⟨hJ K A B none hs.1 (grown_of_below hb) (fun r e=>by cases e),(hb.block _ (Array.getElem?_eq_some_iff.1 hs.2.1).1).trans hs.2.1,(hb.block _ (Array.getElem?_eq_some_iff.1 hs.2.2.1).1).trans hs.2.2.1,Nat.le_trans hs.2.2.2 hb.size⟩)
  ?_ ⟨hI1,hL1,hK1,hb1.size⟩).mono ?_
 ·rintro K x ax cx W0 W1 ⟨hi,hl,hk,hz⟩ hb hs hpx
  have hl1:=(hb.block _ (Array.getElem?_eq_some_iff.1 hl).1).trans hl
  have hk1:=(hb.block _ (Array.getElem?_eq_some_iff.1 hk).1).trans hk
  have hlt:w.heap.size+1<W1.heap.size:=(Array.getElem?_eq_some_iff.1 hl1).1
  have hy:=run_yield (P:=P) (args:= #[.slice ax x.length cx]) hl1 (by rw [hrec];rfl)
  rw [hrec] at hy
  refine ⟨fn,_,assign,body,hy,roundIn_of_wpIn hfn (hassign _ _ W1 _ ?_)⟩
  clear hy
  refine ⟨_,run_beginRound hl1 (by rw [hrec]),?_⟩
  have hl2:(W1.putObj (w.heap.size+1) (.loop {rec .ready none with state:= .busy})).heap[w.heap.size+1]? =some (.loop {rec .ready none with state:= .busy}):=World.putObj_heap_same hlt
  have hk2:(W1.putObj (w.heap.size+1) (.loop {rec .ready none with state:= .busy})).heap[w.heap.size]? =some (.deferred (some [])):=(World.putObj_heap_other (by omega)).trans hk1
  have hgo:Goes w.heap.size W0 (W1.putObj (w.heap.size+1) (.loop {rec .ready none with state:= .busy})):=fun I hI hw=>
   hI.putObj _ (hI () W0 W1 none hw (grown_of_below hb) (fun r e=>by cases e)) (by omega) hl1 rfl
  have hpb:∀(A:World) (o':Obj),Kep w.heap.size B A (A.putObj (w.heap.size+1) o'):=fun A o'=>⟨by simp,fun k hk _=>World.putObj_heap_other (by omega)⟩
  refine wpIn_mono (hbody _ K x ax cx W0 _ (by omega) hi hgo (by simpa using hb.size) hz (sl_kept hs (grownBy_putObj' W1 _ _) (fun r e=>by cases e;exact ⟨_,hl1,rfl⟩)) hpx) ?_
  rintro e a3 W3 hp
  cases e with
  |normal=>
   obtain ⟨hk3,hkp3,hi3⟩:=hp
   have hl3:=hk3.same _ _ (by omega) hl2 rfl
   have hr:=run_endRound (P:=P) none hl3
   have hk4:=hk3.same _ _ (Nat.le_refl _) hk2 rfl
   have hsz:w.heap.size≤W3.heap.size:=by have:=(Array.getElem?_eq_some_iff.1 hl3).1;omega
   rw [hrec] at hr hl3 hl1 hkp3
   refine ⟨_,_,hr,rfl,⟨hJ.putObj _ hi3 (by omega) hl3 rfl,?_,(World.putObj_heap_other (by omega)).trans hk4,by simpa using hsz⟩,?_⟩
   ·rw [hrec];exact World.putObj_heap_same (Array.getElem?_eq_some_iff.1 hl3).1
   exact ((hpb _ _).trans hkp3).trans (hpb _ _)
  |ret=>exact hp.2.elim
  |exit id=>exact hp.2.elim
  |goto t=>exact hp.2.elim
  |panic ch=>exact hp.elim
  |outgrown=>exact hp.elim
 rintro e W2 ⟨⟨v,rfl⟩,hi,hl,hk, -⟩
 exact ⟨none,_,by have:=run_endLoop (P:=P) hl (by rw [hrec];simp);rw [hrec] at this;exact this,hdone _ _ (Nat.le_refl _) (hJ.putObj _ hi (by omega) hl rfl) ((World.putObj_heap_other (by omega)).trans hk)⟩
theorem wpIn_range_Q (B:Nat) (q:Tmp) {g:Operand} {p:Tmp} {assign body:Code} {Q:Exit→Act→World→Prop} {a:Act} {w:World}
    (hro:F.round=none) (h1:1≤n) {gf:Nat} {lb:Array Value} (hg:a.eval g= .func (.func gf) #[] lb) (hFg:F.fn gf) (eg:∀args w,(callFunc gf args).run P w= .ok (.enter gf args) w)
    (J:List (List Int)→World→Prop) (hJ:OwnFrom w.heap.size J) {xs:List (List Int)}
    (hseq:∀(l:Nat) (J':List (List Int)→World→Prop) (W:World),Below w.heap.size w W→(∀K A B,J' K A→Below A.heap.size A B→J' K B)→
     (∀K (x:List Int) (ax:Option Addr) (cx:Nat) W0 W1,J' K W0→Below W0.heap.size W0 W1→Sl (fun k=>k<W0.heap.size) W1 ax cx x→K++[x]<+:xs→
      YieldAt F (n-1-1) P l #[.slice ax x.length cx] W1 fun e W'=>e= .returned (.bool true)∧J' (K++[x]) W'∧Kep w.heap.size B W1 W')→
     J' [] W→CallsIn F (n-1) P gf (#[.func (.yield l) #[] #[]]++lb) W fun e W'=>(∃v,e= .returned v)∧J' xs W')
    (h0:J [] w)
    (hassign:∀(l:Nat) (v:Value) (W:World) (K:Act→World→Prop),K {tmps:=(a.tmps.setIfInBounds p v).setIfInBounds q v,defers:=[]} W→
     assign.wpIn (F.inRound l) (n-1-1) P (Exit.then K (fun _ _ _=>False)) {tmps:=a.tmps.setIfInBounds p v,defers:=[]} W)
    (hbody:∀(l:Nat) (K:List (List Int)) (x:List Int) (ax:Option Addr) (cx:Nat) (W0 W1:World),w.heap.size≤l→J K W0→Goes w.heap.size W0 W1→W0.heap.size≤W1.heap.size→w.heap.size≤W0.heap.size→Sl (fun k=>k<W0.heap.size) W1 ax cx x→K++[x]<+:xs→
     body.wpIn (F.inRound l) (n-1-1) P (ownPostG w.heap.size (Kep w.heap.size B) J (fun _ _ _=>False) (K++[x]) W1) {tmps:=(a.tmps.setIfInBounds p (.slice ax x.length cx)).setIfInBounds q (.slice ax x.length cx),defers:=[]} W1)
    (hdone:∀(D:Nat) (W:World),w.heap.size≤D→J xs W→W.heap[D]? =some (.deferred (some []))→Q .normal {a with defers:={target:= .collected D,args:= #[]}::a.defers} W):
    (Code.rangeFunc g #[p] assign body).wpIn F n P Q a w:=
 wpIn_range_R B hro h1 hg hFg eg J hJ hseq h0 (fun v=>{tmps:=(a.tmps.setIfInBounds p v).setIfInBounds q v,defers:=[]}) (fun l v W K hK=>by
  have e:(#[p].zip #[v]).foldl (fun t (p,v)=>t.setIfInBounds p v) a.tmps=a.tmps.setIfInBounds p v:=by simp
  rw [e]
  exact hassign l v W K hK) hbody hdone
end
end Go.Proofs.YtjagagpcjpcjjaaGreat
