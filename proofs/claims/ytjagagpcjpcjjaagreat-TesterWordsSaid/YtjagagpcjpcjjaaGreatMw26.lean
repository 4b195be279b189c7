/- Lemmas, each with its own conditions. -/
import Derived.Test.YtjagagpcjpcjjaaGreatMw4
import Derived.RangeFuncNested
import Derived.RangeFuncBound
import Derived.Shelf.RegionOpen
import Derived.OwnWalkIn
import Derived.LoopNIn
import Derived.LoopIn
set_option maxRecDepth 100000
set_option maxHeartbeats 32000000
namespace Go.Proofs.YtjagagpcjpcjjaaGreat
open Go.RowKit Go.Shelf
theorem Vr {M:Nat->Prop} {W W':World} {a:Option Addr} {c:Nat} {x:List Int} {row:Option Nat} (h:Sl M W a c x) (hg:W.grownBy W' row) (hr:∀r,row=some r->∃o:Obj,W.heap[r]? =some o/\o.isCells=false):Sl M W' a c x:=by
 refine ⟨h.1,h.2.1,fun j y hj=> ?_⟩;obtain ⟨b,off,cs,h1,h2,h3,h4,h5⟩:=h.2.2 j y hj;exact ⟨b,off,cs,h1,eZ h2 hg.size,h3,h4,fun i u hi=>cell_kept (h5 i u hi) hg hr⟩
theorem xH {W W':World} (h:Below W.heap.size W W'):W.grownBy W' none:=⟨h.1,h.2,h.3,h.size,fun k hk _=>h.block k hk⟩
def Goes (B:Nat) (W W':World):Prop:=∀I:Unit->World->Prop,OwnFrom B I->I () W->I () W'
def Dr (nL B:Nat) (A W:World):Prop:=A.heap.size<=W.heap.size/\∀k,k<nL->k≠B->W.heap[k]? =A.heap[k]?
theorem Dr.trans {nL B:Nat} {A W V:World} (h:Dr nL B A W) (k:Dr nL B W V):Dr nL B A V:=⟨dH h.1 k.1,fun i hi hb=>(k.2 i hi hb).trans (h.2 i hi hb)⟩
theorem Dr.of_below {nL B:Nat} {A W:World} (h:Below A.heap.size A W) (hn:nL<=A.heap.size):Dr nL B A W:=⟨h.size,fun k hk _=>h.block k ah⟩
theorem Dr.refl (nL B:Nat) (A:World):Dr nL B A A:=⟨bM _,fun _ _ _=>rfl⟩
theorem Dr.cell {nL B:Nat} {A W:World} (h:Dr nL B A W) {b o:Nat} {v:Value} (hl:b<nL) (hb:b≠B) (hc:A.cell? ⟨b,o,none⟩=some v):W.cell? ⟨b,o,none⟩=some v:=(dD (a:=⟨b,o,none⟩) (h.2 b hl hb)).trans hc
theorem Dr.sl {α:Type} [GR α] {A W:World} {B:Nat} {M:Nat->Prop} {a:Option Addr} {c:Nat} {l:List α} (h:Dr A.heap.size B A W) (hM:M B) (hs:Sl M A a c l):Sl M W a c l:=
 hs.ext ⟨h.1,fun k hk hm=>h.2 k hk (fun e=>hm (e▸hM)),fun _ _ h=>h⟩
section
variable {F:Fence} {n:Nat} {P:Program}
theorem Md (B:Nat) {g:Operand} {p:Tmp} {assign body:Code} {Q:Exit->Act->World->Prop} {a:Act} {w:World} (hro:F.round=none) (h1:1<=n) {gf:Nat} {lb:Array Value} (hg:a.eval g= .func (.func gf) #[] lb) (hFg:F.fn gf) (eg:∀args w,(callFunc gf args).run P w= .ok (.enter gf args) w) (J:List (List Int)->World->Prop) (hJ:OwnFrom w.heap.size J) {xs:List (List Int)} (af5:∀(l:Nat) (J':List (List Int)->World->Prop) (W:World),Below w.heap.size w W->(∀K A B,J' K A->Below A.heap.size A B->J' K B)-> (∀K (x:List Int) (ax:Option Addr) (cx:Nat) W0 W1,J' K W0->Below W0.heap.size W0 W1->Sl (fun k=>k<W0.heap.size) W1 ax cx x->K++[x]<+:xs-> YieldAt F (n-1-1) P l #[.slice ax x.length cx] W1 fun e W'=>e= .returned (.bool true)/\J' (K++[x]) W'/\Dr w.heap.size B W1 W')-> J' [] W->CallsIn F (n-1) P gf (#[.func (.yield l) #[] #[]]++lb) W fun e W'=>(∃v,e= .returned v)/\J' xs W') (h0:J [] w) (a₁:Value->Act) (Me:∀(l:Nat) (v:Value) (W:World) (K:Act->World->Prop),K (a₁ v) W-> assign.wpIn (F.inRound l) (n-1-1) P (Exit.then K (fun _ _ _=>False)) {tmps:=(#[p].zip #[v]).foldl (fun t (p,v)=>t.setIfInBounds p v) a.tmps,defers:=[]} W) (aat:∀(l:Nat) (K:List (List Int)) (x:List Int) (ax:Option Addr) (cx:Nat) (W0 W1:World),w.heap.size<=l->J K W0->Goes w.heap.size W0 W1->W0.heap.size<=W1.heap.size->w.heap.size<=W0.heap.size->Sl (fun k=>k<W0.heap.size) W1 ax cx x->K++[x]<+:xs-> body.wpIn (F.inRound l) (n-1-1) P (ownPostG w.heap.size (Dr w.heap.size B) J (fun _ _ _=>False) (K++[x]) W1) (a₁ (.slice ax x.length cx)) W1) (aau:∀(D:Nat) (W:World),w.heap.size<=D->J xs W->W.heap[D]? =some (.deferred (some []))->Q .normal {a with defers:={target:= .collected D,args:= #[]}::a.defers} W):(Code.rangeFunc g #[p] assign body).wpIn F n P Q a w:=by
 refine wpIn_rangeFunc ?_;intro fn hfn;rw [hro];obtain ⟨rec,hrec⟩:∃rec:LoopState->Option Code->Loop,rec=fun st pe=>{state:=st,pending:=pe,fn,tmps:=a.tmps,params:= #[p],assign,body,defers:=w.heap.size}:=⟨_,rfl⟩;obtain ⟨Ws,hWs⟩:∃Ws,(w.alloc (.deferred (some []))).alloc (.loop (rec .ready none))=Ws:=⟨_,rfl⟩;have hL1:Ws.heap[w.heap.size+1]? =some (.loop (rec .ready none)):=by rw [<-hWs];have:=World.alloc_heap_new (w.alloc (.deferred (some []))) (.loop (rec .ready none));rwa [aqc] at this
 have hK1:Ws.heap[w.heap.size]? =some (.deferred (some [])):=by rw [<-hWs];exact (fA _ _ _ aH).trans (World.alloc_heap_new w _)
 have hI1:J [] Ws:=by rw [<-hWs];exact hJ.alloc _ (hJ.alloc _ h0)
 have hb1:Below w.heap.size w Ws:=by rw [<-hWs];exact (((bP _ w).alloc (bM _) _).alloc aH _)
 refine ⟨w.heap.size+1,[{target:= .collected w.heap.size,args:= #[]}],Ws,{target:= .fn (.func gf) lb,args:= #[.func (.yield (w.heap.size+1)) #[] #[]]},Ws,gf,
  #[.func (.yield (w.heap.size+1)) #[] #[]]++lb,Ws,?_,?_,?_,?_,fun _=>h1,?_⟩
 ·rw [<-hWs,hrec];exact run_enterLoop_outer _ _ _ _ _
 ·simp only [resolve,hg];simp [go_sem]
 ·intro f' hf';simp [Target.leads] at hf';subst hf';exact hFg
 ·simp [invoke,go_sem,eg]
 refine (af5 (w.heap.size+1)
  (fun K W=>J K W/\W.heap[w.heap.size+1]? =some (.loop (rec .ready none))/\W.heap[w.heap.size]? =some (.deferred (some []))/\w.heap.size<=W.heap.size)
  Ws hb1 (fun K A B hs hb=>⟨hJ K A B none hs.1 (xH hb) (fun r e=>by cases e),(hb.block _ (Array.getElem?_eq_some_iff.1 hs.2.1).1).trans hs.2.1,(hb.block _ (Array.getElem?_eq_some_iff.1 hs.2.2.1).1).trans hs.2.2.1,dH hs.2.2.2 hb.size⟩)
  ?_ ⟨hI1,hL1,hK1,hb1.size⟩).mono ?_
 ·rintro K x ax cx W0 W1 ⟨hi,hl,hk,hz⟩ hb hs hpx;have hl1:=(hb.block _ (Array.getElem?_eq_some_iff.1 hl).1).trans hl;have hk1:=(hb.block _ (Array.getElem?_eq_some_iff.1 hk).1).trans hk;have hlt:w.heap.size+1<W1.heap.size:=(Array.getElem?_eq_some_iff.1 hl1).1;have hy:=run_yield (P:=P) (args:= #[.slice ax x.length cx]) hl1 (by rw [hrec];rfl);rw [hrec] at hy;refine ⟨fn,_,assign,body,hy,roundIn_of_wpIn hfn (Me _ _ W1 _ ?_)⟩;clear hy;refine ⟨_,run_beginRound hl1 (by rw [hrec]),?_⟩;have hl2:(W1.putObj (w.heap.size+1) (.loop {rec .ready none with state:= .busy})).heap[w.heap.size+1]? =some (.loop {rec .ready none with state:= .busy}):=World.putObj_heap_same hlt;have hk2:(W1.putObj (w.heap.size+1) (.loop {rec .ready none with state:= .busy})).heap[w.heap.size]? =some (.deferred (some [])):=(World.putObj_heap_other ah).trans hk1
  have hgo:Goes w.heap.size W0 (W1.putObj (w.heap.size+1) (.loop {rec .ready none with state:= .busy})):=fun I hI hw=>
   hI.putObj _ (hI () W0 W1 none hw (xH hb) (fun r e=>by cases e)) ah hl1 rfl
  have hpb:∀(A:World) (o':Obj),Dr w.heap.size B A (A.putObj (w.heap.size+1) o'):=fun A o'=>⟨aH,fun k hk _=>World.putObj_heap_other ah⟩;refine wpIn_mono (aat _ K x ax cx W0 _ ah hi hgo (iq hb.size) hz (Vr hs (grownBy_putObj' W1 _ _) (fun r e=>by cases e;exact ⟨_,hl1,rfl⟩)) hpx) ?_;rintro e a3 W3 hp;cases e with
  |normal=>
   obtain ⟨hk3,aiC,hi3⟩:=hp;have hl3:=hk3.same _ _ ah hl2 rfl;have hr:=run_endRound (P:=P) none hl3;have hk4:=hk3.same _ _ (bM _) hk2 rfl;have hsz:w.heap.size<=W3.heap.size:=ig ((Array.getElem?_eq_some_iff.1 hl3).1);rw [hrec] at hr hl3 hl1 aiC;refine ⟨_,_,hr,rfl,⟨hJ.putObj _ hi3 ah hl3 rfl,?_,(World.putObj_heap_other ah).trans hk4,iq hsz⟩,?_⟩;·rw [hrec];exact World.putObj_heap_same (Array.getElem?_eq_some_iff.1 hl3).1
   exact ((hpb _ _).trans aiC).trans (hpb _ _)
  |ret=>exact hp.2.elim
  |exit id=>exact hp.2.elim
  |goto t=>exact hp.2.elim
  |panic ch=>exact hp.elim
  |outgrown=>exact hp.elim
 rintro e W2 ⟨⟨v,rfl⟩,hi,hl,hk, -⟩;exact ⟨none,_,by have:=run_endLoop (P:=P) hl (by rw [hrec];simp);rw [hrec] at this;exact this,aau _ _ (bM _) (hJ.putObj _ hi ah hl rfl) ((World.putObj_heap_other ah).trans hk)⟩
theorem Ba (B:Nat) (q:Tmp) {g:Operand} {p:Tmp} {assign body:Code} {Q:Exit->Act->World->Prop} {a:Act} {w:World}
    (hro:F.round=none) (h1:1<=n) {gf:Nat} {lb:Array Value} (hg:a.eval g= .func (.func gf) #[] lb) (hFg:F.fn gf) (eg:∀args w,(callFunc gf args).run P w= .ok (.enter gf args) w)
    (J:List (List Int)->World->Prop) (hJ:OwnFrom w.heap.size J) {xs:List (List Int)}
    (af5:∀(l:Nat) (J':List (List Int)->World->Prop) (W:World),Below w.heap.size w W->(∀K A B,J' K A->Below A.heap.size A B->J' K B)->
     (∀K (x:List Int) (ax:Option Addr) (cx:Nat) W0 W1,J' K W0->Below W0.heap.size W0 W1->Sl (fun k=>k<W0.heap.size) W1 ax cx x->K++[x]<+:xs->
      YieldAt F (n-1-1) P l #[.slice ax x.length cx] W1 fun e W'=>e= .returned (.bool true)/\J' (K++[x]) W'/\Dr w.heap.size B W1 W')->
     J' [] W->CallsIn F (n-1) P gf (#[.func (.yield l) #[] #[]]++lb) W fun e W'=>(∃v,e= .returned v)/\J' xs W')
    (h0:J [] w)
    (Me:∀(l:Nat) (v:Value) (W:World) (K:Act->World->Prop),K {tmps:=(a.tmps.setIfInBounds p v).setIfInBounds q v,defers:=[]} W->
     assign.wpIn (F.inRound l) (n-1-1) P (Exit.then K (fun _ _ _=>False)) {tmps:=a.tmps.setIfInBounds p v,defers:=[]} W)
    (aat:∀(l:Nat) (K:List (List Int)) (x:List Int) (ax:Option Addr) (cx:Nat) (W0 W1:World),w.heap.size<=l->J K W0->Goes w.heap.size W0 W1->W0.heap.size<=W1.heap.size->w.heap.size<=W0.heap.size->Sl (fun k=>k<W0.heap.size) W1 ax cx x->K++[x]<+:xs->
     body.wpIn (F.inRound l) (n-1-1) P (ownPostG w.heap.size (Dr w.heap.size B) J (fun _ _ _=>False) (K++[x]) W1) {tmps:=(a.tmps.setIfInBounds p (.slice ax x.length cx)).setIfInBounds q (.slice ax x.length cx),defers:=[]} W1)
    (aau:∀(D:Nat) (W:World),w.heap.size<=D->J xs W->W.heap[D]? =some (.deferred (some []))->Q .normal {a with defers:={target:= .collected D,args:= #[]}::a.defers} W):
    (Code.rangeFunc g #[p] assign body).wpIn F n P Q a w:=
 Md B hro h1 hg hFg eg J hJ af5 h0 (fun v=>{tmps:=(a.tmps.setIfInBounds p v).setIfInBounds q v,defers:=[]}) (fun l v W K hK=>by
  have e:(#[p].zip #[v]).foldl (fun t (p,v)=>t.setIfInBounds p v) a.tmps=a.tmps.setIfInBounds p v:=aH
  rw [e]
  exact Me l v W K hK) aat aau
end
