/- Lemmas, each with its own conditions. -/
import Derived.Test.YtjagagpcjpcjjaaGreatMw28
import Derived.RangeFuncNested
import Derived.RangeFuncBound
set_option maxRecDepth 100000
set_option maxHeartbeats 32000000
namespace Go.Proofs.YtjagagpcjpcjjaaGreat
open Tryz
open Go.RowKit Go.Shelf
attribute [local go_sem] Oper.semAt_some
structure tL where
 sa:Option Addr
 sn:Nat
 sc:Nat
 inp:Int
 ka:Option Addr
 kn:Nat
 kc:Nat
abbrev tL.val (x:tL):Value:= .agg #[.slice x.sa x.sn x.sc,.int .i64 x.inp,.slice x.ka x.kn x.kc]
abbrev tL.obj (x:tL):Obj:= .cells #[.slice x.sa x.sn x.sc,.int .i64 x.inp,.slice x.ka x.kn x.kc] 179
def tL.leaf (x:tL):Bool:=decide (x.inp= -1)
def NVs (n₀:Nat) (W:World) (a:Option Addr) (V:List tL):Prop:=
 ∀j x,V[j]? =some x->∃b off,a=some ⟨b,off,none⟩/\b<n₀/\W.cell? ⟨b,off+j*3,none⟩=some (.slice x.sa x.sn x.sc)/\W.cell? ⟨b,off+j*3+1,none⟩=some (.int .i64 x.inp)/\W.cell? ⟨b,off+j*3+2,none⟩=some (.slice x.ka x.kn x.kc)
theorem NVs.below {n₀:Nat} {A B:World} {a:Option Addr} {V:List tL} (h:Below n₀ A B) (hv:NVs n₀ A a V):NVs n₀ B a V:=fun j x hj=>by
 obtain ⟨b,off,h1,h2,h3,h4,h5⟩:=hv j x hj
 exact ⟨b,off,h1,h2,(h.cell (p:=⟨b,off+j*3,none⟩) h2).trans h3,(h.cell (p:=⟨b,off+j*3+1,none⟩) h2).trans h4,(h.cell (p:=⟨b,off+j*3+2,none⟩) h2).trans h5⟩
def tL.of (x:tL) (nd:Nd):Prop:=x.sn=nd.st.length/\x.inp=nd.inp
theorem Sl.nvs {M:Nat->Prop} {w:World} {a:Option Addr} {c:Nat} {L:List Nd} (h:Sl M w a c L):∃V:List tL,V.length=L.length/\NVs w.heap.size w a V/\∀(j:Nat) (x:tL) (nd:Nd),V[j]? =some x->L[j]? =some nd->x.of nd:=by
 have h1:∀j:Fin L.length,∃x:tL,x.of L[j]/\∃b off,a=some ⟨b,off,none⟩/\b<w.heap.size/\w.cell? ⟨b,off+j.1*3,none⟩=some (.slice x.sa x.sn x.sc)/\w.cell? ⟨b,off+j.1*3+1,none⟩=some (.int .i64 x.inp)/\w.cell? ⟨b,off+j.1*3+2,none⟩=some (.slice x.ka x.kn x.kc):=by
  intro j;obtain ⟨b,off,a1,c1,a2,c2,q,ha,h1,h2,h3,hq, -, -, -⟩:=h.Dx j.2;have e:q=L[j]:=by have:=hq.out;rw [bN j.2] at this;simpa using this.symm
  exact ⟨⟨a1,q.st.length,c1,q.inp,a2,q.kids.length,c2⟩,by rw [<-e];exact ⟨rfl,rfl⟩,b,off,ha,by rw [ha] at h;exact h.lt j.2,h1,h2,h3⟩
 obtain ⟨f,hf⟩:=Classical.axiomOfChoice h1;refine ⟨List.ofFn f,aH,fun j x hj=> ?_,fun j x nd hj hn=> ?_⟩
 ·rw [List.getElem?_ofFn] at hj;split at hj;·rename_i hjl;obtain rfl:=fH hj;exact (hf ⟨j,hjl⟩).2
  cases hj
 rw [List.getElem?_ofFn] at hj;split at hj;·rename_i hjl;obtain rfl:=fH hj;rw [bN hjl] at hn;obtain rfl:=fH hn;exact (hf ⟨j,hjl⟩).1
 cases hj
theorem TS (F:Fence) (n:Nat) (h7:F.fn 219) (hro:F.round=none) (hn:1<=n) (l Bs n₀ cap:Nat) (a:Option Addr) (V:List tL) (MK:V.length<1000000) (J Jx:List tL->World->Prop) (W:World) (hJ:AbidesFrom W.heap.size J) (hY:∀pre x W,J pre W->pre.length<V.length->YieldAt F (n-1) prog l #[x.val] W fun e W'=> (e= .returned (.bool true)/\J (pre++[x]) W'/\Below n₀ W W')\/(e= .returned (.bool false)/\Jx (pre++[x]) W')) (hBs:W.cell? ⟨Bs,0,none⟩=some (.slice a V.length cap)) (hn0:n₀<=W.heap.size) (hV:NVs n₀ W a V) (h0:J [] W):CallsIn F n prog 219 #[.func (.yield l) #[] #[],.pointer (some ⟨Bs,0,none⟩)] W fun e W'=>(∃v,e= .returned v)/\ ((∃ys,ys=V.filter tL.leaf/\J ys W')\/(∃pre,(∃k,k<=V.length/\pre=(V.take k).filter tL.leaf)/\Jx pre W')):=by
 refine ash func219 rfl h7 ?_ hro;simp only [ntmps219,aqS,fD,ap6,Nat.reduceAdd,Nat.reduceSub,aqB,aqC,aqT,aqL,gJ,gu];have hWs:W.heap.size<=W.heap.size:=bM _;gi_wp2
 gi_loopw [8] (fun i wr=>∃k:Nat,k<=V.length/\i= .int .i64 k/\J ((V.take k).filter tL.leaf) wr/\Below n₀ W wr)
  (fun i _=>V.length-(intOf i).toNat)
 case atStart=>exact ⟨0,ap1 _,rfl,h0,bP _ _⟩
 case round=>
  obtain ⟨k,hk,rfl,hJs,hnx⟩:=hrel;by_cases hlt:k<V.length
  ·obtain ⟨x,hx⟩:∃x,V[k]? =some x:=⟨_,bN hlt⟩;obtain ⟨b,off,rfl,hb,hc0,hc1,hc2⟩:=hV.below hnx k x hx;have abz:(V.take (k+1)).filter tL.leaf=(V.take k).filter tL.leaf++if x.leaf then [x] else []:=by rw [dh,hx,fV];congr 1;cases e:x.leaf<;>simp [e]
   have hJa:J ((V.take k).filter tL.leaf) (wr.alloc x.obj):=hJ _ wr _ none hJs (World.grownBy_alloc wr _ none) (fun r e=>by cases e);have hJl:((V.take k).filter tL.leaf).length<V.length:=eO (fK _ _) aJ;have hK1:Hid (k+1<=V.length/\Below n₀ wr (wr.alloc x.obj)):=⟨hlt,(bP n₀ wr).alloc (dH hn0 (by have:=hWs;have:=hnx.size;omega)) _⟩;by_cases hin:x.inp= -1
   ·have hlf:x.leaf=true:=by simp [tL.leaf,hin]
    obtain ⟨fn,tmps,assign,body,hy,hR⟩:=hY _ x (wr.alloc x.obj) hJa hJl;rw [hlf,bQ rfl] at abz;dsimp only [tL.val] at hy;have ahq:(x.inp== -1)=true:=by simp [hin]
    clear hin hlf;gi_wp2
    refine hR.mono ?_;rintro e W3 (⟨rfl,hJ3,hk3⟩|⟨rfl,anI⟩)
    ·gi_wp2
     go_roundw;case rel=>exact ⟨k+1,ah,aH,by rw [abz];exact hJ3,hnx.trans (hK1.out.2.trans hk3)⟩
     case measure=>exact bF
    gi_wp2
    refine dG (results_none rfl _ _ _) rfl ?_;exact ⟨⟨_,rfl⟩,.inr ⟨_,⟨k+1,ah,abz.symm⟩,anI⟩⟩
   have hlf:x.leaf=false:=by simp [tL.leaf,hin]
   rw [hlf,bO aH,gD] at abz;have ahq:(x.inp== -1)=false:=by simp [hin]
   gi_wp2
   refine ⟨fun _ h=>(by cases h),?_⟩;gi_wp2
   go_roundw;case rel=>exact ⟨k+1,ah,aH,by rw [abz];exact hJa,hnx.trans hK1.out.2⟩
   case measure=>exact bF
  obtain rfl:k=V.length:=ah;gi_wp2
  go_end0
  exact ⟨⟨_,rfl⟩,.inl ⟨_,by rw [dV],hJs⟩⟩
theorem Ya (F:Fence) (n:Nat) (h5:F.fn 180) (hro:F.round=none) (a:Option Addr) (len cap:Nat) (w:World):CallsIn F n prog 180 #[.agg #[.slice a len cap]] w fun e w'=>e= .returned (.func (.func 219) #[] #[.pointer (some ⟨w.heap.size,0,none⟩)])/\w'=w.alloc (.cells #[.slice a len cap] 119):=by
 refine ash func180 rfl h5 ?_ hro;simp only [ntmps180,aqS,fD,ap6,Nat.reduceAdd,Nat.reduceSub,aqB,aqC,aqT,aqL,gJ,gu];gi_wp2
 go_ret;exact ⟨rfl,rfl⟩
theorem ML (F:Fence) (n:Nat) (h7:F.fn 219) (hro:F.round=none) (hn:1<=n) (Bs n₀ cap:Nat) (a:Option Addr) (V:List tL) (MK:V.length<1000000) (w:World) (hBs:Bs<w.heap.size) (hn₀:n₀<=w.heap.size)
    (hc:w.cell? ⟨Bs,0,none⟩=some (.slice a V.length cap)) (hV:NVs n₀ w a V):
    SeqStopsK F n prog 219 #[.pointer (some ⟨Bs,0,none⟩)] (fun x:tL=> #[x.val]) (Below n₀) (fun ys=>ys=V.filter tL.leaf) (fun pre=>∃k,k<=V.length/\pre=(V.take k).filter tL.leaf) V.length w:=fun l J Jx W hW hJ _ hY h0=>
 TS F n h7 hro hn l Bs n₀ cap a V MK J Jx W hJ hY ((hW.cell (p:=⟨Bs,0,none⟩) hBs).trans hc) (dH hn₀ hW.size) (hV.below (hW.mono hn₀)) h0
def lZ (L:List Nd):Bool:=L.all (fun x=>decide (x.inp≠ -1\/x.st.length=1))&&decide (0<L.length)
def aea (W:World) (B:Nat) (x:tL):Prop:=W.heap[B]? =some x.obj
theorem abA {β:Type} (B:Nat) (x:tL):Own (fun (_:β) W=>aea W B x):=fun s X Y row hs hg yP=>by
 refine (hg.block B (Array.getElem?_eq_some_iff.1 hs).1 (fun e'=> ?_)).trans hs
 obtain ⟨o,ho,hc⟩:=yP B e'.symm
 rw [show X.heap[B]? =_ from hs] at ho;cases ho;cases hc
theorem aea.cell0 {W:World} {B:Nat} {x:tL} (h:aea W B x):W.cell? ⟨B,0,none⟩=some (.slice x.sa x.sn x.sc):=by simp [World.cell?,show W.heap[B]? =_ from h]
theorem abB (F:Fence) (n:Nat) (h3:F.fn 134) (h4:F.fn 180) (h5:F.fn 219) (hro:F.round=none) (hn:6<=n) (a:Option Addr) (cap:Nat) (V:List tL) (MK:V.length<1000000) (w:World) (hV:NVs w.heap.size w a V):CallsIn F n prog 134 #[.agg #[.slice a V.length cap]] w fun e W'=>e= .returned (.bool ((V.filter tL.leaf).all (fun x=>decide (x.sn=1))&&decide (0<V.length)))/\Below w.heap.size w W':=by
 have h1:1<=n:=ah;refine callsIn_of_wp_marks func134 rfl h3 ?_ hro;simp only [ntmps134,aqS,fD,ap6,Nat.reduceAdd,Nat.reduceSub,aqB,aqC,aqT,aqL,gJ,gu];gi_wp2_with (gi_at_call 180;refine (Ya F (n-1) h4 hro _ _ _ _).mono ?_;rintro e w' ⟨rfl,rfl⟩)
 have bT:=((Boxed.new w 119 (.slice a V.length cap)).alloc (.cells #[.bool false] 4)).alloc (.cells #[.slice a V.length cap] 119);have bR:=(Boxed.new (w.alloc (.cells #[.slice a V.length cap] 119)) 4 (.bool false)).alloc (.cells #[.slice a V.length cap] 119);have bA:=Boxed.new ((w.alloc (.cells #[.slice a V.length cap] 119)).alloc (.cells #[.bool false] 4)) 119 (.slice a V.length cap);simp only [aqc] at bR bA;have hB0:Below w.heap.size w (((w.alloc (.cells #[.slice a V.length cap] 119)).alloc (.cells #[.bool false] 4)).alloc (.cells #[.slice a V.length cap] 119)):=(((bP _ w).alloc (bM _) _).alloc aH _).alloc aJ _;have hsz:(((w.alloc (.cells #[.slice a V.length cap] 119)).alloc (.cells #[.bool false] 4)).alloc (.cells #[.slice a V.length cap] 119)).heap.size=w.heap.size+3:=aH;obtain ⟨W0,hW0⟩:∃W0,((w.alloc (.cells #[.slice a V.length cap] 119)).alloc (.cells #[.bool false] 4)).alloc (.cells #[.slice a V.length cap] 119)=W0:=⟨_,rfl⟩;rw [hW0] at bT bR bA hB0 hsz ⊢;clear hW0
 refine wpIn_rangeFunc_ownH hro h1 (gf:=219) (lb:= #[.pointer (some ⟨w.heap.size+1+1,0,none⟩)]) rfl h5 (enters_of func219 aB rfl)
  (ML F (n-1) h5 hro ah (w.heap.size+1+1) w.heap.size cap a V MK W0 ah ah bA.cell (hV.below hB0)) belowK_t (belowK_b ah) (bP _ _) (fun _=>rfl)
  (fun pre W=>(((∀x∈pre,x.sn=1)/\Boxed W (w.heap.size+1) 4 (.bool false))/\Boxed W w.heap.size 119 (.slice a V.length cap))/\Below w.heap.size w W)
  (fun c pre W=>((c= .ret/\∃x∈pre,x.sn≠1)/\Boxed W (w.heap.size+1) 4 (.bool false))/\Below w.heap.size w W)
  (OwnFrom.and (OwnFrom.and (OwnFrom.and (ownFrom_pure _ _) (Own.from (boxed_own _ _ _) _)) (Own.from (boxed_own _ _ _) _)) (ownFrom_below (bM _) ah))
  (fun c=>OwnFrom.and (OwnFrom.and (ownFrom_pure _ _) (Own.from (boxed_own _ _ _) _)) (ownFrom_below (bM _) ah))
  ⟨⟨⟨aH,bR⟩,bT⟩,hB0⟩
  (fun x a' W=>∃Bx,w.heap.size+1<Bx/\aea W Bx x/\a'={tmps:= #[.agg #[.slice a V.length cap],.pointer (some ⟨w.heap.size,0,none⟩),.pointer (some ⟨w.heap.size+1,0,none⟩),.pointer (some ⟨Bx,0,none⟩),.agg #[.slice a V.length cap],.func (.func 219) #[] #[.pointer (some ⟨w.heap.size+1+1,0,none⟩)],x.val,undef,undef,undef,undef,undef,undef,undef,undef],defers:=[]})
  (fun x a' _ X Y row hs hg hr=>by obtain ⟨Bx,e1,e2,e3⟩:=hs;exact ⟨Bx,e1,abA Bx x () X Y row e2 hg (fun r e=>(hr r e).2),e3⟩)
  ?assign ?body ?done ?stop
 case assign=>
  rintro l pre x W K ⟨⟨⟨hp,VK⟩,bB1⟩,hB1⟩ hK;gi_wp2
  exact hK _ _ ((KeepsOthers.alloc _ _).from _) ((bP _ W).alloc hB1.size _) ⟨⟨⟨hp,VK.alloc _⟩,bB1.alloc _⟩,hB1.alloc hB1.size _⟩ ⟨W.heap.size,VK.lt,World.alloc_heap_new W _,rfl⟩
 case body=>
  rintro l pre x a' W hl ⟨r,hr⟩ ⟨⟨⟨hp,VK⟩,bB1⟩,hB1⟩ ⟨Bx,hBx,bX,rfl⟩ hlt;have cR:=VK.cell;have fR:=VK.frozen;have cX:=bX.cell0;by_cases hx1:x.sn=1
  ·have hx2:((x.sn:Int) !=1)=false:=by simp [hx1]
   have hx1:=bK hx1;gi_wp2
   exact ⟨KeepsFrom.refl _ _,bP _ _,⟨⟨fun z hz=>(eG.1 hz).elim (hp z) (fun e=>by simp at e;subst e;exact hx1.out),VK⟩,bB1⟩,hB1⟩
  have hx2:((x.sn:Int) !=1)=true:=aJ;gi_wp2
  exact ⟨(KeepsOthers.setCell _ _ _).from _,⟨⟨rfl,x,eG.2 (.inr aH),hx1⟩,VK.set _⟩,hB1.setCell (p:=⟨w.heap.size+1,0,none⟩) aH _⟩
 case done=>
  rintro D zs W hD rfl ⟨⟨⟨hp,VK⟩,bT1⟩,hB1⟩ hK;have cR:=VK.cell;have fR:=VK.frozen;have cT:=bT1.cell;have kE:(V.filter tL.leaf).all (fun x=>decide (x.sn=1))=true:=by rw [f_];intro x hx;exact dw (hp x hx)
  have kE:=bK kE;clear hp;by_cases hV0:0<V.length
  ·have PS:Hid ((V.filter tL.leaf).all (fun x=>decide (x.sn=1))&&decide (0<V.length)):=by unfold Hid;rw [kE.out,aq1];exact dw hV0
   gi_wp2
   have hK':=(KeepsOthers.setCell W ⟨w.heap.size+1,0,none⟩ (.bool true)).same D _ hK rfl;refine ⟨aH,.inl ⟨_,_,rfl,run_takeDeferred hK',?_⟩⟩;have DF:=cell_kept (VK.set (.bool true)).cell (grownBy_putObj' _ D (.deferred none)) (fun r e=>by cases e;exact ⟨_,hK',rfl⟩);refine ⟨.bool true,?_,by rw [PS.out],(hB1.setCell (p:=⟨w.heap.size+1,0,none⟩) aH _).trans (belowK_b (w:=w) (bM _) _ D _ _ ah hK' rfl rfl)⟩;simp [results,f134,go_sem,DF]
  have PS:Hid (((V.filter tL.leaf).all (fun x=>decide (x.sn=1))&&decide (0<V.length))=false):=bK (by rw [kE.out,aq1];exact cZ hV0);gi_wp2
  have hK':=(KeepsOthers.setCell W ⟨w.heap.size+1,0,none⟩ (.bool false)).same D _ hK rfl;refine ⟨aH,.inl ⟨_,_,rfl,run_takeDeferred hK',?_⟩⟩;have DF:=cell_kept (VK.set (.bool false)).cell (grownBy_putObj' _ D (.deferred none)) (fun r e=>by cases e;exact ⟨_,hK',rfl⟩);refine ⟨.bool false,?_,by rw [PS.out],(hB1.setCell (p:=⟨w.heap.size+1,0,none⟩) aH _).trans (belowK_b (w:=w) (bM _) _ D _ _ ah hK' rfl rfl)⟩;simp [results,f134,go_sem,DF]
 case stop=>
  rintro D c pre W hD ⟨k,hk,rfl⟩ ⟨⟨⟨rfl,x,hx,hy⟩,VK⟩,hB1⟩ hK;have kE:(V.filter tL.leaf).all (fun x=>decide (x.sn=1))=false:=by rw [aqw];exact ⟨x,(List.Sublist.filter _ (List.take_sublist k V)).subset hx,by simp [hy]⟩
  have PS:Hid (((V.filter tL.leaf).all (fun x=>decide (x.sn=1))&&decide (0<V.length))=false):=bK (by rw [kE,Bool.false_and]);clear kE;gi_wp2
  refine ⟨aH,.inl ⟨_,_,rfl,run_takeDeferred hK,?_⟩⟩;have DF:=cell_kept VK.cell (grownBy_putObj' _ D (.deferred none)) (fun r e=>by cases e;exact ⟨_,hK,rfl⟩);refine ⟨.bool false,?_,by rw [PS.out],hB1.trans (belowK_b (w:=w) (bM _) W D _ _ ah hK rfl rfl)⟩;simp [results,f134,go_sem,DF]
theorem Yb {V:List tL} {L:List Nd} (hl:V.length=L.length) (h:∀(j:Nat) (x:tL) (nd:Nd),V[j]? =some x->L[j]? =some nd->x.of nd):((V.filter tL.leaf).all (fun x=>decide (x.sn=1))&&decide (0<V.length))=lZ L:=by
 unfold lZ;rw [hl];congr 1
 rw [aqh,f_,f_];constructor
 ·intro hA nd hn;obtain ⟨j,hj⟩:=arn.1 hn;obtain ⟨x,hx⟩:∃x,V[j]? =some x:=⟨_,bN (by rw [hl];exact iW hj)⟩;obtain ⟨h1,h2⟩:=h j x nd hx hj;rw [gQ];by_cases e:nd.inp= -1;·right;have:=hA x (aq8.2 ⟨bV hx,by simp [tL.leaf,h2,e]⟩);rw [gQ,h1] at this;exact this
  exact .inl e
 intro hA x hx;obtain ⟨hx1,hx2⟩:=aq8.1 hx;obtain ⟨j,hj⟩:=arn.1 hx1;obtain ⟨nd,hn⟩:∃nd,L[j]? =some nd:=⟨_,bN (by rw [<-hl];exact iW hj)⟩;obtain ⟨h1,h2⟩:=h j x nd hj hn;have:=hA nd (bV hn);rw [gQ] at this ⊢;rw [h1];rcases this with e|e;·exfalso;simp [tL.leaf] at hx2;exact e (h2▸hx2)
 exact e
theorem Yc {M:Nat->Prop} {w:World} {a:Option Addr} {c:Nat} {L:List Nd} (hs:Sl M w a c L) (hl:Hid (L.length<1000000)):Calls prog 134 #[.agg #[.slice a L.length c]] w fun e w'=>e= .returned (.bool (lZ L))/\Below w.heap.size w w':=by
 obtain ⟨V,hV1,hV2,hV3⟩:=hs.nvs;have h:=(callsIn_wide (n:=6)).1 (abB Fence.wide 6 trivial trivial trivial rfl (bM _) a c V (by rw [hV1];exact hl.out) w hV2);rw [Yb hV1 hV3,hV1] at h;exact h
