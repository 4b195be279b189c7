/- Several texts, one behind the other. Conditions: as each of them says. -/
import Derived.Test.YtjagagpcjpcjjaaGreatMc29
import Derived.RangeFuncNested
import Derived.RangeFuncBound
import Derived.RangeFuncCalls
import Derived.RangeFuncLeaves
import Derived.Shelf.Abstract
import Derived.Shelf.RegionOpen
import Derived.WalkKit
import Derived.OwnWalkIn
import Derived.TacticsInMore
import Derived.LoopNIn
import Derived.LoopIn
set_option maxRecDepth 100000
set_option maxHeartbeats 32000000
namespace Go.Proofs.YtjagagpcjpcjjaaGreat
open Go.RowKit Go.Shelf
attribute [local go_sem] Oper.semAt_some
structure NdV where
 sa:Option Addr
 sn:Nat
 sc:Nat
 inp:Int
 ka:Option Addr
 kn:Nat
 kc:Nat
abbrev NdV.val (x:NdV):Value:= .agg #[.slice x.sa x.sn x.sc,.int .i64 x.inp,.slice x.ka x.kn x.kc]
abbrev NdV.obj (x:NdV):Obj:= .cells #[.slice x.sa x.sn x.sc,.int .i64 x.inp,.slice x.ka x.kn x.kc] 179
def NdV.leaf (x:NdV):Bool:=decide (x.inp= -1)
def NVs (n₀:Nat) (W:World) (a:Option Addr) (V:List NdV):Prop:=
 ∀j x,V[j]? =some x→∃b off,a=some ⟨b,off,none⟩∧b<n₀∧W.cell? ⟨b,off+j*3,none⟩=some (.slice x.sa x.sn x.sc)∧W.cell? ⟨b,off+j*3+1,none⟩=some (.int .i64 x.inp)∧W.cell? ⟨b,off+j*3+2,none⟩=some (.slice x.ka x.kn x.kc)
theorem NVs.below {n₀:Nat} {A B:World} {a:Option Addr} {V:List NdV} (h:Below n₀ A B) (hv:NVs n₀ A a V):NVs n₀ B a V:=fun j x hj=>by
 obtain ⟨b,off,h1,h2,h3,h4,h5⟩:=hv j x hj
 exact ⟨b,off,h1,h2,(h.cell (p:=⟨b,off+j*3,none⟩) h2).trans h3,(h.cell (p:=⟨b,off+j*3+1,none⟩) h2).trans h4,(h.cell (p:=⟨b,off+j*3+2,none⟩) h2).trans h5⟩
def NdV.of (x:NdV) (nd:Nd):Prop:=x.sn=nd.st.length∧x.inp=nd.inp
theorem Sl.nvs {M:Nat→Prop} {w:World} {a:Option Addr} {c:Nat} {L:List Nd} (h:Sl M w a c L):∃V:List NdV,V.length=L.length∧NVs w.heap.size w a V∧∀(j:Nat) (x:NdV) (nd:Nd),V[j]? =some x→L[j]? =some nd→x.of nd:=by
 have h1:∀j:Fin L.length,∃x:NdV,x.of L[j]∧∃b off,a=some ⟨b,off,none⟩∧b<w.heap.size∧w.cell? ⟨b,off+j.1*3,none⟩=some (.slice x.sa x.sn x.sc)∧w.cell? ⟨b,off+j.1*3+1,none⟩=some (.int .i64 x.inp)∧w.cell? ⟨b,off+j.1*3+2,none⟩=some (.slice x.ka x.kn x.kc):=by
  intro j
  obtain ⟨b,off,a1,c1,a2,c2,q,ha,h1,h2,h3,hq, -, -, -⟩:=h.at_nd j.2
  have e:q=L[j]:=by have:=hq.out;rw [List.getElem?_eq_getElem j.2] at this;simpa using this.symm
  exact ⟨⟨a1,q.st.length,c1,q.inp,a2,q.kids.length,c2⟩,by rw [←e];exact ⟨rfl,rfl⟩,b,off,ha,by rw [ha] at h;exact h.lt j.2,h1,h2,h3⟩
 obtain ⟨f,hf⟩:=Classical.axiomOfChoice h1
 refine ⟨List.ofFn f,by simp,fun j x hj=> ?_,fun j x nd hj hn=> ?_⟩
 ·rw [List.getElem?_ofFn] at hj
  split at hj
  ·rename_i hjl
   obtain rfl:=Option.some.inj hj
   exact (hf ⟨j,hjl⟩).2
  cases hj
 rw [List.getElem?_ofFn] at hj
 split at hj
 ·rename_i hjl
  obtain rfl:=Option.some.inj hj
  rw [List.getElem?_eq_getElem hjl] at hn
  obtain rfl:=Option.some.inj hn
  exact (hf ⟨j,hjl⟩).1
 cases hj
theorem leaves1_in (F:Fence) (n:Nat) (h7:F.fn 219) (hro:F.round=none) (hn:1≤n) (l Bs n₀ cap:Nat) (a:Option Addr) (V:List NdV) (hreach:V.length<1000000) (J Jx:List NdV→World→Prop) (W:World)
    (hJ:AbidesFrom W.heap.size J)
    (hY:∀pre x W,J pre W→pre.length<V.length→YieldAt F (n-1) Tryz.prog l #[x.val] W fun e W'=>
     (e= .returned (.bool true)∧J (pre++[x]) W'∧Below n₀ W W')∨(e= .returned (.bool false)∧Jx (pre++[x]) W'))
    (hBs:W.cell? ⟨Bs,0,none⟩=some (.slice a V.length cap)) (hn0:n₀≤W.heap.size) (hV:NVs n₀ W a V) (h0:J [] W):
    CallsIn F n Tryz.prog 219 #[.func (.yield l) #[] #[],.pointer (some ⟨Bs,0,none⟩)] W fun e W'=>(∃v,e= .returned v)∧
     ((∃ys,ys=V.filter NdV.leaf∧J ys W')∨(∃pre,(∃k,k≤V.length∧pre=(V.take k).filter NdV.leaf)∧Jx pre W')):=by
 refine callsIn_of_wp Tryz.func219 rfl h7 ?_ hro
 simp only [Tryz.ntmps219,List.size_toArray,List.length_cons,List.length_nil,Nat.reduceAdd,Nat.reduceSub,Array.replicate_succ,Array.replicate_zero,List.push_toArray,List.append_toArray,List.nil_append,List.cons_append]
 have hWs:W.heap.size≤W.heap.size:=Nat.le_refl _
 gi_wp2
 gi_loopw [8] (fun i wr=>∃k:Nat,k≤V.length∧i= .int .i64 k∧J ((V.take k).filter NdV.leaf) wr∧Below n₀ W wr)
  (fun i _=>V.length-(intOf i).toNat)
 case atStart=>exact ⟨0,Nat.zero_le _,rfl,h0,Below.refl _ _⟩
 case round=>
  obtain ⟨k,hk,rfl,hJs,hnx⟩:=hrel
  by_cases hlt:k<V.length
  ·obtain ⟨x,hx⟩:∃x,V[k]? =some x:=⟨_,List.getElem?_eq_getElem hlt⟩
   obtain ⟨b,off,rfl,hb,hc0,hc1,hc2⟩:=hV.below hnx k x hx
   have hfil:(V.take (k+1)).filter NdV.leaf=(V.take k).filter NdV.leaf++if x.leaf then [x] else []:=by
    rw [List.take_add_one,hx,List.filter_append];congr 1;cases e:x.leaf<;>simp [e]
   have hJa:J ((V.take k).filter NdV.leaf) (wr.alloc x.obj):=hJ _ wr _ none hJs (World.grownBy_alloc wr _ none) (fun r e=>by cases e)
   have hJl:((V.take k).filter NdV.leaf).length<V.length:=Nat.lt_of_le_of_lt (List.length_filter_le _ _) (by simp;omega)
   have hK1:Hid (k+1≤V.length∧Below n₀ wr (wr.alloc x.obj)):=⟨hlt,(Below.refl n₀ wr).alloc (Nat.le_trans hn0 (by have:=hWs;have:=hnx.size;omega)) _⟩
   by_cases hin:x.inp= -1
   ·have hlf:x.leaf=true:=by simp [NdV.leaf,hin]
    obtain ⟨fn,tmps,assign,body,hy,hR⟩:=hY _ x (wr.alloc x.obj) hJa hJl
    rw [hlf,if_pos rfl] at hfil
    dsimp only [NdV.val] at hy
    have hin2:(x.inp== -1)=true:=by simp [hin]
    clear hin hlf
    gi_wp2
    refine hR.mono ?_
    rintro e W3 (⟨rfl,hJ3,hk3⟩|⟨rfl,hJx3⟩)
    ·gi_wp2
     go_roundw
     case rel=>exact ⟨k+1,by omega,by simp,by rw [hfil];exact hJ3,hnx.trans (hK1.out.2.trans hk3)⟩
     case measure=>simp [intOf];omega
    gi_wp2
    refine bodyPost_ret (results_none rfl _ _ _) rfl ?_
    exact ⟨⟨_,rfl⟩,.inr ⟨_,⟨k+1,by omega,hfil.symm⟩,hJx3⟩⟩
   have hlf:x.leaf=false:=by simp [NdV.leaf,hin]
   rw [hlf,if_neg (by simp),List.append_nil] at hfil
   have hin2:(x.inp== -1)=false:=by simp [hin]
   gi_wp2
   refine ⟨fun _ h=>(by cases h),?_⟩
   gi_wp2
   go_roundw
   case rel=>exact ⟨k+1,by omega,by simp,by rw [hfil];exact hJa,hnx.trans hK1.out.2⟩
   case measure=>simp [intOf];omega
  obtain rfl:k=V.length:=by omega
  gi_wp2
  go_end0
  exact ⟨⟨_,rfl⟩,.inl ⟨_,by rw [List.take_length],hJs⟩⟩
theorem leaves_in (F:Fence) (n:Nat) (h5:F.fn 180) (hro:F.round=none) (a:Option Addr) (len cap:Nat) (w:World):
    CallsIn F n Tryz.prog 180 #[.agg #[.slice a len cap]] w fun e w'=>e= .returned (.func (.func 219) #[] #[.pointer (some ⟨w.heap.size,0,none⟩)])∧w'=w.alloc (.cells #[.slice a len cap] 119):=by
 refine callsIn_of_wp Tryz.func180 rfl h5 ?_ hro
 simp only [Tryz.ntmps180,List.size_toArray,List.length_cons,List.length_nil,Nat.reduceAdd,Nat.reduceSub,Array.replicate_succ,Array.replicate_zero,List.push_toArray,List.append_toArray,List.nil_append,List.cons_append]
 gi_wp2
 go_ret
 exact ⟨rfl,rfl⟩
theorem leaves_stops (F:Fence) (n:Nat) (h7:F.fn 219) (hro:F.round=none) (hn:1≤n) (Bs n₀ cap:Nat) (a:Option Addr) (V:List NdV) (hreach:V.length<1000000) (w:World) (hBs:Bs<w.heap.size) (hn₀:n₀≤w.heap.size)
    (hc:w.cell? ⟨Bs,0,none⟩=some (.slice a V.length cap)) (hV:NVs n₀ w a V):
    SeqStopsK F n Tryz.prog 219 #[.pointer (some ⟨Bs,0,none⟩)] (fun x:NdV=> #[x.val]) (Below n₀) (fun ys=>ys=V.filter NdV.leaf) (fun pre=>∃k,k≤V.length∧pre=(V.take k).filter NdV.leaf) V.length w:=fun l J Jx W hW hJ _ hY h0=>
 leaves1_in F n h7 hro hn l Bs n₀ cap a V hreach J Jx W hJ hY ((hW.cell (p:=⟨Bs,0,none⟩) hBs).trans hc) (Nat.le_trans hn₀ hW.size) (hV.below (hW.mono hn₀)) h0
def complB (L:List Nd):Bool:=L.all (fun x=>decide (x.inp≠ -1∨x.st.length=1))&&decide (0<L.length)
def Box3 (W:World) (B:Nat) (x:NdV):Prop:=W.heap[B]? =some x.obj
theorem box3_own {β:Type} (B:Nat) (x:NdV):Own (fun (_:β) W=>Box3 W B x):=fun s X Y row hs hg hrow=>by
 refine (hg.block B (Array.getElem?_eq_some_iff.1 hs).1 (fun e'=> ?_)).trans hs
 obtain ⟨o,ho,hc⟩:=hrow B e'.symm
 rw [show X.heap[B]? =_ from hs] at ho;cases ho;cases hc
theorem Box3.cell0 {W:World} {B:Nat} {x:NdV} (h:Box3 W B x):W.cell? ⟨B,0,none⟩=some (.slice x.sa x.sn x.sc):=by simp [World.cell?,show W.heap[B]? =_ from h]
theorem compl_in (F:Fence) (n:Nat) (h3:F.fn 134) (h4:F.fn 180) (h5:F.fn 219) (hro:F.round=none) (hn:6≤n) (a:Option Addr) (cap:Nat) (V:List NdV) (hreach:V.length<1000000) (w:World) (hV:NVs w.heap.size w a V):
    CallsIn F n Tryz.prog 134 #[.agg #[.slice a V.length cap]] w fun e W'=>e= .returned (.bool ((V.filter NdV.leaf).all (fun x=>decide (x.sn=1))&&decide (0<V.length)))∧Below w.heap.size w W':=by
 have h1:1≤n:=by omega
 refine callsIn_of_wp_marks Tryz.func134 rfl h3 ?_ hro
 simp only [Tryz.ntmps134,List.size_toArray,List.length_cons,List.length_nil,Nat.reduceAdd,Nat.reduceSub,Array.replicate_succ,Array.replicate_zero,List.push_toArray,List.append_toArray,List.nil_append,List.cons_append]
 gi_wp2_with (gi_at_call 180;refine (leaves_in F (n-1) h4 hro _ _ _ _).mono ?_;rintro e w' ⟨rfl,rfl⟩)
 have bT:=((Boxed.new w 119 (.slice a V.length cap)).alloc (.cells #[.bool false] 4)).alloc (.cells #[.slice a V.length cap] 119)
 have bR:=(Boxed.new (w.alloc (.cells #[.slice a V.length cap] 119)) 4 (.bool false)).alloc (.cells #[.slice a V.length cap] 119)
 have bA:=Boxed.new ((w.alloc (.cells #[.slice a V.length cap] 119)).alloc (.cells #[.bool false] 4)) 119 (.slice a V.length cap)
 simp only [World.size_alloc] at bR bA
 have hB0:Below w.heap.size w (((w.alloc (.cells #[.slice a V.length cap] 119)).alloc (.cells #[.bool false] 4)).alloc (.cells #[.slice a V.length cap] 119)):=(((Below.refl _ w).alloc (Nat.le_refl _) _).alloc (by simp) _).alloc (by simp;omega) _
 have hsz:(((w.alloc (.cells #[.slice a V.length cap] 119)).alloc (.cells #[.bool false] 4)).alloc (.cells #[.slice a V.length cap] 119)).heap.size=w.heap.size+3:=by simp
 obtain ⟨W0,hW0⟩:∃W0,((w.alloc (.cells #[.slice a V.length cap] 119)).alloc (.cells #[.bool false] 4)).alloc (.cells #[.slice a V.length cap] 119)=W0:=⟨_,rfl⟩
 rw [hW0] at bT bR bA hB0 hsz ⊢
 clear hW0
 refine wpIn_rangeFunc_ownH hro h1 (gf:=219) (lb:= #[.pointer (some ⟨w.heap.size+1+1,0,none⟩)]) rfl h5 (enters_of Tryz.func219 (by kernel_rfl) rfl)
  (leaves_stops F (n-1) h5 hro (by omega) (w.heap.size+1+1) w.heap.size cap a V hreach W0 (by omega) (by omega) bA.cell (hV.below hB0)) belowK_t (belowK_b (by omega)) (Below.refl _ _) (fun _=>rfl)
  (fun pre W=>(((∀x∈pre,x.sn=1)∧Boxed W (w.heap.size+1) 4 (.bool false))∧Boxed W w.heap.size 119 (.slice a V.length cap))∧Below w.heap.size w W)
  (fun c pre W=>((c= .ret∧∃x∈pre,x.sn≠1)∧Boxed W (w.heap.size+1) 4 (.bool false))∧Below w.heap.size w W)
  (OwnFrom.and (OwnFrom.and (OwnFrom.and (ownFrom_pure _ _) (Own.from (boxed_own _ _ _) _)) (Own.from (boxed_own _ _ _) _)) (ownFrom_below (Nat.le_refl _) (by omega)))
  (fun c=>OwnFrom.and (OwnFrom.and (ownFrom_pure _ _) (Own.from (boxed_own _ _ _) _)) (ownFrom_below (Nat.le_refl _) (by omega)))
  ⟨⟨⟨by simp,bR⟩,bT⟩,hB0⟩
  (fun x a' W=>∃Bx,w.heap.size+1<Bx∧Box3 W Bx x∧a'={tmps:= #[.agg #[.slice a V.length cap],.pointer (some ⟨w.heap.size,0,none⟩),.pointer (some ⟨w.heap.size+1,0,none⟩),.pointer (some ⟨Bx,0,none⟩),.agg #[.slice a V.length cap],.func (.func 219) #[] #[.pointer (some ⟨w.heap.size+1+1,0,none⟩)],x.val,undef,undef,undef,undef,undef,undef,undef,undef],defers:=[]})
  (fun x a' _ X Y row hs hg hr=>by obtain ⟨Bx,e1,e2,e3⟩:=hs;exact ⟨Bx,e1,box3_own Bx x () X Y row e2 hg (fun r e=>(hr r e).2),e3⟩)
  ?assign ?body ?done ?stop
 case assign=>
  rintro l pre x W K ⟨⟨⟨hp,bR1⟩,bB1⟩,hB1⟩ hK
  gi_wp2
  exact hK _ _ ((KeepsOthers.alloc _ _).from _) ((Below.refl _ W).alloc hB1.size _) ⟨⟨⟨hp,bR1.alloc _⟩,bB1.alloc _⟩,hB1.alloc hB1.size _⟩ ⟨W.heap.size,bR1.lt,World.alloc_heap_new W _,rfl⟩
 case body=>
  rintro l pre x a' W hl ⟨r,hr⟩ ⟨⟨⟨hp,bR1⟩,bB1⟩,hB1⟩ ⟨Bx,hBx,bX,rfl⟩ hlt
  have cR:=bR1.cell
  have fR:=bR1.frozen
  have cX:=bX.cell0
  by_cases hx1:x.sn=1
  ·have hx2:((x.sn:Int) !=1)=false:=by simp [hx1]
   have hx1:=Lib.hid hx1
   gi_wp2
   exact ⟨KeepsFrom.refl _ _,Below.refl _ _,⟨⟨fun z hz=>(List.mem_append.1 hz).elim (hp z) (fun e=>by simp at e;subst e;exact hx1.out),bR1⟩,bB1⟩,hB1⟩
  have hx2:((x.sn:Int) !=1)=true:=by simp;omega
  gi_wp2
  exact ⟨(KeepsOthers.setCell _ _ _).from _,⟨⟨rfl,x,List.mem_append.2 (.inr (by simp)),hx1⟩,bR1.set _⟩,hB1.setCell (p:=⟨w.heap.size+1,0,none⟩) (by simp) _⟩
 case done=>
  rintro D zs W hD rfl ⟨⟨⟨hp,bR1⟩,bT1⟩,hB1⟩ hK
  have cR:=bR1.cell
  have fR:=bR1.frozen
  have cT:=bT1.cell
  have hall:(V.filter NdV.leaf).all (fun x=>decide (x.sn=1))=true:=by
   rw [List.all_eq_true];intro x hx;exact decide_eq_true (hp x hx)
  have hall:=Lib.hid hall
  clear hp
  by_cases hV0:0<V.length
  ·have hres:Hid ((V.filter NdV.leaf).all (fun x=>decide (x.sn=1))&&decide (0<V.length)):=by unfold Hid;rw [hall.out,Bool.true_and];exact decide_eq_true hV0
   gi_wp2
   have hK':=(KeepsOthers.setCell W ⟨w.heap.size+1,0,none⟩ (.bool true)).same D _ hK rfl
   refine ⟨by simp,.inl ⟨_,_,rfl,run_takeDeferred hK',?_⟩⟩
   have hc5:=cell_kept (bR1.set (.bool true)).cell (grownBy_putObj' _ D (.deferred none)) (fun r e=>by cases e;exact ⟨_,hK',rfl⟩)
   refine ⟨.bool true,?_,by rw [hres.out],(hB1.setCell (p:=⟨w.heap.size+1,0,none⟩) (by simp) _).trans (belowK_b (w:=w) (Nat.le_refl _) _ D _ _ (by omega) hK' rfl rfl)⟩
   simp [results,Tryz.f134,go_sem,hc5]
  have hres:Hid (((V.filter NdV.leaf).all (fun x=>decide (x.sn=1))&&decide (0<V.length))=false):=by unfold Hid;rw [hall.out,Bool.true_and];exact decide_eq_false hV0
  gi_wp2
  have hK':=(KeepsOthers.setCell W ⟨w.heap.size+1,0,none⟩ (.bool false)).same D _ hK rfl
  refine ⟨by simp,.inl ⟨_,_,rfl,run_takeDeferred hK',?_⟩⟩
  have hc5:=cell_kept (bR1.set (.bool false)).cell (grownBy_putObj' _ D (.deferred none)) (fun r e=>by cases e;exact ⟨_,hK',rfl⟩)
  refine ⟨.bool false,?_,by rw [hres.out],(hB1.setCell (p:=⟨w.heap.size+1,0,none⟩) (by simp) _).trans (belowK_b (w:=w) (Nat.le_refl _) _ D _ _ (by omega) hK' rfl rfl)⟩
  simp [results,Tryz.f134,go_sem,hc5]
 case stop=>
  rintro D c pre W hD ⟨k,hk,rfl⟩ ⟨⟨⟨rfl,x,hx,hy⟩,bR1⟩,hB1⟩ hK
  have hall:(V.filter NdV.leaf).all (fun x=>decide (x.sn=1))=false:=by
   rw [List.all_eq_false]
   exact ⟨x,(List.Sublist.filter _ (List.take_sublist k V)).subset hx,by simp [hy]⟩
  have hres:Hid (((V.filter NdV.leaf).all (fun x=>decide (x.sn=1))&&decide (0<V.length))=false):=by unfold Hid;rw [hall,Bool.false_and]
  clear hall
  gi_wp2
  refine ⟨by simp,.inl ⟨_,_,rfl,run_takeDeferred hK,?_⟩⟩
  have hc5:=cell_kept bR1.cell (grownBy_putObj' _ D (.deferred none)) (fun r e=>by cases e;exact ⟨_,hK,rfl⟩)
  refine ⟨.bool false,?_,by rw [hres.out],hB1.trans (belowK_b (w:=w) (Nat.le_refl _) W D _ _ (by omega) hK rfl rfl)⟩
  simp [results,Tryz.f134,go_sem,hc5]
theorem complB_eq {V:List NdV} {L:List Nd} (hl:V.length=L.length) (h:∀(j:Nat) (x:NdV) (nd:Nd),V[j]? =some x→L[j]? =some nd→x.of nd):((V.filter NdV.leaf).all (fun x=>decide (x.sn=1))&&decide (0<V.length))=complB L:=by
 unfold complB
 rw [hl]
 congr 1
 rw [Bool.eq_iff_iff,List.all_eq_true,List.all_eq_true]
 constructor
 ·intro hA nd hn
  obtain ⟨j,hj⟩:=List.mem_iff_getElem?.1 hn
  obtain ⟨x,hx⟩:∃x,V[j]? =some x:=⟨_,List.getElem?_eq_getElem (by rw [hl];exact some_lt hj)⟩
  obtain ⟨h1,h2⟩:=h j x nd hx hj
  rw [decide_eq_true_eq]
  by_cases e:nd.inp= -1
  ·right
   have:=hA x (List.mem_filter.2 ⟨List.mem_of_getElem? hx,by simp [NdV.leaf,h2,e]⟩)
   rw [decide_eq_true_eq,h1] at this
   exact this
  exact .inl e
 intro hA x hx
 obtain ⟨hx1,hx2⟩:=List.mem_filter.1 hx
 obtain ⟨j,hj⟩:=List.mem_iff_getElem?.1 hx1
 obtain ⟨nd,hn⟩:∃nd,L[j]? =some nd:=⟨_,List.getElem?_eq_getElem (by rw [←hl];exact some_lt hj)⟩
 obtain ⟨h1,h2⟩:=h j x nd hj hn
 have:=hA nd (List.mem_of_getElem? hn)
 rw [decide_eq_true_eq] at this ⊢
 rw [h1]
 rcases this with e|e
 ·exfalso
  simp [NdV.leaf] at hx2
  exact e (h2▸hx2)
 exact e
theorem compl_any {M:Nat→Prop} {w:World} {a:Option Addr} {c:Nat} {L:List Nd} (hs:Sl M w a c L) (hl:Hid (L.length<1000000)):
    Calls Tryz.prog 134 #[.agg #[.slice a L.length c]] w fun e w'=>e= .returned (.bool (complB L))∧Below w.heap.size w w':=by
 obtain ⟨V,hV1,hV2,hV3⟩:=hs.nvs
 have h:=(callsIn_wide (n:=6)).1 (compl_in Fence.wide 6 trivial trivial trivial rfl (Nat.le_refl _) a c V (by rw [hV1];exact hl.out) w hV2)
 rw [complB_eq hV1 hV3,hV1] at h
 exact h
end Go.Proofs.YtjagagpcjpcjjaaGreat
