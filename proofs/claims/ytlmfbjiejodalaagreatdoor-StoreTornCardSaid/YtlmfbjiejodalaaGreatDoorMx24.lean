/- Several texts, one behind the other. Conditions: as each of them says. -/
import Derived.Test.YtlmfbjiejodalaaGreatDoorMx20
import Derived.Test.YtlmfbjiejodalaaGreatDoorMx7
import Derived.Recover
import Derived.Defers
import Derived.Laws.Pointers
set_option maxRecDepth 100000
set_option maxHeartbeats 32000000
namespace Go.Proofs.YtlmfbjiejodalaaGreatDoor
open Go.RowKit
section
variable {w:World} {M:Nat→Prop} {a:Option Addr} {c:Nat}
theorem failure_any (x:Int) (w:World):Calls Tryz.prog 116 #[.iface 44 (.int .i64 x)] w fun e w'=>e= .returned (.int .i64 x)∧w'=w:=by
 have hta:∀(xT:TypeId) (w:World),(Instr.typeAssert (.iface 44 (.int .i64 x)) xT 44 true).run Tryz.prog w= .ok (.tuple #[.int .i64 x,.bool true]) w:=fun _ _=>by kernel_rfl
 go_enter Tryz.func116,Tryz.ntmps116
 go_wp2
 go_ret
 exact ⟨rfl,rfl⟩
theorem catchI_idle (p2 p3 p4:Addr) (w:World):
    CallsD Tryz.prog 115 #[.pointer (some p2),.pointer (some p3),.pointer (some p4)] .returning w fun e u' w'=>e= .returned (.tuple #[])∧u'= .returning∧w'=w:=by
 refine callsD_of_wpS Tryz.func115 rfl fun c₀ cs hu=> ?_
 apply wpS_seq
 apply wpS_region
 simp [wpOpsS,go_sem,recoverD,hu,Tryz.ntmps115,Exit.thenS]
 apply wpS_seq
 apply wpS_region
 simp [wpOpsS,go_sem,Exit.thenS,Act.put]
 refine wpS_cond (t:=false) (by simp [Act.eval]) ?_
 simp only [Bool.false_eq_true,if_false]
 refine wpS_of_wp (wp_skip ?_)
 cases c₀
 simp_all [bodyPostS,results,Tryz.results115]
theorem catchI_pan (b:Nat) (x y2 y3 y4:Int) (older:List PanicEntry) (w:World) (h2:w.cell? ⟨b,0,none⟩=some (.int .i64 y2)) (z2:w.frozen? ⟨b,0,none⟩=false) (h3:w.cell? ⟨b+1,0,none⟩=some (.int .i64 y3)) (z3:w.frozen? ⟨b+1,0,none⟩=false) (h4:w.cell? ⟨b+1+1,0,none⟩=some (.int .i64 y4)) (z4:w.frozen? ⟨b+1+1,0,none⟩=false):
    CallsD Tryz.prog 115 #[.pointer (some ⟨b,0,none⟩),.pointer (some ⟨b+1,0,none⟩),.pointer (some ⟨b+1+1,0,none⟩)] (.panicking ({v:= .iface 44 (.int .i64 x),recovered:=false}::older)) w fun e u' w'=>e= .returned (.tuple #[])∧u'= .panicking ({v:= .iface 44 (.int .i64 x),recovered:=true}::older)∧w'=((w.setCell ⟨b,0,none⟩ (.int .i64 0)).setCell ⟨b+1,0,none⟩ (.int .i64 0)).setCell ⟨b+1+1,0,none⟩ (.int .i64 x):=by
 refine callsD_of_wpS Tryz.func115 rfl fun c₀ cs hu=> ?_
 apply wpS_seq
 apply wpS_region
 simp [wpOpsS,go_sem,recoverD,hu,Tryz.ntmps115,Exit.thenS]
 apply wpS_seq
 apply wpS_region
 simp [wpOpsS,go_sem,Exit.thenS,Act.put]
 refine wpS_cond (t:=true) (by simp [Act.eval]) ?_
 simp only [if_true]
 refine wpS_of_wp ?_
 simp only [Array.replicate_succ,Array.replicate_zero,List.push_toArray,List.nil_append,List.cons_append,List.append_toArray,List.setIfInBounds_toArray,List.set_cons_zero,List.set_cons_succ]
 go_wp2_with fail
 refine (failure_any x w).mono ?_
 rintro e w1 ⟨rfl,rfl⟩
 go_wp2
 simp [bodyPostS,results,Tryz.results115]
def onN (Q:Exit→Act→World→Prop):Exit→Act→World→Prop
 | .normal,a,w=>Q .normal a w
 |_,_,_=>False
theorem wp_onN {P:Program} {Q:Exit→Act→World→Prop} {a:Act} {w:World} {c:Code} (h:c.wp P (onN Q) a w):c.wp P Q a w:=
 wp_mono h fun e a w h=>by
  cases e with
  |normal=>exact h
  |_=>exact h.elim
theorem onN_normal {Q:Exit→Act→World→Prop} {a:Act} {w:World} (h:Q .normal a w):onN Q .normal a w:=h
theorem take_new {L:List By} {T0:TypeId} {z:Value} (hs:Sl M w a c L) {w4:World} (h:w4=(((w.alloc (.cells #[z] T0)).alloc (.cells #[.int .i64 0] 3)).alloc (.cells #[.int .i64 0] 44)).alloc (.cells #[.slice a L.length c,.int .i64 0] 181)):
    Src w4 (w.heap.size+1+1+1) a c L 0∧w4.heap[w.heap.size]? =some (.cells #[z] T0 (0,0))∧w4.heap[w.heap.size+1]? =some (.cells #[.int .i64 0] 3 (0,0))∧w4.heap[w.heap.size+1+1]? =some (.cells #[.int .i64 0] 44 (0,0))∧Below w.heap.size w w4:=by
 have hb:Below w.heap.size w w4:=by
  rw [h];exact ((((Below.refl _ _).alloc (Nat.le_refl _) _).alloc (by simp) _).alloc (by simp;omega) _).alloc (by simp;omega) _
 refine ⟨⟨?_,hs.ext ⟨hb.size,fun k hk _=>hb.block k hk,fun k hk e=>by omega⟩,Nat.zero_le _⟩,?_,?_,?_,hb⟩
 ·subst h;simpa using heap_alloc_new (((w.alloc (.cells #[z] T0)).alloc (.cells #[.int .i64 0] 3)).alloc (.cells #[.int .i64 0] 44)) (.cells #[.slice a L.length c,.int .i64 0] 181)
 ·subst h;exact heap_old (heap_old (heap_old (heap_alloc_new w _)))
 ·subst h;exact heap_old (heap_old (by simpa using heap_alloc_new (w.alloc (.cells #[z] T0)) (.cells #[.int .i64 0] 3)))
 subst h;exact heap_old (by simpa using heap_alloc_new ((w.alloc (.cells #[z] T0)).alloc (.cells #[.int .i64 0] 3)) (.cells #[.int .i64 0] 44))
theorem cell0 {b:Nat} {v:Value} {T:TypeId} (h:w.heap[b]? =some (.cells #[v] T (0,0))):w.cell? ⟨b,0,none⟩=some v∧w.frozen? ⟨b,0,none⟩=false:=by
 constructor
 ·rw [cell_of_row _ _ _ _ _ _ h];rfl
 unfold World.frozen?;rw [h];rfl
theorem set0 {b:Nat} {v:Value} {T:TypeId} (h:w.heap[b]? =some (.cells #[v] T (0,0))) (u:Value):(w.setCell ⟨b,0,none⟩ u).heap[b]? =some (.cells #[u] T (0,0)):=by
 unfold World.setCell
 show (w.heap.modify b _)[b]? =_
 rw [Array.getElem?_modify,if_pos rfl,h]
 rfl
structure Tk (w:World) (b:Nat) (T0:TypeId) (v2 v3 v4 va:Value):Prop where
 h2:w.heap[b]? =some (.cells #[v2] T0 (0,0))
 h3:w.heap[b+1]? =some (.cells #[v3] 3 (0,0))
 h4:w.heap[b+1+1]? =some (.cells #[v4] 44 (0,0))
 hs:w.cell? ⟨b+1+1+1,1,none⟩=some va
theorem Tk.set2 {b:Nat} {T0:TypeId} {v2 v3 v4 va:Value} (h:Tk w b T0 v2 v3 v4 va) (u:Value):Tk (w.setCell ⟨b,0,none⟩ u) b T0 u v3 v4 va:=
 ⟨set0 h.h2 u,(Below.heap_setCell _ _ _ _ (by first|(simp;done)|(simp;omega))).trans h.h3,(Below.heap_setCell _ _ _ _ (by first|(simp;done)|(simp;omega))).trans h.h4,(World.cell?_setCell_other _ _ _ _ (by first|(simp;done)|(simp;omega))).trans h.hs⟩
theorem Tk.set3 {b:Nat} {T0:TypeId} {v2 v3 v4 va:Value} (h:Tk w b T0 v2 v3 v4 va) (u:Value):Tk (w.setCell ⟨b+1,0,none⟩ u) b T0 v2 u v4 va:=
 ⟨(Below.heap_setCell _ _ _ _ (by first|(simp;done)|(simp;omega))).trans h.h2,set0 h.h3 u,(Below.heap_setCell _ _ _ _ (by first|(simp;done)|(simp;omega))).trans h.h4,(World.cell?_setCell_other _ _ _ _ (by first|(simp;done)|(simp;omega))).trans h.hs⟩
theorem Tk.set4 {b:Nat} {T0:TypeId} {v2 v3 v4 va:Value} (h:Tk w b T0 v2 v3 v4 va) (u:Value):Tk (w.setCell ⟨b+1+1,0,none⟩ u) b T0 v2 v3 u va:=
 ⟨(Below.heap_setCell _ _ _ _ (by first|(simp;done)|(simp;omega))).trans h.h2,(Below.heap_setCell _ _ _ _ (by first|(simp;done)|(simp;omega))).trans h.h3,set0 h.h4 u,(World.cell?_setCell_other _ _ _ _ (by first|(simp;done)|(simp;omega))).trans h.hs⟩
theorem takeint_ok {n:Int} (hn:i64 n) {L R:List By} (hs:Sl M w a c L) (hL:Hid (L=putI n++R)):
    Calls Tryz.prog 66 #[.slice a L.length c] w fun e w'=>e= .returned (.tuple #[.int .i64 n,.int .i64 ((putI n).length:Nat),.int .i64 0])∧Below w.heap.size w w':=by
 have hmf:∀(fn:Fn) (first cap:Array Value) (w:World),(Instr.makeFunc fn first cap).run Tryz.prog w= .ok (.func fn first cap) w:=fun _ _ _ _=>rfl
 have ll:=hs.le
 obtain ⟨w4,hw4⟩:∃w4,w4=(((w.alloc (.cells #[.int .i64 0] 3)).alloc (.cells #[.int .i64 0] 3)).alloc (.cells #[.int .i64 0] 44)).alloc (.cells #[.slice a L.length c,.int .i64 0] 181):=⟨_,rfl⟩
 have HT:=Lib.hid (take_new hs hw4)
 have hc:=number_ok hn HT.out.1 (R:=R) (by simpa using hL)
 obtain ⟨q,hq⟩:∃q,q=(putI n).length:=⟨_,rfl⟩
 rw [←hq] at hc ⊢
 rw [hw4] at hc
 have HC:=Lib.hid hc
 clear hc hq
 have HE:=Lib.hid hw4
 clear hs hw4
 go_enter_defers Tryz.func66,Tryz.ntmps66
 go_wp2_with fail
 refine (HC.out).mono ?_
 rintro e w5 ⟨rfl,hS5,hK5⟩
 rw [←HE.out] at hK5
 have hz4:w.heap.size+1+1+1<w4.heap.size:=HT.out.1.lt
 have T5:Tk w5 w.heap.size 3 (.int .i64 0) (.int .i64 0) (.int .i64 0) (.int .i64 (q:Nat)):=
  ⟨(hK5.block (w.heap.size) (by omega) (by simp;omega)).trans HT.out.2.1,(hK5.block (w.heap.size+1) (by omega) (by simp)).trans HT.out.2.2.1,(hK5.block (w.heap.size+1+1) (by omega) (by simp)).trans HT.out.2.2.2.1,by have:=hS5.at.2.1;rw [Nat.zero_add] at this;exact this⟩
 have hB5:=HT.out.2.2.2.2.trans (kb_below hK5 (B:=w.heap.size) (by omega) (by have:=HT.out.2.2.2.2.size;omega))
 have z5:=(cell0 T5.h2).2
 have c5:=(cell0 T5.h2).1
 have T6:=(T5.set2 (.int .i64 n))
 have hB6:=hB5.setCell (p:=⟨w.heap.size,0,none⟩) (Nat.le_refl _) (.int .i64 n)
 have HT6:=Lib.hid T6
 have HB6:=Lib.hid hB6
 clear HC hK5 hS5 hz4 T5 hB5 T6 hB6
 go_wp2
 refine wp_onN ?_
 refine wp_region_L (fun w'=>w'.cell? ⟨w.heap.size,0,none⟩=some (.int .i64 n)∧w'.cell? ⟨w.heap.size+1+1+1,1,none⟩=some (.int .i64 (q:Nat))) [0,1,2,3,4] (by kernel_rfl) ?_
 have HTd:Hid (Tk (w5.setCell ⟨w.heap.size,0,none⟩ (.int .i64 n)).drew w.heap.size 3 (.int .i64 n) (.int .i64 0) (.int .i64 0) (.int .i64 (q:Nat))):=⟨HT6.out.h2,HT6.out.h3,HT6.out.h4,HT6.out.hs⟩
 have HBd:=Lib.hid (HB6.out.drew)
 clear HT6 HB6 z5 c5
 generalize (w5.setCell ⟨w.heap.size,0,none⟩ (.int .i64 n)).drew=w6 at*
 have hS6:=And.intro (cell0 HTd.out.h2).1 HTd.out.hs
 have f2:=(cell0 HTd.out.h2).2
 refine skL_on [0,1,2,3,4] ?_
 repeat (refine skL_take (v:= ?_) rfl ?_ ?_;rotate_left;(focus (intro w' hSw;(try dsimp only at hSw);go_simp;try with_reducible rfl));try simp only [Act.put,List.setIfInBounds_toArray,List.set_cons_zero,List.set_cons_succ])
 refine skL_off ?_
 refine wpAnyL_one (i:=5) (by kernel_rfl) rfl rfl (fun K hK=> ?_)
 go_simp
 have HT7:=Lib.hid (HTd.out.set2 (.int .i64 n))
 have hS7:=And.intro (cell0 HT7.out.h2).1 HT7.out.hs
 have HB7:=Lib.hid (HBd.out.setCell (p:=⟨w.heap.size,0,none⟩) (Nat.le_refl _) (.int .i64 n))
 refine hK _ _ (fun _=>hS7) ?_
 clear hK K HTd HBd hS6 f2
 generalize w6.setCell ⟨w.heap.size,0,none⟩ (.int .i64 n)=w7 at*
 have c3:=(cell0 HT7.out.h3).1
 have f3:=(cell0 HT7.out.h3).2
 refine wpAnyL_one (i:=6) (by kernel_rfl) rfl rfl (fun K hK=> ?_)
 go_simp
 have HT8:=Lib.hid (HT7.out.set3 (.int .i64 (q:Nat)))
 have hS8:=And.intro (cell0 HT8.out.h2).1 HT8.out.hs
 have HB8:=Lib.hid (HB7.out.setCell (p:=⟨w.heap.size+1,0,none⟩) (by simp) (.int .i64 (q:Nat)))
 refine hK _ _ (fun _=>hS8) ?_
 clear hK K HT7 HB7 hS7 c3 f3
 generalize w7.setCell ⟨w.heap.size+1,0,none⟩ (.int .i64 (q:Nat))=w8 at*
 have c4:=(cell0 HT8.out.h4).1
 have f4:=(cell0 HT8.out.h4).2
 refine wpAnyL_one (i:=7) (by kernel_rfl) rfl rfl (fun K hK=> ?_)
 go_simp
 have HT9:=Lib.hid (HT8.out.set4 (.int .i64 0))
 have hS9:=And.intro (cell0 HT9.out.h2).1 HT9.out.hs
 have HB9:=Lib.hid (HB8.out.setCell (p:=⟨w.heap.size+1+1,0,none⟩) (by simp;omega) (.int .i64 0))
 refine hK _ _ (fun _=>hS9) ?_
 clear hK K HT8 HB8 hS8 c4 f4
 generalize w8.setCell ⟨w.heap.size+1+1,0,none⟩ (.int .i64 0)=w9 at*
 refine wpAnyL_done (by kernel_rfl) ?_ _
 refine onN_normal ?_
 clear hS9
 have c2:=(cell0 HT9.out.h2).1
 have c3:=(cell0 HT9.out.h3).1
 have c4:=(cell0 HT9.out.h4).1
 go_wp2
 refine leaves_cons (f:=115) (args:= #[.pointer (some ⟨w.heap.size,0,none⟩),.pointer (some ⟨w.heap.size+1,0,none⟩),.pointer (some ⟨w.heap.size+1+1,0,none⟩)]) (by simp) (by simp [go_sem]) ?_
 refine (catchI_idle _ _ _ _).mono ?_
 rintro e u' w'' ⟨rfl,rfl,rfl⟩
 simp [Leaves,settle,results,Tryz.results66,go_sem,c2,c3,c4]
 exact HB9.out
theorem takeint_torn {L:List By} (hs:Sl M w a c L) (hall:Hid (∀x∈L,128≤x.n)) (hl:L.length<10):
    Calls Tryz.prog 66 #[.slice a L.length c] w fun e w'=>e= .returned (.tuple #[.int .i64 0,.int .i64 0,.int .i64 4])∧Below w.heap.size w w':=by
 have hmf:∀(fn:Fn) (first cap:Array Value) (w:World),(Instr.makeFunc fn first cap).run Tryz.prog w= .ok (.func fn first cap) w:=fun _ _ _ _=>rfl
 have ll:=hs.le
 obtain ⟨w4,hw4⟩:∃w4,w4=(((w.alloc (.cells #[.int .i64 0] 3)).alloc (.cells #[.int .i64 0] 3)).alloc (.cells #[.int .i64 0] 44)).alloc (.cells #[.slice a L.length c,.int .i64 0] 181):=⟨_,rfl⟩
 have HT:=Lib.hid (take_new hs hw4)
 have hc:=number_torn HT.out.1 hall hl
 rw [hw4] at hc
 have HC:=Lib.hid hc
 have HE:=Lib.hid hw4
 clear hs hw4 hc
 go_enter_defers Tryz.func66,Tryz.ntmps66
 go_wp2_with fail
 refine (HC.out).mono ?_
 rintro e w5 ⟨rfl,hb5⟩
 rw [←HE.out] at hb5
 have hz4:w.heap.size+1+1+1<w4.heap.size:=HT.out.1.lt
 have c2:=cell0 ((hb5.block (w.heap.size) (by omega)).trans HT.out.2.1)
 have c3:=cell0 ((hb5.block (w.heap.size+1) (by omega)).trans HT.out.2.2.1)
 have c4:=cell0 ((hb5.block (w.heap.size+1+1) (by omega)).trans HT.out.2.2.2.1)
 have HB5:=Lib.hid (((HT.out.2.2.2.2.trans (hb5.mono (by omega))).setCell (p:=⟨w.heap.size,0,none⟩) (Nat.le_refl _) (.int .i64 0)).setCell (p:=⟨w.heap.size+1,0,none⟩) (by simp) (.int .i64 0) |>.setCell (p:=⟨w.heap.size+1+1,0,none⟩) (by simp;omega) (.int .i64 4))
 have T5:Tk w5 w.heap.size 3 (.int .i64 0) (.int .i64 0) (.int .i64 0) (.int .i64 ((0:Nat):Int)):=
  ⟨(hb5.block (w.heap.size) (by omega)).trans HT.out.2.1,(hb5.block (w.heap.size+1) (by omega)).trans HT.out.2.2.1,(hb5.block (w.heap.size+1+1) (by omega)).trans HT.out.2.2.2.1,(hb5.cell (p:=⟨w.heap.size+1+1+1,1,none⟩) hz4).trans HT.out.1.at.2.1⟩
 have HT8:=Lib.hid (((T5.set2 (.int .i64 0)).set3 (.int .i64 0)).set4 (.int .i64 4))
 clear HC hb5 hz4 T5
 go_wp2
 refine leaves_cons (f:=115) (args:= #[.pointer (some ⟨w.heap.size,0,none⟩),.pointer (some ⟨w.heap.size+1,0,none⟩),.pointer (some ⟨w.heap.size+1+1,0,none⟩)]) (by simp) (by simp [go_sem]) ?_
 refine (catchI_pan w.heap.size 4 0 0 0 [] w5 c2.1 c2.2 c3.1 c3.2 c4.1 c4.2).mono ?_
 rintro e u' w'' ⟨rfl,rfl,hw⟩
 rw [←hw] at HT8 HB5
 have d2:=(cell0 HT8.out.h2).1
 have d3:=(cell0 HT8.out.h3).1
 have d4:=(cell0 HT8.out.h4).1
 clear hw
 simp [Leaves,settle,results,Tryz.results66,go_sem,d2,d3,d4]
 exact HB5.out
end
theorem drop_enc {α:Type} (f:α→List By) {l:List α} {k:Nat} {x:α} (hx:l[k]? =some x) {L pre R:List By} {p:Nat} (hL:L.drop p=pre++(l.map f).flatten++R):
    ∃R',L.drop (p+(pre++((l.take k).map f).flatten).length)=f x++R':=by
 obtain ⟨hk,he⟩:=List.getElem?_eq_some_iff.1 hx
 have e:(l.map f).flatten=((l.take k).map f).flatten++(f x++((l.drop (k+1)).map f).flatten):=by
  conv=>lhs;rw [←List.take_append_drop k l,List.drop_eq_getElem_cons hk,he]
  simp
 refine ⟨((l.drop (k+1)).map f).flatten++R,?_⟩
 rw [←List.drop_drop,hL,e]
 have e2:pre++(((l.take k).map f).flatten++(f x++((l.drop (k+1)).map f).flatten))++R=(pre++((l.take k).map f).flatten)++(f x++(((l.drop (k+1)).map f).flatten++R)):=by simp
 rw [e2,List.drop_left]
section
variable {w w1:World} {M:Nat→Prop} {a:Option Addr} {c g B:Nat}
theorem Ow.kbI {T:TypeId} {v:Value} {l:List Int} (h:Ow B M w T v l) (k:Kb g w w1) (hg:g<B):Ow B M w1 T v l:=by
 have hlt:=h.lt
 obtain ⟨xs,h1,h2⟩:=h
 exact ⟨xs,ownsRow_same h1 (fun q hq=>k.block q (hlt q hq).2 (by intro e;simp at e;have:=(hlt q hq).1;omega)),h2⟩
theorem list_ok {l:List Int} (hl:Hid (∀x∈l,i64 x)) (hn:l.length<1000000000) {L R:List By} {p:Nat} (hS:Src w g a c L p) (hL:Hid (L.drop p=encL l++R)):
    Calls Tryz.prog 169 #[.pointer (some ⟨g,0,none⟩)] w fun e w'=>∃(a':Option Addr) (c':Nat) (l':List Int),e= .returned (.slice a' l'.length c')∧Hid (l'=l)∧Ow w.heap.size (fun k=>w.heap.size≤k) w' 3 (.slice a' l'.length c') l'∧Src w' g a c L (p+(encL l).length)∧Kb g w w':=by
 have HC:=Lib.hid (length_ok (n:=l.length) (by omega) hS (R:=(l.map putI).flatten++R) (by unfold Hid;rw [hL.out];unfold encL;simp))
 have hgl:=hS.lt
 have HN:=Lib.hid hn
 have HS0:=Lib.hid hS.sl
 clear hS hn
 go_enter Tryz.func169,Tryz.ntmps169
 go_wp2_with fail
 refine (HC.out).mono ?_
 rintro e w1 ⟨rfl,hS1,hK1⟩
 have HS1:=Lib.hid hS1
 clear HC hS1
 go_wp2
 go_loopw [3,4] (fun v n wr=>∃(k:Nat) (z:Int) (a':Option Addr) (c':Nat) (L':List Int),k≤l.length∧n= .int .i64 z∧Hid (z=(l.length:Int)-k)∧v= .slice a' L'.length c'∧Hid (L'=l.take k)∧Ow w.heap.size (fun k=>w.heap.size≤k) wr 3 (.slice a' L'.length c') L'∧Hid (Src wr g a c L (p+(putI l.length++((l.take k).map putI).flatten).length))∧Kb g w wr) (fun _ n _=>(intOf n).toNat)
 case atStart=>exact ⟨0,_,none,0,[],by omega,rfl,Lib.hid (by simp),rfl,Lib.hid (by simp),Ow.nil,Lib.hid (by simpa using HS1.out),hK1⟩
 case round=>
  clear HS1 hK1
  obtain ⟨k,z,a2,c2,L',hk,rfl,hz,rfl,hL',hO,hSk,hKk⟩:=hrel
  obtain ⟨wo,rfl⟩:∃wo:World,wo=wr:=⟨_,rfl⟩
  have hzs:=hKk.size
  by_cases hlt:k<l.length
  ·have hx:=List.getElem?_eq_getElem hlt
   obtain ⟨x,hxe⟩:∃x,x=l[k]:=⟨_,rfl⟩
   rw [←hxe] at hx
   have hxi:=hl.out x (List.mem_of_getElem? hx)
   obtain ⟨R',hR'⟩:=drop_enc putI hx (p:=p) (pre:=putI l.length) (L:=L) (R:=R) (by rw [hL.out];rfl)
   have HC:=Lib.hid (number_ok hxi (hSk.out) hR')
   have hz0:0<z:=by have:=hz.out;omega
   have hz1:z≤1000000000:=by have:=hz.out;have:=HN.out;omega
   have HX:=Lib.hid hx
   clear hx hxe hR'
   go_wp2_with fail
   refine (HC.out).mono ?_
   rintro e w3 ⟨rfl,hS3,hK3⟩
   have hO3:=hO.kbI hK3 hgl
   have hKn:=kb_trans hKk hK3
   have hz3:=hKn.size
   have hSn:Hid (Src w3 g a c L (p+(putI l.length++((l.take (k+1)).map putI).flatten).length)):=by
    unfold Hid
    rw [map_snocB putI HX.out]
    have e:p+(putI l.length++(((l.take k).map putI).flatten++putI x)).length=p+(putI l.length++((l.take k).map putI).flatten).length+(putI x).length:=by simp only [List.length_append];omega
    rw [e];exact hS3
   have hLl:Hid (L'.length<1000000000):=by unfold Hid;rw [hL'.out,List.length_take];have:=HN.out;omega
   have hLk:Hid (L'++[x]=l.take (k+1)):=by unfold Hid;rw [List.take_add_one,HX.out,hL'.out];rfl
   clear HC hO hK3 hS3 hKk hSk
   go_wp2_with (at_builtin;refine wpList_push_i (B:=w.heap.size) (l:=L') (y:=x) rfl rfl Tryz.underlying62 info_int rfl rfl (hO3.alloc _) (by simp [go_sem]) hxi (by have:=hLl.out;omega) (by simp;omega) ?_)
   intro a4 c4 L4 w4 hL4 hO4 hb4
   have hb4':=((Below.refl w.heap.size w3).alloc hz3 (.cells #[.int .i64 x] 3)).trans hb4
   have hK4:=kb_bel hKn hb4'
   have hS4:Hid (Src w4 g a c L (p+(putI l.length++((l.take (k+1)).map putI).flatten).length)):=
    ⟨(hb4'.block g hgl).trans hSn.out.cell,HS0.out.kb hK4 (fun _ _ e=>e) rfl,hSn.out.le⟩
   have hL5:Hid (L4=l.take (k+1)):=by unfold Hid;rw [hL4.out];exact hLk.out
   clear hb4 hb4' hKn hSn hO3 hL4 hLk hL'
   go_wp2
   go_roundw
   case rel=>exact ⟨k+1,z-1,a4,c4,L4,by omega,by go_num,Lib.hid (by have:=hz.out;omega),rfl,hL5,hO4,hS4,hK4⟩
   case measure=>simp [intOf];omega
  have hz0:¬0<z:=by have:=hz.out;omega
  have hF:Hid (L'=l):=by unfold Hid;rw [hL'.out,List.take_of_length_le (by omega)]
  have hSF:Hid (Src wo g a c L (p+(encL l).length)):=by have h:=hSk.out;rw [List.take_of_length_le (by omega)] at h;exact h
  go_wp2
  go_ret
  exact ⟨a2,c2,L',rfl,hF,hO,hSF.out,hKk⟩
end
end Go.Proofs.YtlmfbjiejodalaaGreatDoor
