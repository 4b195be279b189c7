/- Several texts, one behind the other. Conditions: as each of them says. -/
import Derived.Test.YtlmfbjiejodalaaGreatDoorMx24
import Derived.Test.YtlmfbjiejodalaaGreatDoorMx21
import Derived.Test.YtlmfbjiejodalaaGreatDoorMx9
import Derived.Test.YtlmfbjiejodalaaGreatDoorMx7
set_option maxRecDepth 100000
set_option maxHeartbeats 32000000
namespace Go.Proofs.YtlmfbjiejodalaaGreatDoor
open Go.RowKit
section
variable {w:World} {M:Nat→Prop} {a:Option Addr} {c:Nat}
theorem catchL_idle (p2 p3 p4:Addr) (w:World):
    CallsD Tryz.prog 216 #[.pointer (some p2),.pointer (some p3),.pointer (some p4)] .returning w fun e u' w'=>e= .returned (.tuple #[])∧u'= .returning∧w'=w:=by
 refine callsD_of_wpS Tryz.func216 rfl fun c₀ cs hu=> ?_
 apply wpS_seq
 apply wpS_region
 simp [wpOpsS,go_sem,recoverD,hu,Tryz.ntmps216,Exit.thenS]
 apply wpS_seq
 apply wpS_region
 simp [wpOpsS,go_sem,Exit.thenS,Act.put]
 refine wpS_cond (t:=false) (by simp [Act.eval]) ?_
 simp only [Bool.false_eq_true,if_false]
 refine wpS_of_wp (wp_skip ?_)
 cases c₀
 simp_all [bodyPostS,results,Tryz.results216]
theorem takeints_ok {l:List Int} (hl:Hid (∀x∈l,i64 x)) (hn:l.length<1000000000) {L R:List By} (hs:Sl M w a c L) (hL:Hid (L=encL l++R)):
    Calls Tryz.prog 166 #[.slice a L.length c] w fun e w'=>∃(a':Option Addr) (c':Nat) (l':List Int),e= .returned (.tuple #[.slice a' l'.length c',.int .i64 ((encL l).length:Nat),.int .i64 0])∧Hid (l'=l)∧Ow w.heap.size (fun k=>w.heap.size≤k) w' 3 (.slice a' l'.length c') l'∧Below w.heap.size w w':=by
 have hmf:∀(fn:Fn) (first cap:Array Value) (w:World),(Instr.makeFunc fn first cap).run Tryz.prog w= .ok (.func fn first cap) w:=fun _ _ _ _=>rfl
 have ll:=hs.le
 obtain ⟨w4,hw4⟩:∃w4,w4=(((w.alloc (.cells #[.slice none 0 0] 62)).alloc (.cells #[.int .i64 0] 3)).alloc (.cells #[.int .i64 0] 44)).alloc (.cells #[.slice a L.length c,.int .i64 0] 181):=⟨_,rfl⟩
 have HT:=Lib.hid (take_new hs hw4)
 have hc:=list_ok hl hn HT.out.1 (R:=R) (by simpa using hL)
 obtain ⟨q,hq⟩:∃q,q=(encL l).length:=⟨_,rfl⟩
 rw [←hq] at hc ⊢
 rw [hw4] at hc
 have HC:=Lib.hid hc
 clear hc hq
 have HE:=Lib.hid hw4
 clear hs hw4
 go_enter_defers Tryz.func166,Tryz.ntmps166
 go_wp2_with fail
 refine (HC.out).mono ?_
 rintro e w5 ⟨a1,c1,l1,rfl,hl1,hO1,hS5,hK5⟩
 rw [←HE.out] at hK5 hO1
 have hz3:w.heap.size+1+1<w4.heap.size:=by have:=HT.out.1.lt;omega
 have hz4:w.heap.size+1+1+1<w4.heap.size:=HT.out.1.lt
 have T5:Tk w5 w.heap.size 62 (.slice none 0 0) (.int .i64 0) (.int .i64 0) (.int .i64 (q:Nat)):=
  ⟨(hK5.block (w.heap.size) (by omega) (by simp;omega)).trans HT.out.2.1,(hK5.block (w.heap.size+1) (by omega) (by simp)).trans HT.out.2.2.1,(hK5.block (w.heap.size+1+1) (by omega) (by simp)).trans HT.out.2.2.2.1,by have:=hS5.at.2.1;rw [Nat.zero_add] at this;exact this⟩
 have hB5:=HT.out.2.2.2.2.trans (kb_below hK5 (B:=w.heap.size) (by omega) (by have:=HT.out.2.2.2.2.size;omega))
 have z5:=(cell0 T5.h2).2
 have c5:=(cell0 T5.h2).1
 have T6:=(T5.set2 (.slice a1 l1.length c1))
 have hB6:=hB5.setCell (p:=⟨w.heap.size,0,none⟩) (Nat.le_refl _) (.slice a1 l1.length c1)
 have HT6:=Lib.hid T6
 have HO6:=Lib.hid (hO1.setOtherI (p:=⟨w.heap.size,0,none⟩) (fun k hk=>by have:=(hO1.lt k hk).1;simp;omega) (.slice a1 l1.length c1))
 have HB6:=Lib.hid hB6
 clear HC hK5 hS5 hz4 T5 hB5 T6 hB6 hO1
 go_wp2
 refine wp_onN ?_
 refine wp_region_L (fun w'=>w'.cell? ⟨w.heap.size,0,none⟩=some (.slice a1 l1.length c1)∧w'.cell? ⟨w.heap.size+1+1+1,1,none⟩=some (.int .i64 (q:Nat))) [0,1,2,3,4] (by kernel_rfl) ?_
 have HTd:Hid (Tk (w5.setCell ⟨w.heap.size,0,none⟩ (.slice a1 l1.length c1)).drew w.heap.size 62 (.slice a1 l1.length c1) (.int .i64 0) (.int .i64 0) (.int .i64 (q:Nat))):=⟨HT6.out.h2,HT6.out.h3,HT6.out.h4,HT6.out.hs⟩
 have HBd:=Lib.hid (HB6.out.drew)
 have HOd:=Lib.hid (HO6.out.drew)
 clear HT6 HB6 HO6 z5 c5
 generalize (w5.setCell ⟨w.heap.size,0,none⟩ (.slice a1 l1.length c1)).drew=w6 at*
 have hS6:=And.intro (cell0 HTd.out.h2).1 HTd.out.hs
 have f2:=(cell0 HTd.out.h2).2
 refine skL_on [0,1,2,3,4] ?_
 repeat (refine skL_take (v:= ?_) rfl ?_ ?_;rotate_left;(focus (intro w' hSw;(try dsimp only at hSw);go_simp;try with_reducible rfl));try simp only [Act.put,List.setIfInBounds_toArray,List.set_cons_zero,List.set_cons_succ])
 refine skL_off ?_
 refine wpAnyL_one (i:=5) (by kernel_rfl) rfl rfl (fun K hK=> ?_)
 go_simp
 have HT7:=Lib.hid (HTd.out.set2 (.slice a1 l1.length c1))
 have hS7:=And.intro (cell0 HT7.out.h2).1 HT7.out.hs
 have HB7:=Lib.hid (HBd.out.setCell (p:=⟨w.heap.size,0,none⟩) (Nat.le_refl _) (.slice a1 l1.length c1))
 have HO7:=Lib.hid (HOd.out.setOtherI (p:=⟨w.heap.size,0,none⟩) (fun k hk=>by have:=(HOd.out.lt k hk).1;simp;omega) (.slice a1 l1.length c1))
 refine hK _ _ (fun _=>hS7) ?_
 clear hK K HOd HTd HBd hS6 f2
 generalize w6.setCell ⟨w.heap.size,0,none⟩ (.slice a1 l1.length c1)=w7 at*
 have c3:=(cell0 HT7.out.h3).1
 have f3:=(cell0 HT7.out.h3).2
 refine wpAnyL_one (i:=6) (by kernel_rfl) rfl rfl (fun K hK=> ?_)
 go_simp
 have HT8:=Lib.hid (HT7.out.set3 (.int .i64 (q:Nat)))
 have hS8:=And.intro (cell0 HT8.out.h2).1 HT8.out.hs
 have HB8:=Lib.hid (HB7.out.setCell (p:=⟨w.heap.size+1,0,none⟩) (by simp) (.int .i64 (q:Nat)))
 have HO8:=Lib.hid (HO7.out.setOtherI (p:=⟨w.heap.size+1,0,none⟩) (fun k hk=>by have:=(HO7.out.lt k hk).1;simp;omega) (.int .i64 (q:Nat)))
 refine hK _ _ (fun _=>hS8) ?_
 clear hK K HO7 HT7 HB7 hS7 c3 f3
 generalize w7.setCell ⟨w.heap.size+1,0,none⟩ (.int .i64 (q:Nat))=w8 at*
 have c4:=(cell0 HT8.out.h4).1
 have f4:=(cell0 HT8.out.h4).2
 refine wpAnyL_one (i:=7) (by kernel_rfl) rfl rfl (fun K hK=> ?_)
 go_simp
 have HT9:=Lib.hid (HT8.out.set4 (.int .i64 0))
 have hS9:=And.intro (cell0 HT9.out.h2).1 HT9.out.hs
 have HB9:=Lib.hid (HB8.out.setCell (p:=⟨w.heap.size+1+1,0,none⟩) (by simp;omega) (.int .i64 0))
 have HO9:=Lib.hid (HO8.out.setOtherI (p:=⟨w.heap.size+1+1,0,none⟩) (fun k hk=>by have:=(HO8.out.lt k hk).1;simp;omega) (.int .i64 0))
 refine hK _ _ (fun _=>hS9) ?_
 clear hK K HO8 HT8 HB8 hS8 c4 f4
 generalize w8.setCell ⟨w.heap.size+1+1,0,none⟩ (.int .i64 0)=w9 at*
 refine wpAnyL_done (by kernel_rfl) ?_ _
 refine onN_normal ?_
 clear hS9
 have c2:=(cell0 HT9.out.h2).1
 have c3:=(cell0 HT9.out.h3).1
 have c4:=(cell0 HT9.out.h4).1
 go_wp2
 refine leaves_cons (f:=216) (args:= #[.pointer (some ⟨w.heap.size,0,none⟩),.pointer (some ⟨w.heap.size+1,0,none⟩),.pointer (some ⟨w.heap.size+1+1,0,none⟩)]) (by simp) (by simp [go_sem]) ?_
 refine (catchL_idle _ _ _ _).mono ?_
 rintro e u' w'' ⟨rfl,rfl,rfl⟩
 simp [Leaves,settle,results,Tryz.results166,go_sem,c2,c3,c4]
 exact ⟨a1,c1,l1,⟨rfl,rfl,rfl⟩,hl1,HO9.out.lower (by omega),HB9.out⟩
end
section
variable {w:World} {M:Nat→Prop} {a:Option Addr} {c g N:Nat}
structure Rd (N:Nat) (w:World) (g:Nat) (a:Option Addr) (c:Nat) (R:List By):Prop where
 cell:w.heap[g]? =some (.cells #[.slice a R.length c] 101 (0,0))
 sl:Sl (fun k=>k=g∨N≤k) w a c R
theorem Rd.lt {R:List By} (h:Rd N w g a c R):g<w.heap.size:=(Array.getElem?_eq_some_iff.1 h.cell).1
theorem Rd.below {w1:World} {R:List By} (h:Rd N w g a c R) (hb:Below w.heap.size w w1):Rd N w1 g a c R:=⟨(hb.block g h.lt).trans h.cell,h.sl.below hb⟩
theorem Rd.set {R:List By} (h:Rd N w g a c R) {k:Nat} (hk:k≤R.length) {v:Value} (hv:v= .slice (dA a c k) (R.length-k) (c-k)):Rd N (w.setCell ⟨g,0,none⟩ v) g (dA a c k) (c-k) (R.drop k):=by
 refine ⟨?_,(h.sl.dropB hk).ext (Ext.setCell (M:=fun k=>k=g∨N≤k) w (p:=⟨g,0,none⟩) (.inl rfl) _)⟩
 rw [List.length_drop,←hv]
 exact set0 h.cell v
theorem rint_ok {n:Int} (hn:i64 n) {R R':List By} (hS:Rd N w g a c R) (hR:Hid (R=putI n++R')):
    Calls Tryz.prog 69 #[.pointer (some ⟨g,0,none⟩)] w fun e w'=>∃a' c',e= .returned (.int .i64 n)∧Rd N w' g a' c' R'∧Kb g w w':=by
 have hcf:=cell0 hS.cell
 have hc0:=hcf.1
 have hfz:=hcf.2
 have ll:=hS.sl.le
 have hcap:R.length≤c:=hS.sl.1
 have hcm:c≤9223372036854775807:=by have:=hS.sl.2.1;unfold maxLen at this;exact this
 have HC:=Lib.hid (takeint_ok hn hS.sl (R:=R') hR)
 obtain ⟨q,hq⟩:∃q,q=(putI n).length:=⟨_,rfl⟩
 have hqR:q≤R.length:=by rw [hR.out,List.length_append];omega
 have HQ:=Lib.hid hq
 have HS:=Lib.hid hS
 have hg:=hS.lt
 clear hS hcf hq
 go_enter Tryz.func69,Tryz.ntmps69
 go_wp2_with fail
 refine (HC.out).mono ?_
 rintro e w1 ⟨rfl,hb1⟩
 rw [←HQ.out]
 have hS1:=HS.out.below hb1
 have hRd:Hid (R.drop q=R'):=by unfold Hid;rw [HQ.out,hR.out,List.drop_left]
 have HF:Hid (∀v,v= .slice (dA a c q) (R.length-q) (c-q)→∃a' c',Rd N (w1.setCell ⟨g,0,none⟩ v) g a' c' R'):=fun v hv=>⟨_,_,by rw [←hRd.out];exact hS1.set hqR hv⟩
 have hc1:=(cell0 hS1.cell).1
 have hf1:=(cell0 hS1.cell).2
 have HS1:=Lib.hid hS1
 have HB1:=Lib.hid hb1
 clear HC hS1 hb1 hc0 hfz
 go_wp2
 go_end0
 go_wp2
 all_goals
  go_ret
  exact ⟨rfl,HF.out _ (by unfold dA;first|rfl|(rw [if_neg (by assumption)];done)|(have hcq:c=q:=(by assumption);rw [if_pos hcq,hcq];simp)|(rw [if_pos (by omega)];simp;omega)|(rw [if_neg (by omega)])),kb_set (kb_of HB1.out) rfl _⟩
theorem rlist_ok {l:List Int} (hl:Hid (∀x∈l,i64 x)) (hn:l.length<1000000000) {R R':List By} (hS:Rd N w g a c R) (hR:Hid (R=encL l++R')):
    Calls Tryz.prog 121 #[.pointer (some ⟨g,0,none⟩)] w fun e w'=>∃(a1:Option Addr) (c1:Nat) (l1:List Int),e= .returned (.slice a1 l1.length c1)∧Hid (l1=l)∧Ow w.heap.size (fun k=>w.heap.size≤k) w' 3 (.slice a1 l1.length c1) l1∧(∃a' c',Rd N w' g a' c' R')∧Kb g w w':=by
 have hcf:=cell0 hS.cell
 have hc0:=hcf.1
 have hfz:=hcf.2
 have ll:=hS.sl.le
 have hcap:R.length≤c:=hS.sl.1
 have hcm:c≤9223372036854775807:=by have:=hS.sl.2.1;unfold maxLen at this;exact this
 have HC:=Lib.hid (takeints_ok hl hn hS.sl (R:=R') hR)
 obtain ⟨q,hq⟩:∃q,q=(encL l).length:=⟨_,rfl⟩
 have hqR:q≤R.length:=by rw [hR.out,List.length_append];omega
 have HQ:=Lib.hid hq
 have HS:=Lib.hid hS
 have hg:=hS.lt
 clear hS hcf hq
 go_enter Tryz.func121,Tryz.ntmps121
 go_wp2_with fail
 refine (HC.out).mono ?_
 rintro e w1 ⟨a1,c1,l1,rfl,hl1,hO1,hb1⟩
 rw [←HQ.out]
 have hS1:=HS.out.below hb1
 have hRd:Hid (R.drop q=R'):=by unfold Hid;rw [HQ.out,hR.out,List.drop_left]
 have HF:Hid (∀v,v= .slice (dA a c q) (R.length-q) (c-q)→∃a' c',Rd N (w1.setCell ⟨g,0,none⟩ v) g a' c' R'):=fun v hv=>⟨_,_,by rw [←hRd.out];exact hS1.set hqR hv⟩
 have hc1:=(cell0 hS1.cell).1
 have hf1:=(cell0 hS1.cell).2
 have HS1:=Lib.hid hS1
 have HB1:=Lib.hid hb1
 have HO1:Hid (∀v,Ow w.heap.size (fun k=>w.heap.size≤k) (w1.setCell ⟨g,0,none⟩ v) 3 (.slice a1 l1.length c1) l1):=fun v=>hO1.setOtherI (p:=⟨g,0,none⟩) (fun k hk=>by have:=(hO1.lt k hk).1;simp;omega) v
 clear HC hS1 hO1 hb1 hc0 hfz
 go_wp2
 go_end0
 go_wp2
 all_goals
  go_ret
  exact ⟨a1,c1,l1,rfl,hl1,HO1.out _,HF.out _ (by unfold dA;first|rfl|(rw [if_neg (by assumption)];done)|(have hcq:c=q:=(by assumption);rw [if_pos hcq,hcq];simp)|(rw [if_pos (by omega)];simp;omega)|(rw [if_neg (by omega)])),kb_set (kb_of HB1.out) rfl _⟩
theorem rcount_ok {n:Nat} (hn:(n:Int)≤9223372036854775807) {R R':List By} (hS:Rd N w g a c R) (hR:Hid (R=putI n++R')):
    Calls Tryz.prog 120 #[.pointer (some ⟨g,0,none⟩)] w fun e w'=>e= .returned (.int .i64 n)∧(∃a' c',Rd N w' g a' c' R')∧Kb g w w':=by
 have HW:Hid (Calls Tryz.prog 119 #[.pointer (some ⟨g,0,none⟩),.int .i64 0,.int .i64 9223372036854775807] w fun e w'=>e= .returned (.int .i64 n)∧(∃a' c',Rd N w' g a' c' R')∧Kb g w w'):=by
  unfold Hid
  have HC:=Lib.hid (rint_ok (n:=(n:Int)) (by unfold i64;omega) hS hR)
  clear hS
  go_enter Tryz.func119,Tryz.ntmps119
  go_wp2_with fail
  refine (HC.out).mono ?_
  rintro e w1 ⟨a',c',rfl,hS1,hK1⟩
  go_wp2
  go_ret
  exact ⟨rfl,⟨a',c',hS1⟩,hK1⟩
 clear hS
 go_enter Tryz.func120,Tryz.ntmps120
 go_wp2_with fail
 refine (HW.out).mono ?_
 rintro e w1 ⟨rfl,hS1,hK1⟩
 go_wp2
 go_ret
 exact ⟨rfl,hS1,hK1⟩
theorem rend_ok (hS:Rd N w g a c []):
    Calls Tryz.prog 73 #[.pointer (some ⟨g,0,none⟩)] w fun e w'=>e= .returned (.tuple #[])∧w'=w:=by
 have hc0:=(cell0 hS.cell).1
 rw [List.length_nil] at hc0
 clear hS
 go_enter Tryz.func73,Tryz.ntmps73
 go_wp2
 go_end0
 exact ⟨rfl,rfl⟩
end
def TrI (l:List Tr):Prop:=∀t∈l,((∀x∈t.inn,i64 x)∧t.inn.length<1000000000)∧((∀x∈t.out,i64 x)∧t.out.length<1000000000)
theorem enc_rest {α:Type} (f:α→List By) {l:List α} {k:Nat} {x:α} (hx:l[k]? =some x):((l.drop k).map f).flatten=f x++((l.drop (k+1)).map f).flatten:=by
 obtain ⟨hk,he⟩:=List.getElem?_eq_some_iff.1 hx
 rw [List.drop_eq_getElem_cons hk,he];simp
section
variable {w w1:World} {M:Nat→Prop} {a:Option Addr} {c g N B N0:Nat}
theorem Qt.kb {T:TypeId} {v:Value} {l:List Tr} (h:Qt N B w T v l) (k:Kb g w w1) (hg:g<N) (hN:N≤B):Qt N B w1 T v l:=
 Ow.ext h ⟨k.size,fun q hq hn=>k.block q hq (by intro e;simp at e;exact hn (.inr (by omega))),fun _ _ e=>e⟩ (fun q hq=>k.block q (h.lt q hq).2 (by intro e;simp at e;have:=(h.lt q hq).1;omega))
theorem Ow.slI {T:TypeId} {l:List Int} (h:Ow B (fun k=>B≤k) w T (.slice a l.length c) l) {M:Nat→Prop} (hM:∀k,M k→k<B):Sl M w a c l:=
 (h.anyM (M':=M)).toSl fun k hk hm=>by have:=(h.lt k hk).1;have:=hM k hm;omega
theorem rtraces_ok {l:List Tr} (hl:Hid (TrI l)) (hn:l.length<1000000000) {R R':List By} (hS:Rd N0 w g a c R) (hN0:N0≤w.heap.size) (hR:Hid (R=encTs l++R')):
    Calls Tryz.prog 70 #[.pointer (some ⟨g,0,none⟩)] w fun e w'=>∃(a1:Option Addr) (c1:Nat) (l1:List Tr),e= .returned (.slice a1 l1.length c1)∧Hid (l1=l)∧Qt w.heap.size w.heap.size w' 72 (.slice a1 l1.length c1) l1∧(∃a' c',Rd N0 w' g a' c' R')∧Kb g w w':=by
 have HC:=Lib.hid (rcount_ok (n:=l.length) (by omega) hS (R':=(l.map encT).flatten++R') (by unfold Hid;rw [hR.out];unfold encTs;simp))
 have hgl:=hS.lt
 have HN:=Lib.hid hn
 clear hS hn
 go_enter Tryz.func70,Tryz.ntmps70
 go_wp2_with fail
 refine (HC.out).mono ?_
 rintro e w1 ⟨rfl,⟨a1,c1,hS1⟩,hK1⟩
 have HS1:=Lib.hid hS1
 clear HC hS1
 go_wp2
 go_loopw [3,4] (fun v n wr=>∃(k:Nat) (z:Int) (a':Option Addr) (c':Nat) (L':List Tr),k≤l.length∧n= .int .i64 z∧Hid (z=(l.length:Int)-k)∧v= .slice a' L'.length c'∧Hid (L'=l.take k)∧Hid (Qt w.heap.size w.heap.size wr 72 (.slice a' L'.length c') L')∧Hid (∃a2 c2,Rd N0 wr g a2 c2 (((l.drop k).map encT).flatten++R'))∧Kb g w wr) (fun _ n _=>(intOf n).toNat)
 case atStart=>exact ⟨0,_,none,0,[],by omega,rfl,Lib.hid (by simp),rfl,Lib.hid (by simp),Lib.hid Ow.nil,Lib.hid ⟨a1,c1,HS1.out⟩,hK1⟩
 case round=>
  clear HS1 hK1
  obtain ⟨k,z,a2,c2,L',hk,rfl,hz,rfl,hL',hQ,hSk,hKk⟩:=hrel
  obtain ⟨wo,rfl⟩:∃wo:World,wo=wr:=⟨_,rfl⟩
  have hzs:=hKk.size
  by_cases hlt:k<l.length
  ·have hx:=List.getElem?_eq_getElem hlt
   obtain ⟨t,hte⟩:∃t,t=l[k]:=⟨_,rfl⟩
   rw [←hte] at hx
   have htI:=hl.out t (List.mem_of_getElem? hx)
   obtain ⟨a3,c3,hS3⟩:=hSk.out
   rw [enc_rest encT hx] at hS3
   have HC:=Lib.hid (rlist_ok (l:=t.inn) (Lib.hid htI.1.1) htI.1.2 hS3 (R':=encL t.out++(((l.drop (k+1)).map encT).flatten++R')) (Lib.hid (by unfold encT;simp)))
   have hz0:0<z:=by have:=hz.out;omega
   have hz1:z≤1000000000:=by have:=hz.out;have:=HN.out;omega
   have HX:=Lib.hid hx
   have HTI:=Lib.hid htI
   clear hx hte hS3 hSk htI
   go_wp2_with fail
   refine (HC.out).mono ?_
   rintro e w5 ⟨a5,c5,l5,rfl,hl5,hO5,⟨a6,c6,hS5⟩,hK5⟩
   have HC2:=Lib.hid (rlist_ok (l:=t.out) (Lib.hid HTI.out.2.1) HTI.out.2.2 hS5 (R':=((l.drop (k+1)).map encT).flatten++R') (Lib.hid rfl))
   have hz5:=hK5.size
   have HO5:=Lib.hid hO5
   have HM:Hid (∀i,mayT w.heap.size (.slice a2 L'.length c2) i→i<wo.heap.size):=fun i hi=>hi.elim (fun e=>(hQ.out.lt i e).2) (fun e=>by omega)
   have HQ5:=Lib.hid (hQ.out.kb hK5 hgl (Nat.le_refl _))
   have hK5n:=kb_trans hKk hK5
   clear HC hS5 hO5 hQ hK5 hKk
   go_wp2_with fail
   refine (HC2.out).mono ?_
   rintro e w7 ⟨a7,c7,l7,rfl,hl7,hO7,⟨a8,c8,hS7⟩,hK7⟩
   have hz7:=hK7.size
   have HQ7:=Lib.hid (HQ5.out.kb hK7 hgl (Nat.le_refl _))
   have hK7n:=kb_trans hK5n hK7
   have hM:=HM.out
   have hy1:Sl (mayT w.heap.size (.slice a2 L'.length c2)) w7 a5 c5 l5:=(HO5.out.kbI hK7 (by omega)).slI (fun i hi=>hM i hi)
   have hy2:Sl (mayT w.heap.size (.slice a2 L'.length c2)) w7 a7 c7 l7:=hO7.slI (fun i hi=>by have:=hM i hi;omega)
   have hLl:Hid (L'.length<1000000000):=by unfold Hid;rw [hL'.out,List.length_take];have:=HN.out;omega
   have hLk:Hid (L'++[(⟨l5,l7⟩:Tr)]=l.take (k+1)):=by unfold Hid;rw [List.take_add_one,HX.out,hL'.out,hl5.out,hl7.out];rfl
   have HS7:=Lib.hid hS7
   clear hM HM HC2 hO7 hK7 HO5 HQ5 hK5n hS7 hL' hl5 hl7
   have hbb:=(Below.refl w7.heap.size w7).alloc (Nat.le_refl _) (.cells #[.slice a5 l5.length c5,.slice a7 l7.length c7] 72)
   go_wp2_with (at_builtin;refine wpList_push_tr (N:=w.heap.size) (B:=w.heap.size) (v:= .slice a2 L'.length c2) (l:=L') (q:=⟨l5,l7⟩) (g:=w7.heap.size) (c:=1) rfl rfl Tryz.underlying37 info_trace rfl rfl (by simp [go_sem]) (HQ7.out.later hbb) (by simp) (by simp) (hy1.below hbb) (hy2.below hbb) (by have:=hLl.out;omega) (by simp;omega) ?_)
   intro a9 c9 l9 w9 hl9 hQ9 hk9 hg9
   have hb9:=(Below.refl w.heap.size (w7.alloc (.cells #[.slice a5 l5.length c5,.slice a7 l7.length c7] 72))).grown hg9 (by simp;omega) (fun i hi=>(HQ7.out.lt i hi).1)
   have hb99:=(hbb.mono (show w.heap.size≤w7.heap.size by omega)).trans hb9
   have hK9:=kb_bel hK7n hb99
   have hS9:Hid (∃a2 c2,Rd N0 w9 g a2 c2 (((l.drop (k+1)).map encT).flatten++R')):=
    ⟨a8,c8,⟨(hb99.block g hgl).trans HS7.out.cell,HS7.out.sl.ext ⟨hb99.size,fun i hi hn=>hb99.block i (by have:¬N0≤i:=fun e=>hn (.inr e);omega),fun _ _ e=>e⟩⟩⟩
   have hL9:Hid (l9=l.take (k+1)):=by unfold Hid;rw [hl9.out];exact hLk.out
   have HQ9:=Lib.hid hQ9
   clear hb9 hb99 hbb hQ9 hk9 hg9 hK7n HQ7 HS7 hy1 hy2 hl9 hLk
   go_wp2
   go_roundw
   case rel=>exact ⟨k+1,z-1,a9,c9,l9,by omega,by go_num,Lib.hid (by have:=hz.out;omega),rfl,hL9,HQ9,hS9,hK9⟩
   case measure=>simp [intOf];omega
  have hz0:¬0<z:=by have:=hz.out;omega
  have hF:Hid (L'=l):=by unfold Hid;rw [hL'.out,List.take_of_length_le (by omega)]
  have hSF:Hid (∃a' c',Rd N0 wo g a' c' R'):=by
   obtain ⟨a3,c3,h⟩:=hSk.out
   rw [List.drop_of_length_le (by omega)] at h
   exact ⟨a3,c3,by simpa using h⟩
  go_wp2
  go_ret
  exact ⟨a2,c2,L',rfl,hF,hQ.out,hSF.out,hKk⟩
end
section
variable {w:World} {M M':Nat→Prop} {a b:Option Addr} {c d:Nat}
theorem equalB_ok {l:List By} {n m:Nat} (hn:n=l.length) (hm:m=l.length) (h1:Sl M w a c l) (h2:Sl M' w b d l):
    Calls Tryz.prog 67 #[.slice a n c,.slice b m d] w fun e w'=>e= .returned (.bool true)∧Below w.heap.size w w':=by
 subst hn
 subst hm
 have ll:=h1.le
 have H1:=Lib.hid h1
 have H2:=Lib.hid h2
 clear h1 h2
 go_enter Tryz.func67,Tryz.ntmps67
 go_wp2
 go_loopw [13] (fun i wr=>∃k q:Nat,k≤l.length∧i= .int .i64 k∧wr=w.drewN q) (fun i _=>l.length-(intOf i).toNat)
 case atStart=>exact ⟨0,0,by omega,rfl,rfl⟩
 case round=>
  obtain ⟨k,q,hk,rfl,rfl⟩:=hrel
  by_cases hlt:k<l.length
  ·obtain ⟨b1,o1,x,rfl,hc1,hx, -⟩:=H1.out.at_by hlt
   obtain ⟨b2,o2,y,rfl,hc2,hy, -⟩:=H2.out.at_by hlt
   have hxy:x=y:=by have:=hx.out;rw [hy.out] at this;exact (Option.some.inj this).symm
   subst hxy
   have hne:(x.n !=x.n)=false:=by simp
   clear hx hy
   go_wp2
   refine wp_quiet_fast (by kernel_rfl) (by kernel_rfl) ?_
   repeat (first|go_big_quiet_step (fail)|quiet_step (fail))
   refine wpQuiet_nil ?_
   intro _ hw'
   obtain ⟨nq,hw''⟩:=hw'
   subst hw''
   go_wp2
   go_roundw
   case rel=>exact ⟨k+1,q+nq,by omega,by go_num,by first|rfl|simp [World.drewN_drewN]|skip⟩
   case measure=>simp [intOf];omega
  go_wp2
  go_ret
  exact ⟨rfl,below_drewN _ _ _⟩
theorem dA_some {b o c k:Nat} (h:¬c=k):dA (some ⟨b,o,none⟩) c k=some ⟨b,o+k,none⟩:=by unfold dA;rw [if_neg h];simp [Addr.add]
theorem sealP_drop (k:Int) (cc R:List By):(sealP crS4 k cc++R).drop 1=putI cc.length++(cc++(crS4 (bodyP k cc)++R)):=by
 unfold sealP;conv=>lhs;arg 2;arg 1;arg 1;unfold bodyP
 simp
theorem bodyP_len (k:Int) (cc:List By):(bodyP k cc).length=1+(putI cc.length).length+cc.length:=by unfold bodyP;simp;omega
theorem open_ok {k:Int} (hk:0<k∧k<255) {cc L R:List By} (hcc:cc.length<1000000000) (hs:Sl M w a c L) (hL:Hid (L=sealP crS4 k cc++R)):
    Calls Tryz.prog 35 #[.slice a L.length c] w fun e w'=>∃(a':Option Addr) (c':Nat) (l':List By),e= .returned (.tuple #[.int .i64 k,.slice a' l'.length c',.int .i64 ((sealP crS4 k cc).length:Nat),.int .i64 0])∧Hid (l'=cc)∧Ow w.heap.size (fun k=>w.heap.size≤k) w' 5 (.slice a' l'.length c') l'∧Below w.heap.size w w':=by
 have ll:=hs.le
 have hcap:L.length≤c:=hs.1
 have hcm:c≤9223372036854775807:=by have:=hs.2.1;unfold maxLen at this;exact this
 obtain ⟨q,hq⟩:∃q,q=(putI cc.length).length:=⟨_,rfl⟩
 have hq1:1≤q:=by rw [hq];exact (putI_len _).1
 have hq2:q≤10:=by rw [hq];exact (putI_len _).2
 obtain ⟨e,he⟩:∃e:Nat,e=1+q+cc.length:=⟨_,rfl⟩
 have hbl:(bodyP k cc).length=e:=by rw [bodyP_len,←hq,he]
 have hsl:(sealP crS4 k cc).length=e+4:=by unfold sealP;rw [List.length_append,hbl,crS4_len]
 have heL:e+4≤L.length:=by rw [hL.out,List.length_append,hsl];omega
 obtain ⟨b0,o0,x0,rfl,hc0,hx0, -⟩:=hs.at_by (j:=0) (by omega)
 rw [Nat.add_zero] at hc0
 have hxk:Hid (x0.n=k):=by have h:=hx0.out;rw [hL.out] at h;unfold sealP bodyP at h;simp at h;unfold Hid;rw [←h]
 have hc1:¬c=1:=by omega
 have hce:¬c=e:=by omega
 have hs1:=hs.dropB (i:=1) (by omega)
 rw [dA_some hc1] at hs1
 have hct:=takeint_ok (n:=(cc.length:Int)) (by unfold i64;omega) hs1 (R:=cc++(crS4 (bodyP k cc)++R)) (by unfold Hid;rw [hL.out];exact sealP_drop k cc R)
 rw [List.length_drop,←hq] at hct
 have HC:=Lib.hid hct
 have HS:=Lib.hid hs
 have HQ:=Lib.hid hq
 rw [hsl]
 have HEQ:=Lib.hid he
 have HCC:=Lib.hid hcc
 have HBL:=Lib.hid hbl
 have hgt:¬((L.length:Int)-1-q-4<cc.length):=by omega
 have hqe:q≤e:=by omega
 have hce2:cc.length≤e:=by omega
 have he8:e<2000000000:=by omega
 clear hs1 hct hs hq hx0 hsl hbl he
 go_enter Tryz.func35,Tryz.ntmps35
 go_wp2_with fail
 refine (HC.out).mono ?_
 rintro e1 w1 ⟨rfl,hb1⟩
 have HS1:=Lib.hid (HS.out.below hb1)
 have hc01:=(hb1.cell (p:=⟨b0,o0,none⟩) (lt_of_cell hc0)).trans hc0
 have hB1:=Lib.hid hb1
 clear HC hb1 hc0 HS
 go_wp2
 refine wp_region_T (fun w'=>w'.cell? ⟨b0,o0,none⟩=some (.int .u8 x0.n)) [0,1,2,4,5,6,7,8,10] (by kernel_rfl) ?_
 have HS2:=Lib.hid (HS1.out.drew)
 have hc02:w1.drew.cell? ⟨b0,o0,none⟩=some (.int .u8 x0.n):=hc01
 have hB2:=Lib.hid (hB1.out.drew)
 clear HS1 hc01 hB1
 generalize w1.drew=w2 at*
 generalize hE:1+(q:Int)+(cc.length:Int)=E at*
 have hEe:E=(e:Int):=by have:=HEQ.out;omega
 have g0:0≤E:=by omega
 have g1:E≤c:=by omega
 have g2:E.toNat=e:=by omega
 have g3:E+4≤c:=by omega
 have g5:IntKind.i64.wrap (E+4)=E+4:=by rw [IntKind.wrap_i64];omega
 have g7:E≤E+4:=by omega
 have g9:(E+4).toNat=e+4:=by omega
 have g10:max (E+4) 0=E+4:=by omega
 have HEe:=Lib.hid hEe
 clear hEe hE
 have hst:=HS2.out.taken (n:=e) (by omega)
 have hsc:=sealed_any hst
 rw [List.length_take,Nat.min_eq_left (show e≤L.length by omega)] at hsc
 have HC:=Lib.hid hsc
 clear hst hsc
 refine skT_on [0,1,2,4,5,6,7,8] ?_
 repeat (refine skT_take (v:= ?_) rfl ?_ ?_;rotate_left;(focus (intro w' hSw;(try dsimp only at hSw);go_simp;try with_reducible rfl));try simp only [Act.put,List.setIfInBounds_toArray,List.set_cons_zero,List.set_cons_succ])
 refine skT_off ?_
 refine wpAnyT_one (i:=3) (by kernel_rfl) rfl rfl (fun K hK=> ?_)
 go_simp
 refine (HC.out).mono ?_
 rintro e4 w4 ⟨g4,rfl,hs4,hb4⟩
 have hc04:=(hb4.cell (p:=⟨b0,o0,none⟩) (lt_of_cell hc02)).trans hc02
 have HS4:=Lib.hid (HS2.out.below hb4)
 have hB4:=Lib.hid (hB2.out.trans (hb4.mono hB2.out.size))
 have hbt:Hid (L.take e=bodyP k cc):=by unfold Hid;rw [hL.out];unfold sealP;rw [List.append_assoc,List.take_append_of_le_length (by rw [HBL.out];exact Nat.le_refl _),←HBL.out,List.take_length]
 rw [hbt.out] at hs4
 have hd4:Hid ((L.drop e).take 4=crS4 (bodyP k cc)):=by unfold Hid;rw [hL.out];unfold sealP;rw [List.append_assoc,←HBL.out,List.drop_left];rfl
 have hs5:=(HS4.out.dropB (i:=e) (by omega)).taken (n:=4) (by rw [List.length_drop];omega)
 rw [dA_some hce,hd4.out] at hs5
 have HC5:=Lib.hid (equalB_ok (n:=4) (m:=4) rfl rfl hs4 hs5)
 refine hK _ _ (fun _=>hc04) ?_
 clear hK K HC hc02 HS2 hB2 hb4 hs4 hs5 hbt hd4
 refine wpAnyT_one (i:=9) (by kernel_rfl) rfl rfl (fun K hK=> ?_)
 go_simp
 refine (HC5.out).mono ?_
 rintro e5 w5 ⟨rfl,hb5⟩
 have hc05:=(hb5.cell (p:=⟨b0,o0,none⟩) (lt_of_cell hc04)).trans hc04
 have HS5:=Lib.hid (HS4.out.below hb5)
 have hB5:=Lib.hid (hB4.out.trans (hb5.mono hB4.out.size))
 refine hK _ _ (fun _=>hc05) ?_
 clear hK K HC5 hc04 HS4 hB4 hb5
 refine skT_on [10] ?_
 repeat (refine skT_take (v:= ?_) rfl ?_ ?_;rotate_left;(focus (intro w' hSw;(try dsimp only at hSw);go_simp;try with_reducible rfl));try simp only [Act.put,List.setIfInBounds_toArray,List.set_cons_zero,List.set_cons_succ])
 refine skT_off ?_
 refine wpAnyT_done (by kernel_rfl) ?_ _
 go_wp2
 refine wp_region_T (fun w'=>w'.cell? ⟨b0,o0,none⟩=some (.int .u8 x0.n)) [0,1,2,3,4,5,6,7,9,10,11,12,13,14] (by kernel_rfl) ?_
 have HS6:=Lib.hid (HS5.out.drew)
 have hc06:w5.drew.cell? ⟨b0,o0,none⟩=some (.int .u8 x0.n):=hc05
 have hB6:=Lib.hid (hB5.out.drew)
 clear HS5 hc05 hB5
 generalize w5.drew=w6 at*
 obtain ⟨f,hf⟩:∃f:Nat,f=1+q:=⟨_,rfl⟩
 generalize hF:1+(q:Int)=F at*
 have hFf:F=(f:Int):=by omega
 have kL:0<L.length:=by omega
 have k0:0≤F:=by omega
 have k1:F≤E:=by have:=HEe.out;have:=HEQ.out;omega
 have k2:F.toNat=f:=by omega
 have k3:¬c=f:=by have:=HEQ.out;omega
 have k4:e-f=cc.length:=by have:=HEQ.out;omega
 have k5:f≤L.length:=by have:=HEQ.out;omega
 have hcd:Hid ((L.drop f).take cc.length=cc):=by
  unfold Hid
  rw [hf,←List.drop_drop,hL.out,sealP_drop,HQ.out,List.drop_left,List.take_left]
 have hsd:=(HS6.out.dropB (i:=f) k5).taken (n:=cc.length) (by rw [List.length_drop];have:=HEQ.out;omega)
 rw [dA_some k3,hcd.out] at hsd
 have HC:=Lib.hid (cloneB_any hsd (by omega))
 have HFf:=Lib.hid hFf
 clear hsd hcd hf hF hFf k5
 refine skT_on [0,1,2,3,4,5,6,7,9,10] ?_
 repeat (refine skT_take (v:= ?_) rfl ?_ ?_;rotate_left;(focus (intro w' hSw;(try dsimp only at hSw);go_simp;try with_reducible rfl));try simp only [Act.put,List.setIfInBounds_toArray,List.set_cons_zero,List.set_cons_succ])
 refine skT_off ?_
 refine wpAnyT_one (i:=8) (by kernel_rfl) rfl rfl (fun K hK=> ?_)
 go_simp
 refine (HC.out).mono ?_
 rintro e7 w7 ⟨a7,c7,l7,rfl,hl7,hO7,hb7⟩
 have hc07:=(hb7.cell (p:=⟨b0,o0,none⟩) (lt_of_cell hc06)).trans hc06
 have hB7:=Lib.hid (hB6.out.trans (hb7.mono hB6.out.size))
 have hO8:=Lib.hid (hO7.lower hB6.out.size)
 refine hK _ _ (fun _=>hc07) ?_
 clear hK K HC hc06 HS6 hB6 hb7 hO7
 refine skT_on [11,12,13,14] ?_
 repeat (refine skT_take (v:= ?_) rfl ?_ ?_;rotate_left;(focus (intro w' hSw;(try dsimp only at hSw);go_simp;try with_reducible rfl));try simp only [Act.put,List.setIfInBounds_toArray,List.set_cons_zero,List.set_cons_succ])
 refine skT_off ?_
 refine wpAnyT_done (by kernel_rfl) ?_ _
 go_wp2
 have hw:IntKind.i64.wrap x0.n=x0.n:=by rw [hxk.out,IntKind.wrap_i64];omega
 exact bodyPost_ret (v:= .tuple #[.int .i64 x0.n,.slice a7 l7.length c7,.int .i64 (E+4),.int .i64 0]) (by simp [results,Tryz.results35,go_sem,hw]) rfl ⟨a7,c7,l7,by rw [hxk.out,HEe.out];rfl,hl7,hO8.out,hB7.out⟩
end
section
variable {w:World} {M:Nat→Prop} {a:Option Addr} {c:Nat}
theorem open_torn {k:Int} {cc L:List By} {m:Nat} (hcc:cc.length<1000000000) (hs:Sl M w a c L) (hm0:0<m) (hm:m<(sealP crS4 k cc).length) (hL:Hid (L=(sealP crS4 k cc).take m)):
    Calls Tryz.prog 35 #[.slice a L.length c] w fun e w'=>e= .returned (.tuple #[.int .i64 0,.slice none 0 0,.int .i64 0,.int .i64 4])∧Below w.heap.size w w':=by
 have ll:=hs.le
 have hcap:L.length≤c:=hs.1
 have hcm:c≤9223372036854775807:=by have:=hs.2.1;unfold maxLen at this;exact this
 obtain ⟨q,hq⟩:∃q,q=(putI cc.length).length:=⟨_,rfl⟩
 have hq1:1≤q:=by rw [hq];exact (putI_len _).1
 have hq2:q≤10:=by rw [hq];exact (putI_len _).2
 have hni:i64 (cc.length:Int):=by unfold i64;omega
 have hsl:(sealP crS4 k cc).length=1+q+cc.length+4:=by unfold sealP;rw [List.length_append,bodyP_len,←hq,crS4_len]
 have hLm:L.length=m:=by rw [hL.out,List.length_take];omega
 have hLd:Hid (L.drop 1=(putI cc.length++(cc++(crS4 (bodyP k cc)++[]))).take (m-1)):=by
  have h:=sealP_drop k cc []
  rw [List.append_nil] at h
  unfold Hid;rw [hL.out,List.drop_take,h]
 have hs1:=hs.dropB (i:=1) (by omega)
 obtain ⟨b0,o0,x0,rfl, -, -, -⟩:=hs.at_by (j:=0) (by omega)
 have hkL:0<L.length:=by omega
 by_cases htorn:m-1<q
 ·have hct : Calls Tryz.prog 66 #[.slice (dA (some ⟨b0, o0, none⟩) c 1) (L.drop 1).length (c - 1)] w fun e w' => e = .returned (.tuple #[.int .i64 0, .int .i64 0, .int .i64 4]) ∧ Below w.heap.size w w' := by
    refine takeint_torn hs1 (fun x hx=> ?_) (by rw [List.length_drop];omega)
    obtain ⟨j,hj⟩:=List.mem_iff_getElem?.1 hx
    rw [hLd.out,List.getElem?_take] at hj
    split at hj
    ·rename_i hjm
     rw [List.getElem?_append_left (by omega)] at hj
     exact (putI_high hni hj).2 (by omega)
    simp at hj
  rw [List.length_drop] at hct
  have HC:Hid (∀(ad:Option Addr) (n1 cp:Nat),ad=dA (some ⟨b0,o0,none⟩) c 1→n1=L.length-1→cp=c-1→Calls Tryz.prog 66 #[.slice ad n1 cp] w fun e w'=>e= .returned (.tuple #[.int .i64 0,.int .i64 0,.int .i64 4])∧Below w.heap.size w w'):=fun ad n1 cp h h1 h2=>by rw [h,h1,h2];exact hct
  clear hct hs1 hs hq hsl hLm
  by_cases hc1:c=1
  ·have hd:Hid (dA (some ⟨b0,o0,none⟩) c 1=some ⟨b0,o0,none⟩):=by unfold Hid dA;rw [if_pos hc1]
   have hcz:Hid (c-1=0):=by unfold Hid;omega
   have HC1:=Lib.hid hc1
   go_enter Tryz.func35,Tryz.ntmps35
   go_wp2_with fail
   refine (HC.out _ _ _ hd.out.symm rfl hcz.out.symm).mono ?_
   rintro e1 w1 ⟨rfl,hb1⟩
   go_wp2
   exact bodyPost_ret (v:= .tuple #[.int .i64 0,.slice none 0 0,.int .i64 0,.int .i64 4]) (by simp [results,Tryz.results35,go_sem]) rfl ⟨rfl,hb1⟩
  have hd:Hid (dA (some ⟨b0,o0,none⟩) c 1=some ⟨b0,o0+1,none⟩):=dA_some hc1
  go_enter Tryz.func35,Tryz.ntmps35
  go_wp2_with fail
  refine (HC.out _ _ _ hd.out.symm rfl rfl).mono ?_
  rintro e1 w1 ⟨rfl,hb1⟩
  go_wp2
  exact bodyPost_ret (v:= .tuple #[.int .i64 0,.slice none 0 0,.int .i64 0,.int .i64 4]) (by simp [results,Tryz.results35,go_sem]) rfl ⟨rfl,hb1⟩
 have hc1:¬c=1:=by omega
 rw [dA_some hc1] at hs1
 have hct:=takeint_ok (n:=(cc.length:Int)) hni hs1 (R:=(cc++(crS4 (bodyP k cc)++[])).take (m-1-q)) (by unfold Hid;rw [hLd.out,List.take_append,←hq,List.take_of_length_le (by omega)])
 rw [List.length_drop,←hq] at hct
 have HC:=Lib.hid hct
 have hgt:(L.length:Int)-1-q-4<cc.length:=by omega
 clear hct hs1 hs hq hsl hLm
 go_enter Tryz.func35,Tryz.ntmps35
 go_wp2_with fail
 refine (HC.out).mono ?_
 rintro e1 w1 ⟨rfl,hb1⟩
 go_wp2
 exact bodyPost_ret (v:= .tuple #[.int .i64 0,.slice none 0 0,.int .i64 0,.int .i64 4]) (by simp [results,Tryz.results35,go_sem]) rfl ⟨rfl,hb1⟩
end
section
variable {w:World} {M:Nat→Prop} {a:Option Addr} {c:Nat}
structure T3r (w:World) (b:Nat) (v2 v3 v4:Value):Prop where
 h2:w.heap[b]? =some (.cells #[v2] 37 (0,0))
 h3:w.heap[b+1]? =some (.cells #[v3] 3 (0,0))
 h4:w.heap[b+1+1]? =some (.cells #[v4] 44 (0,0))
theorem T3r.below {b:Nat} {v2 v3 v4:Value} {w1:World} (h:T3r w b v2 v3 v4) (hb:Below w.heap.size w w1):T3r w1 b v2 v3 v4:=
 ⟨(hb.block _ (Array.getElem?_eq_some_iff.1 h.h2).1).trans h.h2,(hb.block _ (Array.getElem?_eq_some_iff.1 h.h3).1).trans h.h3,(hb.block _ (Array.getElem?_eq_some_iff.1 h.h4).1).trans h.h4⟩
theorem T3r.set2 {b:Nat} {v2 v3 v4:Value} (h:T3r w b v2 v3 v4) (u:Value):T3r (w.setCell ⟨b,0,none⟩ u) b u v3 v4:=
 ⟨set0 h.h2 u,(Below.heap_setCell _ _ _ _ (by first|(simp;done)|(simp;omega))).trans h.h3,(Below.heap_setCell _ _ _ _ (by first|(simp;done)|(simp;omega))).trans h.h4⟩
theorem T3r.set3 {b:Nat} {v2 v3 v4:Value} (h:T3r w b v2 v3 v4) (u:Value):T3r (w.setCell ⟨b+1,0,none⟩ u) b v2 u v4:=
 ⟨(Below.heap_setCell _ _ _ _ (by first|(simp;done)|(simp;omega))).trans h.h2,set0 h.h3 u,(Below.heap_setCell _ _ _ _ (by first|(simp;done)|(simp;omega))).trans h.h4⟩
theorem T3r.set4 {b:Nat} {v2 v3 v4:Value} (h:T3r w b v2 v3 v4) (u:Value):T3r (w.setCell ⟨b+1+1,0,none⟩ u) b v2 v3 u:=
 ⟨(Below.heap_setCell _ _ _ _ (by first|(simp;done)|(simp;omega))).trans h.h2,(Below.heap_setCell _ _ _ _ (by first|(simp;done)|(simp;omega))).trans h.h3,set0 h.h4 u⟩
theorem t3r_new (w:World):T3r (((w.alloc (.cells #[.slice none 0 0] 37)).alloc (.cells #[.int .i64 0] 3)).alloc (.cells #[.int .i64 0] 44)) w.heap.size (.slice none 0 0) (.int .i64 0) (.int .i64 0)∧
    Below w.heap.size w (((w.alloc (.cells #[.slice none 0 0] 37)).alloc (.cells #[.int .i64 0] 3)).alloc (.cells #[.int .i64 0] 44)):=by
 refine ⟨⟨?_,?_,?_⟩,(((Below.refl _ _).alloc (Nat.le_refl _) _).alloc (by simp) _).alloc (by simp;omega) _⟩
 ·exact heap_old (heap_old (heap_alloc_new w _))
 ·exact heap_old (by simpa using heap_alloc_new (w.alloc (.cells #[.slice none 0 0] 37)) (.cells #[.int .i64 0] 3))
 simpa using heap_alloc_new ((w.alloc (.cells #[.slice none 0 0] 37)).alloc (.cells #[.int .i64 0] 3)) (.cells #[.int .i64 0] 44)
theorem catchE_idle (p2 p3 p4:Addr) (w:World):
    CallsD Tryz.prog 85 #[.pointer (some p2),.pointer (some p3),.pointer (some p4)] .returning w fun e u' w'=>e= .returned (.tuple #[])∧u'= .returning∧Below w.heap.size w w':=by
 have hta:∀(xT:TypeId) (w:World),(Instr.typeAssert .nilIface xT 98 true).run Tryz.prog w= .ok (.tuple #[.agg #[.int .i64 0],.bool false]) w:=fun _ _=>by kernel_rfl
 refine callsD_of_wpS Tryz.func85 rfl fun c₀ cs hu=> ?_
 apply wpS_seq
 apply wpS_region
 simp [wpOpsS,go_sem,recoverD,hu,Tryz.ntmps85,Exit.thenS,hta,Act.put]
 apply wpS_seq
 apply wpS_region
 simp [wpOpsS,go_sem,Exit.thenS,Act.put]
 refine wpS_cond (t:=false) (by simp [Act.eval]) ?_
 simp only [Bool.false_eq_true,if_false]
 refine wpS_of_wp (wp_skip ?_)
 cases c₀
 simp_all [bodyPostS,results,Tryz.results85]
 exact (Below.refl _ _).alloc (Nat.le_refl _) _
theorem entry_torn {l:List Tr} {L:List By} {m:Nat} (hcc:(encTs l).length<1000000000) (hs:Sl M w a c L) (hm0:0<m) (hm:m<(frameP crS4 l).length) (hL:Hid (L=(frameP crS4 l).take m)):
    Calls Tryz.prog 44 #[.slice a L.length c] w fun e w'=>e= .returned (.tuple #[.slice none 0 0,.int .i64 0,.int .i64 4])∧Below w.heap.size w w':=by
 have hT:=t3r_new w
 obtain ⟨w4,hw4⟩:∃w4,w4=(((w.alloc (.cells #[.slice none 0 0] 37)).alloc (.cells #[.int .i64 0] 3)).alloc (.cells #[.int .i64 0] 44)):=⟨_,rfl⟩
 rw [←hw4] at hT
 have hc:=open_torn (k:=2) hcc (hs.below hT.2) hm0 hm hL
 rw [hw4] at hc
 have HC:=Lib.hid hc
 have HT:=Lib.hid hT
 have HE:=Lib.hid hw4
 clear hc hT hw4 hs
 go_enter_defers Tryz.func44,Tryz.ntmps44
 go_wp2_with fail
 refine (HC.out).mono ?_
 rintro e w5 ⟨rfl,hb5⟩
 rw [←HE.out] at hb5
 have HT5:=Lib.hid (HT.out.1.below hb5)
 have HB5:=Lib.hid (HT.out.2.trans (hb5.mono HT.out.2.size))
 have f3:=(cell0 HT5.out.h3)
 have f4:=(cell0 HT5.out.h4)
 have f31:=f3.1
 have f32:=f3.2
 have f41:=f4.1
 have f42:=f4.2
 clear HC hb5 f3 f4
 have HTs:=Lib.hid ((HT5.out.set3 (.int .i64 0)).set4 (.int .i64 4))
 have HBs:=Lib.hid ((HB5.out.setCell (p:=⟨w.heap.size+1,0,none⟩) (by simp) (.int .i64 0)).setCell (p:=⟨w.heap.size+1+1,0,none⟩) (by simp;omega) (.int .i64 4))
 clear HT HE
 go_wp2
 refine wp_onN ?_
 refine wp_region_L (fun w'=>w'.cell? ⟨w.heap.size+1+1,0,none⟩=some (.int .i64 4)) [0] (by kernel_rfl) ?_
 have HTd:Hid (T3r ((w5.setCell ⟨w.heap.size+1,0,none⟩ (.int .i64 0)).setCell ⟨w.heap.size+1+1,0,none⟩ (.int .i64 4)).drew w.heap.size (.slice none 0 0) (.int .i64 0) (.int .i64 4)):=⟨HTs.out.h2,HTs.out.h3,HTs.out.h4⟩
 have HBd:=Lib.hid (HBs.out.drew)
 clear HTs HBs HT5 HB5 f31 f32 f41 f42
 generalize ((w5.setCell ⟨w.heap.size+1,0,none⟩ (.int .i64 0)).setCell ⟨w.heap.size+1+1,0,none⟩ (.int .i64 4)).drew=w6 at*
 have hS6:=(cell0 HTd.out.h4).1
 have c2:=(cell0 HTd.out.h2).1
 have f2:=(cell0 HTd.out.h2).2
 refine skL_on [0] ?_
 repeat (refine skL_take (v:= ?_) rfl ?_ ?_;rotate_left;(focus (intro w' hSw;(try dsimp only at hSw);go_simp;try with_reducible rfl));try simp only [Act.put,List.setIfInBounds_toArray,List.set_cons_zero,List.set_cons_succ])
 refine skL_off ?_
 refine wpAnyL_one (i:=1) (by kernel_rfl) rfl rfl (fun K hK=> ?_)
 go_simp
 have HT7:=Lib.hid (HTd.out.set2 (.slice none 0 0))
 have hS7:=(cell0 HT7.out.h4).1
 have HB7:=Lib.hid (HBd.out.setCell (p:=⟨w.heap.size,0,none⟩) (Nat.le_refl _) (.slice none 0 0))
 refine hK _ _ (fun _=>hS7) ?_
 clear hK K HTd HBd hS6 c2 f2
 generalize w6.setCell ⟨w.heap.size,0,none⟩ (.slice none 0 0)=w7 at*
 have c3:=(cell0 HT7.out.h3).1
 have f3:=(cell0 HT7.out.h3).2
 refine wpAnyL_one (i:=2) (by kernel_rfl) rfl rfl (fun K hK=> ?_)
 go_simp
 have HT8:=Lib.hid (HT7.out.set3 (.int .i64 0))
 have hS8:=(cell0 HT8.out.h4).1
 have HB8:=Lib.hid (HB7.out.setCell (p:=⟨w.heap.size+1,0,none⟩) (by simp) (.int .i64 0))
 refine hK _ _ (fun _=>hS8) ?_
 clear hK K HT7 HB7 hS7 c3 f3
 generalize w7.setCell ⟨w.heap.size+1,0,none⟩ (.int .i64 0)=w8 at*
 have f4:=(cell0 HT8.out.h4).2
 refine wpAnyL_one (i:=3) (by kernel_rfl) rfl rfl (fun K hK=> ?_)
 go_simp
 have HT9:=Lib.hid (HT8.out.set4 (.int .i64 4))
 have hS9:=(cell0 HT9.out.h4).1
 have HB9:=Lib.hid (HB8.out.setCell (p:=⟨w.heap.size+1+1,0,none⟩) (by simp;omega) (.int .i64 4))
 refine hK _ _ (fun _=>hS9) ?_
 clear hK K HT8 HB8 hS8 f4
 generalize w8.setCell ⟨w.heap.size+1+1,0,none⟩ (.int .i64 4)=w9 at*
 refine wpAnyL_done (by kernel_rfl) ?_ _
 refine onN_normal ?_
 clear hS9
 have c2:=(cell0 HT9.out.h2).1
 have c3:=(cell0 HT9.out.h3).1
 have c4:=(cell0 HT9.out.h4).1
 go_wp2
 simp [bodyPostD,Leaves,results,Tryz.results44,go_sem,c2,c3,c4]
 exact HB9.out
theorem Qt.low {N B N' B':Nat} {T:TypeId} {v:Value} {l:List Tr} (h:Qt N B w T v l) (hN:N'≤N) (hB:B'≤B):Qt N' B' w T v l:=
 (Ow.ext h ⟨Nat.le_refl _,fun _ _ _=>rfl,fun k _ hk=>hk.elim .inl (fun h=> .inr (by omega))⟩ (fun _ _=>rfl)).lower hB
theorem Ow.anyMy {T:TypeId} {B:Nat} {M M':Nat→Prop} {v:Value} {l:List By} (h:Ow B M w T v l):Ow B M' w T v l:=by
 obtain ⟨xs,h1,h2⟩:=h
 exact ⟨xs,h1,fun j x hj=>h2 j x hj⟩
theorem Ow.setOtherY {T:TypeId} {B:Nat} {M:Nat→Prop} {v:Value} {l:List By} (h:Ow B M w T v l) {p:Addr} (hne:p.block<B) (u:Value):Ow B M (w.setCell p u) T v l:=by
 have hl:=h.lt
 obtain ⟨xs,h1,h2⟩:=h
 exact ⟨xs,ownsRow_same h1 fun k hk'=>Below.heap_setCell _ _ _ _ (by have:=(hl k hk').1;omega),fun j x hj=>h2 j x hj⟩
theorem Ow.slB {l:List By} {T:TypeId} {B:Nat} (h:Ow B (fun k=>B≤k) w T (.slice a l.length c) l) {M:Nat→Prop} (hM:∀k,M k→k<B∨w.heap.size≤k):Sl M w a c l:=
 (h.anyMy (M':=M)).toSl fun k hk hm=>by have:=h.lt k hk;have:=hM k hm;omega
theorem rend2 {g:Nat} (hc0:w.cell? ⟨g,0,none⟩=some (.slice a 0 c)):
    Calls Tryz.prog 73 #[.pointer (some ⟨g,0,none⟩)] w fun e w'=>e= .returned (.tuple #[])∧w'=w:=by
 go_enter Tryz.func73,Tryz.ntmps73
 go_wp2
 go_end0
 exact ⟨rfl,rfl⟩
theorem entry_ok {l:List Tr} {L R:List By} (hl:Hid (TrI l)) (hn:l.length<1000000000) (hcc:(encTs l).length<1000000000) (hs:Sl M w a c L) (hL:Hid (L=frameP crS4 l++R)):
    Calls Tryz.prog 44 #[.slice a L.length c] w fun e w'=>∃(a1:Option Addr) (c1:Nat) (l1:List Tr),e= .returned (.tuple #[.slice a1 l1.length c1,.int .i64 ((frameP crS4 l).length:Nat),.int .i64 0])∧Hid (l1=l)∧Qt w.heap.size w.heap.size w' 72 (.slice a1 l1.length c1) l1∧Below w.heap.size w w':=by
 have hmf:∀(fn:Fn) (first cap:Array Value) (w:World),(Instr.makeFunc fn first cap).run Tryz.prog w= .ok (.func fn first cap) w:=fun _ _ _ _=>rfl
 have hT:=t3r_new w
 obtain ⟨w4,hw4⟩:∃w4,w4=(((w.alloc (.cells #[.slice none 0 0] 37)).alloc (.cells #[.int .i64 0] 3)).alloc (.cells #[.int .i64 0] 44)):=⟨_,rfl⟩
 rw [←hw4] at hT
 have hz4:w4.heap.size=w.heap.size+1+1+1:=by rw [hw4];simp
 have hc:=open_ok (k:=2) (by omega) hcc (hs.below hT.2) (R:=R) (by unfold Hid;rw [hL.out];rfl)
 obtain ⟨F,hF⟩:∃F,F=(frameP crS4 l).length:=⟨_,rfl⟩
 have hF2:F=(sealP crS4 2 (encTs l)).length:=hF
 rw [←hF2] at hc
 rw [←hF]
 rw [hw4] at hc
 have HC:=Lib.hid hc
 have HT:=Lib.hid hT
 have HE:=Lib.hid hw4
 have HZ:=Lib.hid hz4
 have HN:=Lib.hid hn
 clear hc hT hw4 hs hF hF2 hz4 hn
 go_enter_defers Tryz.func44,Tryz.ntmps44
 go_wp2_with fail
 refine (HC.out).mono ?_
 rintro e w5 ⟨a5,c5,l5,rfl,hl5,hO5,hb5⟩
 rw [←HE.out] at hb5 hO5
 have HT5:=Lib.hid (HT.out.1.below hb5)
 have HB5:=Lib.hid (HT.out.2.trans (hb5.mono HT.out.2.size))
 have f3:=(cell0 HT5.out.h3)
 have f4:=(cell0 HT5.out.h4)
 have f31:=f3.1
 have f32:=f3.2
 have f41:=f4.1
 have f42:=f4.2
 clear f3 f4
 have HTs:=Lib.hid ((HT5.out.set3 (.int .i64 F)).set4 (.int .i64 0))
 have HBs:=Lib.hid ((HB5.out.setCell (p:=⟨w.heap.size+1,0,none⟩) (by simp) (.int .i64 F)).setCell (p:=⟨w.heap.size+1+1,0,none⟩) (by simp;omega) (.int .i64 0))
 obtain ⟨ws,hws⟩:∃ws,ws=((w5.setCell ⟨w.heap.size+1,0,none⟩ (.int .i64 F)).setCell ⟨w.heap.size+1+1,0,none⟩ (.int .i64 0)):=⟨_,rfl⟩
 have hzz:w4.heap.size≤w5.heap.size:=hb5.size
 rw [←hws] at HTs HBs
 obtain ⟨wr,hwr⟩:∃wr,wr=ws.alloc (.cells #[.slice a5 l5.length c5] 101):=⟨_,rfl⟩
 have hbr:Below ws.heap.size ws wr:=by rw [hwr];exact (Below.refl _ _).alloc (Nat.le_refl _) _
 have hO5s:Ow w4.heap.size (fun k=>w4.heap.size≤k) ws 5 (.slice a5 l5.length c5) l5:=by
  rw [hws];exact (hO5.setOtherY (p:=⟨w.heap.size+1,0,none⟩) (by have:=HZ.out;simp;omega) _).setOtherY (p:=⟨w.heap.size+1+1,0,none⟩) (by have:=HZ.out;simp;omega) _
 have hRd:Rd ws.heap.size wr ws.heap.size a5 c5 l5:=⟨by rw [hwr];exact heap_alloc_new _ _,(hO5s.slB (M:=fun k=>k=ws.heap.size∨ws.heap.size≤k) (fun k hk=> .inr (by omega))).below hbr⟩
 have hc2:=rtraces_ok hl HN.out hRd (by rw [hwr];simp) (R':=[]) (by unfold Hid;rw [hl5.out,List.append_nil])
 have HTr:=Lib.hid (HTs.out.below hbr)
 have HBr:=Lib.hid (HBs.out.trans (hbr.mono HBs.out.size))
 have hsr:ws.heap.size=w5.heap.size:=by rw [hws];simp
 have hsr2:wr.heap.size=ws.heap.size+1:=by rw [hwr];simp
 rw [hsr,hwr,hws] at hc2
 have HSR:Hid (ws.heap.size=w5.heap.size∧wr.heap.size=ws.heap.size+1):=⟨hsr,hsr2⟩
 have HC2:=Lib.hid hc2
 have HWR:Hid (wr=((w5.setCell ⟨w.heap.size+1,0,none⟩ (.int .i64 F)).setCell ⟨w.heap.size+1+1,0,none⟩ (.int .i64 0)).alloc (.cells #[.slice a5 l5.length c5] 101)):=by unfold Hid;rw [hwr,hws]
 clear HC hO5 hb5 hO5s hRd hc2 hbr hsr hsr2 hwr hws
 clear HT5 HE HTs HBs
 go_wp2_with fail
 refine (HC2.out).mono ?_
 rintro e w8 ⟨a8,c8,l8,rfl,hl8,hQ8,⟨a9,c9,hS8⟩,hK8⟩
 rw [←HWR.out] at hQ8 hK8
 have hz1:w.heap.size+1+1<w5.heap.size:=by have:=HZ.out;omega
 have hz2:w5.heap.size<wr.heap.size:=by have:=HSR.out;omega
 have T8:T3r w8 w.heap.size (.slice none 0 0) (.int .i64 F) (.int .i64 0):=
  ⟨(hK8.block w.heap.size (by omega) (by first|(simp;done)|(simp;omega))).trans HTr.out.h2,(hK8.block (w.heap.size+1) (by omega) (by first|(simp;done)|(simp;omega))).trans HTr.out.h3,(hK8.block (w.heap.size+1+1) (by omega) (by first|(simp;done)|(simp;omega))).trans HTr.out.h4⟩
 have HT9:=Lib.hid (T8.set2 (.slice a8 l8.length c8))
 have HB9:=Lib.hid ((HBr.out.trans (kb_below hK8 (B:=w.heap.size) (by omega) (by omega))).setCell (p:=⟨w.heap.size,0,none⟩) (Nat.le_refl _) (.slice a8 l8.length c8))
 have HQ9:=Lib.hid ((hQ8.low (N':=w5.heap.size) (B':=w5.heap.size) (by omega) (by omega)).set (p:=⟨w.heap.size,0,none⟩) (by show w.heap.size<_;omega) (Nat.le_refl _) (.slice a8 l8.length c8))
 have HC3:=Lib.hid (rend2 (a:=a9) (c:=c9) (g:=w5.heap.size) (w:=w8.setCell ⟨w.heap.size,0,none⟩ (.slice a8 l8.length c8)) (((World.cell?_setCell_other _ _ _ _ (by first|(simp;done)|(simp;omega)))).trans (cell0 hS8.cell).1))
 have g2:=(cell0 T8.h2).1
 have g3:=(cell0 T8.h2).2
 clear HC2 hQ8 hS8 hK8 f31 f32 f41 f42 HTr HBr HT HB5
 go_wp2_with fail
 refine (HC3.out).mono ?_
 rintro e w9 ⟨rfl,rfl⟩
 clear HC3
 go_wp2
 refine wp_onN ?_
 refine wp_region_L (fun w'=>w'.cell? ⟨w.heap.size,0,none⟩=some (.slice a8 l8.length c8)∧w'.cell? ⟨w.heap.size+1,0,none⟩=some (.int .i64 F)) [0,1] (by kernel_rfl) ?_
 have HTd:Hid (T3r (w8.setCell ⟨w.heap.size,0,none⟩ (.slice a8 l8.length c8)).drew w.heap.size (.slice a8 l8.length c8) (.int .i64 F) (.int .i64 0)):=⟨HT9.out.h2,HT9.out.h3,HT9.out.h4⟩
 have HBd:=Lib.hid (HB9.out.drew)
 have HQd:=Lib.hid (Ow.drew HQ9.out)
 clear HT9 HB9 HQ9 g2 g3
 generalize (w8.setCell ⟨w.heap.size,0,none⟩ (.slice a8 l8.length c8)).drew=w10 at*
 have hS10:=And.intro (cell0 HTd.out.h2).1 (cell0 HTd.out.h3).1
 have f2:=(cell0 HTd.out.h2).2
 refine skL_on [0,1] ?_
 repeat (refine skL_take (v:= ?_) rfl ?_ ?_;rotate_left;(focus (intro w' hSw;(try dsimp only at hSw);go_simp;try with_reducible rfl));try simp only [Act.put,List.setIfInBounds_toArray,List.set_cons_zero,List.set_cons_succ])
 refine skL_off ?_
 refine wpAnyL_one (i:=2) (by kernel_rfl) rfl rfl (fun K hK=> ?_)
 go_simp
 have HT11:=Lib.hid (HTd.out.set2 (.slice a8 l8.length c8))
 have hS11:=And.intro (cell0 HT11.out.h2).1 (cell0 HT11.out.h3).1
 have HB11:=Lib.hid (HBd.out.setCell (p:=⟨w.heap.size,0,none⟩) (Nat.le_refl _) (.slice a8 l8.length c8))
 have HQ11:=Lib.hid (Qt.set HQd.out (p:=⟨w.heap.size,0,none⟩) (by show w.heap.size<_;omega) (Nat.le_refl _) (.slice a8 l8.length c8))
 refine hK _ _ (fun _=>hS11) ?_
 clear hK K HTd HBd HQd hS10 f2
 generalize w10.setCell ⟨w.heap.size,0,none⟩ (.slice a8 l8.length c8)=w11 at*
 have f3:=(cell0 HT11.out.h3).2
 refine wpAnyL_one (i:=3) (by kernel_rfl) rfl rfl (fun K hK=> ?_)
 go_simp
 have HT12:=Lib.hid (HT11.out.set3 (.int .i64 F))
 have hS12:=And.intro (cell0 HT12.out.h2).1 (cell0 HT12.out.h3).1
 have HB12:=Lib.hid (HB11.out.setCell (p:=⟨w.heap.size+1,0,none⟩) (by simp) (.int .i64 F))
 have HQ12:=Lib.hid (Qt.set HQ11.out (p:=⟨w.heap.size+1,0,none⟩) (by simp;omega) (Nat.le_refl _) (.int .i64 F))
 refine hK _ _ (fun _=>hS12) ?_
 clear hK K HT11 HB11 HQ11 hS11 f3
 generalize w11.setCell ⟨w.heap.size+1,0,none⟩ (.int .i64 F)=w12 at*
 have c4:=(cell0 HT12.out.h4).1
 have f4:=(cell0 HT12.out.h4).2
 refine wpAnyL_one (i:=4) (by kernel_rfl) rfl rfl (fun K hK=> ?_)
 go_simp
 have HT13:=Lib.hid (HT12.out.set4 (.int .i64 0))
 have hS13:=And.intro (cell0 HT13.out.h2).1 (cell0 HT13.out.h3).1
 have HB13:=Lib.hid (HB12.out.setCell (p:=⟨w.heap.size+1+1,0,none⟩) (by simp;omega) (.int .i64 0))
 have HQ13:=Lib.hid (Qt.set HQ12.out (p:=⟨w.heap.size+1+1,0,none⟩) (by simp;omega) (Nat.le_refl _) (.int .i64 0))
 refine hK _ _ (fun _=>hS13) ?_
 clear hK K HT12 HB12 HQ12 hS12 c4 f4
 generalize w12.setCell ⟨w.heap.size+1+1,0,none⟩ (.int .i64 0)=w13 at*
 refine wpAnyL_done (by kernel_rfl) ?_ _
 refine onN_normal ?_
 clear hS13
 have c2:=(cell0 HT13.out.h2).1
 have c3:=(cell0 HT13.out.h3).1
 have c4:=(cell0 HT13.out.h4).1
 go_wp2
 refine leaves_cons (f:=85) (args:= #[.pointer (some ⟨w.heap.size,0,none⟩),.pointer (some ⟨w.heap.size+1,0,none⟩),.pointer (some ⟨w.heap.size+1+1,0,none⟩)]) (by simp) (by simp [go_sem]) ?_
 refine (catchE_idle _ _ _ _).mono ?_
 rintro e u' w'' ⟨rfl,rfl,hb⟩
 have HT14:=HT13.out.below hb
 have d2:=(cell0 HT14.h2).1
 have d3:=(cell0 HT14.h3).1
 have d4:=(cell0 HT14.h4).1
 have HF:Hid (Qt w.heap.size w.heap.size w'' 72 (.slice a8 l8.length c8) l8∧Below w.heap.size w w''):=⟨(Qt.later HQ13.out hb).low (by omega) (by omega),HB13.out.trans (hb.mono HB13.out.size)⟩
 clear HQ13 HB13 HT13 hb c2 c3 c4 HT14
 simp [Leaves,settle,results,Tryz.results44,go_sem,d2,d3,d4]
 exact ⟨a8,c8,l8,⟨rfl,rfl,rfl⟩,hl8,HF.out⟩
end
theorem info_traces:(Tryz.prog.info? 37).map (fun i=>(i.zero,i.size,i.bytes))=some (some (.slice none 0 0),1,24):=by kernel_rfl
noncomputable def rdE (ls:List (List Tr)) (p:Nat):Int:=if endP crS4 ls (wholeP crS4 ls p)=p then 0 else 4
def LsI (ls:List (List Tr)):Prop:=∀l∈ls,TrI l∧l.length<1000000000∧(encTs l).length<1000000000
section
variable {w w1:World} {M:Nat→Prop} {a:Option Addr} {c:Nat}
theorem read_any {ls:List (List Tr)} {p:Nat} {L:List By} (hl:Hid (LsI ls)) (hp:Hid (p≤(jrn crS4 ls).length)) (hln:Hid (ls.length<1000000000)) (hs:Sl M w a c L) (hL:Hid (L=(jrn crS4 ls).take p)):
    Calls Tryz.prog 15 #[.slice a L.length c] w fun e w'=>∃(a1:Option Addr) (c1:Nat) (o:List (List Tr)),e= .returned (.tuple #[.slice a1 o.length c1,.int .i64 (endP crS4 ls (wholeP crS4 ls p):Nat),.int .i64 (rdE ls p)])∧Hid (o=ls.take (wholeP crS4 ls p))∧Ox w.heap.size w.heap.size w' 37 (.slice a1 o.length c1) o∧Below w.heap.size w w':=by
 have ll:=hs.le
 have hcap:L.length≤c:=hs.1
 have hcm:c≤9223372036854775807:=by have:=hs.2.1;unfold maxLen at this;exact this
 have hLp:Hid (L.length=p):=by unfold Hid;rw [hL.out,List.length_take,Nat.min_eq_left hp.out]
 have HS:=Lib.hid hs
 clear hs
 go_enter Tryz.func15,Tryz.ntmps15
 go_wp2
 go_loopw [5,6] (fun v n wr=>∃(k u:Nat) (a':Option Addr) (c':Nat) (o:List (List Tr)),n= .int .i64 u∧v= .slice a' o.length c'∧u≤L.length∧Hid (k≤wholeP crS4 ls p∧u=endP crS4 ls k∧o=ls.take k)∧Hid (Ox w.heap.size w.heap.size wr 37 (.slice a' o.length c') o)∧Below w.heap.size w wr) (fun _ n _=>L.length-(intOf n).toNat)
 case atStart=>exact ⟨0,0,none,0,[],rfl,rfl,Nat.zero_le _,Lib.hid ⟨Nat.zero_le _,by simp [endP,jrn],by simp⟩,Lib.hid Ox.nil,Below.refl _ _⟩
 case round=>
  obtain ⟨k,u,a2,c2,o,rfl,rfl,huL,hku,hO,hB⟩:=hrel
  obtain ⟨wo,rfl⟩:∃wo:World,wo=wr:=⟨_,rfl⟩
  rcases read_step (S:=crS4) (ls:=ls) hku.out.1 hp.out with ⟨he,hkW⟩|⟨l,hx,hlt,hcase⟩
  ·have hul:¬(u<L.length):=by rw [hLp.out,←he,hku.out.2.1];omega
   have HF:Hid (u=endP crS4 ls (wholeP crS4 ls p)∧rdE ls p=0∧o=ls.take (wholeP crS4 ls p)):=by
    refine ⟨by rw [←hkW];exact hku.out.2.1,?_,by rw [←hkW];exact hku.out.2.2⟩
    unfold rdE;rw [←hkW,if_pos he]
   clear he hkW
   go_wp2
   exact bodyPost_ret (v:= .tuple #[.slice a2 o.length c2,.int .i64 u,.int .i64 0]) (by simp [results,Tryz.results15,go_sem]) rfl ⟨a2,c2,o,by rw [HF.out.2.1,←HF.out.1],HF.out.2.2,hO.out,hB⟩
  have hul:u<L.length:=by rw [hLp.out,hku.out.2.1];exact hlt
  have hcu:¬c=u:=by omega
  have hlI:=hl.out l (List.mem_of_getElem? hx)
  obtain ⟨b0,o0,x0,rfl, -, -, -⟩:=HS.out.at_by (j:=0) (by omega)
  have hsd:=(HS.out.below (hB.mono (by omega))).dropB (i:=u) (by omega)
  rw [dA_some hcu] at hsd
  rcases hcase with ⟨hW,rest,hr⟩|⟨hW,ht,hr⟩
  ·have hc:=entry_ok (R:=rest) (Lib.hid hlI.1) hlI.2.1 hlI.2.2 hsd (by unfold Hid;rw [hL.out,hku.out.2.1];exact hr)
   rw [List.length_drop] at hc
   obtain ⟨F,hF⟩:∃F,F=(frameP crS4 l).length:=⟨_,rfl⟩
   rw [←hF] at hc
   have hend:Hid (u+F=endP crS4 ls (k+1)):=by unfold Hid;rw [endP_succ hx,hF,hku.out.2.1]
   have huF:u+F≤L.length:=by
    rw [hend.out,hLp.out]
    exact Nat.le_trans (endP_mono (show k+1≤wholeP crS4 ls p by omega)) (wholeP_end p)
   have hF0:0<F:=by rw [hF];have:=frameP_len (S:=crS4) l;omega
   have hkW:Hid (k+1≤wholeP crS4 ls p):=hW
   have hol:Hid (o.length<1000000000):=by unfold Hid;rw [hku.out.2.2,List.length_take];have:=hln.out;omega
   have hto:Hid (o++[l]=ls.take (k+1)):=by unfold Hid;rw [List.take_add_one,hx,hku.out.2.2];rfl
   have HC:=Lib.hid hc
   clear hc hF hr hsd hW hx hlt hlI
   go_wp2_with fail
   refine (HC.out).mono ?_
   rintro e w1 ⟨a5,c5,l5,rfl,hl5,hQ5,hb5⟩
   have hz:=hB.size
   have hz5:=hb5.size
   have hM:∀i,((Value.slice a2 o.length c2).ownBlock=some i∨i<w.heap.size)→i<wo.heap.size:=fun i hi=>hi.elim (fun e=>(hO.out.lt i e).2) (fun e=>by omega)
   have hy:Sl (fun i=>(Value.slice a2 o.length c2).ownBlock=some i∨i<w.heap.size) w1 a5 c5 l5:=(Qt.sl hQ5 (Nat.le_refl _)).ext ⟨Nat.le_refl _,fun _ _ _=>rfl,fun k _ e=>hM k e⟩
   have HO1:=Lib.hid (Ox.later hO.out hb5)
   have hB1:=hB.trans (hb5.mono hz)
   have hbb:=(Below.refl w1.heap.size w1).alloc (Nat.le_refl _) (.cells #[.slice a5 l5.length c5] 37)
   clear HC hO hQ5 hb5 hM
   go_wp2_with (at_builtin;refine wpList_push_x (n0:=w.heap.size) (B:=w.heap.size) (v:= .slice a2 o.length c2) (rows:=o) (r:=l5) (g:=w1.heap.size) (c:=1) rfl rfl Tryz.underlying60 info_traces rfl (by simp [go_sem]) (Ox.later HO1.out hbb) (by simp) (hy.below hbb) (by have:=hol.out;omega) (by simp;omega) ?_)
   intro a9 c9 o9 w9 ho9 hO9 hk9 hg9
   have hb9:=(Below.refl w.heap.size (w1.alloc (.cells #[.slice a5 l5.length c5] 37))).grown hg9 (by simp;omega) (fun i hi=>(HO1.out.lt i hi).1)
   have hB9:=hB1.trans ((hbb.mono (show w.heap.size≤w1.heap.size by omega)).trans hb9)
   have hL9:Hid (k+1≤wholeP crS4 ls p∧u+F=endP crS4 ls (k+1)∧o9=ls.take (k+1)):=⟨hkW.out,hend.out,by rw [ho9.out,hl5.out];exact hto.out⟩
   have HO9:=Lib.hid hO9
   clear hb9 hbb hO9 hk9 hg9 hB1 hy ho9 hto hkW hend hB HO1 hl5
   go_wp2
   go_roundw
   case rel=>exact ⟨k+1,u+F,a9,c9,o9,by go_num,rfl,huF,hL9,HO9,hB9⟩
   case measure=>simp [intOf];omega
  have hc:=entry_torn (m:=p-u) hlI.2.2 hsd (by rw [hku.out.2.1];omega) (by rw [hku.out.2.1];exact ht) (by unfold Hid;rw [hL.out,hku.out.2.1];exact hr)
  rw [List.length_drop] at hc
  have HF:Hid (u=endP crS4 ls (wholeP crS4 ls p)∧rdE ls p=4∧o=ls.take (wholeP crS4 ls p)):=by
   refine ⟨by rw [←hW];exact hku.out.2.1,?_,by rw [←hW];exact hku.out.2.2⟩
   unfold rdE;rw [←hW,if_neg (by omega)]
  have HC:=Lib.hid hc
  clear hc hr ht hsd hW hx hlt hlI
  go_wp2_with fail
  refine (HC.out).mono ?_
  rintro e w1 ⟨rfl,hb5⟩
  go_wp2
  exact bodyPost_ret (v:= .tuple #[.slice a2 o.length c2,.int .i64 u,.int .i64 4]) (by simp [results,Tryz.results15,go_sem]) rfl ⟨a2,c2,o,by rw [HF.out.2.1,←HF.out.1],HF.out.2.2,Ox.later hO.out hb5,hB.trans (hb5.mono hB.size)⟩
end
abbrev exL:List Tr:=[⟨[0,0],[1,2]⟩]
abbrev exJ:List (List Tr):=[exL,exL]
theorem exJ_0:0<(jrn crS4 exJ).length:=by decide+kernel
theorem exJ_n:(jrn crS4 exJ).length≤1000:=by decide+kernel
theorem exJ_e2:endP crS4 exJ 2=(jrn crS4 exJ).length:=by decide+kernel
theorem exJ_e1:endP crS4 exJ 1<(jrn crS4 exJ).length:=by decide+kernel
theorem exJ_w2:wholeP crS4 exJ (jrn crS4 exJ).length=2:=by
 have h1:=wholeP_le (S:=crS4) (ls:=exJ) (jrn crS4 exJ).length
 have h2:=(whole_iff (S:=crS4) (ls:=exJ) (p:=(jrn crS4 exJ).length) (show 1<exJ.length by decide)).1 (Nat.le_of_eq exJ_e2)
 have e:exJ.length=2:=rfl
 omega
theorem exJ_w1:wholeP crS4 exJ ((jrn crS4 exJ).length-1)=1:=by
 have h0:=exJ_0
 have h1:=(whole_iff (S:=crS4) (ls:=exJ) (p:=(jrn crS4 exJ).length-1) (show 0<exJ.length by decide)).1 (by have:=exJ_e1;show endP crS4 exJ 1≤_;omega)
 have h2:=fun h=>(whole_iff (S:=crS4) (ls:=exJ) (p:=(jrn crS4 exJ).length-1) (show 1<exJ.length by decide)).2 h
 have h3:¬endP crS4 exJ 2≤(jrn crS4 exJ).length-1:=by rw [exJ_e2];omega
 by_cases h:1<wholeP crS4 exJ ((jrn crS4 exJ).length-1)
 ·exact absurd (h2 h) h3
 omega
theorem exJ_r2:rdE exJ (jrn crS4 exJ).length=0:=by unfold rdE;rw [exJ_w2,if_pos exJ_e2]
theorem exJ_r1:rdE exJ ((jrn crS4 exJ).length-1)=4:=by
 unfold rdE
 rw [exJ_w1,if_neg]
 decide+kernel
theorem Ox.setO {α:Type} [GR α] {n0 B:Nat} {w:World} {T:TypeId} {v:Value} {l:List α} (h:Ox n0 B w T v l) {p:Addr} (hp:p.block<n0) (hB:n0≤B) (u:Value):Ox n0 B (w.setCell p u) T v l:=
 Ow.ext h (Ext.setCell (M:=fun k=>v.ownBlock=some k∨k<n0) _ (.inr hp) _) (fun k hk=>Below.heap_setCell _ _ _ _ (by have:=(h.lt k hk).1;omega))
theorem Ox.kbO {α:Type} [GR α] {n0 B g:Nat} {w w':World} {T:TypeId} {v:Value} {l:List α} (h:Ox n0 B w T v l) (k:Kb g w w') (hg:g<n0) (hB:n0≤B):Ox n0 B w' T v l:=
 Ow.ext h ⟨k.size,fun q hq hn=>k.block q hq (fun e=>hn (.inr (by simp at e;omega))),fun _ _ e=>e⟩ (fun q hq=>k.block q (h.lt q hq).2 (fun e=>by simp at e;have:=(h.lt q hq).1;omega))
section
variable {w:World} {M:Nat→Prop} {a:Option Addr} {c:Nat}
theorem catchW_idle (p2 p3 p4:Addr) (w:World):
    CallsD Tryz.prog 167 #[.pointer (some p2),.pointer (some p3),.pointer (some p4)] .returning w fun e u' w'=>e= .returned (.tuple #[])∧u'= .returning∧w'=w:=by
 refine callsD_of_wpS Tryz.func167 rfl fun c₀ cs hu=> ?_
 apply wpS_seq
 apply wpS_region
 simp [wpOpsS,go_sem,recoverD,hu,Tryz.ntmps167,Exit.thenS]
 apply wpS_seq
 apply wpS_region
 simp [wpOpsS,go_sem,Exit.thenS,Act.put]
 refine wpS_cond (t:=false) (by simp [Act.eval]) ?_
 simp only [Bool.false_eq_true,if_false]
 refine wpS_of_wp (wp_skip ?_)
 cases c₀
 simp_all [bodyPostS,results,Tryz.results167]
structure Tws (w0:World) (ws:List (List Int)) (a:Option Addr) (c:Nat) (L:List By) (k:Nat) (w:World) (a2:Option Addr) (c2:Nat) (L2:List (List Int)):Prop where
 eq:L2=ws.take k
 h2:w.heap[w0.heap.size]? =some (.cells #[.slice a2 L2.length c2] 27 (0,0))
 own:Ox (w0.heap.size+4) (w0.heap.size+4) w 62 (.slice a2 L2.length c2) L2
 h3:w.heap[w0.heap.size+1]? =some (.cells #[.int .i64 0] 3 (0,0))
 h4:w.heap[w0.heap.size+1+1]? =some (.cells #[.int .i64 0] 44 (0,0))
 src:Src w (w0.heap.size+1+1+1) a c L (putI ws.length++((ws.take k).map encL).flatten).length
 bel:Below w0.heap.size w0 w
 sz:w0.heap.size+4≤w.heap.size
theorem takewords_ok {ws:List (List Int)} (hl:Hid (∀x∈ws,(∀y∈x,i64 y)∧x.length<1000000000)) (hn:ws.length<1000000000) {L R:List By} (hs:Sl M w a c L) (hL:Hid (L=encW ws++R)):
    Calls Tryz.prog 122 #[.slice a L.length c] w fun e w'=>∃(a':Option Addr) (c':Nat) (l':List (List Int)),e= .returned (.tuple #[.slice a' l'.length c',.int .i64 ((encW ws).length:Nat),.int .i64 0])∧Hid (l'=ws)∧Sl (fun k=>k<w.heap.size) w' a' c' l'∧Below w.heap.size w w':=by
 have hmf:∀(fn:Fn) (first cap:Array Value) (w:World),(Instr.makeFunc fn first cap).run Tryz.prog w= .ok (.func fn first cap) w:=fun _ _ _ _=>rfl
 have ll:=hs.le
 obtain ⟨q,hq⟩:∃q,q=(encW ws).length:=⟨_,rfl⟩
 rw [←hq]
 have HQ:=Lib.hid hq
 clear hq
 obtain ⟨w4,hw4⟩:∃w4,w4=(((w.alloc (.cells #[.slice none 0 0] 27)).alloc (.cells #[.int .i64 0] 3)).alloc (.cells #[.int .i64 0] 44)).alloc (.cells #[.slice a L.length c,.int .i64 0] 181):=⟨_,rfl⟩
 have HT:=Lib.hid (take_new hs hw4)
 have hc:=length_ok (n:=ws.length) (by omega) HT.out.1 (R:=(ws.map encL).flatten++R) (by unfold Hid;rw [hL.out,List.drop_zero];unfold encW;simp)
 rw [hw4] at hc
 have HC:=Lib.hid hc
 have HN:=Lib.hid hn
 clear hc hn
 have HE:=Lib.hid hw4
 have HS0:=Lib.hid (hs.anti (M':=fun k=>w.heap.size≤k) fun k hk (hm:w.heap.size≤k)=>absurd hk (by omega))
 clear hs hw4
 go_enter_defers Tryz.func122,Tryz.ntmps122
 go_wp2_with fail
 refine (HC.out).mono ?_
 rintro e w5 ⟨rfl,hS5,hK5⟩
 rw [←HE.out] at hK5
 have hz3:w.heap.size+1+1+1<w4.heap.size:=HT.out.1.lt
 have r2:=(hK5.block (w.heap.size) (by omega) (by simp;omega)).trans HT.out.2.1
 have r3:=(hK5.block (w.heap.size+1) (by omega) (by simp)).trans HT.out.2.2.1
 have r4:=(hK5.block (w.heap.size+1+1) (by omega) (by simp)).trans HT.out.2.2.2.1
 have hB5:=HT.out.2.2.2.2.trans (kb_below hK5 (B:=w.heap.size) (by omega) (by have:=HT.out.2.2.2.2.size;omega))
 have hz5:w.heap.size+4≤w5.heap.size:=by have:=hK5.size;omega
 have HH0:Hid (Tws w ws a c L 0 w5 none 0 []):=⟨by simp,r2,Ox.nil,r3,r4,by simpa using hS5,hB5,hz5⟩
 clear HC hK5 hS5 r2 r3 r4 hB5 hz5 hz3 HT HE
 go_wp2
 go_loopw [6] (fun n wr=>∃(k:Nat) (z:Int) (a2:Option Addr) (c2:Nat) (L2:List (List Int)),k≤ws.length∧n= .int .i64 z∧Hid (z=(ws.length:Int)-k)∧Hid (Tws w ws a c L k wr a2 c2 L2)) (fun n _=>(intOf n).toNat)
 case atStart=>exact ⟨0,_,none,0,[],by omega,rfl,Lib.hid (by simp),HH0⟩
 case round=>
  clear HH0
  obtain ⟨k,z,a2,c2,L2,hk,rfl,hz,hT⟩:=hrel
  obtain ⟨wo,rfl⟩:∃wo:World,wo=wr:=⟨_,rfl⟩
  by_cases hlt:k<ws.length
  ·have hx:=List.getElem?_eq_getElem hlt
   obtain ⟨x,hxe⟩:∃x,x=ws[k]:=⟨_,rfl⟩
   rw [←hxe] at hx
   have hxi:=hl.out x (List.mem_of_getElem? hx)
   obtain ⟨R',hR'⟩:=drop_enc encL hx (p:=0) (pre:=putI ws.length) (L:=L) (R:=R) (by rw [List.drop_zero,hL.out];rfl)
   rw [Nat.zero_add] at hR'
   have hz0:0<z:=by have:=hz.out;omega
   have hz1:z≤1000000000:=by have:=hz.out;have:=HN.out;omega
   have HX:=Lib.hid hx
   have HC:=Lib.hid (list_ok (w:=wo.drew) (Lib.hid hxi.1) hxi.2 ⟨hT.out.src.cell,hT.out.src.sl.drew,hT.out.src.le⟩ (Lib.hid hR'))
   clear hx hxe hR' hxi
   go_wp2
   refine wp_onN ?_
   refine wp_region_T (fun w'=>w'.cell? ⟨w.heap.size,0,none⟩=some (.slice a2 L2.length c2)) [0,1] (by kernel_rfl) ?_
   have hSd:wo.drew.cell? ⟨w.heap.size,0,none⟩=some (.slice a2 L2.length c2):=(cell0 hT.out.h2).1
   refine skT_on [0,1] ?_
   repeat (refine skT_take (v:= ?_) rfl ?_ ?_;rotate_left;(focus (intro w' hSw;(try dsimp only at hSw);go_simp;try with_reducible rfl));try simp only [Act.put,List.setIfInBounds_toArray,List.set_cons_zero,List.set_cons_succ])
   refine skT_off ?_
   refine wpAnyT_one (i:=2) (by kernel_rfl) rfl rfl (fun K hK=> ?_)
   go_simp
   refine (HC.out).mono ?_
   rintro e w3 ⟨a1,c1,l1,rfl,hl1,hO1,hS3,hK3⟩
   have hzd:wo.drew.heap.size=wo.heap.size:=rfl
   have hz4:=hT.out.sz
   have q2:=(hK3.block w.heap.size (by rw [hzd];omega) (by simp;omega)).trans hT.out.h2
   have q3:=(hK3.block (w.heap.size+1) (by rw [hzd];omega) (by simp)).trans hT.out.h3
   have q4:=(hK3.block (w.heap.size+1+1) (by rw [hzd];omega) (by simp)).trans hT.out.h4
   have hS3':=(cell0 q2).1
   have hO3:=(hT.out.own.later (Below.refl _ _).drew).kbO hK3 (by omega) (Nat.le_refl _)
   have hlO:Hid (∀k,(Value.slice a2 L2.length c2).ownBlock=some k→w.heap.size+4≤k∧k<wo.heap.size):=fun k hk=>hT.out.own.lt k hk
   have hS1:=hO1.fresh (Nat.le_refl _)
   have hz3:wo.heap.size≤w3.heap.size:=hK3.size
   have hB3:Below w.heap.size w w3:=(hT.out.bel.drew).trans (kb_below hK3 (by omega) (by rw [hzd];omega))
   have hsrc:Hid (Src w3 (w.heap.size+1+1+1) a c L (putI ws.length++((ws.take (k+1)).map encL).flatten).length):=by
    unfold Hid
    rw [map_snocB encL HX.out]
    have e:(putI ws.length++(((ws.take k).map encL).flatten++encL x)).length=(putI ws.length++((ws.take k).map encL).flatten).length+(encL x).length:=by simp only [List.length_append];omega
    rw [e];exact hS3
   have hLk:Hid (L2++[l1]=ws.take (k+1)):=by unfold Hid;rw [List.take_add_one,HX.out,hT.out.eq,hl1.out];rfl
   have hLn:L2.length<1000000000:=by rw [hT.out.eq,List.length_take];have:=HN.out;omega
   refine hK _ _ (fun _=>hS3') ?_
   clear hK K HC hSd hO1 hS3 hK3 hT hl1 hzd
   have hnb:=(Below.refl w3.heap.size w3).alloc (Nat.le_refl _) (.cells #[.slice a1 l1.length c1] 62)
   refine wpAnyT_one (i:=3) (by kernel_rfl) rfl rfl (fun K hK=> ?_)
   go_simp
   have hS4:(w3.alloc (.cells #[.slice a1 l1.length c1] 62)).cell? ⟨w.heap.size,0,none⟩=some (.slice a2 L2.length c2):=(hnb.cell (by simp;omega)).trans hS3'
   refine hK _ _ (fun _=>hS4) ?_
   clear hK K
   have hn4:(w3.alloc (.cells #[.slice a1 l1.length c1] 62)).cell? ⟨w3.heap.size,0,none⟩=some (.slice a1 l1.length c1):=box1 _ _ _ rfl
   have hs4:Sl (fun k=>(Value.slice a2 L2.length c2).ownBlock=some k∨k<w.heap.size+4) (w3.alloc (.cells #[.slice a1 l1.length c1] 62)) a1 c1 l1:=
    (hS1.below hnb).anti fun k _ hk=>hk.elim (fun e=>by have:=(hlO.out k e).2;show k<_;simpa using this) (fun e=>by show k<_;simp;omega)
   have hO4:=hO3.later hnb
   refine wpAnyT_one (i:=4) (by kernel_rfl) rfl rfl (fun K hK=> ?_)
   refine wp_push_x (n0:=w.heap.size+4) (B:=w.heap.size+4) (v:= .slice a2 L2.length c2) (rows:=L2) (r:=l1) (g:=w3.heap.size) (c:=1) (ar:=a1) (cr:=c1) rfl Tryz.underlying27 info_ints rfl (by simp [go_sem]) hO4 hn4 hs4 (by omega) (by simp;omega) ?_
   intro a9 c9 L9 w9 hL9 hO9 hk9 hg9
   have hb9:Below (w.heap.size+4) w3 w9:=(hnb.mono (by omega)).trans ((Below.refl _ _).grown hg9 (by simp;omega) (fun k hk=>(hlO.out k hk).1))
   have x2:=(hb9.block _ (by omega)).trans q2
   have x3:=(hb9.block _ (by omega)).trans q3
   have x4:=(hb9.block _ (by omega)).trans q4
   have hB9:=hB3.trans (hb9.mono (by omega))
   have xs:Src w9 (w.heap.size+1+1+1) a c L (putI ws.length++((ws.take (k+1)).map encL).flatten).length:=
    ⟨(hb9.block _ (by omega)).trans hsrc.out.cell,(HS0.out.below hB9).anti fun k _ e=>by subst e;show w.heap.size≤_;omega,hsrc.out.le⟩
   have hS9:=(cell0 x2).1
   have fz9:=(cell0 x2).2
   have hT9:Hid (Tws w ws a c L (k+1) (w9.setCell ⟨w.heap.size,0,none⟩ (.slice a9 L9.length c9)) a9 c9 L9):=by
    have hBs:=hB9.setCell (p:=⟨w.heap.size,0,none⟩) (Nat.le_refl _) (.slice a9 L9.length c9)
    refine ⟨by rw [hL9.out];exact hLk.out,set0 x2 _,hO9.setO (by show w.heap.size<w.heap.size+4;omega) (Nat.le_refl _) _,(Below.heap_setCell _ _ _ _ (by simp)).trans x3,(Below.heap_setCell _ _ _ _ (by simp;omega)).trans x4,⟨(Below.heap_setCell _ _ _ _ (by simp;omega)).trans xs.cell,?_,xs.le⟩,hBs,by have:=hb9.size;simp;omega⟩
    exact (HS0.out.below hBs).anti fun k _ e=>by subst e;show w.heap.size≤_;omega
   refine hK _ _ (fun _=>hS9) ?_
   clear hK K hS4 hn4 hs4 hO4 hnb q2 q3 q4 hS3' hO3 hS1 hsrc
   refine wpAnyT_late (i:=5) (by kernel_rfl) (by kernel_rfl) rfl rfl (fun K hK=> ?_)
   go_simp
   refine hK _ _ ?_
   clear hK K hS9 fz9 x2 x3 x4 xs hB9 hb9 hO9 hg9 hk9 hL9
   refine wpAnyT_done (by kernel_rfl) ?_ _
   refine onN_normal ?_
   go_wp2
   go_roundw
   case rel=>exact ⟨k+1,z-1,a9,c9,L9,by omega,by go_num,Lib.hid (by have:=hz.out;omega),hT9⟩
   case measure=>simp [intOf];omega
  have hz0:¬0<z:=by have:=hz.out;omega
  have hF:Hid (L2=ws):=by unfold Hid;rw [hT.out.eq,List.take_of_length_le (by omega)]
  have hsr:Src wo (w.heap.size+1+1+1) a c L q:=by
   have h:=hT.out.src
   rw [List.take_of_length_le (by omega)] at h
   rw [HQ.out];exact h
  have HT6:Hid (Tk wo w.heap.size 27 (.slice a2 L2.length c2) (.int .i64 0) (.int .i64 0) (.int .i64 (q:Nat))):=⟨hT.out.h2,hT.out.h3,hT.out.h4,hsr.at.2.1⟩
  have HB6:=Lib.hid hT.out.bel
  have HO6:=Lib.hid hT.out.own
  clear hT hsr
  go_wp2
  refine wp_onN ?_
  refine wp_region_L (fun w'=>w'.cell? ⟨w.heap.size,0,none⟩=some (.slice a2 L2.length c2)∧w'.cell? ⟨w.heap.size+1+1+1,1,none⟩=some (.int .i64 (q:Nat))) [0,1,2,3,4] (by kernel_rfl) ?_
  have HTd:Hid (Tk wo.drew w.heap.size 27 (.slice a2 L2.length c2) (.int .i64 0) (.int .i64 0) (.int .i64 (q:Nat))):=⟨HT6.out.h2,HT6.out.h3,HT6.out.h4,HT6.out.hs⟩
  have HBd:=Lib.hid (HB6.out.drew)
  have HOd:=Lib.hid (HO6.out.later (Below.refl _ _).drew)
  clear HT6 HB6 HO6
  generalize wo.drew=w6 at*
  have hS6:=And.intro (cell0 HTd.out.h2).1 HTd.out.hs
  have f2:=(cell0 HTd.out.h2).2
  refine skL_on [0,1,2,3,4] ?_
  repeat (refine skL_take (v:= ?_) rfl ?_ ?_;rotate_left;(focus (intro w' hSw;(try dsimp only at hSw);go_simp;try with_reducible rfl));try simp only [Act.put,List.setIfInBounds_toArray,List.set_cons_zero,List.set_cons_succ])
  refine skL_off ?_
  refine wpAnyL_one (i:=5) (by kernel_rfl) rfl rfl (fun K hK=> ?_)
  go_simp
  have HT7:=Lib.hid (HTd.out.set2 (.slice a2 L2.length c2))
  have hS7:=And.intro (cell0 HT7.out.h2).1 HT7.out.hs
  have HB7:=Lib.hid (HBd.out.setCell (p:=⟨w.heap.size,0,none⟩) (Nat.le_refl _) (.slice a2 L2.length c2))
  have HO7:=Lib.hid (HOd.out.setO (p:=⟨w.heap.size,0,none⟩) (by show w.heap.size<w.heap.size+4;omega) (Nat.le_refl _) (.slice a2 L2.length c2))
  refine hK _ _ (fun _=>hS7) ?_
  clear hK K HOd HTd HBd hS6 f2
  generalize w6.setCell ⟨w.heap.size,0,none⟩ (.slice a2 L2.length c2)=w7 at*
  have c3:=(cell0 HT7.out.h3).1
  have f3:=(cell0 HT7.out.h3).2
  refine wpAnyL_one (i:=6) (by kernel_rfl) rfl rfl (fun K hK=> ?_)
  go_simp
  have HT8:=Lib.hid (HT7.out.set3 (.int .i64 (q:Nat)))
  have hS8:=And.intro (cell0 HT8.out.h2).1 HT8.out.hs
  have HB8:=Lib.hid (HB7.out.setCell (p:=⟨w.heap.size+1,0,none⟩) (by simp) (.int .i64 (q:Nat)))
  have HO8:=Lib.hid (HO7.out.setO (p:=⟨w.heap.size+1,0,none⟩) (by show w.heap.size+1<w.heap.size+4;omega) (Nat.le_refl _) (.int .i64 (q:Nat)))
  refine hK _ _ (fun _=>hS8) ?_
  clear hK K HO7 HT7 HB7 hS7 c3 f3
  generalize w7.setCell ⟨w.heap.size+1,0,none⟩ (.int .i64 (q:Nat))=w8 at*
  have c4:=(cell0 HT8.out.h4).1
  have f4:=(cell0 HT8.out.h4).2
  refine wpAnyL_one (i:=7) (by kernel_rfl) rfl rfl (fun K hK=> ?_)
  go_simp
  have HT9:=Lib.hid (HT8.out.set4 (.int .i64 0))
  have hS9:=And.intro (cell0 HT9.out.h2).1 HT9.out.hs
  have HB9:=Lib.hid (HB8.out.setCell (p:=⟨w.heap.size+1+1,0,none⟩) (by simp;omega) (.int .i64 0))
  have HO9:=Lib.hid (HO8.out.setO (p:=⟨w.heap.size+1+1,0,none⟩) (by show w.heap.size+1+1<w.heap.size+4;omega) (Nat.le_refl _) (.int .i64 0))
  refine hK _ _ (fun _=>hS9) ?_
  clear hK K HO8 HT8 HB8 hS8 c4 f4
  generalize w8.setCell ⟨w.heap.size+1+1,0,none⟩ (.int .i64 0)=w9 at*
  refine wpAnyL_done (by kernel_rfl) ?_ _
  refine onN_normal ?_
  clear hS9
  have c2':=(cell0 HT9.out.h2).1
  have c3:=(cell0 HT9.out.h3).1
  have c4:=(cell0 HT9.out.h4).1
  have hSl:Sl (fun k=>k<w.heap.size) w9 a2 c2 L2:=(HO9.out.toSl (Nat.le_refl _)).anti fun k _ hk=>by show k<_;have:k<w.heap.size:=hk;omega
  go_wp2
  refine leaves_cons (f:=167) (args:= #[.pointer (some ⟨w.heap.size,0,none⟩),.pointer (some ⟨w.heap.size+1,0,none⟩),.pointer (some ⟨w.heap.size+1+1,0,none⟩)]) (by simp) (by simp [go_sem]) ?_
  refine (catchW_idle _ _ _ _).mono ?_
  rintro e u' w'' ⟨rfl,rfl,rfl⟩
  simp [Leaves,settle,results,Tryz.results122,go_sem,c2',c3,c4]
  exact ⟨a2,c2,L2,⟨rfl,rfl,rfl⟩,hF,hSl,HB9.out⟩
end
section
variable {w:World} {M:Nat→Prop} {a:Option Addr} {c g N:Nat}
theorem rwords_ok {l:List (List Int)} (hl:Hid (∀x∈l,(∀y∈x,i64 y)∧x.length<1000000000)) (hn:l.length<1000000000) {R R':List By} (hS:Rd N w g a c R) (hR:Hid (R=encW l++R')):
    Calls Tryz.prog 72 #[.pointer (some ⟨g,0,none⟩)] w fun e w'=>∃(a1:Option Addr) (c1:Nat) (l1:List (List Int)),e= .returned (.slice a1 l1.length c1)∧Hid (l1=l)∧Sl (fun k=>k<w.heap.size) w' a1 c1 l1∧(∃a' c',Rd N w' g a' c' R')∧Kb g w w':=by
 have hcf:=cell0 hS.cell
 have hc0:=hcf.1
 have hfz:=hcf.2
 have ll:=hS.sl.le
 have hcap:R.length≤c:=hS.sl.1
 have hcm:c≤9223372036854775807:=by have:=hS.sl.2.1;unfold maxLen at this;exact this
 have HC:=Lib.hid (takewords_ok hl hn hS.sl (R:=R') hR)
 obtain ⟨q,hq⟩:∃q,q=(encW l).length:=⟨_,rfl⟩
 have hqR:q≤R.length:=by rw [hR.out,List.length_append];omega
 have HQ:=Lib.hid hq
 have HS:=Lib.hid hS
 have hg:=hS.lt
 clear hS hcf hq
 go_enter Tryz.func72,Tryz.ntmps72
 go_wp2_with fail
 refine (HC.out).mono ?_
 rintro e w1 ⟨a1,c1,l1,rfl,hl1,hO1,hb1⟩
 rw [←HQ.out]
 have hS1:=HS.out.below hb1
 have hRd:Hid (R.drop q=R'):=by unfold Hid;rw [HQ.out,hR.out,List.drop_left]
 have HF:Hid (∀v,v= .slice (dA a c q) (R.length-q) (c-q)→∃a' c',Rd N (w1.setCell ⟨g,0,none⟩ v) g a' c' R'):=fun v hv=>⟨_,_,by rw [←hRd.out];exact hS1.set hqR hv⟩
 have hc1:=(cell0 hS1.cell).1
 have hf1:=(cell0 hS1.cell).2
 have HS1:=Lib.hid hS1
 have HB1:=Lib.hid hb1
 have HO1:Hid (∀v,Sl (fun k=>k<w.heap.size) (w1.setCell ⟨g,0,none⟩ v) a1 c1 l1):=fun v=>hO1.ext (Ext.setCell (M:=fun k=>k<w.heap.size) _ (p:=⟨g,0,none⟩) hg _)
 clear HC hS1 hO1 hb1 hc0 hfz
 go_wp2
 go_end0
 go_wp2
 all_goals
  go_ret
  exact ⟨a1,c1,l1,rfl,hl1,HO1.out _,HF.out _ (by unfold dA;first|rfl|(rw [if_neg (by assumption)];done)|(have hcq:c=q:=(by assumption);rw [if_pos hcq,hcq];simp)|(rw [if_pos (by omega)];simp;omega)|(rw [if_neg (by omega)])),kb_set (kb_of HB1.out) rfl _⟩
theorem rwithin_ok {n lo hi:Int} (hn:i64 n) (h1:lo≤n) (h2:n≤hi) {R R':List By} (hS:Rd N w g a c R) (hR:Hid (R=putI n++R')):
    Calls Tryz.prog 119 #[.pointer (some ⟨g,0,none⟩),.int .i64 lo,.int .i64 hi] w fun e w'=>∃a' c',e= .returned (.int .i64 n)∧Rd N w' g a' c' R'∧Kb g w w':=by
 have HC:=Lib.hid (rint_ok hn hS hR)
 clear hS
 have h3:¬n<lo:=by omega
 have h4:¬hi<n:=by omega
 go_enter Tryz.func119,Tryz.ntmps119
 go_wp2_with fail
 refine (HC.out).mono ?_
 rintro e w1 ⟨a',c',rfl,hS1,hK1⟩
 go_wp2
 go_ret
 exact ⟨a',c',rfl,hS1,hK1⟩
end
end Go.Proofs.YtlmfbjiejodalaaGreatDoor
