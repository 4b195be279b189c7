/- Several texts, one behind the other. Conditions: as each of them says. -/
import Derived.Test.YtlmfbjiejodalaaGreatDoorMx31
import Derived.Test.YtlmfbjiejodalaaGreatDoorMx29
import Derived.Test.YtlmfbjiejodalaaGreatDoorMx27
import Derived.Test.YtlmfbjiejodalaaGreatDoorMx26
import Derived.Test.YtlmfbjiejodalaaGreatDoorMx21
set_option maxRecDepth 100000
set_option maxHeartbeats 32000000
namespace Go.Proofs.YtlmfbjiejodalaaGreatDoor
open Go.RowKit
theorem setCell_id {w:World} {g i:Nat} {vs:Array Value} {T:TypeId} {v:Value} (h:w.heap[g]? =some (.cells vs T (0,0))) (hv:vs[i]? =some v):w.setCell ⟨g,i,none⟩ v=w:=by
 have e:(w.setCell ⟨g,i,none⟩ v).heap=w.heap:=by
  apply Array.ext_getElem?
  intro k
  by_cases hk:k=g
  ·subst hk
   rw [heap_setCell_same _ _ _ _ _ _ h,h]
   have hi:i<vs.size:=(Array.getElem?_eq_some_iff.1 hv).1
   have:vs.setIfInBounds i v=vs:=by
    apply Array.ext_getElem?
    intro j
    rw [Array.getElem?_setIfInBounds]
    by_cases e:i=j
    ·subst e;rw [if_pos rfl,if_pos hi];exact hv.symm
    rw [if_neg e]
   rw [this]
  exact Below.heap_setCell _ _ _ _ hk
 unfold World.setCell at e ⊢
 simp only at e
 rw [e]
section
variable {w:World} {M M':Nat→Prop} {p q:Option Addr} {cp cq g:Nat}
abbrev Pr (w:World) (g:Nat) (p:Option Addr) (cp:Nat) (q:Option Addr) (cq:Nat):Prop:=w.heap[g]? =some (.cells #[.int .i64 1,.int .i64 1,.int .i64 1,.int .i64 0,.int .u64 0,.int .i64 0,.int .i64 0,.int .i64 3,.int .i64 0,.int .i64 1,.slice p 1 cp,.slice q 1 cq,.int .i64 0,.slice none 0 0,.int .i64 0,.slice none 0 0,.slice none 0 0,.int .i64 1,.slice none 0 0,.int .i64 0,.int .i64 0,.slice none 0 0,.slice none 0 0,.slice none 0 0,.int .i64 0,.int .i64 0] 118 (0,0))
theorem Pr.cells (h:Pr w g p cp q cq):(∀o,w.cell? ⟨g,o,none⟩=(#[.int .i64 1,.int .i64 1,.int .i64 1,.int .i64 0,.int .u64 0,.int .i64 0,.int .i64 0,.int .i64 3,.int .i64 0,.int .i64 1,.slice p 1 cp,.slice q 1 cq,.int .i64 0,.slice none 0 0,.int .i64 0,.slice none 0 0,.slice none 0 0,.int .i64 1,.slice none 0 0,.int .i64 0,.int .i64 0,.slice none 0 0,.slice none 0 0,.slice none 0 0,.int .i64 0,.int .i64 0]:Array Value)[o]?)∧∀o,w.frozen? ⟨g,o,none⟩=false:=
 ⟨fun o=>by rw [cell_of_row _ _ _ _ _ _ h],fun o=>frozen_of_row _ _ _ _ _ h⟩
theorem Pr.lt (h:Pr w g p cp q cq):g<w.heap.size:=(Array.getElem?_eq_some_iff.1 h).1
theorem Pr.below {w':World} (h:Pr w g p cp q cq) (hb:Below w.heap.size w w'):Pr w' g p cp q cq:=(hb.block g h.lt).trans h
theorem sconf1 (w:World):Calls Tryz.prog 46 #[.agg #[.int .i64 1,.int .i64 1,.int .i64 1,.int .i64 0,.int .u64 0,.int .i64 0,.int .i64 0,.int .i64 3]] w fun e w'=>e= .returned (.int .i64 0)∧Below w.heap.size w w':=by
 have HT:Hid (∀w:World,Calls Tryz.prog 86 #[.agg #[.int .i64 1,.int .i64 0,.int .u64 0,.int .i64 0,.int .i64 0]] w fun e w'=>e= .returned (.int .i64 0)∧Below w.heap.size w w'):=by
  intro w
  have hB:Below w.heap.size w (w.alloc (.cells #[.int .i64 1,.int .i64 0,.int .u64 0,.int .i64 0,.int .i64 0] 24)):=by (repeat' (first|with_reducible exact Below.refl _ _|with_reducible assumption|with_reducible refine bl_drewN ?_ _|with_reducible refine Below.drew ?_|with_reducible refine Below.alloc ?_ ?_ _|with_reducible refine Below.setCell ?_ ?_ _|omega|(simp;done)|(simp;omega)))
  go_enter Tryz.func86,Tryz.ntmps86
  go_wp2
  go_ret
  exact ⟨rfl,hB⟩
 have hB:Below w.heap.size w (w.alloc (.cells #[.int .i64 1,.int .i64 1,.int .i64 1,.int .i64 0,.int .u64 0,.int .i64 0,.int .i64 0,.int .i64 3] 26)):=by (repeat' (first|with_reducible exact Below.refl _ _|with_reducible assumption|with_reducible refine bl_drewN ?_ _|with_reducible refine Below.drew ?_|with_reducible refine Below.alloc ?_ ?_ _|with_reducible refine Below.setCell ?_ ?_ _|omega|(simp;done)|(simp;omega)))
 have hc:∀o,(w.alloc (.cells #[.int .i64 1,.int .i64 1,.int .i64 1,.int .i64 0,.int .u64 0,.int .i64 0,.int .i64 0,.int .i64 3] 26)).cell? ⟨w.heap.size,o,none⟩=(#[.int .i64 1,.int .i64 1,.int .i64 1,.int .i64 0,.int .u64 0,.int .i64 0,.int .i64 0,.int .i64 3]:Array Value)[o]? :=box_new w _ _
 have hz:w.heap.size<(w.alloc (.cells #[.int .i64 1,.int .i64 1,.int .i64 1,.int .i64 0,.int .u64 0,.int .i64 0,.int .i64 0,.int .i64 3] 26)).heap.size:=by simp
 go_enter Tryz.func46,Tryz.ntmps46
 go_wp2_with fail
 refine (HT.out _).mono ?_
 rintro e w1 ⟨rfl,hb1⟩
 have hB1:=hB.trans (hb1.mono (by omega))
 have hc1:=box_bel hc hb1 hz
 clear hB hc hz hb1
 go_wp2
 go_ret
 exact ⟨rfl,hB1⟩
theorem pstep1 (hP:Pr w g p cp q cq) (hp:Sl M w p cp ([[]]:List (List Int))) (hq:Sl M' w q cq ([[0]]:List (List Int))):
    Calls Tryz.prog 125 #[.pointer (some ⟨g,0,none⟩)] w fun e w'=>∃(a:Option Addr) (c:Nat),e= .returned (.tuple #[.slice a 1 c,.bool false,.int .i64 0])∧Below w.heap.size w w':=by
 obtain ⟨hc,hf⟩:=hP.cells
 have hlt:=hP.lt
 have HP:=Lib.hid hP
 have HQ:=Lib.hid hp
 have HR:=Lib.hid hq
 clear hP hp hq
 have hb1:=(Below.refl w.heap.size w).alloc (Nat.le_refl _) (.cells #[.int .i64 0,.slice none 0 0,.slice none 0 0] 29)
 have hP1:=HP.out.below hb1
 have t1:(w.alloc (.cells #[.int .i64 0,.slice none 0 0,.slice none 0 0] 29)).heap[w.heap.size]? =some (.cells #[.int .i64 0,.slice none 0 0,.slice none 0 0] 29 (0,0)):=heap_alloc_new _ _
 have HQ1:=Lib.hid (HQ.out.below hb1)
 have HR1:=Lib.hid (HR.out.below hb1)
 go_enter Tryz.func125,Tryz.ntmps125
 go_wp2
 refine wp_region_L (fun w'=>∀o,w'.cell? ⟨g,o,none⟩=(#[.int .i64 1,.int .i64 1,.int .i64 1,.int .i64 0,.int .u64 0,.int .i64 0,.int .i64 0,.int .i64 3,.int .i64 0,.int .i64 1,.slice p 1 cp,.slice q 1 cq,.int .i64 0,.slice none 0 0,.int .i64 0,.slice none 0 0,.slice none 0 0,.int .i64 1,.slice none 0 0,.int .i64 0,.int .i64 0,.slice none 0 0,.slice none 0 0,.slice none 0 0,.int .i64 0,.int .i64 0]:Array Value)[o]?) [0,1,2,3,4,5,6,7,8,9,11,12,13,14,15,17,18,19] (by kernel_rfl) ?_
 have hS:∀o,(w.alloc (.cells #[.int .i64 0,.slice none 0 0,.slice none 0 0] 29)).drew.cell? ⟨g,o,none⟩=(#[.int .i64 1,.int .i64 1,.int .i64 1,.int .i64 0,.int .u64 0,.int .i64 0,.int .i64 0,.int .i64 3,.int .i64 0,.int .i64 1,.slice p 1 cp,.slice q 1 cq,.int .i64 0,.slice none 0 0,.int .i64 0,.slice none 0 0,.slice none 0 0,.int .i64 1,.slice none 0 0,.int .i64 0,.int .i64 0,.slice none 0 0,.slice none 0 0,.slice none 0 0,.int .i64 0,.int .i64 0]:Array Value)[o]? :=hP1.cells.1
 have hB2:=hb1.drew
 have hP2:Pr (w.alloc (.cells #[.int .i64 0,.slice none 0 0,.slice none 0 0] 29)).drew g p cp q cq:=hP1
 have t2:(w.alloc (.cells #[.int .i64 0,.slice none 0 0,.slice none 0 0] 29)).drew.heap[w.heap.size]? =some (.cells #[.int .i64 0,.slice none 0 0,.slice none 0 0] 29 (0,0)):=t1
 have HC:=Lib.hid (step1 HQ1.out.drew HR1.out.drew)
 have hz2:w.heap.size<(w.alloc (.cells #[.int .i64 0,.slice none 0 0,.slice none 0 0] 29)).drew.heap.size:=by simp
 have HQ2:=Lib.hid HQ1.out.drew
 have HR2:=Lib.hid HR1.out.drew
 clear hb1 hP1 t1 HQ1 HR1 hc hf
 generalize (w.alloc (.cells #[.int .i64 0,.slice none 0 0,.slice none 0 0] 29)).drew=w2 at*
 refine skL_on [0,1,2,3,4,5,6,7,8,9] ?_
 repeat (refine skL_take (v:= ?_) rfl ?_ ?_;rotate_left;(focus (intro w' hSw;(try dsimp only at hSw);go_simp;try with_reducible rfl));try simp only [Act.put,List.setIfInBounds_toArray,List.set_cons_zero,List.set_cons_succ])
 refine skL_off ?_
 refine wpAnyL_one (i:=10) (by kernel_rfl) rfl rfl (fun K hK=> ?_)
 go_simp
 refine (HC.out).mono ?_
 rintro e w3 ⟨a3,c3,rfl,hb3⟩
 have hP3:=hP2.below hb3
 have hS3:=hP3.cells.1
 have hB3:=hB2.trans (hb3.mono (by omega))
 have t3:=(hb3.block _ hz2).trans t2
 refine hK _ _ (fun _=>hS3) ?_
 clear hK K HC hS hB2 hP2 t2 hb3 HQ2 HR2
 refine skL_on [11,12,13,14,15] ?_
 repeat (refine skL_take (v:= ?_) rfl ?_ ?_;rotate_left;(focus (intro w' hSw;(try dsimp only at hSw);go_simp;try with_reducible rfl));try simp only [Act.put,List.setIfInBounds_toArray,List.set_cons_zero,List.set_cons_succ])
 refine skL_off ?_
 refine wpAnyL_one (i:=16) (by kernel_rfl) rfl rfl (fun K hK=> ?_)
 obtain ⟨⟨j0,j1,j2⟩,jz⟩:=cells3 t3
 go_simp
 obtain ⟨u,hu⟩:∃u,u=((w3.setCell ⟨w.heap.size,0,none⟩ (.int .i64 1)).setCell ⟨w.heap.size,1,none⟩ (.slice p 1 cp)).setCell ⟨w.heap.size,2,none⟩ (.slice q 1 cq):=⟨_,rfl⟩
 have hur:u.heap[w.heap.size]? =some (.cells #[.int .i64 1,.slice p 1 cp,.slice q 1 cq] 29 (0,0)):=by rw [hu];exact set3 t3
 have hPu:Pr u g p cp q cq:=by rw [hu];exact (Below.heap_setCell _ _ _ _ (by simp;omega)).trans ((Below.heap_setCell _ _ _ _ (by simp;omega)).trans ((Below.heap_setCell _ _ _ _ (by simp;omega)).trans hP3))
 have hb:Below w.heap.size w u:=by rw [hu];exact ((hB3.setCell (p:=⟨w.heap.size,0,none⟩) (Nat.le_refl _) _).setCell (p:=⟨w.heap.size,1,none⟩) (Nat.le_refl _) _).setCell (p:=⟨w.heap.size,2,none⟩) (Nat.le_refl _) _
 rw [←hu]
 clear hu j0 j1 j2 jz t3 hB3 hP3 hS3
 obtain ⟨hSu,hFu⟩:=hPu.cells
 obtain ⟨d0,d1,d2⟩:=(cells3 hur).1
 refine hK _ _ (fun _=>hSu) ?_
 clear hK K
 refine skL_on [17,18,19] ?_
 repeat (refine skL_take (v:= ?_) rfl ?_ ?_;rotate_left;(focus (intro w' hSw;(try dsimp only at hSw);go_simp;try with_reducible rfl));try simp only [Act.put,List.setIfInBounds_toArray,List.set_cons_zero,List.set_cons_succ])
 refine skL_off ?_
 refine wpAnyL_done (by kernel_rfl) ?_ _
 have i9:u.setCell ⟨g,9,none⟩ (.int .i64 1)=u:=setCell_id hPu rfl
 have i10:u.setCell ⟨g,10,none⟩ (.slice p 1 cp)=u:=setCell_id hPu rfl
 have i11:u.setCell ⟨g,11,none⟩ (.slice q 1 cq)=u:=setCell_id hPu rfl
 clear hPu hur
 go_wp2
 go_ret3
 exact ⟨a3,c3,rfl,hb⟩
theorem plearn1 (hP:Pr w g p cp q cq) (hp:Sl M w p cp ([[]]:List (List Int))) (hq:Sl M' w q cq ([[0]]:List (List Int))):
    Calls Tryz.prog 88 #[.pointer (some ⟨g,0,none⟩)] w fun e w'=>∃(a:Option Addr) (c:Nat),e= .returned (.tuple #[.slice a 1 c,.int .i64 0])∧Below w.heap.size w w':=by
 have HC:=Lib.hid (pstep1 hP hp hq)
 clear hP hp hq
 go_enter Tryz.func88,Tryz.ntmps88
 go_wp2_with fail
 refine (HC.out).mono ?_
 rintro e w1 ⟨a1,c1,rfl,hb1⟩
 go_wp2
 go_ret2
 exact ⟨a1,c1,rfl,hb1⟩
theorem padv1 (hP:Pr w g p cp q cq) (hp:Sl M w p cp ([[]]:List (List Int))) (hq:Sl M' w q cq ([[0]]:List (List Int))):
    Calls Tryz.prog 50 #[.pointer (some ⟨g,0,none⟩)] w fun e w'=>∃(a:Option Addr) (c:Nat),e= .returned (.slice a 1 c)∧Below w.heap.size w w':=by
 have HC:=Lib.hid (plearn1 hP hp hq)
 have hc8:w.cell? ⟨g,8,none⟩=some (.int .i64 0):=hP.cells.1 8
 clear hP hp hq
 go_enter Tryz.func50,Tryz.ntmps50
 go_wp2
 go_loopw [3] (fun v wr=>wr=w) (fun _ _=>0)
 case atStart=>rfl
 case round=>
  subst hrel
  go_wp2_with fail
  refine (HC.out).mono ?_
  rintro e w1 ⟨a1,c1,rfl,hb1⟩
  go_wp2
  go_ret
  exact ⟨a1,c1,rfl,hb1⟩
theorem snew1 (w:World):
    Calls Tryz.prog 19 #[.agg #[.int .i64 1,.int .i64 1,.int .i64 1,.int .i64 0,.int .u64 0,.int .i64 0,.int .i64 0,.int .i64 3]] w fun e w'=>∃(p:Option Addr) (cp:Nat) (q:Option Addr) (cq:Nat),e= .returned (.tuple #[.agg #[.int .i64 1,.int .i64 1,.int .i64 1,.int .i64 0,.int .u64 0,.int .i64 0,.int .i64 0,.int .i64 3,.int .i64 0,.int .i64 1,.slice p 1 cp,.slice q 1 cq,.int .i64 0,.slice none 0 0,.int .i64 0,.slice none 0 0,.slice none 0 0,.int .i64 1,.slice none 0 0,.int .i64 0,.int .i64 0,.slice none 0 0,.slice none 0 0,.slice none 0 0,.int .i64 0,.int .i64 0],.int .i64 0])∧Sl (fun k=>k<w.heap.size) w' p cp ([[]]:List (List Int))∧Sl (fun k=>k<w.heap.size) w' q cq ([[0]]:List (List Int))∧Below w.heap.size w w':=by
 obtain ⟨W,hW⟩:∃W,W=(w.alloc (.cells #[.int .i64 1,.int .i64 1,.int .i64 1,.int .i64 0,.int .u64 0,.int .i64 0,.int .i64 0,.int .i64 3] 26)).alloc (.cells #[.int .i64 0,.int .i64 0,.int .i64 0,.int .i64 0,.int .u64 0,.int .i64 0,.int .i64 0,.int .i64 0,.int .i64 0,.int .i64 0,.slice none 0 0,.slice none 0 0,.int .i64 0,.slice none 0 0,.int .i64 0,.slice none 0 0,.slice none 0 0,.int .i64 0,.slice none 0 0,.int .i64 0,.int .i64 0,.slice none 0 0,.slice none 0 0,.slice none 0 0,.int .i64 0,.int .i64 0] 46):=⟨_,rfl⟩
 have hB:Below w.heap.size w W:=by rw [hW];(repeat' (first|with_reducible exact Below.refl _ _|with_reducible assumption|with_reducible refine bl_drewN ?_ _|with_reducible refine Below.drew ?_|with_reducible refine Below.alloc ?_ ?_ _|with_reducible refine Below.setCell ?_ ?_ _|omega|(simp;done)|(simp;omega)))
 have hz:w.heap.size+2≤W.heap.size:=by rw [hW];simp
 have h0:W.heap[w.heap.size]? =some (.cells #[.int .i64 1,.int .i64 1,.int .i64 1,.int .i64 0,.int .u64 0,.int .i64 0,.int .i64 0,.int .i64 3] 26 (0,0)):=by rw [hW];(repeat (first|(refine heap_at ?_;(simp;done))|refine heap_old ?_))
 have h1:W.heap[w.heap.size+1]? =some (.cells #[.int .i64 0,.int .i64 0,.int .i64 0,.int .i64 0,.int .u64 0,.int .i64 0,.int .i64 0,.int .i64 0,.int .i64 0,.int .i64 0,.slice none 0 0,.slice none 0 0,.int .i64 0,.slice none 0 0,.int .i64 0,.slice none 0 0,.slice none 0 0,.int .i64 0,.slice none 0 0,.int .i64 0,.int .i64 0,.slice none 0 0,.slice none 0 0,.slice none 0 0,.int .i64 0,.int .i64 0] 46 (0,0)):=by rw [hW];(repeat (first|(refine heap_at ?_;(simp;done))|refine heap_old ?_))
 go_enter Tryz.func19,Tryz.ntmps19
 go_wp2_with fail
 rw [←hW]
 refine (sconf1 _).mono ?_
 rintro e w1 ⟨rfl,hb1⟩
 have c0:∀o,w1.cell? ⟨w.heap.size,o,none⟩=(#[.int .i64 1,.int .i64 1,.int .i64 1,.int .i64 0,.int .u64 0,.int .i64 0,.int .i64 0,.int .i64 3]:Array Value)[o]? :=fun o=>by rw [cell_of_row _ _ _ _ _ _ ((hb1.block _ (by omega)).trans h0)]
 have k1:=(hb1.block _ (by omega)).trans h1
 have k0:=(hb1.block _ (by omega)).trans h0
 have hB1:=hB.trans (hb1.mono (by omega))
 have hz1:w.heap.size+2≤w1.heap.size:=by have:=hb1.size;omega
 clear hW hB hz h0 h1 hb1
 obtain ⟨W2,hW2⟩:∃W2,W2=w1.alloc (.cells #[.int .i64 1,.int .i64 1,.int .i64 1,.int .i64 0,.int .u64 0,.int .i64 0,.int .i64 0,.int .i64 3,.int .i64 0,.int .i64 0,.slice none 0 0,.slice none 0 0,.int .i64 0,.slice none 0 0,.int .i64 0,.slice none 0 0,.slice none 0 0,.int .i64 1,.slice none 0 0,.int .i64 0,.int .i64 0,.slice none 0 0,.slice none 0 0,.slice none 0 0,.int .i64 0,.int .i64 0] 118):=⟨_,rfl⟩
 have hB2:Below w.heap.size w W2:=by rw [hW2];(repeat' (first|with_reducible exact Below.refl _ _|with_reducible assumption|with_reducible refine bl_drewN ?_ _|with_reducible refine Below.drew ?_|with_reducible refine Below.alloc ?_ ?_ _|with_reducible refine Below.setCell ?_ ?_ _|omega|(simp;done)|(simp;omega)))
 have g2:W2.heap[w1.heap.size]? =some (.cells #[.int .i64 1,.int .i64 1,.int .i64 1,.int .i64 0,.int .u64 0,.int .i64 0,.int .i64 0,.int .i64 3,.int .i64 0,.int .i64 0,.slice none 0 0,.slice none 0 0,.int .i64 0,.slice none 0 0,.int .i64 0,.slice none 0 0,.slice none 0 0,.int .i64 1,.slice none 0 0,.int .i64 0,.int .i64 0,.slice none 0 0,.slice none 0 0,.slice none 0 0,.int .i64 0,.int .i64 0] 118 (0,0)):=by rw [hW2];exact heap_alloc_new _ _
 have k12:W2.heap[w.heap.size+1]? =some (.cells #[.int .i64 0,.int .i64 0,.int .i64 0,.int .i64 0,.int .u64 0,.int .i64 0,.int .i64 0,.int .i64 0,.int .i64 0,.int .i64 0,.slice none 0 0,.slice none 0 0,.int .i64 0,.slice none 0 0,.int .i64 0,.slice none 0 0,.slice none 0 0,.int .i64 0,.slice none 0 0,.int .i64 0,.int .i64 0,.slice none 0 0,.slice none 0 0,.slice none 0 0,.int .i64 0,.int .i64 0] 46 (0,0)):=by rw [hW2];exact heap_old k1
 have k02:W2.heap[w.heap.size]? =some (.cells #[.int .i64 1,.int .i64 1,.int .i64 1,.int .i64 0,.int .u64 0,.int .i64 0,.int .i64 0,.int .i64 3] 26 (0,0)):=by rw [hW2];exact heap_old k0
 have c02:∀o,(w1.alloc (.cells #[.int .i64 1,.int .i64 1,.int .i64 1,.int .i64 0,.int .u64 0,.int .i64 0,.int .i64 0,.int .i64 3,.int .i64 0,.int .i64 0,.slice none 0 0,.slice none 0 0,.int .i64 0,.slice none 0 0,.int .i64 0,.slice none 0 0,.slice none 0 0,.int .i64 1,.slice none 0 0,.int .i64 0,.int .i64 0,.slice none 0 0,.slice none 0 0,.slice none 0 0,.int .i64 0,.int .i64 0] 118)).cell? ⟨w.heap.size,o,none⟩=(#[.int .i64 1,.int .i64 1,.int .i64 1,.int .i64 0,.int .u64 0,.int .i64 0,.int .i64 0,.int .i64 3]:Array Value)[o]? :=fun o=>by rw [←hW2];rw [cell_of_row _ _ _ _ _ _ k02]
 have hz2:w1.heap.size<W2.heap.size:=by rw [hW2];simp
 go_wp2_with fail
 rw [←hW2]
 clear hW2 c02
 refine (tnew1 _).mono ?_
 rintro e w3 ⟨p,cp,q,cq,rfl,hp3,hq3,hb3⟩
 have g3:=(hb3.block _ hz2).trans g2
 have k13:=(hb3.block _ (by omega)).trans k12
 have k03:=(hb3.block _ (by omega)).trans k02
 have hB3:=hB2.trans (hb3.mono (by omega))
 have c03:∀o,w3.cell? ⟨w.heap.size,o,none⟩=(#[.int .i64 1,.int .i64 1,.int .i64 1,.int .i64 0,.int .u64 0,.int .i64 0,.int .i64 0,.int .i64 3]:Array Value)[o]? :=fun o=>by rw [cell_of_row _ _ _ _ _ _ k03]
 have cg3:∀o,w3.cell? ⟨w1.heap.size,o,none⟩=(#[.int .i64 1,.int .i64 1,.int .i64 1,.int .i64 0,.int .u64 0,.int .i64 0,.int .i64 0,.int .i64 3,.int .i64 0,.int .i64 0,.slice none 0 0,.slice none 0 0,.int .i64 0,.slice none 0 0,.int .i64 0,.slice none 0 0,.slice none 0 0,.int .i64 1,.slice none 0 0,.int .i64 0,.int .i64 0,.slice none 0 0,.slice none 0 0,.slice none 0 0,.int .i64 0,.int .i64 0]:Array Value)[o]? :=fun o=>by rw [cell_of_row _ _ _ _ _ _ g3]
 have fg3:∀o,w3.frozen? ⟨w1.heap.size,o,none⟩=false:=fun o=>frozen_of_row _ _ _ _ _ g3
 obtain ⟨u,hu⟩:∃u,u=((w3.setCell ⟨w1.heap.size,9,none⟩ (.int .i64 1)).setCell ⟨w1.heap.size,10,none⟩ (.slice p 1 cp)).setCell ⟨w1.heap.size,11,none⟩ (.slice q 1 cq):=⟨_,rfl⟩
 have hPu:Pr u w1.heap.size p cp q cq:=by
  rw [hu]
  exact (heap_setCell_same _ _ _ _ _ _ (heap_setCell_same _ _ _ _ _ _ (heap_setCell_same _ _ _ _ _ _ g3))).trans rfl
 have hxu:∀{l:List (List Int)} {a:Option Addr} {c:Nat},Sl (fun k=>k<W2.heap.size) w3 a c l→Sl (fun k=>k<W2.heap.size) u a c l:=by
  intro l a c h
  rw [hu]
  exact ((h.ext (Ext.setCell (M:=fun k=>k<W2.heap.size) _ (p:=⟨w1.heap.size,9,none⟩) hz2 _)).ext (Ext.setCell (M:=fun k=>k<W2.heap.size) _ (p:=⟨w1.heap.size,10,none⟩) hz2 _)).ext (Ext.setCell (M:=fun k=>k<W2.heap.size) _ (p:=⟨w1.heap.size,11,none⟩) hz2 _)
 have hpu:=hxu hp3
 have hqu:=hxu hq3
 have k1u:u.heap[w.heap.size+1]? =some (.cells #[.int .i64 0,.int .i64 0,.int .i64 0,.int .i64 0,.int .u64 0,.int .i64 0,.int .i64 0,.int .i64 0,.int .i64 0,.int .i64 0,.slice none 0 0,.slice none 0 0,.int .i64 0,.slice none 0 0,.int .i64 0,.slice none 0 0,.slice none 0 0,.int .i64 0,.slice none 0 0,.int .i64 0,.int .i64 0,.slice none 0 0,.slice none 0 0,.slice none 0 0,.int .i64 0,.int .i64 0] 46 (0,0)):=by rw [hu];exact (Below.heap_setCell _ _ _ _ (by simp;omega)).trans ((Below.heap_setCell _ _ _ _ (by simp;omega)).trans ((Below.heap_setCell _ _ _ _ (by simp;omega)).trans k13))
 have hBu:Below w.heap.size w u:=by rw [hu];exact ((hB3.setCell (p:=⟨w1.heap.size,9,none⟩) (by show w.heap.size≤w1.heap.size;omega) _).setCell (p:=⟨w1.heap.size,10,none⟩) (by show w.heap.size≤w1.heap.size;omega) _).setCell (p:=⟨w1.heap.size,11,none⟩) (by show w.heap.size≤w1.heap.size;omega) _
 have HC:=Lib.hid (padv1 hPu hpu hqu)
 have HPu:=Lib.hid hPu
 have HPs:=Lib.hid hpu
 have HQs:=Lib.hid hqu
 have HK1:=Lib.hid k1u
 have HBu:=Lib.hid hBu
 have hzu:w.heap.size+2≤u.heap.size:=by have:=hB3.size;have:=hb3.size;rw [hu];simp;omega
 have hzW:w.heap.size+2≤W2.heap.size:=by omega
 clear hxu hPu hpu hqu k1u hBu hp3 hq3 hB3 k13 k03 k12 k02 g2 g3 hb3 hB2 hB1 k0 k1 c0 hz2
 go_wp2_with fail
 rw [←hu]
 clear hu c03 cg3 fg3
 refine (HC.out).mono ?_
 rintro e w5 ⟨a5,c5,rfl,hb5⟩
 have hP5:=HPu.out.below hb5
 have k5:=(hb5.block _ (by omega)).trans HK1.out
 have hB5:=HBu.out.trans (hb5.mono (by omega))
 have hp5:=HPs.out.below hb5
 have hq5:=HQs.out.below hb5
 have cp5:=hP5.cells.1
 have ck5:∀o,w5.cell? ⟨w.heap.size+1,o,none⟩=(#[.int .i64 0,.int .i64 0,.int .i64 0,.int .i64 0,.int .u64 0,.int .i64 0,.int .i64 0,.int .i64 0,.int .i64 0,.int .i64 0,.slice none 0 0,.slice none 0 0,.int .i64 0,.slice none 0 0,.int .i64 0,.slice none 0 0,.slice none 0 0,.int .i64 0,.slice none 0 0,.int .i64 0,.int .i64 0,.slice none 0 0,.slice none 0 0,.slice none 0 0,.int .i64 0,.int .i64 0]:Array Value)[o]? :=fun o=>by rw [cell_of_row _ _ _ _ _ _ k5]
 have fk5:∀o,w5.frozen? ⟨w.heap.size+1,o,none⟩=false:=fun o=>frozen_of_row _ _ _ _ _ k5
 obtain ⟨v,hv⟩:∃v,v=w5.setCells (w.heap.size+1) 0 [.int .i64 1,.int .i64 1,.int .i64 1,.int .i64 0,.int .u64 0,.int .i64 0,.int .i64 0,.int .i64 3,.int .i64 0,.int .i64 1,.slice p 1 cp,.slice q 1 cq,.int .i64 0,.slice none 0 0,.int .i64 0,.slice none 0 0,.slice none 0 0,.int .i64 1,.slice none 0 0,.int .i64 0,.int .i64 0,.slice none 0 0,.slice none 0 0,.slice none 0 0,.int .i64 0,.int .i64 0]:=⟨_,rfl⟩
 have hvr:v.heap[w.heap.size+1]? =some (.cells #[.int .i64 1,.int .i64 1,.int .i64 1,.int .i64 0,.int .u64 0,.int .i64 0,.int .i64 0,.int .i64 3,.int .i64 0,.int .i64 1,.slice p 1 cp,.slice q 1 cq,.int .i64 0,.slice none 0 0,.int .i64 0,.slice none 0 0,.slice none 0 0,.int .i64 1,.slice none 0 0,.int .i64 0,.int .i64 0,.slice none 0 0,.slice none 0 0,.slice none 0 0,.int .i64 0,.int .i64 0] 46 (0,0)):=by
  rw [hv]
  exact (setAll_row _ _ _ _ k5 rfl).trans rfl
 have hBv:Below w.heap.size w v:=by rw [hv];exact setAll_below (Nat.le_succ _) _ _ _ hB5
 have hxv:∀{l:List (List Int)} {a:Option Addr} {c:Nat},Sl (fun k=>k<W2.heap.size) w5 a c l→Sl (fun k=>k<w.heap.size) v a c l:=by
  intro l a c h
  have hm:w.heap.size+1<W2.heap.size:=by omega
  rw [hv]
  exact Sl.anti (M:=fun k=>k<W2.heap.size) (setAll_sl (M:=fun k=>k<W2.heap.size) hm _ _ _ h) fun k _ hk=>by show k<_;omega
 have hpv:=hxv hp5
 have hqv:=hxv hq5
 clear hxv hp5 hq5 HC HPu HPs HQs HK1 HBu hP5 k5 hB5 hb5
 have hone:(#[.int .i64 1,.int .i64 1,.int .i64 1,.int .i64 0,.int .u64 0,.int .i64 0,.int .i64 0,.int .i64 3,.int .i64 0,.int .i64 1,.slice p 1 cp,.slice q 1 cq,.int .i64 0,.slice none 0 0,.int .i64 0,.slice none 0 0,.slice none 0 0,.int .i64 1,.slice none 0 0,.int .i64 0,.int .i64 0,.slice none 0 0,.slice none 0 0,.slice none 0 0,.int .i64 0,.int .i64 0]:Array Value).all (·.oneCell')=true:=all_oneCell_toArray (cs:=[.int .i64 1,.int .i64 1,.int .i64 1,.int .i64 0,.int .u64 0,.int .i64 0,.int .i64 0,.int .i64 3,.int .i64 0,.int .i64 1,.slice p 1 cp,.slice q 1 cq,.int .i64 0,.slice none 0 0,.int .i64 0,.slice none 0 0,.slice none 0 0,.int .i64 1,.slice none 0 0,.int .i64 0,.int .i64 0,.slice none 0 0,.slice none 0 0,.slice none 0 0,.int .i64 0,.int .i64 0]) (by
  intro v hv
  repeat (rcases List.mem_cons.1 hv with e|hv;(subst e;rfl))
  cases hv)
 have hth : w5.there (w.heap.size + 1) 0 (#[.int .i64 1, .int .i64 1, .int .i64 1, .int .i64 0, .int .u64 0, .int .i64 0, .int .i64 0, .int .i64 3, .int .i64 0, .int .i64 1, .slice p 1 cp, .slice q 1 cq, .int .i64 0, .slice none 0 0, .int .i64 0, .slice none 0 0, .slice none 0 0, .int .i64 1, .slice none 0 0, .int .i64 0, .int .i64 0, .slice none 0 0, .slice none 0 0, .slice none 0 0, .int .i64 0, .int .i64 0] : Array Value).size := fun j hj => ⟨by
     have h26:j<26:=hj
     have hz26:(#[.int .i64 0,.int .i64 0,.int .i64 0,.int .i64 0,.int .u64 0,.int .i64 0,.int .i64 0,.int .i64 0,.int .i64 0,.int .i64 0,.slice none 0 0,.slice none 0 0,.int .i64 0,.slice none 0 0,.int .i64 0,.slice none 0 0,.slice none 0 0,.int .i64 0,.slice none 0 0,.int .i64 0,.int .i64 0,.slice none 0 0,.slice none 0 0,.slice none 0 0,.int .i64 0,.int .i64 0]:Array Value).size=26:=rfl
     rw [Nat.zero_add,ck5,Array.getElem?_eq_getElem (by omega)];rfl,by rw [Nat.zero_add];exact fk5 j⟩
 have hrg:w5.rangeAt w1.heap.size 0 [.int .i64 1,.int .i64 1,.int .i64 1,.int .i64 0,.int .u64 0,.int .i64 0,.int .i64 0,.int .i64 3,.int .i64 0,.int .i64 1,.slice p 1 cp,.slice q 1 cq,.int .i64 0,.slice none 0 0,.int .i64 0,.slice none 0 0,.slice none 0 0,.int .i64 1,.slice none 0 0,.int .i64 0,.int .i64 0,.slice none 0 0,.slice none 0 0,.slice none 0 0,.int .i64 0,.int .i64 0]:=fun j x hx=>by
  rw [Nat.zero_add,cp5]
  rw [←hx]
  exact List.getElem?_toArray
 have HRG:=Lib.hid hrg
 have HTH:=Lib.hid hth
 have HONE:=Lib.hid hone
 clear ck5 fk5 hone hth cp5 hrg
 go_wp2_with (first|refine wpList_load_mid rfl 46 _ rfl w1.heap.size 0 rfl [.int .i64 1,.int .i64 1,.int .i64 1,.int .i64 0,.int .u64 0,.int .i64 0,.int .i64 0,.int .i64 3,.int .i64 0,.int .i64 1,.slice p 1 cp,.slice q 1 cq,.int .i64 0,.slice none 0 0,.int .i64 0,.slice none 0 0,.slice none 0 0,.int .i64 1,.slice none 0 0,.int .i64 0,.int .i64 0,.slice none 0 0,.slice none 0 0,.slice none 0 0,.int .i64 0,.int .i64 0] _ HRG.out Tryz.underlying46 rfl (by kernel_rfl) ?_|refine wpList_store_mid rfl 46 _ _ rfl (w.heap.size+1) 0 #[.int .i64 1,.int .i64 1,.int .i64 1,.int .i64 0,.int .u64 0,.int .i64 0,.int .i64 0,.int .i64 3,.int .i64 0,.int .i64 1,.slice p 1 cp,.slice q 1 cq,.int .i64 0,.slice none 0 0,.int .i64 0,.slice none 0 0,.slice none 0 0,.int .i64 1,.slice none 0 0,.int .i64 0,.int .i64 0,.slice none 0 0,.slice none 0 0,.slice none 0 0,.int .i64 0,.int .i64 0] rfl rfl HTH.out (by kernel_rfl) HONE.out ?_)
 rw [←hv]
 clear hv
 have hrv:v.rangeAt (w.heap.size+1) 0 [.int .i64 1,.int .i64 1,.int .i64 1,.int .i64 0,.int .u64 0,.int .i64 0,.int .i64 0,.int .i64 3,.int .i64 0,.int .i64 1,.slice p 1 cp,.slice q 1 cq,.int .i64 0,.slice none 0 0,.int .i64 0,.slice none 0 0,.slice none 0 0,.int .i64 1,.slice none 0 0,.int .i64 0,.int .i64 0,.slice none 0 0,.slice none 0 0,.slice none 0 0,.int .i64 0,.int .i64 0]:=fun j x hx=>by
  rw [Nat.zero_add,cell_of_row _ _ _ _ _ _ hvr]
  rw [←hx]
  exact List.getElem?_toArray
 have hld:=run_loadVar_mid (P:=Tryz.prog) v (w.heap.size+1) 0 46 [.int .i64 1,.int .i64 1,.int .i64 1,.int .i64 0,.int .u64 0,.int .i64 0,.int .i64 0,.int .i64 3,.int .i64 0,.int .i64 1,.slice p 1 cp,.slice q 1 cq,.int .i64 0,.slice none 0 0,.int .i64 0,.slice none 0 0,.slice none 0 0,.int .i64 1,.slice none 0 0,.int .i64 0,.int .i64 0,.slice none 0 0,.slice none 0 0,.slice none 0 0,.int .i64 0,.int .i64 0] _ hrv Tryz.underlying46 rfl (by kernel_rfl)
 exact bodyPost_ret (v:= .tuple #[.agg #[.int .i64 1,.int .i64 1,.int .i64 1,.int .i64 0,.int .u64 0,.int .i64 0,.int .i64 0,.int .i64 3,.int .i64 0,.int .i64 1,.slice p 1 cp,.slice q 1 cq,.int .i64 0,.slice none 0 0,.int .i64 0,.slice none 0 0,.slice none 0 0,.int .i64 1,.slice none 0 0,.int .i64 0,.int .i64 0,.slice none 0 0,.slice none 0 0,.slice none 0 0,.int .i64 0,.int .i64 0],.int .i64 0]) (results_ct Tryz.results19 _ _ _ rfl hld) rfl ⟨_,_,_,_,rfl,hpv,hqv,hBv⟩
end
section
variable {w:World} {M M':Nat→Prop} {p q:Option Addr} {cp cq g:Nat}
theorem sortT0 (p:Option Addr) (c:Nat) (fv:Value) (w:World):Calls Tryz.prog 138 #[.slice p 0 c,fv] w fun e w'=>e= .returned (.tuple #[])∧w'=w:=by
 go_enter Tryz.func138,Tryz.ntmps138
 go_wp2_with fail
 refine (len64_0 _).mono ?_
 rintro e w1 ⟨rfl,rfl⟩
 go_wp2_with fail
 refine (pdq0 _ _ _ _).mono ?_
 rintro e w1 ⟨rfl,rfl⟩
 go_wp2
 go_end0
 exact ⟨rfl,rfl⟩
theorem fits0 (w:World):Calls Tryz.prog 94 #[.slice none 0 0] w fun e w'=>e= .returned (.bool true)∧w'=w:=by
 go_enter Tryz.func94,Tryz.ntmps94
 go_wp2_with fail
 refine (cloneT0 _).mono ?_
 rintro e w1 ⟨rfl,rfl⟩
 go_wp2_with fail
 refine (sortT0 _ _ _ _).mono ?_
 rintro e w1 ⟨rfl,rfl⟩
 go_wp2
 go_loop [3] (fun i=>i= .int .i64 1) (fun _=>0)
 case atStart=>rfl
 case round=>
  subst hrel
  go_wp2
  go_ret
  exact ⟨rfl,rfl⟩
theorem ovalid0 (w:World):Calls Tryz.prog 51 #[ob1] w fun e w'=>e= .returned (.int .i64 0)∧Below w.heap.size w w':=by
 have hB:Below w.heap.size w (w.alloc (.cells #[.int .i64 1,.slice none 0 0] 39)):=by (repeat' (first|with_reducible exact Below.refl _ _|with_reducible assumption|with_reducible refine bl_drewN ?_ _|with_reducible refine Below.drew ?_|with_reducible refine Below.alloc ?_ ?_ _|with_reducible refine Below.setCell ?_ ?_ _|omega|(simp;done)|(simp;omega)))
 go_enter Tryz.func51,Tryz.ntmps51
 go_wp2
 go_loopw [25] (fun i wr=>i= .int .i64 0∧wr=w.alloc (.cells #[.int .i64 1,.slice none 0 0] 39)) (fun _ _=>0)
 case atStart=>exact ⟨rfl,rfl⟩
 case round=>
  obtain ⟨rfl,rfl⟩:=hrel
  go_wp2_with fail
  refine (fits0 _).mono ?_
  rintro e w1 ⟨rfl,rfl⟩
  go_wp2
  go_ret
  exact ⟨rfl,hB⟩
theorem blankT0 (w:World):Calls Tryz.prog 100 #[.agg #[.int .i64 0,.slice none 0 0,.slice none 0 0]] w fun e w'=>e= .returned (.bool true)∧Below w.heap.size w w':=by
 have hB:Below w.heap.size w (w.alloc (.cells #[.int .i64 0,.slice none 0 0,.slice none 0 0] 29)):=by (repeat' (first|with_reducible exact Below.refl _ _|with_reducible assumption|with_reducible refine bl_drewN ?_ _|with_reducible refine Below.drew ?_|with_reducible refine Below.alloc ?_ ?_ _|with_reducible refine Below.setCell ?_ ?_ _|omega|(simp;done)|(simp;omega)))
 go_enter Tryz.func100,Tryz.ntmps100
 go_wp2
 go_ret
 exact ⟨rfl,hB⟩
theorem blankH0 (w:World):Calls Tryz.prog 53 #[.agg #[.int .i64 0,.int .i64 0,.slice none 0 0,.slice none 0 0,.slice none 0 0]] w fun e w'=>e= .returned (.bool true)∧Below w.heap.size w w':=by
 have hB:Below w.heap.size w (w.alloc (.cells #[.int .i64 0,.int .i64 0,.slice none 0 0,.slice none 0 0,.slice none 0 0] 43)):=by (repeat' (first|with_reducible exact Below.refl _ _|with_reducible assumption|with_reducible refine bl_drewN ?_ _|with_reducible refine Below.drew ?_|with_reducible refine Below.alloc ?_ ?_ _|with_reducible refine Below.setCell ?_ ?_ _|omega|(simp;done)|(simp;omega)))
 go_enter Tryz.func53,Tryz.ntmps53
 go_wp2
 go_ret
 exact ⟨rfl,hB⟩
theorem plearner1 (hP:Pr w g p cp q cq) (hp:Sl M w p cp ([[]]:List (List Int))) (hq:Sl M' w q cq ([[0]]:List (List Int))):
    Calls Tryz.prog 52 #[.pointer (some ⟨g,0,none⟩)] w fun e w'=>e= .returned (.int .i64 0)∧Below w.heap.size w w':=by
 have hlt:=hP.lt
 have HP:=Lib.hid (hp.anti (M':=fun k=>w.heap.size≤k) fun k hk (hm:w.heap.size≤k)=>absurd hk (by omega))
 have HQ:=Lib.hid (hq.anti (M':=fun k=>w.heap.size≤k) fun k hk (hm:w.heap.size≤k)=>absurd hk (by omega))
 have HPr:=Lib.hid hP
 clear hP hp hq
 have hPd:Pr w.drew g p cp q cq:=HPr.out
 obtain ⟨hSd, -⟩:=hPd.cells
 go_enter Tryz.func52,Tryz.ntmps52
 go_wp2
 refine wp_region_L (fun w'=>∀o,w'.cell? ⟨g,o,none⟩=(#[.int .i64 1,.int .i64 1,.int .i64 1,.int .i64 0,.int .u64 0,.int .i64 0,.int .i64 0,.int .i64 3,.int .i64 0,.int .i64 1,.slice p 1 cp,.slice q 1 cq,.int .i64 0,.slice none 0 0,.int .i64 0,.slice none 0 0,.slice none 0 0,.int .i64 1,.slice none 0 0,.int .i64 0,.int .i64 0,.slice none 0 0,.slice none 0 0,.slice none 0 0,.int .i64 0,.int .i64 0]:Array Value)[o]?) [0,1,2,3,4,5,6,7,8,9,10,11,12,13,14,15,16,17,18] (by kernel_rfl) ?_
 have hB0:Below w.heap.size w w.drew:=(Below.refl _ _).drew
 have hlt1:g<w.drew.heap.size:=hlt
 have hz0:w.heap.size≤w.drew.heap.size:=Nat.le_refl _
 have HP1:=Lib.hid HP.out.drew
 have HQ1:=Lib.hid HQ.out.drew
 clear HP HQ HPr hlt
 generalize w.drew=w1 at*
 refine skL_on [0,1,2,3,4,5,6,7,8,9,10,11,12,13,14,15,16,17,18] ?_
 repeat (refine skL_take (v:= ?_) rfl ?_ ?_;rotate_left;(focus (intro w' hSw;(try dsimp only at hSw);go_simp;try with_reducible rfl));try simp only [Act.put,List.setIfInBounds_toArray,List.set_cons_zero,List.set_cons_succ])
 refine skL_off ?_
 refine wpAnyL_one (i:=19) (by kernel_rfl) rfl rfl (fun K hK=> ?_)
 go_simp
 have hb2:=(Below.refl w1.heap.size w1).alloc (Nat.le_refl _) (.cells #[.int .i64 0,.slice none 0 0,.slice none 0 0] 29)
 have hP2:=hPd.below hb2
 have hB2:=hB0.trans (hb2.mono hz0)
 have hT2:(w1.alloc (.cells #[.int .i64 0,.slice none 0 0,.slice none 0 0] 29)).heap[w1.heap.size]? =some (.cells #[.int .i64 0,.slice none 0 0,.slice none 0 0] 29 (0,0)):=heap_alloc_new _ _
 have HP2:=Lib.hid (HP1.out.below hb2)
 have HQ2:=Lib.hid (HQ1.out.below hb2)
 have hS2:=hP2.cells.1
 refine hK _ _ (fun _=>hS2) ?_
 clear hK K hb2 HP1 HQ1 hSd hPd hB0
 obtain ⟨L,hL⟩:∃L,L=w1.heap.size:=⟨_,rfl⟩
 rw [←hL] at hT2 ⊢
 have hLg:g<L:=by omega
 have hLw:w.heap.size≤L:=by omega
 clear hL hlt1 hz0
 generalize w1.alloc (.cells #[.int .i64 0,.slice none 0 0,.slice none 0 0] 29)=w2 at*
 have i0:w2.setCell ⟨L,0,none⟩ (.int .i64 0)=w2:=setCell_id hT2 rfl
 have i1:w2.setCell ⟨L,1,none⟩ (.slice none 0 0)=w2:=setCell_id hT2 rfl
 have i2:w2.setCell ⟨L,2,none⟩ (.slice none 0 0)=w2:=setCell_id hT2 rfl
 obtain ⟨⟨j0,j1,j2⟩,jz⟩:=cells3 hT2
 refine wpAnyL_one (i:=20) (by kernel_rfl) rfl rfl (fun K hK=> ?_)
 go_simp
 refine hK _ _ (fun _=>hS2) ?_
 clear hK K
 refine wpAnyL_done (by kernel_rfl) ?_ _
 clear i0 i1 i2
 go_wp2_with fail
 refine (blankT0 _).mono ?_
 rintro e w3 ⟨rfl,hb3⟩
 have hP3:=hP2.below hb3
 have hT3:=(hb3.block _ (Array.getElem?_eq_some_iff.1 hT2).1).trans hT2
 have hB3:=hB2.trans (hb3.mono hB2.size)
 have HP3:=Lib.hid (HP2.out.below hb3)
 have HQ3:=Lib.hid (HQ2.out.below hb3)
 clear hS2 j0 j1 j2 jz hT2 hP2 hB2 HP2 HQ2 hb3
 obtain ⟨hS3, -⟩:=hP3.cells
 obtain ⟨⟨j0,j1,j2⟩,jz⟩:=cells3 hT3
 obtain ⟨u,hu⟩:∃u,u=((w3.setCell ⟨L,0,none⟩ (.int .i64 1)).setCell ⟨L,1,none⟩ (.slice p 1 cp)).setCell ⟨L,2,none⟩ (.slice q 1 cq):=⟨_,rfl⟩
 have hur:u.heap[L]? =some (.cells #[.int .i64 1,.slice p 1 cp,.slice q 1 cq] 29 (0,0)):=by rw [hu];exact set3 hT3
 have hPu:Pr u g p cp q cq:=by rw [hu];exact (Below.heap_setCell _ _ _ _ (by simp;omega)).trans ((Below.heap_setCell _ _ _ _ (by simp;omega)).trans ((Below.heap_setCell _ _ _ _ (by simp;omega)).trans hP3))
 have hBu:Below w.heap.size w u:=by rw [hu];exact ((hB3.setCell (p:=⟨L,0,none⟩) hLw _).setCell (p:=⟨L,1,none⟩) hLw _).setCell (p:=⟨L,2,none⟩) hLw _
 have hxu:∀{l:List (List Int)} {a:Option Addr} {c:Nat},Sl (fun k=>w.heap.size≤k) w3 a c l→Sl (fun _=>False) u a c l:=by
  intro l a c h
  rw [hu]
  exact Sl.anti (((h.ext (Ext.setCell (M:=fun k=>w.heap.size≤k) _ (p:=⟨L,0,none⟩) hLw _)).ext (Ext.setCell (M:=fun k=>w.heap.size≤k) _ (p:=⟨L,1,none⟩) hLw _)).ext (Ext.setCell (M:=fun k=>w.heap.size≤k) _ (p:=⟨L,2,none⟩) hLw _)) fun _ _ e=>e.elim
 have HPu:=Lib.hid (hxu HP3.out)
 have HQu:=Lib.hid (hxu HQ3.out)
 obtain ⟨hSu, -⟩:=hPu.cells
 obtain ⟨k0,k1,k2⟩:=(cells3 hur).1
 have HC:=Lib.hid (fun n=>tvalid1 (HPu.out.drewN n) (HQu.out.drewN n))
 clear hxu hT3 hB3 HP3 HQ3 hur hPu
 go_wp2
 rw [←hu]
 clear hu hS3 j0 j1 j2 jz
 go_quiet (fail)
 go_wp2_with fail
 refine (HC.out _).mono ?_
 rintro e w5 ⟨rfl,hb5⟩
 have hB5:=(bl_drewN hBu nq).trans (hb5.mono (by simpa using hBu.size))
 clear HC hb5 hSu k0 k1 k2 HPu HQu
 go_wp2
 go_ret
 exact ⟨rfl,hB5⟩
theorem svalid1 (hp:Sl M w p cp ([[]]:List (List Int))) (hq:Sl M' w q cq ([[0]]:List (List Int))):
    Calls Tryz.prog 21 #[.agg #[.int .i64 1,.int .i64 1,.int .i64 1,.int .i64 0,.int .u64 0,.int .i64 0,.int .i64 0,.int .i64 3,.int .i64 0,.int .i64 1,.slice p 1 cp,.slice q 1 cq,.int .i64 0,.slice none 0 0,.int .i64 0,.slice none 0 0,.slice none 0 0,.int .i64 1,.slice none 0 0,.int .i64 0,.int .i64 0,.slice none 0 0,.slice none 0 0,.slice none 0 0,.int .i64 0,.int .i64 0]] w fun e w'=>e= .returned (.int .i64 0)∧Below w.heap.size w w':=by
 obtain ⟨W,hW⟩:∃W,W=w.alloc (.cells #[.int .i64 1,.int .i64 1,.int .i64 1,.int .i64 0,.int .u64 0,.int .i64 0,.int .i64 0,.int .i64 3,.int .i64 0,.int .i64 1,.slice p 1 cp,.slice q 1 cq,.int .i64 0,.slice none 0 0,.int .i64 0,.slice none 0 0,.slice none 0 0,.int .i64 1,.slice none 0 0,.int .i64 0,.int .i64 0,.slice none 0 0,.slice none 0 0,.slice none 0 0,.int .i64 0,.int .i64 0] 46):=⟨_,rfl⟩
 have hB:Below w.heap.size w W:=by rw [hW];(repeat' (first|with_reducible exact Below.refl _ _|with_reducible assumption|with_reducible refine bl_drewN ?_ _|with_reducible refine Below.drew ?_|with_reducible refine Below.alloc ?_ ?_ _|with_reducible refine Below.setCell ?_ ?_ _|omega|(simp;done)|(simp;omega)))
 have hz:w.heap.size<W.heap.size:=by rw [hW];simp
 have h0:W.heap[w.heap.size]? =some (.cells #[.int .i64 1,.int .i64 1,.int .i64 1,.int .i64 0,.int .u64 0,.int .i64 0,.int .i64 0,.int .i64 3,.int .i64 0,.int .i64 1,.slice p 1 cp,.slice q 1 cq,.int .i64 0,.slice none 0 0,.int .i64 0,.slice none 0 0,.slice none 0 0,.int .i64 1,.slice none 0 0,.int .i64 0,.int .i64 0,.slice none 0 0,.slice none 0 0,.slice none 0 0,.int .i64 0,.int .i64 0] 46 (0,0)):=by rw [hW];exact heap_alloc_new _ _
 have cb:∀o,(w.alloc (.cells #[.int .i64 1,.int .i64 1,.int .i64 1,.int .i64 0,.int .u64 0,.int .i64 0,.int .i64 0,.int .i64 3,.int .i64 0,.int .i64 1,.slice p 1 cp,.slice q 1 cq,.int .i64 0,.slice none 0 0,.int .i64 0,.slice none 0 0,.slice none 0 0,.int .i64 1,.slice none 0 0,.int .i64 0,.int .i64 0,.slice none 0 0,.slice none 0 0,.slice none 0 0,.int .i64 0,.int .i64 0] 46)).cell? ⟨w.heap.size,o,none⟩=(#[.int .i64 1,.int .i64 1,.int .i64 1,.int .i64 0,.int .u64 0,.int .i64 0,.int .i64 0,.int .i64 3,.int .i64 0,.int .i64 1,.slice p 1 cp,.slice q 1 cq,.int .i64 0,.slice none 0 0,.int .i64 0,.slice none 0 0,.slice none 0 0,.int .i64 1,.slice none 0 0,.int .i64 0,.int .i64 0,.slice none 0 0,.slice none 0 0,.slice none 0 0,.int .i64 0,.int .i64 0]:Array Value)[o]? :=box_new w _ _
 have HP:=Lib.hid hp
 have HQ:=Lib.hid hq
 clear hp hq
 go_enter Tryz.func21,Tryz.ntmps21
 go_wp2_with fail
 rw [←hW] at cb ⊢
 clear hW
 refine (sconf1 _).mono ?_
 rintro e w1 ⟨rfl,hb1⟩
 have cb1:=box_bel cb hb1 hz
 have h1:=(hb1.block _ hz).trans h0
 have hB1:=hB.trans (hb1.mono (by omega))
 have hz1:w.heap.size<w1.heap.size:=by have:=hb1.size;omega
 clear cb h0 hB hz hb1
 go_wp2_with fail
 refine (ovalid0 _).mono ?_
 rintro e w2 ⟨rfl,hb2⟩
 have cb2:=box_bel cb1 hb2 hz1
 have h2:=(hb2.block _ hz1).trans h1
 have hB2:=hB1.trans (hb2.mono (by omega))
 have hz2:w.heap.size<w2.heap.size:=by have:=hb2.size;omega
 clear cb1 h1 hB1 hb2 hz1
 have hrg:w2.rangeAt w.heap.size 0 [.int .i64 1,.int .i64 1,.int .i64 1,.int .i64 0,.int .u64 0,.int .i64 0,.int .i64 0,.int .i64 3,.int .i64 0,.int .i64 1,.slice p 1 cp,.slice q 1 cq,.int .i64 0,.slice none 0 0,.int .i64 0,.slice none 0 0,.slice none 0 0,.int .i64 1,.slice none 0 0,.int .i64 0,.int .i64 0,.slice none 0 0,.slice none 0 0,.slice none 0 0,.int .i64 0,.int .i64 0]:=fun j x hx=>by
  rw [Nat.zero_add,cb2]
  rw [←hx]
  exact List.getElem?_toArray
 have HRG:=Lib.hid hrg
 have hb3:=(Below.refl w2.heap.size w2).alloc (Nat.le_refl _) (.cells #[.int .i64 1,.int .i64 1,.int .i64 1,.int .i64 0,.int .u64 0,.int .i64 0,.int .i64 0,.int .i64 3,.int .i64 0,.int .i64 1,.slice p 1 cp,.slice q 1 cq,.int .i64 0,.slice none 0 0,.int .i64 0,.slice none 0 0,.slice none 0 0,.int .i64 1,.slice none 0 0,.int .i64 0,.int .i64 0,.slice none 0 0,.slice none 0 0,.slice none 0 0,.int .i64 0,.int .i64 0] 118)
 have hB3:=hB2.trans (hb3.mono (by omega))
 have h3:(w2.alloc (.cells #[.int .i64 1,.int .i64 1,.int .i64 1,.int .i64 0,.int .u64 0,.int .i64 0,.int .i64 0,.int .i64 3,.int .i64 0,.int .i64 1,.slice p 1 cp,.slice q 1 cq,.int .i64 0,.slice none 0 0,.int .i64 0,.slice none 0 0,.slice none 0 0,.int .i64 1,.slice none 0 0,.int .i64 0,.int .i64 0,.slice none 0 0,.slice none 0 0,.slice none 0 0,.int .i64 0,.int .i64 0] 118)).heap[w.heap.size]? =some (.cells #[.int .i64 1,.int .i64 1,.int .i64 1,.int .i64 0,.int .u64 0,.int .i64 0,.int .i64 0,.int .i64 3,.int .i64 0,.int .i64 1,.slice p 1 cp,.slice q 1 cq,.int .i64 0,.slice none 0 0,.int .i64 0,.slice none 0 0,.slice none 0 0,.int .i64 1,.slice none 0 0,.int .i64 0,.int .i64 0,.slice none 0 0,.slice none 0 0,.slice none 0 0,.int .i64 0,.int .i64 0] 46 (0,0)):=(hb3.block _ hz2).trans h2
 have HL:=Lib.hid (plearner1 (w:=w2.alloc (.cells #[.int .i64 1,.int .i64 1,.int .i64 1,.int .i64 0,.int .u64 0,.int .i64 0,.int .i64 0,.int .i64 3,.int .i64 0,.int .i64 1,.slice p 1 cp,.slice q 1 cq,.int .i64 0,.slice none 0 0,.int .i64 0,.slice none 0 0,.slice none 0 0,.int .i64 1,.slice none 0 0,.int .i64 0,.int .i64 0,.slice none 0 0,.slice none 0 0,.slice none 0 0,.int .i64 0,.int .i64 0] 118)) (heap_alloc_new w2 _) (HP.out.below hB3) (HQ.out.below hB3))
 clear hrg hb3 h2 hB2
 go_wp2_with (refine wpList_load_mid rfl 46 _ rfl w.heap.size 0 rfl [.int .i64 1,.int .i64 1,.int .i64 1,.int .i64 0,.int .u64 0,.int .i64 0,.int .i64 0,.int .i64 3,.int .i64 0,.int .i64 1,.slice p 1 cp,.slice q 1 cq,.int .i64 0,.slice none 0 0,.int .i64 0,.slice none 0 0,.slice none 0 0,.int .i64 1,.slice none 0 0,.int .i64 0,.int .i64 0,.slice none 0 0,.slice none 0 0,.slice none 0 0,.int .i64 0,.int .i64 0] _ HRG.out Tryz.underlying46 rfl (by kernel_rfl) ?_)
 refine (HL.out).mono ?_
 rintro e w4 ⟨rfl,hb4⟩
 have hz3:w.heap.size<(w2.alloc (.cells #[.int .i64 1,.int .i64 1,.int .i64 1,.int .i64 0,.int .u64 0,.int .i64 0,.int .i64 0,.int .i64 3,.int .i64 0,.int .i64 1,.slice p 1 cp,.slice q 1 cq,.int .i64 0,.slice none 0 0,.int .i64 0,.slice none 0 0,.slice none 0 0,.int .i64 1,.slice none 0 0,.int .i64 0,.int .i64 0,.slice none 0 0,.slice none 0 0,.slice none 0 0,.int .i64 0,.int .i64 0] 118)).heap.size:=by simp;omega
 have h4:=(hb4.block _ hz3).trans h3
 have hB4:=hB3.trans (hb4.mono (by omega))
 have cb4:∀o,w4.cell? ⟨w.heap.size,o,none⟩=(#[.int .i64 1,.int .i64 1,.int .i64 1,.int .i64 0,.int .u64 0,.int .i64 0,.int .i64 0,.int .i64 3,.int .i64 0,.int .i64 1,.slice p 1 cp,.slice q 1 cq,.int .i64 0,.slice none 0 0,.int .i64 0,.slice none 0 0,.slice none 0 0,.int .i64 1,.slice none 0 0,.int .i64 0,.int .i64 0,.slice none 0 0,.slice none 0 0,.slice none 0 0,.int .i64 0,.int .i64 0]:Array Value)[o]? :=fun o=>by rw [cell_of_row _ _ _ _ _ _ h4]
 clear cb2 HRG HL h3 hB3 hb4 hz3 hz2
 go_wp2_with fail
 refine (blankH0 _).mono ?_
 rintro e w5 ⟨rfl,hb5⟩
 have hB5:=hB4.trans (hb5.mono hB4.size)
 clear cb4 h4 hB4 hb5
 go_wp2
 go_ret
 exact ⟨rfl,hB5⟩
end
abbrev nums1:List Int:=[1,1,1,3,1,0,0,0,0,0,0,0,0]
def cc1:List By:=((nums1.map putI).flatten++encTs [])++(([[[]],[[0]]]:List (List (List Int))).map encW).flatten
theorem flatI_le (l:List Int):((l.map putI).flatten).length≤10*l.length:=by
 induction l with
 |nil=>simp
 |cons x l ih=>have:=putI_len10 x;simp only [List.map_cons,List.flatten_cons,List.length_append,List.length_cons];omega
theorem encTs0_le:(encTs []).length≤10:=by have:=putI_len10 (0:Nat);unfold encTs;simp;simpa using this
theorem Sl.litg2 {α:Type} [GR α] {M:Nat→Prop} {w:World} {r s:List α} {b:Nat} {T:TypeId} {a a':Option Addr} {c c':Nat} {n m:Nat} (h:w.heap[b]? =some (.cells #[.slice a n c,.slice a' m c'] T (0,0))) (hM:¬M b) (hn:n=r.length) (hm:m=s.length)
    (h1:Sl M w a c r) (h2:Sl M w a' c' s):Sl M w (some ⟨b,0,none⟩) 2 [r,s]:=by
 subst hn hm
 refine ⟨by simp,by unfold maxLen;omega,fun j x hj=> ?_⟩
 have hlt:=(Array.getElem?_eq_some_iff.1 h).1
 match j,hj with
 |0,hj=>
  obtain rfl:r=x:=by simpa using hj
  refine ⟨b,0,[.slice a r.length c],rfl,hlt,hM,⟨a,c,rfl,h1⟩,fun i u hi=> ?_⟩
  obtain ⟨rfl,rfl⟩:i=0∧u= .slice a r.length c:=by
   rcases i with _|i
   ·simpa using hi.symm
   simp at hi
  rw [cell_of_row _ _ _ _ _ _ h]
  simp [GR.sz]
 |1,hj=>
  obtain rfl:s=x:=by simpa using hj
  refine ⟨b,0,[.slice a' s.length c'],rfl,hlt,hM,⟨a',c',rfl,h2⟩,fun i u hi=> ?_⟩
  obtain ⟨rfl,rfl⟩:i=0∧u= .slice a' s.length c':=by
   rcases i with _|i
   ·simpa using hi.symm
   simp at hi
  rw [cell_of_row _ _ _ _ _ _ h]
  simp [GR.sz]
theorem wlen1:(((([[[]],[[0]]]:List (List (List Int))).map encW).flatten).length)≤100:=by decide+kernel
section
variable {w:World} {M M':Nat→Prop} {p q:Option Addr} {cp cq g:Nat}
theorem enc1 (hp:Sl M w p cp ([[]]:List (List Int))) (hq:Sl M' w q cq ([[0]]:List (List Int))):
    Calls Tryz.prog 8 #[.agg #[.int .i64 1,.int .i64 1,.int .i64 1,.int .i64 0,.int .u64 0,.int .i64 0,.int .i64 0,.int .i64 3,.int .i64 0,.int .i64 1,.slice p 1 cp,.slice q 1 cq,.int .i64 0,.slice none 0 0,.int .i64 0,.slice none 0 0,.slice none 0 0,.int .i64 1,.slice none 0 0,.int .i64 0,.int .i64 0,.slice none 0 0,.slice none 0 0,.slice none 0 0,.int .i64 0,.int .i64 0]] w fun e w'=>∃(a:Option Addr) (c:Nat) (L:List By),e= .returned (.tuple #[.slice a L.length c,.int .i64 0])∧Hid (L=sealP crS4 1 cc1)∧Sl (fun k=>k<w.heap.size) w' a c L∧Below w.heap.size w w':=by
 obtain ⟨W,hW⟩:∃W,W=w.alloc (.cells #[.int .i64 1,.int .i64 1,.int .i64 1,.int .i64 0,.int .u64 0,.int .i64 0,.int .i64 0,.int .i64 3,.int .i64 0,.int .i64 1,.slice p 1 cp,.slice q 1 cq,.int .i64 0,.slice none 0 0,.int .i64 0,.slice none 0 0,.slice none 0 0,.int .i64 1,.slice none 0 0,.int .i64 0,.int .i64 0,.slice none 0 0,.slice none 0 0,.slice none 0 0,.int .i64 0,.int .i64 0] 46):=⟨_,rfl⟩
 have hB:Below w.heap.size w W:=by rw [hW];(repeat' (first|with_reducible exact Below.refl _ _|with_reducible assumption|with_reducible refine bl_drewN ?_ _|with_reducible refine Below.drew ?_|with_reducible refine Below.alloc ?_ ?_ _|with_reducible refine Below.setCell ?_ ?_ _|omega|(simp;done)|(simp;omega)))
 have hz:w.heap.size<W.heap.size:=by rw [hW];simp
 have h0:W.heap[w.heap.size]? =some (.cells #[.int .i64 1,.int .i64 1,.int .i64 1,.int .i64 0,.int .u64 0,.int .i64 0,.int .i64 0,.int .i64 3,.int .i64 0,.int .i64 1,.slice p 1 cp,.slice q 1 cq,.int .i64 0,.slice none 0 0,.int .i64 0,.slice none 0 0,.slice none 0 0,.int .i64 1,.slice none 0 0,.int .i64 0,.int .i64 0,.slice none 0 0,.slice none 0 0,.slice none 0 0,.int .i64 0,.int .i64 0] 46 (0,0)):=by rw [hW];exact heap_alloc_new _ _
 have HP:=Lib.hid (hp.anti (M':=fun k=>w.heap.size≤k) fun k hk (hm:w.heap.size≤k)=>absurd hk (by omega))
 have HQ:=Lib.hid (hq.anti (M':=fun k=>w.heap.size≤k) fun k hk (hm:w.heap.size≤k)=>absurd hk (by omega))
 have hrg:(w.alloc (.cells #[.int .i64 1,.int .i64 1,.int .i64 1,.int .i64 0,.int .u64 0,.int .i64 0,.int .i64 0,.int .i64 3,.int .i64 0,.int .i64 1,.slice p 1 cp,.slice q 1 cq,.int .i64 0,.slice none 0 0,.int .i64 0,.slice none 0 0,.slice none 0 0,.int .i64 1,.slice none 0 0,.int .i64 0,.int .i64 0,.slice none 0 0,.slice none 0 0,.slice none 0 0,.int .i64 0,.int .i64 0] 46)).rangeAt w.heap.size 0 [.int .i64 1,.int .i64 1,.int .i64 1,.int .i64 0,.int .u64 0,.int .i64 0,.int .i64 0,.int .i64 3,.int .i64 0,.int .i64 1,.slice p 1 cp,.slice q 1 cq,.int .i64 0,.slice none 0 0,.int .i64 0,.slice none 0 0,.slice none 0 0,.int .i64 1,.slice none 0 0,.int .i64 0,.int .i64 0,.slice none 0 0,.slice none 0 0,.slice none 0 0,.int .i64 0,.int .i64 0]:=fun j x hx=>by
  rw [Nat.zero_add,box_new,←hx]
  exact List.getElem?_toArray
 have HRG:=Lib.hid hrg
 have HC:=Lib.hid (svalid1 (hp.below hB) (hq.below hB))
 clear hp hq hrg
 have hbits:wrap64 (bits .and .u64 0 4294967295)=0:=by kernel_rfl
 go_enter Tryz.func8,Tryz.ntmps8
 go_wp2_with (refine wpList_load_mid rfl 46 _ rfl w.heap.size 0 rfl [.int .i64 1,.int .i64 1,.int .i64 1,.int .i64 0,.int .u64 0,.int .i64 0,.int .i64 0,.int .i64 3,.int .i64 0,.int .i64 1,.slice p 1 cp,.slice q 1 cq,.int .i64 0,.slice none 0 0,.int .i64 0,.slice none 0 0,.slice none 0 0,.int .i64 1,.slice none 0 0,.int .i64 0,.int .i64 0,.slice none 0 0,.slice none 0 0,.slice none 0 0,.int .i64 0,.int .i64 0] _ HRG.out Tryz.underlying46 rfl (by kernel_rfl) ?_)
 rw [←hW]
 clear hW HRG
 refine (HC.out).mono ?_
 rintro e w1 ⟨rfl,hb1⟩
 have h1:=(hb1.block _ hz).trans h0
 have hB1:=hB.trans (hb1.mono (by omega))
 have hz1:w.heap.size<w1.heap.size:=by have:=hb1.size;omega
 clear h0 hB hz hb1 HC
 have cbA:∀o,(w1.alloc (.cells #[.slice none 0 0] 78)).cell? ⟨w.heap.size,o,none⟩=(#[.int .i64 1,.int .i64 1,.int .i64 1,.int .i64 0,.int .u64 0,.int .i64 0,.int .i64 0,.int .i64 3,.int .i64 0,.int .i64 1,.slice p 1 cp,.slice q 1 cq,.int .i64 0,.slice none 0 0,.int .i64 0,.slice none 0 0,.slice none 0 0,.int .i64 1,.slice none 0 0,.int .i64 0,.int .i64 0,.slice none 0 0,.slice none 0 0,.slice none 0 0,.int .i64 0,.int .i64 0]:Array Value)[o]? :=fun o=>by rw [cell_of_row _ _ _ _ _ _ (heap_old h1)]
 have cbB:∀o,((w1.alloc (.cells #[.slice none 0 0] 78)).alloc (.cells #[.int .i64 1,.int .i64 1,.int .i64 1,.int .i64 0,.int .u64 0,.int .i64 0,.int .i64 0,.int .i64 3] 26)).cell? ⟨w.heap.size,o,none⟩=(#[.int .i64 1,.int .i64 1,.int .i64 1,.int .i64 0,.int .u64 0,.int .i64 0,.int .i64 0,.int .i64 3,.int .i64 0,.int .i64 1,.slice p 1 cp,.slice q 1 cq,.int .i64 0,.slice none 0 0,.int .i64 0,.slice none 0 0,.slice none 0 0,.int .i64 1,.slice none 0 0,.int .i64 0,.int .i64 0,.slice none 0 0,.slice none 0 0,.slice none 0 0,.int .i64 0,.int .i64 0]:Array Value)[o]? :=fun o=>by rw [cell_of_row _ _ _ _ _ _ (heap_old (heap_old h1))]
 obtain ⟨W2,hW2⟩:∃W2,W2=((w1.alloc (.cells #[.slice none 0 0] 78)).alloc (.cells #[.int .i64 1,.int .i64 1,.int .i64 1,.int .i64 0,.int .u64 0,.int .i64 0,.int .i64 0,.int .i64 3] 26)).alloc (.cells #[.int .i64 1,.int .i64 1,.int .i64 1,.int .i64 3,.int .i64 1,.int .i64 0,.int .i64 0,.int .i64 0,.int .i64 0,.int .i64 0,.int .i64 0,.int .i64 0,.int .i64 0] 3):=⟨_,rfl⟩
 have hB2:Below w.heap.size w W2:=by rw [hW2];(repeat' (first|with_reducible exact Below.refl _ _|with_reducible assumption|with_reducible refine bl_drewN ?_ _|with_reducible refine Below.drew ?_|with_reducible refine Below.alloc ?_ ?_ _|with_reducible refine Below.setCell ?_ ?_ _|omega|(simp;done)|(simp;omega)))
 have hz2:w1.heap.size+3≤W2.heap.size:=by rw [hW2];simp
 have r1:W2.heap[w.heap.size]? =some (.cells #[.int .i64 1,.int .i64 1,.int .i64 1,.int .i64 0,.int .u64 0,.int .i64 0,.int .i64 0,.int .i64 3,.int .i64 0,.int .i64 1,.slice p 1 cp,.slice q 1 cq,.int .i64 0,.slice none 0 0,.int .i64 0,.slice none 0 0,.slice none 0 0,.int .i64 1,.slice none 0 0,.int .i64 0,.int .i64 0,.slice none 0 0,.slice none 0 0,.slice none 0 0,.int .i64 0,.int .i64 0] 46 (0,0)):=by rw [hW2];exact heap_old (heap_old (heap_old h1))
 have rg:W2.heap[w1.heap.size]? =some (.cells #[.slice none 0 0] 78 (0,0)):=by rw [hW2];(repeat (first|(refine heap_at ?_;(simp;done))|refine heap_old ?_))
 have rc:W2.heap[w1.heap.size+1]? =some (.cells #[.int .i64 1,.int .i64 1,.int .i64 1,.int .i64 0,.int .u64 0,.int .i64 0,.int .i64 0,.int .i64 3] 26 (0,0)):=by rw [hW2];(repeat (first|(refine heap_at ?_;(simp;done))|refine heap_old ?_))
 have rn:W2.heap[w1.heap.size+1+1]? =some (.cells #[.int .i64 1,.int .i64 1,.int .i64 1,.int .i64 3,.int .i64 1,.int .i64 0,.int .i64 0,.int .i64 0,.int .i64 0,.int .i64 0,.int .i64 0,.int .i64 0,.int .i64 0] 3 (0,0)):=by rw [hW2];(repeat (first|(refine heap_at ?_;(simp;done))|refine heap_old ?_))
 have hWr2:Wr w1.heap.size W2 w1.heap.size (Value.slice none 0 0) []:=⟨rg,Ow.nil,fun k hk=>by simp [Value.ownBlock] at hk,Nat.le_refl _⟩
 have hS2:Sl (fun k=>k=w1.heap.size∨((Value.slice none 0 0)).ownBlock=some k) W2 (some ⟨w1.heap.size+1+1,0,none⟩) 13 nums1:=
  Sl.lit rn rfl (by simp [Value.ownBlock];omega) (fun x hx=>by
   have:0≤x∧x≤3:=by simp at hx;omega
   unfold i64;omega) rfl (by unfold maxLen;omega)
 have HC:=Lib.hid (wints_any (l:=nums1) hWr2 hS2 (Lib.hid (by have:=flatI_le nums1;simp only [List.length_nil,Nat.zero_add];have e:nums1.length=13:=rfl;omega)))
 have hzw:w.heap.size<w1.heap.size:=hz1
 clear hWr2 hS2 rn rg h1 hB1 hz1
 go_wp2_with fail
 rw [←hW2]
 clear hW2 cbA cbB
 refine (HC.out).mono ?_
 rintro e w3 ⟨v3,rfl,hW3,hK3,hN3⟩
 rw [List.nil_append] at hW3
 obtain ⟨C3,hC3⟩:∃C,C=(nums1.map putI).flatten:=⟨_,rfl⟩
 rw [←hC3] at hW3
 have hC3l:C3.length≤130:=by rw [hC3];exact flatI_le nums1
 have hv3:Hid (∀k,v3.ownBlock=some k→w1.heap.size+3≤k):=fun k hk=>by
  rcases hN3.out k hk with e|e
  ·simp [Value.ownBlock] at e
  omega
 have HC3:=Lib.hid hC3
 have s1:=(hK3.block _ (by omega) (by omega) (by simp [Value.ownBlock])).trans r1
 have sc:=(hK3.block _ (by omega) (by omega) (by simp [Value.ownBlock])).trans rc
 have hB3:=hB2.trans (kp_below hK3 (B:=w.heap.size) (by omega) (fun k hk=>by simp [Value.ownBlock] at hk) (by omega))
 have hz3:w1.heap.size+3≤w3.heap.size:=Nat.le_trans hz2 hK3.size
 have c1:∀o,w3.cell? ⟨w.heap.size,o,none⟩=(#[.int .i64 1,.int .i64 1,.int .i64 1,.int .i64 0,.int .u64 0,.int .i64 0,.int .i64 0,.int .i64 3,.int .i64 0,.int .i64 1,.slice p 1 cp,.slice q 1 cq,.int .i64 0,.slice none 0 0,.int .i64 0,.slice none 0 0,.slice none 0 0,.int .i64 1,.slice none 0 0,.int .i64 0,.int .i64 0,.slice none 0 0,.slice none 0 0,.slice none 0 0,.int .i64 0,.int .i64 0]:Array Value)[o]? :=fun o=>by rw [cell_of_row _ _ _ _ _ _ s1]
 have hn3:Hid (C3.length+(encTs []).length<100000000000):=by have:=encTs0_le;unfold Hid;omega
 have HC:=Lib.hid (wtraces_any (l:=[]) hW3 (Sl.nil _ _ none (c:=0) (by unfold maxLen;omega)) (Lib.hid (fun t ht=>by simp at ht)) hn3)
 clear hC3 hN3 hK3 hB2 r1 rc hz2
 go_wp2_with fail
 refine (HC.out).mono ?_
 rintro e w4 ⟨v4,rfl,hW4,hK4,hN4⟩
 obtain ⟨C4,hC4⟩:∃C,C=C3++encTs []:=⟨_,rfl⟩
 rw [←hC4] at hW4
 have hC4l:C4.length≤140:=by rw [hC4,List.length_append];have:=encTs0_le;omega
 have hv4:Hid (∀k,v4.ownBlock=some k→w1.heap.size+3≤k):=fun k hk=>by
  rcases hN4.out k hk with e|e
  ·exact hv3.out k e
  omega
 have HC4:=Lib.hid hC4
 have t1:=(hK4.block _ (by omega) (by omega) (fun e=>by have:=hv3.out _ e;omega)).trans s1
 have tc:=(hK4.block _ (by omega) (by omega) (fun e=>by have:=hv3.out _ e;omega)).trans sc
 have hB4:=hB3.trans (kp_below hK4 (B:=w.heap.size) (by omega) (fun k hk=>by have:=hv3.out k hk;omega) (by omega))
 have hz4:w1.heap.size+3≤w4.heap.size:=Nat.le_trans hz3 hK4.size
 have d1:∀o,w4.cell? ⟨w.heap.size,o,none⟩=(#[.int .i64 1,.int .i64 1,.int .i64 1,.int .i64 0,.int .u64 0,.int .i64 0,.int .i64 0,.int .i64 3,.int .i64 0,.int .i64 1,.slice p 1 cp,.slice q 1 cq,.int .i64 0,.slice none 0 0,.int .i64 0,.slice none 0 0,.slice none 0 0,.int .i64 1,.slice none 0 0,.int .i64 0,.int .i64 0,.slice none 0 0,.slice none 0 0,.slice none 0 0,.int .i64 0,.int .i64 0]:Array Value)[o]? :=fun o=>by rw [cell_of_row _ _ _ _ _ _ t1]
 have dc:∀o,w4.cell? ⟨w1.heap.size+1,o,none⟩=(#[.int .i64 1,.int .i64 1,.int .i64 1,.int .i64 0,.int .u64 0,.int .i64 0,.int .i64 0,.int .i64 3]:Array Value)[o]? :=fun o=>by rw [cell_of_row _ _ _ _ _ _ tc]
 have hb5:=(Below.refl w4.heap.size w4).alloc (Nat.le_refl _) (.cells #[.slice p 1 cp,.slice q 1 cq] 27)
 have hW5:=hW4.below hb5
 have hB5:=hB4.trans (hb5.mono (by omega))
 have n5:(w4.alloc (.cells #[.slice p 1 cp,.slice q 1 cq] 27)).heap[w4.heap.size]? =some (.cells #[.slice p 1 cp,.slice q 1 cq] 27 (0,0)):=heap_alloc_new _ _
 have u1:(w4.alloc (.cells #[.slice p 1 cp,.slice q 1 cq] 27)).heap[w.heap.size]? =some (.cells #[.int .i64 1,.int .i64 1,.int .i64 1,.int .i64 0,.int .u64 0,.int .i64 0,.int .i64 0,.int .i64 3,.int .i64 0,.int .i64 1,.slice p 1 cp,.slice q 1 cq,.int .i64 0,.slice none 0 0,.int .i64 0,.slice none 0 0,.slice none 0 0,.int .i64 1,.slice none 0 0,.int .i64 0,.int .i64 0,.slice none 0 0,.slice none 0 0,.slice none 0 0,.int .i64 0,.int .i64 0] 46 (0,0)):=heap_old t1
 have hown4:Hid (∀k,v4.ownBlock=some k→k<w4.heap.size):=fun k hk=>(hW4.own.lt k hk).2
 have hgM:¬(w4.heap.size=w1.heap.size∨v4.ownBlock=some w4.heap.size):=fun h=>h.elim (fun e=>by omega) (fun e=>by have:=hown4.out _ e;omega)
 have hS5:=Sl.litg2 (M:=fun k=>k=w1.heap.size∨v4.ownBlock=some k) (r:=([[]]:List (List Int))) (s:=([[0]]:List (List Int))) n5 hgM rfl rfl
  ((HP.out.below hB5).anti fun k hk hm=>by rcases hm with e|e;(show w.heap.size≤k;omega);(have:=hv4.out k e;show w.heap.size≤k;omega)) ((HQ.out.below hB5).anti fun k hk hm=>by rcases hm with e|e;(show w.heap.size≤k;omega);(have:=hv4.out k e;show w.heap.size≤k;omega))
 have HC:=Lib.hid (wwords_any hW5 hS5 (Lib.hid (fun x hx=>by simp at hx;rcases hx with rfl|rfl<;>simp)) (Lib.hid (by have:=wlen1;omega)))
 clear hC4 hN4 hK4 hB4 hb5 hS5 n5 tc sc s1 c1
 go_wp2_with fail
 refine (HC.out).mono ?_
 rintro e w6 ⟨v6,rfl,hW6,hK6,hN6⟩
 have hB6:=hB5.trans (kp_below hK6 (B:=w.heap.size) (by omega) (fun k hk=>by have:=hv4.out k hk;omega) (by simp;omega))
 have k1:=(hK6.block w.heap.size (by simp;omega) (by omega) (fun e=>by have:=hv4.out _ e;omega)).trans u1
 have e1:∀o,w6.cell? ⟨w.heap.size,o,none⟩=(#[.int .i64 1,.int .i64 1,.int .i64 1,.int .i64 0,.int .u64 0,.int .i64 0,.int .i64 0,.int .i64 3,.int .i64 0,.int .i64 1,.slice p 1 cp,.slice q 1 cq,.int .i64 0,.slice none 0 0,.int .i64 0,.slice none 0 0,.slice none 0 0,.int .i64 1,.slice none 0 0,.int .i64 0,.int .i64 0,.slice none 0 0,.slice none 0 0,.slice none 0 0,.int .i64 0,.int .i64 0]:Array Value)[o]? :=fun o=>by rw [cell_of_row _ _ _ _ _ _ k1]
 obtain ⟨L6,hL6⟩:∃L,L=C4++(([[[]],[[0]]]:List (List (List Int))).map encW).flatten:=⟨_,rfl⟩
 rw [←hL6] at hW6
 have hL6l:L6.length≤240:=by rw [hL6,List.length_append];have:=wlen1;omega
 have HL6:Hid (L6=cc1):=by unfold Hid;rw [hL6,HC4.out,HC3.out];rfl
 have hL60:0<L6.length:=by rw [HL6.out];decide+kernel
 obtain ⟨a6,c6,hv6, -, -⟩:=hW6.own.shape
 subst hv6
 have f6:=hW6.at.1
 have hsl:=hW6.own.slBy
 have HS:=Lib.hid (seal_any (k:=1) hsl (by decide) (by omega) hL60)
 clear hC3l hC4l hL6 hW6 hK6 hN6 hB5 k1 u1 hW5 hsl HC d1 dc
 go_wp2_with fail
 refine (HS.out).mono ?_
 rintro e w7 ⟨a7,c7,l7,rfl,hl7,hO7,hb7⟩
 have hB7:=hB6.trans (hb7.mono hB6.size)
 have hS7:Sl (fun k=>k<w.heap.size) w7 a7 c7 l7:=(hO7.slB (M:=fun k=>k<w.heap.size) fun k hk=> .inl (by have:=hB6.size;show k<_;have:k<w.heap.size:=hk;omega))
 have hF:Hid (l7=sealP crS4 1 cc1):=by unfold Hid;rw [hl7.out,HL6.out]
 clear HS hO7 hb7 hl7 e1 f6 hB6
 go_wp2
 go_ret2
 exact ⟨a7,c7,l7,rfl,hF,hS7,hB7⟩
end
section
variable {w w1 w0:World} {M:Nat→Prop} {a:Option Addr} {c g N C:Nat}
theorem kb_extM {M:Nat→Prop} (h:Kb g w w1) (hg:M g):Ext M M w w1:=⟨h.size,fun q hq hn=>h.block q hq (fun e=>by simp at e;exact hn (e▸hg)),fun _ _ e=>e⟩
theorem rlearn1 {R:List By} (hK:Kb g w0 w) (hC:w0.heap.size≤C) (hgC:C≠g) (hrow:w.heap[C]? =some (.cells #[.int .i64 1,.int .i64 1,.int .i64 1,.int .i64 0,.int .u64 0,.int .i64 0,.int .i64 0,.int .i64 3,.int .i64 0,.int .i64 0,.slice none 0 0,.slice none 0 0,.int .i64 0,.slice none 0 0,.int .i64 0,.slice none 0 0,.slice none 0 0,.int .i64 1,.slice none 0 0,.int .i64 0,.int .i64 0,.slice none 0 0,.slice none 0 0,.slice none 0 0,.int .i64 0,.int .i64 0] 46 (0,0))) (hS:Rd N w g a c (encW [[]]++(encW [[0]]++R))) (hN:N≤w0.heap.size):
    Calls Tryz.prog 71 #[.pointer (some ⟨g,0,none⟩),.pointer (some ⟨C,0,none⟩)] w fun e w'=>∃(p:Option Addr) (cp:Nat) (q:Option Addr) (cq:Nat),e= .returned (.tuple #[])∧w'.heap[C]? =some (.cells #[.int .i64 1,.int .i64 1,.int .i64 1,.int .i64 0,.int .u64 0,.int .i64 0,.int .i64 0,.int .i64 3,.int .i64 0,.int .i64 1,.slice p 1 cp,.slice q 1 cq,.int .i64 0,.slice none 0 0,.int .i64 0,.slice none 0 0,.slice none 0 0,.int .i64 1,.slice none 0 0,.int .i64 0,.int .i64 0,.slice none 0 0,.slice none 0 0,.slice none 0 0,.int .i64 0,.int .i64 0] 46 (0,0))∧
     Sl (fun k=>k<w.heap.size) w' p cp ([[]]:List (List Int))∧Sl (fun k=>k<w.heap.size) w' q cq ([[0]]:List (List Int))∧(∃a' c',Rd N w' g a' c' R)∧Kb g w0 w':=by
 have hgw:=hS.lt
 have hlC:C<w.heap.size:=(Array.getElem?_eq_some_iff.1 hrow).1
 have cc:∀o,w.cell? ⟨C,o,none⟩=(#[.int .i64 1,.int .i64 1,.int .i64 1,.int .i64 0,.int .u64 0,.int .i64 0,.int .i64 0,.int .i64 3,.int .i64 0,.int .i64 0,.slice none 0 0,.slice none 0 0,.int .i64 0,.slice none 0 0,.int .i64 0,.slice none 0 0,.slice none 0 0,.int .i64 1,.slice none 0 0,.int .i64 0,.int .i64 0,.slice none 0 0,.slice none 0 0,.slice none 0 0,.int .i64 0,.int .i64 0]:Array Value)[o]? :=fun o=>by rw [cell_of_row _ _ _ _ _ _ hrow]
 have cf:∀o,w.frozen? ⟨C,o,none⟩=false:=fun o=>frozen_of_row _ _ _ _ _ hrow
 obtain ⟨x1,hx1⟩:∃x,x=w.setCell ⟨C,9,none⟩ (.int .i64 1):=⟨_,rfl⟩
 have hr1:x1.heap[C]? =some (.cells #[.int .i64 1,.int .i64 1,.int .i64 1,.int .i64 0,.int .u64 0,.int .i64 0,.int .i64 0,.int .i64 3,.int .i64 0,.int .i64 1,.slice none 0 0,.slice none 0 0,.int .i64 0,.slice none 0 0,.int .i64 0,.slice none 0 0,.slice none 0 0,.int .i64 1,.slice none 0 0,.int .i64 0,.int .i64 0,.slice none 0 0,.slice none 0 0,.slice none 0 0,.int .i64 0,.int .i64 0] 46 (0,0)):=by rw [hx1];exact (heap_setCell_same _ _ _ _ _ _ hrow).trans rfl
 have hS1:Rd N x1 g a c (encW [[]]++(encW [[0]]++R)):=by rw [hx1];exact hS.setO hgC (by show N≤C;omega) _
 have hK1:Kb g w0 x1:=by rw [hx1];exact kb_setN hK (by show w0.heap.size≤C;omega) _
 have hz1:w.heap.size≤x1.heap.size:=by rw [hx1];simp
 have HC:=Lib.hid (rwords_ok (l:=[[]]) (Lib.hid (fun x hx=>by simp at hx;subst hx;exact ⟨fun y hy=>by simp at hy,by simp⟩)) (by simp) hS1 (Lib.hid rfl))
 clear hS hK
 go_enter Tryz.func71,Tryz.ntmps71
 go_wp2_with fail
 rw [←hx1]
 clear hx1 cc cf hrow
 refine (HC.out).mono ?_
 rintro e y1 ⟨p,cp,l1,rfl,hl1,hp1,⟨b1,d1,hS2⟩,hKy⟩
 obtain rfl:l1=[[]]:=hl1.out
 have q1:=(hKy.block C (by omega) (by simp;omega)).trans hr1
 have hK2:=kb_trans hK1 hKy
 have e1:y1.cell? ⟨C,10,none⟩=some (.slice none 0 0):=by rw [cell_of_row _ _ _ _ _ _ q1];rfl
 have z1:y1.frozen? ⟨C,10,none⟩=false:=frozen_of_row _ _ _ _ _ q1
 have hzy:=hKy.size
 obtain ⟨x2,hx2⟩:∃x,x=y1.setCell ⟨C,10,none⟩ (.slice p 1 cp):=⟨_,rfl⟩
 have hr2:x2.heap[C]? =some (.cells #[.int .i64 1,.int .i64 1,.int .i64 1,.int .i64 0,.int .u64 0,.int .i64 0,.int .i64 0,.int .i64 3,.int .i64 0,.int .i64 1,.slice p 1 cp,.slice none 0 0,.int .i64 0,.slice none 0 0,.int .i64 0,.slice none 0 0,.slice none 0 0,.int .i64 1,.slice none 0 0,.int .i64 0,.int .i64 0,.slice none 0 0,.slice none 0 0,.slice none 0 0,.int .i64 0,.int .i64 0] 46 (0,0)):=by rw [hx2];exact (heap_setCell_same _ _ _ _ _ _ q1).trans rfl
 have hS3:Rd N x2 g b1 d1 (encW [[0]]++R):=by rw [hx2];exact hS2.setO hgC (by show N≤C;omega) _
 have hK3:Kb g w0 x2:=by rw [hx2];exact kb_setN hK2 (by show w0.heap.size≤C;omega) _
 have hp2:Sl (fun k=>k<w.heap.size) x2 p cp ([[]]:List (List Int)):=by
  rw [hx2]
  exact Sl.anti (M:=fun k=>k<x1.heap.size) (hp1.ext (Ext.setCell (M:=fun k=>k<x1.heap.size) _ (p:=⟨C,10,none⟩) (by show C<_;omega) _)) fun k _ hk=>by show k<_;have:k<w.heap.size:=hk;omega
 have hz2:w.heap.size≤x2.heap.size:=by rw [hx2];simp;omega
 have HC2:=Lib.hid (rwords_ok (l:=[[0]]) (Lib.hid (fun x hx=>by simp at hx;subst hx;exact ⟨fun y hy=>by simp at hy;subst hy;unfold i64;omega,by simp⟩)) (by simp) hS3 (Lib.hid rfl))
 clear HC hl1 hp1 hS2 hKy q1 hK2 hS1 hK1 hr1
 go_wp2_with fail
 rw [←hx2]
 clear hx2 e1 z1
 refine (HC2.out).mono ?_
 rintro e y2 ⟨q,cq,l2,rfl,hl2,hq2,⟨b2,d2,hS4⟩,hKz⟩
 obtain rfl:l2=[[0]]:=hl2.out
 have q2:=(hKz.block C (by omega) (by simp;omega)).trans hr2
 have hK4:=kb_trans hK3 hKz
 have e2:y2.cell? ⟨C,11,none⟩=some (.slice none 0 0):=by rw [cell_of_row _ _ _ _ _ _ q2];rfl
 have z2:y2.frozen? ⟨C,11,none⟩=false:=frozen_of_row _ _ _ _ _ q2
 obtain ⟨x3,hx3⟩:∃x,x=y2.setCell ⟨C,11,none⟩ (.slice q 1 cq):=⟨_,rfl⟩
 have hr3:x3.heap[C]? =some (.cells #[.int .i64 1,.int .i64 1,.int .i64 1,.int .i64 0,.int .u64 0,.int .i64 0,.int .i64 0,.int .i64 3,.int .i64 0,.int .i64 1,.slice p 1 cp,.slice q 1 cq,.int .i64 0,.slice none 0 0,.int .i64 0,.slice none 0 0,.slice none 0 0,.int .i64 1,.slice none 0 0,.int .i64 0,.int .i64 0,.slice none 0 0,.slice none 0 0,.slice none 0 0,.int .i64 0,.int .i64 0] 46 (0,0)):=by rw [hx3];exact (heap_setCell_same _ _ _ _ _ _ q2).trans rfl
 have hS5:Rd N x3 g b2 d2 R:=by rw [hx3];exact hS4.setO hgC (by show N≤C;omega) _
 have hK5:Kb g w0 x3:=by rw [hx3];exact kb_setN hK4 (by show w0.heap.size≤C;omega) _
 have hp3:Sl (fun k=>k<w.heap.size) x3 p cp ([[]]:List (List Int)):=by
  rw [hx3]
  exact (hp2.ext (kb_extM hKz hgw)).ext (Ext.setCell (M:=fun k=>k<w.heap.size) _ (p:=⟨C,11,none⟩) hlC _)
 have hq3:Sl (fun k=>k<w.heap.size) x3 q cq ([[0]]:List (List Int)):=by
  rw [hx3]
  exact Sl.anti (M:=fun k=>k<x2.heap.size) (hq2.ext (Ext.setCell (M:=fun k=>k<x2.heap.size) _ (p:=⟨C,11,none⟩) (by show C<_;omega) _)) fun k _ hk=>by show k<_;have:k<w.heap.size:=hk;omega
 clear HC2 hl2 hq2 hS4 hKz q2 hK4 hS3 hK3 hr2 hp2
 go_wp2
 rw [←hx3]
 go_end0
 exact ⟨p,cp,q,cq,rfl,hr3,hp3,hq3,⟨_,_,hS5⟩,hK5⟩
end
section
variable {w w1 w0:World} {M:Nat→Prop} {a:Option Addr} {c g N C:Nat}
theorem rtraces0 {R:List By} (hS:Rd N w g a c (encTs []++R)):
    Calls Tryz.prog 70 #[.pointer (some ⟨g,0,none⟩)] w fun e w'=>e= .returned (.slice none 0 0)∧(∃a' c',Rd N w' g a' c' R)∧Kb g w w':=by
 have HC:=Lib.hid (rcount_ok (n:=0) (by omega) hS (R':=R) (by unfold Hid encTs;simp))
 clear hS
 go_enter Tryz.func70,Tryz.ntmps70
 go_wp2_with fail
 refine (HC.out).mono ?_
 rintro e w1 ⟨rfl,hS1,hK1⟩
 go_wp2
 go_loopw [3,4] (fun v n wr=>v= .slice none 0 0∧n= .int .i64 0∧wr=w1) (fun _ _ _=>0)
 case atStart=>exact ⟨rfl,by go_num,rfl⟩
 case round=>
  obtain ⟨rfl,rfl,rfl⟩:=hrel
  go_wp2
  go_ret
  exact ⟨rfl,hS1,hK1⟩
theorem setAll_old {b k0:Nat} (h:k0≠b):∀(vs:List Value) (w:World) (k:Nat),(w.setCells b k vs).heap[k0]? =w.heap[k0]?
 |[],_,_=>rfl
 |_::vs,w,k=>(setAll_old h vs (w.setCell ⟨b,k,none⟩ _) (k+1)).trans (Below.heap_setCell _ _ _ _ h)
theorem cc1_pl:cc1=pl [1,1,1,3,1,0,0,0,0,0] (pl [0,0,0] (encTs []++(encW [[]]++(encW [[0]]++[])))):=by
 unfold cc1
 simp only [List.map_cons,List.map_nil,List.flatten_cons,List.flatten_nil,pl,List.append_assoc,List.append_nil]
theorem rses1 (hS:Rd N w g a c cc1) (hN:N≤w.heap.size):
    Calls Tryz.prog 37 #[.pointer (some ⟨g,0,none⟩)] w fun e w'=>∃(p:Option Addr) (cp:Nat) (q:Option Addr) (cq:Nat),e= .returned (.agg #[.int .i64 1,.int .i64 1,.int .i64 1,.int .i64 0,.int .u64 0,.int .i64 0,.int .i64 0,.int .i64 3,.int .i64 0,.int .i64 1,.slice p 1 cp,.slice q 1 cq,.int .i64 0,.slice none 0 0,.int .i64 0,.slice none 0 0,.slice none 0 0,.int .i64 1,.slice none 0 0,.int .i64 0,.int .i64 0,.slice none 0 0,.slice none 0 0,.slice none 0 0,.int .i64 0,.int .i64 0])∧
     Sl (fun k=>k<w.heap.size) w' p cp ([[]]:List (List Int))∧Sl (fun k=>k<w.heap.size) w' q cq ([[0]]:List (List Int))∧Kb g w w':=by
 rw [cc1_pl] at hS
 have hg:=hS.lt
 obtain ⟨W,hW⟩:∃W,W=w.alloc (.cells #[.int .i64 0,.int .i64 0,.int .i64 0,.int .i64 0,.int .u64 0,.int .i64 0,.int .i64 0,.int .i64 0,.int .i64 0,.int .i64 0,.slice none 0 0,.slice none 0 0,.int .i64 0,.slice none 0 0,.int .i64 0,.slice none 0 0,.slice none 0 0,.int .i64 0,.slice none 0 0,.int .i64 0,.int .i64 0,.slice none 0 0,.slice none 0 0,.slice none 0 0,.int .i64 0,.int .i64 0] 46):=⟨_,rfl⟩
 have hb0:Below w.heap.size w W:=by rw [hW];exact (Below.refl _ _).alloc (Nat.le_refl _) _
 have n0:W.heap[w.heap.size]? =some (.cells #[.int .i64 0,.int .i64 0,.int .i64 0,.int .i64 0,.int .u64 0,.int .i64 0,.int .i64 0,.int .i64 0,.int .i64 0,.int .i64 0,.slice none 0 0,.slice none 0 0,.int .i64 0,.slice none 0 0,.int .i64 0,.slice none 0 0,.slice none 0 0,.int .i64 0,.slice none 0 0,.int .i64 0,.int .i64 0,.slice none 0 0,.slice none 0 0,.slice none 0 0,.int .i64 0,.int .i64 0] 46 (0,0)):=by rw [hW];exact heap_alloc_new _ _
 have hK0:Kb g w W:=kb_of hb0
 have hz0:w.heap.size<W.heap.size:=by rw [hW];simp
 have HC:=Lib.hid (rconf1 (hS.below hb0) (by omega))
 clear hS hb0
 go_enter Tryz.func37,Tryz.ntmps37
 go_wp2_with fail
 rw [←hW]
 clear hW
 refine (HC.out).mono ?_
 rintro e w1 ⟨rfl,⟨b1,d1,hS1⟩,hK1⟩
 have hz1:w.heap.size<w1.heap.size:=Nat.lt_of_lt_of_le hz0 hK1.size
 have hgz:g<w1.heap.size:=hS1.lt
 have hb2:=(Below.refl w1.heap.size w1).alloc (Nat.le_refl _) (.cells #[.int .i64 0,.int .i64 0,.int .i64 0,.int .i64 0,.int .u64 0,.int .i64 0,.int .i64 0,.int .i64 0,.int .i64 0,.int .i64 0,.slice none 0 0,.slice none 0 0,.int .i64 0,.slice none 0 0,.int .i64 0,.slice none 0 0,.slice none 0 0,.int .i64 0,.slice none 0 0,.int .i64 0,.int .i64 0,.slice none 0 0,.slice none 0 0,.slice none 0 0,.int .i64 0,.int .i64 0] 46)
 have r2:(w1.alloc (.cells #[.int .i64 0,.int .i64 0,.int .i64 0,.int .i64 0,.int .u64 0,.int .i64 0,.int .i64 0,.int .i64 0,.int .i64 0,.int .i64 0,.slice none 0 0,.slice none 0 0,.int .i64 0,.slice none 0 0,.int .i64 0,.slice none 0 0,.slice none 0 0,.int .i64 0,.slice none 0 0,.int .i64 0,.int .i64 0,.slice none 0 0,.slice none 0 0,.slice none 0 0,.int .i64 0,.int .i64 0] 46)).heap[w1.heap.size]? =some (.cells #[.int .i64 0,.int .i64 0,.int .i64 0,.int .i64 0,.int .u64 0,.int .i64 0,.int .i64 0,.int .i64 0,.int .i64 0,.int .i64 0,.slice none 0 0,.slice none 0 0,.int .i64 0,.slice none 0 0,.int .i64 0,.slice none 0 0,.slice none 0 0,.int .i64 0,.slice none 0 0,.int .i64 0,.int .i64 0,.slice none 0 0,.slice none 0 0,.slice none 0 0,.int .i64 0,.int .i64 0] 46 (0,0)):=heap_alloc_new _ _
 have hth : (w1.alloc (.cells #[.int .i64 0, .int .i64 0, .int .i64 0, .int .i64 0, .int .u64 0, .int .i64 0, .int .i64 0, .int .i64 0, .int .i64 0, .int .i64 0, .slice none 0 0, .slice none 0 0, .int .i64 0, .slice none 0 0, .int .i64 0, .slice none 0 0, .slice none 0 0, .int .i64 0, .slice none 0 0, .int .i64 0, .int .i64 0, .slice none 0 0, .slice none 0 0, .slice none 0 0, .int .i64 0, .int .i64 0] 46)).there w1.heap.size 0 (#[.int .i64 1, .int .i64 1, .int .i64 1, .int .i64 0, .int .u64 0, .int .i64 0, .int .i64 0, .int .i64 3, .int .i64 0, .int .i64 0, .slice none 0 0, .slice none 0 0, .int .i64 0, .slice none 0 0, .int .i64 0, .slice none 0 0, .slice none 0 0, .int .i64 0, .slice none 0 0, .int .i64 0, .int .i64 0, .slice none 0 0, .slice none 0 0, .slice none 0 0, .int .i64 0, .int .i64 0] : Array Value).size := fun j hj => ⟨by
     have h8:j<26:=hj
     have hz8:(#[.int .i64 0,.int .i64 0,.int .i64 0,.int .i64 0,.int .u64 0,.int .i64 0,.int .i64 0,.int .i64 0,.int .i64 0,.int .i64 0,.slice none 0 0,.slice none 0 0,.int .i64 0,.slice none 0 0,.int .i64 0,.slice none 0 0,.slice none 0 0,.int .i64 0,.slice none 0 0,.int .i64 0,.int .i64 0,.slice none 0 0,.slice none 0 0,.slice none 0 0,.int .i64 0,.int .i64 0]:Array Value).size=26:=rfl
     rw [Nat.zero_add,cell_of_row _ _ _ _ _ _ r2,Array.getElem?_eq_getElem (by omega)];rfl,by rw [Nat.zero_add];exact frozen_of_row _ _ _ _ _ r2⟩
 have hone:(#[.int .i64 1,.int .i64 1,.int .i64 1,.int .i64 0,.int .u64 0,.int .i64 0,.int .i64 0,.int .i64 3,.int .i64 0,.int .i64 0,.slice none 0 0,.slice none 0 0,.int .i64 0,.slice none 0 0,.int .i64 0,.slice none 0 0,.slice none 0 0,.int .i64 0,.slice none 0 0,.int .i64 0,.int .i64 0,.slice none 0 0,.slice none 0 0,.slice none 0 0,.int .i64 0,.int .i64 0]:Array Value).all (·.oneCell')=true:=all_oneCell_toArray (cs:=[.int .i64 1,.int .i64 1,.int .i64 1,.int .i64 0,.int .u64 0,.int .i64 0,.int .i64 0,.int .i64 3,.int .i64 0,.int .i64 0,.slice none 0 0,.slice none 0 0,.int .i64 0,.slice none 0 0,.int .i64 0,.slice none 0 0,.slice none 0 0,.int .i64 0,.slice none 0 0,.int .i64 0,.int .i64 0,.slice none 0 0,.slice none 0 0,.slice none 0 0,.int .i64 0,.int .i64 0]) (by
  intro v hv
  repeat (rcases List.mem_cons.1 hv with e|hv;(subst e;rfl))
  cases hv)
 obtain ⟨x1,hx1⟩:∃x,x=(w1.alloc (.cells #[.int .i64 0,.int .i64 0,.int .i64 0,.int .i64 0,.int .u64 0,.int .i64 0,.int .i64 0,.int .i64 0,.int .i64 0,.int .i64 0,.slice none 0 0,.slice none 0 0,.int .i64 0,.slice none 0 0,.int .i64 0,.slice none 0 0,.slice none 0 0,.int .i64 0,.slice none 0 0,.int .i64 0,.int .i64 0,.slice none 0 0,.slice none 0 0,.slice none 0 0,.int .i64 0,.int .i64 0] 46)).setCells w1.heap.size 0 [.int .i64 1,.int .i64 1,.int .i64 1,.int .i64 0,.int .u64 0,.int .i64 0,.int .i64 0,.int .i64 3,.int .i64 0,.int .i64 0,.slice none 0 0,.slice none 0 0,.int .i64 0,.slice none 0 0,.int .i64 0,.slice none 0 0,.slice none 0 0,.int .i64 0,.slice none 0 0,.int .i64 0,.int .i64 0,.slice none 0 0,.slice none 0 0,.slice none 0 0,.int .i64 0,.int .i64 0]:=⟨_,rfl⟩
 have hr1:x1.heap[w1.heap.size]? =some (.cells #[.int .i64 1,.int .i64 1,.int .i64 1,.int .i64 0,.int .u64 0,.int .i64 0,.int .i64 0,.int .i64 3,.int .i64 0,.int .i64 0,.slice none 0 0,.slice none 0 0,.int .i64 0,.slice none 0 0,.int .i64 0,.slice none 0 0,.slice none 0 0,.int .i64 0,.slice none 0 0,.int .i64 0,.int .i64 0,.slice none 0 0,.slice none 0 0,.slice none 0 0,.int .i64 0,.int .i64 0] 46 (0,0)):=by
  rw [hx1]
  exact (setAll_row _ _ _ _ r2 rfl).trans rfl
 have hSx:Rd N x1 g b1 d1 (pl [0,0,0] (encTs []++(encW [[]]++(encW [[0]]++[])))):=by rw [hx1];exact rd_setAll (by omega) (by omega) _ _ _ (hS1.below hb2)
 have hKx:Kb g W x1:=by rw [hx1];exact kb_setAll hK1.size _ _ _ (kb_bel hK1 (hb2.mono hK1.size))
 have HTH:=Lib.hid hth
 have HONE:=Lib.hid hone
 have HC0:=Lib.hid (rint_ok (n:=0) (by unfold i64;omega) hSx (Lib.hid rfl))
 obtain ⟨C,hCe⟩:∃C,C=w1.heap.size:=⟨_,rfl⟩
 have hzW:W.heap.size≤w1.heap.size:=hK1.size
 have HK0:=Lib.hid hK0
 have HN0:=Lib.hid n0
 clear hth hone HC hK0 hK1 n0 hb2 r2 hS1
 go_upto_region 2 with (refine wpList_store_mid rfl 46 _ _ rfl w1.heap.size 0 #[.int .i64 1,.int .i64 1,.int .i64 1,.int .i64 0,.int .u64 0,.int .i64 0,.int .i64 0,.int .i64 3,.int .i64 0,.int .i64 0,.slice none 0 0,.slice none 0 0,.int .i64 0,.slice none 0 0,.int .i64 0,.slice none 0 0,.slice none 0 0,.int .i64 0,.slice none 0 0,.int .i64 0,.int .i64 0,.slice none 0 0,.slice none 0 0,.slice none 0 0,.int .i64 0,.int .i64 0] rfl rfl HTH.out (by kernel_rfl) HONE.out ?_;rw [show (#[.int .i64 1,.int .i64 1,.int .i64 1,.int .i64 0,.int .u64 0,.int .i64 0,.int .i64 0,.int .i64 3,.int .i64 0,.int .i64 0,.slice none 0 0,.slice none 0 0,.int .i64 0,.slice none 0 0,.int .i64 0,.slice none 0 0,.slice none 0 0,.int .i64 0,.slice none 0 0,.int .i64 0,.int .i64 0,.slice none 0 0,.slice none 0 0,.slice none 0 0,.int .i64 0,.int .i64 0]:Array Value).toList=[.int .i64 1,.int .i64 1,.int .i64 1,.int .i64 0,.int .u64 0,.int .i64 0,.int .i64 0,.int .i64 3,.int .i64 0,.int .i64 0,.slice none 0 0,.slice none 0 0,.int .i64 0,.slice none 0 0,.int .i64 0,.slice none 0 0,.slice none 0 0,.int .i64 0,.slice none 0 0,.int .i64 0,.int .i64 0,.slice none 0 0,.slice none 0 0,.slice none 0 0,.int .i64 0,.int .i64 0] from rfl,←hx1])
 clear hx1 HTH HONE
 rw [←hCe] at hr1 ⊢
 have hCw:W.heap.size≤C:=by omega
 have hCg:C≠g:=by omega
 have hCN:w.heap.size<C:=by omega
 have hzx:C<x1.heap.size:=(Array.getElem?_eq_some_iff.1 hr1).1
 clear hCe hz1 hgz hzW
 go_wp2_with fail
 refine (HC0.out).mono ?_
 rintro e y3 ⟨b3,d3,rfl,hS3,hK3⟩
 have r3:=(hK3.block C hzx (by simp;omega)).trans hr1
 have hKw3:=kb_trans hKx hK3
 have hzx3:C<y3.heap.size:=Nat.lt_of_lt_of_le hzx hK3.size
 clear hzx
 have hzx:=hzx3
 clear hzx3
 have ec:y3.cell? ⟨C,8,none⟩=some (.int .i64 0):=by rw [cell_of_row _ _ _ _ _ _ r3];rfl
 have ez:y3.frozen? ⟨C,8,none⟩=false:=frozen_of_row _ _ _ _ _ r3
 have ei:y3.setCell ⟨C,8,none⟩ (.int .i64 0)=y3:=setCell_id r3 rfl
 have HC1:=Lib.hid (rint_ok (n:=0) (by unfold i64;omega) hS3 (Lib.hid rfl))
 clear HC0
 go_wp2_with fail
 clear ec ez ei
 refine (HC1.out).mono ?_
 rintro e y4 ⟨b4,d4,rfl,hS4,hK4⟩
 have r4:=(hK4.block C hzx (by simp;omega)).trans r3
 have hKw4:=kb_trans hKw3 hK4
 have hzx4:C<y4.heap.size:=Nat.lt_of_lt_of_le hzx hK4.size
 clear hzx
 have hzx:=hzx4
 clear hzx4
 have ec:y4.cell? ⟨C,24,none⟩=some (.int .i64 0):=by rw [cell_of_row _ _ _ _ _ _ r4];rfl
 have ez:y4.frozen? ⟨C,24,none⟩=false:=frozen_of_row _ _ _ _ _ r4
 have ei:y4.setCell ⟨C,24,none⟩ (.int .i64 0)=y4:=setCell_id r4 rfl
 have HC2:=Lib.hid (rint_ok (n:=0) (by unfold i64;omega) hS4 (Lib.hid rfl))
 clear HC1
 go_wp2_with fail
 clear ec ez ei
 refine (HC2.out).mono ?_
 rintro e y5 ⟨b5,d5,rfl,hS5,hK5⟩
 have r5:=(hK5.block C hzx (by simp;omega)).trans r4
 have hKw5:=kb_trans hKw4 hK5
 have hzx5:C<y5.heap.size:=Nat.lt_of_lt_of_le hzx hK5.size
 clear hzx
 have hzx:=hzx5
 clear hzx5
 have ec:y5.cell? ⟨C,25,none⟩=some (.int .i64 0):=by rw [cell_of_row _ _ _ _ _ _ r5];rfl
 have ez:y5.frozen? ⟨C,25,none⟩=false:=frozen_of_row _ _ _ _ _ r5
 have ei:y5.setCell ⟨C,25,none⟩ (.int .i64 0)=y5:=setCell_id r5 rfl
 have HT:=Lib.hid (rtraces0 (w:=y5.drew) ⟨hS5.cell,hS5.sl.drew⟩)
 have r5d:y5.drew.heap[C]? =some (.cells #[.int .i64 1,.int .i64 1,.int .i64 1,.int .i64 0,.int .u64 0,.int .i64 0,.int .i64 0,.int .i64 3,.int .i64 0,.int .i64 0,.slice none 0 0,.slice none 0 0,.int .i64 0,.slice none 0 0,.int .i64 0,.slice none 0 0,.slice none 0 0,.int .i64 0,.slice none 0 0,.int .i64 0,.int .i64 0,.slice none 0 0,.slice none 0 0,.slice none 0 0,.int .i64 0,.int .i64 0] 46 (0,0)):=r5
 have cSd:y5.drew.cell? ⟨C,0,none⟩=some (.int .i64 1):=by rw [cell_of_row _ _ _ _ _ _ r5d];rfl
 have hzd:C<y5.drew.heap.size:=hzx
 clear HC2
 go_upto_region 5 with (fail)
 clear ec ez ei
 refine wp_region_L (fun w'=>w'.cell? ⟨C,0,none⟩=some (.int .i64 1)) [0,1,2,3,5,6] (by kernel_rfl) ?_
 refine skL_on [0,1,2,3] ?_
 repeat (refine skL_take (v:= ?_) rfl ?_ ?_;rotate_left;(focus (intro w' hSw;(try dsimp only at hSw);go_simp;try with_reducible rfl));try simp only [Act.put,List.setIfInBounds_toArray,List.set_cons_zero,List.set_cons_succ])
 refine skL_off ?_
 refine wpAnyL_one (i:=4) (by kernel_rfl) rfl rfl (fun K hK=> ?_)
 go_simp
 refine (HT.out).mono ?_
 rintro e y6 ⟨rfl,⟨b6,d6,hS6⟩,hK6⟩
 have r6:=(hK6.block C hzd (by simp;omega)).trans r5d
 have hKw6:Kb g W y6:=kb_trans (show Kb g W y5.drew from kb_bel hKw5 (Below.refl _ _).drew) hK6
 have c6:∀o,y6.cell? ⟨C,o,none⟩=(#[.int .i64 1,.int .i64 1,.int .i64 1,.int .i64 0,.int .u64 0,.int .i64 0,.int .i64 0,.int .i64 3,.int .i64 0,.int .i64 0,.slice none 0 0,.slice none 0 0,.int .i64 0,.slice none 0 0,.int .i64 0,.slice none 0 0,.slice none 0 0,.int .i64 0,.slice none 0 0,.int .i64 0,.int .i64 0,.slice none 0 0,.slice none 0 0,.slice none 0 0,.int .i64 0,.int .i64 0]:Array Value)[o]? :=fun o=>by rw [cell_of_row _ _ _ _ _ _ r6]
 have z6:∀o,y6.frozen? ⟨C,o,none⟩=false:=fun o=>frozen_of_row _ _ _ _ _ r6
 have c60:y6.cell? ⟨C,0,none⟩=some (.int .i64 1):=c6 0
 refine hK _ _ (fun _=>c60) ?_
 clear hK K HT cSd
 refine skL_on [5,6] ?_
 repeat (refine skL_take (v:= ?_) rfl ?_ ?_;rotate_left;(focus (intro w' hSw;(try dsimp only at hSw);go_simp;try with_reducible rfl));try simp only [Act.put,List.setIfInBounds_toArray,List.set_cons_zero,List.set_cons_succ])
 refine skL_off ?_
 refine wpAnyL_one (i:=7) (by kernel_rfl) rfl rfl (fun K hK=> ?_)
 go_simp
 obtain ⟨x7,hx7⟩:∃x,x=(y6.setCell ⟨C,17,none⟩ (.int .i64 1)).setCell ⟨C,18,none⟩ (.slice none 0 0):=⟨_,rfl⟩
 have r7:x7.heap[C]? =some (.cells #[.int .i64 1,.int .i64 1,.int .i64 1,.int .i64 0,.int .u64 0,.int .i64 0,.int .i64 0,.int .i64 3,.int .i64 0,.int .i64 0,.slice none 0 0,.slice none 0 0,.int .i64 0,.slice none 0 0,.int .i64 0,.slice none 0 0,.slice none 0 0,.int .i64 1,.slice none 0 0,.int .i64 0,.int .i64 0,.slice none 0 0,.slice none 0 0,.slice none 0 0,.int .i64 0,.int .i64 0] 46 (0,0)):=by rw [hx7];exact (heap_setCell_same _ _ _ _ _ _ (heap_setCell_same _ _ _ _ _ _ r6)).trans rfl
 have hS7:Rd N x7 g b6 d6 (encW [[]]++(encW [[0]]++[])):=by rw [hx7];exact (hS6.setO (p:=⟨C,17,none⟩) hCg (by show N≤C;omega) _).setO (p:=⟨C,18,none⟩) hCg (by show N≤C;omega) _
 have hK7:Kb g W x7:=by rw [hx7];exact kb_setN (kb_setN hKw6 (p:=⟨C,17,none⟩) hCw _) (p:=⟨C,18,none⟩) hCw _
 have c7:∀o,x7.cell? ⟨C,o,none⟩=(#[.int .i64 1,.int .i64 1,.int .i64 1,.int .i64 0,.int .u64 0,.int .i64 0,.int .i64 0,.int .i64 3,.int .i64 0,.int .i64 0,.slice none 0 0,.slice none 0 0,.int .i64 0,.slice none 0 0,.int .i64 0,.slice none 0 0,.slice none 0 0,.int .i64 1,.slice none 0 0,.int .i64 0,.int .i64 0,.slice none 0 0,.slice none 0 0,.slice none 0 0,.int .i64 0,.int .i64 0]:Array Value)[o]? :=fun o=>by rw [cell_of_row _ _ _ _ _ _ r7]
 rw [←hx7]
 clear hx7
 have c70:x7.cell? ⟨C,0,none⟩=some (.int .i64 1):=c7 0
 refine hK _ _ (fun _=>c70) ?_
 clear hK K c6 z6 c60 c70
 refine wpAnyL_done (by kernel_rfl) ?_ _
 have HL:=Lib.hid (rlearn1 hK7 hCw hCg r7 hS7 (by omega))
 go_wp2_with fail
 refine (HL.out).mono ?_
 rintro e y8 ⟨p,cp,q,cq,rfl,r8,hp8,hq8,⟨b8,d8,hS8⟩,hK8⟩
 have c8:∀o,y8.cell? ⟨C,o,none⟩=(#[.int .i64 1,.int .i64 1,.int .i64 1,.int .i64 0,.int .u64 0,.int .i64 0,.int .i64 0,.int .i64 3,.int .i64 0,.int .i64 1,.slice p 1 cp,.slice q 1 cq,.int .i64 0,.slice none 0 0,.int .i64 0,.slice none 0 0,.slice none 0 0,.int .i64 1,.slice none 0 0,.int .i64 0,.int .i64 0,.slice none 0 0,.slice none 0 0,.slice none 0 0,.int .i64 0,.int .i64 0]:Array Value)[o]? :=fun o=>by rw [cell_of_row _ _ _ _ _ _ r8]
 have n8:=(hK8.block w.heap.size hz0 (by simp;omega)).trans HN0.out
 have HE:=Lib.hid (rend_ok hS8)
 have hzx7:C<x7.heap.size:=(Array.getElem?_eq_some_iff.1 r7).1
 clear HL c7 r7 hS7 hK7 r6 hS6 hKw6 hK6
 go_wp2_with fail
 refine (HE.out).mono ?_
 rintro e y9 ⟨rfl,rfl⟩
 have hrg:y9.rangeAt C 0 [.int .i64 1,.int .i64 1,.int .i64 1,.int .i64 0,.int .u64 0,.int .i64 0,.int .i64 0,.int .i64 3,.int .i64 0,.int .i64 1,.slice p 1 cp,.slice q 1 cq,.int .i64 0,.slice none 0 0,.int .i64 0,.slice none 0 0,.slice none 0 0,.int .i64 1,.slice none 0 0,.int .i64 0,.int .i64 0,.slice none 0 0,.slice none 0 0,.slice none 0 0,.int .i64 0,.int .i64 0]:=fun j x hx=>by
  rw [Nat.zero_add,c8,←hx]
  exact List.getElem?_toArray
 have hth : y9.there w.heap.size 0 (#[.int .i64 1, .int .i64 1, .int .i64 1, .int .i64 0, .int .u64 0, .int .i64 0, .int .i64 0, .int .i64 3, .int .i64 0, .int .i64 1, .slice p 1 cp, .slice q 1 cq, .int .i64 0, .slice none 0 0, .int .i64 0, .slice none 0 0, .slice none 0 0, .int .i64 1, .slice none 0 0, .int .i64 0, .int .i64 0, .slice none 0 0, .slice none 0 0, .slice none 0 0, .int .i64 0, .int .i64 0] : Array Value).size := fun j hj => ⟨by
     have h8:j<26:=hj
     have hz8:(#[.int .i64 0,.int .i64 0,.int .i64 0,.int .i64 0,.int .u64 0,.int .i64 0,.int .i64 0,.int .i64 0,.int .i64 0,.int .i64 0,.slice none 0 0,.slice none 0 0,.int .i64 0,.slice none 0 0,.int .i64 0,.slice none 0 0,.slice none 0 0,.int .i64 0,.slice none 0 0,.int .i64 0,.int .i64 0,.slice none 0 0,.slice none 0 0,.slice none 0 0,.int .i64 0,.int .i64 0]:Array Value).size=26:=rfl
     rw [Nat.zero_add,cell_of_row _ _ _ _ _ _ n8,Array.getElem?_eq_getElem (by omega)];rfl,by rw [Nat.zero_add];exact frozen_of_row _ _ _ _ _ n8⟩
 have hone:(#[.int .i64 1,.int .i64 1,.int .i64 1,.int .i64 0,.int .u64 0,.int .i64 0,.int .i64 0,.int .i64 3,.int .i64 0,.int .i64 1,.slice p 1 cp,.slice q 1 cq,.int .i64 0,.slice none 0 0,.int .i64 0,.slice none 0 0,.slice none 0 0,.int .i64 1,.slice none 0 0,.int .i64 0,.int .i64 0,.slice none 0 0,.slice none 0 0,.slice none 0 0,.int .i64 0,.int .i64 0]:Array Value).all (·.oneCell')=true:=all_oneCell_toArray (cs:=[.int .i64 1,.int .i64 1,.int .i64 1,.int .i64 0,.int .u64 0,.int .i64 0,.int .i64 0,.int .i64 3,.int .i64 0,.int .i64 1,.slice p 1 cp,.slice q 1 cq,.int .i64 0,.slice none 0 0,.int .i64 0,.slice none 0 0,.slice none 0 0,.int .i64 1,.slice none 0 0,.int .i64 0,.int .i64 0,.slice none 0 0,.slice none 0 0,.slice none 0 0,.int .i64 0,.int .i64 0]) (by
  intro v hv
  repeat (rcases List.mem_cons.1 hv with e|hv;(subst e;rfl))
  cases hv)
 obtain ⟨u,hu⟩:∃u,u=y9.setCells w.heap.size 0 [.int .i64 1,.int .i64 1,.int .i64 1,.int .i64 0,.int .u64 0,.int .i64 0,.int .i64 0,.int .i64 3,.int .i64 0,.int .i64 1,.slice p 1 cp,.slice q 1 cq,.int .i64 0,.slice none 0 0,.int .i64 0,.slice none 0 0,.slice none 0 0,.int .i64 1,.slice none 0 0,.int .i64 0,.int .i64 0,.slice none 0 0,.slice none 0 0,.slice none 0 0,.int .i64 0,.int .i64 0]:=⟨_,rfl⟩
 have hur:u.heap[w.heap.size]? =some (.cells #[.int .i64 1,.int .i64 1,.int .i64 1,.int .i64 0,.int .u64 0,.int .i64 0,.int .i64 0,.int .i64 3,.int .i64 0,.int .i64 1,.slice p 1 cp,.slice q 1 cq,.int .i64 0,.slice none 0 0,.int .i64 0,.slice none 0 0,.slice none 0 0,.int .i64 1,.slice none 0 0,.int .i64 0,.int .i64 0,.slice none 0 0,.slice none 0 0,.slice none 0 0,.int .i64 0,.int .i64 0] 46 (0,0)):=by
  rw [hu]
  exact (setAll_row _ _ _ _ n8 rfl).trans rfl
 have hKu:Kb g w u:=by rw [hu];exact kb_setAll (Nat.le_refl _) _ _ _ (kb_trans HK0.out hK8)
 have hNx:w.heap.size<x7.heap.size:=by omega
 have hpu:Sl (fun k=>k<w.heap.size) u p cp ([[]]:List (List Int)):=by
  rw [hu];exact Sl.anti (M:=fun k=>k<x7.heap.size) (setAll_sl (M:=fun k=>k<x7.heap.size) hNx _ _ _ hp8) fun k _ hk=>by show k<_;have:k<w.heap.size:=hk;omega
 have hqu:Sl (fun k=>k<w.heap.size) u q cq ([[0]]:List (List Int)):=by
  rw [hu];exact Sl.anti (M:=fun k=>k<x7.heap.size) (setAll_sl (M:=fun k=>k<x7.heap.size) hNx _ _ _ hq8) fun k _ hk=>by show k<_;have:k<w.heap.size:=hk;omega
 have HRG:=Lib.hid hrg
 have HTH:=Lib.hid hth
 have HONE:=Lib.hid hone
 clear hrg hth hone n8 r8 hp8 hq8 hS8 HE c8
 go_wp2_with (first|refine wpList_load_mid rfl 46 _ rfl C 0 rfl [.int .i64 1,.int .i64 1,.int .i64 1,.int .i64 0,.int .u64 0,.int .i64 0,.int .i64 0,.int .i64 3,.int .i64 0,.int .i64 1,.slice p 1 cp,.slice q 1 cq,.int .i64 0,.slice none 0 0,.int .i64 0,.slice none 0 0,.slice none 0 0,.int .i64 1,.slice none 0 0,.int .i64 0,.int .i64 0,.slice none 0 0,.slice none 0 0,.slice none 0 0,.int .i64 0,.int .i64 0] _ HRG.out Tryz.underlying46 rfl (by kernel_rfl) ?_|(refine wpList_store_mid rfl 46 _ _ rfl w.heap.size 0 #[.int .i64 1,.int .i64 1,.int .i64 1,.int .i64 0,.int .u64 0,.int .i64 0,.int .i64 0,.int .i64 3,.int .i64 0,.int .i64 1,.slice p 1 cp,.slice q 1 cq,.int .i64 0,.slice none 0 0,.int .i64 0,.slice none 0 0,.slice none 0 0,.int .i64 1,.slice none 0 0,.int .i64 0,.int .i64 0,.slice none 0 0,.slice none 0 0,.slice none 0 0,.int .i64 0,.int .i64 0] rfl rfl HTH.out (by kernel_rfl) HONE.out ?_;rw [show (#[.int .i64 1,.int .i64 1,.int .i64 1,.int .i64 0,.int .u64 0,.int .i64 0,.int .i64 0,.int .i64 3,.int .i64 0,.int .i64 1,.slice p 1 cp,.slice q 1 cq,.int .i64 0,.slice none 0 0,.int .i64 0,.slice none 0 0,.slice none 0 0,.int .i64 1,.slice none 0 0,.int .i64 0,.int .i64 0,.slice none 0 0,.slice none 0 0,.slice none 0 0,.int .i64 0,.int .i64 0]:Array Value).toList=[.int .i64 1,.int .i64 1,.int .i64 1,.int .i64 0,.int .u64 0,.int .i64 0,.int .i64 0,.int .i64 3,.int .i64 0,.int .i64 1,.slice p 1 cp,.slice q 1 cq,.int .i64 0,.slice none 0 0,.int .i64 0,.slice none 0 0,.slice none 0 0,.int .i64 1,.slice none 0 0,.int .i64 0,.int .i64 0,.slice none 0 0,.slice none 0 0,.slice none 0 0,.int .i64 0,.int .i64 0] from rfl,←hu]))
 have hrv:u.rangeAt w.heap.size 0 [.int .i64 1,.int .i64 1,.int .i64 1,.int .i64 0,.int .u64 0,.int .i64 0,.int .i64 0,.int .i64 3,.int .i64 0,.int .i64 1,.slice p 1 cp,.slice q 1 cq,.int .i64 0,.slice none 0 0,.int .i64 0,.slice none 0 0,.slice none 0 0,.int .i64 1,.slice none 0 0,.int .i64 0,.int .i64 0,.slice none 0 0,.slice none 0 0,.slice none 0 0,.int .i64 0,.int .i64 0]:=fun j x hx=>by
  rw [Nat.zero_add,cell_of_row _ _ _ _ _ _ hur,←hx]
  exact List.getElem?_toArray
 have hld:=run_loadVar_mid (P:=Tryz.prog) u w.heap.size 0 46 [.int .i64 1,.int .i64 1,.int .i64 1,.int .i64 0,.int .u64 0,.int .i64 0,.int .i64 0,.int .i64 3,.int .i64 0,.int .i64 1,.slice p 1 cp,.slice q 1 cq,.int .i64 0,.slice none 0 0,.int .i64 0,.slice none 0 0,.slice none 0 0,.int .i64 1,.slice none 0 0,.int .i64 0,.int .i64 0,.slice none 0 0,.slice none 0 0,.slice none 0 0,.int .i64 0,.int .i64 0] _ hrv Tryz.underlying46 rfl (by kernel_rfl)
 exact bodyPost_ret (v:= .agg #[.int .i64 1,.int .i64 1,.int .i64 1,.int .i64 0,.int .u64 0,.int .i64 0,.int .i64 0,.int .i64 3,.int .i64 0,.int .i64 1,.slice p 1 cp,.slice q 1 cq,.int .i64 0,.slice none 0 0,.int .i64 0,.slice none 0 0,.slice none 0 0,.int .i64 1,.slice none 0 0,.int .i64 0,.int .i64 0,.slice none 0 0,.slice none 0 0,.slice none 0 0,.int .i64 0,.int .i64 0]) (results_c Tryz.results37 _ _ _ rfl hld) rfl ⟨_,_,_,_,rfl,hpu,hqu,hKu⟩
end
section
variable {w:World} {M:Nat→Prop} {a:Option Addr} {c:Nat}
theorem catchD_idle (p2 p3:Addr) (w:World):
    CallsD Tryz.prog 36 #[.pointer (some p2),.pointer (some p3)] .returning w fun e u' w'=>e= .returned (.tuple #[])∧u'= .returning∧Below w.heap.size w w':=by
 have hta:∀(xT:TypeId) (w:World),(Instr.typeAssert .nilIface xT 98 true).run Tryz.prog w= .ok (.tuple #[.agg #[.int .i64 0],.bool false]) w:=fun _ _=>by kernel_rfl
 refine callsD_of_wpS Tryz.func36 rfl fun c₀ cs hu=> ?_
 apply wpS_seq
 apply wpS_region
 simp [wpOpsS,go_sem,recoverD,hu,Tryz.ntmps36,Exit.thenS,hta,Act.put]
 apply wpS_seq
 apply wpS_region
 simp [wpOpsS,go_sem,Exit.thenS,Act.put]
 refine wpS_cond (t:=false) (by simp [Act.eval]) ?_
 simp only [Bool.false_eq_true,if_false]
 refine wpS_of_wp (wp_skip ?_)
 cases c₀
 simp_all [bodyPostS,results,Tryz.results36]
 exact (Below.refl _ _).alloc (Nat.le_refl _) _
theorem results_cc {fn:Func} {a b:Nat} {ty ty2:TypeId} (h:fn.results= #[.cell a ty,.cell b ty2]) (tmps:Array Value) (P:Program) (w:World) {x y:Addr} {v u:Value} (ha:tmps.getD a undef= .pointer (some x)) (hv:(loadVar ty x).run P w= .ok v w)
    (hb:tmps.getD b undef= .pointer (some y)) (hu:(loadVar ty2 y).run P w= .ok u w):(results fn tmps).run P w= .ok (.tuple #[v,u]) w:=by
 rw [Array.getD_eq_getD_getElem?] at ha hb
 simp [results,h,ha,hb,asAddr,hv,hu]
theorem dec1 {L:List By} (hs:Sl M w a c L) (hL:Hid (L=sealP crS4 1 cc1)):
    Calls Tryz.prog 10 #[.slice a L.length c] w fun e w'=>∃(p:Option Addr) (cp:Nat) (q:Option Addr) (cq:Nat),e= .returned (.tuple #[.agg #[.int .i64 1,.int .i64 1,.int .i64 1,.int .i64 0,.int .u64 0,.int .i64 0,.int .i64 0,.int .i64 3,.int .i64 0,.int .i64 1,.slice p 1 cp,.slice q 1 cq,.int .i64 0,.slice none 0 0,.int .i64 0,.slice none 0 0,.slice none 0 0,.int .i64 1,.slice none 0 0,.int .i64 0,.int .i64 0,.slice none 0 0,.slice none 0 0,.slice none 0 0,.int .i64 0,.int .i64 0],.int .i64 0])∧
     Sl (fun k=>k<w.heap.size) w' p cp ([[]]:List (List Int))∧Sl (fun k=>k<w.heap.size) w' q cq ([[0]]:List (List Int))∧Below w.heap.size w w':=by
 have ll:=hs.le
 obtain ⟨w2,hw2⟩:∃w2,w2=(w.alloc (.cells #[.int .i64 0,.int .i64 0,.int .i64 0,.int .i64 0,.int .u64 0,.int .i64 0,.int .i64 0,.int .i64 0,.int .i64 0,.int .i64 0,.slice none 0 0,.slice none 0 0,.int .i64 0,.slice none 0 0,.int .i64 0,.slice none 0 0,.slice none 0 0,.int .i64 0,.slice none 0 0,.int .i64 0,.int .i64 0,.slice none 0 0,.slice none 0 0,.slice none 0 0,.int .i64 0,.int .i64 0] 46)).alloc (.cells #[.int .i64 0] 44):=⟨_,rfl⟩
 have hB2:Below w.heap.size w w2:=by rw [hw2];(repeat' (first|with_reducible exact Below.refl _ _|with_reducible assumption|with_reducible refine bl_drewN ?_ _|with_reducible refine Below.drew ?_|with_reducible refine Below.alloc ?_ ?_ _|with_reducible refine Below.setCell ?_ ?_ _|omega|(simp;done)|(simp;omega)))
 have n2:w2.heap[w.heap.size]? =some (.cells #[.int .i64 0,.int .i64 0,.int .i64 0,.int .i64 0,.int .u64 0,.int .i64 0,.int .i64 0,.int .i64 0,.int .i64 0,.int .i64 0,.slice none 0 0,.slice none 0 0,.int .i64 0,.slice none 0 0,.int .i64 0,.slice none 0 0,.slice none 0 0,.int .i64 0,.slice none 0 0,.int .i64 0,.int .i64 0,.slice none 0 0,.slice none 0 0,.slice none 0 0,.int .i64 0,.int .i64 0] 46 (0,0)):=by rw [hw2];exact heap_old (heap_alloc_new _ _)
 have e2:w2.heap[w.heap.size+1]? =some (.cells #[.int .i64 0] 44 (0,0)):=by rw [hw2];exact heap_at (by simp)
 have hz2:w2.heap.size=w.heap.size+2:=by rw [hw2];simp
 have hcl:cc1.length<1000000000:=by have:=flatI_le nums1;have:=encTs0_le;have:=wlen1;have e:nums1.length=13:=rfl;unfold cc1;simp only [List.length_append];omega
 have hc:=open_ok (k:=1) (by omega) (cc:=cc1) hcl (hs.below hB2) (R:=[]) (by unfold Hid;rw [hL.out,List.append_nil])
 rw [←hL.out] at hc
 rw [hw2] at hc
 have HC:=Lib.hid hc
 have HW:=Lib.hid hw2
 have HZ:=Lib.hid hz2
 have hqq:((L.length:Int) !=(L.length:Int))=false:=by simp
 clear hc hw2 hs hz2
 go_enter_defers Tryz.func10,Tryz.ntmps10
 go_wp2_with fail
 refine (HC.out).mono ?_
 rintro e w5 ⟨a5,c5,l5,rfl,hl5,hO5,hb5⟩
 rw [←HW.out] at hb5 hO5
 have hlN:w.heap.size<w2.heap.size:=by have:=HZ.out;omega
 have hlE:w.heap.size+1<w2.heap.size:=by have:=HZ.out;omega
 have n5:=(hb5.block _ hlN).trans n2
 have e5:=(hb5.block _ hlE).trans e2
 have hB5:=hB2.trans (hb5.mono (by omega))
 have hz5:w2.heap.size≤w5.heap.size:=hb5.size
 have i5:w5.setCell ⟨w.heap.size+1,0,none⟩ (.int .i64 0)=w5:=setCell_id e5 rfl
 have f5:=(cell0 e5).1
 have z5:=(cell0 e5).2
 obtain ⟨wr,hwr⟩:∃wr,wr=w5.alloc (.cells #[.slice a5 l5.length c5] 101):=⟨_,rfl⟩
 have hbr:Below w5.heap.size w5 wr:=by rw [hwr];exact (Below.refl _ _).alloc (Nat.le_refl _) _
 have hRd:Rd w5.heap.size wr w5.heap.size a5 c5 l5:=⟨by rw [hwr];exact heap_alloc_new _ _,(hO5.slB (M:=fun k=>k=w5.heap.size∨w5.heap.size≤k) (fun k hk=> .inr (by omega))).below hbr⟩
 rw [hl5.out] at hRd
 have hc2:=rses1 hRd (by rw [hwr];simp)
 have nr:=(hbr.block _ (by omega)).trans n5
 have er:=(hbr.block _ (by omega)).trans e5
 have hBr:=hB5.trans (hbr.mono (by omega))
 have hzr:w5.heap.size<wr.heap.size:=by rw [hwr];simp
 rw [hwr] at hc2
 have HC2:=Lib.hid hc2
 have HWR:=Lib.hid hwr
 clear HC hl5 hO5 hb5 hRd hc2 hbr hwr n2 e2 hB2 HW
 go_wp2_with fail
 refine (HC2.out).mono ?_
 rintro e w8 ⟨p,cp,q,cq,rfl,hp8,hq8,hK8⟩
 rw [←HWR.out] at hp8 hq8 hK8
 have n8:=(hK8.block w.heap.size (by omega) (by simp;omega)).trans nr
 have e8:=(hK8.block (w.heap.size+1) (by omega) (by simp;omega)).trans er
 have hB8:=hBr.trans (kb_below hK8 (B:=w.heap.size) (by omega) (by omega))
 have hNr:w.heap.size<wr.heap.size:=by omega
 have hone:(#[.int .i64 1,.int .i64 1,.int .i64 1,.int .i64 0,.int .u64 0,.int .i64 0,.int .i64 0,.int .i64 3,.int .i64 0,.int .i64 1,.slice p 1 cp,.slice q 1 cq,.int .i64 0,.slice none 0 0,.int .i64 0,.slice none 0 0,.slice none 0 0,.int .i64 1,.slice none 0 0,.int .i64 0,.int .i64 0,.slice none 0 0,.slice none 0 0,.slice none 0 0,.int .i64 0,.int .i64 0]:Array Value).all (·.oneCell')=true:=all_oneCell_toArray (cs:=[.int .i64 1,.int .i64 1,.int .i64 1,.int .i64 0,.int .u64 0,.int .i64 0,.int .i64 0,.int .i64 3,.int .i64 0,.int .i64 1,.slice p 1 cp,.slice q 1 cq,.int .i64 0,.slice none 0 0,.int .i64 0,.slice none 0 0,.slice none 0 0,.int .i64 1,.slice none 0 0,.int .i64 0,.int .i64 0,.slice none 0 0,.slice none 0 0,.slice none 0 0,.int .i64 0,.int .i64 0]) (by
  intro v hv
  repeat (rcases List.mem_cons.1 hv with e|hv;(subst e;rfl))
  cases hv)
 have hth : w8.there w.heap.size 0 (#[.int .i64 1, .int .i64 1, .int .i64 1, .int .i64 0, .int .u64 0, .int .i64 0, .int .i64 0, .int .i64 3, .int .i64 0, .int .i64 1, .slice p 1 cp, .slice q 1 cq, .int .i64 0, .slice none 0 0, .int .i64 0, .slice none 0 0, .slice none 0 0, .int .i64 1, .slice none 0 0, .int .i64 0, .int .i64 0, .slice none 0 0, .slice none 0 0, .slice none 0 0, .int .i64 0, .int .i64 0] : Array Value).size := fun j hj => ⟨by
     have h8:j<26:=hj
     have hz8:(#[.int .i64 0,.int .i64 0,.int .i64 0,.int .i64 0,.int .u64 0,.int .i64 0,.int .i64 0,.int .i64 0,.int .i64 0,.int .i64 0,.slice none 0 0,.slice none 0 0,.int .i64 0,.slice none 0 0,.int .i64 0,.slice none 0 0,.slice none 0 0,.int .i64 0,.slice none 0 0,.int .i64 0,.int .i64 0,.slice none 0 0,.slice none 0 0,.slice none 0 0,.int .i64 0,.int .i64 0]:Array Value).size=26:=rfl
     rw [Nat.zero_add,cell_of_row _ _ _ _ _ _ n8,Array.getElem?_eq_getElem (by omega)];rfl,by rw [Nat.zero_add];exact frozen_of_row _ _ _ _ _ n8⟩
 obtain ⟨x,hx⟩:∃x,x=w8.setCells w.heap.size 0 [.int .i64 1,.int .i64 1,.int .i64 1,.int .i64 0,.int .u64 0,.int .i64 0,.int .i64 0,.int .i64 3,.int .i64 0,.int .i64 1,.slice p 1 cp,.slice q 1 cq,.int .i64 0,.slice none 0 0,.int .i64 0,.slice none 0 0,.slice none 0 0,.int .i64 1,.slice none 0 0,.int .i64 0,.int .i64 0,.slice none 0 0,.slice none 0 0,.slice none 0 0,.int .i64 0,.int .i64 0]:=⟨_,rfl⟩
 have nx:x.heap[w.heap.size]? =some (.cells #[.int .i64 1,.int .i64 1,.int .i64 1,.int .i64 0,.int .u64 0,.int .i64 0,.int .i64 0,.int .i64 3,.int .i64 0,.int .i64 1,.slice p 1 cp,.slice q 1 cq,.int .i64 0,.slice none 0 0,.int .i64 0,.slice none 0 0,.slice none 0 0,.int .i64 1,.slice none 0 0,.int .i64 0,.int .i64 0,.slice none 0 0,.slice none 0 0,.slice none 0 0,.int .i64 0,.int .i64 0] 46 (0,0)):=by rw [hx];exact (setAll_row _ _ _ _ n8 rfl).trans rfl
 have ex:x.heap[w.heap.size+1]? =some (.cells #[.int .i64 0] 44 (0,0)):=by rw [hx];exact (setAll_old (by omega) _ _ _).trans e8
 have hBx:Below w.heap.size w x:=by rw [hx];exact setAll_below (Nat.le_refl _) _ _ _ hB8
 have hpx:Sl (fun k=>k≤w.heap.size+1) x p cp ([[]]:List (List Int)):=by
  rw [hx];exact Sl.anti (M:=fun k=>k<wr.heap.size) (setAll_sl (M:=fun k=>k<wr.heap.size) hNr _ _ _ hp8) fun k _ hk=>by show k<_;have:k≤w.heap.size+1:=hk;omega
 have hqx:Sl (fun k=>k≤w.heap.size+1) x q cq ([[0]]:List (List Int)):=by
  rw [hx];exact Sl.anti (M:=fun k=>k<wr.heap.size) (setAll_sl (M:=fun k=>k<wr.heap.size) hNr _ _ _ hq8) fun k _ hk=>by show k<_;have:k≤w.heap.size+1:=hk;omega
 have HTH:=Lib.hid hth
 have HONE:=Lib.hid hone
 have HV:=Lib.hid (svalid1 hpx hqx)
 have HPX:=Lib.hid hpx
 have HQX:=Lib.hid hqx
 clear HC2 hp8 hq8 hK8 n8 e8 hB8 hth hone hBr nr er hpx hqx i5 f5 z5 n5 e5 hB5
 go_upto_region 11 with (refine wpList_store_mid rfl 46 _ _ rfl w.heap.size 0 #[.int .i64 1,.int .i64 1,.int .i64 1,.int .i64 0,.int .u64 0,.int .i64 0,.int .i64 0,.int .i64 3,.int .i64 0,.int .i64 1,.slice p 1 cp,.slice q 1 cq,.int .i64 0,.slice none 0 0,.int .i64 0,.slice none 0 0,.slice none 0 0,.int .i64 1,.slice none 0 0,.int .i64 0,.int .i64 0,.slice none 0 0,.slice none 0 0,.slice none 0 0,.int .i64 0,.int .i64 0] rfl rfl HTH.out (by kernel_rfl) HONE.out ?_;rw [show (#[.int .i64 1,.int .i64 1,.int .i64 1,.int .i64 0,.int .u64 0,.int .i64 0,.int .i64 0,.int .i64 3,.int .i64 0,.int .i64 1,.slice p 1 cp,.slice q 1 cq,.int .i64 0,.slice none 0 0,.int .i64 0,.slice none 0 0,.slice none 0 0,.int .i64 1,.slice none 0 0,.int .i64 0,.int .i64 0,.slice none 0 0,.slice none 0 0,.slice none 0 0,.int .i64 0,.int .i64 0]:Array Value).toList=[.int .i64 1,.int .i64 1,.int .i64 1,.int .i64 0,.int .u64 0,.int .i64 0,.int .i64 0,.int .i64 3,.int .i64 0,.int .i64 1,.slice p 1 cp,.slice q 1 cq,.int .i64 0,.slice none 0 0,.int .i64 0,.slice none 0 0,.slice none 0 0,.int .i64 1,.slice none 0 0,.int .i64 0,.int .i64 0,.slice none 0 0,.slice none 0 0,.slice none 0 0,.int .i64 0,.int .i64 0] from rfl,←hx])
 clear HTH hx
 have hrx:x.rangeAt w.heap.size 0 [.int .i64 1,.int .i64 1,.int .i64 1,.int .i64 0,.int .u64 0,.int .i64 0,.int .i64 0,.int .i64 3,.int .i64 0,.int .i64 1,.slice p 1 cp,.slice q 1 cq,.int .i64 0,.slice none 0 0,.int .i64 0,.slice none 0 0,.slice none 0 0,.int .i64 1,.slice none 0 0,.int .i64 0,.int .i64 0,.slice none 0 0,.slice none 0 0,.slice none 0 0,.int .i64 0,.int .i64 0]:=fun j y hy=>by
  rw [Nat.zero_add,cell_of_row _ _ _ _ _ _ nx,←hy]
  exact List.getElem?_toArray
 have HRX:=Lib.hid hrx
 clear hrx
 have hzx:w.heap.size+1<x.heap.size:=(Array.getElem?_eq_some_iff.1 ex).1
 go_wp2_with (refine wpList_load_mid rfl 46 _ rfl w.heap.size 0 rfl [.int .i64 1,.int .i64 1,.int .i64 1,.int .i64 0,.int .u64 0,.int .i64 0,.int .i64 0,.int .i64 3,.int .i64 0,.int .i64 1,.slice p 1 cp,.slice q 1 cq,.int .i64 0,.slice none 0 0,.int .i64 0,.slice none 0 0,.slice none 0 0,.int .i64 1,.slice none 0 0,.int .i64 0,.int .i64 0,.slice none 0 0,.slice none 0 0,.slice none 0 0,.int .i64 0,.int .i64 0] _ HRX.out Tryz.underlying46 rfl (by kernel_rfl) ?_)
 refine (HV.out).mono ?_
 rintro e y ⟨rfl,hby⟩
 have ny:=(hby.block _ (by omega)).trans nx
 have ey:=(hby.block _ hzx).trans ex
 have hBy:=hBx.trans (hby.mono hBx.size)
 have HPY:=Lib.hid (HPX.out.below hby)
 have HQY:=Lib.hid (HQX.out.below hby)
 have hry:y.rangeAt w.heap.size 0 [.int .i64 1,.int .i64 1,.int .i64 1,.int .i64 0,.int .u64 0,.int .i64 0,.int .i64 0,.int .i64 3,.int .i64 0,.int .i64 1,.slice p 1 cp,.slice q 1 cq,.int .i64 0,.slice none 0 0,.int .i64 0,.slice none 0 0,.slice none 0 0,.int .i64 1,.slice none 0 0,.int .i64 0,.int .i64 0,.slice none 0 0,.slice none 0 0,.slice none 0 0,.int .i64 0,.int .i64 0]:=fun j z hz=>by
  rw [Nat.zero_add,cell_of_row _ _ _ _ _ _ ny,←hz]
  exact List.getElem?_toArray
 have hty : y.there w.heap.size 0 (#[.int .i64 1, .int .i64 1, .int .i64 1, .int .i64 0, .int .u64 0, .int .i64 0, .int .i64 0, .int .i64 3, .int .i64 0, .int .i64 1, .slice p 1 cp, .slice q 1 cq, .int .i64 0, .slice none 0 0, .int .i64 0, .slice none 0 0, .slice none 0 0, .int .i64 1, .slice none 0 0, .int .i64 0, .int .i64 0, .slice none 0 0, .slice none 0 0, .slice none 0 0, .int .i64 0, .int .i64 0] : Array Value).size := fun j hj => ⟨by
     rw [Nat.zero_add,cell_of_row _ _ _ _ _ _ ny,Array.getElem?_eq_getElem hj];rfl,by rw [Nat.zero_add];exact frozen_of_row _ _ _ _ _ ny⟩
 obtain ⟨u,hu⟩:∃u,u=y.setCells w.heap.size 0 [.int .i64 1,.int .i64 1,.int .i64 1,.int .i64 0,.int .u64 0,.int .i64 0,.int .i64 0,.int .i64 3,.int .i64 0,.int .i64 1,.slice p 1 cp,.slice q 1 cq,.int .i64 0,.slice none 0 0,.int .i64 0,.slice none 0 0,.slice none 0 0,.int .i64 1,.slice none 0 0,.int .i64 0,.int .i64 0,.slice none 0 0,.slice none 0 0,.slice none 0 0,.int .i64 0,.int .i64 0]:=⟨_,rfl⟩
 have nu:u.heap[w.heap.size]? =some (.cells #[.int .i64 1,.int .i64 1,.int .i64 1,.int .i64 0,.int .u64 0,.int .i64 0,.int .i64 0,.int .i64 3,.int .i64 0,.int .i64 1,.slice p 1 cp,.slice q 1 cq,.int .i64 0,.slice none 0 0,.int .i64 0,.slice none 0 0,.slice none 0 0,.int .i64 1,.slice none 0 0,.int .i64 0,.int .i64 0,.slice none 0 0,.slice none 0 0,.slice none 0 0,.int .i64 0,.int .i64 0] 46 (0,0)):=by rw [hu];exact (setAll_row _ _ _ _ ny rfl).trans rfl
 have eu:u.heap[w.heap.size+1]? =some (.cells #[.int .i64 0] 44 (0,0)):=by rw [hu];exact (setAll_old (by omega) _ _ _).trans ey
 have hBu:Below w.heap.size w u:=by rw [hu];exact setAll_below (Nat.le_refl _) _ _ _ hBy
 have hpu:Sl (fun k=>k<w.heap.size) u p cp ([[]]:List (List Int)):=by
  rw [hu];exact Sl.anti (M:=fun k=>k≤w.heap.size+1) (setAll_sl (M:=fun k=>k≤w.heap.size+1) (by show _≤_;omega) _ _ _ HPY.out) fun k _ hk=>by show k≤_;have:k<w.heap.size:=hk;omega
 have hqu:Sl (fun k=>k<w.heap.size) u q cq ([[0]]:List (List Int)):=by
  rw [hu];exact Sl.anti (M:=fun k=>k≤w.heap.size+1) (setAll_sl (M:=fun k=>k≤w.heap.size+1) (by show _≤_;omega) _ _ _ HQY.out) fun k _ hk=>by show k≤_;have:k<w.heap.size:=hk;omega
 have HRY:=Lib.hid hry
 have HTY:=Lib.hid hty
 have iu:u.setCell ⟨w.heap.size+1,0,none⟩ (.int .i64 0)=u:=setCell_id eu rfl
 have fu:=(cell0 eu).1
 have zu:=(cell0 eu).2
 clear hry hty ny ey hBy hby HV HPX HQX HPY HQY nx ex hBx HRX
 go_wp2_with (first|refine wpList_load_mid rfl 46 _ rfl w.heap.size 0 rfl [.int .i64 1,.int .i64 1,.int .i64 1,.int .i64 0,.int .u64 0,.int .i64 0,.int .i64 0,.int .i64 3,.int .i64 0,.int .i64 1,.slice p 1 cp,.slice q 1 cq,.int .i64 0,.slice none 0 0,.int .i64 0,.slice none 0 0,.slice none 0 0,.int .i64 1,.slice none 0 0,.int .i64 0,.int .i64 0,.slice none 0 0,.slice none 0 0,.slice none 0 0,.int .i64 0,.int .i64 0] _ HRY.out Tryz.underlying46 rfl (by kernel_rfl) ?_|(refine wpList_store_mid rfl 46 _ _ rfl w.heap.size 0 #[.int .i64 1,.int .i64 1,.int .i64 1,.int .i64 0,.int .u64 0,.int .i64 0,.int .i64 0,.int .i64 3,.int .i64 0,.int .i64 1,.slice p 1 cp,.slice q 1 cq,.int .i64 0,.slice none 0 0,.int .i64 0,.slice none 0 0,.slice none 0 0,.int .i64 1,.slice none 0 0,.int .i64 0,.int .i64 0,.slice none 0 0,.slice none 0 0,.slice none 0 0,.int .i64 0,.int .i64 0] rfl rfl HTY.out (by kernel_rfl) HONE.out ?_;rw [show (#[.int .i64 1,.int .i64 1,.int .i64 1,.int .i64 0,.int .u64 0,.int .i64 0,.int .i64 0,.int .i64 3,.int .i64 0,.int .i64 1,.slice p 1 cp,.slice q 1 cq,.int .i64 0,.slice none 0 0,.int .i64 0,.slice none 0 0,.slice none 0 0,.int .i64 1,.slice none 0 0,.int .i64 0,.int .i64 0,.slice none 0 0,.slice none 0 0,.slice none 0 0,.int .i64 0,.int .i64 0]:Array Value).toList=[.int .i64 1,.int .i64 1,.int .i64 1,.int .i64 0,.int .u64 0,.int .i64 0,.int .i64 0,.int .i64 3,.int .i64 0,.int .i64 1,.slice p 1 cp,.slice q 1 cq,.int .i64 0,.slice none 0 0,.int .i64 0,.slice none 0 0,.slice none 0 0,.int .i64 1,.slice none 0 0,.int .i64 0,.int .i64 0,.slice none 0 0,.slice none 0 0,.slice none 0 0,.int .i64 0,.int .i64 0] from rfl,←hu];clear HRY HTY HONE hu))
 have hru:u.rangeAt w.heap.size 0 [.int .i64 1,.int .i64 1,.int .i64 1,.int .i64 0,.int .u64 0,.int .i64 0,.int .i64 0,.int .i64 3,.int .i64 0,.int .i64 1,.slice p 1 cp,.slice q 1 cq,.int .i64 0,.slice none 0 0,.int .i64 0,.slice none 0 0,.slice none 0 0,.int .i64 1,.slice none 0 0,.int .i64 0,.int .i64 0,.slice none 0 0,.slice none 0 0,.slice none 0 0,.int .i64 0,.int .i64 0]:=fun j z hz=>by
  rw [Nat.zero_add,cell_of_row _ _ _ _ _ _ nu,←hz]
  exact List.getElem?_toArray
 refine leaves_cons (f:=36) (args:= #[.pointer (some ⟨w.heap.size,0,none⟩),.pointer (some ⟨w.heap.size+1,0,none⟩)]) (by simp) (by simp [go_sem]) ?_
 refine (catchD_idle _ _ _).mono ?_
 rintro e u' w'' ⟨rfl,rfl,hb⟩
 have nw:=(hb.block _ (Array.getElem?_eq_some_iff.1 nu).1).trans nu
 have ew:=(hb.block _ (Array.getElem?_eq_some_iff.1 eu).1).trans eu
 have hrw:w''.rangeAt w.heap.size 0 [.int .i64 1,.int .i64 1,.int .i64 1,.int .i64 0,.int .u64 0,.int .i64 0,.int .i64 0,.int .i64 3,.int .i64 0,.int .i64 1,.slice p 1 cp,.slice q 1 cq,.int .i64 0,.slice none 0 0,.int .i64 0,.slice none 0 0,.slice none 0 0,.int .i64 1,.slice none 0 0,.int .i64 0,.int .i64 0,.slice none 0 0,.slice none 0 0,.slice none 0 0,.int .i64 0,.int .i64 0]:=fun j z hz=>by
  rw [Nat.zero_add,cell_of_row _ _ _ _ _ _ nw,←hz]
  exact List.getElem?_toArray
 have hld:=run_loadVar_mid (P:=Tryz.prog) w'' w.heap.size 0 46 [.int .i64 1,.int .i64 1,.int .i64 1,.int .i64 0,.int .u64 0,.int .i64 0,.int .i64 0,.int .i64 3,.int .i64 0,.int .i64 1,.slice p 1 cp,.slice q 1 cq,.int .i64 0,.slice none 0 0,.int .i64 0,.slice none 0 0,.slice none 0 0,.int .i64 1,.slice none 0 0,.int .i64 0,.int .i64 0,.slice none 0 0,.slice none 0 0,.slice none 0 0,.int .i64 0,.int .i64 0] _ hrw Tryz.underlying46 rfl (by kernel_rfl)
 have hpw:=hpu.below hb
 have hqw:=hqu.below hb
 have hBw:=hBu.trans (hb.mono hBu.size)
 have c0:=(cell0 ew).1
 have heu:(loadVar 44 ⟨w.heap.size+1,0,none⟩).run Tryz.prog w''= .ok (.int .i64 0) w'':=by simp [go_sem,c0]
 exact ⟨.tuple #[.agg #[.int .i64 1,.int .i64 1,.int .i64 1,.int .i64 0,.int .u64 0,.int .i64 0,.int .i64 0,.int .i64 3,.int .i64 0,.int .i64 1,.slice p 1 cp,.slice q 1 cq,.int .i64 0,.slice none 0 0,.int .i64 0,.slice none 0 0,.slice none 0 0,.int .i64 1,.slice none 0 0,.int .i64 0,.int .i64 0,.slice none 0 0,.slice none 0 0,.slice none 0 0,.int .i64 0,.int .i64 0],.int .i64 0],results_cc Tryz.results10 _ _ _ rfl hld rfl heu,⟨p,cp,q,cq,rfl,hpw,hqw,hBw⟩⟩
end
end Go.Proofs.YtlmfbjiejodalaaGreatDoor
