/- Several texts, one behind the other. Conditions: as each of them says. -/
import Derived.Test.YtlmfbjiejodalaaGreatDoorMx30
import Derived.Test.YtlmfbjiejodalaaGreatDoorMx23
set_option maxRecDepth 100000
set_option maxHeartbeats 32000000
namespace Go.Proofs.YtlmfbjiejodalaaGreatDoor
open Go.RowKit
section
variable {w:World} {M M':Nat→Prop} {p q:Option Addr} {cp cq:Nat}
theorem max1:maxW [[0],[0,0]]=([[0,0]]:List (List Int)):=by decide
theorem needed1 (hp:Sl M w p cp ([[]]:List (List Int))) (hq:Sl M' w q cq ([[0]]:List (List Int))):
    Calls Tryz.prog 217 #[tb1 p cp q cq,ob1] w fun e w'=>∃(a:Option Addr) (c:Nat),e= .returned (.tuple #[.slice a 1 c,.int .i64 0])∧Below w.heap.size w w':=by
 obtain ⟨W,hW⟩:∃W,W=(w.alloc (.cells #[.int .i64 1,.slice p 1 cp,.slice q 1 cq] 29)).alloc (.cells #[.int .i64 1,.slice none 0 0] 39):=⟨_,rfl⟩
 have hB:Below w.heap.size w W:=by rw [hW];(repeat' (first|with_reducible exact Below.refl _ _|with_reducible assumption|with_reducible refine bl_drewN ?_ _|with_reducible refine Below.drew ?_|with_reducible refine Below.alloc ?_ ?_ _|with_reducible refine Below.setCell ?_ ?_ _|omega|(simp;done)|(simp;omega)))
 have hz:w.heap.size+2≤W.heap.size:=by rw [hW];simp
 have hz2:Hid (W.heap.size=w.heap.size+2):=by unfold Hid;rw [hW];simp
 have h0:W.heap[w.heap.size]? =some (.cells #[.int .i64 1,.slice p 1 cp,.slice q 1 cq] 29 (0,0)):=by rw [hW];(repeat (first|(refine heap_at ?_;(simp;done))|refine heap_old ?_))
 have h1:W.heap[w.heap.size+1]? =some (.cells #[.int .i64 1,.slice none 0 0] 39 (0,0)):=by rw [hW];(repeat (first|(refine heap_at ?_;(simp;done))|refine heap_old ?_))
 obtain ⟨b0,o0,p1,t,d1,rfl,e1,ht,s1⟩:=hp.at_row (show 0<([[]]:List (List Int)).length by simp)
 obtain rfl:t=[]:=by have:=ht.out;simpa using this.symm
 rw [Nat.add_zero] at e1
 have l1:=cell_lt e1
 have HC:=Lib.hid (tcheck1 (hp.below hB) (hq.below hB))
 have HQ:=Lib.hid (hq.anti (M':=fun k=>w.heap.size≤k) fun k hk hm=>absurd hk (by omega))
 have S1:=Lib.hid s1
 have hbx:w.alloc (.cells #[.int .i64 1,.slice (some ⟨b0,o0,none⟩) 1 cp,.slice q 1 cq] 29)=w.alloc (.cells #[.int .i64 1,.slice (some ⟨b0,o0,none⟩) 1 cp,.slice q 1 cq] 29):=rfl
 clear hp hq ht s1 hbx
 go_enter Tryz.func217,Tryz.ntmps217
 go_wp2_with fail
 rw [←hW]
 refine (HC.out).mono ?_
 rintro e w1 ⟨rfl,hb1⟩
 have c1:∀o,w1.cell? ⟨w.heap.size+1,o,none⟩=(#[.int .i64 1,.slice none 0 0]:Array Value)[o]? :=fun o=>by rw [cell_of_row _ _ _ _ _ _ ((hb1.block _ (by omega)).trans h1)]
 have k1:=(hb1.block _ (by omega)).trans h0
 have hB1:=hB.trans (hb1.mono (by omega))
 have hz1:w.heap.size+2≤w1.heap.size:=by have:=hb1.size;omega
 clear hW hB hz hz2 h0 h1 HC hb1
 go_wp2_with fail
 refine (tfind1 _).mono ?_
 rintro e w2 ⟨rfl,hb2⟩
 have k2:=(hb2.block _ (by omega)).trans k1
 have hB2:=hB1.trans (hb2.mono (by omega))
 have hz2:w.heap.size+2≤w2.heap.size:=by have:=hb2.size;omega
 clear c1 k1 hB1 hz1 hb2
 obtain ⟨W3,hW3⟩:∃W3,W3=(w2.alloc (.cells #[.slice none 0 0] 288)).alloc (.cells #[.slice none 0 0] 27):=⟨_,rfl⟩
 have hB3:Below w.heap.size w W3:=by rw [hW3];(repeat' (first|with_reducible exact Below.refl _ _|with_reducible assumption|with_reducible refine bl_drewN ?_ _|with_reducible refine Below.drew ?_|with_reducible refine Below.alloc ?_ ?_ _|with_reducible refine Below.setCell ?_ ?_ _|omega|(simp;done)|(simp;omega)))
 have hA3:Ask w.heap.size w2.heap.size W3 (some ⟨b0,o0,none⟩) cp q cq []:=by
  rw [hW3]
  refine ⟨heap_old (heap_old k2),heap_old (heap_alloc_new _ _),⟨none,0,?_,Ox.nil⟩,by simp,by omega⟩
  exact heap_at (by simp)
 have kc:=(cells3 hA3.t).1.2.1
 rw [hW3] at kc
 go_wp2
 rw [←hW3]
 clear hW3 kc k2 hB2
 have hF:w.heap.size+2≤w2.heap.size:=hz2
 obtain ⟨F,hFe⟩:∃F,F=w2.heap.size:=⟨_,rfl⟩
 rw [←hFe] at hA3 hF ⊢
 clear hFe hz2
 have HA3:=Lib.hid hA3
 have HB3:=Lib.hid hB3
 clear hA3 hB3
 go_loopw [25] (fun i wr=>(i= .int .i64 0∧wr=W3)∨(i= .int .i64 1∧Hid (Ask w.heap.size F wr (some ⟨b0,o0,none⟩) cp q cq [[0],[0,0]]∧Below w.heap.size w wr))) (fun i _=>1-(intOf i).toNat)
 case atStart=>exact .inl ⟨rfl,rfl⟩
 case round=>
  obtain ⟨wo,rfl⟩:∃wo:World,wo=wr:=⟨_,rfl⟩
  rcases hrel with ⟨rfl,rfl⟩|⟨rfl,hH⟩
  ·have r1:=(HB3.out.cell (p:=⟨b0,o0,none⟩) l1).trans e1
   have HC:=Lib.hid (ask1 (l:=[]) (L:=[]) HA3.out (S1.out.below HB3.out) ((HQ.out.below HB3.out).anti fun k _ hk=>by show w.heap.size≤k;omega) (by simp) (by simp))
   go_wp2_with fail
   refine (HC.out).mono ?_
   rintro e w4 ⟨rfl,hA4,hb4⟩
   have hB4:=HB3.out.trans (hb4.mono (by omega))
   have t4:=(cells3 hA4.t).1.1
   have HA4:=Lib.hid hA4
   have HB4:=Lib.hid hB4
   clear r1 HC hA4 hb4 hB4
   go_wp2
   go_loopw [34] (fun i wr=>(i= .int .i64 0∧wr=w4)∨(i= .int .i64 1∧Hid (Ask w.heap.size F wr (some ⟨b0,o0,none⟩) cp q cq [[0],[0,0]]∧Below w.heap.size w wr))) (fun i _=>1-(intOf i).toNat)
   case atStart=>exact .inl ⟨rfl,rfl⟩
   case round=>
    obtain ⟨w5,rfl⟩:∃w5:World,w5=wr:=⟨_,rfl⟩
    rcases hrel with ⟨rfl,rfl⟩|⟨rfl,hH⟩
    ·have HX:=Lib.hid (extended0 (S1.out.below HB4.out) (by simp))
     clear t4
     go_wp2_with fail
     refine (HX.out).mono ?_
     rintro e w6 ⟨a6,c6,l6,rfl,hl6,hs6,hb6⟩
     have hB6:=HB4.out.trans (hb6.mono HB4.out.size)
     have hl6n:l6.length<1000:=by rw [hl6.out];simp
     have HC:=Lib.hid (ask1 (L:=[[0]]) (HA4.out.below hb6) hs6 ((HQ.out.below hB6).anti fun k _ hk=>by show w.heap.size≤k;omega) hl6n (by simp))
     go_wp2_with fail
     refine (HC.out).mono ?_
     rintro e w7 ⟨rfl,hA7,hb7⟩
     have HH:Hid (Ask w.heap.size F w7 (some ⟨b0,o0,none⟩) cp q cq [[0],[0,0]]∧Below w.heap.size w w7):=⟨by rw [hl6.out] at hA7;exact hA7,hB6.trans (hb7.mono (by omega))⟩
     clear HX HC hl6 hs6 hb6 hB6 hA7 hb7
     go_wp2
     go_roundw
     case rel=>exact .inr ⟨by go_num,HH⟩
     case measure=>simp [intOf]
    clear t4
    go_wp2
    go_roundw
    case rel=>exact .inr ⟨by go_num,hH⟩
    case measure=>simp [intOf]
  obtain ⟨a8,c8,hx8,hO8⟩:=hH.out.1.o
  have f8:wo.cell? ⟨F+1,0,none⟩=some (.slice a8 2 c8):=by rw [cell_of_row _ _ _ _ _ _ hx8];rfl
  have HM:=Lib.hid (max_any (l:=[[0],[0,0]]) (hO8.toSl (Nat.le_refl _)) (Lib.hid ⟨by decide,fun r hr=>by simp at hr;rcases hr with rfl|rfl<;>decide⟩))
  have hB8:=hH.out.2
  clear hx8 hO8 hH
  go_wp2_with fail
  refine (HM.out).mono ?_
  rintro e w9 ⟨a9,c9,L9,rfl,hL9,hs9,hb9⟩
  have hB9:=hB8.trans (hb9.mono hB8.size)
  obtain rfl:L9=[[0,0]]:=by rw [hL9.out];exact max1
  clear HM hL9 hs9 hb9 hB8 f8
  go_wp2
  go_ret2
  exact ⟨a9,c9,rfl,hB9⟩
end
section
variable {w:World} {M M':Nat→Prop} {p q:Option Addr} {cp cq:Nat}
theorem step1 (hp:Sl M w p cp ([[]]:List (List Int))) (hq:Sl M' w q cq ([[0]]:List (List Int))):
    Calls Tryz.prog 171 #[tb1 p cp q cq,ob1] w fun e w'=>∃(a:Option Addr) (c:Nat),e= .returned (.tuple #[tb1 p cp q cq,.slice a 1 c,.bool false,.int .i64 0])∧Below w.heap.size w w':=by
 obtain ⟨W,hW⟩:∃W,W=((w.alloc (.cells #[.int .i64 1,.slice p 1 cp,.slice q 1 cq] 29)).alloc (.cells #[.int .i64 1,.slice none 0 0] 39)).alloc (.cells #[.int .i64 0,.slice none 0 0,.slice none 0 0] 29):=⟨_,rfl⟩
 have hB:Below w.heap.size w W:=by rw [hW];(repeat' (first|with_reducible exact Below.refl _ _|with_reducible assumption|with_reducible refine bl_drewN ?_ _|with_reducible refine Below.drew ?_|with_reducible refine Below.alloc ?_ ?_ _|with_reducible refine Below.setCell ?_ ?_ _|omega|(simp;done)|(simp;omega)))
 have hz:w.heap.size+3≤W.heap.size:=by rw [hW];simp
 have h0:W.heap[w.heap.size]? =some (.cells #[.int .i64 1,.slice p 1 cp,.slice q 1 cq] 29 (0,0)):=by rw [hW];(repeat (first|(refine heap_at ?_;(simp;done))|refine heap_old ?_))
 have h2:W.heap[w.heap.size+1+1]? =some (.cells #[.int .i64 0,.slice none 0 0,.slice none 0 0] 29 (0,0)):=by rw [hW];(repeat (first|(refine heap_at ?_;(simp;done))|refine heap_old ?_))
 have HC:=Lib.hid (needed1 (hp.below hB) (hq.below hB))
 clear hp hq
 go_enter Tryz.func171,Tryz.ntmps171
 go_wp2_with fail
 rw [←hW]
 refine (HC.out).mono ?_
 rintro e w1 ⟨a1,c1,rfl,hb1⟩
 have k0:=(cells3 ((hb1.block _ (by omega)).trans h0)).1
 have g2:=(hb1.block _ (by omega)).trans h2
 have hB1:=hB.trans (hb1.mono (by omega))
 obtain ⟨k00,k01,k02⟩:=k0
 obtain ⟨⟨j0,j1,j2⟩,jz⟩:=cells3 g2
 have G2:=Lib.hid g2
 clear hW hB hz h0 h2 HC hb1 g2
 obtain ⟨u,hu⟩:∃u,u=((w1.setCell ⟨w.heap.size+1+1,0,none⟩ (.int .i64 1)).setCell ⟨w.heap.size+1+1,1,none⟩ (.slice p 1 cp)).setCell ⟨w.heap.size+1+1,2,none⟩ (.slice q 1 cq):=⟨_,rfl⟩
 have hur:u.heap[w.heap.size+1+1]? =some (.cells #[.int .i64 1,.slice p 1 cp,.slice q 1 cq] 29 (0,0)):=by rw [hu];exact set3 G2.out
 have hb:Below w.heap.size w u:=by rw [hu];exact ((hB1.setCell (p:=⟨w.heap.size+1+1,0,none⟩) (by simp;omega) _).setCell (p:=⟨w.heap.size+1+1,1,none⟩) (by simp;omega) _).setCell (p:=⟨w.heap.size+1+1,2,none⟩) (by simp;omega) _
 clear hB1 G2
 go_wp2
 rw [←hu]
 obtain ⟨d0,d1,d2⟩:=(cells3 hur).1
 exact bodyPost_ret (v:= .tuple #[tb1 p cp q cq,.slice a1 1 c1,.bool false,.int .i64 0]) (by simp [results,Tryz.results171,go_sem,d0,d1,d2]) rfl ⟨_,_,rfl,hb⟩
end
end Go.Proofs.YtlmfbjiejodalaaGreatDoor
