/- Several texts, one behind the other. Conditions: as each of them says. -/
import Derived.Test.YtjmbphjgiodioaaGreatDoorMv25
import Derived.IntWalk
set_option maxRecDepth 100000
set_option maxHeartbeats 32000000
namespace Go.Proofs.YtjmbphjgiodioaaGreatDoor
open Go.RowKit
abbrev Tc (w:World) (b o:Nat) (a1:Option Addr) (c1:Nat) (a2:Option Addr) (c2:Nat) (t:Tr):Prop:=w.cell? ⟨b,o,none⟩=some (.slice a1 t.inn.length c1)∧w.cell? ⟨b,o+1,none⟩=some (.slice a2 t.out.length c2)
theorem Tc.below {B b o:Nat} {w w':World} {a1 a2:Option Addr} {c1 c2:Nat} {t:Tr} (h:Tc w b o a1 c1 a2 c2 t) (hb:Below B w w') (hlt:b<B):Tc w' b o a1 c1 a2 c2 t:=
 ⟨(hb.cell (p:=⟨b,o,none⟩) hlt).trans h.1,(hb.cell (p:=⟨b,o+1,none⟩) hlt).trans h.2⟩
section
variable {M M':Nat→Prop} {w:World} {a b:Option Addr} {c d:Nat}
theorem apartR_any {o:Ob} (ho:Os M w a c o) (hl:Hid o.lens):
    Calls Tryz.prog 79 #[obV o a c] w fun e w'=>e= .returned (.int .i64 (o.apsErr o.traces.length))∧Below w.heap.size w w':=by
 have hol:=ho.traces.le
 have hB0:=(Below.refl w.heap.size w).alloc (Nat.le_refl _) (obO o a c)
 have HO:=Lib.hid ho
 have hx0:O2 (w.alloc (obO o a c)) w.heap.size a c o:=o2_new w
 have hz0:w.heap.size+1≤(w.alloc (obO o a c)).heap.size:=by simp
 clear ho
 go_enter Tryz.func79,Tryz.ntmps79
 go_wp2
 generalize w.alloc (obO o a c)=w0 at*
 go_loopw [3] (fun i wr=>∃k:Nat,k≤o.traces.length∧i= .int .i64 k∧Hid (o.apsErr k=0)∧O2 wr w.heap.size a c o∧Below w.heap.size w wr∧w.heap.size+1≤wr.heap.size) (fun i _=>o.traces.length-(intOf i).toNat)
 case atStart=>exact ⟨0,by omega,rfl,rfl,hx0,hB0,hz0⟩
 case round=>
  clear hx0 hB0 hz0
  obtain ⟨i,hi,rfl,hE,hx,hB,hz⟩:=hrel
  obtain ⟨w1,rfl⟩:∃w1:World,w1=wr:=⟨_,rfl⟩
  by_cases hlt:i<o.traces.length
  ·have hP0:Hid (false=o.preB i (i+1)):=(o.preB_low (Nat.le_refl _)).symm
   have hQ0:Hid (false=o.claB i (i+1)):=(o.claB_low (Nat.le_refl _)).symm
   go_wp2
   go_loopw [4,5,6] (fun p q k wr=>∃(j:Nat) (pb qb:Bool),i<j∧j≤o.traces.length∧k= .int .i64 j∧p= .bool pb∧q= .bool qb∧Hid (pb=o.preB i j)∧Hid (qb=o.claB i j)∧O2 wr w.heap.size a c o∧Below w.heap.size w wr∧w.heap.size+1≤wr.heap.size) (fun _ _ k _=>o.traces.length-(intOf k).toNat)
   case atStart=>exact ⟨i+1,false,false,by omega,by omega,by go_num,rfl,rfl,hP0,hQ0,hx,hB,hz⟩
   case round=>
    clear hx hB hz hP0 hQ0
    obtain ⟨j,pb,qb,hij,hj,rfl,rfl,rfl,hP,hQ,hx,hB,hz⟩:=hrel
    obtain ⟨w2,rfl⟩:∃w2:World,w2=wr:=⟨_,rfl⟩
    by_cases hjl:j<o.traces.length
    ·obtain ⟨b1,o1,a1,c1,a2,c2,s,rfl,hc1,hc2,hs,hs1,hs2⟩:=(HO.out.below hB).traces.at_tr hlt
     obtain ⟨b3,o3,a3,c3,a4,c4,t,he3,hc3,hc4,ht,ht1,ht2⟩:=(HO.out.below hB).traces.at_tr hjl
     obtain ⟨rfl,rfl⟩:b1=b3∧o1=o3:=by simpa using he3
     have hSS:O2 w2 w.heap.size (some ⟨b1,o1,none⟩) c o∧Tc w2 b1 (o1+i*2) a1 c1 a2 c2 s∧Tc w2 b1 (o1+j*2) a3 c3 a4 c4 t:=⟨hx,⟨hc1,hc2⟩,⟨hc3,hc4⟩⟩
     have hbl:=lt_of_cell hc1
     have HP2:Hid (o.preB i (j+1)=(pb||hasP t.inn s.inn)):=by
      unfold Hid;rw [Ob.preB_succ,←hP.out,decide_eq_true hij,Bool.true_and,Ob.tr_of hs.out,Ob.tr_of ht.out]
     have HQ2:Hid (o.claB i (j+1)=(qb||decide (0≤s.dif t))):=by
      unfold Hid;rw [Ob.claB_succ,←hQ.out,decide_eq_true hij,Bool.true_and,Ob.tr_of hs.out,Ob.tr_of ht.out]
     have hls:=Lib.hid (And.intro (hl.out s (List.mem_of_getElem? hs.out)).1 (hl.out t (List.mem_of_getElem? ht.out)).1)
     have H1:=Lib.hid (And.intro hs1 hs2)
     have H2:=Lib.hid (And.intro ht1 ht2)
     clear hx hc1 hc2 hc3 hc4 hs1 hs2 ht1 ht2 hP hQ hs ht he3
     go_wp2
     refine wp_region_L (fun w'=>O2 w' w.heap.size (some ⟨b1,o1,none⟩) c o∧Tc w' b1 (o1+i*2) a1 c1 a2 c2 s∧Tc w' b1 (o1+j*2) a3 c3 a4 c4 t) [0,1,2,3,4,5,6,7,8,9,10,11,12,13,15,16] (by kernel_rfl) ?_
     have hSd:O2 w2.drew w.heap.size (some ⟨b1,o1,none⟩) c o∧Tc w2.drew b1 (o1+i*2) a1 c1 a2 c2 s∧Tc w2.drew b1 (o1+j*2) a3 c3 a4 c4 t:=⟨hSS.1.below (Below.refl w2.heap.size w2).drew (by omega),hSS.2.1.below (Below.refl w2.heap.size w2).drew hbl,hSS.2.2.below (Below.refl w2.heap.size w2).drew hbl⟩
     have hBd:=hB.drew
     have H1:=Lib.hid (And.intro (H1.out.1.drew) (H1.out.2.drew))
     have H2:=Lib.hid (And.intro (H2.out.1.drew) (H2.out.2.drew))
     have hzd:w.heap.size+1≤w2.drew.heap.size:=hz
     have hbd:b1<w2.drew.heap.size:=hbl
     clear hSS hB hz hbl
     generalize w2.drew=w3 at*
     rcases pb with _|_
     ·have HC:=Lib.hid (haspR_is H2.out.1 H1.out.1 rfl)
      refine skL_on [0,1,2,3,4,5,6,7,8,9,10,11,12,13] ?_
      repeat (refine skL_take (v:= ?_) rfl ?_ ?_;rotate_left;(focus (intro w' hSw;(try dsimp only at hSw);go_simp;try with_reducible rfl));try simp only [Act.put,List.setIfInBounds_toArray,List.set_cons_zero,List.set_cons_succ])
      refine skL_off ?_
      refine wpAnyL_one (i:=14) (by kernel_rfl) rfl rfl (fun K hK=> ?_)
      go_simp
      refine (HC.out).mono ?_
      rintro e w4 ⟨rfl,hb4⟩
      have hS4:O2 w4 w.heap.size (some ⟨b1,o1,none⟩) c o∧Tc w4 b1 (o1+i*2) a1 c1 a2 c2 s∧Tc w4 b1 (o1+j*2) a3 c3 a4 c4 t:=⟨hSd.1.below hb4 (by omega),hSd.2.1.below hb4 hbd,hSd.2.2.below hb4 hbd⟩
      refine hK _ _ (fun _=>hS4) ?_
      clear hK K
      refine skL_on [15,16] ?_
      repeat (refine skL_take (v:= ?_) rfl ?_ ?_;rotate_left;(focus (intro w' hSw;(try dsimp only at hSw);go_simp;try with_reducible rfl));try simp only [Act.put,List.setIfInBounds_toArray,List.set_cons_zero,List.set_cons_succ])
      refine skL_off ?_
      refine wpAnyL_done (by kernel_rfl) ?_ _
      have HP3:Hid (o.preB i (j+1)=hasP t.inn s.inn):=by unfold Hid;rw [HP2.out,Bool.false_or]
      have hB4:=hBd.trans (hb4.mono (by omega))
      have H1:=Lib.hid (And.intro (H1.out.1.below hb4) (H1.out.2.below hb4))
      have H2:=Lib.hid (And.intro (H2.out.1.below hb4) (H2.out.2.below hb4))
      have hz4:w.heap.size+1≤w4.heap.size:=by have:=hb4.size;omega
      have hbl:b1<w4.heap.size:=by have:=hb4.size;omega
      clear HC hSd hBd hzd hbd hb4 HP2
      go_wp2
      refine wp_region_L (fun w'=>O2 w' w.heap.size (some ⟨b1,o1,none⟩) c o∧Tc w' b1 (o1+i*2) a1 c1 a2 c2 s∧Tc w' b1 (o1+j*2) a3 c3 a4 c4 t) [0,1,2,3,4,5,6,7,8,9,10,11,13,14,15] (by kernel_rfl) ?_
      have hSd:O2 w4.drew w.heap.size (some ⟨b1,o1,none⟩) c o∧Tc w4.drew b1 (o1+i*2) a1 c1 a2 c2 s∧Tc w4.drew b1 (o1+j*2) a3 c3 a4 c4 t:=⟨hS4.1.below (Below.refl w4.heap.size w4).drew (by omega),hS4.2.1.below (Below.refl w4.heap.size w4).drew hbl,hS4.2.2.below (Below.refl w4.heap.size w4).drew hbl⟩
      have hBd:=hB4.drew
      have H1:=Lib.hid (And.intro (H1.out.1.drew) (H1.out.2.drew))
      have H2:=Lib.hid (And.intro (H2.out.1.drew) (H2.out.2.drew))
      have hzd:w.heap.size+1≤w4.drew.heap.size:=hz4
      have hbd:b1<w4.drew.heap.size:=hbl
      clear hS4 hB4 hz4 hbl
      generalize w4.drew=w5 at*
      rcases qb with _|_
      ·have HC:=Lib.hid (difR_any H1.out.1 H1.out.2 H2.out.1 H2.out.2 hls)
       refine skL_on [0,1,2,3,4,5,6,7,8,9,10,11] ?_
       repeat (refine skL_take (v:= ?_) rfl ?_ ?_;rotate_left;(focus (intro w' hSw;(try dsimp only at hSw);go_simp;try with_reducible rfl));try simp only [Act.put,List.setIfInBounds_toArray,List.set_cons_zero,List.set_cons_succ])
       refine skL_off ?_
       refine wpAnyL_one (i:=12) (by kernel_rfl) rfl rfl (fun K hK=> ?_)
       go_simp
       refine (HC.out).mono ?_
       rintro e w6 ⟨rfl,hb6⟩
       have hS6:O2 w6 w.heap.size (some ⟨b1,o1,none⟩) c o∧Tc w6 b1 (o1+i*2) a1 c1 a2 c2 s∧Tc w6 b1 (o1+j*2) a3 c3 a4 c4 t:=⟨hSd.1.below hb6 (by omega),hSd.2.1.below hb6 hbd,hSd.2.2.below hb6 hbd⟩
       refine hK _ _ (fun _=>hS6) ?_
       clear hK K
       refine skL_on [13,14,15] ?_
       repeat (refine skL_take (v:= ?_) rfl ?_ ?_;rotate_left;(focus (intro w' hSw;(try dsimp only at hSw);go_simp;try with_reducible rfl));try simp only [Act.put,List.setIfInBounds_toArray,List.set_cons_zero,List.set_cons_succ])
       refine skL_off ?_
       refine wpAnyL_done (by kernel_rfl) ?_ _
       have HQ3:Hid (decide (0≤s.dif t)=o.claB i (j+1)):=by unfold Hid;rw [HQ2.out,Bool.false_or]
       have hB6:=hBd.trans (hb6.mono (by omega))
       have hz6:w.heap.size+1≤w6.heap.size:=by have:=hb6.size;omega
       clear HC hSd hBd hzd hbd hb6 HQ2
       go_wp2
       go_roundw
       case rel=>exact ⟨j+1,_,_,by omega,by omega,by go_num,rfl,rfl,HP3.out.symm,HQ3,hS6.1,hB6,hz6⟩
       case measure=>simp [intOf];omega
      have HQ3:Hid (true=o.claB i (j+1)):=by unfold Hid;rw [HQ2.out,Bool.true_or]
      clear HQ2
      refine skL_on [0,1] ?_
      repeat (refine skL_take (v:= ?_) rfl ?_ ?_;rotate_left;(focus (intro w' hSw;(try dsimp only at hSw);go_simp;try with_reducible rfl));try simp only [Act.put,List.setIfInBounds_toArray,List.set_cons_zero,List.set_cons_succ])
      refine skL_off ?_
      refine wpAnyL_take (i:=2) (v:=undef) rfl (by kernel_rfl) (by kernel_rfl) (by kernel_rfl) (by kernel_rfl) (fun _ _ _ h=>h) (Or.inr ⟨by rfl,rfl⟩) (by assumption) ?_
      try simp only [Act.put,List.setIfInBounds_toArray,List.set_cons_zero,List.set_cons_succ]
      refine wpAnyL_take (i:=3) (v:=undef) rfl (by kernel_rfl) (by kernel_rfl) (by kernel_rfl) (by kernel_rfl) (fun _ _ _ h=>h) (Or.inr ⟨by rfl,rfl⟩) (by assumption) ?_
      try simp only [Act.put,List.setIfInBounds_toArray,List.set_cons_zero,List.set_cons_succ]
      refine wpAnyL_take (i:=4) (v:=undef) rfl (by kernel_rfl) (by kernel_rfl) (by kernel_rfl) (by kernel_rfl) (fun _ _ _ h=>h) (Or.inr ⟨by rfl,rfl⟩) (by assumption) ?_
      try simp only [Act.put,List.setIfInBounds_toArray,List.set_cons_zero,List.set_cons_succ]
      refine wpAnyL_take (i:=5) (v:=undef) rfl (by kernel_rfl) (by kernel_rfl) (by kernel_rfl) (by kernel_rfl) (fun _ _ _ h=>h) (Or.inr ⟨by rfl,rfl⟩) (by assumption) ?_
      try simp only [Act.put,List.setIfInBounds_toArray,List.set_cons_zero,List.set_cons_succ]
      refine wpAnyL_take (i:=6) (v:=undef) rfl (by kernel_rfl) (by kernel_rfl) (by kernel_rfl) (by kernel_rfl) (fun _ _ _ h=>h) (Or.inr ⟨by rfl,rfl⟩) (by assumption) ?_
      try simp only [Act.put,List.setIfInBounds_toArray,List.set_cons_zero,List.set_cons_succ]
      refine wpAnyL_take (i:=7) (v:=undef) rfl (by kernel_rfl) (by kernel_rfl) (by kernel_rfl) (by kernel_rfl) (fun _ _ _ h=>h) (Or.inr ⟨by rfl,rfl⟩) (by assumption) ?_
      try simp only [Act.put,List.setIfInBounds_toArray,List.set_cons_zero,List.set_cons_succ]
      refine wpAnyL_take (i:=8) (v:=undef) rfl (by kernel_rfl) (by kernel_rfl) (by kernel_rfl) (by kernel_rfl) (fun _ _ _ h=>h) (Or.inr ⟨by rfl,rfl⟩) (by assumption) ?_
      try simp only [Act.put,List.setIfInBounds_toArray,List.set_cons_zero,List.set_cons_succ]
      refine wpAnyL_take (i:=9) (v:=undef) rfl (by kernel_rfl) (by kernel_rfl) (by kernel_rfl) (by kernel_rfl) (fun _ _ _ h=>h) (Or.inr ⟨by rfl,rfl⟩) (by assumption) ?_
      try simp only [Act.put,List.setIfInBounds_toArray,List.set_cons_zero,List.set_cons_succ]
      refine wpAnyL_take (i:=10) (v:=undef) rfl (by kernel_rfl) (by kernel_rfl) (by kernel_rfl) (by kernel_rfl) (fun _ _ _ h=>h) (Or.inr ⟨by rfl,rfl⟩) (by assumption) ?_
      try simp only [Act.put,List.setIfInBounds_toArray,List.set_cons_zero,List.set_cons_succ]
      refine wpAnyL_take (i:=11) (v:=undef) rfl (by kernel_rfl) (by kernel_rfl) (by kernel_rfl) (by kernel_rfl) (fun _ _ _ h=>h) (Or.inr ⟨by rfl,rfl⟩) (by assumption) ?_
      try simp only [Act.put,List.setIfInBounds_toArray,List.set_cons_zero,List.set_cons_succ]
      refine wpAnyL_skip (i:=12) (by kernel_rfl) rfl rfl (by assumption) ?_
      try simp only [Act.put,List.setIfInBounds_toArray,List.set_cons_zero,List.set_cons_succ]
      refine wpAnyL_skip (i:=13) (by kernel_rfl) rfl rfl (by assumption) ?_
      try simp only [Act.put,List.setIfInBounds_toArray,List.set_cons_zero,List.set_cons_succ]
      refine skL_on [14,15] ?_
      repeat (refine skL_take (v:= ?_) rfl ?_ ?_;rotate_left;(focus (intro w' hSw;(try dsimp only at hSw);go_simp;try with_reducible rfl));try simp only [Act.put,List.setIfInBounds_toArray,List.set_cons_zero,List.set_cons_succ])
      refine skL_off ?_
      refine wpAnyL_done (by kernel_rfl) ?_ _
      go_wp2
      go_roundw
      case rel=>exact ⟨j+1,_,_,by omega,by omega,by go_num,rfl,rfl,HP3.out.symm,HQ3,hSd.1,hBd,hzd⟩
      case measure=>simp [intOf];omega
     have HP3:Hid (o.preB i (j+1)=true):=by unfold Hid;rw [HP2.out,Bool.true_or]
     clear HP2
     refine skL_on [0,1] ?_
     repeat (refine skL_take (v:= ?_) rfl ?_ ?_;rotate_left;(focus (intro w' hSw;(try dsimp only at hSw);go_simp;try with_reducible rfl));try simp only [Act.put,List.setIfInBounds_toArray,List.set_cons_zero,List.set_cons_succ])
     refine skL_off ?_
     refine wpAnyL_take (i:=2) (v:=undef) rfl (by kernel_rfl) (by kernel_rfl) (by kernel_rfl) (by kernel_rfl) (fun _ _ _ h=>h) (Or.inr ⟨by rfl,rfl⟩) (by assumption) ?_
     try simp only [Act.put,List.setIfInBounds_toArray,List.set_cons_zero,List.set_cons_succ]
     refine wpAnyL_take (i:=3) (v:=undef) rfl (by kernel_rfl) (by kernel_rfl) (by kernel_rfl) (by kernel_rfl) (fun _ _ _ h=>h) (Or.inr ⟨by rfl,rfl⟩) (by assumption) ?_
     try simp only [Act.put,List.setIfInBounds_toArray,List.set_cons_zero,List.set_cons_succ]
     refine wpAnyL_take (i:=4) (v:=undef) rfl (by kernel_rfl) (by kernel_rfl) (by kernel_rfl) (by kernel_rfl) (fun _ _ _ h=>h) (Or.inr ⟨by rfl,rfl⟩) (by assumption) ?_
     try simp only [Act.put,List.setIfInBounds_toArray,List.set_cons_zero,List.set_cons_succ]
     refine wpAnyL_take (i:=5) (v:=undef) rfl (by kernel_rfl) (by kernel_rfl) (by kernel_rfl) (by kernel_rfl) (fun _ _ _ h=>h) (Or.inr ⟨by rfl,rfl⟩) (by assumption) ?_
     try simp only [Act.put,List.setIfInBounds_toArray,List.set_cons_zero,List.set_cons_succ]
     refine wpAnyL_take (i:=6) (v:=undef) rfl (by kernel_rfl) (by kernel_rfl) (by kernel_rfl) (by kernel_rfl) (fun _ _ _ h=>h) (Or.inr ⟨by rfl,rfl⟩) (by assumption) ?_
     try simp only [Act.put,List.setIfInBounds_toArray,List.set_cons_zero,List.set_cons_succ]
     refine wpAnyL_take (i:=7) (v:=undef) rfl (by kernel_rfl) (by kernel_rfl) (by kernel_rfl) (by kernel_rfl) (fun _ _ _ h=>h) (Or.inr ⟨by rfl,rfl⟩) (by assumption) ?_
     try simp only [Act.put,List.setIfInBounds_toArray,List.set_cons_zero,List.set_cons_succ]
     refine wpAnyL_take (i:=8) (v:=undef) rfl (by kernel_rfl) (by kernel_rfl) (by kernel_rfl) (by kernel_rfl) (fun _ _ _ h=>h) (Or.inr ⟨by rfl,rfl⟩) (by assumption) ?_
     try simp only [Act.put,List.setIfInBounds_toArray,List.set_cons_zero,List.set_cons_succ]
     refine wpAnyL_take (i:=9) (v:=undef) rfl (by kernel_rfl) (by kernel_rfl) (by kernel_rfl) (by kernel_rfl) (fun _ _ _ h=>h) (Or.inr ⟨by rfl,rfl⟩) (by assumption) ?_
     try simp only [Act.put,List.setIfInBounds_toArray,List.set_cons_zero,List.set_cons_succ]
     refine wpAnyL_take (i:=10) (v:=undef) rfl (by kernel_rfl) (by kernel_rfl) (by kernel_rfl) (by kernel_rfl) (fun _ _ _ h=>h) (Or.inr ⟨by rfl,rfl⟩) (by assumption) ?_
     try simp only [Act.put,List.setIfInBounds_toArray,List.set_cons_zero,List.set_cons_succ]
     refine wpAnyL_take (i:=11) (v:=undef) rfl (by kernel_rfl) (by kernel_rfl) (by kernel_rfl) (by kernel_rfl) (fun _ _ _ h=>h) (Or.inr ⟨by rfl,rfl⟩) (by assumption) ?_
     try simp only [Act.put,List.setIfInBounds_toArray,List.set_cons_zero,List.set_cons_succ]
     refine wpAnyL_take (i:=12) (v:=undef) rfl (by kernel_rfl) (by kernel_rfl) (by kernel_rfl) (by kernel_rfl) (fun _ _ _ h=>h) (Or.inr ⟨by rfl,rfl⟩) (by assumption) ?_
     try simp only [Act.put,List.setIfInBounds_toArray,List.set_cons_zero,List.set_cons_succ]
     refine wpAnyL_take (i:=13) (v:=undef) rfl (by kernel_rfl) (by kernel_rfl) (by kernel_rfl) (by kernel_rfl) (fun _ _ _ h=>h) (Or.inr ⟨by rfl,rfl⟩) (by assumption) ?_
     try simp only [Act.put,List.setIfInBounds_toArray,List.set_cons_zero,List.set_cons_succ]
     refine wpAnyL_skip (i:=14) (by kernel_rfl) rfl rfl (by assumption) ?_
     try simp only [Act.put,List.setIfInBounds_toArray,List.set_cons_zero,List.set_cons_succ]
     refine skL_on [15,16] ?_
     repeat (refine skL_take (v:= ?_) rfl ?_ ?_;rotate_left;(focus (intro w' hSw;(try dsimp only at hSw);go_simp;try with_reducible rfl));try simp only [Act.put,List.setIfInBounds_toArray,List.set_cons_zero,List.set_cons_succ])
     refine skL_off ?_
     refine wpAnyL_done (by kernel_rfl) ?_ _
     have hS4:=hSd
     have hB4:=hBd
     have hz4:=hzd
     have hbl:=hbd
     clear hSd hBd hzd hbd
     generalize w3=w4 at*
     go_wp2
     refine wp_region_L (fun w'=>O2 w' w.heap.size (some ⟨b1,o1,none⟩) c o∧Tc w' b1 (o1+i*2) a1 c1 a2 c2 s∧Tc w' b1 (o1+j*2) a3 c3 a4 c4 t) [0,1,2,3,4,5,6,7,8,9,10,11,13,14,15] (by kernel_rfl) ?_
     have hSd:O2 w4.drew w.heap.size (some ⟨b1,o1,none⟩) c o∧Tc w4.drew b1 (o1+i*2) a1 c1 a2 c2 s∧Tc w4.drew b1 (o1+j*2) a3 c3 a4 c4 t:=⟨hS4.1.below (Below.refl w4.heap.size w4).drew (by omega),hS4.2.1.below (Below.refl w4.heap.size w4).drew hbl,hS4.2.2.below (Below.refl w4.heap.size w4).drew hbl⟩
     have hBd:=hB4.drew
     have H1:=Lib.hid (And.intro (H1.out.1.drew) (H1.out.2.drew))
     have H2:=Lib.hid (And.intro (H2.out.1.drew) (H2.out.2.drew))
     have hzd:w.heap.size+1≤w4.drew.heap.size:=hz4
     have hbd:b1<w4.drew.heap.size:=hbl
     clear hS4 hB4 hz4 hbl
     generalize w4.drew=w5 at*
     rcases qb with _|_
     ·have HC:=Lib.hid (difR_any H1.out.1 H1.out.2 H2.out.1 H2.out.2 hls)
      refine skL_on [0,1,2,3,4,5,6,7,8,9,10,11] ?_
      repeat (refine skL_take (v:= ?_) rfl ?_ ?_;rotate_left;(focus (intro w' hSw;(try dsimp only at hSw);go_simp;try with_reducible rfl));try simp only [Act.put,List.setIfInBounds_toArray,List.set_cons_zero,List.set_cons_succ])
      refine skL_off ?_
      refine wpAnyL_one (i:=12) (by kernel_rfl) rfl rfl (fun K hK=> ?_)
      go_simp
      refine (HC.out).mono ?_
      rintro e w6 ⟨rfl,hb6⟩
      have hS6:O2 w6 w.heap.size (some ⟨b1,o1,none⟩) c o∧Tc w6 b1 (o1+i*2) a1 c1 a2 c2 s∧Tc w6 b1 (o1+j*2) a3 c3 a4 c4 t:=⟨hSd.1.below hb6 (by omega),hSd.2.1.below hb6 hbd,hSd.2.2.below hb6 hbd⟩
      refine hK _ _ (fun _=>hS6) ?_
      clear hK K
      refine skL_on [13,14,15] ?_
      repeat (refine skL_take (v:= ?_) rfl ?_ ?_;rotate_left;(focus (intro w' hSw;(try dsimp only at hSw);go_simp;try with_reducible rfl));try simp only [Act.put,List.setIfInBounds_toArray,List.set_cons_zero,List.set_cons_succ])
      refine skL_off ?_
      refine wpAnyL_done (by kernel_rfl) ?_ _
      have HQ3:Hid (decide (0≤s.dif t)=o.claB i (j+1)):=by unfold Hid;rw [HQ2.out,Bool.false_or]
      have hB6:=hBd.trans (hb6.mono (by omega))
      have hz6:w.heap.size+1≤w6.heap.size:=by have:=hb6.size;omega
      clear HC hSd hBd hzd hbd hb6 HQ2
      go_wp2
      go_roundw
      case rel=>exact ⟨j+1,_,_,by omega,by omega,by go_num,rfl,rfl,HP3.out.symm,HQ3,hS6.1,hB6,hz6⟩
      case measure=>simp [intOf];omega
     have HQ3:Hid (true=o.claB i (j+1)):=by unfold Hid;rw [HQ2.out,Bool.true_or]
     clear HQ2
     refine skL_on [0,1] ?_
     repeat (refine skL_take (v:= ?_) rfl ?_ ?_;rotate_left;(focus (intro w' hSw;(try dsimp only at hSw);go_simp;try with_reducible rfl));try simp only [Act.put,List.setIfInBounds_toArray,List.set_cons_zero,List.set_cons_succ])
     refine skL_off ?_
     refine wpAnyL_take (i:=2) (v:=undef) rfl (by kernel_rfl) (by kernel_rfl) (by kernel_rfl) (by kernel_rfl) (fun _ _ _ h=>h) (Or.inr ⟨by rfl,rfl⟩) (by assumption) ?_
     try simp only [Act.put,List.setIfInBounds_toArray,List.set_cons_zero,List.set_cons_succ]
     refine wpAnyL_take (i:=3) (v:=undef) rfl (by kernel_rfl) (by kernel_rfl) (by kernel_rfl) (by kernel_rfl) (fun _ _ _ h=>h) (Or.inr ⟨by rfl,rfl⟩) (by assumption) ?_
     try simp only [Act.put,List.setIfInBounds_toArray,List.set_cons_zero,List.set_cons_succ]
     refine wpAnyL_take (i:=4) (v:=undef) rfl (by kernel_rfl) (by kernel_rfl) (by kernel_rfl) (by kernel_rfl) (fun _ _ _ h=>h) (Or.inr ⟨by rfl,rfl⟩) (by assumption) ?_
     try simp only [Act.put,List.setIfInBounds_toArray,List.set_cons_zero,List.set_cons_succ]
     refine wpAnyL_take (i:=5) (v:=undef) rfl (by kernel_rfl) (by kernel_rfl) (by kernel_rfl) (by kernel_rfl) (fun _ _ _ h=>h) (Or.inr ⟨by rfl,rfl⟩) (by assumption) ?_
     try simp only [Act.put,List.setIfInBounds_toArray,List.set_cons_zero,List.set_cons_succ]
     refine wpAnyL_take (i:=6) (v:=undef) rfl (by kernel_rfl) (by kernel_rfl) (by kernel_rfl) (by kernel_rfl) (fun _ _ _ h=>h) (Or.inr ⟨by rfl,rfl⟩) (by assumption) ?_
     try simp only [Act.put,List.setIfInBounds_toArray,List.set_cons_zero,List.set_cons_succ]
     refine wpAnyL_take (i:=7) (v:=undef) rfl (by kernel_rfl) (by kernel_rfl) (by kernel_rfl) (by kernel_rfl) (fun _ _ _ h=>h) (Or.inr ⟨by rfl,rfl⟩) (by assumption) ?_
     try simp only [Act.put,List.setIfInBounds_toArray,List.set_cons_zero,List.set_cons_succ]
     refine wpAnyL_take (i:=8) (v:=undef) rfl (by kernel_rfl) (by kernel_rfl) (by kernel_rfl) (by kernel_rfl) (fun _ _ _ h=>h) (Or.inr ⟨by rfl,rfl⟩) (by assumption) ?_
     try simp only [Act.put,List.setIfInBounds_toArray,List.set_cons_zero,List.set_cons_succ]
     refine wpAnyL_take (i:=9) (v:=undef) rfl (by kernel_rfl) (by kernel_rfl) (by kernel_rfl) (by kernel_rfl) (fun _ _ _ h=>h) (Or.inr ⟨by rfl,rfl⟩) (by assumption) ?_
     try simp only [Act.put,List.setIfInBounds_toArray,List.set_cons_zero,List.set_cons_succ]
     refine wpAnyL_take (i:=10) (v:=undef) rfl (by kernel_rfl) (by kernel_rfl) (by kernel_rfl) (by kernel_rfl) (fun _ _ _ h=>h) (Or.inr ⟨by rfl,rfl⟩) (by assumption) ?_
     try simp only [Act.put,List.setIfInBounds_toArray,List.set_cons_zero,List.set_cons_succ]
     refine wpAnyL_take (i:=11) (v:=undef) rfl (by kernel_rfl) (by kernel_rfl) (by kernel_rfl) (by kernel_rfl) (fun _ _ _ h=>h) (Or.inr ⟨by rfl,rfl⟩) (by assumption) ?_
     try simp only [Act.put,List.setIfInBounds_toArray,List.set_cons_zero,List.set_cons_succ]
     refine wpAnyL_skip (i:=12) (by kernel_rfl) rfl rfl (by assumption) ?_
     try simp only [Act.put,List.setIfInBounds_toArray,List.set_cons_zero,List.set_cons_succ]
     refine wpAnyL_skip (i:=13) (by kernel_rfl) rfl rfl (by assumption) ?_
     try simp only [Act.put,List.setIfInBounds_toArray,List.set_cons_zero,List.set_cons_succ]
     refine skL_on [14,15] ?_
     repeat (refine skL_take (v:= ?_) rfl ?_ ?_;rotate_left;(focus (intro w' hSw;(try dsimp only at hSw);go_simp;try with_reducible rfl));try simp only [Act.put,List.setIfInBounds_toArray,List.set_cons_zero,List.set_cons_succ])
     refine skL_off ?_
     refine wpAnyL_done (by kernel_rfl) ?_ _
     go_wp2
     go_roundw
     case rel=>exact ⟨j+1,_,_,by omega,by omega,by go_num,rfl,rfl,HP3.out.symm,HQ3,hSd.1,hBd,hzd⟩
     case measure=>simp [intOf];omega
    have ej:j=o.traces.length:=by omega
    have HP3:Hid (pb=o.preB i o.traces.length):=by unfold Hid;rw [hP.out,ej]
    have HQ3:Hid (qb=o.claB i o.traces.length):=by unfold Hid;rw [hQ.out,ej]
    clear hP hQ ej
    cases pb with
    |true=>
     have HF:Hid (o.apsErr o.traces.length=7):=by
      have h7:o.apErr i=7:=by unfold Ob.apErr;rw [←HP3.out,if_pos rfl]
      have h8:o.apsErr (i+1)=7:=by show (if o.apsErr i=0 then o.apErr i else o.apsErr i)=7;rw [hE.out,if_pos rfl,h7]
      unfold Hid;rw [Ob.apsErr_stop (k:=i+1) (by omega) (by rw [h8];decide),h8]
     go_wp2
     go_ret
     exact ⟨ret_ij HF.out.symm,hB⟩
    |false=>
     cases qb with
     |true=>
      have HF:Hid (o.apsErr o.traces.length=13):=by
       have h7:o.apErr i=13:=by unfold Ob.apErr;rw [←HP3.out,←HQ3.out,if_neg (by decide),if_pos rfl]
       have h8:o.apsErr (i+1)=13:=by show (if o.apsErr i=0 then o.apErr i else o.apsErr i)=13;rw [hE.out,if_pos rfl,h7]
       unfold Hid;rw [Ob.apsErr_stop (k:=i+1) (by omega) (by rw [h8];decide),h8]
      go_wp2
      go_ret
      exact ⟨ret_ij HF.out.symm,hB⟩
     |false=>
      have hE2:Hid (o.apsErr (i+1)=0):=by
       have h7:o.apErr i=0:=by unfold Ob.apErr;rw [←HP3.out,←HQ3.out,if_neg (by decide),if_neg (by decide)]
       unfold Hid;show (if o.apsErr i=0 then o.apErr i else o.apsErr i)=0;rw [hE.out,if_pos rfl,h7]
      go_wp2
      go_roundw
      case rel=>exact ⟨i+1,by omega,by go_num,hE2,hx,hB,hz⟩
      case measure=>simp [intOf];omega
  have HF : Hid (o.apsErr o.traces.length = 0) := by
   have e:i=o.traces.length:=by omega
   unfold Hid;rw [←e];exact hE.out
  go_wp2
  go_ret
  exact ⟨ret_ij HF.out.symm,hB⟩
theorem validO_any {o:Ob} (ho:Os M w a c o):
    Calls Tryz.prog 40 #[obV o a c] w fun e w'=>e= .returned (.int .i64 o.err)∧Below w.heap.size w w':=by
 have hol:=ho.traces.le
 have hB0:=(Below.refl w.heap.size w).alloc (Nat.le_refl _) (obO o a c)
 have HO:=Lib.hid ho
 have hx0:O2 (w.alloc (obO o a c)) w.heap.size a c o:=o2_new w
 have hz0:w.heap.size+1≤(w.alloc (obO o a c)).heap.size:=by simp
 clear ho
 rcases Ob.err_cases (o:=o) with ⟨h1,he⟩|⟨h1,h2,he⟩|⟨h1,h2,h3,he⟩|⟨h1,h2,h3,he⟩
 iterate 3
  ·have HF:=Lib.hid he
   clear he
   go_enter Tryz.func40,Tryz.ntmps40
   go_wp2
   go_ret
   exact ⟨ret_ij HF.out.symm,hB0⟩
 have HF:=Lib.hid he
 clear he
 go_enter Tryz.func40,Tryz.ntmps40
 go_wp2
 generalize w.alloc (obO o a c)=w0 at*
 go_loopw [3] (fun i wr=>∃k:Nat,k≤o.traces.length∧i= .int .i64 k∧Hid (o.atsErr k=0)∧O2 wr w.heap.size a c o∧Below w.heap.size w wr∧w.heap.size+1≤wr.heap.size) (fun i _=>o.traces.length-(intOf i).toNat)
 case atStart=>exact ⟨0,by omega,rfl,rfl,hx0,hB0,hz0⟩
 case round=>
  clear hx0 hB0 hz0
  obtain ⟨i,hi,rfl,hE,hx,hB,hz⟩:=hrel
  obtain ⟨w1,rfl⟩:∃w1:World,w1=wr:=⟨_,rfl⟩
  by_cases hlt:i<o.traces.length
  ·obtain ⟨b1,o1,a1,c1,a2,c2,s,rfl,hc1,hc2,hs,hs1,hs2⟩:=(HO.out.below hB).traces.at_tr hlt
   have hl1:=hs1.le
   have hl2:=hs2.le
   have hbA:=(Below.refl w1.heap.size w1).alloc (Nat.le_refl _) (trO s a1 c1 a2 c2)
   have hBA:=hB.trans (hbA.mono (by omega))
   have hxA:=hx.below hbA (by omega)
   have htA:T2 (w1.alloc (trO s a1 c1 a2 c2)) w1.heap.size a1 c1 a2 c2 s:=t2_new w1
   have hzA:w1.heap.size+1≤(w1.alloc (trO s a1 c1 a2 c2)).heap.size:=by simp
   have HC:=Lib.hid (checkR1_any (hs1.alloc (trO s a1 c1 a2 c2)) o.inputs)
   have HD:=Lib.hid (properR_any o.inputs (hs1.alloc (trO s a1 c1 a2 c2)) (hs2.alloc (trO s a1 c1 a2 c2)))
   have H1:=Lib.hid (hs1.alloc (trO s a1 c1 a2 c2))
   clear hs1 hs2 hB
   have hSn:Hid (o.atsErr (i+1)=o.atErr i):=by unfold Hid;show (if o.atsErr i=0 then o.atErr i else o.atsErr i)=o.atErr i;rw [hE.out,if_pos rfl]
   have hst:∀e,e≠0→o.atErr i=e→Hid (o.err=e):=fun e h h2=>by
    have h3:o.atsErr o.traces.length=e:=by rw [Ob.atsErr_stop (k:=i+1) (by omega) (by rw [hSn.out,h2];exact h),hSn.out,h2]
    unfold Hid;rw [HF.out,if_pos (by rw [h3];exact h),h3]
   have hat:Hid (o.atErr i=if wErr s.inn o.inputs≠0 then wErr s.inn o.inputs else if s.inn=[] then 19 else if s.err o.inputs≠0 then s.err o.inputs else if 0<i∧0≤cmpW (o.tr (i-1)).inn s.inn then 10 else 0):=by
    unfold Hid Ob.atErr;rw [Ob.tr_of hs.out]
   have HST:=Lib.hid hst
   clear hst HF
   by_cases hw:wErr s.inn o.inputs=0
   ·have hwb:(wErr s.inn o.inputs !=0)=false:=by simp [hw]
    have hat:Hid (o.atErr i=if s.inn=[] then 19 else if s.err o.inputs≠0 then s.err o.inputs else if 0<i∧0≤cmpW (o.tr (i-1)).inn s.inn then 10 else 0):=by
     have:=hat.out;rw [if_neg (by simp [hw])] at this;exact this
    clear hw
    by_cases hem:s.inn=[]
    ·have heb:(((s.inn.length:Nat):Int)==0)=true:=by simp [hem]
     have HF:=HST.out 19 (by decide) (by rw [hat.out,if_pos hem])
     clear hem hat HST
     go_wp2_with fail
     generalize w1.alloc (trO s a1 c1 a2 c2)=w2 at*
     refine (HC.out).mono ?_
     rintro e w3 ⟨rfl,hw3⟩
     obtain rfl:w2=w3:=hw3.symm
     clear HC
     go_wp2
     go_ret
     exact ⟨ret_ij HF.out.symm,hBA⟩
    have heb:(((s.inn.length:Nat):Int)==0)=false:=by simp [hem]
    have hat:Hid (o.atErr i=if s.err o.inputs≠0 then s.err o.inputs else if 0<i∧0≤cmpW (o.tr (i-1)).inn s.inn then 10 else 0):=by
     have:=hat.out;rw [if_neg hem] at this;exact this
    clear hem
    go_wp2_with fail
    generalize w1.alloc (trO s a1 c1 a2 c2)=w2 at*
    refine (HC.out).mono ?_
    rintro e w3 ⟨rfl,hw3⟩
    obtain rfl:w2=w3:=hw3.symm
    clear HC
    go_wp2_with fail
    refine (HD.out).mono ?_
    rintro e w3 ⟨rfl,hb3⟩
    have hx3:=hxA.below hb3 (by omega)
    have ht3:=htA.below hb3 (by omega)
    have hB3:=hBA.trans (hb3.mono (by omega))
    have hz3:w1.heap.size+1≤w3.heap.size:=by have:=hb3.size;omega
    have H1:=Lib.hid (H1.out.below hb3)
    clear HD hxA htA hBA hzA hb3
    by_cases her:s.err o.inputs=0
    ·have hrb:(s.err o.inputs !=0)=false:=by simp [her]
     have hat:Hid (o.atErr i=if 0<i∧0≤cmpW (o.tr (i-1)).inn s.inn then 10 else 0):=by
      have:=hat.out;rw [if_neg (by simp [her])] at this;exact this
     clear her
     go_wp2
     by_cases hi0:0<i
     ·obtain ⟨b3,o3,a3,c3,a4,c4,t,he3,hc3,hc4,ht,ht1,ht2⟩:=(HO.out.below hB3).traces.at_tr (j:=i-1) (by omega)
      obtain ⟨rfl,rfl⟩:b1=b3∧o1=o3:=by simpa using he3
      have hil:i-1<o.traces.length:=by omega
      have hbl:=lt_of_cell hc3
      have hi1:(((i:Nat):Int)-1)=((i-1:Nat):Int):=by omega
      have hwr:IntKind.i64.wrap ((i-1:Nat):Int)=((i-1:Nat):Int):=IntWalk.i64_in _ (by omega)
      have hd0:decide (0<i)=true:=by simp [hi0]
      refine wp_region_L (fun w'=>O2 w' w.heap.size (some ⟨b1,o1,none⟩) c o∧Tc w' b1 (o1+(i-1)*2) a3 c3 a4 c4 t∧T2 w' w1.heap.size a1 c1 a2 c2 s) [0,1,2,3,4,5,6,7,8,9,10,11,13,14] (by kernel_rfl) ?_
      have hSd:O2 w3.drew w.heap.size (some ⟨b1,o1,none⟩) c o∧Tc w3.drew b1 (o1+(i-1)*2) a3 c3 a4 c4 t∧T2 w3.drew w1.heap.size a1 c1 a2 c2 s:=⟨hx3.below (Below.refl w3.heap.size w3).drew (by omega),Tc.below ⟨hc3,hc4⟩ (Below.refl w3.heap.size w3).drew hbl,ht3.below (Below.refl w3.heap.size w3).drew (by omega)⟩
      have HC:=Lib.hid (cmpR_any ((ht1.anti (M':=fun _=>False) fun _ _ h=>h.elim).drew) ((H1.out.anti (M':=fun _=>False) fun _ _ h=>h.elim).drew))
      have hat:Hid (o.atErr i=if 0≤cmpW t.inn s.inn then 10 else 0):=by
       have:=hat.out;rw [Ob.tr_of ht.out] at this;simp only [hi0,true_and] at this;exact this
      have hBd:=hB3.drew
      have hzd:w1.heap.size+1≤w3.drew.heap.size:=hz3
      have hbd:b1<w3.drew.heap.size:=hbl
      clear hx3 ht3 hB3 hz3 hbl hc3 hc4 ht1 ht2 he3
      generalize w3.drew=w4 at*
      refine skL_on [0,1,2,3,4,5,6,7,8,9,10,11] ?_
      repeat (refine skL_take (v:= ?_) rfl ?_ ?_;rotate_left;(focus (intro w' hSw;(try dsimp only at hSw);go_simp;try with_reducible rfl));try simp only [Act.put,List.setIfInBounds_toArray,List.set_cons_zero,List.set_cons_succ])
      refine skL_off ?_
      refine wpAnyL_one (i:=12) (by kernel_rfl) rfl rfl (fun K hK=> ?_)
      go_simp
      refine (HC.out).mono ?_
      rintro e w5 ⟨rfl,hD5⟩
      have hb5:=blw hD5 w4.heap.size
      have hS5:O2 w5 w.heap.size (some ⟨b1,o1,none⟩) c o∧Tc w5 b1 (o1+(i-1)*2) a3 c3 a4 c4 t∧T2 w5 w1.heap.size a1 c1 a2 c2 s:=⟨hSd.1.below hb5 (by omega),hSd.2.1.below hb5 hbd,hSd.2.2.below hb5 (by omega)⟩
      refine hK _ _ (fun _=>hS5) ?_
      clear hK K
      refine skL_on [13,14] ?_
      repeat (refine skL_take (v:= ?_) rfl ?_ ?_;rotate_left;(focus (intro w' hSw;(try dsimp only at hSw);go_simp;try with_reducible rfl));try simp only [Act.put,List.setIfInBounds_toArray,List.set_cons_zero,List.set_cons_succ])
      refine skL_off ?_
      refine wpAnyL_done (by kernel_rfl) ?_ _
      have hB5:=hBd.trans (hb5.mono (by omega))
      have hz5:w.heap.size+1≤w5.heap.size:=by have:=hb5.size;omega
      clear HC hSd hBd hzd hbd hb5 hD5
      by_cases hcm:0≤cmpW t.inn s.inn
      ·have hcb:decide (0≤cmpW t.inn s.inn)=true:=by simp [hcm]
       have HF:=HST.out 10 (by decide) (by rw [hat.out,if_pos hcm])
       clear hat HST
       go_wp2
       go_ret
       exact ⟨ret_ij HF.out.symm,hB5⟩
      have hcb:decide (0≤cmpW t.inn s.inn)=false:=by simpa using hcm
      have hE2:Hid (o.atsErr (i+1)=0):=by unfold Hid;rw [hSn.out,hat.out,if_neg hcm]
      have hcn:cmpW t.inn s.inn<0:=by omega
      clear hcm hat HST hE hSn
      go_wp2
      go_roundw
      case rel=>exact ⟨i+1,by omega,by go_num,hE2,hS5.1,hB5,hz5⟩
      case measure=>simp [intOf];omega
     have hd0:decide (0<i)=false:=by simpa using hi0
     obtain rfl:i=0:=by omega
     have hE2:Hid (o.atsErr (0+1)=0):=by unfold Hid;rw [hSn.out,hat.out,if_neg (by omega)]
     refine wp_region_L (fun w'=>O2 w' w.heap.size (some ⟨b1,o1,none⟩) c o∧T2 w' w1.heap.size a1 c1 a2 c2 s) [0,1,2,3,4,5,6,7,8,9,10,11,12,13,14] (by kernel_rfl) ?_
     have hSd:O2 w3.drew w.heap.size (some ⟨b1,o1,none⟩) c o∧T2 w3.drew w1.heap.size a1 c1 a2 c2 s:=⟨hx3.below (Below.refl w3.heap.size w3).drew (by omega),ht3.below (Below.refl w3.heap.size w3).drew (by omega)⟩
     have hBd:=hB3.drew
     have hzd:w.heap.size+1≤w3.drew.heap.size:=by show _≤w3.heap.size;omega
     clear hx3 ht3 hB3 hz3 hSn hat HST hE
     generalize w3.drew=w4 at*
     refine skL_on [0,1,2] ?_
     repeat (refine skL_take (v:= ?_) rfl ?_ ?_;rotate_left;(focus (intro w' hSw;(try dsimp only at hSw);go_simp;try with_reducible rfl));try simp only [Act.put,List.setIfInBounds_toArray,List.set_cons_zero,List.set_cons_succ])
     refine skL_off ?_
     refine wpAnyL_take (i:=3) (v:=undef) rfl (by kernel_rfl) (by kernel_rfl) (by kernel_rfl) (by kernel_rfl) (fun _ _ _ h=>h) (Or.inr ⟨by rfl,rfl⟩) (by assumption) ?_
     try simp only [Act.put,List.setIfInBounds_toArray,List.set_cons_zero,List.set_cons_succ]
     refine wpAnyL_take (i:=4) (v:=undef) rfl (by kernel_rfl) (by kernel_rfl) (by kernel_rfl) (by kernel_rfl) (fun _ _ _ h=>h) (Or.inr ⟨by rfl,rfl⟩) (by assumption) ?_
     try simp only [Act.put,List.setIfInBounds_toArray,List.set_cons_zero,List.set_cons_succ]
     refine wpAnyL_take (i:=5) (v:=undef) rfl (by kernel_rfl) (by kernel_rfl) (by kernel_rfl) (by kernel_rfl) (fun _ _ _ h=>h) (Or.inr ⟨by rfl,rfl⟩) (by assumption) ?_
     try simp only [Act.put,List.setIfInBounds_toArray,List.set_cons_zero,List.set_cons_succ]
     refine wpAnyL_take (i:=6) (v:=undef) rfl (by kernel_rfl) (by kernel_rfl) (by kernel_rfl) (by kernel_rfl) (fun _ _ _ h=>h) (Or.inr ⟨by rfl,rfl⟩) (by assumption) ?_
     try simp only [Act.put,List.setIfInBounds_toArray,List.set_cons_zero,List.set_cons_succ]
     refine wpAnyL_take (i:=7) (v:=undef) rfl (by kernel_rfl) (by kernel_rfl) (by kernel_rfl) (by kernel_rfl) (fun _ _ _ h=>h) (Or.inr ⟨by rfl,rfl⟩) (by assumption) ?_
     try simp only [Act.put,List.setIfInBounds_toArray,List.set_cons_zero,List.set_cons_succ]
     refine wpAnyL_take (i:=8) (v:=undef) rfl (by kernel_rfl) (by kernel_rfl) (by kernel_rfl) (by kernel_rfl) (fun _ _ _ h=>h) (Or.inr ⟨by rfl,rfl⟩) (by assumption) ?_
     try simp only [Act.put,List.setIfInBounds_toArray,List.set_cons_zero,List.set_cons_succ]
     refine wpAnyL_take (i:=9) (v:=undef) rfl (by kernel_rfl) (by kernel_rfl) (by kernel_rfl) (by kernel_rfl) (fun _ _ _ h=>h) (Or.inr ⟨by rfl,rfl⟩) (by assumption) ?_
     try simp only [Act.put,List.setIfInBounds_toArray,List.set_cons_zero,List.set_cons_succ]
     refine wpAnyL_skip (i:=10) (by kernel_rfl) rfl rfl (by assumption) ?_
     try simp only [Act.put,List.setIfInBounds_toArray,List.set_cons_zero,List.set_cons_succ]
     refine wpAnyL_skip (i:=11) (by kernel_rfl) rfl rfl (by assumption) ?_
     try simp only [Act.put,List.setIfInBounds_toArray,List.set_cons_zero,List.set_cons_succ]
     refine wpAnyL_skip (i:=12) (by kernel_rfl) rfl rfl (by assumption) ?_
     try simp only [Act.put,List.setIfInBounds_toArray,List.set_cons_zero,List.set_cons_succ]
     refine wpAnyL_skip (i:=13) (by kernel_rfl) rfl rfl (by assumption) ?_
     try simp only [Act.put,List.setIfInBounds_toArray,List.set_cons_zero,List.set_cons_succ]
     refine skL_on [14] ?_
     repeat (refine skL_take (v:= ?_) rfl ?_ ?_;rotate_left;(focus (intro w' hSw;(try dsimp only at hSw);go_simp;try with_reducible rfl));try simp only [Act.put,List.setIfInBounds_toArray,List.set_cons_zero,List.set_cons_succ])
     refine skL_off ?_
     refine wpAnyL_done (by kernel_rfl) ?_ _
     go_wp2
     go_roundw
     case rel=>exact ⟨0+1,by omega,by go_num,hE2,hSd.1,hBd,hzd⟩
     case measure=>simp [intOf];omega
    have hrb:(s.err o.inputs !=0)=true:=by simp [her]
    have HF:=HST.out _ her (by rw [hat.out,if_pos her])
    clear her hat HST
    go_wp2
    go_ret
    exact ⟨ret_ij HF.out.symm,hB3⟩
   have hwb:(wErr s.inn o.inputs !=0)=true:=by simp [hw]
   have HF:=HST.out _ hw (by rw [hat.out,if_pos hw])
   clear hw hat HST
   go_wp2_with fail
   generalize w1.alloc (trO s a1 c1 a2 c2)=w2 at*
   refine (HC.out).mono ?_
   rintro e w3 ⟨rfl,hw3⟩
   obtain rfl:w2=w3:=hw3.symm
   clear HC
   go_wp2
   go_ret
   exact ⟨ret_ij HF.out.symm,hBA⟩
  have e:i=o.traces.length:=by omega
  have hz0:Hid (o.atsErr o.traces.length=0):=by unfold Hid;rw [←e];exact hE.out
  have HL:Hid o.lens:=Ob.goods_lens (Ob.goods_all hz0.out)
  have HC:=Lib.hid (apartR_any (HO.out.below hB) HL)
  have HF:Hid (o.err=o.apsErr o.traces.length):=by unfold Hid;rw [HF.out,if_neg (by simp [hz0.out])]
  clear e
  go_wp2_with fail
  refine (HC.out).mono ?_
  rintro e w3 ⟨rfl,hb3⟩
  have hBf:=hB.trans (hb3.mono (by omega))
  go_wp2
  go_ret
  exact ⟨ret_ij HF.out.symm,hBf⟩
end
end Go.Proofs.YtjmbphjgiodioaaGreatDoor
