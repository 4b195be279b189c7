/- Several texts, one behind the other. Conditions: as each of them says. -/
import Derived.Test.YtknhegdepbmmlaaGreatMt27
import Derived.Test.YtknhegdepbmmlaaGreatMt6
import Derived.Test.YtknhegdepbmmlaaGreatMt4
import Derived.Test.YtknhegdepbmmlaaGreatMt3
import Derived.Test.YtknhegdepbmmlaaGreatMt1
import Derived.Deep.Cut
set_option maxRecDepth 100000
set_option maxHeartbeats 32000000
namespace Go.Proofs.YtknhegdepbmmlaaGreat
open Go.RowKit
theorem allS_succ (n:Nat):allS (n+1)=allS n++[(n:Int)]:=by simp [allS,List.range_succ]
section
variable {M M':Nat→Prop} {w:World} {an ao b:Option Addr} {cn co d:Nat} {m:Mach} {l:List Int}
theorem states12_any (n:Nat) (hn:n<1000000):Calls Tryz.prog 77 #[.int .i64 n] w fun e w'=>∃(a':Option Addr) (c':Nat) (L:List Int),e= .returned (.slice a' L.length c')∧Hid (L=allS n)∧Sl (fun k=>k<w.heap.size) w' a' c' L∧Below w.heap.size w w':=by
 have hO0:Ow (α:=Int) w.heap.size (fun k=>w.heap.size≤k) w 3 (.slice none 0 0) []:=Ow.nil
 have hB0:=Below.refl w.heap.size w
 go_enter Tryz.func77,Tryz.ntmps77
 go_wp2
 go_loopw [3,4] (fun v i wr=>∃(k:Nat) (a':Option Addr) (c':Nat) (L:List Int),k≤n∧i= .int .i64 k∧v= .slice a' L.length c'∧Hid (L=allS k)∧Ow w.heap.size (fun k=>w.heap.size≤k) wr 3 (.slice a' L.length c') L∧Below w.heap.size w wr) (fun _ i _=>n-(intOf i).toNat)
 case atStart=>exact ⟨0,none,0,[],by omega,rfl,rfl,rfl,hO0,hB0⟩
 case round=>
  clear hO0 hB0
  obtain ⟨k,a2,c2,L,hk,rfl,rfl,hL,hO,hB⟩:=hrel
  obtain ⟨wo,rfl⟩:∃wo:World,wo=wr:=⟨_,rfl⟩
  have hz:=hB.size
  have hLl:Hid (L.length=k):=by unfold Hid;rw [hL.out,allS_len]
  by_cases hlt:k<n
  ·have hk64:Hid (i64 (k:Int)):=by unfold Hid i64;omega
   go_wp2_with (at_builtin;refine wpList_push_i (B:=w.heap.size) (l:=L) (y:=(k:Int)) rfl rfl Tryz.underlying45 info_int rfl rfl (hO.alloc _) (by simp [go_sem]) hk64.out (by have:=hLl.out;omega) (by simp;omega) ?_)
   intro a3 c3 L3 w3 hL3 hO3 hb3
   have hB3:=(hB.alloc hz (.cells #[.int .i64 (k:Int)] 3)).trans hb3
   have hLn:Hid (L3=allS (k+1)):=by unfold Hid;rw [hL3.out,hL.out,allS_succ]
   clear hO hB hb3
   go_wp2
   go_roundw
   case rel=>exact ⟨k+1,a3,c3,L3,by omega,by go_num,rfl,hLn,hO3,hB3⟩
   case measure=>simp [intOf];omega
  have hkn:Hid (L=allS n):=by unfold Hid;rw [hL.out,show k=n by omega]
  have hS:=hO.fresh (n:=w.heap.size) (Nat.le_refl _)
  go_wp2
  go_ret
  exact ⟨a2,c2,L,rfl,hkn,hS,hB⟩
theorem next12_any (hm:Ma M w an cn ao co m) (hs:Sl M' w b d l) (ok:Hid m.Ok) (hl:Hid (∀s∈l,0≤s∧s<m.next.length)) (hll:Hid (l.length<1000000)) (x:Nat) (hx:x<m.inputs.toNat):
    Calls Tryz.prog 118 #[maV m an cn ao co,.slice b l.length d,.int .i64 x] w fun e w'=>∃(a':Option Addr) (c':Nat) (L:List Int),e= .returned (.slice a' L.length c')∧Hid (L=l.map fun s=>m.nx s.toNat x)∧Sl (fun k=>k<w.heap.size) w' a' c' L∧Below w.heap.size w w':=by
 obtain ⟨bn,on,bo,oo,rfl,rfl⟩:=hm.addr ok.out
 have hB0:=(Below.refl w.heap.size w).alloc (Nat.le_refl _) (maO m (some ⟨bn,on,none⟩) cn (some ⟨bo,oo,none⟩) co)
 have hx0:C4 (w.alloc (maO m (some ⟨bn,on,none⟩) cn (some ⟨bo,oo,none⟩) co)) w.heap.size (some ⟨bn,on,none⟩) cn (some ⟨bo,oo,none⟩) co m:=c4_new w
 have hc0:=hx0.2.2.1
 have hz0:w.heap.size<(w.alloc (maO m (some ⟨bn,on,none⟩) cn (some ⟨bo,oo,none⟩) co)).heap.size:=by simp
 have n1:=ok.out.n1
 have l1:=hm.next.le
 have l2:=hm.out.le
 have l3:=hs.le
 have HM:=Lib.hid hm
 have HL:=Lib.hid hs
 have hO0:∀w':World,Ow (α:=Int) (w.heap.size+1) (fun k=>w.heap.size+1≤k) w' 3 (.slice none 0 0) []:=fun _=>Ow.nil
 clear hm hs hx0
 go_enter Tryz.func118,Tryz.ntmps118
 go_upto_region 1 with (fail)
 generalize w.alloc (maO m (some ⟨bn,on,none⟩) cn (some ⟨bo,oo,none⟩) co)=w0 at*
 have hO1:=hO0 w0
 clear hO0
 go_wp2_with fail
 go_loopw [7,8] (fun v i wr=>∃(k:Nat) (a':Option Addr) (c':Nat) (L:List Int),k≤l.length∧i= .int .i64 k∧v= .slice a' L.length c'∧Hid (L=(l.take k).map fun s=>m.nx s.toNat x)∧Ow (w.heap.size+1) (fun k=>w.heap.size+1≤k) wr 3 (.slice a' L.length c') L∧
  wr.cell? ⟨w.heap.size,2,none⟩=some (.slice (some ⟨bn,on,none⟩) m.next.length cn)∧w.heap.size<wr.heap.size∧Below w.heap.size w wr) (fun _ i _=>l.length-(intOf i).toNat)
 case atStart=>exact ⟨0,none,0,[],by omega,rfl,rfl,rfl,hO1,hc0,hz0,hB0⟩
 case round=>
  clear hO1 hc0 hz0 hB0
  obtain ⟨k,a2,c2,L,hk,rfl,rfl,hL,hO,hc,hz,hB⟩:=hrel
  obtain ⟨wo,rfl⟩:∃wo:World,wo=wr:=⟨_,rfl⟩
  have hLl:Hid (L.length=k):=by unfold Hid;rw [hL.out];simp;omega
  by_cases hlt:k<l.length
  ·obtain ⟨bs,os,s0,rfl,hcs,hs0, -⟩:=(HL.out.below hB).at_int hlt
   have hsr:=hl.out s0 (List.mem_of_getElem? hs0.out)
   obtain ⟨s,rfl⟩:=Int.eq_ofNat_of_zero_le hsr.1
   have hsn:s<m.next.length:=by omega
   obtain ⟨bn2,on2,a1,r1,c1,hbe,hn1,hr1,hS1⟩:=(HM.out.next.below hB).at_row hsn
   obtain ⟨rfl,rfl⟩:bn=bn2∧on=on2:=by simpa using hbe
   have hr1n:=hS1.le
   have hrl:Hid ((r1.length:Int)=m.inputs):=by have:=ok.out.rn s hsn;rw [getD_of_some hr1.out] at this;exact this
   have hxl:x<r1.length:=by have:=hrl.out;omega
   obtain ⟨b3,o3,t0,rfl,htc,ht0,ht64⟩:=hS1.at_int hxl
   have hnx:Hid (m.nx s x=t0):=by unfold Hid Mach.nx;rw [getD_of_some hr1.out,getD_of_some ht0.out]
   have hLn:Hid ((l.take (k+1)).map (fun s=>m.nx s.toNat x)=L++[t0]):=by
    unfold Hid;rw [List.take_add_one,hs0.out,List.map_append,hL.out,←hnx.out];rfl
   clear hbe hS1 hsr
   go_upto_region 5 with (fail)
   refine wp_region_T (fun w'=>w'.cell? ⟨w.heap.size,2,none⟩=some (.slice (some ⟨bn,on,none⟩) m.next.length cn)∧w'.cell? ⟨bs,os+k,none⟩=some (.int .i64 (s:Int))∧w'.cell? ⟨bn,on+s,none⟩=some (.slice (some ⟨b3,o3,none⟩) r1.length c1)∧w'.cell? ⟨b3,o3+x,none⟩=some (.int .i64 t0)) [0,1,2,3,4,5,6,7,8,9,10,11] (by kernel_rfl) ?_
   have hd:=(Below.refl wo.heap.size wo).drew
   have hO4:=hO.below hd
   have hB4:=hB.trans (hd.mono (by omega))
   have hS4:=And.intro (show wo.drew.cell? ⟨w.heap.size,2,none⟩=some (.slice (some ⟨bn,on,none⟩) m.next.length cn) from hc) (And.intro (show wo.drew.cell? ⟨bs,os+k,none⟩=some (.int .i64 (s:Int)) from hcs) (And.intro (show wo.drew.cell? ⟨bn,on+s,none⟩=some (.slice (some ⟨b3,o3,none⟩) r1.length c1) from hn1) (show wo.drew.cell? ⟨b3,o3+x,none⟩=some (.int .i64 t0) from htc)))
   have hz4:w.heap.size<wo.drew.heap.size:=hz
   have HK:Hid (∀w',Below (w.heap.size+1) wo.drew w'→w'.cell? ⟨w.heap.size,2,none⟩=some (.slice (some ⟨bn,on,none⟩) m.next.length cn)):=fun w' h=>(h.cell (p:=⟨w.heap.size,2,none⟩) (Nat.lt_succ_self _)).trans hS4.1
   clear hd hO hB hc hz hcs hn1 htc
   generalize wo.drew=w4 at*
   refine skT_on [0,1,2,3,4,5,6,7,8,9,10,11] ?_
   repeat (refine skT_take (v:= ?_) rfl ?_ ?_;rotate_left;(focus (intro w' hSw;(try dsimp only at hSw);go_simp;try with_reducible rfl));try simp only [Act.put,List.setIfInBounds_toArray,List.set_cons_zero,List.set_cons_succ])
   refine skT_off ?_
   refine wpAnyT_one (i:=12) (by kernel_rfl) rfl rfl (fun K hK=> ?_)
   go_simp
   have hba:=(Below.refl w4.heap.size w4).alloc (Nat.le_refl _) (.cells #[.int .i64 t0] 3)
   have hS5:=And.intro ((hba.cell (p:=⟨w.heap.size,2,none⟩) (lt_of_cell hS4.1)).trans hS4.1) (And.intro ((hba.cell (p:=⟨bs,os+k,none⟩) (lt_of_cell hS4.2.1)).trans hS4.2.1) (And.intro ((hba.cell (p:=⟨bn,on+s,none⟩) (lt_of_cell hS4.2.2.1)).trans hS4.2.2.1) ((hba.cell (p:=⟨b3,o3+x,none⟩) (lt_of_cell hS4.2.2.2)).trans hS4.2.2.2)))
   refine hK _ _ (fun _=>hS5) ?_
   clear hK K hS4
   refine wpAnyT_late (i:=13) (by kernel_rfl) (by kernel_rfl) rfl rfl (fun K hK=> ?_)
   refine wp_push_o (B:=w.heap.size+1) (M:=fun k=>w.heap.size+1≤k) (v:= .slice a2 L.length c2) (l:=L) (y:=t0) rfl Tryz.underlying45 info_int rfl rfl (hO4.alloc _) (by simp [go_sem]) ht64.out (by have:=hLl.out;have:=hll.out;omega) (by simp;omega) ?_
   intro a6 c6 L6 w6 hL6 hO6 hk6 hg6
   have hb6:=((Below.refl (w.heap.size+1) w4).alloc (by omega) (.cells #[.int .i64 t0] 3)).grown hg6 (by simp;omega) (fun k hk=>(hO4.lt k hk).1)
   have hB6:=hB4.trans (hb6.mono (by omega))
   have hc6:=HK.out w6 hb6
   have hz6:w.heap.size<w6.heap.size:=by have:=hb6.size;omega
   have hLn6:Hid (L6=(l.take (k+1)).map fun s=>m.nx s.toNat x):=by unfold Hid;rw [hL6.out,hLn.out]
   refine hK _ _ ?_
   clear hK K hS5 HK hO4 hB4 hba hg6 hk6 hb6 hL6
   refine wpAnyT_late (i:=14) (by kernel_rfl) (by kernel_rfl) rfl rfl (fun K hK=> ?_)
   go_simp
   refine hK _ _ ?_
   clear hK K
   refine wpAnyT_done (by kernel_rfl) ?_ _
   go_wp2
   go_roundw
   case rel=>exact ⟨k+1,a6,c6,L6,by omega,by go_num,rfl,hLn6,hO6,hc6,hz6,hB6⟩
   case measure=>simp [intOf];omega
  have hkn:Hid (L=l.map fun s=>m.nx s.toNat x):=by unfold Hid;rw [hL.out,List.take_of_length_le (by omega)]
  have hS:=hO.fresh (n:=w.heap.size) (by omega)
  go_wp2
  go_ret
  exact ⟨a2,c2,L,rfl,hkn,hS,hB⟩
end
section
variable {M M':Nat→Prop} {w:World} {b q:Option Addr} {d c:Nat} {l P:List Int}
theorem pick12_any (hs:Sl M w b d l) (hp:Sl M' w q c P) (hr:Hid (∀i∈P,0≤i∧i<(l.length:Int))) (hn:Hid (P.length<1000000)):
    Calls Tryz.prog 117 #[.slice b l.length d,.slice q P.length c] w fun e w'=>∃(a':Option Addr) (c':Nat) (L:List Int),e= .returned (.slice a' L.length c')∧Hid (L=P.map fun i=>l.getD i.toNat 0)∧Sl (fun k=>k<w.heap.size) w' a' c' L∧Below w.heap.size w w':=by
 have hO0:Ow (α:=Int) w.heap.size (fun k=>w.heap.size≤k) w 3 (.slice none 0 0) []:=Ow.nil
 have hB0:=Below.refl w.heap.size w
 have l1:=hs.le
 have l2:=hp.le
 have HS:=Lib.hid hs
 have HP:=Lib.hid hp
 clear hs hp
 go_enter Tryz.func117,Tryz.ntmps117
 go_wp2
 go_loopw [5,6] (fun v i wr=>∃(k:Nat) (a':Option Addr) (c':Nat) (L:List Int),k≤P.length∧i= .int .i64 k∧v= .slice a' L.length c'∧Hid (L=(P.take k).map fun i=>l.getD i.toNat 0)∧Ow w.heap.size (fun k=>w.heap.size≤k) wr 3 (.slice a' L.length c') L∧Below w.heap.size w wr) (fun _ i _=>P.length-(intOf i).toNat)
 case atStart=>exact ⟨0,none,0,[],by omega,rfl,rfl,rfl,hO0,hB0⟩
 case round=>
  clear hO0 hB0
  obtain ⟨k,a2,c2,L,hk,rfl,rfl,hL,hO,hB⟩:=hrel
  obtain ⟨wo,rfl⟩:∃wo:World,wo=wr:=⟨_,rfl⟩
  have hz:=hB.size
  have hLl:Hid (L.length=k):=by unfold Hid;rw [hL.out];simp;omega
  by_cases hlt:k<P.length
  ·obtain ⟨bp,op,i0,rfl,hic,hi0, -⟩:=(HP.out.below hB).at_int hlt
   have hir:=hr.out i0 (List.mem_of_getElem? hi0.out)
   obtain ⟨i,rfl⟩:=Int.eq_ofNat_of_zero_le hir.1
   have hil:i<l.length:=by omega
   obtain ⟨bl,ol,t0,rfl,htc,ht0,ht64⟩:=(HS.out.below hB).at_int hil
   have hLn:Hid ((P.take (k+1)).map (fun i=>l.getD i.toNat 0)=L++[t0]):=by
    unfold Hid;rw [List.take_add_one,hi0.out,List.map_append,hL.out]
    simp [ht0.out]
   clear hir
   go_wp2_with (at_builtin;refine wpList_push_i (B:=w.heap.size) (l:=L) (y:=t0) rfl rfl Tryz.underlying45 info_int rfl rfl (hO.alloc _) (by simp [go_sem]) ht64.out (by have:=hLl.out;have:=hn.out;omega) (by simp;omega) ?_)
   intro a3 c3 L3 w3 hL3 hO3 hb3
   have hB3:=(hB.alloc hz (.cells #[.int .i64 t0] 3)).trans hb3
   have hLn3:Hid (L3=(P.take (k+1)).map fun i=>l.getD i.toNat 0):=by unfold Hid;rw [hL3.out,hLn.out]
   clear hO hB hb3 hic htc
   go_wp2
   go_roundw
   case rel=>exact ⟨k+1,a3,c3,L3,by omega,by go_num,rfl,hLn3,hO3,hB3⟩
   case measure=>simp [intOf];omega
  have hkn:Hid (L=P.map fun i=>l.getD i.toNat 0):=by unfold Hid;rw [hL.out,List.take_of_length_le (by omega)]
  have hS:=hO.fresh (n:=w.heap.size) (Nat.le_refl _)
  go_wp2
  go_ret
  exact ⟨a2,c2,L,rfl,hkn,hS,hB⟩
end
def posW (p:Int→Bool) (l:List Int) (k:Nat):List Int:=((List.range k).filter fun i=>p (l.getD i 0)).map fun i:Nat=>(i:Int)
theorem posW_step {p:Int→Bool} {l:List Int} {k:Nat}:posW p l (k+1)=posW p l k++if p (l.getD k 0)=true then [(k:Int)] else []:=by
 unfold posW
 rw [List.range_succ,List.filter_append,List.map_append]
 congr 1
 simp only [List.filter_cons,List.filter_nil]
 cases p (l.getD k 0)<;>rfl
theorem posW_len {p:Int→Bool} {l:List Int} {k:Nat}:(posW p l k).length≤k:=by
 unfold posW;rw [List.length_map];exact Nat.le_trans (List.length_filter_le _ _) (by simp)
section
variable {M M':Nat→Prop} {w:World} {an ao b:Option Addr} {cn co d:Nat} {m:Mach} {l:List Int}
theorem part12_any (hm:Ma M w an cn ao co m) (hs:Sl M' w b d l) (ok:Hid m.Ok) (hl:Hid (∀s∈l,0≤s∧s<m.next.length)) (hll:Hid (l.length<1000000)) (x:Nat) (hx:x<m.inputs.toNat) (o:Int):
    Calls Tryz.prog 116 #[maV m an cn ao co,.slice b l.length d,.int .i64 x,.int .i64 o] w fun e w'=>∃(a':Option Addr) (c':Nat) (L:List Int),e= .returned (.slice a' L.length c')∧Hid (L=posW (fun s=>decide (m.ot s.toNat x=o)) l l.length)∧Sl (fun k=>k<w.heap.size) w' a' c' L∧Below w.heap.size w w':=by
 obtain ⟨bn,on,bo,oo,rfl,rfl⟩:=hm.addr ok.out
 have hB0:=(Below.refl w.heap.size w).alloc (Nat.le_refl _) (maO m (some ⟨bn,on,none⟩) cn (some ⟨bo,oo,none⟩) co)
 have hx0:C4 (w.alloc (maO m (some ⟨bn,on,none⟩) cn (some ⟨bo,oo,none⟩) co)) w.heap.size (some ⟨bn,on,none⟩) cn (some ⟨bo,oo,none⟩) co m:=c4_new w
 have hc0:=hx0.2.2.2
 have hz0:w.heap.size<(w.alloc (maO m (some ⟨bn,on,none⟩) cn (some ⟨bo,oo,none⟩) co)).heap.size:=by simp
 have n1:=ok.out.n1
 have l1:=hm.next.le
 have l2:=hm.out.le
 have l3:=hs.le
 have HM:=Lib.hid hm
 have HL:=Lib.hid hs
 have hO0:∀w':World,Ow (α:=Int) (w.heap.size+1) (fun k=>w.heap.size+1≤k) w' 3 (.slice none 0 0) []:=fun _=>Ow.nil
 clear hm hs hx0
 go_enter Tryz.func116,Tryz.ntmps116
 go_upto_region 1 with (fail)
 generalize w.alloc (maO m (some ⟨bn,on,none⟩) cn (some ⟨bo,oo,none⟩) co)=w0 at*
 have hO1:=hO0 w0
 clear hO0
 go_wp2_with fail
 go_loopw [9,10] (fun v i wr=>∃(k:Nat) (a':Option Addr) (c':Nat) (L:List Int),k≤l.length∧i= .int .i64 k∧v= .slice a' L.length c'∧Hid (L=posW (fun s=>decide (m.ot s.toNat x=o)) l k)∧Ow (w.heap.size+1) (fun k=>w.heap.size+1≤k) wr 3 (.slice a' L.length c') L∧
  wr.cell? ⟨w.heap.size,3,none⟩=some (.slice (some ⟨bo,oo,none⟩) m.out.length co)∧w.heap.size<wr.heap.size∧Below w.heap.size w wr) (fun _ i _=>l.length-(intOf i).toNat)
 case atStart=>exact ⟨0,none,0,[],by omega,rfl,rfl,rfl,hO1,hc0,hz0,hB0⟩
 case round=>
  clear hO1 hc0 hz0 hB0
  obtain ⟨k,a2,c2,L,hk,rfl,rfl,hL,hO,hc,hz,hB⟩:=hrel
  obtain ⟨wo,rfl⟩:∃wo:World,wo=wr:=⟨_,rfl⟩
  have hLl:Hid (L.length≤k):=by unfold Hid;rw [hL.out];exact posW_len
  by_cases hlt:k<l.length
  ·obtain ⟨bs,os,s0,rfl,hcs,hs0, -⟩:=(HL.out.below hB).at_int hlt
   have hsr:=hl.out s0 (List.mem_of_getElem? hs0.out)
   obtain ⟨s,rfl⟩:=Int.eq_ofNat_of_zero_le hsr.1
   have hsn:s<m.next.length:=by omega
   have hso:s<m.out.length:=by have:=ok.out.lo;omega
   obtain ⟨bn2,on2,a1,r1,c1,hbe,hn1,hr1,hS1⟩:=(HM.out.out.below hB).at_row hso
   obtain ⟨rfl,rfl⟩:bo=bn2∧oo=on2:=by simpa using hbe
   have hr1n:=hS1.le
   have hrl:Hid ((r1.length:Int)=m.inputs):=by have:=ok.out.ro s hsn;rw [getD_of_some hr1.out] at this;exact this
   have hxl:x<r1.length:=by have:=hrl.out;omega
   obtain ⟨b3,o3,t0,rfl,htc,ht0,ht64⟩:=hS1.at_int hxl
   have hot:Hid (m.ot s x=t0):=by unfold Hid Mach.ot;rw [getD_of_some hr1.out,getD_of_some ht0.out]
   have hLn:Hid (posW (fun s=>decide (m.ot s.toNat x=o)) l (k+1)=L++if t0=o then [(k:Int)] else []):=by
    unfold Hid;rw [posW_step,hL.out,getD_of_some hs0.out]
    congr 1
    simp only [decide_eq_true_eq]
    rw [show m.ot ((s:Int)).toNat x=t0 from hot.out]
   clear hbe hS1 hsr
   have p1:∀n,(wo.drewN n).cell? ⟨w.heap.size,3,none⟩=some (.slice (some ⟨bo,oo,none⟩) m.out.length co):=fun n=>by simpa using hc
   have p2:∀n,(wo.drewN n).cell? ⟨bs,os+k,none⟩=some (.int .i64 (s:Int)):=fun n=>by simpa using hcs
   have p3:∀n,(wo.drewN n).cell? ⟨bo,oo+s,none⟩=some (.slice (some ⟨b3,o3,none⟩) r1.length c1):=fun n=>by simpa using hn1
   have p4:∀n,(wo.drewN n).cell? ⟨b3,o3+x,none⟩=some (.int .i64 t0):=fun n=>by simpa using htc
   by_cases he:t0=o
   ·have heb:(t0==o)=true:=by simp [he]
    rw [if_pos he] at hLn
    clear he
    go_upto_region 5 with (fail)
    refine wp_quiet_fast (by kernel_rfl) (by kernel_rfl) ?_
    repeat (first|go_big_quiet_step (fail)|quiet_step (fail))
    refine wpQuiet_nil ?_
    intro _ hw'
    obtain ⟨nq,hw''⟩:=hw'
    subst hw''
    have hd:=below_drewN wo.heap.size wo nq
    have hO4:=hO.below hd
    have hB4:=hB.trans (hd.mono (by omega))
    have hc4:=p1 nq
    have hz4:w.heap.size<(wo.drewN nq).heap.size:=by have:=hd.size;omega
    clear p1 p2 p3 p4 hd hO hB hc hz hcs hn1 htc
    generalize wo.drewN nq=w4 at*
    have hk64:Hid (i64 (k:Int)):=by unfold Hid i64;omega
    go_wp2_with (at_builtin;refine wpList_push_i (B:=w.heap.size+1) (l:=L) (y:=(k:Int)) rfl rfl Tryz.underlying45 info_int rfl rfl (hO4.alloc _) (by simp [go_sem]) hk64.out (by have:=hLl.out;have:=hll.out;omega) (by simp;omega) ?_)
    intro a6 c6 L6 w6 hL6 hO6 hb6
    have hb46:=((Below.refl (w.heap.size+1) w4).alloc (by omega) (.cells #[.int .i64 (k:Int)] 3)).trans hb6
    have hB6:=hB4.trans (hb46.mono (by omega))
    have hc6:=(hb46.cell (p:=⟨w.heap.size,3,none⟩) (Nat.lt_succ_self _)).trans hc4
    have hz6:w.heap.size<w6.heap.size:=by have:=hb46.size;omega
    have hLn6:Hid (L6=posW (fun s=>decide (m.ot s.toNat x=o)) l (k+1)):=by unfold Hid;rw [hL6.out,hLn.out]
    clear hO4 hB4 hc4 hb6 hb46
    go_wp2
    go_roundw
    case rel=>exact ⟨k+1,a6,c6,L6,by omega,by go_num,rfl,hLn6,hO6,hc6,hz6,hB6⟩
    case measure=>simp [intOf];omega
   have heb:(t0==o)=false:=by simp [he]
   rw [if_neg he,List.append_nil] at hLn
   have hLn6:Hid (L=posW (fun s=>decide (m.ot s.toNat x=o)) l (k+1)):=hLn.out.symm
   clear he
   go_upto_region 5 with (fail)
   refine wp_quiet_fast (by kernel_rfl) (by kernel_rfl) ?_
   repeat (first|go_big_quiet_step (fail)|quiet_step (fail))
   refine wpQuiet_nil ?_
   intro _ hw'
   obtain ⟨nq,hw''⟩:=hw'
   subst hw''
   have hd:=below_drewN wo.heap.size wo nq
   have hO4:=hO.below hd
   have hB4:=hB.trans (hd.mono (by omega))
   have hc4:=p1 nq
   have hz4:w.heap.size<(wo.drewN nq).heap.size:=by have:=hd.size;omega
   clear p1 p2 p3 p4 hd hO hB hc hz hcs hn1 htc
   generalize wo.drewN nq=w4 at*
   go_wp2
   go_roundw
   case rel=>exact ⟨k+1,a2,c2,L,by omega,by go_num,rfl,hLn6,hO4,hc4,hz4,hB4⟩
   case measure=>simp [intOf];omega
  have hkn:Hid (L=posW (fun s=>decide (m.ot s.toNat x=o)) l l.length):=by unfold Hid;rw [hL.out,show k=l.length by omega]
  have hS:=hO.fresh (n:=w.heap.size) (by omega)
  go_wp2
  go_ret
  exact ⟨a2,c2,L,rfl,hkn,hS,hB⟩
end
end Go.Proofs.YtknhegdepbmmlaaGreat
