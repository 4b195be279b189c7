/- Several texts, one behind the other. Conditions: as each of them says. -/
import Derived.Test.YtjagagpcjpcjjaaGreatMc44
import Derived.Test.YtjagagpcjpcjjaaGreatMc43
import Derived.Test.YtjagagpcjpcjjaaGreatMc39
import Derived.Test.YtjagagpcjpcjjaaGreatMc35
import Derived.Test.YtjagagpcjpcjjaaGreatMc30
import Derived.Test.YtjagagpcjpcjjaaGreatMc29
import Derived.Test.YtjagagpcjpcjjaaGreatMc26
import Derived.Test.YtjagagpcjpcjjaaGreatMc25
import Derived.Test.YtjagagpcjpcjjaaGreatMc23
import Derived.Test.YtjagagpcjpcjjaaGreatMc21
import Derived.Test.YtjagagpcjpcjjaaGreatMc19
import Derived.Test.YtjagagpcjpcjjaaGreatMc7
import Derived.Test.YtjagagpcjpcjjaaGreatMc3
import Derived.Test.YtjagagpcjpcjjaaGreatMc1
set_option maxRecDepth 100000
set_option maxHeartbeats 32000000
namespace Go.Proofs.YtjagagpcjpcjjaaGreat
open Go.RowKit
theorem Bd.new {w:World} {an ao:Option Addr} {cn co:Nat} {m:Mach} {n0:Nat} (hn:n0≤w.heap.size):Bd n0 (fun k=>k=w.heap.size) (w.alloc (.cells #[.int .i64 m.inputs,.int .i64 m.start,.slice an m.next.length cn,.slice ao m.out.length co,.slice none 0 0] 169)) w.heap.size an cn ao co m (.slice none 0 0) []:=by
 refine ⟨⟨?_,?_,?_,?_⟩,?_,?_,NdOk.nil,rfl,fun k hk=> ?_,fun k hk=>Nat.le_of_eq hk.symm,hn⟩
 ·simp
 ·simp
 ·simp
 ·simp
 ·simp
 ·unfold World.frozen?;rw [heap_alloc_new];simp
 subst hk;simp
def Mach.adsL (m:Mach):List Nd:=m.grow 4097 [] ⟨allS m.next.length,allS m.next.length⟩ []
def Mach.adsB (m:Mach):List Nd×Bool×Int:=if m.minErr≠0 then ([],false,m.minErr) else if 4096<m.adsL.length then ([],false,11) else (m.adsL,complB m.adsL,0)
theorem cell_of_heap {w:World} {b:Nat} {v:Value} {T:TypeId} (h:w.heap[b]? =some (.cells #[v] T (0,0))):w.cell? ⟨b,0,none⟩=some v:=by simp [World.cell?,h]
theorem frozen_of_heap {w:World} {b:Nat} {v:Value} {T:TypeId} (h:w.heap[b]? =some (.cells #[v] T (0,0))):w.frozen? ⟨b,0,none⟩=false:=by simp [World.frozen?,h]
section
variable {M:Nat→Prop} {w:World} {an ao:Option Addr} {cn co:Nat} {m:Mach}
theorem gbuild_any (hm:Ma M w an cn ao co m) (hn:Hid (m.next.length<1000)):
    Calls Tryz.prog 82 #[maV m an cn ao co] w fun e w'=>∃(a:Option Addr) (c:Nat) (L:List Nd) (y:Bool) (e1:Int),e= .returned (.tuple #[.agg #[.slice a L.length c],.bool y,.int .i64 e1])∧
     Hid (m.adsB=(L,y,e1))∧Sl (fun k=>k<w.heap.size) w' a c L∧Below w.heap.size w w':=by
 have hB0:=(Below.refl w.heap.size w).alloc (Nat.le_refl _) (maO m an cn ao co)
 have hx0:C4 (w.alloc (maO m an cn ao co)) w.heap.size an cn ao co m:=c4_new w
 have hB1:=hB0.alloc (by simp) (.cells #[.slice none 0 0] 119)
 have hx1:=hx0.below ((Below.refl (w.heap.size+1) (w.alloc (maO m an cn ao co))).alloc (by simp) (.cells #[.slice none 0 0] 119)) (by omega)
 have hr1:Hid (((w.alloc (maO m an cn ao co)).alloc (.cells #[.slice none 0 0] 119)).heap[w.heap.size+1]? =some (.cells #[.slice none 0 0] 119 (0,0))):=by
  have:=heap_alloc_new (w.alloc (maO m an cn ao co)) (.cells #[.slice none 0 0] 119)
  unfold Hid
  simpa using this
 have hz1:((w.alloc (maO m an cn ao co)).alloc (.cells #[.slice none 0 0] 119)).heap.size=w.heap.size+2:=by simp
 have HM:=Lib.hid hm
 have HCk:=Lib.hid (dcheck_any (hm.below hB1))
 clear hm hB0 hx0
 go_enter Tryz.func82,Tryz.ntmps82
 go_upto_region 1 with (fail)
 generalize (w.alloc (maO m an cn ao co)).alloc (.cells #[.slice none 0 0] 119)=w1 at*
 go_upto_region 2 with (refine (HCk.out).mono ?_;rintro e w2 ⟨rfl,hb2⟩)
 have hx2:=hx1.below hb2 (by omega)
 have hB2:=hB1.trans (hb2.mono (by omega))
 have hr2:Hid (w2.heap[w.heap.size+1]? =some (.cells #[.slice none 0 0] 119 (0,0))):=(hb2.block _ (by omega)).trans hr1.out
 have hz2:w.heap.size+2≤w2.heap.size:=by have:=hb2.size;omega
 clear hx1 hB1 hr1 hb2 hz1 HCk
 have hc2:=cell_of_heap hr2.out
 have hf2:=frozen_of_heap hr2.out
 by_cases he:m.minErr=0
 ·have he':(m.minErr !=0)=false:=by simp [he]
  have HE:=Lib.hid he
  have ok:Hid m.Ok:=Mach.ok_of_err m (Mach.minErr_ok HE.out).1
  clear he
  go_upto_region 5 with (fail)
  have hba:=(Below.refl w2.heap.size w2).alloc (Nat.le_refl _) (.cells #[.int .i64 m.inputs,.int .i64 m.start,.slice an m.next.length cn,.slice ao m.out.length co,.slice none 0 0] 169)
  have hBd3:Bd (w.heap.size+2) _ _ w2.heap.size an cn ao co m (.slice none 0 0) []:=Bd.new (by omega)
  have hx3:=hx2.below hba (by omega)
  have hB3:=hB2.trans (hba.mono (by omega))
  have hr3:Hid ((w2.alloc (.cells #[.int .i64 m.inputs,.int .i64 m.start,.slice an m.next.length cn,.slice ao m.out.length co,.slice none 0 0] 169)).heap[w.heap.size+1]? =some (.cells #[.slice none 0 0] 119 (0,0))):=(hba.block _ (by omega)).trans hr2.out
  clear hx2 hB2 hr2 hba hc2 hf2
  generalize w2.alloc (.cells #[.int .i64 m.inputs,.int .i64 m.start,.slice an m.next.length cn,.slice ao m.out.length co,.slice none 0 0] 169)=w3 at*
  refine wp_region_T (fun w'=>C4 w' w.heap.size an cn ao co m) [0,1,3,5] (by kernel_rfl) ?_
  have hbd:=(Below.refl w3.heap.size w3).drew
  have hBd4:=hBd3.below hbd
  have hx4:=hx3.below hbd (by have:=hBd3.size;omega)
  have hB4:=hB3.trans (hbd.mono (by have:=hBd3.size;omega))
  have hr4:Hid (w3.drew.heap[w.heap.size+1]? =some (.cells #[.slice none 0 0] 119 (0,0))):=hr3.out
  clear hBd3 hx3 hB3 hr3 hbd
  generalize w3.drew=w4 at*
  have hz4:w2.heap.size<w4.heap.size:=hBd4.size
  have HS1:=Lib.hid (dstates_any (HM.out.below hB4) (by have:=hn.out;omega))
  refine skT_on [0,1,3] ?_
  repeat (refine skT_take (v:= ?_) rfl ?_ ?_;rotate_left;(focus (intro w' hSw;(try dsimp only at hSw);go_simp;try with_reducible rfl));try simp only [Act.put,List.setIfInBounds_toArray,List.set_cons_zero,List.set_cons_succ])
  refine skT_off ?_
  refine wpAnyT_one (i:=2) (by kernel_rfl) rfl rfl (fun K hK=> ?_)
  go_simp
  refine (HS1.out).mono ?_
  rintro e w5 ⟨a5,c5,I5,rfl,hI5,hI5s,hb5⟩
  have hBd5:=hBd4.below hb5
  have hx5:=hx4.below hb5 (by omega)
  have hB5:=hB4.trans (hb5.mono (by omega))
  have hr5:Hid (w5.heap[w.heap.size+1]? =some (.cells #[.slice none 0 0] 119 (0,0))):=(hb5.block _ (by omega)).trans hr4.out
  replace hI5s:=hI5s.anti (M':=fun k=>k=w2.heap.size) (fun k _ hm=>by omega)
  have hz5:w2.heap.size<w5.heap.size:=hBd5.size
  refine hK _ _ (fun _=>hx5) ?_
  clear hK K hBd4 hx4 hB4 hr4 hz4 hb5 HS1
  have HS2:=Lib.hid (dstates_any (HM.out.below hB5) (by have:=hn.out;omega))
  refine wpAnyT_one (i:=4) (by kernel_rfl) rfl rfl (fun K hK=> ?_)
  go_simp
  refine (HS2.out).mono ?_
  rintro e w6 ⟨a6,c6,I6,rfl,hI6,hI6s,hb6⟩
  have hBd6:=hBd5.below hb6
  have hx6:=hx5.below hb6 (by omega)
  have hB6:=hB5.trans (hb6.mono (by omega))
  have hr6:Hid (w6.heap[w.heap.size+1]? =some (.cells #[.slice none 0 0] 119 (0,0))):=(hb6.block _ (by omega)).trans hr5.out
  have hI56s:=hI5s.below hb6
  replace hI6s:=hI6s.anti (M':=fun k=>k=w2.heap.size) (fun k _ hm=>by omega)
  have hz6:w2.heap.size<w6.heap.size:=hBd6.size
  refine hK _ _ (fun _=>hx6) ?_
  have hMw:Ma (fun k=>k=w2.heap.size) w6 an cn ao co m:=HM.out.ext ⟨hB6.size,fun k hk _=>hB6.block k hk,fun k hk h=>by omega⟩
  clear hK K hBd5 hx5 hB5 hr5 hz5 hb6 HS2 hI5s
  have hI5l:Hid (I5.length=m.next.length):=by unfold Hid;rw [hI5.out,allS_len]
  have hI6l:Hid (I6.length=m.next.length):=by unfold Hid;rw [hI6.out,allS_len]
  have hgok:Hid (GOk m.next.length ⟨I5,I6⟩):=⟨by rw [hI5.out,hI6.out],by show 0<List.length I6;rw [hI6l.out];exact ok.out.n0,fun s hs=>by
   have hs:s∈I6:=hs
   rw [hI6.out] at hs
   unfold allS at hs
   obtain ⟨k,hk,rfl⟩:=List.mem_map.1 hs
   have:=List.mem_range.1 hk
   omega⟩
  have HGr:=Lib.hid (tgrow_any 4097 (u:=[]) hBd6 hMw hI56s hI6s (Sl.nil (α:=Int) _ _ none (c:=0) (by unfold maxLen;omega)) ok hgok (by show Hid (List.length I6<1000);unfold Hid;rw [hI6l.out];exact hn.out) (fun y hy=>by simp at hy) (by simp [Hid]) (by simp [Hid]))
  have hgr:Hid (m.grow 4097 [] ⟨I5,I6⟩ []=m.adsL):=by unfold Hid Mach.adsL;rw [hI5.out,hI6.out]
  refine skT_on [5] ?_
  repeat (refine skT_take (v:= ?_) rfl ?_ ?_;rotate_left;(focus (intro w' hSw;(try dsimp only at hSw);go_simp;try with_reducible rfl));try simp only [Act.put,List.setIfInBounds_toArray,List.set_cons_zero,List.set_cons_succ])
  refine skT_off ?_
  refine wpAnyT_one (i:=6) (by kernel_rfl) rfl rfl (fun K hK=> ?_)
  go_simp
  refine (HGr.out).mono ?_
  rintro e w7 ⟨W7,v7,rfl,hBd7,hE7,hb7⟩
  rw [hgr.out] at hBd7
  have hB7:=hB6.trans (hb7.mono (by omega))
  have hr7:Hid (w7.heap[w.heap.size+1]? =some (.cells #[.slice none 0 0] 119 (0,0))):=(hb7.block _ (by omega)).trans hr6.out
  refine hK _ _ (fun _=>hx6.below hb7 (by omega)) ?_
  clear hK K
  refine wpAnyT_done (by kernel_rfl) ?_ _
  clear hBd6 hx6 hB6 hr6 hI56s hI6s hz6 hMw hI5l hI6l hgok HGr hgr hE7 hb7 hI5 hI6
  obtain ⟨L,hL⟩:∃L,Hid (L=m.adsL):=⟨_,rfl⟩
  rw [←hL.out] at hBd7
  obtain ⟨aL,cL,rfl,hcL,hcM⟩:=hBd7.len
  have hnd7:=hBd7.nd
  have hz7:w.heap.size+2≤w7.heap.size:=by have:=hBd7.size;omega
  have hc7:=cell_of_heap hr7.out
  have hf7:=frozen_of_heap hr7.out
  have hLs:Hid (Sl (fun k=>k<w.heap.size+2) w7 aL cL L):=hBd7.ok.toSl (fun k hk=>by omega) (fun k hk hm=> .inr hm)
  by_cases hfull:4096<L.length
  ·have hR:Hid (m.adsB=([],false,11)):=by unfold Hid Mach.adsB;rw [if_neg (by simp [HE.out]),←hL.out,if_pos hfull]
   go_wp2
   have hc3:=World.cell?_setCell_same w7 ⟨w.heap.size+1,0,none⟩ (.slice none 0 0) hc7
   have hBf:=hB7.setCell (p:=⟨w.heap.size+1,0,none⟩) (by simp) (.slice none 0 0)
   generalize w7.setCell ⟨w.heap.size+1,0,none⟩ (.slice none 0 0)=wf at*
   exact bodyPost_ret (v:= .tuple #[.agg #[.slice none 0 0],.bool false,.int .i64 11]) (by simp [results,Tryz.results82,go_sem,hc3]) rfl ⟨none,0,[],false,11,rfl,hR,Sl.nil _ _ _ (by unfold maxLen;omega),hBf⟩
  have hR:Hid (m.adsB=(L,complB L,0)):=by unfold Hid Mach.adsB;rw [if_neg (by simp [HE.out]),←hL.out,if_neg hfull]
  go_upto_region 9 with (fail)
  have hba:=(Below.refl w7.heap.size w7).alloc (Nat.le_refl _) (.cells #[.slice aL L.length cL] 119)
  have hB8:=hB7.trans (hba.mono (by omega))
  have hr8:Hid ((w7.alloc (.cells #[.slice aL L.length cL] 119)).heap[w.heap.size+1]? =some (.cells #[.slice none 0 0] 119 (0,0))):=(hba.block _ (by omega)).trans hr7.out
  have ht8:Hid ((w7.alloc (.cells #[.slice aL L.length cL] 119)).heap[w7.heap.size]? =some (.cells #[.slice aL L.length cL] 119 (0,0))):=heap_alloc_new _ _
  have hL8:Hid (Sl (fun k=>k<w.heap.size+2) (w7.alloc (.cells #[.slice aL L.length cL] 119)) aL cL L):=hLs.out.below hba
  have hs8:w7.heap.size<(w7.alloc (.cells #[.slice aL L.length cL] 119)).heap.size:=by simp
  clear hba hB7 hr7 hLs hBd7 hnd7 hc7 hf7
  generalize w7.alloc (.cells #[.slice aL L.length cL] 119)=w8 at*
  refine wp_region_T (fun w'=>w'.cell? ⟨w7.heap.size,0,none⟩=some (.slice aL L.length cL)) [0,1,4,5] (by kernel_rfl) ?_
  have hbd:=(Below.refl w8.heap.size w8).drew
  have hB9:=hB8.trans (hbd.mono (by omega))
  have hr9:Hid (w8.drew.heap[w.heap.size+1]? =some (.cells #[.slice none 0 0] 119 (0,0))):=hr8.out
  have ht9:Hid (w8.drew.heap[w7.heap.size]? =some (.cells #[.slice aL L.length cL] 119 (0,0))):=ht8.out
  have hL9:Hid (Sl (fun k=>k<w.heap.size+2) w8.drew aL cL L):=hL8.out.below hbd
  have hs9:w7.heap.size<w8.drew.heap.size:=hs8
  clear hbd hB8 hr8 ht8 hL8 hs8
  generalize w8.drew=w9 at*
  have hS9:=cell_of_heap ht9.out
  have HCo:=Lib.hid (compl_any hL9.out (Lib.hid (by omega)))
  refine skT_on [0,1] ?_
  repeat (refine skT_take (v:= ?_) rfl ?_ ?_;rotate_left;(focus (intro w' hSw;(try dsimp only at hSw);go_simp;try with_reducible rfl));try simp only [Act.put,List.setIfInBounds_toArray,List.set_cons_zero,List.set_cons_succ])
  refine skT_off ?_
  refine wpAnyT_one (i:=2) (by kernel_rfl) rfl rfl (fun K hK=> ?_)
  go_simp
  refine (HCo.out).mono ?_
  rintro e w10 ⟨rfl,hb10⟩
  have hB10:=hB9.trans (hb10.mono (by omega))
  have hr10:Hid (w10.heap[w.heap.size+1]? =some (.cells #[.slice none 0 0] 119 (0,0))):=(hb10.block _ (by omega)).trans hr9.out
  have ht10:Hid (w10.heap[w7.heap.size]? =some (.cells #[.slice aL L.length cL] 119 (0,0))):=(hb10.block _ hs9).trans ht9.out
  have hL10:=Lib.hid (hL9.out.below hb10)
  have hS10:=cell_of_heap ht10.out
  refine hK _ _ (fun _=>hS10) ?_
  clear hK K HCo hB9 hr9 ht9 hL9 hs9 hS9 hb10
  have hc10:=cell_of_heap hr10.out
  have hf10:=frozen_of_heap hr10.out
  refine wpAnyT_one (i:=3) (by kernel_rfl) rfl rfl (fun K hK=> ?_)
  go_simp
  have hS11:=(World.cell?_setCell_other w10 ⟨w.heap.size+1,0,none⟩ ⟨w7.heap.size,0,none⟩ (.slice aL L.length cL) (fun e=>by have:=(Addr.mk.inj e).1;omega)).trans hS10
  refine hK _ _ (fun _=>hS11) ?_
  clear hK K
  have hc11:=World.cell?_setCell_same w10 ⟨w.heap.size+1,0,none⟩ (.slice aL L.length cL) hc10
  have hB11:=hB10.setCell (p:=⟨w.heap.size+1,0,none⟩) (by simp) (.slice aL L.length cL)
  have hL11:Sl (fun k=>k<w.heap.size) (w10.setCell ⟨w.heap.size+1,0,none⟩ (.slice aL L.length cL)) aL cL L:=(hL10.out.ext (Ext.setCell w10 (p:=⟨w.heap.size+1,0,none⟩) (by show w.heap.size+1<w.heap.size+2;omega) (.slice aL L.length cL))).anti (fun k _ hk=>by omega)
  generalize w10.setCell ⟨w.heap.size+1,0,none⟩ (.slice aL L.length cL)=wf at*
  refine skT_on [4,5] ?_
  repeat (refine skT_take (v:= ?_) rfl ?_ ?_;rotate_left;(focus (intro w' hSw;(try dsimp only at hSw);go_simp;try with_reducible rfl));try simp only [Act.put,List.setIfInBounds_toArray,List.set_cons_zero,List.set_cons_succ])
  refine skT_off ?_
  refine wpAnyT_done (by kernel_rfl) ?_ _
  go_wp2
  exact bodyPost_ret (v:= .tuple #[.agg #[.slice aL L.length cL],.bool (complB L),.int .i64 0]) (by simp [results,Tryz.results82,go_sem,hc11]) rfl ⟨aL,cL,L,complB L,0,rfl,hR,hL11,hB11⟩
 have he':(m.minErr !=0)=true:=by simp [he]
 have hR:Hid (m.adsB=([],false,m.minErr)):=by unfold Hid Mach.adsB;rw [if_pos he]
 clear he
 go_wp2
 have hc3:=World.cell?_setCell_same w2 ⟨w.heap.size+1,0,none⟩ (.slice none 0 0) hc2
 have hBf:=hB2.setCell (p:=⟨w.heap.size+1,0,none⟩) (by simp) (.slice none 0 0)
 generalize w2.setCell ⟨w.heap.size+1,0,none⟩ (.slice none 0 0)=wf at*
 exact bodyPost_ret (v:= .tuple #[.agg #[.slice none 0 0],.bool false,.int .i64 m.minErr]) (by simp [results,Tryz.results82,go_sem,hc3]) rfl ⟨none,0,[],false,m.minErr,rfl,hR,Sl.nil _ _ _ (by unfold maxLen;omega),hBf⟩
end
def Mach.adsChk (m:Mach) (T:List Nd):Int:=if m.minErr≠0 then m.minErr else if 4096<T.length then 1 else if m.right T (T.length+1) 0 ⟨allS m.next.length,allS m.next.length⟩=(T.length,true) then 0 else 1
theorem allS_ok {m:Mach} (ok:m.Ok) {I J:List Int} (hI:I=allS m.next.length) (hJ:J=allS m.next.length):GOk m.next.length ⟨I,J⟩:=by
 subst hI hJ
 refine ⟨rfl,by show 0<(allS m.next.length).length;rw [allS_len];exact ok.n0,fun s hs=> ?_⟩
 have hs:s∈allS m.next.length:=hs
 unfold allS at hs
 obtain ⟨k,hk,rfl⟩:=List.mem_map.1 hs
 have:=List.mem_range.1 hk
 omega
section
variable {M MT:Nat→Prop} {w:World} {an ao aT:Option Addr} {cn co cT:Nat} {m:Mach} {T:List Nd}
theorem gcheck_any (hm:Ma M w an cn ao co m) (hT:Sl MT w aT cT T) (hn:Hid (m.next.length<1000)) (hTn:Hid (T.length<1000000000)):
    Calls Tryz.prog 135 #[maV m an cn ao co,.agg #[.slice aT T.length cT]] w fun e w'=>e= .returned (.int .i64 (m.adsChk T))∧Below w.heap.size w w':=by
 have hB0:=(Below.refl w.heap.size w).alloc (Nat.le_refl _) (maO m an cn ao co)
 have hx0:C4 (w.alloc (maO m an cn ao co)) w.heap.size an cn ao co m:=c4_new w
 have hB1:=hB0.alloc (by simp) (.cells #[.slice aT T.length cT] 119)
 have hx1:=hx0.below ((Below.refl (w.heap.size+1) (w.alloc (maO m an cn ao co))).alloc (by simp) (.cells #[.slice aT T.length cT] 119)) (by omega)
 have ht1:((w.alloc (maO m an cn ao co)).alloc (.cells #[.slice aT T.length cT] 119)).cell? ⟨w.heap.size+1,0,none⟩=some (.slice aT T.length cT):=by simp
 have hz1:((w.alloc (maO m an cn ao co)).alloc (.cells #[.slice aT T.length cT] 119)).heap.size=w.heap.size+2:=by simp
 have l5:=hT.le
 have HM:=Lib.hid hm
 have HT:=Lib.hid hT
 have HCk:=Lib.hid (dcheck_any (hm.below hB1))
 clear hm hT hB0 hx0
 go_enter Tryz.func135,Tryz.ntmps135
 go_upto_region 1 with (fail)
 generalize (w.alloc (maO m an cn ao co)).alloc (.cells #[.slice aT T.length cT] 119)=w1 at*
 go_upto_region 2 with (refine (HCk.out).mono ?_;rintro e w2 ⟨rfl,hb2⟩)
 have hx2:=hx1.below hb2 (by omega)
 have hB2:=hB1.trans (hb2.mono (by omega))
 have ht2:=(hb2.cell (p:=⟨w.heap.size+1,0,none⟩) (by show w.heap.size+1<_;omega)).trans ht1
 have hz2:w.heap.size+2≤w2.heap.size:=by have:=hb2.size;omega
 clear hx1 hB1 hb2 hz1 HCk ht1
 by_cases he:m.minErr=0
 ·have he':(m.minErr !=0)=false:=by simp [he]
  have HE:=Lib.hid he
  have ok:Hid m.Ok:=Mach.ok_of_err m (Mach.minErr_ok HE.out).1
  clear he
  by_cases hbig:4096<T.length
  ·have hR:Hid ((1:Int)=m.adsChk T):=by unfold Hid Mach.adsChk;rw [if_neg (by simp [HE.out]),if_pos hbig]
   go_wp2
   go_ret
   exact ⟨by rw [←hR.out];rfl,hB2⟩
  have hbig2:=Lib.hid hbig
  go_upto_region 7 with (fail)
  have hba:=(Below.refl w2.heap.size w2).alloc (Nat.le_refl _) (.cells #[.int .i64 m.inputs,.int .i64 m.start,.slice an m.next.length cn,.slice ao m.out.length co,.slice none 0 0] 169)
  have hc3:C4 (w2.alloc (.cells #[.int .i64 m.inputs,.int .i64 m.start,.slice an m.next.length cn,.slice ao m.out.length co,.slice none 0 0] 169)) w2.heap.size an cn ao co m:=⟨by simp,by simp,by simp,by simp⟩
  have hx3:=hx2.below hba (by omega)
  have hB3:=hB2.trans (hba.mono (by omega))
  have ht3:=(hba.cell (p:=⟨w.heap.size+1,0,none⟩) (by show w.heap.size+1<_;omega)).trans ht2
  have hz3:w2.heap.size<(w2.alloc (.cells #[.int .i64 m.inputs,.int .i64 m.start,.slice an m.next.length cn,.slice ao m.out.length co,.slice none 0 0] 169)).heap.size:=by simp
  clear hx2 hB2 ht2 hba
  generalize w2.alloc (.cells #[.int .i64 m.inputs,.int .i64 m.start,.slice an m.next.length cn,.slice ao m.out.length co,.slice none 0 0] 169)=w3 at*
  refine wp_region_T (fun w'=>C4 w' w.heap.size an cn ao co m∧w'.cell? ⟨w.heap.size+1,0,none⟩=some (.slice aT T.length cT)) [0,1,2,4,6,8,9,10,11,12] (by kernel_rfl) ?_
  have hbd:=(Below.refl w3.heap.size w3).drew
  have hc4:=hc3.below hbd hz3
  have hB4:=hB3.trans (hbd.mono (by omega))
  have hS4:=And.intro (hx3.below hbd (by omega)) ((hbd.cell (p:=⟨w.heap.size+1,0,none⟩) (by show w.heap.size+1<_;omega)).trans ht3)
  have hz4:w2.heap.size<w3.drew.heap.size:=hz3
  clear hc3 hx3 hB3 ht3 hbd hz3
  generalize w3.drew=w4 at*
  have HS1:=Lib.hid (dstates_any (HM.out.below hB4) (by have:=hn.out;omega))
  refine skT_on [0,1,2,4] ?_
  repeat (refine skT_take (v:= ?_) rfl ?_ ?_;rotate_left;(focus (intro w' hSw;(try dsimp only at hSw);go_simp;try with_reducible rfl));try simp only [Act.put,List.setIfInBounds_toArray,List.set_cons_zero,List.set_cons_succ])
  refine skT_off ?_
  refine wpAnyT_one (i:=3) (by kernel_rfl) rfl rfl (fun K hK=> ?_)
  go_simp
  refine (HS1.out).mono ?_
  rintro e w5 ⟨a5,c5,I5,rfl,hI5,hI5s,hb5⟩
  have hc5:=hc4.below hb5 hz4
  have hB5:=hB4.trans (hb5.mono (by omega))
  have hS5:=And.intro (hS4.1.below hb5 (by omega)) ((hb5.cell (p:=⟨w.heap.size+1,0,none⟩) (by show w.heap.size+1<_;omega)).trans hS4.2)
  have hz5:w2.heap.size<w5.heap.size:=by have:=hb5.size;omega
  refine hK _ _ (fun _=>hS5) ?_
  clear hK K hc4 hB4 hS4 hz4 hb5 HS1
  have HS2:=Lib.hid (dstates_any (HM.out.below hB5) (by have:=hn.out;omega))
  refine wpAnyT_one (i:=5) (by kernel_rfl) rfl rfl (fun K hK=> ?_)
  go_simp
  refine (HS2.out).mono ?_
  rintro e w6 ⟨a6,c6,I6,rfl,hI6,hI6s,hb6⟩
  have hc6:=hc5.below hb6 hz5
  have hB6:=hB5.trans (hb6.mono (by omega))
  have hS6:=And.intro (hS5.1.below hb6 (by omega)) ((hb6.cell (p:=⟨w.heap.size+1,0,none⟩) (by show w.heap.size+1<_;omega)).trans hS5.2)
  have hz6:w2.heap.size<w6.heap.size:=by have:=hb6.size;omega
  have hI56s:=hI5s.below hb6
  refine hK _ _ (fun _=>hS6) ?_
  clear hK K hc5 hB5 hS5 hz5 hb6 HS2 hI5s
  have hgok:Hid (GOk m.next.length ⟨I5,I6⟩):=allS_ok ok.out hI5.out hI6.out
  have HRi:=Lib.hid (right_any (T.length+1) (at':=0) (g:=⟨I5,I6⟩) hc6 hz6 (HM.out.below hB6) (HT.out.below hB6) hI56s hI6s ok hgok (by show Hid (I6.length<1000);unfold Hid;rw [hI6.out,allS_len];exact hn.out) hTn (Lib.hid (Nat.zero_le _)) (Lib.hid (by omega)))
  have hgr:Hid (∀r,m.right T (T.length+1) 0 ⟨I5,I6⟩=r→m.right T (T.length+1) 0 ⟨allS m.next.length,allS m.next.length⟩=r):=fun r h=>by rw [←h,hI5.out,hI6.out]
  refine skT_on [6] ?_
  repeat (refine skT_take (v:= ?_) rfl ?_ ?_;rotate_left;(focus (intro w' hSw;(try dsimp only at hSw);go_simp;try with_reducible rfl));try simp only [Act.put,List.setIfInBounds_toArray,List.set_cons_zero,List.set_cons_succ])
  refine skT_off ?_
  refine wpAnyT_one (i:=7) (by kernel_rfl) rfl rfl (fun K hK=> ?_)
  go_simp
  refine (HRi.out).mono ?_
  rintro e w7 ⟨n,y,rfl,hr,hb7⟩
  have hB7:=hB6.trans (hb7.mono (by omega))
  have hS7:=And.intro (hS6.1.below hb7 (by omega)) ((hb7.cell (p:=⟨w.heap.size+1,0,none⟩) (by show w.heap.size+1<_;omega)).trans hS6.2)
  refine hK _ _ (fun _=>hS7) ?_
  have hr2:=Lib.hid (hgr.out _ hr.out)
  clear hK K hc6 hB6 hS6 hz6 hI56s hI6s HRi hr hgr hb7
  refine skT_on [8,9,10,11,12] ?_
  repeat (refine skT_take (v:= ?_) rfl ?_ ?_;rotate_left;(focus (intro w' hSw;(try dsimp only at hSw);go_simp;try with_reducible rfl));try simp only [Act.put,List.setIfInBounds_toArray,List.set_cons_zero,List.set_cons_succ])
  refine skT_off ?_
  refine wpAnyT_done (by kernel_rfl) ?_ _
  have ht7:=hS7.2
  clear hS7
  cases y with
  |false=>
   have hR:Hid ((1:Int)=m.adsChk T):=by unfold Hid Mach.adsChk;rw [if_neg (by simp [HE.out]),if_neg hbig2.out,hr2.out,if_neg (by simp)]
   go_wp2
   go_ret
   exact ⟨by rw [←hR.out];rfl,hB7⟩
  |true=>
   by_cases hnT:n=T.length
   ·have hR:Hid ((0:Int)=m.adsChk T):=by unfold Hid Mach.adsChk;rw [if_neg (by simp [HE.out]),if_neg hbig2.out,hr2.out,if_pos (by rw [hnT])]
    have hnb:((n:Int) !=(T.length:Int))=false:=by simp [hnT]
    clear hnT hr2
    go_wp2
    go_ret
    exact ⟨by rw [←hR.out];rfl,hB7⟩
   have hR:Hid ((1:Int)=m.adsChk T):=by unfold Hid Mach.adsChk;rw [if_neg (by simp [HE.out]),if_neg hbig2.out,hr2.out,if_neg (by simp [hnT])]
   have hnb:((n:Int) !=(T.length:Int))=true:=by simp;omega
   clear hnT hr2
   go_wp2
   go_ret
   exact ⟨by rw [←hR.out];rfl,hB7⟩
 have he':(m.minErr !=0)=true:=by simp [he]
 have hR:Hid (m.minErr=m.adsChk T):=by unfold Hid Mach.adsChk;rw [if_pos he]
 clear he
 go_wp2
 go_ret
 exact ⟨by rw [←hR.out];rfl,hB2⟩
end
theorem Mach.adsChk_0 {m:Mach} {T:List Nd} (h:m.adsChk T=0):m.minErr=0∧T.length≤4096∧m.right T (T.length+1) 0 ⟨allS m.next.length,allS m.next.length⟩=(T.length,true):=by
 unfold adsChk at h
 split at h
 ·rename_i h1;exact absurd h h1
 rename_i h1
 split at h
 ·simp at h
 split at h
 ·rename_i h2 h3;exact ⟨Classical.byContradiction h1,by omega,h3⟩
 simp at h
theorem Mach.wi_0 {m:Mach} {T:List Nd} (ok:m.Ok) (h:m.adsChk T=0) {s:Nat} (hs:s<m.next.length):m.Wi T 0 (s:Int):=
 ⟨_,_,_,(adsChk_0 h).2.2,List.mem_map.2 ⟨s,List.mem_range.2 hs,rfl⟩,allS_ok ok rfl rfl,(fun s hs=>(allS_ok ok rfl rfl:GOk _ ⟨allS m.next.length,allS m.next.length⟩).st s hs),by show (allS m.next.length).length≤_;rw [allS_len];exact Nat.le_refl _⟩
section
variable {M MT:Nat→Prop} {w:World} {an ao aT:Option Addr} {cn co cT:Nat} {m:Mach} {T:List Nd}
theorem gword_any (hm:Ma M w an cn ao co m) (hT:Sl MT w aT cT T) (hn:Hid (m.next.length<1000)) (hc:Hid (m.adsChk T=0)) (s:Nat) (hs:s<m.next.length):
    Calls Tryz.prog 136 #[maV m an cn ao co,.agg #[.slice aT T.length cT],.int .i64 s] w fun e w'=>∃(a:Option Addr) (c:Nat) (W:List Int) (l:Nat),e= .returned (.tuple #[.slice a W.length c,.int .i64 l,.int .i64 0])∧Hid (m.adsW T s=(W,l))∧Hid (W.length≤l∧l<T.length∧∃c,m.Wi T l c)∧Sl (fun k=>k<w.heap.size) w' a c W∧Below w.heap.size w w':=by
 have ok:Hid m.Ok:=Mach.ok_of_err m (Mach.minErr_ok (Mach.adsChk_0 hc.out).1).1
 have hT4:=Lib.hid (Mach.adsChk_0 hc.out).2.1
 have hTl:=hT4.out
 have hw0:=Lib.hid (Mach.wi_0 ok.out hc.out hs)
 have hB0:=(Below.refl w.heap.size w).alloc (Nat.le_refl _) (maO m an cn ao co)
 have hx0:C4 (w.alloc (maO m an cn ao co)) w.heap.size an cn ao co m:=c4_new w
 have hB1:=hB0.alloc (by simp) (.cells #[.slice aT T.length cT] 119)
 have hx1:=hx0.below ((Below.refl (w.heap.size+1) (w.alloc (maO m an cn ao co))).alloc (by simp) (.cells #[.slice aT T.length cT] 119)) (by omega)
 have ht1:((w.alloc (maO m an cn ao co)).alloc (.cells #[.slice aT T.length cT] 119)).cell? ⟨w.heap.size+1,0,none⟩=some (.slice aT T.length cT):=by simp
 have hz1:((w.alloc (maO m an cn ao co)).alloc (.cells #[.slice aT T.length cT] 119)).heap.size=w.heap.size+2:=by simp
 have n1:=ok.out.n1
 have l1:=hm.next.le
 have l2:=hm.out.le
 have l5:=hT.le
 have HM:=Lib.hid hm
 have HT:=Lib.hid hT
 have HCk0:=gcheck_any (hm.below hB1) (hT.below hB1) hn (Lib.hid (by omega))
 rw [hc.out] at HCk0
 have HCk:=Lib.hid HCk0
 have hW0:Hid (m.adsW T s=m.wordGo T T.length 0 s []):=rfl
 clear hm hT hB0 hx0 HCk0
 go_enter Tryz.func136,Tryz.ntmps136
 go_upto_region 1 with (fail)
 generalize (w.alloc (maO m an cn ao co)).alloc (.cells #[.slice aT T.length cT] 119)=w1 at*
 go_wp2_with fail
 refine (HCk.out).mono ?_
 rintro e w2 ⟨rfl,hb2⟩
 have hx2:=hx1.below hb2 (by omega)
 have hB2:=hB1.trans (hb2.mono (by omega))
 have ht2:=(hb2.cell (p:=⟨w.heap.size+1,0,none⟩) (by show w.heap.size+1<_;omega)).trans ht1
 have hz2:w.heap.size+2≤w2.heap.size:=by have:=hb2.size;omega
 clear hx1 hB1 hb2 hz1 HCk ht1
 have HS:Hid (∀w',Below w2.heap.size w2 w'→C4 w' w.heap.size an cn ao co m∧w'.cell? ⟨w.heap.size+1,0,none⟩=some (.slice aT T.length cT)):=fun w' h=>
  ⟨hx2.below h (by omega),(h.cell (p:=⟨w.heap.size+1,0,none⟩) (by show w.heap.size+1<_;omega)).trans ht2⟩
 have hs0:decide ((s:Int)<0)=false:=decide_eq_false (by omega)
 have hs1:decide (m.next.length≤s)=false:=decide_eq_false (by omega)
 go_upto_region 7 with (fail)
 go_wp2_with fail
 have hba:=(Below.refl w2.heap.size w2).alloc (Nat.le_refl _) (.cells #[.int .i64 (s:Int)] 3)
 have hcu:(w2.alloc (.cells #[.int .i64 (s:Int)] 3)).cell? ⟨w2.heap.size,0,none⟩=some (.int .i64 (s:Int)):=by simp
 have hcf:(w2.alloc (.cells #[.int .i64 (s:Int)] 3)).frozen? ⟨w2.heap.size,0,none⟩=false:=by unfold World.frozen?;rw [heap_alloc_new];simp
 have hcz:w2.heap.size<(w2.alloc (.cells #[.int .i64 (s:Int)] 3)).heap.size:=by simp
 go_loopw [10,11] (fun v i wr=>∃(at' c fu:Nat) (a':Option Addr) (c':Nat) (W:List Int),i= .int .i64 at'∧v= .slice a' W.length c'∧Hid (m.adsW T s=m.wordGo T fu at' c W)∧Hid (m.Wi T at' c)∧Hid (T.length≤at'+fu)∧Hid (W.length≤at')∧
  Ow (w2.heap.size+1) (fun k=>w2.heap.size+1≤k) wr 3 (.slice a' W.length c') W∧wr.cell? ⟨w2.heap.size,0,none⟩=some (.int .i64 c)∧wr.frozen? ⟨w2.heap.size,0,none⟩=false∧Below w2.heap.size w2 wr∧w2.heap.size<wr.heap.size) (fun _ i _=>T.length-(intOf i).toNat)
 case atStart=>exact ⟨0,s,T.length,none,0,[],rfl,rfl,hW0,hw0,by unfold Hid;omega,by simp [Hid],Ow.nil,hcu,hcf,hba,hcz⟩
 case round=>
  clear hW0 hw0 hba hcu hcf hcz
  obtain ⟨at',c,fu,a',c',W,rfl,rfl,hWg,hWi,hfu,hWl,hO,hcu,hcf,hB,hz⟩:=hrel
  obtain ⟨wo,rfl⟩:∃wo:World,wo=wr:=⟨_,rfl⟩
  have hwl:=Lib.hid (Mach.wi_lt hWi.out)
  have hatl:=hwl.out.1
  have hcl:c<m.next.length:=by have:=hwl.out.2.2;omega
  have hSo:=HS.out _ hB
  have hto:=hSo.2
  have hBo:=hB2.trans (hB.mono (by omega))
  obtain ⟨bT,oT,a1,c1,a2,c2,x,rfl,hx0,hx1,hx2',hxe,hxs,hxk,hxi⟩:=HT.out.at_nd hatl
  have HX1:Hid (∀w',Below w.heap.size w w'→w'.cell? ⟨bT,oT+at'*3+1,none⟩=some (.int .i64 x.inp)):=fun w' h=>(h.cell (p:=⟨bT,oT+at'*3+1,none⟩) (lt_of_cell hx1)).trans hx1
  have HX2:Hid (∀w',Below w.heap.size w w'→w'.cell? ⟨bT,oT+at'*3+2,none⟩=some (.slice a2 x.kids.length c2)):=fun w' h=>(h.cell (p:=⟨bT,oT+at'*3+2,none⟩) (lt_of_cell hx2')).trans hx2'
  clear hxs hx0 hx1 hx2'
  have hx1:=HX1.out _ hBo
  have HXK:=Lib.hid hxk
  have hxkl:=hxk.le
  clear hxk
  by_cases h0:x.inp≥0
  ·obtain ⟨xn,hxn⟩:=Int.eq_ofNat_of_zero_le h0
   obtain ⟨hxi1,k,kd,n',hkd,hko,hkb,hkt,han,hnT,hWn⟩:=Mach.wi_step ok.out hWi.out hxe.out h0
   have hxin:xn<m.inputs.toNat:=by omega
   rw [hxn] at hx1 hko hkb hWn
   have h0x:(xn:Int)≥0:=by omega
   have hkl:=some_lt hkd
   have hko2:=Lib.hid hko
   have hkd2:=Lib.hid hkd
   have hkb2:=Lib.hid hkb
   have hkt2:=Lib.hid hkt
   have hWn2:=Lib.hid hWn
   have hxn2:=Lib.hid hxn
   obtain ⟨bn,on,bo,oo,rfl,rfl⟩:=(HM.out.addr ok.out)
   clear hko hkd hkb hkt hWn hxn h0 hxi1
   obtain ⟨bk,okk,q,rfl,hkc0,hkc1,hqe, -⟩:=HXK.out.at_kd hkl
   have hqk:Hid (q=kd):=by unfold Hid;have h:=hqe.out;rw [hkd2.out] at h;simpa using h.symm
   have HK1:Hid (∀w',Below w.heap.size w w'→w'.cell? ⟨bk,okk+k*2+1,none⟩=some (.int .i64 (n':Int))):=fun w' h=>by
    rw [(h.cell (p:=⟨bk,okk+k*2+1,none⟩) (lt_of_cell hkc1)).trans hkc1,hqk.out,hkt2.out]
   obtain ⟨bn2,on2,a3,r1,c3,hbe,hn1,hr1,hS1⟩:=HM.out.next.at_row hcl
   obtain ⟨rfl,rfl⟩:bn=bn2∧on=on2:=by simpa using hbe
   have hr1n:=hS1.le
   have hrl:Hid ((r1.length:Int)=m.inputs):=by have:=ok.out.rn c hcl;rw [getD_of_some hr1.out] at this;exact this
   have hxl:xn<r1.length:=by have:=hrl.out;omega
   obtain ⟨b3,o3,t0,rfl,htc,ht0,ht64⟩:=hS1.at_int hxl
   have hnx:Hid (m.nx c xn=t0):=by unfold Hid Mach.nx;rw [getD_of_some hr1.out,getD_of_some ht0.out]
   have HN:Hid (∀w',Below w.heap.size w w'→w'.cell? ⟨bn,on+c,none⟩=some (.slice (some ⟨b3,o3,none⟩) r1.length c3)∧w'.cell? ⟨b3,o3+xn,none⟩=some (.int .i64 t0)):=fun w' h=>
    ⟨(h.cell (p:=⟨bn,on+c,none⟩) (lt_of_cell hn1)).trans hn1,(h.cell (p:=⟨b3,o3+xn,none⟩) (lt_of_cell htc)).trans htc⟩
   clear hkc0 hkc1 hqe hbe hn1 hS1 htc
   go_upto_region 10 with (fail)
   have hba:=(Below.refl wo.heap.size wo).alloc (Nat.le_refl _) (.cells #[.int .i64 (xn:Int)] 3)
   have hB4:=hB.trans (hba.mono (by omega))
   have hBw4:=hBo.trans (hba.mono (by have:=hBo.size;omega))
   have hO4:=hO.below hba
   have hcu4:=(hba.cell (p:=⟨w2.heap.size,0,none⟩) hz).trans hcu
   have hcf4:=(frozen_block (a:=⟨w2.heap.size,0,none⟩) (hba.block _ hz)).trans hcf
   have ha4:(wo.alloc (.cells #[.int .i64 (xn:Int)] 3)).cell? ⟨wo.heap.size,0,none⟩=some (.int .i64 (xn:Int)):=by simp
   have hz4:wo.heap.size<(wo.alloc (.cells #[.int .i64 (xn:Int)] 3)).heap.size:=by simp
   have hk4:=HX2.out _ hBw4
   have hOlo:=hO.lt
   clear hba hB hBo hO hcu hcf hx1 hSo hto
   generalize wo.alloc (.cells #[.int .i64 (xn:Int)] 3)=w4 at*
   have hS4:=HS.out _ hB4
   have ht4:=hS4.2
   have HIx:=Lib.hid (kidix_any hS4.1 (HM.out.below hBw4) ok c xn hcl hxin hcu4 ha4 (HXK.out.below hBw4) hkd2 (Lib.hid hko2.out) hkb2)
   go_wp2_with fail
   refine (HIx.out).mono ?_
   rintro e w5 ⟨rfl,hb5⟩
   have hB5:=hB4.trans (hb5.mono (by omega))
   have hBw5:=hBw4.trans (hb5.mono (by have:=hBw4.size;omega))
   have hO5:=hO4.below hb5
   have hcu5:=(hb5.cell (p:=⟨w2.heap.size,0,none⟩) (show w2.heap.size<w4.heap.size by omega)).trans hcu4
   have hcf5:=(frozen_block (a:=⟨w2.heap.size,0,none⟩) (hb5.block w2.heap.size (by omega))).trans hcf4
   have ha5:=(hb5.cell (p:=⟨wo.heap.size,0,none⟩) hz4).trans ha4
   have hz5:wo.heap.size<w5.heap.size:=by have:=hb5.size;omega
   clear HIx hB4 hBw4 hO4 hcu4 hcf4 ha4 hz4 hk4 hb5 hS4 ht4
   have hWl2:=hWl.out
   have hxn64:Hid (i64 (xn:Int)):=by have h:=hxi.out;rw [hxn2.out] at h;exact h
   go_wp2_with (at_builtin;refine wpList_push_o (B:=w2.heap.size+1) (M:=fun k=>w2.heap.size+1≤k) (l:=W) (y:=(xn:Int)) rfl rfl Tryz.underlying49 info_int rfl rfl (hO5.alloc _) (by simp [go_sem]) hxn64.out (by omega) (by simp;omega) ?_)
   intro a6 c6 W6 w6 hW6 hO6 hk6 hg6
   have hba:=(Below.refl w5.heap.size w5).alloc (Nat.le_refl _) (.cells #[.int .i64 (xn:Int)] 3)
   have hlo:∀k,(Value.slice a' W.length c').ownBlock=some k→w2.heap.size+1≤k∧k<wo.heap.size:=hOlo
   have hb56:Below (w2.heap.size+1) w5 w6:=((Below.refl (w2.heap.size+1) w5).alloc (by omega) _).grown hg6 (by simp;omega) (fun k hk=>(hlo k hk).1)
   have hB6:=hB5.trans (hb56.mono (by omega))
   have hBw6:=hBw5.trans (hb56.mono (by have:=hBw5.size;omega))
   have hcu6:=(hb56.cell (p:=⟨w2.heap.size,0,none⟩) (show w2.heap.size<w2.heap.size+1 by omega)).trans hcu5
   have hcf6:=(frozen_block (a:=⟨w2.heap.size,0,none⟩) (hb56.block w2.heap.size (by omega))).trans hcf5
   have hgb:=hg6.block wo.heap.size (by simp;omega) (fun e=>by have:=(hlo _ e.symm).2;omega)
   have ha6:=(World.cell?_of_block (a:=⟨wo.heap.size,0,none⟩) hgb).trans ((hba.cell (p:=⟨wo.heap.size,0,none⟩) hz5).trans ha5)
   have hz6:wo.heap.size<w6.heap.size:=by have:=hg6.size;simp at this;omega
   have hWl6:Hid (W6.length=W.length+1):=by unfold Hid;rw [hW6.out];simp
   clear hB5 hBw5 hO5 hcu5 hcf5 ha5 hz5 hg6 hk6 hba hb56 hgb
   have hS6:=HS.out _ hB6
   have ht6:=hS6.2
   have hk6:=HX2.out _ hBw6
   have hk61:=HK1.out _ hBw6
   go_upto_region 13 with (fail)
   refine wp_region_T (fun w'=>w'.cell? ⟨w.heap.size,2,none⟩=some (.slice (some ⟨bn,on,none⟩) m.next.length cn)∧w'.cell? ⟨w2.heap.size,0,none⟩=some (.int .i64 (c:Int))∧w'.cell? ⟨wo.heap.size,0,none⟩=some (.int .i64 (xn:Int))∧w'.cell? ⟨bn,on+c,none⟩=some (.slice (some ⟨b3,o3,none⟩) r1.length c3)∧w'.cell? ⟨b3,o3+xn,none⟩=some (.int .i64 t0)) [0,1,2,3,4,5,6,7] (by kernel_rfl) ?_
   have hdr:=(Below.refl w6.heap.size w6).drew
   have hB7:=hB6.trans (hdr.mono (by omega))
   have hBw7:=hBw6.trans (hdr.mono (by have:=hBw6.size;omega))
   have hO7:=hO6.below hdr
   have hcu7:w6.drew.cell? ⟨w2.heap.size,0,none⟩=some (.int .i64 (c:Int)):=hcu6
   have hcf7:w6.drew.frozen? ⟨w2.heap.size,0,none⟩=false:=hcf6
   have hSS:=And.intro (HS.out _ hB7).1.2.2.1 (And.intro hcu7 (And.intro (show w6.drew.cell? ⟨wo.heap.size,0,none⟩=some (.int .i64 (xn:Int)) from ha6) (HN.out _ hBw7)))
   have hz7:wo.heap.size<w6.drew.heap.size:=hz6
   clear hS6 ht6 hk6 hk61 hdr hB6 hBw6 hO6 hcu6 hcf6 ha6 hz6
   generalize w6.drew=w7 at*
   refine skT_on [0,1,2,3,4,5,6,7] ?_
   repeat (refine skT_take (v:= ?_) rfl ?_ ?_;rotate_left;(focus (intro w' hSw;(try dsimp only at hSw);go_simp;try with_reducible rfl));try simp only [Act.put,List.setIfInBounds_toArray,List.set_cons_zero,List.set_cons_succ])
   refine skT_off ?_
   refine wpAnyT_late (i:=8) (by kernel_rfl) (by kernel_rfl) rfl rfl (fun K hK=> ?_)
   go_simp
   refine hK _ _ ?_
   clear hK K
   refine wpAnyT_done (by kernel_rfl) ?_ _
   obtain ⟨tn,htn⟩:=Int.eq_ofNat_of_zero_le (show 0≤t0 by have h:=ok.out.nx c xn hcl hxin;rw [hnx.out] at h;exact h.1)
   have hcu8:=World.cell?_setCell_same w7 ⟨w2.heap.size,0,none⟩ (.int .i64 t0) hcu7
   have hcf8:(w7.setCell ⟨w2.heap.size,0,none⟩ (.int .i64 t0)).frozen? ⟨w2.heap.size,0,none⟩=false:=by rw [World.frozen?_setCell];exact hcf7
   have hO8:=hO7.setOtherI (p:=⟨w2.heap.size,0,none⟩) (fun k hk=>by have:=(hO7.lt k hk).1;show k≠w2.heap.size;omega) (.int .i64 t0)
   have hB8:=hB7.setCell (p:=⟨w2.heap.size,0,none⟩) (Nat.le_refl _) (.int .i64 t0)
   have hz8:w2.heap.size<(w7.setCell ⟨w2.heap.size,0,none⟩ (.int .i64 t0)).heap.size:=by simp [World.setCell];omega
   clear hSS hB7 hBw7 hO7 hcu7 hcf7 hz7
   generalize w7.setCell ⟨w2.heap.size,0,none⟩ (.int .i64 t0)=w8 at*
   have hfu2:=hfu.out
   obtain ⟨fu',hfe⟩:∃fu',fu=fu'+1:=⟨fu-1,by omega⟩
   have hWg2:Hid (m.adsW T s=m.wordGo T fu' n' tn W6):=by
    unfold Hid
    rw [hWg.out,hfe,Mach.wordGo_on hxe.out (by rw [hxn2.out];exact Int.natCast_nonneg _) (Mach.kidOf_at hkd2.out (by rw [hko2.out,hxn2.out]) (by rw [hxn2.out];exact hkb2.out)),hkt2.out,hxn2.out,hW6.out]
    show m.wordGo T fu' n' (m.nx c xn) _=_
    rw [hnx.out,htn]
   have hWi2:Hid (m.Wi T n' tn):=by
    have h:=hWn2.out
    rw [show m.nx ((c:Int)).toNat ((xn:Int)).toNat=t0 from hnx.out,htn] at h
    exact h
   have hfu3:Hid (T.length≤n'+fu'):=by unfold Hid;omega
   have hWl3:Hid (W6.length≤n'):=by unfold Hid;rw [hWl6.out];have:=hWl.out;omega
   rw [htn] at hcu8
   clear hfe hfu2 htn
   go_wp2
   go_roundw
   case rel=>exact ⟨n',tn,fu',a6,c6,W6,rfl,rfl,hWg2,hWi2,hfu3,hWl3,hO8,hcu8,hcf8,hB8,hz8⟩
   case measure=>simp [intOf];omega
  have hF:Hid (m.adsW T s=(W,at')):=by unfold Hid;rw [hWg.out];exact Mach.wordGo_stop hxe.out (by omega)
  have hfr:=hO.fresh (n:=w.heap.size) (by omega)
  go_wp2
  exact bodyPost_ret (v:= .tuple #[.slice a' W.length c',.int .i64 at',.int .i64 0]) (by simp [results,Tryz.results136,go_sem]) rfl ⟨a',c',W,at',rfl,hF,Lib.hid ⟨hWl.out,hatl,_,hWi.out⟩,hfr,hBo⟩
end
end Go.Proofs.YtjagagpcjpcjjaaGreat
namespace Go.Proofs.YtjagagpcjpcjjaaGreat
namespace Mach
variable (m:Mach)
def pathS:List Int→List Int→Option (List Int)
 |l,[]=>some l
 |l,a::w=>if (m.aft a.toNat l).2.1=true∧(m.aft a.toNat l).2.2=true then pathS (m.aft a.toNat l).1 w else none
def SafeW:List Int→List Int→Prop
 |_,[]=>False
 |l,a::w=>(m.aft a.toNat l).2.1=true∧((w=[]∧(m.aft a.toNat l).2.2=false)∨((m.aft a.toNat l).2.2=true∧SafeW (m.aft a.toNat l).1 w))
variable {m}
theorem pathS_same:∀{w l l':List Int} {a:Int},m.pathS l w=some l'→(m.aft a.toNat l').2.1=true→(m.aft a.toNat l').2.2=true→m.pathS l (w++[a])=some (m.aft a.toNat l').1
 |[],l,l',a,h,h1,h2=>by
  obtain rfl:l=l':=by simpa [pathS] using h
  simp only [List.nil_append,pathS]
  rw [if_pos ⟨h1,h2⟩]
 |b::w,l,l',a,h,h1,h2=>by
  simp only [pathS] at h
  split at h
  ·rename_i hc
   simp only [List.cons_append,pathS]
   rw [if_pos hc]
   exact pathS_same h h1 h2
  simp at h
theorem pathS_last:∀{w l l':List Int} {a:Int},m.pathS l w=some l'→(m.aft a.toNat l').2.1=true→(m.aft a.toNat l').2.2=false→m.SafeW l (w++[a])
 |[],l,l',a,h,h1,h2=>by
  obtain rfl:l=l':=by simpa [pathS] using h
  exact ⟨h1,.inl ⟨rfl,h2⟩⟩
 |b::w,l,l',a,h,h1,h2=>by
  simp only [pathS] at h
  split at h
  ·rename_i hc
   exact ⟨hc.1,.inr ⟨hc.2,pathS_last h h1 h2⟩⟩
  simp at h
def FRp (m:Mach) (l:List Int):FR→Prop
 | .go L=>∀q∈L,m.pathS l q.word=some q.st
 | .word w=>m.SafeW l w
 | .cut=>True
theorem fOne_p {l:List Int} {q:Fq} {a:Nat} {L:List Fq} (hL:∀q∈L,m.pathS l q.word=some q.st) (hq:m.pathS l q.word=some q.st):FRp m l (m.fOne q a L):=by
 unfold fOne
 split
 ·exact hL
 rename_i h1
 have h1:(m.aft a q.st).2.1=true:=by simpa using h1
 split
 ·rename_i h2
  exact pathS_last (a:=(a:Int)) hq h1 h2
 rename_i h2
 have h2:(m.aft a q.st).2.2=true:=by simpa using h2
 split
 ·exact hL
 split
 ·trivial
 intro p hp
 rcases List.mem_append.1 hp with e|e
 ·exact hL p e
 rw [List.mem_singleton.1 e]
 exact pathS_same (a:=(a:Int)) hq h1 h2
theorem fRow_p {l:List Int} {q:Fq} {L:List Fq} (hL:∀q∈L,m.pathS l q.word=some q.st) (hq:m.pathS l q.word=some q.st):∀a,FRp m l (m.fRow q L a)
 |0=>hL
 |a+1=>by
  have ih:=fRow_p hL hq a
  unfold fRow
  split
  ·rename_i K hK
   rw [hK] at ih
   exact fOne_p ih hq
  exact ih
theorem fTo_p {l:List Int}:∀i,FRp m l (m.fTo l i)
 |0=>by
  intro p hp
  obtain rfl:p=⟨l,[]⟩:=by simpa using hp
  rfl
 |i+1=>by
  have ih:=fTo_p (l:=l) i
  unfold fTo
  split
  ·rename_i L hL
   rw [hL] at ih
   split
   ·rename_i hi
    refine fRow_p ih ?_ _
    rw [List.getD_eq_getElem?_getD,List.getElem?_eq_getElem hi]
    exact ih _ (List.getElem_mem hi)
   exact ih
  exact ih
theorem findW_safe {l:List Int} (h:(m.findW l).1≠[]):m.SafeW l (m.findW l).1:=by
 have h2:=fTo_p (m:=m) (l:=l) fMax
 unfold findW at h ⊢
 cases e:m.fTo l fMax with
 |go L=>rw [e] at h;exact absurd rfl h
 |word w=>rw [e] at h2;exact h2
 |cut=>rw [e] at h;exact absurd rfl h
theorem safe_pair {a:Nat} {l:List Int}:∀{n:Nat},n≤l.length→m.safeTo a l n=true→(l.take n).Pairwise fun t s=>m.mrg a s t=false
 |0,_,_=>by simp
 |n+1,hn,h=>by
  simp only [safeTo,Bool.and_eq_true] at h
  have ih:=safe_pair (n:=n) (by omega) h.1
  have hx:l[n]? =some l[n]:=List.getElem?_eq_getElem hn
  rw [List.take_add_one,hx,List.pairwise_append]
  refine ⟨ih,by simp,fun t ht s hs=> ?_⟩
  obtain rfl:s=l[n]:=by simpa using hs
  have h2:=h.2
  unfold noMrg at h2
  rw [List.all_eq_true] at h2
  have:=h2 t ht
  rw [getD_of_some hx] at this
  simpa using this
theorem aft_safe {a:Nat} {l:List Int} (h:(m.aft a l).2.1=true):m.safeTo a l l.length=true:=by
 unfold aft at h
 split at h
 ·rename_i h1;exact h1
 simp at h
theorem aft_1 {a:Nat} {l:List Int} (h:(m.aft a l).2.1=true):(m.aft a l).1=l.map (fun s=>m.nx s.toNat a)∧(m.aft a l).2.2=m.eqTo a l l.length:=by
 have h1:=aft_safe h
 unfold aft;rw [if_pos h1];unfold nxtTo;rw [List.take_length];exact ⟨rfl,rfl⟩
theorem gpC_nodup {a:Nat} {I C:List Int} (hIC:I.length=C.length) (h:m.safeTo a C C.length=true) (o:Int):(m.gpC a I C o).Nodup:=by
 have h1:=safe_pair (Nat.le_refl _) h
 rw [List.take_length] at h1
 have hz:(I.zip C).map Prod.snd=C:=List.map_snd_zip (by omega)
 rw [←hz,List.pairwise_map] at h1
 unfold gpC
 unfold List.Nodup
 rw [List.pairwise_map]
 refine List.Pairwise.imp_of_mem ?_ (h1.filter _)
 intro p q hp hq hpq e
 have hp:=(List.mem_filter.1 hp).2
 have hq:=(List.mem_filter.1 hq).2
 have hp:m.ot p.2.toNat a=o:=by simpa using hp
 have hq:m.ot q.2.toNat a=o:=by simpa using hq
 unfold mrg at hpq
 rw [hp,hq,e] at hpq
 simp at hpq
theorem nodup_iset {l:List Int} (h:l.Nodup):¬(iset l).length≠l.length:=by
 refine difI_yes fun i j x y hi hj hx hy e=> ?_
 have hil:=some_lt hx
 have:=List.pairwise_iff_getElem.1 h j i (by omega) hil hj
 rw [List.getElem?_eq_getElem hil] at hx
 rw [List.getElem?_eq_getElem (by omega)] at hy
 have e1:l[i]=x:=by simpa using hx
 have e2:l[j]=y:=by simpa using hy
 exact this (by rw [e1,e2,e])
theorem gpC_all {a:Nat} {I C:List Int} (hIC:I.length=C.length) {o:Int} (h:∀s∈C,m.ot s.toNat a=o):m.gpC a I C o=C.map fun s=>m.nx s.toNat a:=by
 have hz:(I.zip C).map Prod.snd=C:=List.map_snd_zip (by omega)
 unfold gpC
 rw [List.filter_eq_self.2 fun p hp=>by
  have:p.2∈C:=by rw [←hz];exact List.mem_map_of_mem hp
  simp [h _ this]]
 conv=>rhs;rw [←hz]
 rw [List.map_map];rfl
structure GInv (m:Mach) (g:Gp) (w:List Int):Prop where
 ok:GOk m.next.length g
 nd:g.cur.Nodup
 wd:w=[]∨m.SafeW g.cur w
 ok2:m.okS w
theorem gWord_safe {g:Gp} {w:List Int} (h:GInv m g w) (h1:m.gWord g w≠[]):m.SafeW g.cur (m.gWord g w):=by
 unfold gWord at h1 ⊢
 split
 ·rename_i hc
  rw [if_pos hc] at h1
  exact findW_safe h1
 rename_i hc
 rw [if_neg hc] at h1
 rcases h.wd with e|e
 ·exact absurd e h1
 exact e
theorem ginv_kid {g:Gp} {w u:List Int} {a:Int} {o:Int} (ok:m.Ok) (h:GInv m g w) (hw:m.gWord g w=a::u) (ho:o∈m.outsI a.toNat g.cur):GInv m (m.grp a.toNat g.ini g.cur o) u:=by
 have hs:=gWord_safe h (by rw [hw];simp)
 have hok:=gWord_ok (g:=g) h.ok2
 rw [hw] at hs hok
 have ha:=(okS_cons hok).1
 have hI:=ok.i0
 refine ⟨grp_ok ok (by omega) h.ok ho,gpC_nodup h.ok.le (aft_safe hs.1) o,?_,(okS_cons hok).2⟩
 rcases hs.2 with ⟨e, -⟩|⟨e,hs2⟩
 ·exact .inl e
 refine .inr ?_
 have h1:=aft_1 hs.1
 have hall:∀s∈g.cur,m.ot s.toNat a.toNat=o:=by
  have e2:=h1.2
  rw [e] at e2
  have e2:=e2.symm
  unfold eqTo at e2
  rw [List.take_length,List.all_eq_true] at e2
  have hm:=ho
  unfold outsI at hm
  rw [iset_mem,List.mem_map] at hm
  obtain ⟨s0,hs0,rfl⟩:=hm
  intro s hs
  have a1:=e2 s hs
  have a2:=e2 s0 hs0
  simp only [decide_eq_true_eq] at a1 a2
  rw [a1,a2]
 show m.SafeW (m.gpC a.toNat g.ini g.cur o) u
 rw [gpC_all h.ok.le hall,←h1.1]
 exact hs2
theorem gLoop_right {f t:Nat} {u:List Int} (ih:∀(L:List Nd) (g:Gp),GInv m g u→(m.grow f L g u).length≤4096→4097≤L.length+f→∀(T:List Nd),(∀i,L.length≤i→i<(m.grow f L g u).length→T[i]? =(m.grow f L g u)[i]?)→∀F,(m.grow f L g u).length-L.length≤F→m.right T F L.length g=((m.grow f L g u).length,true)):
    ∀(ps:List (Int×Gp)) (L0:List Nd) (y:Nd),(∀p∈ps,GInv m p.2 u)→t<L0.length→L0[t]? =some y→(m.gLoop f t u ps L0).length≤4096→4097≤L0.length+f→
     ∃ks:List Kd,ks.length=ps.length∧(m.gLoop f t u ps L0)[t]? =some ⟨y.st,y.inp,y.kids++ks⟩∧
      ∀(T:List Nd),(∀i,L0.length≤i→i<(m.gLoop f t u ps L0).length→T[i]? =(m.gLoop f t u ps L0)[i]?)→∀F,(m.gLoop f t u ps L0).length-L0.length≤F→rLoop (fun n h=>m.right T F n h) (ps.zip ks) L0.length=((m.gLoop f t u ps L0).length,true)
 |[],L0,y,_,ht,hy,_,_=>⟨[],rfl,by simpa [gLoop] using hy,fun T _ F _=>rfl⟩
 |p::ps,L0,y,hp,ht,hy,hR,hf=>by
  have hpre0:=grow_pre (m:=m) f L0 p.2 u
  have hR':m.gLoop f t u (p::ps) L0=m.gLoop f t u ps (gKid (fun K h=>m.grow f K h u) t L0 p):=rfl
  have hL0:¬4096<L0.length:=by
   intro e
   rw [gLoop_cut _ _ e] at hR
   omega
  have hK:gKid (fun K h=>m.grow f K h u) t L0 p=addKid t ⟨p.1,L0.length⟩ (m.grow f L0 p.2 u):=by unfold gKid;rw [if_neg hL0]
  rw [hR',hK] at hR ⊢
  have hGt:(m.grow f L0 p.2 u)[t]? =some y:=by rw [hpre0.2 t ht];exact hy
  have hL1l:(addKid t ⟨p.1,L0.length⟩ (m.grow f L0 p.2 u)).length=(m.grow f L0 p.2 u).length:=addKid_len
  have hL1t:(addKid t ⟨p.1,L0.length⟩ (m.grow f L0 p.2 u))[t]? =some ⟨y.st,y.inp,y.kids++[⟨p.1,L0.length⟩]⟩:=by
   rw [addKid_some hGt]
   have:=some_lt hGt
   simp [this]
  have hgl:=gLoop_pre (t:=t) (u:=u) (grow_pre (m:=m) f) ps (addKid t ⟨p.1,L0.length⟩ (m.grow f L0 p.2 u))
  obtain ⟨ks,h1,h2,h3⟩:=gLoop_right ih ps (addKid t ⟨p.1,L0.length⟩ (m.grow f L0 p.2 u)) _ (fun q hq=>hp q (.tail _ hq)) (by have:=hpre0.1;omega) hL1t hR (by have:=hpre0.1;omega)
  refine ⟨⟨p.1,L0.length⟩::ks,by simp [h1],by rw [h2];simp,fun T hT F hF=> ?_⟩
  have hG:=ih L0 p.2 (hp p (.head _)) (by have:=hgl.1;omega) hf T (fun i hi1 hi2=>by
   rw [hT i hi1 (by have:=hgl.1;omega),hgl.2 i (by omega) (by omega),addKid_pre (by omega)]) F (by have:=hgl.1;omega)
  show rLoop (fun n h=>m.right T F n h) ((p,(⟨p.1,L0.length⟩:Kd))::ps.zip ks) L0.length=_
  unfold rLoop
  rw [if_neg (by simp),hG]
  show rLoop (fun n h=>m.right T F n h) (ps.zip ks) _=_
  rw [←hL1l]
  exact h3 T (fun i hi1 hi2=>hT i (by have:=hpre0.1;omega) hi2) F (by have:=hpre0.1;omega)
theorem grow_right (ok:m.Ok):∀(f:Nat) (L:List Nd) (g:Gp) (w:List Int),GInv m g w→(m.grow f L g w).length≤4096→4097≤L.length+f→∀(T:List Nd),(∀i,L.length≤i→i<(m.grow f L g w).length→T[i]? =(m.grow f L g w)[i]?)→∀F,(m.grow f L g w).length-L.length≤F→m.right T F L.length g=((m.grow f L g w).length,true)
 |0,L,g,w,h,hR,hf,T,hT,F,hF=>by
  have:(m.grow 0 L g w).length=L.length:=rfl
  omega
 |f+1,L,g,w,h,hR,hf,T,hT,F,hF=>by
  have hno:∀x:Nd,x.st=g.ini→¬(x.st≠g.ini∨(iset g.cur).length≠g.cur.length):=fun x hx e=>e.elim (fun e=>e hx) (nodup_iset h.nd)
  by_cases h0:4096<L.length+1
  ·rw [grow_full h0] at hR
   simp at hR
   omega
  cases hw:m.gWord g w with
  |nil=>
   have hG:=grow_leaf (f:=f) (L:=L) hw
   rw [hG] at hT hF hR ⊢
   obtain ⟨F',rfl⟩:∃F',F=F'+1:=⟨F-1,by simp at hF;omega⟩
   have hx:T[L.length]? =some ⟨g.ini, -1,[]⟩:=by rw [hT L.length (Nat.le_refl _) (by simp)];simp
   rw [right_leaf hx (hno _ rfl) rfl]
   simp
  |cons a u=>
   have hG:=grow_on (f:=f) (L:=L) h0 hw
   rw [hG] at hT hF hR ⊢
   have hok:=gWord_ok (g:=g) h.ok2
   rw [hw] at hok
   have ha:=(okS_cons hok).1
   obtain ⟨ks,h1,h2,h3⟩:=gLoop_right (fun L g hg=>grow_right ok f L g u hg) (m.gParts a.toNat g) (L++[⟨g.ini,a,[]⟩]) ⟨g.ini,a,[]⟩ (fun p hp=>by
    obtain ⟨k,hk⟩:=List.mem_iff_getElem?.1 hp
    have hkl:=some_lt hk
    rw [gParts_len] at hkl
    have e:=gParts_at (m:=m) (g:=g) (x:=a.toNat) (List.getElem?_eq_getElem hkl)
    rw [hk] at e
    obtain rfl:=Option.some.inj e
    exact ginv_kid ok h hw (List.getElem_mem hkl)) (t:=L.length) (by simp) (by simp) hR (by simp;omega)
   have hpre:=gLoop_pre (t:=L.length) (u:=u) (grow_pre (m:=m) f) (m.gParts a.toNat g) (L++[⟨g.ini,a,[]⟩])
   have hle:=hpre.1
   simp at hle
   obtain ⟨F',rfl⟩:∃F',F=F'+1:=⟨F-1,by omega⟩
   have hx:T[L.length]? =some ⟨g.ini,a,ks⟩:=by rw [hT L.length (Nat.le_refl _) (by omega),h2];simp
   rw [right_on hx (hno _ rfl) (show a≠ -1 by omega) (show ¬(a<0∨m.inputs≤a) by omega) (show ¬(m.gParts a.toNat g).length≠ks.length by omega)]
   have h4:=h3 T (fun i hi1 hi2=>hT i (by simp at hi1;omega) hi2) F' (by simp;omega)
   simpa using h4
theorem adsB_chk {n:Mach} (h:n.adsB.2.2=0):n.adsChk n.adsB.1=0:=by
 unfold adsB at h ⊢
 split at h
 ·rename_i h1;exact absurd h h1
 rename_i h1
 rw [if_neg h1]
 split at h
 ·simp at h
 rename_i h2
 rw [if_neg h2]
 have h1:n.minErr=0:=Classical.byContradiction h1
 have ok:=Mach.ok_of_err n (Mach.minErr_ok h1).1
 show n.adsChk n.adsL=0
 unfold adsChk
 rw [if_neg (by simp [h1]),if_neg h2,if_pos]
 have hnd:(allS n.next.length).Nodup:=by
  unfold allS List.Nodup
  rw [List.pairwise_map]
  exact List.Pairwise.imp (fun h=>by omega) List.pairwise_lt_range
 have hle:(n.grow 4097 [] ⟨allS n.next.length,allS n.next.length⟩ []).length≤4096:=by show n.adsL.length≤4096;omega
 exact grow_right ok 4097 [] ⟨allS n.next.length,allS n.next.length⟩ [] ⟨allS_ok ok rfl rfl,hnd,.inl rfl,fun y hy=>by simp at hy⟩ hle (by simp) n.adsL (fun _ _ _=>rfl) _ (by show n.adsL.length-0≤_;omega)
end Mach
namespace Mach
variable {m:Mach}
structure QInv (m:Mach) (l:List Int) (i b:Nat) (L:List Fq):Prop where
 path:∀q∈L,m.pathS l q.word=some q.st
 first:L[0]? =some ⟨l,[]⟩
 mono:∀(j k:Nat) (x y:Fq),j≤k→L[j]? =some x→L[k]? =some y→x.word.length≤y.word.length
 near:∀(q x:Fq),L[i]? =some q→x∈L→x.word.length≤q.word.length+1
 done:∀(j a:Nat) (q:Fq),(j<i∧a<m.inputs.toNat∨j=i∧a<b)→L[j]? =some q→(m.aft a q.st).2.1=true→(m.aft a q.st).2.2=true∧∃x∈L,x.st=(m.aft a q.st).1∧x.word.length≤q.word.length+1
theorem qinv_0 {l:List Int}:QInv m l 0 0 [⟨l,[]⟩]:=by
 refine ⟨fun q hq=> ?_,rfl,fun j k x y hjk hx hy=> ?_,fun q x hq hx=> ?_,fun j a q h=>by omega⟩
 ·rw [List.mem_singleton.1 hq];rfl
 ·have:=some_lt hx
  obtain rfl:j=0:=by simpa using this
  simp at hx;subst hx;simp
 rw [List.mem_singleton.1 hx];simp
theorem qinv_one {l:List Int} {i b:Nat} {L K:List Fq} {q:Fq} (h:QInv m l i b L) (hq:L[i]? =some q) (hb:m.fOne q b L= .go K):QInv m l i (b+1) K∧K[i]? =some q:=by
 have hqm:=List.mem_of_getElem? hq
 unfold fOne at hb
 split at hb
 ·rename_i h1
  obtain rfl:L=K:=by simpa using hb
  refine ⟨⟨h.path,h.first,h.mono,h.near,fun j a p hja hp hs=> ?_⟩,hq⟩
  by_cases e:j=i∧a=b
  ·obtain ⟨rfl,rfl⟩:=e
   rw [hq] at hp;obtain rfl:=Option.some.inj hp
   rw [h1] at hs;simp at hs
  exact h.done j a p (by omega) hp hs
 rename_i h1
 have h1:(m.aft b q.st).2.1=true:=by simpa using h1
 split at hb
 ·simp at hb
 rename_i h2
 have h2:(m.aft b q.st).2.2=true:=by simpa using h2
 split at hb
 ·rename_i h3
  obtain rfl:L=K:=by simpa using hb
  refine ⟨⟨h.path,h.first,h.mono,h.near,fun j a p hja hp hs=> ?_⟩,hq⟩
  by_cases e:j=i∧a=b
  ·obtain ⟨rfl,rfl⟩:=e
   rw [hq] at hp;obtain rfl:=Option.some.inj hp
   obtain ⟨x,hx,hxe⟩:=List.mem_map.1 h3
   exact ⟨h2,x,hx,hxe,h.near _ x hq hx⟩
  exact h.done j a p (by omega) hp hs
 split at hb
 ·simp at hb
 simp only [FR.go.injEq] at hb
 subst hb
 have hil:=some_lt hq
 have hq2:(L++[(⟨(m.aft b q.st).1,q.word++[(b:Int)]⟩:Fq)])[i]? =some q:=by rw [List.getElem?_append_left hil];exact hq
 have hat:∀(k:Nat) (y:Fq),(L++[(⟨(m.aft b q.st).1,q.word++[(b:Int)]⟩:Fq)])[k]? =some y→L[k]? =some y∨(k=L.length∧y=⟨(m.aft b q.st).1,q.word++[(b:Int)]⟩):=fun k y hk=>by
  by_cases e:k<L.length
  ·rw [List.getElem?_append_left e] at hk;exact .inl hk
  have:=some_lt hk
  rw [List.length_append,List.length_singleton] at this
  obtain rfl:k=L.length:=by omega
  rw [List.getElem?_append_right (Nat.le_refl _)] at hk
  simp at hk
  exact .inr ⟨rfl,hk.symm⟩
 refine ⟨⟨fun p hp=> ?_,?_,fun j k x y hjk hx hy=> ?_,fun p x hp hx=> ?_,fun j a p hja hp hs=> ?_⟩,hq2⟩
 ·rcases List.mem_append.1 hp with hp|hp
  ·exact h.path p hp
  rw [List.mem_singleton.1 hp]
  exact pathS_same (a:=(b:Int)) (h.path q hqm) h1 h2
 ·rw [List.getElem?_append_left (by omega)];exact h.first
 ·rcases hat k y hy with hy|⟨rfl,rfl⟩
  ·rcases hat j x hx with hx|⟨rfl,rfl⟩
   ·exact h.mono j k x y hjk hx hy
   have:=some_lt hy;omega
  rcases hat j x hx with hx|⟨-,rfl⟩
  ·have:=h.near q x hq (List.mem_of_getElem? hx)
   simpa using this
  exact Nat.le_refl _
 ·rw [hq2] at hp;obtain rfl:=Option.some.inj hp
  rcases List.mem_append.1 hx with hx|hx
  ·exact h.near _ x hq hx
  rw [List.mem_singleton.1 hx];simp
 rcases hat j p hp with hp'|⟨rfl,rfl⟩
 ·by_cases e:j=i∧a=b
  ·obtain ⟨rfl,rfl⟩:=e
   rw [hq] at hp';obtain rfl:=Option.some.inj hp'
   exact ⟨h2,_,List.mem_append.2 (.inr (List.mem_singleton.2 rfl)),rfl,by simp⟩
  obtain ⟨g1,x,g2,g3,g4⟩:=h.done j a p (by omega) hp' hs
  exact ⟨g1,x,List.mem_append.2 (.inl g2),g3,g4⟩
 omega
theorem qinv_row {l:List Int} {i:Nat} {L:List Fq} {q:Fq} (h:QInv m l i 0 L) (hq:L[i]? =some q):∀(b:Nat) (K:List Fq),m.fRow q L b= .go K→QInv m l i b K∧K[i]? =some q
 |0,K,hK=>by
  simp only [fRow,FR.go.injEq] at hK
  subst hK;exact ⟨h,hq⟩
 |b+1,K,hK=>by
  simp only [fRow] at hK
  cases e:m.fRow q L b with
  |go K1=>
   rw [e] at hK
   obtain ⟨h1,h2⟩:=qinv_row h hq b K1 e
   exact qinv_one h1 h2 hK
  |word w=>rw [e] at hK;simp at hK
  |cut=>rw [e] at hK;simp at hK
theorem row_word {q:Fq} {L:List Fq} {W:List Int}:∀(b:Nat),m.fRow q L b= .word W→∃c K,c<b∧m.fRow q L c= .go K∧m.fOne q c K= .word W
 |0,h=>by simp [fRow] at h
 |b+1,h=>by
  simp only [fRow] at h
  cases e:m.fRow q L b with
  |go K=>rw [e] at h;exact ⟨b,K,by omega,e,h⟩
  |word w=>
   rw [e] at h
   obtain ⟨c,K,h1,h2,h3⟩:=row_word b (e.trans h)
   exact ⟨c,K,by omega,h2,h3⟩
  |cut=>rw [e] at h;simp at h
theorem qinv_next {l:List Int} {i:Nat} {L:List Fq} (h:QInv m l i m.inputs.toNat L):QInv m l (i+1) 0 L:=by
 refine ⟨h.path,h.first,h.mono,fun q x hq hx=> ?_,fun j a q hja hq hs=> ?_⟩
 ·have hil:=some_lt hq
  have hp:L[i]? =some L[i]:=List.getElem?_eq_getElem (by omega)
  have h1:=h.near _ x hp hx
  have h2:=h.mono i (i+1) _ q (by omega) hp hq
  omega
 exact h.done j a q (by omega) hq hs
theorem qinv_to {l:List Int}:∀(i:Nat) (L:List Fq),m.fTo l i= .go L→QInv m l i 0 L
 |0,L,h=>by
  simp only [fTo,FR.go.injEq] at h
  subst h;exact qinv_0
 |i+1,L,h=>by
  simp only [fTo] at h
  cases e:m.fTo l i with
  |go K=>
   rw [e] at h
   simp only [] at h
   have ih:=qinv_to i K e
   split at h
   ·rename_i hlt
    have hq:K[i]? =some K[i]:=List.getElem?_eq_getElem hlt
    rw [getD_of_some hq] at h
    exact qinv_next (qinv_row ih hq _ L h).1
   rename_i hlt
   obtain rfl:K=L:=by simpa using h
   refine ⟨ih.path,ih.first,ih.mono,fun q x hq hx=> ?_,fun j a q hja hq hs=> ?_⟩
   ·have:=some_lt hq;omega
   have:=some_lt hq
   exact ih.done j a q (by omega) hq hs
  |word w=>rw [e] at h;simp at h
  |cut=>rw [e] at h;simp at h
theorem pathS_snoc:∀{u l l':List Int} {a:Int},m.pathS l (u++[a])=some l'→∃k,m.pathS l u=some k∧(m.aft a.toNat k).2.1=true∧(m.aft a.toNat k).2.2=true∧l'=(m.aft a.toNat k).1
 |[],l,l',a,h=>by
  simp only [List.nil_append,pathS] at h
  split at h
  ·rename_i hc;exact ⟨l,rfl,hc.1,hc.2,by simpa using h.symm⟩
  simp at h
 |b::u,l,l',a,h=>by
  simp only [List.cons_append,pathS] at h
  split at h
  ·rename_i hc
   obtain ⟨k,h1,h2,h3,h4⟩:=pathS_snoc h
   exact ⟨k,by simp only [pathS];rw [if_pos hc];exact h1,h2,h3,h4⟩
  simp at h
theorem safeW_split:∀{u v l:List Int},v≠[]→m.SafeW l (u++v)→∃k,m.pathS l u=some k∧m.SafeW k v
 |[],v,l,hv,h=>⟨l,rfl,h⟩
 |b::u,v,l,hv,h=>by
  simp only [List.cons_append,SafeW] at h
  obtain ⟨h1,h2⟩:=h
  rcases h2 with ⟨h2, -⟩|⟨h2,h3⟩
  ·simp only [List.append_eq_nil_iff] at h2;exact absurd h2.2 hv
  obtain ⟨k,h4,h5⟩:=safeW_split hv h3
  exact ⟨k,by simp only [pathS];rw [if_pos ⟨h1,h2⟩];exact h4,h5⟩
theorem safeW_append:∀{u v l k:List Int},m.pathS l u=some k→m.SafeW k v→m.SafeW l (u++v)
 |[],v,l,k,h,h2=>by
  obtain rfl:l=k:=by simpa [pathS] using h
  exact h2
 |b::u,v,l,k,h,h2=>by
  simp only [pathS] at h
  split at h
  ·rename_i hc
   exact ⟨hc.1,.inr ⟨hc.2,safeW_append h h2⟩⟩
  simp at h
theorem q_reach {l:List Int} {i b:Nat} {L:List Fq} {q:Fq} (h:QInv m l i b L) (hq:L[i]? =some q):∀(n:Nat) (v l':List Int),v.length=n→n≤q.word.length→m.okS v→m.pathS l v=some l'→∃(j:Nat) (x:Fq),L[j]? =some x∧x.st=l'∧x.word.length≤n
 |0,v,l',hn,hle,hv,hp=>by
  obtain rfl:=List.eq_nil_of_length_eq_zero hn
  obtain rfl:l=l':=by simpa [pathS] using hp
  exact ⟨0,_,h.first,rfl,by simp⟩
 |n+1,v,l',hn,hle,hv,hp=>by
  have hne:v≠[]:=fun e=>by rw [e] at hn;simp at hn
  obtain ⟨u,a,rfl⟩:∃u a,v=u++[a]:=⟨v.dropLast,v.getLast hne,(List.dropLast_concat_getLast hne).symm⟩
  obtain ⟨k,h1,h2,h3,h4⟩:=pathS_snoc hp
  have ha:=hv a (by simp)
  obtain ⟨j,x,g1,g2,g3⟩:=q_reach h hq n u k (by simpa using hn) (by omega) (fun y hy=>hv y (by simp [hy])) h1
  have hji:j<i:=by
   by_cases e:j<i
   ·exact e
   have:=h.mono i j q x (by omega) hq g1;omega
  obtain ⟨-,y,hy,hy2,hy3⟩:=h.done j a.toNat x (.inl ⟨hji,by omega⟩) g1 (by rw [g2];exact h2)
  obtain ⟨j2,hj2⟩:=List.mem_iff_getElem?.1 hy
  exact ⟨j2,y,hj2,by rw [hy2,g2,h4],by omega⟩
theorem q_short {l:List Int} {i c:Nat} {L:List Fq} {q:Fq} {W:List Int} (h:QInv m l i c L) (hq:L[i]? =some q) (hc:m.fOne q c L= .word W) {v:List Int} (hv:m.okS v) (hs:m.SafeW l v):W.length≤v.length:=by
 have hW:W.length=q.word.length+1:=by
  unfold fOne at hc
  split at hc
  ·simp at hc
  split at hc
  ·simp only [FR.word.injEq] at hc;subst hc;simp
  split at hc
  ·simp at hc
  split at hc<;>simp at hc
 have hne:v≠[]:=fun e=>by rw [e] at hs;exact hs
 obtain ⟨u,a,rfl⟩:∃u a,v=u++[a]:=⟨v.dropLast,v.getLast hne,(List.dropLast_concat_getLast hne).symm⟩
 have ha:=hv a (by simp)
 obtain ⟨k,h1,h2⟩:=safeW_split (v:=[a]) (by simp) hs
 have h3:(m.aft a.toNat k).2.1=true∧(m.aft a.toNat k).2.2=false:=by
  obtain ⟨g1,g2⟩:=h2
  rcases g2 with ⟨-,g2⟩|⟨-,g2⟩
  ·exact ⟨g1,g2⟩
  exact g2.elim
 rw [hW,List.length_append,List.length_singleton]
 by_cases e:u.length<q.word.length
 ·obtain ⟨j,x,g1,g2,g3⟩:=q_reach h hq u.length u k rfl (by omega) (fun y hy=>hv y (by simp [hy])) h1
  have hji:j<i:=by
   by_cases e:j<i
   ·exact e
   have:=h.mono i j q x (by omega) hq g1;omega
  have h5:=(h.done j a.toNat x (.inl ⟨hji,by omega⟩) g1 (by rw [g2];exact h3.1)).1
  rw [g2,h3.2] at h5
  simp at h5
 omega
theorem fTo_short {l W:List Int}:∀(i:Nat),m.fTo l i= .word W→∀v,m.okS v→m.SafeW l v→W.length≤v.length
 |0,h=>by simp [fTo] at h
 |i+1,h=>by
  intro v hv hs
  simp only [fTo] at h
  cases e:m.fTo l i with
  |go K=>
   rw [e] at h
   simp only [] at h
   split at h
   ·rename_i hlt
    have hq:K[i]? =some K[i]:=List.getElem?_eq_getElem hlt
    rw [getD_of_some hq] at h
    obtain ⟨c,K2,h1,h2,h3⟩:=row_word _ h
    obtain ⟨g1,g2⟩:=qinv_row (qinv_to i K e) hq c K2 h2
    exact q_short g1 g2 h3 hv hs
   simp at h
  |word w=>
   rw [e] at h
   exact fTo_short i (e.trans h) v hv hs
  |cut=>rw [e] at h;simp at h
theorem findW_short {l v:List Int} (h:(m.findW l).1≠[]) (hv:m.okS v) (hs:m.SafeW l v):(m.findW l).1.length≤v.length:=by
 unfold findW at h ⊢
 cases e:m.fTo l fMax with
 |go L=>rw [e] at h;exact absurd rfl h
 |word w=>exact fTo_short fMax e v hv hs
 |cut=>rw [e] at h;exact absurd rfl h
end Mach
theorem pig {α:Type} [DecidableEq α]:∀(l M:List α),l.Nodup→(∀x∈l,x∈M)→l.length≤M.length
 |[],M,_,_=>Nat.zero_le _
 |x::l,M,hd,hs=>by
  have hx:=hs x (.head _)
  have h:=pig l (M.erase x) (List.nodup_cons.1 hd).2 (fun y hy=>(List.mem_erase_of_ne (fun e=>(List.nodup_cons.1 hd).1 (by rw [←e];exact hy))).2 (hs y (.tail _ hy)))
  rw [List.length_erase_of_mem hx] at h
  have:=List.length_pos_of_mem hx
  rw [List.length_cons];omega
def allB:Nat→List (List Bool)
 |0=>[[]]
 |n+1=>(allB n).flatMap fun x=>[false::x,true::x]
theorem mem_allB:∀(n:Nat) (x:List Bool),x.length=n→x∈allB n
 |0,x,h=>by rw [List.eq_nil_of_length_eq_zero h];exact .head _
 |n+1,[],h=>by simp at h
 |n+1,b::x,h=>by
  refine List.mem_flatMap.2 ⟨x,mem_allB n x (by simpa using h),?_⟩
  cases b<;>simp
def trues (x:List Bool):Nat:=(x.filter fun b=>b).length
theorem few_masks:∀k,k<9→((allB 8).filter (fun x=>decide (trues x=k))).length≤70:=by decide
def msk (l:List Int):List Bool:=(List.range 8).map fun s:Nat=>decide ((s:Int)∈l)
theorem msk_len (l:List Int):(msk l).length=8:=by simp [msk]
theorem msk_same {l k:List Int} (hl:∀s∈l,0≤s∧s<8) (h:msk l=msk k):∀s∈l,s∈k:=by
 intro s hs
 obtain ⟨h0,h1⟩:=hl s hs
 obtain ⟨n,rfl⟩:=Int.eq_ofNat_of_zero_le h0
 have hn:n<8:=by omega
 have e:=congrArg (fun x:List Bool=>x[n]?) h
 unfold msk at e
 simp only [List.getElem?_map,List.getElem?_range hn,Option.map_some,Option.some.injEq] at e
 rw [decide_eq_true hs] at e
 simpa using e.symm
theorem msk_trues {l:List Int} (hd:l.Nodup) (hl:∀s∈l,0≤s∧s<8):trues (msk l)=l.length:=by
 unfold trues msk
 rw [List.filter_map,List.length_map]
 have hm:(l.map Int.toNat).Nodup:=by
  unfold List.Nodup at hd ⊢
  rw [List.pairwise_map]
  refine List.Pairwise.imp_of_mem (fun {a b} ha hb hab e=>hab ?_) hd
  have:=hl a ha
  have:=hl b hb
  omega
 refine Nat.le_antisymm ?_ ?_
 ·have h := pig ((List.range 8).filter ((fun b : Bool => b) ∘ fun s : Nat => decide ((s : Int) ∈ l))) (l.map Int.toNat) (List.nodup_range.sublist List.filter_sublist) (fun x hx => by
    have:=(List.mem_filter.1 hx).2
    simp only [Function.comp_apply,decide_eq_true_eq] at this
    exact List.mem_map.2 ⟨_,this,by simp⟩)
  rwa [List.length_map] at h
 have h := pig (l.map Int.toNat) ((List.range 8).filter ((fun b : Bool => b) ∘ fun s : Nat => decide ((s : Int) ∈ l))) hm (fun x hx => by
  obtain ⟨s,hs,rfl⟩:=List.mem_map.1 hx
  have hr:=hl s hs
  refine List.mem_filter.2 ⟨List.mem_range.2 (by omega),?_⟩
  simp only [Function.comp_apply,decide_eq_true_eq]
  rw [Int.toNat_of_nonneg hr.1];exact hs)
 rwa [List.length_map] at h
namespace Mach
variable {m:Mach}
theorem mrg_comm {a:Nat} {s t:Int}:m.mrg a s t=m.mrg a t s:=by
 unfold mrg
 rw [decide_eq_decide.2 (eq_comm (a:=m.ot s.toNat a)),decide_eq_decide.2 (eq_comm (a:=m.nx s.toNat a))]
theorem pair_safe {a:Nat} {l:List Int} (h:l.Pairwise fun t s=>m.mrg a s t=false):∀n,n≤l.length→m.safeTo a l n=true
 |0,_=>rfl
 |n+1,hn=>by
  have ih:=pair_safe h n (by omega)
  have hx:l[n]? =some l[n]:=List.getElem?_eq_getElem hn
  simp only [safeTo,Bool.and_eq_true]
  refine ⟨ih,?_⟩
  unfold noMrg
  rw [List.all_eq_true]
  intro t ht
  rw [getD_of_some hx]
  obtain ⟨j,hj,rfl⟩:=List.mem_take_iff_getElem.1 ht
  have:=List.pairwise_iff_getElem.1 h j n (by omega) (by omega) (by omega)
  rw [this];rfl
theorem safe_iff {a:Nat} {l:List Int} (hd:l.Nodup):(m.aft a l).2.1=true↔∀s∈l,∀t∈l,s≠t→m.mrg a s t=false:=by
 constructor
 ·intro h s hs t ht hne
  have h1:=safe_pair (Nat.le_refl _) (aft_safe h)
  rw [List.take_length] at h1
  obtain ⟨i,hi,rfl⟩:=List.getElem_of_mem hs
  obtain ⟨j,hj,rfl⟩:=List.getElem_of_mem ht
  rcases Nat.lt_trichotomy i j with e|e|e
  ·rw [mrg_comm];exact List.pairwise_iff_getElem.1 h1 i j hi hj e
  ·subst e;exact absurd rfl hne
  exact List.pairwise_iff_getElem.1 h1 j i hj hi e
 intro h
 have h1:=pair_safe (m:=m) (a:=a) (l:=l) (List.Pairwise.imp_of_mem (fun {t s} ht hs hne=>h s hs t ht (fun e=>hne e.symm)) hd) l.length (Nat.le_refl _)
 unfold aft;rw [if_pos h1]
theorem eqq_iff {a:Nat} {l:List Int} (h:(m.aft a l).2.1=true):(m.aft a l).2.2=true↔∀s∈l,∀t∈l,m.ot s.toNat a=m.ot t.toNat a:=by
 rw [(aft_1 h).2]
 unfold eqTo
 rw [List.take_length,List.all_eq_true]
 constructor
 ·intro h s hs t ht
  have h1:=h s hs
  have h2:=h t ht
  simp only [decide_eq_true_eq] at h1 h2
  rw [h1,h2]
 intro h s hs
 simp only [decide_eq_true_eq]
 have hp:=List.length_pos_of_mem hs
 rw [getD_of_some (List.getElem?_eq_getElem hp)]
 exact h s hs _ (List.getElem_mem hp)
theorem aft_nodup {a:Nat} {l:List Int} (hd:l.Nodup) (h:(m.aft a l).2.1=true) (h2:(m.aft a l).2.2=true):(m.aft a l).1.Nodup:=by
 have h1:=(safe_iff hd).1 h
 have h3:=(eqq_iff h).1 h2
 rw [(aft_1 h).1]
 unfold List.Nodup at hd ⊢
 rw [List.pairwise_map]
 refine List.Pairwise.imp_of_mem (fun {s t} hs ht hst e=> ?_) hd
 have h4:=h1 s hs t ht hst
 unfold mrg at h4
 rw [h3 s hs t ht,e] at h4
 simp at h4
def SameS (l k:List Int):Prop:=∀s,s∈l↔s∈k
theorem safeW_set:∀(w l k:List Int),l.Nodup→k.Nodup→SameS l k→m.SafeW l w→m.SafeW k w
 |[],_,_,_,_,_,h=>h
 |a::w,l,k,hl,hk,hs,h=>by
  obtain ⟨h1,h2⟩:=h
  have g1:(m.aft a.toNat k).2.1=true:=(safe_iff hk).2 fun s hs1 t ht1=>(safe_iff hl).1 h1 s ((hs s).2 hs1) t ((hs t).2 ht1)
  have g2:(m.aft a.toNat l).2.2=true↔(m.aft a.toNat k).2.2=true:=by
   rw [eqq_iff h1,eqq_iff g1]
   exact ⟨fun h s hs1 t ht1=>h s ((hs s).2 hs1) t ((hs t).2 ht1),fun h s hs1 t ht1=>h s ((hs s).1 hs1) t ((hs t).1 ht1)⟩
  refine ⟨g1,?_⟩
  rcases h2 with ⟨h2,h3⟩|⟨h2,h3⟩
  ·refine .inl ⟨h2,?_⟩
   by_cases e:(m.aft a.toNat k).2.2=true
   ·rw [g2.2 e] at h3;simp at h3
   simpa using e
  refine .inr ⟨g2.1 h2,safeW_set w _ _ (aft_nodup hl h1 h2) (aft_nodup hk g1 (g2.1 h2)) (fun s=> ?_) h3⟩
  rw [(aft_1 h1).1,(aft_1 g1).1,List.mem_map,List.mem_map]
  exact ⟨fun ⟨x,hx,e⟩=>⟨x,(hs x).1 hx,e⟩,fun ⟨x,hx,e⟩=>⟨x,(hs x).2 hx,e⟩⟩
theorem path_props (ok:m.Ok):∀(w l l':List Int),l.Nodup→(∀s∈l,0≤s∧s<m.next.length)→m.okS w→m.pathS l w=some l'→l'.Nodup∧l'.length=l.length∧∀s∈l',0≤s∧s<m.next.length
 |[],l,l',hd,hr,_,h=>by
  obtain rfl:l=l':=by simpa [pathS] using h
  exact ⟨hd,rfl,hr⟩
 |a::w,l,l',hd,hr,hw,h=>by
  simp only [pathS] at h
  split at h
  ·rename_i hc
   have ha:=hw a (.head _)
   obtain ⟨h1,h2,h3⟩:=path_props ok w _ l' (aft_nodup hd hc.1 hc.2) (fun s hs=>by
    rw [(aft_1 hc.1).1] at hs
    obtain ⟨x,hx,rfl⟩:=List.mem_map.1 hs
    have:=hr x hx
    exact ok.nx x.toNat a.toNat (by omega) (by omega)) (fun y hy=>hw y (.tail _ hy)) h
   exact ⟨h1,by rw [h2,(aft_1 hc.1).1,List.length_map],h3⟩
  simp at h
theorem findW_70 (ok:m.Ok) (n8:m.next.length≤8) {l:List Int} (hd:l.Nodup) (hr:∀s∈l,0≤s∧s<m.next.length) (hne:(m.findW l).1≠[]) (hok:m.okS (m.findW l).1):(m.findW l).1.length≤70:=by
 obtain ⟨W,hW⟩:∃W,W=(m.findW l).1:=⟨_,rfl⟩
 have hS:=findW_safe hne
 have hmin:=fun v hv hs=>findW_short (v:=v) hne hv hs
 rw [←hW] at hS hmin hok ⊢
 obtain ⟨pl,hpl⟩:∃pl:Nat→List Int,∀j,pl j=(m.pathS l (W.take j)).getD []:=⟨_,fun _=>rfl⟩
 have hp:∀j,j<W.length→m.pathS l (W.take j)=some (pl j)∧m.SafeW (pl j) (W.drop j):=fun j hj=>by
  obtain ⟨k,h1,h2⟩:=safeW_split (u:=W.take j) (v:=W.drop j) (fun e=>by have:=congrArg List.length e;rw [List.length_drop] at this;simp at this;omega) (by rw [List.take_append_drop];exact hS)
  rw [hpl,h1];exact ⟨rfl,h2⟩
 have hpr:∀j,j<W.length→(pl j).Nodup∧(pl j).length=l.length∧∀s∈pl j,0≤s∧s<8:=fun j hj=>by
  obtain ⟨h1,h2,h3⟩:=path_props ok _ l _ hd hr (fun y hy=>hok y (List.mem_of_mem_take hy)) (hp j hj).1
  exact ⟨h1,h2,fun s hs=>by have:=h3 s hs;omega⟩
 have hdis:∀i j,i<j→j<W.length→msk (pl i)≠msk (pl j):=fun i j hij hj e=>by
  have hi:=hpr i (by omega)
  have hjj:=hpr j hj
  have h1:=safeW_set (m:=m) (W.drop j) (pl j) (pl i) hjj.1 hi.1 (fun s=>⟨msk_same hjj.2.2 e.symm s,msk_same hi.2.2 e s⟩) (hp j hj).2
  have h2:=safeW_append (hp i (by omega)).1 h1
  have h3:=hmin _ (fun y hy=>by
   rcases List.mem_append.1 hy with hy|hy
   ·exact hok y (List.mem_of_mem_take hy)
   exact hok y (List.mem_of_mem_drop hy)) h2
  rw [List.length_append,List.length_take,List.length_drop] at h3
  omega
 have hl8:l.length≤8:=nodup_le 8 l hd (fun x hx=>by have:=hr x hx;omega)
 have h:=pig ((List.range W.length).map fun j=>msk (pl j)) ((allB 8).filter fun x=>decide (trues x=l.length)) (by
  unfold List.Nodup
  rw [List.pairwise_map]
  exact List.Pairwise.imp_of_mem (fun {i j} hi hj hij=>hdis i j hij (List.mem_range.1 hj)) List.pairwise_lt_range) (fun x hx=>by
  obtain ⟨j,hj,rfl⟩:=List.mem_map.1 hx
  have hj:=List.mem_range.1 hj
  refine List.mem_filter.2 ⟨mem_allB 8 _ (msk_len _),decide_eq_true ?_⟩
  rw [msk_trues (hpr j hj).1 (hpr j hj).2.2,(hpr j hj).2.1])
 rw [List.length_map,List.length_range] at h
 exact Nat.le_trans h (few_masks l.length (by omega))
end Mach
theorem sum_add (g h:Int→Nat):∀K:List Int,(K.map fun o=>g o+h o).sum=(K.map g).sum+(K.map h).sum
 |[]=>rfl
 |o::K=>by
  have:=sum_add g h K
  simp only [List.map_cons,List.sum_cons]
  omega
theorem sum_no (y:Int):∀K:List Int,y∉K→(K.map fun o=>if y=o then 1 else 0).sum=0
 |[],_=>rfl
 |o::K,h=>by
  have h1:=sum_no y K (fun e=>h (.tail _ e))
  simp only [List.map_cons,List.sum_cons]
  rw [if_neg (fun e=>h (by rw [e];exact .head _)),h1]
theorem sum_ind (y:Int):∀K:List Int,K.Nodup→y∈K→(K.map fun o=>if y=o then 1 else 0).sum=1
 |[],_,h=>by simp at h
 |o::K,hd,h=>by
  have hd:=List.nodup_cons.1 hd
  simp only [List.map_cons,List.sum_cons]
  by_cases e:y=o
  ·rw [if_pos e,sum_no y K (by rw [e];exact hd.1)]
  rw [if_neg e,sum_ind y K hd.2 ((List.mem_cons.1 h).resolve_left e)]
theorem filt_sum {α:Type} (f:α→Int) {K:List Int} (hd:K.Nodup):∀l:List α,(∀x∈l,f x∈K)→(K.map fun o=>(l.filter fun x=>decide (f x=o)).length).sum=l.length
 |[],_=>by
  have:=sum_add (fun _=>0) (fun _=>0) K
  simp only [Nat.add_zero] at this
  simp only [List.filter_nil,List.length_nil]
  omega
 |x::l,h=>by
  have ih:=filt_sum f hd l (fun y hy=>h y (.tail _ hy))
  have e:(fun o=>((x::l).filter fun x=>decide (f x=o)).length)=fun o=>(if f x=o then 1 else 0)+(l.filter fun x=>decide (f x=o)).length:=by
   funext o
   by_cases e:f x=o
   ·rw [List.filter_cons_of_pos (by simpa using e),if_pos e,List.length_cons];omega
   rw [List.filter_cons_of_neg (by simpa using e),if_neg e];omega
  rw [e,sum_add,sum_ind _ K hd (h x (.head _)),ih,List.length_cons];omega
namespace Mach
variable {m:Mach}
theorem zip_map_self {α β:Type} (f:α→β):∀l:List α,l.zip (l.map f)=l.map fun x=>(x,f x)
 |[]=>rfl
 |x::l=>by simp [zip_map_self f l]
theorem parts_sum {g:Gp} {a:Nat} (h:g.ini.length=g.cur.length):((m.gParts a g).map fun p=>p.2.cur.length).sum=g.cur.length:=by
 unfold gParts grps
 rw [zip_map_self,List.map_map]
 have hz:(g.ini.zip g.cur).map Prod.snd=g.cur:=List.map_snd_zip (by omega)
 have h1:=filt_sum (fun p:Int×Int=>m.ot p.2.toNat a) (K:=m.outsI a g.cur) (by unfold outsI;exact List.Pairwise.imp (fun h=>by omega) (iset_asc _)) (g.ini.zip g.cur) (fun p hp=>by
  unfold outsI
  rw [iset_mem,List.mem_map]
  exact ⟨p.2,by rw [←hz];exact List.mem_map_of_mem hp,rfl⟩)
 rw [List.length_zip,h,Nat.min_self] at h1
 refine Eq.trans ?_ h1
 congr 1
 refine List.map_congr_left fun o _=> ?_
 show (m.gpC a g.ini g.cur o).length=_
 unfold gpC;rw [List.length_map]
theorem safeW_two:∀(w l:List Int),m.SafeW l w→2≤l.length
 |[],_,h=>h.elim
 |a::w,l,h=>by
  obtain ⟨h1,h2⟩:=h
  rcases h2 with ⟨-,h2⟩|⟨-,h2⟩
  ·match l,h1,h2 with
   |[],h1,h2=>rw [(aft_1 h1).2] at h2;simp [eqTo] at h2
   |[x],h1,h2=>rw [(aft_1 h1).2] at h2;simp [eqTo] at h2
   |x::y::l,_,_=>simp
  have:=safeW_two w _ h2
  rwa [(aft_1 h1).1,List.length_map] at this
def nBd (k:Nat) (w:List Int):Nat:=if w=[] then 72*k-71 else w.length+72*k-142
theorem gLoop_few {f t:Nat} {u:List Int} {b:Gp→Nat}:∀(ps:List (Int×Gp)) (L:List Nd),(∀p∈ps,∀L:List Nd,(m.grow f L p.2 u).length≤L.length+b p.2)→(m.gLoop f t u ps L).length≤L.length+(ps.map fun p=>b p.2).sum
 |[],L,_=>by show L.length≤_;omega
 |p::ps,L,h=>by
  have h1:=gLoop_few (t:=t) ps (gKid (fun K h=>m.grow f K h u) t L p) (fun q hq=>h q (.tail _ hq))
  have h2:(gKid (fun K h=>m.grow f K h u) t L p).length≤L.length+b p.2:=by
   unfold gKid
   split
   ·omega
   rw [addKid_len];exact h p (.head _) L
  show (m.gLoop f t u ps (gKid (fun K h=>m.grow f K h u) t L p)).length≤_
  simp only [List.map_cons,List.sum_cons]
  omega
theorem sum_lin {α:Type} (f:α→Nat):∀l:List α,(∀x∈l,1≤f x)→(l.map fun x=>72*f x-71).sum+71*l.length=72*(l.map f).sum
 |[],_=>rfl
 |x::l,h=>by
  have h1:=sum_lin f l (fun y hy=>h y (.tail _ hy))
  have h2:=h x (.head _)
  simp only [List.map_cons,List.sum_cons,List.length_cons]
  omega
theorem grow_few (ok:m.Ok) (n8:m.next.length≤8):∀(f:Nat) (L:List Nd) (g:Gp) (w:List Int),GInv m g w→(m.grow f L g w).length≤L.length+nBd g.cur.length w
 |0,L,g,w,h=>by show L.length≤_;omega
 |f+1,L,g,w,h=>by
  have hpos:=h.ok.pos
  have h1:1≤nBd g.cur.length w:=by
   unfold nBd
   split
   ·omega
   rename_i hw
   have:=safeW_two w _ (h.wd.resolve_left hw)
   have:=List.length_pos_iff.2 hw
   omega
  by_cases h0:4096<L.length+1
  ·rw [grow_full h0];simp;exact h1
  cases hw:m.gWord g w with
  |nil=>rw [grow_leaf hw];simp;exact h1
  |cons a u=>
   have hs:=gWord_safe h (by rw [hw];simp)
   have h2:=safeW_two _ _ hs
   have hwl:(a::u).length+72*g.cur.length-142≤nBd g.cur.length w:=by
    unfold nBd
    split
    ·rename_i e
     have hg:m.gWord g w=(m.findW g.cur).1:=by
      unfold gWord
      by_cases hc:w.length=0∧1<g.ini.length
      ·rw [if_pos hc]
      unfold gWord at hw
      rw [if_neg hc] at hw
      rw [e] at hw;simp at hw
     have h7:=findW_70 ok n8 h.nd h.ok.st (by rw [←hg,hw];simp) (findW_ok _)
     rw [←hg,hw] at h7
     omega
    rename_i e
    have hg:m.gWord g w=w:=by
     unfold gWord
     rw [if_neg (fun hc=>e (List.eq_nil_of_length_eq_zero hc.1))]
    rw [←hw,hg]
    exact Nat.le_refl _
   have hkid:∀p∈m.gParts a.toNat g,GInv m p.2 u:=fun p hp=>by
    obtain ⟨k,hk⟩:=List.mem_iff_getElem?.1 hp
    have hkl:=some_lt hk
    rw [gParts_len] at hkl
    have e:=gParts_at (m:=m) (g:=g) (x:=a.toNat) (List.getElem?_eq_getElem hkl)
    rw [hk] at e
    obtain rfl:=Option.some.inj e
    exact ginv_kid ok h hw (List.getElem_mem hkl)
   rw [grow_on h0 hw]
   have h3:=gLoop_few (m:=m) (f:=f) (t:=L.length) (u:=u) (b:=fun q=>nBd q.cur.length u) (m.gParts a.toNat g) (L++[⟨g.ini,a,[]⟩]) (fun p hp L=>grow_few ok n8 f L p.2 u (hkid p hp))
   rw [List.length_append,List.length_singleton] at h3
   have hsum:=parts_sum (m:=m) (a:=a.toNat) h.ok.le
   have hlen:(m.gParts a.toNat g).length=(m.outsI a.toNat g.cur).length:=gParts_len
   have hom:=outs_many (m:=m) (a:=a.toNat) (l:=g.cur) hpos
   rw [hw] at hs
   have hs1:=aft_1 hs.1
   rcases hs.2 with ⟨hu,he⟩|⟨he,hu⟩
   ·subst hu
    rw [hs1.2] at he
    have hc:=hom.2 he
    have h4:=sum_lin (fun p:Int×Gp=>p.2.cur.length) (m.gParts a.toNat g) (fun p hp=>(hkid p hp).ok.pos)
    have e:((m.gParts a.toNat g).map fun p=>nBd p.2.cur.length ([]:List Int))=(m.gParts a.toNat g).map fun p=>72*p.2.cur.length-71:=by
     refine List.map_congr_left fun p _=> ?_
     unfold nBd;rw [if_pos rfl]
    rw [e] at h3
    rw [hsum] at h4
    simp only [List.length_cons,List.length_nil] at hwl
    omega
   rw [hs1.2] at he
   have hc:=hom.1 he
   have hun:u≠[]:=fun e=>by rw [e] at hu;exact hu
   match hps:m.gParts a.toNat g with
   |[]=>rw [hps] at hsum;simp at hsum;omega
   |[p]=>
    rw [hps] at hsum h3
    simp only [List.map_cons,List.map_nil,List.sum_cons,List.sum_nil,Nat.add_zero] at hsum h3
    rw [hsum] at h3
    unfold nBd at h3
    rw [if_neg hun] at h3
    simp only [List.length_cons] at hwl
    omega
   |p::q::ps=>rw [hps] at hlen;simp at hlen;omega
theorem adsL_few (ok:m.Ok) (n8:m.next.length≤8):m.adsL.length≤505:=by
 have hnd:(allS m.next.length).Nodup:=by
  unfold allS List.Nodup
  rw [List.pairwise_map]
  exact List.Pairwise.imp (fun h=>by omega) List.pairwise_lt_range
 have h:=grow_few ok n8 4097 [] ⟨allS m.next.length,allS m.next.length⟩ [] ⟨allS_ok ok rfl rfl,hnd,.inl rfl,fun y hy=>by simp at hy⟩
 have hl:(allS m.next.length).length=m.next.length:=allS_len _
 unfold nBd at h
 rw [if_pos rfl,hl] at h
 show (m.grow 4097 [] ⟨allS m.next.length,allS m.next.length⟩ []).length≤505
 simp only [List.length_nil] at h
 omega
theorem adsB_8 (h:m.minErr=0) (n8:m.next.length≤8):m.adsB=(m.adsL,complB m.adsL,0)∧m.adsL.length≤505:=by
 have ok:=Mach.ok_of_err m (Mach.minErr_ok h).1
 have h1:=adsL_few ok n8
 unfold adsB
 rw [if_neg (by simp [h]),if_neg (by omega)]
 exact ⟨rfl,h1⟩
end Mach
end Go.Proofs.YtjagagpcjpcjjaaGreat
namespace Go.Proofs.YtjagagpcjpcjjaaGreat
open Go.RowKit
structure Nn (n0:Nat) (W:Nat→Prop) (w:World) (v:Value) (L:List Nd):Prop where
 ok:NdOk (fun k=>W k∨k<n0) n0 w v L
 lt:∀k,W k→k<w.heap.size
 old:n0≤w.heap.size
section
variable {n0:Nat} {W W':Nat→Prop} {w w':World} {v:Value} {L:List Nd}
theorem Nn.ltV (h:Nn n0 W w v L):∀k,W k∨k<n0→k<w.heap.size:=fun k hk=>hk.elim (h.lt k) fun e=>by have:=h.old;omega
theorem Nn.ownW (h:Nn n0 W w v L):∀k,v.ownBlock=some k→n0≤k∧k<w.heap.size∧W k:=fun k hk=>by
 obtain ⟨h1,h2,h3⟩:=h.ok.ownB k hk
 exact ⟨h1,h2,h3.elim id fun e=>by omega⟩
theorem Nn.below (h:Nn n0 W w v L) (hb:Below w.heap.size w w'):Nn n0 W w' v L:=
 ⟨h.ok.below hb h.ltV,fun k hk=>Nat.lt_of_lt_of_le (h.lt k hk) hb.size,Nat.le_trans h.old hb.size⟩
theorem Nn.len (h:Nn n0 W w v L):∃a c,v= .slice a L.length c∧L.length≤c∧c≤maxLen:=h.ok.len
theorem Nn.nil (hn:n0≤w.heap.size):Nn n0 (fun _=>False) w (.slice none 0 0) []:=⟨NdOk.nil,fun _ h=>h.elim,hn⟩
theorem Nn.fresh {a:Option Addr} {c:Nat} {l:List Int} (h:Nn n0 W w v L) (hs:Sl (fun k=>k<w.heap.size) w' a c l):Sl (fun k=>W k∨k<n0) w' a c l:=hs.anti fun k _ hm=>h.ltV k hm
theorem Nn.sl {a:Option Addr} {c:Nat} (h:Nn n0 W w (.slice a L.length c) L):Sl (fun k=>k<n0) w a c L:=h.ok.toSl (fun _ h=>h) fun _ _ h=> .inr h
theorem Nn.node {a':Option Addr} {c':Nat} {l':List Nd} (h:Nn n0 W w v L) (hO:NdOk (fun k=>(W k∨k<n0)∨k=w.heap.size) n0 w' (.slice a' l'.length c') l') (hg:w.grownBy w' v.ownBlock):
    ∃W1,Nn n0 W1 w' (.slice a' l'.length c') l'∧Ext W W1 w w'∧Below n0 w w':=by
 have hes:=hg.size
 have hol:=h.old
 have he:Ext W (fun k=>W k∨k=w.heap.size) w w':=⟨hg.size,fun k hk hm=>hg.block k hk (fun e=>hm (h.ownW k e.symm).2.2),fun k hk hm=>hm.elim id (fun e=>by omega)⟩
 refine ⟨fun k=>(W k∨k=w.heap.size)∧k<w'.heap.size,⟨hO.re (fun k hk e=> ?_) (fun k hk e=> ?_),fun k hk=>hk.2,by omega⟩,he.trans (Ext.sub_only fun _ _ e=>e.1),(Below.refl _ _).grown hg hol fun k hk=>(h.ownW k hk).1⟩
 ·rcases e with e|e
  ·exact e.1.elim (fun e=> .inl (.inl e)) .inr
  exact .inl (.inr e)
 rcases e with (e|e)|e
 ·exact .inl ⟨.inl e,hk⟩
 ·exact .inr e
 exact .inl ⟨.inr e,hk⟩
theorem Nn.inp {g c:Nat} (h:Nn n0 W w (.slice (some ⟨g,0,none⟩) L.length c) L) {i:Nat} {nd:Nd} (hi:L[i]? =some nd) {y:Int} (hy:i64 y):
    Nn n0 W (w.setCell ⟨g,i*3+1,none⟩ (.int .i64 y)) (.slice (some ⟨g,0,none⟩) L.length c) (L.set i ⟨nd.st,y,nd.kids⟩)∧Ext W W w (w.setCell ⟨g,i*3+1,none⟩ (.int .i64 y))∧Below n0 w (w.setCell ⟨g,i*3+1,none⟩ (.int .i64 y)):=by
 have hgo:=h.ownW g rfl
 have hs:(w.setCell ⟨g,i*3+1,none⟩ (.int .i64 y)).heap.size=w.heap.size:=by simp [World.setCell]
 exact ⟨⟨h.ok.setInp hi hy,fun k hk=>by rw [hs];exact h.lt k hk,by rw [hs];exact h.old⟩,Ext.setCell _ (p:=⟨g,i*3+1,none⟩) hgo.2.2 _,(Below.refl _ _).setCell (p:=⟨g,i*3+1,none⟩) hgo.1 _⟩
theorem Nn.kid {g c:Nat} (h:Nn n0 W w (.slice (some ⟨g,0,none⟩) L.length c) L) {i:Nat} {nd:Nd} (hi:L[i]? =some nd) {ak a':Option Addr} {ck c':Nat} {K:List Kd} (hc:w.cell? ⟨g,i*3+2,none⟩=some (.slice ak nd.kids.length ck))
    (hO0:Ow n0 (fun k=>W k∨k<n0) w 228 (.slice ak nd.kids.length ck) nd.kids) (hO:Ow n0 (fun k=>(W k∨k<n0)∨k=w.heap.size) w' 228 (.slice a' K.length c') K) (hk:∀k,(Value.slice a' K.length c').ownBlock=some k→(Value.slice ak nd.kids.length ck).ownBlock=some k∨k=w.heap.size) (hgr:w.grownBy w' (Value.slice ak nd.kids.length ck).ownBlock):
    ∃W1,Nn n0 W1 (w'.setCell ⟨g,i*3+2,none⟩ (.slice a' K.length c')) (.slice (some ⟨g,0,none⟩) L.length c) (L.set i ⟨nd.st,nd.inp,K⟩)∧Ext W W1 w (w'.setCell ⟨g,i*3+2,none⟩ (.slice a' K.length c'))∧Below n0 w (w'.setCell ⟨g,i*3+2,none⟩ (.slice a' K.length c')):=by
 have hgo:=h.ownW g rfl
 have hWk:∀k,(Value.slice ak nd.kids.length ck).ownBlock=some k→W k:=fun k hk=>by
  have h1:=(h.ok.kidW hi hc k hk).1
  have:=(hO0.lt k hk).1
  exact h1.elim id fun e=>by omega
 have hs:(w'.setCell ⟨g,i*3+2,none⟩ (.slice a' K.length c')).heap.size=w'.heap.size:=by simp [World.setCell]
 have hx1:Ext W (fun k=>W k∨k=w.heap.size) w w':=⟨hgr.size,fun k hk hm=>hgr.block k hk (fun e=>hm (hWk k e.symm)),fun k hk hm=>hm.elim id (fun e=>by omega)⟩
 have hes:=hgr.size
 have hol:=h.old
 have hb1:=(Below.refl n0 w).grown hgr hol fun k hk=>(hO0.lt k hk).1
 refine ⟨fun k=>(W k∨k=w.heap.size)∧k<(w'.setCell ⟨g,i*3+2,none⟩ (.slice a' K.length c')).heap.size,⟨(h.ok.pushKid hi hc hO hk hgr h.ltV).re (fun k hk e=> ?_) (fun k hk e=> ?_),fun k hk=>hk.2,by rw [hs];omega⟩,(hx1.trans (Ext.setCell _ (p:=⟨g,i*3+2,none⟩) (.inl hgo.2.2) _)).trans (Ext.sub_only fun _ _ e=>e.1),hb1.setCell (p:=⟨g,i*3+2,none⟩) hgo.1 _⟩
 ·rcases e with e|e
  ·exact e.1.elim (fun e=> .inl (.inl e)) .inr
  exact .inl (.inr e)
 rcases e with (e|e)|e
 ·exact .inl ⟨.inl e,hk⟩
 ·exact .inr e
 exact .inl ⟨.inr e,hk⟩
end
section
variable {P:Program} {w:World} {o:Oper} {a:Act} {ops:Array Oper} {rest:List Oper} {Q:Exit→Act→World→Prop}
end
def GrPre (L R:List Nd):Prop:=L.length≤R.length∧R.length≤4097∧∀i,i<L.length→R[i]? =L[i]?
theorem GrPre.trans {L R S:List Nd} (h:GrPre L R) (k:GrPre R S):GrPre L S:=⟨Nat.le_trans h.1 k.1,k.2.1,fun i hi=>(k.2.2 i (by have:=h.1;omega)).trans (h.2.2 i hi)⟩
namespace Mach
variable {m:Mach}
end Mach
theorem Nn.alloc {n0:Nat} {W:Nat→Prop} {w:World} {v:Value} {L:List Nd} (h:Nn n0 W w v L) (o:Obj):Nn n0 W (w.alloc o) v L:=h.below ((Below.refl _ _).alloc (Nat.le_refl _) _)
def Mach.idE (m:Mach) (T:List Nd):List (List (List Int))×Int:=if m.adsChk T≠0 then ([],m.adsChk T) else (m.ids T,0)
theorem fill_step {α:Type} {l:List α} {d x:α} {k n:Nat} (hl:l.length=n) (hk:l[k]? =some x):(l.take k++List.replicate (n-k) d).set k x=l.take (k+1)++List.replicate (n-(k+1)) d:=by
 have hkn:k<n:=by rw [←hl];exact some_lt hk
 have hlk:(l.take k).length=k:=by rw [List.length_take];omega
 rw [List.set_append_right _ _ (by omega),hlk,Nat.sub_self,List.take_add_one,hk]
 obtain ⟨j,hj⟩:∃j,n-k=j+1:=⟨n-k-1,by omega⟩
 rw [hj,List.replicate_succ,show n-(k+1)=j by omega]
 simp
theorem st_zero {m:Mach} (h:m.err=0) {s x:Int} (h1:0≤s∧s<m.next.length) (h2:0≤x∧x<m.next.length):stErr m s x=0:=by
 rcases st_cases h s x with ⟨e,_⟩|⟨_,e,_⟩|⟨_,_,e,_⟩|⟨_,_,_,e,_⟩|⟨_,_,_,_,e⟩
 ·omega
 ·omega
 ·omega
 ·omega
 exact e
theorem Mach.idW_eq {m:Mach} {T:List Nd} {s:Int} {W:List Int} {l:Nat} {x:Nd} (h:m.adsW T s=(W,l)) (hx:T[l]? =some x):m.idW T s=(if 0<W.length∨x.st.length=1 then [W] else [])++m.idO s x.st:=by
 unfold idW idA nodeSt
 rw [h];simp only [];rw [hx]
def Sm6 (l:List (List Int)):Prop:=l.length<10000∧∀r∈l,r.length≤1000000
theorem small_id {m:Mach} {p:Prop} [Decidable p] {W o:List Int} {s:Int} (h1:W.length≤4096) (h2:o.length<1000) (h3:m.next.length<1000):Sm6 ((if p then [W] else [])++m.idO s o):=by
 constructor
 ·rw [List.length_append]
  have:=Mach.idO_len (m:=m) (s:=s) (o:=o)
  have:(if p then [W] else ([]:List (List Int))).length≤1:=by split<;>simp
  omega
 intro r hr
 rcases List.mem_append.1 hr with e|e
 ·split at e
  ·rw [List.mem_singleton.1 e];omega
  simp at e
 obtain ⟨x, -,rfl⟩:=List.mem_map.1 e
 have:=Mach.sepW_len h3 s x
 omega
theorem info_rows3:(Tryz.prog.info? 22).map (fun i=>(i.zero,i.size,i.bytes))=some (some (.slice none 0 0),1,24):=by kernel_rfl
section
variable {M MT:Nat→Prop} {w:World} {an ao aT:Option Addr} {cn co cT:Nat} {m:Mach} {T:List Nd}
theorem identify_any (hm:Ma M w an cn ao co m) (hT:Sl MT w aT cT T) (hn:Hid (m.next.length<1000)) (hTn:Hid (T.length<1000000000)):
    Calls Tryz.prog 83 #[maV m an cn ao co,.agg #[.slice aT T.length cT]] w fun e w'=>∃(a:Option Addr) (c:Nat) (L:List (List (List Int))) (e1:Int),e= .returned (.tuple #[.slice a L.length c,.int .i64 e1])∧Hid (m.idE T=(L,e1))∧Hid (∀r∈L,Sm6 r)∧Sl (fun k=>k<w.heap.size) w' a c L∧Below w.heap.size w w':=by
 have hB0:=(Below.refl w.heap.size w).alloc (Nat.le_refl _) (maO m an cn ao co)
 have hx0:C4 (w.alloc (maO m an cn ao co)) w.heap.size an cn ao co m:=c4_new w
 have hB1:=hB0.alloc (by simp) (.cells #[.slice aT T.length cT] 119)
 have hx1:=hx0.below ((Below.refl (w.heap.size+1) (w.alloc (maO m an cn ao co))).alloc (by simp) (.cells #[.slice aT T.length cT] 119)) (by omega)
 have ht1:((w.alloc (maO m an cn ao co)).alloc (.cells #[.slice aT T.length cT] 119)).cell? ⟨w.heap.size+1,0,none⟩=some (.slice aT T.length cT):=by simp
 have hz1:((w.alloc (maO m an cn ao co)).alloc (.cells #[.slice aT T.length cT] 119)).heap.size=w.heap.size+2:=by simp
 have l1:=hm.next.le
 have l2:=hm.out.le
 have l5:=hT.le
 have HM:=Lib.hid hm
 have HT:=Lib.hid hT
 have HCk:=Lib.hid (gcheck_any (hm.below hB1) (hT.below hB1) hn hTn)
 clear hm hT hB0 hx0
 have hmm:= @run_makeMap Tryz.prog
 go_enter Tryz.func83,Tryz.ntmps83
 go_upto_region 1 with (fail)
 generalize (w.alloc (maO m an cn ao co)).alloc (.cells #[.slice aT T.length cT] 119)=w1 at*
 go_wp2_with fail
 refine (HCk.out).mono ?_
 rintro e w2 ⟨rfl,hb2⟩
 have hx2:=hx1.below hb2 (by omega)
 have hB2:=hB1.trans (hb2.mono (by omega))
 have ht2:=(hb2.cell (p:=⟨w.heap.size+1,0,none⟩) (by show w.heap.size+1<_;omega)).trans ht1
 have hz2:w.heap.size+2≤w2.heap.size:=by have:=hb2.size;omega
 clear hx1 hB1 hb2 hz1 HCk ht1
 by_cases he:m.adsChk T=0
 ·have he':(m.adsChk T !=0)=false:=by simp [he]
  have HE:=Lib.hid he
  have ok:Hid m.Ok:=Mach.ok_of_err m (Mach.minErr_ok (Mach.adsChk_0 HE.out).1).1
  have n1:=ok.out.n1
  clear he
  have HS:Hid (∀w',Below w2.heap.size w2 w'→(C4 w' w.heap.size an cn ao co m∧w'.cell? ⟨w.heap.size+1,0,none⟩=some (.slice aT T.length cT))∧Below w.heap.size w w'):=fun w' h=>
   ⟨⟨hx2.below h (by omega),(h.cell (p:=⟨w.heap.size+1,0,none⟩) (by show w.heap.size+1<_;omega)).trans ht2⟩,hB2.trans (h.mono (by omega))⟩
  have hI0:Ig (fun k=>k=w2.heap.size) w2 (w2.heap.size+1) (w2.alloc (.map #[] 0)) 0 (fun _=> .slice none 0 0) 0 (fun j=>m.idW T (j:Int)) []:=Ig.made w2
  have hba:=(Below.refl w2.heap.size w2).alloc (Nat.le_refl _) (.map #[] 0)
  have hx3:=hx2.below hba (by omega)
  have hx32:=hx3.2.2.1
  clear hba hx3 ht2 hx2 hB2
  have HI0:=Lib.hid hI0
  clear hI0
  go_upto_region 5 with (fail)
  go_wp2_with fail
  go_loopw [27] (fun i wr=>∃(s n Bs:Nat) (F:Nat→Value),s≤m.next.length∧i= .int .i64 s∧Hid (n≤s*2000)∧Hid (∀j:Nat,j<s→Sm6 (m.idW T (j:Int)))∧Ig (fun k=>k=w2.heap.size) w2 Bs wr n F s (fun j=>m.idW T (j:Int)) []) (fun i _=>m.next.length-(intOf i).toNat)
  case atStart=>exact ⟨0,0,_,_,by omega,rfl,by simp [Hid],fun j hj=>by omega,HI0.out⟩
  case round=>
   clear HI0 hx32
   obtain ⟨s,n,Bs,F,hsn,rfl,hnn,hsm,hIg⟩:=hrel
   obtain ⟨wo,rfl⟩:∃wo:World,wo=wr:=⟨_,rfl⟩
   have hSo:=HS.out _ hIg.bel
   have hto:=hSo.1.2
   have hm0:=hSo.1.1
   by_cases hlt:s<m.next.length
   ·have hs1000:s<1000:=by have:=hn.out;omega
    have HWd:=Lib.hid (gword_any (HM.out.below hSo.2) (HT.out.below hSo.2) hn HE s hlt)
    clear hSo
    go_wp2_with fail
    refine (HWd.out).mono ?_
    rintro e w3 ⟨aW,cW,W,l,rfl,hW,hWl,hWs,hb3⟩
    have hI3:=hIg.below hb3
    have hWs3:=Lib.hid (hWs.anti (M':=fun k=>k=w2.heap.size) (fun k _ e=>by have:=hIg.lt k e;omega))
    have hS3:=HS.out _ hI3.bel
    have ht3:=hS3.1.2
    have hm3:=hS3.1.1
    have hll:=hWl.out.2.1
    have hWll:=hWl.out.1
    have hT4:=(Mach.adsChk_0 HE.out).2.1
    obtain ⟨bT,oT,a1,c1,a2,c2,x,rfl,hq0, -, -,hxe,hxs, -, -⟩:=HT.out.at_nd hll
    have hq3:=(hS3.2.cell (p:=⟨bT,oT+l*3,none⟩) (lt_of_cell hq0)).trans hq0
    have HX:=Lib.hid hxs
    have hxsl:=hxs.le
    have hnode:=Lib.hid (Mach.wi_node hWl.out.2.2.choose_spec hxe.out)
    have hxn:=hnode.out.2
    have HIw:=Lib.hid (Mach.idW_eq hW.out hxe.out)
    clear HWd hWs hb3 hIg hxs hq0 hto hm0 hS3
    have hcase:0<W.length∨(¬0<W.length∧x.st.length=1)∨(¬0<W.length∧¬x.st.length=1):=by
     by_cases h1:0<W.length
     ·exact .inl h1
     by_cases h2:x.st.length=1
     ·exact .inr (.inl ⟨h1,h2⟩)
     exact .inr (.inr ⟨h1,h2⟩)
    rcases hcase with hA|⟨hA,hC⟩|⟨hA,hC⟩
    rotate_left 2
    focus
     have hAb:decide (0<W.length)=false:=decide_eq_false hA
     have hCb:((x.st.length:Int)==1)=false:=by simp;omega
     have HIc:=Lib.hid hI3
     have hrows:Hid (([]:List (List Int))=if 0<W.length∨x.st.length=1 then [W] else []):=by unfold Hid;rw [if_neg (by omega)]
     have hnb:Hid (n≤s*2000+1):=by unfold Hid;have:=hnn.out;omega
     have hi0:Hid (([]:List (List Int))=(if 0<W.length∨x.st.length=1 then [W] else [])++m.idO s (x.st.take 0)):=by unfold Hid;rw [←hrows.out];simp [Mach.idO]
     clear hI3
     go_wp2_with fail
    rotate_left 1
    focus
     have hAb:decide (0<W.length)=true:=decide_eq_true hA
     have hlk:=hI3.kg.look hs1000
     go_wp2_with (at_builtin;refine wpList_push_row (B:=Bs) (M:=fun k=>k=w2.heap.size) (v:=F s) (rows:=[]) (r:=W) rfl rfl Tryz.underlying22 info_ints rfl rfl (hI3.ow.alloc _) hI3.own (by simp [go_sem]) (hWs3.out.alloc _) (by simp) (by have:=hI3.bs;simp;omega) ?_)
     intro a6 c6 l6 w6 hl6 hO6 hk6 hg6
     have hba:=(Below.refl w3.heap.size w3).alloc (Nat.le_refl _) (.cells #[.slice aW W.length cW] 49)
     obtain ⟨w7,M7,F7,hrun7,hI7⟩:=(hI3.below hba).app hs1000 (by have:=hnn.out;omega) (by simp) hg6 hO6 hk6.out
     have HIc:=Lib.hid hI7
     have hrows:Hid (l6=if 0<W.length∨x.st.length=1 then [W] else []):=by unfold Hid;rw [hl6.out,if_pos (by first|exact .inl hA|exact .inr HC1.out)]
     have hnb:Hid (n+1≤s*2000+1):=by unfold Hid;have:=hnn.out;omega
     clear hI3 hlk hba hg6 hO6 hk6 hI7 hl6 hq3
     have hi0:Hid (l6=(if 0<W.length∨x.st.length=1 then [W] else [])++m.idO s (x.st.take 0)):=by unfold Hid;rw [←hrows.out];simp [Mach.idO]
     go_wp2_with fail
    rotate_left 1
    focus
     have hAb:decide (0<W.length)=false:=decide_eq_false hA
     have hCb:((x.st.length:Int)==1)=true:=by simp [hC]
     have hlk:=hI3.kg.look hs1000
     have HC1:=Lib.hid hC
     clear hC
     go_wp2_with (at_builtin;refine wpList_push_row (B:=Bs) (M:=fun k=>k=w2.heap.size) (v:=F s) (rows:=[]) (r:=W) rfl rfl Tryz.underlying22 info_ints rfl rfl (hI3.ow.alloc _) hI3.own (by simp [go_sem]) (hWs3.out.alloc _) (by simp) (by have:=hI3.bs;simp;omega) ?_)
     intro a6 c6 l6 w6 hl6 hO6 hk6 hg6
     have hba:=(Below.refl w3.heap.size w3).alloc (Nat.le_refl _) (.cells #[.slice aW W.length cW] 49)
     obtain ⟨w7,M7,F7,hrun7,hI7⟩:=(hI3.below hba).app hs1000 (by have:=hnn.out;omega) (by simp) hg6 hO6 hk6.out
     have HIc:=Lib.hid hI7
     have hrows:Hid (l6=if 0<W.length∨x.st.length=1 then [W] else []):=by unfold Hid;rw [hl6.out,if_pos (by first|exact .inl hA|exact .inr HC1.out)]
     have hnb:Hid (n+1≤s*2000+1):=by unfold Hid;have:=hnn.out;omega
     clear hI3 hlk hba hg6 hO6 hk6 hI7 hl6 hq3
     have hi0:Hid (l6=(if 0<W.length∨x.st.length=1 then [W] else [])++m.idO s (x.st.take 0)):=by unfold Hid;rw [←hrows.out];simp [Mach.idO]
     go_wp2_with fail
    all_goals
     go_loopw [65] (fun i wr=>∃(k n':Nat) (M':Nat→Prop) (F':Nat→Value) (rows:List (List Int)),k≤x.st.length∧i= .int .i64 k∧Hid (n'≤s*2000+1+k)∧Hid (rows=(if 0<W.length∨x.st.length=1 then [W] else [])++m.idO s (x.st.take k))∧Ig M' w2 Bs wr n' F' s (fun j=>m.idW T (j:Int)) rows) (fun i _=>x.st.length-(intOf i).toNat)
     case atStart=>first|exact ⟨0,n+1,M7,F7,l6,by omega,rfl,hnb,hi0,HIc.out⟩|exact ⟨0,n,_,F,[],by omega,rfl,hnb,hi0,HIc.out⟩
     case round=>
      clear hi0 HIc hnb hrows
      obtain ⟨k,n',M',F',rows,hk,rfl,hnb,hrows,hIg⟩:=hrel
      obtain ⟨wi,rfl⟩:∃wi:World,wi=wr:=⟨_,rfl⟩
      have hSi:=HS.out _ hIg.bel
      have hmi:=hSi.1.1
      by_cases hkl:k<x.st.length
      ·obtain ⟨b1,o1,y,rfl,hyc,hye, -⟩:=(HX.out.below hSi.2).at_int hkl
       have hyr:=hnode.out.1 y (List.mem_of_getElem? hye.out)
       obtain ⟨yn,rfl⟩:=Int.eq_ofNat_of_zero_le hyr.1
       have hyl:yn<m.next.length:=by omega
       by_cases hys:yn=s
       ·have hysb:((yn:Int)==(s:Int))=true:=by simp [hys]
        have hrow2:Hid (rows=(if 0<W.length∨x.st.length=1 then [W] else [])++m.idO s (x.st.take (k+1))):=by
         have h9:=Mach.idO_step (m:=m) (s:=(s:Int)) hye.out
         rw [if_pos (by rw [hys]),List.append_nil] at h9
         unfold Hid;rw [hrows.out,h9]
        have hnb2:Hid (n'≤s*2000+1+(k+1)):=by unfold Hid;have:=hnb.out;omega
        clear hys
        go_wp2
        go_roundw
        case rel=>exact ⟨k+1,n',M',F',rows,by omega,by go_num,hnb2,hrow2,hIg⟩
        case measure=>simp [intOf];omega
       have hysb:((yn:Int)==(s:Int))=false:=by simp;omega
       have hne:Hid (((yn:Nat):Int)≠(s:Int)):=by unfold Hid;omega
       have hst0:=states_any (HM.out.below hSi.2) (s:Int) (yn:Int) (by unfold i64;omega) (by unfold i64;omega)
       rw [st_zero (Mach.minErr_ok (Mach.adsChk_0 HE.out).1).1 (s:=(s:Int)) (x:=(yn:Int)) (by omega) (by omega)] at hst0
       have HSt:=Lib.hid hst0
       clear hst0 hys hSi
       go_wp2_with fail
       refine (HSt.out).mono ?_
       rintro e wj ⟨ad,cd,v,fl,rfl,hans,hvs,hbj⟩
       have hIj:=hIg.below hbj
       have hvsj:=Lib.hid (hvs.anti (M':=M') (fun k _ e=>hIg.lt k e))
       have hve:Hid (v=m.sepW s yn):=hans.out.1
       have hlk:=hIj.kg.look hs1000
       have hrl:Hid (rows.length<1000000):=by
        unfold Hid;rw [hrows.out,List.length_append]
        have h1:=Mach.idO_len (m:=m) (s:=(s:Int)) (o:=x.st.take k)
        rw [List.length_take] at h1
        have h2:(if 0<W.length∨x.st.length=1 then [W] else ([]:List (List Int))).length≤1:=by split<;>simp
        have:=hn.out
        omega
       clear HSt hvs hbj hIg hans
       go_wp2_with (at_builtin;refine wpList_push_row (B:=Bs) (M:=M') (v:=F' s) (rows:=rows) (r:=v) rfl rfl Tryz.underlying22 info_ints rfl rfl (hIj.ow.alloc _) hIj.own (by simp [go_sem]) (hvsj.out.alloc _) (by have:=hrl.out;omega) (by have:=hIj.bs;simp;omega) ?_)
       intro ak ck lk wk hlk2 hOk hkk hgk
       have hba:=(Below.refl wj.heap.size wj).alloc (Nat.le_refl _) (.cells #[.slice ad v.length cd] 49)
       obtain ⟨wl,Ml,Fl,hrunl,hIl⟩:=(hIj.below hba).app hs1000 (by have:=hnb.out;omega) (by simp) hgk hOk hkk.out
       have HIl:=Lib.hid hIl
       have hrow2:Hid (lk=(if 0<W.length∨x.st.length=1 then [W] else [])++m.idO s (x.st.take (k+1))):=by
        have h9:=Mach.idO_step (m:=m) (s:=(s:Int)) hye.out
        rw [if_neg hne.out] at h9
        unfold Hid;rw [hlk2.out,hrows.out,h9,List.append_assoc,hve.out]
       have hnb2:Hid (n'+1≤s*2000+1+(k+1)):=by unfold Hid;have:=hnb.out;omega
       clear hIj hlk hba hgk hOk hkk hIl hlk2
       go_wp2
       go_roundw
       case rel=>exact ⟨k+1,n'+1,Ml,Fl,lk,by omega,by go_num,hnb2,hrow2,HIl.out⟩
       case measure=>simp [intOf];omega
      have hfin : Hid (m.idW T ((s : Nat) : Int) = rows) := by
       unfold Hid;rw [HIw.out,hrows.out,List.take_of_length_le (by omega)]
      have HIn:=Lib.hid (hIg.next (R:=fun j=>m.idW T (j:Int)) hfin.out)
      have hnn2:Hid (n'≤(s+1)*2000):=by unfold Hid;have:=hnb.out;have:=hn.out;omega
      have hsm3:Hid (∀j:Nat,j<s+1→Sm6 (m.idW T (j:Int))):=fun j hj=>by
       by_cases e:j=s
       ·rw [e,HIw.out];exact small_id (by omega) (by have:=hn.out;omega) hn.out
       exact hsm.out j (by omega)
      clear hIg
      go_wp2
      go_roundw
      case rel=>exact ⟨s+1,n',wi.heap.size,F',by omega,by go_num,hnn2,hsm3,HIn.out⟩
      case measure=>simp [intOf];omega
   obtain ⟨N,hN⟩:∃N,Hid (N=m.next.length):=⟨_,rfl⟩
   have hsN:s=m.next.length:=by omega
   have HOL:Hid (∀w',Below wo.heap.size wo w'→KG w' w2.heap.size n F∧∀j,j<m.next.length→∃a c,F j= .slice a (m.idW T (j:Int)).length c∧Sl (fun k=>k=w2.heap.size∨Bs≤k) w' a c (m.idW T (j:Int))):=fun w' h=>
    ⟨(hIg.below h).kg,fun j hj=>(hIg.below h).old j (by omega)⟩
   have hB3:=Lib.hid hSo.2
   have hm03:=hm0.2.2.1
   have hwz:=hSo.2.size
   have hsm2:Hid (∀j:Nat,j<m.next.length→Sm6 (m.idW T (j:Int))):=fun j hj=>hsm.out j (by omega)
   have hidl:Hid ((m.ids T).length=m.next.length):=by unfold Hid Mach.ids;simp
   clear hIg hSo hsN hto hsm hnn
   go_wp2_with (at_make;refine wpList_mk (B:=wo.heap.size) (M:=fun _=>True) rfl _ _ 110 rfl 22 (.slice none 0 0) 24 Tryz.underlying110 info_rows3 rfl (d:=([]:List (List Int))) rfl (fun w=>rep_slice (l:=([]:List (List Int))) (Sl.nil _ w none (c:=0) (by unfold maxLen;omega))) m.next.length rfl rfl (by have:=hn.out;omega) (by unfold maxLen;have:=hn.out;omega) (Nat.le_refl _) ?_)
   intro g c l w4 hl hO hgz hgz2 hb4
   have hln:l.length=m.next.length:=by rw [hl.out];simp
   have hO2:=hO.subM (M':=fun k=>k≤g) (fun _ _ _=>trivial)
   rw [hln] at hO2 ⊢
   have hl0:Hid (l=(m.ids T).take 0++List.replicate (m.next.length-0) []):=by unfold Hid;rw [hl.out];simp
   have HO2:=Lib.hid hO2
   have hgw:=(hO.lt g rfl).2
   clear hln hl hO hO2
   go_wp2_with fail
   go_loopw [99] (fun i wr=>∃(k:Nat) (L:List (List (List Int))),k≤m.next.length∧i= .int .i64 k∧Hid (L=(m.ids T).take k++List.replicate (m.next.length-k) [])∧Ow wo.heap.size (fun k=>k≤g) wr 22 (.slice (some ⟨g,0,none⟩) m.next.length c) L∧Below wo.heap.size wo wr∧g<wr.heap.size) (fun i _=>m.next.length-(intOf i).toNat)
   case atStart=>exact ⟨0,l,by omega,rfl,hl0,HO2.out,hb4,hgw⟩
   case round=>
    clear hl0 HO2 hb4 hgw hm03
    obtain ⟨k,L,hk,rfl,hL,hO,hB,hgw⟩:=hrel
    obtain ⟨wi,rfl⟩:∃wi:World,wi=wr:=⟨_,rfl⟩
    have hLl:Hid (L.length=m.next.length):=by unfold Hid;rw [hL.out,List.length_append,List.length_take,List.length_replicate,hidl.out];omega
    by_cases hkl:k<m.next.length
    ·have hk1000:k<1000:=by have:=hn.out;omega
     obtain ⟨hKG,hOLd⟩:=HOL.out _ hB
     obtain ⟨aF,cF,hFk,hFs⟩:=hOLd k hkl
     have hlk:=hKG.look hk1000
     rw [hFk] at hlk
     have hsmk:=hsm2.out k hkl
     have HSo:=Lib.hid (sorted_any hFs (by have:=hsmk.1;omega) (Lib.hid (fun r hr=>by have:=hsmk.2 r hr;omega)))
     clear hKG hOLd hFk hFs
     go_wp2_with fail
     refine (HSo.out).mono ?_
     rintro e wk ⟨aL,cL,Lk,rfl,hLk,hLks,hbk⟩
     have hOk:=hO.below hbk
     have hgk:g<wk.heap.size:=by have:=hbk.size;omega
     have hBk:=hB.trans (hbk.mono hB.size)
     have hids:Hid ((m.ids T)[k]? =some Lk):=by unfold Hid Mach.ids;rw [List.getElem?_map,List.getElem?_range hkl,hLk.out];rfl
     have hLkg:=Lib.hid (hLks.anti (M':=fun k=>k≤g) (fun k _ e=>by omega))
     have hOk2:=hOk
     rw [←hLl.out] at hOk2
     obtain ⟨xs,hx1,hx2⟩:=hOk2
     have hkL:k<L.length:=by have:=hLl.out;omega
     have hcg:=hx1.cellAt k (by simp [GR.sz];omega)
     have hfg:=hx1.frozenAt k
     obtain ⟨u0,hu0⟩:∃u0,xs[k]? =some u0:=⟨_,List.getElem?_eq_getElem (by have:=hx1.1;simp [GR.sz] at this;omega)⟩
     rw [hu0] at hcg
     have hlsz:=hLks.le
     clear hx1 hx2 hLks hbk hB hO HSo
     go_wp2
     have hOn:Ow wo.heap.size (fun k=>k≤g) (wk.setCell ⟨g,k,none⟩ (.slice aL Lk.length cL)) 22 (.slice (some ⟨g,0,none⟩) L.length c) (L.set k Lk):=
      Ow.set (M:=fun k=>k≤g) (x:=Lk) rfl (by rw [hLl.out];exact hOk) (Nat.le_refl g) (rep_slice (hLkg.out.ext (Ext.setCell (M:=fun k=>k≤g) wk (p:=⟨g,k,none⟩) (Nat.le_refl g) _)))
     rw [hLl.out] at hOn
     have hLn:Hid (L.set k Lk=(m.ids T).take (k+1)++List.replicate (m.next.length-(k+1)) []):=by
      unfold Hid;rw [hL.out];exact fill_step hidl.out hids.out
     have hBn:=hBk.setCell (p:=⟨g,k,none⟩) hgz (.slice aL Lk.length cL)
     have hgn:g<(wk.setCell ⟨g,k,none⟩ (.slice aL Lk.length cL)).heap.size:=by simpa [World.setCell] using hgk
     clear hOk hBk hcg hfg hgk
     generalize wk.setCell ⟨g,k,none⟩ (.slice aL Lk.length cL)=wn at*
     go_roundw
     case rel=>exact ⟨k+1,L.set k Lk,by omega,by go_num,hLn,hOn,hBn,hgn⟩
     case measure=>simp [intOf];omega
    have hLf:Hid (L=m.ids T):=by unfold Hid;rw [hL.out,List.take_of_length_le (by have:=hidl.out;omega),show m.next.length-k=0 by omega];simp
    have hR:Hid (m.idE T=(L,0)):=by unfold Hid Mach.idE;rw [if_neg (by simp [HE.out]),hLf.out]
    have hSm:Hid (∀r∈L,Sm6 r):=fun r hr=>by
     rw [hLf.out] at hr
     unfold Mach.ids at hr
     obtain ⟨j,hj,rfl⟩:=List.mem_map.1 hr
     have h1:=hsm2.out j (List.mem_range.1 hj)
     exact ⟨Nat.lt_of_le_of_lt (srt_len _) h1.1,fun y hy=>h1.2 y ((srt_mem tot_cmp).1 hy)⟩
    have hO3:Ow wo.heap.size (fun k=>k≤g) wi 22 (.slice (some ⟨g,0,none⟩) L.length c) L:=by rw [hLl.out];exact hO
    have hLs:=Lib.hid ((hO3.subM (M':=fun k=>k<w.heap.size) (fun k _ e=>by omega)).toSl (fun k hk e=>by have:=(hO3.lt k hk).1;omega))
    have hBf:=hB3.out.trans (hB.mono hwz)
    have hLl2:=hLl.out
    clear hO hO3
    go_wp2
    exact bodyPost_ret (v:= .tuple #[.slice (some ⟨g,0,none⟩) m.next.length c,.int .i64 0]) (by simp [results,Tryz.results83,go_sem]) rfl ⟨some ⟨g,0,none⟩,c,L,0,by rw [hLl2],hR,hSm,hLs.out,hBf⟩
 have he':(m.adsChk T !=0)=true:=by simp [he]
 have hR:Hid (m.idE T=([],m.adsChk T)):=by unfold Hid Mach.idE;rw [if_pos he]
 clear he
 go_wp2
 exact bodyPost_ret (v:= .tuple #[.slice none 0 0,.int .i64 (m.adsChk T)]) (by simp [results,Tryz.results83,go_sem]) rfl ⟨none,0,[],m.adsChk T,rfl,hR,fun r hr=>by simp at hr,Sl.nil _ _ _ (by unfold maxLen;omega),hB2⟩
end
end Go.Proofs.YtjagagpcjpcjjaaGreat
namespace Go.Proofs.YtjagagpcjpcjjaaGreat
def InW (n:Int) (N:Nat) (w:List Int):Prop:=(∀a∈w,0≤a∧a<n)∧w.length≤N
theorem nxW_in {n:Int}:∀{w ys:List Int},(∀a∈w,0≤a∧a<n)→nxW n w=some ys→(∀a∈ys,0≤a∧a<n)∧ys.length=w.length
 |[],ys,h,e=>by simp [nxW] at e
 |x::xs,ys,h,e=>by
  have hx:=h x (.head _)
  unfold nxW at e
  split at e
  ·rename_i zs hz
   obtain ⟨h1,h2⟩:=nxW_in (fun a ha=>h a (.tail _ ha)) hz
   simp at e;subst e
   refine ⟨fun a ha=> ?_,by simp [h2]⟩
   rcases List.mem_cons.1 ha with rfl|ha
   ·exact hx
   exact h1 a ha
  split at e
  ·rename_i hlt
   simp at e;subst e
   refine ⟨fun a ha=> ?_,by simp⟩
   rcases List.mem_cons.1 ha with rfl|ha
   ·omega
   rw [List.eq_of_mem_replicate ha];omega
  simp at e
theorem nextV_in {n:Int} (hn:1≤n) {w:List Int} (h:∀a∈w,0≤a∧a<n):∀a∈nextV w n,0≤a∧a<n:=by
 unfold nextV
 split
 ·intro a ha;simp at ha
 split
 ·rename_i y hy
  exact (nxW_in h hy).1
 split
 ·intro a ha;simp at ha
 intro a ha;rw [List.eq_of_mem_replicate ha];omega
theorem upt_in {n N:Int} (hn:1≤n):∀(f:Nat) (out:List (List Int)) (w:List Int) (ok:Bool),(∀x∈out,InW n N.toNat x)→(∀a∈w,0≤a∧a<n)→(∀x∈(upt n N f out w ok).1,InW n N.toNat x)∧(upt n N f out w ok).1.length≤out.length+f
 |0,out,w,ok,ho,hw=>⟨ho,Nat.le_refl _⟩
 |f+1,out,w,ok,ho,hw=>by
  unfold upt
  split
  ·rename_i h1
   split
   ·exact ⟨fun x hx=>by simp at hx,by simp⟩
   have h2 := upt_in (N := N) hn f (out ++ [w]) (nextV w n) (nextB w n) (fun x hx => by
    rcases List.mem_append.1 hx with e|e
    ·exact ho x e
    rw [List.mem_singleton.1 e];exact ⟨hw,by have:=h1.2;omega⟩) (nextV_in hn hw)
   refine ⟨h2.1,?_⟩
   have:=h2.2
   simp at this
   omega
  exact ⟨ho,by show out.length≤_;omega⟩
theorem uptW_in (n N:Int):(∀x∈(uptW n N).1,InW n N.toNat x)∧(uptW n N).1.length≤10001:=by
 unfold uptW
 split
 ·exact ⟨fun x hx=>by simp at hx,by simp⟩
 rename_i h
 have:=upt_in (n:=n) (N:=N) (by omega) 10001 [] [] true (fun x hx=>by simp at hx) (fun a ha=>by simp at ha)
 simpa using this
theorem grW_mem {l:List (List (List Int))} {r:List (List Int)} (h:r∈l):r.length≤grW l:=by
 obtain ⟨k,hk⟩:=List.mem_iff_getElem?.1 h
 have h1:∀j,k+1≤j→r.length≤grW (l.take j):=by
  intro j hj
  induction j with
  |zero=>omega
  |succ j ih=>
   by_cases e:k+1=j+1
   ·obtain rfl:k=j:=by omega
    rw [grW_succ hk];exact Nat.le_max_right _ _
   have h2:=ih (by omega)
   by_cases hj2:j<l.length
   ·rw [grW_succ (List.getElem?_eq_getElem hj2)]
    exact Nat.le_trans h2 (Nat.le_max_left _ _)
   have e1:l.take (j+1)=l.take j:=by rw [List.take_of_length_le (by omega),List.take_of_length_le (by omega)]
   rw [e1];exact h2
 have h2:=h1 l.length (some_lt hk)
 rwa [List.take_length] at h2
theorem grW_pos (l:List (List (List Int))):1≤grW l:=by
 have:∀j,1≤grW (l.take j):=by
  intro j
  induction j with
  |zero=>simp [grW]
  |succ j ih=>
   by_cases hj:j<l.length
   ·rw [grW_succ (List.getElem?_eq_getElem hj)]
    exact Nat.le_trans ih (Nat.le_max_left _ _)
   have e1:l.take (j+1)=l.take j:=by rw [List.take_of_length_le (by omega),List.take_of_length_le (by omega)]
   rw [e1];exact ih
 have h:=this l.length
 rwa [List.take_length] at h
def sg (n:Mach) (ids:List (List (List Int))) (p x:List Int):List (List Int):=(tailW n ids (p++x)).map fun t=>(p++x)++t
def sf (n:Mach) (ids:List (List (List Int))) (X:List (List Int)) (p:List Int):List (List Int):=X.flatMap fun x=>sg n ids p x
def suOut (n:Mach) (ids:List (List (List Int))) (A X:List (List Int)):List (List Int):=A.flatMap fun p=>sf n ids X p
theorem fm_step {α β:Type} {l:List α} {f:α→List β} {k:Nat} {x:α} (h:l[k]? =some x):(l.take (k+1)).flatMap f=(l.take k).flatMap f++f x:=by
 rw [List.take_add_one,h,List.flatMap_append];simp
theorem tailW_in {n:Mach} {ids:List (List (List Int))} {w:List Int} (hs:∀r∈ids,Sm6 r):(tailW n ids w).length≤grW ids∧Sm6 (tailW n ids w):=by
 unfold tailW
 split
 ·exact ⟨by simp;exact grW_pos ids,by constructor<;>simp⟩
 rename_i h
 cases e:ids[(n.endW n.start w).toNat]? with
 |none=>exact absurd (by rw [List.getD_eq_getElem?_getD,e];rfl) h
 |some r=>
  rw [List.getD_eq_getElem?_getD,e]
  exact ⟨grW_mem (List.mem_of_getElem? e),hs r (List.mem_of_getElem? e)⟩
namespace Mach
def suW (m:Mach) (extra:Int):List (List Int)×Int:=
 if m.err≠0 then ([],m.err) else
 if extra<0∨3<extra then ([],2) else
 if (uptW m.inputs (extra+1)).2≠0 then ([],(uptW m.inputs (extra+1)).2) else
 if m.minOf.adsB.2.2≠0 then ([],m.minOf.adsB.2.2) else
 if (m.minOf.idE m.minOf.adsB.1).2≠0 then ([],(m.minOf.idE m.minOf.adsB.1).2) else
 if 10000<(m.minOf.covW.map Pc.word).length*(uptW m.inputs (extra+1)).1.length*grW (m.minOf.idE m.minOf.adsB.1).1 then ([],11) else
 (maxW (suOut m.minOf (m.minOf.idE m.minOf.adsB.1).1 (m.minOf.covW.map Pc.word) (uptW m.inputs (extra+1)).1),0)
end Mach
end Go.Proofs.YtjagagpcjpcjjaaGreat
namespace Go.Proofs.YtjagagpcjpcjjaaGreat
open Go.RowKit
theorem grW_le {l:List (List (List Int))} {N:Nat} (hN:1≤N) (h:∀r∈l,r.length≤N):grW l≤N:=by
 have:∀j,grW (l.take j)≤N:=by
  intro j
  induction j with
  |zero=>simpa [grW] using hN
  |succ j ih=>
   by_cases hj:j<l.length
   ·rw [grW_succ (List.getElem?_eq_getElem hj)]
    exact Nat.max_le.2 ⟨ih,h _ (List.getElem_mem hj)⟩
   have e1:l.take (j+1)=l.take j:=by rw [List.take_of_length_le (by omega),List.take_of_length_le (by omega)]
   rw [e1];exact ih
 have h:=this l.length
 rwa [List.take_length] at h
theorem Mach.adsB_len (n:Mach):n.adsB.1.length≤4097:=by
 unfold adsB
 split
 ·simp
 split
 ·simp
 show n.adsL.length≤4097;omega
theorem Mach.adsB_0 {n:Mach} (h:n.adsB.2.2=0):n.minErr=0:=by
 unfold adsB at h
 split at h
 ·rename_i h1;exact absurd h h1
 rename_i h1;exact Classical.byContradiction h1
theorem Mach.idE_0 {n:Mach} {T:List Nd} (h:(n.idE T).2=0):(n.idE T).1.length=n.next.length:=by
 unfold idE at h ⊢
 split
 ·rename_i h1;rw [if_pos h1] at h;exact absurd h h1
 simp [ids]
theorem sui_err {t:Mach} (okt:t.Ok) {p x:List Int} (hp:t.okS p) (hpl:p.length≤1000) {N:Nat} (hN:N≤4) (hx:InW t.inputs N x):wErr (p++x) t.inputs=0:=by
 have h0:=okt.i0
 have h1:=okt.i1
 unfold wErr
 rw [if_neg (by omega),if_neg (by rw [List.length_append];have:=hx.2;omega),if_neg]
 rintro ⟨a,ha,hb⟩
 rcases List.mem_append.1 ha with e|e
 ·have:=hp a e;omega
 have:=hx.1 a e;omega
theorem fm_len {α β:Type} {f:α→List β} {N:Nat}:∀(l:List α),(∀x∈l,(f x).length≤N)→(l.flatMap f).length≤l.length*N
 |[],_=>by simp
 |x::l,h=>by
  rw [List.flatMap_cons,List.length_append,List.length_cons,Nat.add_mul,Nat.one_mul]
  have:=fm_len l (fun y hy=>h y (.tail _ hy))
  have:=h x (.head _)
  omega
theorem suOut_len {t:Mach} {I:List (List (List Int))} {A X:List (List Int)} (hs:∀r∈I,Sm6 r):(suOut t I A X).length≤A.length*X.length*grW I:=by
 unfold suOut
 have h:=fm_len (f:=sf t I X) (N:=X.length*grW I) A (fun p _=>by
  unfold sf
  exact fm_len X (fun x _=>by unfold sg;rw [List.length_map];exact (tailW_in hs).1))
 rwa [←Nat.mul_assoc] at h
theorem suOut_mem {t:Mach} {I:List (List (List Int))} {A X:List (List Int)} (hs:∀r∈I,Sm6 r) {r:List Int} (hr:r∈suOut t I A X) {N1 N2:Nat} (h1:∀p∈A,p.length≤N1) (h2:∀x∈X,x.length≤N2):r.length≤N1+N2+1000000:=by
 unfold suOut at hr
 obtain ⟨p,hp,hr⟩:=List.mem_flatMap.1 hr
 unfold sf at hr
 obtain ⟨x,hx,hr⟩:=List.mem_flatMap.1 hr
 unfold sg at hr
 obtain ⟨v,hv,rfl⟩:=List.mem_map.1 hr
 have:=(tailW_in (w:=p++x) (n:=t) hs).2.2 v hv
 have:=h1 p hp
 have:=h2 x hx
 simp only [List.length_append]
 omega
section
variable {M:Nat→Prop} {w:World} {an ao:Option Addr} {cn co:Nat} {m:Mach}
theorem suite_any (hm:Ma M w an cn ao co m) (extra:Int):
    Calls Tryz.prog 36 #[maV m an cn ao co,.int .i64 extra] w fun e w'=>∃(a:Option Addr) (c:Nat) (L:List (List Int)) (e1:Int),e= .returned (.tuple #[.slice a L.length c,.int .i64 e1])∧Hid (m.suW extra=(L,e1))∧Sl (fun k=>k<w.heap.size) w' a c L∧Below w.heap.size w w':=by
 have hB0:=(Below.refl w.heap.size w).alloc (Nat.le_refl _) (maO m an cn ao co)
 have hx0:C4 (w.alloc (maO m an cn ao co)) w.heap.size an cn ao co m:=c4_new w
 have hz0:w.heap.size<(w.alloc (maO m an cn ao co)).heap.size:=by simp
 have HM:=Lib.hid hm
 have HV:=Lib.hid (valid_any (hm.below hB0))
 have l1:=hm.next.le
 have l2:=hm.out.le
 clear hm
 go_enter Tryz.func36,Tryz.ntmps36
 go_wp2_with fail
 generalize w.alloc (maO m an cn ao co)=w0 at*
 refine (HV.out).mono ?_
 rintro e w1 ⟨rfl,hb1⟩
 have hx1:=hx0.below hb1 hz0
 have hB1:=hB0.trans (hb1.mono (by omega))
 have hz1:w.heap.size<w1.heap.size:=by have:=hb1.size;omega
 clear hx0 hB0 hz0 hb1 HV
 by_cases he:m.err=0
 ·have he':(m.err !=0)=false:=by simp [he]
  have HE:=Lib.hid he
  have ok:Hid m.Ok:=Mach.ok_of_err m HE.out
  clear he
  by_cases hex:extra<0∨3<extra
  ·have hR:Hid (m.suW extra=([],2)):=by unfold Hid Mach.suW;rw [if_neg (by simp [HE.out]),if_pos hex]
   by_cases h1:extra<0
   ·clear hex
    go_wp2
    exact bodyPost_ret (v:= .tuple #[.slice none 0 0,.int .i64 2]) (by simp [results,Tryz.results36,go_sem]) rfl ⟨none,0,[],2,rfl,hR,Sl.nil _ _ _ (by unfold maxLen;omega),hB1⟩
   have h2:3<extra:=hex.elim (fun e=>absurd e h1) id
   clear hex
   go_wp2
   exact bodyPost_ret (v:= .tuple #[.slice none 0 0,.int .i64 2]) (by simp [results,Tryz.results36,go_sem]) rfl ⟨none,0,[],2,rfl,hR,Sl.nil _ _ _ (by unfold maxLen;omega),hB1⟩
  have h1:decide (extra<0)=false:=decide_eq_false (fun e=>hex (.inl e))
  have h2:decide (3<extra)=false:=decide_eq_false (fun e=>hex (.inr e))
  have HX:=Lib.hid hex
  have hwr:IntKind.i64.wrap (extra+1)=extra+1:=IntWalk.i64_in _ (by omega)
  have HUp:=Lib.hid (upto_any (w:=w1) m.inputs (extra+1))
  have hx10:=hx1.1
  clear hex
  go_wp2_with fail
  refine (HUp.out).mono ?_
  rintro e w2 ⟨aX,cX,X,e2,rfl,hX,hXs,hb2⟩
  have hx2:=hx1.below hb2 hz1
  have hB2:=hB1.trans (hb2.mono (by omega))
  have hz2:w.heap.size<w2.heap.size:=by have:=hb2.size;omega
  have HXs:=Lib.hid (hXs.anti (M':=fun k=>k<w.heap.size) (fun k _ e=>by omega))
  clear hx1 hB1 hz1 hb2 HUp hXs hx10
  by_cases he2:e2=0
  ·have he2b:(e2 !=0)=false:=by simp [he2]
   have HE2:=Lib.hid he2
   clear he2
   have ht0:=min_any (HM.out.below hB2)
   rw [HE.out] at ht0
   have HMi:=Lib.hid ht0
   clear ht0
   go_wp2_with fail
   refine (HMi.out).mono ?_
   rintro e w3 ⟨an',cn',ao',co',t,rfl,ht,hTm,hb3⟩
   have htm:Hid (t=m.minF):=by unfold Hid;rw [ht.out,Mach.minOf_eq HE.out]
   have okt:Hid t.Ok:=by rw [htm.out];exact Mach.minF_ok ok.out
   have htn:Hid (t.next.length<1000):=by have:=okt.out.n1;unfold Hid;omega
   have HTm:=Lib.hid (hTm.ext (M':=fun k=>k<w.heap.size) (Ext.sub_only (fun k _ e=>by omega)))
   have hB3:=hB2.trans (hb3.mono (by omega))
   have hz3:w.heap.size<w3.heap.size:=by have:=hb3.size;omega
   have HXs3:=Lib.hid (HXs.out.below hb3)
   have lt1:=hTm.next.le
   have lt2:=hTm.out.le
   clear hx2 hB2 hz2 HMi hTm hb3 HXs
   go_upto_region 12 with (fail)
   have hba:=(Below.refl w3.heap.size w3).alloc (Nat.le_refl _) (maO t an' cn' ao' co')
   have hc4:C4 (w3.alloc (maO t an' cn' ao' co')) w3.heap.size an' cn' ao' co' t:=c4_new w3
   have hB4:=hB3.trans (hba.mono (by omega))
   have HT4:=Lib.hid (HTm.out.below hba)
   have HXs4:=Lib.hid (HXs3.out.below hba)
   have hz4:w3.heap.size<(w3.alloc (maO t an' cn' ao' co')).heap.size:=by simp
   clear hba hB3 HTm HXs3
   generalize w3.alloc (maO t an' cn' ao' co')=w4 at*
   have HBu:=Lib.hid (gbuild_any HT4.out htn)
   go_wp2_with fail
   refine (HBu.out).mono ?_
   rintro e w5 ⟨aL,cL,L,y3,e3,rfl,hL,hLs,hb5⟩
   have hc5:=hc4.below hb5 hz4
   have hB5:=hB4.trans (hb5.mono (by omega))
   have HT5:=Lib.hid (HT4.out.below hb5)
   have HXs5:=Lib.hid (HXs4.out.below hb5)
   have HLs5:=Lib.hid (hLs.anti (M':=fun k=>k<w.heap.size) (fun k _ e=>by omega))
   have hz5:w3.heap.size<w5.heap.size:=by have:=hb5.size;omega
   have hLl:Hid (L.length≤4097):=by have h:=t.adsB_len;rw [hL.out] at h;exact h
   clear hc4 hB4 HT4 HXs4 hz4 hb5 HBu hLs
   by_cases he3:e3=0
   ·have he3b:(e3 !=0)=false:=by simp [he3]
    have HE3:=Lib.hid he3
    have hme:=Lib.hid (Mach.adsB_0 (n:=t) (by rw [hL.out];exact he3))
    clear he3
    go_upto_region 15 with (fail)
    have hba:=(Below.refl w5.heap.size w5).alloc (Nat.le_refl _) (.cells #[.slice aL L.length cL] 119)
    have ha6:(w5.alloc (.cells #[.slice aL L.length cL] 119)).cell? ⟨w5.heap.size,0,none⟩=some (.slice aL L.length cL):=by simp
    have hc6:=hc5.below hba hz5
    have hB6:=hB5.trans (hba.mono (by omega))
    have HT6:=Lib.hid (HT5.out.below hba)
    have HXs6:=Lib.hid (HXs5.out.below hba)
    have HLs6:=Lib.hid (HLs5.out.below hba)
    have hz6:w5.heap.size<(w5.alloc (.cells #[.slice aL L.length cL] 119)).heap.size:=by simp
    clear hba hc5 hB5 HT5 HXs5 HLs5
    generalize w5.alloc (.cells #[.slice aL L.length cL] 119)=w6 at*
    have HId:=Lib.hid (identify_any HT6.out HLs6.out htn (Lib.hid (by have:=hLl.out;omega)))
    go_wp2_with fail
    refine (HId.out).mono ?_
    rintro e w7 ⟨aI,cI,I,e4,rfl,hI,hIsm,hIs,hb7⟩
    have hc7:=hc6.below hb7 (by omega)
    have hB7:=hB6.trans (hb7.mono (by omega))
    have HT7:=Lib.hid (HT6.out.below hb7)
    have HXs7:=Lib.hid (HXs6.out.below hb7)
    have HIs7:=Lib.hid (hIs.anti (M':=fun k=>k<w.heap.size) (fun k _ e=>by omega))
    have hz7:w5.heap.size<w7.heap.size:=by have:=hb7.size;omega
    clear hc6 hB6 HT6 HXs6 hb7 HId hIs HLs6 ha6 hz6
    by_cases he4:e4=0
    ·have he4b:(e4 !=0)=false:=by simp [he4]
     have HE4:=Lib.hid he4
     have hIl:Hid (I.length=t.next.length):=by have h:=Mach.idE_0 (n:=t) (T:=L) (by rw [hI.out];exact he4);rw [hI.out] at h;exact h
     have hte:=Lib.hid (Mach.minErr_ok hme.out).1
     clear he4
     have HCv:=Lib.hid (cover_any HT7.out hte)
     go_wp2_with fail
     refine (HCv.out).mono ?_
     rintro e w8 ⟨aA,cA,A,rfl,hA,hAs,hb8⟩
     have hc8:=hc7.below hb8 (by omega)
     have hB8:=hB7.trans (hb8.mono (by omega))
     have HT8:=Lib.hid (HT7.out.below hb8)
     have HXs8:=Lib.hid (HXs7.out.below hb8)
     have HIs8:=Lib.hid (HIs7.out.below hb8)
     have HAs8:=Lib.hid (hAs.anti (M':=fun k=>k<w.heap.size) (fun k _ e=>by omega))
     have hz8:w5.heap.size<w8.heap.size:=by have:=hb8.size;omega
     have hAl:Hid (A.length≤1000∧∀p∈A,t.okS p∧p.length≤1000):=by
      have hn1:=okt.out.n1
      unfold Hid;rw [hA.out]
      refine ⟨?_,fun p hp=> ?_⟩
      ·rw [List.length_map]
       have h1:=t.cov_len t.next.length
       have h2:=Mach.bfs_le okt.out t.next.length
       unfold Mach.covW
       omega
      obtain ⟨q,hq,rfl⟩:=List.mem_map.1 hp
      have h1:=Mach.cov_all okt.out t.next.length q hq
      exact ⟨h1.2.2.1,by have:=h1.2.2.2.1;omega⟩
     have hXl:Hid (X.length≤10001∧∀x∈X,InW m.inputs (extra+1).toNat x):=by
      have h:=uptW_in m.inputs (extra+1)
      rw [hX.out] at h
      exact ⟨h.2,h.1⟩
     have hGl:Hid (grW I≤10000):=grW_le (by omega) (fun r hr=>by have:=(hIsm.out r hr).1;omega)
     clear hc7 hB7 HT7 HXs7 HIs7 hb8 HCv hAs
     have HGr:=Lib.hid (greatest_any HIs8.out)
     obtain ⟨G,hG⟩:∃G,Hid (G=grW I):=⟨_,rfl⟩
     rw [←hG.out] at hGl
     have hG0:Hid ((grW I:Int)=(G:Int)):=by unfold Hid;rw [hG.out]
     have hA1:=hAl.out.1
     have hX1:=hXl.out.1
     have hG1:=hGl.out
     have hAX:A.length*X.length≤1000*10001:=Nat.mul_le_mul hA1 hX1
     have hAXG:A.length*X.length*G≤1000*10001*10000:=Nat.mul_le_mul hAX hG1
     obtain ⟨P1,hP1⟩:∃P1,P1=A.length*X.length:=⟨_,rfl⟩
     obtain ⟨P2,hP2⟩:∃P2,P2=P1*G:=⟨_,rfl⟩
     have hw1:IntKind.i64.wrap ((A.length:Int)*(X.length:Int))=(P1:Int):=by
      rw [show ((A.length:Int)*(X.length:Int))=((P1:Nat):Int) by rw [hP1];simp]
      exact IntWalk.i64_in _ (by omega)
     have hw2:IntKind.i64.wrap ((P1:Int)*(G:Int))=(P2:Int):=by
      rw [show ((P1:Int)*(G:Int))=((P2:Nat):Int) by rw [hP2];simp]
      rw [←hP1] at hAXG
      rw [←hP2] at hAXG
      exact IntWalk.i64_in _ (by omega)
     have HGr0:=greatest_any HIs8.out
     rw [hG0.out] at HGr0
     have HGr2:=Lib.hid HGr0
     have hP3:Hid (P2=A.length*X.length*grW I):=by unfold Hid;rw [hP2,hP1,hG.out]
     have hR0:Hid (m.suW extra=if 10000<P2 then ([],11) else (maxW (suOut t I A X),0)):=by
      unfold Hid Mach.suW
      rw [if_neg (by simp [HE.out]),if_neg HX.out,hX.out,if_neg (by simp [HE2.out]),←ht.out,hL.out,if_neg (by simp [HE3.out]),hI.out,if_neg (by simp [HE4.out]),←hA.out,hP3.out]
     clear HGr0 HGr hP1 hP2 hAX hAXG
     by_cases hbig:10000<P2
     ·have hR:Hid (m.suW extra=([],11)):=by unfold Hid;rw [hR0.out,if_pos hbig]
      go_wp2_with fail
      refine (HGr2.out).mono ?_
      rintro e w9 ⟨rfl,rfl⟩
      go_wp2
      exact bodyPost_ret (v:= .tuple #[.slice none 0 0,.int .i64 11]) (by simp [results,Tryz.results36,go_sem]) rfl ⟨none,0,[],11,rfl,hR,Sl.nil _ _ _ (by unfold maxLen;omega),hB8⟩
     have hGb:Hid (0<A.length→0<X.length→G≤10000):=fun _ _=>hG1
     have hR1:Hid (m.suW extra=(maxW (suOut t I A X),0)):=by unfold Hid;rw [hR0.out,if_neg hbig]
     go_wp2_with fail
     refine (HGr2.out).mono ?_
     rintro e w9 ⟨rfl,rfl⟩
     clear HGr2 hR0
     have HS:Hid (∀w',Below w9.heap.size w9 w'→C4 w' w3.heap.size an' cn' ao' co' t∧Ma (fun k=>k<w.heap.size) w' an' cn' ao' co' t∧Sl (fun k=>k<w.heap.size) w' aI cI I∧Sl (fun k=>k<w.heap.size) w' aA cA A∧Sl (fun k=>k<w.heap.size) w' aX cX X∧Below w.heap.size w w'):=fun w' h=>
      ⟨hc8.below h (by omega),HT8.out.below h,HIs8.out.below h,HAs8.out.below h,HXs8.out.below h,hB8.trans (h.mono (by omega))⟩
     have hO0:Ox (α:=List Int) w9.heap.size w9.heap.size w9 49 (.slice none 0 0) []:=Ox.nil
     have hBz:=Below.refl w9.heap.size w9
     have hwz:w.heap.size≤w9.heap.size:=by omega
     have hIm:Hid (∀r∈I,Small9 r):=fun r hr=>⟨by have:=(hIsm.out r hr).1;omega,fun y hy=>by have:=(hIsm.out r hr).2 y hy;omega⟩
     have hti:Hid (t.inputs=m.inputs):=by unfold Hid;rw [htm.out];rfl
     clear hc8 hB8
     go_wp2_with fail
     go_loopw [91,14] (fun i v wr=>∃(k1:Nat) (a':Option Addr) (c':Nat) (K:List (List Int)),k1≤A.length∧i= .int .i64 k1∧v= .slice a' K.length c'∧Hid (K=(A.take k1).flatMap (sf t I X))∧Hid (K.length≤k1*200000000)∧
      Ox w9.heap.size w9.heap.size wr 49 (.slice a' K.length c') K∧Below w9.heap.size w9 wr) (fun i _ _=>A.length-(intOf i).toNat)
     case atStart=>exact ⟨0,none,0,[],by omega,rfl,rfl,by simp [Hid],by simp [Hid],hO0,hBz⟩
     case round=>
      clear hO0 hBz
      obtain ⟨k1,a1,c1,K1,hk1,rfl,rfl,hK1,hK1l,hO,hB⟩:=hrel
      obtain ⟨wo,rfl⟩:∃wo:World,wo=wr:=⟨_,rfl⟩
      by_cases hlt:k1<A.length
      ·obtain ⟨bA,oA,ap,p,cp,rfl,hpc,hp,hps⟩:=HAs8.out.at_row hlt
       have hpcw:=(hB.cell (p:=⟨bA,oA+k1,none⟩) (lt_of_cell hpc)).trans hpc
       have HP:=Lib.hid hps
       have hpA:=hAl.out.2 p (List.mem_of_getElem? hp.out)
       have hpl:=hpA.2
       have hpo:=Lib.hid hpA.1
       have hK2:Hid (K1=(A.take k1).flatMap (sf t I X)++(X.take 0).flatMap (sg t I p)):=by unfold Hid;rw [hK1.out];simp
       have hK2l:Hid (K1.length≤k1*200000000+0*10000):=Nat.le_trans hK1l.out (Nat.le_add_right _ _)
       have HO:=Lib.hid hO
       have HBo:=Lib.hid hB
       clear hps hpA hO hB hpc
       go_wp2_with fail
       go_loopw [97,14] (fun i v wr=>∃(k2:Nat) (a':Option Addr) (c':Nat) (K:List (List Int)),k2≤X.length∧i= .int .i64 k2∧v= .slice a' K.length c'∧Hid (K=(A.take k1).flatMap (sf t I X)++(X.take k2).flatMap (sg t I p))∧Hid (K.length≤k1*200000000+k2*10000)∧
        Ox w9.heap.size w9.heap.size wr 49 (.slice a' K.length c') K∧Below w9.heap.size w9 wr) (fun i _ _=>X.length-(intOf i).toNat)
       case atStart=>exact ⟨0,a1,c1,K1,by omega,rfl,rfl,hK2,hK2l,HO.out,HBo.out⟩
       case round=>
        clear hK2 hK2l HO HBo hpcw
        obtain ⟨k2,a2,c2,K2,hk2,rfl,rfl,hK2,hK2l,hO,hB⟩:=hrel
        obtain ⟨wi,rfl⟩:∃wi:World,wi=wr:=⟨_,rfl⟩
        by_cases hlt2:k2<X.length
        ·obtain ⟨bX,oX,ax,x,cx,rfl,hxc,hx,hxs⟩:=HXs8.out.at_row hlt2
         have hxcw:=(hB.cell (p:=⟨bX,oX+k2,none⟩) (lt_of_cell hxc)).trans hxc
         have hxX:=hXl.out.2 x (List.mem_of_getElem? hx.out)
         have hxl:=hxX.2
         have hwe:Hid (wErr (p++x) t.inputs=0):=sui_err okt.out hpo.out hpl (N:=(extra+1).toNat) (by have:=HX.out;omega) (by rw [hti.out];exact hxX)
         have hxl4:x.length≤4:=by have:=HX.out;omega
         have hr:=rows2 (T:=49) (HP.out.below hB) (hxs.below hB) (n:=p.length) rfl (m:=x.length) rfl
         have HJ:=Lib.hid (join_any hr (by rw [flat2];simp;omega))
         have hba:=(Below.refl wi.heap.size wi).alloc (Nat.le_refl _) (.cells #[.slice ap p.length cp,.slice ax x.length cx] 49)
         have hO3:=Ox.later hO hba
         have hB3:=hB.trans (hba.mono hB.size)
         have hz3:=hB3.size
         clear hr hxs hO hB hba hxc hxX
         go_wp2_with fail
         generalize hgg:wi.alloc (.cells #[.slice ap p.length cp,.slice ax x.length cx] 49)=wa at*
         clear hgg
         refine (HJ.out).mono ?_
         rintro e wb ⟨aw,cw,W,rfl,hW,hWs,hbb⟩
         have hO4:=Ox.later hO3 hbb
         have hB4:=hB3.trans (hbb.mono hz3)
         have hz4:=hB4.size
         have hWe:Hid (W=p++x):=by unfold Hid;rw [hW.out,flat2]
         have hWs4:=Lib.hid (hWs.anti (M':=fun k=>(Value.slice a2 K2.length c2).ownBlock=some k) (fun k _ hm=>(hO3.lt k hm).2))
         have hSb:=HS.out _ hB4
         have hcb:=hSb.1
         have hwe2:Hid (wErr W t.inputs=0):=by rw [hWe.out];exact hwe
         have HTl:=Lib.hid (tails_any hSb.2.1 hSb.2.2.1 hWs4.out okt hwe2 hIl hIm)
         clear HJ hbb hWs hO3 hB3 hW hxcw hSb hwe hwe2
         go_wp2_with fail
         refine (HTl.out).mono ?_
         rintro e wc ⟨at1,ct1,TL,rfl,hTL,hTs,hbc⟩
         have hO5:=Ox.later hO4 hbc
         have hB5:=hB4.trans (hbc.mono hz4)
         have hWs5:=Lib.hid (hWs4.out.below hbc)
         have hTs5:=Lib.hid (hTs.anti (M':=fun k=>(Value.slice a2 K2.length c2).ownBlock=some k) (fun k _ hm=>(hO4.lt k hm).2))
         have hTl:Hid (TL.length<10000∧∀v∈TL,v.length≤1000000):=by rw [hTL.out];exact (tailW_in hIsm.out).2
         have hTl1:=hTl.out.1
         have hWl:Hid (W.length≤1000+4):=by unfold Hid;rw [hWe.out,List.length_append];omega
         have hgs:Hid (sg t I p x=TL.map fun v=>W++v):=by unfold Hid sg;rw [hTL.out,hWe.out]
         have hK3:Hid (K2=(A.take k1).flatMap (sf t I X)++(X.take k2).flatMap (sg t I p)++((TL.take 0).map fun v=>W++v)):=by unfold Hid;rw [hK2.out];simp
         have hK3l:Hid (K2.length≤k1*200000000+k2*10000+0):=Nat.le_trans hK2l.out (Nat.le_add_right _ _)
         have HO:=Lib.hid hO5
         have HBo:=Lib.hid hB5
         clear HTl hbc hTs hO4 hB4 hWs4 hO5 hB5 hcb
         go_wp2_with fail
         go_loopw [117,14] (fun i v wr=>∃(k3:Nat) (a':Option Addr) (c':Nat) (K:List (List Int)),k3≤TL.length∧i= .int .i64 k3∧v= .slice a' K.length c'∧Hid (K=(A.take k1).flatMap (sf t I X)++(X.take k2).flatMap (sg t I p)++((TL.take k3).map fun v=>W++v))∧Hid (K.length≤k1*200000000+k2*10000+k3)∧
          Ox w9.heap.size w9.heap.size wr 49 (.slice a' K.length c') K∧Below w9.heap.size w9 wr∧Sl (fun k=>(Value.slice a' K.length c').ownBlock=some k) wr aw cw W∧Sl (fun k=>(Value.slice a' K.length c').ownBlock=some k) wr at1 ct1 TL) (fun i _ _=>TL.length-(intOf i).toNat)
         case atStart=>exact ⟨0,a2,c2,K2,by omega,rfl,rfl,hK3,hK3l,HO.out,HBo.out,hWs5.out,hTs5.out⟩
         case round=>
          clear hK3 hK3l HO HBo hWs5 hTs5 hK2 hK2l
          obtain ⟨k3,a3,c3,K3,hk3,rfl,rfl,hK3,hK3l,hO,hB,hWs,hTs⟩:=hrel
          obtain ⟨wd,rfl⟩:∃wd:World,wd=wr:=⟨_,rfl⟩
          by_cases hlt3:k3<TL.length
          ·obtain ⟨bT,oT,av,v,cv,rfl,hvc,hv,hvs⟩:=hTs.at_row hlt3
           have hvl:=hTl.out.2 v (List.mem_of_getElem? hv.out)
           have hWl1:=hWl.out
           have hr:=rows2 (T:=49) hWs hvs (n:=W.length) rfl (m:=v.length) rfl
           have HJ:=Lib.hid (join_any hr (by rw [flat2];simp;omega))
           have hba:=(Below.refl wd.heap.size wd).alloc (Nat.le_refl _) (.cells #[.slice aw W.length cw,.slice av v.length cv] 49)
           have hO3:=Ox.later hO hba
           have hB3:=hB.trans (hba.mono hB.size)
           have hz3:=hB3.size
           have hWs3:=hWs.below hba
           have hTs3:=hTs.below hba
           have hK12:K3.length<1000000000000:=by
            refine Nat.lt_of_le_of_lt hK3l.out ?_
            have e1:k1*200000000≤1000*200000000:=Nat.mul_le_mul_right _ (by omega)
            have e2:k2*10000≤10001*10000:=Nat.mul_le_mul_right _ (by omega)
            omega
           clear hr hvs hO hB hba hWs hTs
           go_wp2_with fail
           clear hvc
           generalize hgg:wd.alloc (.cells #[.slice aw W.length cw,.slice av v.length cv] 49)=we at*
           clear hgg
           refine (HJ.out).mono ?_
           rintro e wf ⟨a4,c4,x4,rfl,hx4,hs4,hb4⟩
           have hO4:=Ox.later hO3 hb4
           have hB4:=hB3.trans (hb4.mono hz3)
           have hz4:=hB4.size
           have hWs4:=hWs3.below hb4
           have hTs4:=hTs3.below hb4
           have hS4:=hs4.anti (M':=fun k=>(Value.slice a3 K3.length c3).ownBlock=some k∨k<w9.heap.size) fun k _ hm=>by
            rcases hm with hm|hm
            ·exact (hO3.lt k hm).2
            omega
           have hxe:Hid (x4=W++v):=by unfold Hid;rw [hx4.out,flat2]
           have hWs5:=Lib.hid (hWs4.alloc (.cells #[.slice a4 x4.length c4] 49))
           have hTs5:=Lib.hid (hTs4.alloc (.cells #[.slice a4 x4.length c4] 49))
           clear HJ hb4 hs4 hO3 hB3 hx4 hWs3 hTs3 hWs4 hTs4
           go_wp2_with (at_builtin;refine wpList_push_x (n0:=w9.heap.size) (B:=w9.heap.size) (r:=x4) (ar:=a4) (cr:=c4) rfl rfl Tryz.underlying22 info_ints rfl rfl (hO4.alloc _) (by simp [go_sem]) (hS4.alloc _) hK12 (by simp;omega) ?_)
           intro a5 c5 K5 w5' hK5 hO5 hbk hgr
           have hB5:=(hB4.alloc hz4 (.cells #[.slice a4 x4.length c4] 49)).grown hgr (by simp;omega) (fun k hk=>(hO4.lt k hk).1)
           have hex:Ext (fun k=>(Value.slice a3 K3.length c3).ownBlock=some k) (fun k=>(Value.slice a5 K5.length c5).ownBlock=some k) (wf.alloc (.cells #[.slice a4 x4.length c4] 49)) w5':=
            ⟨hgr.size,fun k hk hm=>hgr.block k hk (fun e=>hm e.symm),fun k hk hm=>by
             rcases hbk.out k hm with e|e
             ·exact e
             simp at hk e;omega⟩
           have hWs6:=hWs5.out.ext hex
           have hTs6:=hTs5.out.ext hex
           have hKn:Hid (K5=(A.take k1).flatMap (sf t I X)++(X.take k2).flatMap (sg t I p)++((TL.take (k3+1)).map fun v=>W++v)):=by
            unfold Hid;rw [hK5.out,hK3.out,map_step hv.out,hxe.out,List.append_assoc]
           have hKnl:Hid (K5.length≤k1*200000000+k2*10000+(k3+1)):=by unfold Hid;rw [hK5.out,List.length_append,List.length_singleton,←Nat.add_assoc (k1*200000000+k2*10000) k3 1];exact Nat.add_le_add_right hK3l.out 1
           clear hK5 hbk hgr hO4 hB4 hS4 hex hWs5 hTs5
           go_wp2
           go_roundw
           case rel=>exact ⟨k3+1,a5,c5,K5,by omega,by go_num,rfl,hKn,hKnl,hO5,hB5,hWs6,hTs6⟩
           case measure=>simp [intOf];omega
          have hKn : Hid (K3 = (A.take k1).flatMap (sf t I X) ++ (X.take (k2 + 1)).flatMap (sg t I p)) := by
           unfold Hid;rw [hK3.out,fm_step hx.out,List.take_of_length_le (l:=TL) (i:=k3) (by omega),hgs.out,List.append_assoc]
          have h10:k3≤10000:=by omega
          have hKnl:Hid (K3.length≤k1*200000000+(k2+1)*10000):=by
           refine Nat.le_trans hK3l.out ?_
           rw [Nat.succ_mul,←Nat.add_assoc]
           exact Nat.add_le_add_left h10 _
          clear hWs hTs
          go_wp2
          go_roundw
          case rel=>exact ⟨k2+1,a3,c3,K3,by omega,by go_num,rfl,hKn,hKnl,hO,hB⟩
          case measure=>simp [intOf];omega
        have hKn : Hid (K2 = (A.take (k1 + 1)).flatMap (sf t I X)) := by
         unfold Hid;rw [hK2.out,fm_step hp.out,List.take_of_length_le (l:=X) (i:=k2) (by omega)];rfl
        have hKnl:Hid (K2.length≤(k1+1)*200000000):=by unfold Hid;have:=hK2l.out;omega
        go_wp2
        go_roundw
        case rel=>exact ⟨k1+1,a2,c2,K2,by omega,by go_num,rfl,hKn,hKnl,hO,hB⟩
        case measure=>simp [intOf];omega
      have hKf:Hid (K1=suOut t I A X):=by unfold Hid;rw [hK1.out,List.take_of_length_le (by omega)];rfl
      have hsm:Hid (Small9 K1):=by
       refine ⟨?_,fun r hr=> ?_⟩
       ·have h:=suOut_len (t:=t) (A:=A) (X:=X) hIsm.out
        rw [hKf.out]
        rw [←hP3.out] at h
        omega
       rw [hKf.out] at hr
       have h:=suOut_mem hIsm.out hr (fun p hp=>(hAl.out.2 p hp).2) (fun x hx=>(hXl.out.2 x hx).2)
       have:=HX.out
       omega
      have hKs:=(hO.toSl (Nat.le_refl _))
      have HMx:=Lib.hid (max_any hKs hsm)
      have hBf:=(HS.out _ hB).2.2.2.2.2
      clear hO hB hKs
      go_wp2_with fail
      refine (HMx.out).mono ?_
      rintro e wf ⟨aM,cM,LM,rfl,hLM,hLMs,hbf⟩
      have hBf2:=hBf.trans (hbf.mono hBf.size)
      have hR:Hid (m.suW extra=(LM,0)):=by unfold Hid;rw [hR1.out,hLM.out,hKf.out]
      have hLMw:=hLMs.anti (M':=fun k=>k<w.heap.size) (fun k _ e=>by have:=hBf.size;omega)
      go_wp2
      exact bodyPost_ret (v:= .tuple #[.slice aM LM.length cM,.int .i64 0]) (by simp [results,Tryz.results36,go_sem]) rfl ⟨aM,cM,LM,0,rfl,hR,hLMw,hBf2⟩
    have he4b:(e4 !=0)=true:=by simp [he4]
    have hR:Hid (m.suW extra=([],e4)):=by
     unfold Hid Mach.suW;rw [if_neg (by simp [HE.out]),if_neg HX.out,hX.out,if_neg (by simp [HE2.out]),←ht.out,hL.out,if_neg (by simp [HE3.out]),hI.out,if_pos he4]
    clear he4
    go_wp2
    exact bodyPost_ret (v:= .tuple #[.slice none 0 0,.int .i64 e4]) (by simp [results,Tryz.results36,go_sem]) rfl ⟨none,0,[],e4,rfl,hR,Sl.nil _ _ _ (by unfold maxLen;omega),hB7⟩
   have he3b:(e3 !=0)=true:=by simp [he3]
   have hR:Hid (m.suW extra=([],e3)):=by
    unfold Hid Mach.suW;rw [if_neg (by simp [HE.out]),if_neg HX.out,hX.out,if_neg (by simp [HE2.out]),←ht.out,hL.out,if_pos he3]
   clear he3
   go_wp2
   exact bodyPost_ret (v:= .tuple #[.slice none 0 0,.int .i64 e3]) (by simp [results,Tryz.results36,go_sem]) rfl ⟨none,0,[],e3,rfl,hR,Sl.nil _ _ _ (by unfold maxLen;omega),(hB5.alloc (by omega) _)⟩
  have he2b:(e2 !=0)=true:=by simp [he2]
  have hR:Hid (m.suW extra=([],e2)):=by unfold Hid Mach.suW;rw [if_neg (by simp [HE.out]),if_neg HX.out,hX.out,if_pos he2]
  clear he2
  go_wp2
  exact bodyPost_ret (v:= .tuple #[.slice none 0 0,.int .i64 e2]) (by simp [results,Tryz.results36,go_sem]) rfl ⟨none,0,[],e2,rfl,hR,Sl.nil _ _ _ (by unfold maxLen;omega),hB2⟩
 have he':(m.err !=0)=true:=by simp [he]
 have hR:Hid (m.suW extra=([],m.err)):=by unfold Hid Mach.suW;rw [if_pos he]
 clear he
 go_wp2
 exact bodyPost_ret (v:= .tuple #[.slice none 0 0,.int .i64 m.err]) (by simp [results,Tryz.results36,go_sem]) rfl ⟨none,0,[],m.err,rfl,hR,Sl.nil _ _ _ (by unfold maxLen;omega),hB1⟩
end
section
variable {M M' M'':Nat→Prop} {w:World} {an ao a b d:Option Addr} {cn co ca cb cd:Nat} {m:Mach} {xs ys zs:List Int}
end
section
variable {M M' M'':Nat→Prop} {w:World} {an ao a b:Option Addr} {cn co c d:Nat} {m:Mach} {ids:List (List (List Int))} {l:List Int}
end
section
variable {M MA MX MI:Nat→Prop} {w:World} {an ao aA aX aI:Option Addr} {cn co cA cX cI:Nat} {t:Mach} {A X:List (List Int)} {I:List (List (List Int))}
end
end Go.Proofs.YtjagagpcjpcjjaaGreat
