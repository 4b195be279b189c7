/- Several texts, one behind the other. Conditions: as each of them says. -/
import Derived.Test.YtjagagpcjpcjjaaGreatMc29
import Derived.Test.YtjagagpcjpcjjaaGreatMc9
import Derived.Test.YtjagagpcjpcjjaaGreatMc4
import Derived.Test.YtjagagpcjpcjjaaGreatMc3
import Derived.Deep.Cut
set_option maxRecDepth 100000
set_option maxHeartbeats 32000000
namespace Go.Proofs.YtjagagpcjpcjjaaGreat
open Go.RowKit
theorem info_group:(Tryz.prog.info? 172).map (fun i=>(i.zero,i.size,i.bytes))=some (some (.agg #[.slice none 0 0,.slice none 0 0]),2,48):=by kernel_rfl
theorem make_gp (w:World) (n:Nat) (hn:n<1000000000):(Instr.makeSlice 224 (.int .i64 n) (.int .i64 n)).run Tryz.prog w= .ok (.slice (some ⟨w.heap.size,0,none⟩) n n) (w.alloc (.cells (madeCells #[.slice none 0 0,.slice none 0 0] (n*2)) 172)):=by
 obtain ⟨i,hi1,hi2,hi3,hi4⟩:=info_parts info_group
 have:=run_make (P:=Tryz.prog) w 224 172 i _ Tryz.underlying224 hi1 hi2 .i64 .i64 n n (by omega) (Int.le_refl _) (by rw [hi4];omega) (by omega)
 rw [hi3] at this
 simpa [Value.cells] using this
theorem made_gp (n i:Nat) (hi:i<n*2):(madeCells #[.slice none 0 0,.slice none 0 0] (n*2))[i]? =some (.slice none 0 0):=by
 unfold madeCells
 rw [Array.getElem?_map,Array.getElem?_range,if_pos hi]
 have:i%2=0∨i%2=1:=by omega
 rcases this with e|e<;>simp [e]
theorem ret_spl {a b:Option Addr} {n c k k' d:Nat} (h:k=k'):Ending.returned (.tuple #[.slice a n c,.slice b k d])= .returned (.tuple #[.slice a n c,.slice b k' d]):=by rw [h]
theorem ownb {g n c k:Nat} (h:(Value.slice (some ⟨g,0,none⟩) n c).ownBlock=some k):g=k:=by simpa [Value.ownBlock] using h
section
variable {M M1 M2:Nat→Prop} {w:World} {an ao ai ac:Option Addr} {cn co ci cc bb:Nat} {m:Mach} {I C:List Int}
theorem split_any (hb:C4 w bb an cn ao co m) (hbb:bb<w.heap.size) (hm:Ma M w an cn ao co m) (hI:Sl M1 w ai ci I) (hC:Sl M2 w ac cc C) (ok:Hid m.Ok) (hIC:Hid (I.length=C.length)) (h0:Hid (0<C.length)) (hn:Hid (C.length<1000)) (hr:Hid (∀s∈C,0≤s∧s<m.next.length)) (x:Nat) (hx:x<m.inputs.toNat):
    Calls Tryz.prog 179 #[.pointer (some ⟨bb,0,none⟩),.agg #[.slice ai I.length ci,.slice ac C.length cc],.int .i64 x] w fun e w'=>∃(a b:Option Addr) (c d:Nat) (X:List Int) (G:List Gp),e= .returned (.tuple #[.slice a X.length c,.slice b G.length d])∧
     Hid (X=m.outsI x C)∧Hid (G=m.grps x I C)∧Sl (fun k=>k<w.heap.size) w' a c X∧Sl (fun k=>k<w.heap.size) w' b d G∧Below w.heap.size w w':=by
 obtain ⟨bn,on,bo,oo,rfl,rfl⟩:=hm.addr ok.out
 have hB0:=(Below.refl w.heap.size w).alloc (Nat.le_refl _) (.cells #[.slice ai I.length ci,.slice ac C.length cc] 172)
 have hg0:(w.alloc (.cells #[.slice ai I.length ci,.slice ac C.length cc] 172)).cell? ⟨w.heap.size,0,none⟩=some (.slice ai I.length ci):=by simp
 have hg1:(w.alloc (.cells #[.slice ai I.length ci,.slice ac C.length cc] 172)).cell? ⟨w.heap.size,1,none⟩=some (.slice ac C.length cc):=by simp
 have hz0:w.heap.size<(w.alloc (.cells #[.slice ai I.length ci,.slice ac C.length cc] 172)).heap.size:=by simp
 have n1:=ok.out.n1
 have l1:=hm.next.le
 have l2:=hm.out.le
 have l3:=hI.le
 have l4:=hC.le
 have HM:=Lib.hid hm
 have HI:=Lib.hid hI
 have HC:=Lib.hid hC
 have HB:=Lib.hid hb
 clear hm hI hC hb
 go_enter Tryz.func179,Tryz.ntmps179
 go_upto_region 1 with (fail)
 generalize w.alloc (.cells #[.slice ai I.length ci,.slice ac C.length cc] 172)=w0 at*
 go_wp2
 go_loopw [8,20] (fun v i wr=>∃(k:Nat) (a':Option Addr) (c':Nat) (O:List Int),k≤C.length∧i= .int .i64 k∧v= .slice a' O.length c'∧Hid (O=(C.take k).map fun s=>m.ot s.toNat x)∧
  Ow (w.heap.size+1) (fun k=>w.heap.size+1≤k) wr 3 (.slice a' O.length c') O∧wr.cell? ⟨w.heap.size,0,none⟩=some (.slice ai I.length ci)∧wr.cell? ⟨w.heap.size,1,none⟩=some (.slice ac C.length cc)∧w.heap.size<wr.heap.size∧Below w.heap.size w wr) (fun _ i _=>C.length-(intOf i).toNat)
 case atStart=>exact ⟨0,none,0,[],by omega,rfl,rfl,rfl,Ow.nil,hg0,hg1,hz0,hB0⟩
 case round=>
  clear hg0 hg1 hz0 hB0
  obtain ⟨k,a',c',O,hk,rfl,rfl,hO,hOw,hg0,hg1,hz,hB⟩:=hrel
  obtain ⟨wo,rfl⟩:∃wo:World,wo=wr:=⟨_,rfl⟩
  have hOl:Hid (O.length=k):=by unfold Hid;rw [hO.out];simp;omega
  by_cases hlt:k<C.length
  ·obtain ⟨bs,os,s0,rfl,hcs,hs0, -⟩:=(HC.out.below hB).at_int hlt
   have hsr:=hr.out s0 (List.mem_of_getElem? hs0.out)
   obtain ⟨s,rfl⟩:=Int.eq_ofNat_of_zero_le hsr.1
   have hsn:s<m.next.length:=by omega
   have hso:s<m.out.length:=by have:=ok.out.lo;omega
   obtain ⟨bo2,oo2,a1,r1,c1,hbe,hn1,hr1,hS1⟩:=(HM.out.out.below hB).at_row hso
   obtain ⟨rfl,rfl⟩:bo=bo2∧oo=oo2:=by simpa using hbe
   have hr1n:=hS1.le
   have hrl:Hid ((r1.length:Int)=m.inputs):=by have:=ok.out.ro s hsn;rw [getD_of_some hr1.out] at this;exact this
   have hxl:x<r1.length:=by have:=hrl.out;omega
   obtain ⟨b3,o3,t0,rfl,htc,ht0,ht64⟩:=hS1.at_int hxl
   have hot:Hid (m.ot s x=t0):=by unfold Hid Mach.ot;rw [getD_of_some hr1.out,getD_of_some ht0.out]
   have hOn:Hid (O++[t0]=(C.take (k+1)).map fun s=>m.ot s.toNat x):=by
    unfold Hid;rw [List.take_add_one,hs0.out,List.map_append,hO.out,←hot.out];rfl
   have hb3:wo.cell? ⟨bb,3,none⟩=some (.slice (some ⟨bo,oo,none⟩) m.out.length co):=(hB.cell (p:=⟨bb,3,none⟩) hbb).trans HB.out.2.2.2
   clear hsr hbe hS1 hO
   go_wp2_with (at_builtin;refine wpList_push_i (B:=w.heap.size+1) (l:=O) (y:=t0) rfl rfl Tryz.underlying49 info_int rfl rfl (hOw.alloc _) (by simp [go_sem]) ht64.out (by have:=hOl.out;have:=hn.out;omega) (by simp;omega) ?_)
   intro a2 c2 O2 w2 hO2 hOw2 hb2
   have hba:=((Below.refl (w.heap.size+1) wo).alloc (by omega) (.cells #[.int .i64 t0] 3)).trans hb2
   have hg02:=(hba.cell (p:=⟨w.heap.size,0,none⟩) (show w.heap.size<w.heap.size+1 by omega)).trans hg0
   have hg12:=(hba.cell (p:=⟨w.heap.size,1,none⟩) (show w.heap.size<w.heap.size+1 by omega)).trans hg1
   have hB2:=hB.trans (hba.mono (by omega))
   have hz2:w.heap.size<w2.heap.size:=by have:=hba.size;omega
   have hOn:Hid (O2=(C.take (k+1)).map fun s=>m.ot s.toNat x):=by unfold Hid;rw [hO2.out,hOn.out]
   clear hb2 hba hg0 hg1 hB hO2 hOw hb3
   go_wp2
   go_roundw
   case rel=>exact ⟨k+1,a2,c2,O2,by omega,by go_num,rfl,hOn,hOw2,hg02,hg12,hz2,hB2⟩
   case measure=>simp [intOf];omega
  have hO1:Hid (O=C.map fun s=>m.ot s.toNat x):=by unfold Hid;rw [hO.out,List.take_of_length_le (by omega)]
  have hOl1:Hid (O.length=C.length):=by unfold Hid;have:=hOl.out;omega
  obtain ⟨go,rfl,hgo,hgow⟩:=ow_some hOw (by have:=hOl1.out;have:=h0.out;omega)
  have hOs:Sl (fun _=>False) wo (some ⟨go,0,none⟩) c' O:=(hOw.anyM (M':=fun _=>False)).toSl fun _ _ h=>h
  have HCl:=Lib.hid (clone_own hOs (by have:=hOl1.out;have:=hn.out;omega))
  clear hO hOl hOs
  go_wp2_with fail
  refine (HCl.out).mono ?_
  rintro e w2 ⟨a2,c2,K1,rfl,hK1,hKw1,hb2⟩
  have hKl1:Hid (K1.length=C.length):=by unfold Hid;rw [hK1.out];exact hOl1.out
  obtain ⟨gk,rfl,hgk,hgkw⟩:=ow_some hKw1 (by have:=hKl1.out;have:=h0.out;omega)
  have HS:=Lib.hid (isort_any hKw1 (by have:=hKl1.out;have:=hn.out;omega))
  clear HCl
  go_wp2_with fail
  refine (HS.out).mono ?_
  rintro e w3 ⟨rfl,K2,hK2,hKl2,hKw2,hgr3⟩
  have HS2:=Lib.hid (icomp_any hKw2 (by have:=hKl1.out;have:=hKl2.out;have:=hn.out;omega))
  rw [hKl2.out] at HS2
  have hb3:=hb2.grown hgr3 hb2.size (fun k hk=>by cases hk;exact hgk)
  clear HS hKw1 hKw2 hgr3 hb2
  go_wp2_with fail
  refine (HS2.out).mono ?_
  rintro e w4 ⟨X,rfl,hK3,hKw,hgr4⟩
  have hKF:Hid (X=m.outsI x C):=by unfold Hid Mach.outsI;rw [hK3.out,hK2.out,comp_sort,hK1.out,hO1.out]
  have hb4:=hb3.grown hgr4 hb3.size (fun k hk=>by cases hk;exact hgk)
  have hgk4:gk<w4.heap.size:=(hKw.lt gk rfl).2
  have hKA:Hid (IAsc X):=by rw [hKF.out];exact iset_asc _
  have hKn:Hid (X.length≤C.length):=by unfold Hid;rw [hKF.out];have:=iset_len (C.map fun s=>m.ot s.toNat x);rw [List.length_map] at this;exact this
  have hOw4:=hOw.below hb4
  have hg04:=(hb4.cell (p:=⟨w.heap.size,0,none⟩) hz).trans hg0
  have hg14:=(hb4.cell (p:=⟨w.heap.size,1,none⟩) hz).trans hg1
  have hB4:=hB.trans (hb4.mono (by omega))
  have hgk0:w.heap.size<gk:=by omega
  have hgo4:go<w4.heap.size:=by omega
  clear HS2 hb3 hgr4 hb4 hOw hg0 hg1 hB hz hKl2 hK1 hK2 hK3 hKl1
  have hmk:=make_gp w4 X.length (by have:=hKn.out;have:=hn.out;omega)
  have hFam:Fam (w4.heap.size+1) (w4.alloc (.cells (madeCells #[.slice none 0 0,.slice none 0 0] (X.length*2)) 172)) w4.heap.size (X.length*2) (fun _=>[]):=Fam.made (made_gp X.length)
  have hFam:Hid (Fam (w4.heap.size+1) (w4.alloc (.cells (madeCells #[.slice none 0 0,.slice none 0 0] (X.length*2)) 172)) w4.heap.size (X.length*2) (m.famI x I C X 0)):=hFam.congr fun i _=>(Mach.famI_zero x I C X i).symm
  have hBl:Hid (Below w4.heap.size w4 (w4.alloc (.cells (madeCells #[.slice none 0 0,.slice none 0 0] (X.length*2)) 172))):=(Below.refl w4.heap.size w4).alloc (Nat.le_refl _) _
  have hgl:Hid (w4.heap.size<(w4.alloc (.cells (madeCells #[.slice none 0 0,.slice none 0 0] (X.length*2)) 172)).heap.size):=by unfold Hid;simp
  go_wp2
  generalize hgg:w4.alloc (.cells (madeCells #[.slice none 0 0,.slice none 0 0] (X.length*2)) 172)=w5 at*
  clear hgg hmk
  go_loopw [50] (fun v wr=>∃k:Nat,k≤C.length∧v= .int .i64 k∧Fam (w4.heap.size+1) wr w4.heap.size (X.length*2) (m.famI x I C X k)∧Below w4.heap.size w4 wr∧w4.heap.size<wr.heap.size) (fun v _=>C.length-(intOf v).toNat)
  case atStart=>exact ⟨0,by omega,rfl,hFam.out,hBl.out,hgl.out⟩
  case round=>
   clear hFam hBl hgl
   obtain ⟨k,hk,rfl,hF,hB,hz⟩:=hrel
   obtain ⟨wo,rfl⟩:∃wo:World,wo=wr:=⟨_,rfl⟩
   have hB9:=hB4.trans (hB.mono (by omega))
   by_cases hlt:k<O.length
   ·have hkC:k<C.length:=by have:=hOl1.out;omega
    obtain ⟨bC,oC,s0,hac,hcC,hs0, -⟩:=HC.out.at_int hkC
    obtain ⟨bI,oI,p,hai,hcI,hp,hp64⟩:=HI.out.at_int (j:=k) (by have:=hIC.out;omega)
    have hsr:=hr.out s0 (List.mem_of_getElem? hs0.out)
    obtain ⟨s,rfl⟩:=Int.eq_ofNat_of_zero_le hsr.1
    have hsn:s<m.next.length:=by omega
    obtain ⟨bn2,on2,a1,r1,c1,hbe,hn1,hr1,hS1⟩:=HM.out.next.at_row hsn
    obtain ⟨rfl,rfl⟩:bn=bn2∧on=on2:=by simpa using hbe
    have hr1n:=hS1.le
    have hrl:Hid ((r1.length:Int)=m.inputs):=by have:=ok.out.rn s hsn;rw [getD_of_some hr1.out] at this;exact this
    have hxl:x<r1.length:=by have:=hrl.out;omega
    obtain ⟨b3,o3,t0,rfl,htc,ht0,ht64⟩:=hS1.at_int hxl
    have hnx:Hid (m.nx s x=t0):=by unfold Hid Mach.nx;rw [getD_of_some hr1.out,getD_of_some ht0.out]
    obtain ⟨go2,o0,hgo2,hoc, -,ho0, -⟩:=(hOw4.upto hB (fun k hk=>by have:=ownb hk;omega)).at_int hlt
    obtain rfl:go=go2:=by simpa using hgo2
    have hoe:Hid (m.ot s x=o0):=by
     have h1:=ho0.out
     rw [hO1.out,List.getElem?_map,hs0.out] at h1
     unfold Hid
     simpa using h1
    obtain ⟨j,hj⟩:∃j,X[j]? =some o0:=by
     have h1:o0∈X:=by
      rw [hKF.out];unfold Mach.outsI
      rw [iset_mem,←hO1.out]
      exact List.mem_of_getElem? ho0.out
     exact List.mem_iff_getElem?.1 h1
    have hjK:j<X.length:=by
     by_cases e:j<X.length
     ·exact e
     rw [List.getElem?_eq_none (by omega)] at hj;simp at hj
    have HJ:=Lib.hid hj
    have HFD:=Lib.hid (ifind_any (M:=fun _=>False) rfl ((((hKw.anyM (M':=fun _=>False)).upto hB (fun k hk=>by have:=ownb hk;omega)).toSl fun _ _ h=>h)) (by have:=hKn.out;have:=hn.out;omega) hKA.out hj)
    have HS:Hid (∀w',Below w4.heap.size w4 w'→(w'.cell? ⟨w.heap.size,0,none⟩=some (.slice (some ⟨bI,oI,none⟩) I.length ci)∧w'.cell? ⟨bI,oI+k,none⟩=some (.int .i64 p))∧(w'.cell? ⟨w.heap.size,1,none⟩=some (.slice (some ⟨bC,oC,none⟩) C.length cc)∧w'.cell? ⟨bC,oC+k,none⟩=some (.int .i64 (s:Int)))∧
        (w'.cell? ⟨bb,2,none⟩=some (.slice (some ⟨bn,on,none⟩) m.next.length cn)∧w'.cell? ⟨bn,on+s,none⟩=some (.slice (some ⟨b3,o3,none⟩) r1.length c1)∧w'.cell? ⟨b3,o3+x,none⟩=some (.int .i64 t0))):=by
     intro w' h
     have h2:=hB4.trans (h.mono hB4.size)
     refine ⟨⟨?_,?_⟩,⟨?_,?_⟩,?_,?_,?_⟩
     ·rw [←hai];exact (h.cell (p:=⟨w.heap.size,0,none⟩) (by show w.heap.size<_;omega)).trans hg04
     ·exact (h2.cell (p:=⟨bI,oI+k,none⟩) (lt_of_cell hcI)).trans hcI
     ·rw [←hac];exact (h.cell (p:=⟨w.heap.size,1,none⟩) (by show w.heap.size<_;omega)).trans hg14
     ·exact (h2.cell (p:=⟨bC,oC+k,none⟩) (lt_of_cell hcC)).trans hcC
     ·exact (h2.cell (p:=⟨bb,2,none⟩) hbb).trans HB.out.2.2.1
     ·exact (h2.cell (p:=⟨bn,on+s,none⟩) (lt_of_cell hn1)).trans hn1
     exact (h2.cell (p:=⟨b3,o3+x,none⟩) (lt_of_cell htc)).trans htc
    clear hai hac hcC hcI hsr hbe hn1 hS1 htc hgo2 hj
    go_wp2_with fail
    refine (HFD.out).mono ?_
    rintro e w6 ⟨rfl,hb6⟩
    have hF6:=hF.below hz hb6
    have hB6:=hB.trans (hb6.mono hB.size)
    have hz6:w4.heap.size<w6.heap.size:=by have:=hb6.size;omega
    clear HFD hF hB hoc hB9 hb6
    go_upto_region 15 with (fail)
    obtain ⟨aF,cF,hcF,hfF,hOF⟩:=hF6.at (i:=j*2) (by omega)
    refine wp_region_T (fun w'=>w'.cell? ⟨w4.heap.size,j*2,none⟩=some (.slice aF (m.famI x I C X k (j*2)).length cF)∧w'.cell? ⟨w.heap.size,0,none⟩=some (.slice (some ⟨bI,oI,none⟩) I.length ci)∧w'.cell? ⟨bI,oI+k,none⟩=some (.int .i64 p)) [0,1,2,3,4,5,6,7,8,9,10,11,14,15] (by kernel_rfl) ?_
    have hbd:=(Below.refl w6.heap.size w6).drew
    have hF7:=hF6.below hz6 hbd
    have hB7:=hB6.trans (hbd.mono hB6.size)
    have hz7:w4.heap.size<w6.drew.heap.size:=hz6
    have hOF7:=hOF.drew
    have hcF7:w6.drew.cell? ⟨w4.heap.size,j*2,none⟩=some (.slice aF (m.famI x I C X k (j*2)).length cF):=hcF
    have hfF7:w6.drew.frozen? ⟨w4.heap.size,j*2,none⟩=false:=hfF
    clear hF6 hB6 hz6 hcF hfF hOF hbd
    generalize w6.drew=w7 at*
    have hSd:=And.intro hcF7 (HS.out w7 hB7).1
    have hfl:Hid ((m.famI x I C X k (j*2)).length<1000000):=by
     unfold Hid Mach.famI
     rw [if_pos (by omega)]
     unfold Mach.gpI
     rw [List.length_map]
     refine Nat.lt_of_le_of_lt (List.length_filter_le _ _) ?_
     rw [List.length_zip,List.length_take,List.length_take]
     have:=hn.out
     omega
    have hIk:k<I.length:=by have:=hIC.out;omega
    refine skT_on [0,1,2,3,4,5,6,7,8,9,10,11] ?_
    repeat (refine skT_take (v:= ?_) rfl ?_ ?_;rotate_left;(focus (intro w' hSw;(try dsimp only at hSw);go_simp;try with_reducible rfl));try simp only [Act.put,List.setIfInBounds_toArray,List.set_cons_zero,List.set_cons_succ])
    refine skT_off ?_
    refine wpAnyT_one (i:=12) (by kernel_rfl) rfl rfl (fun K hK=> ?_)
    go_simp
    have hba:=(Below.refl w7.heap.size w7).alloc (Nat.le_refl _) (.cells #[.int .i64 p] 3)
    have hB8:=hB7.trans (hba.mono hB7.size)
    have hF8:=hF7.below hz7 hba
    have hOF8:=hOF7.alloc (.cells #[.int .i64 p] 3)
    have hcF8:=(hba.cell (p:=⟨w4.heap.size,j*2,none⟩) hz7).trans hcF7
    refine hK _ _ (fun _=>And.intro hcF8 (HS.out _ hB8).1) ?_
    have hz8:w4.heap.size+1≤w7.heap.size:=by omega
    have hfF8:(w7.alloc (.cells #[.int .i64 p] 3)).frozen? ⟨w4.heap.size,j*2,none⟩=false:=(frozen_block (a:=⟨w4.heap.size,j*2,none⟩) (hba.block _ hz7)).trans hfF7
    clear hK K hSd hF7 hOF7 hB7 hba hcF7 hfF7
    refine wpAnyT_one (i:=13) (by kernel_rfl) rfl rfl (fun K hK=> ?_)
    refine wp_push_o (B:=w4.heap.size+1) (M:=fun k=>w4.heap.size+1≤k) (v:= .slice aF (m.famI x I C X k (j*2)).length cF) (l:=m.famI x I C X k (j*2)) (y:=p) rfl Tryz.underlying49 info_int rfl rfl hOF8 (by simp [go_sem]) hp64.out (by have:=hfl.out;omega) (by simp;omega) ?_
    intro a9 c9 l9 w9 hl9 hO9 hk9 hg9
    have hFp:=Lib.hid (hF8.push (Nat.lt_succ_self _) (by simp;omega) (i:=j*2) (by omega) hcF8 hl9.out hO9 (fun k hk=>by
     rcases (hk9.out k hk).1 with e|e
     ·exact .inl e
     exact .inr (by omega)) hg9)
    have hgb:w9.heap[w4.heap.size]? =(w7.alloc (.cells #[.int .i64 p] 3)).heap[w4.heap.size]? :=hg9.block _ (by simp;omega) (fun e=>by have:=(hOF8.lt _ e.symm).1;omega)
    have hB9:=hB8.grown hg9 (by simp;omega) (fun k hk=>by have:=(hOF8.lt k hk).1;omega)
    have hcF9:=(World.cell?_of_block (a:=⟨w4.heap.size,j*2,none⟩) hgb).trans hcF8
    have hfF9:=(frozen_block (a:=⟨w4.heap.size,j*2,none⟩) hgb).trans hfF8
    have hz9:w4.heap.size<w9.heap.size:=by have:=hg9.size;simp at this;omega
    have hS9:=And.intro hcF9 (HS.out _ hB9).1
    refine hK _ _ (fun _=>hS9) ?_
    clear hK K hF8 hOF8 hcF8 hfF8 hB8 hO9 hk9 hg9 hgb
    refine skT_on [14,15] ?_
    repeat (refine skT_take (v:= ?_) rfl ?_ ?_;rotate_left;(focus (intro w' hSw;(try dsimp only at hSw);go_simp;try with_reducible rfl));try simp only [Act.put,List.setIfInBounds_toArray,List.set_cons_zero,List.set_cons_succ])
    refine skT_off ?_
    refine wpAnyT_late (i:=16) (by kernel_rfl) (by kernel_rfl) rfl rfl (fun K hK=> ?_)
    go_simp
    refine hK _ _ ?_
    clear hK K
    refine wpAnyT_done (by kernel_rfl) ?_ _
    obtain ⟨F1,hF1⟩:∃F1:Nat→List Int,F1=fun i=>if i=j*2 then m.famI x I C X k (j*2)++[p] else m.famI x I C X k i:=⟨_,rfl⟩
    rw [←hF1] at hFp
    have HF1:=Lib.hid hF1
    have hBq:=hB9.setCell (p:=⟨w4.heap.size,j*2,none⟩) (Nat.le_refl _) (.slice a9 l9.length c9)
    have hzq:w4.heap.size<(w9.setCell ⟨w4.heap.size,j*2,none⟩ (.slice a9 l9.length c9)).heap.size:=by simpa [World.setCell] using hz9
    have hf1l:Hid ((F1 (j*2+1)).length<1000000):=by
     unfold Hid
     rw [hF1]
     simp only []
     rw [if_neg (by omega)]
     unfold Mach.famI
     rw [if_neg (by omega)]
     unfold Mach.gpC
     rw [List.length_map]
     refine Nat.lt_of_le_of_lt (List.length_filter_le _ _) ?_
     rw [List.length_zip,List.length_take,List.length_take]
     have:=hn.out
     omega
    clear hF1 hB9 hcF9 hfF9 hz9 hfl hS9
    generalize w9.setCell ⟨w4.heap.size,j*2,none⟩ (.slice a9 l9.length c9)=wq at*
    obtain ⟨aG,cG,hcG,hfG,hOG⟩:=hFp.out.at (i:=j*2+1) (by omega)
    go_upto_region 16 with (fail)
    refine wp_region_T (fun w'=>w'.cell? ⟨w4.heap.size,j*2+1,none⟩=some (.slice aG (F1 (j*2+1)).length cG)∧(w'.cell? ⟨w.heap.size,1,none⟩=some (.slice (some ⟨bC,oC,none⟩) C.length cc)∧w'.cell? ⟨bC,oC+k,none⟩=some (.int .i64 (s:Int)))∧
        (w'.cell? ⟨bb,2,none⟩=some (.slice (some ⟨bn,on,none⟩) m.next.length cn)∧w'.cell? ⟨bn,on+s,none⟩=some (.slice (some ⟨b3,o3,none⟩) r1.length c1)∧w'.cell? ⟨b3,o3+x,none⟩=some (.int .i64 t0))) [0,1,2,3,4,5,6,7,8,9,10,11,12,13,14,15,16,17,18,19,20,21,24,25] (by kernel_rfl) ?_
    have hbd:=(Below.refl wq.heap.size wq).drew
    have hF7:=hFp.out.below hzq hbd
    have hB7:=hBq.trans (hbd.mono hBq.size)
    have hz7:w4.heap.size<wq.drew.heap.size:=hzq
    have hOG7:=hOG.drew
    have hcG7:wq.drew.cell? ⟨w4.heap.size,j*2+1,none⟩=some (.slice aG (F1 (j*2+1)).length cG):=hcG
    have hfG7:wq.drew.frozen? ⟨w4.heap.size,j*2+1,none⟩=false:=hfG
    clear hFp hBq hzq hcG hfG hOG hbd
    generalize wq.drew=wr7 at*
    have hSd:=And.intro hcG7 (HS.out wr7 hB7).2
    refine skT_on [0,1,2,3,4,5,6,7,8,9,10,11,12,13,14,15,16,17,18,19,20,21] ?_
    repeat (refine skT_take (v:= ?_) rfl ?_ ?_;rotate_left;(focus (intro w' hSw;(try dsimp only at hSw);go_simp;try with_reducible rfl));try simp only [Act.put,List.setIfInBounds_toArray,List.set_cons_zero,List.set_cons_succ])
    refine skT_off ?_
    refine wpAnyT_one (i:=22) (by kernel_rfl) rfl rfl (fun K hK=> ?_)
    go_simp
    have hba:=(Below.refl wr7.heap.size wr7).alloc (Nat.le_refl _) (.cells #[.int .i64 t0] 3)
    have hB8:=hB7.trans (hba.mono hB7.size)
    have hF8:=hF7.below hz7 hba
    have hOG8:=hOG7.alloc (.cells #[.int .i64 t0] 3)
    have hcG8:=(hba.cell (p:=⟨w4.heap.size,j*2+1,none⟩) hz7).trans hcG7
    refine hK _ _ (fun _=>And.intro hcG8 (HS.out _ hB8).2) ?_
    have hz8:w4.heap.size+1≤wr7.heap.size:=by omega
    have hfG8:(wr7.alloc (.cells #[.int .i64 t0] 3)).frozen? ⟨w4.heap.size,j*2+1,none⟩=false:=(frozen_block (a:=⟨w4.heap.size,j*2+1,none⟩) (hba.block _ hz7)).trans hfG7
    clear hK K hSd hF7 hOG7 hB7 hba hcG7 hfG7
    refine wpAnyT_one (i:=23) (by kernel_rfl) rfl rfl (fun K hK=> ?_)
    refine wp_push_o (B:=w4.heap.size+1) (M:=fun k=>w4.heap.size+1≤k) (v:= .slice aG (F1 (j*2+1)).length cG) (l:=F1 (j*2+1)) (y:=t0) rfl Tryz.underlying49 info_int rfl rfl hOG8 (by simp [go_sem]) ht64.out (by have:=hf1l.out;omega) (by simp;omega) ?_
    intro a11 c11 l11 w11 hl11 hO11 hk11 hg11
    have hFp:=Lib.hid (hF8.push (Nat.lt_succ_self _) (by simp;omega) (i:=j*2+1) (by omega) hcG8 hl11.out hO11 (fun k hk=>by
     rcases (hk11.out k hk).1 with e|e
     ·exact .inl e
     exact .inr (by omega)) hg11)
    have hgb:w11.heap[w4.heap.size]? =(wr7.alloc (.cells #[.int .i64 t0] 3)).heap[w4.heap.size]? :=hg11.block _ (by simp;omega) (fun e=>by have:=(hOG8.lt _ e.symm).1;omega)
    have hB11:=hB8.grown hg11 (by simp;omega) (fun k hk=>by have:=(hOG8.lt k hk).1;omega)
    have hcG11:=(World.cell?_of_block (a:=⟨w4.heap.size,j*2+1,none⟩) hgb).trans hcG8
    have hfG11:=(frozen_block (a:=⟨w4.heap.size,j*2+1,none⟩) hgb).trans hfG8
    have hz11:w4.heap.size<w11.heap.size:=by have:=hg11.size;simp at this;omega
    have hS11:=And.intro hcG11 (HS.out _ hB11).2
    refine hK _ _ (fun _=>hS11) ?_
    clear hK K hF8 hOG8 hcG8 hfG8 hB8 hO11 hk11 hg11 hgb
    refine skT_on [24,25] ?_
    repeat (refine skT_take (v:= ?_) rfl ?_ ?_;rotate_left;(focus (intro w' hSw;(try dsimp only at hSw);go_simp;try with_reducible rfl));try simp only [Act.put,List.setIfInBounds_toArray,List.set_cons_zero,List.set_cons_succ])
    refine skT_off ?_
    refine wpAnyT_late (i:=26) (by kernel_rfl) (by kernel_rfl) rfl rfl (fun K hK=> ?_)
    go_simp
    refine hK _ _ ?_
    clear hK K
    refine wpAnyT_done (by kernel_rfl) ?_ _
    have hFn:Hid (Fam (w4.heap.size+1) (w11.setCell ⟨w4.heap.size,j*2+1,none⟩ (.slice a11 l11.length c11)) w4.heap.size (X.length*2) (m.famI x I C X (k+1))):=hFp.out.congr fun i hi=>by
     have h1:=Mach.famI_step (m:=m) (x:=x) (I:=I) (C:=C) (K:=X) (k:=k) (j:=j) hp.out hs0.out hKA.out (by rw [HJ.out];congr 1;simpa using hoe.out.symm) i hi
     rw [←h1,HF1.out]
     simp only [Nat.mul_comm 2 j]
     rw [show m.nx ((s:Int).toNat) x=t0 from hnx.out]
    have hBn:=hB11.setCell (p:=⟨w4.heap.size,j*2+1,none⟩) (Nat.le_refl _) (.slice a11 l11.length c11)
    have hzn:w4.heap.size<(w11.setCell ⟨w4.heap.size,j*2+1,none⟩ (.slice a11 l11.length c11)).heap.size:=by simpa [World.setCell] using hz11
    clear hFp hB11 hcG11 hfG11 hz11 hf1l HS hS11
    generalize w11.setCell ⟨w4.heap.size,j*2+1,none⟩ (.slice a11 l11.length c11)=wn at*
    go_wp2
    go_roundw
    case rel=>exact ⟨k+1,by omega,by go_num,hFn.out,hBn,hzn⟩
    case measure=>simp [intOf];omega
   have hkC:k=C.length:=by have:=hOl1.out;omega
   have hGS:Hid (Sl (fun k=>k<w.heap.size) wo (some ⟨w4.heap.size,0,none⟩) X.length (X.map (m.grp x I C))):=by
    rw [hkC] at hF
    exact hF.toSl hIC.out rfl hz (by omega) (fun k hk=>by omega) (Nat.le_refl _) (by have:=hKn.out;have:=hn.out;unfold maxLen;omega)
   have hXS:Hid (Sl (fun k=>k<w.heap.size) wo (some ⟨gk,0,none⟩) c2 X):=((hKw.anyM (M':=fun k=>k<w.heap.size)).upto hB (fun k hk=>by have:=ownb hk;omega)).toSl (fun k hk hm=>by have:=ownb hk;omega)
   have hGF:Hid (X.map (m.grp x I C)=m.grps x I C):=by unfold Hid Mach.grps;rw [hKF.out]
   have hGl:Hid ((X.map (m.grp x I C)).length=X.length):=List.length_map _
   clear hF hB hkC
   go_wp2
   go_ret2
   exact ⟨some ⟨gk,0,none⟩,some ⟨w4.heap.size,0,none⟩,c2,X.length,X,X.map (m.grp x I C),ret_spl hGl.out.symm,hKF,hGF,hXS.out,hGS.out,hB9⟩
end
end Go.Proofs.YtjagagpcjpcjjaaGreat
