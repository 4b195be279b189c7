/- Several texts, one behind the other. Conditions: as each of them says. -/
import Derived.Test.YtknhegdepbmmlaaGreatMt20
import Derived.Test.YtknhegdepbmmlaaGreatMt9
import Derived.Test.YtknhegdepbmmlaaGreatMt6
import Derived.Test.YtknhegdepbmmlaaGreatMt3
import Derived.Test.YtknhegdepbmmlaaGreatMt1
set_option maxRecDepth 100000
set_option maxHeartbeats 32000000
namespace Go.Proofs.YtknhegdepbmmlaaGreat
open Go.RowKit
section
variable {M:Nat→Prop} {w:World} {an ao:Option Addr} {cn co:Nat} {m:Mach}
theorem minR_any (hm:Ma M w an cn ao co m):
    Calls Tryz.prog 85 #[maV m an cn ao co] w fun e w'=>
     ∃an' cn' ao' co' t,e= .returned (.tuple #[maV t an' cn' ao' co',.int .i64 m.err])∧Hid (t=m.minOf)∧Ma (fun k=>k<w.heap.size) w' an' cn' ao' co' t∧Below w.heap.size w w':=by
 have HT:=Lib.hid (classesR_any (hm.ext ((Ext.alloc M w (.cells #[.int .i64 m.inputs,.int .i64 m.start,.slice an m.next.length cn,.slice ao m.out.length co] 24)).trans (Ext.alloc M _ (.cells #[.int .i64 0,.int .i64 0,.slice none 0 0,.slice none 0 0] 24)))))
 by_cases he:m.err=0
 ·have he':(m.err !=0)=false:=by simp [he]
  have HE:=Lib.hid he
  have HOK:=Lib.hid (m.ok_of_err he)
  clear he
  go_enter Tryz.func85,Tryz.ntmps85
  go_wp2_with fail
  refine (HT.out).mono ?_
  rintro e w1 ⟨ac,cc,cls,rfl,hcls,hsc,hb1⟩
  clear HT
  have hs1:w.heap.size+2≤w1.heap.size:=by have:=hb1.size;simpa using this
  have hB1:Below (w.heap.size+2) ((w.alloc (.cells #[.int .i64 m.inputs,.int .i64 m.start,.slice an m.next.length cn,.slice ao m.out.length co] 24)).alloc (.cells #[.int .i64 0,.int .i64 0,.slice none 0 0,.slice none 0 0] 24)) w1:=hb1.mono (by simp)
  have hblk1:Hid (w1.heap[w.heap.size+1]? =some (.cells #[.int .i64 0,.int .i64 0,.slice none 0 0,.slice none 0 0] 24)):=by
   have h1:=hB1.block (w.heap.size+1) (by omega)
   unfold Hid
   rw [h1]
   have:=heap_alloc_new (w.alloc (.cells #[.int .i64 m.inputs,.int .i64 m.start,.slice an m.next.length cn,.slice ao m.out.length co] 24)) (.cells #[.int .i64 0,.int .i64 0,.slice none 0 0,.slice none 0 0] 24)
   simpa using this
  have hBw1:Below w.heap.size w w1:=(((Below.refl _ _).alloc (Nat.le_refl _) _).alloc (by simp) _).trans (hB1.mono (by omega))
  have hS:Sl (fun k=>k<w.heap.size+2) w1 ac cc cls:=by simpa using hsc
  have hbx1:∀o,w1.cell? ⟨w.heap.size,o,none⟩=_:=fun o=>hB1.cell (by simp)
  have hpart:Hid (cls=m.part m.next.length):=by
   unfold Hid
   rw [hcls.out];unfold Mach.partOf
   rw [if_pos HE.out,show min ((m.next.length:Nat):Int).toNat m.next.length=m.next.length from by omega]
  have hcl0:Hid (cls.length=m.next.length):=by unfold Hid;rw [hpart.out,Mach.part_length]
  have hcg:Hid (∀x:Int,cls.getD x.toNat 0=m.cl x):=by intro x;rw [hpart.out];rfl
  have hB1a:Below (w.heap.size+2) ((w.alloc (.cells #[.int .i64 m.inputs,.int .i64 m.start,.slice an m.next.length cn,.slice ao m.out.length co] 24)).alloc (.cells #[.int .i64 0,.int .i64 0,.slice none 0 0,.slice none 0 0] 24)) (w1.alloc (.cells #[.int .i64 m.start] 3)):=hB1.alloc hs1 _
  have hbx1a:∀o,(w1.alloc (.cells #[.int .i64 m.start] 3)).cell? ⟨w.heap.size,o,none⟩=_:=fun o=>hB1a.cell (by simp)
  have n1:=HOK.out.n1
  have n0:=HOK.out.n0
  have s0:=HOK.out.s0
  have s1:=HOK.out.s1
  have HB1:=Lib.hid hB1
  clear hb1 hsc hcls hB1
  go_wp2_with (at_make;refine wpList_mk_i (B:=w1.heap.size+1) (n:=m.next.length) rfl rfl Tryz.underlying45 info_int rfl (by omega) (by simp) ?_)
  intro g c num w2 hnum hO2 hb2 hg
  have hord:Ow w1.heap.size (fun _=>True) w2 3 (.slice (some ⟨w1.heap.size,0,none⟩) 1 1) [m.start]:=
   (Ow.one (M:=fun _=>True) (by unfold i64;omega) (Nat.le_refl _)).kept (by have:=hb2.size;simpa using this) fun k hk=>by
    simp [Value.ownBlock] at hk;subst hk;exact hb2.block _ (by omega)
  have hnl:Hid (num.length=m.next.length):=by unfold Hid;rw [hnum.out,List.length_replicate]
  have hz2:w1.heap.size+1≤w2.heap.size:=by have:=hb2.size;simpa using this
  have hB2:Below w1.heap.size w1 w2:=((Below.refl _ _).alloc (Nat.le_refl _) _).trans (hb2.mono (by omega))
  have hbx2:∀o,w2.cell? ⟨w.heap.size,o,none⟩=w1.cell? ⟨w.heap.size,o,none⟩:=fun o=>hB2.cell (by simp;omega)
  have numb:num.length≤128:=by rw [hnl.out];exact n1
  clear hbx1a hB1a hb2
  go_wp2
  go_loopw [8] (fun i wr=>∃(k:Nat) (nm:List Int),k≤num.length∧i= .int .i64 k∧Hid (nm=List.replicate k (-1)++List.replicate (num.length-k) 0)∧Hid (num.length=nm.length)∧
   Ow (w1.heap.size+1) (fun k=>w1.heap.size+1≤k) wr 3 (.slice (some ⟨g,0,none⟩) num.length c) nm∧Ow w1.heap.size (fun _=>True) wr 3 (.slice (some ⟨w1.heap.size,0,none⟩) 1 1) [m.start]∧Below w1.heap.size w1 wr) (fun i _=>num.length-(intOf i).toNat)
  case atStart=>exact ⟨0,num,by omega,rfl,by unfold Hid;rw [hnum.out];simp,rfl,hO2,hord,hB2⟩
  case round=>
   clear hO2 hord hB2 hbx2 hbx1 hnum
   obtain ⟨k,nm,hk,rfl,hnm,hnn,hO,hOr,hB⟩:=hrel
   obtain ⟨wo,rfl⟩:∃wo:World,wo=wr:=⟨_,rfl⟩
   by_cases hlt:k<num.length
   ·have hkm:k<nm.length:=by have:=hnn.out;omega
    obtain ⟨g',y,hg',hyc,hyf, -, -⟩:=hO.at_int' hnn.out hkm
    obtain rfl:g=g':=by simpa using hg'
    have hO2:=hO.set_int hnn.out (show w1.heap.size+1≤g by omega) (x:= -1) k (by unfold i64;omega)
    have hOr2:=hOr.setOtherI (p:=⟨g,k,none⟩) (fun q hq=>by simp [Value.ownBlock] at hq;simp;omega) (.int .i64 (-1))
    have hB2:=hB.setCell (p:=⟨g,k,none⟩) (show w1.heap.size≤g by omega) (.int .i64 (-1))
    have hnm2:Hid (nm.set k (-1)=List.replicate (k+1) (-1)++List.replicate (num.length-(k+1)) 0):=by
     unfold Hid
     rw [hnm.out,set_fill (by simp) hlt,List.replicate_succ']
    clear hO hOr hB hnm
    go_wp2
    go_roundw
    case rel=>exact ⟨k+1,_,by omega,by go_num,hnm2,by unfold Hid;rw [List.length_set];exact hnn.out,hO2,hOr2,hB2⟩
    case measure=>simp [intOf];omega
   have hN : Hid (NumC m.next.length m.cl [] nm) := by
    apply NumC.init
    rw [hnm.out,show num.length-k=0 from by omega,show k=m.next.length from by have:=hnl.out;omega]
    simp
   clear hnm
   have hsn:m.start.toNat<cls.length:=by have:=hcl0.out;omega
   have hsi:m.start<(cls.length:Int):=by omega
   have hSo:=hS.below hB
   obtain ⟨bs,os,y,rfl,hyc,hy,hyi⟩:=hSo.at_int hsn
   have hyv:Hid (y=m.cl m.start):=by unfold Hid;rw [←hcg.out,getD_of_some hy.out]
   have hyr:=Mach.cl_range HOK.out s0 s1
   rw [←hyv.out] at hyr
   obtain ⟨v,rfl⟩:=Int.eq_ofNat_of_zero_le hyr.1
   have hvn:v<m.next.length:=by omega
   have hvm:v<nm.length:=by have:=hnn.out;have:=hnl.out;omega
   have hvm2:v<num.length:=by have:=hnl.out;omega
   obtain ⟨g',z,hg',hzc,hzf, -, -⟩:=hO.at_int' hnn.out hvm
   obtain rfl:g=g':=by simpa using hg'
   have hbx:∀o,wo.cell? ⟨w.heap.size,o,none⟩=w1.cell? ⟨w.heap.size,o,none⟩:=fun o=>hB.cell (by simp;omega)
   have hbx1:∀o,w1.cell? ⟨w.heap.size,o,none⟩=_:=fun o=>HB1.out.cell (by simp)
   have hO3:=hO.set_int hnn.out (show w1.heap.size+1≤g by omega) (x:=0) v (by unfold i64;omega)
   have hOr3:=hOr.setOtherI (p:=⟨g,v,none⟩) (fun q hq=>by simp [Value.ownBlock] at hq;simp;omega) (.int .i64 0)
   have hB3:=hB.setCell (p:=⟨g,v,none⟩) (show w1.heap.size≤g by omega) (.int .i64 0)
   have hgo:g<wo.heap.size:=(hO.lt g rfl).2
   have hz1:w1.heap.size<wo.heap.size:=(hOr.lt _ rfl).2
   have hN3:Hid (NumC m.next.length m.cl [m.start] (nm.set v 0)):=by
    have:=hN.out.push (x:=m.start) hvn hyv.out.symm (by simp)
    unfold Hid
    simpa using this
   have hnn3:Hid (num.length=(nm.set v 0).length):=by unfold Hid;rw [List.length_set];exact hnn.out
   clear hO hOr hN hSo
   obtain ⟨w3,hw3⟩:∃w3,w3=wo.setCell ⟨g,v,none⟩ (.int .i64 0):=⟨_,rfl⟩
   have hs3:w3.heap.size=wo.heap.size:=by rw [hw3];simp
   have hz3:wo.heap.size≤w3.heap.size:=Nat.le_of_eq hs3.symm
   have hMk0:=Mk.init w3 m.inputs 0
   go_wp2
   rw [←hw3] at hO3 hOr3 hB3 ⊢
   clear hw3 hbx
   have hB0:Below w1.heap.size w1 (w3.alloc (.cells #[.int .i64 m.inputs,.int .i64 0,.slice none 0 0,.slice none 0 0] 24)):=hB3.alloc (by omega) _
   have hO4:=hO3.alloc (.cells #[.int .i64 m.inputs,.int .i64 0,.slice none 0 0,.slice none 0 0] 24)
   have hOr4:=hOr3.alloc (.cells #[.int .i64 m.inputs,.int .i64 0,.slice none 0 0,.slice none 0 0] 24)
   clear hO3 hOr3
   rw [←hs3]
   have hz3':=Nat.le_of_eq hs3
   clear hs3
   have hT0:Tab w1.heap.size 0 w3.heap.size (fun k=>k≤w3.heap.size) w1 (w3.alloc (.cells #[.int .i64 m.inputs,.int .i64 0,.slice none 0 0,.slice none 0 0] 24)) g c num.length (nm.set v 0) (some ⟨w1.heap.size,0,none⟩) 1 [m.start] none 0 [] none 0 [] w3.heap.size m.inputs none 0 [] none 0 []:=
    ⟨hO4.weaken (by omega),hnn3,hOr4,Ow.nil,Ow.nil,hMk0,hB0,⟨by omega,by omega,by simp [Value.ownBlock],by simp [Value.ownBlock]⟩,
     fun q hq=>by simp [Value.ownBlock] at hq;subst hq;exact ⟨⟨by omega,by omega,by simp [Value.ownBlock],by simp [Value.ownBlock]⟩,by omega⟩,fun q hq=>by simp [Value.ownBlock] at hq,fun q hq=>by simp [Value.ownBlock] at hq⟩
   have HT0:=Lib.hid hT0
   clear hT0 hMk0 hB0 hO4 hOr4
   go_loopw [6,10] (fun vo i wr=>∃(k:Nat) (M:Nat→Prop) (aN:Option Addr) (cN:Nat) (rN:List (List Int)) (aO:Option Addr) (cO:Nat) (rO:List (List Int)) (a6:Option Addr) (c6:Nat) (ord nm:List Int),
    k≤ord.length∧i= .int .i64 k∧vo= .slice a6 ord.length c6∧Hid (ord=m.qbfs m.cl k)∧Hid (NumC m.next.length m.cl ord nm)∧
    Hid (rN=(ord.take k).map (fun x=>(m.next.getD x.toNat []).map (idxC m.cl ord))∧rO=(ord.take k).map fun x=>m.out.getD x.toNat [])∧Hid (∀z∈ord.take k,∀y∈m.next.getD z.toNat [],m.cl y∈ord.map m.cl)∧
    Hid (Tab w1.heap.size 0 w3.heap.size M w1 wr g c num.length nm a6 c6 ord none 0 [] none 0 [] w3.heap.size m.inputs aN cN rN aO cO rO)) (fun _ i _=>m.next.length+1-(intOf i).toNat)
   case atStart=>
    exact ⟨0,_,none,0,[],none,0,[],some ⟨w1.heap.size,0,none⟩,1,[m.start],_,by omega,rfl,rfl,rfl,hN3,⟨rfl,rfl⟩,fun z hz=>by simp at hz,HT0⟩
   case round=>
    clear HT0 hN3 hnn3 hB3 hB hnn hcl0 hnl
    obtain ⟨k,M,aN,cN,rN,aO,cO,rO,a6,c6,ord,nm2,hk,rfl,rfl,hord,hN,hR,hcs,HT4⟩:=hrel
    obtain ⟨w4,rfl⟩:∃w4:World,w4=wr:=⟨_,rfl⟩
    have hs4:w3.heap.size<w4.heap.size:=HT4.out.bld.bolt
    have hgood:Hid (Good m ord):=by unfold Hid;rw [hord.out];exact Good.qbfs HOK.out k
    have hole:ord.length≤m.next.length:=hgood.out.le HOK.out
    have hbx4:∀o,w4.cell? ⟨w.heap.size,o,none⟩=w1.cell? ⟨w.heap.size,o,none⟩:=fun o=>HT4.out.below.cell (by simp;omega)
    have hBw4:Below w.heap.size w w4:=hBw1.trans (HT4.out.below.mono (by omega))
    by_cases hlt:k<ord.length
    ·obtain ⟨g6,x0,ha6, -, -,hx0, -⟩:=HT4.out.od.at_int hlt
     subst ha6
     have hxr:=hgood.out.range x0 (List.mem_of_getElem? hx0.out)
     obtain ⟨x,rfl⟩:=Int.eq_ofNat_of_zero_le hxr.1
     have hxn:x<m.next.length:=by omega
     have HTX:=Lib.hid (HT4.out.b4 w4.heap.size)
     obtain ⟨bn,on,a1,r1,c1,han,hn1,hr1,hS1⟩:=hm.next.at_row hxn
     have hxo:x<m.out.length:=by have:=HOK.out.lo;omega
     obtain ⟨bq,oq,a2,r2,c2,hao,hn2,hr2,hS2⟩:=hm.out.at_row hxo
     subst han
     subst hao
     have hbnw:bn<w.heap.size:=hm.next.lt hxn
     have hbqw:bq<w.heap.size:=hm.out.lt hxo
     have hi0:=HOK.out.i0
     have hi1:=HOK.out.i1
     have e1:Hid (r1.length=m.inputs.toNat):=by have:=HOK.out.rn x hxn;rw [getD_of_some hr1.out] at this;unfold Hid;omega
     have e2:Hid (r2.length=m.inputs.toNat):=by have:=HOK.out.ro x hxn;rw [getD_of_some hr2.out] at this;unfold Hid;omega
     clear hbx4
     go_wp2
     go_loopw [6,11,12,13] (fun vo vx vy i w5=>∃(j:Nat) (M5:Nat→Prop) (aX:Option Addr) (cX:Nat) (X:List Int) (aY:Option Addr) (cY:Nat) (Y:List Int) (a7:Option Addr) (c7:Nat) (od nm5:List Int),
      j≤m.inputs.toNat∧i= .int .i64 j∧vo= .slice a7 od.length c7∧vx= .slice aX X.length cX∧vy= .slice aY Y.length cY∧Hid (od=visitC m.cl ord (r1.take j))∧Hid (NumC m.next.length m.cl od nm5)∧
      Hid (X=(r1.take j).map (idxC m.cl od))∧Hid (Y=r2.take j)∧Hid (Tab w1.heap.size w4.heap.size w3.heap.size M5 w1 w5 g c num.length nm5 a7 c7 od aX cX X aY cY Y w3.heap.size m.inputs aN cN rN aO cO rO)∧w4.heap.size≤w5.heap.size) (fun _ _ _ i _=>m.inputs.toNat-(intOf i).toNat)
     case atStart=>exact ⟨0,M,none,0,[],none,0,[],some ⟨g6,0,none⟩,c6,ord,nm2,by omega,rfl,rfl,rfl,rfl,rfl,hN,rfl,rfl,HTX,Nat.le_refl _⟩
     case round=>
      clear HTX
      obtain ⟨j,M5,aX,cX,X,aY,cY,Y,a7,c7,od,nm5,hj,rfl,rfl,rfl,rfl,hod,hN5,hX,hY,HT5,hs5⟩:=hrel
      obtain ⟨w5,rfl⟩:∃w5:World,w5=wr:=⟨_,rfl⟩
      have hbx5:∀o,w5.cell? ⟨w.heap.size,o,none⟩=w1.cell? ⟨w.heap.size,o,none⟩:=fun o=>HT5.out.below.cell (by simp;omega)
      have hBw5:Below w.heap.size w w5:=hBw1.trans (HT5.out.below.mono (by omega))
      by_cases hlj:j<m.inputs.toNat
      ·have hj1:j<r1.length:=by rw [e1.out];omega
       have hj2:j<r2.length:=by rw [e2.out];omega
       obtain ⟨b3,o3,t0,rfl,htc,ht0, -⟩:=hS1.at_int hj1
       obtain ⟨b4,o4,u0,rfl,huc,hu0,hui⟩:=hS2.at_int hj2
       have hb3:b3<w.heap.size:=hS1.lt hj1
       have hb4:b4<w.heap.size:=hS2.lt hj2
       have htr:=Mach.row_range HOK.out hxn (x:=t0) (by rw [getD_of_some hr1.out];exact List.mem_of_getElem? ht0.out)
       obtain ⟨q,rfl⟩:=Int.eq_ofNat_of_zero_le htr.1
       have hqn:q<m.next.length:=by omega
       have hqc:q<cls.length:=by rw [hpart.out,Mach.part_length];exact hqn
       obtain ⟨bs',os',y2,hbs,hyc1,hy2, -⟩:=hS.at_int hqc
       obtain ⟨rfl,rfl⟩:bs=bs'∧os=os':=by simpa using hbs
       have hbsl:bs<w1.heap.size:=hS.lt hqc
       have hyr2:=Mach.cl_range HOK.out (x:=(q:Int)) (by omega) (by omega)
       have hyv2:Hid (y2=m.cl q):=by unfold Hid;rw [←hcg.out];exact (getD_of_some hy2.out).symm
       rw [←hyv2.out] at hyr2
       obtain ⟨v2,rfl⟩:=Int.eq_ofNat_of_zero_le hyr2.1
       have hvn2:v2<m.next.length:=by omega
       have hvm5:v2<nm5.length:=by rw [hN5.out.len];exact hvn2
       have hvl:v2<num.length:=by have:=HT5.out.hn.out;omega
       obtain ⟨g',z2,hg',hzc,hzf,hz2, -⟩:=HT5.out.num.at_int' HT5.out.hn.out hvm5
       obtain rfl:g=g':=by simpa using hg'
       have hzv:Hid (z2=posC m.cl od v2):=by unfold Hid;have h1:=hN5.out.val v2 hvn2;have h2:=hz2.out;rw [h1] at h2;simpa using h2.symm
       have hodp:Hid (∃s,od=ord++s):=by unfold Hid;rw [hod.out];exact visitC_prefix _ _ _
       have hkod:k<od.length:=by obtain ⟨s,hs⟩:=hodp.out;rw [hs,List.length_append];omega
       have hodk:Hid (od[k]? =some (x:Int)):=by obtain ⟨s,hs⟩:=hodp.out;unfold Hid;rw [hs,List.getElem?_append_left hlt];exact hx0.out
       obtain ⟨g7,x7,ha7,hoc,hof,hx7, -⟩:=HT5.out.od.at_int hkod
       subst ha7
       obtain rfl:(x:Int)=x7:=by have h1:=hx7.out;rw [hodk.out] at h1;simpa using h1
       have hn15:w5.cell? ⟨bn,on+x,none⟩=some (.slice (some ⟨b3,o3,none⟩) r1.length c1):=(hBw5.cell (p:=⟨bn,on+x,none⟩) hbnw).trans hn1
       have htc5:w5.cell? ⟨b3,o3+j,none⟩=some (.int .i64 (q:Int)):=(hBw5.cell (p:=⟨b3,o3+j,none⟩) hb3).trans htc
       have hyc5:w5.cell? ⟨bs,os+q,none⟩=some (.int .i64 (v2:Int)):=(HT5.out.below.cell (p:=⟨bs,os+q,none⟩) hbsl).trans hyc1
       have hXl:X.length≤64:=by rw [hX.out,List.length_map,List.length_take];omega
       have hYl:Y.length≤64:=by rw [hY.out,List.length_take];omega
       have hg5:w1.heap.size≤g:=(HT5.out.num.lt g rfl).1
       have hod5:Hid (Good m od):=by
        unfold Hid;rw [hod.out]
        exact hgood.out.visit fun y hy=>Mach.row_range HOK.out hxn (by rw [getD_of_some hr1.out];exact List.mem_of_mem_take hy)
       have hodl:od.length≤128:=by have:=hod5.out.le HOK.out;omega
       have HE0:=Lib.hid (minR_entry (m:=m) (ord:=ord) (od:=od) (od2:=visitC m.cl ord (r1.take (j+1))) ht0.out hod.out rfl)
       by_cases hc:m.cl q∈od.map m.cl
       ·have hzl:¬z2<0:=by rw [hzv.out,posC_neg,hyv2.out];exact fun h=>h hc
        have hO8:Hid (od=visitC m.cl ord (r1.take (j+1))):=by unfold Hid;rw [HE0.out.2.2,if_pos hc]
        have HC:=Lib.hid hc
        clear hc
        go_wp2
        refine wp_quiet_fast (by kernel_rfl) (by kernel_rfl) ?_
        repeat (first|go_big_quiet_step (fail)|quiet_step (fail))
        refine wpQuiet_nil ?_
        intro _ hw'
        obtain ⟨nq,hw''⟩:=hw'
        subst hw''
        have HT6:=Lib.hid (HT5.out.later (show w1.heap.size≤w5.heap.size by omega) (below_drewN _ w5 nq))
        have hbx6:∀o,(w5.drewN nq).cell? ⟨w.heap.size,o,none⟩=w1.cell? ⟨w.heap.size,o,none⟩:=fun o=>HT6.out.below.cell (by simp;omega)
        have hyc6:(w5.drewN nq).cell? ⟨bs,os+q,none⟩=some (.int .i64 (v2:Int)):=by simpa using hyc5
        have hzc6:(w5.drewN nq).cell? ⟨g,v2,none⟩=some (.int .i64 z2):=by simpa using hzc
        have hzf6:(w5.drewN nq).frozen? ⟨g,v2,none⟩=false:=by simpa using hzf
        have hs6:w4.heap.size≤(w5.drewN nq).heap.size:=hs5
        clear hn15 htc5 hyc5 hzc hzf hoc hof hbx5
        generalize w5.drewN nq=w6 at*
        have HT7:=HT6
        have HN7:=hN5
        have hs7:=hs6
        have hyc7:w6.cell? ⟨bs,os+q,none⟩=some (.int .i64 (v2:Int)):=(HT7.out.below.cell (p:=⟨bs,os+q,none⟩) hbsl).trans hyc1
        have hvm7:v2<nm5.length:=by rw [HN7.out.len];exact hvn2
        obtain ⟨g',z3,hg',hzc3,hzf3,hz3,hz3i⟩:=HT7.out.num.at_int' HT7.out.hn.out hvm7
        obtain rfl:g=g':=by simpa using hg'
        obtain rfl:z3=z2:=by have h1:=hz2.out;have h2:=hz3.out;rw [h1] at h2;simpa using h2.symm
        replace hzc3:True:=trivial
        have hHE:Hid ((r1.take (j+1)).map (idxC m.cl od)=(r1.take j).map (idxC m.cl od)++[idxC m.cl od q]∧m.cl q∈List.map m.cl od):=by unfold Hid;have h:=HE0.out;rw [←hO8.out] at h;exact ⟨h.1,h.2.1⟩
        have hzv3:Hid (z3=idxC m.cl od q):=by
         unfold Hid;have h1:=HN7.out.val v2 hvn2;have h2:=hz3.out;rw [h1] at h2
         have h3:posC m.cl od v2=z3:=by simpa using h2
         rw [←h3,hyv2.out];exact posC_in hHE.out.2
        go_wp2_with (at_builtin;refine wpList_push_o (B:=w4.heap.size) (M:=fun _=>True) (l:=X) (y:=z3) rfl rfl Tryz.underlying45 info_int rfl rfl (HT7.out.ox.alloc _) (by simp [go_sem]) hz3i.out (by omega) (by simp;omega) ?_)
        intro aX8 cX8 X8 w8 hX8 hOX8 hbX8 hgX8
        have HT8:=Lib.hid ((HT7.out.alloc (by omega) (.cells #[.int .i64 z3] 3)).pushX (by simp;omega) (by omega) hOX8 (by simpa using hbX8.out) hgX8)
        have hs8:w4.heap.size≤w8.heap.size:=by have:=hgX8.size;simp at this;omega
        have hXn:Hid (X8=(r1.take (j+1)).map (idxC m.cl od)):=by unfold Hid;rw [hX8.out,hX.out,hHE.out.1,hzv3.out]
        have hBw8:Below w.heap.size w w8:=hBw1.trans (HT8.out.below.mono (by omega))
        have hb83:w8.cell? ⟨w.heap.size,3,none⟩=some (.slice (some ⟨bq,oq,none⟩) m.out.length co):=(HT8.out.below.cell (p:=⟨w.heap.size,3,none⟩) (by simp;omega)).trans ((hbx1 3).trans (by go_simp))
        have hn28:w8.cell? ⟨bq,oq+x,none⟩=some (.slice (some ⟨b4,o4,none⟩) r2.length c2):=(hBw8.cell (p:=⟨bq,oq+x,none⟩) hbqw).trans hn2
        have huc8:w8.cell? ⟨b4,o4+j,none⟩=some (.int .i64 u0):=(hBw8.cell (p:=⟨b4,o4+j,none⟩) hb4).trans huc
        obtain ⟨g',x9,hg',hoc8, -,hx9, -⟩:=HT8.out.od.at_int hkod
        obtain rfl:g7=g':=by simpa using hg'
        obtain rfl:(x:Int)=x9:=by have h1:=hx9.out;rw [hodk.out] at h1;simpa using h1
        clear hyc7 hzc3 hzf3 hOX8 hbX8 hgX8 HT7 hBw8
        go_wp2
        refine wp_region_L (fun w'=>w'.cell? ⟨w.heap.size,3,none⟩=some (.slice (some ⟨bq,oq,none⟩) m.out.length co)∧w'.cell? ⟨g7,k,none⟩=some (.int .i64 (x:Int))∧w'.cell? ⟨bq,oq+x,none⟩=some (.slice (some ⟨b4,o4,none⟩) r2.length c2)∧w'.cell? ⟨b4,o4+j,none⟩=some (.int .i64 u0)) [0,1,2,3,4,5,6,7,8,9,10,11] (by kernel_rfl) ?_
        have hSS:w8.drew.cell? ⟨w.heap.size,3,none⟩=some (.slice (some ⟨bq,oq,none⟩) m.out.length co)∧w8.drew.cell? ⟨g7,k,none⟩=some (.int .i64 (x:Int))∧w8.drew.cell? ⟨bq,oq+x,none⟩=some (.slice (some ⟨b4,o4,none⟩) r2.length c2)∧w8.drew.cell? ⟨b4,o4+j,none⟩=some (.int .i64 u0):=
         ⟨by simpa using hb83,by simpa using hoc8,by simpa using hn28,by simpa using huc8⟩
        have HT8d:=Lib.hid (HT8.out.later (by omega) ((Below.refl w8.heap.size w8).drew))
        have hs8d:w4.heap.size≤w8.drew.heap.size:=hs8
        clear HT8 hb83 hn28 huc8 hoc8
        generalize w8.drew=w8d at*
        refine skL_on [0,1,2,3,4,5,6,7,8,9,10,11] ?_
        repeat (refine skL_take (v:= ?_) rfl ?_ ?_;rotate_left;(focus (intro w' hSw;(try dsimp only at hSw);go_simp;try with_reducible rfl));try simp only [Act.put,List.setIfInBounds_toArray,List.set_cons_zero,List.set_cons_succ])
        refine skL_off ?_
        refine wpAnyL_one (i:=12) (by kernel_rfl) rfl rfl (fun K hK=> ?_)
        go_simp
        have hg9:g7<w8d.heap.size:=(HT8d.out.od.lt g7 rfl).2
        have ha9:∀p:Addr,p.block<w8d.heap.size→(w8d.alloc (.cells #[.int .i64 u0] 3)).cell? p=w8d.cell? p:=fun p hp=>((Below.refl _ _).alloc (Nat.le_refl _) _).cell hp
        refine hK _ _ (fun _=>⟨(ha9 _ (by simp;omega)).trans hSS.1,(ha9 _ (by simp;omega)).trans hSS.2.1,(ha9 _ (by simp;omega)).trans hSS.2.2.1,(ha9 _ (by simp;omega)).trans hSS.2.2.2⟩) ?_
        clear hK K ha9
        refine wpAnyL_one (i:=13) (by kernel_rfl) rfl rfl (fun K hK=> ?_)
        refine wp_push_o (B:=w4.heap.size) (M:=fun _=>True) (v:= .slice aY Y.length cY) (l:=Y) (y:=u0) rfl Tryz.underlying45 info_int rfl rfl (HT8d.out.oy.alloc _) (by simp [go_sem]) hui.out (by omega) (by simp;omega) ?_
        intro aY9 cY9 Y9 w9 hY9 hOY9 hbY9 hgY9
        have HT9:=Lib.hid ((HT8d.out.alloc (by omega) (.cells #[.int .i64 u0] 3)).pushY (by simp;omega) (by omega) hOY9 (by simpa using hbY9.out) hgY9)
        have hs9:w4.heap.size≤w9.heap.size:=by have:=hgY9.size;simp at this;omega
        have hBw9:Below w.heap.size w w9:=hBw1.trans (HT9.out.below.mono (by omega))
        obtain ⟨g',x9,hg',hoc9, -,hx9', -⟩:=HT9.out.od.at_int hkod
        obtain rfl:g7=g':=by simpa using hg'
        obtain rfl:(x:Int)=x9:=by have h1:=hx9'.out;rw [hodk.out] at h1;simpa using h1
        have hYn:Hid (Y9=r2.take (j+1)):=by unfold Hid;rw [hY9.out,hY.out,List.take_add_one,hu0.out];rfl
        refine hK _ _ (fun _=>⟨(HT9.out.below.cell (p:=⟨w.heap.size,3,none⟩) (by simp;omega)).trans ((hbx1 3).trans (by go_simp)),hoc9,(hBw9.cell (p:=⟨bq,oq+x,none⟩) hbqw).trans hn2,(hBw9.cell (p:=⟨b4,o4+j,none⟩) hb4).trans huc⟩) ?_
        clear hK K hSS hOY9 hbY9 hgY9 hoc9
        refine wpAnyL_late (i:=14) (by kernel_rfl) (by kernel_rfl) rfl rfl (fun K hK=> ?_)
        go_simp
        refine hK _ _ ?_
        clear hK K
        refine wpAnyL_done (by kernel_rfl) ?_ _
        go_wp2
        go_roundw
        case rel=>exact ⟨j+1,_,aX8,cX8,X8,aY9,cY9,Y9,_,_,od,nm5,by omega,by go_num,rfl,rfl,rfl,hO8,HN7,hXn,hYn,HT9,hs9⟩
        case measure=>simp [intOf];omega
       have hzl:z2<0:=by rw [hzv.out,posC_neg,hyv2.out];exact hc
       have HC:=Lib.hid hc
       clear hc
       go_wp2
       refine wp_quiet_fast (by kernel_rfl) (by kernel_rfl) ?_
       repeat (first|go_big_quiet_step (fail)|quiet_step (fail))
       refine wpQuiet_nil ?_
       intro _ hw'
       obtain ⟨nq,hw''⟩:=hw'
       subst hw''
       have HT6:=Lib.hid (HT5.out.later (show w1.heap.size≤w5.heap.size by omega) (below_drewN _ w5 nq))
       have hbx6:∀o,(w5.drewN nq).cell? ⟨w.heap.size,o,none⟩=w1.cell? ⟨w.heap.size,o,none⟩:=fun o=>HT6.out.below.cell (by simp;omega)
       have hyc6:(w5.drewN nq).cell? ⟨bs,os+q,none⟩=some (.int .i64 (v2:Int)):=by simpa using hyc5
       have hzc6:(w5.drewN nq).cell? ⟨g,v2,none⟩=some (.int .i64 z2):=by simpa using hzc
       have hzf6:(w5.drewN nq).frozen? ⟨g,v2,none⟩=false:=by simpa using hzf
       have hs6:w4.heap.size≤(w5.drewN nq).heap.size:=hs5
       clear hn15 htc5 hyc5 hzc hzf hoc hof hbx5
       generalize w5.drewN nq=w6 at*
       go_wp2_with (at_builtin;refine wpList_push_o (B:=w1.heap.size) (M:=fun _=>True) (l:=od) (y:=(q:Int)) rfl rfl Tryz.underlying45 info_int rfl rfl (((HT6.out.setNum (by omega) v2 (z:=(od.length:Int)) (by unfold i64;omega)).alloc (by simp;omega) _).od) (by simp [go_sem]) (by unfold i64;omega) (by omega) (by simp;omega) ?_)
       intro a8 c8 od8 w7 hod8 hOo8 hbk8 hgr8
       have HT7:=Lib.hid (((HT6.out.setNum (by omega) v2 (z:=(od.length:Int)) (by unfold i64;omega)).alloc (by simp;omega) (.cells #[.int .i64 (q:Int)] 3)).pushOrd (by simp;omega) hOo8 (by simpa using hbk8.out) hgr8)
       have hs7:w4.heap.size≤w7.heap.size:=by have:=hgr8.size;simp at this;omega
       have hO8:Hid (od8=visitC m.cl ord (r1.take (j+1))):=by unfold Hid;rw [HE0.out.2.2,if_neg HC.out];exact hod8.out
       have HN7:Hid (NumC m.next.length m.cl od8 (nm5.set v2 (od.length:Int))):=by unfold Hid;rw [hod8.out];exact hN5.out.push hvn2 hyv2.out.symm HC.out
       have hkod8:k<od8.length:=by rw [hod8.out,List.length_append];omega
       obtain ⟨g8,x8,ha8, -, -, -, -⟩:=HT7.out.od.at_int hkod8
       subst ha8
       have hodk8:Hid (od8[k]? =some (x:Int)):=by unfold Hid;rw [hod8.out,List.getElem?_append_left hkod];exact hodk.out
       clear hOo8 hbk8 hgr8 hzc6 hzf6 hyc6 hbx6
       have hyc7:w7.cell? ⟨bs,os+q,none⟩=some (.int .i64 (v2:Int)):=(HT7.out.below.cell (p:=⟨bs,os+q,none⟩) hbsl).trans hyc1
       have hvm7:v2<(nm5.set v2 (od.length:Int)).length:=by rw [HN7.out.len];exact hvn2
       obtain ⟨g',z3,hg',hzc3,hzf3,hz3,hz3i⟩:=HT7.out.num.at_int' HT7.out.hn.out hvm7
       obtain rfl:g=g':=by simpa using hg'
       have hHE:Hid ((r1.take (j+1)).map (idxC m.cl od8)=(r1.take j).map (idxC m.cl od)++[idxC m.cl od8 q]∧m.cl q∈List.map m.cl od8):=by unfold Hid;have h:=HE0.out;rw [←hO8.out] at h;exact ⟨h.1,h.2.1⟩
       have hzv3:Hid (z3=idxC m.cl od8 q):=by
        unfold Hid;have h1:=HN7.out.val v2 hvn2;have h2:=hz3.out;rw [h1] at h2
        have h3:posC m.cl od8 v2=z3:=by simpa using h2
        rw [←h3,hyv2.out];exact posC_in hHE.out.2
       go_wp2_with (at_builtin;refine wpList_push_o (B:=w4.heap.size) (M:=fun _=>True) (l:=X) (y:=z3) rfl rfl Tryz.underlying45 info_int rfl rfl (HT7.out.ox.alloc _) (by simp [go_sem]) hz3i.out (by omega) (by simp;omega) ?_)
       intro aX8 cX8 X8 w8 hX8 hOX8 hbX8 hgX8
       have HT8:=Lib.hid ((HT7.out.alloc (by omega) (.cells #[.int .i64 z3] 3)).pushX (by simp;omega) (by omega) hOX8 (by simpa using hbX8.out) hgX8)
       have hs8:w4.heap.size≤w8.heap.size:=by have:=hgX8.size;simp at this;omega
       have hXn:Hid (X8=(r1.take (j+1)).map (idxC m.cl od8)):=by unfold Hid;rw [hX8.out,hX.out,hHE.out.1,hzv3.out]
       have hBw8:Below w.heap.size w w8:=hBw1.trans (HT8.out.below.mono (by omega))
       have hb83:w8.cell? ⟨w.heap.size,3,none⟩=some (.slice (some ⟨bq,oq,none⟩) m.out.length co):=(HT8.out.below.cell (p:=⟨w.heap.size,3,none⟩) (by simp;omega)).trans ((hbx1 3).trans (by go_simp))
       have hn28:w8.cell? ⟨bq,oq+x,none⟩=some (.slice (some ⟨b4,o4,none⟩) r2.length c2):=(hBw8.cell (p:=⟨bq,oq+x,none⟩) hbqw).trans hn2
       have huc8:w8.cell? ⟨b4,o4+j,none⟩=some (.int .i64 u0):=(hBw8.cell (p:=⟨b4,o4+j,none⟩) hb4).trans huc
       obtain ⟨g',x9,hg',hoc8, -,hx9, -⟩:=HT8.out.od.at_int hkod8
       obtain rfl:g8=g':=by simpa using hg'
       obtain rfl:(x:Int)=x9:=by have h1:=hx9.out;rw [hodk8.out] at h1;simpa using h1
       clear hyc7 hzc3 hzf3 hOX8 hbX8 hgX8 HT7 hBw8
       go_wp2
       refine wp_region_L (fun w'=>w'.cell? ⟨w.heap.size,3,none⟩=some (.slice (some ⟨bq,oq,none⟩) m.out.length co)∧w'.cell? ⟨g8,k,none⟩=some (.int .i64 (x:Int))∧w'.cell? ⟨bq,oq+x,none⟩=some (.slice (some ⟨b4,o4,none⟩) r2.length c2)∧w'.cell? ⟨b4,o4+j,none⟩=some (.int .i64 u0)) [0,1,2,3,4,5,6,7,8,9,10,11] (by kernel_rfl) ?_
       have hSS:w8.drew.cell? ⟨w.heap.size,3,none⟩=some (.slice (some ⟨bq,oq,none⟩) m.out.length co)∧w8.drew.cell? ⟨g8,k,none⟩=some (.int .i64 (x:Int))∧w8.drew.cell? ⟨bq,oq+x,none⟩=some (.slice (some ⟨b4,o4,none⟩) r2.length c2)∧w8.drew.cell? ⟨b4,o4+j,none⟩=some (.int .i64 u0):=
        ⟨by simpa using hb83,by simpa using hoc8,by simpa using hn28,by simpa using huc8⟩
       have HT8d:=Lib.hid (HT8.out.later (by omega) ((Below.refl w8.heap.size w8).drew))
       have hs8d:w4.heap.size≤w8.drew.heap.size:=hs8
       clear HT8 hb83 hn28 huc8 hoc8
       generalize w8.drew=w8d at*
       refine skL_on [0,1,2,3,4,5,6,7,8,9,10,11] ?_
       repeat (refine skL_take (v:= ?_) rfl ?_ ?_;rotate_left;(focus (intro w' hSw;(try dsimp only at hSw);go_simp;try with_reducible rfl));try simp only [Act.put,List.setIfInBounds_toArray,List.set_cons_zero,List.set_cons_succ])
       refine skL_off ?_
       refine wpAnyL_one (i:=12) (by kernel_rfl) rfl rfl (fun K hK=> ?_)
       go_simp
       have hg9:g8<w8d.heap.size:=(HT8d.out.od.lt g8 rfl).2
       have ha9:∀p:Addr,p.block<w8d.heap.size→(w8d.alloc (.cells #[.int .i64 u0] 3)).cell? p=w8d.cell? p:=fun p hp=>((Below.refl _ _).alloc (Nat.le_refl _) _).cell hp
       refine hK _ _ (fun _=>⟨(ha9 _ (by simp;omega)).trans hSS.1,(ha9 _ (by simp;omega)).trans hSS.2.1,(ha9 _ (by simp;omega)).trans hSS.2.2.1,(ha9 _ (by simp;omega)).trans hSS.2.2.2⟩) ?_
       clear hK K ha9
       refine wpAnyL_one (i:=13) (by kernel_rfl) rfl rfl (fun K hK=> ?_)
       refine wp_push_o (B:=w4.heap.size) (M:=fun _=>True) (v:= .slice aY Y.length cY) (l:=Y) (y:=u0) rfl Tryz.underlying45 info_int rfl rfl (HT8d.out.oy.alloc _) (by simp [go_sem]) hui.out (by omega) (by simp;omega) ?_
       intro aY9 cY9 Y9 w9 hY9 hOY9 hbY9 hgY9
       have HT9:=Lib.hid ((HT8d.out.alloc (by omega) (.cells #[.int .i64 u0] 3)).pushY (by simp;omega) (by omega) hOY9 (by simpa using hbY9.out) hgY9)
       have hs9:w4.heap.size≤w9.heap.size:=by have:=hgY9.size;simp at this;omega
       have hBw9:Below w.heap.size w w9:=hBw1.trans (HT9.out.below.mono (by omega))
       obtain ⟨g',x9,hg',hoc9, -,hx9', -⟩:=HT9.out.od.at_int hkod8
       obtain rfl:g8=g':=by simpa using hg'
       obtain rfl:(x:Int)=x9:=by have h1:=hx9'.out;rw [hodk8.out] at h1;simpa using h1
       have hYn:Hid (Y9=r2.take (j+1)):=by unfold Hid;rw [hY9.out,hY.out,List.take_add_one,hu0.out];rfl
       refine hK _ _ (fun _=>⟨(HT9.out.below.cell (p:=⟨w.heap.size,3,none⟩) (by simp;omega)).trans ((hbx1 3).trans (by go_simp)),hoc9,(hBw9.cell (p:=⟨bq,oq+x,none⟩) hbqw).trans hn2,(hBw9.cell (p:=⟨b4,o4+j,none⟩) hb4).trans huc⟩) ?_
       clear hK K hSS hOY9 hbY9 hgY9 hoc9
       refine wpAnyL_late (i:=14) (by kernel_rfl) (by kernel_rfl) rfl rfl (fun K hK=> ?_)
       go_simp
       refine hK _ _ ?_
       clear hK K
       refine wpAnyL_done (by kernel_rfl) ?_ _
       go_wp2
       go_roundw
       case rel=>exact ⟨j+1,_,aX8,cX8,X8,aY9,cY9,Y9,_,_,od8,(nm5.set v2 (od.length:Int)),by omega,by go_num,rfl,rfl,rfl,hO8,HN7,hXn,hYn,HT9,hs9⟩
       case measure=>simp [intOf];omega
      have HS:=Lib.hid (minR_step (m:=m) (ord:=ord) (od:=od) (k:=k) (x:=(x:Int)) hx0.out (by rw [hod.out,List.take_of_length_le (by rw [e1.out];omega),Int.toNat_natCast,getD_of_some hr1.out]) hcs.out)
      have hX2:Hid (X=(m.next.getD (x:Int).toNat []).map (idxC m.cl od)):=by unfold Hid;rw [hX.out,List.take_of_length_le (by rw [e1.out];omega),Int.toNat_natCast,getD_of_some hr1.out]
      have hY2:Hid (Y=m.out.getD (x:Int).toNat []):=by unfold Hid;rw [hY.out,List.take_of_length_le (by rw [e2.out];omega),Int.toNat_natCast,getD_of_some hr2.out]
      have hord2:Hid (od=m.qbfs m.cl (k+1)):=by unfold Hid;rw [Mach.qbfs_succ,←hord.out,if_pos hlt,getD_of_some hx0.out,Int.toNat_natCast,getD_of_some hr1.out,hod.out,List.take_of_length_le (by rw [e1.out];omega)]
      have hkod:k+1≤od.length:=by
       obtain ⟨s,hs⟩:∃s,od=ord++s:=by rw [hod.out];exact visitC_prefix _ _ _
       rw [hs,List.length_append];omega
      obtain ⟨M6,hT6,hSX,hSY⟩:=HT5.out.closed (show w3.heap.size≤w4.heap.size by omega)
      have hrN:rN.length<1000000000000:=by rw [hR.out.1,List.length_map,List.length_take];omega
      have hrO:rO.length<1000000000000:=by rw [hR.out.2,List.length_map,List.length_take];omega
      obtain ⟨hk0,hk1,hk2,hk3,hkf⟩:=hT6.bld.cells
      have HT6:=Lib.hid (hT6.alloc (show w1.heap.size≤w5.heap.size by omega) (.cells #[.slice aX X.length cX] 45))
      have hSX6:=hSX.alloc (.cells #[.slice aX X.length cX] 45)
      have hSY6:=hSY.alloc (.cells #[.slice aX X.length cX] 45)
      clear hT6 hSX hSY
      go_wp2_with (at_builtin;refine wpList_push_row (r:=X) (ar:=aX) (cr:=cX) rfl rfl Tryz.underlying22 info_ints rfl rfl HT6.out.bld.n (fun k hk=>(HT6.out.bld.mn k hk).1) (by simp [go_sem]) hSX6 hrN (by simp;omega) ?_)
      intro aN7 cN7 rN7 w7 hrN7 hOw7 hbk7 hgr7
      have HT7:=Lib.hid (HT6.out.pushN (by omega) (by simpa using hOw7) (by simpa using hbk7.out) hgr7)
      have hSY7:=HT6.out.keepRow hSY6 (u:= .slice aN7 rN7.length cN7) hgr7
      have hs7:w5.heap.size+1≤w7.heap.size:=by have:=hgr7.size;simpa using this
      have hbo7:Hid (w7.heap[w3.heap.size]? =w5.heap[w3.heap.size]?):=(hgr7.block w3.heap.size (by simp;omega) (fun e=>(HT6.out.bld.mn _ e.symm).2 rfl)).trans (Below.heap_alloc _ _ _ (by omega))
      have hc7:∀o,w7.cell? ⟨w3.heap.size,o,none⟩=w5.cell? ⟨w3.heap.size,o,none⟩:=fun o=>World.cell?_of_block (a:=⟨w3.heap.size,o,none⟩) hbo7.out
      have hf7:∀o,w7.frozen? ⟨w3.heap.size,o,none⟩=false:=fun o=>(World.frozen?_of_block (a:=⟨w3.heap.size,o,none⟩) hbo7.out).trans (hkf o)
      have HT7a:=Lib.hid (HT7.out.alloc (by simp;omega) (.cells #[.slice aY Y.length cY] 45))
      have hSY7a:=hSY7.alloc (.cells #[.slice aY Y.length cY] 45)
      clear hOw7 hbk7 hgr7 hSY7
      go_wp2_with (at_builtin;refine wpList_push_row (r:=Y) (ar:=aY) (cr:=cY) rfl rfl Tryz.underlying22 info_ints rfl rfl HT7a.out.bld.o (fun k hk=>(HT7a.out.bld.mo k hk).1) (by simp [go_sem]) hSY7a hrO (by simp;omega) ?_)
      intro aO8 cO8 rO8 w8 hrO8 hOw8 hbk8 hgr8
      have HT8:=Lib.hid (HT7a.out.pushO (by omega) (by simpa using hOw8) (by simpa using hbk8.out) hgr8)
      have hbo8:Hid (w8.heap[w3.heap.size]? =(w7.setCell ⟨w3.heap.size,2,none⟩ (.slice aN7 rN7.length cN7)).heap[w3.heap.size]?):=(hgr8.block w3.heap.size (by simp;omega) (fun e=>(HT7a.out.bld.mo _ e.symm).2 rfl)).trans (Below.heap_alloc _ _ _ (by simp;omega))
      have hc8:∀o,w8.cell? ⟨w3.heap.size,o,none⟩=(w7.setCell ⟨w3.heap.size,2,none⟩ (.slice aN7 rN7.length cN7)).cell? ⟨w3.heap.size,o,none⟩:=fun o=>World.cell?_of_block (a:=⟨w3.heap.size,o,none⟩) hbo8.out
      have hf8:∀o,w8.frozen? ⟨w3.heap.size,o,none⟩=false:=fun o=>(World.frozen?_of_block (a:=⟨w3.heap.size,o,none⟩) hbo8.out).trans (by simpa using hf7 o)
      have hR2:Hid (rN7=(od.take (k+1)).map (fun x=>(m.next.getD x.toNat []).map (idxC m.cl od))∧rO8=(od.take (k+1)).map fun x=>m.out.getD x.toNat []):=by
       rw [HS.out.1,HS.out.2.1]
       exact ⟨by rw [hrN7.out,hR.out.1,←hX2.out],by rw [hrO8.out,hR.out.2,←hY2.out]⟩
      clear hOw8 hbk8 hgr8
      go_wp2
      go_roundw
      case rel=>exact ⟨k+1,_,aN7,cN7,rN7,aO8,cO8,rO8,a7,c7,od,nm5,hkod,by go_num,rfl,hord2,hN5,hR2,HS.out.2.2,HT8⟩
      case measure=>simp [intOf];omega
    obtain ⟨hk0,hk1,hk2,hk3,hkf⟩:=HT4.out.bld.cells
    have hblk4:Hid (w4.heap[w.heap.size+1]? =some (.cells #[.int .i64 0,.int .i64 0,.slice none 0 0,.slice none 0 0] 24)):=(HT4.out.below.block (w.heap.size+1) (by omega)).trans hblk1.out
    obtain ⟨k0,k1,k2,k3⟩:=cells4 hblk4.out
    have kf:∀o,w4.frozen? ⟨w.heap.size+1,o,none⟩=false:=fun o=>frozen_of_row _ _ _ _ _ hblk4.out
    have HM:=Lib.hid HT4.out.bld
    go_wp2
    obtain ⟨q0,q1,q2,q3⟩:=cells4 (set4 (y0:= .int .i64 m.inputs) (y1:= .int .i64 0) (y2:= .slice aN rN.length cN) (y3:= .slice aO rO.length cO) hblk4.out)
    have hM1:M (w.heap.size+1):=HM.out.old _ (by omega)
    have hMf:Mk w3.heap.size M ((((w4.setCell ⟨w.heap.size+1,0,none⟩ (.int .i64 m.inputs)).setCell ⟨w.heap.size+1,1,none⟩ (.int .i64 0)).setCell ⟨w.heap.size+1,2,none⟩ (.slice aN rN.length cN)).setCell ⟨w.heap.size+1,3,none⟩ (.slice aO rO.length cO)) w3.heap.size m.inputs 0 aN cN rN aO cO rO:=by
     have e:=(((Ext.setCell (M:=M) w4 (p:=⟨w.heap.size+1,0,none⟩) hM1 (.int .i64 m.inputs)).trans (Ext.setCell (M:=M) _ (p:=⟨w.heap.size+1,1,none⟩) hM1 (.int .i64 0))).trans (Ext.setCell (M:=M) _ (p:=⟨w.heap.size+1,2,none⟩) hM1 (.slice aN rN.length cN))).trans (Ext.setCell (M:=M) _ (p:=⟨w.heap.size+1,3,none⟩) hM1 (.slice aO rO.length cO))
     have hh:∀q,w3.heap.size≤q→((((w4.setCell ⟨w.heap.size+1,0,none⟩ (.int .i64 m.inputs)).setCell ⟨w.heap.size+1,1,none⟩ (.int .i64 0)).setCell ⟨w.heap.size+1,2,none⟩ (.slice aN rN.length cN)).setCell ⟨w.heap.size+1,3,none⟩ (.slice aO rO.length cO)).heap[q]? =w4.heap[q]? :=fun q hq=>by
      rw [Below.heap_setCell _ _ _ _ (by simp;omega),Below.heap_setCell _ _ _ _ (by simp;omega),Below.heap_setCell _ _ _ _ (by simp;omega),Below.heap_setCell _ _ _ _ (by simp;omega)]
     exact HM.out.touch e (hh _ (Nat.le_refl _)) (fun q hq=>hh q (HM.out.n.lt q hq).1) (fun q hq=>hh q (HM.out.o.lt q hq).1)
    have hBf:Below w.heap.size w ((((w4.setCell ⟨w.heap.size+1,0,none⟩ (.int .i64 m.inputs)).setCell ⟨w.heap.size+1,1,none⟩ (.int .i64 0)).setCell ⟨w.heap.size+1,2,none⟩ (.slice aN rN.length cN)).setCell ⟨w.heap.size+1,3,none⟩ (.slice aO rO.length cO)):=
     Below.setCell (Below.setCell (Below.setCell (Below.setCell hBw4 (by simp) _) (by simp) _) (by simp) _) (by simp) _
    generalize ((((w4.setCell ⟨w.heap.size+1,0,none⟩ (.int .i64 m.inputs)).setCell ⟨w.heap.size+1,1,none⟩ (.int .i64 0)).setCell ⟨w.heap.size+1,2,none⟩ (.slice aN rN.length cN)).setCell ⟨w.heap.size+1,3,none⟩ (.slice aO rO.length cO))=wf at*
    refine bodyPost_ret (v:= .tuple #[.agg #[.int .i64 m.inputs,.int .i64 0,.slice aN rN.length cN,.slice aO rO.length cO],.int .i64 0]) (by simp [results,Tryz.results85,go_sem,q0,q1,q2,q3]) rfl ⟨aN,cN,aO,cO,⟨m.inputs,0,rN,rO⟩,?_,?_,hMf.toMa (by have:=HOK.out.i0;have:=HOK.out.i1;unfold i64;omega) (by unfold i64;omega) (by omega),hBf⟩
    ·rw [HE.out]
    have hkc:k=ord.length:=by omega
    unfold Hid
    rw [minR_end HE.out (k:=k) (by rw [←hord.out];omega) (by omega),←hord.out,hR.out.1,hR.out.2,List.take_of_length_le (by omega)]
 have he':(m.err !=0)=true:=by simp [he]
 have HE:=Lib.hid he
 clear he
 go_enter Tryz.func85,Tryz.ntmps85
 go_wp2_with fail
 refine (HT.out).mono ?_
 rintro e w1 ⟨ac,cc,cls,rfl,hcls,hsc,hb1⟩
 clear HT
 have hs1:w.heap.size+2≤w1.heap.size:=by have:=hb1.size;simpa using this
 have hB1:Below (w.heap.size+2) ((w.alloc (.cells #[.int .i64 m.inputs,.int .i64 m.start,.slice an m.next.length cn,.slice ao m.out.length co] 24)).alloc (.cells #[.int .i64 0,.int .i64 0,.slice none 0 0,.slice none 0 0] 24)) w1:=hb1.mono (by simp)
 have hblk0:Hid (w1.heap[w.heap.size+1]? =some (.cells #[.int .i64 0,.int .i64 0,.slice none 0 0,.slice none 0 0] 24)):=by
  have h1:=hB1.block (w.heap.size+1) (by omega)
  unfold Hid
  rw [h1]
  have:=heap_alloc_new (w.alloc (.cells #[.int .i64 m.inputs,.int .i64 m.start,.slice an m.next.length cn,.slice ao m.out.length co] 24)) (.cells #[.int .i64 0,.int .i64 0,.slice none 0 0,.slice none 0 0] 24)
  simpa using this
 have hBw1:Below w.heap.size w w1:=(((Below.refl _ _).alloc (Nat.le_refl _) _).alloc (by simp) _).trans (hB1.mono (by omega))
 obtain ⟨k0,k1,k2,k3⟩:=cells4 hblk0.out
 have kf:∀o,w1.frozen? ⟨w.heap.size+1,o,none⟩=false:=fun o=>frozen_of_row _ _ _ _ _ hblk0.out
 clear hb1 hB1 hsc hcls
 go_wp2
 obtain ⟨q0,q1,q2,q3⟩:=cells4 (set4 (y0:= .int .i64 0) (y1:= .int .i64 0) (y2:= .slice none 0 0) (y3:= .slice none 0 0) hblk0.out)
 have hBf:Below w.heap.size w ((((w1.setCell ⟨w.heap.size+1,0,none⟩ (.int .i64 0)).setCell ⟨w.heap.size+1,1,none⟩ (.int .i64 0)).setCell ⟨w.heap.size+1,2,none⟩ (.slice none 0 0)).setCell ⟨w.heap.size+1,3,none⟩ (.slice none 0 0)):=
  Below.setCell (Below.setCell (Below.setCell (Below.setCell hBw1 (by simp) _) (by simp) _) (by simp) _) (by simp) _
 generalize ((((w1.setCell ⟨w.heap.size+1,0,none⟩ (.int .i64 0)).setCell ⟨w.heap.size+1,1,none⟩ (.int .i64 0)).setCell ⟨w.heap.size+1,2,none⟩ (.slice none 0 0)).setCell ⟨w.heap.size+1,3,none⟩ (.slice none 0 0))=wf at*
 exact bodyPost_ret (v:= .tuple #[.agg #[.int .i64 0,.int .i64 0,.slice none 0 0,.slice none 0 0],.int .i64 m.err]) (by simp [results,Tryz.results85,go_sem,q0,q1,q2,q3]) rfl ⟨none,0,none,0,Mach.nothing,rfl,by unfold Hid Mach.minOf;rw [if_neg HE.out],nothing_ma _ _,hBf⟩
end
theorem Mach.minimal_iff (m:Mach):m.minimal=decide (m.err=0∧m.minOf.next.length=m.next.length):=by
 unfold Mach.minimal
 rw [decide_eq_decide]
 constructor
 ·exact fun h=>⟨h.1,h.2.2⟩
 intro h
 refine ⟨h.1,?_,h.2⟩
 have ok:=m.ok_of_err h.1
 have h1:=Mach.reach_le ok
 have h2:=h.2
 rw [Mach.minOf_eq h.1] at h2
 unfold Mach.minF at h2
 rw [List.length_map] at h2
 have h3:=visitC_len m.cl m.reach []
 unfold firsts at h2
 simp only [List.length_nil,Nat.zero_add] at h3
 omega
section
variable {M:Nat→Prop} {w:World} {an ao:Option Addr} {cn co:Nat} {m:Mach}
theorem minimalR_any (hm:Ma M w an cn ao co m):
    Calls Tryz.prog 52 #[maV m an cn ao co] w fun e w'=>∃b,e= .returned (.bool b)∧Hid (b=m.minimal)∧Below w.heap.size w w':=by
 have HN:=Lib.hid (minR_any (hm.ext (Ext.alloc M w (.cells #[.int .i64 m.inputs,.int .i64 m.start,.slice an m.next.length cn,.slice ao m.out.length co] 24))))
 have hnl:=hm.next.le
 clear hm
 by_cases he:m.err=0
 ·have he':(m.err==0)=true:=by simp [he]
  have HE:=Lib.hid he
  clear he
  go_enter Tryz.func52,Tryz.ntmps52
  go_wp2_with fail
  refine (HN.out).mono ?_
  rintro e w1 ⟨tn,tcn,to,tco,t,rfl,ht,hmt,hb1⟩
  clear HN
  have hz1:w.heap.size+1≤w1.heap.size:=by have:=hb1.size;simpa using this
  have hB1:Below (w.heap.size+1) (w.alloc (.cells #[.int .i64 m.inputs,.int .i64 m.start,.slice an m.next.length cn,.slice ao m.out.length co] 24)) (w1.alloc (.cells #[.int .i64 t.inputs,.int .i64 t.start,.slice tn t.next.length tcn,.slice to t.out.length tco] 24)):=(hb1.mono (by simp)).alloc hz1 _
  have hbx:∀o,(w1.alloc (.cells #[.int .i64 t.inputs,.int .i64 t.start,.slice tn t.next.length tcn,.slice to t.out.length tco] 24)).cell? ⟨w.heap.size,o,none⟩=_:=fun o=>hB1.cell (by simp)
  have hBf:Below w.heap.size w (w1.alloc (.cells #[.int .i64 t.inputs,.int .i64 t.start,.slice tn t.next.length tcn,.slice to t.out.length tco] 24)):=((Below.refl _ _).alloc (Nat.le_refl _) _).trans (hB1.mono (by omega))
  have htl:=hmt.next.le
  clear hb1 hB1
  go_wp2
  go_ret
  refine ⟨_,rfl,?_,hBf⟩
  unfold Hid;rw [Mach.minimal_iff,←ht.out]
  have hE:=HE.out
  simp [hE]
  try (by_cases h : t.next.length = m.next.length
       ·simp [h]
       simp [h];omega)
 have he':(m.err==0)=false:=by simp [he]
 have HE:=Lib.hid he
 clear he
 go_enter Tryz.func52,Tryz.ntmps52
 go_wp2_with fail
 refine (HN.out).mono ?_
 rintro e w1 ⟨tn,tcn,to,tco,t,rfl,ht,hmt,hb1⟩
 clear HN
 have hz1:w.heap.size+1≤w1.heap.size:=by have:=hb1.size;simpa using this
 have hB1:Below (w.heap.size+1) (w.alloc (.cells #[.int .i64 m.inputs,.int .i64 m.start,.slice an m.next.length cn,.slice ao m.out.length co] 24)) (w1.alloc (.cells #[.int .i64 t.inputs,.int .i64 t.start,.slice tn t.next.length tcn,.slice to t.out.length tco] 24)):=(hb1.mono (by simp)).alloc hz1 _
 have hbx:∀o,(w1.alloc (.cells #[.int .i64 t.inputs,.int .i64 t.start,.slice tn t.next.length tcn,.slice to t.out.length tco] 24)).cell? ⟨w.heap.size,o,none⟩=_:=fun o=>hB1.cell (by simp)
 have hBf:Below w.heap.size w (w1.alloc (.cells #[.int .i64 t.inputs,.int .i64 t.start,.slice tn t.next.length tcn,.slice to t.out.length tco] 24)):=((Below.refl _ _).alloc (Nat.le_refl _) _).trans (hB1.mono (by omega))
 have htl:=hmt.next.le
 clear hb1 hB1
 go_wp2
 go_ret
 refine ⟨_,rfl,?_,hBf⟩
 unfold Hid;rw [Mach.minimal_iff,←ht.out]
 have hE:=HE.out
 simp [hE]
 try (by_cases h : t.next.length = m.next.length
      ·simp [h]
      simp [h];omega)
end
end Go.Proofs.YtknhegdepbmmlaaGreat
