/- Several texts, one behind the other. Conditions: as each of them says. -/
import Derived.Test.YtjagagpcjpcjjaaGreatMc22
import Derived.Test.YtjagagpcjpcjjaaGreatMc20
import Derived.Test.YtjagagpcjpcjjaaGreatMc9
import Derived.Test.YtjagagpcjpcjjaaGreatMc7
import Derived.Test.YtjagagpcjpcjjaaGreatMc4
import Derived.Test.YtjagagpcjpcjjaaGreatMc3
import Derived.Test.YtjagagpcjpcjjaaGreatMc1
set_option maxRecDepth 100000
set_option maxHeartbeats 32000000
namespace Go.Proofs.YtjagagpcjpcjjaaGreat
open Go.RowKit
theorem nothing_ma (M:Nat→Prop) (w:World):Ma M w none 0 none 0 Mach.nothing:=⟨by unfold i64 Mach.nothing;simp,by unfold i64 Mach.nothing;simp,Sl.nil _ _ _ (by unfold maxLen;omega),Sl.nil _ _ _ (by unfold maxLen;omega)⟩
section
variable {M:Nat→Prop} {w:World} {an ao:Option Addr} {cn co:Nat} {m:Mach}
theorem trim_any (hm:Ma M w an cn ao co m):
    Calls Tryz.prog 68 #[maV m an cn ao co] w fun e w'=>
     ∃an' cn' ao' co' t,e= .returned (.tuple #[maV t an' cn' ao' co',.int .i64 m.err])∧Hid (t=m.trimOf)∧Ma (fun k=>k<w.heap.size) w' an' cn' ao' co' t∧Below w.heap.size w w':=by
 by_cases he:m.err=0
 ·have ok:=m.ok_of_err he
  have OK:=Lib.hid ok
  have he':(m.err !=0)=false:=by simp [he]
  have n1:=ok.n1
  have HE:=Lib.hid he
  clear he ok
  have HV:=Lib.hid (valid_any (hm.ext ((Ext.alloc M w (.cells #[.int .i64 m.inputs,.int .i64 m.start,.slice an m.next.length cn,.slice ao m.out.length co] 24)).trans (Ext.alloc M _ (.cells #[.int .i64 0,.int .i64 0,.slice none 0 0,.slice none 0 0] 24)))))
  go_enter Tryz.func68,Tryz.ntmps68
  go_wp2_with fail
  refine (HV.out).mono ?_
  rintro e w1 ⟨rfl,hb1⟩
  have hs1:w.heap.size+2≤w1.heap.size:=by have:=hb1.size;simpa using this
  have hB1:Below (w.heap.size+2) ((w.alloc (.cells #[.int .i64 m.inputs,.int .i64 m.start,.slice an m.next.length cn,.slice ao m.out.length co] 24)).alloc (.cells #[.int .i64 0,.int .i64 0,.slice none 0 0,.slice none 0 0] 24)) w1:=hb1.mono (by simp)
  clear hb1
  have hbx1:∀o,w1.cell? ⟨w.heap.size,o,none⟩=_:=fun o=>hB1.cell (by simp)
  have hm1:Ma M w1 an cn ao co m:=hm.ext (((Ext.alloc M w (.cells #[.int .i64 m.inputs,.int .i64 m.start,.slice an m.next.length cn,.slice ao m.out.length co] 24)).trans (Ext.alloc M _ (.cells #[.int .i64 0,.int .i64 0,.slice none 0 0,.slice none 0 0] 24))).trans (Ext.of_below (by simpa using hB1)))
  have HR:=Lib.hid (reach_any hm1)
  clear hm1
  go_wp2_with fail
  refine (HR.out).mono ?_
  rintro e w2 ⟨ast,cst,l,rfl,hl,hsl,hb2⟩
  have hB2:Below (w.heap.size+2) ((w.alloc (.cells #[.int .i64 m.inputs,.int .i64 m.start,.slice an m.next.length cn,.slice ao m.out.length co] 24)).alloc (.cells #[.int .i64 0,.int .i64 0,.slice none 0 0,.slice none 0 0] 24)) w2:=hB1.trans (hb2.mono hs1)
  have hs2:w.heap.size+2≤w2.heap.size:=Nat.le_trans hs1 hb2.size
  replace hsl:=hsl.anti (M':=fun k=>k<w.heap.size+2) (fun q _ hq=>by omega)
  have hlr:Hid (l=m.reach):=by have:=hl.out;unfold Mach.reachOf at this;rwa [if_pos HE.out] at this
  have hpr:=Mach.bfs_props OK.out m.next.length
  have hprop:Hid (l.Nodup∧(∀x∈l,0≤x∧x<m.next.length)∧l.length≤m.next.length):=by
   rw [hlr.out];exact ⟨hpr.1,hpr.2.1,Mach.bfs_le OK.out _⟩
  have hll:l.length≤m.next.length:=hprop.out.2.2
  clear hbx1 hb2 hB1 HR HV hpr
  have hbx2:∀o,w2.cell? ⟨w.heap.size,o,none⟩=_:=fun o=>hB2.cell (by simp)
  go_wp2_with (at_make;refine wpList_mk_i (B:=w.heap.size+2) (n:=m.next.length) rfl rfl Tryz.underlying49 info_int rfl (by omega) hs2 ?_)
  intro g c num w3 hnum hO hb3 hg
  have hnl:Hid (num.length=m.next.length):=by unfold Hid;rw [hnum.out,List.length_replicate]
  have hB3:Below (w.heap.size+2) ((w.alloc (.cells #[.int .i64 m.inputs,.int .i64 m.start,.slice an m.next.length cn,.slice ao m.out.length co] 24)).alloc (.cells #[.int .i64 0,.int .i64 0,.slice none 0 0,.slice none 0 0] 24)) w3:=hB2.trans (hb3.mono hs2)
  have hsl3:=hsl.below hb3
  have hsg:Hid (Sl (fun k=>k<w.heap.size+2∨k=g) w3 ast cst l):=hsl.ext ⟨hb3.size,fun k hk _=>hb3.block k hk,fun k hk hm=>hm.elim id (fun e=>by omega)⟩
  clear hbx2 hb3 hsl hsl3 hB2
  go_wp2
  go_loopw [29] (fun i wr=>∃(k:Nat) (nm:List Int),k≤l.length∧i= .int .i64 k∧Hid (Nums m.next.length (l.take k) nm)∧Hid (num.length=nm.length)∧Ow (w.heap.size+2) (fun k=>w.heap.size+2≤k) wr 3 (.slice (some ⟨g,0,none⟩) num.length c) nm∧
   Sl (fun k=>k<w.heap.size+2∨k=g) wr ast cst l∧Below (w.heap.size+2) ((w.alloc (.cells #[.int .i64 m.inputs,.int .i64 m.start,.slice an m.next.length cn,.slice ao m.out.length co] 24)).alloc (.cells #[.int .i64 0,.int .i64 0,.slice none 0 0,.slice none 0 0] 24)) wr) (fun i _=>l.length-(intOf i).toNat)
  case atStart=>exact ⟨0,num,by omega,rfl,Nums.init hnum.out,rfl,hO,hsg.out,hB3⟩
  case round=>
   clear hO hB3 hsg hnum
   obtain ⟨k,nm,hk,rfl,hN,hnn,hO,hS,hB⟩:=hrel
   obtain ⟨wo,rfl⟩:∃wo:World,wo=wr:=⟨_,rfl⟩
   by_cases hlt:k<l.length
   ·obtain ⟨bs,os,x0,rfl,hxc,hx0, -⟩:=hS.at_int hlt
    have hxr:=hprop.out.2.1 x0 (List.mem_of_getElem? hx0.out)
    obtain ⟨x,rfl⟩:=Int.eq_ofNat_of_zero_le hxr.1
    have hxn:x<m.next.length:=by omega
    have hxm:x<nm.length:=by have:=hnn.out;have:=hnl.out;omega
    have hxm2:x<num.length:=by have:=hnl.out;omega
    obtain ⟨g',y,hg',hyc,hyf, -, -⟩:=hO.at_int' hnn.out hxm
    obtain rfl:g=g':=by simpa using hg'
    have hki:Hid (i64 (k:Int)):=i64_of_nat (by omega)
    have hO2:=hO.set_int hnn.out (show w.heap.size+2≤g by omega) x hki.out
    have hS2:=hS.ext (Ext.setCell wo (M:=fun k=>k<w.heap.size+2∨k=g) (p:=⟨g,x,none⟩) (.inr rfl) (.int .i64 k))
    have hB2:=hB.setCell (p:=⟨g,x,none⟩) (show w.heap.size+2≤g by omega) (.int .i64 k)
    have hN2:Hid (Nums m.next.length (l.take (k+1)) (nm.set x (k:Int))):=by
     have h1:=hN.out.push hxn (take_notin hprop.out.1 hx0.out)
     have h2:l.take (k+1)=l.take k++[(x:Int)]:=by rw [List.take_add_one,hx0.out];rfl
     unfold Hid
     rw [h2]
     rwa [List.length_take,Nat.min_eq_left (by omega)] at h1
    clear hO hB hN
    go_wp2
    go_roundw
    case rel=>exact ⟨k+1,_,by omega,by go_num,hN2,by unfold Hid;rw [List.length_set];exact hnn.out,hO2,hS2,hB2⟩
    case measure=>simp [intOf];omega
   have hN2:Hid (Nums m.next.length l nm):=by have:=hN.out;rwa [List.take_of_length_le (by omega)] at this
   have hbx:∀o,wo.cell? ⟨w.heap.size,o,none⟩=_:=fun o=>hB.cell (by simp)
   have hsz:w.heap.size+2≤wo.heap.size:=by have:=hB.size;simpa using this
   clear hN
   have hMk0:=Mk.init wo m.inputs 0
   have hB0:Below wo.heap.size wo (wo.alloc (.cells #[.int .i64 m.inputs,.int .i64 0,.slice none 0 0,.slice none 0 0] 24)):=(Below.refl _ _).alloc (Nat.le_refl _) _
   go_wp2
   go_loopw [44] (fun i wr=>∃(k:Nat) (M:Nat→Prop) (aN:Option Addr) (cN:Nat) (rN:List (List Int)) (aO:Option Addr) (cO:Nat) (rO:List (List Int)),k≤l.length∧i= .int .i64 k∧
    Hid (rN=(l.take k).map m.trimRow∧rO=(l.take k).map fun s=>m.out.getD s.toNat [])∧Mk wo.heap.size M wr wo.heap.size m.inputs 0 aN cN rN aO cO rO∧Below wo.heap.size wo wr) (fun i _=>l.length-(intOf i).toNat)
   case atStart=>exact ⟨0,_,none,0,[],none,0,[],by omega,rfl,⟨rfl,rfl⟩,hMk0,hB0⟩
   case round=>
    clear hMk0 hB0 hlt hk
    obtain ⟨k,M,aN,cN,rN,aO,cO,rO,hk,rfl,hR,hMk,hBo⟩:=hrel
    obtain ⟨w4,rfl⟩:∃w4:World,w4=wr:=⟨_,rfl⟩
    have hs4:wo.heap.size<w4.heap.size:=hMk.bolt
    have hbx4:∀o,w4.cell? ⟨w.heap.size,o,none⟩=wo.cell? ⟨w.heap.size,o,none⟩:=fun o=>hBo.cell (by simp;omega)
    by_cases hlt:k<l.length
    ·have hS4:=hS.below hBo
     obtain ⟨bs,os,x0,rfl,hxc,hx0, -⟩:=hS4.at_int hlt
     have hxr:=hprop.out.2.1 x0 (List.mem_of_getElem? hx0.out)
     obtain ⟨x,rfl⟩:=Int.eq_ofNat_of_zero_le hxr.1
     have hxn:x<m.next.length:=by omega
     have hxo:x<m.out.length:=by have:=OK.out.lo;omega
     have hin:m.inputs=((m.inputs.toNat:Nat):Int):=by have:=OK.out.i0;omega
     have HIN:=Lib.hid hin
     have i64b:m.inputs≤64:=OK.out.i1
     clear hin
     go_wp2_with (at_make;refine wpList_mk_i (B:=w4.heap.size) (n:=m.inputs.toNat) rfl rfl Tryz.underlying49 info_int (congrArg (Value.int .i64) HIN.out) (by omega) (Nat.le_refl _) ?_)
     intro g5 c5 r0 w5 hr0 hO5 hb5 hg5
     have hMk5:=hMk.open hg5 hb5 (hO5.lt g5 rfl).2
     have hnm:¬M g5:=hMk.notM hg5
     have hmbo:=hMk.mbo
     have hold:=hMk.old
     have hmN:∀k,(Value.slice aN rN.length cN).ownBlock=some k→M k:=fun k hk=>(hMk.mn k hk).1
     have hmO:∀k,(Value.slice aO rO.length cO).ownBlock=some k→M k:=fun k hk=>(hMk.mo k hk).1
     have HH:=Lib.hid (And.intro hnm (And.intro hmbo (And.intro hold (And.intro hmN hmO))))
     have hBo5:Below wo.heap.size wo w5:=hBo.trans (hb5.mono (by omega))
     have hrl0:Hid (r0.length=m.inputs.toNat):=by unfold Hid;rw [hr0.out,List.length_replicate]
     clear hMk hnm hmbo hold hmN hmO hb5
     have hBw:Below w.heap.size w wo:=(((Below.refl _ _).alloc (Nat.le_refl _) _).alloc (by simp) _).trans (hB.mono (by omega))
     have hbx5:∀o,w5.cell? ⟨w.heap.size,o,none⟩=wo.cell? ⟨w.heap.size,o,none⟩:=fun o=>hBo5.cell (by simp;omega)
     have hBw5:Below w.heap.size w w5:=hBw.trans (hBo5.mono (by omega))
     obtain ⟨bn,on,a1,r1,c1,han,hn1,hr1,hS1⟩:=hm.next.at_row hxn
     obtain ⟨bq,oq,a2,r2,c2,hao,hn2,hr2,hS2⟩:=hm.out.at_row hxo
     subst han
     subst hao
     have hbnw:bn<w.heap.size:=hm.next.lt hxn
     have hbqw:bq<w.heap.size:=hm.out.lt hxo
     have hn15:w5.cell? ⟨bn,on+x,none⟩=some (.slice a1 r1.length c1):=(hBw5.cell (p:=⟨bn,on+x,none⟩) hbnw).trans hn1
     have e1:Hid (r1.length=m.inputs.toNat):=by have:=OK.out.rn x hxn;rw [getD_of_some hr1.out] at this;unfold Hid;omega
     have r1le:=hS1.le
     have hg5wo:wo.heap.size<g5:=by omega
     go_wp2
     go_loopw [57] (fun i wr=>∃(j:Nat) (row:List Int),j≤r1.length∧i= .int .i64 j∧Hid (row=(r1.take j).map (numOf m.reach)++List.replicate (r1.length-j) 0)∧Hid (r0.length=row.length)∧
      Ow w4.heap.size (fun k=>w4.heap.size≤k) wr 3 (.slice (some ⟨g5,0,none⟩) r0.length c5) row∧Mk wo.heap.size (fun k=>M k∨k=g5) wr wo.heap.size m.inputs 0 aN cN rN aO cO rO∧Below wo.heap.size wo wr) (fun i _=>r1.length-(intOf i).toNat)
     case atStart=>exact ⟨0,r0,by omega,rfl,by unfold Hid;rw [hr0.out,e1.out];simp,rfl,hO5,hMk5,hBo5⟩
     case round=>
      clear hO5 hMk5 hBo5 hn15 hbx5 hBw5 hr0
      obtain ⟨j,row,hj,rfl,hrow,hrl,hO6,hMk6,hBo6⟩:=hrel
      obtain ⟨w6,rfl⟩:∃w6:World,w6=wr:=⟨_,rfl⟩
      have hBw6:Below w.heap.size w w6:=hBw.trans (hBo6.mono (by omega))
      by_cases hlj:j<r1.length
      ·have hS16:=hS1.below hBw6
       obtain ⟨b3,o3,t0,rfl,htc,ht0, -⟩:=hS16.at_int hlj
       have htr:=Mach.row_range OK.out hxn (x:=t0) (by rw [getD_of_some hr1.out];exact List.mem_of_getElem? ht0.out)
       obtain ⟨t,rfl⟩:=Int.eq_ofNat_of_zero_le htr.1
       have htn:t<m.next.length:=by omega
       have hgwo:g<wo.heap.size:=(hO.lt g rfl).2
       have htm:t<nm.length:=by have:=hnn.out;have:=hnl.out;omega
       have htm2:t<num.length:=by have:=hnl.out;omega
       have hO66:=hO.below hBo6
       obtain ⟨g',y,hg',hyc, -,hy,hyi⟩:=hO66.at_int' hnn.out htm
       obtain rfl:g=g':=by simpa using hg'
       have hyv:Hid (y=numOf m.reach t):=by
        unfold Hid
        have:=hN2.out.val t htn
        rw [hy.out,hlr.out] at this
        simpa using this
       have hjr:j<row.length:=by
        rw [hrow.out];simp;omega
       obtain ⟨g'',z,hg'',hzc,hzf, -, -⟩:=hO6.at_int' hrl.out hjr
       obtain rfl:g5=g'':=by simpa using hg''
       have hjr0:j<r0.length:=by have:=hrl.out;omega
       have hO7:=hO6.set_int hrl.out hg5 j hyi.out
       have hMk7:=hMk6.write HH.out.1 HH.out.2.1 HH.out.2.2.2.1 HH.out.2.2.2.2 j (.int .i64 y)
       have hBo7:=hBo6.setCell (p:=⟨g5,j,none⟩) (show wo.heap.size≤g5 by omega) (.int .i64 y)
       have hrow2:Hid (row.set j y=(r1.take (j+1)).map (numOf m.reach)++List.replicate (r1.length-(j+1)) 0):=by
        unfold Hid
        rw [hrow.out,getElem?_map_take _ _ ht0.out,hyv.out]
        exact set_fill (by simp;omega) hlj
       clear hO6 hMk6 hBo6 hO66
       go_wp2
       go_roundw
       case rel=>exact ⟨j+1,_,by omega,by go_num,hrow2,by unfold Hid;rw [List.length_set];exact hrl.out,hO7,hMk7,hBo7⟩
       case measure=>simp [intOf];omega
      have hrowf : Hid (row = m.trimRow x) := by
       unfold Hid Mach.trimRow
       rw [hrow.out,List.take_of_length_le (by omega),show r1.length-j=0 from by omega,Int.toNat_natCast,getD_of_some hr1.out]
       simp
      have hMk6c:=hMk6.close HH.out.2.2.1 HH.out.2.1 HH.out.2.2.2.1 HH.out.2.2.2.2
      have hrow6:Sl M w6 (some ⟨g5,0,none⟩) c5 row:=by
       have h1:=hO6.anyM (M':=M)
       rw [hrl.out] at h1
       exact h1.toSl fun k hk=>by simp [Value.ownBlock] at hk;subst hk;exact HH.out.1
      have hrN:rN.length<1000000000000:=by rw [hR.out.1];simp;omega
      have hrO:rO.length<1000000000000:=by rw [hR.out.2];simp;omega
      obtain ⟨hk0,hk1,hk2,hk3,hkf⟩:=hMk6c.cells
      have hbx6:∀o,w6.cell? ⟨w.heap.size,o,none⟩=wo.cell? ⟨w.heap.size,o,none⟩:=fun o=>hBo6.cell (by simp;omega)
      have hs6:wo.heap.size<w6.heap.size:=hMk6c.bolt
      clear hMk6 hO6
      go_wp2_with (at_builtin;refine wpList_push_row (r:=row) (ar:=some ⟨g5,0,none⟩) (cr:=c5) rfl rfl Tryz.underlying22 info_ints rfl rfl (hMk6c.n.alloc _) HH.out.2.2.2.1 (by have:=hrl.out;simp [go_sem,this]) (hrow6.alloc _) hrN (by simp;omega) ?_)
      intro a7 c7 rN7 w7 hrN7 hOw7 hbk7 hgr7
      have hMk7:=(hMk6c.alloc (.cells #[.slice (some ⟨g5,0,none⟩) r0.length c5] 49)).pushN (by simpa using hOw7) (fun k hk=>by simpa using (hbk7.out k hk).1) hgr7 (fun k hk=>(hbk7.out k hk).2)
      have hbo7:∀b,b<wo.heap.size+1→w7.heap[b]? =w6.heap[b]? :=fun b hb=>(hgr7.block b (by simp;omega) (fun e=>by have h1:=hMk6c.mn b e.symm;have h2:=(hMk6c.n.lt b e.symm).1;omega)).trans (Below.heap_alloc _ _ _ (by omega))
      have hc7:∀o,w7.cell? ⟨wo.heap.size,o,none⟩=w6.cell? ⟨wo.heap.size,o,none⟩:=fun o=>World.cell?_of_block (w:=w6) (hbo7 _ (by simp))
      have hf7:∀o,w7.frozen? ⟨wo.heap.size,o,none⟩=false:=fun o=>(World.frozen?_of_block (w:=w6) (hbo7 _ (by simp))).trans (hkf o)
      have hB8:Below wo.heap.size wo (w7.setCell ⟨wo.heap.size,2,none⟩ (.slice a7 rN7.length c7)):=by
       refine Below.setCell ?_ (by simp) _
       exact (hBo6.alloc (by omega) _).grown hgr7 (by simp;omega) (fun j hj=>(hMk6c.n.lt j hj).1)
      have HM7:=Lib.hid hMk7
      have HB8:=Lib.hid hB8
      clear hbo7 hOw7 hbk7 hgr7 hMk7 hB8
      go_wp2
      obtain ⟨M8,HM8⟩:∃M8,Hid (Mk wo.heap.size M8 (w7.setCell ⟨wo.heap.size,2,none⟩ (.slice a7 rN7.length c7)) wo.heap.size m.inputs 0 a7 c7 rN7 aO cO rO):=⟨_,HM7.out⟩
      clear HM7 hc7 hf7
      generalize w7.setCell ⟨wo.heap.size,2,none⟩ (.slice a7 rN7.length c7)=w8 at*
      have hMk8:=HM8.out
      have hB8:=HB8.out
      have hBw8:Below w.heap.size w w8:=hBw.trans (hB8.mono (by omega))
      have hS28:=hS2.below hBw8
      have hn28:w8.cell? ⟨bq,oq+x,none⟩=some (.slice a2 r2.length c2):=(hBw8.cell (p:=⟨bq,oq+x,none⟩) hbqw).trans hn2
      have hb83:w8.cell? ⟨w.heap.size,3,none⟩=some (.slice (some ⟨bq,oq,none⟩) m.out.length co):=(hB8.cell (p:=⟨w.heap.size,3,none⟩) (by simp;omega)).trans (by simp [hbx])
      obtain ⟨-, -, -,hk83,hk8f⟩:=hMk8.cells
      have e2:r2.length<1000000000000:=by have:=OK.out.ro x hxn;rw [getD_of_some hr2.out] at this;omega
      have hs8:wo.heap.size<w8.heap.size:=hMk8.bolt
      clear hbx6 hbx4 hbx hk0 hk1 hk2 hk3 hkf hMk6c hrow6 hxc
      refine wp_region_L (fun w'=>w'.cell? ⟨w.heap.size,3,none⟩=some (.slice (some ⟨bq,oq,none⟩) m.out.length co)∧w'.cell? ⟨bq,oq+x,none⟩=some (.slice a2 r2.length c2)∧w'.cell? ⟨wo.heap.size,3,none⟩=some (.slice aO rO.length cO)) [0,1,2,3,4,5,6] (by kernel_rfl) ?_
      have hSS:w8.drew.cell? ⟨w.heap.size,3,none⟩=some (.slice (some ⟨bq,oq,none⟩) m.out.length co)∧w8.drew.cell? ⟨bq,oq+x,none⟩=some (.slice a2 r2.length c2)∧w8.drew.cell? ⟨wo.heap.size,3,none⟩=some (.slice aO rO.length cO):=⟨by simpa using hb83,by simpa using hn28,by simpa using hk83⟩
      refine skL_on [0,1,2,3,4,5,6] ?_
      repeat (refine skL_take (v:= ?_) rfl ?_ ?_;rotate_left;(focus (intro w' hSw;(try dsimp only at hSw);go_simp;try with_reducible rfl));try simp only [Act.put,List.setIfInBounds_toArray,List.set_cons_zero,List.set_cons_succ])
      refine skL_off ?_
      refine wpAnyL_one (i:=7) (by kernel_rfl) rfl rfl (fun K hK=> ?_)
      go_simp
      refine (clone_any hS28.drew e2).mono ?_
      rintro e w9 ⟨a9,c9,l9,rfl,hl9,hS9,hb9⟩
      have hMk9:=hMk8.drew.below hb9
      have hs9:wo.heap.size<w9.heap.size:=hMk9.bolt
      obtain ⟨-, -, -,hk93,hk9f⟩:=hMk9.cells
      have hSS9:w9.cell? ⟨w.heap.size,3,none⟩=some (.slice (some ⟨bq,oq,none⟩) m.out.length co)∧w9.cell? ⟨bq,oq+x,none⟩=some (.slice a2 r2.length c2)∧w9.cell? ⟨wo.heap.size,3,none⟩=some (.slice aO rO.length cO):=
       ⟨(hb9.cell (p:=⟨w.heap.size,3,none⟩) (by simp;omega)).trans hSS.1,(hb9.cell (p:=⟨bq,oq+x,none⟩) (by simp;omega)).trans hSS.2.1,hk93⟩
      refine hK _ _ (fun _=>hSS9) ?_
      clear hK K
      have hMk9a:=hMk9.alloc (.cells #[.slice a9 l9.length c9] 49)
      have hMq:∀q,M8 q→q<w8.heap.size:=fun q hq=>by
       by_cases h:q<wo.heap.size
       ·omega
       exact hMk8.lt q (by omega) hq
      have ha9:∀p:Addr,p.block<w9.heap.size→(w9.alloc (.cells #[.slice a9 l9.length c9] 49)).cell? p=w9.cell? p:=fun p hp=>((Below.refl _ _).alloc (Nat.le_refl _) _).cell hp
      have HA9:=Lib.hid ha9
      have HMQ:=Lib.hid hMq
      clear ha9 hMq
      refine wpAnyL_one (i:=8) (by kernel_rfl) rfl rfl (fun K hK=> ?_)
      go_simp
      refine hK _ _ (fun _=>⟨(HA9.out _ (by simp;omega)).trans hSS9.1,(HA9.out _ (by simp;omega)).trans hSS9.2.1,(HA9.out _ (by simp;omega)).trans hSS9.2.2⟩) ?_
      clear hK K
      have hSr9:Sl M8 (w9.alloc (.cells #[.slice a9 l9.length c9] 49)) a9 c9 l9:=(hS9.anti (fun q _ hq=>HMQ.out q hq)).alloc _
      refine wpAnyL_one (i:=9) (by kernel_rfl) rfl rfl (fun K hK=> ?_)
      refine wp_push_row (r:=l9) (ar:=a9) (cr:=c9) rfl Tryz.underlying22 info_ints rfl rfl hMk9a.o (fun k hk=>(hMk9a.mo k hk).1) (by simp [go_sem]) hSr9 hrO (by simp;omega) ?_
      intro a10 c10 rO10 w10 hrO10 hOw10 hbk10 hgr10
      have hbo10:∀b,b<wo.heap.size+1→w10.heap[b]? =(w9.alloc (.cells #[.slice a9 l9.length c9] 49)).heap[b]? :=fun b hb=>hgr10.block b (by simp;omega) (fun e=>by have h1:=hMk9a.mo b e.symm;have h2:=(hMk9a.o.lt b e.symm).1;omega)
      have hc10:∀b o,b<wo.heap.size+1→w10.cell? ⟨b,o,none⟩=w9.cell? ⟨b,o,none⟩:=fun b o hb=>(World.cell?_of_block (a:=⟨b,o,none⟩) (hbo10 b hb)).trans (HA9.out _ (by simp;omega))
      have HC10:=Lib.hid hc10
      have hf10:∀o,w10.frozen? ⟨wo.heap.size,o,none⟩=false:=fun o=>(World.frozen?_of_block (a:=⟨wo.heap.size,o,none⟩) (hbo10 _ (by simp))).trans (frozen_of_row _ _ _ _ _ hMk9a.blk)
      have hk10:=(HC10.out wo.heap.size 3 (by omega)).trans hSS9.2.2
      have hMk10:=hMk9a.pushO hOw10 (fun k hk=>(hbk10.out k hk).1) hgr10 (fun k hk=>(hbk10.out k hk).2)
      have hB10:Below wo.heap.size wo (w10.setCell ⟨wo.heap.size,3,none⟩ (.slice a10 rO10.length c10)):=by
       refine Below.setCell ?_ (by simp) _
       exact (((hB8.drew).trans (hb9.mono (by simp;omega))).alloc (by omega) _).grown hgr10 (by simp;omega) (fun j hj=>(hMk9a.o.lt j hj).1)
      have hR2:Hid (rN7=(l.take (k+1)).map m.trimRow∧rO10=(l.take (k+1)).map fun s=>m.out.getD s.toNat []):=by
       refine ⟨?_,?_⟩
       ·rw [hrN7.out,hR.out.1,getElem?_map_take _ _ hx0.out,hrowf.out]
       rw [hrO10.out,hR.out.2,getElem?_map_take _ _ hx0.out,hl9.out,Int.toNat_natCast,getD_of_some hr2.out]
      clear hc10 hbo10
      refine hK _ _ (fun _=>⟨(HC10.out _ _ (by omega)).trans hSS9.1,(HC10.out _ _ (by omega)).trans hSS9.2.1,hk10⟩) ?_
      clear hK K
      have HMk10:=Lib.hid hMk10
      have HB10:=Lib.hid hB10
      clear hMk10 hB10 hOw10 hbk10 hgr10 hSS9 hSS
      refine wpAnyL_late (i:=10) (by kernel_rfl) (by kernel_rfl) rfl rfl (fun K hK=> ?_)
      go_simp
      refine hK _ _ ?_
      clear hK K
      refine wpAnyL_late (i:=11) (by kernel_rfl) (by kernel_rfl) rfl rfl (fun K hK=> ?_)
      go_simp
      refine hK _ _ ?_
      clear hK K
      refine wpAnyL_done (by kernel_rfl) ?_ _
      go_wp2
      go_roundw
      case rel=>exact ⟨k+1,_,a7,c7,rN7,a10,c10,rO10,by omega,by go_num,hR2,HMk10.out,HB10.out⟩
      case measure=>simp [intOf];omega
    have hke:Hid (k=l.length):=by unfold Hid;omega
    obtain ⟨hk0,hk1,hk2,hk3,hkf⟩:=hMk.cells
    have hbr:∀o,w4.cell? ⟨w.heap.size+1,o,none⟩=_:=fun o=>(hBo.cell (p:=⟨w.heap.size+1,o,none⟩) (by simp;omega)).trans (hB.cell (by simp))
    have hbf:∀o,w4.frozen? ⟨w.heap.size+1,o,none⟩=_:=fun o=>(hBo.frozen (p:=⟨w.heap.size+1,o,none⟩) (by simp;omega)).trans (hB.frozen (by simp))
    have hs42:w.heap.size+1<w4.heap.size:=by omega
    have hblk:Hid (w4.heap[w.heap.size+1]? =some (.cells #[.int .i64 0,.int .i64 0,.slice none 0 0,.slice none 0 0] 24)):=by
     have h1:=hB.block (w.heap.size+1) (by omega)
     have h2:=hBo.block (w.heap.size+1) (by omega)
     unfold Hid
     rw [h2,h1]
     have:=heap_alloc_new (w.alloc (.cells #[.int .i64 m.inputs,.int .i64 m.start,.slice an m.next.length cn,.slice ao m.out.length co] 24)) (.cells #[.int .i64 0,.int .i64 0,.slice none 0 0,.slice none 0 0] 24)
     simpa using this
    go_wp2
    obtain ⟨q0,q1,q2,q3⟩:=cells4 (set4 (y0:= .int .i64 m.inputs) (y1:= .int .i64 0) (y2:= .slice aN rN.length cN) (y3:= .slice aO rO.length cO) hblk.out)
    have hM1:M (w.heap.size+1):=hMk.old _ (by omega)
    have hMf:Mk wo.heap.size M ((((w4.setCell ⟨w.heap.size+1,0,none⟩ (.int .i64 m.inputs)).setCell ⟨w.heap.size+1,1,none⟩ (.int .i64 0)).setCell ⟨w.heap.size+1,2,none⟩ (.slice aN rN.length cN)).setCell ⟨w.heap.size+1,3,none⟩ (.slice aO rO.length cO)) wo.heap.size m.inputs 0 aN cN rN aO cO rO:=
     hMk.ext ((((Ext.setCell _ (p:=⟨w.heap.size+1,0,none⟩) hM1 _).trans (Ext.setCell _ (p:=⟨w.heap.size+1,1,none⟩) hM1 _)).trans (Ext.setCell _ (p:=⟨w.heap.size+1,2,none⟩) hM1 _)).trans (Ext.setCell _ (p:=⟨w.heap.size+1,3,none⟩) hM1 _))
      (fun q hq _=>by rw [Below.heap_setCell _ _ _ _ (by simp;omega),Below.heap_setCell _ _ _ _ (by simp;omega),Below.heap_setCell _ _ _ _ (by simp;omega),Below.heap_setCell _ _ _ _ (by simp;omega)])
    have hBf:Below w.heap.size w ((((w4.setCell ⟨w.heap.size+1,0,none⟩ (.int .i64 m.inputs)).setCell ⟨w.heap.size+1,1,none⟩ (.int .i64 0)).setCell ⟨w.heap.size+1,2,none⟩ (.slice aN rN.length cN)).setCell ⟨w.heap.size+1,3,none⟩ (.slice aO rO.length cO)):=by
     refine Below.setCell (Below.setCell (Below.setCell (Below.setCell ?_ (by simp) _) (by simp) _) (by simp) _) (by simp) _
     exact (((Below.refl _ _).alloc (Nat.le_refl _) _).alloc (by simp) _).trans ((hB.mono (by omega)).trans (hBo.mono (by omega)))
    generalize ((((w4.setCell ⟨w.heap.size+1,0,none⟩ (.int .i64 m.inputs)).setCell ⟨w.heap.size+1,1,none⟩ (.int .i64 0)).setCell ⟨w.heap.size+1,2,none⟩ (.slice aN rN.length cN)).setCell ⟨w.heap.size+1,3,none⟩ (.slice aO rO.length cO))=wf at*
    refine bodyPost_ret (v:= .tuple #[.agg #[.int .i64 m.inputs,.int .i64 0,.slice aN rN.length cN,.slice aO rO.length cO],.int .i64 0]) (by simp [results,Tryz.results68,go_sem,q0,q1,q2,q3]) rfl ⟨aN,cN,aO,cO,⟨m.inputs,0,rN,rO⟩,?_,?_,hMf.toMa hm.inputs (by unfold i64;omega) (by omega),hBf⟩
    ·rw [HE.out]
    unfold Hid Mach.trimOf Mach.trim
    rw [if_pos HE.out,hR.out.1,hR.out.2,List.take_of_length_le (by omega),hlr.out]
 have he':(m.err !=0)=true:=by simp [he]
 have HE:=Lib.hid he
 clear he
 have HV:=Lib.hid (valid_any (hm.ext ((Ext.alloc M w (.cells #[.int .i64 m.inputs,.int .i64 m.start,.slice an m.next.length cn,.slice ao m.out.length co] 24)).trans (Ext.alloc M _ (.cells #[.int .i64 0,.int .i64 0,.slice none 0 0,.slice none 0 0] 24)))))
 go_enter Tryz.func68,Tryz.ntmps68
 go_wp2_with fail
 refine (HV.out).mono ?_
 rintro e w1 ⟨rfl,hb1⟩
 have hs1:w.heap.size+2≤w1.heap.size:=by have:=hb1.size;simpa using this
 have hB1:Below (w.heap.size+2) ((w.alloc (.cells #[.int .i64 m.inputs,.int .i64 m.start,.slice an m.next.length cn,.slice ao m.out.length co] 24)).alloc (.cells #[.int .i64 0,.int .i64 0,.slice none 0 0,.slice none 0 0] 24)) w1:=hb1.mono (by simp)
 have hblk:Hid (w1.heap[w.heap.size+1]? =some (.cells #[.int .i64 0,.int .i64 0,.slice none 0 0,.slice none 0 0] 24)):=by
  have h1:=hB1.block (w.heap.size+1) (by omega)
  unfold Hid
  rw [h1]
  have:=heap_alloc_new (w.alloc (.cells #[.int .i64 m.inputs,.int .i64 m.start,.slice an m.next.length cn,.slice ao m.out.length co] 24)) (.cells #[.int .i64 0,.int .i64 0,.slice none 0 0,.slice none 0 0] 24)
  simpa using this
 obtain ⟨k0,k1,k2,k3⟩:=cells4 hblk.out
 have kf:∀o,w1.frozen? ⟨w.heap.size+1,o,none⟩=false:=fun o=>frozen_of_row _ _ _ _ _ hblk.out
 clear hb1
 go_wp2
 obtain ⟨q0,q1,q2,q3⟩:=cells4 (set4 (y0:= .int .i64 0) (y1:= .int .i64 0) (y2:= .slice none 0 0) (y3:= .slice none 0 0) hblk.out)
 have hBf:Below w.heap.size w ((((w1.setCell ⟨w.heap.size+1,0,none⟩ (.int .i64 0)).setCell ⟨w.heap.size+1,1,none⟩ (.int .i64 0)).setCell ⟨w.heap.size+1,2,none⟩ (.slice none 0 0)).setCell ⟨w.heap.size+1,3,none⟩ (.slice none 0 0)):=by
  refine Below.setCell (Below.setCell (Below.setCell (Below.setCell ?_ (by simp) _) (by simp) _) (by simp) _) (by simp) _
  exact (((Below.refl _ _).alloc (Nat.le_refl _) _).alloc (by simp) _).trans (hB1.mono (by omega))
 generalize ((((w1.setCell ⟨w.heap.size+1,0,none⟩ (.int .i64 0)).setCell ⟨w.heap.size+1,1,none⟩ (.int .i64 0)).setCell ⟨w.heap.size+1,2,none⟩ (.slice none 0 0)).setCell ⟨w.heap.size+1,3,none⟩ (.slice none 0 0))=wf at*
 exact bodyPost_ret (v:= .tuple #[.agg #[.int .i64 0,.int .i64 0,.slice none 0 0,.slice none 0 0],.int .i64 m.err]) (by simp [results,Tryz.results68,go_sem,q0,q1,q2,q3]) rfl ⟨none,0,none,0,Mach.nothing,rfl,by unfold Hid Mach.trimOf;rw [if_neg HE.out],nothing_ma _ _,hBf⟩
end
section
variable {M:Nat→Prop} {w:World} {an ao:Option Addr} {cn co:Nat} {m:Mach}
theorem map_take_succ' {α:Type} (f:Int→α) {l:List Int} {k:Nat} {x:Int} (h:l[k]? =some x):(l.take (k+1)).map f=(l.take k).map f++[f x]:=by
 rw [List.take_add_one,h];simp
theorem min_any (hm:Ma M w an cn ao co m):
    Calls Tryz.prog 27 #[maV m an cn ao co] w fun e w'=>
     ∃an' cn' ao' co' t,e= .returned (.tuple #[maV t an' cn' ao' co',.int .i64 m.err])∧Hid (t=m.minOf)∧Ma (fun k=>k<w.heap.size) w' an' cn' ao' co' t∧Below w.heap.size w w':=by
 have HT:=Lib.hid (trim_any (hm.ext ((Ext.alloc M w (.cells #[.int .i64 m.inputs,.int .i64 m.start,.slice an m.next.length cn,.slice ao m.out.length co] 24)).trans (Ext.alloc M _ (.cells #[.int .i64 0,.int .i64 0,.slice none 0 0,.slice none 0 0] 24)))))
 by_cases he:m.err=0
 ·have he':(m.err !=0)=false:=by simp [he]
  have HE:=Lib.hid he
  clear he
  go_enter Tryz.func27,Tryz.ntmps27
  go_wp2_with fail
  refine (HT.out).mono ?_
  rintro e w1 ⟨tn,tcn,to,tco,t,rfl,ht,hmt,hb1⟩
  clear HT
  have hs1:w.heap.size+2≤w1.heap.size:=by have:=hb1.size;simpa using this
  have hB1:Below (w.heap.size+2) ((w.alloc (.cells #[.int .i64 m.inputs,.int .i64 m.start,.slice an m.next.length cn,.slice ao m.out.length co] 24)).alloc (.cells #[.int .i64 0,.int .i64 0,.slice none 0 0,.slice none 0 0] 24)) w1:=hb1.mono (by simp)
  have hblk1:Hid (w1.heap[w.heap.size+1]? =some (.cells #[.int .i64 0,.int .i64 0,.slice none 0 0,.slice none 0 0] 24)):=by
   have h1:=hB1.block (w.heap.size+1) (by omega)
   unfold Hid
   rw [h1]
   have:=heap_alloc_new (w.alloc (.cells #[.int .i64 m.inputs,.int .i64 m.start,.slice an m.next.length cn,.slice ao m.out.length co] 24)) (.cells #[.int .i64 0,.int .i64 0,.slice none 0 0,.slice none 0 0] 24)
   simpa using this
  have hBw1:Below w.heap.size w w1:=(((Below.refl _ _).alloc (Nat.le_refl _) _).alloc (by simp) _).trans (hB1.mono (by omega))
  have hmt':Ma (fun k=>k<w.heap.size+2) w1 tn tcn to tco t:=by simpa using hmt
  have HTE:Hid (t.err=0):=by unfold Hid;rw [ht.out];exact Mach.trimOf_err HE.out
  have hte':(t.err !=0)=false:=by simp [HTE.out]
  have HOK:=Lib.hid (t.ok_of_err HTE.out)
  have HC:=Lib.hid (classes_any (hmt'.ext (Ext.alloc _ w1 (.cells #[.int .i64 t.inputs,.int .i64 t.start,.slice tn t.next.length tcn,.slice to t.out.length tco] 24))))
  have HMT:=Lib.hid hmt'
  clear hb1 hB1 hmt hmt'
  go_wp2_with fail
  refine (HC.out).mono ?_
  rintro e w2 ⟨ac,cc,cls,rfl,hcls,hsc,hb2⟩
  clear HC
  have hs2:w1.heap.size+1≤w2.heap.size:=by have:=hb2.size;simpa using this
  have hB2:Below (w1.heap.size+1) (w1.alloc (.cells #[.int .i64 t.inputs,.int .i64 t.start,.slice tn t.next.length tcn,.slice to t.out.length tco] 24)) w2:=hb2.mono (by simp)
  have hBw2:Below w1.heap.size w1 w2:=((Below.refl _ _).alloc (Nat.le_refl _) _).trans (hB2.mono (by omega))
  have hS:Sl (fun k=>k<w1.heap.size+1) w2 ac cc cls:=by simpa using hsc
  have hM2:Ma (fun k=>k<w.heap.size+2) w2 tn tcn to tco t:=HMT.out.below hBw2
  have hcl0:Hid (cls.length=t.next.length):=by
   unfold Hid
   rw [hcls.out];unfold Mach.partOf;rw [if_pos HTE.out,Mach.part_length]
  have hbt:∀o,w2.cell? ⟨w1.heap.size,o,none⟩=_:=fun o=>hB2.cell (by simp)
  have n1:=HOK.out.n1
  have hcl1:cls.length≤t.next.length:=Nat.le_of_eq hcl0.out
  have hcl2:t.next.length≤cls.length:=Nat.le_of_eq hcl0.out.symm
  have hMk0:=Mk.init w2 t.inputs 0
  have hB0:Below w2.heap.size w2 (w2.alloc (.cells #[.int .i64 t.inputs,.int .i64 0,.slice none 0 0,.slice none 0 0] 24)):=(Below.refl _ _).alloc (Nat.le_refl _) _
  clear hb2 hsc HMT hB2
  go_wp2
  go_loopw [36] (fun i wr=>∃(k:Nat) (M:Nat→Prop) (aN:Option Addr) (cN:Nat) (rN:List (List Int)) (aO:Option Addr) (cO:Nat) (rO:List (List Int)),k≤cls.length∧i= .int .i64 k∧
   Hid (rN=(reps cls k).map (t.minRow cls)∧rO=(reps cls k).map fun s=>t.out.getD s [])∧Mk w2.heap.size M wr w2.heap.size t.inputs 0 aN cN rN aO cO rO∧Below w2.heap.size w2 wr) (fun i _=>cls.length-(intOf i).toNat)
  case atStart=>exact ⟨0,_,none,0,[],none,0,[],by omega,rfl,⟨rfl,rfl⟩,hMk0,hB0⟩
  case round=>
   clear hMk0 hB0
   obtain ⟨k,M,aN,cN,rN,aO,cO,rO,hk,rfl,hR,hMk,hBo⟩:=hrel
   obtain ⟨w4,rfl⟩:∃w4:World,w4=wr:=⟨_,rfl⟩
   have hs4:w2.heap.size<w4.heap.size:=hMk.bolt
   have hbx4:∀o,w4.cell? ⟨w1.heap.size,o,none⟩=w2.cell? ⟨w1.heap.size,o,none⟩:=fun o=>hBo.cell (by simp;omega)
   obtain ⟨hk0,hk1,hk2,hk3,hkf⟩:=hMk.cells
   have hrl:rN.length≤k:=by rw [hR.out.1,List.length_map];exact reps_le _ _
   have hrlo:rO.length≤k:=by rw [hR.out.2,List.length_map];exact reps_le _ _
   have hrr:Hid ((reps cls k).length=rN.length):=by unfold Hid;rw [hR.out.1,List.length_map]
   by_cases hlt:k<cls.length
   ·have hS4:=hS.below hBo
    obtain ⟨bs,os,x,rfl,hxc,hx0, -⟩:=hS4.at_int hlt
    have hgx:Hid (cls.getD k 0=x):=getD_of_some hx0.out
    by_cases hold:x<(rN.length:Int)
    ·have hR2 : Hid (rN = (reps cls (k + 1)).map (t.minRow cls) ∧ rO = (reps cls (k + 1)).map fun s => t.out.getD s []) := by
       rw [reps_old (by rw [hgx.out,hrr.out];exact hold)]
       exact hR
     go_wp2
     go_roundw
     case rel=>exact ⟨k+1,M,aN,cN,rN,aO,cO,rO,by omega,by go_num,hR2,hMk,hBo⟩
     case measure=>simp [intOf];omega
    have hkn:k<t.next.length:=by omega
    have hko:k<t.out.length:=by have:=HOK.out.lo;omega
    have hM4:=hM2.below (hBo.mono (Nat.le_refl _))
    obtain ⟨bn,on,a1,r1,c1,han,hn1,hr1,hS1⟩:=hM4.next.at_row hkn
    obtain ⟨bq,oq,a2,r2,c2,hao,hn2,hr2,hS2⟩:=hM4.out.at_row hko
    subst han
    subst hao
    have hbnw:bn<w4.heap.size:=by have:=hM2.next.lt hkn;omega
    have hbqw:bq<w4.heap.size:=by have:=hM2.out.lt hko;omega
    have e1:Hid (r1.length=t.inputs.toNat):=by have:=HOK.out.rn k hkn;rw [getD_of_some hr1.out] at this;unfold Hid;omega
    have e2:Hid (r2.length=t.inputs.toNat):=by have:=HOK.out.ro k hkn;rw [getD_of_some hr2.out] at this;unfold Hid;omega
    have hi1:=HOK.out.i1
    have hi0:=HOK.out.i0
    have r1le:r1.length≤64:=by have:=e1.out;omega
    have hO0:Ow w4.heap.size (fun k=>w4.heap.size≤k) w4 3 (.slice none ([]:List Int).length 0) ([]:List Int):=Ow.nil
    go_wp2
    go_loopw [52,10] (fun i v wr=>∃(j:Nat) (a5:Option Addr) (c5:Nat) (row:List Int),j≤r1.length∧i= .int .i64 j∧v= .slice a5 row.length c5∧Hid (row=(r1.take j).map (fun n=>cls.getD n.toNat 0))∧
     Ow w4.heap.size (fun k=>w4.heap.size≤k) wr 3 (.slice a5 row.length c5) row∧Below w4.heap.size w4 wr) (fun i _ _=>r1.length-(intOf i).toNat)
    case atStart=>exact ⟨0,none,0,[],by omega,rfl,rfl,rfl,hO0,Below.refl _ _⟩
    case round=>
     clear hO0
     obtain ⟨j,a5,c5,row,hj,rfl,rfl,hrow,hO6,hB6⟩:=hrel
     obtain ⟨w6,rfl⟩:∃w6:World,w6=wr:=⟨_,rfl⟩
     have hs6:w4.heap.size≤w6.heap.size:=hB6.size
     have hrlen:row.length≤r1.length:=by rw [hrow.out];simp;omega
     by_cases hlj:j<r1.length
     ·have hS16:=hS1.below hB6
      obtain ⟨b3,o3,t0,rfl,htc,ht0, -⟩:=hS16.at_int hlj
      have htr:=Mach.row_range HOK.out hkn (x:=t0) (by rw [getD_of_some hr1.out];exact List.mem_of_getElem? ht0.out)
      obtain ⟨q,rfl⟩:=Int.eq_ofNat_of_zero_le htr.1
      have hqn:q<cls.length:=by omega
      have hS6:=hS4.below hB6
      obtain ⟨bs',os',y,hbs,hyc,hy,hyi⟩:=hS6.at_int hqn
      obtain ⟨rfl,rfl⟩:bs=bs'∧os=os':=by simpa using hbs
      have hrow2:Hid (row++[y]=(r1.take (j+1)).map (fun n=>cls.getD n.toNat 0)):=by
       unfold Hid
       rw [map_take_succ' _ ht0.out,hrow.out,Int.toNat_natCast,getD_of_some hy.out]
      go_wp2_with (at_builtin;refine wpList_push_i (B:=w4.heap.size) (l:=row) (y:=y) rfl rfl Tryz.underlying49 info_int rfl rfl (hO6.alloc _) (by simp [go_sem]) hyi.out (by omega) (by simp;omega) ?_)
      intro a7 c7 l7 w7 hl7 hO7 hb7
      have hB7:Below w4.heap.size w4 w7:=(hB6.alloc (by omega) _).trans hb7
      go_wp2
      go_roundw
      case rel=>exact ⟨j+1,a7,c7,l7,by omega,by go_num,rfl,by rw [hl7.out];exact hrow2,hO7,hB7⟩
      case measure=>simp [intOf];omega
     have hrowf : Hid (row = t.minRow cls k) := by
      unfold Hid Mach.minRow
      rw [hrow.out,List.take_of_length_le (by omega),getD_of_some hr1.out]
     have hMk6:=hMk.below hB6
     have hBo6:Below w2.heap.size w2 w6:=hBo.trans (hB6.mono (by omega))
     have hrow6:Sl M w6 a5 c5 row:=hO6.anyM.toSl fun k hk=>hMk.notM (hO6.lt k hk).1
     have hrN:rN.length<1000000000000:=by omega
     have hrO:rO.length<1000000000000:=by omega
     have hmN:∀k,(Value.slice aN rN.length cN).ownBlock=some k→M k:=fun k hk=>(hMk.mn k hk).1
     obtain ⟨hk0,hk1,hk2,hk3,hkf⟩:=hMk6.cells
     have hb63:w6.cell? ⟨w1.heap.size,3,none⟩=some (.slice (some ⟨bq,oq,none⟩) t.out.length tco):=(hB6.cell (p:=⟨w1.heap.size,3,none⟩) (by simp;omega)).trans ((hbx4 3).trans (by simp [hbt]))
     have hn26:w6.cell? ⟨bq,oq+k,none⟩=some (.slice a2 r2.length c2):=(hB6.cell (p:=⟨bq,oq+k,none⟩) hbqw).trans hn2
     have hS26:=hS2.below hB6
     have hbqw2:bq<w2.heap.size:=by have:=hM2.out.lt hko;omega
     clear hO6 hMk hS4 hxc hbx4 hn1 hS1
     go_wp2_with (at_builtin;refine wpList_push_row (r:=row) (ar:=a5) (cr:=c5) rfl rfl Tryz.underlying22 info_ints rfl rfl (hMk6.n.alloc _) hmN (by simp [go_sem]) (hrow6.alloc _) hrN (by simp;omega) ?_)
     intro a7 c7 rN7 w7 hrN7 hOw7 hbk7 hgr7
     have hMk7:=(hMk6.alloc (.cells #[.slice a5 row.length c5] 49)).pushN (by simpa using hOw7) (fun k hk=>by simpa using (hbk7.out k hk).1) hgr7 (fun k hk=>(hbk7.out k hk).2)
     have hbo7:∀b,b<w2.heap.size+1→w7.heap[b]? =w6.heap[b]? :=fun b hb=>(hgr7.block b (by simp;omega) (fun e=>by have h1:=hMk6.mn b e.symm;have h2:=(hMk6.n.lt b e.symm).1;omega)).trans (Below.heap_alloc _ _ _ (by omega))
     have hc7:∀o,w7.cell? ⟨w2.heap.size,o,none⟩=w6.cell? ⟨w2.heap.size,o,none⟩:=fun o=>World.cell?_of_block (w:=w6) (hbo7 _ (by simp))
     have hf7:∀o,w7.frozen? ⟨w2.heap.size,o,none⟩=false:=fun o=>(World.frozen?_of_block (w:=w6) (hbo7 _ (by simp))).trans (hkf o)
     have hB8:Below w2.heap.size w2 (w7.setCell ⟨w2.heap.size,2,none⟩ (.slice a7 rN7.length c7)):=by
      refine Below.setCell ?_ (by simp) _
      exact (hBo6.alloc (by omega) _).grown hgr7 (by simp;omega) (fun j hj=>(hMk6.n.lt j hj).1)
     have HM7:=Lib.hid hMk7
     have HB8:=Lib.hid hB8
     clear hbo7 hOw7 hbk7 hgr7 hMk7 hB8
     go_wp2
     obtain ⟨M8,HM8⟩:∃M8,Hid (Mk w2.heap.size M8 (w7.setCell ⟨w2.heap.size,2,none⟩ (.slice a7 rN7.length c7)) w2.heap.size t.inputs 0 a7 c7 rN7 aO cO rO):=⟨_,HM7.out⟩
     clear HM7 hc7 hf7
     generalize w7.setCell ⟨w2.heap.size,2,none⟩ (.slice a7 rN7.length c7)=w8 at*
     have hMk8:=HM8.out
     have hB8:=HB8.out
     have hM8:=hM2.below hB8
     obtain ⟨bq',oq',a3,r3,c3,hao',hn3,hr3,hS3⟩:=hM8.out.at_row hko
     obtain ⟨rfl,rfl⟩:bq=bq'∧oq=oq':=by simpa using hao'
     obtain rfl:r2=r3:=by have h1:=hr2.out;have h2:=hr3.out;rw [h1] at h2;simpa using h2
     have hb83:w8.cell? ⟨w1.heap.size,3,none⟩=some (.slice (some ⟨bq,oq,none⟩) t.out.length tco):=(hB8.cell (p:=⟨w1.heap.size,3,none⟩) (by simp;omega)).trans (by simp [hbt])
     obtain ⟨-, -, -,hk83,hk8f⟩:=hMk8.cells
     have hs8:w2.heap.size<w8.heap.size:=hMk8.bolt
     obtain ⟨bp,op,hap⟩:∃bp op,a3=some ⟨bp,op,none⟩:=by
      obtain ⟨b',o',_,h1,_⟩:=hS3.at_int (j:=0) (by rw [e2.out];omega)
      exact ⟨b',o',h1⟩
     subst hap
     clear hbt hk0 hk1 hk2 hk3 hkf hMk6 hrow6 hb63 hn26 hS26 hn2
     refine wp_region_L (fun w'=>w'.cell? ⟨w1.heap.size,3,none⟩=some (.slice (some ⟨bq,oq,none⟩) t.out.length tco)∧w'.cell? ⟨bq,oq+k,none⟩=some (.slice (some ⟨bp,op,none⟩) r2.length c3)∧w'.cell? ⟨w2.heap.size,3,none⟩=some (.slice aO rO.length cO)) [0,1,3,4,5,6,7] (by kernel_rfl) ?_
     have hSS:w8.drew.cell? ⟨w1.heap.size,3,none⟩=some (.slice (some ⟨bq,oq,none⟩) t.out.length tco)∧w8.drew.cell? ⟨bq,oq+k,none⟩=some (.slice (some ⟨bp,op,none⟩) r2.length c3)∧w8.drew.cell? ⟨w2.heap.size,3,none⟩=some (.slice aO rO.length cO):=⟨by simpa using hb83,by simpa using hn3,by simpa using hk83⟩
     refine skL_on [0,1,3,4,5,6,7] ?_
     repeat (refine skL_take (v:= ?_) rfl ?_ ?_;rotate_left;(focus (intro w' hSw;(try dsimp only at hSw);go_simp;try with_reducible rfl));try simp only [Act.put,List.setIfInBounds_toArray,List.set_cons_zero,List.set_cons_succ])
     refine skL_off ?_
     refine wpAnyL_one (i:=2) (by kernel_rfl) rfl rfl (fun K hK=> ?_)
     go_simp
     have ha9:∀p:Addr,p.block<w8.drew.heap.size→(w8.drew.alloc (.cells #[] 3)).cell? p=w8.drew.cell? p:=fun p hp=>((Below.refl _ _).alloc (Nat.le_refl _) _).cell hp
     refine hK _ _ (fun _=>⟨(ha9 _ (by simp;omega)).trans hSS.1,(ha9 _ (by simp;omega)).trans hSS.2.1,(ha9 _ (by simp;omega)).trans hSS.2.2⟩) ?_
     clear hK K ha9
     have hr3l:r2.length<1000000000000:=by rw [e2.out];omega
     refine wpAnyL_one (i:=8) (by kernel_rfl) rfl rfl (fun K hK=> ?_)
     refine wp_app_ints (B:=w8.drew.heap.size) (l0:=[]) (l1:=r2) rfl Tryz.underlying49 info_int rfl rfl (Ow.zero (M:=fun k=>w8.drew.heap.size≤k) (w:=w8.drew) (Nat.le_refl _)) (hS3.drew.alloc _) (by simpa using hr3l) (by simp) ?_
     intro a9 c9 l9 w9 hl9 hO9 hb9
     have hb9':Below w8.heap.size w8.drew w9:=((Below.refl _ _).alloc (by simp) _).trans hb9
     have hMk9:=hMk8.drew.below hb9'
     have hs9:w2.heap.size<w9.heap.size:=hMk9.bolt
     have hs98:w8.heap.size≤w9.heap.size:=by have:=hb9'.size;simpa using this
     obtain ⟨-, -, -,hk93,hk9f⟩:=hMk9.cells
     have hSS9:w9.cell? ⟨w1.heap.size,3,none⟩=some (.slice (some ⟨bq,oq,none⟩) t.out.length tco)∧w9.cell? ⟨bq,oq+k,none⟩=some (.slice (some ⟨bp,op,none⟩) r2.length c3)∧w9.cell? ⟨w2.heap.size,3,none⟩=some (.slice aO rO.length cO):=
      ⟨(hb9'.cell (p:=⟨w1.heap.size,3,none⟩) (by simp;omega)).trans hSS.1,(hb9'.cell (p:=⟨bq,oq+k,none⟩) (by simp;omega)).trans hSS.2.1,hk93⟩
     refine hK _ _ (fun _=>hSS9) ?_
     clear hK K
     have hMk9a:=hMk9.alloc (.cells #[.slice a9 l9.length c9] 49)
     have hMq:∀q,M8 q→q<w8.heap.size:=fun q hq=>by
      by_cases h:q<w2.heap.size
      ·omega
      exact hMk8.lt q (by omega) hq
     have ha9:∀p:Addr,p.block<w9.heap.size→(w9.alloc (.cells #[.slice a9 l9.length c9] 49)).cell? p=w9.cell? p:=fun p hp=>((Below.refl _ _).alloc (Nat.le_refl _) _).cell hp
     have HA9:=Lib.hid ha9
     have HMQ:=Lib.hid hMq
     clear ha9 hMq
     have hSr9:Sl M8 (w9.alloc (.cells #[.slice a9 l9.length c9] 49)) a9 c9 l9:=((hO9.fresh (Nat.le_refl _)).anti (fun q _ hq=>HMQ.out q hq)).alloc _
     clear hO9
     refine wpAnyL_one (i:=9) (by kernel_rfl) rfl rfl (fun K hK=> ?_)
     go_simp
     refine hK _ _ (fun _=>⟨(HA9.out _ (by simp;omega)).trans hSS9.1,(HA9.out _ (by simp;omega)).trans hSS9.2.1,(HA9.out _ (by simp;omega)).trans hSS9.2.2⟩) ?_
     clear hK K
     refine wpAnyL_one (i:=10) (by kernel_rfl) rfl rfl (fun K hK=> ?_)
     refine wp_push_row (r:=l9) (ar:=a9) (cr:=c9) rfl Tryz.underlying22 info_ints rfl rfl hMk9a.o (fun k hk=>(hMk9a.mo k hk).1) (by simp [go_sem]) hSr9 hrO (by simp;omega) ?_
     intro a10 c10 rO10 w10 hrO10 hOw10 hbk10 hgr10
     have hbo10:∀b,b<w2.heap.size+1→w10.heap[b]? =(w9.alloc (.cells #[.slice a9 l9.length c9] 49)).heap[b]? :=fun b hb=>hgr10.block b (by simp;omega) (fun e=>by have h1:=hMk9a.mo b e.symm;have h2:=(hMk9a.o.lt b e.symm).1;omega)
     have hc10:∀b o,b<w2.heap.size+1→w10.cell? ⟨b,o,none⟩=w9.cell? ⟨b,o,none⟩:=fun b o hb=>(World.cell?_of_block (a:=⟨b,o,none⟩) (hbo10 b hb)).trans (HA9.out _ (by simp;omega))
     have HC10:=Lib.hid hc10
     have hf10:∀o,w10.frozen? ⟨w2.heap.size,o,none⟩=false:=fun o=>(World.frozen?_of_block (a:=⟨w2.heap.size,o,none⟩) (hbo10 _ (by simp))).trans (frozen_of_row _ _ _ _ _ hMk9a.blk)
     have hk10:=(HC10.out w2.heap.size 3 (by omega)).trans hSS9.2.2
     have hMk10:=hMk9a.pushO hOw10 (fun k hk=>(hbk10.out k hk).1) hgr10 (fun k hk=>(hbk10.out k hk).2)
     have hB10:Below w2.heap.size w2 (w10.setCell ⟨w2.heap.size,3,none⟩ (.slice a10 rO10.length c10)):=by
      refine Below.setCell ?_ (by simp) _
      exact (((hB8.drew).trans (hb9'.mono (by omega))).alloc (by omega) _).grown hgr10 (by simp;omega) (fun j hj=>(hMk9a.o.lt j hj).1)
     have hR2:Hid (rN7=(reps cls (k+1)).map (t.minRow cls)∧rO10=(reps cls (k+1)).map fun s=>t.out.getD s []):=by
      rw [reps_new (by rw [hgx.out,hrr.out];omega)]
      refine ⟨?_,?_⟩
      ·rw [hrN7.out,hR.out.1,List.map_append,hrowf.out];rfl
      rw [hrO10.out,hR.out.2,hl9.out,List.map_append,List.nil_append,List.map_cons,List.map_nil,getD_of_some hr2.out]
     clear hc10 hbo10
     refine hK _ _ (fun _=>⟨(HC10.out _ _ (by omega)).trans hSS9.1,(HC10.out _ _ (by omega)).trans hSS9.2.1,hk10⟩) ?_
     clear hK K
     have HMk10:=Lib.hid hMk10
     have HB10:=Lib.hid hB10
     clear hMk10 hB10 hOw10 hbk10 hgr10 hSS9 hSS
     refine wpAnyL_late (i:=11) (by kernel_rfl) (by kernel_rfl) rfl rfl (fun K hK=> ?_)
     go_simp
     refine hK _ _ ?_
     clear hK K
     refine wpAnyL_late (i:=12) (by kernel_rfl) (by kernel_rfl) rfl rfl (fun K hK=> ?_)
     go_simp
     refine hK _ _ ?_
     clear hK K
     refine wpAnyL_done (by kernel_rfl) ?_ _
     go_wp2
     go_roundw
     case rel=>exact ⟨k+1,_,a7,c7,rN7,a10,c10,rO10,by omega,by go_num,hR2,HMk10.out,HB10.out⟩
     case measure=>simp [intOf];omega
   have hblk4:Hid (w4.heap[w.heap.size+1]? =some (.cells #[.int .i64 0,.int .i64 0,.slice none 0 0,.slice none 0 0] 24)):=
    (hBo.block (w.heap.size+1) (by omega)).trans ((hBw2.block (w.heap.size+1) (by omega)).trans hblk1.out)
   obtain ⟨k0,k1,k2,k3⟩:=cells4 hblk4.out
   have kf:∀o,w4.frozen? ⟨w.heap.size+1,o,none⟩=false:=fun o=>frozen_of_row _ _ _ _ _ hblk4.out
   have hBw4:Below w.heap.size w w4:=hBw1.trans ((hBw2.mono (by omega)).trans (hBo.mono (by omega)))
   go_wp2
   obtain ⟨q0,q1,q2,q3⟩:=cells4 (set4 (y0:= .int .i64 t.inputs) (y1:= .int .i64 0) (y2:= .slice aN rN.length cN) (y3:= .slice aO rO.length cO) hblk4.out)
   have hM1:M (w.heap.size+1):=hMk.old _ (by omega)
   have hMf:Mk w2.heap.size M ((((w4.setCell ⟨w.heap.size+1,0,none⟩ (.int .i64 t.inputs)).setCell ⟨w.heap.size+1,1,none⟩ (.int .i64 0)).setCell ⟨w.heap.size+1,2,none⟩ (.slice aN rN.length cN)).setCell ⟨w.heap.size+1,3,none⟩ (.slice aO rO.length cO)) w2.heap.size t.inputs 0 aN cN rN aO cO rO:=
    hMk.ext ((((Ext.setCell _ (p:=⟨w.heap.size+1,0,none⟩) hM1 _).trans (Ext.setCell _ (p:=⟨w.heap.size+1,1,none⟩) hM1 _)).trans (Ext.setCell _ (p:=⟨w.heap.size+1,2,none⟩) hM1 _)).trans (Ext.setCell _ (p:=⟨w.heap.size+1,3,none⟩) hM1 _))
     (fun q hq _=>by rw [Below.heap_setCell _ _ _ _ (by simp;omega),Below.heap_setCell _ _ _ _ (by simp;omega),Below.heap_setCell _ _ _ _ (by simp;omega),Below.heap_setCell _ _ _ _ (by simp;omega)])
   have hBf:Below w.heap.size w ((((w4.setCell ⟨w.heap.size+1,0,none⟩ (.int .i64 t.inputs)).setCell ⟨w.heap.size+1,1,none⟩ (.int .i64 0)).setCell ⟨w.heap.size+1,2,none⟩ (.slice aN rN.length cN)).setCell ⟨w.heap.size+1,3,none⟩ (.slice aO rO.length cO)):=
    Below.setCell (Below.setCell (Below.setCell (Below.setCell hBw4 (by simp) _) (by simp) _) (by simp) _) (by simp) _
   generalize ((((w4.setCell ⟨w.heap.size+1,0,none⟩ (.int .i64 t.inputs)).setCell ⟨w.heap.size+1,1,none⟩ (.int .i64 0)).setCell ⟨w.heap.size+1,2,none⟩ (.slice aN rN.length cN)).setCell ⟨w.heap.size+1,3,none⟩ (.slice aO rO.length cO))=wf at*
   refine bodyPost_ret (v:= .tuple #[.agg #[.int .i64 t.inputs,.int .i64 0,.slice aN rN.length cN,.slice aO rO.length cO],.int .i64 0]) (by simp [results,Tryz.results27,go_sem,q0,q1,q2,q3]) rfl ⟨aN,cN,aO,cO,⟨t.inputs,0,rN,rO⟩,?_,?_,hMf.toMa (by have:=HOK.out.i0;have:=HOK.out.i1;unfold i64;omega) (by unfold i64;omega) (by omega),hBf⟩
   ·rw [HE.out]
   have hkc:k=cls.length:=by omega
   have htt:t=m.trim:=by rw [ht.out];unfold Mach.trimOf;rw [if_pos HE.out]
   unfold Hid Mach.minOf Mach.minBy
   rw [if_pos HE.out,hR.out.1,hR.out.2,hkc,←htt,←hcls.out]
 have he':(m.err !=0)=true:=by simp [he]
 have HE:=Lib.hid he
 clear he
 go_enter Tryz.func27,Tryz.ntmps27
 go_wp2_with fail
 refine (HT.out).mono ?_
 rintro e w1 ⟨tn,tcn,to,tco,t,rfl,ht,hmt,hb1⟩
 clear HT
 have hs1:w.heap.size+2≤w1.heap.size:=by have:=hb1.size;simpa using this
 have hB1:Below (w.heap.size+2) ((w.alloc (.cells #[.int .i64 m.inputs,.int .i64 m.start,.slice an m.next.length cn,.slice ao m.out.length co] 24)).alloc (.cells #[.int .i64 0,.int .i64 0,.slice none 0 0,.slice none 0 0] 24)) w1:=hb1.mono (by simp)
 have hblk0:Hid (w1.heap[w.heap.size+1]? =some (.cells #[.int .i64 0,.int .i64 0,.slice none 0 0,.slice none 0 0] 24)):=by
  have h1:=hB1.block (w.heap.size+1) (by omega)
  unfold Hid
  rw [h1]
  have:=heap_alloc_new (w.alloc (.cells #[.int .i64 m.inputs,.int .i64 m.start,.slice an m.next.length cn,.slice ao m.out.length co] 24)) (.cells #[.int .i64 0,.int .i64 0,.slice none 0 0,.slice none 0 0] 24)
  simpa using this
 have hblk:Hid ((w1.alloc (.cells #[.int .i64 t.inputs,.int .i64 t.start,.slice tn t.next.length tcn,.slice to t.out.length tco] 24)).heap[w.heap.size+1]? =some (.cells #[.int .i64 0,.int .i64 0,.slice none 0 0,.slice none 0 0] 24)):=
  (Below.heap_alloc _ _ _ (by omega)).trans hblk0.out
 have hBw1:Below w.heap.size w (w1.alloc (.cells #[.int .i64 t.inputs,.int .i64 t.start,.slice tn t.next.length tcn,.slice to t.out.length tco] 24)):=((((Below.refl _ _).alloc (Nat.le_refl _) _).alloc (by simp) _).trans (hB1.mono (by omega))).alloc (by omega) _
 obtain ⟨k0,k1,k2,k3⟩:=cells4 hblk.out
 have kf:∀o,(w1.alloc (.cells #[.int .i64 t.inputs,.int .i64 t.start,.slice tn t.next.length tcn,.slice to t.out.length tco] 24)).frozen? ⟨w.heap.size+1,o,none⟩=false:=fun o=>frozen_of_row _ _ _ _ _ hblk.out
 have kw:∀o,w1.frozen? ⟨w.heap.size+1,o,none⟩=false:=fun o=>frozen_of_row _ _ _ _ _ hblk0.out
 obtain ⟨j0,j1,j2,j3⟩:=cells4 hblk0.out
 clear hb1 hB1
 go_wp2
 obtain ⟨q0,q1,q2,q3⟩:=cells4 (set4 (y0:= .int .i64 0) (y1:= .int .i64 0) (y2:= .slice none 0 0) (y3:= .slice none 0 0) hblk.out)
 generalize (w1.alloc (.cells #[.int .i64 t.inputs,.int .i64 t.start,.slice tn t.next.length tcn,.slice to t.out.length tco] 24))=w1a at*
 have hBf:Below w.heap.size w ((((w1a.setCell ⟨w.heap.size+1,0,none⟩ (.int .i64 0)).setCell ⟨w.heap.size+1,1,none⟩ (.int .i64 0)).setCell ⟨w.heap.size+1,2,none⟩ (.slice none 0 0)).setCell ⟨w.heap.size+1,3,none⟩ (.slice none 0 0)):=
  Below.setCell (Below.setCell (Below.setCell (Below.setCell hBw1 (by simp) _) (by simp) _) (by simp) _) (by simp) _
 generalize ((((w1a.setCell ⟨w.heap.size+1,0,none⟩ (.int .i64 0)).setCell ⟨w.heap.size+1,1,none⟩ (.int .i64 0)).setCell ⟨w.heap.size+1,2,none⟩ (.slice none 0 0)).setCell ⟨w.heap.size+1,3,none⟩ (.slice none 0 0))=wf at*
 exact bodyPost_ret (v:= .tuple #[.agg #[.int .i64 0,.int .i64 0,.slice none 0 0,.slice none 0 0],.int .i64 m.err]) (by simp [results,Tryz.results27,go_sem,q0,q1,q2,q3]) rfl ⟨none,0,none,0,Mach.nothing,rfl,by unfold Hid Mach.minOf;rw [if_neg HE.out],nothing_ma _ _,hBf⟩
end
def Mach.minimal (m:Mach):Bool:=decide (m.err=0∧m.reach.length=m.next.length∧m.minOf.next.length=m.next.length)
theorem Mach.minimal_err {m:Mach} (h:¬m.err=0):m.minimal=false:=by simp [Mach.minimal,h]
theorem Mach.minimal_reach {m:Mach} (h:¬m.reach.length=m.next.length):m.minimal=false:=by simp [Mach.minimal,h]
theorem Mach.minimal_ok {m:Mach} (h:m.err=0) (h2:m.reach.length=m.next.length):m.minimal=decide (m.minOf.next.length=m.next.length):=by simp [Mach.minimal,h,h2]
section
variable {M:Nat→Prop} {w:World} {an ao:Option Addr} {cn co:Nat} {m:Mach}
theorem minimal_any (hm:Ma M w an cn ao co m):
    Calls Tryz.prog 172 #[maV m an cn ao co] w fun e w'=>∃b,e= .returned (.bool b)∧Hid (b=m.minimal)∧Below w.heap.size w w':=by
 have HV:=Lib.hid (valid_any ((hm.ext (Ext.alloc M w (.cells #[.int .i64 m.inputs,.int .i64 m.start,.slice an m.next.length cn,.slice ao m.out.length co] 24))).ext (Ext.drew _ _)))
 have HM:=Lib.hid hm
 have ht:i64 m.inputs:=hm.inputs
 clear hm
 by_cases he:m.err=0
 ·have he':(m.err !=0)=false:=by simp [he]
  have HE:=Lib.hid he
  clear he
  go_enter Tryz.func172,Tryz.ntmps172
  go_wp2
  refine wp_region_L (fun w'=>w'.cell? ⟨w.heap.size,0,none⟩=some (.int .i64 m.inputs)∧w'.cell? ⟨w.heap.size,1,none⟩=some (.int .i64 m.start)∧w'.cell? ⟨w.heap.size,2,none⟩=some (.slice an m.next.length cn)∧w'.cell? ⟨w.heap.size,3,none⟩=some (.slice ao m.out.length co)) [4,7,8,9] (by kernel_rfl) ?_
  refine wpAnyL_one (i:=0) (by kernel_rfl) rfl rfl (fun K hK=> ?_)
  go_simp
  refine hK _ _ (fun _=>by simp) ?_
  clear hK K
  refine wpAnyL_one (i:=1) (by kernel_rfl) rfl rfl (fun K hK=> ?_)
  go_simp
  refine (HV.out).mono ?_
  rintro e w1 ⟨rfl,hb1⟩
  have hs1:w.heap.size+1≤w1.heap.size:=by have:=hb1.size;simpa using this
  have hB1:Below (w.heap.size+1) ((w.alloc (.cells #[.int .i64 m.inputs,.int .i64 m.start,.slice an m.next.length cn,.slice ao m.out.length co] 24)).drew) w1:=hb1.mono (by simp)
  have hSS:w1.cell? ⟨w.heap.size,0,none⟩=some (.int .i64 m.inputs)∧w1.cell? ⟨w.heap.size,1,none⟩=some (.int .i64 m.start)∧w1.cell? ⟨w.heap.size,2,none⟩=some (.slice an m.next.length cn)∧w1.cell? ⟨w.heap.size,3,none⟩=some (.slice ao m.out.length co):=
   ⟨(hB1.cell (by simp)).trans (by simp),(hB1.cell (by simp)).trans (by simp),(hB1.cell (by simp)).trans (by simp),(hB1.cell (by simp)).trans (by simp)⟩
  clear hb1
  refine hK _ _ (fun _=>hSS) ?_
  clear hK K
  refine wpAnyL_one (i:=2) (by kernel_rfl) rfl rfl (fun K hK=> ?_)
  go_simp
  refine hK _ _ (fun _=>hSS) ?_
  clear hK K
  refine wpAnyL_one (i:=3) (by kernel_rfl) rfl rfl (fun K hK=> ?_)
  go_simp
  refine hK _ _ (fun _=>hSS) ?_
  clear hK K
  have HR:=Lib.hid (reach_any (((HM.out.ext (Ext.alloc M w (.cells #[.int .i64 m.inputs,.int .i64 m.start,.slice an m.next.length cn,.slice ao m.out.length co] 24))).ext (Ext.drew _ _)).below (by simpa using hB1)))
  refine skL_on [4,7,8,9] ?_
  repeat (refine skL_take (v:= ?_) rfl ?_ ?_;rotate_left;(focus (intro w' hSw;(try dsimp only at hSw);go_simp;try with_reducible rfl));try simp only [Act.put,List.setIfInBounds_toArray,List.set_cons_zero,List.set_cons_succ])
  refine skL_off ?_
  refine wpAnyL_one (i:=5) (by kernel_rfl) rfl rfl (fun K hK=> ?_)
  go_simp
  refine (HR.out).mono ?_
  rintro e w2 ⟨ar,cr,l,rfl,hl, -,hb2⟩
  have hs2:w.heap.size+1≤w2.heap.size:=by have:=hb2.size;omega
  have hB2:Below (w.heap.size+1) ((w.alloc (.cells #[.int .i64 m.inputs,.int .i64 m.start,.slice an m.next.length cn,.slice ao m.out.length co] 24)).drew) w2:=hB1.trans (hb2.mono hs1)
  have hlr:Hid (l=m.reach):=by have:=hl.out;unfold Mach.reachOf at this;rwa [if_pos HE.out] at this
  have hS2:w2.cell? ⟨w.heap.size,0,none⟩=some (.int .i64 m.inputs)∧w2.cell? ⟨w.heap.size,1,none⟩=some (.int .i64 m.start)∧w2.cell? ⟨w.heap.size,2,none⟩=some (.slice an m.next.length cn)∧w2.cell? ⟨w.heap.size,3,none⟩=some (.slice ao m.out.length co):=
   ⟨(hB2.cell (by simp)).trans (by simp),(hB2.cell (by simp)).trans (by simp),(hB2.cell (by simp)).trans (by simp),(hB2.cell (by simp)).trans (by simp)⟩
  refine hK _ _ (fun _=>hS2) ?_
  clear hK K HR HV
  have hll:l.length≤9223372036854775807:=by rw [hlr.out];have:=Mach.reach_le (m.ok_of_err HE.out);have:=(m.ok_of_err HE.out).n1;omega
  refine wpAnyL_one (i:=6) (by kernel_rfl) rfl rfl (fun K hK=> ?_)
  go_simp
  refine hK _ _ (fun _=>hS2) ?_
  clear hK K
  refine wpAnyL_one (i:=10) (by kernel_rfl) rfl rfl (fun K hK=> ?_)
  go_simp
  refine hK _ _ (fun _=>hS2) ?_
  clear hK K
  refine wpAnyL_one (i:=11) (by kernel_rfl) rfl rfl (fun K hK=> ?_)
  go_simp
  refine hK _ _ (fun _=>hS2) ?_
  clear hK K
  refine wpAnyL_done (by kernel_rfl) ?_ _
  have hbx:∀o,w2.cell? ⟨w.heap.size,o,none⟩=_:=fun o=>hB2.cell (by simp)
  by_cases hrl:l.length=m.next.length
  ·have HN:=Lib.hid (min_any (((HM.out.ext (Ext.alloc M w (.cells #[.int .i64 m.inputs,.int .i64 m.start,.slice an m.next.length cn,.slice ao m.out.length co] 24))).ext (Ext.drew _ _)).below (by simpa using hB2)))
   have hd:(((l.length:Nat):Int) !=((m.next.length:Nat):Int))=false:=by simp [hrl]
   have HL:=Lib.hid hrl
   clear hrl
   go_wp2_with fail
   refine (HN.out).mono ?_
   rintro e w3 ⟨tn,tcn,to,tco,t,rfl,ht,hmt,hb3⟩
   have hB3:Below (w.heap.size+1) ((w.alloc (.cells #[.int .i64 m.inputs,.int .i64 m.start,.slice an m.next.length cn,.slice ao m.out.length co] 24)).drew) (w3.alloc (.cells #[.int .i64 t.inputs,.int .i64 t.start,.slice tn t.next.length tcn,.slice to t.out.length tco] 24)):=
    (hB2.trans (hb3.mono hs2)).alloc (by have:=hb3.size;omega) _
   have hbx3:∀o,(w3.alloc (.cells #[.int .i64 t.inputs,.int .i64 t.start,.slice tn t.next.length tcn,.slice to t.out.length tco] 24)).cell? ⟨w.heap.size,o,none⟩=_:=fun o=>hB3.cell (by simp)
   have htl:=hmt.next.le
   have hBf:Below w.heap.size w (w3.alloc (.cells #[.int .i64 t.inputs,.int .i64 t.start,.slice tn t.next.length tcn,.slice to t.out.length tco] 24)):=
    ((((Below.refl _ _).alloc (Nat.le_refl _) _).drew)).trans (hB3.mono (by omega))
   clear hb3
   go_wp2
   go_ret
   refine ⟨_,rfl,?_,hBf⟩
   unfold Hid;rw [Mach.minimal_ok HE.out (by rw [←hlr.out];exact HL.out),←ht.out]
   by_cases h:t.next.length=m.next.length
   ·simp [h]
   simp [h];omega
  have hd:(((l.length:Nat):Int) !=((m.next.length:Nat):Int))=true:=by simp;omega
  have HL:=Lib.hid hrl
  clear hrl
  have hBf:Below w.heap.size w w2:=((((Below.refl _ _).alloc (Nat.le_refl _) _).drew)).trans (hB2.mono (by omega))
  go_wp2
  go_ret
  exact ⟨_,rfl,by unfold Hid;rw [Mach.minimal_reach (by rw [←hlr.out];exact HL.out)],hBf⟩
 have he':(m.err !=0)=true:=by simp [he]
 have HE:=Lib.hid he
 clear he
 go_enter Tryz.func172,Tryz.ntmps172
 go_wp2
 refine wp_region_L (fun w'=>w'.cell? ⟨w.heap.size,0,none⟩=some (.int .i64 m.inputs)∧w'.cell? ⟨w.heap.size,1,none⟩=some (.int .i64 m.start)∧w'.cell? ⟨w.heap.size,2,none⟩=some (.slice an m.next.length cn)∧w'.cell? ⟨w.heap.size,3,none⟩=some (.slice ao m.out.length co)) [4,7,8,9] (by kernel_rfl) ?_
 refine wpAnyL_one (i:=0) (by kernel_rfl) rfl rfl (fun K hK=> ?_)
 go_simp
 refine hK _ _ (fun _=>by simp) ?_
 clear hK K
 refine wpAnyL_one (i:=1) (by kernel_rfl) rfl rfl (fun K hK=> ?_)
 go_simp
 refine (HV.out).mono ?_
 rintro e w1 ⟨rfl,hb1⟩
 have hs1:w.heap.size+1≤w1.heap.size:=by have:=hb1.size;simpa using this
 have hB1:Below (w.heap.size+1) ((w.alloc (.cells #[.int .i64 m.inputs,.int .i64 m.start,.slice an m.next.length cn,.slice ao m.out.length co] 24)).drew) w1:=hb1.mono (by simp)
 have hSS:w1.cell? ⟨w.heap.size,0,none⟩=some (.int .i64 m.inputs)∧w1.cell? ⟨w.heap.size,1,none⟩=some (.int .i64 m.start)∧w1.cell? ⟨w.heap.size,2,none⟩=some (.slice an m.next.length cn)∧w1.cell? ⟨w.heap.size,3,none⟩=some (.slice ao m.out.length co):=
  ⟨(hB1.cell (by simp)).trans (by simp),(hB1.cell (by simp)).trans (by simp),(hB1.cell (by simp)).trans (by simp),(hB1.cell (by simp)).trans (by simp)⟩
 clear hb1
 refine hK _ _ (fun _=>hSS) ?_
 clear hK K
 refine wpAnyL_one (i:=2) (by kernel_rfl) rfl rfl (fun K hK=> ?_)
 go_simp
 refine hK _ _ (fun _=>hSS) ?_
 clear hK K
 refine wpAnyL_one (i:=3) (by kernel_rfl) rfl rfl (fun K hK=> ?_)
 go_simp
 refine hK _ _ (fun _=>hSS) ?_
 clear hK K
 refine wpAnyL_take (i:=4) (v:=undef) rfl (by kernel_rfl) (by kernel_rfl) (by kernel_rfl) (by kernel_rfl) (fun _ _ _ h=>h) (Or.inr ⟨by rfl,rfl⟩) (by assumption) ?_
 try simp only [Act.put,List.setIfInBounds_toArray,List.set_cons_zero,List.set_cons_succ]
 refine wpAnyL_take (i:=7) (v:=undef) rfl (by kernel_rfl) (by kernel_rfl) (by kernel_rfl) (by kernel_rfl) (fun _ _ _ h=>h) (Or.inr ⟨by rfl,rfl⟩) (by assumption) ?_
 try simp only [Act.put,List.setIfInBounds_toArray,List.set_cons_zero,List.set_cons_succ]
 refine wpAnyL_take (i:=8) (v:=undef) rfl (by kernel_rfl) (by kernel_rfl) (by kernel_rfl) (by kernel_rfl) (fun _ _ _ h=>h) (Or.inr ⟨by rfl,rfl⟩) (by assumption) ?_
 try simp only [Act.put,List.setIfInBounds_toArray,List.set_cons_zero,List.set_cons_succ]
 refine wpAnyL_take (i:=9) (v:=undef) rfl (by kernel_rfl) (by kernel_rfl) (by kernel_rfl) (by kernel_rfl) (fun _ _ _ h=>h) (Or.inr ⟨by rfl,rfl⟩) (by assumption) ?_
 try simp only [Act.put,List.setIfInBounds_toArray,List.set_cons_zero,List.set_cons_succ]
 refine wpAnyL_skip (i:=5) (by kernel_rfl) rfl rfl (by assumption) ?_
 try simp only [Act.put,List.setIfInBounds_toArray,List.set_cons_zero,List.set_cons_succ]
 refine wpAnyL_skip (i:=6) (by kernel_rfl) rfl rfl (by assumption) ?_
 try simp only [Act.put,List.setIfInBounds_toArray,List.set_cons_zero,List.set_cons_succ]
 refine wpAnyL_skip (i:=10) (by kernel_rfl) rfl rfl (by assumption) ?_
 try simp only [Act.put,List.setIfInBounds_toArray,List.set_cons_zero,List.set_cons_succ]
 refine wpAnyL_one (i:=11) (by kernel_rfl) rfl rfl (fun K hK=> ?_)
 go_simp
 refine hK _ _ (fun _=>hSS) ?_
 clear hK K
 refine wpAnyL_done (by kernel_rfl) ?_ _
 have hBf:Below w.heap.size w w1:=((((Below.refl _ _).alloc (Nat.le_refl _) _).drew)).trans (hB1.mono (by omega))
 go_wp2
 go_ret
 exact ⟨_,rfl,by unfold Hid;rw [Mach.minimal_err HE.out],hBf⟩
end
theorem heap_at {w:World} {o:Obj} {k:Nat} (h:w.heap.size=k):(w.alloc o).heap[k]? =some o:=by subst h;exact heap_alloc_new w o
section
variable {w:World}
end
theorem i64_s34 {x:Int} (h: -100≤x∧x≤100):i64 x:=by unfold i64;omega
theorem Sl.litr34 {M:Nat→Prop} {w:World} {rows:List (List Int)} {vs:Array Value} {b n:Nat} {T:TypeId} (h:w.heap[b]? =some (.cells vs T (0,0))) (hM:¬M b) (hn:n=rows.length) (hs:n≤maxLen)
    (hx:∀(j:Nat) (r:List Int),rows[j]? =some r→∃a c,vs[j]? =some (Value.slice a r.length c)∧Sl M w a c r):
    Sl M w (some ⟨b,0,none⟩) n rows:=by
 refine ⟨by omega,hs,fun j x hj=> ?_⟩
 obtain ⟨a,c,h1,h2⟩:=hx j x hj
 refine ⟨b,0,[.slice a x.length c],rfl,?_,hM,⟨a,c,rfl,h2⟩,fun i u hi=> ?_⟩
 ·exact (Array.getElem?_eq_some_iff.1 h).1
 obtain ⟨rfl, rfl⟩ : i = 0 ∧ u = .slice a x.length c := by
  rcases i with _|i
  ·simpa using hi.symm
  simp at hi
 rw [cell_of_row _ _ _ _ _ _ h]
 simpa [GR.sz] using h1
theorem Sl.litt34 {M:Nat→Prop} {w:World} {b:Nat} {T:TypeId} {a a':Option Addr} {c c':Nat} {t:Tr} (h:w.heap[b]? =some (.cells #[.slice a t.inn.length c,.slice a' t.out.length c'] T (0,0))) (hM:¬M b) (h1:Sl M w a c t.inn) (h2:Sl M w a' c' t.out):Sl M w (some ⟨b,0,none⟩) 1 [t]:=by
 refine ⟨by simp,by unfold maxLen;omega,fun j x hj=> ?_⟩
 match j,hj with
 |0,hj=>
  simp at hj;subst hj
  refine ⟨b,0,[.slice a t.inn.length c,.slice a' t.out.length c'],rfl,(Array.getElem?_eq_some_iff.1 h).1,hM,⟨a,c,a',c',rfl,h1,h2⟩,fun i u hi=> ?_⟩
  rw [cell_of_row _ _ _ _ _ _ h]
  match i,hi with
  |0,hi=>simpa [GR.sz] using hi
  |1,hi=>simpa [GR.sz] using hi
  |i+2,hi=>simp at hi
section
variable (w:World)
abbrev qG:World:=((((((w.alloc (.cells #[.int .i64 1,.int .i64 0] 3)).alloc (.cells #[.int .i64 1,.int .i64 0] 3)).alloc (.cells #[.slice (some ⟨w.heap.size,0,none⟩) 2 2,.slice (some ⟨w.heap.size+1,0,none⟩) 2 2] 49)).alloc (.cells #[.int .i64 1,.int .i64 0] 3)).alloc (.cells #[.int .i64 1,.int .i64 2] 3)).alloc (.cells #[.slice (some ⟨w.heap.size+1+1+1,0,none⟩) 2 2,.slice (some ⟨w.heap.size+1+1+1+1,0,none⟩) 2 2] 49))
theorem qG_sl:(Sl (fun k=>k<w.heap.size) (qG w) (some ⟨w.heap.size+1+1,0,none⟩) 2 ([[1,0],[1,0]]:List (List Int))∧Sl (fun k=>k<w.heap.size) (qG w) (some ⟨w.heap.size+1+1+1+1+1,0,none⟩) 2 ([[1,0],[1,2]]:List (List Int)))∧Below w.heap.size w (qG w):=by
 have h0:Sl (fun k=>k<w.heap.size) (qG w) (some ⟨w.heap.size,0,none⟩) 2 ([1,0]:List Int):=Sl.lit (T:=3) (vs:= #[.int .i64 1,.int .i64 0]) (by (repeat (first|(refine heap_at ?_;(simp;done))|refine heap_old ?_))) rfl (by omega) (fun y hy=>i64_s34 (by simp at hy;omega)) rfl (by unfold maxLen;omega)
 have h1:Sl (fun k=>k<w.heap.size) (qG w) (some ⟨w.heap.size+1,0,none⟩) 2 ([1,0]:List Int):=Sl.lit (T:=3) (vs:= #[.int .i64 1,.int .i64 0]) (by (repeat (first|(refine heap_at ?_;(simp;done))|refine heap_old ?_))) rfl (by omega) (fun y hy=>i64_s34 (by simp at hy;omega)) rfl (by unfold maxLen;omega)
 have h2:Sl (fun k=>k<w.heap.size) (qG w) (some ⟨w.heap.size+1+1,0,none⟩) 2 ([[1,0],[1,0]]:List (List Int)):=by
  refine Sl.litr34 (T:=49) (vs:= #[.slice (some ⟨w.heap.size,0,none⟩) 2 2,.slice (some ⟨w.heap.size+1,0,none⟩) 2 2]) (by (repeat (first|(refine heap_at ?_;(simp;done))|refine heap_old ?_))) (by omega) rfl (by unfold maxLen;omega) fun j r hj=> ?_
  match j,hj with
  | 0, hj => obtain rfl : ([1, 0] : List Int) = r := by simpa using hj
             exact ⟨_,_,rfl,h0⟩
  | 1, hj => obtain rfl : ([1, 0] : List Int) = r := by simpa using hj
             exact ⟨_,_,rfl,h1⟩
  |j+2,hj=>simp at hj
 have h3:Sl (fun k=>k<w.heap.size) (qG w) (some ⟨w.heap.size+1+1+1,0,none⟩) 2 ([1,0]:List Int):=Sl.lit (T:=3) (vs:= #[.int .i64 1,.int .i64 0]) (by (repeat (first|(refine heap_at ?_;(simp;done))|refine heap_old ?_))) rfl (by omega) (fun y hy=>i64_s34 (by simp at hy;omega)) rfl (by unfold maxLen;omega)
 have h4:Sl (fun k=>k<w.heap.size) (qG w) (some ⟨w.heap.size+1+1+1+1,0,none⟩) 2 ([1,2]:List Int):=Sl.lit (T:=3) (vs:= #[.int .i64 1,.int .i64 2]) (by (repeat (first|(refine heap_at ?_;(simp;done))|refine heap_old ?_))) rfl (by omega) (fun y hy=>i64_s34 (by simp at hy;omega)) rfl (by unfold maxLen;omega)
 have h5:Sl (fun k=>k<w.heap.size) (qG w) (some ⟨w.heap.size+1+1+1+1+1,0,none⟩) 2 ([[1,0],[1,2]]:List (List Int)):=by
  refine Sl.litr34 (T:=49) (vs:= #[.slice (some ⟨w.heap.size+1+1+1,0,none⟩) 2 2,.slice (some ⟨w.heap.size+1+1+1+1,0,none⟩) 2 2]) (by (repeat (first|(refine heap_at ?_;(simp;done))|refine heap_old ?_))) (by omega) rfl (by unfold maxLen;omega) fun j r hj=> ?_
  match j,hj with
  | 0, hj => obtain rfl : ([1, 0] : List Int) = r := by simpa using hj
             exact ⟨_,_,rfl,h3⟩
  | 1, hj => obtain rfl : ([1, 2] : List Int) = r := by simpa using hj
             exact ⟨_,_,rfl,h4⟩
  |j+2,hj=>simp at hj
 refine ⟨⟨h2,h5⟩,?_⟩
 repeat' (first|exact Below.refl _ _|refine Below.alloc ?_ (by simp;omega) _|refine Below.alloc ?_ (by simp) _)
abbrev qH:World:=((w.alloc (.cells #[.int .i64 0] 3)).alloc (.cells #[.slice none 0 0,.slice (some ⟨w.heap.size,0,none⟩) 1 1] 49))
theorem qH_sl:(Sl (fun k=>k<w.heap.size) (qH w) (some ⟨w.heap.size+1,0,none⟩) 2 ([[],[0]]:List (List Int)))∧Below w.heap.size w (qH w):=by
 have h0:Sl (fun k=>k<w.heap.size) (qH w) (some ⟨w.heap.size,0,none⟩) 1 ([0]:List Int):=Sl.lit (T:=3) (vs:= #[.int .i64 0]) (by (repeat (first|(refine heap_at ?_;(simp;done))|refine heap_old ?_))) rfl (by omega) (fun y hy=>i64_s34 (by simp at hy;omega)) rfl (by unfold maxLen;omega)
 have h1:Sl (fun k=>k<w.heap.size) (qH w) (some ⟨w.heap.size+1,0,none⟩) 2 ([[],[0]]:List (List Int)):=by
  refine Sl.litr34 (T:=49) (vs:= #[.slice none 0 0,.slice (some ⟨w.heap.size,0,none⟩) 1 1]) (by (repeat (first|(refine heap_at ?_;(simp;done))|refine heap_old ?_))) (by omega) rfl (by unfold maxLen;omega) fun j r hj=> ?_
  match j,hj with
  | 0, hj => obtain rfl : ([] : List Int) = r := by simpa using hj
             exact ⟨_,_,rfl,Sl.nil _ _ _ (by unfold maxLen;omega)⟩
  | 1, hj => obtain rfl : ([0] : List Int) = r := by simpa using hj
             exact ⟨_,_,rfl,h0⟩
  |j+2,hj=>simp at hj
 refine ⟨h1,?_⟩
 repeat' (first|exact Below.refl _ _|refine Below.alloc ?_ (by simp;omega) _|refine Below.alloc ?_ (by simp) _)
abbrev qO:World:=(((w.alloc (.cells #[.int .i64 1,.int .i64 1] 3)).alloc (.cells #[.int .i64 0,.int .i64 0] 3)).alloc (.cells #[.slice (some ⟨w.heap.size,0,none⟩) 2 2,.slice (some ⟨w.heap.size+1,0,none⟩) 2 2] 73))
theorem qO_sl:(Sl (fun k=>k<w.heap.size) (qO w) (some ⟨w.heap.size+1+1,0,none⟩) 1 ([⟨[1,1],[0,0]⟩]:List Tr))∧Below w.heap.size w (qO w):=by
 have h0:Sl (fun k=>k<w.heap.size) (qO w) (some ⟨w.heap.size,0,none⟩) 2 ([1,1]:List Int):=Sl.lit (T:=3) (vs:= #[.int .i64 1,.int .i64 1]) (by (repeat (first|(refine heap_at ?_;(simp;done))|refine heap_old ?_))) rfl (by omega) (fun y hy=>i64_s34 (by simp at hy;omega)) rfl (by unfold maxLen;omega)
 have h1:Sl (fun k=>k<w.heap.size) (qO w) (some ⟨w.heap.size+1,0,none⟩) 2 ([0,0]:List Int):=Sl.lit (T:=3) (vs:= #[.int .i64 0,.int .i64 0]) (by (repeat (first|(refine heap_at ?_;(simp;done))|refine heap_old ?_))) rfl (by omega) (fun y hy=>i64_s34 (by simp at hy;omega)) rfl (by unfold maxLen;omega)
 have h2:Sl (fun k=>k<w.heap.size) (qO w) (some ⟨w.heap.size+1+1,0,none⟩) 1 ([⟨[1,1],[0,0]⟩]:List Tr):=Sl.litt34 (T:=73) (t:=⟨[1,1],[0,0]⟩) (by (repeat (first|(refine heap_at ?_;(simp;done))|refine heap_old ?_))) (by omega) h0 h1
 refine ⟨h2,?_⟩
 repeat' (first|exact Below.refl _ _|refine Below.alloc ?_ (by simp;omega) _|refine Below.alloc ?_ (by simp) _)
abbrev qL:World:=((((w.alloc (.cells #[.int .i64 1,.int .i64 1] 3)).alloc (.cells #[.int .i64 0,.int .i64 0,.int .i64 1] 3)).alloc (.cells #[.int .i64 0,.int .i64 1,.int .i64 1] 3)).alloc (.cells #[.slice (some ⟨w.heap.size,0,none⟩) 2 2,.slice (some ⟨w.heap.size+1,0,none⟩) 3 3,.slice (some ⟨w.heap.size+1+1,0,none⟩) 3 3] 49))
theorem qL_sl:(Sl (fun k=>k<w.heap.size) (qL w) (some ⟨w.heap.size+1+1+1,0,none⟩) 3 ([[1,1],[0,0,1],[0,1,1]]:List (List Int)))∧Below w.heap.size w (qL w):=by
 have h0:Sl (fun k=>k<w.heap.size) (qL w) (some ⟨w.heap.size,0,none⟩) 2 ([1,1]:List Int):=Sl.lit (T:=3) (vs:= #[.int .i64 1,.int .i64 1]) (by (repeat (first|(refine heap_at ?_;(simp;done))|refine heap_old ?_))) rfl (by omega) (fun y hy=>i64_s34 (by simp at hy;omega)) rfl (by unfold maxLen;omega)
 have h1:Sl (fun k=>k<w.heap.size) (qL w) (some ⟨w.heap.size+1,0,none⟩) 3 ([0,0,1]:List Int):=Sl.lit (T:=3) (vs:= #[.int .i64 0,.int .i64 0,.int .i64 1]) (by (repeat (first|(refine heap_at ?_;(simp;done))|refine heap_old ?_))) rfl (by omega) (fun y hy=>i64_s34 (by simp at hy;omega)) rfl (by unfold maxLen;omega)
 have h2:Sl (fun k=>k<w.heap.size) (qL w) (some ⟨w.heap.size+1+1,0,none⟩) 3 ([0,1,1]:List Int):=Sl.lit (T:=3) (vs:= #[.int .i64 0,.int .i64 1,.int .i64 1]) (by (repeat (first|(refine heap_at ?_;(simp;done))|refine heap_old ?_))) rfl (by omega) (fun y hy=>i64_s34 (by simp at hy;omega)) rfl (by unfold maxLen;omega)
 have h3:Sl (fun k=>k<w.heap.size) (qL w) (some ⟨w.heap.size+1+1+1,0,none⟩) 3 ([[1,1],[0,0,1],[0,1,1]]:List (List Int)):=by
  refine Sl.litr34 (T:=49) (vs:= #[.slice (some ⟨w.heap.size,0,none⟩) 2 2,.slice (some ⟨w.heap.size+1,0,none⟩) 3 3,.slice (some ⟨w.heap.size+1+1,0,none⟩) 3 3]) (by (repeat (first|(refine heap_at ?_;(simp;done))|refine heap_old ?_))) (by omega) rfl (by unfold maxLen;omega) fun j r hj=> ?_
  match j,hj with
  | 0, hj => obtain rfl : ([1, 1] : List Int) = r := by simpa using hj
             exact ⟨_,_,rfl,h0⟩
  | 1, hj => obtain rfl : ([0, 0, 1] : List Int) = r := by simpa using hj
             exact ⟨_,_,rfl,h1⟩
  | 2, hj => obtain rfl : ([0, 1, 1] : List Int) = r := by simpa using hj
             exact ⟨_,_,rfl,h2⟩
  |j+3,hj=>simp at hj
 refine ⟨h3,?_⟩
 repeat' (first|exact Below.refl _ _|refine Below.alloc ?_ (by simp;omega) _|refine Below.alloc ?_ (by simp) _)
abbrev qN:World:=(((w.alloc (.cells #[.int .i64 0,.int .i64 0,.int .i64 1] 3)).alloc (.cells #[.int .i64 0,.int .i64 1,.int .i64 1] 3)).alloc (.cells #[.slice (some ⟨w.heap.size,0,none⟩) 3 3,.slice (some ⟨w.heap.size+1,0,none⟩) 3 3] 49))
theorem qN_sl:(Sl (fun k=>k<w.heap.size) (qN w) (some ⟨w.heap.size+1+1,0,none⟩) 2 ([[0,0,1],[0,1,1]]:List (List Int)))∧Below w.heap.size w (qN w):=by
 have h0:Sl (fun k=>k<w.heap.size) (qN w) (some ⟨w.heap.size,0,none⟩) 3 ([0,0,1]:List Int):=Sl.lit (T:=3) (vs:= #[.int .i64 0,.int .i64 0,.int .i64 1]) (by (repeat (first|(refine heap_at ?_;(simp;done))|refine heap_old ?_))) rfl (by omega) (fun y hy=>i64_s34 (by simp at hy;omega)) rfl (by unfold maxLen;omega)
 have h1:Sl (fun k=>k<w.heap.size) (qN w) (some ⟨w.heap.size+1,0,none⟩) 3 ([0,1,1]:List Int):=Sl.lit (T:=3) (vs:= #[.int .i64 0,.int .i64 1,.int .i64 1]) (by (repeat (first|(refine heap_at ?_;(simp;done))|refine heap_old ?_))) rfl (by omega) (fun y hy=>i64_s34 (by simp at hy;omega)) rfl (by unfold maxLen;omega)
 have h2:Sl (fun k=>k<w.heap.size) (qN w) (some ⟨w.heap.size+1+1,0,none⟩) 2 ([[0,0,1],[0,1,1]]:List (List Int)):=by
  refine Sl.litr34 (T:=49) (vs:= #[.slice (some ⟨w.heap.size,0,none⟩) 3 3,.slice (some ⟨w.heap.size+1,0,none⟩) 3 3]) (by (repeat (first|(refine heap_at ?_;(simp;done))|refine heap_old ?_))) (by omega) rfl (by unfold maxLen;omega) fun j r hj=> ?_
  match j,hj with
  | 0, hj => obtain rfl : ([0, 0, 1] : List Int) = r := by simpa using hj
             exact ⟨_,_,rfl,h0⟩
  | 1, hj => obtain rfl : ([0, 1, 1] : List Int) = r := by simpa using hj
             exact ⟨_,_,rfl,h1⟩
  |j+2,hj=>simp at hj
 refine ⟨h2,?_⟩
 repeat' (first|exact Below.refl _ _|refine Below.alloc ?_ (by simp;omega) _|refine Below.alloc ?_ (by simp) _)
end
end Go.Proofs.YtjagagpcjpcjjaaGreat
