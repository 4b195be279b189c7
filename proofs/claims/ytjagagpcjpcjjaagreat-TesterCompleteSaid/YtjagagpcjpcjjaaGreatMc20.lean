/- Several texts, one behind the other. Conditions: as each of them says. -/
import Derived.Test.YtjagagpcjpcjjaaGreatMc16
import Derived.Test.YtjagagpcjpcjjaaGreatMc7
import Derived.Test.YtjagagpcjpcjjaaGreatMc1
import Derived.Carry
set_option maxRecDepth 100000
set_option maxHeartbeats 32000000
namespace Go.Proofs.YtjagagpcjpcjjaaGreat
open Go.RowKit
theorem Sl.below' {α:Type} [GR α] {M:Nat→Prop} {w w':World} {a:Option Addr} {c:Nat} {l:List α} (h:Sl M w a c l) (hb:Below w.heap.size w w'):Sl M w' a c l:=h.below hb
theorem ret2_int' {x:Value} {a b:Int} (h:a=b):Ending.returned (.tuple #[x,.int .i64 a])= .returned (.tuple #[x,.int .i64 b]):=by rw [h]
theorem grownBy_trans {a b c:World} {r:Option Nat} (h:a.grownBy b r) (k:b.grownBy c r):a.grownBy c r:=
 ⟨k.os.trans h.os,k.tape.trans h.tape,k.output.trans h.output,Nat.le_trans h.size k.size,fun i hi hr=>(k.block i (Nat.lt_of_lt_of_le hi h.size) hr).trans (h.block i hi hr)⟩
theorem grownBy_refl (a:World) (r:Option Nat):a.grownBy a r:=⟨rfl,rfl,rfl,Nat.le_refl _,fun _ _ _=>rfl⟩
theorem grownBy_setCell {a b:World} {g:Nat} (h:a.grownBy b (some g)) (j:Nat) (u:Value):a.grownBy (b.setCell ⟨g,j,none⟩ u) (some g):=
 grownBy_trans h ⟨rfl,rfl,rfl,by simp [World.setCell],fun i _ hi=>Below.heap_setCell _ _ _ _ (fun e=>hi (by rw [e]))⟩
theorem sigKey:WideMaps.ArrKey Tryz.prog 290 3 128:=⟨Tryz.underlying290,by kernel_rfl,by kernel_rfl,by kernel_rfl⟩
theorem types_pos:∃m,Tryz.prog.types.size=m+1:=⟨Tryz.prog.types.size-1,by kernel_rfl⟩
theorem info_sig:(Tryz.prog.info? 290).map (fun i=>i.size)=some 128:=by kernel_rfl
theorem zero_int (w:World):(zeroValue 3).run Tryz.prog w= .ok (.int .i64 0) w:=by kernel_rfl
def sigE:KeyEnc Tryz.prog 290 (List Int):=arrEnc sigKey Tryz.underlying3 types_pos
theorem Sl.val {M:Nat→Prop} {w:World} {a:Option Addr} {c:Nat} {l:List Int} (h:Sl M w a c l) (t:Nat):i64 (l.getD t 0):=by
 by_cases ht:t<l.length
 ·obtain ⟨_,_,x,_,_,h1,h2⟩:=h.at_int ht
  rw [getD_of_some h1.out];exact h2.out
 rw [List.getD_eq_getElem?_getD,List.getElem?_eq_none (by omega)]
 unfold i64;simp
theorem psig_ok {m:Mach} (ok:m.Ok) {cls:List Int} (hv:∀t,i64 (cls.getD t 0)) {s:Nat} (hs:s<m.next.length) {k:Nat} (hk:k≤m.inputs.toNat):∀x∈m.psigTo cls s k,i64 x:=by
 intro x hx
 unfold Mach.psigTo at hx
 obtain ⟨i,_,rfl⟩:=List.mem_map.1 hx
 have z:i64 0:=by unfold i64;omega
 by_cases h1:i<64
 ·rw [if_pos h1]
  by_cases h2:i<k
  ·rw [if_pos h2]
   have:=ok.ot s i hs (by omega)
   unfold i64;omega
  rw [if_neg h2];exact z
 rw [if_neg h1]
 by_cases h2:i-64<k
 ·rw [if_pos h2];exact hv _
 rw [if_neg h2];exact z
theorem ret2_sl {a:Option Addr} {n n' c:Nat} {x y:Value} (h:n=n') (h2:x=y):Ending.returned (.tuple #[.slice a n c,x])= .returned (.tuple #[.slice a n' c,y]):=by rw [h,h2]
theorem set_fill {lst:List Int} {k n:Nat} {x:Int} (hl:lst.length=k) (hk:k<n):(lst++List.replicate (n-k) 0).set k x=(lst++[x])++List.replicate (n-(k+1)) 0:=by
 obtain ⟨d,hd⟩:∃d,n-k=d+1:=⟨n-k-1,by omega⟩
 have h2:n-(k+1)=d:=by omega
 rw [hd,h2,List.set_append_right _ _ (by omega),hl,Nat.sub_self,List.replicate_succ,List.set_cons_zero]
 simp
section
variable {M M':Nat→Prop} {w:World} {an ao ac:Option Addr} {cn co cc:Nat} {m:Mach} {cls:List Int}
theorem next_any (hm:Ma M w an cn ao co m) (hc:Sl M' w ac cc cls) (ok:m.Ok) (hl:cls.length=m.next.length):
    Calls Tryz.prog 211 #[maV m an cn ao co,.slice ac cls.length cc] w fun e w'=>
     ∃a c l q,e= .returned (.tuple #[.slice a l.length c,.int .i64 q])∧Hid (canon (m.sameP cls) cls.length=(l,q))∧Sl (fun k=>k<w.heap.size) w' a c l∧Below w.heap.size w w':=by
 have OK:=Lib.hid ok
 have HL:=Lib.hid hl
 have i0:=ok.i0
 have i1:=ok.i1
 have n1:=ok.n1
 have c1:cls.length≤128:=by omega
 clear ok hl
 have hmm:= @run_makeMap Tryz.prog
 go_enter Tryz.func211,Tryz.ntmps211
 go_wp2_with (at_make;refine wpList_mk_i (B:=w.heap.size+1) (n:=cls.length) rfl rfl Tryz.underlying49 info_int rfl (by omega) (by simp) ?_)
 intro g c l w1 hl hO hb1 hg
 have hBm:Below (w.heap.size+1) (w.alloc (.cells #[.int .i64 m.inputs,.int .i64 m.start,.slice an m.next.length cn,.slice ao m.out.length co] 24)) w1:=by
  refine Below.trans ?_ (hb1.mono (by simp))
  exact (Below.refl _ _).alloc (by simp) _
 have hK:KM sigE 3 w1 (w.heap.size+1) 0 0 (fun _=>none):=by simpa using (KM.made (E:=sigE) (e:=3) (w.alloc (.cells #[.int .i64 m.inputs,.int .i64 m.start,.slice an m.next.length cn,.slice ao m.out.length co] 24))).kept (hb1.block _ (by simp))
 have hgm:w.heap.size+1<g:=by first|omega|(simp at hg;omega)
 have hln:Hid (l.length=cls.length):=by unfold Hid;rw [hl.out,List.length_replicate]
 clear hb1 hg
 go_wp2
 go_loopw [19] (fun i wr => ∃ (k q : Nat) (lst ol : List Int) (f : List Int → Option Int), k ≤ cls.length ∧ i = .int .i64 k ∧ Hid (canon (m.sameP cls) k = (lst, (q : Int))) ∧ Hid (ol = lst ++ List.replicate (cls.length - k) 0) ∧ Hid (l.length = ol.length) ∧
     Hid (SigMap cls.length (m.psig cls) lst k f)∧KM sigE 3 wr (w.heap.size+1) k q f∧Ow (w.heap.size+1) (fun k=>w.heap.size+1≤k) wr 3 (.slice (some ⟨g,0,none⟩) l.length c) ol∧
     Below (w.heap.size+1) (w.alloc (.cells #[.int .i64 m.inputs,.int .i64 m.start,.slice an m.next.length cn,.slice ao m.out.length co] 24)) wr) (fun i _=>cls.length-(intOf i).toNat)
 case atStart=>exact ⟨0,0,[],l,_,by omega,rfl,rfl,by unfold Hid;rw [hl.out];simp,rfl,⟨fun t ht=>by omega,fun _ _ _=>rfl⟩,hK,hO,hBm⟩
 case round=>
  obtain ⟨k,q,lst,ol,f,hk,rfl,hE,hol,hll,hSM,hK,hO,hB⟩:=hrel
  obtain ⟨wo,rfl⟩:∃wo:World,wo=wr:=⟨_,rfl⟩
  have hbx:∀o,wo.cell? ⟨w.heap.size,o,none⟩=_:=fun o=>hB.cell (by simp)
  have hsz:w.heap.size+1≤wo.heap.size:=by have:=hB.size;simpa using this
  have hlst:Hid (lst.length=k):=by have:=canon_length (m.sameP cls) k;rw [hE.out] at this;exact this
  by_cases hlt:k<cls.length
  ·have hkn:k<m.next.length:=by have:=HL.out;omega
   have hmr:Ma M wo an cn ao co m:=hm.ext ((Ext.alloc M w _).trans (Ext.of_below (by simpa using hB)))
   have hcr:Sl M' wo ac cc cls:=hc.ext ((Ext.alloc M' w _).trans (Ext.of_below (by simpa using hB)))
   have HMR:=Lib.hid hmr
   have HCR:=Lib.hid hcr
   have hsz2:w.heap.size<wo.heap.size:=by omega
   have hklt:=hK.lt
   have hglt:=(hO.lt g rfl).2
   clear hmr hcr
   go_wp2
   go_loopw [24] (fun i w2=>∃a:Nat,a≤m.inputs.toNat∧i= .int .i64 a∧Hid (w2.heap[wo.heap.size]? =some (.cells ((m.psigTo cls k a).map (Value.int .i64)).toArray 290 (0,0)))∧
    Hid ((wo.alloc (.cells Tryz.zeroCells290 290)).grownBy w2 (some wo.heap.size))) (fun i _=>m.inputs.toNat-(intOf i).toNat)
   case atStart=>
    refine ⟨0,by omega,rfl,?_,grownBy_refl _ _⟩
    unfold Hid
    rw [heap_alloc_new,Mach.psigTo_zero]
    rfl
   case round=>
    obtain ⟨a,ha,rfl,hX,hG⟩:=hrel
    obtain ⟨w2,rfl⟩:∃w2:World,w2=wr:=⟨_,rfl⟩
    have hG2:∀b,b<wo.heap.size→w2.heap[b]? =wo.heap[b]? :=fun b hb=>(hG.out.block b (by simp;omega) (by simp;omega)).trans (Below.heap_alloc _ _ _ hb)
    have HG2:=Lib.hid hG2
    clear hG2
    have hs2:wo.heap.size<w2.heap.size:=by have:=hG.out.size;simp at this;omega
    have hbx2:∀o,w2.cell? ⟨w.heap.size,o,none⟩=wo.cell? ⟨w.heap.size,o,none⟩:=fun o=>World.cell?_of_block (w:=wo) (HG2.out _ hsz2)
    have hB2:Below wo.heap.size wo w2:=((Below.refl _ _).alloc (Nat.le_refl _) _).trans ((Below.refl _ _).grown hG.out (by simp) (by simp))
    by_cases hai:a<m.inputs.toNat
    ·have hai':(a:Int)<m.inputs:=by omega
     have hko:k<m.out.length:=by have:=OK.out.lo;omega
     obtain ⟨bn,on,as1,rs1,cs1,bo,oo,as2,rs2,cs2,rfl,rfl,hn1,ho1,hS1,hS2,hr1,hr2,hl1,hl2,hl3⟩:=(HMR.out).row OK.out hkn
     obtain ⟨b1,o1,x1,b2,o2,y1,rfl,rfl,he1,he2,hx1,y10,y11,hv1,hv2,la1,la2⟩:=Ma.entry OK.out hkn hS1 hS2 hr1 hr2 hl3 hai
     have hx1c:x1<cls.length:=by have:=HL.out;omega
     obtain ⟨bc,oc,z1,rfl,hz1,hz1',hz1i⟩:=(HCR.out).at_int hx1c
     have q1:bn<wo.heap.size:=(HMR.out).next.lt hkn
     have q2:bo<wo.heap.size:=(HMR.out).out.lt hko
     have q3:b1<wo.heap.size:=hS1.lt la1
     have q4:b2<wo.heap.size:=hS2.lt la2
     have q5:bc<wo.heap.size:=(HCR.out).lt hx1c
     replace hn1:=(World.cell?_of_block (w:=wo) (w':=w2) (a:=⟨bn,on+k,none⟩) (HG2.out _ q1)).trans hn1
     replace ho1:=(World.cell?_of_block (w:=wo) (w':=w2) (a:=⟨bo,oo+k,none⟩) (HG2.out _ q2)).trans ho1
     replace he1:=(World.cell?_of_block (w:=wo) (w':=w2) (a:=⟨b1,o1+a,none⟩) (HG2.out _ q3)).trans he1
     replace he2:=(World.cell?_of_block (w:=wo) (w':=w2) (a:=⟨b2,o2+a,none⟩) (HG2.out _ q4)).trans he2
     replace hz1:=(World.cell?_of_block (w:=wo) (w':=w2) (a:=⟨bc,oc+x1,none⟩) (HG2.out _ q5)).trans hz1
     have hst:∀(b o j:Nat) (u:Value),b≠wo.heap.size→(w2.setCell ⟨wo.heap.size,j,none⟩ u).cell? ⟨b,o,none⟩=w2.cell? ⟨b,o,none⟩:=fun b o j u hb=>World.cell?_of_block (w:=w2) (Below.heap_setCell _ _ _ _ hb)
     have hsf:∀(j o:Nat) (u:Value),(w2.setCell ⟨wo.heap.size,j,none⟩ u).frozen? ⟨wo.heap.size,o,none⟩=w2.frozen? ⟨wo.heap.size,o,none⟩:=fun j o u=>World.frozen?_setCell _ _ _ _
     have d1:¬bn=wo.heap.size:=by omega
     have d2:¬bo=wo.heap.size:=by omega
     have d3:¬b1=wo.heap.size:=by omega
     have d4:¬b2=wo.heap.size:=by omega
     have d5:¬bc=wo.heap.size:=by omega
     have d6:¬w.heap.size=wo.heap.size:=by omega
     have hx0:∀j,j<128→w2.cell? ⟨wo.heap.size,j,none⟩=some (((m.psigTo cls k a).map (Value.int .i64))[j]?.getD undef):=fun j hj=>by
      rw [cell_of_row _ _ _ _ _ _ hX.out]
      simp [Mach.psigTo_length,hj]
     have hxa:=hx0 a (by omega)
     have hxb:=hx0 (64+a) (by omega)
     have hxf:∀j,w2.frozen? ⟨wo.heap.size,j,none⟩=false:=fun j=>frozen_of_row _ _ _ _ _ hX.out
     clear hx0
     generalize ((m.psigTo cls k a).map (Value.int .i64))[a]?.getD undef=va at hxa
     generalize ((m.psigTo cls k a).map (Value.int .i64))[64+a]?.getD undef=vb at hxb
     have hxb2:∀u,(w2.setCell ⟨wo.heap.size,a,none⟩ u).cell? ⟨wo.heap.size,64+a,none⟩=some vb:=fun u=>by rw [World.cell?_setCell_other _ _ _ _ (by simp)];exact hxb
     go_wp2
     go_roundw
     case rel=>
      refine ⟨a+1,by omega,by go_num,?_,grownBy_setCell (grownBy_setCell hG.out _ _) _ _⟩
      unfold Hid
      rw [heap_setCell_same _ _ _ _ _ _ (heap_setCell_same _ _ _ _ _ _ hX.out),Mach.psigTo_succ m cls k (by omega),hv2.out,hv1.out,Int.toNat_natCast,getD_of_some hz1'.out]
      simp [List.map_set]
     case measure=>simp [intOf];omega
    have hai':¬(a:Int)<m.inputs:=by omega
    have hfull:Hid (w2.heap[wo.heap.size]? =some (.cells ((m.psig cls k).map (Value.int .i64)).toArray 290 (0,0))):=by
     have:a=m.inputs.toNat:=by omega
     unfold Mach.psig
     rw [←this]
     exact hX
    have hok:Hid (sigE.ok (m.psig cls k)):=⟨m.psigTo_length cls k _,psig_ok OK.out (fun t=>hc.val t) hkn (Nat.le_refl _)⟩
    have hK2:KM sigE 3 w2 (w.heap.size+1) k q f:=hK.kept (HG2.out _ hklt)
    have hO2:Ow (w.heap.size+1) (fun k=>w.heap.size+1≤k) w2 3 (.slice (some ⟨g,0,none⟩) l.length c) ol:=hO.below hB2
    have hB3:Below (w.heap.size+1) (w.alloc (.cells #[.int .i64 m.inputs,.int .i64 m.start,.slice an m.next.length cn,.slice ao m.out.length co] 24)) w2:=hB.trans (hB2.mono hsz)
    have hsm:Hid ((f (m.psig cls k)=none∧look (m.sameP cls) lst k k<0)∨∃v,f (m.psig cls k)=some v∧0≤v∧look (m.sameP cls) lst k k=v):=by
     have h1:=SigMap.look (g:=m.psig cls) (E:=m.sameP cls) (k:=k) (f:=f) (fun t s=>m.psig_eq_iff cls s t i1) (by rw [hE.out];exact hSM.out) hlt
     rw [hE.out] at h1
     exact h1
    clear HMR HCR
    have hsz128:Hid ((Tryz.prog.info? 290).map (·.size)=some (((m.psig cls k).map (Value.int .i64)).toArray).size):=by
     unfold Hid
     rw [info_sig]
     simp [Mach.psig,Mach.psigTo_length]
    have hkol:Hid (k<ol.length):=by unfold Hid;rw [hol.out,List.length_append,List.length_replicate,hlst.out];omega
    have hgw:g<w2.heap.size:=by omega
    rcases hsm.out with ⟨hn,hlk⟩|⟨v,hv,hv0,hlk⟩
    ·have hs:(f (m.psig cls k)).isSome=false:=by simp [hn]
     have HN:=Lib.hid hn
     have HLK:=Lib.hid hlk
     have hqle:=hK.size_le
     have hqi:Hid (i64 q):=by unfold Hid i64;omega
     clear hn hlk
     go_wp2_with (first
      |(refine wpList_load_row rfl 290 _ rfl wo.heap.size rfl 290 _ (0,0) _ hfull.out Tryz.underlying290 rfl hsz128.out ?_)
      |(at_lookup;refine wpList_look_ok rfl rfl Tryz.underlying288 Tryz.underlying3 (zero_int _) rfl hK2 (m.psig cls k) hok.out rfl ?_;intro cv hcv)
      |(at_len;refine wpList_len_km rfl rfl Tryz.underlying288 rfl hK2 ?_)
      |(at_mapUpdate;refine wpList_put_km rfl rfl Tryz.underlying288 Tryz.underlying3 rfl hK2 (by omega) (m.psig cls k) hok.out rfl q rfl hqi.out ?_))
     intro w4 f' hf' hK4 hgr
     replace hK4:KM sigE 3 w4 (w.heap.size+1) (k+1) (q+1) f':=by simpa [hs] using hK4
     have hO4:Ow (w.heap.size+1) (fun k=>w.heap.size+1≤k) w4 3 (.slice (some ⟨g,0,none⟩) l.length c) ol:=
      hO2.ext (Ext.grownBy hgr (fun k hk=>by simp at hk;omega)) (fun j hj=>hgr.block j (hO2.lt j hj).2 (by simp [Value.ownBlock] at hj;simp;omega))
     have hB4:=hB3.grown hgr (by omega) (fun j hj=>by simp at hj;omega)
     obtain ⟨g',xv,hg',hxc,hxf, -, -⟩:=hO4.at_int' hll.out hkol.out
     obtain rfl:g=g':=by simpa using hg'
     have hO5:=hO4.set_int hll.out (show w.heap.size+1≤g by omega) k (x:=q) hqi.out
     have hK5:KM sigE 3 (w4.setCell ⟨g,k,none⟩ (.int .i64 q)) (w.heap.size+1) (k+1) (q+1) f':=hK4.kept (Below.heap_setCell _ _ _ _ (by simp;omega))
     have hB5:=hB4.setCell (p:=⟨g,k,none⟩) (show w.heap.size+1≤g by omega) (.int .i64 q)
     have hkl:k<l.length:=by have:=hkol.out;have:=hll.out;omega
     have hcn:Hid (canon (m.sameP cls) (k+1)=(lst++[(q:Int)],((q+1:Nat):Int))):=by
      have h1:(canon (m.sameP cls) k).1=lst:=by rw [hE.out]
      have h2:(canon (m.sameP cls) k).2=q:=by rw [hE.out]
      unfold Hid
      rw [canon_new _ (by rw [h1];exact HLK.out),h1,h2]
      simp
     have hSM2:Hid (SigMap cls.length (m.psig cls) (lst++[(q:Int)]) (k+1) f'):=SigMap.new hSM.out hlst.out hlt HN.out hf'.out.1 (fun s hN hs'=>hf'.out.2 _ ⟨m.psigTo_length cls s _,psig_ok OK.out (fun t=>hc.val t) (by have:=HL.out;omega) (Nat.le_refl _)⟩ hs')
     clear hgr hf' hcv hO4 hK4 hO2 hK2 hB4 hO hK
     go_wp2
     go_roundw
     case rel=>exact ⟨k+1,q+1,lst++[(q:Int)],ol.set k q,f',by omega,by go_num,hcn,by unfold Hid;rw [hol.out,set_fill hlst.out hlt],by unfold Hid;rw [List.length_set];exact hll.out,hSM2,hK5,hO5,hB5⟩
     case measure=>simp [intOf];omega
    have hs:(f (m.psig cls k)).isSome=true:=by simp [hv]
    have HN:=Lib.hid hv
    have HLK:=Lib.hid hlk
    have hcn:Hid (canon (m.sameP cls) (k+1)=(lst++[v],(q:Int))):=by
     have h1:(canon (m.sameP cls) k).1=lst:=by rw [hE.out]
     have h2:(canon (m.sameP cls) k).2=q:=by rw [hE.out]
     unfold Hid
     rw [canon_old _ (by rw [h1,HLK.out];omega),h1,h2,HLK.out]
    have hvi:Hid (i64 v):=by
     have h1:=(canon_range (m.sameP cls) (k+1)).2.2 k (by omega)
     have h2:=(canon_range (m.sameP cls) (k+1)).2.1
     rw [hcn.out] at h1 h2
     simp only at h1 h2
     rw [getD_snoc_self hlst.out.symm] at h1
     unfold Hid i64
     omega
    have hSM2:Hid (SigMap cls.length (m.psig cls) (lst++[v]) (k+1) f):=SigMap.old hSM.out hlst.out HN.out
    clear hv hlk
    obtain ⟨g',xv,hg',hxc,hxf, -, -⟩:=hO2.at_int' hll.out hkol.out
    obtain rfl:g=g':=by simpa using hg'
    have hO5:=hO2.set_int hll.out (show w.heap.size+1≤g by omega) k (x:=v) hvi.out
    have hK5:KM sigE 3 (w2.setCell ⟨g,k,none⟩ (.int .i64 v)) (w.heap.size+1) (k+1) q f:=by
     obtain ⟨D,h1,h2⟩:=hK2.kept (Below.heap_setCell w2 ⟨g,k,none⟩ (.int .i64 v) (w.heap.size+1) (by simp;omega))
     exact ⟨D,h1.mono (by omega),h2⟩
    have hB5:=hB3.setCell (p:=⟨g,k,none⟩) (show w.heap.size+1≤g by omega) (.int .i64 v)
    have hkl:k<l.length:=by have:=hkol.out;have:=hll.out;omega
    go_wp2_with (first
     |(refine wpList_load_row rfl 290 _ rfl wo.heap.size rfl 290 _ (0,0) _ hfull.out Tryz.underlying290 rfl hsz128.out ?_)
     |(at_lookup;refine wpList_look_ok rfl rfl Tryz.underlying288 Tryz.underlying3 (zero_int _) rfl hK2 (m.psig cls k) hok.out rfl ?_;intro cv hcv;obtain rfl:cv=v:=hcv.out v HN.out))
    go_roundw
    case rel=>exact ⟨k+1,q,lst++[cv],ol.set k cv,f,by omega,by go_num,hcn,by unfold Hid;rw [hol.out,set_fill hlst.out hlt],by unfold Hid;rw [List.length_set];exact hll.out,hSM2,hK5,hO5,hB5⟩
    case measure=>simp [intOf];omega
  have hke:Hid (k=cls.length):=by unfold Hid;omega
  have hoe:Hid (ol=lst):=by unfold Hid;rw [hol.out,hke.out,Nat.sub_self];simp
  go_wp2_with (at_len;refine wpList_len_km rfl rfl Tryz.underlying288 rfl hK ?_)
  go_ret2
  refine ⟨some ⟨g,0,none⟩,c,ol,q,ret2_sl hll.out rfl,by unfold Hid;rw [←hke.out,hoe.out];exact hE.out,?_,((Below.refl _ _).alloc (Nat.le_refl _) _).trans (hB.mono (by omega))⟩
  have:=hll.out
  rw [this] at hO
  exact hO.fresh (by omega)
end
end Go.Proofs.YtjagagpcjpcjjaaGreat
