/- Several texts, one behind the other. Conditions: as each of them says. -/
import Derived.Test.YtjagagpcjpcjjaaGreatMc49
import Derived.Test.YtjagagpcjpcjjaaGreatMc48
import Derived.Test.YtjagagpcjpcjjaaGreatMc47
import Derived.Test.YtjagagpcjpcjjaaGreatMc46
import Derived.Test.YtjagagpcjpcjjaaGreatMc36
import Derived.Test.YtjagagpcjpcjjaaGreatMc32
import Derived.Test.YtjagagpcjpcjjaaGreatMc3
set_option maxRecDepth 100000
set_option maxHeartbeats 32000000
namespace Go.Proofs.YtjagagpcjpcjjaaGreat
theorem maxW_beh (X:List (List Int)):(maxW X).Pairwise BehW:=by
 have h:Asc cmpW (maxW X):=by unfold maxW;exact srt_asc tot_cmp _
 refine List.Pairwise.imp_of_mem ?_ h
 intro a b ha hb hlt
 refine ⟨hlt,?_⟩
 have h1:=topW_iff.1 (maxW_iff.1 ha).2 b (maxW_iff.1 hb).1 (fun e=>by rw [e,tot_cmp.same] at hlt;omega)
 cases hp:hasP b a with
 |false=>rfl
 |true=>exact absurd (hasP_pre.1 hp) h1
theorem tw_beh {n:Mach} {s:Stg} (h4:s.kind≠4):(n.twW s).1.Pairwise BehW:=by
 have hn:([]:List (List Int)).Pairwise BehW:=List.Pairwise.nil
 unfold Mach.twW
 split
 ·exact hn
 split
 ·exact hn
 rename_i hs
 split
 ·unfold Mach.wsW
  repeat' split
  all_goals first|exact hn|exact maxW_beh _
 split
 ·unfold Mach.hsW
  repeat' split
  all_goals first|exact hn|exact maxW_beh _
 split
 ·unfold Mach.suW
  repeat' split
  all_goals first|exact hn|exact maxW_beh _
 rename_i h1 h2 h3
 have:=Stg.err_0 (s:=s) (by simpa using hs)
 omega
section
variable {n i:Mach} {s:Stg} {l L:List (List Int)} {o:Ob} {h:Hy} {x:List Int} {dn:Bool} {er:Int}
theorem refT_none {m:Mach} {t:Tr} (hl:t.out.length=t.inn.length):m.refT t=none↔m.outsW m.start t.inn=t.out:=by
 rw [Mach.refT_dif]
 have hlen:=Mach.outsW_len (m:=m) t.inn m.start
 constructor
 ·intro h
  cases hd:difN (m.outsW m.start t.inn) t.out with
  |some k=>rw [hd] at h;simp at h
  |none=>
   unfold difN at hd
   split at hd
   ·simp at hd
   have he:=comT_take (n:=t.inn.length) (a:=m.outsW m.start t.inn) (b:=t.out) (by omega)
   rw [List.take_of_length_le (by omega),List.take_of_length_le (by omega)] at he
   exact he
 intro h
 unfold difN
 rw [h,if_neg,Option.map_none]
 have:comW t.out t.out=t.out.length:=comW_prefix.2 (List.prefix_refl _)
 omega
theorem tn_done (hm:h.m=n) (on:n.Ok) (hin:n.inputs=i.inputs) (ho:OfE i l o 0) (hx:tnW h o l=(L,x,dn,er)):
    er=0∧(dn=true↔∀w∈l,n.outsW n.start w=i.outsW i.start w):=by
 obtain ⟨-,h2,h3,h4,h5,h6,h7⟩:=ho rfl
 subst hm
 have e3:(rfW h o).2.2=0:=by unfold rfW;rw [if_neg (by rw [h2,hin];simp)]
 have e2:(rfW h o).2.1=(h.m.refW o.traces).isSome:=by unfold rfW;rw [if_neg (by rw [h2,hin];simp)]
 have htr:∀t∈o.traces,∃w∈l,t=i.trW w:=fun t ht=>by
  obtain ⟨w,hw,e⟩:=List.mem_map.1 (h5 t ht)
  exact ⟨w,hw,e.symm⟩
 have href:(h.m.refW o.traces).isSome=false↔∀t∈o.traces,h.m.outsW h.m.start t.inn=t.out:=by
  have hl:∀t∈o.traces,t.out.length=t.inn.length:=fun t ht=>by
   obtain ⟨w, -,rfl⟩:=htr t ht
   show (i.outsW i.start w).length=w.length
   rw [Mach.outsW_len]
  constructor
  ·intro hs t ht
   have hnone:h.m.refW o.traces=none:=by
    cases hr:h.m.refW o.traces with
    |none=>rfl
    |some y=>rw [hr] at hs;simp at hs
   exact (refT_none (hl t ht)).1 ((List.filterMap_eq_nil_iff.1 (lstW_none hnone)) t ht)
  intro ha
  have hnil:h.m.refL o.traces=[]:=List.filterMap_eq_nil_iff.2 fun t ht=>(refT_none (hl t ht)).2 (ha t ht)
  unfold Mach.refW
  rw [hnil,lstW_nil];rfl
 have hcov:∀w∈l,w=[]∨∃v∈l,(i.trW v)∈o.traces∧w<+:v:=fun w hw=>by
  rcases h6 (i.trW w) (List.mem_map_of_mem hw) with h0|⟨u,hu,hp⟩
  ·exact .inl h0
  obtain ⟨v,hv,rfl⟩:=htr u hu
  exact .inr ⟨v,hv,hu,hasP_pre.1 hp⟩
 have hkn:∀w∈l,o.known w=true:=fun w hw=>by
  by_cases h0:w=[]
  ·exact (o.ans_nil h0).2
  rcases find_cases o w with hn|⟨k,t,ht,hp,hn⟩
  ·rcases hcov w hw with e|⟨v, -,hv,hp⟩
   ·exact absurd e h0
   have:=hn _ hv
   rw [show hasP (i.trW v).inn w=true from hasP_pre.2 hp] at this
   cases this
  exact (Ob.ans_some h0 ht hp hn).2
 have hall:(h.m.refW o.traces).isSome=false↔∀w∈l,h.m.outsW h.m.start w=i.outsW i.start w:=by
  rw [href]
  constructor
  ·intro ha w hw
   rcases hcov w hw with rfl|⟨v, -,hv,z,rfl⟩
   ·rfl
   have:=ha _ hv
   have e:∀(a:Mach) (s:Int),a.outsW s w=(a.outsW s (w++z)).take w.length:=fun a s=>by
    rw [←outs_tk];simp
   rw [e,e i]
   exact congrArg (List.take w.length) this
  intro ha t ht
  obtain ⟨w,hw,rfl⟩:=htr t ht
  exact ha w hw
 unfold tnW at hx
 rw [if_neg (by simp [e3]),e2] at hx
 have hop:(l.filter fun v=> !o.known v)=[]:=List.filter_eq_nil_iff.2 fun v hv=>by simp [hkn v hv]
 by_cases hs:(h.m.refW o.traces).isSome=true
 ·rw [if_pos hs] at hx
  simp only [Prod.mk.injEq] at hx
  obtain ⟨-, -,rfl,rfl⟩:=hx
  refine ⟨rfl,⟨fun e=>absurd e (by decide),fun ha=> ?_⟩⟩
  rw [hall.2 ha] at hs;cases hs
 rw [if_neg hs,hop] at hx
 simp only [Prod.mk.injEq] at hx
 obtain ⟨-, -,rfl,rfl⟩:=hx
 exact ⟨rfl,⟨fun _=>hall.1 (by simpa using hs),fun _=>by simp [maxW,srt]⟩⟩
theorem of_good (ho:OfE i l o 0):o.good∧Small9 l:=by
 obtain ⟨-,h2,h3,h4,h5,h6,h7⟩:=ho rfl
 refine ⟨⟨by rw [List.length_map] at h7;omega,fun t ht=> ?_⟩,by omega,fun r hr=> ?_⟩
 ·obtain ⟨w,hw,rfl⟩:=List.mem_map.1 (h5 t ht)
  refine ⟨by rw [h2];exact h4 w hw,?_⟩
  show (i.outsW i.start w).length=w.length
  rw [Mach.outsW_len]
 have:=(Mach.okS_of (m:=i) (h4 r hr)).2
 omega
theorem tw_ext (hw:n.twW s=(l,0)) (h4:s.kind≠4):0≤s.extra:=by
 have hne:n.err=0:=Classical.byContradiction fun e=>by
  unfold Mach.twW at hw
  rw [if_pos e] at hw
  simp only [Prod.mk.injEq] at hw
  exact e hw.2
 have hse:s.err=0:=Classical.byContradiction fun e=>by
  unfold Mach.twW at hw
  rw [if_neg (by simp [hne]),if_pos e] at hw
  simp only [Prod.mk.injEq] at hw
  exact e hw.2
 have h1:=(Stg.err_0 hse).1
 unfold Stg.err at hse
 rw [if_neg (by omega),if_neg h4] at hse
 split at hse
 ·simp at hse
 omega
theorem cmp_all {m:Mach} (hn:n=m.minOf) (hme:m.err=0) (n7:m.next.length≤7) (hin:m.inputs=i.inputs) (h4:s.kind≠4) (hw:n.twW s=(l,0)) (ho:OfE i l o 0) (hle:(i.next.length:Int)≤(n.next.length:Int)+s.extra)
    (hm:h.m=n) (hx:tnW h o l=(L,x,dn,er)):er=0∧chk n i=0∧dn=decide (chk n i=0∧distW n i=none):=by
 have om:=m.ok_of_err hme
 have hmf:n=m.minF:=by rw [hn];exact Mach.minOf_eq hme
 have on:n.Ok:=by rw [hmf];exact Mach.minF_ok om
 have hni:n.inputs=i.inputs:=by rw [hmf];exact hin
 obtain ⟨hie, -, -,hwe, -⟩:=ho rfl
 have oi:=i.ok_of_err hie
 have hne:n.err=0:=Mach.err_of_ok _ on
 obtain ⟨h1,h2⟩:=tn_done (i:=i) hm on hni ho hx
 have hc:chk n i=0:=chk_0 hne hie hni
 refine ⟨h1,hc,?_⟩
 have hfi:distW n i=none↔Mach.Sim n i n.start i.start:=by
  unfold distW
  rw [if_pos hc]
  exact first_iff on oi hni ⟨on.s0,on.s1⟩ ⟨oi.s0,oi.s1⟩
 have hnn:n.minF=n:=by rw [hmf];exact Mach.minF_minF om
 have hr:(i.reach.length:Int)≤(n.minF.next.length:Int)+s.extra:=by
  have:=Mach.reach_le oi
  rw [hnn];omega
 have n8:n.next.length≤8:=by
  have:=(Mach.minF_min om).2.2.2
  rw [hmf];omega
 have hall:dn=true↔Mach.Sim n i n.start i.start:=by
  rw [h2]
  constructor
  ·intro ha
   have hse:s.err=0:=by
    refine Classical.byContradiction fun e=> ?_
    unfold Mach.twW at hw
    rw [if_neg (by simp [hne]),if_pos e] at hw
    simp only [Prod.mk.injEq] at hw
    exact e hw.2
   unfold Mach.twW at hw
   rw [if_neg (by simp [hne]),if_neg (by simp [hse])] at hw
   by_cases k1:s.kind=1
   ·rw [if_pos k1] at hw
    exact Mach.wsW_complete on oi hni (extra:=s.extra) (by rw [hw]) (by rw [hw];exact ha) hr
   rw [if_neg k1] at hw
   by_cases k2:s.kind=2
   ·rw [if_pos k2] at hw
    exact Mach.hsW_complete on oi hni (extra:=s.extra) (by rw [hw]) (by rw [hw];exact ha) hr
   rw [if_neg k2] at hw
   have k3:s.kind=3:=by have:=(Stg.err_0 hse).1;omega
   rw [if_pos k3] at hw
   have he:0≤s.extra∧s.extra≤3:=by
    have h0:(n.suW s.extra).2=0:=by rw [hw]
    unfold Mach.suW at h0
    rw [if_neg (by simp [hne])] at h0
    split at h0
    ·simp at h0
    omega
   exact Mach.suW_complete on oi hni n8 he.1 he.2 (by rw [hw]) (by rw [hw];exact ha) hr
  intro hs w hw
  exact hs w (Mach.okS_swap hni (Mach.okS_of (hwe w hw)).1)
 by_cases hd:distW n i=none
 ·rw [decide_eq_true ⟨hc,hd⟩];exact hall.2 (hfi.1 hd)
 rw [decide_eq_false fun e=>hd e.2]
 cases dn with
 |false=>rfl
 |true=>exact absurd (hfi.2 (hall.1 rfl)) hd
end
end Go.Proofs.YtjagagpcjpcjjaaGreat
namespace Go.Proofs.YtjagagpcjpcjjaaGreat
open Go.RowKit
abbrev st5 (w:World) (g:Nat) (y0 y1 y2 y3 y4:Value):World:=((((w.setCell ⟨g,0,none⟩ y0).setCell ⟨g,1,none⟩ y1).setCell ⟨g,2,none⟩ y2).setCell ⟨g,3,none⟩ y3).setCell ⟨g,4,none⟩ y4
section
variable {B g:Nat} {a w:World} {y0 y1 y2 y3 y4 x0 x1 x2 x3 x4:Value} {T:TypeId}
theorem bel_st5 (h:Below B a w) (hg:B≤g):Below B a (st5 w g y0 y1 y2 y3 y4):=((((h.setCell (p:=⟨g,0,none⟩) hg y0).setCell (p:=⟨g,1,none⟩) hg y1).setCell (p:=⟨g,2,none⟩) hg y2).setCell (p:=⟨g,3,none⟩) hg y3).setCell (p:=⟨g,4,none⟩) hg y4
theorem ext_st5 {M:Nat→Prop} (hg:M g):Ext M M w (st5 w g y0 y1 y2 y3 y4):=((((Ext.setCell w (p:=⟨g,0,none⟩) hg y0).trans (Ext.setCell _ (p:=⟨g,1,none⟩) hg y1)).trans (Ext.setCell _ (p:=⟨g,2,none⟩) hg y2)).trans (Ext.setCell _ (p:=⟨g,3,none⟩) hg y3)).trans (Ext.setCell _ (p:=⟨g,4,none⟩) hg y4)
theorem set5 (h:w.heap[g]? =some (.cells #[x0,x1,x2,x3,x4] T (0,0))):(st5 w g y0 y1 y2 y3 y4).heap[g]? =some (.cells #[y0,y1,y2,y3,y4] T (0,0)):=by
 have h0:=heap_setCell_same _ _ 0 _ _ y0 h
 have h1:=heap_setCell_same _ _ 1 _ _ y1 h0
 have h2:=heap_setCell_same _ _ 2 _ _ y2 h1
 have h3:=heap_setCell_same _ _ 3 _ _ y3 h2
 have h4:=heap_setCell_same _ _ 4 _ _ y4 h3
 exact h4
theorem cells5 (h:w.heap[g]? =some (.cells #[y0,y1,y2,y3,y4] T (0,0))):(w.cell? ⟨g,0,none⟩=some y0∧w.cell? ⟨g,1,none⟩=some y1∧w.cell? ⟨g,2,none⟩=some y2∧w.cell? ⟨g,3,none⟩=some y3∧w.cell? ⟨g,4,none⟩=some y4)∧∀o,w.frozen? ⟨g,o,none⟩=false:=
 ⟨⟨by rw [cell_of_row _ _ _ _ _ _ h];rfl,by rw [cell_of_row _ _ _ _ _ _ h];rfl,by rw [cell_of_row _ _ _ _ _ _ h];rfl,by rw [cell_of_row _ _ _ _ _ _ h];rfl,by rw [cell_of_row _ _ _ _ _ _ h];rfl⟩,fun o=>frozen_of_row _ _ _ _ _ h⟩
end
section
variable {M Mi:Nat→Prop} {w:World} {an ao bn bo:Option Addr} {cn co dd do':Nat} {m i:Mach}
theorem cmplLaw34_any (hm:Ma M w an cn ao co m) (hi:Ma Mi w bn dd bo do' i) (s:Stg) (hsd:Hid (s.seed<M64)):Calls Tryz.prog 6 #[maV m an cn ao co,maV i bn dd bo do',stV s] w fun e w'=>e= .returned (.bool true)∧Below w.heap.size w w':=by
 have hB0:=(((Below.refl w.heap.size w).alloc (Nat.le_refl _) (maO m an cn ao co)).alloc (by simp) (maO i bn dd bo do')).alloc (by simp;omega) (stO s)
 have g1:(w.alloc (maO m an cn ao co)).heap.size=w.heap.size+1:=by simp
 have g2:((w.alloc (maO m an cn ao co)).alloc (maO i bn dd bo do')).heap.size=w.heap.size+2:=by simp
 have hx0:C4 (((w.alloc (maO m an cn ao co)).alloc (maO i bn dd bo do')).alloc (stO s)) w.heap.size an cn ao co m:=(c4_new w).below (B:=w.heap.size+1) (((Below.refl _ _).alloc (by rw [g1];exact Nat.le_refl _) _).alloc (by rw [g2];omega) _) (by omega)
 have hy0:C4 (((w.alloc (maO m an cn ao co)).alloc (maO i bn dd bo do')).alloc (stO s)) (w.heap.size+1) bn dd bo do' i:=by
  have h:=c4_new (m:=i) (an:=bn) (cn:=dd) (ao:=bo) (co:=do') (w.alloc (maO m an cn ao co))
  rw [g1] at h
  exact h.below (B:=w.heap.size+2) ((Below.refl _ _).alloc (by rw [g2];exact Nat.le_refl _) _) (by omega)
 have hs0:S5 (((w.alloc (maO m an cn ao co)).alloc (maO i bn dd bo do')).alloc (stO s)) (w.heap.size+2) s:=by
  have h:=s5_new ((w.alloc (maO m an cn ao co)).alloc (maO i bn dd bo do')) s
  rw [g2] at h
  exact h
 have hz0:w.heap.size+3≤(((w.alloc (maO m an cn ao co)).alloc (maO i bn dd bo do')).alloc (stO s)).heap.size:=by simp
 have l1:=hm.next.le
 have l2:=hm.out.le
 have l3:=hi.next.le
 have l4:=hi.out.le
 have hii:=Lib.hid hi.inputs
 have HM:=Lib.hid (hm.below hB0)
 have HI:=Lib.hid (hi.below hB0)
 clear hm hi g1 g2
 go_enter Tryz.func6,Tryz.ntmps6
 go_upto_region 1 with (fail)
 generalize ((w.alloc (maO m an cn ao co)).alloc (maO i bn dd bo do')).alloc (stO s)=w0 at*
 have HS:Hid (∀w',Below w0.heap.size w0 w'→C4 w' w.heap.size an cn ao co m∧C4 w' (w.heap.size+1) bn dd bo do' i∧S5 w' (w.heap.size+2) s∧Ma M w' an cn ao co m∧Ma Mi w' bn dd bo do' i∧Below w.heap.size w w'):=fun w' h=>
  ⟨hx0.below h (by omega),hy0.below h (by omega),hs0.below h (by omega),HM.out.below h,HI.out.below h,hB0.trans (h.mono (by omega))⟩
 clear hx0 hy0 hs0 hB0 hz0 HM HI
 have hb0:=Below.refl w0.heap.size w0
 have HG0:=sm34_any (HS.out _ hb0).2.2.2.1 s
 obtain ⟨v1,hv1⟩:∃v,v=sm34 m s:=⟨_,rfl⟩
 rw [←hv1] at HG0
 have HG:=Lib.hid HG0
 have HV1:=Lib.hid hv1
 obtain ⟨⟨d0,d1,d2,d3⟩, -,⟨s0,s1,s2,s3,s4⟩, -⟩:=HS.out _ hb0
 clear HG0 hv1
 go_wp2_with fail
 refine (HG.out).mono ?_
 rintro e w1 ⟨rfl,hb1⟩
 have hb1:=hb0.trans (hb1.mono hb0.size)
 clear HG d0 d1 d2 d3 s0 s1 s2 s3 s4 hb0
 cases v1 with
 |false=>
  go_wp2_with fail
  refine (awake34_any (w:=w1)).mono ?_
  rintro e w9 ⟨rfl,hb9⟩
  have hBf:=(HS.out _ (hb1.trans (hb9.mono hb1.size))).2.2.2.2.2
  go_wp2
  go_ret
  exact ⟨rfl,hBf⟩
 |true=>
 have h7:Hid (m.next.length≤7):=by
  have h:=HV1.out.symm
  unfold sm34 at h
  exact (of_decide_eq_true h).1
 have h2x:Hid (s.extra≤2):=by
  have h:=HV1.out.symm
  unfold sm34 at h
  exact (of_decide_eq_true h).2.2.1
 clear HV1
 obtain ⟨⟨d0,d1,d2,d3⟩,⟨i0,i1,i2,i3⟩,⟨s0,s1,s2,s3,s4⟩, -⟩:=HS.out _ hb1
 by_cases hk4:s.kind=4
 ·have hkb:(s.kind==4)=true:=by simp [hk4]
  clear hk4
  go_wp2_with fail
  refine (awake34_any (w:=w1)).mono ?_
  rintro e w9 ⟨rfl,hb9⟩
  have hBf:=(HS.out _ (hb1.trans (hb9.mono hb1.size))).2.2.2.2.2
  go_wp2
  go_ret
  exact ⟨rfl,hBf⟩
 have hkb:(s.kind==4)=false:=by simp [hk4]
 by_cases hi9:i.next.length≤9
 rotate_left
 ·have hib:(9:Int)<(i.next.length:Int):=by omega
  go_wp2_with fail
  refine (awake34_any (w:=w1)).mono ?_
  rintro e w9 ⟨rfl,hb9⟩
  have hBf:=(HS.out _ (hb1.trans (hb9.mono hb1.size))).2.2.2.2.2
  go_wp2
  go_ret
  exact ⟨rfl,hBf⟩
 have hib:¬(9:Int)<(i.next.length:Int):=by omega
 by_cases hin:m.inputs=i.inputs
 rotate_left
 ·have hinb:(m.inputs !=i.inputs)=true:=by simp [hin]
  go_wp2_with fail
  refine (awake34_any (w:=w1)).mono ?_
  rintro e w9 ⟨rfl,hb9⟩
  have hBf:=(HS.out _ (hb1.trans (hb9.mono hb1.size))).2.2.2.2.2
  go_wp2
  go_ret
  exact ⟨rfl,hBf⟩
 have hinb:(m.inputs !=i.inputs)=false:=by simp [hin]
 have hIn:=Lib.hid hin
 have hK4:=Lib.hid hk4
 have HMin:=Lib.hid (min_any (HS.out _ hb1).2.2.2.1)
 clear hin hk4
 go_wp2_with fail
 refine (HMin.out).mono ?_
 rintro e w3 ⟨tn,tcn,to,tco,t,rfl,ht,hMt,hb3⟩
 have hb3:=hb1.trans (hb3.mono hb1.size)
 clear HMin hkb hib hinb hb1 d0 d1 d2 d3 i0 i1 i2 i3 s0 s1 s2 s3 s4
 have hba:=(Below.refl w3.heap.size w3).alloc (Nat.le_refl _) (maO t tn tcn to tco)
 have hb4:=hb3.trans (hba.mono hb3.size)
 have hct:=c4_new (m:=t) (an:=tn) (cn:=tcn) (ao:=to) (co:=tco) w3
 have hM4:Ma (fun _=>False) (w3.alloc (maO t tn tcn to tco)) tn tcn to tco t:=(hMt.below hba).ext (Ext.sub_only fun _ _ h=>h.elim)
 have hz4:w3.heap.size<(w3.alloc (maO t tn tcn to tco)).heap.size:=by simp
 have k1:=hMt.next.le
 have k2:=hMt.out.le
 have HW:=Lib.hid (twords_any hM4 s hsd)
 obtain ⟨-, -,⟨s0,s1,s2,s3,s4⟩, -⟩:=HS.out _ hb4
 obtain ⟨c0,c1,c2,c3⟩:=hct
 clear hMt hba hb3
 go_wp2_with fail
 generalize w3.alloc (maO t tn tcn to tco)=w4 at*
 have HT:Hid (∀w',Below w4.heap.size w4 w'→C4 w' w3.heap.size tn tcn to tco t∧Ma (fun _=>False) w' tn tcn to tco t):=fun w' h=>⟨C4.below ⟨c0,c1,c2,c3⟩ h hz4,hM4.below h⟩
 refine (HW.out).mono ?_
 rintro e w5 ⟨al,cl,l,e1,rfl,hwl,hls,hb5⟩
 have hb05:=hb4.trans (hb5.mono hb4.size)
 have HL:=Lib.hid (hls.anti (M':=fun _=>False) fun _ _ h=>h.elim)
 have k3:=hls.le
 have hbeh:Hid (l.Pairwise BehW):=by
  have h:=tw_beh (n:=t) hK4.out
  rw [hwl.out] at h;exact h
 have HO:=Lib.hid (oof_any (HS.out _ hb05).2.2.2.2.1 hii.out HL.out hbeh)
 obtain ⟨-,⟨i0,i1,i2,i3⟩, -⟩:=HS.out _ hb05
 clear HW hM4 c0 c1 c2 c3 s0 s1 s2 s3 s4 hls hbeh hb4
 go_wp2_with fail
 refine (HO.out).mono ?_
 rintro e w6 ⟨aO,cO,o,er,rfl,hOf,hOs,hb6⟩
 have hb46:=hb5.trans (hb6.mono hb5.size)
 have hb06:=hb05.trans (hb6.mono hb05.size)
 have hba:=(Below.refl w6.heap.size w6).alloc (Nat.le_refl _) (obO o aO cO)
 have hb07:=hb06.trans (hba.mono hb06.size)
 have hb47:=hb46.trans (hba.mono hb46.size)
 have HL7:=Lib.hid ((HL.out.below hb6).below hba)
 have hO7:Os (fun _=>False) (w6.alloc (obO o aO cO)) aO cO o:=⟨hOs.inputs,(hOs.traces.below hba).anti fun _ _ h=>h.elim⟩
 have hz7:w6.heap.size<(w6.alloc (obO o aO cO)).heap.size:=by simp
 have ho2:O2 (w6.alloc (obO o aO cO)) w6.heap.size aO cO o:=o2_new w6
 have k4:=hOs.traces.le
 obtain ⟨-,⟨j0,j1,j2,j3⟩,⟨s0,s1,s2,s3,s4⟩, -⟩:=HS.out _ hb07
 obtain ⟨⟨c0,c1,c2,c3⟩, -⟩:=HT.out _ hb47
 clear HO i0 i1 i2 i3 hb5 hb05 hb6 hb46 hb06 hba HL hOs
 by_cases hme:m.err=0
 rotate_left
 ·have hmb:(m.err !=0)=true:=by simp [hme]
  go_wp2_with fail
  refine (awake34_any (w:=w6.alloc (obO o aO cO))).mono ?_
  rintro e w9 ⟨rfl,hb9⟩
  have hBf:=(HS.out _ (hb07.trans (hb9.mono hb07.size))).2.2.2.2.2
  go_wp2
  go_ret
  exact ⟨rfl,hBf⟩
 have hmb:(m.err !=0)=false:=by simp [hme]
 have okt:Hid t.Ok:=by
  unfold Hid
  rw [ht.out,Mach.minOf_eq hme]
  exact Mach.minF_ok (m.ok_of_err hme)
 have k6:=okt.out.n1
 by_cases he1:e1=0
 rotate_left
 ·have heb:(e1 !=0)=true:=by simp [he1]
  go_wp2_with fail
  refine (awake34_any (w:=w6.alloc (obO o aO cO))).mono ?_
  rintro e w9 ⟨rfl,hb9⟩
  have hBf:=(HS.out _ (hb07.trans (hb9.mono hb07.size))).2.2.2.2.2
  go_wp2
  go_ret
  exact ⟨rfl,hBf⟩
 subst he1
 by_cases her:er=0
 rotate_left
 ·have herb:(er !=0)=true:=by simp [her]
  go_wp2_with fail
  refine (awake34_any (w:=w6.alloc (obO o aO cO))).mono ?_
  rintro e w9 ⟨rfl,hb9⟩
  have hBf:=(HS.out _ (hb07.trans (hb9.mono hb07.size))).2.2.2.2.2
  go_wp2
  go_ret
  exact ⟨rfl,hBf⟩
 subst her
 have hse:Hid (0≤s.extra):=tw_ext hwl.out hK4.out
 have x0:=hse.out
 have x2:=h2x.out
 by_cases hle:(i.next.length:Int)≤(t.next.length:Int)+s.extra
 rotate_left
 ·have hleb:(t.next.length:Int)+s.extra<(i.next.length:Int):=by omega
  go_wp2_with fail
  refine (awake34_any (w:=w6.alloc (obO o aO cO))).mono ?_
  rintro e w9 ⟨rfl,hb9⟩
  have hBf:=(HS.out _ (hb07.trans (hb9.mono hb07.size))).2.2.2.2.2
  go_wp2
  go_ret
  exact ⟨rfl,hBf⟩
 have hleb:¬(t.next.length:Int)+s.extra<(i.next.length:Int):=by omega
 have hOE:=Lib.hid hOf.out
 have hLe:=Lib.hid hle
 have hMe:=Lib.hid hme
 clear hle hme
 go_upto_region 8 with (fail)
 generalize w6.alloc (obO o aO cO)=w7 at*
 clear j0 j1 j2 j3 s0 s1 s2 s3 s4 c0 c1 c2 c3 hleb hmb
 refine wp_region_L (fun w'=>C4 w' w3.heap.size tn tcn to tco t) [0,1,3] (by kernel_rfl) ?_
 have hbd:=(Below.refl w7.heap.size w7).drew
 have hb48:=hb47.trans (hbd.mono hb47.size)
 have hz8:w7.heap.size≤w7.drew.heap.size:=hbd.size
 have hS8:C4 w7.drew w3.heap.size tn tcn to tco t:=(HT.out _ hb48).1
 generalize w7.drew=w8 at*
 refine skL_on [0,1] ?_
 repeat (refine skL_take (v:= ?_) rfl ?_ ?_;rotate_left;(focus (intro w' hSw;(try dsimp only at hSw);go_simp;try with_reducible rfl));try simp only [Act.put,List.setIfInBounds_toArray,List.set_cons_zero,List.set_cons_succ])
 refine skL_off ?_
 refine wpAnyL_2 (i:=2) (j:=4) (by kernel_rfl) rfl rfl rfl rfl (fun K hK=> ?_) (fun K hK=> ?_)
 ·go_simp
  refine (lacc_any (HT.out _ hb48).2 okt).mono ?_
  rintro e w9 ⟨aA,cA,A,rfl,hA,hb9⟩
  have k5:=hA.le
  have hb79:=hbd.trans (hb9.mono hz8)
  have hA9:Sl (fun k=>k=w9.heap.size) w9 aA cA A:=hA.anti fun k hk e=>by omega
  have hb49:=hb48.trans (hb9.mono hb48.size)
  have hS9:C4 w9 w3.heap.size tn tcn to tco t:=(HT.out _ hb49).1
  refine hK _ _ (fun _=>hS9) ?_
  clear hK K hS8 hb48 hbd hA hb9
  try simp only [Act.put,List.setIfInBounds_toArray,List.set_cons_zero,List.set_cons_succ]
  refine skL_on [3] ?_
  repeat (refine skL_take (v:= ?_) rfl ?_ ?_;rotate_left;(focus (intro w' hSw;(try dsimp only at hSw);go_simp;try with_reducible rfl));try simp only [Act.put,List.setIfInBounds_toArray,List.set_cons_zero,List.set_cons_succ])
  refine skL_off ?_
  refine wpAnyL_one (i:=4) (by kernel_rfl) rfl rfl (fun K hK=> ?_)
  go_simp
  have hba:=(Below.refl w9.heap.size w9).alloc (Nat.le_refl _) (.cells #[.int .i64 0,.int .i64 0,.slice none 0 0,.slice none 0 0,.slice none 0 0] 40)
  have hR:=Lib.hid (heap_alloc_new w9 (.cells #[.int .i64 0,.int .i64 0,.slice none 0 0,.slice none 0 0,.slice none 0 0] 40))
  have hb7a:=hb79.trans (hba.mono hb79.size)
  have hb4a:=hb49.trans (hba.mono hb49.size)
  have hAa:=hA9.below hba
  have hSa:=(HT.out _ hb4a).1
  have hg:w7.heap.size≤w9.heap.size:=hb79.size
  refine hK _ _ (fun _=>hSa) ?_
  clear hK K hb79 hb49 hA9 hS9 hba
  try simp only [Act.put,List.setIfInBounds_toArray,List.set_cons_zero,List.set_cons_succ]
  generalize w9.alloc (.cells #[.int .i64 0,.int .i64 0,.slice none 0 0,.slice none 0 0,.slice none 0 0] 40)=wa at*
  generalize w9.heap.size=gh at*
  obtain ⟨⟨q0,q1,q2,q3,q4⟩,q5⟩:=cells5 hR.out
  have h47:=hb47.size
  have hb4b:=hb4a.trans (bel_st5 (g:=gh) (y0:= .int .i64 t.inputs) (y1:= .int .i64 t.start) (y2:= .slice tn t.next.length tcn) (y3:= .slice to t.out.length tco) (y4:= .slice aA A.length cA) (Below.refl w4.heap.size wa) (by omega))
  have hb7b:=hb7a.trans (bel_st5 (g:=gh) (y0:= .int .i64 t.inputs) (y1:= .int .i64 t.start) (y2:= .slice tn t.next.length tcn) (y3:= .slice to t.out.length tco) (y4:= .slice aA A.length cA) (Below.refl w7.heap.size wa) hg)
  have hSb:=(HT.out _ hb4b).1
  have hHc:=Lib.hid (cells5 (set5 (y0:= .int .i64 t.inputs) (y1:= .int .i64 t.start) (y2:= .slice tn t.next.length tcn) (y3:= .slice to t.out.length tco) (y4:= .slice aA A.length cA) hR.out)).1
  have hAb:=hAa.ext (ext_st5 (M:=fun k=>k=gh) (g:=gh) (y0:= .int .i64 t.inputs) (y1:= .int .i64 t.start) (y2:= .slice tn t.next.length tcn) (y3:= .slice to t.out.length tco) (y4:= .slice aA A.length cA) rfl)
  unfold st5 at hb4b hb7b hSb hHc hAb
  refine wpAnyL_one (i:=5) (by kernel_rfl) rfl rfl (fun K hK=> ?_)
  go_simp
  refine hK _ _ (fun _=>hSb) ?_
  clear hK K q0 q1 q2 q3 q4 q5 hR hSa hAa hSb hb4a hb7a
  refine wpAnyL_done (by kernel_rfl) ?_ _
  generalize ((((wa.setCell ⟨gh,0,none⟩ (.int .i64 t.inputs)).setCell ⟨gh,1,none⟩ (.int .i64 t.start)).setCell ⟨gh,2,none⟩ (.slice tn t.next.length tcn)).setCell ⟨gh,3,none⟩ (.slice to t.out.length tco)).setCell ⟨gh,4,none⟩ (.slice aA A.length cA)=wb at*
  have hb0b:=hb07.trans (hb7b.mono hb07.size)
  have hGo:=of_good hOE.out
  have HN:=Lib.hid (tnext_any (h:=⟨t,A⟩) (M:=fun _=>False) (M':=fun _=>False) ⟨(HT.out _ hb4b).2,hAb.anti fun _ _ h=>h.elim⟩ ⟨hO7.inputs,hO7.traces.below hb7b⟩ (HL7.out.below hb7b) okt hGo.1 hGo.2)
  obtain ⟨r0,r1,r2,r3,r4⟩:=hHc.out
  obtain ⟨o0,o1⟩:=ho2.below hb7b hz7
  clear hAb hHc hGo
  go_wp2_with fail
  refine (HN.out).mono ?_
  rintro e wc ⟨aL,cL,L,aX,cX,x,dn,er,rfl,hR1,hsL,hsX,hbc⟩
  have hb4c:=hb4b.trans (hbc.mono hb4b.size)
  have hb0c:=hb0b.trans (hbc.mono hb0b.size)
  have k8:=hsL.le
  have k9:=hsX.le
  obtain ⟨e0,hck,hdn⟩:=cmp_all (h:=⟨t,A⟩) ht.out hMe.out h7.out hIn.out hK4.out hwl.out hOE.out hLe.out rfl hR1.out
  obtain rfl:er=0:=e0
  have HE:Hid (Calls Tryz.prog 30 #[maV t tn tcn to tco,maV i bn dd bo do'] wc fun e w'=>e= .returned (.tuple #[.bool dn,.int .i64 0])∧Below wc.heap.size wc w'):=
   (eqm_any (M:=fun _=>False) (HT.out _ hb4c).2 ((HS.out _ hb0c).2.2.2.2.1.ext (Ext.sub_only fun _ _ h=>h.elim))).mono fun e w' ⟨f,h1,h2,h3⟩=>⟨by rw [h1,h2.out,←hdn,hck],h3⟩
  obtain ⟨-,⟨i0,i1,i2,i3⟩, -⟩:=HS.out _ hb0c
  obtain ⟨⟨c0,c1,c2,c3⟩, -⟩:=HT.out _ hb4c
  clear HN hR1 hsL hsX hbc hck hdn r0 r1 r2 r3 r4 o0 o1 hb4b hb7b hb0b
  go_wp2_with fail
  refine (HE.out).mono ?_
  rintro e we ⟨rfl,hbe⟩
  have hb0e:=hb0c.trans (hbe.mono hb0c.size)
  clear HE c0 c1 c2 c3 i0 i1 i2 i3 hbe hb4c
  go_wp2_with fail
  refine (awake34_any (w:=we)).mono ?_
  rintro e wf ⟨rfl,hbf⟩
  have hBf:=(HS.out _ (hb0e.trans (hbf.mono hb0e.size))).2.2.2.2.2
  go_wp2
  go_ret
  exact ⟨rfl,hBf⟩
 go_simp
 have hba:=(Below.refl w8.heap.size w8).alloc (Nat.le_refl _) (.cells #[.int .i64 0,.int .i64 0,.slice none 0 0,.slice none 0 0,.slice none 0 0] 40)
 have hR8:=Lib.hid (heap_alloc_new w8 (.cells #[.int .i64 0,.int .i64 0,.slice none 0 0,.slice none 0 0,.slice none 0 0] 40))
 have hb79:=hbd.trans (hba.mono hz8)
 have hb49:=hb48.trans (hba.mono hb48.size)
 have hS9:=(HT.out _ hb49).1
 have hg:w7.heap.size≤w8.heap.size:=hz8
 have hgl:w8.heap.size<(w8.alloc (.cells #[.int .i64 0,.int .i64 0,.slice none 0 0,.slice none 0 0,.slice none 0 0] 40)).heap.size:=by simp
 refine hK _ _ (fun _=>hS9) ?_
 clear hK K hS8 hb48 hbd hba
 try simp only [Act.put,List.setIfInBounds_toArray,List.set_cons_zero,List.set_cons_succ]
 generalize w8.alloc (.cells #[.int .i64 0,.int .i64 0,.slice none 0 0,.slice none 0 0,.slice none 0 0] 40)=w9 at*
 generalize w8.heap.size=gh at*
 refine wpAnyL_one (i:=2) (by kernel_rfl) rfl rfl (fun K hK=> ?_)
 go_simp
 refine (lacc_any (HT.out _ hb49).2 okt).mono ?_
 rintro e wa ⟨aA,cA,A,rfl,hA,hb9⟩
 have k5:=hA.le
 have hb7a:=hb79.trans (hb9.mono hb79.size)
 have hAa:Sl (fun k=>k=gh) wa aA cA A:=hA.anti fun k _ e=>by show k<_;omega
 have hb4a:=hb49.trans (hb9.mono hb49.size)
 have hSa:C4 wa w3.heap.size tn tcn to tco t:=(HT.out _ hb4a).1
 have hR:=Lib.hid ((hb9.block gh hgl).trans hR8.out)
 refine hK _ _ (fun _=>hSa) ?_
 clear hK K hb79 hb49 hS9 hA hb9 hR8 hgl
 try simp only [Act.put,List.setIfInBounds_toArray,List.set_cons_zero,List.set_cons_succ]
 refine skL_on [3] ?_
 repeat (refine skL_take (v:= ?_) rfl ?_ ?_;rotate_left;(focus (intro w' hSw;(try dsimp only at hSw);go_simp;try with_reducible rfl));try simp only [Act.put,List.setIfInBounds_toArray,List.set_cons_zero,List.set_cons_succ])
 refine skL_off ?_
 obtain ⟨⟨q0,q1,q2,q3,q4⟩,q5⟩:=cells5 hR.out
 have h47:=hb47.size
 have hb4b:=hb4a.trans (bel_st5 (g:=gh) (y0:= .int .i64 t.inputs) (y1:= .int .i64 t.start) (y2:= .slice tn t.next.length tcn) (y3:= .slice to t.out.length tco) (y4:= .slice aA A.length cA) (Below.refl w4.heap.size wa) (by omega))
 have hb7b:=hb7a.trans (bel_st5 (g:=gh) (y0:= .int .i64 t.inputs) (y1:= .int .i64 t.start) (y2:= .slice tn t.next.length tcn) (y3:= .slice to t.out.length tco) (y4:= .slice aA A.length cA) (Below.refl w7.heap.size wa) hg)
 have hSb:=(HT.out _ hb4b).1
 have hHc:=Lib.hid (cells5 (set5 (y0:= .int .i64 t.inputs) (y1:= .int .i64 t.start) (y2:= .slice tn t.next.length tcn) (y3:= .slice to t.out.length tco) (y4:= .slice aA A.length cA) hR.out)).1
 have hAb:=hAa.ext (ext_st5 (M:=fun k=>k=gh) (g:=gh) (y0:= .int .i64 t.inputs) (y1:= .int .i64 t.start) (y2:= .slice tn t.next.length tcn) (y3:= .slice to t.out.length tco) (y4:= .slice aA A.length cA) rfl)
 unfold st5 at hb4b hb7b hSb hHc hAb
 refine wpAnyL_one (i:=5) (by kernel_rfl) rfl rfl (fun K hK=> ?_)
 go_simp
 refine hK _ _ (fun _=>hSb) ?_
 clear hK K q0 q1 q2 q3 q4 q5 hR hSa hAa hSb hb4a hb7a
 refine wpAnyL_done (by kernel_rfl) ?_ _
 generalize ((((wa.setCell ⟨gh,0,none⟩ (.int .i64 t.inputs)).setCell ⟨gh,1,none⟩ (.int .i64 t.start)).setCell ⟨gh,2,none⟩ (.slice tn t.next.length tcn)).setCell ⟨gh,3,none⟩ (.slice to t.out.length tco)).setCell ⟨gh,4,none⟩ (.slice aA A.length cA)=wb at*
 have hb0b:=hb07.trans (hb7b.mono hb07.size)
 have hGo:=of_good hOE.out
 have HN:=Lib.hid (tnext_any (h:=⟨t,A⟩) (M:=fun _=>False) (M':=fun _=>False) ⟨(HT.out _ hb4b).2,hAb.anti fun _ _ h=>h.elim⟩ ⟨hO7.inputs,hO7.traces.below hb7b⟩ (HL7.out.below hb7b) okt hGo.1 hGo.2)
 obtain ⟨r0,r1,r2,r3,r4⟩:=hHc.out
 obtain ⟨o0,o1⟩:=ho2.below hb7b hz7
 clear hAb hHc hGo
 go_wp2_with fail
 refine (HN.out).mono ?_
 rintro e wc ⟨aL,cL,L,aX,cX,x,dn,er,rfl,hR1,hsL,hsX,hbc⟩
 have hb4c:=hb4b.trans (hbc.mono hb4b.size)
 have hb0c:=hb0b.trans (hbc.mono hb0b.size)
 have k8:=hsL.le
 have k9:=hsX.le
 obtain ⟨e0,hck,hdn⟩:=cmp_all (h:=⟨t,A⟩) ht.out hMe.out h7.out hIn.out hK4.out hwl.out hOE.out hLe.out rfl hR1.out
 obtain rfl:er=0:=e0
 have HE:Hid (Calls Tryz.prog 30 #[maV t tn tcn to tco,maV i bn dd bo do'] wc fun e w'=>e= .returned (.tuple #[.bool dn,.int .i64 0])∧Below wc.heap.size wc w'):=
  (eqm_any (M:=fun _=>False) (HT.out _ hb4c).2 ((HS.out _ hb0c).2.2.2.2.1.ext (Ext.sub_only fun _ _ h=>h.elim))).mono fun e w' ⟨f,h1,h2,h3⟩=>⟨by rw [h1,h2.out,←hdn,hck],h3⟩
 obtain ⟨-,⟨i0,i1,i2,i3⟩, -⟩:=HS.out _ hb0c
 obtain ⟨⟨c0,c1,c2,c3⟩, -⟩:=HT.out _ hb4c
 clear HN hR1 hsL hsX hbc hck hdn r0 r1 r2 r3 r4 o0 o1 hb4b hb7b hb0b
 go_wp2_with fail
 refine (HE.out).mono ?_
 rintro e we ⟨rfl,hbe⟩
 have hb0e:=hb0c.trans (hbe.mono hb0c.size)
 clear HE c0 c1 c2 c3 i0 i1 i2 i3 hbe hb4c
 go_wp2_with fail
 refine (awake34_any (w:=we)).mono ?_
 rintro e wf ⟨rfl,hbf⟩
 have hBf:=(HS.out _ (hb0e.trans (hbf.mono hb0e.size))).2.2.2.2.2
 go_wp2
 go_ret
 exact ⟨rfl,hBf⟩
end
end Go.Proofs.YtjagagpcjpcjjaaGreat
