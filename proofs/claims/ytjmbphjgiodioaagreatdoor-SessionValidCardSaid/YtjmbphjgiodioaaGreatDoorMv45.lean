/- Several texts, one behind the other. Conditions: as each of them says. -/
import Derived.Test.YtjmbphjgiodioaaGreatDoorMv44
import Derived.Test.YtjmbphjgiodioaaGreatDoorMv40
import Derived.Test.YtjmbphjgiodioaaGreatDoorMv31
set_option maxRecDepth 100000
set_option maxHeartbeats 32000000
namespace Go.Proofs.YtjmbphjgiodioaaGreatDoor
open Go.RowKit
structure Ses.Fit (s:Ses):Prop where
 tp:∀x∈s.tab.pre,x.length≤1100
 lp:∀x∈s.lz.pre,x.length≤1100
 nd:∀x∈s.nodes,x.fit
namespace Ses
variable {s:Ses}
theorem lE_b (h:¬s.blank):s.lErr=1:=by unfold lErr;rw [if_pos h]
theorem lE_2 (h:s.blank) (hk:s.cfg.kind=2):s.lErr=if dtErr s.nodes≠0 then dtErr s.nodes else if s.tIn≠s.cfg.inputs then 15 else 0:=by unfold lErr;rw [if_neg (fun e=>e h),if_pos hk]
theorem lE_1 (h:s.blank) (hk:s.cfg.kind=1):s.lErr=if s.tab.inputs≠s.cfg.inputs then 15 else s.tab.err:=by
 have e:s.lt=s.tab:=if_pos hk
 unfold lErr;rw [if_neg (fun e=>e h),if_neg (by omega),e]
theorem lE_3 (h:s.blank) (hk:s.cfg.kind=3):s.lErr=if s.lz.inputs≠s.cfg.inputs then 15 else s.lz.err:=by
 have e:s.lt=s.lz:=if_neg (by omega)
 unfold lErr;rw [if_neg (fun e=>e h),if_neg (by omega),e]
end Ses
def bT (t:Tab):Bool:=decide (t.inputs=0)&&decide (t.pre.length=0)&&decide (t.suf.length=0)
theorem bT_iff {t:Tab}:bT t=true↔t.blank:=by unfold bT Tab.blank;simp [and_assoc]
abbrev SeC (w:World) (g:Nat) (s:Ses) (A:Sad):Prop:=∀o,w.cell? ⟨g,o,none⟩=(#[.int .i64 s.cfg.inputs,.int .i64 s.cfg.kind,.int .i64 s.cfg.stg.kind,.int .i64 s.cfg.stg.extra,.int .u64 (s.cfg.stg.seed:Int),.int .i64 s.cfg.stg.count,.int .i64 s.cfg.stg.len,.int .i64 s.cfg.bound,.int .i64 s.phase,.int .i64 s.tab.inputs,.slice A.p s.tab.pre.length A.pc,.slice A.q s.tab.suf.length A.qc,.int .i64 s.tIn,.slice A.n s.nodes.length A.nc,.int .i64 s.lz.inputs,.slice A.u s.lz.pre.length A.uc,.slice A.v s.lz.suf.length A.vc,.int .i64 s.obs.inputs,.slice A.t s.obs.traces.length A.tc,.int .i64 s.hyp.m.inputs,.int .i64 s.hyp.m.start,.slice A.x s.hyp.m.next.length A.xc,.slice A.y s.hyp.m.out.length A.yc,.slice A.z s.hyp.acc.length A.zc,.int .i64 s.rounds,.int .i64 s.code]:Array Value)[o]?
theorem SeC.below {w w':World} {g:Nat} {s:Ses} {A:Sad} (h:SeC w g s A) (hb:Below w.heap.size w w') (hg:g<w.heap.size):SeC w' g s A:=fun o=>(hb.cell (p:=⟨g,o,none⟩) hg).trans (h o)
section
variable {w:World} {M:Nat→Prop} {A:Sad} {s:Ses} {g:Nat}
theorem plearn_any (hg:g<w.heap.size) (hP:SeC w g s A) (hm:Sem M w A s) (hf:Hid s.Fit) (hk:Hid (s.cfg.kind=1∨s.cfg.kind=2∨s.cfg.kind=3)) {er:Int} (her:s.lErr=er):
    Calls Tryz.prog 37 #[.pointer (some ⟨g,0,none⟩)] w fun e w'=>e= .returned (.int .i64 er)∧Below w.heap.size w w':=by
 have l1:=hm.p.le
 have l2:=hm.q.le
 have l3:=hm.n.le
 have l4:=hm.u.le
 have l5:=hm.v.le
 have HM:=Lib.hid (fun w' (hb:Below w.heap.size w w')=>hm.below hb)
 have HE:=Lib.hid her
 have hSd:SeC w.drew g s A:=hP
 have HG:Hid (∀w',Below w.heap.size w w'→SeC w' g s A):=fun w' hb=>hP.below hb hg
 clear hP hm her
 go_enter Tryz.func37,Tryz.ntmps37
 go_upto_region 1 with (fail)
 refine wp_region_L (fun w'=>SeC w' g s A) [0,1,2,3,4,5,6,7,8,9,10,11,12,13,14,15,16,17,18] (by kernel_rfl) ?_
 have hB0:Below w.heap.size w w.drew:=(Below.refl _ _).drew
 have hg1:g<w.drew.heap.size:=hg
 generalize w.drew=w1 at*
 refine skL_on [0,1,2,3,4,5,6,7,8,9,10,11,12,13,14,15,16,17,18] ?_
 repeat (refine skL_take (v:= ?_) rfl ?_ ?_;rotate_left;(focus (intro w' hSw;(try dsimp only at hSw);go_simp;try with_reducible rfl));try simp only [Act.put,List.setIfInBounds_toArray,List.set_cons_zero,List.set_cons_succ])
 refine skL_off ?_
 refine wpAnyL_one (i:=19) (by kernel_rfl) rfl rfl (fun K hK=> ?_)
 go_simp
 have hb2:=(Below.refl w1.heap.size w1).alloc (Nat.le_refl _) (.cells #[.int .i64 0,.slice none 0 0,.slice none 0 0] 29)
 have hr2:(w1.alloc (.cells #[.int .i64 0,.slice none 0 0,.slice none 0 0] 29)).heap[w1.heap.size]? =some (.cells #[.int .i64 0,.slice none 0 0,.slice none 0 0] 29 (0,0)):=heap_alloc_new _ _
 have hS2:=hSd.below hb2 hg1
 refine hK _ _ (fun _=>hS2) ?_
 clear hK K
 generalize w1.alloc (.cells #[.int .i64 0,.slice none 0 0,.slice none 0 0] 29)=w2 at*
 obtain ⟨⟨j0,j1,j2⟩,jz⟩:=cells3 hr2
 have hbu:Below w1.heap.size w1 (((w2.setCell ⟨w1.heap.size,0,none⟩ (.int .i64 s.lz.inputs)).setCell ⟨w1.heap.size,1,none⟩ (.slice A.u s.lz.pre.length A.uc)).setCell ⟨w1.heap.size,2,none⟩ (.slice A.v s.lz.suf.length A.vc)):=((hb2.setCell (p:=⟨w1.heap.size,0,none⟩) (Nat.le_refl _) _).setCell (p:=⟨w1.heap.size,1,none⟩) (Nat.le_refl _) _).setCell (p:=⟨w1.heap.size,2,none⟩) (Nat.le_refl _) _
 have hru:(((w2.setCell ⟨w1.heap.size,0,none⟩ (.int .i64 s.lz.inputs)).setCell ⟨w1.heap.size,1,none⟩ (.slice A.u s.lz.pre.length A.uc)).setCell ⟨w1.heap.size,2,none⟩ (.slice A.v s.lz.suf.length A.vc)).heap[w1.heap.size]? =some (.cells #[.int .i64 s.lz.inputs,.slice A.u s.lz.pre.length A.uc,.slice A.v s.lz.suf.length A.vc] 29 (0,0)):=set3 hr2
 have hSu:=hSd.below hbu hg1
 refine wpAnyL_one (i:=20) (by kernel_rfl) rfl rfl (fun K hK=> ?_)
 go_simp
 refine hK _ _ (fun _=>hSu) ?_
 clear hK K
 refine wpAnyL_done (by kernel_rfl) ?_ _
 clear hS2 j0 j1 j2 jz hr2 hb2
 have hBu:=hB0.trans (hbu.mono hB0.size)
 generalize ((w2.setCell ⟨w1.heap.size,0,none⟩ (.int .i64 s.lz.inputs)).setCell ⟨w1.heap.size,1,none⟩ (.slice A.u s.lz.pre.length A.uc)).setCell ⟨w1.heap.size,2,none⟩ (.slice A.v s.lz.suf.length A.vc)=u at*
 have hLu:=(Array.getElem?_eq_some_iff.1 hru).1
 have hLw:w.heap.size≤w1.heap.size:=hB0.size
 have HX:Hid (∀w',Below u.heap.size u w'→SeC w' g s A∧(w'.cell? ⟨w1.heap.size,0,none⟩=some (.int .i64 s.lz.inputs)∧w'.cell? ⟨w1.heap.size,1,none⟩=some (.slice A.u s.lz.pre.length A.uc)∧w'.cell? ⟨w1.heap.size,2,none⟩=some (.slice A.v s.lz.suf.length A.vc))∧Below w.heap.size w w'∧w'.heap[w1.heap.size]? =some (.cells #[.int .i64 s.lz.inputs,.slice A.u s.lz.pre.length A.uc,.slice A.v s.lz.suf.length A.vc] 29 (0,0))):=fun w' hb=>by
  have h9:=(hb.block _ hLu).trans hru
  have h8:=hBu.trans (hb.mono hBu.size)
  exact ⟨HG.out _ h8,(cells3 h9).1,h8,h9⟩
 have HbT:Hid (∀w v,bT s.tab=v→Calls Tryz.prog 71 #[.agg #[.int .i64 s.tab.inputs,.slice A.p s.tab.pre.length A.pc,.slice A.q s.tab.suf.length A.qc]] w fun e w'=>e= .returned (.bool v)∧Below w.heap.size w w'):=fun w v hv=>blankT_any l1 l2 hv
 have HbL:Hid (∀w v,bT s.lz=v→Calls Tryz.prog 71 #[.agg #[.int .i64 s.lz.inputs,.slice A.u s.lz.pre.length A.uc,.slice A.v s.lz.suf.length A.vc]] w fun e w'=>e= .returned (.bool v)∧Below w.heap.size w w'):=fun w v hv=>blankT_any l4 l5 hv
 have HTa:Hid (∀w',Below w.heap.size w w'→∀v,s.tab.err=v→Calls Tryz.prog 73 #[.agg #[.int .i64 s.tab.inputs,.slice A.p s.tab.pre.length A.pc,.slice A.q s.tab.suf.length A.qc]] w' fun e w''=>e= .returned (.int .i64 v)∧Below w'.heap.size w' w''):=fun w' hb v hv=>tvalid_any (HM.out _ hb).tab hf.out.tp hv
 have HTl:Hid (∀w',Below w.heap.size w w'→∀v,s.lz.err=v→Calls Tryz.prog 73 #[.agg #[.int .i64 s.lz.inputs,.slice A.u s.lz.pre.length A.uc,.slice A.v s.lz.suf.length A.vc]] w' fun e w''=>e= .returned (.int .i64 v)∧Below w'.heap.size w' w''):=fun w' hb v hv=>tvalid_any (HM.out _ hb).lz hf.out.lp hv
 have HTd:Hid (∀w',Below w.heap.size w w'→∀v,dtErr s.nodes=v→Calls Tryz.prog 72 #[.agg #[.slice A.n s.nodes.length A.nc]] w' fun e w''=>e= .returned (.int .i64 v)∧Below w'.heap.size w' w''):=fun w' hb v hv=>dvalid_any (HM.out _ hb).n hf.out.nd hv
 obtain ⟨x,⟨y0,y1,y2⟩,hBx, -⟩:=HX.out _ (Below.refl _ _)
 clear hSu hru hbu hSd hBu hLu HM hB0
 obtain ⟨kd,hkd⟩:∃k,s.cfg.kind=k:=⟨_,rfl⟩
 obtain ⟨nn,hnn⟩:∃n,s.nodes.length=n:=⟨_,rfl⟩
 obtain ⟨bt,hbt⟩:∃v,bT s.tab=v:=⟨_,rfl⟩
 obtain ⟨bl,hbl⟩:∃v,bT s.lz=v:=⟨_,rfl⟩
 obtain ⟨ti,hti⟩:∃v,s.tIn=v:=⟨_,rfl⟩
 obtain ⟨ci,hci⟩:∃v,s.cfg.inputs=v:=⟨_,rfl⟩
 have CT:=Lib.hid (fun w=>HbT.out w bt hbt)
 have CL:=Lib.hid (fun w=>HbL.out w bl hbl)
 have hBt:=Lib.hid hbt
 have hBl:=Lib.hid hbl
 have hTi:=Lib.hid hti
 have hNn:=Lib.hid hnn
 have hKd:=Lib.hid hkd
 have hCi:=Lib.hid hci
 rw [hkd] at hk
 rw [hnn] at HTd
 have HY:Hid (∀w',Below u.heap.size u w'→(w'.cell? ⟨g,0,none⟩=some (.int .i64 ci)∧w'.cell? ⟨g,9,none⟩=some (.int .i64 s.tab.inputs)∧w'.cell? ⟨g,10,none⟩=some (.slice A.p s.tab.pre.length A.pc)∧w'.cell? ⟨g,11,none⟩=some (.slice A.q s.tab.suf.length A.qc)∧w'.cell? ⟨g,12,none⟩=some (.int .i64 ti)∧w'.cell? ⟨g,13,none⟩=some (.slice A.n nn A.nc))∧(w'.cell? ⟨w1.heap.size,0,none⟩=some (.int .i64 s.lz.inputs)∧w'.cell? ⟨w1.heap.size,1,none⟩=some (.slice A.u s.lz.pre.length A.uc)∧w'.cell? ⟨w1.heap.size,2,none⟩=some (.slice A.v s.lz.suf.length A.vc))∧Below w.heap.size w w'):=fun w' hb=>by
  obtain ⟨x,y,b, -⟩:=HX.out w' hb
  rw [←hci,←hti,←hnn]
  exact ⟨⟨x 0,x 9,x 10,x 11,x 12,x 13⟩,y,b⟩
 have x1:u.cell? ⟨g,1,none⟩=some (.int .i64 kd):=by rw [←hkd];exact x 1
 clear x y0 y1 y2 hBx HbT HbL hbt hbl hti hnn hkd hci l1 l2 l3 l4 l5
 obtain ⟨⟨x0,x9,x10,x11,x12,x13⟩,⟨y0,y1,y2⟩,hBx⟩:=HY.out _ (Below.refl _ _)
 obtain rfl|rfl|rfl:=hk.out
 ·by_cases hz:ti=0
  rotate_left
  ·have hzb:(ti !=0)=true:=by simp [hz]
   have hr:=HE.out.symm.trans (Ses.lE_b (fun h=>by have:=h.2.1;rw [hTi.out,hKd.out] at this;omega))
   subst hr
   go_wp2
   go_ret
   exact ⟨rfl,hBx⟩
  subst hz
  cases nn with
  |succ nn=>
   have hnb:((nn:Int)+1 !=0)=true:=by simp;omega
   have hr:=HE.out.symm.trans (Ses.lE_b (fun h=>by have:=h.2.1;rw [hNn.out,hKd.out] at this;omega))
   subst hr
   go_wp2
   go_ret
   exact ⟨rfl,hBx⟩
  |zero=>
  go_wp2_with fail
  refine (CL.out _).mono ?_
  rintro e w2 ⟨rfl,hb⟩
  have hU:=hb
  clear hb x0 x9 x10 x11 x12 x13 y0 y1 y2 hBx
  obtain ⟨⟨x0,x9,x10,x11,x12,x13⟩,⟨y0,y1,y2⟩,hBx⟩:=HY.out _ hU
  cases bl with
  |false=>
   have hr:=HE.out.symm.trans (Ses.lE_b (fun h=>by have h3:=h.2.2.resolve_left (by rw [hKd.out];decide);exact absurd (hBl.out.symm.trans (bT_iff.2 h3)) (by decide)))
   subst hr
   go_wp2
   go_ret
   exact ⟨rfl,hBx⟩
  |true=>
  have h_bl:=Lib.hid (bT_iff.1 hBl.out)
  obtain ⟨-, -, -,hrw⟩:=HX.out _ hU
  obtain ⟨-,z⟩:=cells3 hrw
  have z0:=z 0
  have z1:=z 1
  have z2:=z 2
  have hrn:=Lib.hid (set3 (y0:= .int .i64 s.tab.inputs) (y1:= .slice A.p s.tab.pre.length A.pc) (y2:= .slice A.q s.tab.suf.length A.qc) hrw)
  have hbn:Hid (Below w.heap.size w2 (((w2.setCell ⟨w1.heap.size,0,none⟩ (.int .i64 s.tab.inputs)).setCell ⟨w1.heap.size,1,none⟩ (.slice A.p s.tab.pre.length A.pc)).setCell ⟨w1.heap.size,2,none⟩ (.slice A.q s.tab.suf.length A.qc))):=(((((Below.refl w1.heap.size w2).setCell (p:=⟨w1.heap.size,0,none⟩) (Nat.le_refl _) _).setCell (p:=⟨w1.heap.size,1,none⟩) (Nat.le_refl _) _).setCell (p:=⟨w1.heap.size,2,none⟩) (Nat.le_refl _) _)).mono hLw
  clear hrw z
  go_wp2_with fail
  generalize ((w2.setCell ⟨w1.heap.size,0,none⟩ (.int .i64 s.tab.inputs)).setCell ⟨w1.heap.size,1,none⟩ (.slice A.p s.tab.pre.length A.pc)).setCell ⟨w1.heap.size,2,none⟩ (.slice A.q s.tab.suf.length A.qc)=z at*
  have hBx':=hBx.trans hbn.out
  clear z0 z1 z2 x0 x9 x10 x11 x12 x13 y0 y1 y2 hBx
  have hBx:=hBx'
  clear hBx'
  have x0:z.cell? ⟨g,0,none⟩=some (.int .i64 ci):=by rw [←hCi.out];exact HG.out _ hBx 0
  obtain ⟨⟨y0,y1,y2⟩, -⟩:=cells3 hrn.out
  have hBk:s.blank:=⟨.inl hKd.out,.inr ⟨hTi.out,hNn.out⟩,.inr h_bl.out⟩
  by_cases hI:s.tab.inputs=ci
  rotate_left
  ·have hIb:(s.tab.inputs !=ci)=true:=by simp [hI]
   have hr:=HE.out.symm.trans ((Ses.lE_1 hBk hKd.out).trans (if_pos (by rw [hCi.out];exact hI)))
   subst hr
   go_wp2
   refine wp_quiet_fast (by kernel_rfl) (by kernel_rfl) ?_
   repeat (first|go_big_quiet_step (fail)|quiet_step (fail))
   refine wpQuiet_nil ?_
   intro _ hw'
   obtain ⟨nq,hw''⟩:=hw'
   subst hw''
   go_wp2
   go_ret
   exact ⟨rfl,bl_drewN hBx nq⟩
  have hIb:(s.tab.inputs !=ci)=false:=by simp [hI]
  have hr:=HE.out.symm.trans ((Ses.lE_1 hBk hKd.out).trans (if_neg (by rw [hCi.out];exact fun h=>h hI)))
  clear hI
  subst hr
  go_wp2
  refine wp_quiet_fast (by kernel_rfl) (by kernel_rfl) ?_
  repeat (first|go_big_quiet_step (fail)|quiet_step (fail))
  refine wpQuiet_nil ?_
  intro _ hw'
  obtain ⟨nq,hw''⟩:=hw'
  subst hw''
  go_wp2_with fail
  refine (HTa.out _ (bl_drewN hBx nq) _ rfl).mono ?_
  rintro e w9 ⟨rfl,hb⟩
  go_wp2
  go_ret
  exact ⟨rfl,(bl_drewN hBx nq).trans (hb.mono (bl_drewN hBx nq).size)⟩
 ·go_wp2_with fail
  refine (CT.out _).mono ?_
  rintro e w2 ⟨rfl,hb⟩
  have hU:=hb
  clear hb x0 x9 x10 x11 x12 x13 y0 y1 y2 hBx
  obtain ⟨⟨x0,x9,x10,x11,x12,x13⟩,⟨y0,y1,y2⟩,hBx⟩:=HY.out _ hU
  cases bt with
  |false=>
   have hr:=HE.out.symm.trans (Ses.lE_b (fun h=>by have h3:=h.1.resolve_left (by rw [hKd.out];decide);exact absurd (hBt.out.symm.trans (bT_iff.2 h3)) (by decide)))
   subst hr
   go_wp2
   go_ret
   exact ⟨rfl,hBx⟩
  |true=>
  have h_bt:=Lib.hid (bT_iff.1 hBt.out)
  go_wp2_with fail
  refine (CL.out _).mono ?_
  rintro e w3 ⟨rfl,hb⟩
  have hU:=hU.trans (hb.mono hU.size)
  clear hb x0 x9 x10 x11 x12 x13 y0 y1 y2 hBx
  obtain ⟨⟨x0,x9,x10,x11,x12,x13⟩,⟨y0,y1,y2⟩,hBx⟩:=HY.out _ hU
  cases bl with
  |false=>
   have hr:=HE.out.symm.trans (Ses.lE_b (fun h=>by have h3:=h.2.2.resolve_left (by rw [hKd.out];decide);exact absurd (hBl.out.symm.trans (bT_iff.2 h3)) (by decide)))
   subst hr
   go_wp2
   go_ret
   exact ⟨rfl,hBx⟩
  |true=>
  have h_bl:=Lib.hid (bT_iff.1 hBl.out)
  have hBk:s.blank:=⟨.inr h_bt.out,.inl hKd.out,.inr h_bl.out⟩
  obtain ⟨dv,hdv⟩:∃v,dtErr s.nodes=v:=⟨_,rfl⟩
  have hLk:=Lib.hid (HE.out.symm.trans (Ses.lE_2 hBk hKd.out))
  go_wp2_with fail
  refine (HTd.out _ hBx _ hdv).mono ?_
  rintro e w4 ⟨rfl,hb⟩
  have hU':=hU.trans (hb.mono hU.size)
  clear hb x0 x9 x10 x11 x12 x13 y0 y1 y2 hBx hU
  obtain ⟨⟨x0,x9,x10,x11,x12,x13⟩,⟨y0,y1,y2⟩,hBx⟩:=HY.out _ hU'
  by_cases hv0:dv=0
  rotate_left
  ·have hvb:(dv !=0)=true:=by simp [hv0]
   have hr:=hLk.out.trans ((if_pos (by rw [hdv];exact hv0)).trans hdv)
   clear hv0 hdv
   subst hr
   go_wp2
   go_ret
   exact ⟨rfl,hBx⟩
  have hvb:(dv !=0)=false:=by simp [hv0]
  have hR:=Lib.hid (hLk.out.trans (if_neg (by rw [hdv];exact fun h=>h hv0)))
  clear hv0 hdv
  by_cases hI:ti=ci
  rotate_left
  ·have hIb:(ti !=ci)=true:=by simp [hI]
   have hr:=hR.out.trans (if_pos (by rw [hTi.out,hCi.out];exact hI))
   clear hI
   subst hr
   go_wp2
   refine wp_quiet_fast (by kernel_rfl) (by kernel_rfl) ?_
   repeat (first|go_big_quiet_step (fail)|quiet_step (fail))
   refine wpQuiet_nil ?_
   intro _ hw'
   obtain ⟨nq,hw''⟩:=hw'
   subst hw''
   go_wp2
   go_ret
   exact ⟨rfl,bl_drewN hBx nq⟩
  have hIb:(ti !=ci)=false:=by simp [hI]
  have hr:=hR.out.trans (if_neg (by rw [hTi.out,hCi.out];exact fun h=>h hI))
  clear hI
  subst hr
  go_wp2
  refine wp_quiet_fast (by kernel_rfl) (by kernel_rfl) ?_
  repeat (first|go_big_quiet_step (fail)|quiet_step (fail))
  refine wpQuiet_nil ?_
  intro _ hw'
  obtain ⟨nq,hw''⟩:=hw'
  subst hw''
  go_wp2
  go_ret
  exact ⟨rfl,bl_drewN hBx nq⟩
 go_wp2_with fail
 refine (CT.out _).mono ?_
 rintro e w2 ⟨rfl,hb⟩
 have hU:=hb
 clear hb x0 x9 x10 x11 x12 x13 y0 y1 y2 hBx
 obtain ⟨⟨x0,x9,x10,x11,x12,x13⟩,⟨y0,y1,y2⟩,hBx⟩:=HY.out _ hU
 cases bt with
 |false=>
  have hr:=HE.out.symm.trans (Ses.lE_b (fun h=>by have h3:=h.1.resolve_left (by rw [hKd.out];decide);exact absurd (hBt.out.symm.trans (bT_iff.2 h3)) (by decide)))
  subst hr
  go_wp2
  go_ret
  exact ⟨rfl,hBx⟩
 |true=>
 have h_bt:=Lib.hid (bT_iff.1 hBt.out)
 by_cases hz:ti=0
 rotate_left
 ·have hzb:(ti !=0)=true:=by simp [hz]
  have hr:=HE.out.symm.trans (Ses.lE_b (fun h=>by have:=h.2.1;rw [hTi.out,hKd.out] at this;omega))
  subst hr
  go_wp2
  go_ret
  exact ⟨rfl,hBx⟩
 subst hz
 cases nn with
 |succ nn=>
  have hnb:((nn:Int)+1 !=0)=true:=by simp;omega
  have hr:=HE.out.symm.trans (Ses.lE_b (fun h=>by have:=h.2.1;rw [hNn.out,hKd.out] at this;omega))
  subst hr
  go_wp2
  go_ret
  exact ⟨rfl,hBx⟩
 |zero=>
 have hBk:s.blank:=⟨.inr h_bt.out,.inr ⟨hTi.out,hNn.out⟩,.inl hKd.out⟩
 by_cases hI:s.lz.inputs=ci
 rotate_left
 ·have hIb:(s.lz.inputs !=ci)=true:=by simp [hI]
  have hr:=HE.out.symm.trans ((Ses.lE_3 hBk hKd.out).trans (if_pos (by rw [hCi.out];exact hI)))
  subst hr
  go_wp2
  refine wp_quiet_fast (by kernel_rfl) (by kernel_rfl) ?_
  repeat (first|go_big_quiet_step (fail)|quiet_step (fail))
  refine wpQuiet_nil ?_
  intro _ hw'
  obtain ⟨nq,hw''⟩:=hw'
  subst hw''
  go_wp2
  go_ret
  exact ⟨rfl,bl_drewN hBx nq⟩
 have hIb:(s.lz.inputs !=ci)=false:=by simp [hI]
 have hr:=HE.out.symm.trans ((Ses.lE_3 hBk hKd.out).trans (if_neg (by rw [hCi.out];exact fun h=>h hI)))
 clear hI
 subst hr
 go_wp2
 refine wp_quiet_fast (by kernel_rfl) (by kernel_rfl) ?_
 repeat (first|go_big_quiet_step (fail)|quiet_step (fail))
 refine wpQuiet_nil ?_
 intro _ hw'
 obtain ⟨nq,hw''⟩:=hw'
 subst hw''
 go_wp2_with fail
 refine (HTl.out _ (bl_drewN hBx nq) _ rfl).mono ?_
 rintro e w9 ⟨rfl,hb⟩
 go_wp2
 go_ret
 exact ⟨rfl,(bl_drewN hBx nq).trans (hb.mono (bl_drewN hBx nq).size)⟩
end
end Go.Proofs.YtjmbphjgiodioaaGreatDoor
