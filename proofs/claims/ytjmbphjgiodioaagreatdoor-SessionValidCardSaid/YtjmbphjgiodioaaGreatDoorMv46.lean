/- Several texts, one behind the other. Conditions: as each of them says. -/
import Derived.Test.YtjmbphjgiodioaaGreatDoorMv45
import Derived.Test.YtjmbphjgiodioaaGreatDoorMv40
import Derived.Test.YtjmbphjgiodioaaGreatDoorMv36
import Derived.Test.YtjmbphjgiodioaaGreatDoorMv31
import Derived.Test.YtjmbphjgiodioaaGreatDoorMv30
import Derived.Test.YtjmbphjgiodioaaGreatDoorMv25
import Derived.Test.YtjmbphjgiodioaaGreatDoorMv21
import Derived.Test.YtjmbphjgiodioaaGreatDoorMv12
import Derived.Test.YtjmbphjgiodioaaGreatDoorMv7
import Derived.Test.YtjmbphjgiodioaaGreatDoorMv4
import Derived.Test.YtjmbphjgiodioaaGreatDoorMv3
import Derived.Deep.Cut
set_option maxRecDepth 100000
set_option maxHeartbeats 32000000
namespace Go.Proofs.YtjmbphjgiodioaaGreatDoor
open Go.RowKit
namespace Ses
variable {s:Ses} {v:Int}
abbrev rng (s:Ses):Prop:=s.phase<0∨3<s.phase∨s.rounds<0
abbrev cod (s:Ses):Prop:=(s.phase=3∧s.code=0)∨(s.phase≠3∧s.code≠0)
theorem e_c (h:s.cfg.err=v) (hv:v≠0):s.err=v:=by unfold err;rw [if_pos (by rw [h];exact hv),h]
theorem e_r (h0:s.cfg.err=0) (h:s.rng):s.err=2:=by unfold err;rw [if_neg (fun e=>e h0),if_pos h]
theorem e_i (h0:s.cfg.err=0) (h1:¬s.rng) (h:s.cod):s.err=1:=by unfold err;rw [if_neg (fun e=>e h0),if_neg h1,if_pos h]
theorem e_o (h0:s.cfg.err=0) (h1:¬s.rng) (h2:¬s.cod) (h:s.obs.err=v) (hv:v≠0):s.err=v:=by unfold err;rw [if_neg (fun e=>e h0),if_neg h1,if_neg h2,if_pos (by rw [h];exact hv),h]
theorem e_n (h0:s.cfg.err=0) (h1:¬s.rng) (h2:¬s.cod) (h3:s.obs.err=0) (h:s.obs.inputs≠s.cfg.inputs):s.err=15:=by unfold err;rw [if_neg (fun e=>e h0),if_neg h1,if_neg h2,if_neg (fun e=>e h3),if_pos h]
theorem e_l (h0:s.cfg.err=0) (h1:¬s.rng) (h2:¬s.cod) (h3:s.obs.err=0) (h4:s.obs.inputs=s.cfg.inputs):s.err=if s.lErr≠0 then s.lErr else s.hErr:=by unfold err;rw [if_neg (fun e=>e h0),if_neg h1,if_neg h2,if_neg (fun e=>e h3),if_neg (fun e=>e h4)]
open Classical in
theorem h_b (h1:s.phase≠1) (h2:s.phase≠2):s.hErr=if s.hBlank then 0 else 1:=by unfold hErr;rw [if_pos ⟨h1,h2⟩]
theorem h_e (hp:s.phase=1∨s.phase=2) (h:s.hyp.err=v) (hv:v≠0):s.hErr=v:=by unfold hErr;rw [if_neg (by omega),if_pos (by rw [h];exact hv),h]
theorem h_n (hp:s.phase=1∨s.phase=2) (h:s.hyp.err=0):s.hErr=if s.hyp.m.inputs≠s.cfg.inputs then 15 else 0:=by unfold hErr;rw [if_neg (by omega),if_neg (fun e=>e h)]
theorem hB_iff:(decide (s.hyp.m.inputs=0)&&decide (s.hyp.m.start=0)&&decide (s.hyp.m.next.length=0)&&decide (s.hyp.m.out.length=0)&&decide (s.hyp.acc.length=0))=true↔s.hBlank:=by unfold hBlank;simp [and_assoc]
theorem kind_of (h:s.cfg.err=0):s.cfg.kind=1∨s.cfg.kind=2∨s.cfg.kind=3:=by
 by_cases h1:s.cfg.inputs<1∨64<s.cfg.inputs∨s.cfg.kind<1∨3<s.cfg.kind
 ·rw [Cfg.err_2 h1] at h;cases h
 omega
end Ses
section
variable {w:World} {M:Nat→Prop} {A:Sad} {s:Ses}
theorem sessv_any (hm:Sem M w A s) (hf:Hid s.Fit) {er:Int} (her:s.err=er):
    Calls Tryz.prog 15 #[.agg #[.int .i64 s.cfg.inputs,.int .i64 s.cfg.kind,.int .i64 s.cfg.stg.kind,.int .i64 s.cfg.stg.extra,.int .u64 (s.cfg.stg.seed:Int),.int .i64 s.cfg.stg.count,.int .i64 s.cfg.stg.len,.int .i64 s.cfg.bound,.int .i64 s.phase,.int .i64 s.tab.inputs,.slice A.p s.tab.pre.length A.pc,.slice A.q s.tab.suf.length A.qc,.int .i64 s.tIn,.slice A.n s.nodes.length A.nc,.int .i64 s.lz.inputs,.slice A.u s.lz.pre.length A.uc,.slice A.v s.lz.suf.length A.vc,.int .i64 s.obs.inputs,.slice A.t s.obs.traces.length A.tc,.int .i64 s.hyp.m.inputs,.int .i64 s.hyp.m.start,.slice A.x s.hyp.m.next.length A.xc,.slice A.y s.hyp.m.out.length A.yc,.slice A.z s.hyp.acc.length A.zc,.int .i64 s.rounds,.int .i64 s.code]] w fun e w'=>e= .returned (.int .i64 er)∧Below w.heap.size w w':=by
 have l7:=hm.x.le
 have l8:=hm.y.le
 have l9:=hm.z.le
 obtain ⟨cv,hcv⟩:∃v,s.cfg.err=v:=⟨_,rfl⟩
 obtain ⟨ov,hov⟩:∃v,s.obs.err=v:=⟨_,rfl⟩
 obtain ⟨lv,hlv⟩:∃v,s.lErr=v:=⟨_,rfl⟩
 obtain ⟨hv,hhv⟩:∃v,s.hyp.err=v:=⟨_,rfl⟩
 obtain ⟨hb,hhb⟩:∃v,(decide (s.hyp.m.inputs=0)&&decide (s.hyp.m.start=0)&&decide (s.hyp.m.next.length=0)&&decide (s.hyp.m.out.length=0)&&decide (s.hyp.acc.length=0))=v:=⟨_,rfl⟩
 have HE:=Lib.hid her.symm
 have Kc:=Lib.hid hcv
 have Ko:=Lib.hid hov
 have Kl:=Lib.hid hlv
 have Kh:=Lib.hid hhv
 have Kb:=Lib.hid hhb
 have C1:=Lib.hid (fun w=>sconf_any (w:=w) s.cfg hcv)
 have C2:=Lib.hid (fun w' (hb:Below w.heap.size w w')=>ovalidx (hm.below hb).obs hov)
 have C3:=Lib.hid (fun w' (hb:Below w.heap.size w w') g hg hP hk=>plearn_any (g:=g) (w:=w') hg hP (hm.below hb) hf hk hlv)
 have C4:Hid (∀w',Below w.heap.size w w'→Calls Tryz.prog 39 #[hyV s.hyp A.x A.xc A.y A.yc A.z A.zc] w' fun e w''=>e= .returned (.int .i64 hv)∧Below w'.heap.size w' w''):=fun w' hb=>by rw [←hhv];exact hvalid_any (hm.below hb).hyp
 have C5:=Lib.hid (fun w=>blankH_any (w:=w) (a:=A.x) (b:=A.y) (e:=A.z) (c:=A.xc) (d:=A.yc) (f:=A.zc) l7 l8 l9 hhb)
 obtain ⟨W,hW⟩:∃W,W=w.alloc (.cells #[.int .i64 s.cfg.inputs,.int .i64 s.cfg.kind,.int .i64 s.cfg.stg.kind,.int .i64 s.cfg.stg.extra,.int .u64 (s.cfg.stg.seed:Int),.int .i64 s.cfg.stg.count,.int .i64 s.cfg.stg.len,.int .i64 s.cfg.bound,.int .i64 s.phase,.int .i64 s.tab.inputs,.slice A.p s.tab.pre.length A.pc,.slice A.q s.tab.suf.length A.qc,.int .i64 s.tIn,.slice A.n s.nodes.length A.nc,.int .i64 s.lz.inputs,.slice A.u s.lz.pre.length A.uc,.slice A.v s.lz.suf.length A.vc,.int .i64 s.obs.inputs,.slice A.t s.obs.traces.length A.tc,.int .i64 s.hyp.m.inputs,.int .i64 s.hyp.m.start,.slice A.x s.hyp.m.next.length A.xc,.slice A.y s.hyp.m.out.length A.yc,.slice A.z s.hyp.acc.length A.zc,.int .i64 s.rounds,.int .i64 s.code] 46):=⟨_,rfl⟩
 have hB:Below w.heap.size w W:=by rw [hW];exact (Below.refl _ _).alloc (Nat.le_refl _) _
 have hz:w.heap.size<W.heap.size:=by rw [hW];simp
 have cb:SeC (w.alloc (.cells #[.int .i64 s.cfg.inputs,.int .i64 s.cfg.kind,.int .i64 s.cfg.stg.kind,.int .i64 s.cfg.stg.extra,.int .u64 (s.cfg.stg.seed:Int),.int .i64 s.cfg.stg.count,.int .i64 s.cfg.stg.len,.int .i64 s.cfg.bound,.int .i64 s.phase,.int .i64 s.tab.inputs,.slice A.p s.tab.pre.length A.pc,.slice A.q s.tab.suf.length A.qc,.int .i64 s.tIn,.slice A.n s.nodes.length A.nc,.int .i64 s.lz.inputs,.slice A.u s.lz.pre.length A.uc,.slice A.v s.lz.suf.length A.vc,.int .i64 s.obs.inputs,.slice A.t s.obs.traces.length A.tc,.int .i64 s.hyp.m.inputs,.int .i64 s.hyp.m.start,.slice A.x s.hyp.m.next.length A.xc,.slice A.y s.hyp.m.out.length A.yc,.slice A.z s.hyp.acc.length A.zc,.int .i64 s.rounds,.int .i64 s.code] 46)) w.heap.size s A:=box_new w _ _
 clear hm her hcv hov hlv hhv hhb l7 l8 l9 hf
 go_enter Tryz.func15,Tryz.ntmps15
 go_wp2_with fail
 rw [←hW] at cb ⊢
 clear hW
 have HX:Hid (∀w',Below W.heap.size W w'→SeC w' w.heap.size s A∧Below w.heap.size w w'∧w.heap.size<w'.heap.size):=fun w' h=>⟨cb.below h hz,hB.trans (h.mono (by omega)),by have:=h.size;omega⟩
 clear hB hz cb
 refine (C1.out _).mono ?_
 rintro e w1 ⟨rfl,hU⟩
 obtain ⟨cb,hB, -⟩:=HX.out _ hU
 clear C1
 by_cases h0:cv=0
 rotate_left
 ·have hvb:(cv !=0)=true:=by simp [h0]
  have hr:=HE.out.trans (Ses.e_c Kc.out h0)
  clear h0
  subst hr
  go_wp2
  go_ret
  exact ⟨rfl,hB⟩
 have hvb:(cv !=0)=false:=by simp [h0]
 have D0:Hid (s.cfg.err=0):=Kc.out.trans h0
 clear h0
 by_cases h1:s.phase<0
 ·have hr:=HE.out.trans (Ses.e_r D0.out (.inl h1))
  subst hr
  go_wp2
  go_ret
  exact ⟨rfl,hB⟩
 by_cases h2:3<s.phase
 ·have hr:=HE.out.trans (Ses.e_r D0.out (.inr (.inl h2)))
  subst hr
  go_wp2
  go_ret
  exact ⟨rfl,hB⟩
 by_cases h3:s.rounds<0
 ·have hr:=HE.out.trans (Ses.e_r D0.out (.inr (.inr h3)))
  subst hr
  go_wp2
  go_ret
  exact ⟨rfl,hB⟩
 have D1:Hid (¬s.rng):=fun h=>by omega
 by_cases h4:s.phase=3
 ·have h4b:(s.phase==3)=true:=by simp [h4]
  by_cases h5:s.code=0
  ·have h5b:(s.code !=0)=false:=by simp [h5]
   have hr:=HE.out.trans (Ses.e_i D0.out D1.out (.inl ⟨h4,h5⟩))
   clear h4 h5
   subst hr
   go_wp2
   go_ret
   exact ⟨rfl,hB⟩
  have h5b:(s.code !=0)=true:=by simp [h5]
  have D2:Hid (¬s.cod):=fun h=>by rcases h with h|h;exact h5 h.2;exact h.1 h4
  have H4:=Lib.hid h4
  clear h4 h5
  go_wp2_with fail
  clear h1 h2 h3 h4b h5b
  refine (C2.out _ hB).mono ?_
  rintro e w2 ⟨rfl,hb⟩
  have hU2:=hU.trans (hb.mono hU.size)
  clear hb hU cb hB
  obtain ⟨cb,hB,hz2⟩:=HX.out _ hU2
  by_cases h0:ov=0
  rotate_left
  ·have hvb:(ov !=0)=true:=by simp [h0]
   have hr:=HE.out.trans (Ses.e_o D0.out D1.out D2.out Ko.out h0)
   clear h0
   subst hr
   go_wp2
   go_ret
   exact ⟨rfl,hB⟩
  have hvb:(ov !=0)=false:=by simp [h0]
  have D3:Hid (s.obs.err=0):=Ko.out.trans h0
  clear h0
  by_cases h6:s.obs.inputs=s.cfg.inputs
  rotate_left
  ·have h6b:(s.obs.inputs !=s.cfg.inputs)=true:=by simp [h6]
   have hr:=HE.out.trans (Ses.e_n D0.out D1.out D2.out D3.out h6)
   clear h6
   subst hr
   go_wp2
   go_ret
   exact ⟨rfl,hB⟩
  have h6b:(s.obs.inputs !=s.cfg.inputs)=false:=by simp [h6]
  have D4:=Lib.hid (HE.out.trans (Ses.e_l D0.out D1.out D2.out D3.out h6))
  clear h6
  have hrg:w2.rangeAt w.heap.size 0 [.int .i64 s.cfg.inputs,.int .i64 s.cfg.kind,.int .i64 s.cfg.stg.kind,.int .i64 s.cfg.stg.extra,.int .u64 (s.cfg.stg.seed:Int),.int .i64 s.cfg.stg.count,.int .i64 s.cfg.stg.len,.int .i64 s.cfg.bound,.int .i64 s.phase,.int .i64 s.tab.inputs,.slice A.p s.tab.pre.length A.pc,.slice A.q s.tab.suf.length A.qc,.int .i64 s.tIn,.slice A.n s.nodes.length A.nc,.int .i64 s.lz.inputs,.slice A.u s.lz.pre.length A.uc,.slice A.v s.lz.suf.length A.vc,.int .i64 s.obs.inputs,.slice A.t s.obs.traces.length A.tc,.int .i64 s.hyp.m.inputs,.int .i64 s.hyp.m.start,.slice A.x s.hyp.m.next.length A.xc,.slice A.y s.hyp.m.out.length A.yc,.slice A.z s.hyp.acc.length A.zc,.int .i64 s.rounds,.int .i64 s.code]:=fun j x hx=>by
   rw [Nat.zero_add,cb]
   rw [←hx]
   exact List.getElem?_toArray
  have HRG:=Lib.hid hrg
  have hb3:=(Below.refl w2.heap.size w2).alloc (Nat.le_refl _) (.cells #[.int .i64 s.cfg.inputs,.int .i64 s.cfg.kind,.int .i64 s.cfg.stg.kind,.int .i64 s.cfg.stg.extra,.int .u64 (s.cfg.stg.seed:Int),.int .i64 s.cfg.stg.count,.int .i64 s.cfg.stg.len,.int .i64 s.cfg.bound,.int .i64 s.phase,.int .i64 s.tab.inputs,.slice A.p s.tab.pre.length A.pc,.slice A.q s.tab.suf.length A.qc,.int .i64 s.tIn,.slice A.n s.nodes.length A.nc,.int .i64 s.lz.inputs,.slice A.u s.lz.pre.length A.uc,.slice A.v s.lz.suf.length A.vc,.int .i64 s.obs.inputs,.slice A.t s.obs.traces.length A.tc,.int .i64 s.hyp.m.inputs,.int .i64 s.hyp.m.start,.slice A.x s.hyp.m.next.length A.xc,.slice A.y s.hyp.m.out.length A.yc,.slice A.z s.hyp.acc.length A.zc,.int .i64 s.rounds,.int .i64 s.code] 66)
  have hU3:=hU2.trans (hb3.mono hU2.size)
  obtain ⟨-,hB3, -⟩:=HX.out _ hU3
  have HL:=Lib.hid (C3.out _ hB3 w2.heap.size (by simp) (box_new w2 _ _) (Ses.kind_of D0.out))
  clear hrg hb3 C2 C3 hB3 hU2 hz2
  go_wp2_with (refine wpList_load_mid rfl 46 _ rfl w.heap.size 0 rfl [.int .i64 s.cfg.inputs,.int .i64 s.cfg.kind,.int .i64 s.cfg.stg.kind,.int .i64 s.cfg.stg.extra,.int .u64 (s.cfg.stg.seed:Int),.int .i64 s.cfg.stg.count,.int .i64 s.cfg.stg.len,.int .i64 s.cfg.bound,.int .i64 s.phase,.int .i64 s.tab.inputs,.slice A.p s.tab.pre.length A.pc,.slice A.q s.tab.suf.length A.qc,.int .i64 s.tIn,.slice A.n s.nodes.length A.nc,.int .i64 s.lz.inputs,.slice A.u s.lz.pre.length A.uc,.slice A.v s.lz.suf.length A.vc,.int .i64 s.obs.inputs,.slice A.t s.obs.traces.length A.tc,.int .i64 s.hyp.m.inputs,.int .i64 s.hyp.m.start,.slice A.x s.hyp.m.next.length A.xc,.slice A.y s.hyp.m.out.length A.yc,.slice A.z s.hyp.acc.length A.zc,.int .i64 s.rounds,.int .i64 s.code] _ HRG.out Tryz.underlying46 rfl (by kernel_rfl) ?_)
  refine HL.out.mono ?_
  rintro e w4 ⟨rfl,hb⟩
  have hU4:=hU3.trans (hb.mono hU3.size)
  clear hb hU3 cb hB HRG HL
  obtain ⟨cb,hB, -⟩:=HX.out _ hU4
  by_cases h0:lv=0
  rotate_left
  ·have hvb:(lv !=0)=true:=by simp [h0]
   have hr:=D4.out.trans ((if_pos (by rw [Kl.out];exact h0)).trans Kl.out)
   clear h0
   subst hr
   go_wp2
   go_ret
   exact ⟨rfl,hB⟩
  have hvb:(lv !=0)=false:=by simp [h0]
  have D5:=Lib.hid (D4.out.trans (if_neg (by rw [Kl.out];exact fun h=>h h0)))
  clear h0
  by_cases p1:s.phase=1
  ·have p1b:(s.phase !=1)=false:=by simp [p1]
   have HP:Hid (s.phase=1∨s.phase=2):= .inl p1
   clear p1
   go_wp2_with fail
   refine (C4.out _ hB).mono ?_
   rintro e w5 ⟨rfl,hb5⟩
   have hU5:=hU4.trans (hb5.mono hU4.size)
   clear hb5 cb hB
   obtain ⟨cb,hB, -⟩:=HX.out _ hU5
   by_cases h0:hv=0
   rotate_left
   ·have hwb:(hv !=0)=true:=by simp [h0]
    have hr:=D5.out.trans (Ses.h_e HP.out Kh.out h0)
    clear h0
    subst hr
    go_wp2
    go_ret
    exact ⟨rfl,hB⟩
   have hwb:(hv !=0)=false:=by simp [h0]
   have D6:=Lib.hid (D5.out.trans (Ses.h_n HP.out (Kh.out.trans h0)))
   clear h0
   by_cases h7:s.hyp.m.inputs=s.cfg.inputs
   rotate_left
   ·have h7b:(s.hyp.m.inputs !=s.cfg.inputs)=true:=by simp [h7]
    have hr:=D6.out.trans (if_pos h7)
    clear h7
    subst hr
    go_wp2
    go_ret
    exact ⟨rfl,hB⟩
   have h7b:(s.hyp.m.inputs !=s.cfg.inputs)=false:=by simp [h7]
   have hr:=D6.out.trans (if_neg (fun h=>h h7))
   clear h7
   subst hr
   go_wp2
   go_ret
   exact ⟨rfl,hB⟩
  have p1b:(s.phase !=1)=true:=by simp [p1]
  by_cases p2:s.phase=2
  ·have p2b:(s.phase !=2)=false:=by simp [p2]
   have HP:Hid (s.phase=1∨s.phase=2):= .inr p2
   clear p1 p2
   go_wp2_with fail
   refine (C4.out _ hB).mono ?_
   rintro e w5 ⟨rfl,hb5⟩
   have hU5:=hU4.trans (hb5.mono hU4.size)
   clear hb5 cb hB
   obtain ⟨cb,hB, -⟩:=HX.out _ hU5
   by_cases h0:hv=0
   rotate_left
   ·have hwb:(hv !=0)=true:=by simp [h0]
    have hr:=D5.out.trans (Ses.h_e HP.out Kh.out h0)
    clear h0
    subst hr
    go_wp2
    go_ret
    exact ⟨rfl,hB⟩
   have hwb:(hv !=0)=false:=by simp [h0]
   have D6:=Lib.hid (D5.out.trans (Ses.h_n HP.out (Kh.out.trans h0)))
   clear h0
   by_cases h7:s.hyp.m.inputs=s.cfg.inputs
   rotate_left
   ·have h7b:(s.hyp.m.inputs !=s.cfg.inputs)=true:=by simp [h7]
    have hr:=D6.out.trans (if_pos h7)
    clear h7
    subst hr
    go_wp2
    go_ret
    exact ⟨rfl,hB⟩
   have h7b:(s.hyp.m.inputs !=s.cfg.inputs)=false:=by simp [h7]
   have hr:=D6.out.trans (if_neg (fun h=>h h7))
   clear h7
   subst hr
   go_wp2
   go_ret
   exact ⟨rfl,hB⟩
  have p2b:(s.phase !=2)=true:=by simp [p2]
  have D6:=Lib.hid (D5.out.trans (Ses.h_b p1 p2))
  clear p1 p2 cb
  have cb:=(HX.out _ hU4).1
  go_wp2_with fail
  refine (C5.out _).mono ?_
  rintro e w5 ⟨rfl,hb5⟩
  have hB5:=hB.trans (hb5.mono hB.size)
  clear hb5 cb hB
  cases hb with
  |false=>
   have hr:=D6.out.trans (if_neg (fun h=>absurd (Kb.out.symm.trans (Ses.hB_iff.2 h)) (by decide)))
   subst hr
   go_wp2
   go_ret
   exact ⟨rfl,hB5⟩
  |true=>
   have hr:=D6.out.trans (if_pos (Ses.hB_iff.1 Kb.out))
   subst hr
   go_wp2
   go_ret
   exact ⟨rfl,hB5⟩
 have h4b:(s.phase==3)=false:=by simp [h4]
 by_cases h5:s.code=0
 rotate_left
 ·have h5b:(s.code !=0)=true:=by simp [h5]
  have hr:=HE.out.trans (Ses.e_i D0.out D1.out (.inr ⟨h4,h5⟩))
  clear h4 h5
  subst hr
  go_wp2
  go_ret
  exact ⟨rfl,hB⟩
 have h5b:(s.code !=0)=false:=by simp [h5]
 have D2:Hid (¬s.cod):=fun h=>by rcases h with h|h;exact h4 h.1;exact h.2 h5
 have H4:=Lib.hid h4
 clear h4 h5
 go_wp2_with fail
 clear h1 h2 h3 h4b h5b
 refine (C2.out _ hB).mono ?_
 rintro e w2 ⟨rfl,hb⟩
 have hU2:=hU.trans (hb.mono hU.size)
 clear hb hU cb hB
 obtain ⟨cb,hB,hz2⟩:=HX.out _ hU2
 by_cases h0:ov=0
 rotate_left
 ·have hvb:(ov !=0)=true:=by simp [h0]
  have hr:=HE.out.trans (Ses.e_o D0.out D1.out D2.out Ko.out h0)
  clear h0
  subst hr
  go_wp2
  go_ret
  exact ⟨rfl,hB⟩
 have hvb:(ov !=0)=false:=by simp [h0]
 have D3:Hid (s.obs.err=0):=Ko.out.trans h0
 clear h0
 by_cases h6:s.obs.inputs=s.cfg.inputs
 rotate_left
 ·have h6b:(s.obs.inputs !=s.cfg.inputs)=true:=by simp [h6]
  have hr:=HE.out.trans (Ses.e_n D0.out D1.out D2.out D3.out h6)
  clear h6
  subst hr
  go_wp2
  go_ret
  exact ⟨rfl,hB⟩
 have h6b:(s.obs.inputs !=s.cfg.inputs)=false:=by simp [h6]
 have D4:=Lib.hid (HE.out.trans (Ses.e_l D0.out D1.out D2.out D3.out h6))
 clear h6
 have hrg:w2.rangeAt w.heap.size 0 [.int .i64 s.cfg.inputs,.int .i64 s.cfg.kind,.int .i64 s.cfg.stg.kind,.int .i64 s.cfg.stg.extra,.int .u64 (s.cfg.stg.seed:Int),.int .i64 s.cfg.stg.count,.int .i64 s.cfg.stg.len,.int .i64 s.cfg.bound,.int .i64 s.phase,.int .i64 s.tab.inputs,.slice A.p s.tab.pre.length A.pc,.slice A.q s.tab.suf.length A.qc,.int .i64 s.tIn,.slice A.n s.nodes.length A.nc,.int .i64 s.lz.inputs,.slice A.u s.lz.pre.length A.uc,.slice A.v s.lz.suf.length A.vc,.int .i64 s.obs.inputs,.slice A.t s.obs.traces.length A.tc,.int .i64 s.hyp.m.inputs,.int .i64 s.hyp.m.start,.slice A.x s.hyp.m.next.length A.xc,.slice A.y s.hyp.m.out.length A.yc,.slice A.z s.hyp.acc.length A.zc,.int .i64 s.rounds,.int .i64 s.code]:=fun j x hx=>by
  rw [Nat.zero_add,cb]
  rw [←hx]
  exact List.getElem?_toArray
 have HRG:=Lib.hid hrg
 have hb3:=(Below.refl w2.heap.size w2).alloc (Nat.le_refl _) (.cells #[.int .i64 s.cfg.inputs,.int .i64 s.cfg.kind,.int .i64 s.cfg.stg.kind,.int .i64 s.cfg.stg.extra,.int .u64 (s.cfg.stg.seed:Int),.int .i64 s.cfg.stg.count,.int .i64 s.cfg.stg.len,.int .i64 s.cfg.bound,.int .i64 s.phase,.int .i64 s.tab.inputs,.slice A.p s.tab.pre.length A.pc,.slice A.q s.tab.suf.length A.qc,.int .i64 s.tIn,.slice A.n s.nodes.length A.nc,.int .i64 s.lz.inputs,.slice A.u s.lz.pre.length A.uc,.slice A.v s.lz.suf.length A.vc,.int .i64 s.obs.inputs,.slice A.t s.obs.traces.length A.tc,.int .i64 s.hyp.m.inputs,.int .i64 s.hyp.m.start,.slice A.x s.hyp.m.next.length A.xc,.slice A.y s.hyp.m.out.length A.yc,.slice A.z s.hyp.acc.length A.zc,.int .i64 s.rounds,.int .i64 s.code] 66)
 have hU3:=hU2.trans (hb3.mono hU2.size)
 obtain ⟨-,hB3, -⟩:=HX.out _ hU3
 have HL:=Lib.hid (C3.out _ hB3 w2.heap.size (by simp) (box_new w2 _ _) (Ses.kind_of D0.out))
 clear hrg hb3 C2 C3 hB3 hU2 hz2
 go_wp2_with (refine wpList_load_mid rfl 46 _ rfl w.heap.size 0 rfl [.int .i64 s.cfg.inputs,.int .i64 s.cfg.kind,.int .i64 s.cfg.stg.kind,.int .i64 s.cfg.stg.extra,.int .u64 (s.cfg.stg.seed:Int),.int .i64 s.cfg.stg.count,.int .i64 s.cfg.stg.len,.int .i64 s.cfg.bound,.int .i64 s.phase,.int .i64 s.tab.inputs,.slice A.p s.tab.pre.length A.pc,.slice A.q s.tab.suf.length A.qc,.int .i64 s.tIn,.slice A.n s.nodes.length A.nc,.int .i64 s.lz.inputs,.slice A.u s.lz.pre.length A.uc,.slice A.v s.lz.suf.length A.vc,.int .i64 s.obs.inputs,.slice A.t s.obs.traces.length A.tc,.int .i64 s.hyp.m.inputs,.int .i64 s.hyp.m.start,.slice A.x s.hyp.m.next.length A.xc,.slice A.y s.hyp.m.out.length A.yc,.slice A.z s.hyp.acc.length A.zc,.int .i64 s.rounds,.int .i64 s.code] _ HRG.out Tryz.underlying46 rfl (by kernel_rfl) ?_)
 refine HL.out.mono ?_
 rintro e w4 ⟨rfl,hb⟩
 have hU4:=hU3.trans (hb.mono hU3.size)
 clear hb hU3 cb hB HRG HL
 obtain ⟨cb,hB, -⟩:=HX.out _ hU4
 by_cases h0:lv=0
 rotate_left
 ·have hvb:(lv !=0)=true:=by simp [h0]
  have hr:=D4.out.trans ((if_pos (by rw [Kl.out];exact h0)).trans Kl.out)
  clear h0
  subst hr
  go_wp2
  go_ret
  exact ⟨rfl,hB⟩
 have hvb:(lv !=0)=false:=by simp [h0]
 have D5:=Lib.hid (D4.out.trans (if_neg (by rw [Kl.out];exact fun h=>h h0)))
 clear h0
 by_cases p1:s.phase=1
 ·have p1b:(s.phase !=1)=false:=by simp [p1]
  have HP:Hid (s.phase=1∨s.phase=2):= .inl p1
  clear p1
  go_wp2_with fail
  refine (C4.out _ hB).mono ?_
  rintro e w5 ⟨rfl,hb5⟩
  have hU5:=hU4.trans (hb5.mono hU4.size)
  clear hb5 cb hB
  obtain ⟨cb,hB, -⟩:=HX.out _ hU5
  by_cases h0:hv=0
  rotate_left
  ·have hwb:(hv !=0)=true:=by simp [h0]
   have hr:=D5.out.trans (Ses.h_e HP.out Kh.out h0)
   clear h0
   subst hr
   go_wp2
   go_ret
   exact ⟨rfl,hB⟩
  have hwb:(hv !=0)=false:=by simp [h0]
  have D6:=Lib.hid (D5.out.trans (Ses.h_n HP.out (Kh.out.trans h0)))
  clear h0
  by_cases h7:s.hyp.m.inputs=s.cfg.inputs
  rotate_left
  ·have h7b:(s.hyp.m.inputs !=s.cfg.inputs)=true:=by simp [h7]
   have hr:=D6.out.trans (if_pos h7)
   clear h7
   subst hr
   go_wp2
   go_ret
   exact ⟨rfl,hB⟩
  have h7b:(s.hyp.m.inputs !=s.cfg.inputs)=false:=by simp [h7]
  have hr:=D6.out.trans (if_neg (fun h=>h h7))
  clear h7
  subst hr
  go_wp2
  go_ret
  exact ⟨rfl,hB⟩
 have p1b:(s.phase !=1)=true:=by simp [p1]
 by_cases p2:s.phase=2
 ·have p2b:(s.phase !=2)=false:=by simp [p2]
  have HP:Hid (s.phase=1∨s.phase=2):= .inr p2
  clear p1 p2
  go_wp2_with fail
  refine (C4.out _ hB).mono ?_
  rintro e w5 ⟨rfl,hb5⟩
  have hU5:=hU4.trans (hb5.mono hU4.size)
  clear hb5 cb hB
  obtain ⟨cb,hB, -⟩:=HX.out _ hU5
  by_cases h0:hv=0
  rotate_left
  ·have hwb:(hv !=0)=true:=by simp [h0]
   have hr:=D5.out.trans (Ses.h_e HP.out Kh.out h0)
   clear h0
   subst hr
   go_wp2
   go_ret
   exact ⟨rfl,hB⟩
  have hwb:(hv !=0)=false:=by simp [h0]
  have D6:=Lib.hid (D5.out.trans (Ses.h_n HP.out (Kh.out.trans h0)))
  clear h0
  by_cases h7:s.hyp.m.inputs=s.cfg.inputs
  rotate_left
  ·have h7b:(s.hyp.m.inputs !=s.cfg.inputs)=true:=by simp [h7]
   have hr:=D6.out.trans (if_pos h7)
   clear h7
   subst hr
   go_wp2
   go_ret
   exact ⟨rfl,hB⟩
  have h7b:(s.hyp.m.inputs !=s.cfg.inputs)=false:=by simp [h7]
  have hr:=D6.out.trans (if_neg (fun h=>h h7))
  clear h7
  subst hr
  go_wp2
  go_ret
  exact ⟨rfl,hB⟩
 have p2b:(s.phase !=2)=true:=by simp [p2]
 have D6:=Lib.hid (D5.out.trans (Ses.h_b p1 p2))
 clear p1 p2 cb
 have cb:=(HX.out _ hU4).1
 go_wp2_with fail
 refine (C5.out _).mono ?_
 rintro e w5 ⟨rfl,hb5⟩
 have hB5:=hB.trans (hb5.mono hB.size)
 clear hb5 cb hB
 cases hb with
 |false=>
  have hr:=D6.out.trans (if_neg (fun h=>absurd (Kb.out.symm.trans (Ses.hB_iff.2 h)) (by decide)))
  subst hr
  go_wp2
  go_ret
  exact ⟨rfl,hB5⟩
 |true=>
  have hr:=D6.out.trans (if_pos (Ses.hB_iff.1 Kb.out))
  subst hr
  go_wp2
  go_ret
  exact ⟨rfl,hB5⟩
end
section
variable {w:World} {M:Nat→Prop} {A:Sad} {s:Ses}
theorem rlearn_any (hm:Sem M w A s) (hf:Hid s.Fit) (hb:s.blank) (hk:Hid (s.cfg.kind=1∨s.cfg.kind=2∨s.cfg.kind=3)) {er:Int} (her:s.lErr=er):
    Calls Tryz.prog 42 #[.agg #[.int .i64 s.cfg.inputs,.int .i64 s.cfg.kind,.int .i64 s.cfg.stg.kind,.int .i64 s.cfg.stg.extra,.int .u64 (s.cfg.stg.seed:Int),.int .i64 s.cfg.stg.count,.int .i64 s.cfg.stg.len,.int .i64 s.cfg.bound,.int .i64 s.phase,.int .i64 s.tab.inputs,.slice A.p s.tab.pre.length A.pc,.slice A.q s.tab.suf.length A.qc,.int .i64 s.tIn,.slice A.n s.nodes.length A.nc,.int .i64 s.lz.inputs,.slice A.u s.lz.pre.length A.uc,.slice A.v s.lz.suf.length A.vc,.int .i64 s.obs.inputs,.slice A.t s.obs.traces.length A.tc,.int .i64 s.hyp.m.inputs,.int .i64 s.hyp.m.start,.slice A.x s.hyp.m.next.length A.xc,.slice A.y s.hyp.m.out.length A.yc,.slice A.z s.hyp.acc.length A.zc,.int .i64 s.rounds,.int .i64 s.code]] w fun e w'=>e= .returned (.int .i64 er)∧Below w.heap.size w w':=by
 obtain ⟨kd,hkd⟩:∃k,s.cfg.kind=k:=⟨_,rfl⟩
 have HE:=Lib.hid her.symm
 have hBk:=Lib.hid hb
 have hKd:=Lib.hid hkd
 have HTa:=Lib.hid (fun w' (hb:Below w.heap.size w w')=>fun v (hv:s.tab.err=v)=>tvalidR_any (hm.below hb).tab hv)
 have HTl:=Lib.hid (fun w' (hb:Below w.heap.size w w')=>fun v (hv:s.lz.err=v)=>tvalidR_any (hm.below hb).lz hv)
 have HTd:=Lib.hid (fun w' (hb:Below w.heap.size w w')=>fun v (hv:dtErr s.nodes=v)=>dvalidR_any (hm.below hb).n hf.out.nd hv)
 obtain ⟨W,hW⟩:∃W,W=w.alloc (.cells #[.int .i64 s.cfg.inputs,.int .i64 s.cfg.kind,.int .i64 s.cfg.stg.kind,.int .i64 s.cfg.stg.extra,.int .u64 (s.cfg.stg.seed:Int),.int .i64 s.cfg.stg.count,.int .i64 s.cfg.stg.len,.int .i64 s.cfg.bound,.int .i64 s.phase,.int .i64 s.tab.inputs,.slice A.p s.tab.pre.length A.pc,.slice A.q s.tab.suf.length A.qc,.int .i64 s.tIn,.slice A.n s.nodes.length A.nc,.int .i64 s.lz.inputs,.slice A.u s.lz.pre.length A.uc,.slice A.v s.lz.suf.length A.vc,.int .i64 s.obs.inputs,.slice A.t s.obs.traces.length A.tc,.int .i64 s.hyp.m.inputs,.int .i64 s.hyp.m.start,.slice A.x s.hyp.m.next.length A.xc,.slice A.y s.hyp.m.out.length A.yc,.slice A.z s.hyp.acc.length A.zc,.int .i64 s.rounds,.int .i64 s.code] 46):=⟨_,rfl⟩
 have hB:Below w.heap.size w W:=by rw [hW];exact (Below.refl _ _).alloc (Nat.le_refl _) _
 have hz:w.heap.size<W.heap.size:=by rw [hW];simp
 have cb:SeC (w.alloc (.cells #[.int .i64 s.cfg.inputs,.int .i64 s.cfg.kind,.int .i64 s.cfg.stg.kind,.int .i64 s.cfg.stg.extra,.int .u64 (s.cfg.stg.seed:Int),.int .i64 s.cfg.stg.count,.int .i64 s.cfg.stg.len,.int .i64 s.cfg.bound,.int .i64 s.phase,.int .i64 s.tab.inputs,.slice A.p s.tab.pre.length A.pc,.slice A.q s.tab.suf.length A.qc,.int .i64 s.tIn,.slice A.n s.nodes.length A.nc,.int .i64 s.lz.inputs,.slice A.u s.lz.pre.length A.uc,.slice A.v s.lz.suf.length A.vc,.int .i64 s.obs.inputs,.slice A.t s.obs.traces.length A.tc,.int .i64 s.hyp.m.inputs,.int .i64 s.hyp.m.start,.slice A.x s.hyp.m.next.length A.xc,.slice A.y s.hyp.m.out.length A.yc,.slice A.z s.hyp.acc.length A.zc,.int .i64 s.rounds,.int .i64 s.code] 46)) w.heap.size s A:=box_new w _ _
 clear hm her hb hf
 rw [hkd] at hk
 clear hkd
 go_enter Tryz.func42,Tryz.ntmps42
 go_upto_region 1 with (fail)
 rw [←hW] at cb ⊢
 clear hW
 have HX:=Lib.hid (fun w' (h:Below W.heap.size W w')=>(⟨cb.below h hz,hB.trans (h.mono (Nat.le_of_lt hz))⟩:SeC w' w.heap.size s A∧Below w.heap.size w w'))
 have x1:W.cell? ⟨w.heap.size,1,none⟩=some (.int .i64 kd):=by rw [←hKd.out];exact cb 1
 have x0:=cb 0
 have x9:=cb 9
 have x10:=cb 10
 have x11:=cb 11
 have x12:=cb 12
 have x13:=cb 13
 have x14:=cb 14
 have x15:=cb 15
 have x16:=cb 16
 simp only [List.getElem?_toArray,List.getElem?_cons_zero,List.getElem?_cons_succ] at x0 x9 x10 x11 x12 x13 x14 x15 x16
 clear cb
 obtain rfl|rfl|rfl:=hk.out
 ·by_cases hI:s.tab.inputs=s.cfg.inputs
  rotate_left
  ·have hIb:(s.tab.inputs !=s.cfg.inputs)=true:=by simp [hI]
   have hr:=HE.out.trans ((Ses.lE_1 hBk.out hKd.out).trans (if_pos hI))
   clear hI
   subst hr
   go_wp2
   go_ret
   exact ⟨rfl,hB⟩
  have hIb:(s.tab.inputs !=s.cfg.inputs)=false:=by simp [hI]
  have hr:=HE.out.trans ((Ses.lE_1 hBk.out hKd.out).trans (if_neg (fun h=>h hI)))
  clear hI
  subst hr
  go_wp2_with fail
  refine (HTa.out _ hB _ rfl).mono ?_
  rintro e w2 ⟨rfl,hb2⟩
  have hB2:=hB.trans (hb2.mono hB.size)
  go_wp2
  go_ret
  exact ⟨rfl,hB2⟩
 ·obtain ⟨dv,hdv⟩:∃v,dtErr s.nodes=v:=⟨_,rfl⟩
  have hLk:=Lib.hid (HE.out.trans (Ses.lE_2 hBk.out hKd.out))
  go_wp2_with fail
  refine (HTd.out _ hB _ hdv).mono ?_
  rintro e w2 ⟨rfl,hb2⟩
  clear hB x0 x1 x9 x10 x11 x12 x13 x14 x15 x16
  obtain ⟨cb,hB⟩:=HX.out _ hb2
  clear hb2
  by_cases hv0:dv=0
  rotate_left
  ·have hvb:(dv !=0)=true:=by simp [hv0]
   have hr:=hLk.out.trans ((if_pos (by rw [hdv];exact hv0)).trans hdv)
   clear hv0 hdv
   subst hr
   go_wp2
   go_ret
   exact ⟨rfl,hB⟩
  have hvb:(dv !=0)=false:=by simp [hv0]
  have hR:=Lib.hid (hLk.out.trans (if_neg (by rw [hdv];exact fun h=>h hv0)))
  clear hv0 hdv
  by_cases hI:s.tIn=s.cfg.inputs
  rotate_left
  ·have hIb:(s.tIn !=s.cfg.inputs)=true:=by simp [hI]
   have hr:=hR.out.trans (if_pos hI)
   clear hI
   subst hr
   go_wp2
   go_ret
   exact ⟨rfl,hB⟩
  have hIb:(s.tIn !=s.cfg.inputs)=false:=by simp [hI]
  have hr:=hR.out.trans (if_neg (fun h=>h hI))
  clear hI
  subst hr
  go_wp2
  go_ret
  exact ⟨rfl,hB⟩
 by_cases hI:s.lz.inputs=s.cfg.inputs
 rotate_left
 ·have hIb:(s.lz.inputs !=s.cfg.inputs)=true:=by simp [hI]
  have hr:=HE.out.trans ((Ses.lE_3 hBk.out hKd.out).trans (if_pos hI))
  clear hI
  subst hr
  go_wp2
  go_ret
  exact ⟨rfl,hB⟩
 have hIb:(s.lz.inputs !=s.cfg.inputs)=false:=by simp [hI]
 have hr:=HE.out.trans ((Ses.lE_3 hBk.out hKd.out).trans (if_neg (fun h=>h hI)))
 clear hI
 subst hr
 go_wp2_with fail
 refine (HTl.out _ hB _ rfl).mono ?_
 rintro e w2 ⟨rfl,hb2⟩
 have hB2:=hB.trans (hb2.mono hB.size)
 go_wp2
 go_ret
 exact ⟨rfl,hB2⟩
abbrev bkB (s:Ses):Bool:=(((s.tab.inputs==0)&&(((s.tab.pre.length:Int)==0)&&((s.tab.suf.length:Int)==0)))||(s.cfg.kind==1))&&((((s.tIn==0)&&((s.nodes.length:Int)==0))||(s.cfg.kind==2))&&(((s.lz.inputs==0)&&(((s.lz.pre.length:Int)==0)&&((s.lz.suf.length:Int)==0)))||(s.cfg.kind==3)))
theorem bkB_iff:bkB s=true↔s.blank:=by
 unfold bkB Ses.blank Tab.blank
 simp only [Bool.and_eq_true,Bool.or_eq_true,beq_iff_eq,Int.natCast_eq_zero]
 constructor
 ·rintro ⟨h1,h2,h3⟩;exact ⟨h1.symm,h2.symm,h3.symm⟩
 rintro ⟨h1,h2,h3⟩;exact ⟨h1.symm,h2.symm,h3.symm⟩
theorem bool3 (a b c:Bool):a=false∨(a=true∧b=false)∨(a=true∧b=true∧c=false)∨(a=true∧b=true∧c=true):=by cases a<;>cases b<;>cases c<;>simp
theorem bool2 (a b:Bool):a=false∨(a=true∧b=false)∨(a=true∧b=true):=by cases a<;>cases b<;>simp
theorem rblank_any (hm:Sem M w A s) (hk:Hid (s.cfg.kind=1∨s.cfg.kind=2∨s.cfg.kind=3)) {v:Bool} (hv:bkB s=v):
    Calls Tryz.prog 41 #[.agg #[.int .i64 s.cfg.inputs,.int .i64 s.cfg.kind,.int .i64 s.cfg.stg.kind,.int .i64 s.cfg.stg.extra,.int .u64 (s.cfg.stg.seed:Int),.int .i64 s.cfg.stg.count,.int .i64 s.cfg.stg.len,.int .i64 s.cfg.bound,.int .i64 s.phase,.int .i64 s.tab.inputs,.slice A.p s.tab.pre.length A.pc,.slice A.q s.tab.suf.length A.qc,.int .i64 s.tIn,.slice A.n s.nodes.length A.nc,.int .i64 s.lz.inputs,.slice A.u s.lz.pre.length A.uc,.slice A.v s.lz.suf.length A.vc,.int .i64 s.obs.inputs,.slice A.t s.obs.traces.length A.tc,.int .i64 s.hyp.m.inputs,.int .i64 s.hyp.m.start,.slice A.x s.hyp.m.next.length A.xc,.slice A.y s.hyp.m.out.length A.yc,.slice A.z s.hyp.acc.length A.zc,.int .i64 s.rounds,.int .i64 s.code]] w fun e w'=>e= .returned (.bool v)∧Below w.heap.size w w':=by
 obtain ⟨kd,hkd⟩:∃k,s.cfg.kind=k:=⟨_,rfl⟩
 have l1:=hm.p.le
 have l2:=hm.q.le
 have l3:=hm.n.le
 have l4:=hm.u.le
 have l5:=hm.v.le
 obtain ⟨i1,a1⟩:∃b,(s.tab.inputs==0)=b:=⟨_,rfl⟩
 obtain ⟨i2,a2⟩:∃b,((s.tab.pre.length:Int)==0)=b:=⟨_,rfl⟩
 obtain ⟨i3,a3⟩:∃b,((s.tab.suf.length:Int)==0)=b:=⟨_,rfl⟩
 obtain ⟨i4,a4⟩:∃b,(s.tIn==0)=b:=⟨_,rfl⟩
 obtain ⟨i5,a5⟩:∃b,((s.nodes.length:Int)==0)=b:=⟨_,rfl⟩
 obtain ⟨i6,a6⟩:∃b,(s.lz.inputs==0)=b:=⟨_,rfl⟩
 obtain ⟨i7,a7⟩:∃b,((s.lz.pre.length:Int)==0)=b:=⟨_,rfl⟩
 obtain ⟨i8,a8⟩:∃b,((s.lz.suf.length:Int)==0)=b:=⟨_,rfl⟩
 obtain ⟨W,hW⟩:∃W,W=w.alloc (.cells #[.int .i64 s.cfg.inputs,.int .i64 s.cfg.kind,.int .i64 s.cfg.stg.kind,.int .i64 s.cfg.stg.extra,.int .u64 (s.cfg.stg.seed:Int),.int .i64 s.cfg.stg.count,.int .i64 s.cfg.stg.len,.int .i64 s.cfg.bound,.int .i64 s.phase,.int .i64 s.tab.inputs,.slice A.p s.tab.pre.length A.pc,.slice A.q s.tab.suf.length A.qc,.int .i64 s.tIn,.slice A.n s.nodes.length A.nc,.int .i64 s.lz.inputs,.slice A.u s.lz.pre.length A.uc,.slice A.v s.lz.suf.length A.vc,.int .i64 s.obs.inputs,.slice A.t s.obs.traces.length A.tc,.int .i64 s.hyp.m.inputs,.int .i64 s.hyp.m.start,.slice A.x s.hyp.m.next.length A.xc,.slice A.y s.hyp.m.out.length A.yc,.slice A.z s.hyp.acc.length A.zc,.int .i64 s.rounds,.int .i64 s.code] 46):=⟨_,rfl⟩
 have hB:Below w.heap.size w W:=by rw [hW];exact (Below.refl _ _).alloc (Nat.le_refl _) _
 have hz:w.heap.size<W.heap.size:=by rw [hW];simp
 have cb:SeC (w.alloc (.cells #[.int .i64 s.cfg.inputs,.int .i64 s.cfg.kind,.int .i64 s.cfg.stg.kind,.int .i64 s.cfg.stg.extra,.int .u64 (s.cfg.stg.seed:Int),.int .i64 s.cfg.stg.count,.int .i64 s.cfg.stg.len,.int .i64 s.cfg.bound,.int .i64 s.phase,.int .i64 s.tab.inputs,.slice A.p s.tab.pre.length A.pc,.slice A.q s.tab.suf.length A.qc,.int .i64 s.tIn,.slice A.n s.nodes.length A.nc,.int .i64 s.lz.inputs,.slice A.u s.lz.pre.length A.uc,.slice A.v s.lz.suf.length A.vc,.int .i64 s.obs.inputs,.slice A.t s.obs.traces.length A.tc,.int .i64 s.hyp.m.inputs,.int .i64 s.hyp.m.start,.slice A.x s.hyp.m.next.length A.xc,.slice A.y s.hyp.m.out.length A.yc,.slice A.z s.hyp.acc.length A.zc,.int .i64 s.rounds,.int .i64 s.code] 46)) w.heap.size s A:=box_new w _ _
 unfold bkB at hv
 rw [a1,a2,a3,a4,a5,a6,a7,a8,hkd] at hv
 rw [hkd] at hk
 have hKd:=Lib.hid hkd
 have hV:=Lib.hid hv
 clear hm hkd hv
 go_enter Tryz.func41,Tryz.ntmps41
 go_upto_region 1 with (fail)
 rw [←hW] at cb ⊢
 clear hW hz
 have x1:W.cell? ⟨w.heap.size,1,none⟩=some (.int .i64 kd):=by rw [←hKd.out];exact cb 1
 have x9:=cb 9
 have x10:=cb 10
 have x11:=cb 11
 have x12:=cb 12
 have x13:=cb 13
 have x14:=cb 14
 have x15:=cb 15
 have x16:=cb 16
 simp only [List.getElem?_toArray,List.getElem?_cons_zero,List.getElem?_cons_succ] at x9 x10 x11 x12 x13 x14 x15 x16
 clear cb hKd
 obtain rfl|⟨rfl,rfl⟩|⟨rfl,rfl,rfl⟩|⟨rfl,rfl,rfl⟩:=bool3 i1 i2 i3
 all_goals
  go_upto_region 2 with (fail)
  obtain rfl|⟨rfl,rfl⟩|⟨rfl,rfl⟩:=bool2 i4 i5
  all_goals
   go_upto_region 3 with (fail)
   obtain rfl|⟨rfl,rfl⟩|⟨rfl,rfl,rfl⟩|⟨rfl,rfl,rfl⟩:=bool3 i6 i7 i8
   all_goals
    go_upto_region 4 with (fail)
    obtain rfl|rfl|rfl:=hk.out
    all_goals
     go_wp2
     go_ret
     have hv:=hV.out
     subst hv
     exact ⟨rfl,hB⟩
end
section
variable {w:World} {M:Nat→Prop} {i1 i2 s1 s2:Int} {a1 a2 b1 b2 z1 z2:Option Addr} {c1 c2 d1 d2 e1 e2:Nat} {n1 n2 o1 o2 x1 x2:List (List Int)}
theorem lists_d (h1:Sl (fun _=>False) w a1 c1 n1) (h2:Sl (fun _=>False) w a2 c2 n2) {v:Bool} (hv:decide (n1=n2)=v):Calls Tryz.prog 31 #[.slice a1 n1.length c1,.slice a2 n2.length c2] w fun e w'=>e= .returned (.bool v)∧Below w.heap.size w w':=by
 have h3:=lists_any h1 h2
 rw [hv] at h3
 exact h3.mono fun e w' ⟨e1,n,e2⟩=>⟨e1,by rw [e2];exact bl_drewN (Below.refl _ _) n⟩
theorem same06_any (h1:Sl (fun _=>False) w a1 c1 n1) (h2:Sl (fun _=>False) w a2 c2 n2) (h3:Sl (fun _=>False) w b1 d1 o1) (h4:Sl (fun _=>False) w b2 d2 o2) {v:Bool} (hv:(decide (i1=i2)&&(decide (s1=s2)&&(decide (n1=n2)&&decide (o1=o2))))=v):
    Calls Tryz.prog 30 #[.agg #[.int .i64 i1,.int .i64 s1,.slice a1 n1.length c1,.slice b1 o1.length d1],.agg #[.int .i64 i2,.int .i64 s2,.slice a2 n2.length c2,.slice b2 o2.length d2]] w fun e w'=>e= .returned (.bool v)∧Below w.heap.size w w':=by
 obtain ⟨bn,hbn⟩:∃b,decide (n1=n2)=b:=⟨_,rfl⟩
 obtain ⟨bo,hbo⟩:∃b,decide (o1=o2)=b:=⟨_,rfl⟩
 obtain ⟨bi,hbi⟩:∃b,(i1==i2)=b:=⟨_,rfl⟩
 obtain ⟨bs,hbs⟩:∃b,(s1==s2)=b:=⟨_,rfl⟩
 have C1:=Lib.hid (fun w' (hb:Below w.heap.size w w')=>lists_d (h1.below hb) (h2.below hb) hbn)
 have C2:=Lib.hid (fun w' (hb:Below w.heap.size w w')=>lists_d (h3.below hb) (h4.below hb) hbo)
 rw [show decide (i1=i2)=bi by rw [←hbi];rfl,show decide (s1=s2)=bs by rw [←hbs];rfl,hbn,hbo] at hv
 have HV:=Lib.hid hv
 obtain ⟨W,hW⟩:∃W,W=(w.alloc (.cells #[.int .i64 i1,.int .i64 s1,.slice a1 n1.length c1,.slice b1 o1.length d1] 41)).alloc (.cells #[.int .i64 i2,.int .i64 s2,.slice a2 n2.length c2,.slice b2 o2.length d2] 41):=⟨_,rfl⟩
 have hB:Below w.heap.size w W:=by rw [hW];exact ((Below.refl _ _).alloc (Nat.le_refl _) _).alloc (by simp) _
 have h0:W.heap[w.heap.size]? =some (.cells #[.int .i64 i1,.int .i64 s1,.slice a1 n1.length c1,.slice b1 o1.length d1] 41 (0,0)):=by rw [hW];(repeat (first|(refine heap_at ?_;(simp;done))|refine heap_old ?_))
 have h9:W.heap[w.heap.size+1]? =some (.cells #[.int .i64 i2,.int .i64 s2,.slice a2 n2.length c2,.slice b2 o2.length d2] 41 (0,0)):=by rw [hW];(repeat (first|(refine heap_at ?_;(simp;done))|refine heap_old ?_))
 have hz:w.heap.size+2≤W.heap.size:=by rw [hW];simp
 clear h1 h2 h3 h4 hbn hbo hv
 go_enter Tryz.func30,Tryz.ntmps30
 go_upto_region 1 with (fail)
 rw [←hW]
 clear hW
 have HX:Hid (∀w',Below W.heap.size W w'→(∀o,w'.cell? ⟨w.heap.size,o,none⟩=(#[.int .i64 i1,.int .i64 s1,.slice a1 n1.length c1,.slice b1 o1.length d1]:Array Value)[o]?)∧(∀o,w'.cell? ⟨w.heap.size+1,o,none⟩=(#[.int .i64 i2,.int .i64 s2,.slice a2 n2.length c2,.slice b2 o2.length d2]:Array Value)[o]?)∧Below w.heap.size w w'):=fun w' h=>⟨fun o=>by rw [cell_of_row _ _ _ _ _ _ ((h.block _ (by omega)).trans h0)],fun o=>by rw [cell_of_row _ _ _ _ _ _ ((h.block _ (by omega)).trans h9)],hB.trans (h.mono (by omega))⟩
 clear h0 h9 hB hz
 obtain ⟨x,y,hB⟩:=HX.out _ (Below.refl _ _)
 cases bi with
 |false=>
  have hr:=HV.out
  subst hr
  go_wp2
  go_ret
  exact ⟨rfl,hB⟩
 |true=>
 cases bs with
 |false=>
  have hr:=HV.out
  subst hr
  go_wp2
  go_ret
  exact ⟨rfl,hB⟩
 |true=>
 go_wp2_with fail
 refine (C1.out _ hB).mono ?_
 rintro e w2 ⟨rfl,hb2⟩
 clear x y hB hbi hbs
 obtain ⟨x,y,hB⟩:=HX.out _ hb2
 cases bn with
 |false=>
  have hr:=HV.out
  subst hr
  go_wp2
  go_ret
  exact ⟨rfl,hB⟩
 |true=>
 go_wp2_with fail
 refine (C2.out _ hB).mono ?_
 rintro e w3 ⟨rfl,hb3⟩
 have hB3:=hB.trans (hb3.mono hB.size)
 have hr:=HV.out
 subst hr
 go_wp2
 go_ret
 exact ⟨by simp,hB3⟩
theorem same22_any (h1:Sl (fun _=>False) w a1 c1 n1) (h2:Sl (fun _=>False) w a2 c2 n2) (h3:Sl (fun _=>False) w b1 d1 o1) (h4:Sl (fun _=>False) w b2 d2 o2) (h5:Sl (fun _=>False) w z1 e1 x1) (h6:Sl (fun _=>False) w z2 e2 x2) {v:Bool} (hv:((decide (i1=i2)&&(decide (s1=s2)&&(decide (n1=n2)&&decide (o1=o2))))&&decide (x1=x2))=v):
    Calls Tryz.prog 10 #[.agg #[.int .i64 i1,.int .i64 s1,.slice a1 n1.length c1,.slice b1 o1.length d1,.slice z1 x1.length e1],.agg #[.int .i64 i2,.int .i64 s2,.slice a2 n2.length c2,.slice b2 o2.length d2,.slice z2 x2.length e2]] w fun e w'=>e= .returned (.bool v)∧Below w.heap.size w w':=by
 obtain ⟨bm,hbm⟩:∃b,(decide (i1=i2)&&(decide (s1=s2)&&(decide (n1=n2)&&decide (o1=o2))))=b:=⟨_,rfl⟩
 obtain ⟨bx,hbx⟩:∃b,decide (x1=x2)=b:=⟨_,rfl⟩
 have C1:=Lib.hid (fun w' (hb:Below w.heap.size w w')=>same06_any (h1.below hb) (h2.below hb) (h3.below hb) (h4.below hb) hbm)
 have C2:=Lib.hid (fun w' (hb:Below w.heap.size w w')=>lists_d (h5.below hb) (h6.below hb) hbx)
 rw [hbm,hbx] at hv
 have HV:=Lib.hid hv
 obtain ⟨W,hW⟩:∃W,W=(w.alloc (.cells #[.int .i64 i1,.int .i64 s1,.slice a1 n1.length c1,.slice b1 o1.length d1,.slice z1 x1.length e1] 43)).alloc (.cells #[.int .i64 i2,.int .i64 s2,.slice a2 n2.length c2,.slice b2 o2.length d2,.slice z2 x2.length e2] 43):=⟨_,rfl⟩
 have hB:Below w.heap.size w W:=by rw [hW];exact ((Below.refl _ _).alloc (Nat.le_refl _) _).alloc (by simp) _
 have h0:W.heap[w.heap.size]? =some (.cells #[.int .i64 i1,.int .i64 s1,.slice a1 n1.length c1,.slice b1 o1.length d1,.slice z1 x1.length e1] 43 (0,0)):=by rw [hW];(repeat (first|(refine heap_at ?_;(simp;done))|refine heap_old ?_))
 have h9:W.heap[w.heap.size+1]? =some (.cells #[.int .i64 i2,.int .i64 s2,.slice a2 n2.length c2,.slice b2 o2.length d2,.slice z2 x2.length e2] 43 (0,0)):=by rw [hW];(repeat (first|(refine heap_at ?_;(simp;done))|refine heap_old ?_))
 have hz:w.heap.size+2≤W.heap.size:=by rw [hW];simp
 clear h1 h2 h3 h4 h5 h6 hbm hbx hv
 go_enter Tryz.func10,Tryz.ntmps10
 go_upto_region 1 with (fail)
 rw [←hW]
 clear hW
 have HX:Hid (∀w',Below W.heap.size W w'→(∀o,w'.cell? ⟨w.heap.size,o,none⟩=(#[.int .i64 i1,.int .i64 s1,.slice a1 n1.length c1,.slice b1 o1.length d1,.slice z1 x1.length e1]:Array Value)[o]?)∧(∀o,w'.cell? ⟨w.heap.size+1,o,none⟩=(#[.int .i64 i2,.int .i64 s2,.slice a2 n2.length c2,.slice b2 o2.length d2,.slice z2 x2.length e2]:Array Value)[o]?)∧Below w.heap.size w w'):=fun w' h=>⟨fun o=>by rw [cell_of_row _ _ _ _ _ _ ((h.block _ (by omega)).trans h0)],fun o=>by rw [cell_of_row _ _ _ _ _ _ ((h.block _ (by omega)).trans h9)],hB.trans (h.mono (by omega))⟩
 clear h0 h9 hB hz
 obtain ⟨x,y,hB⟩:=HX.out _ (Below.refl _ _)
 go_wp2_with fail
 refine (C1.out _ hB).mono ?_
 rintro e w2 ⟨rfl,hb2⟩
 clear x y hB
 obtain ⟨x,y,hB⟩:=HX.out _ hb2
 cases bm with
 |false=>
  have hr:=HV.out
  subst hr
  go_wp2
  go_ret
  exact ⟨rfl,hB⟩
 |true=>
 go_wp2_with fail
 refine (C2.out _ hB).mono ?_
 rintro e w3 ⟨rfl,hb3⟩
 have hB3:=hB.trans (hb3.mono hB.size)
 have hr:=HV.out
 subst hr
 go_wp2
 go_ret
 exact ⟨by simp,hB3⟩
end
section
variable {w:World} {M:Nat→Prop} {A:Sad} {s:Ses}
theorem sessR_any (hm:Sem M w A s) (hf:Hid s.Fit) {er:Int} (her:s.err=er):
    Calls Tryz.prog 16 #[.agg #[.int .i64 s.cfg.inputs,.int .i64 s.cfg.kind,.int .i64 s.cfg.stg.kind,.int .i64 s.cfg.stg.extra,.int .u64 (s.cfg.stg.seed:Int),.int .i64 s.cfg.stg.count,.int .i64 s.cfg.stg.len,.int .i64 s.cfg.bound,.int .i64 s.phase,.int .i64 s.tab.inputs,.slice A.p s.tab.pre.length A.pc,.slice A.q s.tab.suf.length A.qc,.int .i64 s.tIn,.slice A.n s.nodes.length A.nc,.int .i64 s.lz.inputs,.slice A.u s.lz.pre.length A.uc,.slice A.v s.lz.suf.length A.vc,.int .i64 s.obs.inputs,.slice A.t s.obs.traces.length A.tc,.int .i64 s.hyp.m.inputs,.int .i64 s.hyp.m.start,.slice A.x s.hyp.m.next.length A.xc,.slice A.y s.hyp.m.out.length A.yc,.slice A.z s.hyp.acc.length A.zc,.int .i64 s.rounds,.int .i64 s.code]] w fun e w'=>e= .returned (.int .i64 er)∧Below w.heap.size w w':=by
 have l7:=hm.x.le
 have l8:=hm.y.le
 have l9:=hm.z.le
 obtain ⟨cv,hcv⟩:∃v,s.cfg.err=v:=⟨_,rfl⟩
 obtain ⟨ov,hov⟩:∃v,s.obs.err=v:=⟨_,rfl⟩
 obtain ⟨lv,hlv⟩:∃v,s.lErr=v:=⟨_,rfl⟩
 obtain ⟨hv,hhv⟩:∃v,s.hyp.err=v:=⟨_,rfl⟩
 obtain ⟨hb,hhb⟩:∃v,(decide (s.hyp.m.inputs=0)&&decide (s.hyp.m.start=0)&&decide (s.hyp.m.next.length=0)&&decide (s.hyp.m.out.length=0)&&decide (s.hyp.acc.length=0))=v:=⟨_,rfl⟩
 have HE:=Lib.hid her.symm
 have Kc:=Lib.hid hcv
 have Ko:=Lib.hid hov
 have Kl:=Lib.hid hlv
 have Kh:=Lib.hid hhv
 have Kb:=Lib.hid hhb
 have C1:=Lib.hid (fun w=>sconfR_any (w:=w) s.cfg hcv)
 have C2:=Lib.hid (fun w' (hb:Below w.heap.size w w')=>(by rw [←hov];exact validO_any (hm.below hb).obs:Calls Tryz.prog 40 #[obV s.obs A.t A.tc] w' fun e w''=>e= .returned (.int .i64 ov)∧Below w'.heap.size w' w''))
 have C3:=Lib.hid (fun w' (hb:Below w.heap.size w w') hk v hv=>rblank_any (w:=w') (v:=v) (hm.below hb) hk hv)
 have C6:=Lib.hid (fun w' (hb:Below w.heap.size w w') hB hk=>rlearn_any (w:=w') (hm.below hb) hf hB hk hlv)
 have C4:Hid (∀w',Below w.heap.size w w'→Calls Tryz.prog 43 #[hyV s.hyp A.x A.xc A.y A.yc A.z A.zc] w' fun e w''=>e= .returned (.int .i64 hv)∧Below w'.heap.size w' w''):=fun w' hb=>by rw [←hhv];exact hvalidR_any (hm.below hb).hyp
 have C5:Hid (∀w',Below w.heap.size w w'→Calls Tryz.prog 10 #[hyV s.hyp A.x A.xc A.y A.yc A.z A.zc,.agg #[.int .i64 0,.int .i64 0,.slice none 0 0,.slice none 0 0,.slice none 0 0]] w' fun e w''=>e= .returned (.bool hb)∧Below w'.heap.size w' w''):=fun w' h=>same22_any (v:=hb) (n2:=[]) (o2:=[]) (x2:=[]) ((hm.below h).x.anti (fun _ _ h=>h.elim)) (Sl.nil _ _ none (c:=0) (by unfold maxLen;omega)) ((hm.below h).y.anti (fun _ _ h=>h.elim)) (Sl.nil _ _ none (c:=0) (by unfold maxLen;omega)) ((hm.below h).z.anti (fun _ _ h=>h.elim)) (Sl.nil _ _ none (c:=0) (by unfold maxLen;omega)) (by rw [←hhb];simp [Bool.and_assoc,List.length_eq_zero_iff])
 obtain ⟨W,hW⟩:∃W,W=w.alloc (.cells #[.int .i64 s.cfg.inputs,.int .i64 s.cfg.kind,.int .i64 s.cfg.stg.kind,.int .i64 s.cfg.stg.extra,.int .u64 (s.cfg.stg.seed:Int),.int .i64 s.cfg.stg.count,.int .i64 s.cfg.stg.len,.int .i64 s.cfg.bound,.int .i64 s.phase,.int .i64 s.tab.inputs,.slice A.p s.tab.pre.length A.pc,.slice A.q s.tab.suf.length A.qc,.int .i64 s.tIn,.slice A.n s.nodes.length A.nc,.int .i64 s.lz.inputs,.slice A.u s.lz.pre.length A.uc,.slice A.v s.lz.suf.length A.vc,.int .i64 s.obs.inputs,.slice A.t s.obs.traces.length A.tc,.int .i64 s.hyp.m.inputs,.int .i64 s.hyp.m.start,.slice A.x s.hyp.m.next.length A.xc,.slice A.y s.hyp.m.out.length A.yc,.slice A.z s.hyp.acc.length A.zc,.int .i64 s.rounds,.int .i64 s.code] 46):=⟨_,rfl⟩
 have hB:Below w.heap.size w W:=by rw [hW];exact (Below.refl _ _).alloc (Nat.le_refl _) _
 have hz:w.heap.size<W.heap.size:=by rw [hW];simp
 have cb:SeC (w.alloc (.cells #[.int .i64 s.cfg.inputs,.int .i64 s.cfg.kind,.int .i64 s.cfg.stg.kind,.int .i64 s.cfg.stg.extra,.int .u64 (s.cfg.stg.seed:Int),.int .i64 s.cfg.stg.count,.int .i64 s.cfg.stg.len,.int .i64 s.cfg.bound,.int .i64 s.phase,.int .i64 s.tab.inputs,.slice A.p s.tab.pre.length A.pc,.slice A.q s.tab.suf.length A.qc,.int .i64 s.tIn,.slice A.n s.nodes.length A.nc,.int .i64 s.lz.inputs,.slice A.u s.lz.pre.length A.uc,.slice A.v s.lz.suf.length A.vc,.int .i64 s.obs.inputs,.slice A.t s.obs.traces.length A.tc,.int .i64 s.hyp.m.inputs,.int .i64 s.hyp.m.start,.slice A.x s.hyp.m.next.length A.xc,.slice A.y s.hyp.m.out.length A.yc,.slice A.z s.hyp.acc.length A.zc,.int .i64 s.rounds,.int .i64 s.code] 46)) w.heap.size s A:=box_new w _ _
 clear hm her hcv hov hlv hhv hhb l7 l8 l9 hf
 go_enter Tryz.func16,Tryz.ntmps16
 go_wp2_with fail
 rw [←hW] at cb ⊢
 clear hW
 have HX:Hid (∀w',Below W.heap.size W w'→SeC w' w.heap.size s A∧Below w.heap.size w w'∧w.heap.size<w'.heap.size):=fun w' h=>⟨cb.below h hz,hB.trans (h.mono (by omega)),by have:=h.size;omega⟩
 clear hB hz cb
 refine (C1.out _).mono ?_
 rintro e w1 ⟨rfl,hU⟩
 obtain ⟨cb,hB, -⟩:=HX.out _ hU
 clear C1
 by_cases h0:cv=0
 rotate_left
 ·have hvb:(cv !=0)=true:=by simp [h0]
  have hr:=HE.out.trans (Ses.e_c Kc.out h0)
  clear h0
  subst hr
  go_wp2
  go_ret
  exact ⟨rfl,hB⟩
 have hvb:(cv !=0)=false:=by simp [h0]
 have D0:Hid (s.cfg.err=0):=Kc.out.trans h0
 clear h0
 by_cases h1:s.phase<0
 ·have hr:=HE.out.trans (Ses.e_r D0.out (.inl h1))
  subst hr
  go_wp2
  go_ret
  exact ⟨rfl,hB⟩
 by_cases h2:3<s.phase
 ·have hr:=HE.out.trans (Ses.e_r D0.out (.inr (.inl h2)))
  subst hr
  go_wp2
  go_ret
  exact ⟨rfl,hB⟩
 by_cases h3:s.rounds<0
 ·have hr:=HE.out.trans (Ses.e_r D0.out (.inr (.inr h3)))
  subst hr
  go_wp2
  go_ret
  exact ⟨rfl,hB⟩
 have D1:Hid (¬s.rng):=fun h=>by omega
 by_cases h4:s.phase=3
 ·have h4b:(s.phase==3)=true:=by simp [h4]
  by_cases h5:s.code=0
  ·have h5b:(s.code==0)=true:=by simp [h5]
   have hr:=HE.out.trans (Ses.e_i D0.out D1.out (.inl ⟨h4,h5⟩))
   clear h4 h5
   subst hr
   go_wp2
   go_ret
   exact ⟨rfl,hB⟩
  have h5b:(s.code==0)=false:=by simp [h5]
  have D2:Hid (¬s.cod):=fun h=>by rcases h with h|h;exact h5 h.2;exact h.1 h4
  have H4:=Lib.hid h4
  clear h4 h5
  go_wp2_with fail
  clear h1 h2 h3 h4b h5b
  refine (C2.out _ hB).mono ?_
  rintro e w2 ⟨rfl,hb⟩
  have hU2:=hU.trans (hb.mono hU.size)
  clear hb hU cb hB
  obtain ⟨cb,hB,hz2⟩:=HX.out _ hU2
  by_cases h0:ov=0
  rotate_left
  ·have hvb:(ov !=0)=true:=by simp [h0]
   have hr:=HE.out.trans (Ses.e_o D0.out D1.out D2.out Ko.out h0)
   clear h0
   subst hr
   go_wp2
   go_ret
   exact ⟨rfl,hB⟩
  have hvb:(ov !=0)=false:=by simp [h0]
  have D3:Hid (s.obs.err=0):=Ko.out.trans h0
  clear h0
  by_cases h6:s.obs.inputs=s.cfg.inputs
  rotate_left
  ·have h6b:(s.obs.inputs !=s.cfg.inputs)=true:=by simp [h6]
   have hr:=HE.out.trans (Ses.e_n D0.out D1.out D2.out D3.out h6)
   clear h6
   subst hr
   go_wp2
   go_ret
   exact ⟨rfl,hB⟩
  have h6b:(s.obs.inputs !=s.cfg.inputs)=false:=by simp [h6]
  have D4:=Lib.hid (HE.out.trans (Ses.e_l D0.out D1.out D2.out D3.out h6))
  clear h6
  have hrg:w2.rangeAt w.heap.size 0 [.int .i64 s.cfg.inputs,.int .i64 s.cfg.kind,.int .i64 s.cfg.stg.kind,.int .i64 s.cfg.stg.extra,.int .u64 (s.cfg.stg.seed:Int),.int .i64 s.cfg.stg.count,.int .i64 s.cfg.stg.len,.int .i64 s.cfg.bound,.int .i64 s.phase,.int .i64 s.tab.inputs,.slice A.p s.tab.pre.length A.pc,.slice A.q s.tab.suf.length A.qc,.int .i64 s.tIn,.slice A.n s.nodes.length A.nc,.int .i64 s.lz.inputs,.slice A.u s.lz.pre.length A.uc,.slice A.v s.lz.suf.length A.vc,.int .i64 s.obs.inputs,.slice A.t s.obs.traces.length A.tc,.int .i64 s.hyp.m.inputs,.int .i64 s.hyp.m.start,.slice A.x s.hyp.m.next.length A.xc,.slice A.y s.hyp.m.out.length A.yc,.slice A.z s.hyp.acc.length A.zc,.int .i64 s.rounds,.int .i64 s.code]:=fun j x hx=>by
   rw [Nat.zero_add,cb]
   rw [←hx]
   exact List.getElem?_toArray
  have HRG:=Lib.hid hrg
  obtain ⟨bk,hbk⟩:∃v,bkB s=v:=⟨_,rfl⟩
  have KB:=Lib.hid hbk
  have HL:=Lib.hid (C3.out _ hB (Ses.kind_of D0.out) bk hbk)
  clear hrg hbk C3 C2 hz2
  go_wp2_with (refine wpList_load_mid rfl 46 _ rfl w.heap.size 0 rfl [.int .i64 s.cfg.inputs,.int .i64 s.cfg.kind,.int .i64 s.cfg.stg.kind,.int .i64 s.cfg.stg.extra,.int .u64 (s.cfg.stg.seed:Int),.int .i64 s.cfg.stg.count,.int .i64 s.cfg.stg.len,.int .i64 s.cfg.bound,.int .i64 s.phase,.int .i64 s.tab.inputs,.slice A.p s.tab.pre.length A.pc,.slice A.q s.tab.suf.length A.qc,.int .i64 s.tIn,.slice A.n s.nodes.length A.nc,.int .i64 s.lz.inputs,.slice A.u s.lz.pre.length A.uc,.slice A.v s.lz.suf.length A.vc,.int .i64 s.obs.inputs,.slice A.t s.obs.traces.length A.tc,.int .i64 s.hyp.m.inputs,.int .i64 s.hyp.m.start,.slice A.x s.hyp.m.next.length A.xc,.slice A.y s.hyp.m.out.length A.yc,.slice A.z s.hyp.acc.length A.zc,.int .i64 s.rounds,.int .i64 s.code] _ HRG.out Tryz.underlying46 rfl (by kernel_rfl) ?_)
  refine HL.out.mono ?_
  rintro e w3 ⟨rfl,hb⟩
  have hU3:=hU2.trans (hb.mono hU2.size)
  clear hb hU2 cb hB HRG HL
  obtain ⟨cb,hB, -⟩:=HX.out _ hU3
  cases bk with
  |false=>
   have hnb:¬s.blank:=fun h=>absurd (KB.out.symm.trans (bkB_iff.2 h)) (by decide)
   have hr:=D4.out.trans ((if_pos (by rw [Ses.lE_b hnb];decide)).trans (Ses.lE_b hnb))
   subst hr
   go_wp2
   go_ret
   exact ⟨rfl,hB⟩
  |true=>
  have hBk:=Lib.hid (bkB_iff.1 KB.out)
  have hrg:w3.rangeAt w.heap.size 0 [.int .i64 s.cfg.inputs,.int .i64 s.cfg.kind,.int .i64 s.cfg.stg.kind,.int .i64 s.cfg.stg.extra,.int .u64 (s.cfg.stg.seed:Int),.int .i64 s.cfg.stg.count,.int .i64 s.cfg.stg.len,.int .i64 s.cfg.bound,.int .i64 s.phase,.int .i64 s.tab.inputs,.slice A.p s.tab.pre.length A.pc,.slice A.q s.tab.suf.length A.qc,.int .i64 s.tIn,.slice A.n s.nodes.length A.nc,.int .i64 s.lz.inputs,.slice A.u s.lz.pre.length A.uc,.slice A.v s.lz.suf.length A.vc,.int .i64 s.obs.inputs,.slice A.t s.obs.traces.length A.tc,.int .i64 s.hyp.m.inputs,.int .i64 s.hyp.m.start,.slice A.x s.hyp.m.next.length A.xc,.slice A.y s.hyp.m.out.length A.yc,.slice A.z s.hyp.acc.length A.zc,.int .i64 s.rounds,.int .i64 s.code]:=fun j x hx=>by
   rw [Nat.zero_add,cb]
   rw [←hx]
   exact List.getElem?_toArray
  have HRG:=Lib.hid hrg
  have HL:=Lib.hid (C6.out _ hB hBk.out (Ses.kind_of D0.out))
  clear hrg C6
  go_wp2_with (refine wpList_load_mid rfl 46 _ rfl w.heap.size 0 rfl [.int .i64 s.cfg.inputs,.int .i64 s.cfg.kind,.int .i64 s.cfg.stg.kind,.int .i64 s.cfg.stg.extra,.int .u64 (s.cfg.stg.seed:Int),.int .i64 s.cfg.stg.count,.int .i64 s.cfg.stg.len,.int .i64 s.cfg.bound,.int .i64 s.phase,.int .i64 s.tab.inputs,.slice A.p s.tab.pre.length A.pc,.slice A.q s.tab.suf.length A.qc,.int .i64 s.tIn,.slice A.n s.nodes.length A.nc,.int .i64 s.lz.inputs,.slice A.u s.lz.pre.length A.uc,.slice A.v s.lz.suf.length A.vc,.int .i64 s.obs.inputs,.slice A.t s.obs.traces.length A.tc,.int .i64 s.hyp.m.inputs,.int .i64 s.hyp.m.start,.slice A.x s.hyp.m.next.length A.xc,.slice A.y s.hyp.m.out.length A.yc,.slice A.z s.hyp.acc.length A.zc,.int .i64 s.rounds,.int .i64 s.code] _ HRG.out Tryz.underlying46 rfl (by kernel_rfl) ?_)
  refine HL.out.mono ?_
  rintro e w4 ⟨rfl,hb⟩
  have hU4:=hU3.trans (hb.mono hU3.size)
  clear hb hU3 cb hB HRG HL
  obtain ⟨cb,hB, -⟩:=HX.out _ hU4
  by_cases h0:lv=0
  rotate_left
  ·have hvb:(lv !=0)=true:=by simp [h0]
   have hr:=D4.out.trans ((if_pos (by rw [Kl.out];exact h0)).trans Kl.out)
   clear h0
   subst hr
   go_wp2
   go_ret
   exact ⟨rfl,hB⟩
  have hvb:(lv !=0)=false:=by simp [h0]
  have D5:=Lib.hid (D4.out.trans (if_neg (by rw [Kl.out];exact fun h=>h h0)))
  clear h0
  have q0:(s.phase==0)=false:=by have:=H4.out;simp;omega
  have q3:(s.phase==3)=true:=by simp [H4.out]
  have D6:=Lib.hid (D5.out.trans (Ses.h_b (by have:=H4.out;omega) (by have:=H4.out;omega)))
  go_wp2_with fail
  refine (C5.out _ hB).mono ?_
  rintro e w5 ⟨rfl,hb5⟩
  have hB5:=hB.trans (hb5.mono hB.size)
  clear hb5 cb hB
  cases hb with
  |false=>
   have hr:=D6.out.trans (if_neg (fun h=>absurd (Kb.out.symm.trans (Ses.hB_iff.2 h)) (by decide)))
   subst hr
   go_wp2
   go_ret
   exact ⟨rfl,hB5⟩
  |true=>
   have hr:=D6.out.trans (if_pos (Ses.hB_iff.1 Kb.out))
   subst hr
   go_wp2
   go_ret
   exact ⟨rfl,hB5⟩
 have h4b:(s.phase==3)=false:=by simp [h4]
 by_cases h5:s.code=0
 rotate_left
 ·have h5b:(s.code==0)=false:=by simp [h5]
  have hr:=HE.out.trans (Ses.e_i D0.out D1.out (.inr ⟨h4,h5⟩))
  clear h4 h5
  subst hr
  go_wp2
  go_ret
  exact ⟨rfl,hB⟩
 have h5b:(s.code==0)=true:=by simp [h5]
 have D2:Hid (¬s.cod):=fun h=>by rcases h with h|h;exact h4 h.1;exact h.2 h5
 have H4:=Lib.hid h4
 clear h4 h5
 go_wp2_with fail
 clear h1 h2 h3 h4b h5b
 refine (C2.out _ hB).mono ?_
 rintro e w2 ⟨rfl,hb⟩
 have hU2:=hU.trans (hb.mono hU.size)
 clear hb hU cb hB
 obtain ⟨cb,hB,hz2⟩:=HX.out _ hU2
 by_cases h0:ov=0
 rotate_left
 ·have hvb:(ov !=0)=true:=by simp [h0]
  have hr:=HE.out.trans (Ses.e_o D0.out D1.out D2.out Ko.out h0)
  clear h0
  subst hr
  go_wp2
  go_ret
  exact ⟨rfl,hB⟩
 have hvb:(ov !=0)=false:=by simp [h0]
 have D3:Hid (s.obs.err=0):=Ko.out.trans h0
 clear h0
 by_cases h6:s.obs.inputs=s.cfg.inputs
 rotate_left
 ·have h6b:(s.obs.inputs !=s.cfg.inputs)=true:=by simp [h6]
  have hr:=HE.out.trans (Ses.e_n D0.out D1.out D2.out D3.out h6)
  clear h6
  subst hr
  go_wp2
  go_ret
  exact ⟨rfl,hB⟩
 have h6b:(s.obs.inputs !=s.cfg.inputs)=false:=by simp [h6]
 have D4:=Lib.hid (HE.out.trans (Ses.e_l D0.out D1.out D2.out D3.out h6))
 clear h6
 have hrg:w2.rangeAt w.heap.size 0 [.int .i64 s.cfg.inputs,.int .i64 s.cfg.kind,.int .i64 s.cfg.stg.kind,.int .i64 s.cfg.stg.extra,.int .u64 (s.cfg.stg.seed:Int),.int .i64 s.cfg.stg.count,.int .i64 s.cfg.stg.len,.int .i64 s.cfg.bound,.int .i64 s.phase,.int .i64 s.tab.inputs,.slice A.p s.tab.pre.length A.pc,.slice A.q s.tab.suf.length A.qc,.int .i64 s.tIn,.slice A.n s.nodes.length A.nc,.int .i64 s.lz.inputs,.slice A.u s.lz.pre.length A.uc,.slice A.v s.lz.suf.length A.vc,.int .i64 s.obs.inputs,.slice A.t s.obs.traces.length A.tc,.int .i64 s.hyp.m.inputs,.int .i64 s.hyp.m.start,.slice A.x s.hyp.m.next.length A.xc,.slice A.y s.hyp.m.out.length A.yc,.slice A.z s.hyp.acc.length A.zc,.int .i64 s.rounds,.int .i64 s.code]:=fun j x hx=>by
  rw [Nat.zero_add,cb]
  rw [←hx]
  exact List.getElem?_toArray
 have HRG:=Lib.hid hrg
 obtain ⟨bk,hbk⟩:∃v,bkB s=v:=⟨_,rfl⟩
 have KB:=Lib.hid hbk
 have HL:=Lib.hid (C3.out _ hB (Ses.kind_of D0.out) bk hbk)
 clear hrg hbk C3 C2 hz2
 go_wp2_with (refine wpList_load_mid rfl 46 _ rfl w.heap.size 0 rfl [.int .i64 s.cfg.inputs,.int .i64 s.cfg.kind,.int .i64 s.cfg.stg.kind,.int .i64 s.cfg.stg.extra,.int .u64 (s.cfg.stg.seed:Int),.int .i64 s.cfg.stg.count,.int .i64 s.cfg.stg.len,.int .i64 s.cfg.bound,.int .i64 s.phase,.int .i64 s.tab.inputs,.slice A.p s.tab.pre.length A.pc,.slice A.q s.tab.suf.length A.qc,.int .i64 s.tIn,.slice A.n s.nodes.length A.nc,.int .i64 s.lz.inputs,.slice A.u s.lz.pre.length A.uc,.slice A.v s.lz.suf.length A.vc,.int .i64 s.obs.inputs,.slice A.t s.obs.traces.length A.tc,.int .i64 s.hyp.m.inputs,.int .i64 s.hyp.m.start,.slice A.x s.hyp.m.next.length A.xc,.slice A.y s.hyp.m.out.length A.yc,.slice A.z s.hyp.acc.length A.zc,.int .i64 s.rounds,.int .i64 s.code] _ HRG.out Tryz.underlying46 rfl (by kernel_rfl) ?_)
 refine HL.out.mono ?_
 rintro e w3 ⟨rfl,hb⟩
 have hU3:=hU2.trans (hb.mono hU2.size)
 clear hb hU2 cb hB HRG HL
 obtain ⟨cb,hB, -⟩:=HX.out _ hU3
 cases bk with
 |false=>
  have hnb:¬s.blank:=fun h=>absurd (KB.out.symm.trans (bkB_iff.2 h)) (by decide)
  have hr:=D4.out.trans ((if_pos (by rw [Ses.lE_b hnb];decide)).trans (Ses.lE_b hnb))
  subst hr
  go_wp2
  go_ret
  exact ⟨rfl,hB⟩
 |true=>
 have hBk:=Lib.hid (bkB_iff.1 KB.out)
 have hrg:w3.rangeAt w.heap.size 0 [.int .i64 s.cfg.inputs,.int .i64 s.cfg.kind,.int .i64 s.cfg.stg.kind,.int .i64 s.cfg.stg.extra,.int .u64 (s.cfg.stg.seed:Int),.int .i64 s.cfg.stg.count,.int .i64 s.cfg.stg.len,.int .i64 s.cfg.bound,.int .i64 s.phase,.int .i64 s.tab.inputs,.slice A.p s.tab.pre.length A.pc,.slice A.q s.tab.suf.length A.qc,.int .i64 s.tIn,.slice A.n s.nodes.length A.nc,.int .i64 s.lz.inputs,.slice A.u s.lz.pre.length A.uc,.slice A.v s.lz.suf.length A.vc,.int .i64 s.obs.inputs,.slice A.t s.obs.traces.length A.tc,.int .i64 s.hyp.m.inputs,.int .i64 s.hyp.m.start,.slice A.x s.hyp.m.next.length A.xc,.slice A.y s.hyp.m.out.length A.yc,.slice A.z s.hyp.acc.length A.zc,.int .i64 s.rounds,.int .i64 s.code]:=fun j x hx=>by
  rw [Nat.zero_add,cb]
  rw [←hx]
  exact List.getElem?_toArray
 have HRG:=Lib.hid hrg
 have HL:=Lib.hid (C6.out _ hB hBk.out (Ses.kind_of D0.out))
 clear hrg C6
 go_wp2_with (refine wpList_load_mid rfl 46 _ rfl w.heap.size 0 rfl [.int .i64 s.cfg.inputs,.int .i64 s.cfg.kind,.int .i64 s.cfg.stg.kind,.int .i64 s.cfg.stg.extra,.int .u64 (s.cfg.stg.seed:Int),.int .i64 s.cfg.stg.count,.int .i64 s.cfg.stg.len,.int .i64 s.cfg.bound,.int .i64 s.phase,.int .i64 s.tab.inputs,.slice A.p s.tab.pre.length A.pc,.slice A.q s.tab.suf.length A.qc,.int .i64 s.tIn,.slice A.n s.nodes.length A.nc,.int .i64 s.lz.inputs,.slice A.u s.lz.pre.length A.uc,.slice A.v s.lz.suf.length A.vc,.int .i64 s.obs.inputs,.slice A.t s.obs.traces.length A.tc,.int .i64 s.hyp.m.inputs,.int .i64 s.hyp.m.start,.slice A.x s.hyp.m.next.length A.xc,.slice A.y s.hyp.m.out.length A.yc,.slice A.z s.hyp.acc.length A.zc,.int .i64 s.rounds,.int .i64 s.code] _ HRG.out Tryz.underlying46 rfl (by kernel_rfl) ?_)
 refine HL.out.mono ?_
 rintro e w4 ⟨rfl,hb⟩
 have hU4:=hU3.trans (hb.mono hU3.size)
 clear hb hU3 cb hB HRG HL
 obtain ⟨cb,hB, -⟩:=HX.out _ hU4
 by_cases h0:lv=0
 rotate_left
 ·have hvb:(lv !=0)=true:=by simp [h0]
  have hr:=D4.out.trans ((if_pos (by rw [Kl.out];exact h0)).trans Kl.out)
  clear h0
  subst hr
  go_wp2
  go_ret
  exact ⟨rfl,hB⟩
 have hvb:(lv !=0)=false:=by simp [h0]
 have D5:=Lib.hid (D4.out.trans (if_neg (by rw [Kl.out];exact fun h=>h h0)))
 clear h0
 have q3:(s.phase==3)=false:=by simp [H4.out]
 by_cases p0:s.phase=0
 ·have q0:(s.phase==0)=true:=by simp [p0]
  have P1:Hid (s.phase≠1):=by intro h;omega
  have P2:Hid (s.phase≠2):=by intro h;omega
  clear p0
  have D6:=Lib.hid (D5.out.trans (Ses.h_b P1.out P2.out))
  go_wp2_with fail
  refine (C5.out _ hB).mono ?_
  rintro e w5 ⟨rfl,hb5⟩
  have hB5:=hB.trans (hb5.mono hB.size)
  clear hb5 cb hB
  cases hb with
  |false=>
   have hr:=D6.out.trans (if_neg (fun h=>absurd (Kb.out.symm.trans (Ses.hB_iff.2 h)) (by decide)))
   subst hr
   go_wp2
   go_ret
   exact ⟨rfl,hB5⟩
  |true=>
   have hr:=D6.out.trans (if_pos (Ses.hB_iff.1 Kb.out))
   subst hr
   go_wp2
   go_ret
   exact ⟨rfl,hB5⟩
 have q0:(s.phase==0)=false:=by simp [p0]
 have HP:Hid (s.phase=1∨s.phase=2):=by have h1:=D1.out;have h2:=H4.out;unfold Ses.rng at h1;show s.phase=1∨s.phase=2;omega
 clear p0
 go_wp2_with fail
 refine (C4.out _ hB).mono ?_
 rintro e w5 ⟨rfl,hb5⟩
 have hU5:=hU4.trans (hb5.mono hU4.size)
 clear hb5 cb hB
 obtain ⟨cb,hB, -⟩:=HX.out _ hU5
 by_cases h0:hv=0
 rotate_left
 ·have hwb:(hv !=0)=true:=by simp [h0]
  have hr:=D5.out.trans (Ses.h_e HP.out Kh.out h0)
  clear h0
  subst hr
  go_wp2
  go_ret
  exact ⟨rfl,hB⟩
 have hwb:(hv !=0)=false:=by simp [h0]
 have D6:=Lib.hid (D5.out.trans (Ses.h_n HP.out (Kh.out.trans h0)))
 clear h0
 by_cases h7:s.hyp.m.inputs=s.cfg.inputs
 rotate_left
 ·have h7b:(s.hyp.m.inputs !=s.cfg.inputs)=true:=by simp [h7]
  have hr:=D6.out.trans (if_pos h7)
  clear h7
  subst hr
  go_wp2
  go_ret
  exact ⟨rfl,hB⟩
 have h7b:(s.hyp.m.inputs !=s.cfg.inputs)=false:=by simp [h7]
 have hr:=D6.out.trans (if_neg (fun h=>h h7))
 clear h7
 subst hr
 go_wp2
 go_ret
 exact ⟨rfl,hB⟩
end
section
variable {w:World} {A:Sad} {s:Ses}
theorem validLaw52 (HA:Hid (∀w:World,Calls Tryz.prog 11 #[] w fun e w'=>e= .returned (.bool true)∧Below w.heap.size w w')) (hm:Sem (fun _=>False) w A s) (hn:Hid (∀x∈s.nodes,x.fit)):
    Calls Tryz.prog 4 #[.agg #[.int .i64 s.cfg.inputs,.int .i64 s.cfg.kind,.int .i64 s.cfg.stg.kind,.int .i64 s.cfg.stg.extra,.int .u64 (s.cfg.stg.seed:Int),.int .i64 s.cfg.stg.count,.int .i64 s.cfg.stg.len,.int .i64 s.cfg.bound,.int .i64 s.phase,.int .i64 s.tab.inputs,.slice A.p s.tab.pre.length A.pc,.slice A.q s.tab.suf.length A.qc,.int .i64 s.tIn,.slice A.n s.nodes.length A.nc,.int .i64 s.lz.inputs,.slice A.u s.lz.pre.length A.uc,.slice A.v s.lz.suf.length A.vc,.int .i64 s.obs.inputs,.slice A.t s.obs.traces.length A.tc,.int .i64 s.hyp.m.inputs,.int .i64 s.hyp.m.start,.slice A.x s.hyp.m.next.length A.xc,.slice A.y s.hyp.m.out.length A.yc,.slice A.z s.hyp.acc.length A.zc,.int .i64 s.rounds,.int .i64 s.code]] w fun e w'=>e= .returned (.bool true)∧Below w.heap.size w w':=by
 have l3:=hm.n.le
 obtain ⟨v1,hv1⟩:∃v,gr16 s.obs=v:=⟨_,rfl⟩
 have C1:Hid (∀w',Below w.heap.size w w'→Calls Tryz.prog 12 #[obV s.obs A.t A.tc] w' fun e w''=>e= .returned (.bool v1)∧Below w'.heap.size w' w''):=fun w' hb=>by rw [←hv1];exact gr16_any (hm.below hb).obs
 obtain ⟨v2,hv2⟩:∃v,gr06 s.hyp.m=v:=⟨_,rfl⟩
 have C2:Hid (∀w',Below w.heap.size w w'→Calls Tryz.prog 13 #[maV s.hyp.m A.x A.xc A.y A.yc] w' fun e w''=>e= .returned (.bool v2)∧Below w'.heap.size w' w''):=fun w' hb=>by rw [←hv2];exact gr06_any (hm.below hb).hyp.m
 obtain ⟨v3,hv3⟩:∃v,lg06 s.hyp.acc=v:=⟨_,rfl⟩
 have C3:Hid (∀w',Below w.heap.size w w'→Calls Tryz.prog 14 #[.slice A.z s.hyp.acc.length A.zc] w' fun e w''=>e= .returned (.bool v3)∧Below w'.heap.size w' w''):=fun w' hb=>by rw [←hv3];exact (lg06_any (hm.below hb).z).mono fun e w9 ⟨h1,h2⟩=>⟨h1,by rw [h2];exact Below.refl _ _⟩
 obtain ⟨v4,hv4⟩:∃v,lg06 s.tab.pre=v:=⟨_,rfl⟩
 have C4:Hid (∀w',Below w.heap.size w w'→Calls Tryz.prog 14 #[.slice A.p s.tab.pre.length A.pc] w' fun e w''=>e= .returned (.bool v4)∧Below w'.heap.size w' w''):=fun w' hb=>by rw [←hv4];exact (lg06_any (hm.below hb).p).mono fun e w9 ⟨h1,h2⟩=>⟨h1,by rw [h2];exact Below.refl _ _⟩
 obtain ⟨v5,hv5⟩:∃v,lg06 s.tab.suf=v:=⟨_,rfl⟩
 have C5:Hid (∀w',Below w.heap.size w w'→Calls Tryz.prog 14 #[.slice A.q s.tab.suf.length A.qc] w' fun e w''=>e= .returned (.bool v5)∧Below w'.heap.size w' w''):=fun w' hb=>by rw [←hv5];exact (lg06_any (hm.below hb).q).mono fun e w9 ⟨h1,h2⟩=>⟨h1,by rw [h2];exact Below.refl _ _⟩
 obtain ⟨v6,hv6⟩:∃v,lg06 s.lz.pre=v:=⟨_,rfl⟩
 have C6:Hid (∀w',Below w.heap.size w w'→Calls Tryz.prog 14 #[.slice A.u s.lz.pre.length A.uc] w' fun e w''=>e= .returned (.bool v6)∧Below w'.heap.size w' w''):=fun w' hb=>by rw [←hv6];exact (lg06_any (hm.below hb).u).mono fun e w9 ⟨h1,h2⟩=>⟨h1,by rw [h2];exact Below.refl _ _⟩
 obtain ⟨v7,hv7⟩:∃v,lg06 s.lz.suf=v:=⟨_,rfl⟩
 have C7:Hid (∀w',Below w.heap.size w w'→Calls Tryz.prog 14 #[.slice A.v s.lz.suf.length A.vc] w' fun e w''=>e= .returned (.bool v7)∧Below w'.heap.size w' w''):=fun w' hb=>by rw [←hv7];exact (lg06_any (hm.below hb).v).mono fun e w9 ⟨h1,h2⟩=>⟨h1,by rw [h2];exact Below.refl _ _⟩
 have hfit:v4=false→v6=false→Hid s.Fit:=fun h4 h6=>⟨fun x hx=>by have:=(lg06_no (hv4.trans h4)).2 x hx;omega,fun x hx=>by have:=(lg06_no (hv6.trans h6)).2 x hx;omega,hn.out⟩
 obtain ⟨er,her⟩:∃v,s.err=v:=⟨_,rfl⟩
 have E1:v4=false→v6=false→Hid (∀w',Below w.heap.size w w'→Calls Tryz.prog 15 #[.agg #[.int .i64 s.cfg.inputs,.int .i64 s.cfg.kind,.int .i64 s.cfg.stg.kind,.int .i64 s.cfg.stg.extra,.int .u64 (s.cfg.stg.seed:Int),.int .i64 s.cfg.stg.count,.int .i64 s.cfg.stg.len,.int .i64 s.cfg.bound,.int .i64 s.phase,.int .i64 s.tab.inputs,.slice A.p s.tab.pre.length A.pc,.slice A.q s.tab.suf.length A.qc,.int .i64 s.tIn,.slice A.n s.nodes.length A.nc,.int .i64 s.lz.inputs,.slice A.u s.lz.pre.length A.uc,.slice A.v s.lz.suf.length A.vc,.int .i64 s.obs.inputs,.slice A.t s.obs.traces.length A.tc,.int .i64 s.hyp.m.inputs,.int .i64 s.hyp.m.start,.slice A.x s.hyp.m.next.length A.xc,.slice A.y s.hyp.m.out.length A.yc,.slice A.z s.hyp.acc.length A.zc,.int .i64 s.rounds,.int .i64 s.code]] w' fun e w''=>e= .returned (.int .i64 er)∧Below w'.heap.size w' w''):=fun h4 h6 w' hb=>sessv_any (hm.below hb) (hfit h4 h6) her
 have E2:v4=false→v6=false→Hid (∀w',Below w.heap.size w w'→Calls Tryz.prog 16 #[.agg #[.int .i64 s.cfg.inputs,.int .i64 s.cfg.kind,.int .i64 s.cfg.stg.kind,.int .i64 s.cfg.stg.extra,.int .u64 (s.cfg.stg.seed:Int),.int .i64 s.cfg.stg.count,.int .i64 s.cfg.stg.len,.int .i64 s.cfg.bound,.int .i64 s.phase,.int .i64 s.tab.inputs,.slice A.p s.tab.pre.length A.pc,.slice A.q s.tab.suf.length A.qc,.int .i64 s.tIn,.slice A.n s.nodes.length A.nc,.int .i64 s.lz.inputs,.slice A.u s.lz.pre.length A.uc,.slice A.v s.lz.suf.length A.vc,.int .i64 s.obs.inputs,.slice A.t s.obs.traces.length A.tc,.int .i64 s.hyp.m.inputs,.int .i64 s.hyp.m.start,.slice A.x s.hyp.m.next.length A.xc,.slice A.y s.hyp.m.out.length A.yc,.slice A.z s.hyp.acc.length A.zc,.int .i64 s.rounds,.int .i64 s.code]] w' fun e w''=>e= .returned (.int .i64 er)∧Below w'.heap.size w' w''):=fun h4 h6 w' hb=>sessR_any (hm.below hb) (hfit h4 h6) her
 have E1:=Lib.hid E1
 have E2:=Lib.hid E2
 obtain ⟨W,hW⟩:∃W,W=w.alloc (.cells #[.int .i64 s.cfg.inputs,.int .i64 s.cfg.kind,.int .i64 s.cfg.stg.kind,.int .i64 s.cfg.stg.extra,.int .u64 (s.cfg.stg.seed:Int),.int .i64 s.cfg.stg.count,.int .i64 s.cfg.stg.len,.int .i64 s.cfg.bound,.int .i64 s.phase,.int .i64 s.tab.inputs,.slice A.p s.tab.pre.length A.pc,.slice A.q s.tab.suf.length A.qc,.int .i64 s.tIn,.slice A.n s.nodes.length A.nc,.int .i64 s.lz.inputs,.slice A.u s.lz.pre.length A.uc,.slice A.v s.lz.suf.length A.vc,.int .i64 s.obs.inputs,.slice A.t s.obs.traces.length A.tc,.int .i64 s.hyp.m.inputs,.int .i64 s.hyp.m.start,.slice A.x s.hyp.m.next.length A.xc,.slice A.y s.hyp.m.out.length A.yc,.slice A.z s.hyp.acc.length A.zc,.int .i64 s.rounds,.int .i64 s.code] 46):=⟨_,rfl⟩
 have hB:Below w.heap.size w W:=by rw [hW];exact (Below.refl _ _).alloc (Nat.le_refl _) _
 have hz:w.heap.size<W.heap.size:=by rw [hW];simp
 have cb:SeC (w.alloc (.cells #[.int .i64 s.cfg.inputs,.int .i64 s.cfg.kind,.int .i64 s.cfg.stg.kind,.int .i64 s.cfg.stg.extra,.int .u64 (s.cfg.stg.seed:Int),.int .i64 s.cfg.stg.count,.int .i64 s.cfg.stg.len,.int .i64 s.cfg.bound,.int .i64 s.phase,.int .i64 s.tab.inputs,.slice A.p s.tab.pre.length A.pc,.slice A.q s.tab.suf.length A.qc,.int .i64 s.tIn,.slice A.n s.nodes.length A.nc,.int .i64 s.lz.inputs,.slice A.u s.lz.pre.length A.uc,.slice A.v s.lz.suf.length A.vc,.int .i64 s.obs.inputs,.slice A.t s.obs.traces.length A.tc,.int .i64 s.hyp.m.inputs,.int .i64 s.hyp.m.start,.slice A.x s.hyp.m.next.length A.xc,.slice A.y s.hyp.m.out.length A.yc,.slice A.z s.hyp.acc.length A.zc,.int .i64 s.rounds,.int .i64 s.code] 46)) w.heap.size s A:=box_new w _ _
 clear hm hn hfit her hv1 hv2 hv3 hv4 hv5 hv6 hv7
 go_enter Tryz.func4,Tryz.ntmps4
 go_wp2_with fail
 rw [←hW] at cb ⊢
 clear hW
 have HX:Hid (∀w',Below W.heap.size W w'→SeC w' w.heap.size s A∧Below w.heap.size w w'∧w.heap.size<w'.heap.size):=fun w' h=>⟨cb.below h hz,hB.trans (h.mono (by omega)),by have:=h.size;omega⟩
 have hU0:=Below.refl W.heap.size W
 refine (C1.out _ hB).mono ?_
 rintro e w1 ⟨rfl,hb⟩
 have hU1:=hU0.trans (hb.mono hU0.size)
 clear hb cb hB C1 hU0
 obtain ⟨cb,hB,hz1⟩:=HX.out _ hU1
 by_cases h1:v1=true
 ·subst h1
  go_wp2_with fail
  refine (HA.out _).mono ?_
  rintro e w9 ⟨rfl,hb9⟩
  have hU9:=hU1.trans (hb9.mono hU1.size)
  obtain ⟨-,hB9, -⟩:=HX.out _ hU9
  go_wp2
  go_ret
  exact ⟨rfl,hB9⟩
 have q1:v1=false:=by simpa using h1
 subst q1
 clear h1 hz1
 go_wp2_with fail
 refine (C2.out _ hB).mono ?_
 rintro e w2 ⟨rfl,hb⟩
 have hU2:=hU1.trans (hb.mono hU1.size)
 clear hb cb hB C2 hU1
 obtain ⟨cb,hB,hz2⟩:=HX.out _ hU2
 by_cases h2:v2=true
 ·subst h2
  go_wp2_with fail
  refine (HA.out _).mono ?_
  rintro e w9 ⟨rfl,hb9⟩
  have hU9:=hU2.trans (hb9.mono hU2.size)
  obtain ⟨-,hB9, -⟩:=HX.out _ hU9
  go_wp2
  go_ret
  exact ⟨rfl,hB9⟩
 have q2:v2=false:=by simpa using h2
 subst q2
 clear h2 hz2
 go_wp2_with fail
 refine (C3.out _ hB).mono ?_
 rintro e w3 ⟨rfl,hb⟩
 have hU3:=hU2.trans (hb.mono hU2.size)
 clear hb cb hB C3 hU2
 obtain ⟨cb,hB,hz3⟩:=HX.out _ hU3
 by_cases h3:v3=true
 ·subst h3
  go_wp2_with fail
  refine (HA.out _).mono ?_
  rintro e w9 ⟨rfl,hb9⟩
  have hU9:=hU3.trans (hb9.mono hU3.size)
  obtain ⟨-,hB9, -⟩:=HX.out _ hU9
  go_wp2
  go_ret
  exact ⟨rfl,hB9⟩
 have q3:v3=false:=by simpa using h3
 subst q3
 clear h3 hz3
 go_wp2_with fail
 refine (C4.out _ hB).mono ?_
 rintro e w4 ⟨rfl,hb⟩
 have hU4:=hU3.trans (hb.mono hU3.size)
 clear hb cb hB C4 hU3
 obtain ⟨cb,hB,hz4⟩:=HX.out _ hU4
 by_cases h4:v4=true
 ·subst h4
  go_wp2_with fail
  refine (HA.out _).mono ?_
  rintro e w9 ⟨rfl,hb9⟩
  have hU9:=hU4.trans (hb9.mono hU4.size)
  obtain ⟨-,hB9, -⟩:=HX.out _ hU9
  go_wp2
  go_ret
  exact ⟨rfl,hB9⟩
 have q4:v4=false:=by simpa using h4
 have Q4:=Lib.hid q4
 subst q4
 clear h4 hz4
 go_wp2_with fail
 refine (C5.out _ hB).mono ?_
 rintro e w5 ⟨rfl,hb⟩
 have hU5:=hU4.trans (hb.mono hU4.size)
 clear hb cb hB C5 hU4
 obtain ⟨cb,hB,hz5⟩:=HX.out _ hU5
 by_cases h5:v5=true
 ·subst h5
  go_wp2_with fail
  refine (HA.out _).mono ?_
  rintro e w9 ⟨rfl,hb9⟩
  have hU9:=hU5.trans (hb9.mono hU5.size)
  obtain ⟨-,hB9, -⟩:=HX.out _ hU9
  go_wp2
  go_ret
  exact ⟨rfl,hB9⟩
 have q5:v5=false:=by simpa using h5
 subst q5
 clear h5 hz5
 go_wp2_with fail
 refine (C6.out _ hB).mono ?_
 rintro e w6 ⟨rfl,hb⟩
 have hU6:=hU5.trans (hb.mono hU5.size)
 clear hb cb hB C6 hU5
 obtain ⟨cb,hB,hz6⟩:=HX.out _ hU6
 by_cases h6:v6=true
 ·subst h6
  go_wp2_with fail
  refine (HA.out _).mono ?_
  rintro e w9 ⟨rfl,hb9⟩
  have hU9:=hU6.trans (hb9.mono hU6.size)
  obtain ⟨-,hB9, -⟩:=HX.out _ hU9
  go_wp2
  go_ret
  exact ⟨rfl,hB9⟩
 have q6:v6=false:=by simpa using h6
 have Q6:=Lib.hid q6
 subst q6
 clear h6 hz6
 go_wp2_with fail
 refine (C7.out _ hB).mono ?_
 rintro e w7 ⟨rfl,hb⟩
 have hU7:=hU6.trans (hb.mono hU6.size)
 clear hb cb hB C7 hU6
 obtain ⟨cb,hB,hz7⟩:=HX.out _ hU7
 by_cases h7:v7=true
 ·subst h7
  go_wp2_with fail
  refine (HA.out _).mono ?_
  rintro e w9 ⟨rfl,hb9⟩
  have hU9:=hU7.trans (hb9.mono hU7.size)
  obtain ⟨-,hB9, -⟩:=HX.out _ hU9
  go_wp2
  go_ret
  exact ⟨rfl,hB9⟩
 have q7:v7=false:=by simpa using h7
 subst q7
 clear h7 hz7
 have E1:=E1.out Q4.out Q6.out
 have E2:=E2.out Q4.out Q6.out
 by_cases h8:60<s.nodes.length
 ·go_wp2_with fail
  refine (HA.out _).mono ?_
  rintro e w9 ⟨rfl,hb9⟩
  have hU9:=hU7.trans (hb9.mono hU7.size)
  obtain ⟨-,hB9, -⟩:=HX.out _ hU9
  go_wp2
  go_ret
  exact ⟨rfl,hB9⟩
 have g8:¬(s.nodes.length:Int)>60:=by omega
 go_wp2_with fail
 have HRG:∀w',Below W.heap.size W w'→w'.rangeAt w.heap.size 0 [.int .i64 s.cfg.inputs,.int .i64 s.cfg.kind,.int .i64 s.cfg.stg.kind,.int .i64 s.cfg.stg.extra,.int .u64 (s.cfg.stg.seed:Int),.int .i64 s.cfg.stg.count,.int .i64 s.cfg.stg.len,.int .i64 s.cfg.bound,.int .i64 s.phase,.int .i64 s.tab.inputs,.slice A.p s.tab.pre.length A.pc,.slice A.q s.tab.suf.length A.qc,.int .i64 s.tIn,.slice A.n s.nodes.length A.nc,.int .i64 s.lz.inputs,.slice A.u s.lz.pre.length A.uc,.slice A.v s.lz.suf.length A.vc,.int .i64 s.obs.inputs,.slice A.t s.obs.traces.length A.tc,.int .i64 s.hyp.m.inputs,.int .i64 s.hyp.m.start,.slice A.x s.hyp.m.next.length A.xc,.slice A.y s.hyp.m.out.length A.yc,.slice A.z s.hyp.acc.length A.zc,.int .i64 s.rounds,.int .i64 s.code]:=fun w' h j v hj=>by
  rw [Nat.zero_add,(HX.out _ h).1 j]
  rw [←hj]
  exact List.getElem?_toArray
 have HRG:=Lib.hid HRG
 have HE1:=Lib.hid (fun w' h=>E1.out w' (HX.out w' h).2.1)
 have HE2:=Lib.hid (fun w' h=>E2.out w' (HX.out w' h).2.1)
 refine wp_region_L (fun w'=>Below W.heap.size W w') [0,2,4,5,7,8] (by kernel_rfl) ?_
 have hS0:Below W.heap.size W w7.drew:=hU7.drew
 clear cb hB hU7 hz h8 g8 E1 E2
 generalize w7.drew=w8 at*
 refine wpAnyL_take (i:=0) (v:= .agg #[.int .i64 s.cfg.inputs,.int .i64 s.cfg.kind,.int .i64 s.cfg.stg.kind,.int .i64 s.cfg.stg.extra,.int .u64 (s.cfg.stg.seed:Int),.int .i64 s.cfg.stg.count,.int .i64 s.cfg.stg.len,.int .i64 s.cfg.bound,.int .i64 s.phase,.int .i64 s.tab.inputs,.slice A.p s.tab.pre.length A.pc,.slice A.q s.tab.suf.length A.qc,.int .i64 s.tIn,.slice A.n s.nodes.length A.nc,.int .i64 s.lz.inputs,.slice A.u s.lz.pre.length A.uc,.slice A.v s.lz.suf.length A.vc,.int .i64 s.obs.inputs,.slice A.t s.obs.traces.length A.tc,.int .i64 s.hyp.m.inputs,.int .i64 s.hyp.m.start,.slice A.x s.hyp.m.next.length A.xc,.slice A.y s.hyp.m.out.length A.yc,.slice A.z s.hyp.acc.length A.zc,.int .i64 s.rounds,.int .i64 s.code]) rfl (by kernel_rfl) (by kernel_rfl) (by kernel_rfl) (by kernel_rfl) (fun _ _ _ h=>h) (yieldsIf_load_mid (by rfl) 46 _ rfl w.heap.size 0 rfl [.int .i64 s.cfg.inputs,.int .i64 s.cfg.kind,.int .i64 s.cfg.stg.kind,.int .i64 s.cfg.stg.extra,.int .u64 (s.cfg.stg.seed:Int),.int .i64 s.cfg.stg.count,.int .i64 s.cfg.stg.len,.int .i64 s.cfg.bound,.int .i64 s.phase,.int .i64 s.tab.inputs,.slice A.p s.tab.pre.length A.pc,.slice A.q s.tab.suf.length A.qc,.int .i64 s.tIn,.slice A.n s.nodes.length A.nc,.int .i64 s.lz.inputs,.slice A.u s.lz.pre.length A.uc,.slice A.v s.lz.suf.length A.vc,.int .i64 s.obs.inputs,.slice A.t s.obs.traces.length A.tc,.int .i64 s.hyp.m.inputs,.int .i64 s.hyp.m.start,.slice A.x s.hyp.m.next.length A.xc,.slice A.y s.hyp.m.out.length A.yc,.slice A.z s.hyp.acc.length A.zc,.int .i64 s.rounds,.int .i64 s.code] _ HRG.out Tryz.underlying46 rfl (by kernel_rfl)) hS0 ?_
 try simp only [Act.put,List.setIfInBounds_toArray,List.set_cons_zero,List.set_cons_succ]
 refine wpAnyL_take (i:=2) (v:= .agg #[.int .i64 s.cfg.inputs,.int .i64 s.cfg.kind,.int .i64 s.cfg.stg.kind,.int .i64 s.cfg.stg.extra,.int .u64 (s.cfg.stg.seed:Int),.int .i64 s.cfg.stg.count,.int .i64 s.cfg.stg.len,.int .i64 s.cfg.bound,.int .i64 s.phase,.int .i64 s.tab.inputs,.slice A.p s.tab.pre.length A.pc,.slice A.q s.tab.suf.length A.qc,.int .i64 s.tIn,.slice A.n s.nodes.length A.nc,.int .i64 s.lz.inputs,.slice A.u s.lz.pre.length A.uc,.slice A.v s.lz.suf.length A.vc,.int .i64 s.obs.inputs,.slice A.t s.obs.traces.length A.tc,.int .i64 s.hyp.m.inputs,.int .i64 s.hyp.m.start,.slice A.x s.hyp.m.next.length A.xc,.slice A.y s.hyp.m.out.length A.yc,.slice A.z s.hyp.acc.length A.zc,.int .i64 s.rounds,.int .i64 s.code]) rfl (by kernel_rfl) (by kernel_rfl) (by kernel_rfl) (by kernel_rfl) (fun _ _ _ h=>h) (yieldsIf_load_mid (by rfl) 46 _ rfl w.heap.size 0 rfl [.int .i64 s.cfg.inputs,.int .i64 s.cfg.kind,.int .i64 s.cfg.stg.kind,.int .i64 s.cfg.stg.extra,.int .u64 (s.cfg.stg.seed:Int),.int .i64 s.cfg.stg.count,.int .i64 s.cfg.stg.len,.int .i64 s.cfg.bound,.int .i64 s.phase,.int .i64 s.tab.inputs,.slice A.p s.tab.pre.length A.pc,.slice A.q s.tab.suf.length A.qc,.int .i64 s.tIn,.slice A.n s.nodes.length A.nc,.int .i64 s.lz.inputs,.slice A.u s.lz.pre.length A.uc,.slice A.v s.lz.suf.length A.vc,.int .i64 s.obs.inputs,.slice A.t s.obs.traces.length A.tc,.int .i64 s.hyp.m.inputs,.int .i64 s.hyp.m.start,.slice A.x s.hyp.m.next.length A.xc,.slice A.y s.hyp.m.out.length A.yc,.slice A.z s.hyp.acc.length A.zc,.int .i64 s.rounds,.int .i64 s.code] _ HRG.out Tryz.underlying46 rfl (by kernel_rfl)) hS0 ?_
 try simp only [Act.put,List.setIfInBounds_toArray,List.set_cons_zero,List.set_cons_succ]
 refine wpAnyL_one (i:=1) (by kernel_rfl) rfl rfl (fun K hK=> ?_)
 go_simp
 refine (HE1.out _ hS0).mono ?_
 rintro e w9 ⟨rfl,hb⟩
 have hS9:Below W.heap.size W w9:=hS0.trans (hb.mono hS0.size)
 refine hK _ _ (fun _=>hS9) ?_
 clear hK K hb hS0 HE1
 refine wpAnyL_one (i:=3) (by kernel_rfl) rfl rfl (fun K hK=> ?_)
 go_simp
 refine (HE2.out _ hS9).mono ?_
 rintro e w10 ⟨rfl,hb⟩
 have hS10:Below W.heap.size W w10:=hS9.trans (hb.mono hS9.size)
 refine hK _ _ (fun _=>hS10) ?_
 clear hK K hb hS9 HE2
 refine skL_on [4,5] ?_
 repeat (refine skL_take (v:= ?_) rfl ?_ ?_;rotate_left;(focus (intro w' hSw;(try dsimp only at hSw);go_simp;try with_reducible rfl));try simp only [Act.put,List.setIfInBounds_toArray,List.set_cons_zero,List.set_cons_succ])
 refine skL_off ?_
 refine wpAnyL_one (i:=6) (by kernel_rfl) rfl rfl (fun K hK=> ?_)
 go_simp
 refine (HA.out _).mono ?_
 rintro e w11 ⟨rfl,hb⟩
 have hS11:Below W.heap.size W w11:=hS10.trans (hb.mono hS10.size)
 refine hK _ _ (fun _=>hS11) ?_
 clear hK K hb hS10 HA
 refine skL_on [7,8] ?_
 repeat (refine skL_take (v:= ?_) rfl ?_ ?_;rotate_left;(focus (intro w' hSw;(try dsimp only at hSw);go_simp;try with_reducible rfl));try simp only [Act.put,List.setIfInBounds_toArray,List.set_cons_zero,List.set_cons_succ])
 refine skL_off ?_
 refine wpAnyL_done (by kernel_rfl) ?_ _
 obtain ⟨-,hB, -⟩:=HX.out _ hS11
 go_wp2
 go_ret
 exact ⟨rfl,hB⟩
end
end Go.Proofs.YtjmbphjgiodioaaGreatDoor
