/- Several texts, one behind the other. Conditions: as each of them says. -/
import Derived.Test.YtjagagpcjpcjjaaGreatMc20
import Derived.Test.YtjagagpcjpcjjaaGreatMc7
import Derived.Test.YtjagagpcjpcjjaaGreatMc4
import Derived.Test.YtjagagpcjpcjjaaGreatMc1
import Derived.RegionTactic
set_option maxRecDepth 100000
set_option maxHeartbeats 32000000
namespace Go.Proofs.YtjagagpcjpcjjaaGreat
open Go.RowKit
section
variable {M M':Nat→Prop} {w:World} {an ao ac:Option Addr} {cn co cc:Nat} {m:Mach} {cls:List Int}
theorem refA (hm:Ma M w an cn ao co m) (ok:m.Ok) (k:Int) (hk:k<0):
    Calls Tryz.prog 165 #[maV m an cn ao co,.int .i64 k] w fun e w'=>
     ∃a c l d,e= .returned (.tuple #[.slice a l.length c,.int .i64 ((d:Nat):Int)])∧Hid (l=(m.pp d).1∧m.Steps (0) d)∧Sl (fun k=>k<w.heap.size) w' a c l∧Below w.heap.size w w':=by
 have OK:=Lib.hid ok
 have n1:=ok.n1
 have n0:=ok.n0
 have hk2:=hk
 clear ok
 go_enter Tryz.func165,Tryz.ntmps165
 go_wp2_with (at_make;refine wpList_mk_i (B:=w.heap.size+1) (n:=m.next.length) rfl rfl Tryz.underlying49 info_int rfl (by omega) (by simp) ?_)
 intro g c l w1 hl hO hb1 hg
 have hbx1:∀o,w1.cell? ⟨w.heap.size,o,none⟩=_:=fun o=>hb1.cell (by simp)
 have hS:=hO.fresh (n:=w.heap.size) (by omega)
 go_wp2
 go_loopw [6, 7, 21] (fun v n i wr => ∃ (j : Nat) (a' : Option Addr) (c' : Nat) (l : List Int) (q : Int), j ≤ 0 ∧ i = .int .i64 j ∧ v = .slice a' l.length c' ∧ n = .int .i64 q ∧ Hid (m.pp j = (l, q)) ∧ Hid (∀ j', j' < j → (m.pp (j' + 1)).2 ≠ (m.pp j').2) ∧ Sl (fun k => k < w.heap.size) wr a' c' l ∧
     Below (w.heap.size+1) (w.alloc (.cells #[.int .i64 m.inputs,.int .i64 m.start,.slice an m.next.length cn,.slice ao m.out.length co] 24)) wr) (fun _ _ i _=>(0)-(intOf i).toNat)
 case atStart=>exact ⟨0,_,_,l,1,by omega,rfl,rfl,rfl,by unfold Hid;rw [hl.out];rfl,fun j hj=>by omega,hS,hb1⟩
 case round=>
  clear hO hb1 hS hbx1 hl
  obtain ⟨j,a',c',l,q,hj,rfl,rfl,rfl,hpp,hdf,hS,hB⟩:=hrel
  obtain ⟨wo,rfl⟩:∃wo:World,wo=wr:=⟨_,rfl⟩
  have hbx:∀o,wo.cell? ⟨w.heap.size,o,none⟩=_:=fun o=>hB.cell (by simp)
  have hsz:w.heap.size+1≤wo.heap.size:=by have:=hB.size;simpa using this
  have hB3:Below w.heap.size w wo:=((Below.refl _ _).alloc (Nat.le_refl _) _).trans (hB.mono (by omega))
  have hpl:Hid ((m.pp j).1=l∧(m.pp j).2=q):=by unfold Hid;rw [hpp.out];exact ⟨rfl,rfl⟩
  by_cases hlt:j<0
  ·have hlt':(j:Int)<0:=by omega
   have hll:l.length=m.next.length:=by rw [←hpl.out.1,m.pp_length]
   have HF:=Lib.hid (next_any (hm.below hB3) hS OK.out hll)
   have HLL:=Lib.hid hll
   clear hll
   by_cases hq:(m.pp (j+1)).2=q
   ·have HQ:=Lib.hid hq
    clear hq
    go_wp2_with (go_at_call 211;refine (HF.out).mono ?_;rintro e w4 ⟨a4,c4,l4,q4,rfl,hl4,hS4,hb4⟩;have hqq:(q4==q)=true:=by (rw [HLL.out,←hpl.out.1,←m.pp_succ] at hl4;have h5:=HQ.out;rw [hl4.out] at h5;simpa using h5))
    go_ret2
    exact ⟨a',c',l,j,rfl,⟨hpl.out.1.symm,by omega,hdf.out,.inr (by rw [hpl.out.2];exact HQ.out)⟩,hS.below' hb4,hB3.trans (hb4.mono (by omega))⟩
   have HQ:=Lib.hid hq
   clear hq
   go_wp2_with (go_at_call 211;refine (HF.out).mono ?_;rintro e w4 ⟨a4,c4,l4,q4,rfl,hl4,hS4,hb4⟩;have hqq:(q4==q)=false:=by (rw [HLL.out,←hpl.out.1,←m.pp_succ] at hl4;have h5:=HQ.out;rw [hl4.out] at h5;simpa using h5))
   go_roundw
   case rel=>exact ⟨j+1,a4,c4,l4,q4,by omega,by go_num,rfl,rfl,by unfold Hid;rw [m.pp_succ,hpl.out.1,←HLL.out];exact hl4.out,fun j' hj'=>by
    by_cases e:j'=j
    ·subst e;rw [hpl.out.2];exact HQ.out
    exact hdf.out j' (by omega),hS4.anti (fun q _ hq=>by omega),hB.trans (hb4.mono hsz)⟩
   case measure=>simp [intOf];omega
  have hlt':¬(j:Int)<0:=by omega
  have hjk:Hid (j=0):=by unfold Hid;omega
  go_wp2
  refine wp_quiet_fast (by kernel_rfl) (by kernel_rfl) ?_
  repeat (first|go_big_quiet_step (fail)|quiet_step (fail))
  refine wpQuiet_nil ?_
  intro _ hw'
  obtain ⟨nq,hw''⟩:=hw'
  subst hw''
  go_wp2
  go_ret2
  refine ⟨a',c',l,j,ret2_int' (by have:=hjk.out;omega),⟨hpl.out.1.symm,by omega,hdf.out,.inl hjk.out⟩,?_,?_⟩
  ·exact hS.ext ⟨Nat.le_refl _,fun _ _ _=>rfl,fun _ _ h=>h⟩
  exact bl_drewN hB3 _
theorem refB (hm:Ma M w an cn ao co m) (ok:m.Ok) (p:Nat) (hk:p<m.next.length):
    Calls Tryz.prog 165 #[maV m an cn ao co,.int .i64 (p:Int)] w fun e w'=>
     ∃a c l d,e= .returned (.tuple #[.slice a l.length c,.int .i64 ((d:Nat):Int)])∧Hid (l=(m.pp d).1∧m.Steps (p) d)∧Sl (fun k=>k<w.heap.size) w' a c l∧Below w.heap.size w w':=by
 have OK:=Lib.hid ok
 have n1:=ok.n1
 have n0:=ok.n0
 have hk2:=hk
 clear ok
 go_enter Tryz.func165,Tryz.ntmps165
 go_wp2_with (at_make;refine wpList_mk_i (B:=w.heap.size+1) (n:=m.next.length) rfl rfl Tryz.underlying49 info_int rfl (by omega) (by simp) ?_)
 intro g c l w1 hl hO hb1 hg
 have hbx1:∀o,w1.cell? ⟨w.heap.size,o,none⟩=_:=fun o=>hb1.cell (by simp)
 have hS:=hO.fresh (n:=w.heap.size) (by omega)
 go_wp2
 go_loopw [6, 7, 21] (fun v n i wr => ∃ (j : Nat) (a' : Option Addr) (c' : Nat) (l : List Int) (q : Int), j ≤ p ∧ i = .int .i64 j ∧ v = .slice a' l.length c' ∧ n = .int .i64 q ∧ Hid (m.pp j = (l, q)) ∧ Hid (∀ j', j' < j → (m.pp (j' + 1)).2 ≠ (m.pp j').2) ∧ Sl (fun k => k < w.heap.size) wr a' c' l ∧
     Below (w.heap.size+1) (w.alloc (.cells #[.int .i64 m.inputs,.int .i64 m.start,.slice an m.next.length cn,.slice ao m.out.length co] 24)) wr) (fun _ _ i _=>(p)-(intOf i).toNat)
 case atStart=>exact ⟨0,_,_,l,1,by omega,rfl,rfl,rfl,by unfold Hid;rw [hl.out];rfl,fun j hj=>by omega,hS,hb1⟩
 case round=>
  clear hO hb1 hS hbx1 hl
  obtain ⟨j,a',c',l,q,hj,rfl,rfl,rfl,hpp,hdf,hS,hB⟩:=hrel
  obtain ⟨wo,rfl⟩:∃wo:World,wo=wr:=⟨_,rfl⟩
  have hbx:∀o,wo.cell? ⟨w.heap.size,o,none⟩=_:=fun o=>hB.cell (by simp)
  have hsz:w.heap.size+1≤wo.heap.size:=by have:=hB.size;simpa using this
  have hB3:Below w.heap.size w wo:=((Below.refl _ _).alloc (Nat.le_refl _) _).trans (hB.mono (by omega))
  have hpl:Hid ((m.pp j).1=l∧(m.pp j).2=q):=by unfold Hid;rw [hpp.out];exact ⟨rfl,rfl⟩
  by_cases hlt:j<p
  ·have hlt':(j:Int)<(p:Int):=by omega
   have hll:l.length=m.next.length:=by rw [←hpl.out.1,m.pp_length]
   have HF:=Lib.hid (next_any (hm.below hB3) hS OK.out hll)
   have HLL:=Lib.hid hll
   clear hll
   by_cases hq:(m.pp (j+1)).2=q
   ·have HQ:=Lib.hid hq
    clear hq
    go_wp2_with (go_at_call 211;refine (HF.out).mono ?_;rintro e w4 ⟨a4,c4,l4,q4,rfl,hl4,hS4,hb4⟩;have hqq:(q4==q)=true:=by (rw [HLL.out,←hpl.out.1,←m.pp_succ] at hl4;have h5:=HQ.out;rw [hl4.out] at h5;simpa using h5))
    go_ret2
    exact ⟨a',c',l,j,rfl,⟨hpl.out.1.symm,by omega,hdf.out,.inr (by rw [hpl.out.2];exact HQ.out)⟩,hS.below' hb4,hB3.trans (hb4.mono (by omega))⟩
   have HQ:=Lib.hid hq
   clear hq
   go_wp2_with (go_at_call 211;refine (HF.out).mono ?_;rintro e w4 ⟨a4,c4,l4,q4,rfl,hl4,hS4,hb4⟩;have hqq:(q4==q)=false:=by (rw [HLL.out,←hpl.out.1,←m.pp_succ] at hl4;have h5:=HQ.out;rw [hl4.out] at h5;simpa using h5))
   go_roundw
   case rel=>exact ⟨j+1,a4,c4,l4,q4,by omega,by go_num,rfl,rfl,by unfold Hid;rw [m.pp_succ,hpl.out.1,←HLL.out];exact hl4.out,fun j' hj'=>by
    by_cases e:j'=j
    ·subst e;rw [hpl.out.2];exact HQ.out
    exact hdf.out j' (by omega),hS4.anti (fun q _ hq=>by omega),hB.trans (hb4.mono hsz)⟩
   case measure=>simp [intOf];omega
  have hlt':¬(j:Int)<(p:Int):=by omega
  have hjk:Hid (j=p):=by unfold Hid;omega
  go_wp2
  refine wp_quiet_fast (by kernel_rfl) (by kernel_rfl) ?_
  repeat (first|go_big_quiet_step (fail)|quiet_step (fail))
  refine wpQuiet_nil ?_
  intro _ hw'
  obtain ⟨nq,hw''⟩:=hw'
  subst hw''
  go_wp2
  go_ret2
  refine ⟨a',c',l,j,ret2_int' (by have:=hjk.out;omega),⟨hpl.out.1.symm,by omega,hdf.out,.inl hjk.out⟩,?_,?_⟩
  ·exact hS.ext ⟨Nat.le_refl _,fun _ _ _=>rfl,fun _ _ h=>h⟩
  exact bl_drewN hB3 _
theorem refC (hm:Ma M w an cn ao co m) (ok:m.Ok) (k:Int) (hk:(m.next.length:Int)<k):
    Calls Tryz.prog 165 #[maV m an cn ao co,.int .i64 k] w fun e w'=>
     ∃a c l d,e= .returned (.tuple #[.slice a l.length c,.int .i64 ((d:Nat):Int)])∧Hid (l=(m.pp d).1∧m.Steps (m.next.length) d)∧Sl (fun k=>k<w.heap.size) w' a c l∧Below w.heap.size w w':=by
 have OK:=Lib.hid ok
 have n1:=ok.n1
 have n0:=ok.n0
 have hk2:=hk
 clear ok
 go_enter Tryz.func165,Tryz.ntmps165
 go_wp2_with (at_make;refine wpList_mk_i (B:=w.heap.size+1) (n:=m.next.length) rfl rfl Tryz.underlying49 info_int rfl (by omega) (by simp) ?_)
 intro g c l w1 hl hO hb1 hg
 have hbx1:∀o,w1.cell? ⟨w.heap.size,o,none⟩=_:=fun o=>hb1.cell (by simp)
 have hS:=hO.fresh (n:=w.heap.size) (by omega)
 go_wp2
 go_loopw [6, 7, 21] (fun v n i wr => ∃ (j : Nat) (a' : Option Addr) (c' : Nat) (l : List Int) (q : Int), j ≤ m.next.length ∧ i = .int .i64 j ∧ v = .slice a' l.length c' ∧ n = .int .i64 q ∧ Hid (m.pp j = (l, q)) ∧ Hid (∀ j', j' < j → (m.pp (j' + 1)).2 ≠ (m.pp j').2) ∧ Sl (fun k => k < w.heap.size) wr a' c' l ∧
     Below (w.heap.size+1) (w.alloc (.cells #[.int .i64 m.inputs,.int .i64 m.start,.slice an m.next.length cn,.slice ao m.out.length co] 24)) wr) (fun _ _ i _=>(m.next.length)-(intOf i).toNat)
 case atStart=>exact ⟨0,_,_,l,1,by omega,rfl,rfl,rfl,by unfold Hid;rw [hl.out];rfl,fun j hj=>by omega,hS,hb1⟩
 case round=>
  clear hO hb1 hS hbx1 hl
  obtain ⟨j,a',c',l,q,hj,rfl,rfl,rfl,hpp,hdf,hS,hB⟩:=hrel
  obtain ⟨wo,rfl⟩:∃wo:World,wo=wr:=⟨_,rfl⟩
  have hbx:∀o,wo.cell? ⟨w.heap.size,o,none⟩=_:=fun o=>hB.cell (by simp)
  have hsz:w.heap.size+1≤wo.heap.size:=by have:=hB.size;simpa using this
  have hB3:Below w.heap.size w wo:=((Below.refl _ _).alloc (Nat.le_refl _) _).trans (hB.mono (by omega))
  have hpl:Hid ((m.pp j).1=l∧(m.pp j).2=q):=by unfold Hid;rw [hpp.out];exact ⟨rfl,rfl⟩
  by_cases hlt:j<m.next.length
  ·have hlt':(j:Int)<(m.next.length:Int):=by omega
   have hll:l.length=m.next.length:=by rw [←hpl.out.1,m.pp_length]
   have HF:=Lib.hid (next_any (hm.below hB3) hS OK.out hll)
   have HLL:=Lib.hid hll
   clear hll
   by_cases hq:(m.pp (j+1)).2=q
   ·have HQ:=Lib.hid hq
    clear hq
    go_wp2_with (go_at_call 211;refine (HF.out).mono ?_;rintro e w4 ⟨a4,c4,l4,q4,rfl,hl4,hS4,hb4⟩;have hqq:(q4==q)=true:=by (rw [HLL.out,←hpl.out.1,←m.pp_succ] at hl4;have h5:=HQ.out;rw [hl4.out] at h5;simpa using h5))
    go_ret2
    exact ⟨a',c',l,j,rfl,⟨hpl.out.1.symm,by omega,hdf.out,.inr (by rw [hpl.out.2];exact HQ.out)⟩,hS.below' hb4,hB3.trans (hb4.mono (by omega))⟩
   have HQ:=Lib.hid hq
   clear hq
   go_wp2_with (go_at_call 211;refine (HF.out).mono ?_;rintro e w4 ⟨a4,c4,l4,q4,rfl,hl4,hS4,hb4⟩;have hqq:(q4==q)=false:=by (rw [HLL.out,←hpl.out.1,←m.pp_succ] at hl4;have h5:=HQ.out;rw [hl4.out] at h5;simpa using h5))
   go_roundw
   case rel=>exact ⟨j+1,a4,c4,l4,q4,by omega,by go_num,rfl,rfl,by unfold Hid;rw [m.pp_succ,hpl.out.1,←HLL.out];exact hl4.out,fun j' hj'=>by
    by_cases e:j'=j
    ·subst e;rw [hpl.out.2];exact HQ.out
    exact hdf.out j' (by omega),hS4.anti (fun q _ hq=>by omega),hB.trans (hb4.mono hsz)⟩
   case measure=>simp [intOf];omega
  have hlt':¬(j:Int)<(m.next.length:Int):=by omega
  have hjk:Hid (j=m.next.length):=by unfold Hid;omega
  go_wp2
  refine wp_quiet_fast (by kernel_rfl) (by kernel_rfl) ?_
  repeat (first|go_big_quiet_step (fail)|quiet_step (fail))
  refine wpQuiet_nil ?_
  intro _ hw'
  obtain ⟨nq,hw''⟩:=hw'
  subst hw''
  go_wp2
  go_ret2
  refine ⟨a',c',l,j,ret2_int' (by have:=hjk.out;omega),⟨hpl.out.1.symm,by omega,hdf.out,.inl hjk.out⟩,?_,?_⟩
  ·exact hS.ext ⟨Nat.le_refl _,fun _ _ _=>rfl,fun _ _ h=>h⟩
  exact bl_drewN hB3 _
theorem refD (hm:Ma M w an cn ao co m) (ok:m.Ok) (hk:0<m.next.length):
    Calls Tryz.prog 165 #[maV m an cn ao co,.int .i64 (m.next.length:Int)] w fun e w'=>
     ∃a c l d,e= .returned (.tuple #[.slice a l.length c,.int .i64 ((d:Nat):Int)])∧Hid (l=(m.pp d).1∧m.Steps (m.next.length) d)∧Sl (fun k=>k<w.heap.size) w' a c l∧Below w.heap.size w w':=by
 have OK:=Lib.hid ok
 have n1:=ok.n1
 have n0:=ok.n0
 have hk2:=hk
 clear ok
 go_enter Tryz.func165,Tryz.ntmps165
 go_wp2_with (at_make;refine wpList_mk_i (B:=w.heap.size+1) (n:=m.next.length) rfl rfl Tryz.underlying49 info_int rfl (by omega) (by simp) ?_)
 intro g c l w1 hl hO hb1 hg
 have hbx1:∀o,w1.cell? ⟨w.heap.size,o,none⟩=_:=fun o=>hb1.cell (by simp)
 have hS:=hO.fresh (n:=w.heap.size) (by omega)
 go_wp2
 go_loopw [6, 7, 21] (fun v n i wr => ∃ (j : Nat) (a' : Option Addr) (c' : Nat) (l : List Int) (q : Int), j ≤ m.next.length ∧ i = .int .i64 j ∧ v = .slice a' l.length c' ∧ n = .int .i64 q ∧ Hid (m.pp j = (l, q)) ∧ Hid (∀ j', j' < j → (m.pp (j' + 1)).2 ≠ (m.pp j').2) ∧ Sl (fun k => k < w.heap.size) wr a' c' l ∧
     Below (w.heap.size+1) (w.alloc (.cells #[.int .i64 m.inputs,.int .i64 m.start,.slice an m.next.length cn,.slice ao m.out.length co] 24)) wr) (fun _ _ i _=>(m.next.length)-(intOf i).toNat)
 case atStart=>exact ⟨0,_,_,l,1,by omega,rfl,rfl,rfl,by unfold Hid;rw [hl.out];rfl,fun j hj=>by omega,hS,hb1⟩
 case round=>
  clear hO hb1 hS hbx1 hl
  obtain ⟨j,a',c',l,q,hj,rfl,rfl,rfl,hpp,hdf,hS,hB⟩:=hrel
  obtain ⟨wo,rfl⟩:∃wo:World,wo=wr:=⟨_,rfl⟩
  have hbx:∀o,wo.cell? ⟨w.heap.size,o,none⟩=_:=fun o=>hB.cell (by simp)
  have hsz:w.heap.size+1≤wo.heap.size:=by have:=hB.size;simpa using this
  have hB3:Below w.heap.size w wo:=((Below.refl _ _).alloc (Nat.le_refl _) _).trans (hB.mono (by omega))
  have hpl:Hid ((m.pp j).1=l∧(m.pp j).2=q):=by unfold Hid;rw [hpp.out];exact ⟨rfl,rfl⟩
  by_cases hlt:j<m.next.length
  ·have hlt':(j:Int)<(m.next.length:Int):=by omega
   have hll:l.length=m.next.length:=by rw [←hpl.out.1,m.pp_length]
   have HF:=Lib.hid (next_any (hm.below hB3) hS OK.out hll)
   have HLL:=Lib.hid hll
   clear hll
   by_cases hq:(m.pp (j+1)).2=q
   ·have HQ:=Lib.hid hq
    clear hq
    go_wp2_with (go_at_call 211;refine (HF.out).mono ?_;rintro e w4 ⟨a4,c4,l4,q4,rfl,hl4,hS4,hb4⟩;have hqq:(q4==q)=true:=by (rw [HLL.out,←hpl.out.1,←m.pp_succ] at hl4;have h5:=HQ.out;rw [hl4.out] at h5;simpa using h5))
    go_ret2
    exact ⟨a',c',l,j,rfl,⟨hpl.out.1.symm,by omega,hdf.out,.inr (by rw [hpl.out.2];exact HQ.out)⟩,hS.below' hb4,hB3.trans (hb4.mono (by omega))⟩
   have HQ:=Lib.hid hq
   clear hq
   go_wp2_with (go_at_call 211;refine (HF.out).mono ?_;rintro e w4 ⟨a4,c4,l4,q4,rfl,hl4,hS4,hb4⟩;have hqq:(q4==q)=false:=by (rw [HLL.out,←hpl.out.1,←m.pp_succ] at hl4;have h5:=HQ.out;rw [hl4.out] at h5;simpa using h5))
   go_roundw
   case rel=>exact ⟨j+1,a4,c4,l4,q4,by omega,by go_num,rfl,rfl,by unfold Hid;rw [m.pp_succ,hpl.out.1,←HLL.out];exact hl4.out,fun j' hj'=>by
    by_cases e:j'=j
    ·subst e;rw [hpl.out.2];exact HQ.out
    exact hdf.out j' (by omega),hS4.anti (fun q _ hq=>by omega),hB.trans (hb4.mono hsz)⟩
   case measure=>simp [intOf];omega
  have hlt':¬(j:Int)<(m.next.length:Int):=by omega
  have hjk:Hid (j=m.next.length):=by unfold Hid;omega
  go_wp2
  refine wp_quiet_fast (by kernel_rfl) (by kernel_rfl) ?_
  repeat (first|go_big_quiet_step (fail)|quiet_step (fail))
  refine wpQuiet_nil ?_
  intro _ hw'
  obtain ⟨nq,hw''⟩:=hw'
  subst hw''
  go_wp2
  go_ret2
  refine ⟨a',c',l,j,ret2_int' (by have:=hjk.out;omega),⟨hpl.out.1.symm,by omega,hdf.out,.inl hjk.out⟩,?_,?_⟩
  ·exact hS.ext ⟨Nat.le_refl _,fun _ _ _=>rfl,fun _ _ h=>h⟩
  exact bl_drewN hB3 _
theorem refine_any (hm:Ma M w an cn ao co m) (ok:m.Ok) (k:Int):
    Calls Tryz.prog 165 #[maV m an cn ao co,.int .i64 k] w fun e w'=>
     ∃a c l d,e= .returned (.tuple #[.slice a l.length c,.int .i64 ((d:Nat):Int)])∧Hid (l=(m.pp d).1∧m.Steps (min k.toNat m.next.length) d)∧Sl (fun k=>k<w.heap.size) w' a c l∧Below w.heap.size w w':=by
 by_cases h1:k<0
 ·have:=refA hm ok k h1
  rwa [show min k.toNat m.next.length=0 from by omega]
 obtain ⟨p,rfl⟩:=Int.eq_ofNat_of_zero_le (show 0≤k by omega)
 by_cases h2:p<m.next.length
 ·have:=refB hm ok p h2
  rwa [show min (p:Int).toNat m.next.length=p from by omega]
 by_cases h3:p=m.next.length
 ·subst h3
  have:=refD hm ok ok.n0
  rwa [show min (m.next.length:Int).toNat m.next.length=m.next.length from by omega]
 have:=refC hm ok (p:Int) (by omega)
 rwa [show min (p:Int).toNat m.next.length=m.next.length from by omega]
end
def Mach.DepthOf (m:Mach) (d:Nat):Prop:=if m.err=0 then m.Steps m.next.length d else d=0
section
variable {M:Nat→Prop} {w:World} {an ao:Option Addr} {cn co:Nat} {m:Mach}
theorem part_any (hm:Ma M w an cn ao co m) (k:Int):
    Calls Tryz.prog 119 #[maV m an cn ao co,.int .i64 k] w fun e w'=>
     ∃a c l,e= .returned (.tuple #[.slice a l.length c,.int .i64 m.err])∧Hid (l=m.partOf k)∧Sl (fun k=>k<w.heap.size) w' a c l∧Below w.heap.size w w':=by
 have HV:=Lib.hid (valid_any (hm.ext (Ext.alloc M w (.cells #[.int .i64 m.inputs,.int .i64 m.start,.slice an m.next.length cn,.slice ao m.out.length co] 24))))
 by_cases he:m.err=0
 ·have ok:=m.ok_of_err he
  have OK:=Lib.hid ok
  have he':(m.err !=0)=false:=by simp [he]
  have HE:=Lib.hid he
  clear he ok
  go_enter Tryz.func119,Tryz.ntmps119
  go_wp2_with (go_at_call 33;refine (HV.out).mono ?_;rintro e w1 ⟨rfl,hb1⟩;have hbx1:∀o,w1.cell? ⟨w.heap.size,o,none⟩=_:=fun o=>hb1.cell (by simp);have hm1:=(hm.ext (Ext.alloc M w (.cells #[.int .i64 m.inputs,.int .i64 m.start,.slice an m.next.length cn,.slice ao m.out.length co] 24))).below hb1;have HR:=Lib.hid (refine_any hm1 OK.out k);clear hm1;try (go_at_call 165))
  have hsz1:w.heap.size+1≤w1.heap.size:=by have:=hb1.size;simpa using this
  refine (HR.out).mono ?_
  rintro e w2 ⟨a,c,l,d,rfl,hl,hs,hb2⟩
  go_wp2
  go_ret2
  exact ⟨a,c,l,ret2_int HE.out.symm,by unfold Hid Mach.partOf;rw [if_pos HE.out,hl.out.1,hl.out.2.classes OK.out],hs.anti (fun q _ hq=>by omega),(((Below.refl _ _).alloc (Nat.le_refl _) _).trans (hb1.mono (by simp))).trans (hb2.mono (by omega))⟩
 have he':(m.err !=0)=true:=by simp [he]
 have HE:=Lib.hid he
 clear he
 go_enter Tryz.func119,Tryz.ntmps119
 go_wp2_with (go_at_call 33;refine (HV.out).mono ?_;rintro e w1 ⟨rfl,hb1⟩)
 go_ret2
 exact ⟨none,0,[],rfl,by unfold Hid Mach.partOf;rw [if_neg HE.out],Sl.nil _ _ _ (by unfold maxLen;omega),((Below.refl _ _).alloc (Nat.le_refl _) _).trans (hb1.mono (by simp))⟩
theorem classes_any (hm:Ma M w an cn ao co m):
    Calls Tryz.prog 69 #[maV m an cn ao co] w fun e w'=>
     ∃a c l,e= .returned (.tuple #[.slice a l.length c,.int .i64 m.err])∧Hid (l=m.partOf 128)∧Sl (fun k=>k<w.heap.size) w' a c l∧Below w.heap.size w w':=by
 have HP:=Lib.hid (part_any (hm.ext (Ext.alloc M w (.cells #[.int .i64 m.inputs,.int .i64 m.start,.slice an m.next.length cn,.slice ao m.out.length co] 24))) 128)
 go_enter Tryz.func69,Tryz.ntmps69
 go_wp2_with (go_at_call 119;refine (HP.out).mono ?_;rintro e w1 ⟨a,c,l,rfl,hl,hs,hb⟩)
 go_ret2
 exact ⟨a,c,l,rfl,hl,hs.anti (fun q _ hq=>by simp;omega),((Below.refl _ _).alloc (Nat.le_refl _) _).trans (hb.mono (by simp))⟩
end
theorem Mach.Steps.unique {m:Mach} {n d d':Nat} (h:m.Steps n d) (h':m.Steps n d'):d=d':=by
 rcases Nat.lt_trichotomy d d' with e|e|e
 ·rcases h.2.2 with h1|h1
  ·have:=h'.1;omega
  exact absurd h1 (h'.2.1 d e)
 ·exact e
 rcases h'.2.2 with h1|h1
 ·have:=h.1;omega
 exact absurd h1 (h.2.1 d' e)
theorem Mach.DepthOf.unique {m:Mach} {d d':Nat} (h:m.DepthOf d) (h':m.DepthOf d'):d=d':=by
 unfold DepthOf at h h'
 by_cases e:m.err=0
 ·rw [if_pos e] at h h';exact h.unique h'
 rw [if_neg e] at h h';rw [h,h']
section
variable {M:Nat→Prop} {w:World} {an ao:Option Addr} {cn co:Nat} {m:Mach}
end
end Go.Proofs.YtjagagpcjpcjjaaGreat
