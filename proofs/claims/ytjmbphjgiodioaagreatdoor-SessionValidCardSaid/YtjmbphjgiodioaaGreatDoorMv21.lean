/- Several texts, one behind the other. Conditions: as each of them says. -/
import Derived.Test.YtjmbphjgiodioaaGreatDoorMv7
import Derived.Test.YtjmbphjgiodioaaGreatDoorMv4
import Derived.Test.YtjmbphjgiodioaaGreatDoorMv3
import Derived.Deep.Cut
set_option maxRecDepth 100000
set_option maxHeartbeats 32000000
namespace Go.Proofs.YtjmbphjgiodioaaGreatDoor
open Go.RowKit
def gr06 (m:Mach):Bool:=decide (40<m.next.length∨40<m.out.length∨20<m.inputs)
def lg06 (l:List (List Int)):Bool:=decide (200<l.length)||l.any fun r=>decide (200<r.length)
def gr16 (o:Ob):Bool:=decide (60<o.traces.length)||o.traces.any fun t=>decide (100<t.inn.length∨100<t.out.length)
theorem lg06_no {l:List (List Int)} (h:lg06 l=false):l.length≤200∧∀r∈l,r.length≤200:=by
 unfold lg06 at h
 rw [Bool.or_eq_false_iff] at h
 refine ⟨by have:=of_decide_eq_false h.1;omega,fun r hr=> ?_⟩
 have h1:=List.any_eq_false.1 h.2 r hr
 simp at h1
 exact h1
section
variable {M:Nat→Prop} {w:World} {an ao ac a:Option Addr} {cn co cc c:Nat} {m:Mach} {h:Hy} {o:Ob}
theorem gr06_any (hm:Ma M w an cn ao co m):Calls Tryz.prog 13 #[maV m an cn ao co] w fun e w'=>e= .returned (.bool (gr06 m))∧Below w.heap.size w w':=by
 have hB0:=(Below.refl w.heap.size w).alloc (Nat.le_refl _) (maO m an cn ao co)
 have l1:=hm.next.le
 have l2:=hm.out.le
 clear hm
 by_cases h1:40<m.next.length
 ·have h1b:decide ((40:Int)<m.next.length)=true:=by simp;omega
  have HV:Hid (gr06 m=true):=by unfold Hid gr06;rw [decide_eq_true (by omega)]
  go_enter Tryz.func13,Tryz.ntmps13
  go_wp2
  go_ret
  exact ⟨by rw [HV.out];rfl,hB0⟩
 have h1b:decide ((40:Int)<m.next.length)=false:=by simp;omega
 by_cases h2:40<m.out.length
 ·have h2b:decide ((40:Int)<m.out.length)=true:=by simp;omega
  have HV:Hid (gr06 m=true):=by unfold Hid gr06;rw [decide_eq_true (by omega)]
  go_enter Tryz.func13,Tryz.ntmps13
  go_wp2
  go_ret
  exact ⟨by rw [HV.out];rfl,hB0⟩
 have h2b:decide ((40:Int)<m.out.length)=false:=by simp;omega
 by_cases h3:20<m.inputs
 ·have h3b:decide ((20:Int)<m.inputs)=true:=by simp;omega
  have HV:Hid (gr06 m=true):=by unfold Hid gr06;rw [decide_eq_true (by omega)]
  go_enter Tryz.func13,Tryz.ntmps13
  go_wp2
  go_ret
  exact ⟨by rw [HV.out];rfl,hB0⟩
 have h3b:decide ((20:Int)<m.inputs)=false:=by simp;omega
 have HV:Hid (gr06 m=false):=by unfold Hid gr06;rw [decide_eq_false (by omega)]
 go_enter Tryz.func13,Tryz.ntmps13
 go_wp2
 go_ret
 exact ⟨by rw [HV.out];rfl,hB0⟩
theorem lg06_any {l:List (List Int)} (hs:Sl M w a c l):Calls Tryz.prog 14 #[.slice a l.length c] w fun e w'=>e= .returned (.bool (lg06 l))∧w'=w:=by
 have hll:=hs.le
 by_cases h1:200<l.length
 ·have HV:Hid (lg06 l=true):=by unfold Hid lg06;rw [decide_eq_true h1];rfl
  have h1b:decide ((200:Int)<l.length)=true:=by simp;omega
  go_enter Tryz.func14,Tryz.ntmps14
  go_wp2
  go_ret
  exact ⟨by rw [HV.out];rfl,rfl⟩
 have h1b:decide ((200:Int)<l.length)=false:=by simp;omega
 have hT0:Hid ((l.take 0).any (fun r=>decide (200<r.length))=false):=rfl
 have HV0:Hid (lg06 l=l.any fun r=>decide (200<r.length)):=by unfold Hid lg06;rw [decide_eq_false h1];rfl
 go_enter Tryz.func14,Tryz.ntmps14
 go_wp2
 go_loop [3] (fun i=>∃k:Nat,k≤l.length∧i= .int .i64 k∧Hid ((l.take k).any (fun r=>decide (200<r.length))=false)) (fun i=>l.length-(intOf i).toNat)
 case atStart=>exact ⟨0,by omega,rfl,hT0⟩
 case round=>
  clear hT0
  obtain ⟨k,hk,rfl,hT⟩:=hrel
  by_cases hlt:k<l.length
  ·obtain ⟨b1,o1,ax,x,cx,rfl,hcx,hx,hsx⟩:=hs.at_row hlt
   have hxl:=hsx.le
   by_cases h2:200<x.length
   ·have h2b:decide ((200:Int)<x.length)=true:=by simp;omega
    have HV:Hid (lg06 l=true):=by unfold Hid;rw [HV0.out];exact List.any_eq_true.2 ⟨x,List.mem_of_getElem? hx.out,decide_eq_true h2⟩
    go_wp2
    go_ret
    exact ⟨by rw [HV.out];rfl,rfl⟩
   have h2b:decide ((200:Int)<x.length)=false:=by simp;omega
   have hT2:Hid ((l.take (k+1)).any (fun r=>decide (200<r.length))=false):=by unfold Hid;rw [List.take_add_one,hx.out,List.any_append,hT.out];simp;omega
   go_wp2
   go_round
   case rel=>exact ⟨k+1,by omega,by go_num,hT2⟩
   case measure=>simp [intOf];omega
  have HV:Hid (lg06 l=false):=by unfold Hid;rw [HV0.out];have h:=hT.out;rwa [List.take_of_length_le (by omega)] at h
  go_wp2
  go_ret
  exact ⟨by rw [HV.out];rfl,rfl⟩
theorem gr16_any (ho:Os M w a c o):Calls Tryz.prog 12 #[obV o a c] w fun e w'=>e= .returned (.bool (gr16 o))∧Below w.heap.size w w':=by
 have hB0:=(Below.refl w.heap.size w).alloc (Nat.le_refl _) (obO o a c)
 have hx0:O2 (w.alloc (obO o a c)) w.heap.size a c o:=o2_new w
 have hT1:=(ho.below hB0).traces
 have hll:=ho.traces.le
 clear ho
 by_cases h1:60<o.traces.length
 ·have HV:Hid (gr16 o=true):=by unfold Hid gr16;rw [decide_eq_true h1];rfl
  have h1b:decide ((60:Int)<o.traces.length)=true:=by simp;omega
  go_enter Tryz.func12,Tryz.ntmps12
  go_wp2
  go_ret
  exact ⟨by rw [HV.out];rfl,hB0⟩
 have h1b:decide ((60:Int)<o.traces.length)=false:=by simp;omega
 have hT0:Hid ((o.traces.take 0).any (fun t=>decide (100<t.inn.length∨100<t.out.length))=false):=rfl
 have HV0:Hid (gr16 o=o.traces.any fun t=>decide (100<t.inn.length∨100<t.out.length)):=by unfold Hid gr16;rw [decide_eq_false h1];rfl
 go_enter Tryz.func12,Tryz.ntmps12
 go_upto_region 1 with (fail)
 generalize w.alloc (obO o a c)=w0 at*
 obtain ⟨o0,o1⟩:=hx0
 go_wp2
 go_loop [3] (fun i=>∃k:Nat,k≤o.traces.length∧i= .int .i64 k∧Hid ((o.traces.take k).any (fun t=>decide (100<t.inn.length∨100<t.out.length))=false)) (fun i=>o.traces.length-(intOf i).toNat)
 case atStart=>exact ⟨0,by omega,rfl,hT0⟩
 case round=>
  clear hT0
  obtain ⟨k,hk,rfl,hT⟩:=hrel
  by_cases hlt:k<o.traces.length
  ·obtain ⟨bT,oT,a1,c1,a2,c2,t,rfl,hc1,hc2,ht,hs1,hs2⟩:=hT1.at_tr hlt
   have hl1:=hs1.le
   have hl2:=hs2.le
   by_cases h2:100<t.inn.length
   ·have h2b:decide ((100:Int)<t.inn.length)=true:=by simp;omega
    have HV:Hid (gr16 o=true):=by unfold Hid;rw [HV0.out];exact List.any_eq_true.2 ⟨t,List.mem_of_getElem? ht.out,decide_eq_true (.inl h2)⟩
    go_wp2
    go_ret
    exact ⟨by rw [HV.out];rfl,hB0⟩
   have h2b:decide ((100:Int)<t.inn.length)=false:=by simp;omega
   by_cases h3:100<t.out.length
   ·have h3b:decide ((100:Int)<t.out.length)=true:=by simp;omega
    have HV:Hid (gr16 o=true):=by unfold Hid;rw [HV0.out];exact List.any_eq_true.2 ⟨t,List.mem_of_getElem? ht.out,decide_eq_true (.inr h3)⟩
    go_wp2
    go_ret
    exact ⟨by rw [HV.out];rfl,hB0⟩
   have h3b:decide ((100:Int)<t.out.length)=false:=by simp;omega
   have hT2:Hid ((o.traces.take (k+1)).any (fun t=>decide (100<t.inn.length∨100<t.out.length))=false):=by unfold Hid;rw [List.take_add_one,ht.out,List.any_append,hT.out];simp;omega
   go_wp2
   go_round
   case rel=>exact ⟨k+1,by omega,by go_num,hT2⟩
   case measure=>simp [intOf];omega
  have HV:Hid (gr16 o=false):=by unfold Hid;rw [HV0.out];have h:=hT.out;rwa [List.take_of_length_le (by omega)] at h
  go_wp2
  go_ret
  exact ⟨by rw [HV.out];rfl,hB0⟩
end
end Go.Proofs.YtjmbphjgiodioaaGreatDoor
