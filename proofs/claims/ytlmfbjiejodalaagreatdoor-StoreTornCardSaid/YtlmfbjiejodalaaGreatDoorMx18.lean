/- Several texts, one behind the other. Conditions: as each of them says. -/
import Derived.Test.YtlmfbjiejodalaaGreatDoorMx7
import Derived.Test.YtlmfbjiejodalaaGreatDoorMx4
import Derived.Test.YtlmfbjiejodalaaGreatDoorMx3
import Derived.Deep.Cut
set_option maxRecDepth 100000
set_option maxHeartbeats 32000000
namespace Go.Proofs.YtlmfbjiejodalaaGreatDoor
open Go.RowKit
def gr16 (o:Ob):Bool:=decide (60<o.traces.length)||o.traces.any fun t=>decide (100<t.inn.length∨100<t.out.length)
section
variable {M:Nat→Prop} {w:World} {an ao ac a:Option Addr} {cn co cc c:Nat} {m:Mach} {h:Hy} {o:Ob}
theorem gr16_any (ho:Os M w a c o):Calls Tryz.prog 13 #[obV o a c] w fun e w'=>e= .returned (.bool (gr16 o))∧Below w.heap.size w w':=by
 have hB0:=(Below.refl w.heap.size w).alloc (Nat.le_refl _) (obO o a c)
 have hx0:O2 (w.alloc (obO o a c)) w.heap.size a c o:=o2_new w
 have hT1:=(ho.below hB0).traces
 have hll:=ho.traces.le
 clear ho
 by_cases h1:60<o.traces.length
 ·have HV:Hid (gr16 o=true):=by unfold Hid gr16;rw [decide_eq_true h1];rfl
  have h1b:decide ((60:Int)<o.traces.length)=true:=by simp;omega
  go_enter Tryz.func13,Tryz.ntmps13
  go_wp2
  go_ret
  exact ⟨by rw [HV.out];rfl,hB0⟩
 have h1b:decide ((60:Int)<o.traces.length)=false:=by simp;omega
 have hT0:Hid ((o.traces.take 0).any (fun t=>decide (100<t.inn.length∨100<t.out.length))=false):=rfl
 have HV0:Hid (gr16 o=o.traces.any fun t=>decide (100<t.inn.length∨100<t.out.length)):=by unfold Hid gr16;rw [decide_eq_false h1];rfl
 go_enter Tryz.func13,Tryz.ntmps13
 go_upto_region 1 with (fail)
 generalize w.alloc (obO o a c)=w0 at*
 obtain ⟨o0,o1⟩:=hx0
 go_wp2
 go_loop [3] (fun i=>∃k:Nat,k≤o.traces.length∧i= .int .i64 k∧Hid ((o.traces.take k).any (fun t=>decide (100<t.inn.length∨100<t.out.length))=false)) (fun i=>o.traces.length-(intOf i).toNat)
 case atStart=>exact ⟨0,by omega,rfl,hT0⟩
 case round=>
  clear hT0
  obtain ⟨k,hk,rfl,hT⟩:=hrel
  by_cases hlt:k<o.traces.length
  ·obtain ⟨bT,oT,a1,c1,a2,c2,t,rfl,hc1,hc2,ht,hs1,hs2⟩:=hT1.at_tr hlt
   have hl1:=hs1.le
   have hl2:=hs2.le
   by_cases h2:100<t.inn.length
   ·have h2b:decide ((100:Int)<t.inn.length)=true:=by simp;omega
    have HV:Hid (gr16 o=true):=by unfold Hid;rw [HV0.out];exact List.any_eq_true.2 ⟨t,List.mem_of_getElem? ht.out,decide_eq_true (.inl h2)⟩
    go_wp2
    go_ret
    exact ⟨by rw [HV.out];rfl,hB0⟩
   have h2b:decide ((100:Int)<t.inn.length)=false:=by simp;omega
   by_cases h3:100<t.out.length
   ·have h3b:decide ((100:Int)<t.out.length)=true:=by simp;omega
    have HV:Hid (gr16 o=true):=by unfold Hid;rw [HV0.out];exact List.any_eq_true.2 ⟨t,List.mem_of_getElem? ht.out,decide_eq_true (.inr h3)⟩
    go_wp2
    go_ret
    exact ⟨by rw [HV.out];rfl,hB0⟩
   have h3b:decide ((100:Int)<t.out.length)=false:=by simp;omega
   have hT2:Hid ((o.traces.take (k+1)).any (fun t=>decide (100<t.inn.length∨100<t.out.length))=false):=by unfold Hid;rw [List.take_add_one,ht.out,List.any_append,hT.out];simp;omega
   go_wp2
   go_round
   case rel=>exact ⟨k+1,by omega,by go_num,hT2⟩
   case measure=>simp [intOf];omega
  have HV:Hid (gr16 o=false):=by unfold Hid;rw [HV0.out];have h:=hT.out;rwa [List.take_of_length_le (by omega)] at h
  go_wp2
  go_ret
  exact ⟨by rw [HV.out];rfl,hB0⟩
end
end Go.Proofs.YtlmfbjiejodalaaGreatDoor
