/- Several texts, one behind the other. Conditions: as each of them says. -/
set_option maxRecDepth 100000
set_option maxHeartbeats 32000000
namespace Go.Proofs.YtlmfbjiejodalaaGreatDoor
structure Mach where
 inputs:Int
 start:Int
 next:List (List Int)
 out:List (List Int)
 deriving DecidableEq
namespace Mach
variable (m:Mach)
def nx (s a:Nat):Int:=((m.next.getD s []).getD a 0)
def ot (s a:Nat):Int:=((m.out.getD s []).getD a 0)
def badAt (s a:Nat):Prop:=m.nx s a<0∨(m.next.length:Int)≤m.nx s a∨m.ot s a<0∨1048576<m.ot s a
instance (s a:Nat):Decidable (m.badAt s a):=by unfold badAt;exact inferInstance
def rowLens (s:Nat):Prop:=((m.next.getD s []).length:Int)=m.inputs∧((m.out.getD s []).length:Int)=m.inputs
instance (s:Nat):Decidable (m.rowLens s):=by unfold rowLens;exact inferInstance
structure Ok:Prop where
 i0:1≤m.inputs
 i1:m.inputs≤64
 n0:0<m.next.length
 n1:m.next.length≤128
 s0:0≤m.start
 s1:m.start<m.next.length
 lo:m.out.length=m.next.length
 rn:∀s,s<m.next.length→((m.next.getD s []).length:Int)=m.inputs
 ro:∀s,s<m.next.length→((m.out.getD s []).length:Int)=m.inputs
 nx:∀s a,s<m.next.length→a<m.inputs.toNat→0≤m.nx s a∧m.nx s a<m.next.length
 ot:∀s a,s<m.next.length→a<m.inputs.toNat→0≤m.ot s a∧m.ot s a≤1048576
end Mach
theorem getD_of_some {α:Type} {l:List α} {j:Nat} {x d:α} (h:l[j]? =some x):l.getD j d=x:=by simp [List.getD,h]
namespace Mach
variable (m:Mach)
variable {m}
end Mach
structure Stg where
 kind:Int
 extra:Int
 seed:Nat
 count:Int
 len:Int
namespace Stg
end Stg
end Go.Proofs.YtlmfbjiejodalaaGreatDoor
