/- Several texts, one behind the other. Conditions: as each of them says. -/
import Derived.Test.YtjagagpcjpcjjaaGreatMt24
import Derived.Test.YtjagagpcjpcjjaaGreatMt21
import Derived.Test.YtjagagpcjpcjjaaGreatMt17
import Derived.Test.YtjagagpcjpcjjaaGreatMt13
import Derived.Test.YtjagagpcjpcjjaaGreatMt6
import Derived.Test.YtjagagpcjpcjjaaGreatMt2
import Derived.IntWalk
set_option maxRecDepth 100000
set_option maxHeartbeats 32000000
namespace Go.Proofs.YtjagagpcjpcjjaaGreat
open Go.RowKit
section
variable {M M':Nat→Prop} {w:World} {a b:Option Addr} {c d:Nat} {l:List (List Int)} {u:List Int}
def grW (l:List (List (List Int))):Nat:=l.foldl (fun n r=>max n r.length) 1
end
def tailW (m:Mach) (ids:List (List (List Int))) (w:List Int):List (List Int):=if ids.getD (m.endW m.start w).toNat []=[] then [[]] else ids.getD (m.endW m.start w).toNat []
section
variable {M M' M'':Nat→Prop} {w:World} {an ao a b:Option Addr} {cn co c d:Nat} {m:Mach} {ids:List (List (List Int))} {l:List Int}
end
def LoW (l:List (List Int)) (w:List Int) (p:Nat):Prop:=∀(i:Nat) v,i<p→l[i]? =some v→cmpW v w<0
def HiW (l:List (List Int)) (w:List Int) (p:Nat):Prop:=∀(i:Nat) v,p≤i→l[i]? =some v→¬cmpW v w<0
def PlW (l:List (List Int)) (w:List Int) (p:Nat):Prop:=p≤l.length∧LoW l w p∧HiW l w p
section
variable {M M':Nat→Prop} {w:World} {a b:Option Addr} {c d:Nat} {l:List (List Int)} {x:List Int}
end
structure ShW (l R:List (List Int)) (i:Nat):Prop where
 len:R.length=l.length+1
 low:∀j,j≤i→R[j]? =(l++[[]])[j]?
 high:∀j,i<j→j≤l.length→R[j]? =l[j-1]?
theorem ShW.start {l:List (List Int)}:ShW l (l++[[]]) l.length:=⟨by simp,fun _ _=>rfl,fun j h1 h2=>by omega⟩
theorem ShW.step {l R:List (List Int)} {i:Nat} {r:List Int} (h:ShW l R i) (hi:0<i) (hil:i≤l.length) (hr:R[i-1]? =some r):ShW l (R.set i r) (i-1):=by
 refine ⟨by simpa using h.len,fun j hj=> ?_,fun j h1 h2=> ?_⟩
 ·rw [List.getElem?_set_ne (by omega)];exact h.low j (by omega)
 by_cases e:i=j
 ·subst e
  rw [List.getElem?_set_self (by have:=h.len;omega),←hr,h.low _ (by omega),List.getElem?_append_left (by omega)]
 rw [List.getElem?_set_ne e];exact h.high j (by omega) h2
theorem ShW.done {l R:List (List Int)} {p:Nat} (h:ShW l R p) (hp:p≤l.length) (x:List Int):R.set p x=l.take p++x::l.drop p:=by
 apply List.ext_getElem?
 intro j
 have hl:=h.len
 by_cases e:p=j
 ·subst e
  rw [List.getElem?_set_self (by omega),List.getElem?_append_right (by rw [List.length_take];omega),List.length_take,Nat.min_eq_left hp,Nat.sub_self]
  rfl
 rw [List.getElem?_set_ne e]
 by_cases hj:j<p
 ·rw [h.low j (by omega),List.getElem?_append_left (by omega),List.getElem?_append_left (by rw [List.length_take];omega),List.getElem?_take,if_pos hj]
 rw [List.getElem?_append_right (by rw [List.length_take];omega),List.length_take,Nat.min_eq_left hp]
 obtain ⟨q,hq⟩:∃q,j-p=q+1:=⟨j-p-1,by omega⟩
 rw [hq,List.getElem?_cons_succ,List.getElem?_drop]
 by_cases hjl:j≤l.length
 ·rw [h.high j (by omega) hjl];congr 1;omega
 rw [List.getElem?_eq_none (by omega),List.getElem?_eq_none (by omega)]
section
variable {M':Nat→Prop} {w:World} {n0 B:Nat} {a b:Option Addr} {c d:Nat} {l:List (List Int)} {x:List Int}
end
def topTo (L:List (List Int)) (i k:Nat):Bool:= !(List.range k).any fun j=>decide (i<j)&&(!decide ((L.getD j []).length=(L.getD i []).length)&&decide (comW (L.getD j []) (L.getD i [])=(L.getD i []).length))
def keepR (L:List (List Int)) (k:Nat):List (List Int):=((List.range k).filter fun i=>topTo L i L.length).map (fun i=>L.getD i [])
section
variable {M M':Nat→Prop} {w w':World} {a b:Option Addr} {c d:Nat} {l l2:List (List Int)}
end
end Go.Proofs.YtjagagpcjpcjjaaGreat
