/- Several texts, one behind the other. Conditions: as each of them says. -/
import Derived.WalkKit
import Derived.Deep.QuietTactic
import Derived.BigQuiet
set_option maxRecDepth 100000
set_option maxHeartbeats 32000000
namespace Go.Proofs.YtjmbphjgiodioaaGreatDoor
def lexL (md:Region.Mode) (ops:Array Oper):Nat→List Oper→Bool
 |_,[]=>true
 | k, o :: rest => o.after.all (fun e => !Region.binds md e || decide (e.on < k)) && (match o.op with | .select .. => false | _ => true) &&
     rest.all (fun oj=>o.apart ops oj||oj.after.any (fun e=>Region.binds md e&&e.on==k))&&lexL md ops (k+1) rest
theorem lexL_noSelect (md:Region.Mode) (ops:Array Oper):∀(l:List Oper) (k:Nat),lexL md ops k l=true→∀o∈l,(match o.op with| .select .. =>false|_=>true)=true
 |[],_,_,o,ho=>by simp at ho
 |o::l,k,h,o',ho=>by
  simp only [lexL,Bool.and_eq_true] at h
  rcases List.mem_cons.1 ho with rfl|hm
  ·exact h.1.1.2
  exact lexL_noSelect md ops l (k+1) h.2 o' hm
theorem lexFrom_of_lexL (md:Region.Mode) (ops:Array Oper):∀(l:List Oper) (k:Nat) (listed:Array Bool),(∀j,l[j]? =ops[k+j]?)→k+l.length=ops.size→listed.size=ops.size→
    (∀j,j<ops.size→listed[j]? =some (decide (j<k)))→lexL md ops k l=true→Region.lexFrom md ops l.length k listed=true
 |[],k,listed,_,hk,_,hd,_=>by
  simp only [List.length_nil,Region.lexFrom,Region.ready,List.isEmpty_iff,List.filter_eq_nil_iff,List.mem_range]
  intro i hi
  have h:=hd i hi
  have:i<k:=by simp at hk;omega
  simp [Array.getD_eq_getD_getElem?,h,this]
 |o::l,k,listed,hl,hk,hsz,hd,h=>by
  have h0:ops[k]? =some o:=by simpa using (hl 0).symm
  have hks:k<ops.size:=by simp at hk;omega
  simp only [lexL,Bool.and_eq_true] at h
  obtain ⟨⟨⟨hafter,_⟩,hrest⟩,hnext⟩:=h
  simp only [List.length_cons,Region.lexFrom,Bool.and_eq_true]
  refine ⟨⟨?_,?_⟩,?_⟩
  ·simp only [Region.ready,List.contains_iff_mem,List.mem_filter,List.mem_range]
   refine ⟨hks,?_⟩
   have hk0:=hd k hks
   simp only [h0,Option.map_some,Option.getD_some,Array.getD_eq_getD_getElem?,hk0]
   simp only [Nat.lt_irrefl,decide_false,Bool.not_false,Bool.true_and]
   rw [Array.all_eq_true_iff_forall_mem] at hafter ⊢
   intro e he
   have:=hafter e he
   simp only [Bool.or_eq_true,decide_eq_true_eq] at this
   rcases this with this|this
   ·simp only [this,Bool.true_or]
   have hd2:=hd e.on (by omega)
   simp [hd2,this]
  ·simp only [Region.free,h0,List.all_eq_true,List.mem_range]
   intro j hj
   by_cases e1:j=k
   ·simp [e1]
   by_cases e2:j<k
   ·have:=hd j hj
    simp [Array.getD_eq_getD_getElem?,this,e2]
   obtain ⟨d,rfl⟩:∃d,j=k+(d+1):=⟨j-k-1,by omega⟩
   have h1:l[d]? =ops[k+(d+1)]? :=by simpa using hl (d+1)
   have h2:ops[k+(d+1)]? =some ops[k+(d+1)]:=Array.getElem?_eq_getElem hj
   rw [h2] at h1
   rw [List.all_eq_true] at hrest
   have:=hrest _ (List.mem_of_getElem? h1)
   simp only [h2]
   rw [Bool.or_comm] at this
   simp only [this,Bool.or_true]
  refine lexFrom_of_lexL md ops l (k+1) _ (fun j=> ?_) ?_ ?_ (fun j hj=> ?_) hnext
  ·have:=hl (j+1)
   rw [show k+1+j=k+(j+1) from by omega]
   simpa using this
  ·simp at hk ⊢;omega
  ·simpa using hsz
  by_cases e1:j=k
  ·subst e1
   rw [Array.getElem?_setIfInBounds]
   simp [hsz,hks]
  rw [Array.getElem?_setIfInBounds_ne (Ne.symm e1),hd j hj]
  congr 1
  simp only [decide_eq_decide]
  omega
theorem lexB_of_lexL (md:Region.Mode) (l:List Oper) (h:lexL md l.toArray 0 l=true):Region.lexB md l.toArray=true:=by
 simp only [Region.lexB,Bool.and_eq_true]
 constructor
 ·unfold Region.noSelect
  rw [Array.all_eq_true_iff_forall_mem]
  intro o ho
  have:=lexL_noSelect md _ l 0 h o (by simpa using ho)
  exact this
 have := lexFrom_of_lexL md l.toArray l 0 (Array.replicate l.toArray.size false) (fun j => by simp) (by simp) (by simp) (fun j hj => by
  rw [Array.getElem?_replicate];simp at hj;simp [hj]) h
 simpa using this
theorem wp_quiet_fast {P:Program} {id:Nat} {Q:Exit→Act→World→Prop} {a:Act} {w:World} {l:List Oper} (hm:P.follows .mixedOrders=true) (hB:lexL .any l.toArray 0 l=true)
    (h:wpQuiet P l.toArray (fun w'=>∃n,w'=w.drewN n) (fun a'=>∀w',(∃n,w'=w.drewN n)→Q .normal a' w') l a):(Code.region id l.toArray true).wp P Q a w:=
 wp_region_quiet_lit hm (lexB_of_lexL .any l hB) h
end Go.Proofs.YtjmbphjgiodioaaGreatDoor
