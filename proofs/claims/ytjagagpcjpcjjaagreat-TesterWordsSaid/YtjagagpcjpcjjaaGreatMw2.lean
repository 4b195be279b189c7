/- Lemmas, each with its own conditions. -/
import Derived.Test.YtjagagpcjpcjjaaGreatMw01
set_option maxRecDepth 100000
set_option maxHeartbeats 32000000
namespace Go.Proofs.YtjagagpcjpcjjaaGreat
def RO (md:Region.Mode) (ops:Array Oper):Nat->List Oper->Bool
 |_,[]=>true
 |k,o::rest=>o.after.all (fun e=> !Region.binds md e||decide (e.on<k))&&(match o.op with| .select .. =>false|_=>true)&&
     rest.all (fun oj=>o.apart ops oj||oj.after.any (fun e=>Region.binds md e&&e.on==k))&&RO md ops (k+1) rest
theorem yZ (md:Region.Mode) (ops:Array Oper):∀(l:List Oper) (k:Nat),RO md ops k l=true->∀o∈l,(match o.op with| .select .. =>false|_=>true)=true
 |[],_,_,o,ho=>by simp at ho
 |o::l,k,h,o',ho=>by
  simp only [RO,gP] at h
  rcases gH.1 ho with rfl|hm
  ·exact h.1.1.2
  exact yZ md ops l (k+1) h.2 o' hm
theorem wE (md:Region.Mode) (ops:Array Oper):∀(l:List Oper) (k:Nat) (listed:Array Bool),(∀j,l[j]? =ops[k+j]?)->k+l.length=ops.size->listed.size=ops.size->
    (∀j,j<ops.size->listed[j]? =some (decide (j<k)))->RO md ops k l=true->Region.lexFrom md ops l.length k listed=true
 |[],k,listed,_,hk,_,hd,_=>by
  simp only [ap6,Region.lexFrom,Region.ready,List.isEmpty_iff,List.filter_eq_nil_iff,aqE]
  intro i hi
  have h:=hd i hi
  have:i<k:=by simp at hk;omega
  simp [h,this]
 |o::l,k,listed,hl,hk,hsz,hd,h=>by
  have h0:ops[k]? =some o:=iq ((hl 0).symm)
  have hks:k<ops.size:=by simp at hk;omega
  simp only [RO,gP] at h
  obtain ⟨⟨⟨hafter,_⟩,hrest⟩,UK⟩:=h
  simp only [fD,Region.lexFrom,gP]
  refine ⟨⟨?_,?_⟩,?_⟩
  ·simp only [Region.ready,List.contains_iff_mem,aq8,aqE]
   refine ⟨hks,?_⟩
   have hk0:=hd k hks
   simp only [h0,aqt,gV,aqX,hk0]
   simp only [asg,arR,Bool.not_false,aq1]
   rw [aqG] at hafter ⊢
   intro e he
   have:=hafter e he
   simp only [arv,gQ] at this
   rcases this with this|this
   ·simp only [this,Bool.true_or]
   have hd2:=hd e.on ah
   simp [hd2,this]
  ·simp only [Region.free,h0,f_,aqE]
   intro j hj
   by_cases e1:j=k
   ·simp [e1]
   by_cases e2:j<k
   ·have:=hd j hj
    simp [this,e2]
   obtain ⟨d,rfl⟩:∃d,j=k+(d+1):=⟨j-k-1,ah⟩
   have h1:l[d]? =ops[k+(d+1)]? :=iq (hl (d+1))
   have h2:ops[k+(d+1)]? =some ops[k+(d+1)]:=aqz hj
   rw [h2] at h1
   rw [f_] at hrest
   have:=hrest _ (bV h1)
   simp only [h2]
   rw [Bool.or_comm] at this
   simp only [this,Bool.or_true]
  refine wE md ops l (k+1) _ (fun j=> ?_) ?_ ?_ (fun j hj=> ?_) UK
  ·have:=hl (j+1)
   rw [show k+1+j=k+(j+1) from by omega]
   simpa using this
  ·simp at hk ⊢;omega
  ·simpa using hsz
  by_cases e1:j=k
  ·subst e1
   rw [Array.getElem?_setIfInBounds]
   simp [hsz,hks]
  rw [arp (arl e1),hd j hj]
  congr 1
  simp only [arS]
  omega
theorem Le (md:Region.Mode) (l:List Oper) (h:RO md l.toArray 0 l=true):Region.lexB md l.toArray=true:=by
 simp only [Region.lexB,gP];constructor;·unfold Region.noSelect;rw [aqG];intro o ho;have:=yZ md _ l 0 h o (iq ho);exact this
 have:=wE md l.toArray l 0 (Array.replicate l.toArray.size false) (fun j=>by simp) aH aH (fun j hj=>by
  rw [Array.getElem?_replicate];simp at hj;simp [hj]) h
 simpa using this
theorem kT {P:Program} {id:Nat} {Q:Exit->Act->World->Prop} {a:Act} {w:World} {l:List Oper} (hm:P.follows .mixedOrders=true) (hB:RO .any l.toArray 0 l=true)
    (h:wpQuiet P l.toArray (fun w'=>∃n,w'=w.drewN n) (fun a'=>∀w',(∃n,w'=w.drewN n)->Q .normal a' w') l a):(Code.region id l.toArray true).wp P Q a w:=
 wp_region_quiet_lit hm (Le .any l hB) h
theorem go_quiet {A:Prop} {R:Nat->Prop} (k:∀n,R n) (h:Zd (∀n,R n)->A:=by intro kk;refine kT aB aB ?_;(repeat (first|go_big_quiet_step (fail)|quiet_step (fail)));refine aqD ?_;intro _ hw';obtain ⟨nq,wZ⟩:=hw';subst wZ;exact kk.out nq):A:=h ⟨k⟩
