/- Several texts, one behind the other. Conditions: as each of them says. -/
import Derived.OrdersHeld
import Derived.RegionTactic
import Derived.WalkKit
import Derived.KernelRfl
set_option maxRecDepth 100000
set_option maxHeartbeats 32000000
namespace Go.Proofs.YtjmbphjgiodioaaGreatDoor
section
variable {P:Program} {ops:Array Oper} {Q:Exit→Act→World→Prop} {md:Region.Mode} {S:World→Prop} {L:List Nat}
def waits (md:Region.Mode) (ops:Array Oper) (L:List Nat) (j:Nat):Bool:=
 match ops[j]? with
 |none=>true
 |some oj=>L.all fun i=>oj.after.any fun e=>Region.binds md e&&e.on==i
def wpAnyL (P:Program) (md:Region.Mode) (ops:Array Oper) (Q:Exit→Act→World→Prop) (S:World→Prop) (L:List Nat):Nat→Array Bool→Act→World→Prop
 |0,listed,a,w=>Region.ready md ops listed=[]∧Q .normal a w
 |fuel+1,listed,a,w=>
  (Region.ready md ops listed=[]→Q .normal a w)∧
  ∀i∈Region.ready md ops listed,wpOp P ops Q i (fun a' w'=>(waits md ops L i=false→S w')∧wpAnyL P md ops Q S L fuel (listed.setIfInBounds i true) a' w') a w
theorem wpAny_of_L:∀(fuel:Nat) (listed:Array Bool) (a:Act) (w:World),wpAnyL P md ops Q S L fuel listed a w→wpAny P md ops Q fuel listed a w
 |0,_,_,_,h=>h
 |fuel+1,_,_,_,h=>⟨h.1,fun i hi=>wpOp_mono (fun a' w' h'=>wpAny_of_L fuel _ a' w' h'.2) (h.2 i hi)⟩
theorem wpAnyL_first {i:Nat} {oi:Oper} {v:Value} (hi:ops[i]? =some oi) (hL:i∈L) (hsel:∀(j:Nat) (o:Oper) cs b,ops[j]? =some o→o.op≠.select cs b)
    (hQ:∀c a w,Q (.panic c) (a.put oi.dst v) w→Q (.panic c) a w):
    ∀(fuel:Nat) (listed:Array Bool) (a:Act) (w:World),
     (∀j oj,ops[j]? =some oj→j≠i→listed.getD j true=false→(∀e∈oj.after,Region.binds md e=true→e.on≠i)→oi.apart ops oj=true)→
     i∈Region.ready md ops listed→YieldsIf P ops S oi v a→S w→
     wpAnyL P md ops Q S L fuel (listed.setIfInBounds i true) (a.put oi.dst v) w→wpAnyL P md ops Q S L (fuel+1) listed a w:=by
 intro fuel
 induction fuel with
 |zero=>
  intro listed a w _ hr hy hS H
  refine ⟨fun h=>(by rw [h] at hr;cases hr),fun j hj=> ?_⟩
  by_cases hji:j=i
  ·subst hji;exact hy.wpOp hi hS ⟨fun _=>hS,H⟩
  have:=ready_mono hj hji
  rw [H.1] at this
  cases this
 |succ fuel ih=>
  intro listed a w hfree hr hy hS H
  refine ⟨fun h=>(by rw [h] at hr;cases hr),fun j hj=> ?_⟩
  by_cases hji:j=i
  ·subst hji;exact hy.wpOp hi hS ⟨fun _=>hS,H⟩
  have h1:=H.2 j (ready_mono hj hji)
  obtain ⟨hjun,oj,hoj,hall⟩:=mem_ready.1 hj
  have hnot:∀e∈oj.after,Region.binds md e=true→e.on≠i:=fun e he hb heq=>by
   have h1:=hall e he hb
   have h0:=(mem_ready.1 hr).1
   rw [heq] at h1
   rcases Nat.lt_or_ge i listed.size with h'|h'
   ·simp [h'] at h0 h1;rw [h0] at h1;cases h1
   simp [Array.getElem?_eq_none h'] at h1
  have hneed:waits md ops L j=false:=by
   unfold waits
   simp only [hoj]
   rw [List.all_eq_false]
   refine ⟨i,hL,?_⟩
   intro hany
   obtain ⟨e,he,hb⟩:=Array.any_eq_true'.1 hany
   simp only [Bool.and_eq_true,beq_iff_eq] at hb
   exact hnot e he hb.1 hb.2
  have h2:=wpOp_putIf hoj (hfree j oj hoj hji hjun hnot) (fun cs b=>hsel i oi cs b hi) (fun cs b=>hsel j oj cs b hoj) hQ hy h1
  have hfree':∀k ok,ops[k]? =some ok→k≠i→(listed.setIfInBounds j true).getD k true=false→
      (∀e∈ok.after,Region.binds md e=true→e.on≠i)→oi.apart ops ok=true:=fun k ok hk hki hun hno=>by
   refine hfree k ok hk hki ?_ hno
   by_cases hjk:j=k
   ·subst hjk;exact hjun
   rw [getD_set_ne true hjk] at hun;exact hun
  refine wpOp_mono (fun a' w' h3=>⟨fun _=>h3.2.1 hneed,ih (listed.setIfInBounds j true) a' w' hfree' (ready_mono hr (Ne.symm hji)) h3.1 (h3.2.1 hneed) ?_⟩) h2
  rw [Array.setIfInBounds_comm _ _ hji]
  exact h3.2.2
theorem at_of_drop {l r:List Oper} {i:Nat} {o:Oper} (h:l.drop i=o::r):l.toArray[i]? =some o:=by
 have h1:(l.drop i)[0]? =some o:=by rw [h];rfl
 rw [List.getElem?_drop] at h1
 simpa using h1
theorem wpAnyL_take {l r:List Oper} {i:Nat} {oi:Oper} {v:Value} {fuel:Nat} {listed:Array Bool} {a:Act} {w:World} (hi:l.drop i=oi::r) (hL:L.contains i=true)
    (hs:Region.noSelect l.toArray=true) (hf:Region.free md l.toArray listed i=true) (hr:(Region.ready md l.toArray listed).contains i=true)
    (hQ:∀c a w,Q (.panic c) (a.put oi.dst v) w→Q (.panic c) a w) (hy:YieldsIf P l.toArray S oi v a) (hS:S w)
    (h:wpAnyL P md l.toArray Q S L fuel (listed.setIfInBounds i true) (a.put oi.dst v) w):wpAnyL P md l.toArray Q S L (fuel+1) listed a w:=
 wpAnyL_first (at_of_drop hi) (by simpa using hL) (Region.noSelect_spec hs) hQ fuel listed a w (Region.free_spec (at_of_drop hi) hf) (by simpa using hr) hy hS h
structure skL (P:Program) (md:Region.Mode) (ops:Array Oper) (Q:Exit→Act→World→Prop) (S:World→Prop) (L is:List Nat) (fuel:Nat) (listed:Array Bool) (a:Act) (w:World):Prop where
 out:wpAnyL P md ops Q S L fuel listed a w
theorem skL_on (is:List Nat) {fuel:Nat} {listed:Array Bool} {a:Act} {w:World} (h:skL P md ops Q S L is fuel listed a w):wpAnyL P md ops Q S L fuel listed a w:=h.out
theorem skL_off {fuel:Nat} {listed:Array Bool} {a:Act} {w:World} (h:wpAnyL P md ops Q S L fuel listed a w):skL P md ops Q S L [] fuel listed a w:=⟨h⟩
theorem skL_take {is:List Nat} {l r:List Oper} {i:Nat} {oi:Oper} {v:Value} {fuel:Nat} {listed:Array Bool} {a:Act} {w:World} (hi:l.drop i=oi::r) (hy:∀w,S w→(execOp a.eval oi).run P w= .ok (.value v) w)
    (h:skL P md l.toArray Q S L is fuel (listed.setIfInBounds i true) (a.put oi.dst v) w) (hL:L.contains i=true:=by kernel_rfl) (hs:Region.noSelect l.toArray=true:=by kernel_rfl) (hf:Region.free md l.toArray listed i=true:=by kernel_rfl)
    (hr:(Region.ready md l.toArray listed).contains i=true:=by kernel_rfl) (hw:Region.wanted oi (yielded l.toArray a.tmps)=true:=by rfl) (hQ:∀c a w,Q (.panic c) (a.put oi.dst v) w→Q (.panic c) a w:=by exact fun _ _ _ h=>h) (hS:S w:=by assumption):
    skL P md l.toArray Q S L (i::is) (fuel+1) listed a w:=⟨wpAnyL_take hi hL hs hf hr hQ (.inl ⟨hw,hy⟩) hS h.out⟩
theorem wpAnyL_one {l r:List Oper} {i:Nat} {o:Oper} {fuel:Nat} {listed:Array Bool} {a:Act} {w:World} (hr:Region.ready md l.toArray listed=[i]) (ho:l.drop i=o::r) (hw:Region.wanted o (yielded l.toArray a.tmps)=true)
    (h:∀K:Act→World→Prop,(∀a' w',(waits md l.toArray L i=false→S w')→wpAnyL P md l.toArray Q S L fuel (listed.setIfInBounds i true) a' w'→K a' w')→o.wp P a w K Q):
    wpAnyL P md l.toArray Q S L (fuel+1) listed a w:=by
 refine ⟨(fun h0=>by rw [h0] at hr;cases hr),(fun j hj=> ?_)⟩
 rw [hr] at hj
 obtain rfl:j=i:=by simpa using hj
 unfold wpOp
 simp only [at_of_drop ho,hw,if_true]
 exact .inl (h _ fun a' w' hS hrest=>⟨hS,hrest⟩)
theorem wpAnyL_skip {l r:List Oper} {i:Nat} {o:Oper} {fuel:Nat} {listed:Array Bool} {a:Act} {w:World} (hr:Region.ready md l.toArray listed=[i]) (ho:l.drop i=o::r) (hw:Region.wanted o (yielded l.toArray a.tmps)=false)
    (hS:S w) (h:wpAnyL P md l.toArray Q S L fuel (listed.setIfInBounds i true) (a.put o.dst undef) w):
    wpAnyL P md l.toArray Q S L (fuel+1) listed a w:=by
 refine ⟨(fun h0=>by rw [h0] at hr;cases hr),(fun j hj=> ?_)⟩
 rw [hr] at hj
 obtain rfl:j=i:=by simpa using hj
 unfold wpOp
 simp only [at_of_drop ho,hw,Bool.false_eq_true,if_false]
 exact ⟨fun _=>hS,h⟩
theorem wpAnyL_done {listed:Array Bool} {a:Act} {w:World} (hr:Region.ready md ops listed=[]) (h:Q .normal a w):∀fuel,wpAnyL P md ops Q S L fuel listed a w
 |0=>⟨hr,h⟩
 |_+1=>⟨fun _=>h,by rw [hr];simp⟩
theorem wp_region_L {id:Nat} {a:Act} {w:World} {l:List Oper} (S:World→Prop) (L:List Nat) (hm:P.follows .mixedOrders=true)
    (h:wpAnyL P .any l.toArray Q S L l.toArray.size (Array.replicate l.toArray.size false) a w.drew):(Code.region id l.toArray true).wp P Q a w:=
 wp_region_any hm (wpAny_of_L _ _ _ _ h)
end
section
variable {P:Program} {Q:Exit→Act→World→Prop} {md:Region.Mode} {S:World→Prop} {L:List Nat}
end
section
variable {P:Program} {ops:Array Oper} {Q:Exit→Act→World→Prop} {md:Region.Mode} {S:World→Prop} {L:List Nat}
def anc (md:Region.Mode) (ops:Array Oper):Nat→Nat→Nat→Bool
 |0,_,_=>false
 |f+1,j,i=>match ops[j]? with
  |none=>false
  |some oj=>oj.after.any fun e=>Region.binds md e&&(e.on==i||anc md ops f e.on i)
def Closed (md:Region.Mode) (ops:Array Oper) (listed:Array Bool):Prop:=
 ∀k o,ops[k]? =some o→listed.getD k false=true→∀e∈o.after,Region.binds md e=true→listed.getD e.on false=true
theorem Closed.step {listed:Array Bool} {j:Nat} (h:Closed md ops listed) (hj:j∈Region.ready md ops listed):Closed md ops (listed.setIfInBounds j true):=by
 intro k o ho hl e he hb
 by_cases hk:k=j
 ·subst hk
  obtain ⟨-,o',ho',hall⟩:=mem_ready.1 hj
  obtain rfl:o=o':=by rw [ho] at ho';simpa using ho'
  exact getD_set_true (hall e he hb)
 rw [getD_set_ne false (Ne.symm hk)] at hl
 exact getD_set_true (h k o ho hl e he hb)
end
end Go.Proofs.YtjmbphjgiodioaaGreatDoor
