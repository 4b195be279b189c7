/- Several texts, one behind the other. Conditions: as each of them says. -/
set_option maxRecDepth 100000
set_option maxHeartbeats 32000000
namespace Go.Proofs.YtjmbphjgiodioaaGreatDoor
structure Mach where
 inputs:Int
 start:Int
 next:List (List Int)
 out:List (List Int)
 deriving DecidableEq
namespace Mach
variable (m:Mach)
def nx (s a:Nat):Int:=((m.next.getD s []).getD a 0)
def ot (s a:Nat):Int:=((m.out.getD s []).getD a 0)
def badAt (s a:Nat):Prop:=m.nx s a<0∨(m.next.length:Int)≤m.nx s a∨m.ot s a<0∨1048576<m.ot s a
instance (s a:Nat):Decidable (m.badAt s a):=by unfold badAt;exact inferInstance
def rowLens (s:Nat):Prop:=((m.next.getD s []).length:Int)=m.inputs∧((m.out.getD s []).length:Int)=m.inputs
instance (s:Nat):Decidable (m.rowLens s):=by unfold rowLens;exact inferInstance
def rowErr (s:Nat):Int:=if ¬m.rowLens s then 1 else if ∃a,a<m.inputs.toNat∧m.badAt s a then 2 else 0
def rowsErr:Nat→Int
 |0=>0
 |k+1=>if rowsErr k=0 then m.rowErr k else rowsErr k
def err:Int:=
 if m.inputs<1∨64<m.inputs then 2
 else if m.next.length=0 then 19
 else if 128<m.next.length then 11
 else if m.start<0∨(m.next.length:Int)≤m.start then 2
 else if m.out.length≠m.next.length then 1
 else m.rowsErr m.next.length
theorem rowsErr_succ (k:Nat):m.rowsErr (k+1)=if m.rowsErr k=0 then m.rowErr k else m.rowsErr k:=rfl
theorem rowsErr_stop {k n:Nat} (hk:k≤n) (h:m.rowsErr k≠0):m.rowsErr n=m.rowsErr k:=by
 induction n with
 | zero => obtain rfl : k = 0 := by omega
           rfl
 |succ n ih=>
  by_cases e:k=n+1
  ·rw [e]
  have:=ih (by omega)
  rw [rowsErr_succ,this,if_neg h]
theorem rowsErr_zero {k n:Nat} (hk:k<n) (h:m.rowsErr n=0):m.rowErr k=0:=by
 induction n with
 |zero=>omega
 |succ n ih=>
  rw [rowsErr_succ] at h
  by_cases e:m.rowsErr n=0
  ·rw [if_pos e] at h
   by_cases e2:k=n
   ·rw [e2];exact h
   exact ih (by omega) e
  rw [if_neg e] at h;exact absurd h e
structure Ok:Prop where
 i0:1≤m.inputs
 i1:m.inputs≤64
 n0:0<m.next.length
 n1:m.next.length≤128
 s0:0≤m.start
 s1:m.start<m.next.length
 lo:m.out.length=m.next.length
 rn:∀s,s<m.next.length→((m.next.getD s []).length:Int)=m.inputs
 ro:∀s,s<m.next.length→((m.out.getD s []).length:Int)=m.inputs
 nx:∀s a,s<m.next.length→a<m.inputs.toNat→0≤m.nx s a∧m.nx s a<m.next.length
 ot:∀s a,s<m.next.length→a<m.inputs.toNat→0≤m.ot s a∧m.ot s a≤1048576
theorem ok_of_err (h:m.err=0):m.Ok:=by
 unfold err at h
 split at h
 ·simp at h
 rename_i h1
 split at h
 ·simp at h
 rename_i h2
 split at h
 ·simp at h
 rename_i h3
 split at h
 ·simp at h
 rename_i h4
 split at h
 ·simp at h
 rename_i h5
 have hr:∀s,s<m.next.length→m.rowLens s∧¬∃a,a<m.inputs.toNat∧m.badAt s a:=by
  intro s hs
  have:=m.rowsErr_zero hs h
  unfold rowErr at this
  split at this
  ·simp at this
  rename_i h6
  split at this
  ·simp at this
  rename_i h7;exact ⟨by simpa using h6,h7⟩
 refine ⟨by omega,by omega,by omega,by omega,by omega,by omega,by omega,fun s hs=>(hr s hs).1.1,fun s hs=>(hr s hs).1.2,fun s a hs ha=> ?_,fun s a hs ha=> ?_⟩
 all_goals
  have hb:¬m.badAt s a:=fun hb=>(hr s hs).2 ⟨a,ha,hb⟩
  unfold badAt at hb
  omega
theorem err_of_ok (h:m.Ok):m.err=0:=by
 unfold err
 rw [if_neg (by have:=h.i0;have:=h.i1;omega),if_neg (by have:=h.n0;omega),if_neg (by have:=h.n1;omega),if_neg (by have:=h.s0;have:=h.s1;omega),if_neg (by have:=h.lo;omega)]
 have:∀k,k≤m.next.length→m.rowsErr k=0:=by
  intro k
  induction k with
  |zero=>intro _;rfl
  |succ k ih=>
   intro hk
   have h0:m.rowErr k=0:=by
    unfold rowErr
    rw [if_neg (by simp only [Decidable.not_not];exact ⟨h.rn k (by omega),h.ro k (by omega)⟩),if_neg]
    rintro ⟨a,ha,hb⟩
    have h1:=h.nx k a (by omega) ha
    have h2:=h.ot k a (by omega) ha
    unfold badAt at hb
    omega
   rw [rowsErr_succ,ih (by omega),if_pos rfl,h0]
 exact this _ (Nat.le_refl _)
theorem head_cases:
    (m.inputs<1∧m.err=2)∨
    (1≤m.inputs∧64<m.inputs∧m.err=2)∨
    (1≤m.inputs∧m.inputs≤64∧((m.next.length:Int)==0)=true∧m.err=19)∨
    (1≤m.inputs∧m.inputs≤64∧((m.next.length:Int)==0)=false∧128<m.next.length∧m.err=11)∨
    (1≤m.inputs∧m.inputs≤64∧((m.next.length:Int)==0)=false∧m.next.length≤128∧m.start<0∧m.err=2)∨
    (1≤m.inputs∧m.inputs≤64∧((m.next.length:Int)==0)=false∧m.next.length≤128∧0≤m.start∧m.next.length≤m.start∧m.err=2)∨
    (1≤m.inputs∧m.inputs≤64∧((m.next.length:Int)==0)=false∧m.next.length≤128∧0≤m.start∧m.start<m.next.length∧((m.out.length:Int) !=(m.next.length:Int))=true∧m.err=1)∨
    (1≤m.inputs∧m.inputs≤64∧((m.next.length:Int)==0)=false∧m.next.length≤128∧0≤m.start∧m.start<m.next.length∧((m.out.length:Int) !=(m.next.length:Int))=false∧m.out.length=m.next.length∧m.err=m.rowsErr m.next.length):=by
 by_cases h1:m.inputs<1
 ·exact .inl ⟨h1,by unfold err;rw [if_pos (by omega)]⟩
 refine .inr ?_
 by_cases h2:64<m.inputs
 ·exact .inl ⟨by omega,h2,by unfold err;rw [if_pos (by omega)]⟩
 refine .inr ?_
 by_cases h3:m.next.length=0
 ·exact .inl ⟨by omega,by omega,by simp [h3],by unfold err;rw [if_neg (by omega),if_pos h3]⟩
 refine .inr ?_
 have h3':((m.next.length:Int)==0)=false:=beq_eq_false_iff_ne.2 (by omega)
 by_cases h4:128<m.next.length
 ·exact .inl ⟨by omega,by omega,h3',h4,by unfold err;rw [if_neg (by omega),if_neg h3,if_pos h4]⟩
 refine .inr ?_
 by_cases h5:m.start<0
 ·exact .inl ⟨by omega,by omega,h3',by omega,h5,by unfold err;rw [if_neg (by omega),if_neg h3,if_neg h4,if_pos (by omega)]⟩
 refine .inr ?_
 by_cases h6:(m.next.length:Int)≤m.start
 ·exact .inl ⟨by omega,by omega,h3',by omega,by omega,h6,by unfold err;rw [if_neg (by omega),if_neg h3,if_neg h4,if_pos (by omega)]⟩
 refine .inr ?_
 by_cases h7:m.out.length=m.next.length
 ·exact .inr ⟨by omega,by omega,h3',by omega,by omega,by omega,by simp [h7],h7,by unfold err;rw [if_neg (by omega),if_neg h3,if_neg h4,if_neg (by omega),if_neg (by omega)]⟩
 exact .inl ⟨by omega,by omega,h3',by omega,by omega,by omega,by simp;omega,by unfold err;rw [if_neg (by omega),if_neg h3,if_neg h4,if_neg (by omega),if_pos h7]⟩
end Mach
theorem getD_of_some {α:Type} {l:List α} {j:Nat} {x d:α} (h:l[j]? =some x):l.getD j d=x:=by simp [List.getD,h]
namespace Mach
variable (m:Mach)
def outsW:Int→List Int→List Int
 |_,[]=>[]
 |s,x::w=>m.ot s.toNat x.toNat::outsW (m.nx s.toNat x.toNat) w
def endW:Int→List Int→Int
 |s,[]=>s
 |s,x::w=>endW (m.nx s.toNat x.toNat) w
theorem outsW_len:∀(w:List Int) (s:Int),(m.outsW s w).length=w.length
 |[],_=>rfl
 |x::w,s=>by simp [outsW,outsW_len w]
theorem endW_app:∀(w v:List Int) (s:Int),m.endW s (w++v)=m.endW (m.endW s w) v
 |[],_,_=>rfl
 |x::w,v,s=>by simp [endW,endW_app w]
theorem outsW_app:∀(w v:List Int) (s:Int),m.outsW s (w++v)=m.outsW s w++m.outsW (m.endW s w) v
 |[],_,_=>rfl
 |x::w,v,s=>by simp [outsW,endW,outsW_app w]
theorem endW_snoc (w:List Int) (x s:Int):m.endW s (w++[x])=m.nx (m.endW s w).toNat x.toNat:=by rw [endW_app];rfl
theorem outsW_snoc (w:List Int) (x s:Int):m.outsW s (w++[x])=m.outsW s w++[m.ot (m.endW s w).toNat x.toNat]:=by rw [outsW_app];rfl
def okS (w:List Int):Prop:=∀x∈w,0≤x∧x<m.inputs
variable {m}
theorem okS_cons {x:Int} {w:List Int} (h:m.okS (x::w)):(0≤x∧x<m.inputs)∧m.okS w:=⟨h x (by simp),fun y hy=>h y (by simp [hy])⟩
theorem okS_take {w:List Int} (h:m.okS w) (k:Nat):m.okS (w.take k):=fun y hy=>h y (List.mem_of_mem_take hy)
theorem endW_range (ok:m.Ok):∀(w:List Int) (s:Int),0≤s→s<m.next.length→m.okS w→0≤m.endW s w∧m.endW s w<m.next.length
 |[],s,h0,h1,_=>⟨h0,h1⟩
 |x::w,s,h0,h1,h=>by
  obtain ⟨⟨x0,x1⟩,hw⟩:=okS_cons h
  have:=ok.nx s.toNat x.toNat (by omega) (by omega)
  exact endW_range ok w _ this.1 this.2 hw
theorem take_step {w:List Int} {k:Nat} {x:Int} (h:w[k]? =some x):w.take (k+1)=w.take k++[x]:=by rw [List.take_add_one,h];rfl
end Mach
structure Stg where
 kind:Int
 extra:Int
 seed:Nat
 count:Int
 len:Int
namespace Stg
def err (s:Stg):Int:=
 if s.kind<1∨4<s.kind then 2 else
 if s.kind=4 then (if s.extra≠0 then 1 else if s.count<0∨10000<s.count∨s.len<0∨1024<s.len then 2 else 0) else
 if s.extra<0∨3<s.extra then 2 else if s.seed≠0∨s.count≠0∨s.len≠0 then 1 else 0
end Stg
def visit:List Int→List Int→List Int
 |l,[]=>l
 |l,t::r=>visit (if t∈l then l else l++[t]) r
theorem nodup_le:∀(n:Nat) (l:List Int),l.Nodup→(∀x∈l,0≤x∧x<n)→l.length≤n
 |0,l,_,h=>by
  cases l with
  |nil=>simp
  |cons x l=>have:=h x (by simp);omega
 |n+1,l,hd,h=>by
  have h1:=nodup_le n (l.filter fun x=>decide (x≠(n:Int))) (hd.filter _) (fun x hx=>by
   have h2:=List.mem_filter.1 hx
   have h3:=h x h2.1
   have h4:x≠n:=by simpa using h2.2
   omega)
  have h2:l.length≤(l.filter fun x=>decide (x≠(n:Int))).length+1:=by
   clear h1 h
   induction l with
   |nil=>simp
   |cons y l ih=>
    have hd':=List.nodup_cons.1 hd
    by_cases e:y=n
    ·have : l.filter (fun x => decide (x ≠ (n : Int))) = l := by
       rw [List.filter_eq_self]
       intro a ha
       have:a≠y:=fun e2=>hd'.1 (e2▸ha)
       simpa [←e] using this
     simp [e]
     have h5:l.filter (fun x=> !decide (x=(n:Int)))=l:=by
      rw [List.filter_eq_self]
      intro a ha
      have:a≠y:=fun e2=>hd'.1 (e2▸ha)
      simpa [←e] using this
     rw [h5];omega
    have:=ih hd'.2
    simp [e] at this ⊢
    omega
  omega
namespace Mach
variable (m:Mach)
def bfs:Nat→List Int
 |0=>[m.start]
 |i+1=>if i<(bfs i).length then visit (bfs i) (m.next.getD ((bfs i).getD i 0).toNat []) else bfs i
def reach:List Int:=m.bfs m.next.length
variable {m}
end Mach
def numOf (l:List Int) (x:Int):Int:=if x∈l then (l.idxOf x:Nat) else 0
theorem numOf_snoc_self {l:List Int} {x:Int} (h:x∉l):numOf (l++[x]) x=l.length:=by
 unfold numOf
 rw [if_pos (by simp),List.idxOf_append]
 simp [h]
theorem numOf_snoc_other {l:List Int} {x y:Int} (hne:y≠x):numOf (l++[x]) y=numOf l y:=by
 unfold numOf
 by_cases h:y∈l
 ·rw [if_pos (by simp [h]),if_pos h,List.idxOf_append,if_pos h]
 rw [if_neg (by simp [h,hne]),if_neg h]
namespace Mach
variable (m:Mach)
def nothing:Mach:={inputs:=0,start:=0,next:=[],out:=[]}
end Mach
structure Nums (n:Nat) (l:List Int) (num:List Int):Prop where
 len:num.length=n
 val:∀t,t<n→num[t]? =some (numOf l t)
theorem Nums.init {n:Nat} {num:List Int} (h:num=List.replicate n 0):Nums n [] num:=by
 subst h
 exact ⟨by simp,fun t ht=>by rw [List.getElem?_replicate,if_pos ht];simp [numOf]⟩
theorem Nums.push {n:Nat} {l num:List Int} (h:Nums n l num) {x:Nat} (hx:x<n) (hn:((x:Nat):Int)∉l):Nums n (l++[(x:Int)]) (num.set x l.length):=by
 refine ⟨by rw [List.length_set];exact h.len,fun t ht=> ?_⟩
 by_cases e:t=x
 ·subst e
  rw [List.getElem?_set_self (by rw [h.len];exact hx),numOf_snoc_self hn]
 rw [List.getElem?_set_ne (by omega),h.val t ht,numOf_snoc_other (by omega)]
namespace Mach
variable {m:Mach}
end Mach
def look (E:Nat→Nat→Bool) (l:List Int) (s:Nat):Nat→Int
 |0=> -1
 |d+1=>if E (s-(d+1)) s then l.getD (s-(d+1)) 0 else look E l s d
def canon (E:Nat→Nat→Bool):Nat→List Int×Int
 |0=>([],0)
 |k+1=>let p:=canon E k
  if look E p.1 k k<0 then (p.1++[p.2],p.2+1) else (p.1++[look E p.1 k k],p.2)
theorem canon_length (E:Nat→Nat→Bool):∀k,(canon E k).1.length=k
 |0=>rfl
 |k+1=>by simp only [canon];split<;>simp [canon_length E k]
theorem canon_new (E:Nat→Nat→Bool) {k:Nat} (h:look E (canon E k).1 k k<0):canon E (k+1)=((canon E k).1++[(canon E k).2],(canon E k).2+1):=by
 simp only [canon,h,if_true]
theorem canon_old (E:Nat→Nat→Bool) {k:Nat} (h:¬look E (canon E k).1 k k<0):canon E (k+1)=((canon E k).1++[look E (canon E k).1 k k],(canon E k).2):=by
 simp only [canon,h,if_false]
theorem look_spec (E:Nat→Nat→Bool) (l:List Int) (s:Nat):∀d,d≤s→(look E l s d= -1∧∀t,s-d≤t→t<s→E t s=false)∨∃t,s-d≤t∧t<s∧E t s=true∧look E l s d=l.getD t 0∧∀t',s-d≤t'→t'<t→E t' s=false
 |0,_=> .inl ⟨rfl,fun t h1 h2=>by omega⟩
 |d+1,hd=>by
  by_cases e:E (s-(d+1)) s=true
  ·refine .inr ⟨s-(d+1),Nat.le_refl _,by omega,e,by simp only [look,e,if_true],fun t' h1 h2=>by omega⟩
  have e':E (s-(d+1)) s=false:=by simpa using e
  have hl:look E l s (d+1)=look E l s d:=by simp only [look,e',Bool.false_eq_true,if_false]
  rcases look_spec E l s d (by omega) with ⟨h1,h2⟩|⟨t,h1,h2,h3,h4,h5⟩
  ·refine .inl ⟨by rw [hl,h1],fun t ht1 ht2=> ?_⟩
   by_cases e2:t=s-(d+1)
   ·rw [e2];exact e'
   exact h2 t (by omega) ht2
  refine .inr ⟨t,by omega,h2,h3,by rw [hl,h4],fun t' ht1 ht2=> ?_⟩
  by_cases e2:t'=s-(d+1)
  ·rw [e2];exact e'
  exact h5 t' (by omega) ht2
theorem canon_succ (E:Nat→Nat→Bool) (k:Nat):canon E (k+1)=if look E (canon E k).1 k k<0 then ((canon E k).1++[(canon E k).2],(canon E k).2+1) else ((canon E k).1++[look E (canon E k).1 k k],(canon E k).2):=rfl
theorem canon_range (E:Nat→Nat→Bool):∀k,0≤(canon E k).2∧(canon E k).2≤k∧∀t,t<k→0≤(canon E k).1.getD t 0∧(canon E k).1.getD t 0<(canon E k).2
 |0=>⟨Int.le_refl _,Int.le_refl _,fun t h=>by omega⟩
 |k+1=>by
  obtain ⟨h0,h1,h2⟩:=canon_range E k
  have hlen:=canon_length E k
  by_cases hl:look E (canon E k).1 k k<0
  ·rw [canon_new E hl]
   refine ⟨by simp only;omega,by simp only;omega,fun t ht=> ?_⟩
   simp only
   by_cases e:t=k
   ·subst e
    have:((canon E t).1++[(canon E t).2]).getD t 0=(canon E t).2:=by
     rw [List.getD_eq_getElem?_getD,List.getElem?_append_right (by omega),hlen];simp
    rw [this];omega
   have : ((canon E k).1 ++ [(canon E k).2]).getD t 0 = (canon E k).1.getD t 0 := by
    rw [List.getD_eq_getElem?_getD,List.getElem?_append_left (by omega),←List.getD_eq_getElem?_getD]
   rw [this]
   have:=h2 t (by omega)
   omega
  rw [canon_old E hl]
  refine ⟨h0,by simp only;omega,fun t ht=> ?_⟩
  simp only
  by_cases e:t=k
  ·subst e
   have:((canon E t).1++[look E (canon E t).1 t t]).getD t 0=look E (canon E t).1 t t:=by
    rw [List.getD_eq_getElem?_getD,List.getElem?_append_right (by omega),hlen];simp
   rw [this]
   rcases look_spec E (canon E t).1 t t (Nat.le_refl _) with ⟨h3,_⟩|⟨t',_,h4,_,h5,_⟩
   ·omega
   rw [h5];exact h2 t' h4
  have : ((canon E k).1 ++ [look E (canon E k).1 k k]).getD t 0 = (canon E k).1.getD t 0 := by
   rw [List.getD_eq_getElem?_getD,List.getElem?_append_left (by omega),←List.getD_eq_getElem?_getD]
  rw [this]
  exact h2 t (by omega)
namespace Mach
variable (m:Mach)
def sameTo (cls:List Int) (t s:Nat) (k:Nat):Prop:=cls.getD s 0=cls.getD t 0∧∀a,a<k→m.ot s a=m.ot t a∧cls.getD (m.nx s a).toNat 0=cls.getD (m.nx t a).toNat 0
instance (cls:List Int) (t s k:Nat):Decidable (m.sameTo cls t s k):=by unfold sameTo;exact inferInstance
def sameR (cls:List Int) (t s:Nat):Bool:=decide (m.sameTo cls t s m.inputs.toNat)
def sameP (cls:List Int) (t s:Nat):Bool:=decide (∀a,a<m.inputs.toNat→m.ot s a=m.ot t a∧cls.getD (m.nx s a).toNat 0=cls.getD (m.nx t a).toNat 0)
def part:Nat→List Int
 |0=>List.replicate m.next.length 0
 |k+1=>(canon (m.sameR (part k)) m.next.length).1
theorem part_succ (k:Nat):m.part (k+1)=(canon (m.sameR (m.part k)) m.next.length).1:=rfl
end Mach
namespace Mach
variable (m:Mach)
end Mach
structure SigMap (N:Nat) (g:Nat→List Int) (lst:List Int) (k:Nat) (f:List Int→Option Int):Prop where
 hit:∀t,t<k→f (g t)=some (lst.getD t 0)
 miss:∀s,s<N→(∀t,t<k→g t≠g s)→f (g s)=none
theorem SigMap.look {N:Nat} {g:Nat→List Int} {E:Nat→Nat→Bool} {k:Nat} {f:List Int→Option Int} (hg:∀t s,g t=g s↔E t s=true) (h:SigMap N g (canon E k).1 k f) (hk:k<N):
    (f (g k)=none∧look E (canon E k).1 k k<0)∨∃v,f (g k)=some v∧0≤v∧look E (canon E k).1 k k=v:=by
 rcases look_spec E (canon E k).1 k k (Nat.le_refl _) with ⟨h1,h2⟩|⟨t,_,h2,h3,h4,_⟩
 ·refine .inl ⟨h.miss k hk fun t ht he=> ?_,by omega⟩
  have:=h2 t (by omega) ht
  rw [(hg t k).1 he] at this
  cases this
 refine .inr ⟨(canon E k).1.getD t 0,?_,((canon_range E k).2.2 t h2).1,h4⟩
 rw [←(hg t k).2 h3]
 exact h.hit t h2
theorem getD_snoc_lt {l:List Int} {x:Int} {t:Nat} (h:t<l.length):(l++[x]).getD t 0=l.getD t 0:=by
 rw [List.getD_eq_getElem?_getD,List.getElem?_append_left h,←List.getD_eq_getElem?_getD]
theorem getD_snoc_self {l:List Int} {x:Int} {t:Nat} (h:t=l.length):(l++[x]).getD t 0=x:=by
 rw [List.getD_eq_getElem?_getD,List.getElem?_append_right (by omega),h];simp
theorem SigMap.old {N:Nat} {g:Nat→List Int} {lst:List Int} {k:Nat} {f:List Int→Option Int} (h:SigMap N g lst k f) (hl:lst.length=k) {v:Int} (hf:f (g k)=some v):SigMap N g (lst++[v]) (k+1) f:=by
 refine ⟨fun t ht=> ?_,fun s hN hs=>h.miss s hN fun t ht=>hs t (by omega)⟩
 by_cases e:t=k
 ·rw [e,getD_snoc_self hl.symm,hf]
 rw [getD_snoc_lt (by omega)];exact h.hit t (by omega)
theorem SigMap.new {N:Nat} {g:Nat→List Int} {lst:List Int} {k:Nat} {f f':List Int→Option Int} (h:SigMap N g lst k f) (hl:lst.length=k) (hk:k<N) (hf:f (g k)=none) {v:Int} (h1:f' (g k)=some v) (h2:∀s,s<N→g s≠g k→f' (g s)=f (g s)):
    SigMap N g (lst++[v]) (k+1) f':=by
 refine ⟨fun t ht=> ?_,fun s hN hs=> ?_⟩
 ·by_cases e:t=k
  ·rw [e,getD_snoc_self hl.symm,h1]
  have hne : g t ≠ g k := by
   intro e2
   have:=h.hit t (by omega)
   rw [e2,hf] at this
   cases this
  rw [getD_snoc_lt (by omega),h2 t (by omega) hne]
  exact h.hit t (by omega)
 rw [h2 s hN (fun e=>hs k (by omega) e.symm)]
 exact h.miss s hN fun t ht=>hs t (by omega)
theorem look_congr {E E':Nat→Nat→Bool} {l:List Int} {s:Nat} (h:∀t,t<s→E t s=E' t s):∀d,d≤s→look E l s d=look E' l s d
 |0,_=>rfl
 |d+1,hd=>by simp only [look,h (s-(d+1)) (by omega),look_congr h d (by omega)]
theorem canon_congr {E E':Nat→Nat→Bool}:∀n,(∀s,s<n→∀t,t<s→E t s=E' t s)→canon E n=canon E' n
 |0,_=>rfl
 |n+1,h=>by
  have ih:=canon_congr n (fun s hs t ht=>h s (by omega) t ht)
  rw [canon_succ,canon_succ,ih,look_congr (h n (by omega)) n (Nat.le_refl _)]
structure Eqv (n:Nat) (R:Nat→Nat→Prop):Prop where
 refl:∀s,s<n→R s s
 symm:∀s t,s<n→t<n→R s t→R t s
 trans:∀s t u,s<n→t<n→u<n→R s t→R t u→R s u
theorem canon_getD_lt (E:Nat→Nat→Bool) {k s:Nat} (h:s<k):(canon E (k+1)).1.getD s 0=(canon E k).1.getD s 0:=by
 have hl:=canon_length E k
 rw [canon_succ]
 split
 ·simp only;rw [List.getD_eq_getElem?_getD,List.getElem?_append_left (by omega),←List.getD_eq_getElem?_getD]
 simp only;rw [List.getD_eq_getElem?_getD,List.getElem?_append_left (by omega),←List.getD_eq_getElem?_getD]
theorem canon_getD_self (E:Nat→Nat→Bool) (k:Nat):(canon E (k+1)).1.getD k 0=if look E (canon E k).1 k k<0 then (canon E k).2 else look E (canon E k).1 k k:=by
 have hl:=canon_length E k
 rw [canon_succ]
 split
 ·simp only;rw [List.getD_eq_getElem?_getD,List.getElem?_append_right (by omega),hl];simp
 simp only;rw [List.getD_eq_getElem?_getD,List.getElem?_append_right (by omega),hl];simp
theorem canon_eq_iff {R:Nat→Nat→Prop} {E:Nat→Nat→Bool}:∀n,Eqv n R→(∀s,s<n→∀t,t<s→(E t s=true↔R t s))→
    ∀s t,s<n→t<n→((canon E n).1.getD s 0=(canon E n).1.getD t 0↔R s t)
 |0,_,_=>fun s t hs=>by omega
 |n+1,hR,hE=>by
  have hR':Eqv n R:=⟨fun s hs=>hR.refl s (by omega),fun s t hs ht=>hR.symm s t (by omega) (by omega),fun s t u hs ht hu=>hR.trans s t u (by omega) (by omega) (by omega)⟩
  have ih:=canon_eq_iff n hR' (fun s hs t ht=>hE s (by omega) t ht)
  have hrange:=canon_range E n
  have key:∀t,t<n→((canon E (n+1)).1.getD n 0=(canon E n).1.getD t 0↔R n t):=by
   intro t ht
   rw [canon_getD_self]
   rcases look_spec E (canon E n).1 n n (Nat.le_refl _) with ⟨h1,h2⟩|⟨t0,_,h2,h3,h4,_⟩
   ·rw [if_pos (by omega)]
    constructor
    ·intro h;have:=(hrange.2.2 t ht).2;omega
    intro h
    have h5:=h2 t (by omega) ht
    have h6:=(hE n (by omega) t ht).2 (hR.symm _ _ (by omega) (by omega) h)
    rw [h5] at h6;cases h6
   have h0:=hrange.2.2 t0 h2
   rw [if_neg (by omega),h4,ih t0 t h2 ht]
   have h5:=(hE n (by omega) t0 h2).1 h3
   constructor
   ·intro h;exact hR.trans _ _ _ (by omega) (by omega) (by omega) (hR.symm _ _ (by omega) (by omega) h5) h
   intro h;exact hR.trans _ _ _ (by omega) (by omega) (by omega) h5 h
  intro s t hs ht
  by_cases e1:s=n
  ·by_cases e2:t=n
   ·subst e1;subst e2;exact ⟨fun _=>hR.refl _ (by omega),fun _=>rfl⟩
   subst e1;rw [canon_getD_lt E (show t<s by omega)];exact key t (by omega)
  by_cases e2:t=n
  ·subst e2
   rw [canon_getD_lt E (show s<t by omega)]
   constructor
   ·intro h;exact hR.symm _ _ (by omega) (by omega) ((key s (by omega)).1 h.symm)
   intro h;exact ((key s (by omega)).2 (hR.symm _ _ (by omega) (by omega) h)).symm
  rw [canon_getD_lt E (show s<n by omega),canon_getD_lt E (show t<n by omega)]
  exact ih s t (by omega) (by omega)
def isFirst (E:Nat→Nat→Bool) (s:Nat):Bool:=(List.range s).all fun t=> !E t s
theorem canon_count (E:Nat→Nat→Bool):∀n,(canon E n).2=((List.range n).filter (isFirst E)).length
 |0=>rfl
 |n+1=>by
  have ih:=canon_count E n
  have hrange:=canon_range E n
  rw [List.range_succ,List.filter_append,List.length_append,canon_succ]
  rcases look_spec E (canon E n).1 n n (Nat.le_refl _) with ⟨h1,h2⟩|⟨t0,_,h2,h3,h4,_⟩
  ·rw [if_pos (by omega)]
   have:isFirst E n=true:=by
    unfold isFirst
    rw [List.all_eq_true]
    intro t ht
    have:=h2 t (by omega) (by simpa using ht)
    simp [this]
   simp [this,ih]
  have h0:=hrange.2.2 t0 h2
  rw [if_neg (by omega)]
  have:isFirst E n=false:=by
   unfold isFirst
   rw [List.all_eq_false]
   exact ⟨t0,by simpa using h2,by simp [h3]⟩
  simp [this,ih]
theorem filter_same {α:Type} {p q:α→Bool}:∀l:List α,(∀x∈l,p x=true→q x=true)→(l.filter p).length=(l.filter q).length→∀x∈l,p x=q x
 |[],_,_=>by simp
 |x::l,h,hl=>by
  have hle:∀l:List α,(∀x∈l,p x=true→q x=true)→(l.filter p).length≤(l.filter q).length:=by
   intro l h
   induction l with
   |nil=>simp
   |cons y l ih=>
    have:=ih (fun z hz=>h z (by simp [hz]))
    by_cases hp:p y=true
    ·simp [hp,h y (by simp) hp];exact this
    by_cases hq:q y=true
    ·simp [hp,hq];omega
    simp [hp,hq];exact this
  have h1:=hle l (fun z hz=>h z (by simp [hz]))
  have hxl:(l.filter p).length=(l.filter q).length∧p x=q x:=by
   by_cases hp:p x=true
   ·have hq:=h x (by simp) hp
    simp [hp,hq] at hl
    exact ⟨hl,by rw [hp,hq]⟩
   by_cases hq:q x=true
   ·simp [hp,hq] at hl;omega
   simp [hp,hq] at hl;exact ⟨hl,by simp [hp,hq]⟩
  intro y hy
  rcases List.mem_cons.1 hy with rfl|hy
  ·exact hxl.2
  exact filter_same l (fun z hz=>h z (by simp [hz])) hxl.1 y hy
theorem isFirst_iff {n:Nat} {R:Nat→Nat→Prop} {E:Nat→Nat→Bool} (hE:∀s,s<n→∀t,t<s→(E t s=true↔R t s)) {s:Nat} (hs:s<n):isFirst E s=true↔∀t,t<s→¬R t s:=by
 unfold isFirst
 rw [List.all_eq_true]
 constructor
 ·intro h t ht hr
  have:=h t (by simpa using ht)
  rw [(hE s hs t ht).2 hr] at this
  simp at this
 intro h t ht
 have ht':t<s:=by simpa using ht
 have:=h t ht'
 rw [←hE s hs t ht'] at this
 simpa using this
theorem first_of {n:Nat} {R:Nat→Nat→Prop} (hR:Eqv n R):∀s,s<n→∃t,t≤s∧R t s∧∀u,u<t→¬R u t:=by
 intro s
 induction s using Nat.strongRecOn with
 |ind s ih=>
  intro hs
  by_cases h:∃u,u<s∧R u s
  ·obtain ⟨u,hu,hr⟩:=h
   obtain ⟨t,ht,h1,h2⟩:=ih u hu (by omega)
   exact ⟨t,by omega,hR.trans _ _ _ (by omega) (by omega) hs h1 hr,h2⟩
  exact ⟨s,Nat.le_refl _,hR.refl s hs,fun u hu hr=>h ⟨u,hu,hr⟩⟩
theorem finer_same {n:Nat} {R R':Nat→Nat→Prop} {E E':Nat→Nat→Bool} (hR:Eqv n R) (hR':Eqv n R') (hE:∀s,s<n→∀t,t<s→(E t s=true↔R t s)) (hE':∀s,s<n→∀t,t<s→(E' t s=true↔R' t s))
    (hsub:∀s t,s<n→t<n→R' s t→R s t) (hc:(canon E n).2=(canon E' n).2):∀s t,s<n→t<n→(R s t↔R' s t):=by
 have hfirst:∀s,s<n→(isFirst E s=isFirst E' s):=by
  intro s hs
  rw [canon_count,canon_count] at hc
  refine filter_same (List.range n) ?_ (by omega) s (by simpa using hs)
  intro x hx hfx
  have hx':x<n:=by simpa using hx
  rw [isFirst_iff hE' hx']
  have:=(isFirst_iff hE hx').1 hfx
  exact fun t ht hr=>this t ht (hsub t x (by omega) hx' hr)
 intro s t hs ht
 refine ⟨fun h=> ?_,hsub s t hs ht⟩
 obtain ⟨s0,hs0,a1,a2⟩:=first_of hR' s hs
 obtain ⟨t0,ht0,b1,b2⟩:=first_of hR' t ht
 have f1:∀u,u<s0→¬R u s0:=(isFirst_iff hE (show s0<n by omega)).1 (by rw [hfirst s0 (by omega)];exact (isFirst_iff hE' (by omega)).2 a2)
 have f2:∀u,u<t0→¬R u t0:=(isFirst_iff hE (show t0<n by omega)).1 (by rw [hfirst t0 (by omega)];exact (isFirst_iff hE' (by omega)).2 b2)
 have c1:=hsub _ _ (by omega) hs a1
 have c2:=hsub _ _ (by omega) ht b1
 have c3:R s0 t0:=hR.trans _ _ _ (by omega) hs (by omega) c1 (hR.trans _ _ _ hs ht (by omega) h (hR.symm _ _ (by omega) ht c2))
 have e:s0=t0:=by
  rcases Nat.lt_trichotomy s0 t0 with h1|h1|h1
  ·exact absurd c3 (f2 _ h1)
  ·exact h1
  exact absurd (hR.symm _ _ (by omega) (by omega) c3) (f1 _ h1)
 subst e
 exact hR'.trans _ _ _ hs (by omega) ht (hR'.symm _ _ (by omega) hs a1) b1
namespace Mach
variable (m:Mach)
def eqv:Nat→Nat→Nat→Prop
 |0,_,_=>True
 |k+1,s,t=>∀a,a<m.inputs.toNat→m.ot s a=m.ot t a∧eqv k (m.nx s a).toNat (m.nx t a).toNat
theorem eqv_mono:∀k s t,m.eqv (k+1) s t→m.eqv k s t
 |0,_,_,_=>trivial
 |k+1,_,_,h=>fun a ha=>⟨(h a ha).1,eqv_mono k _ _ (h a ha).2⟩
theorem eqv_le {k j s t:Nat} (h:m.eqv k s t) (hj:j≤k):m.eqv j s t:=by
 induction k with
 | zero => obtain rfl : j = 0 := by omega
           exact h
 |succ k ih=>
  by_cases e:j=k+1
  ·rw [e];exact h
  exact ih (m.eqv_mono k s t h) (by omega)
theorem eqv_refl:∀k s,m.eqv k s s
 |0,_=>trivial
 |k+1,_=>fun _ _=>⟨rfl,eqv_refl k _⟩
theorem eqv_symm:∀k s t,m.eqv k s t→m.eqv k t s
 |0,_,_,_=>trivial
 |k+1,_,_,h=>fun a ha=>⟨(h a ha).1.symm,eqv_symm k _ _ (h a ha).2⟩
theorem eqv_trans:∀k s t u,m.eqv k s t→m.eqv k t u→m.eqv k s u
 |0,_,_,_,_,_=>trivial
 |k+1,_,_,_,h,h'=>fun a ha=>⟨(h a ha).1.trans (h' a ha).1,eqv_trans k _ _ _ (h a ha).2 (h' a ha).2⟩
theorem eqv_eqv (n k:Nat):Eqv n (fun t s=>m.eqv k t s):=⟨fun s _=>m.eqv_refl k s,fun s t _ _=>m.eqv_symm k s t,fun s t u _ _ _=>m.eqv_trans k s t u⟩
variable {m}
theorem nx_lt (ok:m.Ok) {s a:Nat} (hs:s<m.next.length) (ha:a<m.inputs.toNat):(m.nx s a).toNat<m.next.length:=by
 have:=ok.nx s a hs ha
 omega
theorem part_iff (ok:m.Ok):∀k s t,s<m.next.length→t<m.next.length→((m.part k).getD s 0=(m.part k).getD t 0↔m.eqv k s t)
 |0,s,t,hs,ht=>by simp [part,eqv,List.getD_eq_getElem?_getD,hs,ht]
 |k+1,s,t,hs,ht=>by
  rw [part_succ]
  refine canon_eq_iff (R:=fun t s=>m.eqv (k+1) t s) _ (m.eqv_eqv _ _) ?_ s t hs ht
  intro s hs t ht
  have ih:=part_iff ok k
  unfold sameR
  rw [decide_eq_true_iff]
  constructor
  ·intro h a ha
   refine ⟨(h.2 a ha).1.symm,?_⟩
   rw [←ih _ _ (nx_lt ok (by omega) ha) (nx_lt ok hs ha)]
   exact (h.2 a ha).2.symm
  intro h
  refine ⟨(ih _ _ hs (by omega)).2 (m.eqv_symm _ _ _ (m.eqv_mono _ _ _ h)),fun a ha=>⟨(h a ha).1.symm,?_⟩⟩
  rw [ih _ _ (nx_lt ok hs ha) (nx_lt ok (by omega) ha)]
  exact m.eqv_symm _ _ _ (h a ha).2
theorem sameR_iff (ok:m.Ok) (k:Nat):∀s,s<m.next.length→∀t,t<s→(m.sameR (m.part k) t s=true↔m.eqv (k+1) t s):=by
 intro s hs t ht
 have ih:=part_iff ok k
 unfold sameR
 rw [decide_eq_true_iff]
 constructor
 ·intro h a ha
  refine ⟨(h.2 a ha).1.symm,?_⟩
  rw [←ih _ _ (nx_lt ok (by omega) ha) (nx_lt ok hs ha)]
  exact (h.2 a ha).2.symm
 intro h
 refine ⟨(ih _ _ hs (by omega)).2 (m.eqv_symm _ _ _ (m.eqv_mono _ _ _ h)),fun a ha=>⟨(h a ha).1.symm,?_⟩⟩
 rw [ih _ _ (nx_lt ok hs ha) (nx_lt ok (by omega) ha)]
 exact m.eqv_symm _ _ _ (h a ha).2
theorem sameP_iff (ok:m.Ok) (k:Nat):∀s,s<m.next.length→∀t,t<s→(m.sameP (m.part k) t s=true↔m.eqv (k+1) t s):=by
 intro s hs t ht
 have ih:=part_iff ok k
 unfold sameP
 rw [decide_eq_true_iff]
 constructor
 ·intro h a ha
  refine ⟨(h a ha).1.symm,?_⟩
  rw [←ih _ _ (nx_lt ok (by omega) ha) (nx_lt ok hs ha)]
  exact (h a ha).2.symm
 intro h a ha
 refine ⟨(h a ha).1.symm,?_⟩
 rw [ih _ _ (nx_lt ok hs ha) (nx_lt ok (by omega) ha)]
 exact m.eqv_symm _ _ _ (h a ha).2
theorem eqv_stable (ok:m.Ok) {k:Nat} (h:∀s t,s<m.next.length→t<m.next.length→(m.eqv k s t↔m.eqv (k+1) s t)):
    ∀j,k≤j→∀s t,s<m.next.length→t<m.next.length→(m.eqv k s t↔m.eqv j s t):=by
 intro j hj
 induction j with
 | zero => intro s t _ _; obtain rfl : k = 0 := by omega
           exact Iff.rfl
 |succ j ih=>
  by_cases e:k=j+1
  ·intro s t _ _;rw [e]
  intro s t hs ht
  have ih':=ih (by omega)
  rw [h s t hs ht]
  constructor
  ·intro h1 a ha
   exact ⟨(h1 a ha).1,(ih' _ _ (nx_lt ok hs ha) (nx_lt ok ht ha)).1 (h1 a ha).2⟩
  intro h1 a ha
  exact ⟨(h1 a ha).1,(ih' _ _ (nx_lt ok hs ha) (nx_lt ok ht ha)).2 (h1 a ha).2⟩
theorem part_eq (ok:m.Ok) {k j:Nat} (h:∀s t,s<m.next.length→t<m.next.length→(m.eqv k s t↔m.eqv j s t)):m.part k=m.part j:=by
 classical
 have hc:∀k,m.part k=(canon (fun t s=>decide (m.eqv k t s)) m.next.length).1:=by
  intro k
  cases k with
  |zero=>
   have:∀n,canon (fun _ _=>true) (n+1)=(List.replicate (n+1) 0,1):=by
    intro n
    induction n with
    |zero=>simp [canon,look]
    |succ n ih=>
     have hl:look (fun _ _=>true) (List.replicate (n+1) 0) (n+1) (n+1)=0:=by
      rw [look]
      simp
     rw [canon_succ,ih]
     simp only [hl]
     rw [if_neg (by omega),List.replicate_succ' (n:=n+1)]
   obtain ⟨n,hn⟩:∃n,m.next.length=n+1:=⟨m.next.length-1,by have:=ok.n0;omega⟩
   have e2:(fun t s=>decide (m.eqv 0 t s))=(fun _ _:Nat=>true):=by funext t s;exact decide_eq_true trivial
   rw [e2,part,hn,this]
  |succ k=>
   rw [part_succ]
   congr 1
   apply canon_congr
   intro s hs t ht
   have:=sameR_iff ok k s hs t ht
   rw [Bool.eq_iff_iff,this,decide_eq_true_iff]
 rw [hc k,hc j]
 congr 1
 apply canon_congr
 intro s hs t ht
 rw [Bool.eq_iff_iff,decide_eq_true_iff,decide_eq_true_iff]
 exact h t s (by omega) hs
end Mach
namespace Mach
def pp (m:Mach):Nat→List Int×Int
 |0=>(List.replicate m.next.length 0,1)
 |k+1=>canon (m.sameP (pp m k).1) m.next.length
theorem pp_succ (m:Mach) (k:Nat):m.pp (k+1)=canon (m.sameP (m.pp k).1) m.next.length:=rfl
def Steps (m:Mach) (K d:Nat):Prop:=d≤K∧(∀j,j<d→(m.pp (j+1)).2≠(m.pp j).2)∧(d=K∨(m.pp (d+1)).2=(m.pp d).2)
variable {m:Mach}
theorem pp_part (ok:m.Ok):∀k,(m.pp k).1=m.part k
 |0=>rfl
 |k+1=>by
  rw [pp_succ,part_succ,pp_part ok k]
  congr 1
  apply canon_congr
  intro s hs t ht
  rw [Bool.eq_iff_iff,sameP_iff ok k s hs t ht,sameR_iff ok k s hs t ht]
theorem pp_canon (ok:m.Ok) (k:Nat):m.pp (k+1)=canon (m.sameR (m.part k)) m.next.length:=by
 rw [pp_succ,pp_part ok k]
 apply canon_congr
 intro s hs t ht
 rw [Bool.eq_iff_iff,sameP_iff ok k s hs t ht,sameR_iff ok k s hs t ht]
theorem pp_count (ok:m.Ok) (k:Nat):∃E:Nat→Nat→Bool,(∀s,s<m.next.length→∀t,t<s→(E t s=true↔m.eqv k t s))∧(m.pp k).2=(canon E m.next.length).2:=by
 cases k with
 |zero=>
  refine ⟨fun _ _=>true,fun s _ t _=>by simp [eqv],?_⟩
  have:∀n,(canon (fun _ _=>true) (n+1)).2=1:=by
   intro n
   rw [canon_count]
   have h1:∀n,(List.range (n+1)).filter (isFirst (fun _ _=>true))=[0]:=by
    intro n
    induction n with
    |zero=>rfl
    |succ n ih=>
     rw [List.range_succ,List.filter_append,ih]
     have:isFirst (fun _ _=>true) (n+1)=false:=by
      unfold isFirst
      rw [List.all_eq_false]
      exact ⟨0,by simp,by simp⟩
     simp [this]
   rw [h1];rfl
  obtain ⟨n,hn⟩:∃n,m.next.length=n+1:=⟨m.next.length-1,by have:=ok.n0;omega⟩
  rw [hn,this];rfl
 |succ k=>exact ⟨m.sameR (m.part k),sameR_iff ok k,by rw [pp_canon ok k]⟩
theorem same_of_count (ok:m.Ok) {k:Nat} (h:(m.pp (k+1)).2=(m.pp k).2):∀s t,s<m.next.length→t<m.next.length→(m.eqv k s t↔m.eqv (k+1) s t):=by
 obtain ⟨E,hE,e1⟩:=pp_count ok k
 obtain ⟨E',hE',e2⟩:=pp_count ok (k+1)
 exact finer_same (m.eqv_eqv _ _) (m.eqv_eqv _ _) hE hE' (fun s t _ _=>m.eqv_mono k s t) (by rw [←e1,←e2,h])
theorem count_of_same (ok:m.Ok) {k:Nat} (h:∀s t,s<m.next.length→t<m.next.length→(m.eqv k s t↔m.eqv (k+1) s t)):(m.pp (k+1)).2=(m.pp k).2:=by
 obtain ⟨E,hE,e1⟩:=pp_count ok k
 obtain ⟨E',hE',e2⟩:=pp_count ok (k+1)
 rw [e1,e2]
 congr 1
 apply canon_congr
 intro s hs t ht
 rw [Bool.eq_iff_iff,hE s hs t ht,hE' s hs t ht]
 exact (h t s (by omega) hs).symm
theorem count_mono (ok:m.Ok) (k:Nat):(m.pp k).2≤(m.pp (k+1)).2:=by
 obtain ⟨E,hE,e1⟩:=pp_count ok k
 obtain ⟨E',hE',e2⟩:=pp_count ok (k+1)
 rw [e1,e2,canon_count,canon_count]
 have hsub:∀x∈List.range m.next.length,isFirst E x=true→isFirst E' x=true:=by
  intro x hx hf
  have hx':x<m.next.length:=by simpa using hx
  rw [isFirst_iff hE' hx']
  exact fun t ht hr=>(isFirst_iff hE hx').1 hf t ht (m.eqv_mono k t x hr)
 have hle:∀l:List Nat,(∀x∈l,isFirst E x=true→isFirst E' x=true)→(l.filter (isFirst E)).length≤(l.filter (isFirst E')).length:=by
  intro l h
  induction l with
  |nil=>simp
  |cons y l ih=>
   have:=ih (fun z hz=>h z (by simp [hz]))
   by_cases hp:isFirst E y=true
   ·simp [hp,h y (by simp) hp];exact this
   by_cases hq:isFirst E' y=true
   ·simp [hp,hq];omega
   simp [hp,hq];exact this
 have:=hle _ hsub
 omega
theorem count_le (ok:m.Ok) (k:Nat):(m.pp k).2≤m.next.length:=by
 obtain ⟨E,_,e1⟩:=pp_count ok k
 rw [e1]
 exact (canon_range E _).2.1
theorem Steps.classes (ok:m.Ok) {K d:Nat} (h:m.Steps K d):(m.pp d).1=m.part K:=by
 rw [pp_part ok d]
 rcases h.2.2 with e|e
 ·rw [e]
 exact part_eq ok (fun s t hs ht=>eqv_stable ok (same_of_count ok e) K h.1 s t hs ht)
theorem Steps.grow (ok:m.Ok) {K d:Nat} (h:m.Steps K d):∀j,j≤d→(j:Int)+1≤(m.pp j).2
 |0,_=>by simp [pp]
 |j+1,hj=>by
  have ih:=Steps.grow ok h j (by omega)
  have h1:=h.2.1 j (by omega)
  have h2:=count_mono ok j
  omega
theorem Steps.rest (ok:m.Ok) {K d:Nat} (h:m.Steps K d) (hK:m.next.length≤K+1):d<m.next.length∧∀j,d≤j→m.part j=m.part d:=by
 have h1:=h.grow ok d (Nat.le_refl _)
 have h2:=count_le ok d
 have hd:d<m.next.length:=by omega
 refine ⟨hd,fun j hj=> ?_⟩
 have e:(m.pp (d+1)).2=(m.pp d).2:=by
  rcases h.2.2 with e|e
  ·subst e
   have h3:=count_mono ok d
   have h4:=count_le ok (d+1)
   omega
  exact e
 exact (part_eq ok (fun s t hs ht=>eqv_stable ok (same_of_count ok e) j hj s t hs ht)).symm
theorem Steps.before (ok:m.Ok) {K d:Nat} (h:m.Steps K d) {j n:Nat} (hj:j<d) (hn:d≤n):m.part j≠m.part n:=by
 intro he
 refine h.2.1 j hj (count_of_same ok fun s t hs ht=>⟨fun hr=> ?_,m.eqv_mono j s t⟩)
 have h1:=(part_iff ok j s t hs ht).2 hr
 rw [he] at h1
 exact m.eqv_le ((part_iff ok n s t hs ht).1 h1) (by omega)
end Mach
namespace Mach
end Mach
structure Pl where
 s:Int
 t:Int
 word:List Int
 deriving DecidableEq
def known (l:List Pl) (s t:Int):Bool:=l.any fun q=>decide (q.s=s∧q.t=t)
theorem known_iff {l:List Pl} {s t:Int}:known l s t=true↔∃q∈l,q.s=s∧q.t=t:=by simp [known]
section
variable {a b:Mach} {p:Pl} {l l':List Pl} {x:Nat} {w:List Int}
end
section
variable {a b:Mach} {s t:Int} {p:Pl} {l l':List Pl} {i x:Nat} {w:List Int}
structure GoodP (a b:Mach) (l:List Pl):Prop where
 range:∀q∈l,0≤q.s∧q.s<a.next.length∧0≤q.t∧q.t<b.next.length
 nodup:(l.map fun q=>(q.s*(b.next.length:Int)+q.t:Int)).Nodup
 word:∀q∈l,q.word.length<l.length
theorem pair_inj {n s t s' t':Int} (h0:0≤t) (h1:t<n) (h0':0≤t') (h1':t'<n) (h:s*n+t=s'*n+t'):s=s'∧t=t':=by
 have e:(s-s')*n=t'-t:=by rw [Int.sub_mul];omega
 by_cases hs:s=s'
 ·subst hs;exact ⟨rfl,by omega⟩
 exfalso
 rcases Int.lt_or_gt_of_ne hs with h2|h2
 ·have:(s'-s)*n≥1*n:=Int.mul_le_mul_of_nonneg_right (by omega) (by omega)
  have e2:(s'-s)*n= -((s-s')*n):=by rw [←Int.neg_mul];congr 1;omega
  omega
 have:(s-s')*n≥1*n:=Int.mul_le_mul_of_nonneg_right (by omega) (by omega)
 omega
theorem GoodP.one (hs:0≤s∧s<a.next.length) (ht:0≤t∧t<b.next.length):GoodP a b [⟨s,t,[]⟩]:=
 ⟨fun q hq=>by simp at hq;subst hq;exact ⟨hs.1,hs.2,ht.1,ht.2⟩,by simp,fun q hq=>by simp at hq;subst hq;simp⟩
theorem GoodP.push (h:GoodP a b l) {q:Pl} (hs:0≤q.s∧q.s<a.next.length) (ht:0≤q.t∧q.t<b.next.length) (hk:known l q.s q.t=false) (hw:q.word.length≤l.length):GoodP a b (l++[q]):=by
 refine ⟨fun r hr=> ?_,?_,fun r hr=> ?_⟩
 ·rw [List.mem_append,List.mem_singleton] at hr
  rcases hr with hr|rfl
  ·exact h.range r hr
  exact ⟨hs.1,hs.2,ht.1,ht.2⟩
 ·rw [List.map_append,List.nodup_append]
  refine ⟨h.nodup,by simp,fun u hu v hv=> ?_⟩
  simp only [List.map_cons,List.map_nil,List.mem_singleton] at hv
  subst hv
  intro e
  obtain ⟨r,hr,rfl⟩:=List.mem_map.1 hu
  obtain ⟨h1,h2,h3,h4⟩:=h.range r hr
  obtain ⟨e1,e2⟩:=pair_inj h3 h4 ht.1 ht.2 e
  have:known l q.s q.t=true:=known_iff.2 ⟨r,hr,e1,e2⟩
  rw [hk] at this;cases this
 rw [List.length_append,List.length_singleton]
 rw [List.mem_append,List.mem_singleton] at hr
 rcases hr with hr|rfl
 ·have:=h.word r hr;omega
 omega
theorem GoodP.le (h:GoodP a b l):l.length≤a.next.length*b.next.length:=by
 have:=nodup_le (a.next.length*b.next.length) _ h.nodup (fun y hy=>by
  obtain ⟨q,hq,rfl⟩:=List.mem_map.1 hy
  obtain ⟨h1,h2,h3,h4⟩:=h.range q hq
  have h5:q.s*b.next.length≤(a.next.length-1:Int)*b.next.length:=Int.mul_le_mul_of_nonneg_right (by omega) (by omega)
  have h6:0≤q.s*(b.next.length:Int):=Int.mul_nonneg h1 (by omega)
  rw [Int.sub_mul,Int.one_mul] at h5
  refine ⟨by omega,?_⟩
  rw [Int.natCast_mul]
  omega)
 rwa [List.length_map] at this
end
end Go.Proofs.YtjmbphjgiodioaaGreatDoor
