/- Several texts, one behind the other. Conditions: as each of them says. -/
set_option maxRecDepth 100000
set_option maxHeartbeats 32000000
namespace Go.Proofs.YtjagagpcjpcjjaaGreat
structure Mach where
 inputs:Int
 start:Int
 next:List (List Int)
 out:List (List Int)
 deriving DecidableEq
namespace Mach
variable (m:Mach)
def nx (s a:Nat):Int:=((m.next.getD s []).getD a 0)
def ot (s a:Nat):Int:=((m.out.getD s []).getD a 0)
def badAt (s a:Nat):Prop:=m.nx s a<0∨(m.next.length:Int)≤m.nx s a∨m.ot s a<0∨1048576<m.ot s a
instance (s a:Nat):Decidable (m.badAt s a):=by unfold badAt;exact inferInstance
def rowLens (s:Nat):Prop:=((m.next.getD s []).length:Int)=m.inputs∧((m.out.getD s []).length:Int)=m.inputs
instance (s:Nat):Decidable (m.rowLens s):=by unfold rowLens;exact inferInstance
def rowErr (s:Nat):Int:=if ¬m.rowLens s then 1 else if ∃a,a<m.inputs.toNat∧m.badAt s a then 2 else 0
def rowsErr:Nat→Int
 |0=>0
 |k+1=>if rowsErr k=0 then m.rowErr k else rowsErr k
def err:Int:=
 if m.inputs<1∨64<m.inputs then 2
 else if m.next.length=0 then 19
 else if 128<m.next.length then 11
 else if m.start<0∨(m.next.length:Int)≤m.start then 2
 else if m.out.length≠m.next.length then 1
 else m.rowsErr m.next.length
theorem rowsErr_succ (k:Nat):m.rowsErr (k+1)=if m.rowsErr k=0 then m.rowErr k else m.rowsErr k:=rfl
theorem rowsErr_stop {k n:Nat} (hk:k≤n) (h:m.rowsErr k≠0):m.rowsErr n=m.rowsErr k:=by
 induction n with
 | zero => obtain rfl : k = 0 := by omega
           rfl
 |succ n ih=>
  by_cases e:k=n+1
  ·rw [e]
  have:=ih (by omega)
  rw [rowsErr_succ,this,if_neg h]
theorem rowsErr_zero {k n:Nat} (hk:k<n) (h:m.rowsErr n=0):m.rowErr k=0:=by
 induction n with
 |zero=>omega
 |succ n ih=>
  rw [rowsErr_succ] at h
  by_cases e:m.rowsErr n=0
  ·rw [if_pos e] at h
   by_cases e2:k=n
   ·rw [e2];exact h
   exact ih (by omega) e
  rw [if_neg e] at h;exact absurd h e
structure Ok:Prop where
 i0:1≤m.inputs
 i1:m.inputs≤64
 n0:0<m.next.length
 n1:m.next.length≤128
 s0:0≤m.start
 s1:m.start<m.next.length
 lo:m.out.length=m.next.length
 rn:∀s,s<m.next.length→((m.next.getD s []).length:Int)=m.inputs
 ro:∀s,s<m.next.length→((m.out.getD s []).length:Int)=m.inputs
 nx:∀s a,s<m.next.length→a<m.inputs.toNat→0≤m.nx s a∧m.nx s a<m.next.length
 ot:∀s a,s<m.next.length→a<m.inputs.toNat→0≤m.ot s a∧m.ot s a≤1048576
theorem ok_of_err (h:m.err=0):m.Ok:=by
 unfold err at h
 split at h
 ·simp at h
 rename_i h1
 split at h
 ·simp at h
 rename_i h2
 split at h
 ·simp at h
 rename_i h3
 split at h
 ·simp at h
 rename_i h4
 split at h
 ·simp at h
 rename_i h5
 have hr:∀s,s<m.next.length→m.rowLens s∧¬∃a,a<m.inputs.toNat∧m.badAt s a:=by
  intro s hs
  have:=m.rowsErr_zero hs h
  unfold rowErr at this
  split at this
  ·simp at this
  rename_i h6
  split at this
  ·simp at this
  rename_i h7;exact ⟨by simpa using h6,h7⟩
 refine ⟨by omega,by omega,by omega,by omega,by omega,by omega,by omega,fun s hs=>(hr s hs).1.1,fun s hs=>(hr s hs).1.2,fun s a hs ha=> ?_,fun s a hs ha=> ?_⟩
 all_goals
  have hb:¬m.badAt s a:=fun hb=>(hr s hs).2 ⟨a,ha,hb⟩
  unfold badAt at hb
  omega
theorem err_of_ok (h:m.Ok):m.err=0:=by
 unfold err
 rw [if_neg (by have:=h.i0;have:=h.i1;omega),if_neg (by have:=h.n0;omega),if_neg (by have:=h.n1;omega),if_neg (by have:=h.s0;have:=h.s1;omega),if_neg (by have:=h.lo;omega)]
 have:∀k,k≤m.next.length→m.rowsErr k=0:=by
  intro k
  induction k with
  |zero=>intro _;rfl
  |succ k ih=>
   intro hk
   have h0:m.rowErr k=0:=by
    unfold rowErr
    rw [if_neg (by simp only [Decidable.not_not];exact ⟨h.rn k (by omega),h.ro k (by omega)⟩),if_neg]
    rintro ⟨a,ha,hb⟩
    have h1:=h.nx k a (by omega) ha
    have h2:=h.ot k a (by omega) ha
    unfold badAt at hb
    omega
   rw [rowsErr_succ,ih (by omega),if_pos rfl,h0]
 exact this _ (Nat.le_refl _)
theorem head_cases:
    (m.inputs<1∧m.err=2)∨
    (1≤m.inputs∧64<m.inputs∧m.err=2)∨
    (1≤m.inputs∧m.inputs≤64∧((m.next.length:Int)==0)=true∧m.err=19)∨
    (1≤m.inputs∧m.inputs≤64∧((m.next.length:Int)==0)=false∧128<m.next.length∧m.err=11)∨
    (1≤m.inputs∧m.inputs≤64∧((m.next.length:Int)==0)=false∧m.next.length≤128∧m.start<0∧m.err=2)∨
    (1≤m.inputs∧m.inputs≤64∧((m.next.length:Int)==0)=false∧m.next.length≤128∧0≤m.start∧m.next.length≤m.start∧m.err=2)∨
    (1≤m.inputs∧m.inputs≤64∧((m.next.length:Int)==0)=false∧m.next.length≤128∧0≤m.start∧m.start<m.next.length∧((m.out.length:Int) !=(m.next.length:Int))=true∧m.err=1)∨
    (1≤m.inputs∧m.inputs≤64∧((m.next.length:Int)==0)=false∧m.next.length≤128∧0≤m.start∧m.start<m.next.length∧((m.out.length:Int) !=(m.next.length:Int))=false∧m.out.length=m.next.length∧m.err=m.rowsErr m.next.length):=by
 by_cases h1:m.inputs<1
 ·exact .inl ⟨h1,by unfold err;rw [if_pos (by omega)]⟩
 refine .inr ?_
 by_cases h2:64<m.inputs
 ·exact .inl ⟨by omega,h2,by unfold err;rw [if_pos (by omega)]⟩
 refine .inr ?_
 by_cases h3:m.next.length=0
 ·exact .inl ⟨by omega,by omega,by simp [h3],by unfold err;rw [if_neg (by omega),if_pos h3]⟩
 refine .inr ?_
 have h3':((m.next.length:Int)==0)=false:=beq_eq_false_iff_ne.2 (by omega)
 by_cases h4:128<m.next.length
 ·exact .inl ⟨by omega,by omega,h3',h4,by unfold err;rw [if_neg (by omega),if_neg h3,if_pos h4]⟩
 refine .inr ?_
 by_cases h5:m.start<0
 ·exact .inl ⟨by omega,by omega,h3',by omega,h5,by unfold err;rw [if_neg (by omega),if_neg h3,if_neg h4,if_pos (by omega)]⟩
 refine .inr ?_
 by_cases h6:(m.next.length:Int)≤m.start
 ·exact .inl ⟨by omega,by omega,h3',by omega,by omega,h6,by unfold err;rw [if_neg (by omega),if_neg h3,if_neg h4,if_pos (by omega)]⟩
 refine .inr ?_
 by_cases h7:m.out.length=m.next.length
 ·exact .inr ⟨by omega,by omega,h3',by omega,by omega,by omega,by simp [h7],h7,by unfold err;rw [if_neg (by omega),if_neg h3,if_neg h4,if_neg (by omega),if_neg (by omega)]⟩
 exact .inl ⟨by omega,by omega,h3',by omega,by omega,by omega,by simp;omega,by unfold err;rw [if_neg (by omega),if_neg h3,if_neg h4,if_neg (by omega),if_pos h7]⟩
end Mach
theorem getD_of_some {α:Type} {l:List α} {j:Nat} {x d:α} (h:l[j]? =some x):l.getD j d=x:=by simp [List.getD,h]
namespace Mach
variable (m:Mach)
def outsW:Int→List Int→List Int
 |_,[]=>[]
 |s,x::w=>m.ot s.toNat x.toNat::outsW (m.nx s.toNat x.toNat) w
def endW:Int→List Int→Int
 |s,[]=>s
 |s,x::w=>endW (m.nx s.toNat x.toNat) w
theorem outsW_len:∀(w:List Int) (s:Int),(m.outsW s w).length=w.length
 |[],_=>rfl
 |x::w,s=>by simp [outsW,outsW_len w]
theorem endW_app:∀(w v:List Int) (s:Int),m.endW s (w++v)=m.endW (m.endW s w) v
 |[],_,_=>rfl
 |x::w,v,s=>by simp [endW,endW_app w]
theorem outsW_app:∀(w v:List Int) (s:Int),m.outsW s (w++v)=m.outsW s w++m.outsW (m.endW s w) v
 |[],_,_=>rfl
 |x::w,v,s=>by simp [outsW,endW,outsW_app w]
theorem endW_snoc (w:List Int) (x s:Int):m.endW s (w++[x])=m.nx (m.endW s w).toNat x.toNat:=by rw [endW_app];rfl
theorem outsW_snoc (w:List Int) (x s:Int):m.outsW s (w++[x])=m.outsW s w++[m.ot (m.endW s w).toNat x.toNat]:=by rw [outsW_app];rfl
def okS (w:List Int):Prop:=∀x∈w,0≤x∧x<m.inputs
variable {m}
theorem okS_cons {x:Int} {w:List Int} (h:m.okS (x::w)):(0≤x∧x<m.inputs)∧m.okS w:=⟨h x (by simp),fun y hy=>h y (by simp [hy])⟩
theorem okS_app {v w:List Int} (h:m.okS (v++w)):m.okS v∧m.okS w:=⟨fun y hy=>h y (by simp [hy]),fun y hy=>h y (by simp [hy])⟩
theorem okS_take {w:List Int} (h:m.okS w) (k:Nat):m.okS (w.take k):=fun y hy=>h y (List.mem_of_mem_take hy)
theorem endW_range (ok:m.Ok):∀(w:List Int) (s:Int),0≤s→s<m.next.length→m.okS w→0≤m.endW s w∧m.endW s w<m.next.length
 |[],s,h0,h1,_=>⟨h0,h1⟩
 |x::w,s,h0,h1,h=>by
  obtain ⟨⟨x0,x1⟩,hw⟩:=okS_cons h
  have:=ok.nx s.toNat x.toNat (by omega) (by omega)
  exact endW_range ok w _ this.1 this.2 hw
theorem take_step {w:List Int} {k:Nat} {x:Int} (h:w[k]? =some x):w.take (k+1)=w.take k++[x]:=by rw [List.take_add_one,h];rfl
end Mach
def visit:List Int→List Int→List Int
 |l,[]=>l
 |l,t::r=>visit (if t∈l then l else l++[t]) r
theorem visit_append (l:List Int):∀(r r':List Int),visit l (r++r')=visit (visit l r) r':=by
 intro r
 induction r generalizing l with
 |nil=>intro _;rfl
 |cons t r ih=>intro r';exact ih _ r'
theorem visit_snoc (l:List Int) (r:List Int) (t:Int):visit l (r++[t])=if t∈visit l r then visit l r else visit l r++[t]:=by
 rw [visit_append];rfl
theorem visit_prefix:∀(r l:List Int),∃s,visit l r=l++s
 |[],l=>⟨[],by simp [visit]⟩
 |t::r,l=>by
  obtain ⟨s,hs⟩:=visit_prefix r (if t∈l then l else l++[t])
  simp only [visit,hs]
  by_cases h:t∈l
  ·exact ⟨s,by rw [if_pos h]⟩
  exact ⟨[t]++s,by rw [if_neg h,List.append_assoc]⟩
theorem visit_mem:∀(r l:List Int) (x:Int),x∈visit l r↔x∈l∨x∈r
 |[],l,x=>by simp [visit]
 |t::r,l,x=>by
  rw [visit,visit_mem r]
  by_cases h:t∈l
  ·rw [if_pos h]
   constructor
   ·rintro (h1|h1)
    ·exact .inl h1
    exact .inr (by simp [h1])
   rintro (h1|h1)
   ·exact .inl h1
   rcases List.mem_cons.1 h1 with rfl|h2
   ·exact .inl h
   exact .inr h2
  rw [if_neg h]
  simp only [List.mem_append,List.mem_cons,List.not_mem_nil,or_false]
  constructor
  ·rintro ((h1|h1)|h1)
   ·exact .inl h1
   ·exact .inr (.inl h1)
   exact .inr (.inr h1)
  rintro (h1|h1|h1)
  ·exact .inl (.inl h1)
  ·exact .inl (.inr h1)
  exact .inr h1
theorem visit_nodup:∀(r l:List Int),l.Nodup→(visit l r).Nodup
 |[],l,h=>h
 |t::r,l,h=>by
  rw [visit]
  apply visit_nodup r
  by_cases e:t∈l
  ·rw [if_pos e];exact h
  rw [if_neg e]
  rw [List.nodup_append]
  exact ⟨h,by simp,fun a ha b hb=>by simp at hb;subst hb;exact fun e2=>e (e2▸ha)⟩
theorem nodup_le:∀(n:Nat) (l:List Int),l.Nodup→(∀x∈l,0≤x∧x<n)→l.length≤n
 |0,l,_,h=>by
  cases l with
  |nil=>simp
  |cons x l=>have:=h x (by simp);omega
 |n+1,l,hd,h=>by
  have h1:=nodup_le n (l.filter fun x=>decide (x≠(n:Int))) (hd.filter _) (fun x hx=>by
   have h2:=List.mem_filter.1 hx
   have h3:=h x h2.1
   have h4:x≠n:=by simpa using h2.2
   omega)
  have h2:l.length≤(l.filter fun x=>decide (x≠(n:Int))).length+1:=by
   clear h1 h
   induction l with
   |nil=>simp
   |cons y l ih=>
    have hd':=List.nodup_cons.1 hd
    by_cases e:y=n
    ·have : l.filter (fun x => decide (x ≠ (n : Int))) = l := by
       rw [List.filter_eq_self]
       intro a ha
       have:a≠y:=fun e2=>hd'.1 (e2▸ha)
       simpa [←e] using this
     simp [e]
     have h5:l.filter (fun x=> !decide (x=(n:Int)))=l:=by
      rw [List.filter_eq_self]
      intro a ha
      have:a≠y:=fun e2=>hd'.1 (e2▸ha)
      simpa [←e] using this
     rw [h5];omega
    have:=ih hd'.2
    simp [e] at this ⊢
    omega
  omega
namespace Mach
variable (m:Mach)
def bfs:Nat→List Int
 |0=>[m.start]
 |i+1=>if i<(bfs i).length then visit (bfs i) (m.next.getD ((bfs i).getD i 0).toNat []) else bfs i
theorem bfs_succ (i:Nat):m.bfs (i+1)=if i<(m.bfs i).length then visit (m.bfs i) (m.next.getD ((m.bfs i).getD i 0).toNat []) else m.bfs i:=rfl
def reach:List Int:=m.bfs m.next.length
def reachOf:List Int:=if m.err=0 then m.reach else []
variable {m}
theorem row_range (ok:m.Ok) {s:Nat} (hs:s<m.next.length) {x:Int} (hx:x∈m.next.getD s []):0≤x∧x<m.next.length:=by
 obtain ⟨a,ha,rfl⟩:=List.getElem_of_mem hx
 have h1:=ok.rn s hs
 have h2:=ok.nx s a hs (by omega)
 unfold nx at h2
 rw [List.getD_eq_getElem?_getD (l:=m.next.getD s []),List.getElem?_eq_getElem ha] at h2
 exact h2
theorem bfs_props (ok:m.Ok):∀i,(m.bfs i).Nodup∧(∀x∈m.bfs i,0≤x∧x<m.next.length)∧0<(m.bfs i).length
 |0=>⟨by simp [bfs],fun x hx=>by simp [bfs] at hx;subst hx;exact ⟨ok.s0,ok.s1⟩,by simp [bfs]⟩
 |i+1=>by
  obtain ⟨h1,h2,h3⟩:=bfs_props ok i
  rw [bfs_succ]
  by_cases h:i<(m.bfs i).length
  ·rw [if_pos h]
   have hm:(m.bfs i).getD i 0∈m.bfs i:=by
    rw [List.getD_eq_getElem?_getD,List.getElem?_eq_getElem h]
    exact List.getElem_mem h
   have h4:=h2 _ hm
   refine ⟨visit_nodup _ _ h1,fun x hx=> ?_,?_⟩
   ·rcases (visit_mem _ _ _).1 hx with h5|h5
    ·exact h2 x h5
    exact row_range ok (by omega) h5
   obtain ⟨s,hs⟩:=visit_prefix (m.next.getD ((m.bfs i).getD i 0).toNat []) (m.bfs i)
   rw [hs]
   simp;omega
  rw [if_neg h];exact ⟨h1,h2,h3⟩
theorem bfs_le (ok:m.Ok) (i:Nat):(m.bfs i).length≤m.next.length:=nodup_le _ _ (bfs_props ok i).1 (bfs_props ok i).2.1
theorem bfs_stop {i:Nat} (h:¬i<(m.bfs i).length):∀j,i≤j→m.bfs j=m.bfs i:=by
 intro j hj
 induction j with
 | zero => obtain rfl : i = 0 := by omega
           rfl
 |succ j ih=>
  by_cases e:i=j+1
  ·rw [e]
  have:=ih (by omega)
  rw [bfs_succ,this,if_neg (by omega)]
theorem reach_of_stop {i:Nat} (h:¬i<(m.bfs i).length) (hi:i≤m.next.length):m.reach=m.bfs i:=bfs_stop h _ hi
end Mach
abbrev M64:Nat:=18446744073709551616
def mixN (y:Nat):Nat:=((((y ^^^ y/1073741824)*13787848793156543929%M64) ^^^ ((y ^^^ y/1073741824)*13787848793156543929%M64)/134217728)*10723151780598845931%M64) ^^^
 (((((y ^^^ y/1073741824)*13787848793156543929%M64) ^^^ ((y ^^^ y/1073741824)*13787848793156543929%M64)/134217728)*10723151780598845931%M64)/2147483648)
def rndX (s:Nat):Nat:=(s+11400714819323198485)%M64
def stN (s i:Nat):Nat:=(s+i*11400714819323198485)%M64
theorem stN_0 {s:Nat} (h:s<M64):stN s 0=s:=by unfold stN;rw [Nat.zero_mul,Nat.add_zero];exact Nat.mod_eq_of_lt h
theorem stN_succ (s i:Nat):rndX (stN s i)=stN s (i+1):=by
 unfold rndX stN
 rw [Nat.mod_add_mod,Nat.succ_mul,Nat.add_assoc]
theorem stN_lt (s i:Nat):stN s i<M64:=Nat.mod_lt _ (by decide)
theorem xor_zero {x y:Nat} (h:x ^^^ y=0):x=y:=Nat.eq_of_testBit_eq fun i=>by
 have h1:(x ^^^ y).testBit i=false:=by rw [h];exact Nat.zero_testBit i
 rw [Nat.testBit_xor] at h1
 simpa using h1
theorem xsh_inj {k x y:Nat} (hk:1<2 ^ k) (h:x ^^^ x/2 ^ k=y ^^^ y/2 ^ k):x=y:=by
 have h1:(x ^^^ y)=(x ^^^ y)/2 ^ k:=by
  rw [←Nat.shiftRight_eq_div_pow,Nat.shiftRight_xor_distrib,Nat.shiftRight_eq_div_pow,Nat.shiftRight_eq_div_pow]
  have h2:(x ^^^ x/2 ^ k) ^^^ (y ^^^ y/2 ^ k)=0:=by rw [h,Nat.xor_self]
  have h3:(x ^^^ y) ^^^ (x/2 ^ k ^^^ y/2 ^ k)=0:=by
   rw [←h2,Nat.xor_assoc,Nat.xor_assoc]
   congr 1
   rw [←Nat.xor_assoc,←Nat.xor_assoc,Nat.xor_comm y]
  exact xor_zero h3
 by_cases e:x ^^^ y=0
 ·exact xor_zero e
 have:=Nat.div_lt_self (Nat.pos_of_ne_zero e) hk
 omega
theorem odd_inj {c d x y:Nat} (hcd:c*d%M64=1) (hx:x<M64) (hy:y<M64) (h:x*c%M64=y*c%M64):x=y:=by
 have e:∀z,z<M64→z*c%M64*d%M64=z:=fun z hz=>by
  rw [Nat.mod_mul_mod,Nat.mul_assoc,Nat.mul_mod,hcd,Nat.mul_one,Nat.mod_mod]
  exact Nat.mod_eq_of_lt hz
 rw [←e x hx,←e y hy,h]
theorem xsh_lt {x k:Nat} (h:x<M64):x ^^^ x/k<M64:=Nat.xor_lt_two_pow (n:=64) h (Nat.lt_of_le_of_lt (Nat.div_le_self _ _) h)
theorem mixN_lt (y:Nat):mixN y<M64:=xsh_lt (Nat.mod_lt _ (by decide))
theorem mixN_inj {x y:Nat} (hx:x<M64) (hy:y<M64) (h:mixN x=mixN y):x=y:=by
 unfold mixN at h
 have h1:=xsh_inj (k:=31) (by decide) h
 have h2:=odd_inj (d:=3573116690164977347) (by decide) (xsh_lt (Nat.mod_lt _ (by decide))) (xsh_lt (Nat.mod_lt _ (by decide))) h1
 have h3:=xsh_inj (k:=27) (by decide) h2
 have h4:=odd_inj (d:=10871156337175269513) (by decide) (xsh_lt hx) (xsh_lt hy) h3
 exact xsh_inj (k:=30) (by decide) h4
theorem mod_cancel {s x y:Nat} (h:(s+x)%18446744073709551616=(s+y)%18446744073709551616):x%18446744073709551616=y%18446744073709551616:=by omega
theorem stN_inj {s i j:Nat} (hi:i<M64) (hj:j<M64) (h:stN s i=stN s j):i=j:=by
 unfold stN at h
 have h1:i*11400714819323198485%M64=j*11400714819323198485%M64:=mod_cancel h
 exact odd_inj (d:=17428512612931826493) (by decide) hi hj h1
def outN (s i:Nat):Nat:=mixN (stN s (i+1))
def rej (k x:Nat):Bool:=decide (M64%k≠0∧M64-M64%k≤x)
theorem rej_few {s k i:Nat} (hk:0<k) (hk2:k<1000000) (h:∀j,j<i→rej k (outN s j)=true):i≤M64%k:=by
 have hr:M64%k<k:=Nat.mod_lt _ hk
 refine Classical.byContradiction fun hn=> ?_
 have h1:=nodup_le (M64%k) ((List.range (M64%k+1)).map fun j=>((outN s j:Nat):Int)-((M64-M64%k:Nat):Int)) ?_ ?_
 ·rw [List.length_map,List.length_range] at h1;omega
 ·refine List.Pairwise.map _ (fun a b hab=>hab) (List.Pairwise.imp_of_mem (R:=fun a b=>a≠b) (fun {a b} ha hb hne=> ?_) List.nodup_range)
  have ha:=List.mem_range.1 ha
  have hb:=List.mem_range.1 hb
  intro e
  have e2:outN s a=outN s b:=by omega
  have e3:=stN_inj (s:=s) (by unfold M64;omega) (by unfold M64;omega) (mixN_inj (stN_lt _ _) (stN_lt _ _) e2)
  exact hne (by omega)
 intro x hx
 obtain ⟨j,hj,rfl⟩:=List.mem_map.1 hx
 have hj:=List.mem_range.1 hj
 have h2:=of_decide_eq_true (h j (by omega))
 have h3:=mixN_lt (stN s (j+1))
 have h4:outN s j<M64:=h3
 omega
def drawF (k:Nat):Nat→Nat→Nat×Nat
 |0,s=>(0,s)
 |f+1,s=>if rej k (mixN (rndX s))=true then drawF k f (rndX s) else (mixN (rndX s)%k,rndX s)
def drawN (s k:Nat):Nat×Nat:=drawF k 1000000 s
theorem drawF_at {s k:Nat}:∀(i f:Nat),i<f→(∀j,j<i→rej k (outN s j)=true)→rej k (outN s i)=false→∀q,q≤i→drawF k (f-q) (stN s q)=(outN s i%k,stN s (i+1)):=by
 intro i f hf ha hb q hq
 obtain ⟨d,hd⟩:∃d,d=i-q:=⟨_,rfl⟩
 induction d generalizing q with
 |zero=>
  obtain rfl:q=i:=by omega
  obtain ⟨g,hg⟩:∃g,f-q=g+1:=⟨f-q-1,by omega⟩
  rw [hg]
  unfold drawF
  have hb':rej k (mixN (rndX (stN s q)))=false:=by rw [stN_succ];exact hb
  rw [hb',if_neg (by simp),stN_succ];rfl
 |succ d ih=>
  obtain ⟨g,hg⟩:∃g,f-q=g+1:=⟨f-q-1,by omega⟩
  rw [hg]
  unfold drawF
  have hb':rej k (mixN (rndX (stN s q)))=true:=by rw [stN_succ];exact ha q (by omega)
  rw [hb',if_pos rfl,stN_succ,show g=f-(q+1) by omega]
  exact ih (q+1) (by omega) (by omega)
theorem drawN_at {s k i:Nat} (hs:s<M64) (hk:0<k) (hk2:k<1000000) (ha:∀j,j<i→rej k (outN s j)=true) (hb:rej k (outN s i)=false):drawN s k=(outN s i%k,stN s (i+1)):=by
 have h1:=rej_few hk hk2 ha
 have h2:M64%k<k:=Nat.mod_lt _ hk
 have h3:=drawF_at (k:=k) (s:=s) i 1000000 (by omega) ha hb 0 (by omega)
 rw [stN_0 hs,Nat.sub_zero] at h3
 unfold drawN
 rw [h3]
def rwF (k:Nat):Nat→Nat→List Int→List Int×Nat
 |0,s,w=>(w,s)
 |n+1,s,w=>rwF k n (drawN s k).2 (w++[((drawN s k).1:Int)])
def rwN (s k n:Nat):List Int×Nat:=rwF k n s []
def rsF (k l:Nat):Nat→Nat→List (List Int)→List (List Int)
 |0,_,L=>L
 |n+1,s,L=>rsF k l n (rwN s k l).2 (L++[(rwN s k l).1])
def numOf (l:List Int) (x:Int):Int:=if x∈l then (l.idxOf x:Nat) else 0
theorem numOf_snoc_self {l:List Int} {x:Int} (h:x∉l):numOf (l++[x]) x=l.length:=by
 unfold numOf
 rw [if_pos (by simp),List.idxOf_append]
 simp [h]
theorem numOf_snoc_other {l:List Int} {x y:Int} (hne:y≠x):numOf (l++[x]) y=numOf l y:=by
 unfold numOf
 by_cases h:y∈l
 ·rw [if_pos (by simp [h]),if_pos h,List.idxOf_append,if_pos h]
 rw [if_neg (by simp [h,hne]),if_neg h]
namespace Mach
variable (m:Mach)
def trimRow (s:Int):List Int:=(m.next.getD s.toNat []).map (numOf m.reach)
def trim:Mach:={inputs:=m.inputs,start:=0,next:=m.reach.map m.trimRow,out:=m.reach.map fun s=>m.out.getD s.toNat []}
def nothing:Mach:={inputs:=0,start:=0,next:=[],out:=[]}
def trimOf:Mach:=if m.err=0 then m.trim else nothing
end Mach
structure Nums (n:Nat) (l:List Int) (num:List Int):Prop where
 len:num.length=n
 val:∀t,t<n→num[t]? =some (numOf l t)
theorem Nums.init {n:Nat} {num:List Int} (h:num=List.replicate n 0):Nums n [] num:=by
 subst h
 exact ⟨by simp,fun t ht=>by rw [List.getElem?_replicate,if_pos ht];simp [numOf]⟩
theorem Nums.push {n:Nat} {l num:List Int} (h:Nums n l num) {x:Nat} (hx:x<n) (hn:((x:Nat):Int)∉l):Nums n (l++[(x:Int)]) (num.set x l.length):=by
 refine ⟨by rw [List.length_set];exact h.len,fun t ht=> ?_⟩
 by_cases e:t=x
 ·subst e
  rw [List.getElem?_set_self (by rw [h.len];exact hx),numOf_snoc_self hn]
 rw [List.getElem?_set_ne (by omega),h.val t ht,numOf_snoc_other (by omega)]
theorem numOf_range {l:List Int} (x:Int) (hl:0<l.length):0≤numOf l x∧numOf l x<l.length:=by
 unfold numOf
 by_cases h:x∈l
 ·rw [if_pos h]
  have:=List.idxOf_lt_length_of_mem h
  omega
 rw [if_neg h];omega
namespace Mach
variable {m:Mach}
theorem reach_props (ok:m.Ok):m.reach.Nodup∧(∀x∈m.reach,0≤x∧x<m.next.length)∧0<m.reach.length:=bfs_props ok _
theorem reach_le (ok:m.Ok):m.reach.length≤m.next.length:=bfs_le ok _
theorem getD_map {α β:Type} (f:α→β) (l:List α) (d:β) {s:Nat} (hs:s<l.length):(l.map f).getD s d=f (l[s]):=by
 rw [List.getD_eq_getElem?_getD,List.getElem?_map,List.getElem?_eq_getElem hs];rfl
theorem trim_ok (ok:m.Ok):m.trim.Ok:=by
 obtain ⟨-,hr,hp⟩:=reach_props ok
 have hle:=reach_le ok
 have hl:m.trim.next.length=m.reach.length:=by simp [trim]
 have hlo:m.trim.out.length=m.reach.length:=by simp [trim]
 have hn:∀s (hs:s<m.reach.length),m.trim.next.getD s []=m.trimRow (m.reach[s]):=fun s hs=>getD_map _ _ _ hs
 have ho:∀s (hs:s<m.reach.length),m.trim.out.getD s []=m.out.getD (m.reach[s]).toNat []:=fun s hs=>getD_map (fun s:Int=>m.out.getD s.toNat []) _ _ hs
 have ht:∀s (hs:s<m.reach.length),(m.reach[s]).toNat<m.next.length:=fun s hs=>by have:=hr _ (List.getElem_mem hs);omega
 have hlen:∀s (hs:s<m.reach.length),(m.trimRow (m.reach[s])).length=m.inputs.toNat:=fun s hs=>by
  have:=ok.rn _ (ht s hs)
  unfold trimRow;rw [List.length_map];omega
 have hn1:=ok.n1
 refine ⟨ok.i0,ok.i1,by omega,by omega,by simp [trim],by rw [hl];simp only [trim];omega,by omega,fun s hs=> ?_,fun s hs=> ?_,fun s a hs ha=> ?_,fun s a hs ha=> ?_⟩
 ·rw [hl] at hs
  rw [hn s hs,hlen s hs]
  have:=ok.i0
  show ((m.inputs.toNat:Nat):Int)=m.inputs
  omega
 ·rw [hl] at hs
  rw [ho s hs]
  exact ok.ro _ (ht s hs)
 ·rw [hl] at hs
  have ha':a<m.inputs.toNat:=ha
  unfold nx
  rw [hn s hs,List.getD_eq_getElem?_getD,List.getElem?_eq_getElem (by rw [hlen s hs];exact ha')]
  simp only [Option.getD_some]
  unfold trimRow
  rw [List.getElem_map,hl]
  exact numOf_range _ hp
 rw [hl] at hs
 unfold ot
 rw [ho s hs]
 exact ok.ot _ a (ht s hs) ha
theorem trimOf_err (h:m.err=0):m.trimOf.err=0:=by
 unfold trimOf
 rw [if_pos h]
 exact err_of_ok _ (trim_ok (ok_of_err _ h))
end Mach
theorem getElem?_map_take {α β:Type} (f:α→β) (l:List α) {k:Nat} {x:α} (h:l[k]? =some x):(l.take (k+1)).map f=(l.take k).map f++[f x]:=by
 rw [List.take_add_one,h];simp
theorem take_notin {l:List Int} (hd:l.Nodup) {k:Nat} {x:Int} (h:l[k]? =some x):x∉l.take k:=by
 intro hm
 obtain ⟨j,hj,he⟩:=List.getElem_of_mem hm
 rw [List.getElem_take] at he
 have hk:k<l.length:=by
  by_cases e:k<l.length
  ·exact e
  rw [List.getElem?_eq_none (by omega)] at h;simp at h
 have h2:l[k]=x:=by rw [List.getElem?_eq_getElem hk] at h;simpa using h
 have hj2:j<k:=by rw [List.length_take] at hj;omega
 have:=List.nodup_iff_pairwise_ne.1 hd
 exact (List.pairwise_iff_getElem.1 this j k (by omega) hk hj2) (by rw [he,h2])
def look (E:Nat→Nat→Bool) (l:List Int) (s:Nat):Nat→Int
 |0=> -1
 |d+1=>if E (s-(d+1)) s then l.getD (s-(d+1)) 0 else look E l s d
def canon (E:Nat→Nat→Bool):Nat→List Int×Int
 |0=>([],0)
 |k+1=>let p:=canon E k
  if look E p.1 k k<0 then (p.1++[p.2],p.2+1) else (p.1++[look E p.1 k k],p.2)
theorem canon_length (E:Nat→Nat→Bool):∀k,(canon E k).1.length=k
 |0=>rfl
 |k+1=>by simp only [canon];split<;>simp [canon_length E k]
theorem canon_new (E:Nat→Nat→Bool) {k:Nat} (h:look E (canon E k).1 k k<0):canon E (k+1)=((canon E k).1++[(canon E k).2],(canon E k).2+1):=by
 simp only [canon,h,if_true]
theorem canon_old (E:Nat→Nat→Bool) {k:Nat} (h:¬look E (canon E k).1 k k<0):canon E (k+1)=((canon E k).1++[look E (canon E k).1 k k],(canon E k).2):=by
 simp only [canon,h,if_false]
theorem look_spec (E:Nat→Nat→Bool) (l:List Int) (s:Nat):∀d,d≤s→(look E l s d= -1∧∀t,s-d≤t→t<s→E t s=false)∨∃t,s-d≤t∧t<s∧E t s=true∧look E l s d=l.getD t 0∧∀t',s-d≤t'→t'<t→E t' s=false
 |0,_=> .inl ⟨rfl,fun t h1 h2=>by omega⟩
 |d+1,hd=>by
  by_cases e:E (s-(d+1)) s=true
  ·refine .inr ⟨s-(d+1),Nat.le_refl _,by omega,e,by simp only [look,e,if_true],fun t' h1 h2=>by omega⟩
  have e':E (s-(d+1)) s=false:=by simpa using e
  have hl:look E l s (d+1)=look E l s d:=by simp only [look,e',Bool.false_eq_true,if_false]
  rcases look_spec E l s d (by omega) with ⟨h1,h2⟩|⟨t,h1,h2,h3,h4,h5⟩
  ·refine .inl ⟨by rw [hl,h1],fun t ht1 ht2=> ?_⟩
   by_cases e2:t=s-(d+1)
   ·rw [e2];exact e'
   exact h2 t (by omega) ht2
  refine .inr ⟨t,by omega,h2,h3,by rw [hl,h4],fun t' ht1 ht2=> ?_⟩
  by_cases e2:t'=s-(d+1)
  ·rw [e2];exact e'
  exact h5 t' (by omega) ht2
theorem canon_succ (E:Nat→Nat→Bool) (k:Nat):canon E (k+1)=if look E (canon E k).1 k k<0 then ((canon E k).1++[(canon E k).2],(canon E k).2+1) else ((canon E k).1++[look E (canon E k).1 k k],(canon E k).2):=rfl
theorem canon_range (E:Nat→Nat→Bool):∀k,0≤(canon E k).2∧(canon E k).2≤k∧∀t,t<k→0≤(canon E k).1.getD t 0∧(canon E k).1.getD t 0<(canon E k).2
 |0=>⟨Int.le_refl _,Int.le_refl _,fun t h=>by omega⟩
 |k+1=>by
  obtain ⟨h0,h1,h2⟩:=canon_range E k
  have hlen:=canon_length E k
  by_cases hl:look E (canon E k).1 k k<0
  ·rw [canon_new E hl]
   refine ⟨by simp only;omega,by simp only;omega,fun t ht=> ?_⟩
   simp only
   by_cases e:t=k
   ·subst e
    have:((canon E t).1++[(canon E t).2]).getD t 0=(canon E t).2:=by
     rw [List.getD_eq_getElem?_getD,List.getElem?_append_right (by omega),hlen];simp
    rw [this];omega
   have : ((canon E k).1 ++ [(canon E k).2]).getD t 0 = (canon E k).1.getD t 0 := by
    rw [List.getD_eq_getElem?_getD,List.getElem?_append_left (by omega),←List.getD_eq_getElem?_getD]
   rw [this]
   have:=h2 t (by omega)
   omega
  rw [canon_old E hl]
  refine ⟨h0,by simp only;omega,fun t ht=> ?_⟩
  simp only
  by_cases e:t=k
  ·subst e
   have:((canon E t).1++[look E (canon E t).1 t t]).getD t 0=look E (canon E t).1 t t:=by
    rw [List.getD_eq_getElem?_getD,List.getElem?_append_right (by omega),hlen];simp
   rw [this]
   rcases look_spec E (canon E t).1 t t (Nat.le_refl _) with ⟨h3,_⟩|⟨t',_,h4,_,h5,_⟩
   ·omega
   rw [h5];exact h2 t' h4
  have : ((canon E k).1 ++ [look E (canon E k).1 k k]).getD t 0 = (canon E k).1.getD t 0 := by
   rw [List.getD_eq_getElem?_getD,List.getElem?_append_left (by omega),←List.getD_eq_getElem?_getD]
  rw [this]
  exact h2 t (by omega)
namespace Mach
variable (m:Mach)
def sameTo (cls:List Int) (t s:Nat) (k:Nat):Prop:=cls.getD s 0=cls.getD t 0∧∀a,a<k→m.ot s a=m.ot t a∧cls.getD (m.nx s a).toNat 0=cls.getD (m.nx t a).toNat 0
instance (cls:List Int) (t s k:Nat):Decidable (m.sameTo cls t s k):=by unfold sameTo;exact inferInstance
def sameR (cls:List Int) (t s:Nat):Bool:=decide (m.sameTo cls t s m.inputs.toNat)
def sameP (cls:List Int) (t s:Nat):Bool:=decide (∀a,a<m.inputs.toNat→m.ot s a=m.ot t a∧cls.getD (m.nx s a).toNat 0=cls.getD (m.nx t a).toNat 0)
def part:Nat→List Int
 |0=>List.replicate m.next.length 0
 |k+1=>(canon (m.sameR (part k)) m.next.length).1
theorem part_succ (k:Nat):m.part (k+1)=(canon (m.sameR (m.part k)) m.next.length).1:=rfl
theorem part_length (k:Nat):(m.part k).length=m.next.length:=by
 cases k with
 |zero=>simp [part]
 |succ k=>rw [part_succ,canon_length]
def partOf (k:Int):List Int:=if m.err=0 then m.part (min k.toNat m.next.length) else []
end Mach
namespace Mach
variable (m:Mach)
def psigTo (cls:List Int) (s k:Nat):List Int:=
 (List.range 128).map fun i=>if i<64 then (if i<k then m.ot s i else 0) else (if i-64<k then cls.getD (m.nx s (i-64)).toNat 0 else 0)
def psig (cls:List Int) (s:Nat):List Int:=m.psigTo cls s m.inputs.toNat
theorem psigTo_length (cls:List Int) (s k:Nat):(m.psigTo cls s k).length=128:=by simp [psigTo]
theorem psigTo_get (cls:List Int) (s k:Nat) {i:Nat} (hi:i<128):(m.psigTo cls s k)[i]? =some (if i<64 then (if i<k then m.ot s i else 0) else (if i-64<k then cls.getD (m.nx s (i-64)).toNat 0 else 0)):=by
 simp only [psigTo,List.getElem?_map,List.getElem?_range hi,Option.map_some]
theorem psigTo_zero (cls:List Int) (s:Nat):m.psigTo cls s 0=List.replicate 128 0:=by
 apply List.ext_getElem?
 intro i
 by_cases hi:i<128
 ·rw [psigTo_get m cls s 0 hi,List.getElem?_replicate,if_pos hi,if_neg (Nat.not_lt_zero _),if_neg (Nat.not_lt_zero _),ite_self]
 rw [List.getElem?_eq_none (by rw [psigTo_length];omega),List.getElem?_eq_none (by rw [List.length_replicate];omega)]
theorem psigTo_succ (cls:List Int) (s:Nat) {k:Nat} (hk:k<64):
    m.psigTo cls s (k+1)=((m.psigTo cls s k).set k (m.ot s k)).set (64+k) (cls.getD (m.nx s k).toNat 0):=by
 apply List.ext_getElem?
 intro i
 by_cases hi:i<128
 ·rw [psigTo_get m cls s (k+1) hi]
  by_cases e1:i=64+k
  ·subst e1
   rw [List.getElem?_set_self (by simp [psigTo_length];omega),if_neg (by omega),if_pos (by omega)]
   simp
  rw [List.getElem?_set_ne (by omega)]
  by_cases e2:i=k
  ·subst e2
   rw [List.getElem?_set_self (by rw [psigTo_length];omega),if_pos hk,if_pos (by omega)]
  rw [List.getElem?_set_ne (by omega),psigTo_get m cls s k hi]
  congr 1
  by_cases h64:i<64
  ·rw [if_pos h64,if_pos h64]
   by_cases h:i<k
   ·rw [if_pos h,if_pos (by omega)]
   rw [if_neg h,if_neg (by omega)]
  rw [if_neg h64,if_neg h64]
  by_cases h:i-64<k
  ·rw [if_pos h,if_pos (by omega)]
  rw [if_neg h,if_neg (by omega)]
 rw [List.getElem?_eq_none (by rw [psigTo_length];omega),List.getElem?_eq_none (by simp [psigTo_length];omega)]
theorem psig_eq_iff (cls:List Int) (s t:Nat) (h64:m.inputs≤64):m.psig cls t=m.psig cls s↔m.sameP cls t s=true:=by
 unfold sameP psig
 rw [decide_eq_true_iff]
 constructor
 ·intro h a ha
  have h1:=congrArg (fun l=>l[a]?) h
  have h2:=congrArg (fun l=>l[64+a]?) h
  simp only [psigTo_get m cls _ _ (show a<128 by omega),psigTo_get m cls _ _ (show 64+a<128 by omega),Option.some.injEq] at h1 h2
  rw [if_pos (by omega),if_pos ha,if_pos (by omega),if_pos ha] at h1
  rw [if_neg (by omega),if_pos (by omega),if_neg (by omega),if_pos (by omega),Nat.add_sub_cancel_left] at h2
  exact ⟨h1.symm,h2.symm⟩
 intro h
 unfold psigTo
 apply List.map_congr_left
 intro i _
 by_cases h64:i<64
 ·rw [if_pos h64,if_pos h64]
  by_cases hk:i<m.inputs.toNat
  ·rw [if_pos hk,if_pos hk,(h i hk).1]
  rw [if_neg hk,if_neg hk]
 rw [if_neg h64,if_neg h64]
 by_cases hk:i-64<m.inputs.toNat
 ·rw [if_pos hk,if_pos hk,(h _ hk).2]
 rw [if_neg hk,if_neg hk]
end Mach
structure SigMap (N:Nat) (g:Nat→List Int) (lst:List Int) (k:Nat) (f:List Int→Option Int):Prop where
 hit:∀t,t<k→f (g t)=some (lst.getD t 0)
 miss:∀s,s<N→(∀t,t<k→g t≠g s)→f (g s)=none
theorem SigMap.look {N:Nat} {g:Nat→List Int} {E:Nat→Nat→Bool} {k:Nat} {f:List Int→Option Int} (hg:∀t s,g t=g s↔E t s=true) (h:SigMap N g (canon E k).1 k f) (hk:k<N):
    (f (g k)=none∧look E (canon E k).1 k k<0)∨∃v,f (g k)=some v∧0≤v∧look E (canon E k).1 k k=v:=by
 rcases look_spec E (canon E k).1 k k (Nat.le_refl _) with ⟨h1,h2⟩|⟨t,_,h2,h3,h4,_⟩
 ·refine .inl ⟨h.miss k hk fun t ht he=> ?_,by omega⟩
  have:=h2 t (by omega) ht
  rw [(hg t k).1 he] at this
  cases this
 refine .inr ⟨(canon E k).1.getD t 0,?_,((canon_range E k).2.2 t h2).1,h4⟩
 rw [←(hg t k).2 h3]
 exact h.hit t h2
theorem getD_snoc_lt {l:List Int} {x:Int} {t:Nat} (h:t<l.length):(l++[x]).getD t 0=l.getD t 0:=by
 rw [List.getD_eq_getElem?_getD,List.getElem?_append_left h,←List.getD_eq_getElem?_getD]
theorem getD_snoc_self {l:List Int} {x:Int} {t:Nat} (h:t=l.length):(l++[x]).getD t 0=x:=by
 rw [List.getD_eq_getElem?_getD,List.getElem?_append_right (by omega),h];simp
theorem SigMap.old {N:Nat} {g:Nat→List Int} {lst:List Int} {k:Nat} {f:List Int→Option Int} (h:SigMap N g lst k f) (hl:lst.length=k) {v:Int} (hf:f (g k)=some v):SigMap N g (lst++[v]) (k+1) f:=by
 refine ⟨fun t ht=> ?_,fun s hN hs=>h.miss s hN fun t ht=>hs t (by omega)⟩
 by_cases e:t=k
 ·rw [e,getD_snoc_self hl.symm,hf]
 rw [getD_snoc_lt (by omega)];exact h.hit t (by omega)
theorem SigMap.new {N:Nat} {g:Nat→List Int} {lst:List Int} {k:Nat} {f f':List Int→Option Int} (h:SigMap N g lst k f) (hl:lst.length=k) (hk:k<N) (hf:f (g k)=none) {v:Int} (h1:f' (g k)=some v) (h2:∀s,s<N→g s≠g k→f' (g s)=f (g s)):
    SigMap N g (lst++[v]) (k+1) f':=by
 refine ⟨fun t ht=> ?_,fun s hN hs=> ?_⟩
 ·by_cases e:t=k
  ·rw [e,getD_snoc_self hl.symm,h1]
  have hne : g t ≠ g k := by
   intro e2
   have:=h.hit t (by omega)
   rw [e2,hf] at this
   cases this
  rw [getD_snoc_lt (by omega),h2 t (by omega) hne]
  exact h.hit t (by omega)
 rw [h2 s hN (fun e=>hs k (by omega) e.symm)]
 exact h.miss s hN fun t ht=>hs t (by omega)
theorem look_congr {E E':Nat→Nat→Bool} {l:List Int} {s:Nat} (h:∀t,t<s→E t s=E' t s):∀d,d≤s→look E l s d=look E' l s d
 |0,_=>rfl
 |d+1,hd=>by simp only [look,h (s-(d+1)) (by omega),look_congr h d (by omega)]
theorem canon_congr {E E':Nat→Nat→Bool}:∀n,(∀s,s<n→∀t,t<s→E t s=E' t s)→canon E n=canon E' n
 |0,_=>rfl
 |n+1,h=>by
  have ih:=canon_congr n (fun s hs t ht=>h s (by omega) t ht)
  rw [canon_succ,canon_succ,ih,look_congr (h n (by omega)) n (Nat.le_refl _)]
structure Eqv (n:Nat) (R:Nat→Nat→Prop):Prop where
 refl:∀s,s<n→R s s
 symm:∀s t,s<n→t<n→R s t→R t s
 trans:∀s t u,s<n→t<n→u<n→R s t→R t u→R s u
theorem canon_getD_lt (E:Nat→Nat→Bool) {k s:Nat} (h:s<k):(canon E (k+1)).1.getD s 0=(canon E k).1.getD s 0:=by
 have hl:=canon_length E k
 rw [canon_succ]
 split
 ·simp only;rw [List.getD_eq_getElem?_getD,List.getElem?_append_left (by omega),←List.getD_eq_getElem?_getD]
 simp only;rw [List.getD_eq_getElem?_getD,List.getElem?_append_left (by omega),←List.getD_eq_getElem?_getD]
theorem canon_getD_self (E:Nat→Nat→Bool) (k:Nat):(canon E (k+1)).1.getD k 0=if look E (canon E k).1 k k<0 then (canon E k).2 else look E (canon E k).1 k k:=by
 have hl:=canon_length E k
 rw [canon_succ]
 split
 ·simp only;rw [List.getD_eq_getElem?_getD,List.getElem?_append_right (by omega),hl];simp
 simp only;rw [List.getD_eq_getElem?_getD,List.getElem?_append_right (by omega),hl];simp
theorem canon_eq_iff {R:Nat→Nat→Prop} {E:Nat→Nat→Bool}:∀n,Eqv n R→(∀s,s<n→∀t,t<s→(E t s=true↔R t s))→
    ∀s t,s<n→t<n→((canon E n).1.getD s 0=(canon E n).1.getD t 0↔R s t)
 |0,_,_=>fun s t hs=>by omega
 |n+1,hR,hE=>by
  have hR':Eqv n R:=⟨fun s hs=>hR.refl s (by omega),fun s t hs ht=>hR.symm s t (by omega) (by omega),fun s t u hs ht hu=>hR.trans s t u (by omega) (by omega) (by omega)⟩
  have ih:=canon_eq_iff n hR' (fun s hs t ht=>hE s (by omega) t ht)
  have hrange:=canon_range E n
  have key:∀t,t<n→((canon E (n+1)).1.getD n 0=(canon E n).1.getD t 0↔R n t):=by
   intro t ht
   rw [canon_getD_self]
   rcases look_spec E (canon E n).1 n n (Nat.le_refl _) with ⟨h1,h2⟩|⟨t0,_,h2,h3,h4,_⟩
   ·rw [if_pos (by omega)]
    constructor
    ·intro h;have:=(hrange.2.2 t ht).2;omega
    intro h
    have h5:=h2 t (by omega) ht
    have h6:=(hE n (by omega) t ht).2 (hR.symm _ _ (by omega) (by omega) h)
    rw [h5] at h6;cases h6
   have h0:=hrange.2.2 t0 h2
   rw [if_neg (by omega),h4,ih t0 t h2 ht]
   have h5:=(hE n (by omega) t0 h2).1 h3
   constructor
   ·intro h;exact hR.trans _ _ _ (by omega) (by omega) (by omega) (hR.symm _ _ (by omega) (by omega) h5) h
   intro h;exact hR.trans _ _ _ (by omega) (by omega) (by omega) h5 h
  intro s t hs ht
  by_cases e1:s=n
  ·by_cases e2:t=n
   ·subst e1;subst e2;exact ⟨fun _=>hR.refl _ (by omega),fun _=>rfl⟩
   subst e1;rw [canon_getD_lt E (show t<s by omega)];exact key t (by omega)
  by_cases e2:t=n
  ·subst e2
   rw [canon_getD_lt E (show s<t by omega)]
   constructor
   ·intro h;exact hR.symm _ _ (by omega) (by omega) ((key s (by omega)).1 h.symm)
   intro h;exact ((key s (by omega)).2 (hR.symm _ _ (by omega) (by omega) h)).symm
  rw [canon_getD_lt E (show s<n by omega),canon_getD_lt E (show t<n by omega)]
  exact ih s t (by omega) (by omega)
def isFirst (E:Nat→Nat→Bool) (s:Nat):Bool:=(List.range s).all fun t=> !E t s
theorem canon_count (E:Nat→Nat→Bool):∀n,(canon E n).2=((List.range n).filter (isFirst E)).length
 |0=>rfl
 |n+1=>by
  have ih:=canon_count E n
  have hrange:=canon_range E n
  rw [List.range_succ,List.filter_append,List.length_append,canon_succ]
  rcases look_spec E (canon E n).1 n n (Nat.le_refl _) with ⟨h1,h2⟩|⟨t0,_,h2,h3,h4,_⟩
  ·rw [if_pos (by omega)]
   have:isFirst E n=true:=by
    unfold isFirst
    rw [List.all_eq_true]
    intro t ht
    have:=h2 t (by omega) (by simpa using ht)
    simp [this]
   simp [this,ih]
  have h0:=hrange.2.2 t0 h2
  rw [if_neg (by omega)]
  have:isFirst E n=false:=by
   unfold isFirst
   rw [List.all_eq_false]
   exact ⟨t0,by simpa using h2,by simp [h3]⟩
  simp [this,ih]
theorem filter_same {α:Type} {p q:α→Bool}:∀l:List α,(∀x∈l,p x=true→q x=true)→(l.filter p).length=(l.filter q).length→∀x∈l,p x=q x
 |[],_,_=>by simp
 |x::l,h,hl=>by
  have hle:∀l:List α,(∀x∈l,p x=true→q x=true)→(l.filter p).length≤(l.filter q).length:=by
   intro l h
   induction l with
   |nil=>simp
   |cons y l ih=>
    have:=ih (fun z hz=>h z (by simp [hz]))
    by_cases hp:p y=true
    ·simp [hp,h y (by simp) hp];exact this
    by_cases hq:q y=true
    ·simp [hp,hq];omega
    simp [hp,hq];exact this
  have h1:=hle l (fun z hz=>h z (by simp [hz]))
  have hxl:(l.filter p).length=(l.filter q).length∧p x=q x:=by
   by_cases hp:p x=true
   ·have hq:=h x (by simp) hp
    simp [hp,hq] at hl
    exact ⟨hl,by rw [hp,hq]⟩
   by_cases hq:q x=true
   ·simp [hp,hq] at hl;omega
   simp [hp,hq] at hl;exact ⟨hl,by simp [hp,hq]⟩
  intro y hy
  rcases List.mem_cons.1 hy with rfl|hy
  ·exact hxl.2
  exact filter_same l (fun z hz=>h z (by simp [hz])) hxl.1 y hy
theorem isFirst_iff {n:Nat} {R:Nat→Nat→Prop} {E:Nat→Nat→Bool} (hE:∀s,s<n→∀t,t<s→(E t s=true↔R t s)) {s:Nat} (hs:s<n):isFirst E s=true↔∀t,t<s→¬R t s:=by
 unfold isFirst
 rw [List.all_eq_true]
 constructor
 ·intro h t ht hr
  have:=h t (by simpa using ht)
  rw [(hE s hs t ht).2 hr] at this
  simp at this
 intro h t ht
 have ht':t<s:=by simpa using ht
 have:=h t ht'
 rw [←hE s hs t ht'] at this
 simpa using this
theorem first_of {n:Nat} {R:Nat→Nat→Prop} (hR:Eqv n R):∀s,s<n→∃t,t≤s∧R t s∧∀u,u<t→¬R u t:=by
 intro s
 induction s using Nat.strongRecOn with
 |ind s ih=>
  intro hs
  by_cases h:∃u,u<s∧R u s
  ·obtain ⟨u,hu,hr⟩:=h
   obtain ⟨t,ht,h1,h2⟩:=ih u hu (by omega)
   exact ⟨t,by omega,hR.trans _ _ _ (by omega) (by omega) hs h1 hr,h2⟩
  exact ⟨s,Nat.le_refl _,hR.refl s hs,fun u hu hr=>h ⟨u,hu,hr⟩⟩
theorem finer_same {n:Nat} {R R':Nat→Nat→Prop} {E E':Nat→Nat→Bool} (hR:Eqv n R) (hR':Eqv n R') (hE:∀s,s<n→∀t,t<s→(E t s=true↔R t s)) (hE':∀s,s<n→∀t,t<s→(E' t s=true↔R' t s))
    (hsub:∀s t,s<n→t<n→R' s t→R s t) (hc:(canon E n).2=(canon E' n).2):∀s t,s<n→t<n→(R s t↔R' s t):=by
 have hfirst:∀s,s<n→(isFirst E s=isFirst E' s):=by
  intro s hs
  rw [canon_count,canon_count] at hc
  refine filter_same (List.range n) ?_ (by omega) s (by simpa using hs)
  intro x hx hfx
  have hx':x<n:=by simpa using hx
  rw [isFirst_iff hE' hx']
  have:=(isFirst_iff hE hx').1 hfx
  exact fun t ht hr=>this t ht (hsub t x (by omega) hx' hr)
 intro s t hs ht
 refine ⟨fun h=> ?_,hsub s t hs ht⟩
 obtain ⟨s0,hs0,a1,a2⟩:=first_of hR' s hs
 obtain ⟨t0,ht0,b1,b2⟩:=first_of hR' t ht
 have f1:∀u,u<s0→¬R u s0:=(isFirst_iff hE (show s0<n by omega)).1 (by rw [hfirst s0 (by omega)];exact (isFirst_iff hE' (by omega)).2 a2)
 have f2:∀u,u<t0→¬R u t0:=(isFirst_iff hE (show t0<n by omega)).1 (by rw [hfirst t0 (by omega)];exact (isFirst_iff hE' (by omega)).2 b2)
 have c1:=hsub _ _ (by omega) hs a1
 have c2:=hsub _ _ (by omega) ht b1
 have c3:R s0 t0:=hR.trans _ _ _ (by omega) hs (by omega) c1 (hR.trans _ _ _ hs ht (by omega) h (hR.symm _ _ (by omega) ht c2))
 have e:s0=t0:=by
  rcases Nat.lt_trichotomy s0 t0 with h1|h1|h1
  ·exact absurd c3 (f2 _ h1)
  ·exact h1
  exact absurd (hR.symm _ _ (by omega) (by omega) c3) (f1 _ h1)
 subst e
 exact hR'.trans _ _ _ hs (by omega) ht (hR'.symm _ _ (by omega) hs a1) b1
namespace Mach
variable (m:Mach)
def eqv:Nat→Nat→Nat→Prop
 |0,_,_=>True
 |k+1,s,t=>∀a,a<m.inputs.toNat→m.ot s a=m.ot t a∧eqv k (m.nx s a).toNat (m.nx t a).toNat
theorem eqv_mono:∀k s t,m.eqv (k+1) s t→m.eqv k s t
 |0,_,_,_=>trivial
 |k+1,_,_,h=>fun a ha=>⟨(h a ha).1,eqv_mono k _ _ (h a ha).2⟩
theorem eqv_le {k j s t:Nat} (h:m.eqv k s t) (hj:j≤k):m.eqv j s t:=by
 induction k with
 | zero => obtain rfl : j = 0 := by omega
           exact h
 |succ k ih=>
  by_cases e:j=k+1
  ·rw [e];exact h
  exact ih (m.eqv_mono k s t h) (by omega)
theorem eqv_refl:∀k s,m.eqv k s s
 |0,_=>trivial
 |k+1,_=>fun _ _=>⟨rfl,eqv_refl k _⟩
theorem eqv_symm:∀k s t,m.eqv k s t→m.eqv k t s
 |0,_,_,_=>trivial
 |k+1,_,_,h=>fun a ha=>⟨(h a ha).1.symm,eqv_symm k _ _ (h a ha).2⟩
theorem eqv_trans:∀k s t u,m.eqv k s t→m.eqv k t u→m.eqv k s u
 |0,_,_,_,_,_=>trivial
 |k+1,_,_,_,h,h'=>fun a ha=>⟨(h a ha).1.trans (h' a ha).1,eqv_trans k _ _ _ (h a ha).2 (h' a ha).2⟩
theorem eqv_eqv (n k:Nat):Eqv n (fun t s=>m.eqv k t s):=⟨fun s _=>m.eqv_refl k s,fun s t _ _=>m.eqv_symm k s t,fun s t u _ _ _=>m.eqv_trans k s t u⟩
variable {m}
theorem nx_lt (ok:m.Ok) {s a:Nat} (hs:s<m.next.length) (ha:a<m.inputs.toNat):(m.nx s a).toNat<m.next.length:=by
 have:=ok.nx s a hs ha
 omega
theorem part_iff (ok:m.Ok):∀k s t,s<m.next.length→t<m.next.length→((m.part k).getD s 0=(m.part k).getD t 0↔m.eqv k s t)
 |0,s,t,hs,ht=>by simp [part,eqv,List.getD_eq_getElem?_getD,hs,ht]
 |k+1,s,t,hs,ht=>by
  rw [part_succ]
  refine canon_eq_iff (R:=fun t s=>m.eqv (k+1) t s) _ (m.eqv_eqv _ _) ?_ s t hs ht
  intro s hs t ht
  have ih:=part_iff ok k
  unfold sameR
  rw [decide_eq_true_iff]
  constructor
  ·intro h a ha
   refine ⟨(h.2 a ha).1.symm,?_⟩
   rw [←ih _ _ (nx_lt ok (by omega) ha) (nx_lt ok hs ha)]
   exact (h.2 a ha).2.symm
  intro h
  refine ⟨(ih _ _ hs (by omega)).2 (m.eqv_symm _ _ _ (m.eqv_mono _ _ _ h)),fun a ha=>⟨(h a ha).1.symm,?_⟩⟩
  rw [ih _ _ (nx_lt ok hs ha) (nx_lt ok (by omega) ha)]
  exact m.eqv_symm _ _ _ (h a ha).2
theorem sameR_iff (ok:m.Ok) (k:Nat):∀s,s<m.next.length→∀t,t<s→(m.sameR (m.part k) t s=true↔m.eqv (k+1) t s):=by
 intro s hs t ht
 have ih:=part_iff ok k
 unfold sameR
 rw [decide_eq_true_iff]
 constructor
 ·intro h a ha
  refine ⟨(h.2 a ha).1.symm,?_⟩
  rw [←ih _ _ (nx_lt ok (by omega) ha) (nx_lt ok hs ha)]
  exact (h.2 a ha).2.symm
 intro h
 refine ⟨(ih _ _ hs (by omega)).2 (m.eqv_symm _ _ _ (m.eqv_mono _ _ _ h)),fun a ha=>⟨(h a ha).1.symm,?_⟩⟩
 rw [ih _ _ (nx_lt ok hs ha) (nx_lt ok (by omega) ha)]
 exact m.eqv_symm _ _ _ (h a ha).2
theorem sameP_iff (ok:m.Ok) (k:Nat):∀s,s<m.next.length→∀t,t<s→(m.sameP (m.part k) t s=true↔m.eqv (k+1) t s):=by
 intro s hs t ht
 have ih:=part_iff ok k
 unfold sameP
 rw [decide_eq_true_iff]
 constructor
 ·intro h a ha
  refine ⟨(h a ha).1.symm,?_⟩
  rw [←ih _ _ (nx_lt ok (by omega) ha) (nx_lt ok hs ha)]
  exact (h a ha).2.symm
 intro h a ha
 refine ⟨(h a ha).1.symm,?_⟩
 rw [ih _ _ (nx_lt ok hs ha) (nx_lt ok (by omega) ha)]
 exact m.eqv_symm _ _ _ (h a ha).2
theorem eqv_stable (ok:m.Ok) {k:Nat} (h:∀s t,s<m.next.length→t<m.next.length→(m.eqv k s t↔m.eqv (k+1) s t)):
    ∀j,k≤j→∀s t,s<m.next.length→t<m.next.length→(m.eqv k s t↔m.eqv j s t):=by
 intro j hj
 induction j with
 | zero => intro s t _ _; obtain rfl : k = 0 := by omega
           exact Iff.rfl
 |succ j ih=>
  by_cases e:k=j+1
  ·intro s t _ _;rw [e]
  intro s t hs ht
  have ih':=ih (by omega)
  rw [h s t hs ht]
  constructor
  ·intro h1 a ha
   exact ⟨(h1 a ha).1,(ih' _ _ (nx_lt ok hs ha) (nx_lt ok ht ha)).1 (h1 a ha).2⟩
  intro h1 a ha
  exact ⟨(h1 a ha).1,(ih' _ _ (nx_lt ok hs ha) (nx_lt ok ht ha)).2 (h1 a ha).2⟩
theorem part_eq (ok:m.Ok) {k j:Nat} (h:∀s t,s<m.next.length→t<m.next.length→(m.eqv k s t↔m.eqv j s t)):m.part k=m.part j:=by
 classical
 have hc:∀k,m.part k=(canon (fun t s=>decide (m.eqv k t s)) m.next.length).1:=by
  intro k
  cases k with
  |zero=>
   have:∀n,canon (fun _ _=>true) (n+1)=(List.replicate (n+1) 0,1):=by
    intro n
    induction n with
    |zero=>simp [canon,look]
    |succ n ih=>
     have hl:look (fun _ _=>true) (List.replicate (n+1) 0) (n+1) (n+1)=0:=by
      rw [look]
      simp
     rw [canon_succ,ih]
     simp only [hl]
     rw [if_neg (by omega),List.replicate_succ' (n:=n+1)]
   obtain ⟨n,hn⟩:∃n,m.next.length=n+1:=⟨m.next.length-1,by have:=ok.n0;omega⟩
   have e2:(fun t s=>decide (m.eqv 0 t s))=(fun _ _:Nat=>true):=by funext t s;exact decide_eq_true trivial
   rw [e2,part,hn,this]
  |succ k=>
   rw [part_succ]
   congr 1
   apply canon_congr
   intro s hs t ht
   have:=sameR_iff ok k s hs t ht
   rw [Bool.eq_iff_iff,this,decide_eq_true_iff]
 rw [hc k,hc j]
 congr 1
 apply canon_congr
 intro s hs t ht
 rw [Bool.eq_iff_iff,decide_eq_true_iff,decide_eq_true_iff]
 exact h t s (by omega) hs
end Mach
namespace Mach
def pp (m:Mach):Nat→List Int×Int
 |0=>(List.replicate m.next.length 0,1)
 |k+1=>canon (m.sameP (pp m k).1) m.next.length
theorem pp_succ (m:Mach) (k:Nat):m.pp (k+1)=canon (m.sameP (m.pp k).1) m.next.length:=rfl
theorem pp_length (m:Mach) (k:Nat):(m.pp k).1.length=m.next.length:=by
 cases k with
 |zero=>simp [pp]
 |succ k=>rw [pp_succ,canon_length]
def Steps (m:Mach) (K d:Nat):Prop:=d≤K∧(∀j,j<d→(m.pp (j+1)).2≠(m.pp j).2)∧(d=K∨(m.pp (d+1)).2=(m.pp d).2)
variable {m:Mach}
theorem pp_part (ok:m.Ok):∀k,(m.pp k).1=m.part k
 |0=>rfl
 |k+1=>by
  rw [pp_succ,part_succ,pp_part ok k]
  congr 1
  apply canon_congr
  intro s hs t ht
  rw [Bool.eq_iff_iff,sameP_iff ok k s hs t ht,sameR_iff ok k s hs t ht]
theorem pp_canon (ok:m.Ok) (k:Nat):m.pp (k+1)=canon (m.sameR (m.part k)) m.next.length:=by
 rw [pp_succ,pp_part ok k]
 apply canon_congr
 intro s hs t ht
 rw [Bool.eq_iff_iff,sameP_iff ok k s hs t ht,sameR_iff ok k s hs t ht]
theorem pp_count (ok:m.Ok) (k:Nat):∃E:Nat→Nat→Bool,(∀s,s<m.next.length→∀t,t<s→(E t s=true↔m.eqv k t s))∧(m.pp k).2=(canon E m.next.length).2:=by
 cases k with
 |zero=>
  refine ⟨fun _ _=>true,fun s _ t _=>by simp [eqv],?_⟩
  have:∀n,(canon (fun _ _=>true) (n+1)).2=1:=by
   intro n
   rw [canon_count]
   have h1:∀n,(List.range (n+1)).filter (isFirst (fun _ _=>true))=[0]:=by
    intro n
    induction n with
    |zero=>rfl
    |succ n ih=>
     rw [List.range_succ,List.filter_append,ih]
     have:isFirst (fun _ _=>true) (n+1)=false:=by
      unfold isFirst
      rw [List.all_eq_false]
      exact ⟨0,by simp,by simp⟩
     simp [this]
   rw [h1];rfl
  obtain ⟨n,hn⟩:∃n,m.next.length=n+1:=⟨m.next.length-1,by have:=ok.n0;omega⟩
  rw [hn,this];rfl
 |succ k=>exact ⟨m.sameR (m.part k),sameR_iff ok k,by rw [pp_canon ok k]⟩
theorem same_of_count (ok:m.Ok) {k:Nat} (h:(m.pp (k+1)).2=(m.pp k).2):∀s t,s<m.next.length→t<m.next.length→(m.eqv k s t↔m.eqv (k+1) s t):=by
 obtain ⟨E,hE,e1⟩:=pp_count ok k
 obtain ⟨E',hE',e2⟩:=pp_count ok (k+1)
 exact finer_same (m.eqv_eqv _ _) (m.eqv_eqv _ _) hE hE' (fun s t _ _=>m.eqv_mono k s t) (by rw [←e1,←e2,h])
theorem count_of_same (ok:m.Ok) {k:Nat} (h:∀s t,s<m.next.length→t<m.next.length→(m.eqv k s t↔m.eqv (k+1) s t)):(m.pp (k+1)).2=(m.pp k).2:=by
 obtain ⟨E,hE,e1⟩:=pp_count ok k
 obtain ⟨E',hE',e2⟩:=pp_count ok (k+1)
 rw [e1,e2]
 congr 1
 apply canon_congr
 intro s hs t ht
 rw [Bool.eq_iff_iff,hE s hs t ht,hE' s hs t ht]
 exact (h t s (by omega) hs).symm
theorem count_mono (ok:m.Ok) (k:Nat):(m.pp k).2≤(m.pp (k+1)).2:=by
 obtain ⟨E,hE,e1⟩:=pp_count ok k
 obtain ⟨E',hE',e2⟩:=pp_count ok (k+1)
 rw [e1,e2,canon_count,canon_count]
 have hsub:∀x∈List.range m.next.length,isFirst E x=true→isFirst E' x=true:=by
  intro x hx hf
  have hx':x<m.next.length:=by simpa using hx
  rw [isFirst_iff hE' hx']
  exact fun t ht hr=>(isFirst_iff hE hx').1 hf t ht (m.eqv_mono k t x hr)
 have hle:∀l:List Nat,(∀x∈l,isFirst E x=true→isFirst E' x=true)→(l.filter (isFirst E)).length≤(l.filter (isFirst E')).length:=by
  intro l h
  induction l with
  |nil=>simp
  |cons y l ih=>
   have:=ih (fun z hz=>h z (by simp [hz]))
   by_cases hp:isFirst E y=true
   ·simp [hp,h y (by simp) hp];exact this
   by_cases hq:isFirst E' y=true
   ·simp [hp,hq];omega
   simp [hp,hq];exact this
 have:=hle _ hsub
 omega
theorem count_le (ok:m.Ok) (k:Nat):(m.pp k).2≤m.next.length:=by
 obtain ⟨E,_,e1⟩:=pp_count ok k
 rw [e1]
 exact (canon_range E _).2.1
theorem Steps.classes (ok:m.Ok) {K d:Nat} (h:m.Steps K d):(m.pp d).1=m.part K:=by
 rw [pp_part ok d]
 rcases h.2.2 with e|e
 ·rw [e]
 exact part_eq ok (fun s t hs ht=>eqv_stable ok (same_of_count ok e) K h.1 s t hs ht)
theorem Steps.grow (ok:m.Ok) {K d:Nat} (h:m.Steps K d):∀j,j≤d→(j:Int)+1≤(m.pp j).2
 |0,_=>by simp [pp]
 |j+1,hj=>by
  have ih:=Steps.grow ok h j (by omega)
  have h1:=h.2.1 j (by omega)
  have h2:=count_mono ok j
  omega
theorem Steps.rest (ok:m.Ok) {K d:Nat} (h:m.Steps K d) (hK:m.next.length≤K+1):d<m.next.length∧∀j,d≤j→m.part j=m.part d:=by
 have h1:=h.grow ok d (Nat.le_refl _)
 have h2:=count_le ok d
 have hd:d<m.next.length:=by omega
 refine ⟨hd,fun j hj=> ?_⟩
 have e:(m.pp (d+1)).2=(m.pp d).2:=by
  rcases h.2.2 with e|e
  ·subst e
   have h3:=count_mono ok d
   have h4:=count_le ok (d+1)
   omega
  exact e
 exact (part_eq ok (fun s t hs ht=>eqv_stable ok (same_of_count ok e) j hj s t hs ht)).symm
theorem Steps.before (ok:m.Ok) {K d:Nat} (h:m.Steps K d) {j n:Nat} (hj:j<d) (hn:d≤n):m.part j≠m.part n:=by
 intro he
 refine h.2.1 j hj (count_of_same ok fun s t hs ht=>⟨fun hr=> ?_,m.eqv_mono j s t⟩)
 have h1:=(part_iff ok j s t hs ht).2 hr
 rw [he] at h1
 exact m.eqv_le ((part_iff ok n s t hs ht).1 h1) (by omega)
end Mach
def reps (cls:List Int):Nat→List Nat
 |0=>[]
 |k+1=>if cls.getD k 0<(reps cls k).length then reps cls k else reps cls k++[k]
theorem reps_old {cls:List Int} {k:Nat} (h:cls.getD k 0<(reps cls k).length):reps cls (k+1)=reps cls k:=by simp only [reps,h,if_true]
theorem reps_new {cls:List Int} {k:Nat} (h:¬cls.getD k 0<(reps cls k).length):reps cls (k+1)=reps cls k++[k]:=by simp only [reps,h,if_false]
theorem reps_le (cls:List Int):∀k,(reps cls k).length≤k
 |0=>Nat.le_refl _
 |k+1=>by
  have:=reps_le cls k
  simp only [reps];split
  ·omega
  simp;omega
namespace Mach
def minRow (t:Mach) (cls:List Int) (s:Nat):List Int:=(t.next.getD s []).map fun n=>cls.getD n.toNat 0
def minBy (t:Mach) (cls:List Int):Mach:={inputs:=t.inputs,start:=0,next:=(reps cls cls.length).map (t.minRow cls),out:=(reps cls cls.length).map fun s=>t.out.getD s []}
def minOf (m:Mach):Mach:=if m.err=0 then m.trim.minBy (m.trim.partOf 128) else nothing
end Mach
structure Pl where
 s:Int
 t:Int
 word:List Int
 deriving DecidableEq
def known (l:List Pl) (s t:Int):Bool:=l.any fun q=>decide (q.s=s∧q.t=t)
theorem known_iff {l:List Pl} {s t:Int}:known l s t=true↔∃q∈l,q.s=s∧q.t=t:=by simp [known]
theorem known_snoc (l:List Pl) (q:Pl) (s t:Int):known (l++[q]) s t=(known l s t||decide (q.s=s∧q.t=t)):=by simp [known]
def scan (a b:Mach) (p:Pl) (l:List Pl):Nat→List Pl×Option (List Int)
 |0=>(l,none)
 |x+1=>match (scan a b p l x).2 with
  |some w=>((scan a b p l x).1,some w)
  |none=>if a.ot p.s.toNat x≠b.ot p.t.toNat x then ((scan a b p l x).1,some (p.word++[(x:Int)]))
   else if known (scan a b p l x).1 (a.nx p.s.toNat x) (b.nx p.t.toNat x)=true then ((scan a b p l x).1,none)
   else ((scan a b p l x).1++[⟨a.nx p.s.toNat x,b.nx p.t.toNat x,p.word++[(x:Int)]⟩],none)
section
variable {a b:Mach} {p:Pl} {l l':List Pl} {x:Nat} {w:List Int}
theorem scan_diff (h:scan a b p l x=(l',none)) (hd:a.ot p.s.toNat x≠b.ot p.t.toNat x):scan a b p l (x+1)=(l',some (p.word++[(x:Int)])):=by
 unfold scan;simp only [h,if_pos hd]
theorem scan_old (h:scan a b p l x=(l',none)) (hd:a.ot p.s.toNat x=b.ot p.t.toNat x) (hk:known l' (a.nx p.s.toNat x) (b.nx p.t.toNat x)=true):scan a b p l (x+1)=(l',none):=by
 unfold scan;simp only [h];rw [if_neg (by simpa using hd),if_pos hk]
theorem scan_new (h:scan a b p l x=(l',none)) (hd:a.ot p.s.toNat x=b.ot p.t.toNat x) (hk:known l' (a.nx p.s.toNat x) (b.nx p.t.toNat x)=false):
    scan a b p l (x+1)=(l'++[⟨a.nx p.s.toNat x,b.nx p.t.toNat x,p.word++[(x:Int)]⟩],none):=by
 unfold scan;simp only [h];rw [if_neg (by simpa using hd),if_neg (by rw [hk];decide)]
theorem scan_stop (h:scan a b p l x=(l',some w)):∀y,x≤y→scan a b p l y=(l',some w):=by
 intro y hy
 induction y with
 | zero => obtain rfl : x = 0 := by omega
           exact h
 |succ y ih=>
  by_cases e:x=y+1
  ·rw [←e];exact h
  have:=ih (by omega)
  unfold scan;simp only [this]
theorem scan_cases (a b:Mach) (p:Pl) (l:List Pl):∀x,∃s,(scan a b p l x).1=l++s
 |0=>⟨[],by simp [scan]⟩
 |x+1=>by
  obtain ⟨s,hs⟩:=scan_cases a b p l x
  unfold scan
  split
  ·exact ⟨s,hs⟩
  split
  ·exact ⟨s,hs⟩
  split
  ·exact ⟨s,hs⟩
  exact ⟨s++[⟨a.nx p.s.toNat x,b.nx p.t.toNat x,p.word++[(x:Int)]⟩],by simp only [hs,List.append_assoc]⟩
end
def srch (a b:Mach) (s t:Int):Nat→List Pl×Option (List Int)
 |0=>([⟨s,t,[]⟩],none)
 |i+1=>match (srch a b s t i).2 with
  |some w=>((srch a b s t i).1,some w)
  |none=>match (srch a b s t i).1[i]? with
   |none=>((srch a b s t i).1,none)
   |some p=>scan a b p (srch a b s t i).1 a.inputs.toNat
def firstW (a b:Mach) (s t:Int):Option (List Int):=(srch a b s t (a.next.length*b.next.length)).2
section
variable {a b:Mach} {s t:Int} {p:Pl} {l l':List Pl} {i x:Nat} {w:List Int}
theorem srch_step (h:srch a b s t i=(l,none)) (hp:l[i]? =some p):srch a b s t (i+1)=scan a b p l a.inputs.toNat:=by
 conv=>lhs;unfold srch
 simp only [h,hp]
theorem srch_stop (h:srch a b s t i=(l,some w)):∀j,i≤j→srch a b s t j=(l,some w):=by
 intro j hj
 induction j with
 | zero => obtain rfl : i = 0 := by omega
           exact h
 |succ j ih=>
  by_cases e:i=j+1
  ·rw [←e];exact h
  have:=ih (by omega)
  conv=>lhs;unfold srch
  simp only [this]
theorem srch_rest (h:srch a b s t i=(l,none)) (hl:l.length≤i):∀j,i≤j→srch a b s t j=(l,none):=by
 intro j hj
 induction j with
 | zero => obtain rfl : i = 0 := by omega
           exact h
 |succ j ih=>
  by_cases e:i=j+1
  ·rw [←e];exact h
  have:=ih (by omega)
  conv=>lhs;unfold srch
  simp only [this,List.getElem?_eq_none (show l.length≤j by omega)]
theorem first_found (h:srch a b s t i=(l,none)) (hp:l[i]? =some p) (hs:scan a b p l x=(l',some w)) (hx:x≤a.inputs.toNat) (hi:i<a.next.length*b.next.length):firstW a b s t=some w:=by
 have h1:=srch_step h hp
 rw [scan_stop hs _ hx] at h1
 unfold firstW
 rw [srch_stop h1 _ (by omega)]
theorem first_none (h:srch a b s t i=(l,none)) (hl:l.length≤i) (hi:i≤a.next.length*b.next.length):firstW a b s t=none:=by
 unfold firstW
 rw [srch_rest h hl _ hi]
structure GoodP (a b:Mach) (l:List Pl):Prop where
 range:∀q∈l,0≤q.s∧q.s<a.next.length∧0≤q.t∧q.t<b.next.length
 nodup:(l.map fun q=>(q.s*(b.next.length:Int)+q.t:Int)).Nodup
 word:∀q∈l,q.word.length<l.length
theorem pair_inj {n s t s' t':Int} (h0:0≤t) (h1:t<n) (h0':0≤t') (h1':t'<n) (h:s*n+t=s'*n+t'):s=s'∧t=t':=by
 have e:(s-s')*n=t'-t:=by rw [Int.sub_mul];omega
 by_cases hs:s=s'
 ·subst hs;exact ⟨rfl,by omega⟩
 exfalso
 rcases Int.lt_or_gt_of_ne hs with h2|h2
 ·have:(s'-s)*n≥1*n:=Int.mul_le_mul_of_nonneg_right (by omega) (by omega)
  have e2:(s'-s)*n= -((s-s')*n):=by rw [←Int.neg_mul];congr 1;omega
  omega
 have:(s-s')*n≥1*n:=Int.mul_le_mul_of_nonneg_right (by omega) (by omega)
 omega
theorem GoodP.one (hs:0≤s∧s<a.next.length) (ht:0≤t∧t<b.next.length):GoodP a b [⟨s,t,[]⟩]:=
 ⟨fun q hq=>by simp at hq;subst hq;exact ⟨hs.1,hs.2,ht.1,ht.2⟩,by simp,fun q hq=>by simp at hq;subst hq;simp⟩
theorem GoodP.push (h:GoodP a b l) {q:Pl} (hs:0≤q.s∧q.s<a.next.length) (ht:0≤q.t∧q.t<b.next.length) (hk:known l q.s q.t=false) (hw:q.word.length≤l.length):GoodP a b (l++[q]):=by
 refine ⟨fun r hr=> ?_,?_,fun r hr=> ?_⟩
 ·rw [List.mem_append,List.mem_singleton] at hr
  rcases hr with hr|rfl
  ·exact h.range r hr
  exact ⟨hs.1,hs.2,ht.1,ht.2⟩
 ·rw [List.map_append,List.nodup_append]
  refine ⟨h.nodup,by simp,fun u hu v hv=> ?_⟩
  simp only [List.map_cons,List.map_nil,List.mem_singleton] at hv
  subst hv
  intro e
  obtain ⟨r,hr,rfl⟩:=List.mem_map.1 hu
  obtain ⟨h1,h2,h3,h4⟩:=h.range r hr
  obtain ⟨e1,e2⟩:=pair_inj h3 h4 ht.1 ht.2 e
  have:known l q.s q.t=true:=known_iff.2 ⟨r,hr,e1,e2⟩
  rw [hk] at this;cases this
 rw [List.length_append,List.length_singleton]
 rw [List.mem_append,List.mem_singleton] at hr
 rcases hr with hr|rfl
 ·have:=h.word r hr;omega
 omega
theorem GoodP.le (h:GoodP a b l):l.length≤a.next.length*b.next.length:=by
 have:=nodup_le (a.next.length*b.next.length) _ h.nodup (fun y hy=>by
  obtain ⟨q,hq,rfl⟩:=List.mem_map.1 hy
  obtain ⟨h1,h2,h3,h4⟩:=h.range q hq
  have h5:q.s*b.next.length≤(a.next.length-1:Int)*b.next.length:=Int.mul_le_mul_of_nonneg_right (by omega) (by omega)
  have h6:0≤q.s*(b.next.length:Int):=Int.mul_nonneg h1 (by omega)
  rw [Int.sub_mul,Int.one_mul] at h5
  refine ⟨by omega,?_⟩
  rw [Int.natCast_mul]
  omega)
 rwa [List.length_map] at this
theorem GoodP.scan (oa:a.Ok) (ob:b.Ok) (hi:a.inputs=b.inputs) (h:GoodP a b l) (hp:p∈l):∀x,x≤a.inputs.toNat→GoodP a b (scan a b p l x).1
 |0,_=>h
 |x+1,hx=>by
  have ih:=GoodP.scan oa ob hi h hp x (by omega)
  obtain ⟨r,hr⟩:=scan_cases a b p l x
  unfold Proofs.YtjagagpcjpcjjaaGreat.scan
  split
  ·exact ih
  split
  ·exact ih
  split
  ·exact ih
  rename_i hk
  obtain ⟨h1,h2,h3,h4⟩:=h.range p hp
  have n1:=oa.nx p.s.toNat x (by omega) (by omega)
  have n2:=ob.nx p.t.toNat x (by omega) (by omega)
  refine ih.push n1 n2 (by simpa using hk) ?_
  have:=h.word p hp
  rw [hr]
  simp only [List.length_append,List.length_singleton]
  omega
theorem GoodP.srch (oa:a.Ok) (ob:b.Ok) (hi:a.inputs=b.inputs) (hs:0≤s∧s<a.next.length) (ht:0≤t∧t<b.next.length):∀i,GoodP a b (srch a b s t i).1
 |0=>GoodP.one hs ht
 |i+1=>by
  have ih:=GoodP.srch oa ob hi hs ht i
  unfold Proofs.YtjagagpcjpcjjaaGreat.srch
  split
  ·exact ih
  split
  ·exact ih
  rename_i p hp
  exact ih.scan oa ob hi (List.mem_of_getElem? hp) _ (Nat.le_refl _)
end
def visitC (c:Int→Int):List Int→List Int→List Int
 |l,[]=>l
 |l,t::r=>visitC c (if c t∈l.map c then l else l++[t]) r
theorem visitC_append (c:Int→Int):∀(r r' l:List Int),visitC c l (r++r')=visitC c (visitC c l r) r'
 |[],_,_=>rfl
 |_::r,r',_=>visitC_append c r r' _
theorem visitC_snoc (c:Int→Int) (l r:List Int) (t:Int):visitC c l (r++[t])=if c t∈(visitC c l r).map c then visitC c l r else visitC c l r++[t]:=by
 rw [visitC_append];rfl
theorem visitC_prefix (c:Int→Int):∀(r l:List Int),∃s,visitC c l r=l++s
 |[],l=>⟨[],by simp [visitC]⟩
 |t::r,l=>by
  obtain ⟨s,hs⟩:=visitC_prefix c r (if c t∈l.map c then l else l++[t])
  simp only [visitC,hs]
  split
  ·exact ⟨s,rfl⟩
  exact ⟨t::s,by simp⟩
theorem visitC_mem (c:Int→Int):∀(r l:List Int) (y:Int),y∈(visitC c l r).map c↔y∈l.map c∨y∈r.map c
 |[],l,y=>by simp [visitC]
 |t::r,l,y=>by
  simp only [visitC,visitC_mem c r]
  split
  ·rename_i h
   rw [List.map_cons,List.mem_cons]
   constructor
   ·rintro (h1|h1)
    ·exact .inl h1
    exact .inr (.inr h1)
   rintro (h1|h1|h1)
   ·exact .inl h1
   ·exact .inl (by rw [h1];exact h)
   exact .inr h1
  rw [List.map_append,List.mem_append,List.map_cons,List.map_nil,List.mem_singleton,List.map_cons,List.mem_cons]
  exact or_assoc
theorem visitC_none (c:Int→Int):∀(r l:List Int),(∀x∈r,c x∈l.map c)→visitC c l r=l
 |[],_,_=>rfl
 |t::r,l,h=>by
  simp only [visitC]
  rw [if_pos (h t (by simp))]
  exact visitC_none c r l fun x hx=>h x (by simp [hx])
theorem visitC_len (c:Int→Int):∀(r l:List Int),(visitC c l r).length≤l.length+r.length
 |[],_=>Nat.le_refl _
 |t::r,l=>by
  have:=visitC_len c r (if c t∈l.map c then l else l++[t])
  simp only [visitC,List.length_cons]
  split at this
  ·rename_i h;rw [if_pos h];omega
  rename_i h;rw [if_neg h];rw [List.length_append,List.length_singleton] at this;omega
def firsts (c:Int→Int) (l:List Int):List Int:=visitC c [] l
theorem firsts_snoc (c:Int→Int) (l:List Int) (t:Int):firsts c (l++[t])=if c t∈(firsts c l).map c then firsts c l else firsts c l++[t]:=visitC_snoc c [] l t
theorem firsts_mem (c:Int→Int) (l:List Int) (y:Int):y∈(firsts c l).map c↔y∈l.map c:=by
 unfold firsts;rw [visitC_mem];simp
theorem firsts_visit (c:Int→Int):∀(r l:List Int),firsts c (visit l r)=visitC c (firsts c l) r
 |[],_=>rfl
 |t::r,l=>by
  simp only [visit,visitC]
  rw [firsts_visit c r]
  by_cases h:t∈l
  ·rw [if_pos h,if_pos ((firsts_mem c l _).2 (List.mem_map_of_mem h))]
  rw [if_neg h,firsts_snoc]
theorem firsts_prefix (c:Int→Int) (l r:List Int):∃s,firsts c (l++r)=firsts c l++s:=by
 unfold firsts;rw [visitC_append];exact visitC_prefix c r _
namespace Mach
variable (m:Mach)
def qbfs (c:Int→Int):Nat→List Int
 |0=>[m.start]
 |i+1=>if i<(qbfs c i).length then visitC c (qbfs c i) (m.next.getD ((qbfs c i).getD i 0).toNat []) else qbfs c i
theorem qbfs_succ (c:Int→Int) (i:Nat):m.qbfs c (i+1)=if i<(m.qbfs c i).length then visitC c (m.qbfs c i) (m.next.getD ((m.qbfs c i).getD i 0).toNat []) else m.qbfs c i:=rfl
variable {m}
theorem qbfs_stop (c:Int→Int) {i:Nat} (h:¬i<(m.qbfs c i).length):∀j,i≤j→m.qbfs c j=m.qbfs c i:=by
 intro j hj
 induction j with
 | zero => obtain rfl : i = 0 := by omega
           rfl
 |succ j ih=>
  by_cases e:i=j+1
  ·rw [e]
  rw [qbfs_succ,ih (by omega),if_neg (by omega)]
def Cong (m:Mach) (c:Int→Int):Prop:=∀s t:Int,0≤s→s<m.next.length→0≤t→t<m.next.length→c s=c t→∀x∈m.next.getD s.toNat [],∃y∈m.next.getD t.toNat [],c x=c y
theorem quot_inv (ok:m.Ok) {c:Int→Int} (hc:m.Cong c):∀i,firsts c (m.bfs i)=m.qbfs c (firsts c ((m.bfs i).take i)).length∧
    ∀x∈(m.bfs i).take i,∀y∈m.next.getD x.toNat [],c y∈(firsts c (m.bfs i)).map c
 |0=>⟨by simp [bfs,firsts,visitC,qbfs],by simp⟩
 |i+1=>by
  obtain ⟨h1,h2⟩:=quot_inv ok hc i
  obtain ⟨-,hr, -⟩:=bfs_props ok i
  by_cases hi:i<(m.bfs i).length
  ·have hx:(m.bfs i).getD i 0=(m.bfs i)[i]:=by rw [List.getD_eq_getElem?_getD,List.getElem?_eq_getElem hi];rfl
   have hxm:(m.bfs i)[i]∈m.bfs i:=List.getElem_mem hi
   have hb:m.bfs (i+1)=visit (m.bfs i) (m.next.getD ((m.bfs i)[i]).toNat []):=by rw [bfs_succ,if_pos hi,hx]
   have ht:(m.bfs (i+1)).take (i+1)=(m.bfs i).take i++[(m.bfs i)[i]]:=by
    obtain ⟨s,hs⟩:=visit_prefix (m.next.getD ((m.bfs i)[i]).toNat []) (m.bfs i)
    rw [hb,hs,List.take_append_of_le_length (by omega),List.take_add_one,List.getElem?_eq_getElem hi]
    rfl
   have hf:firsts c (m.bfs (i+1))=visitC c (firsts c (m.bfs i)) (m.next.getD ((m.bfs i)[i]).toNat []):=by rw [hb,firsts_visit]
   have hsub:∀y,y∈(firsts c (m.bfs i)).map c→y∈(firsts c (m.bfs (i+1))).map c:=fun y hy=>by rw [hf,visitC_mem];exact .inl hy
   refine ⟨?_,fun x hx y hy=> ?_⟩
   ·rw [ht,firsts_snoc,hf]
    by_cases hin:c (m.bfs i)[i]∈(firsts c ((m.bfs i).take i)).map c
    ·rw [if_pos hin,←h1]
     apply visitC_none
     intro x hx
     obtain ⟨z,hz,hzc⟩:=List.mem_map.1 ((firsts_mem c _ _).1 hin)
     have hzm:z∈m.bfs i:=List.mem_of_mem_take hz
     obtain ⟨y,hy,hxy⟩:=hc _ z (hr _ hxm).1 (hr _ hxm).2 (hr _ hzm).1 (hr _ hzm).2 hzc.symm x hx
     rw [hxy]
     exact h2 z hz y hy
    rw [if_neg hin,List.length_append,List.length_singleton,qbfs_succ,←h1]
    have hp:∃s,firsts c (m.bfs i)=(firsts c ((m.bfs i).take i)++[(m.bfs i)[i]])++s:=by
     have e:(m.bfs i)=((m.bfs i).take i++[(m.bfs i)[i]])++(m.bfs i).drop (i+1):=by
      conv=>lhs;rw [←List.take_append_drop (i+1) (m.bfs i)]
      rw [List.take_add_one,List.getElem?_eq_getElem hi];rfl
     obtain ⟨s,hs⟩:=firsts_prefix c ((m.bfs i).take i++[(m.bfs i)[i]]) ((m.bfs i).drop (i+1))
     rw [←e,firsts_snoc,if_neg hin] at hs
     exact ⟨s,hs⟩
    obtain ⟨s,hs⟩:=hp
    have hl:(firsts c ((m.bfs i).take i)).length<(firsts c (m.bfs i)).length:=by rw [hs];simp
    have hg:(firsts c (m.bfs i)).getD (firsts c ((m.bfs i).take i)).length 0=(m.bfs i)[i]:=by
     rw [hs,List.getD_eq_getElem?_getD,List.getElem?_append_left (by simp),List.getElem?_append_right (by simp)]
     simp
    rw [if_pos hl,hg]
   rw [ht,List.mem_append,List.mem_singleton] at hx
   rcases hx with hx|rfl
   ·exact hsub _ (h2 x hx y hy)
   rw [hf,visitC_mem];exact .inr (List.mem_map_of_mem hy)
  have hb:m.bfs (i+1)=m.bfs i:=by rw [bfs_succ,if_neg hi]
  rw [hb,List.take_of_length_le (show (m.bfs i).length≤i+1 by omega)]
  rw [List.take_of_length_le (show (m.bfs i).length≤i by omega)] at h1 h2
  exact ⟨h1,h2⟩
theorem quot_reach (ok:m.Ok) {c:Int→Int} (hc:m.Cong c):m.qbfs c m.next.length=firsts c m.reach∧¬(firsts c m.reach).length<(m.qbfs c (firsts c m.reach).length).length∧(firsts c m.reach).length≤m.next.length:=by
 obtain ⟨h1, -⟩:=quot_inv ok hc m.next.length
 rw [List.take_of_length_le (bfs_le ok _)] at h1
 have hle:(firsts c m.reach).length≤m.next.length:=by
  have h2:=visitC_len c m.reach []
  have h3:=bfs_le ok m.next.length
  unfold firsts reach at*
  simp at h2
  omega
 have hst:¬(firsts c m.reach).length<(m.qbfs c (firsts c m.reach).length).length:=by
  have h1':firsts c m.reach=m.qbfs c (firsts c m.reach).length:=h1
  rw [←h1'];omega
 exact ⟨(qbfs_stop c hst _ hle).trans h1.symm,hst,hle⟩
end Mach
namespace Mach
variable {m:Mach}
theorem steps_exists (m:Mach):∀K,∃d,m.Steps K d
 |0=>⟨0,Nat.le_refl _,fun j hj=>by omega,.inl rfl⟩
 |K+1=>by
  obtain ⟨d,h1,h2,h3⟩:=steps_exists m K
  by_cases e:(m.pp (d+1)).2=(m.pp d).2
  ·exact ⟨d,by omega,h2,.inr e⟩
  rcases h3 with rfl|h3
  ·refine ⟨d+1,Nat.le_refl _,fun j hj=> ?_,.inl rfl⟩
   by_cases ej:j=d
   ·rw [ej];exact e
   exact h2 j (by omega)
  exact absurd h3 e
theorem part_rest (ok:m.Ok) {j:Nat} (hj:m.next.length≤j):m.part j=m.part m.next.length:=by
 obtain ⟨d,hd⟩:=m.steps_exists m.next.length
 obtain ⟨h1,h2⟩:=hd.rest ok (by omega)
 rw [h2 j (by omega),h2 m.next.length (by omega)]
theorem eqv_rest (ok:m.Ok) {j s t:Nat} (hj:m.next.length≤j) (hs:s<m.next.length) (ht:t<m.next.length):m.eqv j s t↔m.eqv m.next.length s t:=by
 rw [←part_iff ok _ _ _ hs ht,←part_iff ok _ _ _ hs ht,part_rest ok hj]
def cl (m:Mach) (x:Int):Int:=(m.part m.next.length).getD x.toNat 0
theorem cl_iff (ok:m.Ok) {s t:Int} (_hs:0≤s) (hs':s<m.next.length) (_ht:0≤t) (ht':t<m.next.length):m.cl s=m.cl t↔m.eqv m.next.length s.toNat t.toNat:=
 part_iff ok _ _ _ (by omega) (by omega)
theorem cl_cong (ok:m.Ok):m.Cong m.cl:=by
 intro s t hs hs' ht ht' h x hx
 rw [cl_iff ok hs hs' ht ht',←eqv_rest ok (Nat.le_succ _) (by omega) (by omega)] at h
 obtain ⟨a,ha,rfl⟩:=List.getElem_of_mem hx
 have hl:=ok.rn s.toNat (by omega)
 have hl':=ok.rn t.toNat (by omega)
 have ha2:a<m.inputs.toNat:=by omega
 have ha':a<(m.next.getD t.toNat []).length:=by omega
 have e1:m.nx s.toNat a=(m.next.getD s.toNat [])[a]:=by unfold nx;rw [List.getD_eq_getElem?_getD (l:=m.next.getD s.toNat []),List.getElem?_eq_getElem ha];rfl
 have e2:m.nx t.toNat a=(m.next.getD t.toNat [])[a]:=by unfold nx;rw [List.getD_eq_getElem?_getD (l:=m.next.getD t.toNat []),List.getElem?_eq_getElem ha'];rfl
 have r1:=ok.nx s.toNat a (by omega) ha2
 have r2:=ok.nx t.toNat a (by omega) ha2
 refine ⟨_,List.getElem_mem ha',?_⟩
 rw [←e1,←e2,cl_iff ok r1.1 r1.2 r2.1 r2.2]
 exact (h a ha2).2
theorem reach_closed (ok:m.Ok) {x y:Int} (hx:x∈m.reach) (hy:y∈m.next.getD x.toNat []):y∈m.reach:=by
 have h:=(quot_inv ok (c:=id) (fun s t _ _ _ _ e x hx=>⟨x,by simpa [show s=t from e] using hx,rfl⟩) m.next.length).2
 rw [List.take_of_length_le (bfs_le ok _)] at h
 have:=h x hx y hy
 rw [firsts_mem] at this
 simpa [reach] using this
theorem trim_ot {i a:Nat} (hi:i<m.reach.length):m.trim.ot i a=m.ot (m.reach[i]).toNat a:=by
 unfold ot trim
 simp only
 rw [getD_map (fun s:Int=>m.out.getD s.toNat []) _ _ hi]
theorem trim_nx (ok:m.Ok) {i a:Nat} (hi:i<m.reach.length) (ha:a<m.inputs.toNat):
    ∃j,∃hj:j<m.reach.length,m.trim.nx i a=(j:Int)∧m.reach[j]=m.nx (m.reach[i]).toNat a:=by
 obtain ⟨-,hr, -⟩:=reach_props ok
 have hx:=hr _ (List.getElem_mem hi)
 have hl:=ok.rn (m.reach[i]).toNat (by omega)
 have ha':a<(m.next.getD (m.reach[i]).toNat []).length:=by omega
 have e1:m.nx (m.reach[i]).toNat a=(m.next.getD (m.reach[i]).toNat [])[a]:=by unfold nx;rw [List.getD_eq_getElem?_getD (l:=m.next.getD (m.reach[i]).toNat []),List.getElem?_eq_getElem ha'];rfl
 have hm:m.nx (m.reach[i]).toNat a∈m.reach:=reach_closed ok (List.getElem_mem hi) (by rw [e1];exact List.getElem_mem ha')
 refine ⟨m.reach.idxOf (m.nx (m.reach[i]).toNat a),List.idxOf_lt_length_of_mem hm,?_,List.getElem_idxOf _⟩
 unfold nx trim
 simp only
 rw [getD_map m.trimRow _ _ hi]
 unfold trimRow
 rw [List.getD_eq_getElem?_getD,List.getElem?_map,List.getElem?_eq_getElem ha']
 simp only [Option.map_some,Option.getD_some]
 rw [←e1]
 unfold numOf
 rw [if_pos hm]
 rfl
theorem trim_eqv (ok:m.Ok):∀k i j (hi:i<m.reach.length) (hj:j<m.reach.length),m.trim.eqv k i j↔m.eqv k (m.reach[i]).toNat (m.reach[j]).toNat
 |0,_,_,_,_=>Iff.rfl
 |k+1,i,j,hi,hj=>by
  have ih:=trim_eqv ok k
  constructor
  ·intro h a ha
   obtain ⟨h1,h2⟩:=h a ha
   obtain ⟨i',hi',e1,e1'⟩:=trim_nx ok hi ha
   obtain ⟨j',hj',e2,e2'⟩:=trim_nx ok hj ha
   rw [trim_ot hi,trim_ot hj] at h1
   rw [e1,e2,Int.toNat_natCast,Int.toNat_natCast,ih i' j' hi' hj',e1',e2'] at h2
   exact ⟨h1,h2⟩
  intro h a ha
  obtain ⟨h1,h2⟩:=h a ha
  obtain ⟨i',hi',e1,e1'⟩:=trim_nx ok hi ha
  obtain ⟨j',hj',e2,e2'⟩:=trim_nx ok hj ha
  refine ⟨by rw [trim_ot hi,trim_ot hj];exact h1,?_⟩
  rw [e1,e2,Int.toNat_natCast,Int.toNat_natCast,ih i' j' hi' hj',e1',e2']
  exact h2
theorem trim_len (m:Mach):m.trim.next.length=m.reach.length:=by simp [trim]
theorem trim_class (ok:m.Ok) {i j:Nat} (hi:i<m.reach.length) (hj:j<m.reach.length):
    (m.trim.part m.reach.length).getD i 0=(m.trim.part m.reach.length).getD j 0↔m.cl (m.reach[i])=m.cl (m.reach[j]):=by
 obtain ⟨-,hr, -⟩:=reach_props ok
 have hi':=hr _ (List.getElem_mem hi)
 have hj':=hr _ (List.getElem_mem hj)
 have okt:=trim_ok ok
 have hl:=m.trim_len
 have hle:=reach_le ok
 rw [cl_iff ok hi'.1 hi'.2 hj'.1 hj'.2,←trim_eqv ok _ _ _ hi hj,part_iff okt _ _ _ (by omega) (by omega),←hl]
 exact (eqv_rest okt (by omega) (by omega) (by omega)).symm
end Mach
def idxC (c:Int→Int) (l:List Int) (x:Int):Int:=((l.map c).idxOf (c x):Nat)
theorem idxC_append (c:Int→Int) {l s:List Int} {x:Int} (h:c x∈l.map c):idxC c (l++s) x=idxC c l x:=by
 unfold idxC
 rw [List.map_append,List.idxOf_append,if_pos h]
theorem idxC_new (c:Int→Int) {l:List Int} {x:Int} (h:c x∉l.map c):idxC c (l++[x]) x=l.length:=by
 unfold idxC
 rw [List.map_append,List.idxOf_append,if_neg h]
 simp
theorem idxC_congr (c:Int→Int) {l:List Int} {x y:Int} (h:c x=c y):idxC c l x=idxC c l y:=by unfold idxC;rw [h]
theorem canon_firsts {E:Nat→Nat→Bool} {c:Int→Int} {R:List Int}:∀k,k≤R.length→(∀s,s<k→∀t,t<s→(E t s=true↔c (R.getD t 0)=c (R.getD s 0)))→
    (canon E k).2=(firsts c (R.take k)).length∧(∀j,j<k→(canon E k).1.getD j 0=idxC c (firsts c (R.take k)) (R.getD j 0))∧(∀j,j<k→c (R.getD j 0)∈(firsts c (R.take k)).map c)
 |0,_,_=>⟨by simp [canon,firsts,visitC],fun j hj=>by omega,fun j hj=>by omega⟩
 |k+1,hk,hE=>by
  obtain ⟨h1,h2,h3⟩:=canon_firsts (E:=E) (c:=c) (R:=R) k (by omega) (fun s hs t ht=>hE s (by omega) t ht)
  have hx:R.take (k+1)=R.take k++[R.getD k 0]:=by
   rw [List.take_add_one,List.getD_eq_getElem?_getD,List.getElem?_eq_getElem (by omega)];rfl
  have hrange:=canon_range E k
  rw [hx,firsts_snoc]
  rcases look_spec E (canon E k).1 k k (Nat.le_refl _) with ⟨l1,l2⟩|⟨t, -,t2,t3,t4, -⟩
  ·have hno : c (R.getD k 0) ∉ (firsts c (R.take k)).map c := by
     rw [firsts_mem]
     intro hm
     obtain ⟨z,hz,hzc⟩:=List.mem_map.1 hm
     obtain ⟨j,hj,rfl⟩:=List.getElem_of_mem hz
     rw [List.length_take] at hj
     have hjk:j<k:=by omega
     have e:=l2 j (by omega) hjk
     have:E j k=true:=(hE k (by omega) j hjk).2 (by
      rw [List.getD_eq_getElem?_getD (i:=j),List.getElem?_eq_getElem (by omega)]
      rw [List.getElem_take] at hzc
      exact hzc)
     rw [e] at this;cases this
   rw [if_neg hno,canon_new E (by rw [l1];decide)]
   refine ⟨by simp only [List.length_append,List.length_singleton];omega,fun j hj=> ?_,fun j hj=> ?_⟩
   ·simp only
    by_cases e:j=k
    ·subst e
     rw [List.getD_eq_getElem?_getD,List.getElem?_append_right (by rw [canon_length];omega),canon_length,idxC_new c hno,h1];simp
    rw [List.getD_eq_getElem?_getD,List.getElem?_append_left (by rw [canon_length];omega),←List.getD_eq_getElem?_getD,h2 j (by omega),idxC_append c (h3 j (by omega))]
   rw [List.map_append,List.mem_append]
   by_cases e:j=k
   ·subst e;exact .inr (by simp)
   exact .inl (h3 j (by omega))
  have hc:c (R.getD t 0)=c (R.getD k 0):=(hE k (by omega) t t2).1 t3
  have hin:c (R.getD k 0)∈(firsts c (R.take k)).map c:=by rw [←hc];exact h3 t t2
  have hge:¬look E (canon E k).1 k k<0:=by rw [t4];have:=(hrange.2.2 t t2).1;omega
  rw [if_pos hin,canon_old E hge]
  refine ⟨h1,fun j hj=> ?_,fun j hj=> ?_⟩
  ·simp only
   by_cases e:j=k
   ·subst e
    rw [List.getD_eq_getElem?_getD,List.getElem?_append_right (by rw [canon_length];omega),canon_length]
    simp only [Nat.sub_self,List.getElem?_cons_zero,Option.getD_some]
    rw [t4,h2 t t2,idxC_congr c hc]
   rw [List.getD_eq_getElem?_getD,List.getElem?_append_left (by rw [canon_length];omega),←List.getD_eq_getElem?_getD,h2 j (by omega)]
  by_cases e:j=k
  ·subst e;exact hin
  exact h3 j (by omega)
namespace Mach
variable {m:Mach}
theorem part_canon (ok:m.Ok) {k:Nat} (hk:0<k):∃E:Nat→Nat→Bool,(∀s,s<m.next.length→∀t,t<s→(E t s=true↔m.eqv k t s))∧m.part k=(canon E m.next.length).1:=by
 obtain ⟨k,rfl⟩:∃j,k=j+1:=⟨k-1,by omega⟩
 exact ⟨m.sameR (m.part k),fun s hs t ht=>sameR_iff ok k s hs t ht,part_succ m k⟩
def minF (m:Mach):Mach:=
 {inputs:=m.inputs,start:=0,next:=(firsts m.cl m.reach).map (fun x=>(m.next.getD x.toNat []).map (idxC m.cl (firsts m.cl m.reach))),out:=(firsts m.cl m.reach).map fun x=>m.out.getD x.toNat []}
theorem reps_firsts {cls:List Int} {c:Int→Int} {R:List Int} (hl:cls.length=R.length) (h:∀j,j<R.length→cls.getD j 0=idxC c (firsts c R) (R.getD j 0)):
    ∀k,k≤R.length→(reps cls k).map (fun s=>R.getD s 0)=firsts c (R.take k)
 |0,_=>by simp [reps,firsts,visitC]
 |k+1,hk=>by
  have ih:=reps_firsts hl h k (by omega)
  have hx:R.take (k+1)=R.take k++[R.getD k 0]:=by
   rw [List.take_add_one,List.getD_eq_getElem?_getD,List.getElem?_eq_getElem (by omega)];rfl
  have hlen:(reps cls k).length=(firsts c (R.take k)).length:=by rw [←ih,List.length_map]
  obtain ⟨s,hs⟩:=firsts_prefix c (R.take k) (R.drop k)
  rw [List.take_append_drop] at hs
  have hv:=h k (by omega)
  rw [hx,firsts_snoc]
  by_cases hin:c (R.getD k 0)∈(firsts c (R.take k)).map c
  ·have hlt : cls.getD k 0 < (reps cls k).length := by
     rw [hv,hs,idxC_append c hin,hlen]
     unfold idxC
     have:=List.idxOf_lt_length_of_mem hin
     rw [List.length_map] at this
     omega
   rw [if_pos hin,reps_old hlt,ih]
  have hlt : ¬ cls.getD k 0 < (reps cls k).length := by
   rw [hv,hs,hlen]
   unfold idxC
   rw [List.map_append,List.idxOf_append,if_neg hin,List.length_map]
   omega
  rw [if_neg hin,reps_new hlt,List.map_append,ih];rfl
theorem reps_lt {cls:List Int}:∀k,∀s∈reps cls k,s<k
 |0,s,h=>by simp [reps] at h
 |k+1,s,h=>by
  have ih:=reps_lt (cls:=cls) k
  simp only [reps] at h
  split at h
  ·exact Nat.lt_succ_of_lt (ih s h)
  rw [List.mem_append,List.mem_singleton] at h
  rcases h with h|rfl
  ·exact Nat.lt_succ_of_lt (ih s h)
  exact Nat.lt_succ_self _
theorem minOf_eq (h:m.err=0):m.minOf=m.minF:=by
 have ok:=m.ok_of_err h
 have okt:=trim_ok ok
 have hl:=m.trim_len
 have hle:=reach_le ok
 have n1:=ok.n1
 obtain ⟨-,hr,hp⟩:=reach_props ok
 have ht:m.trim.err=0:=err_of_ok _ okt
 have hpart:m.trim.partOf 128=m.trim.part m.reach.length:=by
  unfold partOf
  rw [if_pos ht,hl,show min (128:Int).toNat m.reach.length=m.reach.length from by omega]
 obtain ⟨E,hE,hc⟩:=part_canon okt hp
 rw [hl] at hE hc
 have hg:∀j (hj:j<m.reach.length),m.reach.getD j 0=m.reach[j]:=fun j hj=>by rw [List.getD_eq_getElem?_getD,List.getElem?_eq_getElem hj];rfl
 have hEc:∀s,s<m.reach.length→∀t,t<s→(E t s=true↔m.cl (m.reach.getD t 0)=m.cl (m.reach.getD s 0)):=fun s hs t ht=>by
  rw [hE s hs t ht,hg s hs,hg t (by omega),←trim_class ok (by omega) hs,part_iff okt _ _ _ (by omega) (by omega)]
 obtain ⟨-,h2, -⟩:=canon_firsts (E:=E) (c:=m.cl) (R:=m.reach) m.reach.length (Nat.le_refl _) hEc
 rw [List.take_length] at h2
 have hcl:(m.trim.part m.reach.length).length=m.reach.length:=by rw [part_length,hl]
 have hval:∀j,j<m.reach.length→(m.trim.part m.reach.length).getD j 0=idxC m.cl (firsts m.cl m.reach) (m.reach.getD j 0):=fun j hj=>by rw [hc];exact h2 j hj
 have hreps:=reps_firsts hcl hval m.reach.length (Nat.le_refl _)
 rw [List.take_length] at hreps
 unfold minOf
 rw [if_pos h,hpart]
 unfold minBy minF
 rw [hcl]
 generalize hF:idxC m.cl (firsts m.cl m.reach)=f at*
 rw [←hreps,List.map_map,List.map_map]
 have hrow:∀s∈reps (m.trim.part m.reach.length) m.reach.length,m.trim.minRow (m.trim.part m.reach.length) s=(m.next.getD (m.reach.getD s 0).toNat []).map f:=by
  intro s hs
  have hsl:=reps_lt _ s hs
  unfold minRow
  have e:m.trim.next.getD s []=m.trimRow (m.reach[s]):=getD_map _ _ _ hsl
  rw [e,hg s hsl]
  unfold trimRow
  rw [List.map_map]
  apply List.map_congr_left
  intro x hx
  have hxr:x∈m.reach:=reach_closed ok (List.getElem_mem hsl) hx
  have hlt:=List.idxOf_lt_length_of_mem hxr
  have hn:numOf m.reach x=(m.reach.idxOf x:Nat):=by unfold numOf;rw [if_pos hxr]
  simp only [Function.comp]
  rw [hn,Int.toNat_natCast,hval _ hlt,hg _ hlt,List.getElem_idxOf]
 have hout:∀s∈reps (m.trim.part m.reach.length) m.reach.length,m.trim.out.getD s []=m.out.getD (m.reach.getD s 0).toNat []:=by
  intro s hs
  have hsl:=reps_lt _ s hs
  rw [hg s hsl]
  exact getD_map (fun s:Int=>m.out.getD s.toNat []) _ _ hsl
 rw [List.map_congr_left hrow,List.map_congr_left hout]
 rfl
end Mach
def posC (c:Int→Int) (l:List Int) (v:Int):Int:=if v∈l.map c then ((l.map c).idxOf v:Nat) else -1
theorem posC_in {c:Int→Int} {l:List Int} {x:Int} (h:c x∈l.map c):posC c l (c x)=idxC c l x:=by unfold posC idxC;rw [if_pos h]
structure NumC (n:Nat) (c:Int→Int) (l num:List Int):Prop where
 len:num.length=n
 val:∀v,v<n→num[v]? =some (posC c l v)
theorem NumC.init {n:Nat} {c:Int→Int} {num:List Int} (h:num=List.replicate n (-1)):NumC n c [] num:=by
 subst h
 exact ⟨by simp,fun v hv=>by rw [List.getElem?_replicate,if_pos hv];simp [posC]⟩
theorem NumC.push {n:Nat} {c:Int→Int} {l num:List Int} (h:NumC n c l num) {x:Int} {v:Nat} (hv:v<n) (hx:c x=v) (hn:c x∉l.map c):NumC n c (l++[x]) (num.set v l.length):=by
 refine ⟨by rw [List.length_set];exact h.len,fun u hu=> ?_⟩
 by_cases e:u=v
 ·subst e
  rw [List.getElem?_set_self (by rw [h.len];exact hu),←hx,posC_in (by simp),idxC_new c hn]
 rw [List.getElem?_set_ne (by omega),h.val u hu]
 unfold posC
 rw [List.map_append,List.map_cons,List.map_nil,hx]
 by_cases hm:(u:Int)∈l.map c
 ·rw [if_pos hm,if_pos (by rw [List.mem_append];exact .inl hm),List.idxOf_append,if_pos hm]
 have hm2 : (u : Int) ∉ l.map c ++ [(v : Int)] := by
  rw [List.mem_append,List.mem_singleton]
  intro h1
  rcases h1 with h1|h1
  ·exact hm h1
  omega
 rw [if_neg hm,if_neg hm2]
theorem Mach.cl_range {m:Mach} (ok:m.Ok) {x:Int} (_h0:0≤x) (h1:x<m.next.length):0≤m.cl x∧m.cl x<m.next.length:=by
 obtain ⟨E, -,hc⟩:=Mach.part_canon ok ok.n0
 have h:=canon_range E m.next.length
 have h2:=h.2.2 x.toNat (by omega)
 unfold Mach.cl
 rw [hc]
 omega
theorem visitC_all (c:Int→Int) {Q:Int→Prop}:∀(r l:List Int),(∀x∈l,Q x)→(∀x∈r,Q x)→∀x∈visitC c l r,Q x
 |[],_,hl,_=>hl
 |t::r,l,hl,hr=>by
  simp only [visitC]
  refine visitC_all c r _ ?_ fun x hx=>hr x (by simp [hx])
  split
  ·exact hl
  intro x hx
  rw [List.mem_append,List.mem_singleton] at hx
  rcases hx with hx|rfl
  ·exact hl x hx
  exact hr _ (by simp)
theorem visitC_nodup (c:Int→Int):∀(r l:List Int),(l.map c).Nodup→((visitC c l r).map c).Nodup
 |[],_,h=>h
 |t::r,l,h=>by
  simp only [visitC]
  refine visitC_nodup c r _ ?_
  split
  ·exact h
  rename_i hn
  rw [List.map_append,List.nodup_append]
  refine ⟨h,by simp,fun a ha b hb=> ?_⟩
  simp only [List.map_cons,List.map_nil,List.mem_singleton] at hb
  subst hb
  intro e
  exact hn (e▸ha)
structure Good (m:Mach) (l:List Int):Prop where
 range:∀x∈l,0≤x∧x<m.next.length
 nodup:(l.map m.cl).Nodup
theorem Good.le {m:Mach} (ok:m.Ok) {l:List Int} (h:Good m l):l.length≤m.next.length:=by
 have:=nodup_le m.next.length (l.map m.cl) h.nodup (fun y hy=>by
  obtain ⟨x,hx,rfl⟩:=List.mem_map.1 hy
  obtain ⟨h0,h1⟩:=h.range x hx
  exact Mach.cl_range ok h0 h1)
 rwa [List.length_map] at this
theorem Good.visit {m:Mach} {l r:List Int} (h:Good m l) (hr:∀x∈r,0≤x∧x<m.next.length):Good m (visitC m.cl l r):=
 ⟨visitC_all _ r l h.range hr,visitC_nodup _ r l h.nodup⟩
theorem Good.qbfs {m:Mach} (ok:m.Ok):∀i,Good m (m.qbfs m.cl i)
 |0=>⟨fun x hx=>by simp [Mach.qbfs] at hx;subst hx;exact ⟨ok.s0,ok.s1⟩,by simp [Mach.qbfs]⟩
 |i+1=>by
  have ih:=Good.qbfs ok i
  rw [Mach.qbfs_succ]
  split
  ·rename_i h
   refine ih.visit fun x hx=>Mach.row_range ok ?_ hx
   have:=ih.range _ (List.getElem_mem h)
   rw [List.getD_eq_getElem?_getD,List.getElem?_eq_getElem h,Option.getD_some]
   omega
  exact ih
end Go.Proofs.YtjagagpcjpcjjaaGreat
