/- Several texts, one behind the other. Conditions: as each of them says. -/
import Derived.Test.YtjmbphjgiodioaaGreatDoorMv7
import Derived.Laws.BytesArg
set_option maxRecDepth 100000
set_option maxHeartbeats 32000000
namespace Go.Proofs.YtjmbphjgiodioaaGreatDoor
open Go.RowKit
structure By where
 n:Int
instance:GR By where
 sz:=1
 rep _ _ cs x:=cs=[.int .u8 x.n]∧0≤x.n∧x.n<256
 len h:=by rw [h.1];rfl
 ext _ h:=h
theorem info_byte:(Tryz.prog.info? 5).map (fun i=>(i.zero,i.size,i.bytes))=some (some (.int .u8 0),1,1):=by kernel_rfl
section
variable {B:Nat} {M:Nat→Prop} {w:World} {T:TypeId} {a:Option Addr} {c:Nat}
theorem Ow.at_by {l:List By} (h:Ow B M w T (.slice a l.length c) l) {j:Nat} (hj:j<l.length):
    ∃g,a=some ⟨g,0,none⟩∧w.cell? ⟨g,0+j,none⟩=some (.int .u8 ((l.map By.n).getD j 0)):=by
 obtain ⟨g,rfl,_,_⟩:=ow_some h (by omega)
 obtain ⟨xs,h1,h2⟩:=h
 obtain ⟨h3,h4⟩:=h2 j l[j] (by simp [hj])
 refine ⟨g,rfl,?_⟩
 rw [Nat.zero_add,h1.cellAt j (by simpa [GR.sz] using hj),take_drop_one h3]
 simp [List.getD_eq_getElem?_getD,hj]
end
section
variable {P:Program} {w:World} {o:Oper} {a:Act} {ops:Array Oper} {rest:List Oper} {Q:Exit→Act→World→Prop}
theorem wpList_push_by {l:List By} {s x:Operand} {t e:TypeId} {B:Nat} {v:Value} {g:Nat} {c:Nat} {y:By} (hg:o.guard=none) (hop:o.op= .call {callee:= .builtin .append,args:= #[s,x],argTypes:= #[t,t]})
    (ht:P.underlying t=some (.slice e)) (hi:(P.info? e).map (fun i=>(i.zero,i.size,i.bytes))=some (some (.int .u8 0),1,1))
    (hs:a.eval s=v) (hx:a.eval x= .slice (some ⟨g,0,none⟩) 1 c) (hown:Ow B (fun k=>B≤k) w e v l) (hnew:w.cell? ⟨g,0,none⟩=some (.int .u8 y.n)) (hy:0≤y.n∧y.n<256)
    (hlen:l.length<1000000000000) (hB:B≤w.heap.size)
    (h:∀(a':Option Addr) (c':Nat) (l':List By) (w':World),Hid (l'=l++[y])→Ow B (fun k=>B≤k) w' e (.slice a' l'.length c') l'→Below B w w'→
     wpList P ops Q rest (a.put o.dst (.slice a' l'.length c')) w'):wpList P ops Q (o::rest) a w:=by
 refine wpList_push hg s x t hop e (.int .u8 0) 1 1 ht hi rfl (by decide) B (fun k=>B≤k) v l hs rfl hown (fun k hk=>(hown.lt k hk).1) ⟨g,0,none⟩ c [.int .u8 y.n] y hx ⟨rfl,hy⟩ ?_ ?_ (by omega) (by unfold maxLen;omega) hB ?_
 ·intro j u hj
  match j,hj with
  |0,hj=>simp at hj;subst hj;simpa [Addr.add] using hnew
 ·intro u hu;simp at hu;subst hu;rfl
 intro a' c' l' w' h1 h2 h3
 exact h a' c' l' w' h1 h2 ((Below.refl _ _).grown h3 hB (fun k hk=>(hown.lt k hk).1))
end
def dg (k:Nat):Int:=if k<10 then 48+k else 87+k
def vd (b:By):Nat:=if b.n<58 then (b.n-48).toNat else (b.n-87).toNat
theorem vd_dg {k:Nat} (_h:k<36):vd ⟨dg k⟩=k:=by
 unfold vd dg
 by_cases e:k<10
 ·rw [if_pos e,if_pos (by simp;omega)];simp;omega
 rw [if_neg e,if_neg (by simp;omega)];simp;omega
theorem dg_r {k:Nat} (_h:k<36):48≤dg k∧dg k<128:=by
 unfold dg;split<;>omega
def t36 (u:Nat):List By:=if h:u<36 then [⟨dg u⟩] else t36 (u/36)++[⟨dg (u%36)⟩]
 termination_by u
 decreasing_by omega
theorem t36_low {u:Nat} (h:u<36):t36 u=[⟨dg u⟩]:=by rw [t36,dif_pos h]
theorem t36_up {u:Nat} (h:¬u<36):t36 u=t36 (u/36)++[⟨dg (u%36)⟩]:=by rw [t36,dif_neg h]
def vt (l:List By):Nat:=l.foldl (fun a b=>a*36+vd b) 0
theorem vt_t36 (u:Nat):vt (t36 u)=u:=by
 induction u using Nat.strongRecOn with
 |_ u ih=>
  by_cases h:u<36
  ·rw [t36_low h];unfold vt;simp [vd_dg h]
  rw [t36_up h]
  have e:=ih (u/36) (by omega)
  unfold vt at*
  rw [List.foldl_append,e]
  simp only [List.foldl_cons,List.foldl_nil]
  rw [vd_dg (by omega)]
  omega
theorem t36_mem (u:Nat):∀b∈t36 u,48≤b.n∧b.n<128:=by
 induction u using Nat.strongRecOn with
 |_ u ih=>
  intro b hb
  by_cases h:u<36
  ·rw [t36_low h] at hb;simp at hb;subst hb;exact dg_r h
  rw [t36_up h] at hb
  rcases List.mem_append.1 hb with hb|hb
  ·exact ih (u/36) (by omega) b hb
  simp at hb;subst hb;exact dg_r (by omega)
theorem t36_len (u:Nat):∀n,u<36 ^ (n+1)→(t36 u).length≤n+1:=by
 intro n
 induction n generalizing u with
 |zero=>intro h;rw [t36_low (by simpa using h)];simp
 |succ n ih=>
  intro h
  by_cases h1:u<36
  ·rw [t36_low h1];simp
  rw [t36_up h1,List.length_append]
  have:=ih (u/36) (by
   rw [Nat.div_lt_iff_lt_mul (by omega)]
   rw [Nat.pow_succ] at h
   exact h)
  simp;omega
def k36 (x:Int):List By:=if x<0 then ⟨45⟩::t36 (-x).toNat else t36 x.toNat
theorem k36_inj {x y:Int} (h:k36 x=k36 y):x=y:=by
 unfold k36 at h
 by_cases hx:x<0<;>by_cases hy:y<0
 ·rw [if_pos hx,if_pos hy] at h
  simp only [List.cons.injEq,true_and] at h
  have:=congrArg vt h
  rw [vt_t36,vt_t36] at this;omega
 ·rw [if_pos hx,if_neg hy] at h
  have:=t36_mem y.toNat ⟨45⟩ (by rw [←h];simp)
  simp at this
 ·rw [if_neg hx,if_pos hy] at h
  have:=t36_mem x.toNat ⟨45⟩ (by rw [h];simp)
  simp at this
 rw [if_neg hx,if_neg hy] at h
 have:=congrArg vt h
 rw [vt_t36,vt_t36] at this;omega
theorem k36_mem (x:Int):∀b∈k36 x,33≤b.n∧b.n<128:=by
 intro b hb
 unfold k36 at hb
 split at hb
 ·rcases List.mem_cons.1 hb with rfl|hb
  ·simp
  have:=t36_mem _ b hb;omega
 have:=t36_mem _ b hb;omega
theorem p36:(36:Nat) ^ (12+1)=170581728179578208256:=by decide
theorem k36_len {x:Int} (h: -9223372036854775808≤x∧x≤9223372036854775807):(k36 x).length≤14:=by
 unfold k36
 split
 ·have:=t36_len (-x).toNat 12 (by rw [p36];omega)
  simp;omega
 have:=t36_len x.toNat 12 (by rw [p36];omega)
 omega
def keyL:List Int→List By
 |[]=>[]
 |x::l=>k36 x++(⟨32⟩::keyL l)
theorem split_at {a b c d:List By} (ha:∀y∈a,33≤y.n) (hb:∀y∈b,33≤y.n) (h:a++((⟨32⟩:By)::c)=b++(⟨32⟩::d)):a=b∧c=d:=by
 induction a generalizing b with
 |nil=>
  cases b with
  |nil=>simpa using h
  |cons y b=>
   simp only [List.nil_append,List.cons_append,List.cons.injEq] at h
   have:=hb y (by simp)
   rw [←h.1] at this;simp at this
 |cons x a ih=>
  cases b with
  |nil=>
   simp only [List.nil_append,List.cons_append,List.cons.injEq] at h
   have:=ha x (by simp)
   rw [h.1] at this;simp at this
  |cons y b=>
   simp only [List.cons_append,List.cons.injEq] at h
   obtain ⟨rfl,h⟩:=h
   have:=ih (b:=b) (fun y hy=>ha y (by simp [hy])) (fun y hy=>hb y (by simp [hy])) h
   exact ⟨by rw [this.1],this.2⟩
theorem keyL_inj:∀{x y:List Int},keyL x=keyL y→x=y
 |[],[],_=>rfl
 |[],y::m,h=>by
  have:=congrArg List.length h
  simp [keyL] at this
 |x::l,[],h=>by
  have:=congrArg List.length h
  simp [keyL] at this
 |x::l,y::m,h=>by
  simp only [keyL] at h
  obtain ⟨h1,h2⟩:=split_at (fun b hb=>(k36_mem x b hb).1) (fun b hb=>(k36_mem y b hb).1) h
  rw [k36_inj h1,keyL_inj h2]
theorem keyL_snoc (l:List Int) (x:Int):keyL (l++[x])=keyL l++k36 x++[⟨32⟩]:=by
 induction l with
 |nil=>simp [keyL]
 |cons y l ih=>simp only [List.cons_append,keyL,ih];simp
theorem keyL_mem:∀(l:List Int),∀b∈keyL l,0≤b.n∧b.n<256
 |[],b,hb=>by simp [keyL] at hb
 |x::l,b,hb=>by
  simp only [keyL] at hb
  rcases List.mem_append.1 hb with hb|hb
  ·have:=k36_mem x b hb;omega
  rcases List.mem_cons.1 hb with rfl|hb
  ·simp
  exact keyL_mem l b hb
theorem keyL_len:∀(l:List Int),(∀x∈l, -9223372036854775808≤x∧x≤9223372036854775807)→(keyL l).length≤15*l.length
 |[],_=>by simp [keyL]
 |x::l,h=>by
  have h1:=k36_len (h x (by simp))
  have h2:=keyL_len l fun y hy=>h y (by simp [hy])
  simp [keyL];omega
def keyN (l:List Int):List Int:=(keyL l).map By.n
theorem keyN_inj {x y:List Int} (h:keyN x=keyN y):x=y:=by
 refine keyL_inj (List.map_inj_right (fun a b hab=> ?_) |>.1 h)
 cases a;cases b;simpa using hab
abbrev byV (y:By):Value:= .int .u8 y.n
theorem Sl.at_by {M:Nat→Prop} {w:World} {a:Option Addr} {c:Nat} {l:List By} (h:Sl M w a c l) {j:Nat} (hj:j<l.length):
    ∃b off x,a=some ⟨b,off,none⟩∧w.cell? ⟨b,off+j,none⟩=some (.int .u8 x.n)∧Hid (l[j]? =some x)∧Hid (0≤x.n∧x.n<256):=by
 obtain ⟨b,off,cs,ha,_,_,⟨rfl,h1⟩,hc⟩:=h.2.2 j l[j] (by simp [hj])
 exact ⟨b,off,l[j],ha,by simpa [GR.sz] using hc 0 _ rfl,by unfold Hid;simp [hj],h1⟩
section
variable {M:Nat→Prop} {w:World}
end
section
variable {P:Program} {w:World} {o:Oper} {a:Act} {ops:Array Oper} {rest:List Oper} {Q:Exit→Act→World→Prop}
theorem wpList_app_by {l0 l1:List By} {s x:Operand} {t e:TypeId} {B:Nat} {M:Nat→Prop} {v:Value} {ad:Addr} {c:Nat} (hg:o.guard=none) (hop:o.op= .call {callee:= .builtin .append,args:= #[s,x],argTypes:= #[t,t]})
    (ht:P.underlying t=some (.slice e)) (hi:(P.info? e).map (fun i=>(i.zero,i.size,i.bytes))=some (some (.int .u8 0),1,1))
    (hs:a.eval s=v) (hx:a.eval x= .slice (some ad) l1.length c) (hown:Ow B (fun k=>B≤k) w e v l0) (hsrc:Sl M w (some ad) c l1)
    (hlen:l0.length+l1.length<1000000000000) (hB:B≤w.heap.size)
    (h:∀(a':Option Addr) (c':Nat) (l':List By) (w':World),Hid (l'=l0++l1)→Ow B (fun k=>B≤k) w' e (.slice a' l'.length c') l'→Below B w w'→
     wpList P ops Q rest (a.put o.dst (.slice a' l'.length c')) w'):wpList P ops Q (o::rest) a w:=by
 obtain ⟨i,hi1,hi2,hi3,hi4⟩:=info_parts hi
 have hown0:=hown
 obtain ⟨xs,hr,hrep⟩:=hown
 refine wpList_append_own w hg s x t hop B e i (.int .u8 0) 1 1 ht hi1 hi2 hi3 hi4 rfl (by decide) v l0.length xs hs hr ad l1.length c (l1.map byV) hx (by simp) ?_ ?_ (by unfold maxLen;omega) (by omega) hB ?_
 ·intro j u hj
  rw [List.getElem?_map] at hj
  obtain ⟨y,hy,rfl⟩:=Option.map_eq_some_iff.1 hj
  have hjl:j<l1.length:=by
   by_cases e:j<l1.length
   ·exact e
   rw [List.getElem?_eq_none (by omega)] at hy;simp at hy
  obtain ⟨b,off,z,had,hc,hz,_⟩:=hsrc.at_by hjl
  have had':ad=⟨b,off,none⟩:=by simpa using had
  have hz':y=z:=by have:=hz.out;rw [hy] at this;simpa using this
  rw [had',hz',Addr.add]
  split
  ·rename_i h0;subst h0;simpa using hc
  exact hc
 ·intro u hu
  obtain ⟨y,_,rfl⟩:=List.mem_map.1 hu
  rfl
 intro v' w' ho hgr hiff
 have hl0:xs.length=l0.length:=by have:=hr.1;simpa [GR.sz] using this
 have hpush:Ow B (fun k=>B≤k) w' e v' (l0++l1):=by
  refine ⟨xs++l1.map byV,by simpa [GR.sz] using ho,fun j y hj=> ?_⟩
  by_cases hlt:j<l0.length
  ·rw [List.getElem?_append_left hlt] at hj
   have:=hrep j y hj
   simp only [GR.sz,Nat.mul_one] at this ⊢
   rw [List.drop_append_of_le_length (by omega),List.take_append_of_le_length (by simp;omega)]
   exact this
  rw [List.getElem?_append_right (by omega)] at hj
  have hjl:j-l0.length<l1.length:=by
   by_cases e:j-l0.length<l1.length
   ·exact e
   rw [List.getElem?_eq_none (by omega)] at hj;simp at hj
  obtain ⟨b,off,z,_,_,hz,hzi⟩:=hsrc.at_by hjl
  have hz':y=z:=by have:=hz.out;rw [hj] at this;simpa using this
  subst hz'
  simp only [GR.sz,Nat.mul_one]
  have e1:((xs++l1.map byV).drop j).take 1=[byV y]:=by
   apply List.ext_getElem?
   intro q
   rcases q with _|q
   ·rw [List.getElem?_take,if_pos (by omega),List.getElem?_drop,List.getElem?_append_right (by omega),List.getElem?_map,hl0,Nat.add_zero,hj]
    rfl
   rw [List.getElem?_take,if_neg (by omega)];rfl
  rw [e1]
  exact ⟨rfl,hzi.out⟩
 obtain ⟨a',c',hv,_,_⟩:=hpush.shape
 rw [hv]
 rw [hv] at hpush
 exact h a' c' _ w' rfl hpush ((Below.refl _ _).grown hgr hB (fun k hk=>(hown0.lt k hk).1))
end
end Go.Proofs.YtjmbphjgiodioaaGreatDoor
