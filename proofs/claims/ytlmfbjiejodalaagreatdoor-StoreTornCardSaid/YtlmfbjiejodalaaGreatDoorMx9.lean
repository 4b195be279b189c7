/- Several texts, one behind the other. Conditions: as each of them says. -/
import Derived.Test.YtlmfbjiejodalaaGreatDoorMx7
import Derived.Laws.BytesArg
set_option maxRecDepth 100000
set_option maxHeartbeats 32000000
namespace Go.Proofs.YtlmfbjiejodalaaGreatDoor
open Go.RowKit
structure By where
 n:Int
instance:GR By where
 sz:=1
 rep _ _ cs x:=cs=[.int .u8 x.n]∧0≤x.n∧x.n<256
 len h:=by rw [h.1];rfl
 ext _ h:=h
theorem info_byte:(Tryz.prog.info? 5).map (fun i=>(i.zero,i.size,i.bytes))=some (some (.int .u8 0),1,1):=by kernel_rfl
section
variable {B:Nat} {M:Nat→Prop} {w:World} {T:TypeId} {a:Option Addr} {c:Nat}
theorem Ow.at_by {l:List By} (h:Ow B M w T (.slice a l.length c) l) {j:Nat} (hj:j<l.length):
    ∃g,a=some ⟨g,0,none⟩∧w.cell? ⟨g,0+j,none⟩=some (.int .u8 ((l.map By.n).getD j 0)):=by
 obtain ⟨g,rfl,_,_⟩:=ow_some h (by omega)
 obtain ⟨xs,h1,h2⟩:=h
 obtain ⟨h3,h4⟩:=h2 j l[j] (by simp [hj])
 refine ⟨g,rfl,?_⟩
 rw [Nat.zero_add,h1.cellAt j (by simpa [GR.sz] using hj),take_drop_one h3]
 simp [List.getD_eq_getElem?_getD,hj]
end
section
variable {P:Program} {w:World} {o:Oper} {a:Act} {ops:Array Oper} {rest:List Oper} {Q:Exit→Act→World→Prop}
theorem wpList_push_by {l:List By} {s x:Operand} {t e:TypeId} {B:Nat} {v:Value} {g:Nat} {c:Nat} {y:By} (hg:o.guard=none) (hop:o.op= .call {callee:= .builtin .append,args:= #[s,x],argTypes:= #[t,t]})
    (ht:P.underlying t=some (.slice e)) (hi:(P.info? e).map (fun i=>(i.zero,i.size,i.bytes))=some (some (.int .u8 0),1,1))
    (hs:a.eval s=v) (hx:a.eval x= .slice (some ⟨g,0,none⟩) 1 c) (hown:Ow B (fun k=>B≤k) w e v l) (hnew:w.cell? ⟨g,0,none⟩=some (.int .u8 y.n)) (hy:0≤y.n∧y.n<256)
    (hlen:l.length<1000000000000) (hB:B≤w.heap.size)
    (h:∀(a':Option Addr) (c':Nat) (l':List By) (w':World),Hid (l'=l++[y])→Ow B (fun k=>B≤k) w' e (.slice a' l'.length c') l'→Below B w w'→
     wpList P ops Q rest (a.put o.dst (.slice a' l'.length c')) w'):wpList P ops Q (o::rest) a w:=by
 refine wpList_push hg s x t hop e (.int .u8 0) 1 1 ht hi rfl (by decide) B (fun k=>B≤k) v l hs rfl hown (fun k hk=>(hown.lt k hk).1) ⟨g,0,none⟩ c [.int .u8 y.n] y hx ⟨rfl,hy⟩ ?_ ?_ (by omega) (by unfold maxLen;omega) hB ?_
 ·intro j u hj
  match j,hj with
  |0,hj=>simp at hj;subst hj;simpa [Addr.add] using hnew
 ·intro u hu;simp at hu;subst hu;rfl
 intro a' c' l' w' h1 h2 h3
 exact h a' c' l' w' h1 h2 ((Below.refl _ _).grown h3 hB (fun k hk=>(hown.lt k hk).1))
end
abbrev byV (y:By):Value:= .int .u8 y.n
theorem Sl.at_by {M:Nat→Prop} {w:World} {a:Option Addr} {c:Nat} {l:List By} (h:Sl M w a c l) {j:Nat} (hj:j<l.length):
    ∃b off x,a=some ⟨b,off,none⟩∧w.cell? ⟨b,off+j,none⟩=some (.int .u8 x.n)∧Hid (l[j]? =some x)∧Hid (0≤x.n∧x.n<256):=by
 obtain ⟨b,off,cs,ha,_,_,⟨rfl,h1⟩,hc⟩:=h.2.2 j l[j] (by simp [hj])
 exact ⟨b,off,l[j],ha,by simpa [GR.sz] using hc 0 _ rfl,by unfold Hid;simp [hj],h1⟩
theorem Sl.dropB {M:Nat→Prop} {w:World} {a:Option Addr} {c:Nat} {l:List By} (h:Sl M w a c l) {i:Nat} (hi:i≤l.length):Sl M w (dA a c i) (c-i) (l.drop i):=by
 refine ⟨by have:=h.1;rw [List.length_drop];omega,by have:=h.2.1;omega,fun j x hj=> ?_⟩
 have hj2:l[i+j]? =some x:=by rw [List.getElem?_drop] at hj;exact hj
 have hjl:i+j<l.length:=by
  by_cases e:i+j<l.length
  ·exact e
  rw [List.getElem?_eq_none (by omega)] at hj2;simp at hj2
 obtain ⟨b,off,cs,ha,hb,hm,hr,hc⟩:=h.2.2 (i+j) x hj2
 refine ⟨b,off+i,cs,?_,hb,hm,hr,fun k u hk=> ?_⟩
 ·have:=h.1
  unfold dA
  rw [if_neg (by omega),ha]
  simp only [Option.map_some,Addr.add]
  split
  ·rename_i h0;subst h0;rfl
  rfl
 have:=hc k u hk
 have e:off+i+j*GR.sz By+k=off+(i+j)*GR.sz By+k:=by simp only [GR.sz];omega
 rw [e];exact this
section
variable {M:Nat→Prop} {w:World}
theorem Sl.litB {xs:List By} {vs:Array Value} {b n:Nat} {T:TypeId} (h:w.heap[b]? =some (.cells vs T (0,0))) (hv:vs.toList=xs.map byV) (hM:¬M b) (hx:∀x∈xs,0≤x.n∧x.n<256) (hn:n=xs.length) (hs:n≤maxLen):
    Sl M w (some ⟨b,0,none⟩) n xs:=by
 refine ⟨by omega,hs,fun j x hj=>⟨b,0,[byV x],rfl,?_,hM,⟨rfl,hx x (List.mem_of_getElem? hj)⟩,fun i u hi=> ?_⟩⟩
 ·exact (Array.getElem?_eq_some_iff.1 h).1
 obtain ⟨rfl, rfl⟩ : i = 0 ∧ u = byV x := by
  rcases i with _|i
  ·simpa using hi.symm
  simp at hi
 have e:vs[j]? =some (byV x):=by rw [←Array.getElem?_toList,hv,List.getElem?_map,hj];rfl
 rw [cell_of_row _ _ _ _ _ _ h]
 simpa [GR.sz] using e
end
section
variable {P:Program} {w:World} {o:Oper} {a:Act} {ops:Array Oper} {rest:List Oper} {Q:Exit→Act→World→Prop}
theorem wpList_app_by {l0 l1:List By} {s x:Operand} {t e:TypeId} {B:Nat} {M:Nat→Prop} {v:Value} {ad:Addr} {c:Nat} (hg:o.guard=none) (hop:o.op= .call {callee:= .builtin .append,args:= #[s,x],argTypes:= #[t,t]})
    (ht:P.underlying t=some (.slice e)) (hi:(P.info? e).map (fun i=>(i.zero,i.size,i.bytes))=some (some (.int .u8 0),1,1))
    (hs:a.eval s=v) (hx:a.eval x= .slice (some ad) l1.length c) (hown:Ow B (fun k=>B≤k) w e v l0) (hsrc:Sl M w (some ad) c l1)
    (hlen:l0.length+l1.length<1000000000000) (hB:B≤w.heap.size)
    (h:∀(a':Option Addr) (c':Nat) (l':List By) (w':World),Hid (l'=l0++l1)→Ow B (fun k=>B≤k) w' e (.slice a' l'.length c') l'→Below B w w'→
     wpList P ops Q rest (a.put o.dst (.slice a' l'.length c')) w'):wpList P ops Q (o::rest) a w:=by
 obtain ⟨i,hi1,hi2,hi3,hi4⟩:=info_parts hi
 have hown0:=hown
 obtain ⟨xs,hr,hrep⟩:=hown
 refine wpList_append_own w hg s x t hop B e i (.int .u8 0) 1 1 ht hi1 hi2 hi3 hi4 rfl (by decide) v l0.length xs hs hr ad l1.length c (l1.map byV) hx (by simp) ?_ ?_ (by unfold maxLen;omega) (by omega) hB ?_
 ·intro j u hj
  rw [List.getElem?_map] at hj
  obtain ⟨y,hy,rfl⟩:=Option.map_eq_some_iff.1 hj
  have hjl:j<l1.length:=by
   by_cases e:j<l1.length
   ·exact e
   rw [List.getElem?_eq_none (by omega)] at hy;simp at hy
  obtain ⟨b,off,z,had,hc,hz,_⟩:=hsrc.at_by hjl
  have had':ad=⟨b,off,none⟩:=by simpa using had
  have hz':y=z:=by have:=hz.out;rw [hy] at this;simpa using this
  rw [had',hz',Addr.add]
  split
  ·rename_i h0;subst h0;simpa using hc
  exact hc
 ·intro u hu
  obtain ⟨y,_,rfl⟩:=List.mem_map.1 hu
  rfl
 intro v' w' ho hgr hiff
 have hl0:xs.length=l0.length:=by have:=hr.1;simpa [GR.sz] using this
 have hpush:Ow B (fun k=>B≤k) w' e v' (l0++l1):=by
  refine ⟨xs++l1.map byV,by simpa [GR.sz] using ho,fun j y hj=> ?_⟩
  by_cases hlt:j<l0.length
  ·rw [List.getElem?_append_left hlt] at hj
   have:=hrep j y hj
   simp only [GR.sz,Nat.mul_one] at this ⊢
   rw [List.drop_append_of_le_length (by omega),List.take_append_of_le_length (by simp;omega)]
   exact this
  rw [List.getElem?_append_right (by omega)] at hj
  have hjl:j-l0.length<l1.length:=by
   by_cases e:j-l0.length<l1.length
   ·exact e
   rw [List.getElem?_eq_none (by omega)] at hj;simp at hj
  obtain ⟨b,off,z,_,_,hz,hzi⟩:=hsrc.at_by hjl
  have hz':y=z:=by have:=hz.out;rw [hj] at this;simpa using this
  subst hz'
  simp only [GR.sz,Nat.mul_one]
  have e1:((xs++l1.map byV).drop j).take 1=[byV y]:=by
   apply List.ext_getElem?
   intro q
   rcases q with _|q
   ·rw [List.getElem?_take,if_pos (by omega),List.getElem?_drop,List.getElem?_append_right (by omega),List.getElem?_map,hl0,Nat.add_zero,hj]
    rfl
   rw [List.getElem?_take,if_neg (by omega)];rfl
  rw [e1]
  exact ⟨rfl,hzi.out⟩
 obtain ⟨a',c',hv,_,_⟩:=hpush.shape
 rw [hv]
 rw [hv] at hpush
 exact h a' c' _ w' rfl hpush ((Below.refl _ _).grown hgr hB (fun k hk=>(hown0.lt k hk).1))
theorem wp_app_by {K:Act→World→Prop} {l0 l1:List By} {s x:Operand} {t e:TypeId} {B:Nat} {M:Nat→Prop} {v:Value} {ad:Addr} {c:Nat} (hop:o.op= .call {callee:= .builtin .append,args:= #[s,x],argTypes:= #[t,t]})
    (ht:P.underlying t=some (.slice e)) (hi:(P.info? e).map (fun i=>(i.zero,i.size,i.bytes))=some (some (.int .u8 0),1,1))
    (hs:a.eval s=v) (hx:a.eval x= .slice (some ad) l1.length c) (hown:Ow B (fun k=>B≤k) w e v l0) (hsrc:Sl M w (some ad) c l1)
    (hlen:l0.length+l1.length<1000000000000) (hB:B≤w.heap.size)
    (h:∀(a':Option Addr) (c':Nat) (l':List By) (w':World),Hid (l'=l0++l1)→Ow B (fun k=>B≤k) w' e (.slice a' l'.length c') l'→Below B w w'→
     K (a.put o.dst (.slice a' l'.length c')) w'):o.wp P a w K Q:=by
 obtain ⟨i,hi1,hi2,hi3,hi4⟩:=info_parts hi
 have hown0:=hown
 obtain ⟨xs,hr,hrep⟩:=hown
 refine wp_append_own (w:=w) s x t hop B e i (.int .u8 0) 1 1 ht hi1 hi2 hi3 hi4 rfl (by decide) v l0.length xs hs hr ad l1.length c (l1.map byV) hx (by simp) ?_ ?_ (by unfold maxLen;omega) (by omega) hB ?_
 ·intro j u hj
  rw [List.getElem?_map] at hj
  obtain ⟨y,hy,rfl⟩:=Option.map_eq_some_iff.1 hj
  have hjl:j<l1.length:=by
   by_cases e:j<l1.length
   ·exact e
   rw [List.getElem?_eq_none (by omega)] at hy;simp at hy
  obtain ⟨b,off,z,had,hc,hz,_⟩:=hsrc.at_by hjl
  have had':ad=⟨b,off,none⟩:=by simpa using had
  have hz':y=z:=by have:=hz.out;rw [hy] at this;simpa using this
  rw [had',hz',Addr.add]
  split
  ·rename_i h0;subst h0;simpa using hc
  exact hc
 ·intro u hu
  obtain ⟨y,_,rfl⟩:=List.mem_map.1 hu
  rfl
 intro v' w' ho hgr hiff
 have hl0:xs.length=l0.length:=by have:=hr.1;simpa [GR.sz] using this
 have hpush:Ow B (fun k=>B≤k) w' e v' (l0++l1):=by
  refine ⟨xs++l1.map byV,by simpa [GR.sz] using ho,fun j y hj=> ?_⟩
  by_cases hlt:j<l0.length
  ·rw [List.getElem?_append_left hlt] at hj
   have:=hrep j y hj
   simp only [GR.sz,Nat.mul_one] at this ⊢
   rw [List.drop_append_of_le_length (by omega),List.take_append_of_le_length (by simp;omega)]
   exact this
  rw [List.getElem?_append_right (by omega)] at hj
  have hjl:j-l0.length<l1.length:=by
   by_cases e:j-l0.length<l1.length
   ·exact e
   rw [List.getElem?_eq_none (by omega)] at hj;simp at hj
  obtain ⟨b,off,z,_,_,hz,hzi⟩:=hsrc.at_by hjl
  have hz':y=z:=by have:=hz.out;rw [hj] at this;simpa using this
  subst hz'
  simp only [GR.sz,Nat.mul_one]
  have e1:((xs++l1.map byV).drop j).take 1=[byV y]:=by
   apply List.ext_getElem?
   intro q
   rcases q with _|q
   ·rw [List.getElem?_take,if_pos (by omega),List.getElem?_drop,List.getElem?_append_right (by omega),List.getElem?_map,hl0,Nat.add_zero,hj]
    rfl
   rw [List.getElem?_take,if_neg (by omega)];rfl
  rw [e1]
  exact ⟨rfl,hzi.out⟩
 obtain ⟨a',c',hv,_,_⟩:=hpush.shape
 rw [hv]
 rw [hv] at hpush
 exact h a' c' _ w' rfl hpush ((Below.refl _ _).grown hgr hB (fun k hk=>(hown0.lt k hk).1))
end
def putU:Nat→Nat→List By
 |0,u=>[⟨(u:Int)⟩]
 |f+1,u=>if u<128 then [⟨(u:Int)⟩] else ⟨((u%128+128:Nat):Int)⟩::putU f (u/128)
def zz (n:Int):Nat:=if n<0 then (-2*n-1).toNat else (2*n).toNat
def putI (n:Int):List By:=putU 9 (zz n)
def encL (l:List Int):List By:=putI l.length++(l.map putI).flatten
def encW (l:List (List Int)):List By:=putI l.length++(l.map encL).flatten
def encT (t:Tr):List By:=encL t.inn++encL t.out
def encTs (l:List Tr):List By:=putI l.length++(l.map encT).flatten
theorem putU_pos (f u:Nat):1≤(putU f u).length:=by
 cases f with
 |zero=>simp [putU]
 |succ f=>unfold putU;split<;>simp
theorem putU_le:∀f u:Nat,(putU f u).length≤f+1
 |0,u=>by simp [putU]
 |f+1,u=>by
  unfold putU;split
  ·simp
  simp only [List.length_cons];have:=putU_le f (u/128);omega
theorem putU_pos0:∀f u:Nat,∀b∈putU f u,0≤b.n
 |0,u,b,hb=>by simp [putU] at hb;subst hb;simp
 |f+1,u,b,hb=>by
  unfold putU at hb
  split at hb
  ·simp at hb;subst hb;simp
  simp only [List.mem_cons] at hb
  rcases hb with rfl|hb
  ·show (0:Int)≤((u%128+128:Nat):Int);omega
  exact putU_pos0 f (u/128) b hb
theorem putU_high:∀(f u:Nat),u<128 ^ (f+1)→∀(j:Nat) (b:By),(putU f u)[j]? =some b→(128≤b.n↔j+1<(putU f u).length)
 |0,u,h,j,b,hb=>by
  simp [putU] at hb ⊢
  obtain ⟨rfl,rfl⟩:j=0∧b=⟨(u:Int)⟩:=by
   cases j with
   |zero=>simp at hb;exact ⟨rfl,hb.symm⟩
   |succ j=>simp at hb
  simp at h ⊢;omega
 |f+1,u,h,j,b,hb=>by
  unfold putU at hb ⊢
  split at hb
  ·rename_i hu
   rw [if_pos hu]
   cases j with
   |zero=>simp at hb;subst hb;simp;omega
   |succ j=>simp at hb
  rename_i hu
  rw [if_neg hu]
  cases j with
  |zero=>
   simp at hb;subst hb
   have:=putU_pos f (u/128)
   simp only [List.length_cons]
   constructor
   ·intro _;omega
   intro _;show (128:Int)≤((u%128+128:Nat):Int);omega
  |succ j=>
   simp only [List.getElem?_cons_succ] at hb
   have h2:u/128<128 ^ (f+1):=by
    rw [Nat.pow_succ] at h
    exact Nat.div_lt_of_lt_mul (by rw [Nat.mul_comm];exact h)
   have:=putU_high f (u/128) h2 j b hb
   simp only [List.length_cons]
   omega
def valU:List By→Nat
 |[]=>0
 |b::l=>(b.n%128).toNat+128*valU l
theorem valU_put:∀(f u:Nat),u<128 ^ (f+1)→valU (putU f u)=u
 |0,u,h=>by simp at h;simp [putU,valU];omega
 |f+1,u,h=>by
  unfold putU
  split
  ·simp [valU];omega
  have h2 : u / 128 < 128 ^ (f + 1) := by
   rw [Nat.pow_succ] at h
   exact Nat.div_lt_of_lt_mul (by rw [Nat.mul_comm];exact h)
  show ((((u%128+128:Nat):Int))%128).toNat+128*valU (putU f (u/128))=u
  rw [valU_put f _ h2]
  omega
theorem putU_last:∀(f u:Nat),u<128 ^ (f+1)→1<(putU f u).length→∀b,(putU f u)[(putU f u).length-1]? =some b→0<b.n
 |0,u,h,h1,b,hb=>by simp [putU] at h1
 |f+1,u,h,h1,b,hb=>by
  unfold putU at h1 hb
  split at hb
  ·rename_i hu;rw [if_pos hu] at h1;simp at h1
  rename_i hu
  have h2:u/128<128 ^ (f+1):=by
   rw [Nat.pow_succ] at h
   exact Nat.div_lt_of_lt_mul (by rw [Nat.mul_comm];exact h)
  have hp:=putU_pos f (u/128)
  simp only [List.length_cons] at hb
  rw [show (putU f (u/128)).length+1-1=(putU f (u/128)).length-1+1 from by omega,List.getElem?_cons_succ] at hb
  by_cases hq:1<(putU f (u/128)).length
  ·exact putU_last f (u/128) h2 hq b hb
  have h3:(putU f (u/128)).length=1:=by omega
  rw [h3] at hb
  have h4:=valU_put f (u/128) h2
  have h5:=putU_high f (u/128) h2 0 b hb
  match hm:putU f (u/128),h3 with
  |[x],_=>
   rw [hm] at hb h4 h5
   simp at hb;subst hb
   simp [valU] at h4 h5
   have h6:0≤x.n:=putU_pos0 f (u/128) x (by rw [hm];simp)
   have:1≤u/128:=by omega
   omega
theorem zz_lt {n:Int} (h:i64 n):zz n<2 ^ 64:=by unfold i64 at h;unfold zz;split<;>omega
theorem zz_even {n:Int} (h:¬n<0):(zz n:Int)=2*n:=by unfold zz;rw [if_neg h];omega
theorem zz_odd {n:Int} (h:n<0):(zz n:Int)= -2*n-1:=by unfold zz;rw [if_pos h];omega
section
variable {w w1 w2:World} {r:Option Nat}
abbrev Kb (g:Nat) (w w':World):Prop:=w.grownBy w' (some g)
theorem kb_refl (g:Nat) (w:World):Kb g w w:=⟨rfl,rfl,rfl,Nat.le_refl _,fun _ _ _=>rfl⟩
theorem kb_bel {g:Nat} (h:Kb g w w1) (hb:Below w.heap.size w1 w2):Kb g w w2:=⟨hb.1.trans h.os,hb.2.trans h.tape,hb.3.trans h.output,Nat.le_trans h.size hb.size,fun k hk hn=>(hb.block k hk).trans (h.block k hk hn)⟩
theorem kb_set {g:Nat} {p:Addr} (h:Kb g w w1) (hp:p.block=g) (u:Value):Kb g w (w1.setCell p u):=
 ⟨h.os,h.tape,h.output,by have:=h.size;simpa using this,fun k hk hn=>(Below.heap_setCell _ _ _ _ (by rw [hp];exact fun e=>hn (by rw [e]))).trans (h.block k hk hn)⟩
theorem kb_trans {g:Nat} (h:Kb g w w1) (k:Kb g w1 w2):Kb g w w2:=⟨k.os.trans h.os,k.tape.trans h.tape,k.output.trans h.output,Nat.le_trans h.size k.size,fun i hi hn=>(k.block i (Nat.lt_of_lt_of_le hi h.size) hn).trans (h.block i hi hn)⟩
theorem kb_of {g:Nat} (hb:Below w.heap.size w w1):Kb g w w1:=kb_bel (kb_refl g w) hb
theorem kb_below {g B:Nat} (h:Kb g w w1) (hB:B≤g) (hBs:B≤w.heap.size):Below B w w1:=
 ⟨h.os,h.tape,h.output,h.size,fun k hk=>h.block k (by omega) (by intro e;simp at e;omega)⟩
theorem Sl.kb {α:Type} [GR α] {M M':Nat→Prop} {a:Option Addr} {c g:Nat} {l:List α} (h:Sl M w a c l) (k:Kb g w w1) (hM:∀q,q<w.heap.size→M' q→M q) (hg:M g):Sl M' w1 a c l:=
 h.ext ⟨k.size,fun q hq hn=>k.block q hq (by intro e;simp at e;subst e;exact hn hg),hM⟩
end
section
variable (S:List By→List By)
def bodyP (k:Int) (c:List By):List By:=⟨k⟩::(putI c.length++c)
def sealP (k:Int) (c:List By):List By:=bodyP k c++S (bodyP k c)
def frameP (l:List Tr):List By:=sealP S 2 (encTs l)
def jrn (ls:List (List Tr)):List By:=(ls.map (frameP S)).flatten
def endP (ls:List (List Tr)) (k:Nat):Nat:=(jrn S (ls.take k)).length
variable {S}
theorem jrn_cons (l:List Tr) (ls:List (List Tr)):jrn S (l::ls)=frameP S l++jrn S ls:=rfl
theorem jrn_app (a b:List (List Tr)):jrn S (a++b)=jrn S a++jrn S b:=by unfold jrn;simp
theorem jrn_take {ls:List (List Tr)} {k:Nat} {l:List Tr} (h:ls[k]? =some l):jrn S (ls.take (k+1))=jrn S (ls.take k)++frameP S l:=by
 rw [List.take_add_one,h,jrn_app];simp [jrn]
theorem frameP_len (l:List Tr):2≤(frameP S l).length:=by
 unfold frameP sealP bodyP
 have:=putU_pos 9 (zz (encTs l).length)
 simp only [List.length_append,List.length_cons]
 unfold putI;omega
theorem endP_succ {ls:List (List Tr)} {k:Nat} {l:List Tr} (h:ls[k]? =some l):endP S ls (k+1)=endP S ls k+(frameP S l).length:=by
 unfold endP;rw [jrn_take h,List.length_append]
theorem endP_mono {ls:List (List Tr)} {i j:Nat} (h:i≤j):endP S ls i≤endP S ls j:=by
 unfold endP
 have:ls.take j=ls.take i++(ls.take j).drop i:=by
  conv=>lhs;rw [←List.take_append_drop i (ls.take j)]
  rw [List.take_take,Nat.min_eq_left h]
 rw [this,jrn_app,List.length_append];omega
theorem endP_lt {ls:List (List Tr)} {k:Nat} (h:k<ls.length):endP S ls k<endP S ls (k+1):=by
 rw [endP_succ (List.getElem?_eq_getElem h)]
 have:=frameP_len (S:=S) ls[k];omega
theorem endP_all (ls:List (List Tr)):endP S ls ls.length=(jrn S ls).length:=by unfold endP;rw [List.take_length]
theorem jrn_drop (ls:List (List Tr)) (k:Nat):(jrn S ls).drop (endP S ls k)=jrn S (ls.drop k):=by
 unfold endP
 conv=>lhs;arg 2;rw [←List.take_append_drop k ls]
 rw [jrn_app,List.drop_left]
theorem cut_drop (ls:List (List Tr)) (k at_:Nat):((jrn S ls).take at_).drop (endP S ls k)=(jrn S (ls.drop k)).take (at_-endP S ls k):=by
 rw [List.drop_take,jrn_drop]
theorem cut_whole {ls:List (List Tr)} {k at_:Nat} {l:List Tr} (h:ls[k]? =some l) (hw:endP S ls (k+1)≤at_):
    ∃rest,((jrn S ls).take at_).drop (endP S ls k)=frameP S l++rest:=by
 rw [cut_drop]
 obtain ⟨hk,he⟩:=List.getElem?_eq_some_iff.1 h
 rw [List.drop_eq_getElem_cons hk,he,jrn_cons,List.take_append]
 have:=endP_succ (S:=S) h
 rw [List.take_of_length_le (by omega)]
 exact ⟨_,rfl⟩
theorem cut_torn {ls:List (List Tr)} {k at_:Nat} {l:List Tr} (h:ls[k]? =some l) (hw:at_<endP S ls (k+1)):
    ((jrn S ls).take at_).drop (endP S ls k)=(frameP S l).take (at_-endP S ls k):=by
 rw [cut_drop]
 obtain ⟨hk,he⟩:=List.getElem?_eq_some_iff.1 h
 rw [List.drop_eq_getElem_cons hk,he,jrn_cons,List.take_append]
 have:=endP_succ (S:=S) h
 rw [show at_-endP S ls k-(frameP S l).length=0 from by omega,List.take_zero,List.append_nil]
end
theorem putI_lt {n:Int} (h:i64 n):zz n<128 ^ (9+1):=by have:=zz_lt h;exact Nat.lt_of_lt_of_le this (by decide)
theorem putI_len (n:Int):1≤(putI n).length∧(putI n).length≤10:=⟨putU_pos _ _,putU_le _ _⟩
theorem putI_val {n:Int} (h:i64 n):valU (putI n)=zz n:=valU_put 9 _ (putI_lt h)
theorem putI_high {n:Int} (h:i64 n) {j:Nat} {b:By} (hb:(putI n)[j]? =some b):128≤b.n↔j+1<(putI n).length:=putU_high 9 _ (putI_lt h) j b hb
theorem valU_drop_le:∀(l:List By) (i:Nat),valU (l.drop i)≤valU l
 |[],i=>by simp [valU]
 |b::l,0=>by simp
 |b::l,i+1=>by
  have:=valU_drop_le l i
  simp only [List.drop_succ_cons,valU];omega
theorem valU_step {l:List By} {i:Nat} {b:By} (h:l[i]? =some b):valU (l.drop i)=(b.n%128).toNat+128*valU (l.drop (i+1)):=by
 obtain ⟨hi,rfl⟩:=List.getElem?_eq_some_iff.1 h
 rw [List.drop_eq_getElem_cons hi];rfl
theorem putI_step {n:Int} (hn:i64 n) {i:Nat} {b:By} (h:(putI n)[i]? =some b):
    valU ((putI n).drop i)=(b.n%128).toNat+128*valU ((putI n).drop (i+1))∧128*valU ((putI n).drop (i+1))<18446744073709551616:=by
 have h1:=valU_step h
 have h2:=valU_drop_le (putI n) i
 rw [putI_val hn] at h2
 have:=zz_lt hn
 exact ⟨h1,by omega⟩
theorem putI_last {n:Int} (hn:i64 n) {b:By} (h:(putI n)[(putI n).length-1]? =some b):(1<(putI n).length→0<b.n)∧((putI n).length=10→b.n≤1):=by
 refine ⟨fun h1=>putU_last 9 _ (putI_lt hn) h1 b h,fun h10=> ?_⟩
 have hlow:=(putI_high hn h)
 have h0:0≤b.n:=putU_pos0 9 _ b (List.mem_of_getElem? h)
 rw [h10] at h hlow
 simp at hlow
 have key:∀(l:List By) (i:Nat),128 ^ i*valU (l.drop i)≤valU l:=by
  intro l i
  induction i generalizing l with
  |zero=>simp
  |succ i ih=>
   cases l with
   |nil=>simp [valU]
   |cons x l=>
    have:=ih l
    simp only [List.drop_succ_cons,valU]
    rw [Nat.pow_succ]
    have e:128 ^ i*128*valU (l.drop i)=128*(128 ^ i*valU (l.drop i)):=by
     rw [Nat.mul_comm (128 ^ i) 128,Nat.mul_assoc]
    rw [e];omega
 have k9:=key (putI n) 9
 rw [putI_val hn,valU_step h] at k9
 have h64:=zz_lt hn
 have:(b.n%128).toNat≤1:=by
  have e9:(128:Nat) ^ 9=9223372036854775808:=by decide
  rw [e9] at k9
  omega
 omega
theorem zz_back (n:Int):n=if zz n%2=1 then -((zz n/2:Nat):Int)-1 else ((zz n/2:Nat):Int):=by
 by_cases h:n<0
 ·have:=zz_odd h
  rw [if_pos (by omega)];omega
 have:=zz_even h
 rw [if_neg (by omega)];omega
section
variable {S:List By→List By} {ls:List (List Tr)}
theorem wholeEx (S:List By→List By) (ls:List (List Tr)) (p:Nat):∃W,W≤ls.length∧endP S ls W≤p∧(W<ls.length→p<endP S ls (W+1)):=by
 suffices h:∀n,n≤ls.length→∃W,W≤n∧endP S ls W≤p∧(W<n→p<endP S ls (W+1)) by exact h _ (Nat.le_refl _)
 intro n
 induction n with
 |zero=>intro _;exact ⟨0,Nat.le_refl _,by simp [endP,jrn],fun h=>absurd h (Nat.lt_irrefl _)⟩
 |succ n ih=>
  intro hn
  obtain ⟨W,h1,h2,h3⟩:=ih (by omega)
  by_cases hW:W<n
  ·exact ⟨W,by omega,h2,fun _=>h3 hW⟩
  have e:W=n:=by omega
  subst e
  by_cases hp:endP S ls (W+1)≤p
  ·exact ⟨W+1,Nat.le_refl _,hp,fun h=>absurd h (Nat.lt_irrefl _)⟩
  exact ⟨W,by omega,h2,fun _=>by omega⟩
noncomputable def wholeP (S:List By→List By) (ls:List (List Tr)) (p:Nat):Nat:=Classical.choose (wholeEx S ls p)
theorem wholeP_le (p:Nat):wholeP S ls p≤ls.length:=(Classical.choose_spec (wholeEx S ls p)).1
theorem wholeP_end (p:Nat):endP S ls (wholeP S ls p)≤p:=(Classical.choose_spec (wholeEx S ls p)).2.1
theorem wholeP_next {p:Nat} (h:wholeP S ls p<ls.length):p<endP S ls (wholeP S ls p+1):=(Classical.choose_spec (wholeEx S ls p)).2.2 h
theorem whole_iff {p i:Nat} (hi:i<ls.length):endP S ls (i+1)≤p↔i<wholeP S ls p:=by
 constructor
 ·intro h
  by_cases hw:i<wholeP S ls p
  ·exact hw
  have h1:=wholeP_next (S:=S) (ls:=ls) (p:=p) (by omega)
  have h2:=endP_mono (S:=S) (ls:=ls) (show wholeP S ls p+1≤i+1 by omega)
  omega
 intro h
 have h1:=endP_mono (S:=S) (ls:=ls) (show i+1≤wholeP S ls p by omega)
 have:=wholeP_end (S:=S) (ls:=ls) p
 omega
theorem read_step {p k:Nat} (hk:k≤wholeP S ls p) (hp:p≤(jrn S ls).length):
    (endP S ls k=p∧k=wholeP S ls p)∨∃l,ls[k]? =some l∧endP S ls k<p∧
     ((k<wholeP S ls p∧∃rest,((jrn S ls).take p).drop (endP S ls k)=frameP S l++rest)∨
      (k=wholeP S ls p∧p-endP S ls k<(frameP S l).length∧((jrn S ls).take p).drop (endP S ls k)=(frameP S l).take (p-endP S ls k))):=by
 have hle:=wholeP_le (S:=S) (ls:=ls) p
 have h1:=endP_mono (S:=S) (ls:=ls) hk
 have h2:=wholeP_end (S:=S) (ls:=ls) p
 by_cases hkW:k<wholeP S ls p
 ·right
  have hkl:k<ls.length:=by omega
  have hg:=List.getElem?_eq_getElem hkl
  have h3:=(whole_iff (S:=S) (p:=p) hkl).2 hkW
  have h4:=endP_lt (S:=S) hkl
  exact ⟨ls[k],hg,by omega,.inl ⟨hkW,cut_whole hg h3⟩⟩
 have e:k=wholeP S ls p:=by omega
 by_cases hp2:endP S ls k=p
 ·exact .inl ⟨hp2,e⟩
 right
 have hkl:k<ls.length:=by
  by_cases h:k<ls.length
  ·exact h
  have:k=ls.length:=by omega
  rw [this,endP_all] at hp2
  rw [this,endP_all] at h1
  omega
 have hg:=List.getElem?_eq_getElem hkl
 have h5:=wholeP_next (S:=S) (ls:=ls) (p:=p) (by omega)
 rw [←e] at h5
 have h6:=endP_succ (S:=S) hg
 exact ⟨ls[k],hg,by omega,.inr ⟨e,by omega,cut_torn hg h5⟩⟩
end
end Go.Proofs.YtlmfbjiejodalaaGreatDoor
