/- Several texts, one behind the other. Conditions: as each of them says. -/
import Derived.Test.YtjagagpcjpcjjaaGreatMt22
import Derived.Test.YtjagagpcjpcjjaaGreatMt8
import Derived.Test.YtjagagpcjpcjjaaGreatMt6
import Derived.Test.YtjagagpcjpcjjaaGreatMt4
import Derived.Test.YtjagagpcjpcjjaaGreatMt1
import Derived.Test.YtjagagpcjpcjjaaGreatLayInts
import Derived.Sort.OwnSortedInts
import Derived.Lib.SlicesCompact
set_option maxRecDepth 100000
set_option maxHeartbeats 32000000
namespace Go.Proofs.YtjagagpcjpcjjaaGreat
open Go.RowKit Go.Sort Go.Shelf
def iins (x:Int):List Int→List Int
 |[]=>[x]
 |y::l=>if y<x then y::iins x l else if y=x then y::l else x::y::l
def iset (l:List Int):List Int:=l.foldl (fun L x=>iins x L) []
def IAsc (l:List Int):Prop:=l.Pairwise (·<·)
section
variable {M:Nat→Prop} {w:World} {B g c:Nat} {l:List Int}
end
end Go.Proofs.YtjagagpcjpcjjaaGreat
namespace Go.Proofs.YtjagagpcjpcjjaaGreat
open Go.RowKit
def Fam (B:Nat) (w:World) (g n:Nat) (F:Nat→List Int):Prop:=
 (∀i,i<n→∃a c,w.cell? ⟨g,i,none⟩=some (.slice a (F i).length c)∧w.frozen? ⟨g,i,none⟩=false∧Ow B (fun k=>B≤k) w 3 (.slice a (F i).length c) (F i))∧
 ∀i j a c n1 a' c' n2 k,i<n→j<n→i≠j→w.cell? ⟨g,i,none⟩=some (.slice a n1 c)→w.cell? ⟨g,j,none⟩=some (.slice a' n2 c')→(Value.slice a n1 c).ownBlock=some k→(Value.slice a' n2 c').ownBlock=some k→False
section
variable {B:Nat} {w w':World} {g n:Nat} {F:Nat→List Int}
theorem Fam.at (h:Fam B w g n F) {i:Nat} (hi:i<n):∃a c,w.cell? ⟨g,i,none⟩=some (.slice a (F i).length c)∧w.frozen? ⟨g,i,none⟩=false∧Ow B (fun k=>B≤k) w 3 (.slice a (F i).length c) (F i):=h.1 i hi
theorem Fam.congr {G:Nat→List Int} (h:Fam B w g n F) (e:∀i,i<n→F i=G i):Fam B w g n G:=
 ⟨fun i hi=>by rw [←e i hi];exact h.1 i hi,h.2⟩
theorem frozen_block {a:Addr} (h:w'.heap[a.block]? =w.heap[a.block]?):w'.frozen? a=w.frozen? a:=by unfold World.frozen?;rw [h]
theorem Fam.below (h:Fam B w g n F) (hg:g<w.heap.size) (hb:Below w.heap.size w w'):Fam B w' g n F:=by
 have hc:∀i,w'.cell? ⟨g,i,none⟩=w.cell? ⟨g,i,none⟩:=fun i=>World.cell?_of_block (hb.block g hg)
 refine ⟨fun i hi=> ?_,fun i j a c n1 a' c' n2 k hi hj hij h1 h2=>h.2 i j a c n1 a' c' n2 k hi hj hij (by rw [←hc];exact h1) (by rw [←hc];exact h2)⟩
 obtain ⟨a,c,h1,h2,h3⟩:=h.1 i hi
 exact ⟨a,c,by rw [hc];exact h1,(frozen_block (a:=⟨g,i,none⟩) (hb.block g hg)).trans h2,h3.below hb⟩
theorem Fam.push (h:Fam B w g n F) (hg:g<B) (hB:B≤w.heap.size) {i:Nat} (hi:i<n) {a a':Option Addr} {c c':Nat} {l':List Int} {y:Int} (hc:w.cell? ⟨g,i,none⟩=some (.slice a (F i).length c))
    (hl:l'=F i++[y]) (hO:Ow B (fun k=>B≤k) w' 3 (.slice a' l'.length c') l') (hk:∀k,(Value.slice a' l'.length c').ownBlock=some k→(Value.slice a (F i).length c).ownBlock=some k∨w.heap.size≤k) (hgr:w.grownBy w' (Value.slice a (F i).length c).ownBlock):
    Fam B (w'.setCell ⟨g,i,none⟩ (.slice a' l'.length c')) g n (fun j=>if j=i then F i++[y] else F j):=by
 subst hl
 obtain ⟨a0,c0,h1,h2,h3⟩:=h.1 i hi
 rw [hc] at h1
 simp only [Option.some.injEq,Value.slice.injEq,true_and] at h1
 obtain ⟨rfl,rfl⟩:=h1
 have hgw:g<w.heap.size:=by omega
 have hgb:w'.heap[g]? =w.heap[g]? :=hgr.block g hgw (fun e=>by have:=(h3.lt g e.symm).1;omega)
 have hcg:∀j,w'.cell? ⟨g,j,none⟩=w.cell? ⟨g,j,none⟩:=fun j=>World.cell?_of_block hgb
 have hnew:(w'.setCell ⟨g,i,none⟩ (.slice a' (F i++[y]).length c')).cell? ⟨g,i,none⟩=some (.slice a' (F i++[y]).length c'):=World.cell?_setCell_same _ _ _ ((hcg i).trans hc)
 have hold:∀j,j≠i→(w'.setCell ⟨g,i,none⟩ (.slice a' (F i++[y]).length c')).cell? ⟨g,j,none⟩=w.cell? ⟨g,j,none⟩:=fun j hj=>(World.cell?_setCell_other _ _ _ _ (fun e:(⟨g,i,none⟩:Addr)=⟨g,j,none⟩=>hj (Addr.mk.inj e).2.1.symm)).trans (hcg j)
 have hes:∀{v:Value} {l:List Int},Ow B (fun k=>B≤k) w' 3 v l→Ow B (fun k=>B≤k) (w'.setCell ⟨g,i,none⟩ (.slice a' (F i++[y]).length c')) 3 v l:=fun hv=>hv.setOtherI (fun k hk=>by have:=(hv.lt k hk).1;show k≠g;omega) _
 refine ⟨fun j hj=> ?_,fun j j' x cx nx x' cx' nx' k hj hj' hjj h1 h2 h4 h5=> ?_⟩
 ·by_cases e:j=i
  ·subst e
   simp only [if_true]
   exact ⟨a',c',hnew,by rw [World.frozen?_setCell,frozen_block (a:=⟨g,j,none⟩) hgb];exact h2,hes hO⟩
  simp only [if_neg e]
  obtain ⟨aj,cj,hj1,hj2,hj3⟩:=h.1 j hj
  refine ⟨aj,cj,by rw [hold j e];exact hj1,by rw [World.frozen?_setCell,frozen_block (a:=⟨g,j,none⟩) hgb];exact hj2,hes ?_⟩
  refine hj3.kept hgr.size fun k hk=>hgr.block k (hj3.lt k hk).2 fun e2=> ?_
  exact h.2 j i aj cj _ a c _ k hj hi e hj1 hc hk e2.symm
 by_cases e:j=i
 ·subst e
  rw [hnew] at h1
  simp only [Option.some.injEq,Value.slice.injEq] at h1
  obtain ⟨rfl,rfl,rfl⟩:=h1
  rw [hold j' (Ne.symm hjj)] at h2
  rcases hk k h4 with e1|e1
  ·exact h.2 j j' a c _ x' cx' nx' k hi hj' hjj hc h2 e1 h5
  obtain ⟨aj,cj,hj1,hj2,hj3⟩:=h.1 j' hj'
  rw [hj1] at h2
  simp only [Option.some.injEq,Value.slice.injEq] at h2
  obtain ⟨rfl,rfl,rfl⟩:=h2
  have:=(hj3.lt k h5).2
  omega
 rw [hold j e] at h1
 by_cases e':j'=i
 ·subst e'
  rw [hnew] at h2
  simp only [Option.some.injEq,Value.slice.injEq] at h2
  obtain ⟨rfl,rfl,rfl⟩:=h2
  rcases hk k h5 with e1|e1
  ·exact h.2 j j' x cx nx a c _ k hj hi hjj h1 hc h4 e1
  obtain ⟨aj,cj,hj1,hj2,hj3⟩:=h.1 j hj
  rw [hj1] at h1
  simp only [Option.some.injEq,Value.slice.injEq] at h1
  obtain ⟨rfl,rfl,rfl⟩:=h1
  have:=(hj3.lt k h4).2
  omega
 rw [hold j' e'] at h2
 exact h.2 j j' x cx nx x' cx' nx' k hj hj' hjj h1 h2 h4 h5
theorem Fam.made {T:TypeId} {N:Nat} {z:Array Value} (hz:∀i,i<N→(madeCells z N)[i]? =some (.slice none 0 0)):Fam (w.heap.size+1) (w.alloc (.cells (madeCells z N) T)) w.heap.size N (fun _=>[]):=by
 have hh:(w.alloc (.cells (madeCells z N) T)).heap[w.heap.size]? =some (.cells (madeCells z N) T):=heap_alloc_new _ _
 have hc:∀i,i<N→(w.alloc (.cells (madeCells z N) T)).cell? ⟨w.heap.size,i,none⟩=some (.slice none 0 0):=fun i hi=>by
  unfold World.cell?
  simp only [hh]
  simpa using hz i hi
 refine ⟨fun i hi=>⟨none,0,hc i hi,by unfold World.frozen?;rw [hh];simp,Ow.nil⟩,fun i j a c n1 a' c' n2 k hi hj _ h1 _ h3 _=> ?_⟩
 rw [hc i hi] at h1
 simp only [Option.some.injEq,Value.slice.injEq] at h1
 obtain ⟨rfl,rfl,rfl⟩:=h1
 simp [Value.ownBlock] at h3
end
structure Gp where
 ini:List Int
 cur:List Int
 deriving DecidableEq
instance:GR Gp where
 sz:=2
 rep M w cs q:=∃a c b d,cs=[.slice a q.ini.length c,.slice b q.cur.length d]∧Sl M w a c q.ini∧Sl M w b d q.cur
 len h:=by obtain ⟨a,c,b,d,h,_⟩:=h;rw [h];rfl
 ext e h:=by obtain ⟨a,c,b,d,h,h1,h2⟩:=h;exact ⟨a,c,b,d,h,h1.ext e,h2.ext e⟩
namespace Mach
variable (m:Mach)
def outsI (x:Nat) (C:List Int):List Int:=iset (C.map fun s=>m.ot s.toNat x)
def gpI (x:Nat) (I C:List Int) (o:Int):List Int:=((I.zip C).filter fun p=>decide (m.ot p.2.toNat x=o)).map Prod.fst
def gpC (x:Nat) (I C:List Int) (o:Int):List Int:=((I.zip C).filter fun p=>decide (m.ot p.2.toNat x=o)).map fun p=>m.nx p.2.toNat x
def grp (x:Nat) (I C:List Int) (o:Int):Gp:=⟨m.gpI x I C o,m.gpC x I C o⟩
def grps (x:Nat) (I C:List Int):List Gp:=(m.outsI x C).map (m.grp x I C)
def famI (x:Nat) (I C K:List Int) (k i:Nat):List Int:=if i%2=0 then m.gpI x (I.take k) (C.take k) (K.getD (i/2) 0) else m.gpC x (I.take k) (C.take k) (K.getD (i/2) 0)
variable {m}
end Mach
theorem Fam.toSl {M:Nat→Prop} {B:Nat} {w:World} {g c:Nat} {m:Mach} {x:Nat} {I C K:List Int} {G:List Gp} (h:Fam B w g (K.length*2) (m.famI x I C K C.length)) (hIC:I.length=C.length) (hG:G=K.map (m.grp x I C)) (hg:g<w.heap.size) (hgM:¬M g) (hMB:∀k,M k→k<B) (hc:K.length≤c) (hc2:c≤maxLen):
    Sl M w (some ⟨g,0,none⟩) c G:=by
 subst hG
 refine ⟨by simpa using hc,hc2,fun j q hj=> ?_⟩
 rw [List.getElem?_map] at hj
 obtain ⟨o,ho,rfl⟩:=Option.map_eq_some_iff.1 hj
 have hjl:j<K.length:=by
  by_cases e:j<K.length
  ·exact e
  rw [List.getElem?_eq_none (by omega)] at ho;simp at ho
 have hKj:K.getD j 0=o:=by rw [List.getD_eq_getElem?_getD,ho];rfl
 obtain ⟨a1,c1,h1, -,h2⟩:=h.1 (2*j) (by omega)
 obtain ⟨a2,c2,h3, -,h4⟩:=h.1 (2*j+1) (by omega)
 have e1:m.famI x I C K C.length (2*j)=(m.grp x I C o).ini:=by
  unfold Mach.famI Mach.grp
  rw [if_pos (by omega),show (2*j)/2=j by omega,hKj,List.take_length,List.take_of_length_le (by omega)]
 have e2:m.famI x I C K C.length (2*j+1)=(m.grp x I C o).cur:=by
  unfold Mach.famI Mach.grp
  rw [if_neg (by omega),show (2*j+1)/2=j by omega,hKj,List.take_length,List.take_of_length_le (by omega)]
 rw [e1] at h1 h2
 rw [e2] at h3 h4
 refine ⟨g,0,[.slice a1 (m.grp x I C o).ini.length c1,.slice a2 (m.grp x I C o).cur.length c2],rfl,hg,hgM,⟨a1,c1,a2,c2,rfl,(h2.anyM (M':=M)).toSl fun k hk hm=> ?_,(h4.anyM (M':=M)).toSl fun k hk hm=> ?_⟩,fun i u hi=> ?_⟩
 ·have:=(h2.lt k hk).1;have:=hMB k hm;omega
 ·have:=(h4.lt k hk).1;have:=hMB k hm;omega
 match i,hi with
 |0,hi=>simp at hi;subst hi;simpa [GR.sz,Nat.mul_comm] using h1
 |1,hi=>simp at hi;subst hi;simpa [GR.sz,Nat.mul_comm] using h3
 |i+2,hi=>simp at hi
structure Kd where
 out:Int
 to:Int
 deriving DecidableEq
structure Nd where
 st:List Int
 inp:Int
 kids:List Kd
 deriving DecidableEq
instance:GR Kd where
 sz:=2
 rep _ _ cs x:=cs=[.int .i64 x.out,.int .i64 x.to]∧i64 x.out∧i64 x.to
 len h:=by rw [h.1];rfl
 ext _ h:=h
instance:GR Nd where
 sz:=3
 rep M w cs x:=(∃a c b d,cs=[.slice a x.st.length c,.int .i64 x.inp,.slice b x.kids.length d]∧Sl M w a c x.st∧Sl M w b d x.kids)∧i64 x.inp
 len h:=by obtain ⟨⟨a,c,b,d,h,_⟩,_⟩:=h;rw [h];rfl
 ext e h:=by obtain ⟨⟨a,c,b,d,h,h1,h2⟩,h3⟩:=h;exact ⟨⟨a,c,b,d,h,h1.ext e,h2.ext e⟩,h3⟩
structure NdA where
 st:List Int
 inp:Int
 ak:Option Addr
 nk:Nat
 ck:Nat
abbrev NdA.kv (x:NdA):Value:= .slice x.ak x.nk x.ck
instance:GR NdA where
 sz:=3
 rep M w cs x:=(∃a c,cs=[.slice a x.st.length c,.int .i64 x.inp,x.kv]∧Sl M w a c x.st)∧i64 x.inp
 len h:=by obtain ⟨⟨a,c,h,_⟩,_⟩:=h;rw [h];rfl
 ext e h:=by obtain ⟨⟨a,c,h,h1⟩,h2⟩:=h;exact ⟨⟨a,c,h,h1.ext e⟩,h2⟩
theorem drop_take_set {xs:List Value} {s i j o:Nat} {u:Value} (ho:o<s):((xs.set (i*s+o) u).drop (j*s)).take s=if j=i then ((xs.drop (i*s)).take s).set o u else (xs.drop (j*s)).take s:=by
 apply List.ext_getElem?
 intro k
 by_cases hk:k<s
 ·by_cases e:j=i
  ·subst e
   rw [if_pos rfl,List.getElem?_take,if_pos hk,List.getElem?_drop,List.getElem?_set,List.getElem?_set]
   by_cases e2:o=k
   ·subst e2
    rw [if_pos rfl,if_pos rfl]
    simp only [List.length_take,List.length_drop]
    by_cases h:j*s+o<xs.length
    ·rw [if_pos h,if_pos (by omega)]
    rw [if_neg h,if_neg (by omega)]
   rw [if_neg (by omega),if_neg e2,List.getElem?_take,if_pos hk,List.getElem?_drop]
  rw [if_neg e,List.getElem?_take,if_pos hk,List.getElem?_drop,List.getElem?_take,if_pos hk,List.getElem?_drop,List.getElem?_set_ne]
  intro h
  rcases Nat.lt_or_gt_of_ne e with h2|h2
  ·have:=Nat.mul_le_mul_right s (show j+1≤i from h2)
   rw [Nat.add_mul,Nat.one_mul] at this
   omega
  have:=Nat.mul_le_mul_right s (show i+1≤j from h2)
  rw [Nat.add_mul,Nat.one_mul] at this
  omega
 rw [List.getElem?_take,if_neg hk]
 split
 ·rw [List.getElem?_set,List.getElem?_take,if_neg hk]
  simp only [List.length_take,List.length_drop]
  rw [if_neg (by omega)]
 rw [List.getElem?_take,if_neg hk]
section
variable {B:Nat} {W:Nat→Prop} {w:World} {T:TypeId} {g c:Nat} {L:List NdA}
theorem Ow.nda_cells (h:Ow B W w T (.slice (some ⟨g,0,none⟩) L.length c) L) {i:Nat} {x:NdA} (hx:L[i]? =some x):
    (∃a c,w.cell? ⟨g,i*3,none⟩=some (.slice a x.st.length c)∧Sl W w a c x.st)∧w.cell? ⟨g,i*3+1,none⟩=some (.int .i64 x.inp)∧w.cell? ⟨g,i*3+2,none⟩=some x.kv∧(∀o,w.frozen? ⟨g,o,none⟩=false)∧i64 x.inp:=by
 obtain ⟨xs,h1,h2⟩:=h
 obtain ⟨⟨a,c,h3,h4⟩,h5⟩:=h2 i x hx
 have hj:i<L.length:=by
  by_cases e:i<L.length
  ·exact e
  rw [List.getElem?_eq_none (by omega)] at hx;simp at hx
 have hc:∀o u,o<3→[Value.slice a x.st.length c,.int .i64 x.inp,x.kv][o]? =some u→w.cell? ⟨g,i*3+o,none⟩=some u:=by
  intro o u ho hu
  have hlt:i*3+o<L.length*3:=by omega
  rw [h1.cellAt (i*3+o) hlt]
  rw [←h3,List.getElem?_take,if_pos (by exact ho),List.getElem?_drop] at hu
  exact hu
 exact ⟨⟨a,c,hc 0 _ (by omega) rfl,h4⟩,hc 1 _ (by omega) rfl,hc 2 _ (by omega) rfl,h1.frozenAt,h5⟩
theorem Ow.nda_inp (h:Ow B W w T (.slice (some ⟨g,0,none⟩) L.length c) L) (hW:W g) {i:Nat} {x:NdA} (hx:L[i]? =some x) {y:Int} (hy:i64 y):
    Ow B W (w.setCell ⟨g,i*3+1,none⟩ (.int .i64 y)) T (.slice (some ⟨g,0,none⟩) L.length c) (L.set i ⟨x.st,y,x.ak,x.nk,x.ck⟩):=by
 obtain ⟨xs,h1,h2⟩:=h
 refine ⟨xs.set (i*3+1) (.int .i64 y),by simpa using (h1.stored (i*3+1) (.int .i64 y)).1,fun j z hj=> ?_⟩
 show GR.rep W _ (((xs.set (i*3+1) (.int .i64 y)).drop (j*3)).take 3) z
 rw [drop_take_set (s:=3) (i:=i) (j:=j) (o:=1) (by omega)]
 by_cases e:j=i
 ·subst e
  rw [if_pos rfl]
  have hl:j<L.length:=by
   by_cases e:j<L.length
   ·exact e
   rw [List.getElem?_eq_none (by omega)] at hx;simp at hx
  simp [hl] at hj
  subst hj
  obtain ⟨⟨a,c,h3,h4⟩,h5⟩:=h2 j x hx
  have h3:(xs.drop (j*3)).take 3=[.slice a x.st.length c,.int .i64 x.inp,x.kv]:=h3
  rw [h3]
  exact ⟨⟨a,c,rfl,h4.ext (Ext.setCell w (p:=⟨g,j*3+1,none⟩) hW _)⟩,hy⟩
 rw [if_neg e]
 rw [List.getElem?_set_ne (fun h=>e h.symm)] at hj
 exact GR.ext (Ext.setCell w (p:=⟨g,i*3+1,none⟩) hW _) (h2 j z hj)
theorem Ow.nda_kids (h:Ow B W w T (.slice (some ⟨g,0,none⟩) L.length c) L) (hW:W g) {i:Nat} {x:NdA} (hx:L[i]? =some x) (ak:Option Addr) (nk ck:Nat):
    Ow B W (w.setCell ⟨g,i*3+2,none⟩ (.slice ak nk ck)) T (.slice (some ⟨g,0,none⟩) L.length c) (L.set i ⟨x.st,x.inp,ak,nk,ck⟩):=by
 obtain ⟨xs,h1,h2⟩:=h
 refine ⟨xs.set (i*3+2) (.slice ak nk ck),by simpa using (h1.stored (i*3+2) (.slice ak nk ck)).1,fun j z hj=> ?_⟩
 show GR.rep W _ (((xs.set (i*3+2) (.slice ak nk ck)).drop (j*3)).take 3) z
 rw [drop_take_set (s:=3) (i:=i) (j:=j) (o:=2) (by omega)]
 by_cases e:j=i
 ·subst e
  rw [if_pos rfl]
  have hl:j<L.length:=by
   by_cases e:j<L.length
   ·exact e
   rw [List.getElem?_eq_none (by omega)] at hx;simp at hx
  simp [hl] at hj
  subst hj
  obtain ⟨⟨a,c,h3,h4⟩,h5⟩:=h2 j x hx
  have h3:(xs.drop (j*3)).take 3=[.slice a x.st.length c,.int .i64 x.inp,x.kv]:=h3
  rw [h3]
  exact ⟨⟨a,c,rfl,h4.ext (Ext.setCell w (p:=⟨g,j*3+2,none⟩) hW _)⟩,h5⟩
 rw [if_neg e]
 rw [List.getElem?_set_ne (fun h=>e h.symm)] at hj
 exact GR.ext (Ext.setCell w (p:=⟨g,i*3+2,none⟩) hW _) (h2 j z hj)
end
def NdOk (W:Nat→Prop) (B:Nat) (w:World) (v:Value) (l:List Nd):Prop:=
 ∃L:List NdA,Ow B W w 179 v L∧(∀k,v.ownBlock=some k→W k)∧L.length=l.length∧
  (∀(i:Nat) (x:NdA) (nd:Nd),L[i]? =some x→l[i]? =some nd→x.st=nd.st∧x.inp=nd.inp∧x.nk=nd.kids.length∧Ow B W w 228 (.slice x.ak nd.kids.length x.ck) nd.kids∧∀k,x.kv.ownBlock=some k→W k∧v.ownBlock≠some k)∧
  ∀(i j:Nat) (x y:NdA) (k:Nat),i≠j→L[i]? =some x→L[j]? =some y→x.kv.ownBlock=some k→y.kv.ownBlock=some k→False
section
variable {B:Nat} {W W':Nat→Prop} {w w':World} {v:Value} {l:List Nd}
theorem NdOk.nil:NdOk W B w (.slice none 0 0) []:=⟨[],Ow.nil,fun k hk=>by simp [Value.ownBlock] at hk,rfl,fun i x nd h=>by simp at h,fun i j x y k _ h=>by simp at h⟩
theorem own_len {a:Option Addr} {n m c d:Nat}:(Value.slice a n c).ownBlock=(Value.slice a m d).ownBlock:=by cases a<;>rfl
theorem NdOk.ext (h:NdOk W B w v l) (e:Ext W W' w w') (hs:∀k,k<w.heap.size→W k→W' k) (hb:∀k,W k→B≤k→w'.heap[k]? =w.heap[k]?):NdOk W' B w' v l:=by
 obtain ⟨L,h1,h2,h3,h4,h5⟩:=h
 refine ⟨L,h1.ext e fun k hk=>hb k (h2 k hk) (h1.lt k hk).1,fun k hk=>hs k (h1.lt k hk).2 (h2 k hk),h3,fun i x nd hx hn=> ?_,h5⟩
 obtain ⟨g1,g2,g3,g4,g5⟩:=h4 i x nd hx hn
 have ho:∀k,(Value.slice x.ak nd.kids.length x.ck).ownBlock=some k→x.kv.ownBlock=some k:=fun k hk=>(own_len (m:=nd.kids.length) (d:=x.ck)).trans hk
 exact ⟨g1,g2,g3,g4.ext e fun k hk=>hb k (g5 k (ho k hk)).1 (g4.lt k hk).1,fun k hk=>⟨hs k (g4.lt k (own_len.trans hk)).2 (g5 k hk).1,(g5 k hk).2⟩⟩
theorem NdOk.below (h:NdOk W B w v l) (hb:Below w.heap.size w w') (hW:∀k,W k→k<w.heap.size):NdOk W B w' v l:=
 h.ext (Ext.of_below hb) (fun _ _ h=>h) fun k hk _=>hb.block k (hW k hk)
theorem NdOk.setOther (h:NdOk W B w v l) {p:Addr} (hp:W p.block) (hB:p.block<B) (u:Value):NdOk W B (w.setCell p u) v l:=
 h.ext (Ext.setCell w hp u) (fun _ _ h=>h) fun k _ hk=>Below.heap_setCell _ _ _ _ (by omega)
theorem NdOk.len (h:NdOk W B w v l):∃a c,v= .slice a l.length c∧l.length≤c∧c≤maxLen:=by
 obtain ⟨L,h1,h2,h3,h4⟩:=h
 obtain ⟨a,c,hv,h5,h6⟩:=h1.shape
 exact ⟨a,c,by rw [hv,h3],by omega,h6⟩
theorem some_lt {α:Type} {l:List α} {i:Nat} {x:α} (h:l[i]? =some x):i<l.length:=by
 by_cases e:i<l.length
 ·exact e
 rw [List.getElem?_eq_none (by omega)] at h;simp at h
theorem NdOk.at {g c:Nat} (h:NdOk W B w (.slice (some ⟨g,0,none⟩) l.length c) l) {i:Nat} {nd:Nd} (hi:l[i]? =some nd):
    ∃ak ck,w.cell? ⟨g,i*3+2,none⟩=some (.slice ak nd.kids.length ck)∧(w.cell? ⟨g,i*3+1,none⟩=some (.int .i64 nd.inp))∧(∀o,w.frozen? ⟨g,o,none⟩=false)∧Ow B W w 228 (.slice ak nd.kids.length ck) nd.kids∧B≤g∧g<w.heap.size∧W g:=by
 obtain ⟨L,h1,h2,h3,h4,h5⟩:=h
 obtain ⟨x,hx⟩:∃x,L[i]? =some x:=⟨_,List.getElem?_eq_getElem (by rw [h3];exact some_lt hi)⟩
 rw [←h3] at h1
 obtain ⟨⟨a,c,c0, -⟩,c1,c2,c3, -⟩:=h1.nda_cells hx
 obtain ⟨g1,g2,g3,g4,g5⟩:=h4 i x nd hx hi
 have hlt:=h1.lt g rfl
 exact ⟨x.ak,x.ck,by rw [c2,←g3],by rw [c1,g2],c3,g4,hlt.1,hlt.2,h2 g rfl⟩
theorem NdOk.setInp {g c:Nat} (h:NdOk W B w (.slice (some ⟨g,0,none⟩) l.length c) l) {i:Nat} {nd:Nd} (hi:l[i]? =some nd) {y:Int} (hy:i64 y):
    NdOk W B (w.setCell ⟨g,i*3+1,none⟩ (.int .i64 y)) (.slice (some ⟨g,0,none⟩) l.length c) (l.set i ⟨nd.st,y,nd.kids⟩):=by
 obtain ⟨L,h1,h2,h3,h4,h5⟩:=h
 obtain ⟨x,hx⟩:∃x,L[i]? =some x:=⟨_,List.getElem?_eq_getElem (by rw [h3];exact some_lt hi)⟩
 rw [←h3] at h1
 have hs:=h1.nda_inp (h2 g rfl) hx hy
 rw [h3] at hs
 refine ⟨_,hs,h2,by simp [h3],fun j z nz hz hn=> ?_,fun j j' z z' k hjj hz hz'=> ?_⟩
 ·have hke : ∀ {u : List Kd} {vv : Value}, Ow B W w 228 vv u → (∀ k, vv.ownBlock = some k → (Value.slice (some ⟨g, 0, none⟩) l.length c).ownBlock ≠ some k) → Ow B W (w.setCell ⟨g, i * 3 + 1, none⟩ (.int .i64 y)) 228 vv u := fun hv hne =>
    hv.setOther (h2 g rfl) (fun k hk e=>hne k hk (by rw [show k=g from e];rfl)) _
  by_cases e:j=i
  ·subst e
   have hjl:=some_lt hx
   have hjl2:=some_lt hi
   simp [hjl] at hz
   simp [hjl2] at hn
   subst hz hn
   obtain ⟨g1,g2,g3,g4,g5⟩:=h4 j x nd hx hi
   exact ⟨g1,rfl,g3,hke g4 fun k hk=>(g5 k (own_len.trans hk)).2,g5⟩
  rw [List.getElem?_set_ne (fun h=>e h.symm)] at hz hn
  obtain ⟨g1,g2,g3,g4,g5⟩:=h4 j z nz hz hn
  exact ⟨g1,g2,g3,hke g4 fun k hk=>(g5 k (own_len.trans hk)).2,g5⟩
 have hback : ∀ {j : Nat} {z : NdA}, (L.set i ⟨x.st, y, x.ak, x.nk, x.ck⟩)[j]? = some z → ∃ z', L[j]? = some z' ∧ z'.kv = z.kv := by
  intro j z hz
  by_cases e:j=i
  ·subst e
   have hjl:=some_lt hx
   simp [hjl] at hz
   subst hz
   exact ⟨x,hx,rfl⟩
  rw [List.getElem?_set_ne (fun h=>e h.symm)] at hz
  exact ⟨z,hz,rfl⟩
 obtain ⟨z1,e1,e2⟩:=hback hz
 obtain ⟨z2,e3,e4⟩:=hback hz'
 rw [←e2,←e4]
 exact h5 j j' z1 z2 k hjj e1 e3
theorem NdOk.pushKid {g c:Nat} (h:NdOk W B w (.slice (some ⟨g,0,none⟩) l.length c) l) {i:Nat} {nd:Nd} (hi:l[i]? =some nd) {ak a':Option Addr} {ck c':Nat} {K:List Kd} (hc:w.cell? ⟨g,i*3+2,none⟩=some (.slice ak nd.kids.length ck))
    (hO:Ow B (fun k=>W k∨k=w.heap.size) w' 228 (.slice a' K.length c') K) (hk:∀k,(Value.slice a' K.length c').ownBlock=some k→(Value.slice ak nd.kids.length ck).ownBlock=some k∨k=w.heap.size) (hgr:w.grownBy w' (Value.slice ak nd.kids.length ck).ownBlock) (hW:∀k,W k→k<w.heap.size):
    NdOk (fun k=>W k∨k=w.heap.size) B (w'.setCell ⟨g,i*3+2,none⟩ (.slice a' K.length c')) (.slice (some ⟨g,0,none⟩) l.length c) (l.set i ⟨nd.st,nd.inp,K⟩):=by
 obtain ⟨L,h1,h2,h3,h4,h5⟩:=h
 obtain ⟨x,hx⟩:∃x,L[i]? =some x:=⟨_,List.getElem?_eq_getElem (by rw [h3];exact some_lt hi)⟩
 rw [←h3] at h1
 obtain ⟨-, -,c2, -, -⟩:=h1.nda_cells hx
 obtain ⟨g1,g2,g3,g4,g5⟩:=h4 i x nd hx hi
 rw [hc] at c2
 simp only [Option.some.injEq,Value.slice.injEq] at c2
 obtain ⟨rfl,hnk,rfl⟩:=c2
 have hox:∀k,(Value.slice x.ak nd.kids.length x.ck).ownBlock=some k→x.kv.ownBlock=some k:=fun k hk=>own_len.trans hk
 have hWx:∀k,(Value.slice x.ak nd.kids.length x.ck).ownBlock=some k→W k:=fun k hk=>(g5 k (hox k hk)).1
 have e1:Ext W (fun k=>W k∨k=w.heap.size) w w':=⟨hgr.size,fun k hk hm=>hgr.block k hk (fun e=>hm (hWx k e.symm)),fun k hk hm=>hm.elim id (fun e=>by omega)⟩
 have hgw:=(h1.lt g rfl)
 have hgb:w'.heap[g]? =w.heap[g]? :=hgr.block g hgw.2 fun e=>(g5 g (hox g e.symm)).2 rfl
 have h1':Ow B (fun k=>W k∨k=w.heap.size) w' 179 (.slice (some ⟨g,0,none⟩) L.length c) L:=h1.ext e1 (fun k hk=>by obtain rfl:g=k:=(by simpa [Value.ownBlock] using hk);exact hgb)
 have hs:=h1'.nda_kids (.inl (h2 g rfl)) hx a' K.length c'
 rw [h3] at hs
 have hset:∀{u:List Kd} {vv:Value},Ow B (fun k=>W k∨k=w.heap.size) w' 228 vv u→(∀k,vv.ownBlock=some k→k≠g)→Ow B (fun k=>W k∨k=w.heap.size) (w'.setCell ⟨g,i*3+2,none⟩ (.slice a' K.length c')) 228 vv u:=fun hv hne=>
  hv.setOther (.inl (h2 g rfl)) hne _
 have hgk:∀k,(Value.slice a' K.length c').ownBlock=some k→(W k∨k=w.heap.size)∧k≠g:=fun k hk'=>by
  rcases hk k hk' with e|e
  ·exact ⟨.inl (hWx k e),fun e2=>(g5 k (hox k e)).2 (by rw [e2];rfl)⟩
  exact ⟨.inr e,by omega⟩
 refine ⟨_,hs,fun k hk=> .inl (h2 k hk),by simp [h3],fun j z nz hz hn=> ?_,fun j j' z z' k hjj hz hz' h6 h7=> ?_⟩
 ·by_cases e:j=i
  ·subst e
   have hjl:=some_lt hx
   have hjl2:=some_lt hi
   simp [hjl] at hz
   simp [hjl2] at hn
   subst hz hn
   refine ⟨g1,g2,rfl,hset hO fun k hk'=>(hgk k hk').2,fun k hk'=>⟨(hgk k hk').1,fun e2=>(hgk k hk').2 ?_⟩⟩
   simpa [Value.ownBlock] using e2.symm
  rw [List.getElem?_set_ne (fun h=>e h.symm)] at hz hn
  obtain ⟨f1,f2,f3,f4,f5⟩:=h4 j z nz hz hn
  have hoz:∀k,(Value.slice z.ak nz.kids.length z.ck).ownBlock=some k→z.kv.ownBlock=some k:=fun k hk=>own_len.trans hk
  refine ⟨f1,f2,f3,hset (f4.ext e1 fun k hk'=>hgr.block k (f4.lt k hk').2 fun e2=> ?_) fun k hk' e2=>(f5 k (hoz k hk')).2 (by rw [e2];rfl),fun k hk'=>⟨.inl (f5 k hk').1,(f5 k hk').2⟩⟩
  exact h5 j i z x k e hz hx (hoz k hk') (hox k e2.symm)
 have hcase : ∀ {j : Nat} {z : NdA}, (L.set i ⟨x.st, x.inp, a', K.length, c'⟩)[j]? = some z → (j = i ∧ z.kv = .slice a' K.length c') ∨ (j ≠ i ∧ L[j]? = some z) := by
  intro j z hz
  by_cases e:j=i
  ·subst e
   have hjl:=some_lt hx
   simp [hjl] at hz
   subst hz
   exact .inl ⟨rfl,rfl⟩
  rw [List.getElem?_set_ne (fun h=>e h.symm)] at hz
  exact .inr ⟨e,hz⟩
 have hold:∀{j:Nat} {z:NdA},j≠i→L[j]? =some z→z.kv.ownBlock=some k→(Value.slice a' K.length c').ownBlock=some k→False:=by
  intro j z hji hz h8 h9
  rcases hk k h9 with e|e
  ·exact h5 j i z x k hji hz hx h8 (hox k e)
  obtain ⟨nz,hnz⟩:∃nz,l[j]? =some nz:=⟨_,List.getElem?_eq_getElem (by rw [←h3];exact some_lt hz)⟩
  have:=hW k ((h4 j z nz hz hnz).2.2.2.2 k h8).1
  omega
 rcases hcase hz with ⟨rfl,e2⟩|⟨e1,e2⟩
 ·rcases hcase hz' with ⟨e3,e4⟩|⟨e3,e4⟩
  ·exact hjj e3.symm
  rw [e2] at h6
  exact hold e3 e4 h7 h6
 rcases hcase hz' with ⟨rfl,e4⟩|⟨e3,e4⟩
 ·rw [e4] at h7
  exact hold e1 e2 h6 h7
 exact h5 j j' z z' k hjj e2 e4 h6 h7
end
section
variable {P:Program} {w:World} {o:Oper} {a:Act} {Q:Exit→Act→World→Prop}
end
theorem NdOk.toSl {M:Nat→Prop} {B:Nat} {W:Nat→Prop} {w:World} {a:Option Addr} {c:Nat} {l:List Nd} (h:NdOk W B w (.slice a l.length c) l) (hM:∀k,M k→k<B) (hMW:∀k,k<w.heap.size→M k→W k):Sl M w a c l:=by
 obtain ⟨L,h1,h2,h3,h4,h5⟩:=h
 have hO:Ow B M w 179 (.slice a L.length c) L:=by rw [h3];exact h1.ext ⟨Nat.le_refl _,fun _ _ _=>rfl,hMW⟩ fun _ _=>rfl
 have hS:=hO.toSl fun k hk hm=>by have:=(hO.lt k hk).1;have:=hM k hm;omega
 refine ⟨by rw [←h3];exact hS.1,hS.2.1,fun j nd hj=> ?_⟩
 obtain ⟨x,hx⟩:∃x,L[j]? =some x:=⟨_,List.getElem?_eq_getElem (by rw [h3];exact some_lt hj)⟩
 obtain ⟨b,off,cs,ha,hb,hmb,⟨⟨a1,c1,rfl,s1⟩,s2⟩,hc⟩:=hS.2.2 j x hx
 obtain ⟨g1,g2,g3,g4,g5⟩:=h4 j x nd hx hj
 refine ⟨b,off,[.slice a1 nd.st.length c1,.int .i64 nd.inp,.slice x.ak nd.kids.length x.ck],ha,hb,hmb,⟨⟨a1,c1,x.ak,x.ck,rfl,by rw [←g1];exact s1,?_⟩,by rw [←g2];exact s2⟩,?_⟩
 ·have g4':Ow B M w 228 (.slice x.ak nd.kids.length x.ck) nd.kids:=g4.ext ⟨Nat.le_refl _,fun _ _ _=>rfl,hMW⟩ fun _ _=>rfl
  exact g4'.toSl fun k hk hm=>by have:=(g4.lt k hk).1;have:=hM k hm;omega
 intro i u hi
 refine hc i u ?_
 rw [←hi,g1,g2]
 simp only [NdA.kv,g3]
section
variable {M:Nat→Prop} {w:World} {a:Option Addr} {c:Nat} {l:List Int}
end
section
variable {M M':Nat→Prop} {w:World} {a b:Option Addr} {c d:Nat} {l r:List Int}
end
section
variable {M M':Nat→Prop} {w:World} {bm bc ba:Nat} {an ao ak:Option Addr} {cn co ck:Nat} {m:Mach} {l:List Kd}
end
structure FamR (n0:Nat) (W:Nat→Prop) (w:World) (g n:Nat) (F:Nat→List (List Int)):Prop where
 lo:∀k,W k→n0≤k∧k<w.heap.size
 gW:W g
 cell:∀i,i<n→∃a c,w.cell? ⟨g,i,none⟩=some (.slice a (F i).length c)∧w.frozen? ⟨g,i,none⟩=false∧Ow n0 (fun k=>W k∨k<n0) w 49 (.slice a (F i).length c) (F i)∧∀k,(Value.slice a (F i).length c).ownBlock=some k→W k∧k≠g
 apart:∀i j a c n1 a' c' n2 k,i<n→j<n→i≠j→w.cell? ⟨g,i,none⟩=some (.slice a n1 c)→w.cell? ⟨g,j,none⟩=some (.slice a' n2 c')→(Value.slice a n1 c).ownBlock=some k→(Value.slice a' n2 c').ownBlock=some k→False
section
variable {n0:Nat} {W:Nat→Prop} {w w':World} {g n:Nat} {F:Nat→List (List Int)}
theorem FamR.congr {G:Nat→List (List Int)} (h:FamR n0 W w g n F) (e:∀i,i<n→F i=G i):FamR n0 W w g n G:=
 ⟨h.lo,h.gW,fun i hi=>by rw [←e i hi];exact h.cell i hi,h.apart⟩
theorem FamR.below (h:FamR n0 W w g n F) (hb:Below w.heap.size w w'):FamR n0 W w' g n F:=by
 have hg:=(h.lo g h.gW).2
 have hc:∀i,w'.cell? ⟨g,i,none⟩=w.cell? ⟨g,i,none⟩:=fun i=>World.cell?_of_block (hb.block g hg)
 refine ⟨fun k hk=>⟨(h.lo k hk).1,by have:=(h.lo k hk).2;have:=hb.size;omega⟩,h.gW,fun i hi=> ?_,fun i j a c n1 a' c' n2 k hi hj hij h1 h2=>h.apart i j a c n1 a' c' n2 k hi hj hij (by rw [←hc];exact h1) (by rw [←hc];exact h2)⟩
 obtain ⟨a,c,h1,h2,h3,h4⟩:=h.cell i hi
 exact ⟨a,c,by rw [hc];exact h1,(frozen_block (a:=⟨g,i,none⟩) (hb.block g hg)).trans h2,h3.below hb,h4⟩
theorem FamR.push (h:FamR n0 W w g n F) (hn0:n0≤w.heap.size) {i:Nat} (hi:i<n) {a a':Option Addr} {c c':Nat} {l':List (List Int)} {y:List Int} (hc:w.cell? ⟨g,i,none⟩=some (.slice a (F i).length c))
    (hl:l'=F i++[y]) (hO:Ow n0 (fun k=>(W k∨k<n0)∨k=w.heap.size) w' 49 (.slice a' l'.length c') l') (hk:∀k,(Value.slice a' l'.length c').ownBlock=some k→((Value.slice a (F i).length c).ownBlock=some k∨k=w.heap.size)∧k<w'.heap.size) (hgr:w.grownBy w' (Value.slice a (F i).length c).ownBlock):
    FamR n0 (fun k=>W k∨(k=w.heap.size∧k<w'.heap.size)) (w'.setCell ⟨g,i,none⟩ (.slice a' l'.length c')) g n (fun j=>if j=i then F i++[y] else F j):=by
 subst hl
 obtain ⟨a0,c0,h1,h2,h3,h3b⟩:=h.cell i hi
 rw [hc] at h1
 simp only [Option.some.injEq,Value.slice.injEq,true_and] at h1
 obtain ⟨rfl,rfl⟩:=h1
 have hgw:g<w.heap.size:=(h.lo g h.gW).2
 have hsz:(w'.setCell ⟨g,i,none⟩ (.slice a' (F i++[y]).length c')).heap.size=w'.heap.size:=by simp [World.setCell]
 have hgb:w'.heap[g]? =w.heap[g]? :=hgr.block g hgw (fun e=>(h3b g e.symm).2 rfl)
 have hcg:∀j,w'.cell? ⟨g,j,none⟩=w.cell? ⟨g,j,none⟩:=fun j=>World.cell?_of_block hgb
 have hnew:(w'.setCell ⟨g,i,none⟩ (.slice a' (F i++[y]).length c')).cell? ⟨g,i,none⟩=some (.slice a' (F i++[y]).length c'):=World.cell?_setCell_same _ _ _ ((hcg i).trans hc)
 have hold:∀j,j≠i→(w'.setCell ⟨g,i,none⟩ (.slice a' (F i++[y]).length c')).cell? ⟨g,j,none⟩=w.cell? ⟨g,j,none⟩:=fun j hj=>(World.cell?_setCell_other _ _ _ _ (fun e:(⟨g,i,none⟩:Addr)=⟨g,j,none⟩=>hj (Addr.mk.inj e).2.1.symm)).trans (hcg j)
 have heA:Ext (fun k=>W k∨k<n0) (fun k=>(W k∨(k=w.heap.size∧k<w'.heap.size))∨k<n0) w w':=⟨hgr.size,fun k hk hm=>hgr.block k hk (fun e=>hm (.inl (h3b k e.symm).1)),fun k hk hm=>by
  rcases hm with (hm|hm)|hm
  ·exact .inl hm
  ·omega
  exact .inr hm⟩
 have heB:Ext (fun k=>(W k∨(k=w.heap.size∧k<w'.heap.size))∨k<n0) (fun k=>(W k∨(k=w.heap.size∧k<w'.heap.size))∨k<n0) w' (w'.setCell ⟨g,i,none⟩ (.slice a' (F i++[y]).length c')):=Ext.setCell w' (p:=⟨g,i,none⟩) (.inl (.inl h.gW)) _
 refine ⟨fun k hk=> ?_,.inl h.gW,fun j hj=> ?_,fun j j' x cx nx x' cx' nx' k hj hj' hjj h1 h2 h4 h5=> ?_⟩
 ·rw [hsz]
  rcases hk with hk|hk
  ·have:=h.lo k hk;have:=hgr.size;exact ⟨by omega,by omega⟩
  exact ⟨by omega,hk.2⟩
 ·by_cases e:j=i
  ·subst e
   simp only [if_true]
   refine ⟨a',c',hnew,by rw [World.frozen?_setCell,frozen_block (a:=⟨g,j,none⟩) hgb];exact h2,?_,fun k hk2=> ?_⟩
   ·refine (hO.subM (M':=fun k=>(W k∨(k=w.heap.size∧k<w'.heap.size))∨k<n0) fun k _ hm=> ?_).ext heB fun k hk2=> ?_
    ·rcases hm with (hm|hm)|hm
     ·exact .inl (.inl hm)
     ·exact .inr hm.1
     exact .inl (.inr hm)
    refine Below.heap_setCell _ _ _ _ fun e=> ?_
    rcases (hk k hk2).1 with e2|e2
    ·exact (h3b k e2).2 e
    simp at e;omega
   obtain ⟨e1,e2⟩:=hk k hk2
   rcases e1 with e1|e1
   ·exact ⟨.inl (h3b k e1).1,(h3b k e1).2⟩
   exact ⟨.inr ⟨e1,e2⟩,by omega⟩
  simp only [if_neg e]
  obtain ⟨aj,cj,hj1,hj2,hj3,hj4⟩:=h.cell j hj
  refine ⟨aj,cj,by rw [hold j e];exact hj1,by rw [World.frozen?_setCell,frozen_block (a:=⟨g,j,none⟩) hgb];exact hj2,?_,fun k hk2=>⟨.inl (hj4 k hk2).1,(hj4 k hk2).2⟩⟩
  refine (hj3.ext heA fun k hk2=>hgr.block k (hj3.lt k hk2).2 fun e2=> ?_).ext heB fun k hk2=>Below.heap_setCell _ _ _ _ fun e2=>(hj4 k hk2).2 e2
  exact h.apart j i aj cj _ a c _ k hj hi e hj1 hc hk2 e2.symm
 by_cases e:j=i
 ·subst e
  rw [hnew] at h1
  simp only [Option.some.injEq,Value.slice.injEq] at h1
  obtain ⟨rfl,rfl,rfl⟩:=h1
  rw [hold j' (Ne.symm hjj)] at h2
  rcases (hk k h4).1 with e1|e1
  ·exact h.apart j j' a c _ x' cx' nx' k hi hj' hjj hc h2 e1 h5
  obtain ⟨aj,cj,hj1,hj2,hj3,hj4⟩:=h.cell j' hj'
  rw [hj1] at h2
  simp only [Option.some.injEq,Value.slice.injEq] at h2
  obtain ⟨rfl,rfl,rfl⟩:=h2
  have:=(hj3.lt k h5).2
  omega
 rw [hold j e] at h1
 by_cases e':j'=i
 ·subst e'
  rw [hnew] at h2
  simp only [Option.some.injEq,Value.slice.injEq] at h2
  obtain ⟨rfl,rfl,rfl⟩:=h2
  rcases (hk k h5).1 with e1|e1
  ·exact h.apart j j' x cx nx a c _ k hj hi hjj h1 hc h4 e1
  obtain ⟨aj,cj,hj1,hj2,hj3,hj4⟩:=h.cell j hj
  rw [hj1] at h1
  simp only [Option.some.injEq,Value.slice.injEq] at h1
  obtain ⟨rfl,rfl,rfl⟩:=h1
  have:=(hj3.lt k h4).2
  omega
 rw [hold j' e'] at h2
 exact h.apart j j' x cx nx x' cx' nx' k hj hj' hjj h1 h2 h4 h5
theorem FamR.made {T:TypeId} {N:Nat}:FamR w.heap.size (fun k=>k=w.heap.size) (w.alloc (.cells (madeCells #[.slice none 0 0] N) T)) w.heap.size N (fun _=>[]):=by
 have hh:(w.alloc (.cells (madeCells #[.slice none 0 0] N) T)).heap[w.heap.size]? =some (.cells (madeCells #[.slice none 0 0] N) T):=heap_alloc_new _ _
 have hc:∀i,i<N→(w.alloc (.cells (madeCells #[.slice none 0 0] N) T)).cell? ⟨w.heap.size,i,none⟩=some (.slice none 0 0):=fun i hi=>by
  unfold World.cell?
  simp only [hh]
  rw [←Array.getElem?_toList,toList_madeCells_one,List.getElem?_replicate,if_pos hi]
  rfl
 refine ⟨fun k hk=>by subst hk;simp,rfl,fun i hi=>⟨none,0,hc i hi,by unfold World.frozen?;rw [hh];simp,Ow.nil,fun k hk=>by simp [Value.ownBlock] at hk⟩,fun i j a c n1 a' c' n2 k hi hj _ h1 _ h3 _=> ?_⟩
 rw [hc i hi] at h1
 simp only [Option.some.injEq,Value.slice.injEq] at h1
 obtain ⟨rfl,rfl,rfl⟩:=h1
 simp [Value.ownBlock] at h3
theorem FamR.toSl (h:FamR n0 W w g n F) {i:Nat} (hi:i<n):∃a c,w.cell? ⟨g,i,none⟩=some (.slice a (F i).length c)∧Sl (fun _=>False) w a c (F i):=by
 obtain ⟨a,c,h1,h2,h3,h4⟩:=h.cell i hi
 exact ⟨a,c,h1,(h3.subM (M':=fun _=>False) fun _ _ h=>h.elim).toSl fun _ _ h=>h⟩
end
section
variable {P:Program} {w:World} {o:Oper} {a:Act} {ops:Array Oper} {rest:List Oper} {Q:Exit→Act→World→Prop}
end
end Go.Proofs.YtjagagpcjpcjjaaGreat
