/- Several texts, one behind the other. Conditions: as each of them says. -/
import Derived.Test.YtjagagpcjpcjjaaGreatMc24
import Derived.Test.YtjagagpcjpcjjaaGreatMc9
import Derived.Test.YtjagagpcjpcjjaaGreatMc7
import Derived.Test.YtjagagpcjpcjjaaGreatMc4
import Derived.Test.YtjagagpcjpcjjaaGreatMc1
import Derived.Test.YtjagagpcjpcjjaaGreatLayInts
import Derived.Sort.OwnSortedInts
import Derived.Lib.SlicesCompact
set_option maxRecDepth 100000
set_option maxHeartbeats 32000000
namespace Go.Proofs.YtjagagpcjpcjjaaGreat
open Go.RowKit Go.Sort Go.Shelf
def iins (x:Int):List Int→List Int
 |[]=>[x]
 |y::l=>if y<x then y::iins x l else if y=x then y::l else x::y::l
def iset (l:List Int):List Int:=l.foldl (fun L x=>iins x L) []
def IAsc (l:List Int):Prop:=l.Pairwise (·<·)
theorem iins_mem {x z:Int}:∀{l:List Int},z∈iins x l↔z=x∨z∈l
 |[]=>by simp [iins]
 |y::l=>by
  unfold iins
  split
  ·rw [List.mem_cons,iins_mem (l:=l),List.mem_cons]
   constructor
   ·rintro (h|h|h)
    ·exact .inr (.inl h)
    ·exact .inl h
    exact .inr (.inr h)
   rintro (h|h|h)
   ·exact .inr (.inl h)
   ·exact .inl h
   exact .inr (.inr h)
  split
  ·rename_i h0
   subst h0
   simp
  simp
theorem iins_asc {x:Int}:∀{l:List Int},IAsc l→IAsc (iins x l)
 |[],_=>by simp [iins,IAsc]
 |y::l,hl=>by
  unfold IAsc at hl
  rw [List.pairwise_cons] at hl
  unfold iins
  split
  ·rename_i h1
   refine List.pairwise_cons.2 ⟨fun z hz=> ?_,iins_asc hl.2⟩
   rcases iins_mem.1 hz with rfl|hz
   ·exact h1
   exact hl.1 z hz
  split
  ·exact List.pairwise_cons.2 hl
  refine List.pairwise_cons.2 ⟨fun z hz=> ?_,List.pairwise_cons.2 hl⟩
  rcases List.mem_cons.1 hz with rfl|hz
  ·omega
  have:=hl.1 z hz;omega
theorem iset_fold:∀(l L:List Int),IAsc L→IAsc (l.foldl (fun L x=>iins x L) L)∧∀z,z∈l.foldl (fun L x=>iins x L) L↔z∈l∨z∈L
 |[],L,hL=>⟨hL,fun z=>by simp⟩
 |x::l,L,hL=>by
  obtain ⟨h1,h2⟩:=iset_fold l (iins x L) (iins_asc hL)
  refine ⟨h1,fun z=> ?_⟩
  rw [List.foldl_cons,h2 z,iins_mem,List.mem_cons]
  constructor
  ·rintro (h|h|h)
   ·exact .inl (.inr h)
   ·exact .inl (.inl h)
   exact .inr h
  rintro ((h|h)|h)
  ·exact .inr (.inl h)
  ·exact .inl h
  exact .inr (.inr h)
theorem iset_asc (l:List Int):IAsc (iset l):=(iset_fold l [] (by simp [IAsc])).1
theorem iset_mem {l:List Int} {z:Int}:z∈iset l↔z∈l:=by
 have:=(iset_fold l [] (by simp [IAsc])).2 z
 simpa [iset] using this
theorem iset_succ {l:List Int} {k:Nat} {x:Int} (h:l[k]? =some x):iset (l.take (k+1))=iins x (iset (l.take k)):=by
 rw [List.take_add_one,h];unfold iset;rw [List.foldl_append];rfl
theorem iasc_unique:∀{l l':List Int},IAsc l→IAsc l'→(∀z,z∈l↔z∈l')→l=l'
 |[],[],_,_,_=>rfl
 |[],y::l',_,_,hm=>by have:=(hm y).2 (by simp);simp at this
 |x::l,[],_,_,hm=>by have:=(hm x).1 (by simp);simp at this
 |x::l,y::l',hl,hl',hm=>by
  unfold IAsc at hl hl'
  rw [List.pairwise_cons] at hl hl'
  have hxy:x=y:=by
   rcases List.mem_cons.1 ((hm x).1 (by simp)) with e|e
   ·exact e
   rcases List.mem_cons.1 ((hm y).2 (by simp)) with e2|e2
   ·exact e2.symm
   have h1:=hl'.1 x e
   have h2:=hl.1 y e2
   omega
  subst hxy
  rw [iasc_unique hl.2 hl'.2 fun z=>⟨fun hz=>by
   rcases List.mem_cons.1 ((hm z).1 (by simp [hz])) with e|e
   ·have:=hl.1 z hz;omega
   ·exact e,fun hz=>by
   rcases List.mem_cons.1 ((hm z).2 (by simp [hz])) with e|e
   ·have:=hl'.1 z hz;omega
   exact e⟩]
theorem iset_of {l L:List Int} (ha:IAsc L) (hm:∀z,z∈L↔z∈l):iset l=L:=iasc_unique (iset_asc l) ha fun z=>by rw [iset_mem,hm]
theorem iset_len (l:List Int):(iset l).length≤l.length:=by
 have hi:∀(x:Int) (L:List Int),(iins x L).length≤L.length+1:=by
  intro x L
  induction L with
  |nil=>simp [iins]
  |cons y L ih=>unfold iins;split<;>(try split)<;>simp<;>omega
 have:∀k,k≤l.length→(iset (l.take k)).length≤k:=by
  intro k
  induction k with
  |zero=>intro _;simp [iset]
  |succ k ih=>
   intro hk
   rw [iset_succ (List.getElem?_eq_getElem (show k<l.length by omega))]
   have:=hi l[k] (iset (l.take k))
   have:=ih (by omega)
   omega
 have h:=this l.length (Nat.le_refl _)
 rwa [List.take_length] at h
theorem iasc_count {l:List Int} (h:IAsc l) {k:Nat} {x:Int} (hk:l[k]? =some x):l.countP (·<x)=k:=by
 induction l generalizing k with
 |nil=>simp at hk
 |cons y l ih=>
  unfold IAsc at h
  rw [List.pairwise_cons] at h
  cases k with
  |zero=>
   obtain rfl:y=x:=by simpa using hk
   rw [List.countP_cons]
   have:l.countP (·<y)=0:=by
    rw [List.countP_eq_zero]
    intro z hz
    have:=h.1 z hz
    simp;omega
   simp [this]
  |succ k=>
   have hk':l[k]? =some x:=by simpa using hk
   rw [List.countP_cons,ih h.2 hk']
   have:=h.1 x (List.mem_of_getElem? hk')
   simp [this]
theorem comp_sort (l:List Int):Lib.compact (l.mergeSort fun x y=>decide (x≤y))=iset l:=by
 have hp:=List.mergeSort_perm l fun x y=>decide (x≤y)
 have hs:(l.mergeSort fun x y=>decide (x≤y)).Pairwise fun a b=>decide (a≤b)=true:=
  List.pairwise_mergeSort (fun a b c h1 h2=>by simp at*;omega) (fun a b=>by simp;omega) l
 generalize l.mergeSort (fun x y=>decide (x≤y))=zs at hp hs
 have hs2:∀i j,i<j→j<zs.length→zs.getD i 0≤zs.getD j 0:=by
  intro i j hij hj
  rw [List.pairwise_iff_getElem] at hs
  have:=hs i j (by omega) hj hij
  rw [List.getD_eq_getElem?_getD,List.getD_eq_getElem?_getD,List.getElem?_eq_getElem (by omega),List.getElem?_eq_getElem hj]
  simpa using this
 have hg:∀j,zs.toArray[j]! =zs.getD j 0:=fun j=>by
  rw [List.getD_eq_getElem?_getD];simp [getElem!_def];cases zs[j]? <;>rfl
 have main:∀m,m≤zs.length→IAsc (Lib.compactUpTo zs.toArray m)∧(∀z,z∈Lib.compactUpTo zs.toArray m↔∃j,j<m∧zs.getD j 0=z):=by
  intro m
  induction m with
  |zero=>intro _;exact ⟨by simp [Lib.compactUpTo,IAsc],fun z=>by simp [Lib.compactUpTo]⟩
  |succ m ih=>
   intro hm
   obtain ⟨h1,h2⟩:=ih (by omega)
   rw [Lib.compactUpTo_succ,hg]
   by_cases hk:Lib.keeps zs.toArray m=true
   ·rw [if_pos hk]
    constructor
    ·unfold IAsc at h1 ⊢
     rw [List.pairwise_append]
     refine ⟨h1,by simp,fun a ha b hb=> ?_⟩
     obtain rfl:=List.mem_singleton.1 hb
     obtain ⟨j,hj,rfl⟩:=(h2 a).1 ha
     have hm0:0<m:=by omega
     have hne:zs.getD m 0≠zs.getD (m-1) 0:=by
      intro e
      rw [Lib.keeps_neg hm0 (by rw [hg,hg];exact e)] at hk
      cases hk
     have e1:=hs2 (m-1) m (by omega) (by omega)
     have e2:zs.getD j 0≤zs.getD (m-1) 0:=by
      by_cases e:j=m-1
      ·rw [e];exact Int.le_refl _
      exact hs2 j (m-1) (by omega) (by omega)
     omega
    intro z
    rw [List.mem_append,h2,List.mem_singleton]
    constructor
    ·rintro (⟨j,hj,e⟩|e)
     ·exact ⟨j,by omega,e⟩
     exact ⟨m,by omega,e.symm⟩
    rintro ⟨j,hj,e⟩
    by_cases e2:j=m
    ·subst e2;exact .inr e.symm
    exact .inl ⟨j,by omega,e⟩
   rw [if_neg hk,List.append_nil]
   refine ⟨h1,fun z=> ?_⟩
   rw [h2]
   constructor
   ·rintro ⟨j,hj,e⟩
    exact ⟨j,by omega,e⟩
   rintro ⟨j,hj,e⟩
   by_cases e2:j=m
   ·subst e2
    have hm0:0<j:=by
     by_cases e0:j=0
     ·subst e0;exact absurd (Lib.keeps_lt_one zs.toArray 0 (by omega)) hk
     omega
    refine ⟨j-1,by omega,?_⟩
    have:¬zs.toArray[j]!≠zs.toArray[j-1]! :=fun h=>hk (Lib.keeps_pos h)
    rw [hg,hg] at this
    have:zs.getD j 0=zs.getD (j-1) 0:=Classical.not_not.1 this
    rw [←this];exact e
   exact ⟨j,by omega,e⟩
 obtain ⟨h1,h2⟩:=main zs.length (Nat.le_refl _)
 refine (iset_of h1 fun z=> ?_).symm
 rw [h2,←hp.mem_iff]
 constructor
 ·rintro ⟨j,hj,rfl⟩
  rw [List.getD_eq_getElem?_getD,List.getElem?_eq_getElem hj]
  exact List.getElem_mem hj
 intro hz
 obtain ⟨j,hj,e⟩:=List.mem_iff_getElem.1 hz
 exact ⟨j,hj,by rw [List.getD_eq_getElem?_getD,List.getElem?_eq_getElem hj];exact e⟩
section
variable {M:Nat→Prop} {w:World} {B g c:Nat} {l:List Int}
theorem ow_ints (h:Ow B M w 3 (.slice (some ⟨g,0,none⟩) l.length c) l):∃cur,B≤g∧g<w.heap.size∧w.heap[g]? =some (.cells cur 3 (0,0))∧l.length≤c∧c≤maxLen∧cur.size=c*1∧cur.toList.take l.length=l.map (Value.int .i64)∧∀x∈l,i64 x:=by
 obtain ⟨xs,h1,h2⟩:=h
 have hxl:xs.length=l.length:=by have:=h1.1;simpa [GR.sz] using this
 have hxs:xs=l.map (Value.int .i64):=by
  apply List.ext_getElem (by simpa using hxl)
  intro j hj hj2
  have hjl:j<l.length:=by omega
  have h3:=take_drop_one (h2 j l[j] (by simp [hjl])).1
  rw [List.getElem?_eq_getElem hj] at h3
  simpa using h3
 rcases h1.2 with ⟨hv, -⟩|⟨g',cap,cur,hv,hb,hg,h3,h4,h5,h6⟩
 ·simp at hv
 simp only [Value.slice.injEq,Option.some.injEq,Addr.mk.injEq,true_and,and_true] at hv
 obtain ⟨rfl,rfl⟩:=hv
 refine ⟨cur,hb,(Array.getElem?_eq_some_iff.1 hg).1,hg,h3,h4,by simpa [GR.sz] using h5,?_,fun x hx=> ?_⟩
 ·rw [←hxs];simpa [GR.sz] using h6
 obtain ⟨j,hj,rfl⟩:=List.mem_iff_getElem.1 hx
 exact (h2 j l[j] (by simp [hj])).2
theorem ow_of_ints {w':World} {L:List Int} (h:w'.ownsRow B 3 1 (.slice (some ⟨g,0,none⟩) L.length c) L.length (L.map (Value.int .i64))) (hi:∀x∈L,i64 x):Ow B M w' 3 (.slice (some ⟨g,0,none⟩) L.length c) L:=by
 refine ⟨L.map (Value.int .i64),h,fun j x hj=>⟨?_,hi x (List.mem_of_getElem? hj)⟩⟩
 apply List.ext_getElem?
 intro i
 rcases i with _|i
 ·simp [GR.sz,List.getElem?_drop,hj]
 rw [List.getElem?_take,if_neg (by simp only [GR.sz];omega)];simp
theorem isort_any (hO:Ow B M w 3 (.slice (some ⟨g,0,none⟩) l.length c) l) (hn:l.length<1000000000000):
    Calls Tryz.prog 216 #[.slice (some ⟨g,0,none⟩) l.length c] w fun e w'=>e= .returned (.tuple #[])∧∃L,Hid (L=l.mergeSort fun x y=>decide (x≤y))∧Hid (L.length=l.length)∧Ow B M w' 3 (.slice (some ⟨g,0,none⟩) L.length c) L∧w.grownBy w' (some g):=by
 obtain ⟨cur,hb,hg,hgc,h1,h2,h3,h4,h5⟩:=ow_ints hO
 have hcon:=AnyM.slices_Sort_int Tryz.sortInts g 0 c l w (holds_of_blockI hgc h4) hg (by omega)
 change Calls Tryz.prog 216 _ _ _ at hcon
 refine hcon.mono ?_
 rintro e w' ⟨rfl,n,os,rfl⟩
 have hl:(l.mergeSort fun x y=>decide (x≤y)).length=l.length:=List.length_mergeSort l
 have ho:=ownsRow_sortedI (w:=w) (n:=n) (os:=os) hl hb hgc h1 h2 h3
 refine ⟨rfl,_,rfl,hl,ow_of_ints (by rw [hl];exact ho) (fun x hx=>h5 x (((List.mergeSort_perm l _).mem_iff).1 hx)),grownBy_sortedI _⟩
theorem icomp_any (hO:Ow B M w 3 (.slice (some ⟨g,0,none⟩) l.length c) l) (hn:l.length<1000000000000):
    Calls Tryz.prog 217 #[.slice (some ⟨g,0,none⟩) l.length c] w fun e w'=>∃L,e= .returned (.slice (some ⟨g,0,none⟩) L.length c)∧Hid (L=Lib.compact l)∧Ow B M w' 3 (.slice (some ⟨g,0,none⟩) L.length c) L∧w.grownBy w' (some g):=by
 obtain ⟨cur,hb,hg,hgc,h1,h2,h3,h4,h5⟩:=ow_ints hO
 have hcon:=AnyG.slices_Compact_int Tryz.compInts g 0 c l w (holds_of_blockI hgc h4) (by omega) h1
 change Calls Tryz.prog 217 _ _ _ at hcon
 refine hcon.mono ?_
 rintro e w' ⟨rfl,n,rfl⟩
 have hcl:(Lib.compact l).length≤l.length:=by
  unfold Lib.compact Lib.compactUpTo
  rw [List.length_map]
  exact Nat.le_trans (List.length_filter_le _ _) (by simp)
 have hl:(Lib.compact l++List.replicate (l.length-(Lib.compact l).length) 0).length=l.length:=by simp;omega
 have ho:=ownsRow_sortedI (w:=w) (n:=n) (os:= #[]) hl hb hgc h1 h2 h3
 rw [grow_empty] at ho
 have hin:∀x∈Lib.compact l,x∈l:=by
  intro x hx
  unfold Lib.compact Lib.compactUpTo at hx
  obtain ⟨j,hj,rfl⟩:=List.mem_map.1 hx
  have hj2:j<l.length:=by simpa using (List.mem_filter.1 hj).1
  simp [hj2]
 have hO2:Ow B M (putRow (Value.int .i64) (Sort.ahead w n) g 0 (Lib.compact l++List.replicate (l.length-(Lib.compact l).length) 0).toArray) 3 (.slice (some ⟨g,0,none⟩) (Lib.compact l++List.replicate (l.length-(Lib.compact l).length) 0).length c) (Lib.compact l++List.replicate (l.length-(Lib.compact l).length) 0):=
  ow_of_ints (by rw [hl];exact ho) fun x hx=>by
   rcases List.mem_append.1 hx with h|h
   ·exact h5 x (hin x h)
   rw [(List.mem_replicate.1 h).2];unfold i64;omega
 have hO3:=hO2.take rfl (k:=(Lib.compact l).length) (by rw [hl];exact hcl)
 rw [List.take_left] at hO3
 have hgr:=grownBy_sortedI (w:=w) (g:=g) (n:=n) (os:= #[]) (Lib.compact l++List.replicate (l.length-(Lib.compact l).length) 0).toArray
 rw [grow_empty] at hgr
 exact ⟨_,rfl,rfl,hO3,hgr⟩
theorem ifind_any {M:Nat→Prop} {n:Nat} (hn:n=l.length) (hO:Sl M w (some ⟨g,0,none⟩) c l) (hl:l.length<1000000000000) (ha:IAsc l) {k:Nat} {x:Int} (hk:l[k]? =some x):
    Calls Tryz.prog 218 #[.slice (some ⟨g,0,none⟩) n c,.int .i64 x] w fun e w'=>e= .returned (.tuple #[.int .i64 k,.bool true])∧Below w.heap.size w w':=by
 subst hn
 have hcon:=AnyG.slices_BinarySearch_int Tryz.findInts g 0 l.length c l x w (Nat.le_refl _) (by omega) (fun j hj=>by
  obtain ⟨b,off,y,hb,hc,hy, -⟩:=hO.at_int hj
  simp only [Option.some.injEq,Addr.mk.injEq,and_true] at hb
  obtain ⟨rfl,rfl⟩:=hb
  rw [hc,List.getD_eq_getElem?_getD,hy.out];rfl) (by rw [List.take_length];exact ha.imp fun h=>by omega)
 change Calls Tryz.prog 218 _ _ _ at hcon
 rw [List.take_length,iasc_count ha hk,show l.contains x=true from by simpa using List.mem_of_getElem? hk] at hcon
 refine hcon.mono ?_
 rintro e w' ⟨rfl,q,rfl⟩
 exact ⟨rfl,below_drewN _ _ _⟩
end
end Go.Proofs.YtjagagpcjpcjjaaGreat
namespace Go.Proofs.YtjagagpcjpcjjaaGreat
open Go.RowKit
def Fam (B:Nat) (w:World) (g n:Nat) (F:Nat→List Int):Prop:=
 (∀i,i<n→∃a c,w.cell? ⟨g,i,none⟩=some (.slice a (F i).length c)∧w.frozen? ⟨g,i,none⟩=false∧Ow B (fun k=>B≤k) w 3 (.slice a (F i).length c) (F i))∧
 ∀i j a c n1 a' c' n2 k,i<n→j<n→i≠j→w.cell? ⟨g,i,none⟩=some (.slice a n1 c)→w.cell? ⟨g,j,none⟩=some (.slice a' n2 c')→(Value.slice a n1 c).ownBlock=some k→(Value.slice a' n2 c').ownBlock=some k→False
section
variable {B:Nat} {w w':World} {g n:Nat} {F:Nat→List Int}
theorem Fam.at (h:Fam B w g n F) {i:Nat} (hi:i<n):∃a c,w.cell? ⟨g,i,none⟩=some (.slice a (F i).length c)∧w.frozen? ⟨g,i,none⟩=false∧Ow B (fun k=>B≤k) w 3 (.slice a (F i).length c) (F i):=h.1 i hi
theorem Fam.congr {G:Nat→List Int} (h:Fam B w g n F) (e:∀i,i<n→F i=G i):Fam B w g n G:=
 ⟨fun i hi=>by rw [←e i hi];exact h.1 i hi,h.2⟩
theorem frozen_block {a:Addr} (h:w'.heap[a.block]? =w.heap[a.block]?):w'.frozen? a=w.frozen? a:=by unfold World.frozen?;rw [h]
theorem Fam.below (h:Fam B w g n F) (hg:g<w.heap.size) (hb:Below w.heap.size w w'):Fam B w' g n F:=by
 have hc:∀i,w'.cell? ⟨g,i,none⟩=w.cell? ⟨g,i,none⟩:=fun i=>World.cell?_of_block (hb.block g hg)
 refine ⟨fun i hi=> ?_,fun i j a c n1 a' c' n2 k hi hj hij h1 h2=>h.2 i j a c n1 a' c' n2 k hi hj hij (by rw [←hc];exact h1) (by rw [←hc];exact h2)⟩
 obtain ⟨a,c,h1,h2,h3⟩:=h.1 i hi
 exact ⟨a,c,by rw [hc];exact h1,(frozen_block (a:=⟨g,i,none⟩) (hb.block g hg)).trans h2,h3.below hb⟩
theorem Fam.push (h:Fam B w g n F) (hg:g<B) (hB:B≤w.heap.size) {i:Nat} (hi:i<n) {a a':Option Addr} {c c':Nat} {l':List Int} {y:Int} (hc:w.cell? ⟨g,i,none⟩=some (.slice a (F i).length c))
    (hl:l'=F i++[y]) (hO:Ow B (fun k=>B≤k) w' 3 (.slice a' l'.length c') l') (hk:∀k,(Value.slice a' l'.length c').ownBlock=some k→(Value.slice a (F i).length c).ownBlock=some k∨w.heap.size≤k) (hgr:w.grownBy w' (Value.slice a (F i).length c).ownBlock):
    Fam B (w'.setCell ⟨g,i,none⟩ (.slice a' l'.length c')) g n (fun j=>if j=i then F i++[y] else F j):=by
 subst hl
 obtain ⟨a0,c0,h1,h2,h3⟩:=h.1 i hi
 rw [hc] at h1
 simp only [Option.some.injEq,Value.slice.injEq,true_and] at h1
 obtain ⟨rfl,rfl⟩:=h1
 have hgw:g<w.heap.size:=by omega
 have hgb:w'.heap[g]? =w.heap[g]? :=hgr.block g hgw (fun e=>by have:=(h3.lt g e.symm).1;omega)
 have hcg:∀j,w'.cell? ⟨g,j,none⟩=w.cell? ⟨g,j,none⟩:=fun j=>World.cell?_of_block hgb
 have hnew:(w'.setCell ⟨g,i,none⟩ (.slice a' (F i++[y]).length c')).cell? ⟨g,i,none⟩=some (.slice a' (F i++[y]).length c'):=World.cell?_setCell_same _ _ _ ((hcg i).trans hc)
 have hold:∀j,j≠i→(w'.setCell ⟨g,i,none⟩ (.slice a' (F i++[y]).length c')).cell? ⟨g,j,none⟩=w.cell? ⟨g,j,none⟩:=fun j hj=>(World.cell?_setCell_other _ _ _ _ (fun e:(⟨g,i,none⟩:Addr)=⟨g,j,none⟩=>hj (Addr.mk.inj e).2.1.symm)).trans (hcg j)
 have hes:∀{v:Value} {l:List Int},Ow B (fun k=>B≤k) w' 3 v l→Ow B (fun k=>B≤k) (w'.setCell ⟨g,i,none⟩ (.slice a' (F i++[y]).length c')) 3 v l:=fun hv=>hv.setOtherI (fun k hk=>by have:=(hv.lt k hk).1;show k≠g;omega) _
 refine ⟨fun j hj=> ?_,fun j j' x cx nx x' cx' nx' k hj hj' hjj h1 h2 h4 h5=> ?_⟩
 ·by_cases e:j=i
  ·subst e
   simp only [if_true]
   exact ⟨a',c',hnew,by rw [World.frozen?_setCell,frozen_block (a:=⟨g,j,none⟩) hgb];exact h2,hes hO⟩
  simp only [if_neg e]
  obtain ⟨aj,cj,hj1,hj2,hj3⟩:=h.1 j hj
  refine ⟨aj,cj,by rw [hold j e];exact hj1,by rw [World.frozen?_setCell,frozen_block (a:=⟨g,j,none⟩) hgb];exact hj2,hes ?_⟩
  refine hj3.kept hgr.size fun k hk=>hgr.block k (hj3.lt k hk).2 fun e2=> ?_
  exact h.2 j i aj cj _ a c _ k hj hi e hj1 hc hk e2.symm
 by_cases e:j=i
 ·subst e
  rw [hnew] at h1
  simp only [Option.some.injEq,Value.slice.injEq] at h1
  obtain ⟨rfl,rfl,rfl⟩:=h1
  rw [hold j' (Ne.symm hjj)] at h2
  rcases hk k h4 with e1|e1
  ·exact h.2 j j' a c _ x' cx' nx' k hi hj' hjj hc h2 e1 h5
  obtain ⟨aj,cj,hj1,hj2,hj3⟩:=h.1 j' hj'
  rw [hj1] at h2
  simp only [Option.some.injEq,Value.slice.injEq] at h2
  obtain ⟨rfl,rfl,rfl⟩:=h2
  have:=(hj3.lt k h5).2
  omega
 rw [hold j e] at h1
 by_cases e':j'=i
 ·subst e'
  rw [hnew] at h2
  simp only [Option.some.injEq,Value.slice.injEq] at h2
  obtain ⟨rfl,rfl,rfl⟩:=h2
  rcases hk k h5 with e1|e1
  ·exact h.2 j j' x cx nx a c _ k hj hi hjj h1 hc h4 e1
  obtain ⟨aj,cj,hj1,hj2,hj3⟩:=h.1 j hj
  rw [hj1] at h1
  simp only [Option.some.injEq,Value.slice.injEq] at h1
  obtain ⟨rfl,rfl,rfl⟩:=h1
  have:=(hj3.lt k h4).2
  omega
 rw [hold j' e'] at h2
 exact h.2 j j' x cx nx x' cx' nx' k hj hj' hjj h1 h2 h4 h5
theorem Fam.made {T:TypeId} {N:Nat} {z:Array Value} (hz:∀i,i<N→(madeCells z N)[i]? =some (.slice none 0 0)):Fam (w.heap.size+1) (w.alloc (.cells (madeCells z N) T)) w.heap.size N (fun _=>[]):=by
 have hh:(w.alloc (.cells (madeCells z N) T)).heap[w.heap.size]? =some (.cells (madeCells z N) T):=heap_alloc_new _ _
 have hc:∀i,i<N→(w.alloc (.cells (madeCells z N) T)).cell? ⟨w.heap.size,i,none⟩=some (.slice none 0 0):=fun i hi=>by
  unfold World.cell?
  simp only [hh]
  simpa using hz i hi
 refine ⟨fun i hi=>⟨none,0,hc i hi,by unfold World.frozen?;rw [hh];simp,Ow.nil⟩,fun i j a c n1 a' c' n2 k hi hj _ h1 _ h3 _=> ?_⟩
 rw [hc i hi] at h1
 simp only [Option.some.injEq,Value.slice.injEq] at h1
 obtain ⟨rfl,rfl,rfl⟩:=h1
 simp [Value.ownBlock] at h3
end
structure Gp where
 ini:List Int
 cur:List Int
 deriving DecidableEq
instance:GR Gp where
 sz:=2
 rep M w cs q:=∃a c b d,cs=[.slice a q.ini.length c,.slice b q.cur.length d]∧Sl M w a c q.ini∧Sl M w b d q.cur
 len h:=by obtain ⟨a,c,b,d,h,_⟩:=h;rw [h];rfl
 ext e h:=by obtain ⟨a,c,b,d,h,h1,h2⟩:=h;exact ⟨a,c,b,d,h,h1.ext e,h2.ext e⟩
theorem Sl.at_gp {M:Nat→Prop} {w:World} {a:Option Addr} {c:Nat} {l:List Gp} (h:Sl M w a c l) {j:Nat} (hj:j<l.length):
    ∃b off a1 c1 a2 c2 q,a=some ⟨b,off,none⟩∧w.cell? ⟨b,off+j*2,none⟩=some (.slice a1 q.ini.length c1)∧w.cell? ⟨b,off+j*2+1,none⟩=some (.slice a2 q.cur.length c2)∧Hid (l[j]? =some q)∧
     Sl M w a1 c1 q.ini∧Sl M w a2 c2 q.cur:=by
 obtain ⟨b,off,cs,ha,_,_,⟨a1,c1,a2,c2,rfl,h1,h2⟩,hc⟩:=h.2.2 j l[j] (by simp [hj])
 refine ⟨b,off,a1,c1,a2,c2,l[j],ha,by simpa [GR.sz] using hc 0 _ rfl,by simpa [GR.sz] using hc 1 _ rfl,by unfold Hid;simp [hj],h1,h2⟩
namespace Mach
variable (m:Mach)
def outsI (x:Nat) (C:List Int):List Int:=iset (C.map fun s=>m.ot s.toNat x)
def gpI (x:Nat) (I C:List Int) (o:Int):List Int:=((I.zip C).filter fun p=>decide (m.ot p.2.toNat x=o)).map Prod.fst
def gpC (x:Nat) (I C:List Int) (o:Int):List Int:=((I.zip C).filter fun p=>decide (m.ot p.2.toNat x=o)).map fun p=>m.nx p.2.toNat x
def grp (x:Nat) (I C:List Int) (o:Int):Gp:=⟨m.gpI x I C o,m.gpC x I C o⟩
def grps (x:Nat) (I C:List Int):List Gp:=(m.outsI x C).map (m.grp x I C)
def famI (x:Nat) (I C K:List Int) (k i:Nat):List Int:=if i%2=0 then m.gpI x (I.take k) (C.take k) (K.getD (i/2) 0) else m.gpC x (I.take k) (C.take k) (K.getD (i/2) 0)
variable {m}
theorem zip_take_succ {I C:List Int} {k:Nat} {p s:Int} (h1:I[k]? =some p) (h2:C[k]? =some s):(I.take (k+1)).zip (C.take (k+1))=(I.take k).zip (C.take k)++[(p,s)]:=by
 have e:∀j,(I.take j).zip (C.take j)=(I.zip C).take j:=fun j=>by unfold List.zip;rw [List.take_zipWith]
 rw [e,e,List.take_add_one]
 congr 1
 rw [show (I.zip C)[k]? =some (p,s) from List.getElem?_zip_eq_some.2 ⟨h1,h2⟩];rfl
theorem gpI_step {x:Nat} {I C:List Int} {k:Nat} {p s o:Int} (h1:I[k]? =some p) (h2:C[k]? =some s):m.gpI x (I.take (k+1)) (C.take (k+1)) o=m.gpI x (I.take k) (C.take k) o++(if m.ot s.toNat x=o then [p] else []):=by
 unfold gpI
 rw [zip_take_succ h1 h2,List.filter_append,List.map_append]
 congr 1
 by_cases e:m.ot s.toNat x=o<;>simp [e]
theorem gpC_step {x:Nat} {I C:List Int} {k:Nat} {p s o:Int} (h1:I[k]? =some p) (h2:C[k]? =some s):m.gpC x (I.take (k+1)) (C.take (k+1)) o=m.gpC x (I.take k) (C.take k) o++(if m.ot s.toNat x=o then [m.nx s.toNat x] else []):=by
 unfold gpC
 rw [zip_take_succ h1 h2,List.filter_append,List.map_append]
 congr 1
 by_cases e:m.ot s.toNat x=o<;>simp [e]
theorem famI_zero (x:Nat) (I C K:List Int) (i:Nat):m.famI x I C K 0 i=[]:=by unfold famI gpI gpC;simp
theorem famI_step {x:Nat} {I C K:List Int} {k j:Nat} {p s:Int} (h1:I[k]? =some p) (h2:C[k]? =some s) (hK:IAsc K) (hj:K[j]? =some (m.ot s.toNat x)) (i:Nat) (hi:i<K.length*2):
    (if i=2*j+1 then (if 2*j+1=2*j then m.famI x I C K k (2*j)++[p] else m.famI x I C K k (2*j+1))++[m.nx s.toNat x] else if i=2*j then m.famI x I C K k (2*j)++[p] else m.famI x I C K k i)=m.famI x I C K (k+1) i:=by
 have hKj:K.getD j 0=m.ot s.toNat x:=by rw [List.getD_eq_getElem?_getD,hj];rfl
 by_cases e1:i=2*j+1
 ·subst e1
  rw [if_pos rfl,if_neg (by omega)]
  unfold famI
  rw [if_neg (by omega),if_neg (by omega),show (2*j+1)/2=j by omega,gpC_step h1 h2,hKj,if_pos rfl]
 rw [if_neg e1]
 by_cases e2:i=2*j
 ·subst e2
  rw [if_pos rfl]
  unfold famI
  rw [if_pos (by omega),if_pos (by omega),show (2*j)/2=j by omega,gpI_step h1 h2,hKj,if_pos rfl]
 rw [if_neg e2]
 have hne:¬m.ot s.toNat x=K.getD (i/2) 0:=by
  intro e
  have hi2:i/2<K.length:=by omega
  have hg:K[i/2]? =some (K.getD (i/2) 0):=by rw [List.getD_eq_getElem?_getD,List.getElem?_eq_getElem hi2];rfl
  rw [←e] at hg
  have a1:=iasc_count hK hg
  have a2:=iasc_count hK hj
  omega
 unfold famI
 by_cases e3:i%2=0
 ·rw [if_pos e3,if_pos e3,gpI_step h1 h2,if_neg hne,List.append_nil]
 rw [if_neg e3,if_neg e3,gpC_step h1 h2,if_neg hne,List.append_nil]
end Mach
theorem Fam.toSl {M:Nat→Prop} {B:Nat} {w:World} {g c:Nat} {m:Mach} {x:Nat} {I C K:List Int} {G:List Gp} (h:Fam B w g (K.length*2) (m.famI x I C K C.length)) (hIC:I.length=C.length) (hG:G=K.map (m.grp x I C)) (hg:g<w.heap.size) (hgM:¬M g) (hMB:∀k,M k→k<B) (hc:K.length≤c) (hc2:c≤maxLen):
    Sl M w (some ⟨g,0,none⟩) c G:=by
 subst hG
 refine ⟨by simpa using hc,hc2,fun j q hj=> ?_⟩
 rw [List.getElem?_map] at hj
 obtain ⟨o,ho,rfl⟩:=Option.map_eq_some_iff.1 hj
 have hjl:j<K.length:=by
  by_cases e:j<K.length
  ·exact e
  rw [List.getElem?_eq_none (by omega)] at ho;simp at ho
 have hKj:K.getD j 0=o:=by rw [List.getD_eq_getElem?_getD,ho];rfl
 obtain ⟨a1,c1,h1, -,h2⟩:=h.1 (2*j) (by omega)
 obtain ⟨a2,c2,h3, -,h4⟩:=h.1 (2*j+1) (by omega)
 have e1:m.famI x I C K C.length (2*j)=(m.grp x I C o).ini:=by
  unfold Mach.famI Mach.grp
  rw [if_pos (by omega),show (2*j)/2=j by omega,hKj,List.take_length,List.take_of_length_le (by omega)]
 have e2:m.famI x I C K C.length (2*j+1)=(m.grp x I C o).cur:=by
  unfold Mach.famI Mach.grp
  rw [if_neg (by omega),show (2*j+1)/2=j by omega,hKj,List.take_length,List.take_of_length_le (by omega)]
 rw [e1] at h1 h2
 rw [e2] at h3 h4
 refine ⟨g,0,[.slice a1 (m.grp x I C o).ini.length c1,.slice a2 (m.grp x I C o).cur.length c2],rfl,hg,hgM,⟨a1,c1,a2,c2,rfl,(h2.anyM (M':=M)).toSl fun k hk hm=> ?_,(h4.anyM (M':=M)).toSl fun k hk hm=> ?_⟩,fun i u hi=> ?_⟩
 ·have:=(h2.lt k hk).1;have:=hMB k hm;omega
 ·have:=(h4.lt k hk).1;have:=hMB k hm;omega
 match i,hi with
 |0,hi=>simp at hi;subst hi;simpa [GR.sz,Nat.mul_comm] using h1
 |1,hi=>simp at hi;subst hi;simpa [GR.sz,Nat.mul_comm] using h3
 |i+2,hi=>simp at hi
structure Kd where
 out:Int
 to:Int
 deriving DecidableEq
structure Nd where
 st:List Int
 inp:Int
 kids:List Kd
 deriving DecidableEq
instance:GR Kd where
 sz:=2
 rep _ _ cs x:=cs=[.int .i64 x.out,.int .i64 x.to]∧i64 x.out∧i64 x.to
 len h:=by rw [h.1];rfl
 ext _ h:=h
instance:GR Nd where
 sz:=3
 rep M w cs x:=(∃a c b d,cs=[.slice a x.st.length c,.int .i64 x.inp,.slice b x.kids.length d]∧Sl M w a c x.st∧Sl M w b d x.kids)∧i64 x.inp
 len h:=by obtain ⟨⟨a,c,b,d,h,_⟩,_⟩:=h;rw [h];rfl
 ext e h:=by obtain ⟨⟨a,c,b,d,h,h1,h2⟩,h3⟩:=h;exact ⟨⟨a,c,b,d,h,h1.ext e,h2.ext e⟩,h3⟩
theorem Sl.at_kd {M:Nat→Prop} {w:World} {a:Option Addr} {c:Nat} {l:List Kd} (h:Sl M w a c l) {j:Nat} (hj:j<l.length):
    ∃b off q,a=some ⟨b,off,none⟩∧w.cell? ⟨b,off+j*2,none⟩=some (.int .i64 q.out)∧w.cell? ⟨b,off+j*2+1,none⟩=some (.int .i64 q.to)∧Hid (l[j]? =some q)∧Hid (i64 q.out∧i64 q.to):=by
 obtain ⟨b,off,cs,ha,_,_,⟨rfl,h1⟩,hc⟩:=h.2.2 j l[j] (by simp [hj])
 exact ⟨b,off,l[j],ha,by simpa [GR.sz] using hc 0 _ rfl,by simpa [GR.sz] using hc 1 _ rfl,by unfold Hid;simp [hj],h1⟩
theorem Sl.at_nd {M:Nat→Prop} {w:World} {a:Option Addr} {c:Nat} {l:List Nd} (h:Sl M w a c l) {j:Nat} (hj:j<l.length):
    ∃b off a1 c1 a2 c2 q,a=some ⟨b,off,none⟩∧w.cell? ⟨b,off+j*3,none⟩=some (.slice a1 q.st.length c1)∧w.cell? ⟨b,off+j*3+1,none⟩=some (.int .i64 q.inp)∧w.cell? ⟨b,off+j*3+2,none⟩=some (.slice a2 q.kids.length c2)∧Hid (l[j]? =some q)∧
     Sl M w a1 c1 q.st∧Sl M w a2 c2 q.kids∧Hid (i64 q.inp):=by
 obtain ⟨b,off,cs,ha,_,_,⟨⟨a1,c1,a2,c2,rfl,h1,h2⟩,h3⟩,hc⟩:=h.2.2 j l[j] (by simp [hj])
 exact ⟨b,off,a1,c1,a2,c2,l[j],ha,by simpa [GR.sz] using hc 0 _ rfl,by simpa [GR.sz] using hc 1 _ rfl,by simpa [GR.sz] using hc 2 _ rfl,by unfold Hid;simp [hj],h1,h2,h3⟩
structure NdA where
 st:List Int
 inp:Int
 ak:Option Addr
 nk:Nat
 ck:Nat
abbrev NdA.kv (x:NdA):Value:= .slice x.ak x.nk x.ck
instance:GR NdA where
 sz:=3
 rep M w cs x:=(∃a c,cs=[.slice a x.st.length c,.int .i64 x.inp,x.kv]∧Sl M w a c x.st)∧i64 x.inp
 len h:=by obtain ⟨⟨a,c,h,_⟩,_⟩:=h;rw [h];rfl
 ext e h:=by obtain ⟨⟨a,c,h,h1⟩,h2⟩:=h;exact ⟨⟨a,c,h,h1.ext e⟩,h2⟩
theorem drop_take_set {xs:List Value} {s i j o:Nat} {u:Value} (ho:o<s):((xs.set (i*s+o) u).drop (j*s)).take s=if j=i then ((xs.drop (i*s)).take s).set o u else (xs.drop (j*s)).take s:=by
 apply List.ext_getElem?
 intro k
 by_cases hk:k<s
 ·by_cases e:j=i
  ·subst e
   rw [if_pos rfl,List.getElem?_take,if_pos hk,List.getElem?_drop,List.getElem?_set,List.getElem?_set]
   by_cases e2:o=k
   ·subst e2
    rw [if_pos rfl,if_pos rfl]
    simp only [List.length_take,List.length_drop]
    by_cases h:j*s+o<xs.length
    ·rw [if_pos h,if_pos (by omega)]
    rw [if_neg h,if_neg (by omega)]
   rw [if_neg (by omega),if_neg e2,List.getElem?_take,if_pos hk,List.getElem?_drop]
  rw [if_neg e,List.getElem?_take,if_pos hk,List.getElem?_drop,List.getElem?_take,if_pos hk,List.getElem?_drop,List.getElem?_set_ne]
  intro h
  rcases Nat.lt_or_gt_of_ne e with h2|h2
  ·have:=Nat.mul_le_mul_right s (show j+1≤i from h2)
   rw [Nat.add_mul,Nat.one_mul] at this
   omega
  have:=Nat.mul_le_mul_right s (show i+1≤j from h2)
  rw [Nat.add_mul,Nat.one_mul] at this
  omega
 rw [List.getElem?_take,if_neg hk]
 split
 ·rw [List.getElem?_set,List.getElem?_take,if_neg hk]
  simp only [List.length_take,List.length_drop]
  rw [if_neg (by omega)]
 rw [List.getElem?_take,if_neg hk]
section
variable {B:Nat} {W:Nat→Prop} {w:World} {T:TypeId} {g c:Nat} {L:List NdA}
theorem Ow.nda_cells (h:Ow B W w T (.slice (some ⟨g,0,none⟩) L.length c) L) {i:Nat} {x:NdA} (hx:L[i]? =some x):
    (∃a c,w.cell? ⟨g,i*3,none⟩=some (.slice a x.st.length c)∧Sl W w a c x.st)∧w.cell? ⟨g,i*3+1,none⟩=some (.int .i64 x.inp)∧w.cell? ⟨g,i*3+2,none⟩=some x.kv∧(∀o,w.frozen? ⟨g,o,none⟩=false)∧i64 x.inp:=by
 obtain ⟨xs,h1,h2⟩:=h
 obtain ⟨⟨a,c,h3,h4⟩,h5⟩:=h2 i x hx
 have hj:i<L.length:=by
  by_cases e:i<L.length
  ·exact e
  rw [List.getElem?_eq_none (by omega)] at hx;simp at hx
 have hc:∀o u,o<3→[Value.slice a x.st.length c,.int .i64 x.inp,x.kv][o]? =some u→w.cell? ⟨g,i*3+o,none⟩=some u:=by
  intro o u ho hu
  have hlt:i*3+o<L.length*3:=by omega
  rw [h1.cellAt (i*3+o) hlt]
  rw [←h3,List.getElem?_take,if_pos (by exact ho),List.getElem?_drop] at hu
  exact hu
 exact ⟨⟨a,c,hc 0 _ (by omega) rfl,h4⟩,hc 1 _ (by omega) rfl,hc 2 _ (by omega) rfl,h1.frozenAt,h5⟩
theorem Ow.nda_inp (h:Ow B W w T (.slice (some ⟨g,0,none⟩) L.length c) L) (hW:W g) {i:Nat} {x:NdA} (hx:L[i]? =some x) {y:Int} (hy:i64 y):
    Ow B W (w.setCell ⟨g,i*3+1,none⟩ (.int .i64 y)) T (.slice (some ⟨g,0,none⟩) L.length c) (L.set i ⟨x.st,y,x.ak,x.nk,x.ck⟩):=by
 obtain ⟨xs,h1,h2⟩:=h
 refine ⟨xs.set (i*3+1) (.int .i64 y),by simpa using (h1.stored (i*3+1) (.int .i64 y)).1,fun j z hj=> ?_⟩
 show GR.rep W _ (((xs.set (i*3+1) (.int .i64 y)).drop (j*3)).take 3) z
 rw [drop_take_set (s:=3) (i:=i) (j:=j) (o:=1) (by omega)]
 by_cases e:j=i
 ·subst e
  rw [if_pos rfl]
  have hl:j<L.length:=by
   by_cases e:j<L.length
   ·exact e
   rw [List.getElem?_eq_none (by omega)] at hx;simp at hx
  simp [hl] at hj
  subst hj
  obtain ⟨⟨a,c,h3,h4⟩,h5⟩:=h2 j x hx
  have h3:(xs.drop (j*3)).take 3=[.slice a x.st.length c,.int .i64 x.inp,x.kv]:=h3
  rw [h3]
  exact ⟨⟨a,c,rfl,h4.ext (Ext.setCell w (p:=⟨g,j*3+1,none⟩) hW _)⟩,hy⟩
 rw [if_neg e]
 rw [List.getElem?_set_ne (fun h=>e h.symm)] at hj
 exact GR.ext (Ext.setCell w (p:=⟨g,i*3+1,none⟩) hW _) (h2 j z hj)
theorem Ow.nda_kids (h:Ow B W w T (.slice (some ⟨g,0,none⟩) L.length c) L) (hW:W g) {i:Nat} {x:NdA} (hx:L[i]? =some x) (ak:Option Addr) (nk ck:Nat):
    Ow B W (w.setCell ⟨g,i*3+2,none⟩ (.slice ak nk ck)) T (.slice (some ⟨g,0,none⟩) L.length c) (L.set i ⟨x.st,x.inp,ak,nk,ck⟩):=by
 obtain ⟨xs,h1,h2⟩:=h
 refine ⟨xs.set (i*3+2) (.slice ak nk ck),by simpa using (h1.stored (i*3+2) (.slice ak nk ck)).1,fun j z hj=> ?_⟩
 show GR.rep W _ (((xs.set (i*3+2) (.slice ak nk ck)).drop (j*3)).take 3) z
 rw [drop_take_set (s:=3) (i:=i) (j:=j) (o:=2) (by omega)]
 by_cases e:j=i
 ·subst e
  rw [if_pos rfl]
  have hl:j<L.length:=by
   by_cases e:j<L.length
   ·exact e
   rw [List.getElem?_eq_none (by omega)] at hx;simp at hx
  simp [hl] at hj
  subst hj
  obtain ⟨⟨a,c,h3,h4⟩,h5⟩:=h2 j x hx
  have h3:(xs.drop (j*3)).take 3=[.slice a x.st.length c,.int .i64 x.inp,x.kv]:=h3
  rw [h3]
  exact ⟨⟨a,c,rfl,h4.ext (Ext.setCell w (p:=⟨g,j*3+2,none⟩) hW _)⟩,h5⟩
 rw [if_neg e]
 rw [List.getElem?_set_ne (fun h=>e h.symm)] at hj
 exact GR.ext (Ext.setCell w (p:=⟨g,i*3+2,none⟩) hW _) (h2 j z hj)
end
def NdOk (W:Nat→Prop) (B:Nat) (w:World) (v:Value) (l:List Nd):Prop:=
 ∃L:List NdA,Ow B W w 179 v L∧(∀k,v.ownBlock=some k→W k)∧L.length=l.length∧
  (∀(i:Nat) (x:NdA) (nd:Nd),L[i]? =some x→l[i]? =some nd→x.st=nd.st∧x.inp=nd.inp∧x.nk=nd.kids.length∧Ow B W w 228 (.slice x.ak nd.kids.length x.ck) nd.kids∧∀k,x.kv.ownBlock=some k→W k∧v.ownBlock≠some k)∧
  ∀(i j:Nat) (x y:NdA) (k:Nat),i≠j→L[i]? =some x→L[j]? =some y→x.kv.ownBlock=some k→y.kv.ownBlock=some k→False
section
variable {B:Nat} {W W':Nat→Prop} {w w':World} {v:Value} {l:List Nd}
theorem NdOk.nil:NdOk W B w (.slice none 0 0) []:=⟨[],Ow.nil,fun k hk=>by simp [Value.ownBlock] at hk,rfl,fun i x nd h=>by simp at h,fun i j x y k _ h=>by simp at h⟩
theorem own_len {a:Option Addr} {n m c d:Nat}:(Value.slice a n c).ownBlock=(Value.slice a m d).ownBlock:=by cases a<;>rfl
theorem NdOk.ext (h:NdOk W B w v l) (e:Ext W W' w w') (hs:∀k,k<w.heap.size→W k→W' k) (hb:∀k,W k→B≤k→w'.heap[k]? =w.heap[k]?):NdOk W' B w' v l:=by
 obtain ⟨L,h1,h2,h3,h4,h5⟩:=h
 refine ⟨L,h1.ext e fun k hk=>hb k (h2 k hk) (h1.lt k hk).1,fun k hk=>hs k (h1.lt k hk).2 (h2 k hk),h3,fun i x nd hx hn=> ?_,h5⟩
 obtain ⟨g1,g2,g3,g4,g5⟩:=h4 i x nd hx hn
 have ho:∀k,(Value.slice x.ak nd.kids.length x.ck).ownBlock=some k→x.kv.ownBlock=some k:=fun k hk=>(own_len (m:=nd.kids.length) (d:=x.ck)).trans hk
 exact ⟨g1,g2,g3,g4.ext e fun k hk=>hb k (g5 k (ho k hk)).1 (g4.lt k hk).1,fun k hk=>⟨hs k (g4.lt k (own_len.trans hk)).2 (g5 k hk).1,(g5 k hk).2⟩⟩
theorem NdOk.below (h:NdOk W B w v l) (hb:Below w.heap.size w w') (hW:∀k,W k→k<w.heap.size):NdOk W B w' v l:=
 h.ext (Ext.of_below hb) (fun _ _ h=>h) fun k hk _=>hb.block k (hW k hk)
theorem NdOk.setOther (h:NdOk W B w v l) {p:Addr} (hp:W p.block) (hB:p.block<B) (u:Value):NdOk W B (w.setCell p u) v l:=
 h.ext (Ext.setCell w hp u) (fun _ _ h=>h) fun k _ hk=>Below.heap_setCell _ _ _ _ (by omega)
theorem NdOk.len (h:NdOk W B w v l):∃a c,v= .slice a l.length c∧l.length≤c∧c≤maxLen:=by
 obtain ⟨L,h1,h2,h3,h4⟩:=h
 obtain ⟨a,c,hv,h5,h6⟩:=h1.shape
 exact ⟨a,c,by rw [hv,h3],by omega,h6⟩
theorem some_lt {α:Type} {l:List α} {i:Nat} {x:α} (h:l[i]? =some x):i<l.length:=by
 by_cases e:i<l.length
 ·exact e
 rw [List.getElem?_eq_none (by omega)] at h;simp at h
theorem NdOk.at {g c:Nat} (h:NdOk W B w (.slice (some ⟨g,0,none⟩) l.length c) l) {i:Nat} {nd:Nd} (hi:l[i]? =some nd):
    ∃ak ck,w.cell? ⟨g,i*3+2,none⟩=some (.slice ak nd.kids.length ck)∧(w.cell? ⟨g,i*3+1,none⟩=some (.int .i64 nd.inp))∧(∀o,w.frozen? ⟨g,o,none⟩=false)∧Ow B W w 228 (.slice ak nd.kids.length ck) nd.kids∧B≤g∧g<w.heap.size∧W g:=by
 obtain ⟨L,h1,h2,h3,h4,h5⟩:=h
 obtain ⟨x,hx⟩:∃x,L[i]? =some x:=⟨_,List.getElem?_eq_getElem (by rw [h3];exact some_lt hi)⟩
 rw [←h3] at h1
 obtain ⟨⟨a,c,c0, -⟩,c1,c2,c3, -⟩:=h1.nda_cells hx
 obtain ⟨g1,g2,g3,g4,g5⟩:=h4 i x nd hx hi
 have hlt:=h1.lt g rfl
 exact ⟨x.ak,x.ck,by rw [c2,←g3],by rw [c1,g2],c3,g4,hlt.1,hlt.2,h2 g rfl⟩
theorem NdOk.setInp {g c:Nat} (h:NdOk W B w (.slice (some ⟨g,0,none⟩) l.length c) l) {i:Nat} {nd:Nd} (hi:l[i]? =some nd) {y:Int} (hy:i64 y):
    NdOk W B (w.setCell ⟨g,i*3+1,none⟩ (.int .i64 y)) (.slice (some ⟨g,0,none⟩) l.length c) (l.set i ⟨nd.st,y,nd.kids⟩):=by
 obtain ⟨L,h1,h2,h3,h4,h5⟩:=h
 obtain ⟨x,hx⟩:∃x,L[i]? =some x:=⟨_,List.getElem?_eq_getElem (by rw [h3];exact some_lt hi)⟩
 rw [←h3] at h1
 have hs:=h1.nda_inp (h2 g rfl) hx hy
 rw [h3] at hs
 refine ⟨_,hs,h2,by simp [h3],fun j z nz hz hn=> ?_,fun j j' z z' k hjj hz hz'=> ?_⟩
 ·have hke : ∀ {u : List Kd} {vv : Value}, Ow B W w 228 vv u → (∀ k, vv.ownBlock = some k → (Value.slice (some ⟨g, 0, none⟩) l.length c).ownBlock ≠ some k) → Ow B W (w.setCell ⟨g, i * 3 + 1, none⟩ (.int .i64 y)) 228 vv u := fun hv hne =>
    hv.setOther (h2 g rfl) (fun k hk e=>hne k hk (by rw [show k=g from e];rfl)) _
  by_cases e:j=i
  ·subst e
   have hjl:=some_lt hx
   have hjl2:=some_lt hi
   simp [hjl] at hz
   simp [hjl2] at hn
   subst hz hn
   obtain ⟨g1,g2,g3,g4,g5⟩:=h4 j x nd hx hi
   exact ⟨g1,rfl,g3,hke g4 fun k hk=>(g5 k (own_len.trans hk)).2,g5⟩
  rw [List.getElem?_set_ne (fun h=>e h.symm)] at hz hn
  obtain ⟨g1,g2,g3,g4,g5⟩:=h4 j z nz hz hn
  exact ⟨g1,g2,g3,hke g4 fun k hk=>(g5 k (own_len.trans hk)).2,g5⟩
 have hback : ∀ {j : Nat} {z : NdA}, (L.set i ⟨x.st, y, x.ak, x.nk, x.ck⟩)[j]? = some z → ∃ z', L[j]? = some z' ∧ z'.kv = z.kv := by
  intro j z hz
  by_cases e:j=i
  ·subst e
   have hjl:=some_lt hx
   simp [hjl] at hz
   subst hz
   exact ⟨x,hx,rfl⟩
  rw [List.getElem?_set_ne (fun h=>e h.symm)] at hz
  exact ⟨z,hz,rfl⟩
 obtain ⟨z1,e1,e2⟩:=hback hz
 obtain ⟨z2,e3,e4⟩:=hback hz'
 rw [←e2,←e4]
 exact h5 j j' z1 z2 k hjj e1 e3
theorem NdOk.pushKid {g c:Nat} (h:NdOk W B w (.slice (some ⟨g,0,none⟩) l.length c) l) {i:Nat} {nd:Nd} (hi:l[i]? =some nd) {ak a':Option Addr} {ck c':Nat} {K:List Kd} (hc:w.cell? ⟨g,i*3+2,none⟩=some (.slice ak nd.kids.length ck))
    (hO:Ow B (fun k=>W k∨k=w.heap.size) w' 228 (.slice a' K.length c') K) (hk:∀k,(Value.slice a' K.length c').ownBlock=some k→(Value.slice ak nd.kids.length ck).ownBlock=some k∨k=w.heap.size) (hgr:w.grownBy w' (Value.slice ak nd.kids.length ck).ownBlock) (hW:∀k,W k→k<w.heap.size):
    NdOk (fun k=>W k∨k=w.heap.size) B (w'.setCell ⟨g,i*3+2,none⟩ (.slice a' K.length c')) (.slice (some ⟨g,0,none⟩) l.length c) (l.set i ⟨nd.st,nd.inp,K⟩):=by
 obtain ⟨L,h1,h2,h3,h4,h5⟩:=h
 obtain ⟨x,hx⟩:∃x,L[i]? =some x:=⟨_,List.getElem?_eq_getElem (by rw [h3];exact some_lt hi)⟩
 rw [←h3] at h1
 obtain ⟨-, -,c2, -, -⟩:=h1.nda_cells hx
 obtain ⟨g1,g2,g3,g4,g5⟩:=h4 i x nd hx hi
 rw [hc] at c2
 simp only [Option.some.injEq,Value.slice.injEq] at c2
 obtain ⟨rfl,hnk,rfl⟩:=c2
 have hox:∀k,(Value.slice x.ak nd.kids.length x.ck).ownBlock=some k→x.kv.ownBlock=some k:=fun k hk=>own_len.trans hk
 have hWx:∀k,(Value.slice x.ak nd.kids.length x.ck).ownBlock=some k→W k:=fun k hk=>(g5 k (hox k hk)).1
 have e1:Ext W (fun k=>W k∨k=w.heap.size) w w':=⟨hgr.size,fun k hk hm=>hgr.block k hk (fun e=>hm (hWx k e.symm)),fun k hk hm=>hm.elim id (fun e=>by omega)⟩
 have hgw:=(h1.lt g rfl)
 have hgb:w'.heap[g]? =w.heap[g]? :=hgr.block g hgw.2 fun e=>(g5 g (hox g e.symm)).2 rfl
 have h1':Ow B (fun k=>W k∨k=w.heap.size) w' 179 (.slice (some ⟨g,0,none⟩) L.length c) L:=h1.ext e1 (fun k hk=>by obtain rfl:g=k:=(by simpa [Value.ownBlock] using hk);exact hgb)
 have hs:=h1'.nda_kids (.inl (h2 g rfl)) hx a' K.length c'
 rw [h3] at hs
 have hset:∀{u:List Kd} {vv:Value},Ow B (fun k=>W k∨k=w.heap.size) w' 228 vv u→(∀k,vv.ownBlock=some k→k≠g)→Ow B (fun k=>W k∨k=w.heap.size) (w'.setCell ⟨g,i*3+2,none⟩ (.slice a' K.length c')) 228 vv u:=fun hv hne=>
  hv.setOther (.inl (h2 g rfl)) hne _
 have hgk:∀k,(Value.slice a' K.length c').ownBlock=some k→(W k∨k=w.heap.size)∧k≠g:=fun k hk'=>by
  rcases hk k hk' with e|e
  ·exact ⟨.inl (hWx k e),fun e2=>(g5 k (hox k e)).2 (by rw [e2];rfl)⟩
  exact ⟨.inr e,by omega⟩
 refine ⟨_,hs,fun k hk=> .inl (h2 k hk),by simp [h3],fun j z nz hz hn=> ?_,fun j j' z z' k hjj hz hz' h6 h7=> ?_⟩
 ·by_cases e:j=i
  ·subst e
   have hjl:=some_lt hx
   have hjl2:=some_lt hi
   simp [hjl] at hz
   simp [hjl2] at hn
   subst hz hn
   refine ⟨g1,g2,rfl,hset hO fun k hk'=>(hgk k hk').2,fun k hk'=>⟨(hgk k hk').1,fun e2=>(hgk k hk').2 ?_⟩⟩
   simpa [Value.ownBlock] using e2.symm
  rw [List.getElem?_set_ne (fun h=>e h.symm)] at hz hn
  obtain ⟨f1,f2,f3,f4,f5⟩:=h4 j z nz hz hn
  have hoz:∀k,(Value.slice z.ak nz.kids.length z.ck).ownBlock=some k→z.kv.ownBlock=some k:=fun k hk=>own_len.trans hk
  refine ⟨f1,f2,f3,hset (f4.ext e1 fun k hk'=>hgr.block k (f4.lt k hk').2 fun e2=> ?_) fun k hk' e2=>(f5 k (hoz k hk')).2 (by rw [e2];rfl),fun k hk'=>⟨.inl (f5 k hk').1,(f5 k hk').2⟩⟩
  exact h5 j i z x k e hz hx (hoz k hk') (hox k e2.symm)
 have hcase : ∀ {j : Nat} {z : NdA}, (L.set i ⟨x.st, x.inp, a', K.length, c'⟩)[j]? = some z → (j = i ∧ z.kv = .slice a' K.length c') ∨ (j ≠ i ∧ L[j]? = some z) := by
  intro j z hz
  by_cases e:j=i
  ·subst e
   have hjl:=some_lt hx
   simp [hjl] at hz
   subst hz
   exact .inl ⟨rfl,rfl⟩
  rw [List.getElem?_set_ne (fun h=>e h.symm)] at hz
  exact .inr ⟨e,hz⟩
 have hold:∀{j:Nat} {z:NdA},j≠i→L[j]? =some z→z.kv.ownBlock=some k→(Value.slice a' K.length c').ownBlock=some k→False:=by
  intro j z hji hz h8 h9
  rcases hk k h9 with e|e
  ·exact h5 j i z x k hji hz hx h8 (hox k e)
  obtain ⟨nz,hnz⟩:∃nz,l[j]? =some nz:=⟨_,List.getElem?_eq_getElem (by rw [←h3];exact some_lt hz)⟩
  have:=hW k ((h4 j z nz hz hnz).2.2.2.2 k h8).1
  omega
 rcases hcase hz with ⟨rfl,e2⟩|⟨e1,e2⟩
 ·rcases hcase hz' with ⟨e3,e4⟩|⟨e3,e4⟩
  ·exact hjj e3.symm
  rw [e2] at h6
  exact hold e3 e4 h7 h6
 rcases hcase hz' with ⟨rfl,e4⟩|⟨e3,e4⟩
 ·rw [e4] at h7
  exact hold e1 e2 h6 h7
 exact h5 j j' z z' k hjj e2 e4 h6 h7
end
theorem info_node:(Tryz.prog.info? 179).map (fun i=>(i.zero,i.size,i.bytes))=some (some (.agg #[.slice none 0 0,.int .i64 0,.slice none 0 0]),3,56):=by kernel_rfl
theorem info_kid:(Tryz.prog.info? 228).map (fun i=>(i.zero,i.size,i.bytes))=some (some (.agg #[.int .i64 0,.int .i64 0]),2,16):=by kernel_rfl
section
variable {P:Program} {w:World} {o:Oper} {a:Act} {Q:Exit→Act→World→Prop}
theorem wp_push_nd {K:Act→World→Prop} {W:Nat→Prop} {l:List Nd} {s x:Operand} {t:TypeId} {B:Nat} {v:Value} {g c:Nat} {st:List Int} {y:Int} {ar:Option Addr} {cr:Nat} (hop:o.op= .call {callee:= .builtin .append,args:= #[s,x],argTypes:= #[t,t]})
    (ht:P.underlying t=some (.slice 179)) (hi:(P.info? 179).map (fun i=>(i.zero,i.size,i.bytes))=some (some (.agg #[.slice none 0 0,.int .i64 0,.slice none 0 0]),3,56))
    (hs:a.eval s=v) (hx:a.eval x= .slice (some ⟨g,0,none⟩) 1 c) (hown:NdOk W B w v l) (hn0:w.cell? ⟨g,0,none⟩=some (.slice ar st.length cr)) (hn1:w.cell? ⟨g,1,none⟩=some (.int .i64 y)) (hn2:w.cell? ⟨g,2,none⟩=some (.slice none 0 0)) (hy:Sl W w ar cr st) (hy2:i64 y)
    (hlen:l.length<1000000000) (hB:B≤w.heap.size) (hW:∀k,W k→k<w.heap.size)
    (h:∀(a':Option Addr) (c':Nat) (l':List Nd) (w':World),Hid (l'=l++[⟨st,y,[]⟩])→NdOk (fun k=>W k∨k=w.heap.size) B w' (.slice a' l'.length c') l'→Ext W (fun k=>W k∨k=w.heap.size) w w'→w.grownBy w' v.ownBlock→K (a.put o.dst (.slice a' l'.length c')) w'):o.wp P a w K Q:=by
 obtain ⟨L,h1,h2,h3,h4,h5⟩:=hown
 refine wp_push2 s x t hop 179 _ 3 56 ht hi rfl (by decide) B W v L hs rfl h1 h2 ⟨g,0,none⟩ c [.slice ar st.length cr,.int .i64 y,.slice none 0 0] (⟨st,y,none,0,0⟩:NdA) hx ⟨⟨ar,cr,rfl,hy⟩,hy2⟩ ?_ ?_ (by omega) (by unfold maxLen;omega) hB ?_
 ·intro j u hj
  match j,hj with
  |0,hj=>simp at hj;subst hj;simpa [Addr.add] using hn0
  |1,hj=>simp at hj;subst hj;simpa [Addr.add] using hn1
  |2,hj=>simp at hj;subst hj;simpa [Addr.add] using hn2
  |j+3,hj=>simp at hj
 ·intro u hu;simp at hu;rcases hu with rfl|rfl|rfl<;>rfl
 intro a' c' L' w' e1 e2 e3 e4
 have e1:=e1.out
 subst e1
 have hel:(L++[(⟨st,y,none,0,0⟩:NdA)]).length=(l++[(⟨st,y,[]⟩:Nd)]).length:=by simp [h3]
 have hx1:Ext W (fun k=>W k∨k=w.heap.size) w w':=⟨e4.size,fun k hk hm=>e4.block k hk (fun e=>hm (h2 k e.symm)),fun k hk hm=>hm.elim id (fun e=>by omega)⟩
 have hres:=h a' c' (l++[(⟨st,y,[]⟩:Nd)]) w' rfl ?_ hx1 e4
 ·rw [←hel] at hres;exact hres
 refine ⟨_,by rw [←hel];exact e2,fun k hk=> ?_,hel,fun j z nz hz hn=> ?_,fun j j' z z' k hjj hz hz' h6 h7=> ?_⟩
 ·rcases (e3.out k (own_len.trans hk)).1 with e|e
  ·exact .inl (h2 k e)
  exact .inr e
 ·by_cases hjl:j<L.length
  ·rw [List.getElem?_append_left hjl] at hz
   rw [List.getElem?_append_left (by omega)] at hn
   obtain ⟨f1,f2,f3,f4,f5⟩:=h4 j z nz hz hn
   have hoz:∀k,(Value.slice z.ak nz.kids.length z.ck).ownBlock=some k→z.kv.ownBlock=some k:=fun k hk=>own_len.trans hk
   refine ⟨f1,f2,f3,f4.ext hx1 fun k hk'=>e4.block k (f4.lt k hk').2 fun e=>(f5 k (hoz k hk')).2 e.symm,fun k hk'=>⟨.inl (f5 k hk').1,fun e=> ?_⟩⟩
   rcases (e3.out k (own_len.trans e)).1 with e'|e'
   ·exact (f5 k hk').2 e'
   have:=hW k (f5 k hk').1;omega
  have hjn:j=L.length:=by have:=some_lt hz;simp at this;omega
  subst hjn
  rw [List.getElem?_append_right (Nat.le_refl _)] at hz
  rw [h3,List.getElem?_append_right (Nat.le_refl _)] at hn
  simp at hz hn
  subst hz hn
  exact ⟨rfl,rfl,rfl,Ow.nil,fun k hk'=>by simp [Value.ownBlock] at hk'⟩
 have hin : ∀ {j : Nat} {z : NdA}, (L ++ [(⟨st, y, none, 0, 0⟩ : NdA)])[j]? = some z → z.kv.ownBlock = some k → L[j]? = some z := by
  intro j z hz h8
  by_cases hjl:j<L.length
  ·rwa [List.getElem?_append_left hjl] at hz
  have hjn:j=L.length:=by have:=some_lt hz;simp at this;omega
  subst hjn
  rw [List.getElem?_append_right (Nat.le_refl _)] at hz
  simp at hz
  subst hz
  simp [Value.ownBlock] at h8
 exact h5 j j' z z' k hjj (hin hz h6) (hin hz' h7) h6 h7
theorem wp_push_kd {K:Act→World→Prop} {W:Nat→Prop} {l:List Kd} {s x:Operand} {t e:TypeId} {z:Value} {B:Nat} {v:Value} {g c:Nat} {q:Kd} (hop:o.op= .call {callee:= .builtin .append,args:= #[s,x],argTypes:= #[t,t]})
    (ht:P.underlying t=some (.slice e)) (hi:(P.info? e).map (fun i=>(i.zero,i.size,i.bytes))=some (some z,2,16)) (hzs:z.cells.size=2)
    (hs:a.eval s=v) (hx:a.eval x= .slice (some ⟨g,0,none⟩) 1 c) (hown:Ow B W w e v l) (hM:∀k,v.ownBlock=some k→W k) (hn0:w.cell? ⟨g,0,none⟩=some (.int .i64 q.out)) (hn1:w.cell? ⟨g,1,none⟩=some (.int .i64 q.to)) (hq:i64 q.out∧i64 q.to)
    (hlen:l.length<1000000000) (hB:B≤w.heap.size)
    (h:∀(a':Option Addr) (c':Nat) (l':List Kd) (w':World),Hid (l'=l++[q])→Ow B (fun k=>W k∨k=w.heap.size) w' e (.slice a' l'.length c') l'→Hid (∀k,(Value.slice a' l'.length c').ownBlock=some k→(v.ownBlock=some k∨k=w.heap.size)∧k<w'.heap.size)→w.grownBy w' v.ownBlock→K (a.put o.dst (.slice a' l'.length c')) w'):o.wp P a w K Q:=by
 refine wp_push2 s x t hop e z 2 16 ht hi hzs (by decide) B W v l hs rfl hown hM ⟨g,0,none⟩ c [.int .i64 q.out,.int .i64 q.to] q hx ⟨rfl,hq⟩ ?_ ?_ (by omega) (by unfold maxLen;omega) hB h
 ·intro j u hj
  match j,hj with
  |0,hj=>simp at hj;subst hj;simpa [Addr.add] using hn0
  |1,hj=>simp at hj;subst hj;simpa [Addr.add] using hn1
  |j+2,hj=>simp at hj
 intro u hu;simp at hu;rcases hu with rfl|rfl<;>rfl
end
theorem NdOk.toSl {M:Nat→Prop} {B:Nat} {W:Nat→Prop} {w:World} {a:Option Addr} {c:Nat} {l:List Nd} (h:NdOk W B w (.slice a l.length c) l) (hM:∀k,M k→k<B) (hMW:∀k,k<w.heap.size→M k→W k):Sl M w a c l:=by
 obtain ⟨L,h1,h2,h3,h4,h5⟩:=h
 have hO:Ow B M w 179 (.slice a L.length c) L:=by rw [h3];exact h1.ext ⟨Nat.le_refl _,fun _ _ _=>rfl,hMW⟩ fun _ _=>rfl
 have hS:=hO.toSl fun k hk hm=>by have:=(hO.lt k hk).1;have:=hM k hm;omega
 refine ⟨by rw [←h3];exact hS.1,hS.2.1,fun j nd hj=> ?_⟩
 obtain ⟨x,hx⟩:∃x,L[j]? =some x:=⟨_,List.getElem?_eq_getElem (by rw [h3];exact some_lt hj)⟩
 obtain ⟨b,off,cs,ha,hb,hmb,⟨⟨a1,c1,rfl,s1⟩,s2⟩,hc⟩:=hS.2.2 j x hx
 obtain ⟨g1,g2,g3,g4,g5⟩:=h4 j x nd hx hj
 refine ⟨b,off,[.slice a1 nd.st.length c1,.int .i64 nd.inp,.slice x.ak nd.kids.length x.ck],ha,hb,hmb,⟨⟨a1,c1,x.ak,x.ck,rfl,by rw [←g1];exact s1,?_⟩,by rw [←g2];exact s2⟩,?_⟩
 ·have g4':Ow B M w 228 (.slice x.ak nd.kids.length x.ck) nd.kids:=g4.ext ⟨Nat.le_refl _,fun _ _ _=>rfl,hMW⟩ fun _ _=>rfl
  exact g4'.toSl fun k hk hm=>by have:=(g4.lt k hk).1;have:=hM k hm;omega
 intro i u hi
 refine hc i u ?_
 rw [←hi,g1,g2]
 simp only [NdA.kv,g3]
section
variable {M:Nat→Prop} {w:World} {a:Option Addr} {c:Nat} {l:List Int}
theorem distinct_any (hs:Sl M w a c l) (h0:Hid (0<l.length)) (hn:Hid (l.length<1000000000)):
    Calls Tryz.prog 220 #[.slice a l.length c] w fun e w'=>e= .returned (.int .i64 (iset l).length)∧Below w.heap.size w w':=by
 have ll:=hs.le
 have hl:=iset_len l
 have HC:=Lib.hid (clone_own hs (by have:=hn.out;omega))
 clear hs
 go_enter Tryz.func220,Tryz.ntmps220
 go_wp2_with fail
 refine (HC.out).mono ?_
 rintro e w1 ⟨a1,c1,L1,rfl,hL1,hO1,hb1⟩
 have hl1:Hid (L1.length<1000000000):=by rw [hL1.out];exact hn
 obtain ⟨g,rfl,hg,hgw⟩:=ow_some hO1 (by rw [hL1.out];exact h0.out)
 have hl1':=hl1.out
 have HC2:=Lib.hid (isort_any hO1 (by have:=hl1.out;omega))
 clear HC
 go_wp2_with fail
 refine (HC2.out).mono ?_
 rintro e w2 ⟨rfl,L2,hL2,hl2,hO2,hgr2⟩
 have HC3:=Lib.hid (icomp_any hO2 (by have:=hl1.out;have:=hl2.out;omega))
 rw [hl2.out] at HC3
 have hb2:=hb1.grown hgr2 (hb1.size) (fun k hk=>by cases hk;exact hg)
 clear HC2 hO1 hO2 hgr2 hb1
 go_wp2_with fail
 refine (HC3.out).mono ?_
 rintro e w3 ⟨L3,rfl,hL3,hO3,hgr3⟩
 have hF:Hid (L3=iset l):=by unfold Hid;rw [hL3.out,hL2.out,comp_sort,hL1.out]
 have hb3:=hb2.grown hgr3 (hb2.size) (fun k hk=>by cases hk;exact hg)
 clear HC3 hL3 hO3 hgr3 hb2
 go_wp2
 go_ret
 exact ⟨ret_i (by rw [hF.out]),hb3⟩
end
theorem eq_upto {l r:List Int} (hl:l.length=r.length) {k:Nat} (h:∀i,i<k→l[i]? =r[i]?) (hk:l.length≤k):l=r:=by
 apply List.ext_getElem?
 intro i
 by_cases e:i<k
 ·exact h i e
 rw [List.getElem?_eq_none (by omega),List.getElem?_eq_none (by omega)]
section
variable {M M':Nat→Prop} {w:World} {a b:Option Addr} {c d:Nat} {l r:List Int}
theorem sleq_any (h1:Sl M w a c l) (h2:Sl M' w b d r):
    Calls Tryz.prog 175 #[.slice a l.length c,.slice b r.length d] w fun e w'=>e= .returned (.bool (decide (l=r)))∧Below w.heap.size w w':=by
 have l1:=h1.le
 have l2:=h2.le
 have H1:=Lib.hid h1
 have H2:=Lib.hid h2
 clear h1 h2
 by_cases hlen:l.length=r.length
 ·have hlen2:=Lib.hid hlen
  have hR0:Hid (∀i,i<0→l[i]? =r[i]?):=fun i hi=>by omega
  have hB0:=Below.refl w.heap.size w
  have hne:((l.length:Int) !=(r.length:Int))=false:=by simp [hlen]
  clear hlen
  go_enter Tryz.func175,Tryz.ntmps175
  go_wp2
  go_loopw [13] (fun i wr=>∃(k:Nat),k≤l.length∧i= .int .i64 k∧Hid (∀i,i<k→l[i]? =r[i]?)∧Below w.heap.size w wr) (fun i _=>l.length-(intOf i).toNat)
  case atStart=>exact ⟨0,by omega,rfl,hR0,hB0⟩
  case round=>
   clear hR0 hB0
   obtain ⟨k,hk,rfl,hR,hB⟩:=hrel
   obtain ⟨wo,rfl⟩:∃wo:World,wo=wr:=⟨_,rfl⟩
   by_cases hlt:k<l.length
   ·have hlt2:k<r.length:=by have:=hlen2.out;omega
    obtain ⟨b1,o1,x,rfl,hc1,hx, -⟩:=(H1.out.below hB).at_int hlt
    obtain ⟨b2,o2,y,rfl,hc2,hy, -⟩:=(H2.out.below hB).at_int hlt2
    have HS:Hid (∀n,(wo.drewN n).cell? ⟨b1,o1+k,none⟩=some (.int .i64 x)∧(wo.drewN n).cell? ⟨b2,o2+k,none⟩=some (.int .i64 y)):=fun n=>⟨by simpa using hc1,by simpa using hc2⟩
    by_cases he:x=y
    ·have hR2 : Hid (∀ i, i < k + 1 → l[i]? = r[i]?) := fun i hi => by
       by_cases e:i=k
       ·subst e;rw [hx.out,hy.out,he]
       exact hR.out i (by omega)
     subst he
     have hne2:(x !=x)=false:=by simp
     go_wp2
     refine wp_quiet_fast (by kernel_rfl) (by kernel_rfl) ?_
     repeat (first|go_big_quiet_step (fail)|quiet_step (fail))
     refine wpQuiet_nil ?_
     intro _ hw'
     obtain ⟨nq,hw''⟩:=hw'
     subst hw''
     have hB2:=bl_drewN hB nq
     generalize wo.drewN nq=w2 at*
     go_wp2
     go_roundw
     case rel=>exact ⟨k+1,by omega,by go_num,hR2,hB2⟩
     case measure=>simp [intOf];omega
    have hF:Hid (decide (l=r)=false):=by unfold Hid;exact decide_eq_false fun e=>he (by have h1:=hx.out;rw [e,hy.out] at h1;simpa using h1.symm)
    have hne2:(x !=y)=true:=by simp [he]
    clear he
    go_wp2
    refine wp_quiet_fast (by kernel_rfl) (by kernel_rfl) ?_
    repeat (first|go_big_quiet_step (fail)|quiet_step (fail))
    refine wpQuiet_nil ?_
    intro _ hw'
    obtain ⟨nq,hw''⟩:=hw'
    subst hw''
    have hB2:=bl_drewN hB nq
    generalize wo.drewN nq=w2 at*
    go_wp2
    go_ret
    exact ⟨by rw [hF.out];rfl,hB2⟩
   have hT:Hid (decide (l=r)=true):=by unfold Hid;exact decide_eq_true (eq_upto hlen2.out hR.out (by omega))
   go_wp2
   go_ret
   exact ⟨by rw [hT.out];rfl,hB⟩
 have hF:Hid (decide (l=r)=false):=by unfold Hid;exact decide_eq_false fun e=>hlen (by rw [e])
 have hne:((l.length:Int) !=(r.length:Int))=true:=by simp;omega
 clear hlen
 go_enter Tryz.func175,Tryz.ntmps175
 go_wp2
 go_ret
 exact ⟨by rw [hF.out];rfl,Below.refl _ _⟩
end
section
variable {M M':Nat→Prop} {w:World} {bm bc ba:Nat} {an ao ak:Option Addr} {cn co ck:Nat} {m:Mach} {l:List Kd}
theorem word1_any (hb:C4 w bm an cn ao co m) (hm:Ma M w an cn ao co m) (ok:Hid m.Ok) (c x:Nat) (hc:c<m.next.length) (hx:x<m.inputs.toNat) (h1:w.cell? ⟨bc,0,none⟩=some (.int .i64 (c:Int))) (h2:w.cell? ⟨ba,0,none⟩=some (.int .i64 (x:Int))) (kd:Kd):
    Calls Tryz.prog 183 #[.agg #[.int .i64 kd.out,.int .i64 kd.to],.pointer (some ⟨bm,0,none⟩),.pointer (some ⟨bc,0,none⟩),.pointer (some ⟨ba,0,none⟩)] w fun e w'=>e= .returned (.bool (kd.out==m.ot c x))∧Below w.heap.size w w':=by
 obtain ⟨bn,on,bo,oo,rfl,rfl⟩:=hm.addr ok.out
 have hso:c<m.out.length:=by have:=ok.out.lo;omega
 obtain ⟨bo2,oo2,a1,r1,c1,hbe,hn1,hr1,hS1⟩:=hm.out.at_row hso
 obtain ⟨rfl,rfl⟩:bo=bo2∧oo=oo2:=by simpa using hbe
 have hr1n:=hS1.le
 have hrl:Hid ((r1.length:Int)=m.inputs):=by have:=ok.out.ro c hc;rw [getD_of_some hr1.out] at this;exact this
 have hxl:x<r1.length:=by have:=hrl.out;omega
 obtain ⟨b3,o3,t0,rfl,htc,ht0,ht64⟩:=hS1.at_int hxl
 have hot:Hid (m.ot c x=t0):=by unfold Hid Mach.ot;rw [getD_of_some hr1.out,getD_of_some ht0.out]
 have hB0:=(Below.refl w.heap.size w).alloc (Nat.le_refl _) (.cells #[.int .i64 kd.out,.int .i64 kd.to] 228)
 have l2:=hm.out.le
 have hk0:(w.alloc (.cells #[.int .i64 kd.out,.int .i64 kd.to] 228)).cell? ⟨w.heap.size,0,none⟩=some (.int .i64 kd.out):=by simp
 have q1:=(hB0.cell (p:=⟨bm,3,none⟩) (lt_of_cell hb.2.2.2)).trans hb.2.2.2
 have q2:=(hB0.cell (p:=⟨bc,0,none⟩) (lt_of_cell h1)).trans h1
 have q3:=(hB0.cell (p:=⟨ba,0,none⟩) (lt_of_cell h2)).trans h2
 have q4:=(hB0.cell (p:=⟨bo,oo+c,none⟩) (lt_of_cell hn1)).trans hn1
 have q5:=(hB0.cell (p:=⟨b3,o3+x,none⟩) (lt_of_cell htc)).trans htc
 clear hb hm hbe hn1 hS1 htc h1 h2
 go_enter Tryz.func183,Tryz.ntmps183
 go_upto_region 1 with (fail)
 generalize w.alloc (.cells #[.int .i64 kd.out,.int .i64 kd.to] 228)=w0 at*
 have p0:∀n,(w0.drewN n).cell? ⟨w.heap.size,0,none⟩=some (.int .i64 kd.out):=fun n=>by simpa using hk0
 have p1:∀n,(w0.drewN n).cell? ⟨bm,3,none⟩=some (.slice (some ⟨bo,oo,none⟩) m.out.length co):=fun n=>by simpa using q1
 have p2:∀n,(w0.drewN n).cell? ⟨bc,0,none⟩=some (.int .i64 (c:Int)):=fun n=>by simpa using q2
 have p3:∀n,(w0.drewN n).cell? ⟨ba,0,none⟩=some (.int .i64 (x:Int)):=fun n=>by simpa using q3
 have p4:∀n,(w0.drewN n).cell? ⟨bo,oo+c,none⟩=some (.slice (some ⟨b3,o3,none⟩) r1.length c1):=fun n=>by simpa using q4
 have p5:∀n,(w0.drewN n).cell? ⟨b3,o3+x,none⟩=some (.int .i64 t0):=fun n=>by simpa using q5
 refine wp_quiet_fast (by kernel_rfl) (by kernel_rfl) ?_
 repeat (first|go_big_quiet_step (fail)|quiet_step (fail))
 refine wpQuiet_nil ?_
 intro _ hw'
 obtain ⟨nq,hw''⟩:=hw'
 subst hw''
 have hBq:=bl_drewN hB0 nq
 clear p0 p1 p2 p3 p4 p5 q1 q2 q3 q4 q5 hk0 hB0
 generalize w0.drewN nq=w1 at*
 go_wp2
 go_ret
 exact ⟨by rw [hot.out];rfl,hBq⟩
theorem kidix_any (hb:C4 w bm an cn ao co m) (hm:Ma M w an cn ao co m) (ok:Hid m.Ok) (c x:Nat) (hc:c<m.next.length) (hx:x<m.inputs.toNat) (h1:w.cell? ⟨bc,0,none⟩=some (.int .i64 (c:Int))) (h2:w.cell? ⟨ba,0,none⟩=some (.int .i64 (x:Int))) (hl:Sl M' w ak ck l) {k0:Nat} {kd0:Kd} (hk:Hid (l[k0]? =some kd0)) (ho:Hid (kd0.out=m.ot c x)) (hbf:Hid (∀(j:Nat) (kj:Kd),j<k0→l[j]? =some kj→kj.out≠m.ot c x)):
    Calls Tryz.prog 182 #[.slice ak l.length ck,.func (.func 183) #[] #[.pointer (some ⟨bm,0,none⟩),.pointer (some ⟨bc,0,none⟩),.pointer (some ⟨ba,0,none⟩)]] w fun e w'=>e= .returned (.int .i64 (k0:Int))∧Below w.heap.size w w':=by
 have ll:=hl.le
 have hkl:=some_lt hk.out
 have HW:Hid (∀w',Below w.heap.size w w'→∀kd:Kd,Calls Tryz.prog 183 #[.agg #[.int .i64 kd.out,.int .i64 kd.to],.pointer (some ⟨bm,0,none⟩),.pointer (some ⟨bc,0,none⟩),.pointer (some ⟨ba,0,none⟩)] w' fun e w''=>e= .returned (.bool (kd.out==m.ot c x))∧Below w'.heap.size w' w''):=fun w' h kd=>
  word1_any (hb.below h (lt_of_cell hb.1)) (hm.below h) ok c x hc hx ((h.cell (p:=⟨bc,0,none⟩) (lt_of_cell h1)).trans h1) ((h.cell (p:=⟨ba,0,none⟩) (lt_of_cell h2)).trans h2) kd
 have HL:=Lib.hid hl
 have hB0:=Below.refl w.heap.size w
 clear hb hm h1 h2 hl
 go_enter Tryz.func182,Tryz.ntmps182
 go_wp2
 go_loopw [8] (fun i wr=>∃(k:Nat),k≤k0∧i= .int .i64 k∧Below w.heap.size w wr) (fun i _=>l.length-(intOf i).toNat)
 case atStart=>exact ⟨0,by omega,rfl,hB0⟩
 case round=>
  clear hB0
  obtain ⟨k,hkk,rfl,hB⟩:=hrel
  obtain ⟨wo,rfl⟩:∃wo:World,wo=wr:=⟨_,rfl⟩
  have hlt:k<l.length:=by omega
  obtain ⟨b,off,q,rfl,hq0,hq1,hqe, -⟩:=(HL.out.below hB).at_kd hlt
  have HC:=Lib.hid (HW.out wo hB q)
  by_cases he:k=k0
  ·subst he
   have hqq:Hid ((q.out==m.ot c x)=true):=by
    unfold Hid
    have h1:=hqe.out;rw [hk.out] at h1
    obtain rfl:=Option.some.inj h1
    rw [ho.out];simp
   rw [hqq.out] at HC
   go_wp2_with fail
   refine (HC.out).mono ?_
   rintro e w2 ⟨rfl,hb2⟩
   have hB2:=hB.trans (hb2.mono hB.size)
   go_wp2
   go_ret
   exact ⟨rfl,hB2⟩
  have hqq : Hid ((q.out == m.ot c x) = false) := by
   unfold Hid
   have:=hbf.out k q (by omega) hqe.out
   simp [this]
  rw [hqq.out] at HC
  go_wp2_with fail
  refine (HC.out).mono ?_
  rintro e w2 ⟨rfl,hb2⟩
  have hB2:=hB.trans (hb2.mono hB.size)
  go_wp2
  go_roundw
  case rel=>exact ⟨k+1,by omega,by go_num,hB2⟩
  case measure=>simp [intOf];omega
end
structure FamR (n0:Nat) (W:Nat→Prop) (w:World) (g n:Nat) (F:Nat→List (List Int)):Prop where
 lo:∀k,W k→n0≤k∧k<w.heap.size
 gW:W g
 cell:∀i,i<n→∃a c,w.cell? ⟨g,i,none⟩=some (.slice a (F i).length c)∧w.frozen? ⟨g,i,none⟩=false∧Ow n0 (fun k=>W k∨k<n0) w 49 (.slice a (F i).length c) (F i)∧∀k,(Value.slice a (F i).length c).ownBlock=some k→W k∧k≠g
 apart:∀i j a c n1 a' c' n2 k,i<n→j<n→i≠j→w.cell? ⟨g,i,none⟩=some (.slice a n1 c)→w.cell? ⟨g,j,none⟩=some (.slice a' n2 c')→(Value.slice a n1 c).ownBlock=some k→(Value.slice a' n2 c').ownBlock=some k→False
section
variable {n0:Nat} {W:Nat→Prop} {w w':World} {g n:Nat} {F:Nat→List (List Int)}
theorem FamR.congr {G:Nat→List (List Int)} (h:FamR n0 W w g n F) (e:∀i,i<n→F i=G i):FamR n0 W w g n G:=
 ⟨h.lo,h.gW,fun i hi=>by rw [←e i hi];exact h.cell i hi,h.apart⟩
theorem FamR.below (h:FamR n0 W w g n F) (hb:Below w.heap.size w w'):FamR n0 W w' g n F:=by
 have hg:=(h.lo g h.gW).2
 have hc:∀i,w'.cell? ⟨g,i,none⟩=w.cell? ⟨g,i,none⟩:=fun i=>World.cell?_of_block (hb.block g hg)
 refine ⟨fun k hk=>⟨(h.lo k hk).1,by have:=(h.lo k hk).2;have:=hb.size;omega⟩,h.gW,fun i hi=> ?_,fun i j a c n1 a' c' n2 k hi hj hij h1 h2=>h.apart i j a c n1 a' c' n2 k hi hj hij (by rw [←hc];exact h1) (by rw [←hc];exact h2)⟩
 obtain ⟨a,c,h1,h2,h3,h4⟩:=h.cell i hi
 exact ⟨a,c,by rw [hc];exact h1,(frozen_block (a:=⟨g,i,none⟩) (hb.block g hg)).trans h2,h3.below hb,h4⟩
theorem FamR.push (h:FamR n0 W w g n F) (hn0:n0≤w.heap.size) {i:Nat} (hi:i<n) {a a':Option Addr} {c c':Nat} {l':List (List Int)} {y:List Int} (hc:w.cell? ⟨g,i,none⟩=some (.slice a (F i).length c))
    (hl:l'=F i++[y]) (hO:Ow n0 (fun k=>(W k∨k<n0)∨k=w.heap.size) w' 49 (.slice a' l'.length c') l') (hk:∀k,(Value.slice a' l'.length c').ownBlock=some k→((Value.slice a (F i).length c).ownBlock=some k∨k=w.heap.size)∧k<w'.heap.size) (hgr:w.grownBy w' (Value.slice a (F i).length c).ownBlock):
    FamR n0 (fun k=>W k∨(k=w.heap.size∧k<w'.heap.size)) (w'.setCell ⟨g,i,none⟩ (.slice a' l'.length c')) g n (fun j=>if j=i then F i++[y] else F j):=by
 subst hl
 obtain ⟨a0,c0,h1,h2,h3,h3b⟩:=h.cell i hi
 rw [hc] at h1
 simp only [Option.some.injEq,Value.slice.injEq,true_and] at h1
 obtain ⟨rfl,rfl⟩:=h1
 have hgw:g<w.heap.size:=(h.lo g h.gW).2
 have hsz:(w'.setCell ⟨g,i,none⟩ (.slice a' (F i++[y]).length c')).heap.size=w'.heap.size:=by simp [World.setCell]
 have hgb:w'.heap[g]? =w.heap[g]? :=hgr.block g hgw (fun e=>(h3b g e.symm).2 rfl)
 have hcg:∀j,w'.cell? ⟨g,j,none⟩=w.cell? ⟨g,j,none⟩:=fun j=>World.cell?_of_block hgb
 have hnew:(w'.setCell ⟨g,i,none⟩ (.slice a' (F i++[y]).length c')).cell? ⟨g,i,none⟩=some (.slice a' (F i++[y]).length c'):=World.cell?_setCell_same _ _ _ ((hcg i).trans hc)
 have hold:∀j,j≠i→(w'.setCell ⟨g,i,none⟩ (.slice a' (F i++[y]).length c')).cell? ⟨g,j,none⟩=w.cell? ⟨g,j,none⟩:=fun j hj=>(World.cell?_setCell_other _ _ _ _ (fun e:(⟨g,i,none⟩:Addr)=⟨g,j,none⟩=>hj (Addr.mk.inj e).2.1.symm)).trans (hcg j)
 have heA:Ext (fun k=>W k∨k<n0) (fun k=>(W k∨(k=w.heap.size∧k<w'.heap.size))∨k<n0) w w':=⟨hgr.size,fun k hk hm=>hgr.block k hk (fun e=>hm (.inl (h3b k e.symm).1)),fun k hk hm=>by
  rcases hm with (hm|hm)|hm
  ·exact .inl hm
  ·omega
  exact .inr hm⟩
 have heB:Ext (fun k=>(W k∨(k=w.heap.size∧k<w'.heap.size))∨k<n0) (fun k=>(W k∨(k=w.heap.size∧k<w'.heap.size))∨k<n0) w' (w'.setCell ⟨g,i,none⟩ (.slice a' (F i++[y]).length c')):=Ext.setCell w' (p:=⟨g,i,none⟩) (.inl (.inl h.gW)) _
 refine ⟨fun k hk=> ?_,.inl h.gW,fun j hj=> ?_,fun j j' x cx nx x' cx' nx' k hj hj' hjj h1 h2 h4 h5=> ?_⟩
 ·rw [hsz]
  rcases hk with hk|hk
  ·have:=h.lo k hk;have:=hgr.size;exact ⟨by omega,by omega⟩
  exact ⟨by omega,hk.2⟩
 ·by_cases e:j=i
  ·subst e
   simp only [if_true]
   refine ⟨a',c',hnew,by rw [World.frozen?_setCell,frozen_block (a:=⟨g,j,none⟩) hgb];exact h2,?_,fun k hk2=> ?_⟩
   ·refine (hO.subM (M':=fun k=>(W k∨(k=w.heap.size∧k<w'.heap.size))∨k<n0) fun k _ hm=> ?_).ext heB fun k hk2=> ?_
    ·rcases hm with (hm|hm)|hm
     ·exact .inl (.inl hm)
     ·exact .inr hm.1
     exact .inl (.inr hm)
    refine Below.heap_setCell _ _ _ _ fun e=> ?_
    rcases (hk k hk2).1 with e2|e2
    ·exact (h3b k e2).2 e
    simp at e;omega
   obtain ⟨e1,e2⟩:=hk k hk2
   rcases e1 with e1|e1
   ·exact ⟨.inl (h3b k e1).1,(h3b k e1).2⟩
   exact ⟨.inr ⟨e1,e2⟩,by omega⟩
  simp only [if_neg e]
  obtain ⟨aj,cj,hj1,hj2,hj3,hj4⟩:=h.cell j hj
  refine ⟨aj,cj,by rw [hold j e];exact hj1,by rw [World.frozen?_setCell,frozen_block (a:=⟨g,j,none⟩) hgb];exact hj2,?_,fun k hk2=>⟨.inl (hj4 k hk2).1,(hj4 k hk2).2⟩⟩
  refine (hj3.ext heA fun k hk2=>hgr.block k (hj3.lt k hk2).2 fun e2=> ?_).ext heB fun k hk2=>Below.heap_setCell _ _ _ _ fun e2=>(hj4 k hk2).2 e2
  exact h.apart j i aj cj _ a c _ k hj hi e hj1 hc hk2 e2.symm
 by_cases e:j=i
 ·subst e
  rw [hnew] at h1
  simp only [Option.some.injEq,Value.slice.injEq] at h1
  obtain ⟨rfl,rfl,rfl⟩:=h1
  rw [hold j' (Ne.symm hjj)] at h2
  rcases (hk k h4).1 with e1|e1
  ·exact h.apart j j' a c _ x' cx' nx' k hi hj' hjj hc h2 e1 h5
  obtain ⟨aj,cj,hj1,hj2,hj3,hj4⟩:=h.cell j' hj'
  rw [hj1] at h2
  simp only [Option.some.injEq,Value.slice.injEq] at h2
  obtain ⟨rfl,rfl,rfl⟩:=h2
  have:=(hj3.lt k h5).2
  omega
 rw [hold j e] at h1
 by_cases e':j'=i
 ·subst e'
  rw [hnew] at h2
  simp only [Option.some.injEq,Value.slice.injEq] at h2
  obtain ⟨rfl,rfl,rfl⟩:=h2
  rcases (hk k h5).1 with e1|e1
  ·exact h.apart j j' x cx nx a c _ k hj hi hjj h1 hc h4 e1
  obtain ⟨aj,cj,hj1,hj2,hj3,hj4⟩:=h.cell j hj
  rw [hj1] at h1
  simp only [Option.some.injEq,Value.slice.injEq] at h1
  obtain ⟨rfl,rfl,rfl⟩:=h1
  have:=(hj3.lt k h4).2
  omega
 rw [hold j' e'] at h2
 exact h.apart j j' x cx nx x' cx' nx' k hj hj' hjj h1 h2 h4 h5
theorem FamR.made {T:TypeId} {N:Nat}:FamR w.heap.size (fun k=>k=w.heap.size) (w.alloc (.cells (madeCells #[.slice none 0 0] N) T)) w.heap.size N (fun _=>[]):=by
 have hh:(w.alloc (.cells (madeCells #[.slice none 0 0] N) T)).heap[w.heap.size]? =some (.cells (madeCells #[.slice none 0 0] N) T):=heap_alloc_new _ _
 have hc:∀i,i<N→(w.alloc (.cells (madeCells #[.slice none 0 0] N) T)).cell? ⟨w.heap.size,i,none⟩=some (.slice none 0 0):=fun i hi=>by
  unfold World.cell?
  simp only [hh]
  rw [←Array.getElem?_toList,toList_madeCells_one,List.getElem?_replicate,if_pos hi]
  rfl
 refine ⟨fun k hk=>by subst hk;simp,rfl,fun i hi=>⟨none,0,hc i hi,by unfold World.frozen?;rw [hh];simp,Ow.nil,fun k hk=>by simp [Value.ownBlock] at hk⟩,fun i j a c n1 a' c' n2 k hi hj _ h1 _ h3 _=> ?_⟩
 rw [hc i hi] at h1
 simp only [Option.some.injEq,Value.slice.injEq] at h1
 obtain ⟨rfl,rfl,rfl⟩:=h1
 simp [Value.ownBlock] at h3
theorem FamR.toSl (h:FamR n0 W w g n F) {i:Nat} (hi:i<n):∃a c,w.cell? ⟨g,i,none⟩=some (.slice a (F i).length c)∧Sl (fun _=>False) w a c (F i):=by
 obtain ⟨a,c,h1,h2,h3,h4⟩:=h.cell i hi
 exact ⟨a,c,h1,(h3.subM (M':=fun _=>False) fun _ _ h=>h.elim).toSl fun _ _ h=>h⟩
end
theorem info_rowsF:(Tryz.prog.info? 22).map (fun i=>(i.zero,i.size,i.bytes))=some (some (.slice none 0 0),1,24):=by kernel_rfl
section
variable {P:Program} {w:World} {o:Oper} {a:Act} {ops:Array Oper} {rest:List Oper} {Q:Exit→Act→World→Prop}
theorem wpList_push_f {n0 g n i b c c0 cr:Nat} {W:Nat→Prop} {F:Nat→List (List Int)} {s x:Operand} {t:TypeId} {a0 ar:Option Addr} {r:List Int} (hg:o.guard=none) (hop:o.op= .call {callee:= .builtin .append,args:= #[s,x],argTypes:= #[t,t]})
    (ht:P.underlying t=some (.slice 49)) (hi:(P.info? 49).map (fun i=>(i.zero,i.size,i.bytes))=some (some (.slice none 0 0),1,24))
    (hs:a.eval s= .slice a0 (F i).length c0) (hx:a.eval x= .slice (some ⟨b,0,none⟩) 1 c) (hF:Hid (FamR n0 W w g n F)) (hin:i<n) (hc:w.cell? ⟨g,i,none⟩=some (.slice a0 (F i).length c0)) (hnew:w.cell? ⟨b,0,none⟩=some (.slice ar r.length cr))
    (hy:Sl (fun k=>W k∨k<n0) w ar cr r) (hlen:(F i).length<1000000000) (hn0:n0≤w.heap.size)
    (h:∀(a':Option Addr) (c' l':Nat) (w':World),Hid (l'=(F i).length+1)→Hid (FamR n0 (fun k=>W k∨(k=w.heap.size∧k<w'.heap.size)) (w'.setCell ⟨g,i,none⟩ (.slice a' l' c')) g n (fun j=>if j=i then F i++[r] else F j))→
     w'.cell? ⟨g,i,none⟩=some (.slice a0 (F i).length c0)→w'.frozen? ⟨g,i,none⟩=false→Below n0 w w'→Hid (∀k,k<w.heap.size→¬W k→w'.heap[k]? =w.heap[k]?)→wpList P ops Q rest (a.put o.dst (.slice a' l' c')) w'):wpList P ops Q (o::rest) a w:=by
 obtain ⟨a1,c1,h1,h2,h3,h4⟩:=hF.out.cell i hin
 rw [hc] at h1
 simp only [Option.some.injEq,Value.slice.injEq,true_and] at h1
 obtain ⟨rfl,rfl⟩:=h1
 refine wpList_push2 hg s x t hop 49 (.slice none 0 0) 1 24 ht hi rfl (by decide) n0 (fun k=>W k∨k<n0) _ (F i) hs rfl h3 (fun k hk=> .inl (h4 k hk).1) ⟨b,0,none⟩ c [.slice ar r.length cr] r hx (rep_slice hy) ?_ ?_ (by omega) (by unfold maxLen;omega) hn0 ?_
 ·intro j u hj
  match j,hj with
  |0,hj=>simp at hj;subst hj;simpa [Addr.add] using hnew
 ·intro u hu;simp at hu;subst hu;rfl
 intro a' c' l' w' e1 e2 e3 e4
 have hgb:w'.heap[g]? =w.heap[g]? :=e4.block g (hF.out.lo g hF.out.gW).2 (fun e=>(h4 g e.symm).2 rfl)
 exact h a' c' l'.length w' (Lib.hid (by rw [e1.out];simp)) (Lib.hid (hF.out.push hn0 hin hc e1.out e2 e3.out e4)) ((World.cell?_of_block (a:=⟨g,i,none⟩) hgb).trans hc) ((frozen_block (a:=⟨g,i,none⟩) hgb).trans h2)
  ((Below.refl n0 w).grown e4 hn0 fun k hk=>(hF.out.lo k (h4 k hk).1).1) (Lib.hid fun k hk hn=>e4.block k hk fun e=>hn (h4 k e.symm).1)
end
end Go.Proofs.YtjagagpcjpcjjaaGreat
