/- Several texts, one behind the other. Conditions: as each of them says. -/
import Derived.Test.YtjmbphjgiodioaaGreatDoorMv9
import Derived.Test.YtjmbphjgiodioaaGreatDoorMv7
import Derived.Test.YtjmbphjgiodioaaGreatDoorLaySort
set_option maxRecDepth 100000
set_option maxHeartbeats 32000000
namespace Go.Proofs.YtjmbphjgiodioaaGreatDoor
open Go.RowKit Go.Sort Go.Shelf
def CmpF (g:Nat) (cf:List Int→List Int→Int):Prop:=∀(M M':Nat→Prop) (w:World) (a b:Option Addr) (c d:Nat) (xs ys:List Int),Sl M w a c xs→Sl M' w b d ys→
 Calls Tryz.prog g #[.slice a xs.length c,.slice b ys.length d] w fun e w'=>e= .returned (.int .i64 (cf xs ys))∧∃q os,w'=grow (w.drewN q) os
theorem CmpF.below {w w':World} {q:Nat} {os:Array Obj} (h:w'=grow (w.drewN q) os):Below w.heap.size w w':=by
 subst h
 refine (below_drewN w.heap.size w q).trans ⟨rfl,rfl,rfl,by simp [grow],fun k hk=> ?_⟩
 have:k<(w.drewN q).heap.size:=hk
 simp only [grow]
 rw [Array.getElem?_append_left this]
theorem cmpF_cmp:CmpF 108 cmpW:=by
 intro M M' w a b c d xs ys h1 h2
 have hl1:=h1.le
 have hl2:=h2.le
 have HO:=Lib.hid (or_any (M:=fun _=>False) (w:=w.alloc (.cells #[.int .i64 (sgn xs.length ys.length),.int .i64 (lexW xs ys)] 3)) (a:=some ⟨w.heap.size,0,none⟩) (c:=2) (l:=[sgn xs.length ys.length,lexW xs ys])
  (Sl.lit (heap_alloc_new _ _) rfl id (fun x hx=>by
   simp only [List.mem_cons,List.not_mem_nil,or_false] at hx
   have r1:=sgn_range xs.length ys.length
   have r2:=lexW_range xs ys
   unfold i64
   rcases hx with rfl|rfl<;>omega) rfl (by unfold maxLen;omega)))
 go_enter Tryz.func108,Tryz.ntmps108
 go_wp2_with fail
 refine (ccmp_any _ _).mono ?_
 rintro e w' ⟨rfl,hw⟩
 obtain rfl:w=w':=hw.symm
 go_wp2_with fail
 refine (scmp_any (M:=fun _=>False) (h1.anti fun _ _ h=>h.elim) (h2.anti fun _ _ h=>h.elim)).mono ?_
 rintro e w' ⟨rfl,hw⟩
 obtain rfl:w=w':=hw.symm
 go_wp2_with fail
 refine (HO.out).mono ?_
 rintro e w2 ⟨rfl,hw⟩
 subst hw
 go_wp2
 go_ret
 exact ⟨ret_i (cmpW_or xs ys),0,_,alloc_eq_grow _ _⟩
structure RowE (w:World) (g:Nat) where
 v:Value
 l:List Int
 ok:∃a c,v= .slice a l.length c∧Sl (fun k=>k=g) w a c l
instance (w:World) (g:Nat):Inhabited (RowE w g):=⟨⟨.slice none 0 0,[],none,0,rfl,Sl.nil _ _ _ (by unfold maxLen;omega)⟩⟩
def encE {w:World} {g:Nat} (x:RowE w g):Value:=x.v
def cfE (cf:List Int→List Int→Int) {w:World} {g:Nat} (x y:RowE w g):Int:=cf x.l y.l
theorem one_encE {w:World} {g:Nat}:OneCell (encE (w:=w) (g:=g)):=by
 rintro ⟨v,l,a,c,h, -⟩
 subst h
 rfl
theorem swo_cfE {cf:List Int→List Int→Int} (h:Tot cf) {w:World} {g:Nat}:SWO (ltOf (cfE cf (w:=w) (g:=g))) where
 irrefl x:=by simp [ltOf,cfE,h.same]
 trans x y z h1 h2:=by
  have h1:cf x.l y.l<0:=of_decide_eq_true h1
  have h2:cf y.l z.l<0:=of_decide_eq_true h2
  exact decide_eq_true (h.lt_trans h1 h2)
 ntrans x y z h1 h2:=by
  have h1:¬cf x.l y.l<0:=of_decide_eq_false h1
  have h2:¬cf y.l z.l<0:=of_decide_eq_false h2
  have e1:=h.swap y.l x.l
  have e2:=h.swap z.l y.l
  have e3:=h.swap z.l x.l
  have:=(h.trans z.l y.l x.l (by omega) (by omega)).1
  refine decide_eq_false (p:=cf x.l z.l<0) ?_
  omega
theorem ext_sort {α:Type} [Inhabited α] (enc:α→Value) (w:World) (g m:Nat) (d:Array α) (os:Array Obj):Ext (fun k=>k=g) (fun k=>k=g) w (sortWorld enc w g 0 m d os):=by
 refine ⟨by simp [sortWorld,grow,putRow,mapBlock,Sort.ahead],fun k hk hn=> ?_,fun _ _ h=>h⟩
 have hs:k<(putRow enc (Sort.ahead w m) g 0 d).heap.size:=by simpa [putRow,mapBlock,Sort.ahead] using hk
 simp only [sortWorld,grow]
 rw [Array.getElem?_append_left hs]
 simp only [putRow,mapBlock,Sort.ahead,Array.getElem?_modify]
 rw [if_neg (Ne.symm hn)]
theorem cmpLaysE {g0:Nat} {cf:List Int→List Int→Int} (h:CmpF g0 cf) (w:World) (g n:Nat):CmpLays1 Tryz.prog g0 #[] (encE (w:=w) (g:=g)) (cfE cf) g 0 n w:=by
 rintro m os dk-⟨v,l,a,c,e1,h1⟩ ⟨v',l',a',c',e2,h2⟩
 subst e1 e2
 exact h _ _ _ a a' c c' l l' (h1.ext (ext_sort _ _ _ _ _ _)) (h2.ext (ext_sort _ _ _ _ _ _))
theorem rowEs {w:World} {g:Nat}:∀(xs:List Value) (rows:List (List Int)),xs.length=rows.length→(∀(j:Nat) (v:Value) (r:List Int),xs[j]? =some v→rows[j]? =some r→∃a c,v=Value.slice a r.length c∧Sl (fun k=>k=g) w a c r)→
    ∃ds:List (RowE w g),ds.map encE=xs∧ds.map (fun x=>x.l)=rows
 |[],[],_,_=>⟨[],rfl,rfl⟩
 |[],_::_,h,_=>by simp at h
 |_::_,[],h,_=>by simp at h
 |v::xs,r::rows,h,hr=>by
  obtain ⟨ds,e1,e2⟩:=rowEs xs rows (by simpa using h) fun j v r hv hr'=>hr (j+1) v r (by simpa using hv) (by simpa using hr')
  exact ⟨⟨v,r,hr 0 v r rfl rfl⟩::ds,by simp [encE,e1],by simp [e2]⟩
section
variable {M:Nat→Prop} {w:World} {B g c g0:Nat} {rows:List (List Int)} {cf:List Int→List Int→Int}
theorem toList_getElem! {α:Type} [Inhabited α] (d:Array α) (j:Nat) (hj:j<d.size):d[j]! =d.toList[j]'(by simpa using hj):=by
 rw [getElem!_pos d j hj];simp
theorem sort_rows (hO:Ow B M w 94 (.slice (some ⟨g,0,none⟩) rows.length c) rows) (hM:M g) (hg:B≤g) (hn:rows.length<1000000000000) (h0:CmpF g0 cf) (hT:Tot cf) (eg:∀args w,(callFunc g0 args).run Tryz.prog w= .ok (.enter g0 args) w):
    Calls Tryz.prog 295 #[.slice (some ⟨g,0,none⟩) rows.length c,.func (.func g0) #[] #[]] w fun e w'=>e= .returned (.tuple #[])∧∃L:List (List Int),Hid (L.Perm rows∧Ord cf L)∧
     Ow B (fun k=>k=g) w' 94 (.slice (some ⟨g,0,none⟩) L.length c) L∧Below B w w':=by
 obtain ⟨xs,h1,h2⟩:=hO
 have hxl:xs.length=rows.length:=by have:=h1.1;simpa [GR.sz] using this
 obtain ⟨ds,e1,e2⟩:=rowEs (w:=w) (g:=g) xs rows hxl fun j v r hv hr=>by
  obtain ⟨a,c,he,hs⟩:=h2 j r hr
  refine ⟨a,c,?_,hs.anti fun k _ hk=>by rw [hk];exact hM⟩
  have:=take_drop_one he
  rw [hv] at this
  simpa using this
 have hdl:ds.length=rows.length:=by rw [←e2];simp
 rcases h1.2 with ⟨hv, -⟩|⟨g',cap,cur,hv,hb,hgc,hc1,hc2,hcs,hct⟩
 ·simp at hv
 simp only [Value.slice.injEq,Option.some.injEq,Addr.mk.injEq,true_and,and_true] at hv
 obtain ⟨rfl,rfl⟩:=hv
 have hgl:g<w.heap.size:=(Array.getElem?_eq_some_iff.1 hgc).1
 have hH:Holds encE w g 0 ds.toArray:=by
  intro j hj
  have hj2:j<ds.length:=by simpa using hj
  refine ⟨?_,by rw [Nat.zero_add];exact h1.frozenAt j⟩
  rw [Nat.zero_add,h1.cellAt j (by simp [GR.sz];omega),←e1,toList_getElem! _ _ hj]
  simp [hj2]
 have hcon:=Any.slices_SortFunc Tryz.sortRows encE one_encE (cfE cf) (swo_cfE hT) g0 #[] g 0 c ds.toArray w eg (cmpLaysE h0 w g _) hH hgl (by simp;omega)
 change Calls Tryz.prog 295 _ _ _ at hcon
 rw [show ds.toArray.size=rows.length from by simp [hdl]] at hcon
 refine hcon.mono ?_
 rintro e w' ⟨rfl,d',n,os,hp,hs,rfl⟩
 have hds:d'.size=rows.length:=by rw [hp.1];simp [hdl]
 refine ⟨rfl,d'.toList.map (fun x=>x.l),⟨?_,?_⟩,?_,?_⟩
 ·have h3:=hp.2.2
  have e3:(d'.extract 0 rows.length).toList=d'.toList:=by rw [←hds];simp
  have e4:(ds.toArray.extract 0 rows.length).toList=ds:=by rw [←hdl];simp
  rw [e3,e4] at h3
  rw [←e2]
  exact h3.map _
 ·unfold Ord
  rw [List.pairwise_iff_getElem]
  intro i j hi hj hij
  simp only [List.length_map,Array.length_toList] at hi hj
  have h4:=hs i j (Nat.zero_le _) hij (by omega)
  rw [toList_getElem! _ _ hi,toList_getElem! _ _ hj] at h4
  have h4:¬cf d'.toList[j].l d'.toList[i].l<0:=of_decide_eq_false h4
  simp only [List.getElem_map]
  have:=hT.swap (d'.toList[i].l) (d'.toList[j].l)
  omega
 ·have hL:(d'.toList.map (fun x=>x.l)).length=rows.length:=by simp [hds]
  refine ⟨d'.toList.map encE,⟨by simp [GR.sz],.inr ⟨g,c,putCells encE 0 d' cur,by rw [hL],hg,?_,by rw [hL];exact hc1,hc2,by simp [putCells,hcs],?_⟩⟩,?_⟩
  ·have hs2:g<(putRow encE (Sort.ahead w n) g 0 d').heap.size:=by simpa [putRow,mapBlock,Sort.ahead] using hgl
   simp only [sortWorld,grow]
   rw [Array.getElem?_append_left hs2]
   simp only [putRow,mapBlock,Sort.ahead,Array.getElem?_modify,if_true]
   rw [hgc]
   rfl
  ·rw [hL]
   apply List.ext_getElem?
   intro j
   simp only [GR.sz,Nat.mul_one] at hcs ⊢
   rw [List.getElem?_take]
   by_cases hj:j<rows.length
   ·rw [if_pos hj]
    have hjc:j<cur.size:=by omega
    simp only [putCells,Array.getElem?_toList,Array.getElem?_mapIdx,List.getElem?_map,Array.getElem?_eq_getElem hjc,Option.map_some]
    rw [if_pos ⟨by omega,by omega⟩,Nat.sub_zero,getElem!_pos d' j (by omega),Array.getElem?_eq_getElem (by omega)]
    rfl
   rw [if_neg hj,List.getElem?_eq_none (by simp;omega)]
  intro j r hr
  rw [List.getElem?_map] at hr
  cases hx:d'.toList[j]? with
  |none=>rw [hx] at hr;cases hr
  |some x=>
   rw [hx] at hr
   obtain rfl:x.l=r:=by simpa using hr
   obtain ⟨v,l,a,c',ev,hsl⟩:=x
   subst ev
   have:((d'.toList.map encE).drop (j*GR.sz (List Int))).take (GR.sz (List Int))=[.slice a l.length c']:=by
    apply List.ext_getElem?
    intro i
    rcases i with _|i
    ·simp only [GR.sz,Nat.mul_one,List.getElem?_take,List.getElem?_drop,List.getElem?_map,Nat.add_zero,hx]
     simp [encE]
    rw [List.getElem?_take,if_neg (by simp only [GR.sz];omega)];simp
   rw [this]
   exact ⟨a,c',rfl,hsl.ext (ext_sort _ _ _ _ _ _)⟩
 refine ⟨rfl,rfl,rfl,by simp [sortWorld,grow,putRow,mapBlock,Sort.ahead],fun k hk=> ?_⟩
 by_cases hks:k<w.heap.size
 ·exact (ext_sort encE w g n d' os).block k hks (fun e=>by subst e;omega)
 omega
end
end Go.Proofs.YtjmbphjgiodioaaGreatDoor
