/- Several texts, one behind the other. Conditions: as each of them says. -/
import Derived.Test.YtjmbphjgiodioaaGreatDoorMv13
import Derived.Test.YtjmbphjgiodioaaGreatDoorMv7
import Derived.Test.YtjmbphjgiodioaaGreatDoorLaySortT
set_option maxRecDepth 100000
set_option maxHeartbeats 32000000
namespace Go.Proofs.YtjmbphjgiodioaaGreatDoor
open Go.RowKit Go.Sort Go.Shelf
section
variable {M M':Nat→Prop} {w:World} {a1 a2 b1 b2:Option Addr} {c1 c2 d1 d2:Nat}
theorem fits1_any {s t:Tr} (h1:Sl M w a1 c1 s.inn) (h2:Sl M' w b1 d1 t.inn):
    Calls Tryz.prog 111 #[trV s a1 c1 a2 c2,trV t b1 d1 b2 d2] w fun e w'=>e= .returned (.int .i64 (lexW s.inn t.inn))∧∃q os,w'=grow (w.drewN q) os:=by
 have hb:Below w.heap.size w ((w.alloc (trO s a1 c1 a2 c2)).alloc (trO t b1 d1 b2 d2)):=((Below.refl _ _).alloc (Nat.le_refl _) _).alloc (by simp) _
 have HC:=Lib.hid (lex_any ((h1.below hb).anti (M':=fun _=>False) fun _ _ h=>h.elim) ((h2.below hb).anti (M':=fun _=>False) fun _ _ h=>h.elim))
 have l1:=h1.le
 have l2:=h2.le
 clear h1 h2 hb
 go_enter Tryz.func111,Tryz.ntmps111
 go_wp2_with fail
 refine (HC.out).mono ?_
 rintro e w2 ⟨rfl,hw2⟩
 subst hw2
 go_wp2
 go_ret
 exact ⟨rfl,0,#[trO s a1 c1 a2 c2,trO t b1 d1 b2 d2],by rw [alloc_eq_grow,alloc_eq_grow,grow_grow];rfl⟩
end
structure TrE (w:World) (g:Nat) where
 v:List Value
 t:Tr
 ok:∃a c a' c',v=[.slice a t.inn.length c,.slice a' t.out.length c']∧Sl (fun k=>k=g) w a c t.inn∧Sl (fun k=>k=g) w a' c' t.out
instance (w:World) (g:Nat):Inhabited (TrE w g):=⟨⟨[.slice none 0 0,.slice none 0 0],⟨[],[]⟩,none,0,none,0,rfl,Sl.nil _ _ _ (by unfold maxLen;omega),Sl.nil _ _ _ (by unfold maxLen;omega)⟩⟩
def encTt {w:World} {g:Nat} (x:TrE w g):List Value:=x.v
def cfT {w:World} {g:Nat} (x y:TrE w g):Int:=lexW x.t.inn y.t.inn
theorem len_encTt {w:World} {g:Nat} (x:TrE w g):(encTt x).length=2:=by
 obtain ⟨v,t,a,c,a',c',rfl, -⟩:=x;rfl
theorem one_encTt {w:World} {g:Nat}:∀x:TrE w g,∀v∈encTt x,v.oneCell'=true:=by
 intro x u hu
 obtain ⟨v,t,a,c,a',c',e,h1,h2⟩:=x
 subst e
 rcases List.mem_cons.1 hu with rfl|hu
 ·rfl
 rw [List.mem_singleton.1 hu];rfl
theorem swo_cfT {w:World} {g:Nat}:SWO (ltOf (cfT (w:=w) (g:=g))) where
 irrefl x:=by simp [ltOf,cfT,tot_lex.same]
 trans x y z h1 h2:=by
  have h1:lexW x.t.inn y.t.inn<0:=of_decide_eq_true h1
  have h2:lexW y.t.inn z.t.inn<0:=of_decide_eq_true h2
  exact decide_eq_true (tot_lex.lt_trans h1 h2)
 ntrans x y z h1 h2:=by
  have h1:¬lexW x.t.inn y.t.inn<0:=of_decide_eq_false h1
  have h2:¬lexW y.t.inn z.t.inn<0:=of_decide_eq_false h2
  have e1:=tot_lex.swap y.t.inn x.t.inn
  have e2:=tot_lex.swap z.t.inn y.t.inn
  have e3:=tot_lex.swap z.t.inn x.t.inn
  have:=(tot_lex.trans z.t.inn y.t.inn x.t.inn (by omega) (by omega)).1
  refine decide_eq_false (p:=lexW x.t.inn z.t.inn<0) ?_
  omega
theorem ext_sortK {α:Type} [Inhabited α] (enc:α→List Value) (k0:Nat) (w:World) (g m:Nat) (d:Array α) (os:Array Obj):Ext (fun k=>k=g) (fun k=>k=g) w (sortWorldK enc k0 w g 0 m d os):=by
 refine ⟨by simp [sortWorldK,putRowK,grow,putRow,mapBlock,Sort.ahead],fun k hk hn=> ?_,fun _ _ h=>h⟩
 have hs:k<(putRow id (Sort.ahead w m) g 0 (flatK enc k0 d)).heap.size:=by simpa [putRow,mapBlock,Sort.ahead] using hk
 simp only [sortWorldK,putRowK,grow]
 rw [Array.getElem?_append_left hs]
 simp only [putRow,mapBlock,Sort.ahead,Array.getElem?_modify]
 rw [if_neg (Ne.symm hn)]
theorem cmpLaysT (w:World) (g n:Nat):CmpLays Tryz.prog 111 #[] (encTt (w:=w) (g:=g)) 2 cfT g 0 n w:=by
 rintro m os dk-⟨v,t,a,c,a',c',rfl,h1,h2⟩ ⟨v',t',b,d,b',d',rfl,h3,h4⟩
 exact fits1_any (s:=t) (t:=t') (h1.ext (ext_sortK _ _ _ _ _ _ _)) (h3.ext (ext_sortK _ _ _ _ _ _ _))
theorem isAggT:∀w,(isAgg 96).run Tryz.prog w= .ok true w:=fun _=>by kernel_rfl
theorem sizeT:∀w,(Go.sizeOf 96).run Tryz.prog w= .ok 2 w:=fun _=>by kernel_rfl
section
variable {M:Nat→Prop} {w:World} {B g c:Nat} {l:List Tr}
theorem sort_trs (hO:Ow B M w 96 (.slice (some ⟨g,0,none⟩) l.length c) l) (hM:M g) (hg:B≤g) (hn:l.length<1000000000000):
    Calls Tryz.prog 110 #[.slice (some ⟨g,0,none⟩) l.length c,.func (.func 111) #[] #[]] w fun e w'=>e= .returned (.tuple #[])∧∃L:List Tr,Hid (L.Perm l∧L.Pairwise fun a b=>lexW a.inn b.inn≤0)∧
     Sl (fun _=>False) w' (some ⟨g,0,none⟩) c L∧Hid (L.length=l.length)∧Below B w w':=by
 obtain ⟨xs,h1,h2⟩:=hO
 have hxl:xs.length=l.length*2:=h1.1
 rcases h1.2 with ⟨hv, -⟩|⟨g',cap,cur,hv,hb,hgc,hc1,hc2,hcs,hct⟩
 ·simp at hv
 simp only [Value.slice.injEq,Option.some.injEq,Addr.mk.injEq,true_and,and_true] at hv
 obtain ⟨rfl,rfl⟩:=hv
 have hgl:g<w.heap.size:=(Array.getElem?_eq_some_iff.1 hgc).1
 have hex:∀j,∃x:TrE w g,j<l.length→((xs.drop (j*2)).take 2=x.v∧l[j]? =some x.t):=by
  intro j
  by_cases hj:j<l.length
  ·obtain ⟨a,c,a',c',e,s1,s2⟩:=h2 j l[j] (List.getElem?_eq_getElem hj)
   exact ⟨⟨[.slice a l[j].inn.length c,.slice a' l[j].out.length c'],l[j],a,c,a',c',rfl,s1.anti fun k _ hk=>by rw [hk];exact hM,s2.anti fun k _ hk=>by rw [hk];exact hM⟩,fun _=>⟨e,List.getElem?_eq_getElem hj⟩⟩
  exact ⟨default,fun h=>absurd h hj⟩
 obtain ⟨f,hf⟩:=Classical.axiomOfChoice hex
 obtain ⟨ds,hds⟩:∃ds:Array (TrE w g),ds=((List.range l.length).map f).toArray:=⟨_,rfl⟩
 have hdl:ds.size=l.length:=by rw [hds];simp
 have hdg:∀j,j<l.length→ds[j]! =f j:=fun j hj=>by
  rw [getElem!_pos ds j (by omega)]
  simp only [hds,List.getElem_toArray,List.getElem_map,List.getElem_range]
 have hdt:ds.toList.map (fun x=>x.t)=l:=by
  apply List.ext_getElem?
  intro j
  by_cases hj:j<l.length
  ·rw [hds]
   simp only [List.getElem?_map,List.getElem?_range hj,Option.map_some]
   exact (hf j hj).2.symm
  rw [List.getElem?_eq_none (by rw [List.length_map,Array.length_toList];omega),List.getElem?_eq_none (by omega)]
 have hH:HoldsK encTt 2 w g 0 ds:=by
  intro j hj
  rw [size_flatK,hdl] at hj
  refine ⟨?_,by rw [Nat.zero_add];exact h1.frozenAt j⟩
  rw [Nat.zero_add,h1.cellAt j (by show j<l.length*2;omega),get_flatK _ _ _ _ (by rw [hdl];exact hj)]
  have hj2:j/2<l.length:=by omega
  rw [hdg _ hj2]
  have e:=(hf (j/2) hj2).1
  obtain ⟨a,c,a',c',e2, -, -⟩:=(f (j/2)).ok
  have e3:xs[j]? =((xs.drop (j/2*2)).take 2)[j%2]? :=by
   rw [List.getElem?_take,if_pos (by omega),List.getElem?_drop]
   congr 1;omega
  rw [e3,e]
  unfold encTt
  have:j%2<(f (j/2)).v.length:=by rw [e2];simp;omega
  rw [List.getElem?_eq_getElem this,getElem!_pos (f (j/2)).v (j%2) this]
  rfl
 have eg:∀args w,(callFunc 111 args).run Tryz.prog w= .ok (.enter 111 args) w:=enters_of Tryz.func111 (by kernel_rfl) rfl
 have hcon:=AnyQ.slices_SortFunc Tryz.sortTr 2 isAggT sizeT encTt len_encTt one_encTt cfT swo_cfT 111 #[] g 0 c ds w eg (cmpLaysT w g _) hH hgl (by rw [hdl];omega)
 change Calls Tryz.prog 110 _ _ _ at hcon
 rw [hdl] at hcon
 refine hcon.mono ?_
 rintro e w' ⟨rfl,d',n,os,hp,hsr,rfl⟩
 have hd':d'.size=l.length:=by rw [hp.1,hdl]
 have hH':HoldsK encTt 2 (sortWorldK encTt 2 w g 0 n d' os) g 0 d':=by
  unfold sortWorldK
  refine holdsK_grow encTt 2 _ _ _ _ _ ?_ (holdsK_putRowK encTt 2 _ _ _ ds d' (holdsK_ahead encTt 2 _ _ _ _ _ hH) (by rw [hd',hdl]))
  simpa [putRowK,putRow,mapBlock,Sort.ahead] using hgl
 refine ⟨rfl,d'.toList.map (fun x=>x.t),⟨?_,?_⟩,?_,by unfold Hid;simp [hd'],?_⟩
 ·have h3:=hp.2.2
  have e3:(d'.extract 0 l.length).toList=d'.toList:=by rw [←hd'];simp
  have e4:(ds.extract 0 l.length).toList=ds.toList:=by rw [←hdl];simp
  rw [e3,e4] at h3
  rw [←hdt]
  exact h3.map _
 ·rw [List.pairwise_iff_getElem]
  intro i j hi hj hij
  simp only [List.length_map,Array.length_toList] at hi hj
  have h4:=hsr i j (Nat.zero_le _) hij (by omega)
  rw [toList_getElem! _ _ hi,toList_getElem! _ _ hj] at h4
  have h4:¬lexW d'.toList[j].t.inn d'.toList[i].t.inn<0:=of_decide_eq_false h4
  simp only [List.getElem_map]
  have:=tot_lex.swap (d'.toList[i].t.inn) (d'.toList[j].t.inn)
  omega
 ·have hL:(d'.toList.map (fun x=>x.t)).length=l.length:=by simp [hd']
  refine ⟨by rw [hL];exact hc1,hc2,fun j y hj=> ?_⟩
  have hjl:j<d'.size:=by
   by_cases e:j<d'.size
   ·exact e
   rw [List.getElem?_eq_none (by simp;omega)] at hj;simp at hj
  have hy:d'[j]!.t=y:=by
   rw [getElem!_pos d' j hjl]
   simpa [hjl] using hj
  obtain ⟨a,c0,a',c0',e2,s1,s2⟩:=d'[j]!.ok
  rw [hy] at e2 s1 s2
  have k0:=(hH'.cell (i:=j) (c:=0) hjl (by omega)).1
  have k1:=(hH'.cell (i:=j) (c:=1) hjl (by omega)).1
  have he:encTt d'[j]! =[.slice a y.inn.length c0,.slice a' y.out.length c0']:=e2
  rw [he] at k0 k1
  refine ⟨g,0,[.slice a y.inn.length c0,.slice a' y.out.length c0'],rfl,?_,id,⟨a,c0,a',c0',rfl,(s1.ext (ext_sortK encTt 2 w g n d' os)).anti fun _ _ h=>h.elim,(s2.ext (ext_sortK encTt 2 w g n d' os)).anti fun _ _ h=>h.elim⟩,fun i u hi=> ?_⟩
  ·exact Nat.lt_of_lt_of_le hgl (ext_sortK encTt 2 w g n d' os).size
  match i,hi with
  |0,hi=>simp at hi;subst hi;simpa [GR.sz] using k0
  |1,hi=>simp at hi;subst hi;simpa [GR.sz,Nat.add_assoc] using k1
 refine ⟨rfl,rfl,rfl,by simp [sortWorldK,putRowK,grow,putRow,mapBlock,Sort.ahead],fun k hk=> ?_⟩
 by_cases hks:k<w.heap.size
 ·exact (ext_sortK encTt 2 w g n d' os).block k hks (fun e=>by subst e;omega)
 omega
end
end Go.Proofs.YtjmbphjgiodioaaGreatDoor
