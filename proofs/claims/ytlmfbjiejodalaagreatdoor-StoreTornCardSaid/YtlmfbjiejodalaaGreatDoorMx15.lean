/- Several texts, one behind the other. Conditions: as each of them says. -/
import Derived.Test.YtlmfbjiejodalaaGreatDoorMx8
import Derived.Test.YtlmfbjiejodalaaGreatDoorMx7
import Derived.Deep.SlicePairs
set_option maxRecDepth 100000
set_option maxHeartbeats 32000000
namespace Go.Proofs.YtlmfbjiejodalaaGreatDoor
open Go.RowKit Go.Joins Go.ChangeShapes Go.WideShapes Go.Deep
section
variable {H:Type} {enc:TypeId×Value→H} {w:World} {held:Bool} {fuel:Nat} {cs:List Value} {x:DataW H×List MemPlace}
theorem cells_il:Tryz.prog.cellsOf 3=1∧Tryz.prog.cellsOf 62=1∧Tryz.prog.cellsOf 27=1:=⟨by kernel_rfl,by kernel_rfl,by kernel_rfl⟩
theorem cells_tr:Tryz.prog.cellsOf 72=2:=by kernel_rfl
theorem sl_trs_of (h:DataW.trod enc Tryz.prog w 0 (fun _=>true) held fuel 37 cs=some x):∃(a:Option Addr) (c:Nat) (l:List Tr),cs=[.slice a l.length c]∧Sl (fun _=>False) w a c l:=by
 rcases open_slice_pairs Tryz.underlying37 Tryz.underlying72 cells_tr rfl rfl cells_il.2.1 cells_il.2.1 h with ⟨rfl,_⟩|⟨a,len,cap,m,n,V0,V1,D0,D1,P0,P1,rfl,_,hl,hm,hmm,_,hr⟩
 ·exact ⟨none,0,[],rfl,Sl.nil _ _ _ (by unfold maxLen;omega)⟩
 have hlm:len≤m:=by rw [hmm];simpa using hl
 have hex:∀i,∃t:Tr,i<m→∃(a1:Option Addr) (c1:Nat) (a2:Option Addr) (c2:Nat),V0 i= .slice a1 t.inn.length c1∧V1 i= .slice a2 t.out.length c2∧Sl (fun _=>False) w a1 c1 t.inn∧Sl (fun _=>False) w a2 c2 t.out:=by
  intro i
  by_cases hi:i<m
  ·obtain ⟨-, -,h1,h2⟩:=hr i hi
   obtain ⟨a1,c1,l1,e1,s1⟩:=sl_ints_of h1
   obtain ⟨a2,c2,l2,e2,s2⟩:=sl_ints_of h2
   simp at e1 e2
   exact ⟨⟨l1,l2⟩,fun _=>⟨a1,c1,a2,c2,e1,e2,s1,s2⟩⟩
  exact ⟨⟨[],[]⟩,fun h=>absurd h hi⟩
 obtain ⟨f,hf⟩:=Classical.axiomOfChoice hex
 refine ⟨some a,cap,(List.range len).map f,by simp,by simpa using hl,hm,fun j y hj=> ?_⟩
 have hjl:j<len:=by
  by_cases e:j<len
  ·exact e
  rw [List.getElem?_eq_none (by simpa using e)] at hj;simp at hj
 obtain ⟨hc0, -⟩:=hr 0 (by omega)
 rw [show a.add (0*2)=a from by simp [Addr.add]] at hc0
 obtain ⟨b,off,rfl,hb⟩:=flat_of_cell hc0
 obtain ⟨hc,hc', -, -⟩:=hr j (by omega)
 rw [add_flat] at hc hc'
 have hy:f j=y:=by
  rw [List.getElem?_map,List.getElem?_range hjl] at hj
  simpa using hj
 subst hy
 obtain ⟨a1,c1,a2,c2,e1,e2,s1,s2⟩:=hf j (by omega)
 refine ⟨b,off,[.slice a1 (f j).inn.length c1,.slice a2 (f j).out.length c2],rfl,hb,id,⟨a1,c1,a2,c2,rfl,s1,s2⟩,fun i u hi=> ?_⟩
 match i,hi with
 |0,hi=>simp at hi;subst hi;rw [←e1];simpa [GR.sz] using hc
 |1,hi=>simp at hi;subst hi;rw [←e2];simpa [GR.sz,Nat.add_assoc] using hc'
end
section
variable {H:Type} {enc:TypeId×Value→H} {w:World} {held:Bool} {fuel:Nat} {cs:List Value} {x:DataW H×List MemPlace}
theorem sl_trss_of (h:DataW.trod enc Tryz.prog w 0 (fun _=>true) held fuel 60 cs=some x):∃(a:Option Addr) (c:Nat) (l:List (List Tr)),cs=[.slice a l.length c]∧Sl (fun _=>False) w a c l:=by
 rcases open_slice1 Tryz.underlying60 (by kernel_rfl) h with ⟨rfl,_⟩|⟨a,len,cap,m,n,V,D,Pl,rfl,_,hl,hm,hmm,_,hr⟩
 ·exact ⟨none,0,[],rfl,Sl.nil _ _ _ (by unfold maxLen;omega)⟩
 have hlm:len≤m:=by rw [hmm];simpa using hl
 have hex:∀i,∃t:List Tr,i<m→∃(a1:Option Addr) (c1:Nat),V i= .slice a1 t.length c1∧Sl (fun _=>False) w a1 c1 t:=by
  intro i
  by_cases hi:i<m
  ·obtain ⟨-,h1⟩:=hr i hi
   obtain ⟨a1,c1,l1,e1,s1⟩:=sl_trs_of h1
   simp at e1
   exact ⟨l1,fun _=>⟨a1,c1,e1,s1⟩⟩
  exact ⟨[],fun h=>absurd h hi⟩
 obtain ⟨f,hf⟩:=Classical.axiomOfChoice hex
 refine ⟨some a,cap,(List.range len).map f,by simp,by simpa using hl,hm,fun j y hj=> ?_⟩
 have hjl:j<len:=by
  by_cases e:j<len
  ·exact e
  rw [List.getElem?_eq_none (by simpa using e)] at hj;simp at hj
 obtain ⟨hc0, -⟩:=hr 0 (by omega)
 rw [show a.add 0=a from by simp [Addr.add]] at hc0
 obtain ⟨b,off,rfl,hb⟩:=flat_of_cell hc0
 obtain ⟨hc, -⟩:=hr j (by omega)
 rw [add_flat] at hc
 have hy:f j=y:=by
  rw [List.getElem?_map,List.getElem?_range hjl] at hj
  simpa using hj
 subst hy
 obtain ⟨a1,c1,e1,s1⟩:=hf j (by omega)
 refine ⟨b,off,[.slice a1 (f j).length c1],rfl,hb,id,⟨a1,c1,rfl,s1⟩,fun i u hi=> ?_⟩
 obtain ⟨rfl,rfl⟩:i=0∧u= .slice a1 (f j).length c1:=by
  rcases i with _|i
  ·simpa using hi.symm
  simp at hi
 rw [←e1]
 simpa [GR.sz] using hc
theorem open_trss {r:Reach} {b0:Nat} {v:Value} {d:DataW H} {p:List MemPlace} (hv:Value.okWide Tryz.prog w r b0 60 v) (h:DataW.Trod enc Tryz.prog w 0 (fun _=>true) held 60 v d p):
    ∃(a:Option Addr) (c:Nat) (l:List (List Tr)),v= .slice a l.length c∧Sl (fun _=>False) w a c l:=by
 obtain ⟨a0,n0,c0,rfl⟩:=okWide_slice Tryz.underlying60 hv
 obtain ⟨m,hm⟩:=h
 obtain ⟨a,c,l,h1,h2⟩:=sl_trss_of hm
 refine ⟨a,c,l,?_,h2⟩
 simpa [Value.cells] using h1
end
end Go.Proofs.YtlmfbjiejodalaaGreatDoor
