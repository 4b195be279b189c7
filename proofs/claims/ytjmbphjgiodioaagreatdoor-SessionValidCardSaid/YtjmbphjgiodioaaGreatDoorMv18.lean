/- Several texts, one behind the other. Conditions: as each of them says. -/
import Derived.Test.YtjmbphjgiodioaaGreatDoorMv8
import Derived.Test.YtjmbphjgiodioaaGreatDoorMv7
import Derived.Deep.SlicePairs
set_option maxRecDepth 100000
set_option maxHeartbeats 32000000
namespace Go.Proofs.YtjmbphjgiodioaaGreatDoor
open Go.RowKit Go.Joins Go.ChangeShapes Go.WideShapes Go.Deep
section
variable {H:Type} {enc:TypeId×Value→H} {w:World} {held:Bool} {fuel:Nat} {cs:List Value} {x:DataW H×List MemPlace}
theorem cells_il:Tryz.prog.cellsOf 3=1∧Tryz.prog.cellsOf 94=1∧Tryz.prog.cellsOf 27=1:=⟨by kernel_rfl,by kernel_rfl,by kernel_rfl⟩
theorem ma_of {c0 c1 c2 c3:Value} (h:DataW.trod enc Tryz.prog w 0 (fun _=>true) held fuel 41 [c0,c1,c2,c3]=some x):
    ∃m an cn ao co,c0= .int .i64 m.inputs∧c1= .int .i64 m.start∧c2= .slice an m.next.length cn∧c3= .slice ao m.out.length co∧Ma (fun _=>False) w an cn ao co m:=by
 obtain ⟨y0,y1,y2,y3,n, -, -,h0,h1,h2,h3⟩:=trod_struct4 Tryz.underlying41 h
 obtain ⟨k1,k2,k3⟩:=cells_il
 simp only [k1,k3,List.drop_zero,List.drop_succ_cons,List.take_succ_cons,List.take_zero] at h0 h1 h2 h3
 obtain ⟨x0,e0, -,w0⟩:=DataW.trod_int Tryz.underlying3 h0
 obtain ⟨x1,e1, -,w1⟩:=DataW.trod_int Tryz.underlying3 h1
 obtain ⟨a2,c2',l2,e2,s2⟩:=sl_rows_of h2
 obtain ⟨a3,c3',l3,e3,s3⟩:=sl_rows_of h3
 simp at e0 e1 e2 e3
 exact ⟨⟨x0,x1,l2,l3⟩,a2,c2',a3,c3',e0,e1,e2,e3,wf_i64 w0,wf_i64 w1,s2,s3⟩
theorem cells_tr:Tryz.prog.cellsOf 96=2:=by kernel_rfl
theorem sl_trs_of (h:DataW.trod enc Tryz.prog w 0 (fun _=>true) held fuel 37 cs=some x):∃(a:Option Addr) (c:Nat) (l:List Tr),cs=[.slice a l.length c]∧Sl (fun _=>False) w a c l:=by
 rcases open_slice_pairs Tryz.underlying37 Tryz.underlying96 cells_tr rfl rfl cells_il.2.1 cells_il.2.1 h with ⟨rfl,_⟩|⟨a,len,cap,m,n,V0,V1,D0,D1,P0,P1,rfl,_,hl,hm,hmm,_,hr⟩
 ·exact ⟨none,0,[],rfl,Sl.nil _ _ _ (by unfold maxLen;omega)⟩
 have hlm:len≤m:=by rw [hmm];simpa using hl
 have hex:∀i,∃t:Tr,i<m→∃(a1:Option Addr) (c1:Nat) (a2:Option Addr) (c2:Nat),V0 i= .slice a1 t.inn.length c1∧V1 i= .slice a2 t.out.length c2∧Sl (fun _=>False) w a1 c1 t.inn∧Sl (fun _=>False) w a2 c2 t.out:=by
  intro i
  by_cases hi:i<m
  ·obtain ⟨-, -,h1,h2⟩:=hr i hi
   obtain ⟨a1,c1,l1,e1,s1⟩:=sl_ints_of h1
   obtain ⟨a2,c2,l2,e2,s2⟩:=sl_ints_of h2
   simp at e1 e2
   exact ⟨⟨l1,l2⟩,fun _=>⟨a1,c1,a2,c2,e1,e2,s1,s2⟩⟩
  exact ⟨⟨[],[]⟩,fun h=>absurd h hi⟩
 obtain ⟨f,hf⟩:=Classical.axiomOfChoice hex
 refine ⟨some a,cap,(List.range len).map f,by simp,by simpa using hl,hm,fun j y hj=> ?_⟩
 have hjl:j<len:=by
  by_cases e:j<len
  ·exact e
  rw [List.getElem?_eq_none (by simpa using e)] at hj;simp at hj
 obtain ⟨hc0, -⟩:=hr 0 (by omega)
 rw [show a.add (0*2)=a from by simp [Addr.add]] at hc0
 obtain ⟨b,off,rfl,hb⟩:=flat_of_cell hc0
 obtain ⟨hc,hc', -, -⟩:=hr j (by omega)
 rw [add_flat] at hc hc'
 have hy:f j=y:=by
  rw [List.getElem?_map,List.getElem?_range hjl] at hj
  simpa using hj
 subst hy
 obtain ⟨a1,c1,a2,c2,e1,e2,s1,s2⟩:=hf j (by omega)
 refine ⟨b,off,[.slice a1 (f j).inn.length c1,.slice a2 (f j).out.length c2],rfl,hb,id,⟨a1,c1,a2,c2,rfl,s1,s2⟩,fun i u hi=> ?_⟩
 match i,hi with
 |0,hi=>simp at hi;subst hi;rw [←e1];simpa [GR.sz] using hc
 |1,hi=>simp at hi;subst hi;rw [←e2];simpa [GR.sz,Nat.add_assoc] using hc'
end
end Go.Proofs.YtjmbphjgiodioaaGreatDoor
