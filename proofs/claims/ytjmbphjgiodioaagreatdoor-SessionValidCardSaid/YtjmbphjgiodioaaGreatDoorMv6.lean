/- Several texts, one behind the other. Conditions: as each of them says. -/
import Derived.Test.YtjmbphjgiodioaaGreatDoorMv4
import Derived.Deep.Matrix
import Derived.Lib.SmallJoins
set_option maxRecDepth 100000
set_option maxHeartbeats 32000000
namespace Go.Proofs.YtjmbphjgiodioaaGreatDoor
open Go.RowKit Go.Joins Go.ChangeShapes Go.WideShapes Go.Deep
theorem add_flat (b off j:Nat):(⟨b,off,none⟩:Addr).add j=⟨b,off+j,none⟩:=by
 unfold Addr.add
 split
 ·rename_i h;subst h;rfl
 rfl
theorem flat_of_cell {w:World} {a:Addr} {v:Value} (h:w.cell? a=some v):∃b off,a=⟨b,off,none⟩∧b<w.heap.size:=by
 obtain ⟨b,off,s⟩:=a
 unfold World.cell? at h
 have hb:b<w.heap.size:=by
  by_cases hb:b<w.heap.size
  ·exact hb
  rw [Array.getElem?_eq_none (by simpa using hb)] at h;simp at h
 cases s with
 |none=>exact ⟨b,off,rfl,hb⟩
 |some s=>
  simp only [Option.isSome_some,if_true] at h
  split at h<;>cases h
theorem wf_i64 {x:Int} (h:(Lit.int .i64 x).wf=true):i64 x:=by
 have:=in64_of_wf h
 unfold In64 at this
 unfold i64;omega
section
variable {H:Type} {enc:TypeId×Value→H} {w:World} {held:Bool} {fuel:Nat} {cs:List Value} {x:DataW H×List MemPlace}
theorem sl_int_of {a:Option Addr} {L C:Nat} {zs:List Int} (h1:L≤C) (h2:C≤maxLen) (h3:zs.length=C) (h4:∀n∈zs,(Lit.int .i64 n).wf=true) (h5:a=none→C=0)
    (h6:∀a',a=some a'→∀c,c<C→w.cell? (a'.add c)=some (.int .i64 (zs.getD c 0))):Sl (fun _=>False) w a C (zs.take L):=by
 refine ⟨by rw [List.length_take];omega,h2,fun j y hj=> ?_⟩
 have hjl:j<(zs.take L).length:=by
  by_cases e:j<(zs.take L).length
  ·exact e
  rw [List.getElem?_eq_none (by omega)] at hj;simp at hj
 have hjL:j<L:=by rw [List.length_take] at hjl;omega
 cases a with
 |none=>have:=h5 rfl;omega
 |some a'=>
  obtain ⟨b,off,rfl,hb⟩:=flat_of_cell (h6 a' rfl 0 (by omega))
  have hc:=h6 _ rfl j (by omega)
  have hy:zs.getD j 0=y:=by
   rw [List.getElem?_take,if_pos hjL] at hj
   exact getD_of_some hj
  have hyz:y∈zs:=by
   rw [List.getElem?_take,if_pos hjL] at hj
   exact List.mem_of_getElem? hj
  refine ⟨b,off,[.int .i64 y],rfl,?_,id,⟨rfl,wf_i64 (h4 y hyz)⟩,fun i u hi=> ?_⟩
  ·simpa [Addr.add] using hb
  obtain ⟨rfl, rfl⟩ : i = 0 ∧ u = .int .i64 y := by
   rcases i with _|i
   ·simpa using hi.symm
   simp at hi
  rw [add_flat,hy] at hc
  simpa [GR.sz] using hc
theorem sl_rows_of (h:DataW.trod enc Tryz.prog w 0 (fun _=>true) held fuel 27 cs=some x):∃(a:Option Addr) (c:Nat) (l:List (List Int)),cs=[.slice a l.length c]∧Sl (fun _=>False) w a c l:=by
 rcases open_int_rows Tryz.underlying27 Tryz.underlying94 Tryz.underlying3 (by kernel_rfl) (by kernel_rfl) h with ⟨rfl,_⟩|⟨a,len,cap,A,L,C,Z,rfl,_,hl,hm,_,hr⟩
 ·exact ⟨none,0,[],rfl,Sl.nil _ _ _ (by unfold maxLen;omega)⟩
 refine ⟨some a,cap,(List.range len).map (fun r=>(Z r).take (L r)),by simp,by simpa using hl,hm,fun j y hj=> ?_⟩
 have hjl:j<len:=by
  by_cases e:j<len
  ·exact e
  rw [List.getElem?_eq_none (by simpa using e)] at hj;simp at hj
 obtain ⟨hc0, -⟩:=hr 0 (by omega)
 rw [show a.add 0=a from by simp [Addr.add]] at hc0
 obtain ⟨b,off,rfl,hb⟩:=flat_of_cell hc0
 obtain ⟨hc,h1,h2,h3,h4,h5,h6⟩:=hr j (by omega)
 have hy:(Z j).take (L j)=y:=by
  rw [List.getElem?_map,List.getElem?_range hjl] at hj
  simpa using hj
 subst hy
 have hlen:((Z j).take (L j)).length=L j:=by rw [List.length_take];omega
 refine ⟨b,off,[.slice (A j) ((Z j).take (L j)).length (C j)],rfl,hb,id,⟨A j,C j,rfl,sl_int_of h1 h2 h3 h4 h5 fun a' ha'=>(h6 a' ha').2⟩,fun i u hi=> ?_⟩
 obtain ⟨rfl,rfl⟩:i=0∧u= .slice (A j) ((Z j).take (L j)).length (C j):=by
  rcases i with _|i
  ·simpa using hi.symm
  simp at hi
 rw [add_flat] at hc
 rw [hlen]
 simpa [GR.sz] using hc
end
end Go.Proofs.YtjmbphjgiodioaaGreatDoor
