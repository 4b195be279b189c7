/- Several texts, one behind the other. Conditions: as each of them says. -/
import Derived.Test.YtknhegdepbmmlaaGreatMt24
import Derived.Test.YtknhegdepbmmlaaGreatMt20
set_option maxRecDepth 100000
set_option maxHeartbeats 32000000
namespace Go.Proofs.YtknhegdepbmmlaaGreat
open Go.RowKit
theorem Sl.litg {α:Type} [GR α] {M:Nat→Prop} {w:World} {rows:List (List α)} {vs:Array Value} {b n:Nat} {T:TypeId} (h:w.heap[b]? =some (.cells vs T (0,0))) (hM:¬M b) (hn:n=rows.length) (hs:n≤maxLen)
    (hx:∀(j:Nat) (r:List α),rows[j]? =some r→∃a c,vs[j]? =some (Value.slice a r.length c)∧Sl M w a c r):
    Sl M w (some ⟨b,0,none⟩) n rows:=by
 refine ⟨by omega,hs,fun j x hj=> ?_⟩
 obtain ⟨a,c,h1,h2⟩:=hx j x hj
 refine ⟨b,0,[.slice a x.length c],rfl,?_,hM,⟨a,c,rfl,h2⟩,fun i u hi=> ?_⟩
 ·exact (Array.getElem?_eq_some_iff.1 h).1
 obtain ⟨rfl, rfl⟩ : i = 0 ∧ u = .slice a x.length c := by
  rcases i with _|i
  ·simpa using hi.symm
  simp at hi
 rw [cell_of_row _ _ _ _ _ _ h]
 simpa [GR.sz] using h1
theorem i64_sm {x:Int} (h: -100≤x∧x≤100):i64 x:=by unfold i64;omega
theorem Sl.node1 {M:Nat→Prop} {w:World} {b:Nat} {T:TypeId} {a:Option Addr} {c:Nat} {st:List Int} {y:Int} (h:w.heap[b]? =some (.cells #[.slice a st.length c,.int .i64 y,.slice none 0 0] T (0,0))) (hM:¬M b) (hs:Sl M w a c st) (hy:i64 y):Sl M w (some ⟨b,0,none⟩) 1 [(⟨st,y,[]⟩:Nd)]:=by
 refine ⟨by simp,by unfold maxLen;omega,fun j x hj=> ?_⟩
 match j,hj with
 |0,hj=>
  simp at hj;subst hj
  refine ⟨b,0,[.slice a st.length c,.int .i64 y,.slice none 0 0],rfl,(Array.getElem?_eq_some_iff.1 h).1,hM,⟨⟨a,c,none,0,rfl,hs,Sl.nil _ _ _ (by unfold maxLen;omega)⟩,hy⟩,fun i u hi=> ?_⟩
  rw [cell_of_row _ _ _ _ _ _ h]
  match i,hi with
  |0,hi=>simpa [GR.sz] using hi
  |1,hi=>simpa [GR.sz] using hi
  |2,hi=>simpa [GR.sz] using hi
  |i+3,hi=>simp at hi
section
variable (w:World)
abbrev gA:World:=(((((((w.alloc (.cells #[.int .i64 0,.int .i64 0] 3)).alloc (.cells #[.slice (some ⟨w.heap.size,0,none⟩) 2 2] 45)).alloc (.cells #[.int .i64 0,.int .i64 0] 3)).alloc (.cells #[.slice (some ⟨w.heap.size+1+1,0,none⟩) 2 2] 45)).alloc (.cells #[.int .i64 0] 3)).alloc (.cells #[.slice (some ⟨w.heap.size+1+1+1+1,0,none⟩) 1 1] 45)).alloc (.cells #[.slice (some ⟨w.heap.size+1,0,none⟩) 1 1,.slice (some ⟨w.heap.size+1+1+1,0,none⟩) 1 1,.slice (some ⟨w.heap.size+1+1+1+1+1,0,none⟩) 1 1] 22))
theorem gA_sl:(Sl (fun k=>k<w.heap.size) (gA w) (some ⟨w.heap.size+1+1+1+1+1+1,0,none⟩) 3 ([[[0,0]],[[0,0]],[[0]]]:List (List (List Int))))∧Below w.heap.size w (gA w):=by
 have h0:Sl (fun k=>k<w.heap.size) (gA w) (some ⟨w.heap.size,0,none⟩) 2 ([0,0]:List Int):=Sl.lit (T:=3) (vs:= #[.int .i64 0,.int .i64 0]) (by (repeat (first|(refine heap_at ?_;(simp;done))|refine heap_old ?_))) rfl (by omega) (fun y hy=>i64_sm (by simp at hy;omega)) rfl (by unfold maxLen;omega)
 have h1:Sl (fun k=>k<w.heap.size) (gA w) (some ⟨w.heap.size+1,0,none⟩) 1 ([[0,0]]:List (List Int)):=by
  refine Sl.litg (T:=45) (vs:= #[.slice (some ⟨w.heap.size,0,none⟩) 2 2]) (by (repeat (first|(refine heap_at ?_;(simp;done))|refine heap_old ?_))) (by omega) rfl (by unfold maxLen;omega) fun j r hj=> ?_
  match j,hj with
  | 0, hj => obtain rfl : ([0, 0] : List Int) = r := by simpa using hj
             exact ⟨_,_,rfl,h0⟩
  |j+1,hj=>simp at hj
 have h2:Sl (fun k=>k<w.heap.size) (gA w) (some ⟨w.heap.size+1+1,0,none⟩) 2 ([0,0]:List Int):=Sl.lit (T:=3) (vs:= #[.int .i64 0,.int .i64 0]) (by (repeat (first|(refine heap_at ?_;(simp;done))|refine heap_old ?_))) rfl (by omega) (fun y hy=>i64_sm (by simp at hy;omega)) rfl (by unfold maxLen;omega)
 have h3:Sl (fun k=>k<w.heap.size) (gA w) (some ⟨w.heap.size+1+1+1,0,none⟩) 1 ([[0,0]]:List (List Int)):=by
  refine Sl.litg (T:=45) (vs:= #[.slice (some ⟨w.heap.size+1+1,0,none⟩) 2 2]) (by (repeat (first|(refine heap_at ?_;(simp;done))|refine heap_old ?_))) (by omega) rfl (by unfold maxLen;omega) fun j r hj=> ?_
  match j,hj with
  | 0, hj => obtain rfl : ([0, 0] : List Int) = r := by simpa using hj
             exact ⟨_,_,rfl,h2⟩
  |j+1,hj=>simp at hj
 have h4:Sl (fun k=>k<w.heap.size) (gA w) (some ⟨w.heap.size+1+1+1+1,0,none⟩) 1 ([0]:List Int):=Sl.lit (T:=3) (vs:= #[.int .i64 0]) (by (repeat (first|(refine heap_at ?_;(simp;done))|refine heap_old ?_))) rfl (by omega) (fun y hy=>i64_sm (by simp at hy;omega)) rfl (by unfold maxLen;omega)
 have h5:Sl (fun k=>k<w.heap.size) (gA w) (some ⟨w.heap.size+1+1+1+1+1,0,none⟩) 1 ([[0]]:List (List Int)):=by
  refine Sl.litg (T:=45) (vs:= #[.slice (some ⟨w.heap.size+1+1+1+1,0,none⟩) 1 1]) (by (repeat (first|(refine heap_at ?_;(simp;done))|refine heap_old ?_))) (by omega) rfl (by unfold maxLen;omega) fun j r hj=> ?_
  match j,hj with
  | 0, hj => obtain rfl : ([0] : List Int) = r := by simpa using hj
             exact ⟨_,_,rfl,h4⟩
  |j+1,hj=>simp at hj
 have h6:Sl (fun k=>k<w.heap.size) (gA w) (some ⟨w.heap.size+1+1+1+1+1+1,0,none⟩) 3 ([[[0,0]],[[0,0]],[[0]]]:List (List (List Int))):=by
  refine Sl.litg (T:=22) (vs:= #[.slice (some ⟨w.heap.size+1,0,none⟩) 1 1,.slice (some ⟨w.heap.size+1+1+1,0,none⟩) 1 1,.slice (some ⟨w.heap.size+1+1+1+1+1,0,none⟩) 1 1]) (by (repeat (first|(refine heap_at ?_;(simp;done))|refine heap_old ?_))) (by omega) rfl (by unfold maxLen;omega) fun j r hj=> ?_
  match j,hj with
  | 0, hj => obtain rfl : ([[0, 0]] : List (List Int)) = r := by simpa using hj
             exact ⟨_,_,rfl,h1⟩
  | 1, hj => obtain rfl : ([[0, 0]] : List (List Int)) = r := by simpa using hj
             exact ⟨_,_,rfl,h3⟩
  | 2, hj => obtain rfl : ([[0]] : List (List Int)) = r := by simpa using hj
             exact ⟨_,_,rfl,h5⟩
  |j+3,hj=>simp at hj
 refine ⟨h6,?_⟩
 repeat' (first|exact Below.refl _ _|refine Below.alloc ?_ (by simp;omega) _|refine Below.alloc ?_ (by simp) _)
abbrev gB:World:=(((((((((w.alloc (.cells #[.int .i64 0] 3)).alloc (.cells #[.int .i64 0,.int .i64 0] 3)).alloc (.cells #[.slice (some ⟨w.heap.size,0,none⟩) 1 1,.slice (some ⟨w.heap.size+1,0,none⟩) 2 2] 45)).alloc (.cells #[.int .i64 0] 3)).alloc (.cells #[.int .i64 0,.int .i64 0] 3)).alloc (.cells #[.slice (some ⟨w.heap.size+1+1+1,0,none⟩) 1 1,.slice (some ⟨w.heap.size+1+1+1+1,0,none⟩) 2 2] 45)).alloc (.cells #[.int .i64 0] 3)).alloc (.cells #[.slice (some ⟨w.heap.size+1+1+1+1+1+1,0,none⟩) 1 1] 45)).alloc (.cells #[.slice (some ⟨w.heap.size+1+1,0,none⟩) 2 2,.slice (some ⟨w.heap.size+1+1+1+1+1,0,none⟩) 2 2,.slice (some ⟨w.heap.size+1+1+1+1+1+1+1,0,none⟩) 1 1] 22))
theorem gB_sl:(Sl (fun k=>k<w.heap.size) (gB w) (some ⟨w.heap.size+1+1+1+1+1+1+1+1,0,none⟩) 3 ([[[0],[0,0]],[[0],[0,0]],[[0]]]:List (List (List Int))))∧Below w.heap.size w (gB w):=by
 have h0:Sl (fun k=>k<w.heap.size) (gB w) (some ⟨w.heap.size,0,none⟩) 1 ([0]:List Int):=Sl.lit (T:=3) (vs:= #[.int .i64 0]) (by (repeat (first|(refine heap_at ?_;(simp;done))|refine heap_old ?_))) rfl (by omega) (fun y hy=>i64_sm (by simp at hy;omega)) rfl (by unfold maxLen;omega)
 have h1:Sl (fun k=>k<w.heap.size) (gB w) (some ⟨w.heap.size+1,0,none⟩) 2 ([0,0]:List Int):=Sl.lit (T:=3) (vs:= #[.int .i64 0,.int .i64 0]) (by (repeat (first|(refine heap_at ?_;(simp;done))|refine heap_old ?_))) rfl (by omega) (fun y hy=>i64_sm (by simp at hy;omega)) rfl (by unfold maxLen;omega)
 have h2:Sl (fun k=>k<w.heap.size) (gB w) (some ⟨w.heap.size+1+1,0,none⟩) 2 ([[0],[0,0]]:List (List Int)):=by
  refine Sl.litg (T:=45) (vs:= #[.slice (some ⟨w.heap.size,0,none⟩) 1 1,.slice (some ⟨w.heap.size+1,0,none⟩) 2 2]) (by (repeat (first|(refine heap_at ?_;(simp;done))|refine heap_old ?_))) (by omega) rfl (by unfold maxLen;omega) fun j r hj=> ?_
  match j,hj with
  | 0, hj => obtain rfl : ([0] : List Int) = r := by simpa using hj
             exact ⟨_,_,rfl,h0⟩
  | 1, hj => obtain rfl : ([0, 0] : List Int) = r := by simpa using hj
             exact ⟨_,_,rfl,h1⟩
  |j+2,hj=>simp at hj
 have h3:Sl (fun k=>k<w.heap.size) (gB w) (some ⟨w.heap.size+1+1+1,0,none⟩) 1 ([0]:List Int):=Sl.lit (T:=3) (vs:= #[.int .i64 0]) (by (repeat (first|(refine heap_at ?_;(simp;done))|refine heap_old ?_))) rfl (by omega) (fun y hy=>i64_sm (by simp at hy;omega)) rfl (by unfold maxLen;omega)
 have h4:Sl (fun k=>k<w.heap.size) (gB w) (some ⟨w.heap.size+1+1+1+1,0,none⟩) 2 ([0,0]:List Int):=Sl.lit (T:=3) (vs:= #[.int .i64 0,.int .i64 0]) (by (repeat (first|(refine heap_at ?_;(simp;done))|refine heap_old ?_))) rfl (by omega) (fun y hy=>i64_sm (by simp at hy;omega)) rfl (by unfold maxLen;omega)
 have h5:Sl (fun k=>k<w.heap.size) (gB w) (some ⟨w.heap.size+1+1+1+1+1,0,none⟩) 2 ([[0],[0,0]]:List (List Int)):=by
  refine Sl.litg (T:=45) (vs:= #[.slice (some ⟨w.heap.size+1+1+1,0,none⟩) 1 1,.slice (some ⟨w.heap.size+1+1+1+1,0,none⟩) 2 2]) (by (repeat (first|(refine heap_at ?_;(simp;done))|refine heap_old ?_))) (by omega) rfl (by unfold maxLen;omega) fun j r hj=> ?_
  match j,hj with
  | 0, hj => obtain rfl : ([0] : List Int) = r := by simpa using hj
             exact ⟨_,_,rfl,h3⟩
  | 1, hj => obtain rfl : ([0, 0] : List Int) = r := by simpa using hj
             exact ⟨_,_,rfl,h4⟩
  |j+2,hj=>simp at hj
 have h6:Sl (fun k=>k<w.heap.size) (gB w) (some ⟨w.heap.size+1+1+1+1+1+1,0,none⟩) 1 ([0]:List Int):=Sl.lit (T:=3) (vs:= #[.int .i64 0]) (by (repeat (first|(refine heap_at ?_;(simp;done))|refine heap_old ?_))) rfl (by omega) (fun y hy=>i64_sm (by simp at hy;omega)) rfl (by unfold maxLen;omega)
 have h7:Sl (fun k=>k<w.heap.size) (gB w) (some ⟨w.heap.size+1+1+1+1+1+1+1,0,none⟩) 1 ([[0]]:List (List Int)):=by
  refine Sl.litg (T:=45) (vs:= #[.slice (some ⟨w.heap.size+1+1+1+1+1+1,0,none⟩) 1 1]) (by (repeat (first|(refine heap_at ?_;(simp;done))|refine heap_old ?_))) (by omega) rfl (by unfold maxLen;omega) fun j r hj=> ?_
  match j,hj with
  | 0, hj => obtain rfl : ([0] : List Int) = r := by simpa using hj
             exact ⟨_,_,rfl,h6⟩
  |j+1,hj=>simp at hj
 have h8:Sl (fun k=>k<w.heap.size) (gB w) (some ⟨w.heap.size+1+1+1+1+1+1+1+1,0,none⟩) 3 ([[[0],[0,0]],[[0],[0,0]],[[0]]]:List (List (List Int))):=by
  refine Sl.litg (T:=22) (vs:= #[.slice (some ⟨w.heap.size+1+1,0,none⟩) 2 2,.slice (some ⟨w.heap.size+1+1+1+1+1,0,none⟩) 2 2,.slice (some ⟨w.heap.size+1+1+1+1+1+1+1,0,none⟩) 1 1]) (by (repeat (first|(refine heap_at ?_;(simp;done))|refine heap_old ?_))) (by omega) rfl (by unfold maxLen;omega) fun j r hj=> ?_
  match j,hj with
  | 0, hj => obtain rfl : ([[0], [0, 0]] : List (List Int)) = r := by simpa using hj
             exact ⟨_,_,rfl,h2⟩
  | 1, hj => obtain rfl : ([[0], [0, 0]] : List (List Int)) = r := by simpa using hj
             exact ⟨_,_,rfl,h5⟩
  | 2, hj => obtain rfl : ([[0]] : List (List Int)) = r := by simpa using hj
             exact ⟨_,_,rfl,h7⟩
  |j+3,hj=>simp at hj
 refine ⟨h8,?_⟩
 repeat' (first|exact Below.refl _ _|refine Below.alloc ?_ (by simp;omega) _|refine Below.alloc ?_ (by simp) _)
abbrev gC:World:=((w.alloc (.cells #[.int .i64 0,.int .i64 0,.int .i64 0,.int .i64 0,.int .i64 0] 3)).alloc (.cells #[.slice (some ⟨w.heap.size,0,none⟩) 5 5] 45))
theorem gC_sl:(Sl (fun k=>k<w.heap.size) (gC w) (some ⟨w.heap.size+1,0,none⟩) 1 ([[0,0,0,0,0]]:List (List Int)))∧Below w.heap.size w (gC w):=by
 have h0:Sl (fun k=>k<w.heap.size) (gC w) (some ⟨w.heap.size,0,none⟩) 5 ([0,0,0,0,0]:List Int):=Sl.lit (T:=3) (vs:= #[.int .i64 0,.int .i64 0,.int .i64 0,.int .i64 0,.int .i64 0]) (by (repeat (first|(refine heap_at ?_;(simp;done))|refine heap_old ?_))) rfl (by omega) (fun y hy=>i64_sm (by simp at hy;omega)) rfl (by unfold maxLen;omega)
 have h1:Sl (fun k=>k<w.heap.size) (gC w) (some ⟨w.heap.size+1,0,none⟩) 1 ([[0,0,0,0,0]]:List (List Int)):=by
  refine Sl.litg (T:=45) (vs:= #[.slice (some ⟨w.heap.size,0,none⟩) 5 5]) (by (repeat (first|(refine heap_at ?_;(simp;done))|refine heap_old ?_))) (by omega) rfl (by unfold maxLen;omega) fun j r hj=> ?_
  match j,hj with
  | 0, hj => obtain rfl : ([0, 0, 0, 0, 0] : List Int) = r := by simpa using hj
             exact ⟨_,_,rfl,h0⟩
  |j+1,hj=>simp at hj
 refine ⟨h1,?_⟩
 repeat' (first|exact Below.refl _ _|refine Below.alloc ?_ (by simp;omega) _|refine Below.alloc ?_ (by simp) _)
abbrev gD:World:=((((((w.alloc (.cells #[.int .i64 0,.int .i64 1] 3)).alloc (.cells #[.int .i64 0] 3)).alloc (.cells #[.slice (some ⟨w.heap.size,0,none⟩) 2 2,.slice (some ⟨w.heap.size+1,0,none⟩) 1 1] 45)).alloc (.cells #[.int .i64 0] 3)).alloc (.cells #[.int .i64 1,.int .i64 1,.int .i64 0] 3)).alloc (.cells #[.slice (some ⟨w.heap.size+1+1+1,0,none⟩) 1 1,.slice (some ⟨w.heap.size+1+1+1+1,0,none⟩) 3 3] 45))
theorem gD_sl:(Sl (fun k=>k<w.heap.size) (gD w) (some ⟨w.heap.size+1+1,0,none⟩) 2 ([[0,1],[0]]:List (List Int))∧Sl (fun k=>k<w.heap.size) (gD w) (some ⟨w.heap.size+1+1+1+1+1,0,none⟩) 2 ([[0],[1,1,0]]:List (List Int)))∧Below w.heap.size w (gD w):=by
 have h0:Sl (fun k=>k<w.heap.size) (gD w) (some ⟨w.heap.size,0,none⟩) 2 ([0,1]:List Int):=Sl.lit (T:=3) (vs:= #[.int .i64 0,.int .i64 1]) (by (repeat (first|(refine heap_at ?_;(simp;done))|refine heap_old ?_))) rfl (by omega) (fun y hy=>i64_sm (by simp at hy;omega)) rfl (by unfold maxLen;omega)
 have h1:Sl (fun k=>k<w.heap.size) (gD w) (some ⟨w.heap.size+1,0,none⟩) 1 ([0]:List Int):=Sl.lit (T:=3) (vs:= #[.int .i64 0]) (by (repeat (first|(refine heap_at ?_;(simp;done))|refine heap_old ?_))) rfl (by omega) (fun y hy=>i64_sm (by simp at hy;omega)) rfl (by unfold maxLen;omega)
 have h2:Sl (fun k=>k<w.heap.size) (gD w) (some ⟨w.heap.size+1+1,0,none⟩) 2 ([[0,1],[0]]:List (List Int)):=by
  refine Sl.litg (T:=45) (vs:= #[.slice (some ⟨w.heap.size,0,none⟩) 2 2,.slice (some ⟨w.heap.size+1,0,none⟩) 1 1]) (by (repeat (first|(refine heap_at ?_;(simp;done))|refine heap_old ?_))) (by omega) rfl (by unfold maxLen;omega) fun j r hj=> ?_
  match j,hj with
  | 0, hj => obtain rfl : ([0, 1] : List Int) = r := by simpa using hj
             exact ⟨_,_,rfl,h0⟩
  | 1, hj => obtain rfl : ([0] : List Int) = r := by simpa using hj
             exact ⟨_,_,rfl,h1⟩
  |j+2,hj=>simp at hj
 have h3:Sl (fun k=>k<w.heap.size) (gD w) (some ⟨w.heap.size+1+1+1,0,none⟩) 1 ([0]:List Int):=Sl.lit (T:=3) (vs:= #[.int .i64 0]) (by (repeat (first|(refine heap_at ?_;(simp;done))|refine heap_old ?_))) rfl (by omega) (fun y hy=>i64_sm (by simp at hy;omega)) rfl (by unfold maxLen;omega)
 have h4:Sl (fun k=>k<w.heap.size) (gD w) (some ⟨w.heap.size+1+1+1+1,0,none⟩) 3 ([1,1,0]:List Int):=Sl.lit (T:=3) (vs:= #[.int .i64 1,.int .i64 1,.int .i64 0]) (by (repeat (first|(refine heap_at ?_;(simp;done))|refine heap_old ?_))) rfl (by omega) (fun y hy=>i64_sm (by simp at hy;omega)) rfl (by unfold maxLen;omega)
 have h5:Sl (fun k=>k<w.heap.size) (gD w) (some ⟨w.heap.size+1+1+1+1+1,0,none⟩) 2 ([[0],[1,1,0]]:List (List Int)):=by
  refine Sl.litg (T:=45) (vs:= #[.slice (some ⟨w.heap.size+1+1+1,0,none⟩) 1 1,.slice (some ⟨w.heap.size+1+1+1+1,0,none⟩) 3 3]) (by (repeat (first|(refine heap_at ?_;(simp;done))|refine heap_old ?_))) (by omega) rfl (by unfold maxLen;omega) fun j r hj=> ?_
  match j,hj with
  | 0, hj => obtain rfl : ([0] : List Int) = r := by simpa using hj
             exact ⟨_,_,rfl,h3⟩
  | 1, hj => obtain rfl : ([1, 1, 0] : List Int) = r := by simpa using hj
             exact ⟨_,_,rfl,h4⟩
  |j+2,hj=>simp at hj
 refine ⟨⟨h2,h5⟩,?_⟩
 repeat' (first|exact Below.refl _ _|refine Below.alloc ?_ (by simp;omega) _|refine Below.alloc ?_ (by simp) _)
end
end Go.Proofs.YtknhegdepbmmlaaGreat
