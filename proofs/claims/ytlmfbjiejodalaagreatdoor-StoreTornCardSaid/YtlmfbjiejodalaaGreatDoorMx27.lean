/- Several texts, one behind the other. Conditions: as each of them says. -/
import Derived.Test.YtlmfbjiejodalaaGreatDoorMx25
import Derived.Deep.MidRow
set_option maxRecDepth 100000
set_option maxHeartbeats 32000000
namespace Go.Proofs.YtlmfbjiejodalaaGreatDoor
open Go.RowKit
theorem setAll_row {b:Nat} {T:TypeId}:∀(vs:List Value) (w:World) (k:Nat) (us:Array Value),w.heap[b]? =some (.cells us T (0,0))→us.size=k+vs.length→
    (w.setCells b k vs).heap[b]? =some (.cells (us.toList.take k++vs).toArray T (0,0))
 |[],w,k,us,h,hk=>by
  unfold World.setCells
  rw [h,List.append_nil,List.take_of_length_le (by simp at hk ⊢;omega),Array.toArray_toList]
 |v::vs,w,k,us,h,hk=>by
  unfold World.setCells
  simp only [List.length_cons] at hk
  have e:=setAll_row vs (w.setCell ⟨b,k,none⟩ v) (k+1) (us.setIfInBounds k v) (heap_setCell_same _ _ _ _ _ _ h) (by simp;omega)
  rw [e]
  have e2:List.take (k+1) (us.setIfInBounds k v).toList++vs=List.take k us.toList++v::vs:=by
   rw [Array.toList_setIfInBounds,List.take_add_one,List.take_set_of_le (Nat.le_refl _),List.getElem?_set_self (by simp;omega)]
   simp
  rw [e2]
theorem setAll_below {b B:Nat} (hb:B≤b) {w0:World}:∀(vs:List Value) (w:World) (k:Nat),Below B w0 w→Below B w0 (w.setCells b k vs)
 |[],_,_,h=>h
 |_::vs,_,k,h=>setAll_below hb vs _ (k+1) (h.setCell (p:=⟨b,k,none⟩) hb _)
theorem setAll_sl {α:Type} [GR α] {b:Nat} {M:Nat→Prop} (hb:M b) {l:List α} {a:Option Addr} {c:Nat}:∀(vs:List Value) (w:World) (k:Nat),Sl M w a c l→Sl M (w.setCells b k vs) a c l
 |[],_,_,h=>h
 |_::vs,_,k,h=>setAll_sl hb vs _ (k+1) (h.ext (Ext.setCell (M:=M) _ (p:=⟨b,k,none⟩) hb _))
theorem results_ct {fn:Func} {a t:Nat} {ty:TypeId} (h:fn.results= #[.cell a ty,.tmp t]) (tmps:Array Value) (P:Program) (w:World) {x:Addr} {v:Value} (ha:tmps.getD a undef= .pointer (some x)) (hv:(loadVar ty x).run P w= .ok v w):
    (results fn tmps).run P w= .ok (.tuple #[v,tmps.getD t undef]) w:=by
 rw [Array.getD_eq_getD_getElem?] at ha
 simp [results,h,ha,asAddr,hv]
end Go.Proofs.YtlmfbjiejodalaaGreatDoor
