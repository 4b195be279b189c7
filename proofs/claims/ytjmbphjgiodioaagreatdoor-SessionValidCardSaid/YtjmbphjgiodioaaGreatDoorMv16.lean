/- Several texts, one behind the other. Conditions: as each of them says. -/
import Derived.Test.YtjmbphjgiodioaaGreatDoorMv7
import Derived.Maps.OwnSet
import Derived.Maps.Views
import Derived.WideKeyArr2
set_option maxRecDepth 100000
set_option maxHeartbeats 32000000
namespace Go.Proofs.YtjmbphjgiodioaaGreatDoor
open Go.RowKit
structure KeyEnc (P:Program) (k:TypeId) (K:Type) where
 enc:K→Value
 ok:K→Prop
 law:Maps.Keyed P k
 ex:∀x,ok x→∃kl,keyOf P k (enc x)=some kl
 inj:∀x y,ok x→ok y→enc x=enc y→x=y
def KM {P:Program} {k:TypeId} {K:Type} (E:KeyEnc P k K) (e:TypeId) (w:World) (b n q:Nat) (f:K→Option Int):Prop:=
 ∃D:DataW Unit,w.ownsMap P k (plainElem P e) b n D∧Maps.size D=q∧∀x,E.ok x→∀kl,keyOf P k (E.enc x)=some kl→
  Maps.has D kl=(f x).isSome∧∀v,f x=some v→D.atKey kl (.lit (.int .i64 0))= .lit (.int .i64 v)
section
variable {P:Program} {k t e:TypeId} {K:Type} {E:KeyEnc P k K} {w w':World} {b n q:Nat} {f:K→Option Int}
theorem KM.made (w:World):KM E e (w.alloc (.map #[] 0)) w.heap.size 0 0 (fun _=>none):=
 ⟨.map [],World.ownsMap_made _ _ _ _,rfl,fun _ _ _ _=>⟨rfl,fun v h=>by simp at h⟩⟩
theorem KM.kept (h:KM E e w b n q f) (hb:w'.heap[b]? =w.heap[b]?):KM E e w' b n q f:=by
 obtain ⟨D,⟨es,clock,h1,h2⟩,h3⟩:=h
 exact ⟨D,⟨es,clock,hb.trans h1,h2⟩,h3⟩
theorem KM.lt (h:KM E e w b n q f):b<w.heap.size:=by
 obtain ⟨D,h1,_⟩:=h
 exact h1.lt
theorem KM.size_le (h:KM E e w b n q f):q≤n:=by
 obtain ⟨D,h1,h2,_⟩:=h
 rw [←h2]
 exact h1.size_le
variable {ops:Array Oper} {rest:List Oper} {o:Oper} {a:Act} {Q:Exit→Act→World→Prop}
end
theorem mapM_some {α β:Type} {f:α→Option β}:∀(L:List α),(∀i∈L,∃y,f i=some y)→∃ys,L.mapM f=some ys
 |[],_=>⟨[],rfl⟩
 |x::L,h=>by
  obtain ⟨y,hy⟩:=h x (by simp)
  obtain ⟨ys,hys⟩:=mapM_some L (fun i hi=>h i (by simp [hi]))
  exact ⟨y::ys,by simp [List.mapM_cons,hy,hys]⟩
end Go.Proofs.YtjmbphjgiodioaaGreatDoor
