/- Several texts, one behind the other. Conditions: as each of them says. -/
import Derived.Test.YtjmbphjgiodioaaGreatDoorMv42
import Derived.Test.YtjmbphjgiodioaaGreatDoorMv41
import Derived.Test.YtjmbphjgiodioaaGreatDoorMv16
set_option maxRecDepth 100000
set_option maxHeartbeats 32000000
namespace Go.Proofs.YtjmbphjgiodioaaGreatDoor
open Go.RowKit
structure Fq where
 st:List Int
 word:List Int
 deriving DecidableEq
namespace Mach
variable (m:Mach)
variable {m}
end Mach
instance:GR Fq where
 sz:=2
 rep M w cs q:=∃a c b d,cs=[.slice a q.st.length c,.slice b q.word.length d]∧Sl M w a c q.st∧Sl M w b d q.word
 len h:=by obtain ⟨a,c,b,d,h,_⟩:=h;rw [h];rfl
 ext e h:=by obtain ⟨a,c,b,d,h,h1,h2⟩:=h;exact ⟨a,c,b,d,h,h1.ext e,h2.ext e⟩
section
variable {α:Type} [GR α] {P:Program} {w:World} {o:Oper} {a:Act} {ops:Array Oper} {rest:List Oper} {Q:Exit→Act→World→Prop}
end
section
variable {N:Nat→Prop} {B:Nat} {w w':World} {T:TypeId} {a:Option Addr} {c:Nat} {l:List Fq}
end
def KOk (x:List Int):Prop:=(∀y∈x,0≤y∧y<256)∧x.length<100000
theorem keyB_inj {x y:List Int} (hx:KOk x) (hy:KOk y) (h:keyB x=keyB y):x=y:=by
 have h1:=congrArg (fun b:ByteArray=>b.data.toList) h
 simp only [keyB,strOfNums_data] at h1
 have hl:x.length=y.length:=by simpa using congrArg List.length h1
 refine List.ext_getElem hl fun i hi hj=> ?_
 have h2:UInt8.ofNat x[i].toNat=UInt8.ofNat y[i].toNat:=by
  have:=congrArg (fun l:List UInt8=>l[i]?) h1
  simpa [hi,hj] using this
 have h3:=congrArg UInt8.toNat h2
 have e1:=hx.1 x[i] (List.getElem_mem hi)
 have e2:=hy.1 y[i] (List.getElem_mem hj)
 simp at h3
 omega
theorem keyB_size (x:List Int):(keyB x).size=x.length:=strOfNums_size x
theorem keyB_key {x:List Int} (hx:KOk x):keyOf Tryz.prog 9 (.string (keyB x))=some (.string (keyB x).data.toList):=
 WideMaps.keyOf_string_mk Tryz.underlying9 (by rw [keyB_size];unfold maxLen;have:=hx.2;omega)
def KS (w:World) (b n:Nat) (L:List (List Int)):Prop:=
 ∃D:DataW Unit,w.ownsMap Tryz.prog 9 (plainElem Tryz.prog 4) b n D∧∀x,KOk x→D.atKey (.string (keyB x).data.toList) (.lit (.bool false))= .lit (.bool (decide (x∈L)))
section
variable {w w':World} {b n:Nat} {L:List (List Int)}
theorem KS.made (w:World):KS (w.alloc (.map #[] 0)) w.heap.size 0 []:=
 ⟨.map [],World.ownsMap_made _ _ _ _,fun x _=>by simp;rfl⟩
theorem KS.kept (h:KS w b n L) (hb:w'.heap[b]? =w.heap[b]?):KS w' b n L:=by
 obtain ⟨D,⟨es,clock,h1,h2⟩,h3⟩:=h
 exact ⟨D,⟨es,clock,hb.trans h1,h2⟩,h3⟩
theorem KS.lt (h:KS w b n L):b<w.heap.size:=by
 obtain ⟨D,h1,_⟩:=h
 exact h1.lt
variable {ops:Array Oper} {rest:List Oper} {o:Oper} {a:Act} {Q:Exit→Act→World→Prop}
theorem plainElem_bool_inv {P:Program} {e:TypeId} (he:P.underlying e=some .bool) {v:Value} {z:DataW Unit×List MemPlace} (h:plainElem P e v=some z):∃x,v= .bool x∧z=(.lit (.bool x),[]):=by
 unfold plainElem at h
 rw [he] at h
 cases v<;>simp at h
 exact ⟨_,rfl,h.symm⟩
theorem zero_bool:(zeroValue 4).run Tryz.prog w= .ok (.bool false) w:=by kernel_rfl
end
end Go.Proofs.YtjmbphjgiodioaaGreatDoor
