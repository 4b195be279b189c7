/- Several texts, one behind the other. Conditions: as each of them says. -/
import Derived.Test.YtjagagpcjpcjjaaGreatMt36
import Derived.Test.YtjagagpcjpcjjaaGreatMt35
import Derived.Test.YtjagagpcjpcjjaaGreatMt14
import Derived.Test.YtjagagpcjpcjjaaGreatMt3
import Derived.Deep.Cut
set_option maxRecDepth 100000
set_option maxHeartbeats 32000000
namespace Go.Proofs.YtjagagpcjpcjjaaGreat
open Go.RowKit
structure Fq where
 st:List Int
 word:List Int
 deriving DecidableEq
inductive FR where
 |go (L:List Fq)
 |word (w:List Int)
 |cut
def fUp (n:Nat):Nat:=if h:n=0 then 0 else fUp (n-1)+1
 termination_by n
 decreasing_by omega
def fMax:Nat:=fUp 4097
namespace Mach
variable (m:Mach)
def fOne (q:Fq) (a:Nat) (L:List Fq):FR:=
 if (m.aft a q.st).2.1=false then .go L else
 if (m.aft a q.st).2.2=false then .word (q.word++[(a:Int)]) else
 if (m.aft a q.st).1∈L.map Fq.st then .go L else
 if 4096≤L.length then .cut else .go (L++[⟨(m.aft a q.st).1,q.word++[(a:Int)]⟩])
def fRow (q:Fq) (L:List Fq):Nat→FR
 |0=> .go L
 |a+1=>match fRow q L a with
  | .go K=>m.fOne q a K
  |r=>r
def fTo (l:List Int):Nat→FR
 |0=> .go [⟨l,[]⟩]
 |i+1=>match fTo l i with
  | .go L=>if i<L.length then m.fRow (L.getD i ⟨[],[]⟩) L m.inputs.toNat else .go L
  |r=>r
def fRes:FR→List Int×Bool
 | .word w=>(w,true)
 |_=>([],false)
def findW (l:List Int):List Int×Bool:=fRes (m.fTo l fMax)
variable {m}
structure FOk (m:Mach) (l:List Int) (i:Nat) (L:List Fq):Prop where
 st:∀q∈L,∀s∈q.st,0≤s∧s<m.next.length
 len:∀q∈L,q.st.length=l.length
 word:∀q∈L,q.word.length≤i∧m.okS q.word
 size:L.length≤4096
end Mach
instance:GR Fq where
 sz:=2
 rep M w cs q:=∃a c b d,cs=[.slice a q.st.length c,.slice b q.word.length d]∧Sl M w a c q.st∧Sl M w b d q.word
 len h:=by obtain ⟨a,c,b,d,h,_⟩:=h;rw [h];rfl
 ext e h:=by obtain ⟨a,c,b,d,h,h1,h2⟩:=h;exact ⟨a,c,b,d,h,h1.ext e,h2.ext e⟩
abbrev Oy {α:Type} [GR α] (N:Nat→Prop) (B:Nat) (w:World) (T:TypeId) (v:Value) (l:List α):Prop:=Ow B (fun k=>v.ownBlock=some k∨N k) w T v l
section
variable {α:Type} [GR α] {P:Program} {w:World} {o:Oper} {a:Act} {ops:Array Oper} {rest:List Oper} {Q:Exit→Act→World→Prop}
end
section
variable {N:Nat→Prop} {B:Nat} {w w':World} {T:TypeId} {a:Option Addr} {c:Nat} {l:List Fq}
end
def KOk (x:List Int):Prop:=(∀y∈x,0≤y∧y<256)∧x.length<100000
theorem keyB_inj {x y:List Int} (hx:KOk x) (hy:KOk y) (h:keyB x=keyB y):x=y:=by
 have h1:=congrArg (fun b:ByteArray=>b.data.toList) h
 simp only [keyB,strOfNums_data] at h1
 have hl:x.length=y.length:=by simpa using congrArg List.length h1
 refine List.ext_getElem hl fun i hi hj=> ?_
 have h2:UInt8.ofNat x[i].toNat=UInt8.ofNat y[i].toNat:=by
  have:=congrArg (fun l:List UInt8=>l[i]?) h1
  simpa [hi,hj] using this
 have h3:=congrArg UInt8.toNat h2
 have e1:=hx.1 x[i] (List.getElem_mem hi)
 have e2:=hy.1 y[i] (List.getElem_mem hj)
 simp at h3
 omega
theorem keyB_size (x:List Int):(keyB x).size=x.length:=strOfNums_size x
theorem keyB_key {x:List Int} (hx:KOk x):keyOf Tryz.prog 9 (.string (keyB x))=some (.string (keyB x).data.toList):=
 WideMaps.keyOf_string_mk Tryz.underlying9 (by rw [keyB_size];unfold maxLen;have:=hx.2;omega)
def KS (w:World) (b n:Nat) (L:List (List Int)):Prop:=
 ∃D:DataW Unit,w.ownsMap Tryz.prog 9 (plainElem Tryz.prog 4) b n D∧∀x,KOk x→D.atKey (.string (keyB x).data.toList) (.lit (.bool false))= .lit (.bool (decide (x∈L)))
section
variable {w w':World} {b n:Nat} {L:List (List Int)}
theorem KS.made (w:World):KS (w.alloc (.map #[] 0)) w.heap.size 0 []:=
 ⟨.map [],World.ownsMap_made _ _ _ _,fun x _=>by simp;rfl⟩
theorem KS.kept (h:KS w b n L) (hb:w'.heap[b]? =w.heap[b]?):KS w' b n L:=by
 obtain ⟨D,⟨es,clock,h1,h2⟩,h3⟩:=h
 exact ⟨D,⟨es,clock,hb.trans h1,h2⟩,h3⟩
theorem KS.lt (h:KS w b n L):b<w.heap.size:=by
 obtain ⟨D,h1,_⟩:=h
 exact h1.lt
variable {ops:Array Oper} {rest:List Oper} {o:Oper} {a:Act} {Q:Exit→Act→World→Prop}
theorem plainElem_bool_inv {P:Program} {e:TypeId} (he:P.underlying e=some .bool) {v:Value} {z:DataW Unit×List MemPlace} (h:plainElem P e v=some z):∃x,v= .bool x∧z=(.lit (.bool x),[]):=by
 unfold plainElem at h
 rw [he] at h
 cases v<;>simp at h
 exact ⟨_,rfl,h.symm⟩
theorem zero_bool:(zeroValue 4).run Tryz.prog w= .ok (.bool false) w:=by kernel_rfl
end
theorem KS.put {w:World} {b n:Nat} {L:List (List Int)} (hown:KS w b n L) (hn:n<1000000000000) (x:List Int) (hok:KOk x):
    ∃w',(Instr.mapUpdate 262 (.map (some b)) (.string (keyB x)) (.bool true)).run Tryz.prog w= .ok () w'∧KS w' b (n+1) (L++[x])∧w.grownBy w' (some b):=by
 obtain ⟨D,h1,h3⟩:=hown
 have K:=Maps.string_keyed (P:=Tryz.prog) Tryz.underlying9
 have htidy:=h1.tidy K
 obtain ⟨w',hrun,r1,r2⟩:=h1.update K Tryz.underlying262 (by unfold maxLen;omega) (keyB_key hok) (plainElem_bool Tryz.underlying4 true)
 refine ⟨w',hrun,⟨_,r1,fun y hy=> ?_⟩,r2⟩
 by_cases e:y=x
 ·subst e
  rw [Maps.atKey_put_same htidy.isMap (K.key (keyB_key hok))]
  simp
 have hne : (Lit.string (keyB y).data.toList) ≠ .string (keyB x).data.toList := by
  intro e2
  refine e (keyB_inj hy hok ?_)
  simp only [Lit.string.injEq] at e2
  exact ByteArray.ext (Array.ext' e2)
 rw [Maps.atKey_put_other hne,h3 y hy]
 simp [e]
theorem KS.look {w:World} {b n:Nat} {L:List (List Int)} (hown:KS w b n L) (x:List Int) (hok:KOk x):
    (Instr.lookup 262 (.map (some b)) (.string (keyB x)) false).run Tryz.prog w= .ok (.bool (decide (x∈L))) w:=by
 obtain ⟨D,h1,h3⟩:=hown
 obtain ⟨v,ps,hrun,hv⟩:=h1.lookup (Maps.string_keyed Tryz.underlying9) Tryz.underlying262 zero_bool (plainElem_bool Tryz.underlying4 false) (keyB_key hok)
 rw [h3 x hok] at hv
 have hvb:v= .bool (decide (x∈L)):=by
  obtain ⟨y,rfl,hy⟩:=plainElem_bool_inv Tryz.underlying4 hv
  simp at hy
  rw [hy.1]
 rw [hrun,hvb]
theorem Mach.FOk.up {m:Mach} {l:List Int} {i j:Nat} {L:List Fq} (h:m.FOk l i L) (hij:i≤j):m.FOk l j L:=⟨h.st,h.len,fun q hq=>⟨Nat.le_trans (h.word q hq).1 hij,(h.word q hq).2⟩,h.size⟩
theorem Mach.FOk.push {m:Mach} {l:List Int} {i:Nat} {L:List Fq} (h:m.FOk l i L) {q:Fq} (h1:∀s∈q.st,0≤s∧s<m.next.length) (h2:q.st.length=l.length) (h3:q.word.length≤i∧m.okS q.word) (h4:¬4096≤L.length):m.FOk l i (L++[q]):=by
 refine ⟨fun x hx=> ?_,fun x hx=> ?_,fun x hx=> ?_,by simp;omega⟩<;>rcases List.mem_append.1 hx with e|e
 ·exact h.st x e
 ·rw [List.mem_singleton.1 e];exact h1
 ·exact h.len x e
 ·rw [List.mem_singleton.1 e];exact h2
 ·exact h.word x e
 rw [List.mem_singleton.1 e];exact h3
section
variable {M M':Nat→Prop} {w:World} {an ao b:Option Addr} {cn co d:Nat} {m:Mach} {l:List Int}
end
def hdR (v:Value):Option (DataW Value×List MemPlace):=some (.held v,[])
def KG (w:World) (b n:Nat) (F:Nat→Value):Prop:=
 ∃D:DataW Value,w.ownsMap Tryz.prog 3 hdR b n D∧∀s:Nat,s<1000→D.atKey (.int .i64 s) (.held (.slice none 0 0))= .held (F s)
theorem key_nat {s:Nat} (h:s<1000):keyOf Tryz.prog 3 (.int .i64 (s:Int))=some (.int .i64 (s:Int)):=
 Maps.keyOf_int_mk Tryz.underlying3 (by
  show (decide ((-9223372036854775808:Int)≤(s:Int))&&decide ((s:Int)≤9223372036854775807))=true
  rw [decide_eq_true (by omega),decide_eq_true (by omega)];rfl)
section
variable {w w':World} {b n:Nat} {F:Nat→Value}
theorem KG.made (w:World):KG (w.alloc (.map #[] 0)) w.heap.size 0 (fun _=> .slice none 0 0):=⟨.map [],World.ownsMap_made _ _ _ _,fun _ _=>rfl⟩
theorem KG.kept (h:KG w b n F) (hb:w'.heap[b]? =w.heap[b]?):KG w' b n F:=by
 obtain ⟨D,⟨es,clock,h1,h2⟩,h3⟩:=h
 exact ⟨D,⟨es,clock,hb.trans h1,h2⟩,h3⟩
theorem KG.lt (h:KG w b n F):b<w.heap.size:=by
 obtain ⟨D,h1,_⟩:=h
 exact h1.lt
theorem zero_rows:(zeroValue 22).run Tryz.prog w= .ok (.slice none 0 0) w:=by kernel_rfl
theorem KG.look (h:KG w b n F) {s:Nat} (hs:s<1000):(Instr.lookup 175 (.map (some b)) (.int .i64 (s:Int)) false).run Tryz.prog w= .ok (F s) w:=by
 obtain ⟨D,h1,h3⟩:=h
 obtain ⟨v,ps,hrun,hv⟩:=h1.lookup (Maps.int_keyed Tryz.underlying3) Tryz.underlying175 zero_rows (show hdR (.slice none 0 0)=some (.held (.slice none 0 0),[]) from rfl) (key_nat hs)
 rw [h3 s hs] at hv
 have:v=F s:=by
  unfold hdR at hv
  simp only [Option.some.injEq,Prod.mk.injEq,DataW.held.injEq] at hv
  exact hv.1
 rw [hrun,this]
theorem KG.put (h:KG w b n F) (hn:n<1000000000000) {s:Nat} (hs:s<1000) (v:Value):
    ∃w',(Instr.mapUpdate 175 (.map (some b)) (.int .i64 (s:Int)) v).run Tryz.prog w= .ok () w'∧KG w' b (n+1) (fun j=>if j=s then v else F j)∧w.grownBy w' (some b):=by
 obtain ⟨D,h1,h3⟩:=h
 have K:=Maps.int_keyed (P:=Tryz.prog) Tryz.underlying3
 have htidy:=h1.tidy K
 obtain ⟨w',hrun,r1,r2⟩:=h1.update K Tryz.underlying175 (by unfold maxLen;omega) (key_nat hs) (show hdR v=some (.held v,[]) from rfl)
 refine ⟨w',hrun,⟨_,r1,fun j hj=> ?_⟩,r2⟩
 by_cases e:j=s
 ·subst e
  rw [Maps.atKey_put_same htidy.isMap (K.key (key_nat hs))]
  simp
 have hne : (Lit.int .i64 (j : Int)) ≠ .int .i64 (s : Int) := by
  intro e2
  simp only [Lit.int.injEq,true_and] at e2
  exact e (by omega)
 rw [Maps.atKey_put_other hne,h3 j hj]
 simp only [if_neg e]
end
end Go.Proofs.YtjagagpcjpcjjaaGreat
