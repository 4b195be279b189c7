/- Several texts, one behind the other. Conditions: as each of them says. -/
import Derived.Test.YtjagagpcjpcjjaaGreatMc39
import Derived.Test.YtjagagpcjpcjjaaGreatMc38
import Derived.Test.YtjagagpcjpcjjaaGreatMc16
import Derived.Test.YtjagagpcjpcjjaaGreatMc3
import Derived.Deep.Cut
set_option maxRecDepth 100000
set_option maxHeartbeats 32000000
namespace Go.Proofs.YtjagagpcjpcjjaaGreat
open Go.RowKit
structure Fq where
 st:List Int
 word:List Int
 deriving DecidableEq
inductive FR where
 |go (L:List Fq)
 |word (w:List Int)
 |cut
def fUp (n:Nat):Nat:=if h:n=0 then 0 else fUp (n-1)+1
 termination_by n
 decreasing_by omega
theorem fUp_eq (n:Nat):fUp n=n:=by
 induction n with
 |zero=>unfold fUp;simp
 |succ n ih=>unfold fUp;simp [ih]
def fMax:Nat:=fUp 4097
theorem fMax_eq:fMax=4097:=by unfold fMax;exact fUp_eq 4097
namespace Mach
variable (m:Mach)
def fOne (q:Fq) (a:Nat) (L:List Fq):FR:=
 if (m.aft a q.st).2.1=false then .go L else
 if (m.aft a q.st).2.2=false then .word (q.word++[(a:Int)]) else
 if (m.aft a q.st).1∈L.map Fq.st then .go L else
 if 4096≤L.length then .cut else .go (L++[⟨(m.aft a q.st).1,q.word++[(a:Int)]⟩])
def fRow (q:Fq) (L:List Fq):Nat→FR
 |0=> .go L
 |a+1=>match fRow q L a with
  | .go K=>m.fOne q a K
  |r=>r
def fTo (l:List Int):Nat→FR
 |0=> .go [⟨l,[]⟩]
 |i+1=>match fTo l i with
  | .go L=>if i<L.length then m.fRow (L.getD i ⟨[],[]⟩) L m.inputs.toNat else .go L
  |r=>r
def fRes:FR→List Int×Bool
 | .word w=>(w,true)
 |_=>([],false)
def findW (l:List Int):List Int×Bool:=fRes (m.fTo l fMax)
variable {m}
theorem fRow_stop {q:Fq} {L:List Fq} {a b:Nat} (h:a≤b) (hs:∀K,m.fRow q L a≠.go K):m.fRow q L b=m.fRow q L a:=by
 induction b with
 | zero => obtain rfl : a = 0 := by omega
           rfl
 |succ b ih=>
  by_cases e:a=b+1
  ·rw [e]
  have h1:=ih (by omega)
  simp only [fRow]
  rw [h1]
  split
  ·rename_i K hK;exact absurd hK (hs K)
  rfl
theorem fTo_stop {l:List Int} {i j:Nat} (h:i≤j) (hs:∀K,m.fTo l i≠.go K):m.fTo l j=m.fTo l i:=by
 induction j with
 | zero => obtain rfl : i = 0 := by omega
           rfl
 |succ j ih=>
  by_cases e:i=j+1
  ·rw [e]
  have h1:=ih (by omega)
  simp only [fTo]
  rw [h1]
  split
  ·rename_i K hK;exact absurd hK (hs K)
  rfl
theorem fTo_done {l:List Int} {i j:Nat} {L:List Fq} (h:i≤j) (hi:m.fTo l i= .go L) (hL:L.length≤i):m.fTo l j= .go L:=by
 induction j with
 | zero => obtain rfl : i = 0 := by omega
           exact hi
 |succ j ih=>
  by_cases e:i=j+1
  ·rw [←e];exact hi
  have h1:=ih (by omega)
  simp only [fTo]
  rw [h1]
  simp only []
  rw [if_neg (by omega)]
theorem find_end {l:List Int} {i a:Nat} {L:List Fq} {q:Fq} {r:FR} (hi:m.fTo l i= .go L) (h4:i<fMax) (hlt:i<L.length) (hq:L[i]? =some q) (ha:a≤m.inputs.toNat) (hr:m.fRow q L a=r) (hs:∀K,r≠.go K):m.fTo l fMax=r:=by
 have h1:m.fTo l (i+1)=r:=by
  simp only [fTo]
  rw [hi]
  simp only []
  rw [if_pos hlt,List.getD_eq_getElem?_getD,hq]
  simp only [Option.getD_some]
  rw [fRow_stop ha (by rw [hr];exact hs),hr]
 rw [fTo_stop (i:=i+1) (j:=fMax) (by omega) (by rw [h1];exact hs),h1]
theorem find_next {l:List Int} {i:Nat} {L K:List Fq} {q:Fq} (hi:m.fTo l i= .go L) (hlt:i<L.length) (hq:L[i]? =some q) (hr:m.fRow q L m.inputs.toNat= .go K):m.fTo l (i+1)= .go K:=by
 simp only [fTo]
 rw [hi]
 simp only []
 rw [if_pos hlt,List.getD_eq_getElem?_getD,hq]
 simp only [Option.getD_some]
 exact hr
theorem findW_of {l:List Int} {r:FR} (h:m.fTo l fMax=r):m.findW l=fRes r:=by unfold findW;rw [h]
theorem fRow_next {q:Fq} {L K:List Fq} {a:Nat} {r:FR} (h:m.fRow q L a= .go K) (h1:m.fOne q a K=r):m.fRow q L (a+1)=r:=by
 simp only [fRow];rw [h];exact h1
structure FOk (m:Mach) (l:List Int) (i:Nat) (L:List Fq):Prop where
 st:∀q∈L,∀s∈q.st,0≤s∧s<m.next.length
 len:∀q∈L,q.st.length=l.length
 word:∀q∈L,q.word.length≤i∧m.okS q.word
 size:L.length≤4096
end Mach
instance:GR Fq where
 sz:=2
 rep M w cs q:=∃a c b d,cs=[.slice a q.st.length c,.slice b q.word.length d]∧Sl M w a c q.st∧Sl M w b d q.word
 len h:=by obtain ⟨a,c,b,d,h,_⟩:=h;rw [h];rfl
 ext e h:=by obtain ⟨a,c,b,d,h,h1,h2⟩:=h;exact ⟨a,c,b,d,h,h1.ext e,h2.ext e⟩
abbrev Oy {α:Type} [GR α] (N:Nat→Prop) (B:Nat) (w:World) (T:TypeId) (v:Value) (l:List α):Prop:=Ow B (fun k=>v.ownBlock=some k∨N k) w T v l
section
variable {α:Type} [GR α] {P:Program} {w:World} {o:Oper} {a:Act} {ops:Array Oper} {rest:List Oper} {Q:Exit→Act→World→Prop}
theorem wpList_push_y (hg:o.guard=none) (s x:Operand) (t:TypeId) (hop:o.op= .call {callee:= .builtin .append,args:= #[s,x],argTypes:= #[t,t]})
    (e:TypeId) (z:Value) (size bytes:Nat) (ht:P.underlying t=some (.slice e)) (hi:(P.info? e).map (fun i=>(i.zero,i.size,i.bytes))=some (some z,size,bytes)) (hzs:z.cells.size=size) (hsz:0<size)
    (N:Nat→Prop) (B:Nat) (v:Value) (l:List α) (hs:a.eval s=v) (hsA:GR.sz α=size) (hown:Oy N B w e v l)
    (ad:Addr) (c:Nat) (news:List Value) (y:α) (hx:a.eval x= .slice (some ad) 1 c) (hy:GR.rep (fun k=>v.ownBlock=some k∨N k) w news y) (hnews:∀j u,news[j]? =some u→w.cell? (ad.add j)=some u) (h1:∀u∈news,u.oneCell'=true)
    (hlen:(l.length+1)*bytes≤140737488355328) (hlen2:l.length+1≤maxLen) (hB:B≤w.heap.size)
    (h:∀(a':Option Addr) (c':Nat) (l':List α) (w':World),Hid (l'=l++[y])→Oy N B w' e (.slice a' l'.length c') l'→Hid (∀k,(Value.slice a' l'.length c').ownBlock=some k→(v.ownBlock=some k∨k=w.heap.size)∧k<w'.heap.size)→
     w.grownBy w' v.ownBlock→wpList P ops Q rest (a.put o.dst (.slice a' l'.length c')) w'):wpList P ops Q (o::rest) a w:=by
 refine wpList_push2 hg s x t hop e z size bytes ht hi hzs hsz B _ v l hs hsA hown (fun k hk=> .inl hk) ad c news y hx hy hnews h1 hlen hlen2 hB ?_
 intro a' c' l' w' h1 h2 h3 h4
 refine h a' c' l' w' h1 (h2.subM fun k _ hm=> ?_) h3 h4
 rcases hm with hm|hm
 ·rcases (h3.out k hm).1 with e|e
  ·exact .inl (.inl e)
  exact .inr e
 exact .inl (.inr hm)
theorem wpList_push_fq {l:List Fq} {s x:Operand} {t e:TypeId} {N:Nat→Prop} {B:Nat} {z:Value} {v:Value} {g c:Nat} {q:Fq} {ar br:Option Addr} {cr dr:Nat} (hg:o.guard=none) (hop:o.op= .call {callee:= .builtin .append,args:= #[s,x],argTypes:= #[t,t]})
    (ht:P.underlying t=some (.slice e)) (hi:(P.info? e).map (fun i=>(i.zero,i.size,i.bytes))=some (some z,2,48)) (hzs:z.cells.size=2)
    (hs:a.eval s=v) (hx:a.eval x= .slice (some ⟨g,0,none⟩) 1 c) (hown:Oy N B w e v l)
    (hn0:w.cell? ⟨g,0,none⟩=some (.slice ar q.st.length cr)) (hn1:w.cell? ⟨g,1,none⟩=some (.slice br q.word.length dr)) (hy:Sl (fun k=>v.ownBlock=some k∨N k) w ar cr q.st) (hy2:Sl (fun k=>v.ownBlock=some k∨N k) w br dr q.word)
    (hlen:l.length<1000000000000) (hB:B≤w.heap.size)
    (h:∀(a':Option Addr) (c':Nat) (l':List Fq) (w':World),Hid (l'=l++[q])→Oy N B w' e (.slice a' l'.length c') l'→Hid (∀k,(Value.slice a' l'.length c').ownBlock=some k→(v.ownBlock=some k∨k=w.heap.size)∧k<w'.heap.size)→w.grownBy w' v.ownBlock→
     wpList P ops Q rest (a.put o.dst (.slice a' l'.length c')) w'):wpList P ops Q (o::rest) a w:=by
 refine wpList_push_y hg s x t hop e z 2 48 ht hi hzs (by decide) N B v l hs rfl hown ⟨g,0,none⟩ c [.slice ar q.st.length cr,.slice br q.word.length dr] q hx ⟨ar,cr,br,dr,rfl,hy,hy2⟩ ?_ ?_ (by omega) (by unfold maxLen;omega) hB h
 ·intro j u hj
  match j,hj with
  |0,hj=>simp at hj;subst hj;simpa [Addr.add] using hn0
  |1,hj=>simp at hj;subst hj;simpa [Addr.add] using hn1
  |j+2,hj=>simp at hj
 intro u hu;simp at hu;rcases hu with rfl|rfl<;>rfl
end
section
variable {N:Nat→Prop} {B:Nat} {w w':World} {T:TypeId} {a:Option Addr} {c:Nat} {l:List Fq}
theorem Oy.at_fq (h:Oy N B w T (.slice a l.length c) l) {j:Nat} {q:Fq} (hq:l[j]? =some q):
    ∃g ar cr br dr,a=some ⟨g,0,none⟩∧w.cell? ⟨g,j*2,none⟩=some (.slice ar q.st.length cr)∧w.cell? ⟨g,j*2+1,none⟩=some (.slice br q.word.length dr)∧
     Sl (fun k=>(Value.slice a l.length c).ownBlock=some k∨N k) w ar cr q.st∧Sl (fun k=>(Value.slice a l.length c).ownBlock=some k∨N k) w br dr q.word∧B≤g∧g<w.heap.size:=by
 have hj:j<l.length:=by
  by_cases e:j<l.length
  ·exact e
  rw [List.getElem?_eq_none (by omega)] at hq;simp at hq
 obtain ⟨g,rfl,hb,hg⟩:=ow_some h (by omega)
 obtain ⟨xs,h1,h2⟩:=h
 obtain ⟨ar,cr,br,dr,h3,h4,h5⟩:=h2 j q hq
 have hx:∀i u,i<2→[Value.slice ar q.st.length cr,.slice br q.word.length dr][i]? =some u→w.cell? ⟨g,j*2+i,none⟩=some u:=by
  intro i u hi hu
  have hlt:j*2+i<l.length*2:=by omega
  have e:=h1.cellAt (j*2+i) hlt
  rw [e]
  rw [←h3,List.getElem?_take,if_pos (by exact hi),List.getElem?_drop] at hu
  exact hu
 exact ⟨g,ar,cr,br,dr,rfl,hx 0 _ (by omega) rfl,hx 1 _ (by omega) rfl,h4,h5,hb,hg⟩
theorem Oy.one_fq {st:List Int} {ar:Option Addr} {cr:Nat} (hs:Sl (fun k=>k=w.heap.size∨N k) w ar cr st) (hB:B≤w.heap.size):Oy N B (w.alloc (.cells #[.slice ar st.length cr,.slice none 0 0] T)) T (.slice (some ⟨w.heap.size,0,none⟩) 1 1) [(⟨st,[]⟩:Fq)]:=by
 refine ⟨[.slice ar st.length cr,.slice none 0 0],?_,fun j y hj=> ?_⟩
 ·exact World.ownsRow_lit w #[.slice ar st.length cr,.slice none 0 0] 1 hB (by unfold maxLen;omega) (by simp [GR.sz])
 match j,hj with
 | 0, hj => simp at hj; subst hj; exact ⟨ar, cr, none, 0, rfl, (hs.anti fun k _ hk => by
              rcases hk with e|e
              ·exact .inl (by simpa [Value.ownBlock] using e.symm)
              exact .inr e).alloc _,Sl.nil _ _ _ (by unfold maxLen;omega)⟩
end
def KOk (x:List Int):Prop:=(∀y∈x,0≤y∧y<256)∧x.length<100000
theorem keyB_inj {x y:List Int} (hx:KOk x) (hy:KOk y) (h:keyB x=keyB y):x=y:=by
 have h1:=congrArg (fun b:ByteArray=>b.data.toList) h
 simp only [keyB,strOfNums_data] at h1
 have hl:x.length=y.length:=by simpa using congrArg List.length h1
 refine List.ext_getElem hl fun i hi hj=> ?_
 have h2:UInt8.ofNat x[i].toNat=UInt8.ofNat y[i].toNat:=by
  have:=congrArg (fun l:List UInt8=>l[i]?) h1
  simpa [hi,hj] using this
 have h3:=congrArg UInt8.toNat h2
 have e1:=hx.1 x[i] (List.getElem_mem hi)
 have e2:=hy.1 y[i] (List.getElem_mem hj)
 simp at h3
 omega
theorem keyB_size (x:List Int):(keyB x).size=x.length:=strOfNums_size x
theorem keyB_key {x:List Int} (hx:KOk x):keyOf Tryz.prog 9 (.string (keyB x))=some (.string (keyB x).data.toList):=
 WideMaps.keyOf_string_mk Tryz.underlying9 (by rw [keyB_size];unfold maxLen;have:=hx.2;omega)
def KS (w:World) (b n:Nat) (L:List (List Int)):Prop:=
 ∃D:DataW Unit,w.ownsMap Tryz.prog 9 (plainElem Tryz.prog 4) b n D∧∀x,KOk x→D.atKey (.string (keyB x).data.toList) (.lit (.bool false))= .lit (.bool (decide (x∈L)))
section
variable {w w':World} {b n:Nat} {L:List (List Int)}
theorem KS.made (w:World):KS (w.alloc (.map #[] 0)) w.heap.size 0 []:=
 ⟨.map [],World.ownsMap_made _ _ _ _,fun x _=>by simp;rfl⟩
theorem KS.kept (h:KS w b n L) (hb:w'.heap[b]? =w.heap[b]?):KS w' b n L:=by
 obtain ⟨D,⟨es,clock,h1,h2⟩,h3⟩:=h
 exact ⟨D,⟨es,clock,hb.trans h1,h2⟩,h3⟩
theorem KS.lt (h:KS w b n L):b<w.heap.size:=by
 obtain ⟨D,h1,_⟩:=h
 exact h1.lt
variable {ops:Array Oper} {rest:List Oper} {o:Oper} {a:Act} {Q:Exit→Act→World→Prop}
theorem plainElem_bool_inv {P:Program} {e:TypeId} (he:P.underlying e=some .bool) {v:Value} {z:DataW Unit×List MemPlace} (h:plainElem P e v=some z):∃x,v= .bool x∧z=(.lit (.bool x),[]):=by
 unfold plainElem at h
 rw [he] at h
 cases v<;>simp at h
 exact ⟨_,rfl,h.symm⟩
theorem zero_bool:(zeroValue 4).run Tryz.prog w= .ok (.bool false) w:=by kernel_rfl
end
theorem info_fplace:(Tryz.prog.info? 264).map (fun i=>(i.zero,i.size,i.bytes))=some (some (.agg #[.slice none 0 0,.slice none 0 0]),2,48):=by kernel_rfl
theorem KS.put {w:World} {b n:Nat} {L:List (List Int)} (hown:KS w b n L) (hn:n<1000000000000) (x:List Int) (hok:KOk x):
    ∃w',(Instr.mapUpdate 262 (.map (some b)) (.string (keyB x)) (.bool true)).run Tryz.prog w= .ok () w'∧KS w' b (n+1) (L++[x])∧w.grownBy w' (some b):=by
 obtain ⟨D,h1,h3⟩:=hown
 have K:=Maps.string_keyed (P:=Tryz.prog) Tryz.underlying9
 have htidy:=h1.tidy K
 obtain ⟨w',hrun,r1,r2⟩:=h1.update K Tryz.underlying262 (by unfold maxLen;omega) (keyB_key hok) (plainElem_bool Tryz.underlying4 true)
 refine ⟨w',hrun,⟨_,r1,fun y hy=> ?_⟩,r2⟩
 by_cases e:y=x
 ·subst e
  rw [Maps.atKey_put_same htidy.isMap (K.key (keyB_key hok))]
  simp
 have hne : (Lit.string (keyB y).data.toList) ≠ .string (keyB x).data.toList := by
  intro e2
  refine e (keyB_inj hy hok ?_)
  simp only [Lit.string.injEq] at e2
  exact ByteArray.ext (Array.ext' e2)
 rw [Maps.atKey_put_other hne,h3 y hy]
 simp [e]
theorem KS.look {w:World} {b n:Nat} {L:List (List Int)} (hown:KS w b n L) (x:List Int) (hok:KOk x):
    (Instr.lookup 262 (.map (some b)) (.string (keyB x)) false).run Tryz.prog w= .ok (.bool (decide (x∈L))) w:=by
 obtain ⟨D,h1,h3⟩:=hown
 obtain ⟨v,ps,hrun,hv⟩:=h1.lookup (Maps.string_keyed Tryz.underlying9) Tryz.underlying262 zero_bool (plainElem_bool Tryz.underlying4 false) (keyB_key hok)
 rw [h3 x hok] at hv
 have hvb:v= .bool (decide (x∈L)):=by
  obtain ⟨y,rfl,hy⟩:=plainElem_bool_inv Tryz.underlying4 hv
  simp at hy
  rw [hy.1]
 rw [hrun,hvb]
theorem Mach.fok_0 {m:Mach} {l:List Int} (h:∀s∈l,0≤s∧s<m.next.length):m.FOk l 0 [⟨l,[]⟩]:=by
 refine ⟨fun q hq=> ?_,fun q hq=> ?_,fun q hq=> ?_,by simp⟩<;>obtain rfl:q=⟨l,[]⟩:=by simpa using hq
 ·exact h
 ·rfl
 exact ⟨Nat.le_refl _,fun y hy=>by simp at hy⟩
theorem Mach.FOk.up {m:Mach} {l:List Int} {i j:Nat} {L:List Fq} (h:m.FOk l i L) (hij:i≤j):m.FOk l j L:=⟨h.st,h.len,fun q hq=>⟨Nat.le_trans (h.word q hq).1 hij,(h.word q hq).2⟩,h.size⟩
theorem Mach.FOk.push {m:Mach} {l:List Int} {i:Nat} {L:List Fq} (h:m.FOk l i L) {q:Fq} (h1:∀s∈q.st,0≤s∧s<m.next.length) (h2:q.st.length=l.length) (h3:q.word.length≤i∧m.okS q.word) (h4:¬4096≤L.length):m.FOk l i (L++[q]):=by
 refine ⟨fun x hx=> ?_,fun x hx=> ?_,fun x hx=> ?_,by simp;omega⟩<;>rcases List.mem_append.1 hx with e|e
 ·exact h.st x e
 ·rw [List.mem_singleton.1 e];exact h1
 ·exact h.len x e
 ·rw [List.mem_singleton.1 e];exact h2
 ·exact h.word x e
 rw [List.mem_singleton.1 e];exact h3
theorem Mach.aft_true {m:Mach} (ok:m.Ok) {x:Nat} (hx:x<m.inputs.toNat) {l L:List Int} {s:Bool} (hl:∀s∈l,0≤s∧s<m.next.length) (h:m.aft x l=(L,true,s)):(∀s∈L,0≤s∧s<m.next.length)∧L.length=l.length:=by
 unfold Mach.aft at h
 split at h
 ·simp only [Prod.mk.injEq] at h
  obtain ⟨rfl, -⟩:=h
  unfold Mach.nxtTo
  rw [List.take_length]
  refine ⟨fun y hy=> ?_,by simp⟩
  obtain ⟨z,hz,rfl⟩:=List.mem_map.1 hy
  have:=hl z hz
  exact ok.nx z.toNat x (by omega) hx
 simp at h
section
variable {M M':Nat→Prop} {w:World} {an ao b:Option Addr} {cn co d:Nat} {m:Mach} {l:List Int}
theorem find_any (hm:Ma M w an cn ao co m) (hs:Sl M' w b d l) (ok:Hid m.Ok) (hl:Hid (∀s∈l,0≤s∧s<m.next.length)) (hll:Hid (l.length<1000)):
    Calls Tryz.prog 178 #[maV m an cn ao co,.slice b l.length d] w fun e w'=>∃(a':Option Addr) (c':Nat) (W:List Int) (y:Bool),e= .returned (.tuple #[.slice a' W.length c',.bool y])∧Hid (m.findW l=(W,y))∧
     Sl (fun k=>k<w.heap.size) w' a' c' W∧Below w.heap.size w w':=by
 have hB0:=(Below.refl w.heap.size w).alloc (Nat.le_refl _) (maO m an cn ao co)
 have hx0:C4 (w.alloc (maO m an cn ao co)) w.heap.size an cn ao co m:=c4_new w
 have hB1:=hB0.alloc (by simp) (.map #[] 0)
 have hx1:=hx0.below ((Below.refl (w.heap.size+1) (w.alloc (maO m an cn ao co))).alloc (by simp) (.map #[] 0)) (by omega)
 have hK1:=KS.made (w.alloc (maO m an cn ao co))
 have hmb:(w.alloc (maO m an cn ao co)).heap.size=w.heap.size+1:=by simp
 rw [hmb] at hK1
 have hz1:((w.alloc (maO m an cn ao co)).alloc (.map #[] 0)).heap.size=w.heap.size+2:=by simp
 have n1:=ok.out.n1
 have i1:=ok.out.i1
 have l1:=hm.next.le
 have l2:=hm.out.le
 have HM:=Lib.hid hm
 have HS:=Lib.hid (hs.anti (M':=fun k=>w.heap.size≤k) fun k hk h=>absurd hk (by omega))
 have hkl:Hid (KOk l):=⟨fun y hy=>by have:=hl.out y hy;omega,by have:=hll.out;omega⟩
 have HC:=Lib.hid (key_any (HS.out.below hB1) (Lib.hid hkl.out.1) (Lib.hid hkl.out.2))
 clear hm hs hB0 hx0
 have hmm:= @run_makeMap Tryz.prog
 go_enter Tryz.func178,Tryz.ntmps178
 go_wp2_with fail
 generalize (w.alloc (maO m an cn ao co)).alloc (.map #[] 0)=w1 at*
 refine (HC.out).mono ?_
 rintro e w2 ⟨rfl,hb2⟩
 have hK2:=hK1.kept (hb2.block _ (by omega))
 have hx2:=hx1.below hb2 (by omega)
 have hB2:=hB1.trans (hb2.mono (by omega))
 have hz2:w.heap.size+2≤w2.heap.size:=by have:=hb2.size;omega
 clear hK1 hx1 hB1 hb2 hz1 HC hmb
 obtain ⟨w3,hrun3,hK3,hgr3⟩:=hK2.put (by omega) l hkl.out
 have hb3:=(Below.refl (w.heap.size+1) w2).grown hgr3 (by omega) (fun k hk=>by cases hk;exact Nat.le_refl _)
 have hx3:=hx2.below hb3 (by omega)
 have hB3:=hB2.trans (hb3.mono (by omega))
 have hz3:w.heap.size+2≤w3.heap.size:=by have:=hb3.size;omega
 have hba:=(Below.refl w3.heap.size w3).alloc (Nat.le_refl _) (.cells #[.slice b l.length d,.slice none 0 0] 264)
 have hK4:=hK3.kept (hba.block _ hK3.lt)
 have hx4:=hx3.below hba (by omega)
 have hB4:=hB3.trans (hba.mono (by omega))
 have hN4:=Oy.one_fq (N:=fun k=>k=w.heap.size+1) (B:=w.heap.size+2) (w:=w3) (T:=264) ((HS.out.below hB3).anti (M':=fun k=>k=w3.heap.size∨k=w.heap.size+1) (fun k _ hm=>by rcases hm with e|e<;>omega)) hz3
 have hz4:w.heap.size+2≤(w3.alloc (.cells #[.slice b l.length d,.slice none 0 0] 264)).heap.size:=by have:=hba.size;omega
 have hF0:Hid (m.fTo l 0= .go [⟨l,[]⟩]):=rfl
 have hO0:=Lib.hid (Mach.fok_0 hl.out)
 clear hK2 hgr3 hb3 hx3 hB3 hz3 hba hK3 hB2 hx2 hz2
 go_wp2
 generalize hgg:w3.alloc (.cells #[.slice b l.length d,.slice none 0 0] 264)=w4 at*
 clear hgg
 go_loopw [7,8] (fun v i wr=>∃(k:Nat) (a':Option Addr) (c':Nat) (L:List Fq),k≤4096∧i= .int .i64 k∧v= .slice a' L.length c'∧Hid (m.fTo l k= .go L)∧Hid (m.FOk l k L)∧KS wr (w.heap.size+1) L.length (L.map Fq.st)∧
  Oy (fun k=>k=w.heap.size+1) (w.heap.size+2) wr 264 (.slice a' L.length c') L∧C4 wr w.heap.size an cn ao co m∧w.heap.size+2≤wr.heap.size∧Below w.heap.size w wr) (fun _ i _=>4097-(intOf i).toNat)
 case atStart=>exact ⟨0,some ⟨w3.heap.size,0,none⟩,1,[⟨l,[]⟩],by omega,rfl,rfl,hF0,hO0,hK4,hN4,hx4,hz4,hB4⟩
 case round=>
  clear hF0 hO0 hK4 hN4 hx4 hz4 hB4
  obtain ⟨k,a',c',L,hk,rfl,rfl,hL,hLo,hK,hN,hC,hz,hB⟩:=hrel
  obtain ⟨wo,rfl⟩:∃wo:World,wo=wr:=⟨_,rfl⟩
  have hL4:=hLo.out.size
  by_cases hlt:k<L.length
  ·obtain ⟨q,hq⟩:∃q,L[k]? =some q:=⟨_,List.getElem?_eq_getElem hlt⟩
   have hqm:=List.mem_of_getElem? hq
   have hqs:=Lib.hid (hLo.out.st q hqm)
   have hql:=Lib.hid (hLo.out.len q hqm)
   have hqw:=Lib.hid (hLo.out.word q hqm)
   have HQ:=Lib.hid hq
   have hr0:Hid (m.fRow q L 0= .go L):=rfl
   have hlo0:=Lib.hid (hLo.out.up (j:=k+1) (by omega))
   have hini:0≤m.inputs:=by have:=ok.out.i0;omega
   clear hq hqm
   go_wp2
   go_loopw [7,29] (fun v i wr=>∃(j:Nat) (a':Option Addr) (c':Nat) (K:List Fq),j≤m.inputs.toNat∧i= .int .i64 j∧v= .slice a' K.length c'∧Hid (m.fRow q L j= .go K)∧Hid (m.FOk l (k+1) K)∧Hid (K[k]? =some q)∧KS wr (w.heap.size+1) K.length (K.map Fq.st)∧
    Oy (fun k=>k=w.heap.size+1) (w.heap.size+2) wr 264 (.slice a' K.length c') K∧C4 wr w.heap.size an cn ao co m∧w.heap.size+2≤wr.heap.size∧Below w.heap.size w wr) (fun _ i _=>m.inputs.toNat-(intOf i).toNat)
   case atStart=>exact ⟨0,a',c',L,by omega,rfl,rfl,hr0,hlo0,HQ,hK,hN,hC,hz,hB⟩
   case round=>
    clear hr0 hlo0 hK hN hC hz hB
    obtain ⟨j,a2,c2,X,hj,rfl,rfl,hR,hKo,hKq,hKS,hN,hC,hz,hB⟩:=hrel
    obtain ⟨w5,rfl⟩:∃w5:World,w5=wr:=⟨_,rfl⟩
    have hK4:=hKo.out.size
    by_cases hlj:j<m.inputs.toNat
    ·obtain ⟨g,ar,cr,br,dr,rfl,hq0,hq1,hs0,hs1,hg,hgw⟩:=hN.at_fq hKq.out
     have hlji:((j:Nat):Int)<m.inputs:=by omega
     have hkK:k<X.length:=by
      by_cases e:k<X.length
      ·exact e
      have:=hKq.out;rw [List.getElem?_eq_none (by omega)] at this;simp at this
     go_upto_region 9 with (fail)
     refine wp_region_L (fun w'=>C4 w' w.heap.size an cn ao co m∧w'.cell? ⟨g,k*2,none⟩=some (.slice ar q.st.length cr)) [0,1,2,3,4,5,6,8,9,10,11,12,13,14] (by kernel_rfl) ?_
     have hbd:=(Below.refl w5.heap.size w5).drew
     have hK6:=hKS.kept (hbd.block _ hKS.lt)
     have hN6:Oy (fun k=>k=w.heap.size+1) (w.heap.size+2) w5.drew 264 (.slice (some ⟨g,0,none⟩) X.length c2) X:=hN.below hbd
     have hC6:=hC.below hbd (by omega)
     have hB6:=hB.trans (hbd.mono (by omega))
     have hs06:=hs0.below hbd
     have hs16:=hs1.below hbd
     have hz6:w.heap.size+2≤w5.drew.heap.size:=hz
     have hgw6:g<w5.drew.heap.size:=hgw
     have hq06:w5.drew.cell? ⟨g,k*2,none⟩=some (.slice ar q.st.length cr):=hq0
     have hq16:w5.drew.cell? ⟨g,k*2+1,none⟩=some (.slice br q.word.length dr):=hq1
     have hSd:C4 w5.drew w.heap.size an cn ao co m∧w5.drew.cell? ⟨g,k*2,none⟩=some (.slice ar q.st.length cr):=⟨hC6,hq06⟩
     clear hbd hKS hN hC hB hz hs0 hs1 hgw hq0 hq1
     generalize w5.drew=w6 at*
     have hq64:=hs06.le
     have HC:=Lib.hid (after_any (HM.out.below hB6) hs06 ok hqs (by have:=hql.out;have:=hll.out;omega) j hlj)
     refine skL_on [0,1,2,3,4,5,6] ?_
     repeat (refine skL_take (v:= ?_) rfl ?_ ?_;rotate_left;(focus (intro w' hSw;(try dsimp only at hSw);go_simp;try with_reducible rfl));try simp only [Act.put,List.setIfInBounds_toArray,List.set_cons_zero,List.set_cons_succ])
     refine skL_off ?_
     refine wpAnyL_one (i:=7) (by kernel_rfl) rfl rfl (fun K hK=> ?_)
     go_simp
     refine (HC.out).mono ?_
     rintro e w7 ⟨a7,c7,L7,p7,s7,rfl,haf,hs7,hb7⟩
     have hKS7:=hK6.kept (hb7.block _ hK6.lt)
     have hN7:Oy (fun k=>k=w.heap.size+1) (w.heap.size+2) w7 264 (.slice (some ⟨g,0,none⟩) X.length c2) X:=hN6.below hb7
     have hC7:=hC6.below hb7 (by omega)
     have hB7:=hB6.trans (hb7.mono (by omega))
     have hs17:=hs16.below hb7
     have hq17:=(hb7.cell (p:=⟨g,k*2+1,none⟩) hgw6).trans hq16
     have hS7:C4 w7 w.heap.size an cn ao co m∧w7.cell? ⟨g,k*2,none⟩=some (.slice ar q.st.length cr):=⟨hC7,(hb7.cell (p:=⟨g,k*2,none⟩) hgw6).trans hq06⟩
     have hz7:w.heap.size+2≤w7.heap.size:=by have:=hb7.size;omega
     have hgw7:g<w7.heap.size:=by have:=hb7.size;omega
     refine hK _ _ (fun _=>hS7) ?_
     replace hs7:=hs7.anti (M':=fun k=>(Value.slice (some ⟨g,0,none⟩) X.length c2).ownBlock=some k∨k=w.heap.size+1) (fun k _ hm=>by
      rcases hm with e|e
      ·have:g=k:=by simpa [Value.ownBlock] using e
       omega
      omega)
     clear hK K HC hSd hK6 hN6 hC6 hB6 hs06 hs16 hq06 hq16 hz6 hgw6 hb7
     refine skL_on [8,9,10,11,12,13,14] ?_
     repeat (refine skL_take (v:= ?_) rfl ?_ ?_;rotate_left;(focus (intro w' hSw;(try dsimp only at hSw);go_simp;try with_reducible rfl));try simp only [Act.put,List.setIfInBounds_toArray,List.set_cons_zero,List.set_cons_succ])
     refine skL_off ?_
     refine wpAnyL_done (by kernel_rfl) ?_ _
     clear hS7
     cases p7 with
     |false=>
      have hR2:Hid (m.fRow q L (j+1)= .go X):=Mach.fRow_next hR.out (by unfold Mach.fOne;rw [haf.out];rfl)
      clear hs7 hs17 hq17 haf
      go_wp2
      go_roundw
      case rel=>exact ⟨j+1,some ⟨g,0,none⟩,c2,X,by omega,by go_num,rfl,hR2,hKo,hKq,hKS7,hN7,hC7,hz7,hB7⟩
      case measure=>simp [intOf];omega
     |true=>
      have hat:=Lib.hid (Mach.aft_true ok.out hlj hqs.out haf.out)
      have hkL7:Hid (KOk L7):=⟨fun y hy=>by have:=hat.out.1 y hy;omega,by have:=hat.out.2;have:=hql.out;have:=hll.out;omega⟩
      have hqwl:Hid (q.word.length≤4096):=by unfold Hid;have:=hqw.out.1;omega
      have HC:=Lib.hid (clone_own hs17 (by have:=hqwl.out;omega))
      have hji:Hid (i64 ((j:Nat):Int)):=by unfold Hid i64;omega
      clear hs17
      go_wp2_with fail
      refine (HC.out).mono ?_
      rintro e w8 ⟨a8,c8,W8,rfl,hW8,hO8,hb8⟩
      have hz8:w7.heap.size≤w8.heap.size:=hb8.size
      have hW8l:Hid (W8.length<1000000000000):=by unfold Hid;rw [hW8.out];have:=hqwl.out;omega
      clear HC
      go_wp2_with (at_builtin;refine wpList_push_i (B:=w7.heap.size) (l:=W8) (y:=((j:Nat):Int)) rfl rfl Tryz.underlying49 info_int rfl rfl (hO8.alloc _) (by simp [go_sem]) hji.out hW8l.out (by simp;omega) ?_)
      intro a9 c9 W9 w9 hW9 hO9 hb9
      have hb79:Below w7.heap.size w7 w9:=(hb8.alloc hz8 (.cells #[.int .i64 ((j:Nat):Int)] 3)).trans hb9
      have hW9:Hid (W9=q.word++[((j:Nat):Int)]):=by unfold Hid;rw [hW9.out,hW8.out]
      have hKS9:=hKS7.kept (hb79.block _ hKS7.lt)
      have hN9:Oy (fun k=>k=w.heap.size+1) (w.heap.size+2) w9 264 (.slice (some ⟨g,0,none⟩) X.length c2) X:=hN7.below hb79
      have hC9:=hC7.below hb79 (by omega)
      have hB9:=hB7.trans (hb79.mono (by omega))
      have hs9:=hs7.below hb79
      have hz9:w7.heap.size≤w9.heap.size:=hb79.size
      have hW9s:=hO9.fresh (Nat.le_refl _)
      clear hKS7 hN7 hC7 hB7 hs7 hq17 hO8 hb8 hW8 hW8l hO9 hb9 hb79 hz8
      cases s7 with
      |false=>
       have hF:Hid (m.findW l=(W9,true)):=by
        unfold Hid
        rw [Mach.findW_of (Mach.find_end (r:= .word W9) hL.out (by rw [fMax_eq];omega) hlt HQ.out (a:=j+1) (by omega) (Mach.fRow_next hR.out (by unfold Mach.fOne;rw [haf.out,hW9.out];rfl)) (fun K h=>by cases h))]
        rfl
       have hW9t:=hW9s.anti (M':=fun k=>k<w.heap.size) (fun k _ hk=>by omega)
       clear hW9s hs9 hKS9 hN9 hC9
       go_wp2
       go_ret2
       exact ⟨a9,c9,W9,true,rfl,hF,hW9t,hB9⟩
      |true=>
       have HC:=Lib.hid (key_any hs9 (Lib.hid hkL7.out.1) (Lib.hid hkL7.out.2))
       replace hW9s:=hW9s.anti (M':=fun k=>(Value.slice (some ⟨g,0,none⟩) X.length c2).ownBlock=some k∨k=w.heap.size+1) (fun k _ hm=>by
        rcases hm with e|e
        ·have:g=k:=by simpa [Value.ownBlock] using e
         omega
        omega)
       go_wp2_with fail
       refine (HC.out).mono ?_
       rintro e w10 ⟨rfl,hb10⟩
       have hKS10:=hKS9.kept (hb10.block _ hKS9.lt)
       have hN10:Oy (fun k=>k=w.heap.size+1) (w.heap.size+2) w10 264 (.slice (some ⟨g,0,none⟩) X.length c2) X:=hN9.below hb10
       have hC10:=hC9.below hb10 (by omega)
       have hB10:=hB9.trans (hb10.mono (by omega))
       have hs10:=hs9.below hb10
       have hW10:=hW9s.below hb10
       have hz10:w7.heap.size≤w10.heap.size:=by have:=hb10.size;omega
       have hlk:=hKS10.look L7 hkL7.out
       clear HC hKS9 hN9 hC9 hB9 hs9 hW9s hb10
       by_cases hmem:L7∈X.map Fq.st
       ·rw [decide_eq_true hmem] at hlk
        have hR2:Hid (m.fRow q L (j+1)= .go X):=Mach.fRow_next hR.out (by unfold Mach.fOne;rw [haf.out];simp only [Bool.true_eq_false,if_false];rw [if_pos hmem])
        clear hmem hs10 hW10
        go_wp2
        go_roundw
        case rel=>exact ⟨j+1,some ⟨g,0,none⟩,c2,X,by omega,by go_num,rfl,hR2,hKo,hKq,hKS10,hN10,hC10,by omega,hB10⟩
        case measure=>simp [intOf];omega
       rw [decide_eq_false hmem] at hlk
       have HM2:=Lib.hid hmem
       clear hmem
       by_cases h40:4096≤X.length
       ·have hF : Hid (m.findW l = ([], false)) := by
          unfold Hid
          rw [Mach.findW_of (Mach.find_end (r:= .cut) hL.out (by rw [fMax_eq];omega) hlt HQ.out (a:=j+1) (by omega) (Mach.fRow_next hR.out (by unfold Mach.fOne;rw [haf.out];simp only [Bool.true_eq_false,if_false];rw [if_neg HM2.out,if_pos h40])) (fun K h=>by cases h))]
          rfl
        clear hKS10 hN10 hC10 hs10 hW10
        go_wp2
        go_ret2
        exact ⟨none,0,[],false,rfl,hF,Sl.nil _ _ _ (by unfold maxLen;omega),hB10⟩
       have hR2:Hid (m.fRow q L (j+1)= .go (X++[⟨L7,W9⟩])):=Mach.fRow_next hR.out (by unfold Mach.fOne;rw [haf.out];simp only [Bool.true_eq_false,if_false];rw [if_neg HM2.out,if_neg h40,hW9.out])
       have hKo2:Hid (m.FOk l (k+1) (X++[⟨L7,W9⟩])):=hKo.out.push hat.out.1 (hat.out.2.trans hql.out) ⟨by rw [hW9.out];have:=hqw.out.1;simp;omega,by
        rw [hW9.out]
        intro y hy
        rcases List.mem_append.1 hy with hy|hy
        ·exact hqw.out.2 y hy
        rw [List.mem_singleton.1 hy];omega⟩ h40
       have hKq2:Hid ((X++[⟨L7,W9⟩])[k]? =some q):=by unfold Hid;rw [List.getElem?_append_left hkK];exact hKq.out
       have HC:=Lib.hid (key_any hs10 (Lib.hid hkL7.out.1) (Lib.hid hkL7.out.2))
       go_wp2_with fail
       refine (HC.out).mono ?_
       rintro e w11 ⟨rfl,hb11⟩
       have hz11:w7.heap.size≤w11.heap.size:=by have:=hb11.size;omega
       obtain ⟨w12,hrun12,hKS12,hgr12⟩:=(hKS10.kept (hb11.block _ hKS10.lt)).put (by omega) L7 hkL7.out
       have hMb:∀k,some (w.heap.size+1)=some k→((Value.slice (some ⟨g,0,none⟩) X.length c2).ownBlock=some k∨k=w.heap.size+1):=fun k hk=> .inr (by cases hk;rfl)
       have hN12:Oy (fun k=>k=w.heap.size+1) (w.heap.size+2) w12 264 (.slice (some ⟨g,0,none⟩) X.length c2) X:=(hN10.below hb11).other hgr12 hMb (fun k h1 h2=>by
        cases h2
        have:g=w.heap.size+1:=by simpa [Value.ownBlock] using h1
        omega)
       have hb12:=(Below.refl (w.heap.size+1) w11).grown hgr12 (by omega) (fun k hk=>by cases hk;exact Nat.le_refl _)
       have hC12:=(hC10.below hb11 (by omega)).below hb12 (by omega)
       have hB12:=(hB10.trans (hb11.mono (by omega))).trans (hb12.mono (by omega))
       have hs12:=(hs10.below hb11).ext (Ext.grownBy hgr12 hMb)
       have hW12:=(hW10.below hb11).ext (Ext.grownBy hgr12 hMb)
       have hz12:w7.heap.size≤w12.heap.size:=by have:=hb12.size;omega
       clear HC hKS10 hN10 hC10 hB10 hs10 hW10 hb11 hgr12 hMb hb12
       go_wp2_with (at_builtin;refine wpList_push_fq (N:=fun k=>k=w.heap.size+1) (B:=w.heap.size+2) (l:=X) (q:=⟨L7,W9⟩) rfl rfl Tryz.underlying265 info_fplace rfl rfl rfl (hN12.alloc _) (by simp [go_sem]) (by simp) (hs12.alloc _) (hW12.alloc _) (by omega) (by simp;omega) ?_)
       intro a13 c13 X13 w13 hX13 hN13 hk13 hgr13
       have hz13:w12.heap.size+1≤w13.heap.size:=by have:=hgr13.size;simpa using this
       have hb13:=(Below.refl (w.heap.size+2) (w12.alloc (.cells #[.slice a7 L7.length c7,.slice a9 W9.length c9] 264))).grown hgr13 (by simp;omega) (fun k hk=>by
        have:g=k:=by simpa [Value.ownBlock] using hk
        omega)
       have hba:=(Below.refl (w.heap.size+2) w12).alloc (by omega) (.cells #[.slice a7 L7.length c7,.slice a9 W9.length c9] 264)
       have hb14:=hba.trans hb13
       have hKS13:=hKS12.kept (hb14.block (w.heap.size+1) (by omega))
       have e1:X13.length=X.length+1:=by rw [hX13.out];simp
       have e2:X13.map Fq.st=X.map Fq.st++[L7]:=by rw [hX13.out];simp
       rw [←e1,←e2] at hKS13
       have hC13:=hC12.below (hb14.mono (show w.heap.size+1≤w.heap.size+2 by omega)) (by omega)
       have hB13:=hB12.trans (hb14.mono (by omega))
       have hR3:Hid (m.fRow q L (j+1)= .go X13):=by unfold Hid;rw [hR2.out,hX13.out]
       have hKo3:Hid (m.FOk l (k+1) X13):=by rw [hX13.out];exact hKo2
       have hKq3:Hid (X13[k]? =some q):=by rw [hX13.out];exact hKq2
       clear hN12 hKS12 hC12 hB12 hs12 hW12 hk13 hgr13 hX13 e1 e2 hb13 hba hb14 hR2 hKo2 hKq2
       go_wp2
       go_roundw
       case rel=>exact ⟨j+1,a13,c13,X13,by omega,by go_num,rfl,hR3,hKo3,hKq3,hKS13,hN13,hC13,by omega,hB13⟩
       case measure=>simp [intOf];omega
    have hn1 : Hid (m.fTo l (k + 1) = .go X) := by
     have e:j=m.inputs.toNat:=by omega
     rw [e] at hR
     exact Mach.find_next hL.out hlt HQ.out hR.out
    have hji:¬((j:Nat):Int)<m.inputs:=by omega
    go_wp2
    go_roundw
    case rel=>exact ⟨k+1,a2,c2,X,by omega,by go_num,rfl,hn1,hKo,hKS,hN,hC,hz,hB⟩
    case measure=>simp [intOf];omega
  have hF:Hid (m.findW l=([],false)):=Mach.findW_of (Mach.fTo_done (i:=k) (by rw [fMax_eq];omega) hL.out (by omega))
  clear hN hK hC
  go_wp2
  go_ret2
  exact ⟨none,0,[],false,rfl,hF,Sl.nil _ _ _ (by unfold maxLen;omega),hB⟩
end
def hdR (v:Value):Option (DataW Value×List MemPlace):=some (.held v,[])
def KG (w:World) (b n:Nat) (F:Nat→Value):Prop:=
 ∃D:DataW Value,w.ownsMap Tryz.prog 3 hdR b n D∧∀s:Nat,s<1000→D.atKey (.int .i64 s) (.held (.slice none 0 0))= .held (F s)
theorem key_nat {s:Nat} (h:s<1000):keyOf Tryz.prog 3 (.int .i64 (s:Int))=some (.int .i64 (s:Int)):=
 Maps.keyOf_int_mk Tryz.underlying3 (by
  show (decide ((-9223372036854775808:Int)≤(s:Int))&&decide ((s:Int)≤9223372036854775807))=true
  rw [decide_eq_true (by omega),decide_eq_true (by omega)];rfl)
section
variable {w w':World} {b n:Nat} {F:Nat→Value}
theorem KG.made (w:World):KG (w.alloc (.map #[] 0)) w.heap.size 0 (fun _=> .slice none 0 0):=⟨.map [],World.ownsMap_made _ _ _ _,fun _ _=>rfl⟩
theorem KG.kept (h:KG w b n F) (hb:w'.heap[b]? =w.heap[b]?):KG w' b n F:=by
 obtain ⟨D,⟨es,clock,h1,h2⟩,h3⟩:=h
 exact ⟨D,⟨es,clock,hb.trans h1,h2⟩,h3⟩
theorem KG.lt (h:KG w b n F):b<w.heap.size:=by
 obtain ⟨D,h1,_⟩:=h
 exact h1.lt
theorem zero_rows:(zeroValue 22).run Tryz.prog w= .ok (.slice none 0 0) w:=by kernel_rfl
theorem KG.look (h:KG w b n F) {s:Nat} (hs:s<1000):(Instr.lookup 175 (.map (some b)) (.int .i64 (s:Int)) false).run Tryz.prog w= .ok (F s) w:=by
 obtain ⟨D,h1,h3⟩:=h
 obtain ⟨v,ps,hrun,hv⟩:=h1.lookup (Maps.int_keyed Tryz.underlying3) Tryz.underlying175 zero_rows (show hdR (.slice none 0 0)=some (.held (.slice none 0 0),[]) from rfl) (key_nat hs)
 rw [h3 s hs] at hv
 have:v=F s:=by
  unfold hdR at hv
  simp only [Option.some.injEq,Prod.mk.injEq,DataW.held.injEq] at hv
  exact hv.1
 rw [hrun,this]
theorem KG.put (h:KG w b n F) (hn:n<1000000000000) {s:Nat} (hs:s<1000) (v:Value):
    ∃w',(Instr.mapUpdate 175 (.map (some b)) (.int .i64 (s:Int)) v).run Tryz.prog w= .ok () w'∧KG w' b (n+1) (fun j=>if j=s then v else F j)∧w.grownBy w' (some b):=by
 obtain ⟨D,h1,h3⟩:=h
 have K:=Maps.int_keyed (P:=Tryz.prog) Tryz.underlying3
 have htidy:=h1.tidy K
 obtain ⟨w',hrun,r1,r2⟩:=h1.update K Tryz.underlying175 (by unfold maxLen;omega) (key_nat hs) (show hdR v=some (.held v,[]) from rfl)
 refine ⟨w',hrun,⟨_,r1,fun j hj=> ?_⟩,r2⟩
 by_cases e:j=s
 ·subst e
  rw [Maps.atKey_put_same htidy.isMap (K.key (key_nat hs))]
  simp
 have hne : (Lit.int .i64 (j : Int)) ≠ .int .i64 (s : Int) := by
  intro e2
  simp only [Lit.int.injEq,true_and] at e2
  exact e (by omega)
 rw [Maps.atKey_put_other hne,h3 j hj]
 simp only [if_neg e]
end
end Go.Proofs.YtjagagpcjpcjjaaGreat
