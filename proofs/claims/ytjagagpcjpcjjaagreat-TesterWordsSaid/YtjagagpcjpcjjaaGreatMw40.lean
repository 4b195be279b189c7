/- Lemmas, each with its own conditions. -/
import Derived.Test.YtjagagpcjpcjjaaGreatMw37
import Derived.Test.YtjagagpcjpcjjaaGreatMw36
set_option maxRecDepth 100000
set_option maxHeartbeats 32000000
namespace Go.Proofs.YtjagagpcjpcjjaaGreat
open Tryz
open Go.RowKit
structure Fq where
 st:List Int
 word:List Int
 deriving DecidableEq
inductive FR where
 |go (L:List Fq)
 |word (w:List Int)
 |cut
def fUp (n:Nat):Nat:=if h:n=0 then 0 else fUp (n-1)+1
 termination_by n
 decreasing_by omega
theorem agF (n:Nat):fUp n=n:=by
 induction n with
 |zero=>unfold fUp;simp
 |succ n ih=>unfold fUp;simp [ih]
def Cr:Nat:=fUp 4097
theorem yK:Cr=4097:=by unfold Cr;exact agF 4097
namespace g_
variable (m:g_)
def vZ (q:Fq) (a:Nat) (L:List Fq):FR:=
 if (m.wQ a q.st).2.1=false then .go L else
 if (m.wQ a q.st).2.2=false then .word (q.word++[(a:Int)]) else
 if (m.wQ a q.st).1∈L.map Fq.st then .go L else
 if 4096<=L.length then .cut else .go (L++[⟨(m.wQ a q.st).1,q.word++[(a:Int)]⟩])
def fRow (q:Fq) (L:List Fq):Nat->FR
 |0=> .go L
 |a+1=>match fRow q L a with
  | .go K=>m.vZ q a K
  |r=>r
def Af (l:List Int):Nat->FR
 |0=> .go [⟨l,[]⟩]
 |i+1=>match Af l i with
  | .go L=>if i<L.length then m.fRow (L.getD i ⟨[],[]⟩) L m.gZ.toNat else .go L
  |r=>r
def fRes:FR->List Int×Bool
 | .word w=>(w,true)
 |_=>([],false)
def oZ (l:List Int):List Int×Bool:=fRes (m.Af l Cr)
variable {m}
theorem XH {q:Fq} {L:List Fq} {a b:Nat} (h:a<=b) (hs:∀K,m.fRow q L a≠.go K):m.fRow q L b=m.fRow q L a:=by
 induction b with
 |zero=>obtain rfl:a=0:=ah;rfl
 |succ b ih=>
  by_cases e:a=b+1;·rw [e]
  have h1:=ih ah;simp only [fRow];rw [h1];split;·rename_i K hK;exact absurd hK (hs K)
  rfl
theorem aaV {l:List Int} {i j:Nat} (h:i<=j) (hs:∀K,m.Af l i≠.go K):m.Af l j=m.Af l i:=by
 induction j with
 |zero=>obtain rfl:i=0:=ah;rfl
 |succ j ih=>
  by_cases e:i=j+1;·rw [e]
  have h1:=ih ah;simp only [Af];rw [h1];split;·rename_i K hK;exact absurd hK (hs K)
  rfl
theorem Qb {l:List Int} {i j:Nat} {L:List Fq} (h:i<=j) (hi:m.Af l i= .go L) (hL:L.length<=i):m.Af l j= .go L:=by
 induction j with
 |zero=>obtain rfl:i=0:=ah;exact hi
 |succ j ih=>
  by_cases e:i=j+1;·rw [<-e];exact hi
  have h1:=ih ah;simp only [Af];rw [h1];simp only [];rw [bO ah]
theorem Bg {l:List Int} {i a:Nat} {L:List Fq} {q:Fq} {r:FR} (hi:m.Af l i= .go L) (h4:i<Cr) (hlt:i<L.length) (hq:L[i]? =some q) (ha:a<=m.gZ.toNat) (hr:m.fRow q L a=r) (hs:∀K,r≠.go K):m.Af l Cr=r:=by
 have h1:m.Af l (i+1)=r:=by simp only [Af];rw [hi];simp only [];rw [bQ hlt,bS,hq];simp only [gV];rw [XH ha (by rw [hr];exact hs),hr]
 rw [aaV (i:=i+1) (j:=Cr) ah (by rw [h1];exact hs),h1]
theorem Kz {l:List Int} {i:Nat} {L K:List Fq} {q:Fq} (hi:m.Af l i= .go L) (hlt:i<L.length) (hq:L[i]? =some q) (hr:m.fRow q L m.gZ.toNat= .go K):m.Af l (i+1)= .go K:=by
 simp only [Af];rw [hi];simp only [];rw [bQ hlt,bS,hq];simp only [gV];exact hr
theorem uO {l:List Int} {r:FR} (h:m.Af l Cr=r):m.oZ l=fRes r:=by unfold oZ;rw [h]
theorem mI {q:Fq} {L K:List Fq} {a:Nat} {r:FR} (h:m.fRow q L a= .go K) (h1:m.vZ q a K=r):m.fRow q L (a+1)=r:=by
 simp only [fRow];rw [h];exact h1
structure Vx (m:g_) (l:List Int) (i:Nat) (L:List Fq):Prop where
 st:∀q∈L,∀s∈q.st,0<=s/\s<m.h_.length
 len:∀q∈L,q.st.length=l.length
 word:∀q∈L,q.word.length<=i/\m.nQ q.word
 size:L.length<=4096
end g_
instance:GR Fq where
 sz:=2
 rep M w cs q:=∃a c b d,cs=[.slice a q.st.length c,.slice b q.word.length d]/\Sl M w a c q.st/\Sl M w b d q.word
 len h:=by obtain ⟨a,c,b,d,h,_⟩:=h;rw [h];rfl
 ext e h:=by obtain ⟨a,c,b,d,h,h1,h2⟩:=h;exact ⟨a,c,b,d,h,h1.ext e,h2.ext e⟩
abbrev Oy {α:Type} [GR α] (N:Nat->Prop) (B:Nat) (w:World) (T:TypeId) (v:Value) (l:List α):Prop:=Ow B (fun k=>v.ownBlock=some k\/N k) w T v l
section
variable {α:Type} [GR α] {P:Program} {w:World} {o:Oper} {a:Act} {ops:Array Oper} {rest:List Oper} {Q:Exit->Act->World->Prop}
theorem tZ (hg:o.guard=none) (s x:Operand) (t:TypeId) (hop:o.op= .call {callee:= .builtin .append,args:= #[s,x],argTypes:= #[t,t]}) (e:TypeId) (z:Value) (size bytes:Nat) (ht:P.underlying t=some (.slice e)) (hi:(P.info? e).map (fun i=>(i.zero,i.size,i.bytes))=some (some z,size,bytes)) (hzs:z.cells.size=size) (hsz:0<size) (N:Nat->Prop) (B:Nat) (v:Value) (l:List α) (hs:a.eval s=v) (hsA:GR.sz α=size) (jk:Oy N B w e v l) (ad:Addr) (c:Nat) (news:List Value) (y:α) (hx:a.eval x= .slice (some ad) 1 c) (hy:GR.rep (fun k=>v.ownBlock=some k\/N k) w news y) (nG:∀j u,news[j]? =some u->w.cell? (ad.add j)=some u) (h1:∀u∈news,u.oneCell'=true) (iX:(l.length+1)*bytes<=140737488355328) (tC:l.length+1<=maxLen) (hB:B<=w.heap.size) (h:∀(a':Option Addr) (c':Nat) (l':List α) (w':World),Hid (l'=l++[y])->Oy N B w' e (.slice a' l'.length c') l'->Hid (∀k,(Value.slice a' l'.length c').ownBlock=some k->(v.ownBlock=some k\/k=w.heap.size)/\k<w'.heap.size)-> w.grownBy w' v.ownBlock->wpList P ops Q rest (a.put o.dst (.slice a' l'.length c')) w'):wpList P ops Q (o::rest) a w:=by
 refine rD hg s x t hop e z size bytes ht hi hzs hsz B _ v l hs hsA jk (fun k hk=> .inl hk) ad c news y hx hy nG h1 iX tC hB ?_;intro a' c' l' w' h1 h2 h3 h4;refine h a' c' l' w' h1 (h2.oF fun k _ hm=> ?_) h3 h4;rcases hm with hm|hm
 ·rcases (h3.out k hm).1 with e|e;·exact .inl (.inl e)
  exact .inr e
 exact .inl (.inr hm)
theorem GK {l:List Fq} {s x:Operand} {t e:TypeId} {N:Nat->Prop} {B:Nat} {z:Value} {v:Value} {g c:Nat} {q:Fq} {ar br:Option Addr} {cr dr:Nat} (hg:o.guard=none) (hop:o.op= .call {callee:= .builtin .append,args:= #[s,x],argTypes:= #[t,t]}) (ht:P.underlying t=some (.slice e)) (hi:(P.info? e).map (fun i=>(i.zero,i.size,i.bytes))=some (some z,2,48)) (hzs:z.cells.size=2) (hs:a.eval s=v) (hx:a.eval x= .slice (some ⟨g,0,none⟩) 1 c) (jk:Oy N B w e v l) (hn0:w.cell? ⟨g,0,none⟩=some (.slice ar q.st.length cr)) (hn1:w.cell? ⟨g,1,none⟩=some (.slice br q.word.length dr)) (hy:Sl (fun k=>v.ownBlock=some k\/N k) w ar cr q.st) (hy2:Sl (fun k=>v.ownBlock=some k\/N k) w br dr q.word) (iX:l.length<1000000000000) (hB:B<=w.heap.size) (h:∀(a':Option Addr) (c':Nat) (l':List Fq) (w':World),Hid (l'=l++[q])->Oy N B w' e (.slice a' l'.length c') l'->Hid (∀k,(Value.slice a' l'.length c').ownBlock=some k->(v.ownBlock=some k\/k=w.heap.size)/\k<w'.heap.size)->w.grownBy w' v.ownBlock-> wpList P ops Q rest (a.put o.dst (.slice a' l'.length c')) w'):wpList P ops Q (o::rest) a w:=by
 refine tZ hg s x t hop e z 2 48 ht hi hzs (by decide) N B v l hs rfl jk ⟨g,0,none⟩ c [.slice ar q.st.length cr,.slice br q.word.length dr] q hx ⟨ar,cr,br,dr,rfl,hy,hy2⟩ ?_ ?_ ah aS hB h
 ·intro j u hj;match j,hj with
  |0,hj=>simp at hj;subst hj;simpa [Addr.add] using hn0
  |1,hj=>simp at hj;subst hj;simpa [Addr.add] using hn1
  |j+2,hj=>simp at hj
 intro u hu;simp at hu;rcases hu with rfl|rfl<;>rfl
end
section
variable {N:Nat->Prop} {B:Nat} {w w':World} {T:TypeId} {a:Option Addr} {c:Nat} {l:List Fq}
theorem Oy.ajv (h:Oy N B w T (.slice a l.length c) l) {j:Nat} {q:Fq} (hq:l[j]? =some q):∃g ar cr br dr,a=some ⟨g,0,none⟩/\w.cell? ⟨g,j*2,none⟩=some (.slice ar q.st.length cr)/\w.cell? ⟨g,j*2+1,none⟩=some (.slice br q.word.length dr)/\ Sl (fun k=>(Value.slice a l.length c).ownBlock=some k\/N k) w ar cr q.st/\Sl (fun k=>(Value.slice a l.length c).ownBlock=some k\/N k) w br dr q.word/\B<=g/\g<w.heap.size:=by
 have hj:j<l.length:=by
  by_cases e:j<l.length;·exact e
  rw [bZ ah] at hq;simp at hq
 obtain ⟨g,rfl,hb,hg⟩:=jZ h ah;obtain ⟨xs,h1,h2⟩:=h;obtain ⟨ar,cr,br,dr,h3,h4,h5⟩:=h2 j q hq;have hx:∀i u,i<2->[Value.slice ar q.st.length cr,.slice br q.word.length dr][i]? =some u->w.cell? ⟨g,j*2+i,none⟩=some u:=by intro i u hi hu;have hlt:j*2+i<l.length*2:=ah;have e:=h1.cellAt (j*2+i) hlt;rw [e];rw [<-h3,dL,bQ (by exact hi),eu] at hu;exact hu
 exact ⟨g,ar,cr,br,dr,rfl,hx 0 _ ah rfl,hx 1 _ ah rfl,h4,h5,hb,hg⟩
theorem Oy.agG {st:List Int} {ar:Option Addr} {cr:Nat} (hs:Sl (fun k=>k=w.heap.size\/N k) w ar cr st) (hB:B<=w.heap.size):Oy N B (w.alloc (.cells #[.slice ar st.length cr,.slice none 0 0] T)) T (.slice (some ⟨w.heap.size,0,none⟩) 1 1) [(⟨st,[]⟩:Fq)]:=by
 refine ⟨[.slice ar st.length cr,.slice none 0 0],?_,fun j y hj=> ?_⟩;·exact aqk w #[.slice ar st.length cr,.slice none 0 0] 1 hB aS (by simp [GR.sz])
 match j,hj with
 |0,hj=>simp at hj;subst hj;exact ⟨ar,cr,none,0,rfl,(hs.anti fun k _ hk=>by
              rcases hk with e|e
              ·exact .inl (by simpa [Value.ownBlock] using e.symm)
              exact .inr e).alloc _,Sl.nil _ _ _ aS⟩
end
def KOk (x:List Int):Prop:=(∀y∈x,0<=y/\y<256)/\x.length<100000
theorem aaW {x y:List Int} (hx:KOk x) (hy:KOk y) (h:zU x=zU y):x=y:=by
 have h1:=aqQ (fun b:ByteArray=>b.data.toList) h;simp only [zU,strOfNums_data] at h1;have hl:x.length=y.length:=iq (aqQ List.length h1);refine arV hl fun i hi hj=> ?_;have h2:UInt8.ofNat x[i].toNat=UInt8.ofNat y[i].toNat:=by have:=aqQ (fun l:List UInt8=>l[i]?) h1;simpa [hi,hj] using this
 have h3:=aqQ UInt8.toNat h2;have e1:=hx.1 x[i] (dQ hi);have e2:=hy.1 y[i] (dQ hj);simp at h3;omega
theorem XI (x:List Int):(zU x).size=x.length:=strOfNums_size x
theorem GL {x:List Int} (hx:KOk x):keyOf prog 9 (.string (zU x))=some (.string (zU x).data.toList):=
 WideMaps.keyOf_string_mk underlying9 (by rw [XI];unfold maxLen;have:=hx.2;omega)
def KS (w:World) (b n:Nat) (L:List (List Int)):Prop:=
 ∃D:DataW Unit,w.ownsMap prog 9 (plainElem prog 4) b n D/\∀x,KOk x->D.atKey (.string (zU x).data.toList) (.lit (.bool false))= .lit (.bool (decide (x∈L)))
section
variable {w w':World} {b n:Nat} {L:List (List Int)}
theorem KS.made (w:World):KS (w.alloc (.map #[] 0)) w.heap.size 0 []:=
 ⟨.map [],World.ownsMap_made _ _ _ _,fun x _=>by simp;rfl⟩
theorem KS.kept (h:KS w b n L) (hb:w'.heap[b]? =w.heap[b]?):KS w' b n L:=by
 obtain ⟨D,⟨es,clock,h1,h2⟩,h3⟩:=h;exact ⟨D,⟨es,clock,hb.trans h1,h2⟩,h3⟩
theorem KS.lt (h:KS w b n L):b<w.heap.size:=by
 obtain ⟨D,h1,_⟩:=h;exact h1.lt
variable {ops:Array Oper} {rest:List Oper} {o:Oper} {a:Act} {Q:Exit->Act->World->Prop}
theorem zV {P:Program} {e:TypeId} (he:P.underlying e=some .bool) {v:Value} {z:DataW Unit×List MemPlace} (h:plainElem P e v=some z):∃x,v= .bool x/\z=(.lit (.bool x),[]):=by
 unfold plainElem at h;rw [he] at h;cases v<;>simp at h;exact ⟨_,rfl,h.symm⟩
theorem XJ:(zeroValue 4).run prog w= .ok (.bool false) w:=aB
end
theorem Qc:(prog.info? 264).map (fun i=>(i.zero,i.size,i.bytes))=some (some (.agg #[.slice none 0 0,.slice none 0 0]),2,48):=aB
theorem KS.put {w:World} {b n:Nat} {L:List (List Int)} (jk:KS w b n L) (hn:n<1000000000000) (x:List Int) (hok:KOk x):∃w',(Instr.mapUpdate 262 (.map (some b)) (.string (zU x)) (.bool true)).run prog w= .ok () w'/\KS w' b (n+1) (L++[x])/\w.grownBy w' (some b):=by
 obtain ⟨D,h1,h3⟩:=jk;have K:=Maps.string_keyed (P:=prog) underlying9;have FK:=h1.tidy K;obtain ⟨w',oD,r1,r2⟩:=h1.update K underlying262 aS (GL hok) (plainElem_bool underlying4 true);refine ⟨w',oD,⟨_,r1,fun y hy=> ?_⟩,r2⟩;by_cases e:y=x;·subst e;rw [Maps.atKey_put_same FK.isMap (K.key (GL hok))];simp
 have hne:(Lit.string (zU y).data.toList)≠.string (zU x).data.toList:=by intro e2;refine e (aaW hy hok ?_);simp only [Lit.string.injEq] at e2;exact ByteArray.ext (Array.ext' e2)
 rw [Maps.atKey_put_other hne,h3 y hy];simp [e]
theorem KS.look {w:World} {b n:Nat} {L:List (List Int)} (jk:KS w b n L) (x:List Int) (hok:KOk x):(Instr.lookup 262 (.map (some b)) (.string (zU x)) false).run prog w= .ok (.bool (decide (x∈L))) w:=by
 obtain ⟨D,h1,h3⟩:=jk;obtain ⟨v,ps,oD,hv⟩:=h1.lookup (Maps.string_keyed underlying9) underlying262 XJ (plainElem_bool underlying4 false) (GL hok);rw [h3 x hok] at hv;have hvb:v= .bool (decide (x∈L)):=by obtain ⟨y,rfl,hy⟩:=zV underlying4 hv;simp at hy;rw [hy.1]
 rw [oD,hvb]
theorem g_.aeO {m:g_} {l:List Int} (h:∀s∈l,0<=s/\s<m.h_.length):m.Vx l 0 [⟨l,[]⟩]:=by
 refine ⟨fun q hq=> ?_,fun q hq=> ?_,fun q hq=> ?_,aH⟩<;>obtain rfl:q=⟨l,[]⟩:=iq hq;·exact h
 ·rfl
 exact ⟨bM _,fun y hy=>by simp at hy⟩
theorem g_.Vx.up {m:g_} {l:List Int} {i j:Nat} {L:List Fq} (h:m.Vx l i L) (hij:i<=j):m.Vx l j L:=⟨h.st,h.len,fun q hq=>⟨dH (h.word q hq).1 hij,(h.word q hq).2⟩,h.size⟩
theorem g_.Vx.push {m:g_} {l:List Int} {i:Nat} {L:List Fq} (h:m.Vx l i L) {q:Fq} (h1:∀s∈q.st,0<=s/\s<m.h_.length) (h2:q.st.length=l.length) (h3:q.word.length<=i/\m.nQ q.word) (h4:¬4096<=L.length):m.Vx l i (L++[q]):=by
 refine ⟨fun x hx=> ?_,fun x hx=> ?_,fun x hx=> ?_,aJ⟩<;>rcases eG.1 hx with e|e;·exact h.st x e
 ·rw [dZ.1 e];exact h1
 ·exact h.len x e
 ·rw [dZ.1 e];exact h2
 ·exact h.word x e
 rw [dZ.1 e];exact h3
theorem g_.Qd {m:g_} (ok:m.Ok) {x:Nat} (hx:x<m.gZ.toNat) {l L:List Int} {s:Bool} (hl:∀s∈l,0<=s/\s<m.h_.length) (h:m.wQ x l=(L,true,s)):(∀s∈L,0<=s/\s<m.h_.length)/\L.length=l.length:=by
 unfold g_.wQ at h;split at h;·simp only [dX] at h;obtain ⟨rfl, -⟩:=h;unfold g_.wH;rw [dV];refine ⟨fun y hy=> ?_,aH⟩;obtain ⟨z,hz,rfl⟩:=aqJ.1 hy;have:=hl z hz;exact ok.nx z.toNat x ah hx
 simp at h
section
variable {M M':Nat->Prop} {w:World} {an ao b:Option Addr} {cn co d:Nat} {m:g_} {l:List Int}
theorem aaX (hm:Ma M w an cn ao co m) (hs:Sl M' w b d l) (ok:Hid m.Ok) (hl:Hid (∀s∈l,0<=s/\s<m.h_.length)) (hll:Hid (l.length<1000)):Calls prog 178 #[kF m an cn ao co,.slice b l.length d] w fun e w'=>∃(a':Option Addr) (c':Nat) (W:List Int) (y:Bool),e= .returned (.tuple #[.slice a' W.length c',.bool y])/\Hid (m.oZ l=(W,y))/\ Sl (fun k=>k<w.heap.size) w' a' c' W/\Below w.heap.size w w':=by
 have hB0:=iB w (iP m an cn ao co);have hx0:=jE w m an cn ao co;have hB1:=hB0.alloc aH (.map #[] 0);have hx1:=hx0.below ((bP (w.heap.size+1) (w.alloc (iP m an cn ao co))).alloc aH (.map #[] 0)) ah;have hK1:=KS.made (w.alloc (iP m an cn ao co));have hmb:(w.alloc (iP m an cn ao co)).heap.size=w.heap.size+1:=aH;rw [hmb] at hK1;have hz1:((w.alloc (iP m an cn ao co)).alloc (.map #[] 0)).heap.size=w.heap.size+2:=aH;have n1:=ok.out.n1;have i1:=ok.out.i1;have l1:=hm.h_.le;have l2:=hm.out.le;have HM:=bK hm;have HS:=bK (hs.anti (M':=fun k=>w.heap.size<=k) fun k hk h=>absurd hk ah);have hkl:Hid (KOk l):=⟨fun y hy=>by have:=hl.out y hy;omega,ig hll.out⟩;have HC:=bK (Mj (HS.out.below hB1) (bK hkl.out.1) (bK hkl.out.2));clear hm hs hB0 hx0;have hmm:= @asv prog;go_enter func178,ntmps178;go_wp2_with fail;generalize (w.alloc (iP m an cn ao co)).alloc (.map #[] 0)=w1 at*
 refine (HC.out).mono ?_;rintro e w2 ⟨rfl,hb2⟩;have hK2:=hK1.kept (hb2.block _ ah);have hx2:=hx1.below hb2 ah;have hB2:=hB1.trans (hb2.mono ah);have hz2:w.heap.size+2<=w2.heap.size:=ig hb2.size;clear hK1 hx1 hB1 hb2 hz1 HC hmb;obtain ⟨w3,aoB,hK3,PU⟩:=hK2.put ah l hkl.out;have hb3:=(bP (w.heap.size+1) w2).grown PU ah (fun k hk=>by cases hk;exact bM _);have hx3:=hx2.below hb3 ah;have hB3:=hB2.trans (hb3.mono ah);have hz3:w.heap.size+2<=w3.heap.size:=ig hb3.size;have hba:=iB w3 (.cells #[.slice b l.length d,.slice none 0 0] 264);have hK4:=hK3.kept (hba.block _ hK3.lt);have hx4:=hx3.below hba ah;have hB4:=hB3.trans (hba.mono ah);have hN4:=Oy.agG (N:=fun k=>k=w.heap.size+1) (B:=w.heap.size+2) (w:=w3) (T:=264) ((HS.out.below hB3).anti (M':=fun k=>k=w3.heap.size\/k=w.heap.size+1) (fun k _ hm=>by rcases hm with e|e<;>omega)) hz3;have nN:w.heap.size+2<=(w3.alloc (.cells #[.slice b l.length d,.slice none 0 0] 264)).heap.size:=ig hba.size;have Gd:Hid (m.Af l 0= .go [⟨l,[]⟩]):=rfl;have kJ:=bK (g_.aeO hl.out);clear hK2 PU hb3 hx3 hB3 hz3 hba hK3 hB2 hx2 hz2;go_wp2;generalize hgg:w3.alloc (.cells #[.slice b l.length d,.slice none 0 0] 264)=w4 at*
 clear hgg
 go_loopw [7,8] (fun v i wr=>∃(k:Nat) (a':Option Addr) (c':Nat) (L:List Fq),k<=4096/\i= .int .i64 k/\v= .slice a' L.length c'/\Hid (m.Af l k= .go L)/\Hid (m.Vx l k L)/\KS wr (w.heap.size+1) L.length (L.map Fq.st)/\
  Oy (fun k=>k=w.heap.size+1) (w.heap.size+2) wr 264 (.slice a' L.length c') L/\C4 wr w.heap.size an cn ao co m/\w.heap.size+2<=wr.heap.size/\Below w.heap.size w wr) (fun _ i _=>4097-(intOf i).toNat)
 case atStart=>exact ⟨0,some ⟨w3.heap.size,0,none⟩,1,[⟨l,[]⟩],ah,rfl,rfl,Gd,kJ,hK4,hN4,hx4,nN,hB4⟩
 case round=>
  clear Gd kJ hK4 hN4 hx4 nN hB4;obtain ⟨k,a',c',L,hk,rfl,rfl,hL,hLo,hK,hN,hC,hz,hB⟩:=hrel;obtain ⟨wo,rfl⟩:=iA wr;have hL4:=hLo.out.size;by_cases hlt:k<L.length
  ·obtain ⟨q,hq⟩:∃q,L[k]? =some q:=⟨_,bN hlt⟩;have hqm:=bV hq;have Ey:=bK (hLo.out.st q hqm);have hql:=bK (hLo.out.len q hqm);have IK:=bK (hLo.out.word q hqm);have HQ:=bK hq;have hr0:Hid (m.fRow q L 0= .go L):=rfl;have aaY:=bK (hLo.out.up (j:=k+1) ah);have am0:0<=m.gZ:=ig ok.out.i0;clear hq hqm;go_wp2
   go_loopw [7,29] (fun v i wr=>∃(j:Nat) (a':Option Addr) (c':Nat) (K:List Fq),j<=m.gZ.toNat/\i= .int .i64 j/\v= .slice a' K.length c'/\Hid (m.fRow q L j= .go K)/\Hid (m.Vx l (k+1) K)/\Hid (K[k]? =some q)/\KS wr (w.heap.size+1) K.length (K.map Fq.st)/\
    Oy (fun k=>k=w.heap.size+1) (w.heap.size+2) wr 264 (.slice a' K.length c') K/\C4 wr w.heap.size an cn ao co m/\w.heap.size+2<=wr.heap.size/\Below w.heap.size w wr) (fun _ i _=>m.gZ.toNat-(intOf i).toNat)
   case atStart=>exact ⟨0,a',c',L,ah,rfl,rfl,hr0,aaY,HQ,hK,hN,hC,hz,hB⟩
   case round=>
    clear hr0 aaY hK hN hC hz hB;obtain ⟨j,a2,c2,X,hj,rfl,rfl,hR,hKo,YN,hKS,hN,hC,hz,hB⟩:=hrel;obtain ⟨w5,rfl⟩:=iA wr;have hK4:=hKo.out.size;by_cases hlj:j<m.gZ.toNat
    ·obtain ⟨g,ar,cr,br,dr,rfl,hq0,hq1,hs0,hs1,hg,hgw⟩:=hN.ajv YN.out;have adL:((j:Nat):Int)<m.gZ:=ah;have hkK:k<X.length:=by
      by_cases e:k<X.length;·exact e
      have:=YN.out;rw [bZ ah] at this;simp at this
     go_upto_region 9 with (fail);refine iL (fun w'=>C4 w' w.heap.size an cn ao co m/\w'.cell? ⟨g,k*2,none⟩=some (.slice ar q.st.length cr)) [0,1,2,3,4,5,6,8,9,10,11,12,13,14] aB ?_;have hbd:=(bP w5.heap.size w5).drew;have Dy:=hKS.kept (hbd.block _ hKS.lt);have Ol:Oy (fun k=>k=w.heap.size+1) (w.heap.size+2) w5.drew 264 (.slice (some ⟨g,0,none⟩) X.length c2) X:=hN.below hbd;have YL:=hC.below hbd ah;have jo:=hB.trans (hbd.mono ah);have agH:=hs0.below hbd;have ajw:=hs1.below hbd;have qR:w.heap.size+2<=w5.drew.heap.size:=hz;have agI:g<w5.drew.heap.size:=hgw;have agJ:w5.drew.cell? ⟨g,k*2,none⟩=some (.slice ar q.st.length cr):=hq0;have ajx:w5.drew.cell? ⟨g,k*2+1,none⟩=some (.slice br q.word.length dr):=hq1;have hSd:C4 w5.drew w.heap.size an cn ao co m/\w5.drew.cell? ⟨g,k*2,none⟩=some (.slice ar q.st.length cr):=⟨YL,agJ⟩;clear hbd hKS hN hC hB hz hs0 hs1 hgw hq0 hq1;generalize w5.drew=w6 at*
     have apy:=agH.le;have HC:=bK (Xy (HM.out.below jo) agH ok Ey (by have:=hql.out;have:=hll.out;omega) j hlj);refine iZ [0,1,2,3,4,5,6] ?_;refine iK 7 fun K hK=> ?_;go_simp;refine (HC.out).mono ?_;rintro e w7 ⟨a7,c7,L7,p7,s7,rfl,haf,hs7,kG⟩;have adM:=Dy.kept (kG.block _ Dy.lt);have Rv:Oy (fun k=>k=w.heap.size+1) (w.heap.size+2) w7 264 (.slice (some ⟨g,0,none⟩) X.length c2) X:=Ol.below kG;have hC7:=YL.below kG ah;have jY:=jo.trans (kG.mono ah);have agK:=ajw.below kG;have ajy:=(kG.cell (p:=⟨g,k*2+1,none⟩) agI).trans ajx;have IL:C4 w7 w.heap.size an cn ao co m/\w7.cell? ⟨g,k*2,none⟩=some (.slice ar q.st.length cr):=⟨hC7,(kG.cell (p:=⟨g,k*2,none⟩) agI).trans agJ⟩;have xK:w.heap.size+2<=w7.heap.size:=ig kG.size;have ajp:g<w7.heap.size:=ig kG.size;refine hK _ _ (fun _=>IL) ?_
     replace hs7:=hs7.anti (M':=fun k=>(Value.slice (some ⟨g,0,none⟩) X.length c2).ownBlock=some k\/k=w.heap.size+1) (fun k _ hm=>by
      rcases hm with e|e
      ·have:g=k:=by simpa [Value.ownBlock] using e
       omega
      omega)
     clear hK K HC hSd Dy Ol YL jo agH ajw agJ ajx qR agI kG;refine iZ [8,9,10,11,12,13,14] ?_;refine iH aB ?_ _;clear IL;cases p7 with
     |false=>
      have hR2:Hid (m.fRow q L (j+1)= .go X):=g_.mI hR.out (by unfold g_.vZ;rw [haf.out];rfl);clear hs7 agK ajy haf;go_wp2;go_roundw;case rel=>exact ⟨j+1,some ⟨g,0,none⟩,c2,X,ah,by go_num,rfl,hR2,hKo,YN,adM,Rv,hC7,xK,jY⟩
      case measure=>exact bF
     |true=>
      have hat:=bK (g_.Qd ok.out hlj Ey.out haf.out);have XK:Hid (KOk L7):=⟨fun y hy=>by have:=hat.out.1 y hy;omega,by have:=hat.out.2;have:=hql.out;have:=hll.out;omega⟩;have adG:Hid (q.word.length<=4096):=bK (ig IK.out.1);have HC:=bK (rV agK (ig adG.out));have hji:Hid (i64 ((j:Nat):Int)):=by unfold Hid i64;omega
      clear agK;go_wp2_with fail;refine (HC.out).mono ?_;rintro e w8 ⟨a8,c8,W8,rfl,hW8,uf,rP⟩;have IQ:w7.heap.size<=w8.heap.size:=rP.size;have ajz:Hid (W8.length<1000000000000):=bK (by rw [hW8.out];have:=adG.out;omega);clear HC;go_wp2_with (at_builtin;refine iQ (B:=w7.heap.size) (l:=W8) (y:=((j:Nat):Int)) rfl rfl underlying49 iE rfl rfl (uf.alloc _) bf hji.out ajz.out aJ ?_);intro a9 c9 W9 w9 hW9 yF wO;have Tp:Below w7.heap.size w7 w9:=(rP.alloc IQ (.cells #[.int .i64 ((j:Nat):Int)] 3)).trans wO;have hW9:Hid (W9=q.word++[((j:Nat):Int)]):=bK (by rw [hW9.out,hW8.out]);have adN:=adM.kept (Tp.block _ adM.lt);have hN9:Oy (fun k=>k=w.heap.size+1) (w.heap.size+2) w9 264 (.slice (some ⟨g,0,none⟩) X.length c2) X:=Rv.below Tp;have hC9:=hC7.below Tp ah;have mH:=jY.trans (Tp.mono ah);have Rt:=hs7.below Tp;have hz9:w7.heap.size<=w9.heap.size:=Tp.size;have XL:=yF.fresh (bM _);clear adM Rv hC7 jY hs7 ajy uf rP hW8 ajz yF wO Tp IQ;cases s7 with
      |false=>
       have hF:Hid (m.oZ l=(W9,true)):=by unfold Hid;rw [g_.uO (g_.Bg (r:= .word W9) hL.out (by rw [yK];omega) hlt HQ.out (a:=j+1) ah (g_.mI hR.out (by unfold g_.vZ;rw [haf.out,hW9.out];rfl)) (fun K h=>by cases h))];rfl
       have am1:=XL.anti (M':=fun k=>k<w.heap.size) (fun k _ hk=>by omega);clear XL Rt adN hN9 hC9;go_wp2;go_ret2;exact ⟨a9,c9,W9,true,rfl,hF,am1,mH⟩
      |true=>
       have HC:=bK (Mj Rt (bK XK.out.1) (bK XK.out.2))
       replace XL:=XL.anti (M':=fun k=>(Value.slice (some ⟨g,0,none⟩) X.length c2).ownBlock=some k\/k=w.heap.size+1) (fun k _ hm=>by
        rcases hm with e|e
        ·have:g=k:=by simpa [Value.ownBlock] using e
         omega
        omega)
       go_wp2_with fail;refine (HC.out).mono ?_;rintro e qo ⟨rfl,nO⟩;have KA:=adN.kept (nO.block _ adN.lt);have Qe:Oy (fun k=>k=w.heap.size+1) (w.heap.size+2) qo 264 (.slice (some ⟨g,0,none⟩) X.length c2) X:=hN9.below nO;have adO:=hC9.below nO ah;have nE:=mH.trans (nO.mono ah);have aaZ:=Rt.below nO;have Tq:=XL.below nO;have ajg:w7.heap.size<=qo.heap.size:=ig nO.size;have hlk:=KA.look L7 XK.out;clear HC adN hN9 hC9 mH Rt XL nO;by_cases Ee:L7∈X.map Fq.st
       ·rw [dw Ee] at hlk;have hR2:Hid (m.fRow q L (j+1)= .go X):=g_.mI hR.out (by unfold g_.vZ;rw [haf.out];simp only [aqs,aqP];rw [bQ Ee]);clear Ee aaZ Tq;go_wp2;go_roundw;case rel=>exact ⟨j+1,some ⟨g,0,none⟩,c2,X,ah,by go_num,rfl,hR2,hKo,YN,KA,Qe,adO,ah,nE⟩
        case measure=>exact bF
       rw [cZ Ee] at hlk;have HM2:=bK Ee;clear Ee;by_cases h40:4096<=X.length
       ·have hF:Hid (m.oZ l=([],false)):=by unfold Hid;rw [g_.uO (g_.Bg (r:= .cut) hL.out (by rw [yK];omega) hlt HQ.out (a:=j+1) ah (g_.mI hR.out (by unfold g_.vZ;rw [haf.out];simp only [aqs,aqP];rw [bO HM2.out,bQ h40])) (fun K h=>by cases h))];rfl
        clear KA Qe adO aaZ Tq;go_wp2;go_ret2;exact ⟨none,0,[],false,rfl,hF,Sl.nil _ _ _ aS,nE⟩
       have hR2:Hid (m.fRow q L (j+1)= .go (X++[⟨L7,W9⟩])):=g_.mI hR.out (by unfold g_.vZ;rw [haf.out];simp only [aqs,aqP];rw [bO HM2.out,bO h40,hW9.out])
       have adP:Hid (m.Vx l (k+1) (X++[⟨L7,W9⟩])):=hKo.out.push hat.out.1 (hat.out.2.trans hql.out) ⟨by rw [hW9.out];have:=IK.out.1;simp;omega,by
        rw [hW9.out]
        intro y hy
        rcases eG.1 hy with hy|hy
        ·exact IK.out.2 y hy
        rw [dZ.1 hy];omega⟩ h40
       have adQ:Hid ((X++[⟨L7,W9⟩])[k]? =some q):=bK (by rw [dz hkK];exact YN.out);have HC:=bK (Mj aaZ (bK XK.out.1) (bK XK.out.2));go_wp2_with fail;refine (HC.out).mono ?_;rintro e Ae ⟨rfl,pV⟩;have agq:w7.heap.size<=Ae.heap.size:=ig pV.size;obtain ⟨Tt,am2,aeP,zn⟩:=(KA.kept (pV.block _ KA.lt)).put ah L7 XK.out;have hMb:∀k,some (w.heap.size+1)=some k->((Value.slice (some ⟨g,0,none⟩) X.length c2).ownBlock=some k\/k=w.heap.size+1):=fun k hk=> .inr (by cases hk;rfl)
       have ajA:Oy (fun k=>k=w.heap.size+1) (w.heap.size+2) Tt 264 (.slice (some ⟨g,0,none⟩) X.length c2) X:=(Qe.below pV).other zn hMb (fun k h1 h2=>by
        cases h2
        have:g=w.heap.size+1:=by simpa [Value.ownBlock] using h1
        omega)
       have vX:=(bP (w.heap.size+1) Ae).grown zn ah (fun k hk=>by cases hk;exact bM _);have ajB:=(adO.below pV ah).below vX ah;have Ec:=(nE.trans (pV.mono ah)).trans (vX.mono ah);have ajC:=(aaZ.below pV).ext (Ext.grownBy zn hMb);have ajD:=(Tq.below pV).ext (Ext.grownBy zn hMb);have amK:w7.heap.size<=Tt.heap.size:=ig vX.size;clear HC KA Qe adO nE aaZ Tq pV zn hMb vX;go_wp2_with (at_builtin;refine GK (N:=fun k=>k=w.heap.size+1) (B:=w.heap.size+2) (l:=X) (q:=⟨L7,W9⟩) rfl rfl underlying265 Qc rfl rfl rfl (ajA.alloc _) bf aH (ajC.alloc _) (ajD.alloc _) ah aJ ?_);intro a13 c13 X13 w13 XM Jk am3 Dz;have ajl:Tt.heap.size+1<=w13.heap.size:=iq Dz.size
       have Jl:=(bP (w.heap.size+2) (Tt.alloc (.cells #[.slice a7 L7.length c7,.slice a9 W9.length c9] 264))).grown Dz aJ (fun k hk=>by
        have:g=k:=by simpa [Value.ownBlock] using hk
        omega)
       have hba:=(bP (w.heap.size+2) Tt).alloc ah (.cells #[.slice a7 L7.length c7,.slice a9 W9.length c9] 264);have Jm:=hba.trans Jl;have aeQ:=aeP.kept (Jm.block (w.heap.size+1) ah);have e1:X13.length=X.length+1:=by rw [XM.out];simp
       have e2:X13.map Fq.st=X.map Fq.st++[L7]:=by rw [XM.out];simp
       rw [<-e1,<-e2] at aeQ;have am4:=ajB.below (Jm.mono (show w.heap.size+1<=w.heap.size+2 by omega)) ah;have zQ:=Ec.trans (Jm.mono ah);have hR3:Hid (m.fRow q L (j+1)= .go X13):=bK (by rw [hR2.out,XM.out]);have am5:Hid (m.Vx l (k+1) X13):=by rw [XM.out];exact adP
       have am6:Hid (X13[k]? =some q):=by rw [XM.out];exact adQ
       clear ajA aeP ajB Ec ajC ajD am3 Dz XM e1 e2 Jl hba Jm hR2 adP adQ;go_wp2;go_roundw;case rel=>exact ⟨j+1,a13,c13,X13,ah,by go_num,rfl,hR3,am5,am6,aeQ,Jk,am4,ah,zQ⟩
       case measure=>exact bF
    have hn1:Hid (m.Af l (k+1)= .go X):=by have e:j=m.gZ.toNat:=ah;rw [e] at hR;exact g_.Kz hL.out hlt HQ.out hR.out
    have hji:¬((j:Nat):Int)<m.gZ:=ah;go_wp2;go_roundw;case rel=>exact ⟨k+1,a2,c2,X,ah,by go_num,rfl,hn1,hKo,hKS,hN,hC,hz,hB⟩
    case measure=>exact bF
  have hF:Hid (m.oZ l=([],false)):=g_.uO (g_.Qb (i:=k) (by rw [yK];omega) hL.out ah);clear hN hK hC;go_wp2;go_ret2;exact ⟨none,0,[],false,rfl,hF,Sl.nil _ _ _ aS,hB⟩
end
def hdR (v:Value):Option (DataW Value×List MemPlace):=some (.held v,[])
def KG (w:World) (b n:Nat) (F:Nat->Value):Prop:=
 ∃D:DataW Value,w.ownsMap prog 3 hdR b n D/\∀s:Nat,s<1000->D.atKey (.int .i64 s) (.held (.slice none 0 0))= .held (F s)
theorem Mr {s:Nat} (h:s<1000):keyOf prog 3 (.int .i64 (s:Int))=some (.int .i64 (s:Int)):=
 Maps.keyOf_int_mk underlying3 (by
  show (decide ((-9223372036854775808:Int)<=(s:Int))&&decide ((s:Int)<=9223372036854775807))=true
  rw [dw ah,dw ah];rfl)
section
variable {w w':World} {b n:Nat} {F:Nat->Value}
theorem KG.made (w:World):KG (w.alloc (.map #[] 0)) w.heap.size 0 (fun _=> .slice none 0 0):=⟨.map [],World.ownsMap_made _ _ _ _,fun _ _=>rfl⟩
theorem KG.kept (h:KG w b n F) (hb:w'.heap[b]? =w.heap[b]?):KG w' b n F:=by
 obtain ⟨D,⟨es,clock,h1,h2⟩,h3⟩:=h;exact ⟨D,⟨es,clock,hb.trans h1,h2⟩,h3⟩
theorem KG.lt (h:KG w b n F):b<w.heap.size:=by
 obtain ⟨D,h1,_⟩:=h;exact h1.lt
theorem XO:(zeroValue 22).run prog w= .ok (.slice none 0 0) w:=aB
theorem KG.look (h:KG w b n F) {s:Nat} (hs:s<1000):(Instr.lookup 175 (.map (some b)) (.int .i64 (s:Int)) false).run prog w= .ok (F s) w:=by
 obtain ⟨D,h1,h3⟩:=h;obtain ⟨v,ps,oD,hv⟩:=h1.lookup (Maps.int_keyed underlying3) underlying175 XO (show hdR (.slice none 0 0)=some (.held (.slice none 0 0),[]) from rfl) (Mr hs);rw [h3 s hs] at hv;have:v=F s:=by unfold hdR at hv;simp only [dW,dX,DataW.held.injEq] at hv;exact hv.1
 rw [oD,this]
theorem KG.put (h:KG w b n F) (hn:n<1000000000000) {s:Nat} (hs:s<1000) (v:Value):∃w',(Instr.mapUpdate 175 (.map (some b)) (.int .i64 (s:Int)) v).run prog w= .ok () w'/\KG w' b (n+1) (fun j=>if j=s then v else F j)/\w.grownBy w' (some b):=by
 obtain ⟨D,h1,h3⟩:=h;have K:=Maps.int_keyed (P:=prog) underlying3;have FK:=h1.tidy K;obtain ⟨w',oD,r1,r2⟩:=h1.update K underlying175 aS (Mr hs) (show hdR v=some (.held v,[]) from rfl);refine ⟨w',oD,⟨_,r1,fun j hj=> ?_⟩,r2⟩;by_cases e:j=s;·subst e;rw [Maps.atKey_put_same FK.isMap (K.key (Mr hs))];simp
 have hne:(Lit.int .i64 (j:Int))≠.int .i64 (s:Int):=by intro e2;simp only [Lit.int.injEq,aqo] at e2;exact e ah
 rw [Maps.atKey_put_other hne,h3 j hj];simp only [bO e]
end
