/- Several texts, one behind the other. Conditions: as each of them says. -/
import Derived.Test.YtjagagpcjpcjjaaGreatMt40
import Derived.Test.YtjagagpcjpcjjaaGreatMt39
import Derived.Test.YtjagagpcjpcjjaaGreatMt36
import Derived.Test.YtjagagpcjpcjjaaGreatMt32
import Derived.Test.YtjagagpcjpcjjaaGreatMt28
import Derived.Test.YtjagagpcjpcjjaaGreatMt27
import Derived.Test.YtjagagpcjpcjjaaGreatMt24
import Derived.Test.YtjagagpcjpcjjaaGreatMt23
import Derived.Test.YtjagagpcjpcjjaaGreatMt21
import Derived.Test.YtjagagpcjpcjjaaGreatMt19
import Derived.Test.YtjagagpcjpcjjaaGreatMt17
import Derived.Test.YtjagagpcjpcjjaaGreatMt6
import Derived.Test.YtjagagpcjpcjjaaGreatMt3
import Derived.Test.YtjagagpcjpcjjaaGreatMt1
set_option maxRecDepth 100000
set_option maxHeartbeats 32000000
namespace Go.Proofs.YtjagagpcjpcjjaaGreat
open Go.RowKit
theorem Bd.new {w:World} {an ao:Option Addr} {cn co:Nat} {m:Mach} {n0:Nat} (hn:n0≤w.heap.size):Bd n0 (fun k=>k=w.heap.size) (w.alloc (.cells #[.int .i64 m.inputs,.int .i64 m.start,.slice an m.next.length cn,.slice ao m.out.length co,.slice none 0 0] 169)) w.heap.size an cn ao co m (.slice none 0 0) []:=by
 refine ⟨⟨?_,?_,?_,?_⟩,?_,?_,NdOk.nil,rfl,fun k hk=> ?_,fun k hk=>Nat.le_of_eq hk.symm,hn⟩
 ·simp
 ·simp
 ·simp
 ·simp
 ·simp
 ·unfold World.frozen?;rw [heap_alloc_new];simp
 subst hk;simp
def Mach.adsL (m:Mach):List Nd:=m.grow 4097 [] ⟨allS m.next.length,allS m.next.length⟩ []
def Mach.adsB (m:Mach):List Nd×Bool×Int:=if m.minErr≠0 then ([],false,m.minErr) else if 4096<m.adsL.length then ([],false,11) else (m.adsL,complB m.adsL,0)
section
variable {M:Nat→Prop} {w:World} {an ao:Option Addr} {cn co:Nat} {m:Mach}
end
def Mach.adsChk (m:Mach) (T:List Nd):Int:=if m.minErr≠0 then m.minErr else if 4096<T.length then 1 else if m.right T (T.length+1) 0 ⟨allS m.next.length,allS m.next.length⟩=(T.length,true) then 0 else 1
section
variable {M MT:Nat→Prop} {w:World} {an ao aT:Option Addr} {cn co cT:Nat} {m:Mach} {T:List Nd}
end
section
variable {M MT:Nat→Prop} {w:World} {an ao aT:Option Addr} {cn co cT:Nat} {m:Mach} {T:List Nd}
end
end Go.Proofs.YtjagagpcjpcjjaaGreat
namespace Go.Proofs.YtjagagpcjpcjjaaGreat
namespace Mach
variable (m:Mach)
def pathS:List Int→List Int→Option (List Int)
 |l,[]=>some l
 |l,a::w=>if (m.aft a.toNat l).2.1=true∧(m.aft a.toNat l).2.2=true then pathS (m.aft a.toNat l).1 w else none
def SafeW:List Int→List Int→Prop
 |_,[]=>False
 |l,a::w=>(m.aft a.toNat l).2.1=true∧((w=[]∧(m.aft a.toNat l).2.2=false)∨((m.aft a.toNat l).2.2=true∧SafeW (m.aft a.toNat l).1 w))
variable {m}
def FRp (m:Mach) (l:List Int):FR→Prop
 | .go L=>∀q∈L,m.pathS l q.word=some q.st
 | .word w=>m.SafeW l w
 | .cut=>True
structure GInv (m:Mach) (g:Gp) (w:List Int):Prop where
 ok:GOk m.next.length g
 nd:g.cur.Nodup
 wd:w=[]∨m.SafeW g.cur w
 ok2:m.okS w
end Mach
namespace Mach
variable {m:Mach}
structure QInv (m:Mach) (l:List Int) (i b:Nat) (L:List Fq):Prop where
 path:∀q∈L,m.pathS l q.word=some q.st
 first:L[0]? =some ⟨l,[]⟩
 mono:∀(j k:Nat) (x y:Fq),j≤k→L[j]? =some x→L[k]? =some y→x.word.length≤y.word.length
 near:∀(q x:Fq),L[i]? =some q→x∈L→x.word.length≤q.word.length+1
 done:∀(j a:Nat) (q:Fq),(j<i∧a<m.inputs.toNat∨j=i∧a<b)→L[j]? =some q→(m.aft a q.st).2.1=true→(m.aft a q.st).2.2=true∧∃x∈L,x.st=(m.aft a q.st).1∧x.word.length≤q.word.length+1
end Mach
def allB:Nat→List (List Bool)
 |0=>[[]]
 |n+1=>(allB n).flatMap fun x=>[false::x,true::x]
def trues (x:List Bool):Nat:=(x.filter fun b=>b).length
def msk (l:List Int):List Bool:=(List.range 8).map fun s:Nat=>decide ((s:Int)∈l)
namespace Mach
variable {m:Mach}
def SameS (l k:List Int):Prop:=∀s,s∈l↔s∈k
end Mach
namespace Mach
variable {m:Mach}
def nBd (k:Nat) (w:List Int):Nat:=if w=[] then 72*k-71 else w.length+72*k-142
end Mach
end Go.Proofs.YtjagagpcjpcjjaaGreat
namespace Go.Proofs.YtjagagpcjpcjjaaGreat
open Go.RowKit
structure Nn (n0:Nat) (W:Nat→Prop) (w:World) (v:Value) (L:List Nd):Prop where
 ok:NdOk (fun k=>W k∨k<n0) n0 w v L
 lt:∀k,W k→k<w.heap.size
 old:n0≤w.heap.size
section
variable {n0:Nat} {W W':Nat→Prop} {w w':World} {v:Value} {L:List Nd}
theorem Nn.ltV (h:Nn n0 W w v L):∀k,W k∨k<n0→k<w.heap.size:=fun k hk=>hk.elim (h.lt k) fun e=>by have:=h.old;omega
theorem Nn.ownW (h:Nn n0 W w v L):∀k,v.ownBlock=some k→n0≤k∧k<w.heap.size∧W k:=fun k hk=>by
 obtain ⟨h1,h2,h3⟩:=h.ok.ownB k hk
 exact ⟨h1,h2,h3.elim id fun e=>by omega⟩
theorem Nn.below (h:Nn n0 W w v L) (hb:Below w.heap.size w w'):Nn n0 W w' v L:=
 ⟨h.ok.below hb h.ltV,fun k hk=>Nat.lt_of_lt_of_le (h.lt k hk) hb.size,Nat.le_trans h.old hb.size⟩
theorem Nn.len (h:Nn n0 W w v L):∃a c,v= .slice a L.length c∧L.length≤c∧c≤maxLen:=h.ok.len
theorem Nn.nil (hn:n0≤w.heap.size):Nn n0 (fun _=>False) w (.slice none 0 0) []:=⟨NdOk.nil,fun _ h=>h.elim,hn⟩
theorem Nn.fresh {a:Option Addr} {c:Nat} {l:List Int} (h:Nn n0 W w v L) (hs:Sl (fun k=>k<w.heap.size) w' a c l):Sl (fun k=>W k∨k<n0) w' a c l:=hs.anti fun k _ hm=>h.ltV k hm
theorem Nn.sl {a:Option Addr} {c:Nat} (h:Nn n0 W w (.slice a L.length c) L):Sl (fun k=>k<n0) w a c L:=h.ok.toSl (fun _ h=>h) fun _ _ h=> .inr h
theorem Nn.node {a':Option Addr} {c':Nat} {l':List Nd} (h:Nn n0 W w v L) (hO:NdOk (fun k=>(W k∨k<n0)∨k=w.heap.size) n0 w' (.slice a' l'.length c') l') (hg:w.grownBy w' v.ownBlock):
    ∃W1,Nn n0 W1 w' (.slice a' l'.length c') l'∧Ext W W1 w w'∧Below n0 w w':=by
 have hes:=hg.size
 have hol:=h.old
 have he:Ext W (fun k=>W k∨k=w.heap.size) w w':=⟨hg.size,fun k hk hm=>hg.block k hk (fun e=>hm (h.ownW k e.symm).2.2),fun k hk hm=>hm.elim id (fun e=>by omega)⟩
 refine ⟨fun k=>(W k∨k=w.heap.size)∧k<w'.heap.size,⟨hO.re (fun k hk e=> ?_) (fun k hk e=> ?_),fun k hk=>hk.2,by omega⟩,he.trans (Ext.sub_only fun _ _ e=>e.1),(Below.refl _ _).grown hg hol fun k hk=>(h.ownW k hk).1⟩
 ·rcases e with e|e
  ·exact e.1.elim (fun e=> .inl (.inl e)) .inr
  exact .inl (.inr e)
 rcases e with (e|e)|e
 ·exact .inl ⟨.inl e,hk⟩
 ·exact .inr e
 exact .inl ⟨.inr e,hk⟩
theorem Nn.inp {g c:Nat} (h:Nn n0 W w (.slice (some ⟨g,0,none⟩) L.length c) L) {i:Nat} {nd:Nd} (hi:L[i]? =some nd) {y:Int} (hy:i64 y):
    Nn n0 W (w.setCell ⟨g,i*3+1,none⟩ (.int .i64 y)) (.slice (some ⟨g,0,none⟩) L.length c) (L.set i ⟨nd.st,y,nd.kids⟩)∧Ext W W w (w.setCell ⟨g,i*3+1,none⟩ (.int .i64 y))∧Below n0 w (w.setCell ⟨g,i*3+1,none⟩ (.int .i64 y)):=by
 have hgo:=h.ownW g rfl
 have hs:(w.setCell ⟨g,i*3+1,none⟩ (.int .i64 y)).heap.size=w.heap.size:=by simp [World.setCell]
 exact ⟨⟨h.ok.setInp hi hy,fun k hk=>by rw [hs];exact h.lt k hk,by rw [hs];exact h.old⟩,Ext.setCell _ (p:=⟨g,i*3+1,none⟩) hgo.2.2 _,(Below.refl _ _).setCell (p:=⟨g,i*3+1,none⟩) hgo.1 _⟩
theorem Nn.kid {g c:Nat} (h:Nn n0 W w (.slice (some ⟨g,0,none⟩) L.length c) L) {i:Nat} {nd:Nd} (hi:L[i]? =some nd) {ak a':Option Addr} {ck c':Nat} {K:List Kd} (hc:w.cell? ⟨g,i*3+2,none⟩=some (.slice ak nd.kids.length ck))
    (hO0:Ow n0 (fun k=>W k∨k<n0) w 228 (.slice ak nd.kids.length ck) nd.kids) (hO:Ow n0 (fun k=>(W k∨k<n0)∨k=w.heap.size) w' 228 (.slice a' K.length c') K) (hk:∀k,(Value.slice a' K.length c').ownBlock=some k→(Value.slice ak nd.kids.length ck).ownBlock=some k∨k=w.heap.size) (hgr:w.grownBy w' (Value.slice ak nd.kids.length ck).ownBlock):
    ∃W1,Nn n0 W1 (w'.setCell ⟨g,i*3+2,none⟩ (.slice a' K.length c')) (.slice (some ⟨g,0,none⟩) L.length c) (L.set i ⟨nd.st,nd.inp,K⟩)∧Ext W W1 w (w'.setCell ⟨g,i*3+2,none⟩ (.slice a' K.length c'))∧Below n0 w (w'.setCell ⟨g,i*3+2,none⟩ (.slice a' K.length c')):=by
 have hgo:=h.ownW g rfl
 have hWk:∀k,(Value.slice ak nd.kids.length ck).ownBlock=some k→W k:=fun k hk=>by
  have h1:=(h.ok.kidW hi hc k hk).1
  have:=(hO0.lt k hk).1
  exact h1.elim id fun e=>by omega
 have hs:(w'.setCell ⟨g,i*3+2,none⟩ (.slice a' K.length c')).heap.size=w'.heap.size:=by simp [World.setCell]
 have hx1:Ext W (fun k=>W k∨k=w.heap.size) w w':=⟨hgr.size,fun k hk hm=>hgr.block k hk (fun e=>hm (hWk k e.symm)),fun k hk hm=>hm.elim id (fun e=>by omega)⟩
 have hes:=hgr.size
 have hol:=h.old
 have hb1:=(Below.refl n0 w).grown hgr hol fun k hk=>(hO0.lt k hk).1
 refine ⟨fun k=>(W k∨k=w.heap.size)∧k<(w'.setCell ⟨g,i*3+2,none⟩ (.slice a' K.length c')).heap.size,⟨(h.ok.pushKid hi hc hO hk hgr h.ltV).re (fun k hk e=> ?_) (fun k hk e=> ?_),fun k hk=>hk.2,by rw [hs];omega⟩,(hx1.trans (Ext.setCell _ (p:=⟨g,i*3+2,none⟩) (.inl hgo.2.2) _)).trans (Ext.sub_only fun _ _ e=>e.1),hb1.setCell (p:=⟨g,i*3+2,none⟩) hgo.1 _⟩
 ·rcases e with e|e
  ·exact e.1.elim (fun e=> .inl (.inl e)) .inr
  exact .inl (.inr e)
 rcases e with (e|e)|e
 ·exact .inl ⟨.inl e,hk⟩
 ·exact .inr e
 exact .inl ⟨.inr e,hk⟩
end
section
variable {P:Program} {w:World} {o:Oper} {a:Act} {ops:Array Oper} {rest:List Oper} {Q:Exit→Act→World→Prop}
end
def RelG (R G:List Nd):Prop:=(R=G∧G.length≤4096)∨(4096<R.length∧4096<G.length)
def GrPre (L R:List Nd):Prop:=L.length≤R.length∧R.length≤4097∧∀i,i<L.length→R[i]? =L[i]?
theorem GrPre.trans {L R S:List Nd} (h:GrPre L R) (k:GrPre R S):GrPre L S:=⟨Nat.le_trans h.1 k.1,k.2.1,fun i hi=>(k.2.2 i (by have:=h.1;omega)).trans (h.2.2 i hi)⟩
namespace Mach
variable {m:Mach}
end Mach
def Grown (n0:Nat) (W:Nat→Prop) (w:World) (L G:List Nd) (e:Ending) (w':World):Prop:=
 ∃(W':Nat→Prop) (a':Option Addr) (c':Nat) (R:List Nd),e= .returned (.slice a' R.length c')∧Nn n0 W' w' (.slice a' R.length c') R∧Hid (RelG R G)∧Hid (GrPre L R)∧Ext W W' w w'∧Below n0 w w'
def Grow12C (f:Nat):Prop:=∀{n0:Nat} {W:Nat→Prop} {w:World} {an ao ai ac au aL:Option Addr} {cn co ci cc cu cL:Nat} {m:Mach} {L:List Nd} {g:Gp} {u:List Int},
    Nn n0 W w (.slice aL L.length cL) L→Ma W w an cn ao co m→Sl (fun k=>W k∨k<n0) w ai ci g.ini→Sl W w ac cc g.cur→Sl W w au cu u→Hid m.Ok→Hid (GOk m.next.length g)→Hid (g.cur.length<1000)→Hid (m.okS u)→Hid (L.length≤4097)→Hid (4097≤L.length+f)→
    Calls Tryz.prog 153 #[maV m an cn ao co,.slice ai g.ini.length ci,.slice ac g.cur.length cc,.slice au u.length cu,.slice aL L.length cL] w (Grown n0 W w L (m.grow f L g u))
theorem Nn.alloc {n0:Nat} {W:Nat→Prop} {w:World} {v:Value} {L:List Nd} (h:Nn n0 W w v L) (o:Obj):Nn n0 W (w.alloc o) v L:=h.below ((Below.refl _ _).alloc (Nat.le_refl _) _)
def Mach.idE (m:Mach) (T:List Nd):List (List (List Int))×Int:=if m.adsChk T≠0 then ([],m.adsChk T) else (m.ids T,0)
def Sm6 (l:List (List Int)):Prop:=l.length<10000∧∀r∈l,r.length≤1000000
section
variable {M MT:Nat→Prop} {w:World} {an ao aT:Option Addr} {cn co cT:Nat} {m:Mach} {T:List Nd}
end
end Go.Proofs.YtjagagpcjpcjjaaGreat
namespace Go.Proofs.YtjagagpcjpcjjaaGreat
def InW (n:Int) (N:Nat) (w:List Int):Prop:=(∀a∈w,0≤a∧a<n)∧w.length≤N
theorem nxW_in {n:Int}:∀{w ys:List Int},(∀a∈w,0≤a∧a<n)→nxW n w=some ys→(∀a∈ys,0≤a∧a<n)∧ys.length=w.length
 |[],ys,h,e=>by simp [nxW] at e
 |x::xs,ys,h,e=>by
  have hx:=h x (.head _)
  unfold nxW at e
  split at e
  ·rename_i zs hz
   obtain ⟨h1,h2⟩:=nxW_in (fun a ha=>h a (.tail _ ha)) hz
   simp at e;subst e
   refine ⟨fun a ha=> ?_,by simp [h2]⟩
   rcases List.mem_cons.1 ha with rfl|ha
   ·exact hx
   exact h1 a ha
  split at e
  ·rename_i hlt
   simp at e;subst e
   refine ⟨fun a ha=> ?_,by simp⟩
   rcases List.mem_cons.1 ha with rfl|ha
   ·omega
   rw [List.eq_of_mem_replicate ha];omega
  simp at e
theorem nextV_in {n:Int} (hn:1≤n) {w:List Int} (h:∀a∈w,0≤a∧a<n):∀a∈nextV w n,0≤a∧a<n:=by
 unfold nextV
 split
 ·intro a ha;simp at ha
 split
 ·rename_i y hy
  exact (nxW_in h hy).1
 split
 ·intro a ha;simp at ha
 intro a ha;rw [List.eq_of_mem_replicate ha];omega
theorem upt_in {n N:Int} (hn:1≤n):∀(f:Nat) (out:List (List Int)) (w:List Int) (ok:Bool),(∀x∈out,InW n N.toNat x)→(∀a∈w,0≤a∧a<n)→(∀x∈(upt n N f out w ok).1,InW n N.toNat x)∧(upt n N f out w ok).1.length≤out.length+f
 |0,out,w,ok,ho,hw=>⟨ho,Nat.le_refl _⟩
 |f+1,out,w,ok,ho,hw=>by
  unfold upt
  split
  ·rename_i h1
   split
   ·exact ⟨fun x hx=>by simp at hx,by simp⟩
   have h2 := upt_in (N := N) hn f (out ++ [w]) (nextV w n) (nextB w n) (fun x hx => by
    rcases List.mem_append.1 hx with e|e
    ·exact ho x e
    rw [List.mem_singleton.1 e];exact ⟨hw,by have:=h1.2;omega⟩) (nextV_in hn hw)
   refine ⟨h2.1,?_⟩
   have:=h2.2
   simp at this
   omega
  exact ⟨ho,by show out.length≤_;omega⟩
theorem uptW_in (n N:Int):(∀x∈(uptW n N).1,InW n N.toNat x)∧(uptW n N).1.length≤10001:=by
 unfold uptW
 split
 ·exact ⟨fun x hx=>by simp at hx,by simp⟩
 rename_i h
 have:=upt_in (n:=n) (N:=N) (by omega) 10001 [] [] true (fun x hx=>by simp at hx) (fun a ha=>by simp at ha)
 simpa using this
def sg (n:Mach) (ids:List (List (List Int))) (p x:List Int):List (List Int):=(tailW n ids (p++x)).map fun t=>(p++x)++t
def sf (n:Mach) (ids:List (List (List Int))) (X:List (List Int)) (p:List Int):List (List Int):=X.flatMap fun x=>sg n ids p x
def suOut (n:Mach) (ids:List (List (List Int))) (A X:List (List Int)):List (List Int):=A.flatMap fun p=>sf n ids X p
namespace Mach
def suW (m:Mach) (extra:Int):List (List Int)×Int:=
 if m.err≠0 then ([],m.err) else
 if extra<0∨3<extra then ([],2) else
 if (uptW m.inputs (extra+1)).2≠0 then ([],(uptW m.inputs (extra+1)).2) else
 if m.minOf.adsB.2.2≠0 then ([],m.minOf.adsB.2.2) else
 if (m.minOf.idE m.minOf.adsB.1).2≠0 then ([],(m.minOf.idE m.minOf.adsB.1).2) else
 if 10000<(m.minOf.covW.map Pc.word).length*(uptW m.inputs (extra+1)).1.length*grW (m.minOf.idE m.minOf.adsB.1).1 then ([],11) else
 (maxW (suOut m.minOf (m.minOf.idE m.minOf.adsB.1).1 (m.minOf.covW.map Pc.word) (uptW m.inputs (extra+1)).1),0)
end Mach
end Go.Proofs.YtjagagpcjpcjjaaGreat
namespace Go.Proofs.YtjagagpcjpcjjaaGreat
open Go.RowKit
section
variable {M:Nat→Prop} {w:World} {an ao:Option Addr} {cn co:Nat} {m:Mach}
end
section
variable {M M' M'':Nat→Prop} {w:World} {an ao a b d:Option Addr} {cn co ca cb cd:Nat} {m:Mach} {xs ys zs:List Int}
end
section
variable {M M' M'':Nat→Prop} {w:World} {an ao a b:Option Addr} {cn co c d:Nat} {m:Mach} {ids:List (List (List Int))} {l:List Int}
end
def madeW (t:Mach) (I:List (List (List Int))) (A X:List (List Int)):List (List Int)×Int:=if 10000<A.length*X.length*grW I then ([],11) else (maxW (suOut t I A X),0)
section
variable {M MA MX MI:Nat→Prop} {w:World} {an ao aA aX aI:Option Addr} {cn co cA cX cI:Nat} {t:Mach} {A X:List (List Int)} {I:List (List (List Int))}
end
end Go.Proofs.YtjagagpcjpcjjaaGreat
