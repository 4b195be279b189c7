/- Lemmas, each with its own conditions. -/
import Derived.Test.YtjagagpcjpcjjaaGreatMw40
import Derived.Test.YtjagagpcjpcjjaaGreatMw35
import Derived.Test.YtjagagpcjpcjjaaGreatMw32
set_option maxRecDepth 100000
set_option maxHeartbeats 32000000
namespace Go.Proofs.YtjagagpcjpcjjaaGreat
section
open Tryz
structure Ms (n:Nat) (g:Gp):Prop where
 le:g.jC.length=g.cur.length
 pos:0<g.cur.length
 st:∀s∈g.cur,0<=s/\s<n
def jB (t:Nat) (q:Kd) (K:List Nd):List Nd:=match K[t]? with
 |some nd=>K.set t ⟨nd.st,nd.inp,nd.kids++[q]⟩
 |none=>K
theorem qy {t:Nat} {q:Kd} {K:List Nd}:(jB t q K).length=K.length:=by unfold jB;split<;>simp
theorem wh {t i:Nat} {q:Kd} {K:List Nd} (h:i≠t):(jB t q K)[i]? =K[i]? :=by
 unfold jB;split;·rw [dY (fun e=>h e.symm)]
 rfl
theorem kD {t:Nat} {q:Kd} {K:List Nd} {nd:Nd} (h:K[t]? =some nd):jB t q K=K.set t ⟨nd.st,nd.inp,nd.kids++[q]⟩:=by unfold jB;rw [h]
def qb (rc:List Nd->Gp->List Nd) (t:Nat) (L:List Nd) (p:Int×Gp):List Nd:=if 4096<L.length then L else jB t ⟨p.1,L.length⟩ (rc L p.2)
namespace g_
variable (m:g_)
def qc (g:Gp) (w:List Int):List Int:=if w.length=0/\1<g.jC.length then (m.oZ g.cur).1 else w
def jS (x:Nat) (g:Gp):List (Int×Gp):=(m.jG x g.cur).zip (m.Jj x g.jC g.cur)
def grow:Nat->List Nd->Gp->List Int->List Nd
 |0,L,_,_=>L
 |f+1,L,g,w=>
  if 4096<L.length+1 then L++[⟨g.jC, -1,[]⟩] else
  match m.qc g w with
  |[]=>L++[⟨g.jC, -1,[]⟩]
  |a::u=>(m.jS a.toNat g).foldl (qb (fun K h=>grow f K h u) L.length) (L++[⟨g.jC,a,[]⟩])
def jO (f t:Nat) (u:List Int) (ps:List (Int×Gp)) (L:List Nd):List Nd:=ps.foldl (qb (fun K h=>m.grow f K h u) t) L
variable {m}
theorem uP {f t:Nat} {u:List Int} (ih:∀L g w,L.length<=(m.grow f L g w).length/\∀i,i<L.length->(m.grow f L g w)[i]? =L[i]?):∀(ps:List (Int×Gp)) (L:List Nd),L.length<=(m.jO f t u ps L).length/\∀i,i<L.length->i≠t->(m.jO f t u ps L)[i]? =L[i]?
 |[],L=>⟨bM _,fun _ _ _=>rfl⟩
 |p::ps,L=>by
  have h:=uP (t:=t) (u:=u) ih ps (qb (fun K h=>m.grow f K h u) t L p)
  have hk:L.length<=(qb (fun K h=>m.grow f K h u) t L p).length/\∀i,i<L.length->i≠t->(qb (fun K h=>m.grow f K h u) t L p)[i]? =L[i]? :=by
   unfold qb
   split
   ·exact ⟨bM _,fun _ _ _=>rfl⟩
   rw [qy]
   exact ⟨(ih _ _ _).1,fun i hi hn=>by rw [wh hn];exact (ih _ _ _).2 i hi⟩
  exact ⟨dH hk.1 h.1,fun i hi hn=>(h.2 i ah hn).trans (hk.2 i hi hn)⟩
theorem mR:∀(f:Nat) (L:List Nd) (g:Gp) (w:List Int),L.length<=(m.grow f L g w).length/\∀i,i<L.length->(m.grow f L g w)[i]? =L[i]?
 |0,L,g,w=>⟨bM _,fun _ _=>rfl⟩
 |f+1,L,g,w=>by
  have hA:∀x:Nd,L.length<=(L++[x]).length/\∀i,i<L.length->(L++[x])[i]? =L[i]? :=fun x=>⟨aH,fun i hi=>dz hi⟩
  unfold grow
  split
  ·exact hA _
  split
  ·exact hA _
  rename_i a u _
  have h:=uP (t:=L.length) (u:=u) (mR f) (m.jS a.toNat g) (L++[⟨g.jC,a,[]⟩])
  have h2:=hA ⟨g.jC,a,[]⟩
  exact ⟨dH h2.1 h.1,fun i hi=>(h.2 i aJ ah).trans (h2.2 i hi)⟩
theorem Ct {f t:Nat} {u:List Int} (ih:∀L g w,L.length<=4096->(m.grow f L g w).length<=4097):∀(ps:List (Int×Gp)) (L:List Nd),L.length<=4097->(m.jO f t u ps L).length<=4097
 |[],L,h=>h
 |p::ps,L,h=>by
  refine Ct ih ps (qb (fun K h=>m.grow f K h u) t L p) ?_
  unfold qb
  split
  ·exact h
  rw [qy];exact ih _ _ _ ah
theorem Qf:∀(f:Nat) (L:List Nd) (g:Gp) (w:List Int),L.length<=4096->(m.grow f L g w).length<=4097
 |0,L,g,w,h=>by unfold grow;omega
 |f+1,L,g,w,h=>by
  unfold grow
  split
  ·simp;omega
  split
  ·simp;omega
  rename_i a u _
  exact Ct (Qf f) (m.jS a.toNat g) (L++[⟨g.jC,a,[]⟩]) aJ
theorem Qg {f t:Nat} {u:List Int}:∀(ps:List (Int×Gp)) (L:List Nd) (x:Nd),L[t]? =some x->∃y,(m.jO f t u ps L)[t]? =some y/\y.st=x.st/\y.inp=x.inp/\y.kids.length<=x.kids.length+ps.length
 |[],L,x,h=>⟨x,h,rfl,rfl,aH⟩
 |p::ps,L,x,h=>by
  have ht:=iW h
  have hk:∃z,(qb (fun K h=>m.grow f K h u) t L p)[t]? =some z/\z.st=x.st/\z.inp=x.inp/\z.kids.length<=x.kids.length+1:=by
   unfold qb
   split
   ·exact ⟨x,h,rfl,rfl,ah⟩
   have h1:=((mR (m:=m) f L p.2 u).2 t ht).trans h
   have h2:=iW h1
   exact ⟨⟨x.st,x.inp,x.kids++[⟨p.1,L.length⟩]⟩,by rw [kD h1];simp [h2],rfl,rfl,aH⟩
  obtain ⟨z,z1,z2,z3,z4⟩:=hk
  obtain ⟨y,y1,y2,y3,y4⟩:=Qg ps _ z z1
  exact ⟨y,y1,y2.trans z2,y3.trans z3,aJ⟩
theorem GN {f t:Nat} {u:List Int} {ps:List (Int×Gp)} {k:Nat} {p:Int×Gp} (L:List Nd) (h:ps[k]? =some p):m.jO f t u (ps.take (k+1)) L=qb (fun K h=>m.grow f K h u) t (m.jO f t u (ps.take k) L) p:=by
 unfold jO;rw [dh,h,aql];rfl
theorem Cu {f t:Nat} {u:List Int}:∀(ps:List (Int×Gp)) (L:List Nd),4096<L.length->m.jO f t u ps L=L
 |[],L,_=>rfl
 |p::ps,L,h=>by
  have:qb (fun K h=>m.grow f K h u) t L p=L:=by unfold qb;rw [bQ h]
  show m.jO f t u ps (qb (fun K h=>m.grow f K h u) t L p)=L
  rw [this];exact Cu ps L h
theorem Tv {f t:Nat} {u:List Int} {ps:List (Int×Gp)} {k:Nat} (L:List Nd) (h:4096<(m.jO f t u (ps.take k) L).length):m.jO f t u ps L=m.jO f t u (ps.take k) L:=by
 have e:m.jO f t u ps L=m.jO f t u (ps.drop k) (m.jO f t u (ps.take k) L):=by unfold jO;rw [<-aql,fJ]
 rw [e,Cu _ _ h]
theorem Cv {f:Nat} {L:List Nd} {g:Gp} {w:List Int} (h:4096<L.length+1):m.grow (f+1) L g w=L++[⟨g.jC, -1,[]⟩]:=by unfold grow;rw [bQ h]
theorem Cw {f:Nat} {L:List Nd} {g:Gp} {w:List Int} (h:m.qc g w=[]):m.grow (f+1) L g w=L++[⟨g.jC, -1,[]⟩]:=by unfold grow;rw [h];split<;>rfl
theorem Mt {f:Nat} {L:List Nd} {g:Gp} {w u:List Int} {a:Int} (h0:¬4096<L.length+1) (h:m.qc g w=a::u):m.grow (f+1) L g w=m.jO f L.length u (m.jS a.toNat g) (L++[⟨g.jC,a,[]⟩]):=by
 conv=>lhs;unfold grow
 rw [bO h0,h];rfl
theorem Cx {g:Gp} {x:Nat} {o:Int} (ok:m.Ok) (hx:x<m.gZ.toNat) (h:Ms m.h_.length g) (ho:o∈m.jG x g.cur):Ms m.h_.length (m.yH x g.jC g.cur o):=by
 have hz:(g.jC.zip g.cur).map Prod.snd=g.cur:=ark (ig h.le);refine ⟨?_,?_,fun s hs=> ?_⟩;·show (m.gpI x g.jC g.cur o).length=(m.IJ x g.jC g.cur o).length;unfold gpI IJ;rw [dJ,dJ]
 ·show 0<(m.IJ x g.jC g.cur o).length;unfold IJ jG at*
  rw [dJ];rw [pR,aqJ] at ho;obtain ⟨s,hs,rfl⟩:=ho;rw [<-hz,aqJ] at hs;obtain ⟨p,hp,rfl⟩:=hs;exact List.length_pos_of_mem (aq8.2 ⟨hp,aH⟩)
 obtain ⟨p,hp,rfl⟩:=aqJ.1 (show s∈m.IJ x g.jC g.cur o from hs);have hp2:p.2∈g.cur:=by rw [<-hz];exact gU (aq8.1 hp).1
 have:=h.st p.2 hp2;exact ok.nx p.2.toNat x ah hx
theorem GQ {g:Gp} {x:Nat} {o:Int}:(m.yH x g.jC g.cur o).cur.length<=g.cur.length:=by
 show (m.IJ x g.jC g.cur o).length<=_;unfold IJ;rw [dJ];refine dH (fK _ _) ?_;rw [aqO];omega
theorem o_ {g:Gp} {x k:Nat} {o:Int} (h:(m.jG x g.cur)[k]? =some o):(m.jS x g)[k]? =some (o,m.yH x g.jC g.cur o):=by
 unfold jS Jj;rw [List.getElem?_zip_eq_some];exact ⟨h,by rw [dP,h];rfl⟩
theorem oJ {g:Gp} {x:Nat}:(m.jS x g).length=(m.jG x g.cur).length:=by unfold jS Jj;rw [aqO,dJ];omega
theorem XP {q:Fq} {a:Nat} {L:List Fq} {w:List Int} (hq:m.nQ q.word) (ha:a<m.gZ.toNat) (h:m.vZ q a L= .word w):m.nQ w:=by
 unfold vZ at h;split at h;·simp at h
 split at h
 ·simp only [FR.word.injEq] at h;subst h;intro y hy;rcases eG.1 hy with e|e;·exact hq y e
  rw [dZ.1 e];omega
 split at h;·simp at h
 split at h<;>simp at h
theorem adR {q:Fq} {a:Nat} {L K:List Fq} (hL:∀p∈L,m.nQ p.word) (hq:m.nQ q.word) (ha:a<m.gZ.toNat) (h:m.vZ q a L= .go K):∀p∈K,m.nQ p.word:=by
 unfold vZ at h;split at h;·simp only [FR.go.injEq] at h;subst h;exact hL
 split at h;·simp at h
 split at h;·simp only [FR.go.injEq] at h;subst h;exact hL
 split at h;·simp at h
 simp only [FR.go.injEq] at h;subst h;intro p hp;rcases eG.1 hp with e|e;·exact hL p e
 rw [dZ.1 e];intro y hy;rcases eG.1 hy with e|e;·exact hq y e
 rw [dZ.1 e];omega
def ajE (m:g_):FR->Prop
 | .go L=>∀p∈L,m.nQ p.word
 | .word w=>m.nQ w
 | .cut=>True
theorem Vy {q:Fq} {L:List Fq} (hL:∀p∈L,m.nQ p.word) (hq:m.nQ q.word):∀a,a<=m.gZ.toNat->ajE m (m.fRow q L a)
 |0,_=>hL
 |a+1,ha=>by
  have ih:=Vy hL hq a ah
  unfold fRow
  split
  ·rename_i K hK
   rw [hK] at ih
   cases e:m.vZ q a K with
   |go K2=>exact adR ih hq ah e
   |word w=>exact XP hq ah e
   |cut=>trivial
  exact ih
theorem aa0 {l:List Int}:∀i,ajE m (m.Af l i)
 |0=>by
  intro p hp
  obtain rfl:p=⟨l,[]⟩:=iq hp
  intro y hy;simp at hy
 |i+1=>by
  have ih:=aa0 (l:=l) i
  unfold Af
  split
  ·rename_i L hL
   rw [hL] at ih
   split
   ·rename_i hi
    refine Vy ih ?_ _ (bM _)
    rw [bS,bN hi]
    exact ih _ (dQ hi)
   exact ih
  exact ih
theorem aa1 (l:List Int):m.nQ (m.oZ l).1:=by
 have h:=aa0 (m:=m) (l:=l) Cr;unfold oZ;cases e:m.Af l Cr with
 |go L=>intro y hy;simp [fRes] at hy
 |word w=>rw [e] at h;exact h
 |cut=>intro y hy;simp [fRes] at hy
theorem Bh {g:Gp} {w:List Int} (h:m.nQ w):m.nQ (m.qc g w):=by
 unfold qc;split;·exact aa1 _
 exact h
end g_
namespace g_
variable (m:g_)
def mU (rc:Nat->Gp->Nat×Bool):List ((Int×Gp)×Kd)->Nat->Nat×Bool
 |[],n=>(n,true)
 |z::l,n=>if z.2.out≠z.1.1\/z.2.to≠n then (0,false) else match rc n z.1.2 with
  |(n',true)=>mU rc l n'
  |(_,false)=>(0,false)
def right (T:List Nd):Nat->Nat->Gp->Nat×Bool
 |0,_,_=>(0,false)
 |f+1,a,g=>match T[a]? with
  |none=>(0,false)
  |some x=>if x.st≠g.jC\/(kR g.cur).length≠g.cur.length then (0,false) else
   if x.inp= -1 then (a+1,decide (x.kids.length=0)) else
   if x.inp<0\/m.gZ<=x.inp then (0,false) else
   if (m.jS x.inp.toNat g).length≠x.kids.length then (0,false) else
   mU (fun n h=>right T f n h) ((m.jS x.inp.toNat g).zip x.kids) (a+1)
variable {m}
theorem Qh {T:List Nd} {rc:Nat->Gp->Nat×Bool} (ih:∀n h k,rc n h=(k,true)->n<k/\k<=T.length):∀(l:List ((Int×Gp)×Kd)) (n k:Nat),n<=T.length->mU rc l n=(k,true)->n<=k/\k<=T.length
 |[],n,k,hn,h=>by simp [mU] at h;omega
 |z::l,n,k,hn,h=>by
  unfold mU at h
  split at h
  ·simp at h
  split at h
  ·rename_i n' hn'
   have h1:=ih _ _ _ hn'
   have h2:=Qh ih l n' k h1.2 h
   omega
  simp at h
theorem uQ {T:List Nd}:∀(f a:Nat) (g:Gp) (k:Nat),m.right T f a g=(k,true)->a<k/\k<=T.length
 |0,a,g,k,h=>by simp [right] at h
 |f+1,a,g,k,h=>by
  unfold right at h
  split at h
  ·simp at h
  rename_i x hx
  have hlt:=iW hx
  split at h
  ·simp at h
  split at h
  ·simp at h;omega
  split at h
  ·simp at h
  split at h
  ·simp at h
  have:=Qh (T:=T) (uQ f) _ (a+1) k hlt h
  omega
theorem GU {T:List Nd} {f a:Nat} {g:Gp} (h:T.length<=a):m.right T f a g=(0,false):=by
 cases f with
 |zero=>rfl
 |succ f=>unfold right;rw [bZ h]
theorem uR {T:List Nd} {f a:Nat} {g:Gp} {x:Nd} (hx:T[a]? =some x) (h:x.st≠g.jC\/(kR g.cur).length≠g.cur.length):m.right T (f+1) a g=(0,false):=by
 unfold right;rw [hx];simp only [];rw [bQ h]
theorem zW {T:List Nd} {f a:Nat} {g:Gp} {x:Nd} (hx:T[a]? =some x) (h:¬(x.st≠g.jC\/(kR g.cur).length≠g.cur.length)) (h2:x.inp= -1):m.right T (f+1) a g=(a+1,decide (x.kids.length=0)):=by
 unfold right;rw [hx];simp only [];rw [bO h,bQ h2]
theorem Cy {T:List Nd} {f a:Nat} {g:Gp} {x:Nd} (hx:T[a]? =some x) (h2:x.inp≠ -1) (h3:x.inp<0\/m.gZ<=x.inp):m.right T (f+1) a g=(0,false):=by
 unfold right;rw [hx];simp only [];by_cases hc:x.st≠g.jC\/(kR g.cur).length≠g.cur.length;·rw [bQ hc]
 rw [bO hc,bO h2,bQ h3]
theorem Cz {T:List Nd} {f a:Nat} {g:Gp} {x:Nd} (hx:T[a]? =some x) (h2:x.inp≠ -1) (h4:(m.jS x.inp.toNat g).length≠x.kids.length):m.right T (f+1) a g=(0,false):=by
 unfold right;rw [hx];simp only [];by_cases hc:x.st≠g.jC\/(kR g.cur).length≠g.cur.length;·rw [bQ hc]
 rw [bO hc,bO h2];by_cases hd:x.inp<0\/m.gZ<=x.inp;·rw [bQ hd]
 rw [bO hd,bQ h4]
theorem Bj {T:List Nd} {f a:Nat} {g:Gp} {x:Nd} (hx:T[a]? =some x) (h:¬(x.st≠g.jC\/(kR g.cur).length≠g.cur.length)) (h2:x.inp≠ -1) (h3:¬(x.inp<0\/m.gZ<=x.inp)) (h4:¬(m.jS x.inp.toNat g).length≠x.kids.length):m.right T (f+1) a g=mU (fun n h=>m.right T f n h) ((m.jS x.inp.toNat g).zip x.kids) (a+1):=by
 conv=>lhs;unfold right
 rw [hx];simp only [];rw [bO h,bO h2,bO h3,bO h4]
theorem yL {rc:Nat->Gp->Nat×Bool} {Z:List ((Int×Gp)×Kd)} {k n:Nat} {z:(Int×Gp)×Kd} (h:Z[k]? =some z) (hb:z.2.out≠z.1.1\/z.2.to≠n):mU rc (Z.drop k) n=(0,false):=by
 rw [eF (iW h)];have e:Z[k]'(iW h)=z:=by have:=h;rw [bN (iW h)] at this;simpa using this
 rw [e];unfold mU;rw [bQ hb]
theorem GV {rc:Nat->Gp->Nat×Bool} {Z:List ((Int×Gp)×Kd)} {k n:Nat} {z:(Int×Gp)×Kd} (h:Z[k]? =some z) (hb:¬(z.2.out≠z.1.1\/z.2.to≠n)) {n':Nat} {y:Bool} (hr:rc n z.1.2=(n',y)):mU rc (Z.drop k) n=if y=true then mU rc (Z.drop (k+1)) n' else (0,false):=by
 rw [eF (iW h)];have e:Z[k]'(iW h)=z:=by have:=h;rw [bN (iW h)] at this;simpa using this
 rw [e];conv=>lhs;unfold mU
 rw [bO hb,hr];cases y<;>rfl
end g_
def PlI (l:List Int) (o:Int) (p:Nat):Prop:=p<=l.length/\(∀(i:Nat) v,i<p->l[i]? =some v->v<o)/\∀v,l[p]? =some v->¬v<o
theorem EB:∀{l:List Int} {o:Int} {p:Nat},PlI l o p->(l[p]? =some o->nV o l=l)/\(l[p]?≠some o->nV o l=l.take p++o::l.drop p)
 |[],o,p,h=>by
  have:p=0:=iq h.1
  subst this
  exact ⟨fun e=>by simp at e,fun _=>rfl⟩
 |y::l,o,0,h=>by
  have hy:=h.2.2 y rfl
  refine ⟨fun e=> ?_,fun e=> ?_⟩
  ·obtain rfl:y=o:=by simpa using e
   unfold nV;rw [bO hy,bQ rfl]
  have:y≠o:=fun e2=>e (by rw [e2];rfl)
  unfold nV;rw [bO hy,bO this];rfl
 |y::l,o,p+1,h=>by
  have hy:=h.2.1 0 y ah rfl
  have ih:=EB (l:=l) (o:=o) (p:=p) ⟨iq h.1,fun i v hi hv=>h.2.1 (i+1) v ah (iq hv),fun v hv=>h.2.2 v (iq hv)⟩
  unfold nV
  rw [bQ hy]
  exact ⟨fun e=>by rw [ih.1 (iq e)],fun e=>by rw [ih.2 (iq e)];rfl⟩
theorem aa2 {l:List Int} {o:Int} {k:Nat} {v:Int} (h:∀(i:Nat) v,i<k->l[i]? =some v->v<o) (hk:l[k]? =some v) (hv:v<o):∀(i:Nat) v,i<k+1->l[i]? =some v->v<o:=by
 intro i u hi hu;by_cases e:i=k;·subst e;rw [hk] at hu;obtain rfl:=fH hu;exact hv
 exact h i u ah hu
theorem Qi {x:Int}:∀{l:List Int},(nV x l).length<=l.length+1
 |[]=>by simp [nV]
 |y::l=>by
  unfold nV
  split
  ·have:=Qi (x:=x) (l:=l);simp;exact this
  split<;>simp
theorem Vz {x:Int}:∀{l:List Int},qP l->x∈l->nV x l=l
 |[],_,h=>by simp at h
 |y::l,ha,h=>by
  unfold qP at ha
  rw [gY] at ha
  unfold nV
  split
  ·rename_i h1
   rcases gH.1 h with rfl|h
   ·omega
   rw [Vz ha.2 h]
  split
  ·rfl
  rename_i h1 h2
  rcases gH.1 h with rfl|h
  ·exact absurd rfl h2
  have:=ha.1 x h;omega
theorem Qj {x:Int}:∀{l:List Int},x∉l->(nV x l).length=l.length+1
 |[],_=>rfl
 |y::l,h=>by
  have h1:x≠y:=fun e=>h (by rw [e];exact .head _)
  have h2:x∉l:=fun e=>h (.tail _ e)
  unfold nV
  split
  ·rw [fD,Qj h2];rfl
  rw [bO (fun e=>h1 e.symm)];rfl
theorem Qk:∀(l L:List Int),(l.foldl (fun L x=>nV x L) L).length<=L.length+l.length
 |[],L=>by simp
 |x::l,L=>by
  have h1:=Qk l (nV x L)
  have h2:=Qi (x:=x) (l:=L)
  rw [arA,fD]
  omega
def aa3 (l:List Int) (k:Nat):Prop:=∀(i j:Nat) (x y:Int),i<k->j<i->l[i]? =some x->l[j]? =some y->x≠y
theorem Ql {l:List Int}:∀{k:Nat},k<=l.length->aa3 l k->(kR (l.take k)).length=k
 |0,_,_=>by simp [kR]
 |k+1,hk,h=>by
  have hx:l[k]? =some l[k]:=bN hk
  rw [yG hx,Qj,Ql ah fun i j x y hi hj=>h i j x y ah hj]
  rw [pR]
  intro hm
  obtain ⟨j,hj,e⟩:=fq hm
  rw [dx] at hj
  have:(l.take k)[j]? =some l[k]:=by rw [bN (by rw [dx];exact hj),e]
  rw [dL,bQ ah] at this
  exact h k j l[k] l[k] ah ah hx this rfl
theorem Qm {l:List Int} (h:aa3 l l.length):¬(kR l).length≠l.length:=by
 have:=Ql (bM _) h;rw [dV] at this;omega
theorem adS {l:List Int} {i j:Nat} {x:Int} (hj:j<i) (h1:l[i]? =some x) (h2:l[j]? =some x):(kR l).length≠l.length:=by
 have hi:=iW h1;have hm:x∈kR (l.take i):=by rw [pR];refine arn.2 ⟨j,?_⟩;rw [dL,bQ hj,h2]
 have e1:kR (l.take (i+1))=kR (l.take i):=by rw [yG h1,Vz (xI _) hm]
 have e2:kR l=(l.drop (i+1)).foldl (fun L x=>nV x L) (kR (l.take (i+1))):=by
  conv=>lhs;rw [<-fJ (i+1) l]
  unfold kR;rw [aql]
 have e3:=Qk (l.drop (i+1)) (kR (l.take (i+1)));rw [<-e2,e1,aqb] at e3;have e4:=uN (l.take i);rw [dx] at e4;omega
theorem GX {β:Type} {p:Int->Bool} {I C:List Int} (Vu:I.length=C.length) (g:Int->Int->β):∀{k:Nat},k<=C.length->
    (wR p C k).map (fun i=>g (I.getD i.toNat 0) (C.getD i.toNat 0))=(((I.take k).zip (C.take k)).filter fun q=>p q.2).map fun q=>g q.1 q.2
 |0,_=>by simp [wR]
 |k+1,hk=>by
  have h1:I[k]? =some (I[k]' ah):=bN ah
  have h2:C[k]? =some (C[k]' ah):=bN ah
  rw [Kr,eB,GX Vu g ah,g_.tY h1 h2,fV,eB]
  congr 1
  rw [iw h2]
  by_cases e:p (C[k]' ah)=true
  ·rw [bQ e]
   simp only [arX,e,ar3,aqj,fQ,ap7]
   rw [show ((k:Int)).toNat=k from rfl,iw h1,iw h2]
  rw [bO e]
  simp only [arX,ar3,ap7]
  rw [bO e];rfl
namespace g_
variable {m:g_}
theorem VA {x:Nat} {I C:List Int} {o:Int} (Vu:I.length=C.length):(wR (fun s=>decide (m.ot s.toNat x=o)) C C.length).map (fun i=>I.getD i.toNat 0)=m.gpI x I C o:=by
 rw [GX Vu (fun a _=>a) (bM _),dV,<-Vu,dV];rfl
theorem VB {x:Nat} {I C:List Int} {o:Int} (Vu:I.length=C.length):((wR (fun s=>decide (m.ot s.toNat x=o)) C C.length).map fun i=>C.getD i.toNat 0).map (fun s=>m.nx s.toNat x)=m.IJ x I C o:=by
 rw [aru];show (wR (fun s=>decide (m.ot s.toNat x=o)) C C.length).map (fun i=>m.nx (C.getD i.toNat 0).toNat x)=_;rw [GX Vu (fun _ b=>m.nx b.toNat x) (bM _),dV,<-Vu,dV];rfl
theorem Tw {x k:Nat} {C:List Int} {s:Int} (h:C[k]? =some s):m.jG x (C.take (k+1))=nV (m.ot s.toNat x) (m.jG x (C.take k)):=by
 unfold jG;rw [List.map_take,List.map_take];exact yG (by rw [dP,h];rfl)
end g_
end
section
open Tryz
open Go.RowKit
structure Bd (n0:Nat) (W:Nat->Prop) (w:World) (bb:Nat) (an:Option Addr) (cn:Nat) (ao:Option Addr) (co:Nat) (m:g_) (v:Value) (L:List Nd):Prop where
 c4:C4 w bb an cn ao co m
 nd:w.cell? ⟨bb,4,none⟩=some v
 fz:w.frozen? ⟨bb,4,none⟩=false
 ok:lG (fun k=>W k\/k<n0) (bb+1) w v L
 inW:W bb
 lt:∀k,W k->k<w.heap.size
 ge:∀k,W k->bb<=k
 old:n0<=bb
theorem Ext.cell {M M':Nat->Prop} {w w':World} {p:Addr} (e:Ext M M' w w') (hl:p.block<w.heap.size) (hm:¬M p.block):w'.cell? p=w.cell? p:=dD (e.block _ hl hm)
theorem C4.kept {w w':World} {b:Nat} {an ao:Option Addr} {cn co:Nat} {m:g_} (h:C4 w b an cn ao co m) (hb:w'.heap[b]? =w.heap[b]?):C4 w' b an cn ao co m:=
 ⟨(dD (a:=⟨b,0,none⟩) hb).trans h.1,(dD (a:=⟨b,1,none⟩) hb).trans h.2.1,(dD (a:=⟨b,2,none⟩) hb).trans h.2.2.1,(dD (a:=⟨b,3,none⟩) hb).trans h.2.2.2⟩
section
variable {n0:Nat} {W W':Nat->Prop} {w w':World} {bb:Nat} {an ao:Option Addr} {cn co:Nat} {m:g_} {v:Value} {L:List Nd}
theorem lG.ownB {B:Nat} (h:lG W B w v L):∀k,v.ownBlock=some k->B<=k/\k<w.heap.size/\W k:=by
 obtain ⟨X,h1,h2, -⟩:=h;exact fun k hk=>⟨(h1.lt k hk).1,(h1.lt k hk).2,h2 k hk⟩
theorem lG.addr {B:Nat} {a:Option Addr} {c:Nat} (h:lG W B w (.slice a L.length c) L) (h0:0<L.length):∃g,a=some ⟨g,0,none⟩:=by
 obtain ⟨X,h1, -,h3, -⟩:=h;rw [<-h3] at h1;obtain ⟨g,hg, -⟩:=jZ h1 ah;exact ⟨g,hg⟩
theorem lG.aa4 {B g c:Nat} {l:List Nd} (h:lG W B w (.slice (some ⟨g,0,none⟩) l.length c) l) {i n ck:Nat} {nd:Nd} {ak:Option Addr} (hi:l[i]? =some nd) (hc:w.cell? ⟨g,i*3+2,none⟩=some (.slice ak n ck)):∀k,(Value.slice ak n ck).ownBlock=some k->W k/\k≠g:=by
 obtain ⟨X,h1,h2,h3,h4,h5⟩:=h;obtain ⟨x,hx⟩:∃x,X[i]? =some x:=⟨_,bN (by rw [h3];exact iW hi)⟩;rw [<-h3] at h1;obtain ⟨-, -,c2, -, -⟩:=h1.Co hx;obtain ⟨g1,g2,g3,g4,g5⟩:=h4 i x nd hx hi;rw [hc] at c2;intro k hk;have e:Value.slice ak n ck=x.kv:=iq c2;rw [e] at hk;exact ⟨(g5 k hk).1,fun e2=>(g5 k hk).2 (by rw [e2];rfl)⟩
theorem lG.re {B:Nat} (h:lG W B w v L) (h1:∀k,k<w.heap.size->W' k->W k) (h2:∀k,k<w.heap.size->W k->W' k):lG W' B w v L:=h.ext (Ext.jA h1) h2 fun _ _ _=>rfl
theorem Bd.size (h:Bd n0 W w bb an cn ao co m v L):bb<w.heap.size:=h.lt bb h.inW
theorem Bd.ltV (h:Bd n0 W w bb an cn ao co m v L):∀k,W k\/k<n0->k<w.heap.size:=fun k hk=>hk.elim (h.lt k) fun e=>by have:=h.old;have:=h.size;omega
theorem Bd.Ef (h:Bd n0 W w bb an cn ao co m v L):∀k,v.ownBlock=some k->bb+1<=k/\k<w.heap.size/\W k:=fun k hk=>by
 obtain ⟨h1,h2,h3⟩:=h.ok.ownB k hk
 have:=h.old
 exact ⟨h1,h2,h3.elim id fun e=>by omega⟩
theorem Bd.below (h:Bd n0 W w bb an cn ao co m v L) (hb:Below w.heap.size w w'):Bd n0 W w' bb an cn ao co m v L:=
 ⟨h.c4.kept (hb.block bb h.size),(hb.cell (p:=⟨bb,4,none⟩) h.size).trans h.nd,(iR (a:=⟨bb,4,none⟩) (hb.block bb h.size)).trans h.fz,h.ok.below hb h.ltV,h.inW,fun k hk=>eZ (h.lt k hk) hb.size,h.ge,h.old⟩
theorem Bd.len (h:Bd n0 W w bb an cn ao co m v L):∃a c,v= .slice a L.length c/\L.length<=c/\c<=maxLen:=h.ok.len
theorem C4.Ja {p:Addr} {u:Value} (h:C4 w bb an cn ao co m) (hp:p.block=bb->3<p.off):C4 (w.setCell p u) bb an cn ao co m:=by
 have hne:∀o,o<=3->p≠(⟨bb,o,none⟩:Addr):=fun o ho e=>by
  have:=hp (by rw [e])
  rw [e] at this
  simp at this;omega
 exact ⟨(dR _ _ _ _ (hne 0 ah)).trans h.1,(dR _ _ _ _ (hne 1 ah)).trans h.2.1,(dR _ _ _ _ (hne 2 ah)).trans h.2.2.1,(dR _ _ _ _ (hne 3 ah)).trans h.2.2.2⟩
theorem Bd.node {a':Option Addr} {c':Nat} {l':List Nd} (h:Bd n0 W w bb an cn ao co m v L) (hO:lG (fun k=>(W k\/k<n0)\/k=w.heap.size) (bb+1) w' (.slice a' l'.length c') l') (hg:w.grownBy w' v.ownBlock):∃W1,Bd n0 W1 (w'.setCell ⟨bb,4,none⟩ (.slice a' l'.length c')) bb an cn ao co m (.slice a' l'.length c') l'/\Ext W W1 w (w'.setCell ⟨bb,4,none⟩ (.slice a' l'.length c')):=by
 have hb:w'.heap[bb]? =w.heap[bb]? :=hg.block bb h.size fun e=>by have:=(h.Ef bb e.symm).1;omega
 have hs:(w'.setCell ⟨bb,4,none⟩ (.slice a' l'.length c')).heap.size=w'.heap.size:=by simp [World.setCell]
 have hbs:=h.size;have hes:=hg.size;have hol:=h.old;have he:Ext W (fun k=>W k\/k=w.heap.size) w w':=⟨hg.size,fun k hk hm=>hg.block k hk (fun e=>hm (h.Ef k e.symm).2.2),fun k hk hm=>hm.elim id (fun e=>by omega)⟩;refine ⟨fun k=>(W k\/k=w.heap.size)/\k<(w'.setCell ⟨bb,4,none⟩ (.slice a' l'.length c')).heap.size,⟨(h.c4.kept hb).Ja (fun _=>by show 3<4;omega),?_,?_,(hO.setOther (p:=⟨bb,4,none⟩) (.inl (.inl h.inW)) (gL bb) _).re (fun k hk e=> ?_) (fun k hk e=> ?_),⟨.inl h.inW,by rw [hs];omega⟩,fun k hk=>hk.2,fun k hk=> ?_,h.old⟩,(he.trans (Ext.setCell _ (p:=⟨bb,4,none⟩) (.inl h.inW) _)).trans (Ext.jA fun _ _ e=>e.1)⟩;·exact eU _ _ _ ((dD (a:=⟨bb,4,none⟩) hb).trans h.nd)
 ·rw [gI,iR (a:=⟨bb,4,none⟩) hb];exact h.fz
 ·rcases e with e|e;·exact e.1.elim (fun e=> .inl (.inl e)) .inr
  exact .inl (.inr e)
 ·rcases e with (e|e)|e;·exact .inl ⟨.inl e,hk⟩
  ·exact .inr e
  exact .inl ⟨.inr e,hk⟩
 rcases hk.1 with e|e;·exact h.ge k e
 omega
theorem Bd.inp {g c:Nat} (h:Bd n0 W w bb an cn ao co m (.slice (some ⟨g,0,none⟩) L.length c) L) {i:Nat} {nd:Nd} (hi:L[i]? =some nd) {y:Int} (hy:i64 y):Bd n0 W (w.setCell ⟨g,i*3+1,none⟩ (.int .i64 y)) bb an cn ao co m (.slice (some ⟨g,0,none⟩) L.length c) (L.set i ⟨nd.st,y,nd.kids⟩)/\Ext W W w (w.setCell ⟨g,i*3+1,none⟩ (.int .i64 y)):=by
 have hgo:=h.Ef g rfl;have hb:(w.setCell ⟨g,i*3+1,none⟩ (.int .i64 y)).heap[bb]? =w.heap[bb]? :=dM _ _ _ _ (by show bb≠g;omega);have hs:(w.setCell ⟨g,i*3+1,none⟩ (.int .i64 y)).heap.size=w.heap.size:=by simp [World.setCell]
 have hl:(L.set i ⟨nd.st,y,nd.kids⟩).length=L.length:=fB;refine ⟨⟨h.c4.kept hb,(dD (a:=⟨bb,4,none⟩) hb).trans h.nd,(iR (a:=⟨bb,4,none⟩) hb).trans h.fz,h.ok.aaE hi hy,h.inW,fun k hk=>by rw [hs];exact h.lt k hk,h.ge,h.old⟩,Ext.setCell _ (p:=⟨g,i*3+1,none⟩) hgo.2.2 _⟩
theorem Bd.aa4 {g c:Nat} (h:Bd n0 W w bb an cn ao co m (.slice (some ⟨g,0,none⟩) L.length c) L) {i ck:Nat} {nd:Nd} {ak:Option Addr} (hi:L[i]? =some nd) (hO:Ow (bb+1) (fun k=>W k\/k<n0) w 228 (.slice ak nd.kids.length ck) nd.kids) (hc:w.cell? ⟨g,i*3+2,none⟩=some (.slice ak nd.kids.length ck)):∀k,(Value.slice ak nd.kids.length ck).ownBlock=some k->W k/\k≠g:=fun k hk=>by
 obtain ⟨h1,h2⟩:=h.ok.aa4 hi hc k hk
 have:=(hO.lt k hk).1
 have:=h.old
 exact ⟨h1.elim id fun e=>by omega,h2⟩
theorem Bd.kid {g c:Nat} (h:Bd n0 W w bb an cn ao co m (.slice (some ⟨g,0,none⟩) L.length c) L) {i:Nat} {nd:Nd} (hi:L[i]? =some nd) {ak a':Option Addr} {ck c':Nat} {K:List Kd} (hc:w.cell? ⟨g,i*3+2,none⟩=some (.slice ak nd.kids.length ck)) (kJ:Ow (bb+1) (fun k=>W k\/k<n0) w 228 (.slice ak nd.kids.length ck) nd.kids) (hO:Ow (bb+1) (fun k=>(W k\/k<n0)\/k=w.heap.size) w' 228 (.slice a' K.length c') K) (hk:∀k,(Value.slice a' K.length c').ownBlock=some k->(Value.slice ak nd.kids.length ck).ownBlock=some k\/k=w.heap.size) (hgr:w.grownBy w' (Value.slice ak nd.kids.length ck).ownBlock) (hWk:∀k,(Value.slice ak nd.kids.length ck).ownBlock=some k->W k):∃W1,Bd n0 W1 (w'.setCell ⟨g,i*3+2,none⟩ (.slice a' K.length c')) bb an cn ao co m (.slice (some ⟨g,0,none⟩) L.length c) (L.set i ⟨nd.st,nd.inp,K⟩)/\Ext W W1 w (w'.setCell ⟨g,i*3+2,none⟩ (.slice a' K.length c')):=by
 have hgo:=h.Ef g rfl;have hb0:w'.heap[bb]? =w.heap[bb]? :=hgr.block bb h.size fun e=>by have:=(kJ.lt bb e.symm).1;omega
 have hb:(w'.setCell ⟨g,i*3+2,none⟩ (.slice a' K.length c')).heap[bb]? =w.heap[bb]? :=(dM _ _ _ _ (by show bb≠g;omega)).trans hb0;have hs:(w'.setCell ⟨g,i*3+2,none⟩ (.slice a' K.length c')).heap.size=w'.heap.size:=by simp [World.setCell]
 have hx1:Ext W (fun k=>W k\/k=w.heap.size) w w':=⟨hgr.size,fun k hk hm=>hgr.block k hk (fun e=>hm (hWk k e.symm)),fun k hk hm=>hm.elim id (fun e=>by omega)⟩;have hbs:=h.size;have hes:=hgr.size;refine ⟨fun k=>(W k\/k=w.heap.size)/\k<(w'.setCell ⟨g,i*3+2,none⟩ (.slice a' K.length c')).heap.size,⟨h.c4.kept hb,(dD (a:=⟨bb,4,none⟩) hb).trans h.nd,(iR (a:=⟨bb,4,none⟩) hb).trans h.fz,?_,⟨.inl h.inW,by rw [hs];omega⟩,fun k hk=>hk.2,fun k hk=> ?_,h.old⟩,(hx1.trans (Ext.setCell _ (p:=⟨g,i*3+2,none⟩) (.inl hgo.2.2) _)).trans (Ext.jA fun _ _ e=>e.1)⟩
 ·refine (h.ok.Vv hi hc hO hk hgr h.ltV).re (fun k hk e=> ?_) (fun k hk e=> ?_)
  ·rcases e with e|e;·exact e.1.elim (fun e=> .inl (.inl e)) .inr
   exact .inl (.inr e)
  rcases e with (e|e)|e;·exact .inl ⟨.inl e,hk⟩
  ·exact .inr e
  exact .inl ⟨.inr e,hk⟩
 rcases hk.1 with e|e;·exact h.ge k e
 omega
end
theorem Sl.notM {α:Type} [GR α] {M:Nat->Prop} {w:World} {b off c:Nat} {l:List α} (h:Sl M w (some ⟨b,off,none⟩) c l) {j:Nat} (hj:j<l.length):¬M b:=by
 obtain ⟨b',o',cs,ha, -,hm, -⟩:=h.2.2 j l[j] (by simp [hj]);obtain ⟨rfl,rfl⟩:b=b'/\off=o':=iq ha;exact hm
def ajF (f:Nat):Prop:=∀{n0:Nat} {W:Nat->Prop} {w:World} {bb:Nat} {an ao ai ac au:Option Addr} {cn co ci cc cu:Nat} {m:g_} {v:Value} {L:List Nd} {g:Gp} {u:List Int},
    Bd n0 W w bb an cn ao co m v L->Ma W w an cn ao co m->Sl W w ai ci g.jC->Sl W w ac cc g.cur->Sl W w au cu u->Hid m.Ok->Hid (Ms m.h_.length g)->Hid (g.cur.length<1000)->Hid (m.nQ u)->Hid (L.length<=4096)->Hid (4097<=L.length+f)->
    Calls prog 132 #[.pointer (some ⟨bb,0,none⟩),.agg #[.slice ai g.jC.length ci,.slice ac g.cur.length cc],.slice au u.length cu] w fun e w'=>∃(W':Nat->Prop) (v':Value),e= .returned (.int .i64 L.length)/\Bd n0 W' w' bb an cn ao co m v' (m.grow f L g u)/\Ext W W' w w'/\Below bb w w'
theorem XQ:∀(f:Nat),ajF f:=by
 intro f;induction f with
 |zero=>intro n0 W w bb an ao ai ac au cn co ci cc cu m v L g u hBd hm hI hC hU ok hg hn hu hL hf;have:=hL.out;have:=hf.out;omega
 |succ f ih=>
  intro n0 W w bb an ao ai ac au cn co ci cc cu m v L g u hBd hm hI hC hU ok hg hn hu hL hf;obtain ⟨av,cv,rfl,hv1,hv2⟩:=hBd.len;have n1:=ok.out.n1;have l1:=hm.h_.le;have l2:=hm.out.le;have l3:=hI.le;have l4:=hC.le;have l5:=hU.le;have hL4:=hL.out;have hbz:=hBd.size;have hNW:Hid (∀k,W k->k<w.heap.size):=hBd.lt;have hba:=iB w (.cells #[.slice ai g.jC.length ci,.slice ac g.cur.length cc] 172);have hB0:Below bb w (w.alloc (.cells #[.slice ai g.jC.length ci,.slice ac g.cur.length cc] 172)):=hba.mono ah;have hEw:Ext W W w (w.alloc (.cells #[.slice ai g.jC.length ci,.slice ac g.cur.length cc] 172)):=Ext.of_below hba;have agL:=hBd.below hba;have hg0:(w.alloc (.cells #[.slice ai g.jC.length ci,.slice ac g.cur.length cc] 172)).cell? ⟨w.heap.size,0,none⟩=some (.slice ai g.jC.length ci):=aH;have hg1:(w.alloc (.cells #[.slice ai g.jC.length ci,.slice ac g.cur.length cc] 172)).cell? ⟨w.heap.size,1,none⟩=some (.slice ac g.cur.length cc):=aH;have hz0:w.heap.size<(w.alloc (.cells #[.slice ai g.jC.length ci,.slice ac g.cur.length cc] 172)).heap.size:=aH
  have HG:Hid (∀{W':Nat->Prop} {w':World},Ext W W' (w.alloc (.cells #[.slice ai g.jC.length ci,.slice ac g.cur.length cc] 172)) w'->w'.cell? ⟨w.heap.size,0,none⟩=some (.slice ai g.jC.length ci)/\w'.cell? ⟨w.heap.size,1,none⟩=some (.slice ac g.cur.length cc)):=fun e=>
   ⟨(e.cell (p:=⟨w.heap.size,0,none⟩) hz0 (fun h=>absurd (hNW.out _ h) (asg _))).trans hg0,(e.cell (p:=⟨w.heap.size,1,none⟩) hz0 (fun h=>absurd (hNW.out _ h) (asg _))).trans hg1⟩
  have HM:=bK (hm.below hba);have HI:=bK (hI.below hba);have HC:=bK (hC.below hba);have HU:=bK (hU.below hba);clear hBd hm hI hC hU hba hg0 hg1;have am7:=agL.nd;obtain ⟨GG,hG⟩:∃GG,Hid (GG=m.grow (f+1) L g u):=⟨_,rfl⟩;obtain ⟨gw,hgw⟩:∃gw,Hid (gw=m.qc g u):=⟨_,rfl⟩;have hGf:Hid (4096<L.length+1->GG=L++[⟨g.jC, -1,[]⟩]):=fun h=>by rw [hG.out];exact g_.Cv h
  have Xv:Hid (gw=[]->GG=L++[⟨g.jC, -1,[]⟩]):=fun h=>by rw [hG.out];exact g_.Cw (by rw [<-hgw.out];exact h)
  have hGo:Hid (∀a v,¬4096<L.length+1->gw=a::v->GG=m.jO f L.length v (m.jS a.toNat g) (L++[⟨g.jC,a,[]⟩])):=fun a v h e=>by rw [hG.out];exact g_.Mt h (by rw [<-hgw.out];exact e)
  have aa5:Hid (m.nQ gw):=by rw [hgw.out];exact g_.Bh hu.out
  have nW:(u.length=0/\1<g.jC.length/\Hid (gw=(m.oZ g.cur).1))\/(u.length=0/\¬1<g.jC.length/\Hid (u=gw))\/(¬u.length=0/\Hid (u=gw)):=by
   by_cases h1:u.length=0
   ·by_cases h2:1<g.jC.length;·exact .inl ⟨h1,h2,bK (by rw [hgw.out];unfold g_.qc;rw [bQ ⟨h1,h2⟩])⟩
    exact .inr (.inl ⟨h1,h2,bK (by rw [hgw.out];unfold g_.qc;rw [bO (fun h=>h2 h.2)])⟩)
   exact .inr (.inr ⟨h1,bK (by rw [hgw.out];unfold g_.qc;rw [bO (fun h=>h1 h.1)])⟩)
  rw [<-hG.out];clear hG hgw;go_enter func132,ntmps132;go_upto_region 1 with (fail);generalize w.alloc (.cells #[.slice ai g.jC.length ci,.slice ac g.cur.length cc] 172)=w0 at*
  have hE0:Ext W W w0 w0:=Ext.refl W w0;go_upto_region 2 with (fail);refine iO (fun w'=>w'.cell? ⟨bb,4,none⟩=some (.slice av L.length cv)/\w'.cell? ⟨w.heap.size,0,none⟩=some (.slice ai g.jC.length ci)) [0,1,2,3,4,5,6,8,11,12] aB ?_;have hbd:=(bP w0.heap.size w0).drew;have adT:=agL.below hbd;have hE1:=hE0.trans (Ext.of_below (M:=W) hbd);have hB1:=hB0.trans (hbd.mono ah);have hS1:=And.intro adT.nd (HG.out hE1).1;have hz1:w.heap.size<w0.drew.heap.size:=hz0;clear agL hE0 hB0 hbd am7 hz0;generalize w0.drew=w1 at*
  have HCl:=bK (rV (HI.out.ext hE1) (by have:=hn.out;have:=hg.out.le;omega));refine iT [0,1,2,3,4,5,6] ?_;refine iJ 7 fun K hK=> ?_;go_simp;refine (HCl.out).mono ?_;rintro e w2 ⟨a2,c2,I2,rfl,hI2,hO2,hb2⟩;have agM:=adT.below hb2;have hE2:=hE1.trans (Ext.of_below (M:=W) hb2);have hB2:=hB1.trans (hb2.mono ah);have hS2:=And.intro agM.nd (HG.out hE2).1;have hz2:w.heap.size<w2.heap.size:=ig hb2.size;refine hK _ _ (fun _=>hS2) ?_;have ajG:Sl (fun k=>W k\/k<n0) w2 a2 c2 I2:=(hO2.fresh (bM _)).anti (fun k _ hm=>adT.ltV k hm);clear hK K adT hE1 hB1 hb2 hS1 hz1 HCl hO2;refine iT [8] ?_;refine iJ 9 fun K hK=> ?_;go_simp;have hba:=iB w2 (.cells #[.slice a2 I2.length c2,.int .i64 (-1),.slice none 0 0] 179);have xP:=agM.below hba;have hE3:=hE2.trans (Ext.of_below (M:=W) hba);have hB3:=hB2.trans (hba.mono ah);have kC:=And.intro xP.nd (HG.out hE3).1;have ajH:=ajG.below hba;refine hK _ _ (fun _=>kC) ?_;clear hK K agM hE2 hB2 hS2 hba ajG;refine iJ 10 fun K hK=> ?_;refine Gi (B:=bb+1) (W:=fun k=>W k\/k<n0) (v:= .slice av L.length cv) (l:=L) (g:=w2.heap.size) (c:=1) (st:=I2) (y:= -1) (ar:=a2) (cr:=c2) rfl underlying117 yI rfl rfl xP.ok bf bf bf ajH bg ah (ig xP.size) xP.ltV ?_;intro a4 c4 L4 w4 ajI hN4 hE4 PW;have ajJ:=PW.block w.heap.size aJ (fun e=>by exact absurd (hNW.out _ (xP.Ef _ e.symm).2.2) ah);have agN:=PW.block bb xP.size (fun e=>by have:=(xP.Ef _ e.symm).1;omega);have ku:=And.intro ((dD (a:=⟨bb,4,none⟩) agN).trans kC.1) ((dD (a:=⟨w.heap.size,0,none⟩) ajJ).trans kC.2);have hB4:=hB3.grown PW (ig xP.size) (fun k hk=>by have:=(xP.Ef k hk).1;omega);have am8:w4.frozen? ⟨bb,4,none⟩=false:=(iR (a:=⟨bb,4,none⟩) agN).trans xP.fz;refine hK _ _ (fun _=>ku) ?_;obtain ⟨W5,Eh,Nf⟩:=xP.node hN4 PW;replace Nf:=hE3.trans Nf;have jw:=hB4.setCell (p:=⟨bb,4,none⟩) (bM _) (.slice a4 L4.length c4);clear hK K xP hE3 hB3 kC ajH hN4 hE4 PW ajJ agN hB4 hz2;refine iT [11,12] ?_;refine jW (i:=13) aB aB rfl rfl (fun K hK=> ?_);go_simp;refine hK _ _ ?_;clear hK K;refine iN aB ?_ _;clear ku am8;generalize w4.setCell ⟨bb,4,none⟩ (.slice a4 L4.length c4)=w5 at*
  have ajK:=Eh.nd;have XR:Hid (L4=L++[⟨g.jC, -1,[]⟩]):=bK (by rw [ajI.out,hI2.out]);have adU:Hid (L4.length=L.length+1):=bK (by rw [XR.out];simp);clear ajI hI2;by_cases nH:4096<L4.length
  ·have hR:Hid (L4=GG):=by unfold Hid;rw [hGf.out (ig adU.out)];exact XR.out
   clear nW;go_wp2;go_ret;exact ⟨W5,_,rfl,by rw [<-hR.out];exact Eh,hEw.trans Nf,jw⟩
  have hgs:=HG.out Nf;have ajL:=hgs.1;have apz:L.length<4096:=ig adU.out;rcases nW with ⟨hu0,hi1,hue⟩|⟨hu0,hi1,hue⟩|⟨hu0,hue⟩;rotate_left 1
  ·have hR:Hid (L4=GG):=by unfold Hid;rw [Xv.out (by rw [<-hue.out];exact fE hu0)];exact XR.out
   go_wp2;go_ret;exact ⟨W5,_,rfl,by rw [<-hR.out];exact Eh,hEw.trans Nf,jw⟩
  rotate_left 1
  focus
   go_upto_region 6 with (fail)
   clear hgs ajL ajK
   refine iO (fun w'=>C4 w' bb an cn ao co m/\w'.cell? ⟨w.heap.size,1,none⟩=some (.slice ac g.cur.length cc)) [0,1,2,3,4,5,7,8,9,10] aB ?_
   have hbd:=(bP w5.heap.size w5).drew
   have Mw:=Eh.below hbd
   have Jo:=Nf.trans (Ext.of_below (M:=W5) hbd)
   have jo:=jw.trans (hbd.mono (ig Eh.size))
   have uK:=And.intro Mw.c4 (HG.out Jo).2
   clear Eh Nf jw hbd
   generalize w5.drew=w6 at*
   have HFd:=bK (aaX (HM.out.ext Jo) (HC.out.ext Jo) ok hg.out.st hn)
   refine iT [0,1,2,3,4,5] ?_
   refine iJ 6 fun K hK=> ?_
   go_simp
   refine (HFd.out).mono ?_
   rintro e w7 ⟨aU,cU,U,y,rfl,hfw,hUs,kG⟩
   have xQ:=Mw.below kG
   have hE7:=Jo.trans (Ext.of_below (M:=W5) kG)
   have jY:=jo.trans (kG.mono (ig Mw.size))
   have IL:=And.intro xQ.c4 (HG.out hE7).2
   have HUs:=bK (hUs.anti (M':=W5) (fun k _ hm=>Mw.lt k hm))
   have hUe:Hid (U=gw):=bK (by rw [hue.out,hfw.out])
   refine hK _ _ (fun _=>IL) ?_
   clear hK K HFd Mw Jo jo uK kG hUs hfw hue hu0 hi1
   refine iT [7,8,9,10] ?_
   refine iN aB ?_ _
   clear IL
   by_cases hU0:U.length=0
   ·have hR:Hid (L4=GG):=by unfold Hid;rw [Xv.out (by rw [<-hUe.out];exact fE hU0)];exact XR.out
    go_wp2
    go_ret
    exact ⟨W5,_,rfl,by rw [<-hR.out];exact xQ,hEw.trans hE7,jY⟩
   have hUl:0<U.length:=ah
   clear hU0
  rotate_left 1
  focus
   have xQ:=Eh
   have hE7:=Nf
   have jY:=jw
   have HUs:=bK (HU.out.ext Nf)
   clear Eh Nf jw ajK hgs ajL
   obtain ⟨U,rfl⟩:∃U:List Int,U=u:=⟨_,rfl⟩
   obtain ⟨aU,rfl⟩:∃aU:Option Addr,aU=au:=⟨_,rfl⟩
   obtain ⟨cU,rfl⟩:∃cU:Nat,cU=cu:=⟨_,rfl⟩
   obtain ⟨w7,rfl⟩:∃w7:World,w7=w5:=⟨_,rfl⟩
   have hUe:Hid (U=gw):=hue
   have hUl:0<U.length:=ah
   clear hue
  all_goals
   have aa6:Hid (m.nQ U):=by rw [hUe.out];exact aa5.out
   obtain ⟨u1,hu1⟩:∃u1,Hid (u1=U.drop 1):=⟨_,rfl⟩
   have hUc:=HUs.out.1
   have apA:=HUs.out.2.1
   obtain ⟨bU,oU,x0,rfl,hxc,hx0,agO⟩:=HUs.out.iC (j:=0) hUl
   rw [aqr] at hxc
   have CY:=aa6.out x0 (bV hx0.out)
   obtain ⟨x,rfl⟩:=b_ CY.1
   have hxi:x<m.gZ.toNat:=ah
   have hUx:Hid (U=(x:Int)::u1):=by
    unfold Hid;rw [hu1.out]
    cases hq:U with
    |nil=>rw [hq] at hUl;simp at hUl
    |cons y ys=>have:=hx0.out;rw [hq] at this;simp at this;rw [this];rfl
   have aa7:Hid (m.nQ u1):=fun y hy=>aa6.out y (by rw [hUx.out];exact aqZ _ hy)
   have agP:Hid (U.length-1=u1.length):=bK (by rw [hUx.out];simp)
   obtain ⟨gN,rfl⟩:=xQ.ok.addr (ig adU.out)
   have hnd:Hid (L4[L.length]? =some ⟨g.jC, -1,[]⟩):=bK (by rw [XR.out];simp)
   obtain ⟨akn,ckn, -,hi7,adV, -,hgN,agQ,ajM⟩:=xQ.ok.at hnd.out
   have Tx:=hxc
   have agR:=xQ.nd
   have afR:L.length<L4.length:=ig adU.out
   go_upto_region 9 with (fail)
   refine iO (fun w'=>w'.cell? ⟨bb,4,none⟩=some (.slice (some ⟨gN,0,none⟩) L4.length c4)/\w'.cell? ⟨bU,oU,none⟩=some (.int .i64 (x:Int))) [0,1,2,3,4,5,6,7,8,9] aB ?_
   have hbd:=(bP w7.heap.size w7).drew
   have agS:=xQ.below hbd
   have hE8:=hE7.trans (Ext.of_below (M:=W5) hbd)
   have mg:=jY.trans (hbd.mono (ig xQ.size))
   have HU8:=bK (HUs.out.below hbd)
   have Jp:=And.intro agS.nd ((hbd.cell (p:=⟨bU,oU,none⟩) (lt_of_cell hxc)).trans hxc)
   have hi8:w7.drew.cell? ⟨gN,L.length*3+1,none⟩=some (.int .i64 (-1)):=hi7
   have am9:w7.drew.frozen? ⟨gN,L.length*3+1,none⟩=false:=adV _
   clear xQ hE7 jY hbd hxc hi7 adV HUs Tx agR agQ
   generalize w7.drew=w8 at*
   refine iT [0,1,2,3,4,5,6,7,8,9] ?_
   refine jW (i:=10) aB aB rfl rfl (fun K hK=> ?_)
   go_simp
   refine hK _ _ ?_
   clear hK K
   refine iN aB ?_ _
   obtain ⟨agT,YO⟩:=agS.inp hnd.out agO.out
   have hE9:=hE8.trans YO
   have mH:=mg.setCell (p:=⟨gN,L.length*3+1,none⟩) (by show bb<=gN;omega) (.int .i64 (x:Int))
   have HU9:=bK (HU8.out.ext YO)
   clear agS hE8 mg Jp hi8 am9 HU8 YO
   generalize w8.setCell ⟨gN,L.length*3+1,none⟩ (.int .i64 (x:Int))=w9 at*
   have hxc:Hid (∀{W':Nat->Prop} {w':World},Ext W5 W' w9 w'->w'.cell? ⟨bU,oU,none⟩=some (.int .i64 (x:Int))):=fun e=>by
    obtain ⟨b',o',x',hb',hc',hx', -⟩:=(HU9.out.ext e).iC (j:=0) hUl
    obtain ⟨rfl,rfl⟩:bU=b'/\oU=o':=iq hb'
    rw [hx0.out] at hx'
    obtain rfl:(x:Int)=x':=iq hx'.out
    simpa using hc'
   have ana:=And.intro (HG.out hE9).1 (And.intro (HG.out hE9).2 (hxc.out (Ext.refl _ _)))
   go_upto_region 10 with (fail)
   refine iO (fun w'=>w'.cell? ⟨w.heap.size,0,none⟩=some (.slice ai g.jC.length ci)/\w'.cell? ⟨w.heap.size,1,none⟩=some (.slice ac g.cur.length cc)/\w'.cell? ⟨bU,oU,none⟩=some (.int .i64 (x:Int))) [0,1,2,3,4,6,7,8,9,10] aB ?_
   have hbd:=(bP w9.heap.size w9).drew
   have GY:=agT.below hbd
   have Tz:=hE9.trans (Ext.of_below (M:=W5) hbd)
   have aa8:=Ext.of_below (M:=W5) hbd
   have nE:=mH.trans (hbd.mono (ig agT.size))
   have rQ:=And.intro (HG.out Tz).1 (And.intro (HG.out Tz).2 (hxc.out aa8))
   clear agT hE9 mH hbd ana
   generalize w9.drew=qo at*
   have HSp:=bK (Kl GY.c4 GY.size (HM.out.ext Tz) (HI.out.ext Tz) (HC.out.ext Tz) ok hg.out.le hg.out.pos hn hg.out.st x hxi)
   refine iT [0,1,2,3,4] ?_
   refine iJ 5 fun K hK=> ?_
   go_simp
   refine (HSp.out).mono ?_
   rintro e Ae ⟨aX,aG,cX,cG,X,G,rfl,hX,hGe,yM,hGs,pV⟩
   have VD:=GY.below pV
   have XT:=Tz.trans (Ext.of_below (M:=W5) pV)
   have aa9:=aa8.trans (Ext.of_below (M:=W5) pV)
   have sZ:=nE.trans (pV.mono (ig GY.size))
   have qZ:=And.intro (HG.out XT).1 (And.intro (HG.out XT).2 (hxc.out aa9))
   refine hK _ _ (fun _=>qZ) ?_
   have HX:=bK (yM.anti (M':=W5) (fun k _ hm=>GY.lt k hm))
   have HGs:=bK (hGs.anti (M':=W5) (fun k _ hm=>GY.lt k hm))
   have anb:=bK (HU9.out.ext aa9)
   clear hK K HSp GY Tz aa8 nE rQ pV yM hGs
   refine iT [6,7,8,9,10] ?_
   refine iN aB ?_ _
   clear qZ aa9 hxc HU9
   obtain ⟨L7,hL7⟩:∃L7:List Nd,Hid (L7=L++[(⟨g.jC,(x:Int),[]⟩:Nd)]):=⟨_,rfl⟩
   have abb:Hid (L4.set L.length ⟨g.jC,(x:Int),[]⟩=L7):=bK (by rw [hL7.out,XR.out];simp)
   have adW:Hid (L4.length=L7.length):=by rw [<-abb.out];exact fB.symm
   replace VD:Bd n0 W5 Ae bb an cn ao co m (.slice (some ⟨gN,0,none⟩) L7.length c4) L7:=by rw [<-adW.out,<-abb.out];exact VD
   obtain ⟨P,hP⟩:∃P,Hid (P=m.jS x g):=⟨_,rfl⟩
   have hPl:Hid (P.length=X.length):=bK (by rw [hP.out,g_.oJ,hX.out])
   have hXn:Hid (X.length<1000):=by
    unfold Hid;rw [hX.out];unfold g_.jG
    exact eO (uN _) (by rw [dJ];exact hn.out)
   have hXG:Hid (G.length=X.length):=bK (by rw [hGe.out,hX.out];unfold g_.Jj;simp)
   have ajN:=HX.out.le
   have ane:=hXn.out
   have hEl:Ext W5 W5 Ae Ae:=Ext.refl _ _
   have hBl:Below bb Ae Ae:=bP _ _
   have GZ:Hid (L7=m.jO f L.length u1 (P.take 0) L7):=rfl
   have TA:Hid (L7.length=L.length+1):=bK (by rw [hL7.out];simp)
   have HBd:=bK VD
   clear afR
   go_wp2
   go_loopw [82] (fun i wr=>∃(k:Nat) (W':Nat->Prop) (av:Option Addr) (cv:Nat) (Kn:List Nd),k<=X.length/\i= .int .i64 k/\Hid (Kn=m.jO f L.length u1 (P.take k) L7)/\Bd n0 W' wr bb an cn ao co m (.slice av Kn.length cv) Kn/\Ext W5 W' Ae wr/\Below bb Ae wr) (fun i _=>X.length-(intOf i).toNat)
   case atStart=>exact ⟨0,W5,some ⟨gN,0,none⟩,c4,L7,ah,rfl,GZ,HBd.out,hEl,hBl⟩
   case round=>
    clear GZ VD hEl hBl HBd
    obtain ⟨k,W6,a6,c6,Kn,hk,rfl,hKe,hBd,hEl,hBl⟩:=hrel
    obtain ⟨wo,rfl⟩:=iA wr
    have hKb:Hid (Kn.length<=4097):=by
     unfold Hid;rw [hKe.out]
     exact g_.Ct (g_.Qf f) _ _ (ig TA.out)
    have hKg:Hid (L.length+1<=Kn.length):=by
     unfold Hid;rw [hKe.out]
     have:=(g_.uP (t:=L.length) (u:=u1) (g_.mR (m:=m) f) (P.take k) L7).1
     have:=TA.out
     omega
    by_cases hlt:k<X.length
    ·by_cases hbr:4096<Kn.length
     ·have hR:Hid (Kn=GG):=by
        unfold Hid
        rw [hGo.out _ _ ah (hUe.out.symm.trans hUx.out),<-hL7.out,show ((x:Int)).toNat=x from rfl,<-hP.out,g_.Tv (k:=k) L7 (by rw [<-hKe.out];exact hbr)]
        exact hKe.out
      have ajO:=hBd.nd
      obtain ⟨bX,oX,o0,rfl,hoc, -, -⟩:=(HX.out.ext hEl).iC hlt
      go_wp2
      go_ret
      exact ⟨W6,_,rfl,by rw [<-hR.out];exact hBd,hEw.trans (XT.trans hEl),sZ.trans hBl⟩
     have hKG:k<G.length:=ig hXG.out
     obtain ⟨bG,oG,a1,c1,a2',c2',q,hGa,hq0,hq1,hqe,hQI,hQC⟩:=(HGs.out.ext hEl).aeE hKG
     obtain ⟨bX,oX,o0,rfl,hoc,VE,agU⟩:=(HX.out.ext hEl).iC hlt
     have VF:o0∈m.jG x g.cur:=by rw [<-hX.out];exact bV VE.out
     have hqg:Hid (q=m.yH x g.jC g.cur o0):=by
      have h1:=hqe.out
      rw [hGe.out] at h1
      unfold g_.Jj at h1
      rw [<-hX.out,dP,VE.out] at h1
      unfold Hid
      simpa using h1.symm
     have hPk:Hid (P[k]? =some (o0,q)):=by
      unfold Hid;rw [hP.out,hqg.out]
      exact g_.o_ (by rw [<-hX.out];exact VE.out)
     have Qn:Hid (Ms m.h_.length q):=by rw [hqg.out];exact g_.Cx ok.out hxi hg.out VF
     have YG:Hid (q.cur.length<1000):=by
      unfold Hid;rw [hqg.out]
      exact eO g_.GQ hn.out
     subst hGa
     have hqb:=lt_of_cell hq0
     have hqW:¬W6 bG:=(HGs.out.ext hEl).notM hKG
     have anf:(1:Int)<=((U.length:Nat):Int):=ah
     have ajP:=XT.trans hEl
     obtain ⟨b2,hb2⟩:∃b2,b2=dA (some ⟨bU,oU,none⟩) cU 1:=⟨_,rfl⟩
     have hdb:(if cU=1 then some (⟨bU,oU,none⟩:Addr) else some ⟨bU,oU+1,none⟩)=b2:=by rw [hb2];simp [dA,Addr.add]
     have HUd:=bK ((anb.out.ext hEl).drop (i:=1) ah)
     rw [<-hb2,<-hu1.out] at HUd
     clear hb2 VF hqe
     have ajO:=hBd.nd
     go_upto_region 15 with (fail)
     refine iO (fun w'=>w'.cell? ⟨bG,oG+k*2,none⟩=some (.slice a1 q.jC.length c1)/\w'.cell? ⟨bG,oG+k*2+1,none⟩=some (.slice a2' q.cur.length c2')) [0,1,2,3,4,5,6,8] aB ?_
     have hbd:=(bP wo.heap.size wo).drew
     have aeR:=hBd.below hbd
     have agV:=hEl.trans (Ext.of_below (M:=W6) hbd)
     have Ec:=hBl.trans (hbd.mono (ig hBd.size))
     have yS:=And.intro ((hbd.cell (p:=⟨bG,oG+k*2,none⟩) hqb).trans hq0) ((hbd.cell (p:=⟨bG,oG+k*2+1,none⟩) hqb).trans hq1)
     have abd:=XT.trans agV
     have agW:=(ih aeR (HM.out.ext abd) (hQI.below hbd) (hQC.below hbd) (HUd.out.below hbd) ok Qn YG aa7 (bK ah) (bK (by have:=hKg.out;have:=hf.out;omega)))
     rw [<-agP.out] at agW
     have HIc:=bK agW
     clear agW
     clear hBd hEl hBl hbd ajO hq0 hq1 hoc ajP HUd hQI hQC
     generalize wo.drew=Tt at*
     refine iT [0,1,2,3,4,5,6] ?_
     refine iJ 7 fun K hK=> ?_
     go_simp
     refine (HIc.out).mono ?_
     rintro e w14 ⟨W14,v14,rfl,Bn,adX,ajQ⟩
     have aeS:=agV.trans adX
     have aeT:=Ec.trans ajQ
     have TB:=And.intro ((adX.cell (p:=⟨bG,oG+k*2,none⟩) (lt_of_cell yS.1) hqW).trans yS.1) ((adX.cell (p:=⟨bG,oG+k*2+1,none⟩) (lt_of_cell yS.1) hqW).trans yS.2)
     refine hK _ _ (fun _=>TB) ?_
     obtain ⟨K2,hK2⟩:∃K2:List Nd,Hid (K2=m.grow f Kn q u1):=⟨_,rfl⟩
     rw [<-hK2.out] at Bn
     have yQ:Hid (Kn.length<=K2.length/\∀i,i<Kn.length->K2[i]? =Kn[i]?):=by rw [hK2.out];exact g_.mR f Kn q u1
     obtain ⟨y,hyK,hys,hyi,hyk⟩:=g_.Qg (f:=f) (u:=u1) (P.take k) L7 _ (show L7[L.length]? =some ⟨g.jC,(x:Int),[]⟩ by rw [hL7.out];simp)
     rw [<-hKe.out] at hyK
     have abe:Hid (K2[L.length]? =some y):=(yQ.out.2 L.length hKg.out).trans hyK
     have agX:Hid (y.kids.length<1000):=by
      have h1:([]:List Kd).length+(P.take k).length<=k:=aJ
      exact eO (dH hyk h1) ah
     have ang:Hid (m.jO f L.length u1 (P.take (k+1)) L7=K2.set L.length ⟨y.st,y.inp,y.kids++[⟨o0,Kn.length⟩]⟩):=by
      unfold Hid
      rw [g_.GN L7 hPk.out,<-hKe.out]
      unfold qb
      rw [bO hbr]
      show jB L.length ⟨o0,Kn.length⟩ (m.grow f Kn q u1)=_
      rw [<-hK2.out,kD abe.out]
     have abf:Hid (i64 (Kn.length:Int)):=by unfold Hid i64;have:=hKb.out;omega
     clear hyK hys hyi hyk hK yS agV Ec aeR HIc yQ hK2 Qn YG hPk hqg adX ajQ abd
     obtain ⟨a14,c14,rfl, -, -⟩:=Bn.len
     have ni:L.length<K2.length:=iW abe.out
     obtain ⟨gM,rfl⟩:=Bn.ok.addr ah
     obtain ⟨akk,ckk,agY, -,aeU,abg,hgM,TD,anh⟩:=Bn.ok.at abe.out
     have hWk:=Bn.aa4 abe.out abg agY
     refine iT [8] ?_
     refine iN aB ?_ _
     clear TB
     have ajR:=Bn.nd
     go_upto_region 16 with (fail)
     refine iO (fun w'=>w'.cell? ⟨bb,4,none⟩=some (.slice (some ⟨gM,0,none⟩) K2.length c14)/\w'.cell? ⟨gM,L.length*3+2,none⟩=some (.slice akk y.kids.length ckk)) [0,1,2,3,4,5,6,7,8,9,10,11,12,13,14,15,18,19] aB ?_
     have hbd:=(bP w14.heap.size w14).drew
     have VG:=Bn.below hbd
     have TF:=aeS.trans (Ext.of_below (M:=W14) hbd)
     have XU:=aeT.trans (hbd.mono (ig Bn.size))
     have agZ:=(hbd.cell (p:=⟨gM,L.length*3+2,none⟩) TD).trans agY
     have ajS:=abg.below hbd
     have aeV:w14.drew.frozen? ⟨gM,L.length*3+2,none⟩=false:=aeU _
     have TG:=And.intro VG.nd agZ
     have abh:gM<w14.drew.heap.size:=TD
     clear Bn aeS aeT hbd agY abg aeU TD ajR
     generalize w14.drew=w15 at*
     refine iT [0,1,2,3,4,5,6,7,8,9,10,11,12,13,14,15] ?_
     refine iJ 16 fun K hK=> ?_
     go_simp
     have hba:=iB w15 (.cells #[.int .i64 o0,.int .i64 (Kn.length:Int)] 228)
     have KC:=VG.below hba
     have XV:=TF.trans (Ext.of_below (M:=W14) hba)
     have adY:=XU.trans (hba.mono (ig VG.size))
     have ag0:=(hba.cell (p:=⟨gM,L.length*3+2,none⟩) abh).trans agZ
     have abj:=ajS.below hba
     have aeW:=(iR (a:=⟨gM,L.length*3+2,none⟩) (hba.block _ abh)).trans aeV
     have AY:=And.intro KC.nd ag0
     refine hK _ _ (fun _=>AY) ?_
     clear hK K VG TF XU agZ ajS aeV TG hba
     refine iJ 17 fun K hK=> ?_
     refine Gj (B:=bb+1) (W:=fun k=>W14 k\/k<n0) (v:= .slice akk y.kids.length ckk) (l:=y.kids) (g:=w15.heap.size) (c:=1) (q:=⟨o0,(Kn.length:Int)⟩) rfl underlying177 PO rfl rfl rfl abj (fun k hk=> .inl (hWk k hk).1) bf bf ⟨agU.out,abf.out⟩ (ig agX.out) (ig KC.size) ?_
     intro a17 c17 l17 w17 ani ajT ajU Qo
     have hgb:=Qo.block bb KC.size (fun e=>by have:=(abj.lt _ e.symm).1;omega)
     have ag1:gM<(w15.alloc (.cells #[.int .i64 o0,.int .i64 (Kn.length:Int)] 228)).heap.size:=aJ
     have hgg:=Qo.block gM ag1 (fun e=>(hWk gM e.symm).2 rfl)
     have abk:=And.intro ((dD (a:=⟨bb,4,none⟩) hgb).trans AY.1) ((dD (a:=⟨gM,L.length*3+2,none⟩) hgg).trans AY.2)
     have ajV:=(iR (a:=⟨gM,L.length*3+2,none⟩) hgg).trans aeW
     have ajW:=adY.grown Qo (ig KC.size) (fun k hk=>by have:=(abj.lt k hk).1;omega)
     refine hK _ _ (fun _=>abk) ?_
     obtain ⟨W18,aeX,abl⟩:=KC.kid abe.out ag0 abj ajT (fun k hk=>(ajU.out k hk).1) Qo (fun k hk=>(hWk k hk).1)
     replace abl:=XV.trans abl
     have ag2:=ajW.setCell (p:=⟨gM,L.length*3+2,none⟩) (by show bb<=gM;omega) (.slice a17 l17.length c17)
     clear hK K KC XV adY ag0 abj aeW AY ajT ajU Qo hgb hgg ajW
     refine iT [18,19] ?_
     refine jW (i:=20) aB aB rfl rfl (fun K hK=> ?_)
     go_simp
     refine hK _ _ ?_
     clear hK K
     refine iN aB ?_ _
     clear abk ajV
     generalize w17.setCell ⟨gM,L.length*3+2,none⟩ (.slice a17 l17.length c17)=w18 at*
     obtain ⟨K3,hK3⟩:∃K3:List Nd,Hid (K3=K2.set L.length ⟨y.st,y.inp,l17⟩):=⟨_,rfl⟩
     have lW:Hid (K2.length=K3.length):=bK (by rw [hK3.out];exact fB.symm)
     have anj:Hid (K3=m.jO f L.length u1 (P.take (k+1)) L7):=bK (by rw [ang.out,hK3.out,ani.out])
     have HBd:=bK (show Bd n0 W18 w18 bb an cn ao co m (.slice (some ⟨gM,0,none⟩) K3.length c14) K3 by rw [<-lW.out,hK3.out];exact aeX)
     clear aeX
     go_wp2
     go_roundw
     case rel=>exact ⟨k+1,W18,some ⟨gM,0,none⟩,c14,K3,ah,by go_num,anj,HBd.out,abl,ag2⟩
     case measure=>exact bF
    have hR:Hid (Kn=GG):=by
     unfold Hid
     rw [hGo.out _ _ ah (hUe.out.symm.trans hUx.out),<-hL7.out,show ((x:Int)).toNat=x from rfl,<-hP.out,hKe.out]
     congr 1
     exact bY (ig hPl.out)
    go_wp2
    go_ret
    exact ⟨W6,_,rfl,by rw [<-hR.out];exact hBd,hEw.trans (XT.trans hEl),sZ.trans hBl⟩
theorem ank (n:Nat):((n:Int)==0)=decide (n=0):=by rw [aqh];simp
def ag3 (m:g_) (T:List Nd) (f at':Nat) (g:Gp) (w:World) (e:Ending) (w':World):Prop:=∃(n:Nat) (y:Bool),e= .returned (.tuple #[.int .i64 n,.bool y])/\Hid (m.right T f at' g=(n,y))/\Below w.heap.size w w'
def ag4 (f:Nat):Prop:=∀{M MT M1 M2:Nat->Prop} {w:World} {bb:Nat} {an ao aT ai ac:Option Addr} {cn co cT ci cc:Nat} {m:g_} {T:List Nd} {at':Nat} {g:Gp},
    C4 w bb an cn ao co m->bb<w.heap.size->Ma M w an cn ao co m->Sl MT w aT cT T->Sl M1 w ai ci g.jC->Sl M2 w ac cc g.cur->Hid m.Ok->Hid (Ms m.h_.length g)->Hid (g.cur.length<1000)->Hid (T.length<1000000000)->Hid (at'<=T.length)->Hid (T.length+1<=at'+f)->
    Calls prog 181 #[.pointer (some ⟨bb,0,none⟩),.agg #[.slice aT T.length cT],.int .i64 at',.agg #[.slice ai g.jC.length ci,.slice ac g.cur.length cc]] w (ag3 m T f at' g w)
theorem XW:∀(f:Nat),ag4 f:=by
 intro f;induction f with
 |zero=>intro M MT M1 M2 w bb an ao aT ai ac cn co cT ci cc m T at' g hb hbb hm hT hI hC ok hg hn TH haT hf;have:=haT.out;have:=hf.out;omega
 |succ f ih=>
  intro M MT M1 M2 w bb an ao aT ai ac cn co cT ci cc m T at' g hb hbb hm hT hI hC ok hg hn TH haT hf;have n1:=ok.out.n1;have l1:=hm.h_.le;have l2:=hm.out.le;have l3:=hI.le;have l4:=hC.le;have l5:=hT.le;have anl:=haT.out;have anm:=TH.out;have hB0:=(iB w (.cells #[.slice aT T.length cT] 119)).alloc aH (.cells #[.slice ai g.jC.length ci,.slice ac g.cur.length cc] 172);have ht0:((w.alloc (.cells #[.slice aT T.length cT] 119)).alloc (.cells #[.slice ai g.jC.length ci,.slice ac g.cur.length cc] 172)).cell? ⟨w.heap.size,0,none⟩=some (.slice aT T.length cT):=by rw [dD (w:=w.alloc (.cells #[.slice aT T.length cT] 119)) (fA _ _ _ aH)];simp
  have hg0:((w.alloc (.cells #[.slice aT T.length cT] 119)).alloc (.cells #[.slice ai g.jC.length ci,.slice ac g.cur.length cc] 172)).cell? ⟨w.heap.size+1,0,none⟩=some (.slice ai g.jC.length ci):=by have:=dD (a:=⟨(w.alloc (.cells #[.slice aT T.length cT] 119)).heap.size,0,none⟩) (w:=(w.alloc (.cells #[.slice aT T.length cT] 119)).alloc (.cells #[.slice ai g.jC.length ci,.slice ac g.cur.length cc] 172)) rfl;simp
  have hg1:((w.alloc (.cells #[.slice aT T.length cT] 119)).alloc (.cells #[.slice ai g.jC.length ci,.slice ac g.cur.length cc] 172)).cell? ⟨w.heap.size+1,1,none⟩=some (.slice ac g.cur.length cc):=by simp
  have hz0:((w.alloc (.cells #[.slice aT T.length cT] 119)).alloc (.cells #[.slice ai g.jC.length ci,.slice ac g.cur.length cc] 172)).heap.size=w.heap.size+2:=aH;have HB:=bK hb;have HM:=bK hm;have HT:=bK hT;have HI:=bK hI;have HC:=bK hC;clear hb hm hT hI hC;go_enter func181,ntmps181;go_upto_region 1 with (fail);generalize (w.alloc (.cells #[.slice aT T.length cT] 119)).alloc (.cells #[.slice ai g.jC.length ci,.slice ac g.cur.length cc] 172)=w0 at*
  have HS:Hid (∀w',Below w0.heap.size w0 w'->w'.cell? ⟨w.heap.size,0,none⟩=some (.slice aT T.length cT)/\w'.cell? ⟨w.heap.size+1,0,none⟩=some (.slice ai g.jC.length ci)/\w'.cell? ⟨w.heap.size+1,1,none⟩=some (.slice ac g.cur.length cc)):=fun w' h=>
   ⟨(h.cell (p:=⟨w.heap.size,0,none⟩) (by show w.heap.size<_;omega)).trans ht0,(h.cell (p:=⟨w.heap.size+1,0,none⟩) (by show w.heap.size+1<_;omega)).trans hg0,(h.cell (p:=⟨w.heap.size+1,1,none⟩) (by show w.heap.size+1<_;omega)).trans hg1⟩
  clear ht0 hg0 hg1;by_cases hA:at'<T.length
  ·obtain ⟨bT,oT,a1,c1,a2,c2,x,ag5,hx0,hx1,hx2,hxe,hxs,hxk,hxi⟩:=HT.out.Dx hA;have hxb:=lt_of_cell hx0;subst ag5
   have HX:Hid (∀w',Below w.heap.size w w'->w'.cell? ⟨bT,oT+at'*3,none⟩=some (.slice a1 x.st.length c1)/\w'.cell? ⟨bT,oT+at'*3+1,none⟩=some (.int .i64 x.inp)/\w'.cell? ⟨bT,oT+at'*3+2,none⟩=some (.slice a2 x.kids.length c2)):=fun w' h=>
    ⟨(h.cell (p:=⟨bT,oT+at'*3,none⟩) hxb).trans hx0,(h.cell (p:=⟨bT,oT+at'*3+1,none⟩) hxb).trans hx1,(h.cell (p:=⟨bT,oT+at'*3+2,none⟩) hxb).trans hx2⟩
   have HXS:=bK hxs;have HXK:=bK hxk;have aaO:=hxs.le;have ag6:=hxk.le;clear hx0 hx1 hx2 hxs hxk;have hge:¬((at':Int)>=(T.length:Int)):=ah;refine iL (fun w'=>w'.cell? ⟨w.heap.size,0,none⟩=some (.slice (some ⟨bT,oT,none⟩) T.length cT)/\(w'.cell? ⟨w.heap.size+1,0,none⟩=some (.slice ai g.jC.length ci)/\w'.cell? ⟨w.heap.size+1,1,none⟩=some (.slice ac g.cur.length cc))/\w'.cell? ⟨bT,oT+at'*3,none⟩=some (.slice a1 x.st.length c1)) [0,1,2,3,4,5,6,7,8,9,10,11,12,13,15,16,17,18,19,21,22,23,24,25] aB ?_;have hbd:=(bP w0.heap.size w0).drew;have hW1:=hbd;have hB1:=hB0.trans (hbd.mono ah);have hS1:=And.intro (HS.out _ hW1).1 (And.intro (HS.out _ hW1).2 (HX.out _ hB1).1);clear hbd;have hz1:w0.heap.size<=w0.drew.heap.size:=bM _;have HEq:=bK (aaF (HXS.out.below hB1) (HI.out.below hB1));generalize w0.drew=w1 at*
   refine iZ [0,1,2,3,4,5,6,7,8,9,10,11,12,13] ?_;refine iK 14 fun K hK=> ?_;go_simp;refine (HEq.out).mono ?_;rintro e w2 ⟨rfl,hb2⟩;have hW2:=hW1.trans (hb2.mono hz1);have hB2:=hB1.trans (hb2.mono ah);have hS2:=And.intro (HS.out _ hW2).1 (And.intro (HS.out _ hW2).2 (HX.out _ hB2).1);have hz2:w0.heap.size<=w2.heap.size:=ig hb2.size;refine hK _ _ (fun _=>hS2) ?_;clear hK K HEq hW1 hB1 hS1 hz1 hb2;by_cases hEq:x.st=g.jC
   ·have hdq:decide (x.st=g.jC)=true:=dw hEq;rw [hdq];have HE:=bK hEq;clear hEq hdq;have HDi:=bK (Mh (HC.out.below hB2) (bK hg.out.pos) (bK (ig hn.out)));refine iZ [15,16,17,18,19,21,22,23] ?_;refine iK 20 fun K hK=> ?_;go_simp;refine (HDi.out).mono ?_;rintro e w3 ⟨rfl,hb3⟩;have hW3:=hW2.trans (hb3.mono hz2);have hB3:=hB2.trans (hb3.mono ah);have kC:=And.intro (HS.out _ hW3).1 (And.intro (HS.out _ hW3).2 (HX.out _ hB3).1);have hz3:w0.heap.size<=w3.heap.size:=ig hb3.size;refine hK _ _ (fun _=>kC) ?_;clear hK K HDi hW2 hB2 hS2 hz2 hb3;by_cases hdi:(kR g.cur).length=g.cur.length
    ·have hno:Hid (¬(x.st≠g.jC\/(kR g.cur).length≠g.cur.length)):=fun h=>h.elim (fun e=>e HE.out) (fun e=>e hdi);have hne:(((kR g.cur).length:Int) !=(g.cur.length:Int))=false:=by simp [hdi]
     clear hdi;refine iZ [24,25] ?_;refine iH aB ?_ _;clear kC;have kC:=(HS.out _ hW3).1;have Mx:=HX.out _ hB3;have ag7:=Mx.1;have ag8:=Mx.2.1;have ag9:=Mx.2.2;clear Mx;go_upto_region 4 with (fail);have hba:=iB w3 (.cells #[.slice a1 x.st.length c1,.int .i64 x.inp,.slice a2 x.kids.length c2] 179);have UU:=hW3.trans (hba.mono hz3);have hB4:=hB3.trans (hba.mono ah);have G_:(w3.alloc (.cells #[.slice a1 x.st.length c1,.int .i64 x.inp,.slice a2 x.kids.length c2] 179)).cell? ⟨w3.heap.size,1,none⟩=some (.int .i64 x.inp):=aH;have MB:(w3.alloc (.cells #[.slice a1 x.st.length c1,.int .i64 x.inp,.slice a2 x.kids.length c2] 179)).cell? ⟨w3.heap.size,2,none⟩=some (.slice a2 x.kids.length c2):=aH;have nN:w3.heap.size<(w3.alloc (.cells #[.slice a1 x.st.length c1,.int .i64 x.inp,.slice a2 x.kids.length c2] 179)).heap.size:=aH;clear kC ag7 ag8 ag9 hba hW3 hB3;generalize w3.alloc (.cells #[.slice a1 x.st.length c1,.int .i64 x.inp,.slice a2 x.kids.length c2] 179)=w4 at*
     have hwr:IntKind.i64.wrap ((at':Int)+1)=(at':Int)+1:=eP _ ah;by_cases h1:x.inp= -1
     ·have hR:Hid (m.right T (f+1) at' g=(at'+1,decide (x.kids.length=0))):=g_.zW hxe.out hno.out h1;have h1b:(x.inp== -1)=true:=by simp [h1]
      clear h1;have hk0:=ank x.kids.length;have hq4:∀n,(w4.drewN n).cell? ⟨w3.heap.size,2,none⟩=some (.slice a2 x.kids.length c2):=fun n=>by simpa using MB
      go_upto_region 5 with (fail);refine go_quiet fun nq=> ?_;have Gl:=iF hB4 nq;clear hq4 G_ MB hB4 UU;generalize w4.drewN nq=w5 at*
      go_wp2;exact dG (v:= .tuple #[.int .i64 ((at'+1:Nat):Int),.bool (decide (x.kids.length=0))]) (by simp [results,results181,go_sem]) rfl ⟨at'+1,decide (x.kids.length=0),rfl,hR,Gl⟩
     have h1b:(x.inp== -1)=false:=by simp [h1]
     have H1:=bK h1;clear h1;have hb4:=HB.out.below hB4 hbb;have abm:=hb4.1;by_cases h2:x.inp<0\/m.gZ<=x.inp
     ·have hR:Hid (m.right T (f+1) at' g=(0,false)):=g_.Cy hxe.out H1.out h2;have adZ:∀n,(w4.drewN n).cell? ⟨w3.heap.size,1,none⟩=some (.int .i64 x.inp):=fun n=>by simpa using G_
      have ad1:∀n,(w4.drewN n).cell? ⟨bb,0,none⟩=some (.int .i64 m.gZ):=fun n=>by simpa using abm
      by_cases h2a:x.inp<0
      ·clear h2;go_upto_region 6 with (fail);refine go_quiet fun nq=> ?_;have Gl:=iF hB4 nq;clear adZ ad1 G_ MB hB4 UU hb4 abm;generalize w4.drewN nq=w5 at*
       go_wp2;exact dG (v:= .tuple #[.int .i64 0,.bool false]) (by simp [results,results181,go_sem]) rfl ⟨0,false,rfl,hR,Gl⟩
      have Ei:x.inp>=m.gZ:=h2.elim (fun e=>absurd e h2a) id;clear h2;go_upto_region 6 with (fail);refine go_quiet fun nq=> ?_;have Gl:=iF hB4 nq;clear adZ ad1 G_ MB hB4 UU hb4 abm;generalize w4.drewN nq=w5 at*
      go_wp2;exact dG (v:= .tuple #[.int .i64 0,.bool false]) (by simp [results,results181,go_sem]) rfl ⟨0,false,rfl,hR,Gl⟩
     have h2a:¬(x.inp<0):=fun e=>h2 (.inl e);have Ei:¬(x.inp>=m.gZ):=fun e=>h2 (.inr e);obtain ⟨xn,hxn⟩:=b_ (show 0<=x.inp by omega);have hxi:xn<m.gZ.toNat:=ah;have adZ:∀n,(w4.drewN n).cell? ⟨w3.heap.size,1,none⟩=some (.int .i64 x.inp):=fun n=>by simpa using G_
     have ad1:∀n,(w4.drewN n).cell? ⟨bb,0,none⟩=some (.int .i64 m.gZ):=fun n=>by simpa using abm
     have aha:Hid (¬(x.inp<0\/m.gZ<=x.inp)):=h2;have HX:=bK hxn;clear h2 hxn;go_upto_region 6 with (fail);refine go_quiet fun nq=> ?_;have hBd:=below_drewN w4.heap.size w4 nq;have jw:=hB4.trans (hBd.mono ah);have hW5:=UU.trans (hBd.mono ah);have ajX:=(hBd.cell (p:=⟨w3.heap.size,1,none⟩) nN).trans G_;have ajY:=(hBd.cell (p:=⟨w3.heap.size,2,none⟩) nN).trans MB;have yJ:w3.heap.size<(w4.drewN nq).heap.size:=ig hBd.size;clear adZ ad1 G_ MB hB4 UU hb4 abm hBd nN h2a Ei;generalize w4.drewN nq=w5 at*
     have hS5:=HS.out _ hW5;have ano:=hS5.2.1;have anp:=hS5.2.2;rw [HX.out] at ajX;have HSp:=bK (Kl (HB.out.below jw hbb) (ig jw.size) (HM.out.below jw) (HI.out.below jw) (HC.out.below jw) ok hg.out.le hg.out.pos hn hg.out.st xn hxi);clear hS5;go_upto_region 8 with (fail);go_wp2_with fail;refine (HSp.out).mono ?_;rintro e w6 ⟨aX,aG,cX,cG,X,G,rfl,hX,hGe,yM,hGs,hb6⟩;go_upto_region 9 with (fail);have jo:=jw.trans (hb6.mono (ig jw.size));have BK:=hW5.trans (hb6.mono (ig hW5.size));have ad2:=(hb6.cell (p:=⟨w3.heap.size,2,none⟩) yJ).trans ajY;have ajZ:=(HS.out _ BK).1;have qR:w3.heap.size<w6.heap.size:=ig hb6.size;have HXs:=bK yM;have HGs:=bK hGs;have adF:w.heap.size<=w5.heap.size:=jw.size;clear ajX ajY ano anp jw hW5 HSp yM hGs hb6 yJ;obtain ⟨P,hP⟩:∃P,Hid (P=m.jS xn g):=⟨_,rfl⟩;have hPl:Hid (P.length=X.length):=bK (by rw [hP.out,g_.oJ,hX.out]);have hXG:Hid (G.length=X.length):=bK (by rw [hGe.out,hX.out];unfold g_.Jj;simp);have hPx:Hid (m.jS x.inp.toNat g=P):=bK (by rw [hP.out,HX.out];rfl);have ajN:=HXs.out.le;by_cases h4:X.length=x.kids.length
     ·have Jq:((X.length:Int) !=(x.kids.length:Int))=false:=by simp [h4]
      have H4:=bK h4;clear h4;have hR:Hid (m.right T (f+1) at' g=g_.mU (fun n h=>m.right T f n h) ((P.zip x.kids).drop 0) (at'+1)):=by unfold Hid;rw [g_.Bj hxe.out hno.out H1.out aha.out (by rw [hPx.out,hPl.out];exact fun e=>e H4.out),hPx.out];rfl
      have abn:Hid (at'<at'+1/\at'+1<=T.length):=⟨ah,hA⟩;have hBl:Below w6.heap.size w6 w6:=bP _ _;have ahb:Hid (((at':Int)+1)=((at'+1:Nat):Int)):=bK ah;have Bo:w.heap.size<=w6.heap.size:=ig jo.size;have Ej:w0.heap.size<=w6.heap.size:=BK.size;have apC:=bK ajZ;go_upto_region 12 with (fail);go_wp2;go_loopw [90,13] (fun i v wr=>∃(k n:Nat),k<=x.kids.length/\i= .int .i64 k/\v= .int .i64 n/\Hid (m.right T (f+1) at' g=g_.mU (fun n h=>m.right T f n h) ((P.zip x.kids).drop k) n)/\Hid (at'<n/\n<=T.length)/\Below w6.heap.size w6 wr) (fun i _ _=>x.kids.length-(intOf i).toNat);case atStart=>exact ⟨0,at'+1,ah,rfl,by rw [ahb.out],hR,abn,hBl⟩
      case round=>
       clear hR abn hBl ad2 ajZ;obtain ⟨k,n,hk,rfl,rfl,hR,TI,hBl⟩:=hrel;obtain ⟨wo,rfl⟩:=iA wr;have qK:=jo.trans (hBl.mono Bo);have hWo:=BK.trans (hBl.mono Ej);by_cases hlt:k<x.kids.length
       ·have hkX:k<X.length:=by have:=H4.out;omega
        have hkG:k<G.length:=ig hXG.out;obtain ⟨bk,okk,kd,rfl,hk0,hk1,hkd,hki⟩:=(HXK.out.below qK).PN hlt;obtain ⟨bX,oX,o0,rfl,hoc,VE, -⟩:=(HXs.out.below hBl).iC hkX;obtain ⟨bG,oG,a1',c1',a2',c2',q,rfl,hq0,hq1,hqe,hQI,hQC⟩:=(HGs.out.below hBl).aeE hkG;have VF:o0∈m.jG xn g.cur:=by rw [<-hX.out];exact bV VE.out
        have hqg:Hid (q=m.yH xn g.jC g.cur o0):=by have h1:=hqe.out;rw [hGe.out] at h1;unfold g_.Jj at h1;rw [<-hX.out,dP,VE.out] at h1;unfold Hid;simpa using h1.symm
        have hPk:Hid (P[k]? =some (o0,q)):=by unfold Hid;rw [hP.out,hqg.out];exact g_.o_ (by rw [<-hX.out];exact VE.out)
        have hZk:Hid ((P.zip x.kids)[k]? =some ((o0,q),kd)):=List.getElem?_zip_eq_some.2 ⟨hPk.out,hkd.out⟩;have Qn:Hid (Ms m.h_.length q):=by rw [hqg.out];exact g_.Cx ok.out hxi hg.out VF
        have YG:Hid (q.cur.length<1000):=by unfold Hid;rw [hqg.out];exact eO g_.GQ hn.out
        have hqb:=lt_of_cell hq0;have hXb:=lt_of_cell hoc;clear VF hqe;go_upto_region 15 with (fail);have hba:=iB wo (.cells #[.int .i64 kd.out,.int .i64 kd.to] 228);have hBa:=hBl.trans (hba.mono hBl.size);have ho8:=(hba.cell (p:=⟨bX,oX+k,none⟩) hXb).trans hoc;have ad3:=(hba.cell (p:=⟨bG,oG+k*2,none⟩) hqb).trans hq0;have ad4:=(hba.cell (p:=⟨bG,oG+k*2+1,none⟩) hqb).trans hq1;have aj0:=bK (hQI.below hba);have aj1:=bK (hQC.below hba);have hd0:(wo.alloc (.cells #[.int .i64 kd.out,.int .i64 kd.to] 228)).cell? ⟨wo.heap.size,0,none⟩=some (.int .i64 kd.out):=aH;have hd1:(wo.alloc (.cells #[.int .i64 kd.out,.int .i64 kd.to] 228)).cell? ⟨wo.heap.size,1,none⟩=some (.int .i64 kd.to):=aH;have ahc:bG<(wo.alloc (.cells #[.int .i64 kd.out,.int .i64 kd.to] 228)).heap.size:=ig hba.size;clear hk0 hk1 hoc hq0 hq1 hQI hQC hba hBl qK hWo hqb hXb;generalize wo.alloc (.cells #[.int .i64 kd.out,.int .i64 kd.to] 228)=w8 at*
        have TJ:∀i,(w8.drewN i).cell? ⟨wo.heap.size,0,none⟩=some (.int .i64 kd.out):=fun i=>by simpa using hd0
        have TK:∀i,(w8.drewN i).cell? ⟨wo.heap.size,1,none⟩=some (.int .i64 kd.to):=fun i=>by simpa using hd1
        have Qp:∀i,(w8.drewN i).cell? ⟨bX,oX+k,none⟩=some (.int .i64 o0):=fun i=>by simpa using ho8
        by_cases hb1:kd.out=o0
        ·have ahd:(kd.out !=o0)=false:=by simp [hb1]
         by_cases hb2:kd.to=(n:Int)
         ·have ahe:(kd.to !=(n:Int))=false:=by simp [hb2]
          have Dt:Hid (¬(kd.out≠o0\/kd.to≠(n:Int))):=fun e=>e.elim (fun e=>e hb1) (fun e=>e hb2);clear hb1 hb2;refine go_quiet fun nq=> ?_;have hdr:=below_drewN w8.heap.size w8 nq;have mH:=hBa.trans (hdr.mono (ig hBa.size));have aj2:=(hdr.cell (p:=⟨bG,oG+k*2,none⟩) ahc).trans ad3;have aj3:=(hdr.cell (p:=⟨bG,oG+k*2+1,none⟩) ahc).trans ad4;have aj4:=bK (aj0.out.below hdr);have aj5:=bK (aj1.out.below hdr);have ad5:bG<(w8.drewN nq).heap.size:=ig hdr.size;clear TJ TK Qp hd0 hd1 ho8 ad3 ad4 aj0 aj1 hdr hBa ahc;generalize w8.drewN nq=w9 at*
          go_upto_region 17 with (fail);refine iO (fun w'=>w'.cell? ⟨w.heap.size,0,none⟩=some (.slice (some ⟨bT,oT,none⟩) T.length cT)/\w'.cell? ⟨bG,oG+k*2,none⟩=some (.slice a1' q.jC.length c1')/\w'.cell? ⟨bG,oG+k*2+1,none⟩=some (.slice a2' q.cur.length c2')) [0,1,2,3,4,5,6,8,9,10,11,12] aB ?_;have hdr:=(bP w9.heap.size w9).drew;have nE:=mH.trans (hdr.mono mH.size);have Bp:=jo.trans (nE.mono Bo);have Qq:=BK.trans (nE.mono Ej);have rQ:=And.intro (HS.out _ Qq).1 (And.intro ((hdr.cell (p:=⟨bG,oG+k*2,none⟩) ad5).trans aj2) ((hdr.cell (p:=⟨bG,oG+k*2+1,none⟩) ad5).trans aj3));have aeY:bG<w9.drew.heap.size:=ad5;have HIh:=bK (ih (HB.out.below Bp hbb) (ig Bp.size) (HM.out.below Bp) (HT.out.below Bp) (aj4.out.below hdr) (aj5.out.below hdr) ok Qn YG TH (at':=n) (bK TI.out.2) (bK (by have:=TI.out.1;have:=hf.out;omega)));clear mH hdr aj2 aj3 aj4 aj5 ad5;generalize w9.drew=qo at*
          refine iT [0,1,2,3,4,5,6] ?_;refine iJ 7 fun K hK=> ?_;go_simp;refine (HIh.out).mono ?_;rintro e Ae ⟨n',y,rfl,hr,pV⟩;have sZ:=nE.trans (pV.mono nE.size);have abo:=jo.trans (sZ.mono Bo);have VH:=BK.trans (sZ.mono Ej);have qZ:=And.intro (HS.out _ VH).1 (And.intro ((pV.cell (p:=⟨bG,oG+k*2,none⟩) aeY).trans rQ.2.1) ((pV.cell (p:=⟨bG,oG+k*2+1,none⟩) aeY).trans rQ.2.2));refine hK _ _ (fun _=>qZ) ?_;clear hK K HIh nE Bp Qq rQ pV;refine iT [8,9,10,11,12] ?_;refine iN aB ?_ _;clear qZ;have jH:=bK (g_.GV (rc:=fun n h=>m.right T f n h) hZk.out Dt.out hr.out);cases y with
          |true=>
           have hR2:Hid (m.right T (f+1) at' g=g_.mU (fun n h=>m.right T f n h) ((P.zip x.kids).drop (k+1)) n'):=by unfold Hid;rw [hR.out,jH.out,bQ rfl]
           have ahf:Hid (at'<n'/\n'<=T.length):=by have h1:=g_.uQ _ _ _ _ hr.out;have h2:=TI.out;exact ⟨ah,h1.2⟩
           clear hr;go_wp2;go_roundw;case rel=>exact ⟨k+1,n',ah,by go_num,rfl,hR2,ahf,sZ⟩
           case measure=>exact bF
          |false=>
           have hR2:Hid (m.right T (f+1) at' g=(0,false)):=by unfold Hid;rw [hR.out,jH.out,bO aH]
           clear hr;go_wp2;exact dG (v:= .tuple #[.int .i64 0,.bool false]) (by simp [results,results181,go_sem]) rfl ⟨0,false,rfl,hR2,abo⟩
         have ahe:(kd.to !=(n:Int))=true:=by simp [hb2]
         have hR2:Hid (m.right T (f+1) at' g=(0,false)):=bK (by rw [hR.out];exact g_.yL hZk.out (.inr hb2));clear hb2 hb1;refine go_quiet fun nq=> ?_;have mH:=jo.trans ((hBa.trans ((below_drewN w8.heap.size w8 nq).mono (ig hBa.size))).mono Bo);clear TJ TK Qp hd0 hd1 ho8 ad3 ad4;generalize w8.drewN nq=w9 at*
         go_wp2;exact dG (v:= .tuple #[.int .i64 0,.bool false]) (by simp [results,results181,go_sem]) rfl ⟨0,false,rfl,hR2,mH⟩
        have ahd:(kd.out !=o0)=true:=by simp [hb1]
        have hR2:Hid (m.right T (f+1) at' g=(0,false)):=bK (by rw [hR.out];exact g_.yL hZk.out (.inl hb1));clear hb1;refine go_quiet fun nq=> ?_;have mH:=jo.trans ((hBa.trans ((below_drewN w8.heap.size w8 nq).mono (ig hBa.size))).mono Bo);clear TJ TK Qp hd0 hd1 ho8 ad3 ad4;generalize w8.drewN nq=w9 at*
        go_wp2;exact dG (v:= .tuple #[.int .i64 0,.bool false]) (by simp [results,results181,go_sem]) rfl ⟨0,false,rfl,hR2,mH⟩
       have hF:Hid (m.right T (f+1) at' g=(n,true)):=by unfold Hid;rw [hR.out,ar7 (by rw [aqO];omega)];rfl
       go_wp2;exact dG (v:= .tuple #[.int .i64 n,.bool true]) (by simp [results,results181,go_sem]) rfl ⟨n,true,rfl,hF,qK⟩
     have hR:Hid (m.right T (f+1) at' g=(0,false)):=g_.Cz hxe.out H1.out (by rw [hPx.out,hPl.out];exact h4);have Jq:((X.length:Int) !=(x.kids.length:Int))=true:=aJ;clear h4;go_wp2;exact dG (v:= .tuple #[.int .i64 0,.bool false]) (by simp [results,results181,go_sem]) rfl ⟨0,false,rfl,hR,jo⟩
    have hR:Hid (m.right T (f+1) at' g=(0,false)):=g_.uR hxe.out (.inr hdi);have hne:(((kR g.cur).length:Int) !=(g.cur.length:Int))=true:=aJ;clear hdi;refine iZ [24,25] ?_;refine iH aB ?_ _;go_wp2;exact dG (v:= .tuple #[.int .i64 0,.bool false]) (by simp [results,results181,go_sem]) rfl ⟨0,false,rfl,hR,hB3⟩
   have hdq:decide (x.st=g.jC)=false:=cZ hEq;have hR:Hid (m.right T (f+1) at' g=(0,false)):=g_.uR hxe.out (.inl hEq);rw [hdq];clear hEq hdq;refine iZ [15,16,17] ?_;refine je 18 ?_;try simp only [Act.put,cB,dF,dI]
   refine je 19 ?_;try simp only [Act.put,cB,dF,dI]
   refine je 21 ?_;try simp only [Act.put,cB,dF,dI]
   refine je 22 ?_;try simp only [Act.put,cB,dF,dI]
   refine je 23 ?_;try simp only [Act.put,cB,dF,dI]
   refine kZ 20 ?_;try simp only [Act.put,cB,dF,dI]
   refine kZ 24 ?_;try simp only [Act.put,cB,dF,dI]
   refine iZ [25] ?_;refine iH aB ?_ _;go_wp2;exact dG (v:= .tuple #[.int .i64 0,.bool false]) (by simp [results,results181,go_sem]) rfl ⟨0,false,rfl,hR,hB2⟩
  have hR:Hid (m.right T (f+1) at' g=(0,false)):=g_.GU ah;refine iL (fun w'=>w'.cell? ⟨w.heap.size,0,none⟩=some (.slice aT T.length cT)) [0,1,2,3,4,5,6,7,8,9,10,11,12,13,14,15,16,17,18,19,20,21,22,23,24,25] aB ?_;have hbd:=(bP w0.heap.size w0).drew;have hS1:=(HS.out _ hbd).1;have hB1:=hB0.trans (hbd.mono ah);clear hbd;generalize w0.drew=w1 at*
  have hge:((at':Int)>=(T.length:Int)):=ah;refine iZ [0,1,2,3,4,5] ?_;refine je 6 ?_;try simp only [Act.put,cB,dF,dI]
  refine je 7 ?_;try simp only [Act.put,cB,dF,dI]
  refine je 8 ?_;try simp only [Act.put,cB,dF,dI]
  refine je 9 ?_;try simp only [Act.put,cB,dF,dI]
  refine je 10 ?_;try simp only [Act.put,cB,dF,dI]
  refine je 11 ?_;try simp only [Act.put,cB,dF,dI]
  refine kZ 12 ?_;try simp only [Act.put,cB,dF,dI]
  refine kZ 13 ?_;try simp only [Act.put,cB,dF,dI]
  refine kZ 14 ?_;try simp only [Act.put,cB,dF,dI]
  refine kZ 15 ?_;try simp only [Act.put,cB,dF,dI]
  refine iZ [16,17] ?_;refine je 18 ?_;try simp only [Act.put,cB,dF,dI]
  refine je 19 ?_;try simp only [Act.put,cB,dF,dI]
  refine je 21 ?_;try simp only [Act.put,cB,dF,dI]
  refine je 22 ?_;try simp only [Act.put,cB,dF,dI]
  refine je 23 ?_;try simp only [Act.put,cB,dF,dI]
  refine kZ 20 ?_;try simp only [Act.put,cB,dF,dI]
  refine kZ 24 ?_;try simp only [Act.put,cB,dF,dI]
  refine iZ [25] ?_;refine iH aB ?_ _;go_wp2;exact dG (v:= .tuple #[.int .i64 0,.bool false]) (by simp [results,results181,go_sem]) rfl ⟨0,false,rfl,hR,hB1⟩
end
section
open Tryz
namespace g_
variable (m:g_)
def VI (l:List Kd) (o:Int):Option Kd:=l.find? (fun k=>decide (k.out=o))
def lY (T:List Nd):Nat->Nat->Int->List Int->List Int×Nat
 |0,a,_,w=>(w,a)
 |f+1,a,c,w=>match T[a]? with
  |none=>(w,a)
  |some x=>if x.inp<0 then (w,a) else match VI x.kids (m.ot c.toNat x.inp.toNat) with
   |none=>(w,a)
   |some k=>lY T f k.to.toNat (m.nx c.toNat x.inp.toNat) (w++[x.inp])
def uS (T:List Nd) (s:Int):List Int×Nat:=m.lY T T.length 0 s []
def Wi (T:List Nd) (a:Nat) (c:Int):Prop:=∃f g e,m.right T f a g=(e,true)/\c∈g.cur/\Ms m.h_.length g/\((∀s∈g.jC,0<=s/\s<(m.h_.length:Int))/\g.cur.length<=m.h_.length)
variable {m}
theorem KD {rc:Nat->Gp->Nat×Bool} (ih:∀n h k,rc n h=(k,true)->n<k):∀(Z:List ((Int×Gp)×Kd)) (n e:Nat),mU rc Z n=(e,true)->∀(k:Nat) (z:(Int×Gp)×Kd),Z[k]? =some z->z.2.out=z.1.1/\∃n',n<=n'/\z.2.to=(n':Int)/\∃e',rc n' z.1.2=(e',true)
 |[],n,e,h,k,z,hz=>by simp at hz
 |y::l,n,e,h,k,z,hz=>by
  unfold mU at h
  split at h
  ·simp at h
  rename_i hg
  have hg1:y.2.out=y.1.1:=fG fun e=>hg (.inl e)
  have hg2:y.2.to=(n:Int):=fG fun e=>hg (.inr e)
  split at h
  ·rename_i n' hn'
   cases k with
   |zero=>
    simp at hz
    subst hz
    exact ⟨hg1,n,bM _,hg2,n',hn'⟩
   |succ k=>
    simp at hz
    obtain ⟨h1,n2,h2,h3,h4⟩:=KD ih l n' e h k z hz
    have:=ih _ _ _ hn'
    exact ⟨h1,n2,ah,h3,h4⟩
  simp at h
theorem DC {T:List Nd} {f a e:Nat} {g:Gp} {x:Nd} (h:m.right T f a g=(e,true)) (hx:T[a]? =some x) (h0:0<=x.inp):x.inp<m.gZ/\(m.jS x.inp.toNat g).length=x.kids.length/\∃f',∀(k:Nat) (z:(Int×Gp)×Kd),((m.jS x.inp.toNat g).zip x.kids)[k]? =some z->z.2.out=z.1.1/\∃n',a+1<=n'/\z.2.to=(n':Int)/\∃e',m.right T f' n' z.1.2=(e',true):=by
 cases f with
 |zero=>simp [right] at h
 |succ f=>
  by_cases hc:x.st≠g.jC\/(kR g.cur).length≠g.cur.length;·rw [uR hx hc] at h;simp at h
  have h1:x.inp≠ -1:=ah;by_cases hd:x.inp<0\/m.gZ<=x.inp;·rw [Cy hx h1 hd] at h;simp at h
  by_cases hl:(m.jS x.inp.toNat g).length≠x.kids.length;·rw [Cz hx h1 hl] at h;simp at h
  rw [Bj hx hc h1 hd hl] at h;exact ⟨ah,fG hl,f,KD (fun n h k hk=>(uQ _ _ _ _ hk).1) _ _ _ h⟩
theorem He {l:List Kd} {o:Int} {k:Nat} {kd:Kd} (hk:l[k]? =some kd) (ho:kd.out=o) (hb:∀(j:Nat) (kj:Kd),j<k->l[j]? =some kj->kj.out≠o):VI l o=some kd:=by
 unfold VI;rw [List.find?_eq_some_iff_getElem];have hkl:=iW hk;refine ⟨by simp [ho],k,hkl,by rw [bN hkl] at hk;simpa using hk,fun j hj=> ?_⟩;have:=hb j l[j] hj (bN ah);simp [this]
theorem ME {T:List Nd} {a:Nat} {c:Int} {x:Nd} (ok:m.Ok) (h:m.Wi T a c) (hx:T[a]? =some x) (h0:0<=x.inp):x.inp<m.gZ/\∃(k:Nat) (kd:Kd) (n':Nat),x.kids[k]? =some kd/\kd.out=m.ot c.toNat x.inp.toNat/\(∀(j:Nat) (kj:Kd),j<k->x.kids[j]? =some kj->kj.out≠m.ot c.toNat x.inp.toNat)/\kd.to=(n':Int)/\a<n'/\n'<T.length/\m.Wi T n' (m.nx c.toNat x.inp.toNat):=by
 obtain ⟨f,g,e,hr,hc,hg,hgi⟩:=h;obtain ⟨h1,h2,f',h3⟩:=DC hr hx h0;refine ⟨h1,?_⟩;have ho:m.ot c.toNat x.inp.toNat∈m.jG x.inp.toNat g.cur:=by unfold jG;rw [pR];exact gU (f:=fun s=>m.ot s.toNat x.inp.toNat) hc
 obtain ⟨k,hk⟩:=arn.1 ho;have hP:=o_ hk;have hkl:k<x.kids.length:=by rw [<-h2];exact iW hP
 have Wm:∀(j:Nat) (kj:Kd),x.kids[j]? =some kj->∃oj,(m.jG x.inp.toNat g.cur)[j]? =some oj/\kj.out=oj:=fun j kj hj=>by
  have hjl:=iW hj
  obtain ⟨oj,hoj⟩:∃oj,(m.jG x.inp.toNat g.cur)[j]? =some oj:=⟨_,bN (by rw [<-oJ,h2];exact hjl)⟩
  have:=h3 j ((oj,m.yH x.inp.toNat g.jC g.cur oj),kj) (List.getElem?_zip_eq_some.2 ⟨o_ hoj,hj⟩)
  exact ⟨oj,hoj,this.1⟩
 obtain ⟨h4,n',h5,h6,e',h7⟩:=h3 k ((m.ot c.toNat x.inp.toNat,m.yH x.inp.toNat g.jC g.cur (m.ot c.toNat x.inp.toNat)),x.kids[k]) (List.getElem?_zip_eq_some.2 ⟨hP,bN hkl⟩);refine ⟨k,x.kids[k],n',bN hkl,h4,fun j kj hj hkj e2=> ?_,h6,ah,?_,f',_,e',h7,?_,Cx ok ah hg ho,fun s hs=> ?_,dH GQ hgi.2⟩;·obtain ⟨oj,h8,h9⟩:=Wm j kj hkj;have hA:qP (m.jG x.inp.toNat g.cur):=xI _;have a1:=oH hA hk;have a2:=oH hA h8;rw [<-h9,e2] at a2;omega
 ·have:=uQ _ _ _ _ h7;omega
 ·show m.nx c.toNat x.inp.toNat∈m.IJ x.inp.toNat g.jC g.cur (m.ot c.toNat x.inp.toNat);unfold IJ;have hz:(g.jC.zip g.cur).map Prod.snd=g.cur:=ark (ig hg.le);rw [<-hz] at hc;obtain ⟨p,hp,rfl⟩:=aqJ.1 hc;exact aqJ.2 ⟨p,aq8.2 ⟨hp,aH⟩,rfl⟩
 obtain ⟨p,hp,rfl⟩:=aqJ.1 (show s∈m.gpI x.inp.toNat g.jC g.cur (m.ot c.toNat x.inp.toNat) from hs);exact hgi.1 p.1 (List.of_mem_zip (aq8.1 hp).1).1
theorem MF {T:List Nd} {a:Nat} {c:Int} {x:Nd} (h:m.Wi T a c) (hx:T[a]? =some x):(∀s∈x.st,0<=s/\s<(m.h_.length:Int))/\x.st.length<=m.h_.length:=by
 obtain ⟨f,g,e,hr,hc,hg,hgi⟩:=h;cases f with
 |zero=>simp [right] at hr
 |succ f=>
  have e:x.st=g.jC:=fG fun e=>by rw [uR hx (.inl e)] at hr;simp at hr
  rw [e];exact ⟨hgi.1,by rw [hg.le];exact hgi.2⟩
theorem VJ {T:List Nd} {a:Nat} {c:Int} (h:m.Wi T a c):a<T.length/\0<=c/\c<m.h_.length:=by
 obtain ⟨f,g,e,hr,hc,hg, -⟩:=h;have h1:=uQ _ _ _ _ hr;exact ⟨ah,hg.st c hc⟩
theorem xR {T:List Nd} {f a:Nat} {c:Int} {w:List Int} {x:Nd} (hx:T[a]? =some x) (h:x.inp<0):m.lY T f a c w=(w,a):=by
 cases f with
 |zero=>rfl
 |succ f=>unfold lY;rw [hx];simp only [];rw [bQ h]
theorem CB {T:List Nd} {f a:Nat} {c:Int} {w:List Int} {x:Nd} {kd:Kd} (hx:T[a]? =some x) (h:0<=x.inp) (hk:VI x.kids (m.ot c.toNat x.inp.toNat)=some kd):m.lY T (f+1) a c w=m.lY T f kd.to.toNat (m.nx c.toNat x.inp.toNat) (w++[x.inp]):=by
 conv=>lhs;unfold lY
 rw [hx];simp only [];rw [bO ah,hk]
end g_
end
section
open Tryz
open Go.RowKit
theorem Ow.base {α:Type} [GR α] {B B':Nat} {M:Nat->Prop} {w:World} {T:TypeId} {v:Value} {l:List α} (h:Ow B M w T v l) (hb:B'<=B):Ow B' M w T v l:=by
 obtain ⟨xs,h1,h2⟩:=h;refine ⟨xs,⟨h1.1,?_⟩,h2⟩;rcases h1.2 with e|⟨g,cap,cur,h3,h4,h5⟩;·exact .inl e
 exact .inr ⟨g,cap,cur,h3,dH hb h4,h5⟩
theorem Qr {α:Type} {o:Option α} {x y:α} (h1:o=some x) (h2:o=some y):x=y:=by rw [h1] at h2;exact fH h2
theorem ad6 {b o c j:Nat} (h:j<c):dA (some ⟨b,o,none⟩) c j=some ⟨b,o+j,none⟩:=by
 unfold dA;rw [bO ah];simp only [aqt,Addr.add];split;·rename_i h0;subst h0;rfl
 rfl
theorem Hf {a:Option Addr} {c k:Nat} {l:List Int} (h:k<=l.length):Value.slice a k c= .slice a (l.take k).length c:=by rw [dx,fM h]
theorem Hg {a:Option Addr} {c k:Nat} {l:List Int}:Value.slice a (l.length-k) c= .slice a (l.drop k).length c:=by rw [aqb]
section
variable {M M':Nat->Prop} {w:World} {an ao b:Option Addr} {cn co d:Nat} {m:g_} {l:List Int}
theorem t_ (hm:Ma M w an cn ao co m) (hs:Sl M' w b d l) (ok:Hid m.Ok) (hl:Hid (∀s∈l,0<=s/\s<m.h_.length)) (hll:Hid (l.length<1000000)) (x:Nat) (hx:x<m.gZ.toNat):Calls prog 195 #[kF m an cn ao co,.slice b l.length d,.int .i64 x] w fun e w'=>∃(a':Option Addr) (c':Nat) (L:List Int),e= .returned (.slice a' L.length c')/\Hid (L=m.jG x l)/\Sl (fun k=>k<w.heap.size) w' a' c' L/\Below w.heap.size w w':=by
 obtain ⟨bn,on,bo,oo,rfl,rfl⟩:=hm.addr ok.out;have hB0:=iB w (iP m (some ⟨bn,on,none⟩) cn (some ⟨bo,oo,none⟩) co);have hx0:=jE w m (some ⟨bn,on,none⟩) cn (some ⟨bo,oo,none⟩) co;have hc0:=hx0.2.2.2;have hz0:w.heap.size<(w.alloc (iP m (some ⟨bn,on,none⟩) cn (some ⟨bo,oo,none⟩) co)).heap.size:=aH;have n1:=ok.out.n1;have l1:=hm.h_.le;have l2:=hm.out.le;have l3:=hs.le;have HM:=bK hm;have HL:=bK hs;have kJ:∀w':World,Ow (α:=Int) (w.heap.size+1) (fun k=>w.heap.size+1<=k) w' 3 (.slice none 0 0) []:=fun _=>Ow.nil;clear hm hs hx0;go_enter func195,ntmps195;go_upto_region 1 with (fail);generalize w.alloc (iP m (some ⟨bn,on,none⟩) cn (some ⟨bo,oo,none⟩) co)=w0 at*
 have kH:=kJ w0;clear kJ;go_wp2_with fail
 go_loopw [7,8] (fun v i wr=>∃(k:Nat) (a':Option Addr) (c':Nat) (L:List Int),k<=l.length/\i= .int .i64 k/\v= .slice a' L.length c'/\Hid (L=m.jG x (l.take k))/\Ow (w.heap.size+1) (fun k=>w.heap.size+1<=k) wr 3 (.slice a' L.length c') L/\
  wr.cell? ⟨w.heap.size,3,none⟩=some (.slice (some ⟨bo,oo,none⟩) m.out.length co)/\w.heap.size<wr.heap.size/\Below w.heap.size w wr) (fun _ i _=>l.length-(intOf i).toNat)
 case atStart=>exact ⟨0,none,0,[],ah,rfl,rfl,rfl,kH,hc0,hz0,hB0⟩
 case round=>
  clear kH hc0 hz0 hB0;obtain ⟨k,a2,c2,L,hk,rfl,rfl,hL,hO,hc,hz,hB⟩:=hrel;obtain ⟨wo,rfl⟩:=iA wr;have qM:Hid (L.length<=k):=bK (by rw [hL.out];unfold g_.jG;exact dH (uN _) (by rw [dJ,dx];omega));by_cases hlt:k<l.length
  ·obtain ⟨bs,os,s0,rfl,hcs,hs0, -⟩:=(HL.out.below hB).iC hlt;have hsr:=hl.out s0 (bV hs0.out);obtain ⟨s,rfl⟩:=b_ hsr.1;have hsn:s<m.h_.length:=ah;have hso:s<m.out.length:=ig ok.out.lo;obtain ⟨bn2,on2,a1,r1,c1,hbe,hn1,hr1,hS1⟩:=(HM.out.out.below hB).iD hso;obtain ⟨rfl,rfl⟩:bo=bn2/\oo=on2:=iq hbe;have Ls:=hS1.le;have hrl:Hid ((r1.length:Int)=m.gZ):=by have:=ok.out.ro s hsn;rw [iw hr1.out] at this;exact this
   have hxl:x<r1.length:=ig hrl.out;obtain ⟨b3,o3,t0,rfl,htc,ht0,vK⟩:=hS1.iC hxl;have hot:Hid (m.ot s x=t0):=by unfold Hid g_.ot;rw [iw hr1.out,iw ht0.out]
   have hLn:Hid (m.jG x (l.take (k+1))=nV t0 L):=by unfold Hid;rw [g_.Tw hs0.out,hL.out,show m.ot ((s:Int)).toNat x=t0 from hot.out]
   clear hbe hS1 hsr;have p1:∀n,(wo.drewN n).cell? ⟨w.heap.size,3,none⟩=some (.slice (some ⟨bo,oo,none⟩) m.out.length co):=fun n=>by simpa using hc
   have p2:∀n,(wo.drewN n).cell? ⟨bs,os+k,none⟩=some (.int .i64 (s:Int)):=fun n=>by simpa using hcs
   have p3:∀n,(wo.drewN n).cell? ⟨bo,oo+s,none⟩=some (.slice (some ⟨b3,o3,none⟩) r1.length c1):=fun n=>by simpa using hn1
   have p4:∀n,(wo.drewN n).cell? ⟨b3,o3+x,none⟩=some (.int .i64 t0):=fun n=>by simpa using htc
   go_upto_region 5 with (fail);refine go_quiet fun nq=> ?_;have hd:=below_drewN wo.heap.size wo nq;have hO4:=hO.below hd;have hB4:=hB.trans (hd.mono ah);have hc4:=p1 nq;have nN:w.heap.size<(wo.drewN nq).heap.size:=ig hd.size;clear p1 p2 p3 p4 hd hO hB hc hz hcs hn1 htc;generalize wo.drewN nq=w4 at*
   have HS4:=bK (hO4.fresh (n:=w.heap.size) ah);have apD:=HS4.out.le;have apE:L.length<=c2:=HS4.out.1;have hR0:Hid (∀(i:Nat) v,i<0->L[i]? =some v->v<t0):=fun i v hi=>by omega
   go_wp2_with fail;go_loop [10] (fun i=>∃j:Nat,j<=L.length/\i= .int .i64 j/\Hid (∀(i:Nat) v,i<j->L[i]? =some v->v<t0)) (fun i=>L.length-(intOf i).toNat);case atStart=>exact ⟨0,ah,rfl,hR0⟩
   case round=>
    clear hR0;obtain ⟨j,hj,rfl,hR⟩:=hrel;have nW:(j<L.length/\∃v,Hid (L[j]? =some v)/\v<t0)\/(j<L.length/\Hid (L[j]? =some t0))\/(j<L.length/\(∃v,Hid (L[j]? =some v)/\¬v<t0/\v≠t0)/\Hid (m.jG x (l.take (k+1))=L.take j++t0::L.drop j))\/(¬j<L.length/\Hid (m.jG x (l.take (k+1))=L.take j++t0::L.drop j)):=by
     by_cases h1:j<L.length
     ·have h2:L[j]? =some L[j]:=bN h1;by_cases h3:L[j]<t0;·exact .inl ⟨h1,_,h2,h3⟩
      by_cases h4:L[j]=t0;·exact .inr (.inl ⟨h1,bK (by rw [h2,h4])⟩)
      refine .inr (.inr (.inl ⟨h1,⟨_,h2,h3,h4⟩,?_⟩));unfold Hid;rw [hLn.out];exact (EB ⟨hj,hR.out,fun v hv=>by rw [h2] at hv;obtain rfl:=fH hv;exact h3⟩).2 (by rw [h2];simp [h4])
     refine .inr (.inr (.inr ⟨h1,?_⟩));have h2:L[j]? =none:=bZ ah;unfold Hid;rw [hLn.out];exact (EB ⟨hj,hR.out,fun v hv=>by rw [h2] at hv;simp at hv⟩).2 (by rw [h2];simp)
    rcases nW with ⟨h1,v,hv,hvt⟩|⟨h1,hv⟩|⟨h1,⟨v,hv,hvt,hvn⟩,hF⟩|⟨h1,hF⟩
    ·obtain ⟨bL,oL,v',rfl,EA,hv', -⟩:=HS4.out.iC h1;obtain rfl:v=v':=by have:=hv.out;rw [hv'.out] at this;simpa using this.symm
     have hR2:=bK (aa2 hR.out hv.out hvt);go_wp2;go_round;case rel=>exact ⟨j+1,ah,by go_num,hR2⟩
     case measure=>exact bF
    ·obtain ⟨bL,oL,v',rfl,EA,hv', -⟩:=HS4.out.iC h1;obtain rfl:t0=v':=by have:=hv.out;rw [hv'.out] at this;simpa using this.symm
     have hvt:¬t0<t0:=ah;have hve:(t0==t0)=true:=aH;have hF:Hid (L=m.jG x (l.take (k+1))):=by unfold Hid;rw [hLn.out];exact ((EB ⟨hj,hR.out,fun v hv2=>by rw [hv.out] at hv2;obtain rfl:=fH hv2;exact hvt⟩).1 hv.out).symm
     go_wp2;go_roundw;case rel=>exact ⟨k+1,some ⟨bL,oL,none⟩,c2,L,ah,by go_num,rfl,hF,hO4,hc4,nN,hB4⟩
     case measure=>exact bF
    ·obtain ⟨bL,oL,v',rfl,EA,hv', -⟩:=HS4.out.iC h1;obtain rfl:=Qr hv.out hv'.out;have hve:(v==t0)=false:=by simp [hvn]
     clear hvn;obtain ⟨b',hb'⟩:∃b',b'=dA (some ⟨bL,oL,none⟩) c2 j:=⟨_,rfl⟩;have hda:=ad6 (b:=bL) (o:=oL) (show j<c2 by omega);have HD:=bK (HS4.out.drop (i:=j) hj);rw [hda] at HD;have HT:=bK (HS4.out.taken (n:=j) hj);clear hb' hda;have hjc:j<=c2:=ah;go_wp2_with (at_builtin;refine jr (B:=w4.heap.size) (l0:=[]) (l1:=L.take j) rfl rfl underlying49 iE rfl (Hf hj) Ow.nil HT.out (by simp;have:=qM.out;have:=hll.out;omega) (bM _) ?_);intro a5 c5 l5 w5 hl5 kV hb5;have jw:=hB4.trans (hb5.mono ah);have DF:=(hb5.cell (p:=⟨w.heap.size,3,none⟩) (by show w.heap.size<_;omega)).trans hc4;have yJ:=hb5.size;have abp:Hid (l5.length=j):=bK (by rw [hl5.out,dx,fM hj]);have hjb:j<1000000:=by have:=qM.out;have:=hll.out;omega
     go_wp2_with (at_builtin;refine iQ (B:=w4.heap.size) (l:=l5) (y:=t0) rfl rfl underlying49 iE rfl rfl (kV.alloc _) bf vK.out (by rw [abp.out];omega) aJ ?_);intro a6 c6 l6 w6 JI lu hb6;have zX:=((bP w4.heap.size w5).alloc ah (.cells #[.int .i64 t0] 3)).trans hb6;have Ed:=hb5.trans zX;have jo:=jw.trans (zX.mono ah);have hc6:=(zX.cell (p:=⟨w.heap.size,3,none⟩) (by show w.heap.size<_;omega)).trans DF;have qR:=Ed.size;have ahg:Hid (l6.length=j+1):=bK (by rw [JI.out,dB,abp.out];rfl);clear kV hb5 hb6 zX jw DF yJ;go_wp2_with (at_builtin;refine jr (B:=w4.heap.size) (l0:=l6) (l1:=L.drop j) rfl rfl underlying49 iE rfl Hg lu (HD.out.below Ed) (by rw [ahg.out,aqb];have:=qM.out;have:=hll.out;omega) qR ?_);intro a7 c7 l7 w7 hl7 yR kG;have jY:=jo.trans (kG.mono ah);have JY:=(kG.cell (p:=⟨w.heap.size,3,none⟩) (by show w.heap.size<_;omega)).trans hc6;have xK:w.heap.size<w7.heap.size:=ig kG.size;have uf:=(yR.base (B':=w.heap.size+1) ah).anyM (M':=fun k=>w.heap.size+1<=k);have YK:Hid (l7=m.jG x (l.take (k+1))):=bK (by rw [hl7.out,JI.out,hl5.out,hF.out];simp);clear lu yR Ed kG jo hc6 qR hl5 JI hl7 HD HT;skip
     go_wp2;go_roundw;case rel=>exact ⟨k+1,a7,c7,l7,ah,by go_num,rfl,YK,uf,JY,xK,jY⟩
     case measure=>exact bF
    skip
    skip
    skip
    skip
    obtain ⟨b',hb'⟩:∃b',b'=dA (a2) c2 j:=⟨_,rfl⟩;have hda:(if c2=j then a2 else Option.map (fun (x:Addr)=>x.add j) a2)=b':=hb'.symm;have HD:=bK (HS4.out.drop (i:=j) hj);rw [<-hb'] at HD;have HT:=bK (HS4.out.taken (n:=j) hj);clear hb';have hjc:j<=c2:=ah;go_wp2_with (at_builtin;refine jr (B:=w4.heap.size) (l0:=[]) (l1:=L.take j) rfl rfl underlying49 iE rfl (Hf hj) Ow.nil HT.out (by simp;have:=qM.out;have:=hll.out;omega) (bM _) ?_);intro a5 c5 l5 w5 hl5 kV hb5;have jw:=hB4.trans (hb5.mono ah);have DF:=(hb5.cell (p:=⟨w.heap.size,3,none⟩) (by show w.heap.size<_;omega)).trans hc4;have yJ:=hb5.size;have abp:Hid (l5.length=j):=bK (by rw [hl5.out,dx,fM hj]);have hjb:j<1000000:=by have:=qM.out;have:=hll.out;omega
    go_wp2_with (at_builtin;refine iQ (B:=w4.heap.size) (l:=l5) (y:=t0) rfl rfl underlying49 iE rfl rfl (kV.alloc _) bf vK.out (by rw [abp.out];omega) aJ ?_);intro a6 c6 l6 w6 JI lu hb6;have zX:=((bP w4.heap.size w5).alloc ah (.cells #[.int .i64 t0] 3)).trans hb6;have Ed:=hb5.trans zX;have jo:=jw.trans (zX.mono ah);have hc6:=(zX.cell (p:=⟨w.heap.size,3,none⟩) (by show w.heap.size<_;omega)).trans DF;have qR:=Ed.size;have ahg:Hid (l6.length=j+1):=bK (by rw [JI.out,dB,abp.out];rfl);clear kV hb5 hb6 zX jw DF yJ;go_wp2_with (at_builtin;refine jr (B:=w4.heap.size) (l0:=l6) (l1:=L.drop j) rfl rfl underlying49 iE rfl Hg lu (HD.out.below Ed) (by rw [ahg.out,aqb];have:=qM.out;have:=hll.out;omega) qR ?_);intro a7 c7 l7 w7 hl7 yR kG;have jY:=jo.trans (kG.mono ah);have JY:=(kG.cell (p:=⟨w.heap.size,3,none⟩) (by show w.heap.size<_;omega)).trans hc6;have xK:w.heap.size<w7.heap.size:=ig kG.size;have uf:=(yR.base (B':=w.heap.size+1) ah).anyM (M':=fun k=>w.heap.size+1<=k);have YK:Hid (l7=m.jG x (l.take (k+1))):=bK (by rw [hl7.out,JI.out,hl5.out,hF.out];simp);clear lu yR Ed kG jo hc6 qR hl5 JI hl7 HD HT;clear hda;go_wp2;go_roundw;case rel=>exact ⟨k+1,a7,c7,l7,ah,by go_num,rfl,YK,uf,JY,xK,jY⟩
    case measure=>exact bF
  have hkn:Hid (L=m.jG x l):=bK (by rw [hL.out,bY ah]);have hS:=hO.fresh (n:=w.heap.size) ah;go_wp2;go_ret;exact ⟨a2,c2,L,rfl,hkn,hS,hB⟩
end
section
variable {M M':Nat->Prop} {w:World} {an ao b:Option Addr} {cn co d:Nat} {m:g_} {l:List Int}
theorem TM (hm:Ma M w an cn ao co m) (hs:Sl M' w b d l) (ok:Hid m.Ok) (hl:Hid (∀s∈l,0<=s/\s<m.h_.length)) (x:Nat) (hx:x<m.gZ.toNat):Calls prog 234 #[kF m an cn ao co,.slice b l.length d,.int .i64 x] w fun e w'=>e= .returned (.bool (m.jN x l l.length))/\Below w.heap.size w w':=by
 obtain ⟨bn,on,bo,oo,rfl,rfl⟩:=hm.addr ok.out;have hB0:=iB w (iP m (some ⟨bn,on,none⟩) cn (some ⟨bo,oo,none⟩) co);have hx0:=jE w m (some ⟨bn,on,none⟩) cn (some ⟨bo,oo,none⟩) co;have n1:=ok.out.n1;have l1:=hm.h_.le;have l2:=hm.out.le;have l3:=hs.le;have HM:=bK hm;have HL:=bK hs;clear hm hs;go_enter func234,ntmps234;go_upto_region 1 with (fail);generalize w.alloc (iP m (some ⟨bn,on,none⟩) cn (some ⟨bo,oo,none⟩) co)=w0 at*
 have hz0:w.heap.size<w0.heap.size:=lt_of_cell hx0.1;have HS:Hid (∀w',Below w0.heap.size w0 w'->C4 w' w.heap.size (some ⟨bn,on,none⟩) cn (some ⟨bo,oo,none⟩) co m/\Below w.heap.size w w'):=fun w' h=>⟨hx0.below h hz0,hB0.trans (h.mono ah)⟩;have Gd:Hid (m.jN x l 0=true):=rfl;have hb0:=bP w0.heap.size w0;clear hx0 hB0;go_wp2_with fail;go_loopw [7] (fun i wr=>∃k:Nat,k<=l.length/\i= .int .i64 k/\Hid (m.jN x l k=true)/\Below w0.heap.size w0 wr) (fun i _=>l.length-(intOf i).toNat);case atStart=>exact ⟨0,ah,rfl,Gd,hb0⟩
 case round=>
  clear Gd hb0;obtain ⟨k,hk,rfl,hF,hB⟩:=hrel;obtain ⟨wo,rfl⟩:=iA wr;by_cases hlt:k<l.length
  ·have hck:Hid (l[k]? =some l[k]):=bN hlt;obtain ⟨u,hu⟩:∃u,u=l[k]:=⟨_,rfl⟩;rw [<-hu] at hck;have hur:=hl.out u (bV hck.out);obtain ⟨s,rfl⟩:=b_ hur.1;have hsn:s<m.h_.length:=ah;have hG0:Hid (m.qU x (l.take 0) (s:Int)=true):=by unfold Hid g_.qU;simp
   have Qs:=bK hB;clear hu hur hB;go_wp2_with fail;go_loopw [8] (fun i wr=>∃j:Nat,j<=k/\i= .int .i64 j/\Hid (m.qU x (l.take j) (s:Int)=true)/\Below w0.heap.size w0 wr) (fun i _=>k-(intOf i).toNat);case atStart=>exact ⟨0,ah,rfl,hG0,Qs.out⟩
   case round=>
    clear hG0 Qs;obtain ⟨j,hj,rfl,hG,hB⟩:=hrel;obtain ⟨wi,rfl⟩:=iA wr;obtain ⟨hC,hBw⟩:=HS.out _ hB;by_cases hjk:j<k
    ·have hjl:j<l.length:=ah;obtain ⟨bs,os,s',rfl,hsc,hs', -⟩:=(HL.out.below hBw).iC hlt;obtain rfl:=Qr hck.out hs'.out;obtain ⟨Rs,os2,t',hbe,htc,ht', -⟩:=(HL.out.below hBw).iC hjl;obtain ⟨rfl,rfl⟩:bs=Rs/\os=os2:=iq hbe;have htr:=hl.out t' (bV ht'.out);obtain ⟨t,rfl⟩:=b_ htr.1;have htn:t<m.h_.length:=ah;have hso:s<m.out.length:=by rw [ok.out.lo];exact hsn
     have hto:t<m.out.length:=by rw [ok.out.lo];exact htn
     obtain ⟨b1,o1,d1,r1,b2,o2,d2,r2,nn,y,hn1,hn2,wU,hn4,hn5,hy0,hy1,hnx,hot,hr1,hr2,hr3,hr4⟩:=(HM.out.below hBw).RQ ok.out hsn hx;obtain ⟨b5,o5,d5,r5,b6,o6,d6,r6,nn2,y2,hk1,hk2,hk3,hk4,hk5,apF,acW,aaM,adE,hq1,hq2,hq3,hq4⟩:=(HM.out.below hBw).RQ ok.out htn hx;have hmg:Hid (m.mrg x (s:Int) (t:Int)=(decide (y=y2)&&decide ((nn:Int)=nn2))):=by unfold Hid g_.mrg;rw [show m.ot ((s:Int)).toNat x=y from hot.out,show m.ot ((t:Int)).toNat x=y2 from adE.out,show m.nx ((s:Int)).toNat x=nn from hnx.out,show m.nx ((t:Int)).toNat x=nn2 from aaM.out]
     obtain ⟨hc0,hc1,hc2,hc3⟩:=hC;have p1:∀n,(wi.drewN n).cell? ⟨w.heap.size,3,none⟩=some (.slice (some ⟨bo,oo,none⟩) m.out.length co):=fun n=>by simpa using hc3
     have p2:∀n,(wi.drewN n).cell? ⟨w.heap.size,2,none⟩=some (.slice (some ⟨bn,on,none⟩) m.h_.length cn):=fun n=>by simpa using hc2
     have p3:∀n,(wi.drewN n).cell? ⟨bs,os+k,none⟩=some (.int .i64 (s:Int)):=fun n=>by simpa using hsc
     have p4:∀n,(wi.drewN n).cell? ⟨bs,os+j,none⟩=some (.int .i64 (t:Int)):=fun n=>by simpa using htc
     have p5:∀n,(wi.drewN n).cell? ⟨bn,on+s,none⟩=some (.slice (some ⟨b1,o1,none⟩) r1 d1):=fun n=>by simpa using hn1
     have p6:∀n,(wi.drewN n).cell? ⟨bo,oo+s,none⟩=some (.slice (some ⟨b2,o2,none⟩) r2 d2):=fun n=>by simpa using hn2
     have p7:∀n,(wi.drewN n).cell? ⟨b1,o1+x,none⟩=some (.int .i64 (nn:Int)):=fun n=>by simpa using wU
     have p8:∀n,(wi.drewN n).cell? ⟨b2,o2+x,none⟩=some (.int .i64 y):=fun n=>by simpa using hn4
     have q5:∀n,(wi.drewN n).cell? ⟨bn,on+t,none⟩=some (.slice (some ⟨b5,o5,none⟩) r5 d5):=fun n=>by simpa using hk1
     have q6:∀n,(wi.drewN n).cell? ⟨bo,oo+t,none⟩=some (.slice (some ⟨b6,o6,none⟩) r6 d6):=fun n=>by simpa using hk2
     have q7:∀n,(wi.drewN n).cell? ⟨b5,o5+x,none⟩=some (.int .i64 (nn2:Int)):=fun n=>by simpa using hk3
     have q8:∀n,(wi.drewN n).cell? ⟨b6,o6+x,none⟩=some (.int .i64 y2):=fun n=>by simpa using hk4
     clear hbe htr hnx hot aaM adE hc0 hc1 hc2 hc3 hsc htc hn1 hn2 wU hn4 hk1 hk2 hk3 hk4;have nW:(((y==y2)=false\/((y==y2)=true/\((nn:Int)==(nn2:Int))=false))/\Hid (m.mrg x (s:Int) (t:Int)=false))\/((y==y2)=true/\((nn:Int)==(nn2:Int))=true/\Hid (m.mrg x (s:Int) (t:Int)=true)):=by
      by_cases e1:y=y2
      ·by_cases e2:(nn:Int)=nn2;·exact .inr ⟨by simp [e1],by rw [e2];simp,bK (by rw [hmg.out];simp [e1];omega)⟩
       exact .inl ⟨.inr ⟨by simp [e1],iq e2⟩,bK (by rw [hmg.out];simp [e1];omega)⟩
      exact .inl ⟨.inl (by simp [e1]),bK (by rw [hmg.out];simp [e1])⟩
     rcases nW with ⟨he,hg⟩|⟨he,he2,hg⟩
     ·have hG2:=bK (g_.zO ht'.out hg.out hG.out);rcases he with he|⟨he,he2⟩
      ·go_upto_region 7 with (fail);refine go_quiet fun nq=> ?_;have Gl:=iF hB nq;clear p1 p2 p3 p4 p5 p6 p7 p8 q5 q6 q7 q8 hB hBw;generalize wi.drewN nq=w5 at*
       go_wp2;go_roundw;case rel=>exact ⟨j+1,ah,by go_num,hG2,Gl⟩
       case measure=>exact bF
      go_upto_region 7 with (fail);refine go_quiet fun nq=> ?_;have Gl:=iF hB nq;clear p1 p2 p3 p4 p5 p6 p7 p8 q5 q6 q7 q8 hB hBw;generalize wi.drewN nq=w5 at*
      go_wp2;go_roundw;case rel=>exact ⟨j+1,ah,by go_num,hG2,Gl⟩
      case measure=>exact bF
     have hN:Hid (m.jN x l l.length=false):=by have h1:m.qU x (l.take k) (s:Int)=false:=g_.Ko (j:=j) (by rw [dL,bQ hjk];exact ht'.out) hg.out;refine g_.Km (k:=k+1) ah ?_;simp only [g_.jN];rw [iw hck.out,h1,Bool.and_false]
     go_upto_region 7 with (fail);refine go_quiet fun nq=> ?_;have Gl:=iF hBw nq;clear p1 p2 p3 p4 p5 p6 p7 p8 q5 q6 q7 q8 hB hBw;generalize wi.drewN nq=w5 at*
     go_wp2;go_ret;exact ⟨by rw [hN.out];rfl,Gl⟩
    have hF2:Hid (m.jN x l (k+1)=true):=by unfold Hid;simp only [g_.jN];have hG2:=hG.out;rw [show j=k by omega] at hG2;rw [hF.out,iw hck.out,hG2];rfl
    go_wp2;go_roundw;case rel=>exact ⟨k+1,ah,by go_num,hF2,hB⟩
    case measure=>exact bF
  have hT:Hid (m.jN x l l.length=true):=by rw [show l.length=k by omega];exact hF
  have hBw:=(HS.out _ hB).2;go_wp2;go_ret;exact ⟨by rw [hT.out];rfl,hBw⟩
end
def Two (B:Nat) (w:World) (T:TypeId) (v u:Value) (K1 K2:List (List Int)):Prop:=
 Ow B (fun k=>v.ownBlock=some k\/u.ownBlock=some k) w T v K1/\Ow B (fun k=>v.ownBlock=some k\/u.ownBlock=some k) w T u K2/\Hid (∀k,v.ownBlock=some k->u.ownBlock=some k->False)
theorem Two.symm {B:Nat} {w:World} {T:TypeId} {v u:Value} {K1 K2:List (List Int)} (h:Two B w T v u K1 K2):Two B w T u v K2 K1:=
 ⟨h.2.1.oF fun _ _ hm=>hm.symm,h.1.oF fun _ _ hm=>hm.symm,fun k h1 h2=>h.2.2.out k h2 h1⟩
theorem Two.below {B:Nat} {w w':World} {T:TypeId} {v u:Value} {K1 K2:List (List Int)} (h:Two B w T v u K1 K2) (hb:Below w.heap.size w w'):Two B w' T v u K1 K2:=⟨h.1.below hb,h.2.1.below hb,h.2.2⟩
theorem Two.alloc {B:Nat} {w:World} {T:TypeId} {v u:Value} {K1 K2:List (List Int)} (h:Two B w T v u K1 K2) (o:Obj):Two B (w.alloc o) T v u K1 K2:=h.below ((bP _ _).alloc (bM _) _)
theorem Two.fresh {B:Nat} {w w':World} {T:TypeId} {v u:Value} {K1 K2:List (List Int)} (h:Two B w T v u K1 K2) {a:Option Addr} {c:Nat} {r:List Int} (hs:Sl (fun k=>k<w.heap.size) w' a c r):Sl (fun k=>v.ownBlock=some k\/u.ownBlock=some k) w' a c r:=
 hs.anti fun k _ hm=>hm.elim (fun e=>(h.1.lt k e).2) fun e=>(h.2.1.lt k e).2
theorem abq {v v' u:Value} {w w':World} {a:Option Addr} {c:Nat} {l:List Int} (hS:Sl (fun k=>v.ownBlock=some k\/u.ownBlock=some k) w a c l) (hg:w.grownBy w' v.ownBlock) (ho:∀k,v'.ownBlock=some k->v.ownBlock=some k\/k=w.heap.size):Sl (fun k=>v'.ownBlock=some k\/u.ownBlock=some k) w' a c l:=
 hS.ext ⟨hg.size,fun k hk hm=>hg.block k hk fun e=>hm (.inl e.symm),fun k hk hm=>hm.elim (fun e=>(ho k e).elim .inl fun e2=>by omega) .inr⟩
theorem Ow.ahh {B:Nat} {M:Nat->Prop} {w:World} {T:TypeId} {a:Option Addr} {c:Nat} {r:List Int} (hs:Sl M w a c r) (hB:B<=w.heap.size):Ow B M (w.alloc (.cells #[.slice a r.length c] T)) T (.slice (some ⟨w.heap.size,0,none⟩) 1 1) [r]:=by
 refine ⟨[.slice a r.length c],?_,fun j y hj=> ?_⟩;·exact aqk w #[.slice a r.length c] 1 hB aS (by simp [GR.sz])
 match j,hj with
 |0,hj=>simp at hj;subst hj;exact ⟨a,c,rfl,hs.alloc _⟩
section
variable {P:Program} {w:World} {o:Oper} {a:Act} {ops:Array Oper} {rest:List Oper} {Q:Exit->Act->World->Prop}
theorem zo {K1 K2:List (List Int)} {r:List Int} {s x:Operand} {t e:TypeId} {B:Nat} {v u:Value} {g c:Nat} {ar:Option Addr} {cr:Nat} (hg:o.guard=none) (hop:o.op= .call {callee:= .builtin .append,args:= #[s,x],argTypes:= #[t,t]}) (ht:P.underlying t=some (.slice e)) (hi:(P.info? e).map (fun i=>(i.zero,i.size,i.bytes))=some (some (.slice none 0 0),1,24)) (hs:a.eval s=v) (hx:a.eval x= .slice (some ⟨g,0,none⟩) 1 c) (hT:Two B w e v u K1 K2) (lU:w.cell? ⟨g,0,none⟩=some (.slice ar r.length cr)) (hy:Sl (fun k=>v.ownBlock=some k\/u.ownBlock=some k) w ar cr r) (iX:K1.length<1000000000000) (hB:B<=w.heap.size) (h:∀(a':Option Addr) (c':Nat) (l':List (List Int)) (w':World),Hid (l'=K1++[r])->Two B w' e (.slice a' l'.length c') u l' K2->Hid (∀k,(Value.slice a' l'.length c').ownBlock=some k->v.ownBlock=some k\/k=w.heap.size)->w.grownBy w' v.ownBlock->Below B w w'-> wpList P ops Q rest (a.put o.dst (.slice a' l'.length c')) w'):wpList P ops Q (o::rest) a w:=by
 refine tZ (N:=fun k=>u.ownBlock=some k) hg s x t hop e (.slice none 0 0) 1 24 ht hi rfl (by decide) B v K1 hs rfl hT.1 ⟨g,0,none⟩ c [.slice ar r.length cr] r hx (nD hy) ?_ ?_ ah aS hB ?_
 ·intro j y hj;match j,hj with
  |0,hj=>simp at hj;subst hj;simpa [Addr.add] using lU
 ·intro y hy;simp at hy;subst hy;rfl
 intro a' c' l' w' h1 h2 h3 h4;have hne:∀k,u.ownBlock=some k->w'.heap[k]? =w.heap[k]? :=fun k hk=>h4.block k (hT.2.1.lt k hk).2 fun e=>hT.2.2.out k e.symm hk;refine h a' c' l' w' h1 ⟨h2,hT.2.1.ext ⟨h4.size,fun k hk hm=>h4.block k hk fun e=>hm (.inl e.symm),fun k hk hm=> ?_⟩ hne,fun k hk hu=> ?_⟩ (fun k hk=>(h3.out k hk).1) h4 ((bP _ _).grown h4 hB fun k hk=>(hT.1.lt k hk).1)
 ·rcases hm with hm|hm
  ·rcases (h3.out k hm).1 with e|e;·exact .inl e
   omega
  exact .inr hm
 rcases (h3.out k hk).1 with e|e;·exact hT.2.2.out k e hu
 have:=(hT.2.1.lt k hu).2;omega
theorem Hl {K1 K2:List (List Int)} {r:List Int} {s x:Operand} {t e:TypeId} {B:Nat} {v u:Value} {g c:Nat} {ar:Option Addr} {cr:Nat} (hg:o.guard=none) (hop:o.op= .call {callee:= .builtin .append,args:= #[s,x],argTypes:= #[t,t]})
    (ht:P.underlying t=some (.slice e)) (hi:(P.info? e).map (fun i=>(i.zero,i.size,i.bytes))=some (some (.slice none 0 0),1,24))
    (hs:a.eval s=u) (hx:a.eval x= .slice (some ⟨g,0,none⟩) 1 c) (hT:Two B w e v u K1 K2) (lU:w.cell? ⟨g,0,none⟩=some (.slice ar r.length cr)) (hy:Sl (fun k=>v.ownBlock=some k\/u.ownBlock=some k) w ar cr r)
    (iX:K2.length<1000000000000) (hB:B<=w.heap.size)
    (h:∀(a':Option Addr) (c':Nat) (l':List (List Int)) (w':World),Hid (l'=K2++[r])->Two B w' e v (.slice a' l'.length c') K1 l'->Below B w w'->
     wpList P ops Q rest (a.put o.dst (.slice a' l'.length c')) w'):wpList P ops Q (o::rest) a w:=
 zo hg hop ht hi hs hx hT.symm lU (hy.anti fun _ _ hm=>hm.symm) iX hB fun a' c' l' w' h1 h2 _ _ h3=>h a' c' l' w' h1 h2.symm h3
end
theorem g_.XY {m:g_} {a:Nat} {l:List Int} (h0:0<l.length):(m.vW a l l.length=true->¬1<(m.jG a l).length)/\(m.vW a l l.length=false->1<(m.jG a l).length):=by
 have hl0:l[0]? =some l[0]:=bN h0;unfold g_.vW g_.jG;rw [dV,iw hl0];constructor
 ·intro h;rw [f_] at h;have e:kR (l.map fun s=>m.ot s.toNat a)=[m.ot l[0].toNat a]:=by
   refine Vs (by simp [qP]) fun z=> ?_;rw [dZ,aqJ];constructor;·rintro rfl;exact ⟨l[0],dQ h0,rfl⟩
   rintro ⟨s,hs,rfl⟩;simpa using h s hs
  rw [e];simp
 intro h;rw [aqw] at h;obtain ⟨s,hs,hne⟩:=h;have hne:m.ot s.toNat a≠m.ot l[0].toNat a:=iq hne;have h1:m.ot s.toNat a∈kR (l.map fun s=>m.ot s.toNat a):=by rw [pR];exact aqJ.2 ⟨s,hs,rfl⟩
 have h2:m.ot l[0].toNat a∈kR (l.map fun s=>m.ot s.toNat a):=by rw [pR];exact aqJ.2 ⟨l[0],dQ h0,rfl⟩
 generalize kR (l.map fun s=>m.ot s.toNat a)=X at h1 h2;match X,h1,h2 with
 |[],h1,_=>simp at h1
 |[y],h1,h2=>rw [dZ] at h1 h2;exact absurd (h1.trans h2.symm) hne
 |_::_::_,_,_=>simp
theorem g_.ahi {m:g_} {a:Nat} {l:List Int} (h:m.jN a l l.length=true):m.wQ a l=(l.map fun s=>m.nx s.toNat a,true,m.vW a l l.length):=by
 unfold wQ wH;rw [bQ h,dV]
theorem g_.ahj {m:g_} {a:Nat} {l:List Int} (h:m.jN a l l.length=false):(m.wQ a l).2.1=false:=by
 unfold wQ;rw [bO (by rw [h];simp)]
section
variable {M M':Nat->Prop} {w:World} {an ao b:Option Addr} {cn co d:Nat} {m:g_} {l:List Int}
theorem abr (hm:Ma M w an cn ao co m) (hs:Sl M' w b d l) (ok:Hid m.Ok) (hl:Hid (∀s∈l,0<=s/\s<m.h_.length)) (x:Nat) (hx:x<m.gZ.toNat) {v:Bool} (h:m.jN x l l.length=v):
    Calls prog 234 #[kF m an cn ao co,.slice b l.length d,.int .i64 x] w fun e w'=>e= .returned (.bool v)/\Below w.heap.size w w':=by rw [<-h];exact TM hm hs ok hl x hx
theorem TN (hm:Ma M w an cn ao co m) (hs:Sl M' w b d l) (ok:Hid m.Ok) (hl:Hid (∀s∈l,0<=s/\s<m.h_.length)) (hll:Hid (l.length<1000)) (h0:Hid (0<l.length)):Calls prog 194 #[kF m an cn ao co,.slice b l.length d] w fun e w'=>∃(a':Option Addr) (c':Nat) (W:List Int) (y:Bool),e= .returned (.tuple #[.slice a' W.length c',.bool y])/\Hid (m.oZ l=(W,y))/\ Sl (fun k=>k<w.heap.size) w' a' c' W/\Below w.heap.size w w':=by
 have hB0:=iB w (iP m an cn ao co);have hx0:=jE w m an cn ao co;have n1:=ok.out.n1;have i1:=ok.out.i1;have l1:=hm.h_.le;have l2:=hm.out.le;have l3:=hs.le;have HM:=bK hm;have HS:=bK (hs.anti (M':=fun k=>w.heap.size<=k) fun k hk h=>absurd hk ah);clear hm hs;go_enter func194,ntmps194;go_upto_region 1 with (fail);generalize w.alloc (iP m an cn ao co)=w0 at*
 have hz0:w.heap.size<w0.heap.size:=lt_of_cell hx0.1;have HC:Hid (∀w',Below w0.heap.size w0 w'->C4 w' w.heap.size an cn ao co m/\Below w.heap.size w w'):=fun w' h=>⟨hx0.below h hz0,hB0.trans (h.mono ah)⟩;have hb1:=iB w0 (.cells #[.slice b l.length d] 49);have hb2:=hb1.alloc aH (.cells #[.slice none 0 0] 49);have hT0:Two w0.heap.size ((w0.alloc (.cells #[.slice b l.length d] 49)).alloc (.cells #[.slice none 0 0] 49)) 49 (.slice (some ⟨w0.heap.size,0,none⟩) 1 1) (.slice (some ⟨w0.heap.size+1,0,none⟩) 1 1) [l] [[]]:=by
  have hsz:(w0.alloc (.cells #[.slice b l.length d] 49)).heap.size=w0.heap.size+1:=aH
  have hn:∀k,(Value.slice (some ⟨w0.heap.size,0,none⟩) 1 1).ownBlock=some k\/(Value.slice (some ⟨w0.heap.size+1,0,none⟩) 1 1).ownBlock=some k->w0.heap.size<=k:=fun k hk=>by
   rcases hk with hk|hk<;>simp [Value.ownBlock] at hk<;>omega
  refine ⟨?_,?_,fun k h1 h2=>by simp [Value.ownBlock] at h1 h2;omega⟩;·exact Ow.alloc (Ow.ahh ((HS.out.below hB0).anti fun k hk hm=>by have:=hn k hm;omega) (bM _)) _
  have h:=Ow.ahh (B:=w0.heap.size) (M:=fun k=>(Value.slice (some ⟨w0.heap.size,0,none⟩) 1 1).ownBlock=some k\/(Value.slice (some ⟨w0.heap.size+1,0,none⟩) 1 1).ownBlock=some k) (w:=w0.alloc (.cells #[.slice b l.length d] 49)) (T:=49) (a:=none) (c:=0) (r:=[]) (Sl.nil _ _ _ aS) ah;rw [hsz] at h;exact h
 have Gd:Hid (m.Af l 0= .go [⟨l,[]⟩]):=rfl;have kJ:=bK (g_.aeO hl.out);have aj6:Hid ([l]=[(⟨l,[]⟩:Fq)].map Fq.st):=rfl;have aj7:Hid ([([]:List Int)]=[(⟨l,[]⟩:Fq)].map Fq.word):=rfl;clear hx0 hB0 hb1;go_wp2_with fail;generalize hgg:(w0.alloc (.cells #[.slice b l.length d] 49)).alloc (.cells #[.slice none 0 0] 49)=w2 at*
 clear hgg
 go_loopw [6,7,8] (fun v u i wr=>∃(k:Nat) (a1:Option Addr) (c1:Nat) (a2:Option Addr) (c2:Nat) (L:List Fq) (K1 K2:List (List Int)),k<=4096/\i= .int .i64 k/\v= .slice a1 K1.length c1/\u= .slice a2 K2.length c2/\Hid (m.Af l k= .go L)/\Hid (m.Vx l k L)/\Hid (K1=L.map Fq.st)/\Hid (K2=L.map Fq.word)/\
  Two w0.heap.size wr 49 (.slice a1 K1.length c1) (.slice a2 K2.length c2) K1 K2/\Below w0.heap.size w0 wr) (fun _ _ i _=>4097-(intOf i).toNat)
 case atStart=>exact ⟨0,some ⟨w0.heap.size,0,none⟩,1,some ⟨w0.heap.size+1,0,none⟩,1,[⟨l,[]⟩],[l],[[]],ah,rfl,rfl,rfl,Gd,kJ,aj6,aj7,hT0,hb2⟩
 case round=>
  clear Gd kJ aj6 aj7 hT0 hb2;obtain ⟨k,a1,c1,a2,c2,L,K1,K2,hk,rfl,rfl,rfl,hL,hLo,hK1,hK2,hT,hB⟩:=hrel;obtain ⟨wo,rfl⟩:=iA wr;have hL4:=bK hLo.out.size;have rW:Hid (K1.length=L.length):=bK (by rw [hK1.out,dJ]);by_cases hlt:k<K1.length
  ·have Qv:k<L.length:=by have:=rW.out;omega
   obtain ⟨q,hq⟩:∃q,L[k]? =some q:=⟨_,bN Qv⟩;have hqm:=bV hq;have Ey:=bK (hLo.out.st q hqm);have hql:=bK (hLo.out.len q hqm);have IK:=bK (hLo.out.word q hqm);have HQ:=bK hq;have hr0:Hid (m.fRow q L 0= .go L):=rfl;have aaY:=bK (hLo.out.up (j:=k+1) ah);have am0:0<=m.gZ:=ig ok.out.i0;clear hq hqm rW;go_wp2_with fail
   go_loopw [6,7,9] (fun v u i wr=>∃(j:Nat) (a1:Option Addr) (c1:Nat) (a2:Option Addr) (c2:Nat) (X:List Fq) (K1 K2:List (List Int)),j<=m.gZ.toNat/\i= .int .i64 j/\v= .slice a1 K1.length c1/\u= .slice a2 K2.length c2/\Hid (m.fRow q L j= .go X)/\Hid (m.Vx l (k+1) X)/\Hid (X[k]? =some q)/\Hid (K1=X.map Fq.st)/\Hid (K2=X.map Fq.word)/\
    Two w0.heap.size wr 49 (.slice a1 K1.length c1) (.slice a2 K2.length c2) K1 K2/\Below w0.heap.size w0 wr) (fun _ _ i _=>m.gZ.toNat-(intOf i).toNat)
   case atStart=>exact ⟨0,a1,c1,a2,c2,L,K1,K2,ah,rfl,rfl,rfl,hr0,aaY,HQ,hK1,hK2,hT,hB⟩
   case round=>
    clear hr0 aaY hK1 hK2 hT hB;obtain ⟨j,p1,d1,p2,d2,X,J1,J2,hj,rfl,rfl,rfl,hR,hKo,YN,hJ1,hJ2,hT,hB⟩:=hrel;obtain ⟨w5,rfl⟩:=iA wr;have hX4:=bK hKo.out.size;have hJl:Hid (J1.length=X.length/\J2.length=X.length):=bK (by rw [hJ1.out,hJ2.out,dJ,dJ];exact ⟨rfl,rfl⟩);obtain ⟨hc0, -, -, -⟩:=(HC.out _ hB).1;have hkX:=iW YN.out;have anq:k<J1.length:=ig hJl.out;have anr:k<J2.length:=ig hJl.out;by_cases hlj:j<m.gZ.toNat
    ·have adL:((j:Nat):Int)<m.gZ:=ah;obtain ⟨g,rfl, -,hgw⟩:=jZ hT.1 ah;obtain ⟨g2,rfl, -,ahk⟩:=jZ hT.2.1 ah;obtain ⟨ar,r,cr,hrc, -,hr,hsr⟩:=hT.1.iD rfl anq;obtain ⟨br,r2,dr,ad7, -,hr2,abt⟩:=hT.2.1.iD rfl anr;obtain rfl:r=q.st:=by have h:=hr.out;rw [hJ1.out,dP,YN.out] at h;simpa using h.symm
     obtain rfl:r2=q.word:=by have h:=hr2.out;rw [hJ2.out,dP,YN.out] at h;simpa using h.symm
     have HR1:=bK hsr;have HR2:=bK abt;have ant:=hsr.le
     have HG:Hid (∀w',Below w5.heap.size w5 w'->(C4 w' w.heap.size an cn ao co m/\w'.cell? ⟨g,k,none⟩=some (.slice ar q.st.length cr))/\w'.cell? ⟨g2,k,none⟩=some (.slice br q.word.length dr)):=fun w' h=>
      ⟨⟨(HC.out _ (hB.trans (h.mono hB.size))).1,(h.cell (p:=⟨g,k,none⟩) hgw).trans hrc⟩,(h.cell (p:=⟨g2,k,none⟩) ahk).trans ad7⟩
     have hBw:=(HC.out _ hB).2;have HT:=bK hT;have HB5:=bK hB;have MG:=bK hBw;clear hsr abt hrc ad7 hr hr2 hT hB hBw hgw ahk;go_upto_region 9 with (fail);clear hc0;refine iO (fun w'=>C4 w' w.heap.size an cn ao co m/\w'.cell? ⟨g,k,none⟩=some (.slice ar q.st.length cr)) [0,1,2,3,4,5,7] aB ?_;have jo:=(bP w5.heap.size w5).drew;have uK:=(HG.out _ jo).1;generalize w5.drew=w6 at*
     obtain ⟨sf,hsf⟩:∃sf,m.jN j q.st q.st.length=sf:=⟨_,rfl⟩;have pY:=bK (MG.out.trans (jo.mono MG.out.size));have HSf:=bK (abr (HM.out.below pY.out) (HR1.out.below jo) ok Ey j hlj hsf);have HSF:=bK hsf;clear hsf;refine iT [0,1,2,3,4,5] ?_;refine iJ 6 fun K hK=> ?_;go_simp;refine (HSf.out).mono ?_;rintro e w7 ⟨rfl,kG⟩;have jY:=jo.trans (kG.mono jo.size);have IL:=(HG.out _ jY).1;refine hK _ _ (fun _=>IL) ?_;clear hK K HSf jo uK kG pY;refine iT [7] ?_;refine iN aB ?_ _;clear IL;cases sf with
     |false=>
      have hR2:Hid (m.fRow q L (j+1)= .go X):=g_.mI hR.out (by unfold g_.vZ;rw [bQ (g_.ahj HSF.out)]);have hT7:=HT.out.below jY;have anu:=HB5.out.trans (jY.mono HB5.out.size);clear jY;go_wp2;go_roundw;case rel=>exact ⟨j+1,some ⟨g,0,none⟩,d1,some ⟨g2,0,none⟩,d2,X,J1,J2,ah,by go_num,rfl,rfl,hR2,hKo,YN,hJ1,hJ2,hT7,anu⟩
      case measure=>exact bF
     |true=>
      have haf:=bK (g_.ahi HSF.out);have hc8:=(HG.out _ jY).2;have HEx:=bK (vP (j:Int) bg (HR2.out.below jY) (ig IK.out.1));go_wp2_with fail;refine (HEx.out).mono ?_;rintro e w8 ⟨aW,cW,W,rfl,hW,hWs,rP⟩;have mg:=jY.trans (rP.mono jY.size);have anv:=hWs.le;have hW8:=HT.out.fresh (hWs.anti (M':=fun k=>k<w5.heap.size) fun k _ hm=>by have:=jY.size;show k<_;omega);have Mq:Hid (Sl (fun k=>k<w.heap.size) w8 aW cW W):=hWs.anti fun k _ hm=>by have:=jY.size;have:=MG.out.size;show k<_;omega
      clear HEx hc8 rP jY hWs;go_upto_region 11 with (fail);refine iO (fun w'=>C4 w' w.heap.size an cn ao co m/\w'.cell? ⟨g,k,none⟩=some (.slice ar q.st.length cr)) [0,1,2,3,4,5,7,8] aB ?_;have hdr:=(bP w8.heap.size w8).drew;have mH:=mg.trans (hdr.mono mg.size);have W_:=(HG.out _ mH).1;have HW9:=bK (hW8.below hdr);have aj8:=bK (Mq.out.below hdr);have hq6:Hid (q.st.length<1000000):=bK (by rw [hql.out];have:=hll.out;omega);have HOu:=bK (t_ (HM.out.below (MG.out.trans (mH.mono MG.out.size))) (HR1.out.below mH) ok Ey hq6 j hlj);clear hdr mg hW8 Mq;generalize w8.drew=w9 at*
      refine iT [0,1,2,3,4,5] ?_;refine iJ 6 fun K hK=> ?_;go_simp;refine (HOu.out).mono ?_;rintro e qo ⟨aO,cO,O,rfl,hO,hOs,nO⟩;have nE:=mH.trans (nO.mono mH.size);have rQ:=(HG.out _ nE).1;have aj9:=bK (HW9.out.below nO);have aeZ:=bK (aj8.out.below nO);have hOl:=hOs.le;refine hK _ _ (fun _=>rQ) ?_;clear hK K HOu mH W_ nO HW9 aj8 hOs;refine iT [7,8] ?_;refine iN aB ?_ _;clear rQ;obtain ⟨eb,LV⟩:∃eb,m.vW j q.st q.st.length=eb:=⟨_,rfl⟩;have hq0:0<q.st.length:=by have:=hql.out;have:=h0.out;omega
      have akb:Hid (m.wQ j q.st=(q.st.map (fun s=>m.nx s.toNat j),true,eb)):=bK (by rw [haf.out,LV]);have VF:=bK (g_.XY (m:=m) (a:=j) hq0);cases eb with
      |false=>
       have kH:((O.length:Int)>1):=by have h:=VF.out.2 LV;rw [<-hO.out] at h;omega
       have hO2:decide (1<O.length)=true:=dw ah;have hF:Hid (m.oZ l=(W,true)):=by unfold Hid;rw [g_.uO (g_.Bg (r:= .word W) hL.out (by rw [yK];omega) Qv HQ.out (a:=j+1) ah (g_.mI hR.out (by unfold g_.vZ;rw [akb.out,hW.out];rfl)) (fun K h=>by cases h))];rfl
       have jh:=MG.out.trans (nE.mono MG.out.size);clear LV hq0;go_wp2;go_ret2;exact ⟨aW,cW,W,true,rfl,hF,aeZ.out,jh⟩
      |true=>
       have kH:¬((O.length:Int)>1):=by have h:=VF.out.1 LV;rw [<-hO.out] at h;omega
       have hO2:decide (1<O.length)=false:=cZ ah;clear LV hq0 aeZ;go_upto_region 13 with (fail);refine iO (fun w'=>C4 w' w.heap.size an cn ao co m/\w'.cell? ⟨g,k,none⟩=some (.slice ar q.st.length cr)) [0,1,2,3,4,5,7] aB ?_;have hdr:=(bP qo.heap.size qo).drew;have sZ:=nE.trans (hdr.mono nE.size);have qZ:=(HG.out _ sZ).1;have akc:=bK (aj9.out.below hdr);have HNx:=bK (zT (HM.out.below (MG.out.trans (sZ.mono MG.out.size))) (HR1.out.below sZ) ok Ey hq6 j hlj);clear hdr nE aj9 kH hO2;generalize qo.drew=Ae at*
       refine iT [0,1,2,3,4,5] ?_;refine iJ 6 fun K hK=> ?_;go_simp;refine (HNx.out).mono ?_;rintro e Tt ⟨aN,cN,Nx,rfl,hNx,hNs,vX⟩;have Ec:=sZ.trans (vX.mono sZ.size);have yS:=(HG.out _ Ec).1;have anw:=bK (akc.out.below vX);have akd:=bK (HT.out.fresh (hNs.anti (M':=fun k=>k<w5.heap.size) fun k _ hm=>by have:=sZ.size;show k<_;omega));have hNl:=hNs.le;refine hK _ _ (fun _=>yS) ?_;clear hK K HNx sZ qZ vX akc hNs;refine iT [7] ?_;refine iN aB ?_ _;clear yS;have ad8:Hid (m.wQ j q.st=(Nx,true,true)):=bK (by rw [akb.out,hNx.out]);have hat:=bK (g_.Qd ok.out hlj Ey.out ad8.out);have ake:Hid (false=decide (Nx∈J1.take 0)):=bK aH;have Qw:=bP Tt.heap.size Tt;have hJ4:J1.length<=4096:=by have:=hX4.out;have:=hJl.out;omega
       go_wp2_with fail;go_loopw [12,13] (fun u i wr=>∃(p:Nat) (kb:Bool),p<=J1.length/\i= .int .i64 p/\u= .bool kb/\Hid (kb=decide (Nx∈J1.take p))/\Below Tt.heap.size Tt wr) (fun _ i _=>J1.length-(intOf i).toNat);case atStart=>exact ⟨0,false,ah,rfl,rfl,ake,Qw⟩
       case round=>
        clear ake Qw;obtain ⟨p,kb,hp,rfl,rfl,hkb,hBl⟩:=hrel;obtain ⟨wi,rfl⟩:=iA wr;have zQ:=Ec.trans (hBl.mono Ec.size);by_cases hpl:p<J1.length
        ·cases kb with
         |true=>
          have Jr:Hid (true=decide (Nx∈J1.take (p+1))):=bK (RI (fT hkb.out.symm));go_wp2;go_roundw;case rel=>exact ⟨p+1,true,ah,by go_num,rfl,Jr,hBl⟩
          case measure=>exact bF
         |false=>
          obtain ⟨az,z,cz,hzc, -,hz,hsz⟩:=(HT.out.below zQ).1.iD rfl hpl;have hzl:=hsz.le;have CF:=BS (hsz.anti (M':=fun _=>False) fun _ _ h=>h.elim) ((akd.out.below hBl).anti (M':=fun _=>False) fun _ _ h=>h.elim);clear hsz;by_cases ez:z=Nx
          ·rw [dw ez] at CF;have HEq:=bK CF;have Jr:Hid (true=decide (Nx∈J1.take (p+1))):=bK (RJ hz.out ez);clear CF ez;go_wp2_with fail;refine (HEq.out).mono ?_;rintro e w14 ⟨rfl,n14,rfl⟩;have ahl:=iF hBl n14;clear HEq zQ hBl hzc;generalize wi.drewN n14=w14 at*
           go_wp2;go_roundw;case rel=>exact ⟨p+1,true,ah,by go_num,rfl,Jr,ahl⟩
           case measure=>exact bF
          rw [cZ ez] at CF;have HEq:=bK CF;have Jr:Hid (false=decide (Nx∈J1.take (p+1))):=bK (ER hz.out ez (apZ hkb.out.symm));clear CF ez;go_wp2_with fail;refine (HEq.out).mono ?_;rintro e w14 ⟨rfl,n14,rfl⟩;have ahl:=iF hBl n14;clear HEq zQ hBl hzc;generalize wi.drewN n14=w14 at*
          go_wp2;go_roundw;case rel=>exact ⟨p+1,false,ah,by go_num,rfl,Jr,ahl⟩
          case measure=>exact bF
        have hkE:Hid (kb=decide (Nx∈X.map Fq.st)):=bK (by rw [hkb.out,bY ah,hJ1.out]);have ahm:=HT.out.below zQ;have Qx:=HB5.out.trans (zQ.mono HB5.out.size);clear hkb;cases kb with
        |true=>
         have Ee:=fT hkE.out.symm;have hR2:Hid (m.fRow q L (j+1)= .go X):=g_.mI hR.out (by unfold g_.vZ;rw [ad8.out];simp only [aqs,aqP];rw [bQ Ee]);clear Ee hkE zQ hBl;go_wp2;go_roundw;case rel=>exact ⟨j+1,some ⟨g,0,none⟩,d1,some ⟨g2,0,none⟩,d2,X,J1,J2,ah,by go_num,rfl,rfl,hR2,hKo,YN,hJ1,hJ2,ahm,Qx⟩
         case measure=>exact bF
        |false=>
         have Ee:=bK (apZ hkE.out.symm);have akf:=hX4.out;have akg:=hJl.out.1;by_cases h40:J1.length=4096
         ·have anx:((J1.length:Int)==4096)=true:=aJ;have hF:Hid (m.oZ l=([],false)):=by unfold Hid;rw [g_.uO (g_.Bg (r:= .cut) hL.out (by rw [yK];omega) Qv HQ.out (a:=j+1) ah (g_.mI hR.out (by unfold g_.vZ;rw [ad8.out];simp only [aqs,aqP];rw [bO Ee.out,bQ ah])) (fun K h=>by cases h))];rfl
          have jh:=(HC.out _ Qx).2;clear hkE zQ hBl h40 akg akf;go_wp2;go_ret2;exact ⟨none,0,[],false,rfl,hF,Sl.nil _ _ _ aS,jh⟩
         have anx:((J1.length:Int)==4096)=false:=aJ;have h4X:¬4096<=X.length:=ah;have hR2:Hid (m.fRow q L (j+1)= .go (X++[⟨Nx,W⟩])):=g_.mI hR.out (by unfold g_.vZ;rw [ad8.out];simp only [aqs,aqP];rw [bO Ee.out,bO h4X,hW.out])
         have adP:Hid (m.Vx l (k+1) (X++[⟨Nx,W⟩])):=hKo.out.push hat.out.1 (hat.out.2.trans hql.out) ⟨by rw [hW.out];have:=IK.out.1;simp;omega,by
          rw [hW.out]
          intro y hy
          rcases eG.1 hy with hy|hy
          ·exact IK.out.2 y hy
          rw [dZ.1 hy];omega⟩ h4X
         have adQ:Hid ((X++[⟨Nx,W⟩])[k]? =some q):=bK (by rw [dz hkX];exact YN.out);have hzi:w0.heap.size<=wi.heap.size:=Qx.size;have Jk:=akd.out.below hBl;have akh:=anw.out.below hBl;have ae0:J1.length<1000000000000/\J2.length<1000000000000:=ig hJl.out;have HJl:=bK ae0;clear hkE zQ hBl h40 akg akf ae0 h4X;go_wp2_with (at_builtin;refine zo (B:=w0.heap.size) (r:=Nx) (ar:=aN) (cr:=cN) rfl rfl underlying22 iI rfl rfl (ahm.alloc _) bf (Jk.alloc _) HJl.out.1 aJ ?_);intro a15 c15 J15 w15 aki akj akl akm Ho;have ako:=abq (v':= .slice a15 J15.length c15) (akh.alloc (.cells #[.slice aN Nx.length cN] 49)) akm (fun k hk=>(akl.out k hk).imp id fun e=>by rw [e];simp);have XU:=(Qx.alloc hzi (.cells #[.slice aN Nx.length cN] 49)).trans Ho;have akp:=XU.size;have akq:Hid (J15=(X++[(⟨Nx,W⟩:Fq)]).map Fq.st):=bK (by rw [aki.out,hJ1.out];simp);clear ahm Jk akh akl akm Ho Qx hzi aki;go_wp2_with (at_builtin;refine Hl (B:=w0.heap.size) (r:=W) (ar:=aW) (cr:=cW) rfl rfl underlying22 iI rfl rfl (akj.alloc _) bf (ako.alloc _) HJl.out.2 aJ ?_);intro a16 c16 J16 w16 akr anz Hq;have adY:=(XU.alloc akp (.cells #[.slice aW W.length cW] 49)).trans Hq;have aks:Hid (J16=(X++[(⟨Nx,W⟩:Fq)]).map Fq.word):=bK (by rw [akr.out,hJ2.out];simp);clear akj ako Hq XU akp akr;go_wp2;go_roundw;case rel=>exact ⟨j+1,a15,c15,a16,c16,X++[⟨Nx,W⟩],J15,J16,ah,by go_num,rfl,rfl,hR2,adP,adQ,akq,aks,anz,adY⟩
         case measure=>exact bF
    have adL:¬((j:Nat):Int)<m.gZ:=ah;have hF:Hid (m.Af l (k+1)= .go X):=g_.Kz hL.out Qv HQ.out (by rw [show m.gZ.toNat=j by omega];exact hR.out);go_wp2;go_roundw;case rel=>exact ⟨k+1,p1,d1,p2,d2,X,J1,J2,ig hL4.out,by go_num,rfl,rfl,hF,hKo,hJ1,hJ2,hT,hB⟩
    case measure=>exact bF
  have hF:Hid (m.oZ l=([],false)):=by unfold Hid;rw [g_.uO (g_.Qb (by rw [yK];omega) hL.out (ig rW.out))];rfl
  have jh:=(HC.out _ hB).2;go_wp2;go_ret2;exact ⟨none,0,[],false,rfl,hF,Sl.nil _ _ _ aS,jh⟩
end
theorem Bq {p:Int->Bool} {l:List Int} {k:Nat} {i:Int} (h:i∈wR p l k):0<=i/\i<(k:Int):=by
 unfold wR at h;obtain ⟨j,hj,rfl⟩:=aqJ.1 h;have:=aqE.1 (aq8.1 hj).1;omega
theorem Qy {l:List Int} {i:Int} (h:0<=i/\i<(l.length:Int)):l.getD i.toNat 0∈l:=by
 have h1:i.toNat<l.length:=ah;rw [iw (bN h1)];exact dQ h1
def ahn (m:g_) (T:List Nd) (f at':Nat) (g:Gp) (w:World) (e:Ending) (w':World):Prop:=∃r:Int,e= .returned (.int .i64 r)/\Hid ((∃n:Nat,m.right T f at' g=(n,true)/\r=(n:Int))\/((m.right T f at' g).2=false/\r= -1))/\Below w.heap.size w w'
def abu (f:Nat):Prop:=∀{M MT M1 M2:Nat->Prop} {w:World} {an ao aT ai ac:Option Addr} {cn co cT ci cc:Nat} {m:g_} {T:List Nd} {at':Nat} {g:Gp},
    Ma M w an cn ao co m->Sl MT w aT cT T->Sl M1 w ai ci g.jC->Sl M2 w ac cc g.cur->Hid m.Ok->Hid (Ms m.h_.length g)->Hid (g.cur.length<1000)->Hid (T.length<1000000000)->Hid (at'<=T.length)->Hid (T.length+1<=at'+f)->
    Calls prog 199 #[kF m an cn ao co,.agg #[.slice aT T.length cT],.int .i64 at',.slice ai g.jC.length ci,.slice ac g.cur.length cc] w (ahn m T f at' g w)
theorem Qz:∀(f:Nat),abu f:=by
 intro f;induction f with
 |zero=>intro M MT M1 M2 w an ao aT ai ac cn co cT ci cc m T at' g hm hT hI hC ok hg hn TH haT hf;have:=haT.out;have:=hf.out;omega
 |succ f ih=>
  intro M MT M1 M2 w an ao aT ai ac cn co cT ci cc m T at' g hm hT hI hC ok hg hn TH haT hf;have n1:=ok.out.n1;have l1:=hm.h_.le;have l2:=hm.out.le;have l3:=hI.le;have l4:=hC.le;have l5:=hT.le;have anl:=haT.out;have anm:=TH.out;have hB0:=(iB w (iP m an cn ao co)).alloc aH (.cells #[.slice aT T.length cT] 119);have hx0:=jE w m an cn ao co;have hx1:=hx0.below ((bP (w.heap.size+1) (w.alloc (iP m an cn ao co))).alloc aH (.cells #[.slice aT T.length cT] 119)) ah;have ht1:((w.alloc (iP m an cn ao co)).alloc (.cells #[.slice aT T.length cT] 119)).cell? ⟨w.heap.size+1,0,none⟩=some (.slice aT T.length cT):=aH;have hz0:((w.alloc (iP m an cn ao co)).alloc (.cells #[.slice aT T.length cT] 119)).heap.size=w.heap.size+2:=aH;have HM:=bK hm;have HT:=bK hT;have HI:=bK hI;have HC:=bK hC;clear hm hT hI hC hx0;go_enter func199,ntmps199;go_upto_region 1 with (fail);generalize (w.alloc (iP m an cn ao co)).alloc (.cells #[.slice aT T.length cT] 119)=w0 at*
  have HS:Hid (∀w',Below w0.heap.size w0 w'->C4 w' w.heap.size an cn ao co m/\w'.cell? ⟨w.heap.size+1,0,none⟩=some (.slice aT T.length cT)):=fun w' h=>
   ⟨hx1.below h ah,(h.cell (p:=⟨w.heap.size+1,0,none⟩) (by show w.heap.size+1<_;omega)).trans ht1⟩
  by_cases hA:at'<T.length
  ·obtain ⟨bT,oT,a1,c1,a2,c2,x,ag5,hq0,hq1,hq2,hxe,hxs,hxk,hxi⟩:=HT.out.Dx hA;subst ag5;have hxb:=lt_of_cell hq0
   have HX:Hid (∀w',Below w.heap.size w w'->w'.cell? ⟨bT,oT+at'*3,none⟩=some (.slice a1 x.st.length c1)/\w'.cell? ⟨bT,oT+at'*3+1,none⟩=some (.int .i64 x.inp)/\w'.cell? ⟨bT,oT+at'*3+2,none⟩=some (.slice a2 x.kids.length c2)):=fun w' h=>
    ⟨(h.cell (p:=⟨bT,oT+at'*3,none⟩) hxb).trans hq0,(h.cell (p:=⟨bT,oT+at'*3+1,none⟩) hxb).trans hq1,(h.cell (p:=⟨bT,oT+at'*3+2,none⟩) hxb).trans hq2⟩
   have HXK:=bK hxk;have aaO:=hxs.le;have ag6:=hxk.le;have hge:¬((at':Int)>=(T.length:Int)):=ah;have akt:decide (T.length<=at')=false:=cZ ah;have CF:=BS ((hxs.below hB0).anti (M':=fun _=>False) fun _ _ h=>h.elim) ((HI.out.below hB0).anti (M':=fun _=>False) fun _ _ h=>h.elim);have hX0:=HX.out _ hB0;have anA:=hX0.1;clear hq0 hq1 hq2 hxs hxk hX0;by_cases hEq:x.st=g.jC
   ·rw [dw hEq] at CF;have HEq:=bK CF;have HE:=bK hEq;clear hEq CF;go_wp2_with fail;refine (HEq.out).mono ?_;rintro e w2 ⟨rfl,n2,rfl⟩;have hd2:=below_drewN w0.heap.size w0 n2;have hW2:=hd2;have hB2:=hB0.trans (hd2.mono ah);have hz2:(w0.drewN n2).heap.size=w0.heap.size:=rfl;generalize w0.drewN n2=w2 at*
    have hR0:Hid (aa3 g.cur 0):=fun i j x y hi=>by omega
    clear hx1 ht1 anA HEq hd2 hge akt;have Qw:=bP w2.heap.size w2;go_wp2_with fail;go_loopw [11] (fun i wr=>∃k:Nat,k<=g.cur.length/\i= .int .i64 k/\Hid (aa3 g.cur k)/\Below w2.heap.size w2 wr) (fun i _=>g.cur.length-(intOf i).toNat);case atStart=>exact ⟨0,ah,rfl,hR0,Qw⟩
    case round=>
     clear hR0 Qw;obtain ⟨k,hk,rfl,hD,hBl⟩:=hrel;obtain ⟨wo,rfl⟩:=iA wr;by_cases hlt:k<g.cur.length
     ·have hck:Hid (g.cur[k]? =some g.cur[k]):=bN hlt;obtain ⟨u,hu⟩:∃u,u=g.cur[k]:=⟨_,rfl⟩;rw [<-hu] at hck;have hR0:Hid (∀(j:Nat) (y:Int),j<0->g.cur[j]? =some y->u≠y):=fun j y hj=>by omega
      clear hu;have HBl:=bK hBl;clear hBl;go_wp2_with fail;go_loopw [12] (fun i wr=>∃j:Nat,j<=k/\i= .int .i64 j/\Hid (∀(i:Nat) (y:Int),i<j->g.cur[i]? =some y->u≠y)/\Below w2.heap.size w2 wr) (fun i _=>k-(intOf i).toNat);case atStart=>exact ⟨0,ah,rfl,hR0,HBl.out⟩
      case round=>
       clear hR0 HBl;obtain ⟨j,hj,rfl,hE,hBl⟩:=hrel;obtain ⟨wi,rfl⟩:=iA wr;have hBi:=hB2.trans (hBl.mono ah);by_cases hjk:j<k
       ·have hjl:j<g.cur.length:=ah;obtain ⟨bc,oc,u',rfl,huc,hu', -⟩:=(HC.out.below hBi).iC hlt;obtain rfl:u=u':=by have:=hck.out;rw [hu'.out] at this;simpa using this.symm
        obtain ⟨bc2,oc2,y,hbe,Ca,hy, -⟩:=(HC.out.below hBi).iC hjl;obtain ⟨rfl,rfl⟩:bc=bc2/\oc=oc2:=iq hbe;clear hbe;have p1:∀n,(wi.drewN n).cell? ⟨bc,oc+k,none⟩=some (.int .i64 u):=fun n=>by simpa using huc
        have p2:∀n,(wi.drewN n).cell? ⟨bc,oc+j,none⟩=some (.int .i64 y):=fun n=>by simpa using Ca
        by_cases he:u=y
        ·have LV:(u==y)=true:=by simp [he]
         have hR:Hid (m.right T (f+1) at' g=(0,false)):=g_.uR hxe.out (.inr (adS hjk hck.out (by rw [he];exact hy.out)));clear he;go_upto_region 9 with (fail);refine go_quiet fun nq=> ?_;have Gl:=iF hBi nq;clear p1 p2 huc Ca hBi hBl;generalize wi.drewN nq=w5 at*
         go_wp2;go_ret;exact ⟨-1,rfl,.inr ⟨by rw [hR.out],rfl⟩,Gl⟩
        have LV:(u==y)=false:=by simp [he]
        have hE2:Hid (∀(i:Nat) (y:Int),i<j+1->g.cur[i]? =some y->u≠y):=fun i z hi hz=>by
         by_cases e:i=j
         ·subst e;rw [hy.out] at hz;obtain rfl:=fH hz;exact he
         exact hE.out i z ah hz
        clear he;go_upto_region 9 with (fail);refine go_quiet fun nq=> ?_;have Gl:=iF hBl nq;clear p1 p2 huc Ca hBi hBl;generalize wi.drewN nq=w5 at*
        go_wp2;go_roundw;case rel=>exact ⟨j+1,ah,by go_num,hE2,Gl⟩
        case measure=>exact bF
       have hD2:Hid (aa3 g.cur (k+1)):=fun i i2 y z hi hi2 hy hz=>by
        by_cases e:i=k
        ·subst e;rw [hck.out] at hy;obtain rfl:=fH hy;exact hE.out i2 z ah hz
        exact hD.out i i2 y z ah hi2 hy hz
       go_wp2;go_roundw;case rel=>exact ⟨k+1,ah,by go_num,hD2,hBl⟩
       case measure=>exact bF
     have hno:Hid (¬(x.st≠g.jC\/(kR g.cur).length≠g.cur.length)):=fun h=>h.elim (fun e=>e HE.out) (Qm (by rw [show g.cur.length=k by omega];exact hD.out));have hB3:=hB2.trans (hBl.mono ah);have hW3:=hW2.trans (hBl.mono ah);have kC:=(HS.out _ hW3).2;have Mx:=HX.out _ hB3;have ag7:=Mx.1;have ag8:=Mx.2.1;have ag9:=Mx.2.2;have hz3:w0.heap.size<=wo.heap.size:=ig hBl.size;clear Mx hD hBl hW2 hB2 hz2;go_upto_region 12 with (fail);have hba:=iB wo (.cells #[.slice a1 x.st.length c1,.int .i64 x.inp,.slice a2 x.kids.length c2] 179);have UU:=hW3.trans (hba.mono hz3);have hB4:=hB3.trans (hba.mono (ig hB3.size));have G_:(wo.alloc (.cells #[.slice a1 x.st.length c1,.int .i64 x.inp,.slice a2 x.kids.length c2] 179)).cell? ⟨wo.heap.size,1,none⟩=some (.int .i64 x.inp):=aH;have MB:(wo.alloc (.cells #[.slice a1 x.st.length c1,.int .i64 x.inp,.slice a2 x.kids.length c2] 179)).cell? ⟨wo.heap.size,2,none⟩=some (.slice a2 x.kids.length c2):=aH;have nN:wo.heap.size<(wo.alloc (.cells #[.slice a1 x.st.length c1,.int .i64 x.inp,.slice a2 x.kids.length c2] 179)).heap.size:=aH;clear kC ag7 ag8 ag9 hba hW3 hB3;generalize wo.alloc (.cells #[.slice a1 x.st.length c1,.int .i64 x.inp,.slice a2 x.kids.length c2] 179)=w4 at*
     have hwr:IntKind.i64.wrap ((at':Int)+1)=(at':Int)+1:=eP _ ah;have ku:=(HS.out _ UU).1;have anB:=ku.1;by_cases h1:x.inp= -1
     ·have hR:Hid (m.right T (f+1) at' g=(at'+1,decide (x.kids.length=0))):=g_.zW hxe.out hno.out h1;have h1b:(x.inp== -1)=true:=by simp [h1]
      have h1c:x.inp<0:=ah;have h1d:decide (x.inp<0)=true:=dw h1c;clear h1;by_cases hk0:x.kids.length=0
      ·have anC:((x.kids.length:Int)==0)=true:=by simp [hk0]
       have hR2:Hid (m.right T (f+1) at' g=(at'+1,true)):=bK (by rw [hR.out,dw hk0]);clear hk0 ku;go_wp2;go_ret;exact ⟨((at'+1:Nat):Int),rfl,.inl ⟨_,hR2.out,rfl⟩,hB4⟩
      have anC:((x.kids.length:Int)==0)=false:=by simp [hk0]
      have hR2:Hid ((m.right T (f+1) at' g).2=false):=bK (by rw [hR.out,cZ hk0]);clear hk0 ku;go_wp2;go_ret;exact ⟨-1,rfl,.inr ⟨hR2.out,rfl⟩,hB4⟩
     have h1b:(x.inp== -1)=false:=by simp [h1]
     have H1:=bK h1;clear h1;by_cases h2:x.inp<0\/m.gZ<=x.inp
     ·have hR:Hid (m.right T (f+1) at' g=(0,false)):=g_.Cy hxe.out H1.out h2;by_cases h2a:x.inp<0;·have h2d:decide (x.inp<0)=true:=dw h2a;clear h2 ku;go_wp2;go_ret;exact ⟨-1,rfl,.inr ⟨by rw [hR.out],rfl⟩,hB4⟩
      have Ei:x.inp>=m.gZ:=h2.elim (fun e=>absurd e h2a) id;have h2d:decide (x.inp<0)=false:=cZ h2a;have h2e:decide (m.gZ<=x.inp)=true:=dw Ei;clear h2 ku;go_wp2;go_ret;exact ⟨-1,rfl,.inr ⟨by rw [hR.out],rfl⟩,hB4⟩
     have h2a:¬(x.inp<0):=fun e=>h2 (.inl e);have Ei:¬(x.inp>=m.gZ):=fun e=>h2 (.inr e);have h2d:decide (x.inp<0)=false:=cZ h2a;have h2e:decide (m.gZ<=x.inp)=false:=cZ Ei;obtain ⟨xn,hxn⟩:=b_ (show 0<=x.inp by omega);have hxi:xn<m.gZ.toNat:=ah;have aha:Hid (¬(x.inp<0\/m.gZ<=x.inp)):=h2;have HX:=bK hxn;clear h2 hxn;go_upto_region 16 with (fail);rw [HX.out] at G_;have HOu:=bK (t_ (HM.out.below hB4) (HC.out.below hB4) ok (bK hg.out.st) (bK (ig hn.out)) xn hxi);clear h2a Ei h2d h2e h1b anB;go_wp2_with fail;refine (HOu.out).mono ?_;rintro e w6 ⟨aX,cX,X,rfl,hX,yM,hb6⟩;have jo:=hB4.trans (hb6.mono (ig hB4.size));have BK:=UU.trans (hb6.mono (ig UU.size));have aku:=(hb6.cell (p:=⟨wo.heap.size,1,none⟩) nN).trans G_;have ad2:=(hb6.cell (p:=⟨wo.heap.size,2,none⟩) nN).trans MB;have qR:wo.heap.size<w6.heap.size:=ig hb6.size;have HXs:=bK yM;have HXl:=yM.le;clear G_ MB hB4 UU ku HOu yM hb6 nN;obtain ⟨P,hP⟩:∃P,Hid (P=m.jS xn g):=⟨_,rfl⟩;have hPl:Hid (P.length=X.length):=bK (by rw [hP.out,g_.oJ,hX.out]);have hPx:Hid (m.jS x.inp.toNat g=P):=bK (by rw [hP.out,HX.out];rfl);by_cases h4:X.length=x.kids.length
     ·have Jq:((X.length:Int) !=(x.kids.length:Int))=false:=by simp [h4]
      have H4:=bK h4;clear h4;have hR:Hid (m.right T (f+1) at' g=g_.mU (fun n h=>m.right T f n h) ((P.zip x.kids).drop 0) (at'+1)):=by unfold Hid;rw [g_.Bj hxe.out hno.out H1.out aha.out (by rw [hPx.out,hPl.out];exact fun e=>e H4.out),hPx.out];rfl
      have abn:Hid (at'<at'+1/\at'+1<=T.length):=⟨ah,hA⟩;have hBl:Below w6.heap.size w6 w6:=bP _ _;have ahb:Hid (((at':Int)+1)=((at'+1:Nat):Int)):=bK ah;have Bo:w.heap.size<=w6.heap.size:=ig jo.size;have Ej:w0.heap.size<=w6.heap.size:=BK.size
      have HC6:Hid (∀w',Below w6.heap.size w6 w'->w'.cell? ⟨wo.heap.size,1,none⟩=some (.int .i64 (xn:Int))/\w'.cell? ⟨wo.heap.size,2,none⟩=some (.slice a2 x.kids.length c2)):=fun w' h=>
       ⟨(h.cell (p:=⟨wo.heap.size,1,none⟩) qR).trans aku,(h.cell (p:=⟨wo.heap.size,2,none⟩) qR).trans ad2⟩
      go_wp2_with fail;go_loopw [15,16] (fun v i wr=>∃(k n:Nat),k<=x.kids.length/\i= .int .i64 k/\v= .int .i64 n/\Hid (m.right T (f+1) at' g=g_.mU (fun n h=>m.right T f n h) ((P.zip x.kids).drop k) n)/\Hid (at'<n/\n<=T.length)/\Below w6.heap.size w6 wr) (fun _ i _=>x.kids.length-(intOf i).toNat);case atStart=>exact ⟨0,at'+1,ah,rfl,by rw [ahb.out],hR,abn,hBl⟩
      case round=>
       clear hR abn hBl aku ad2;obtain ⟨k,n,hk,rfl,rfl,hR,TI,hBl⟩:=hrel;obtain ⟨wi,rfl⟩:=iA wr;have qK:=jo.trans (hBl.mono Bo);have hWo:=BK.trans (hBl.mono Ej);by_cases hlt:k<x.kids.length
       ·have hkX:k<X.length:=by have:=H4.out;omega
        obtain ⟨bk,okk,kd,rfl,hk0,hk1,hkd,hki⟩:=(HXK.out.below qK).PN hlt;obtain ⟨bX,oX,o0,rfl,hoc,VE, -⟩:=(HXs.out.below hBl).iC hkX;have VF:o0∈m.jG xn g.cur:=by rw [<-hX.out];exact bV VE.out
        have hPk:Hid (P[k]? =some (o0,m.yH xn g.jC g.cur o0)):=by unfold Hid;rw [hP.out];exact g_.o_ (by rw [<-hX.out];exact VE.out)
        have hZk:Hid ((P.zip x.kids)[k]? =some ((o0,m.yH xn g.jC g.cur o0),kd)):=List.getElem?_zip_eq_some.2 ⟨hPk.out,hkd.out⟩;have Qn:Hid (Ms m.h_.length (m.yH xn g.jC g.cur o0)):=g_.Cx ok.out hxi hg.out VF;have YG:Hid ((m.yH xn g.jC g.cur o0).cur.length<1000):=eO g_.GQ hn.out;have hc6:=HC6.out _ hBl;have TJ:∀i,(wi.drewN i).cell? ⟨bk,okk+k*2,none⟩=some (.int .i64 kd.out):=fun i=>by simpa using hk0
        have TK:∀i,(wi.drewN i).cell? ⟨bk,okk+k*2+1,none⟩=some (.int .i64 kd.to):=fun i=>by simpa using hk1
        have Qp:∀i,(wi.drewN i).cell? ⟨bX,oX+k,none⟩=some (.int .i64 o0):=fun i=>by simpa using hoc
        have hcn:∀i,(wi.drewN i).cell? ⟨wo.heap.size,2,none⟩=some (.slice (some ⟨bk,okk,none⟩) x.kids.length c2):=fun i=>by simpa using hc6.2
        have iX:=H4.out;have anD:decide (k<X.length)=true:=dw hkX;clear VF iX hk0 hk1;go_upto_region 23 with (fail);by_cases hb1:kd.out=o0
        ·have ahd:(kd.out !=o0)=false:=by simp [hb1]
         by_cases hb2:kd.to=(n:Int)
         ·have ahe:(kd.to !=(n:Int))=false:=by simp [hb2]
          have Dt:Hid (¬(kd.out≠o0\/kd.to≠(n:Int))):=fun e=>e.elim (fun e=>e hb1) (fun e=>e hb2);clear hb1 hb2;refine go_quiet fun nq=> ?_;have XZ:=iF hBl nq;have PG:=Qp nq;clear TJ TK Qp hcn hc6 hoc hBl qK hWo;generalize wi.drewN nq=w9 at*
          go_upto_region 25 with (fail);refine iO (fun w'=>C4 w' w.heap.size an cn ao co m/\w'.cell? ⟨wo.heap.size,1,none⟩=some (.int .i64 (xn:Int))/\w'.cell? ⟨bX,oX+k,none⟩=some (.int .i64 o0)) [0,1,2,3,4,5,6,7,9] aB ?_;have hdr:=(bP w9.heap.size w9).drew;have Br:=XZ.trans (hdr.mono XZ.size);have Bp:=jo.trans (Br.mono Bo);have Qq:=BK.trans (Br.mono Ej);have rQ:=And.intro (HS.out _ Qq).1 (And.intro (HC6.out _ Br).1 (show w9.drew.cell? ⟨bX,oX+k,none⟩=some (.int .i64 o0) from PG));have HPa:=bK (GD (HM.out.below Bp) (HC.out.below Bp) ok (bK hg.out.st) (bK (ig hn.out)) xn hxi o0);clear hdr XZ PG;generalize w9.drew=qo at*
          refine iT [0,1,2,3,4,5,6,7] ?_;refine iJ 8 fun K hK=> ?_;go_simp;refine (HPa.out).mono ?_;rintro e Ae ⟨aP,cP,Q,rfl,hQ,hQs,pV⟩;have Bt:=Br.trans (pV.mono Br.size);have abo:=jo.trans (Bt.mono Bo);have VH:=BK.trans (Bt.mono Ej);have qZ:=And.intro (HS.out _ VH).1 (And.intro (HC6.out _ Bt).1 ((pV.cell (p:=⟨bX,oX+k,none⟩) (lt_of_cell rQ.2.2)).trans rQ.2.2));refine hK _ _ (fun _=>qZ) ?_;clear hK K HPa Br Bp Qq rQ pV;refine iT [9] ?_;refine iN aB ?_ _;clear qZ;have HQs:=bK hQs;have hQl:=hQs.le;have hQn:Hid (Q.length<1000000):=bK (by rw [hQ.out];have:=GA (p:=fun s=>decide (m.ot s.toNat xn=o0)) (l:=g.cur) (k:=g.cur.length);have:=hn.out;omega);have hQi:Hid (∀i∈Q,0<=i/\i<(g.jC.length:Int)):=fun i hi=>by rw [hQ.out] at hi;have:=Bq hi;have:=hg.out.le;omega
          have hQc:Hid (∀i∈Q,0<=i/\i<(g.cur.length:Int)):=fun i hi=>by rw [hQ.out] at hi;exact Bq hi
          clear hQs;go_upto_region 26 with (fail);refine iO (fun w'=>(C4 w' w.heap.size an cn ao co m/\w'.cell? ⟨w.heap.size+1,0,none⟩=some (.slice (some ⟨bT,oT,none⟩) T.length cT))/\w'.cell? ⟨wo.heap.size,1,none⟩=some (.int .i64 (xn:Int))) [0,1,2,3,4,6,7,8,10,11,14] aB ?_;have hdr:=(bP Ae.heap.size Ae).drew;have KE:=Bt.trans (hdr.mono Bt.size);have ae1:=jo.trans (KE.mono Bo);have ae2:=BK.trans (KE.mono Ej);have yS:=And.intro (HS.out _ ae2) (HC6.out _ KE).1;have aho:=bK (HQs.out.below hdr);have HP1:=bK (vY (HI.out.below ae1) aho.out hQi hQn);clear hdr Bt abo VH HQs;generalize Ae.drew=Tt at*
          refine iT [0,1,2,3,4,6,7,8,10,11] ?_;refine iJ 5 fun K hK=> ?_;go_simp;refine (HP1.out).mono ?_;rintro e w13 ⟨a13,c13,I13,rfl,anE,ae3,Jl⟩;have Bu:=KE.trans (Jl.mono KE.size);have ae4:=jo.trans (Bu.mono Bo);have ae5:=BK.trans (Bu.mono Ej);have akv:=And.intro (HS.out _ ae5) (HC6.out _ Bu).1;have abv:=bK (aho.out.below Jl);have akw:=bK ae3;have HP2:=bK (vY (HC.out.below ae4) abv.out hQc hQn);refine hK _ _ (fun _=>akv) ?_;clear hK K HP1 KE ae1 ae2 yS Jl aho ae3;refine iJ 9 fun K hK=> ?_;go_simp;refine (HP2.out).mono ?_;rintro e w14 ⟨a14,c14,C14,rfl,ahp,ae6,Jm⟩;have Bv:=Bu.trans (Jm.mono Bu.size);have ae7:=jo.trans (Bv.mono Bo);have ae8:=BK.trans (Bv.mono Ej);have TB:=And.intro (HS.out _ ae8) (HC6.out _ Bv).1;have akx:=bK (akw.out.below Jm)
          have ae9:Hid (∀s∈C14,0<=s/\s<m.h_.length):=fun s hs=>by
           rw [ahp.out] at hs
           obtain ⟨i,hi,rfl⟩:=aqJ.1 hs
           exact hg.out.st _ (Qy (hQc.out i hi))
          have HNx:=bK (zT (HM.out.below ae7) ae6 ok ae9 (bK (by rw [ahp.out,dJ];exact hQn.out)) xn hxi);refine hK _ _ (fun _=>TB) ?_;clear hK K HP2 Bu ae4 ae5 akv Jm abv akw ae6;refine iJ 12 fun K hK=> ?_;go_simp;refine (HNx.out).mono ?_;rintro e w15 ⟨a15,c15,C15,rfl,anF,afa,Ho⟩;have Bw:=Bv.trans (Ho.mono Bv.size);have abw:=jo.trans (Bw.mono Bo);have afb:=BK.trans (Bw.mono Ej);have TG:=And.intro (HS.out _ afb) (HC6.out _ Bw).1;have abx:=bK (akx.out.below Ho);have TP:Hid ((⟨I13,C15⟩:Gp)=m.yH xn g.jC g.cur o0):=by unfold Hid g_.yH;rw [anE.out,anF.out,ahp.out,hQ.out,g_.VA hg.out.le,g_.VB hg.out.le]
          have HIh:=bK (ih (at':=n) (g:=⟨I13,C15⟩) (HM.out.below abw) (HT.out.below abw) abx.out afa ok (by rw [TP.out];exact Qn) (by rw [TP.out];exact YG) TH (bK TI.out.2) (bK (by have:=TI.out.1;have:=hf.out;omega)));refine hK _ _ (fun _=>TG) ?_;clear hK K HNx Bv ae7 ae8 TB Ho akx afa ae9;refine iJ 13 fun K hK=> ?_;go_simp;refine (HIh.out).mono ?_;rintro e w16 ⟨r,rfl,hr,Hq⟩;have Hr:=Bw.trans (Hq.mono Bw.size);have aky:=jo.trans (Hr.mono Bo);have akz:=BK.trans (Hr.mono Ej);have AY:=And.intro (HS.out _ akz) (HC6.out _ Hr).1;refine hK _ _ (fun _=>AY) ?_;clear hK K HIh Bw abw afb TG Hq abx;refine iT [14] ?_;refine iN aB ?_ _;clear AY;have hrr:=bK hr.out;rw [TP.out] at hrr;clear hr;rcases hrr.out with ⟨n',h1,rfl⟩|⟨h1,rfl⟩
          ·have jH:=bK (g_.GV (rc:=fun n h=>m.right T f n h) hZk.out Dt.out h1);have hR2:Hid (m.right T (f+1) at' g=g_.mU (fun n h=>m.right T f n h) ((P.zip x.kids).drop (k+1)) n'):=by unfold Hid;rw [hR.out,jH.out,bQ rfl]
           have ahf:Hid (at'<n'/\n'<=T.length):=by have h1:=g_.uQ _ _ _ _ h1;have h2:=TI.out;exact ⟨ah,h1.2⟩
           have hn0:¬((n':Int)<0):=ah;have apG:decide ((n':Int)<0)=false:=cZ hn0;clear h1 hrr;go_wp2;go_roundw;case rel=>exact ⟨k+1,n',ah,by go_num,rfl,hR2,ahf,Hr⟩
           case measure=>exact bF
          obtain ⟨n',y,hny⟩:∃n' y,m.right T f n (m.yH xn g.jC g.cur o0)=(n',y):=⟨_,_,rfl⟩;have hy:y=false:=by rw [hny] at h1;exact h1
          subst hy;have jH:=bK (g_.GV (rc:=fun n h=>m.right T f n h) hZk.out Dt.out hny);have hR2:Hid (m.right T (f+1) at' g=(0,false)):=by unfold Hid;rw [hR.out,jH.out,bO aH]
          clear h1 hrr hny;go_wp2;go_ret;exact ⟨-1,rfl,.inr ⟨by rw [hR2.out],rfl⟩,aky⟩
         have ahe:(kd.to !=(n:Int))=true:=by simp [hb2]
         have hR2:Hid (m.right T (f+1) at' g=(0,false)):=bK (by rw [hR.out];exact g_.yL hZk.out (.inr hb2));clear hb2 hb1;refine go_quiet fun nq=> ?_;have mH:=iF qK nq;clear TJ TK Qp hcn hc6 hoc hBl qK hWo;generalize wi.drewN nq=w9 at*
         go_wp2;go_ret;exact ⟨-1,rfl,.inr ⟨by rw [hR2.out],rfl⟩,mH⟩
        have ahd:(kd.out !=o0)=true:=by simp [hb1]
        have hR2:Hid (m.right T (f+1) at' g=(0,false)):=bK (by rw [hR.out];exact g_.yL hZk.out (.inl hb1));clear hb1;refine go_quiet fun nq=> ?_;have mH:=iF qK nq;clear TJ TK Qp hcn hc6 hoc hBl qK hWo;generalize wi.drewN nq=w9 at*
        go_wp2;go_ret;exact ⟨-1,rfl,.inr ⟨by rw [hR2.out],rfl⟩,mH⟩
       have hF:Hid (m.right T (f+1) at' g=(n,true)):=by unfold Hid;rw [hR.out,ar7 (by rw [aqO];omega)];rfl
       have iX:=H4.out;have anD:decide (k<X.length)=false:=cZ ah;clear iX;go_wp2;go_ret;exact ⟨(n:Int),rfl,.inl ⟨n,hF.out,rfl⟩,qK⟩
     have hR:Hid (m.right T (f+1) at' g=(0,false)):=g_.Cz hxe.out H1.out (by rw [hPx.out,hPl.out];exact h4);have Jq:((X.length:Int) !=(x.kids.length:Int))=true:=aJ;clear h4;go_wp2;go_ret;exact ⟨-1,rfl,.inr ⟨by rw [hR.out],rfl⟩,jo⟩
   rw [cZ hEq] at CF;have HEq:=bK CF;have hR:Hid (m.right T (f+1) at' g=(0,false)):=g_.uR hxe.out (.inl hEq);clear hEq CF;go_wp2_with fail;refine (HEq.out).mono ?_;rintro e w2 ⟨rfl,n2,rfl⟩;have Gl:=iF hB0 n2;generalize w0.drewN n2=w2 at*
   go_wp2;go_ret;exact ⟨-1,rfl,.inr ⟨by rw [hR.out],rfl⟩,Gl⟩
  have hR:Hid (m.right T (f+1) at' g=(0,false)):=g_.GU ah;have hge:((at':Int)>=(T.length:Int)):=ah;have akt:decide (T.length<=at')=true:=dw ah;go_wp2;go_ret;exact ⟨-1,rfl,.inr ⟨by rw [hR.out],rfl⟩,hB0⟩
end
section
open Tryz
theorem QA {a b:g_} {p:Pl} {l:List Pl} {n:Nat} (hp:p.word.length<=n) (hl:∀q∈l,q.word.length<=n):∀x,(∀q∈(scan a b p l x).1,q.word.length<=n+1)/\∀w,(scan a b p l x).2=some w->w.length<=n+1
 |0=>⟨fun q hq=>arf (hl q hq),fun w hw=>by simp [scan] at hw⟩
 |x+1=>by
  obtain ⟨h1,h2⟩:=QA (a:=a) (b:=b) hp hl x
  unfold scan
  split
  ·rename_i w hw
   exact ⟨h1,fun v hv=>h2 v (by rw [hw];exact hv)⟩
  split
  ·exact ⟨h1,fun v hv=>by simp at hv;subst hv;simp;omega⟩
  split
  ·exact ⟨h1,fun v hv=>by simp at hv⟩
  refine ⟨fun q hq=> ?_,fun v hv=>by simp at hv⟩
  rcases eG.1 hq with e|e
  ·exact h1 q e
  rw [dZ.1 e];simp;omega
theorem QB {a b:g_} {s t:Int}:∀i,(∀q∈(kY a b s t i).1,q.word.length<=i)/\∀w,(kY a b s t i).2=some w->w.length<=i
 |0=>⟨fun q hq=>by simp [kY] at hq;subst hq;simp,fun w hw=>by simp [kY] at hw⟩
 |i+1=>by
  obtain ⟨h1,h2⟩:=QB (a:=a) (b:=b) (s:=s) (t:=t) i
  unfold kY
  split
  ·rename_i w hw
   exact ⟨fun q hq=>arf (h1 q hq),fun v hv=>by simp at hv;subst hv;exact arf (h2 _ hw)⟩
  split
  ·exact ⟨fun q hq=>arf (h1 q hq),fun v hv=>by simp at hv⟩
  rename_i p hp
  exact QA (h1 p (bV hp)) h1 _
theorem KF {a b:g_} {s t:Int} {w:List Int} (h:lS a b s t=some w):w.length<=a.h_.length*b.h_.length:=(QB _).2 w h
namespace g_
variable (m:g_)
def mq (s x:Int):List Int:=(Ez m s x).getD []
def TQ (T:List Nd) (l:Nat):List Int:=match T[l]? with|some x=>x.st|none=>[]
def uT (s:Int) (o:List Int):List (List Int):=(o.filter fun x=>decide (x≠s)).map fun x=>mq m s x
def idA (T:List Nd) (s:Int):List (List Int):=if 0<(m.uS T s).1.length\/(TQ T (m.uS T s).2).length=1 then [(m.uS T s).1] else []
def Rx (T:List Nd) (s:Int):List (List Int):=m.idA T s++m.uT s (TQ T (m.uS T s).2)
def ids (T:List Nd):List (List (List Int)):=(List.range m.h_.length).map fun s:Nat=>nK iM (m.Rx T (s:Int))
variable {m}
theorem uU (hn:m.h_.length<1000) (s x:Int):(m.mq s x).length<=1000000:=by
 unfold mq;cases h:Ez m s x with
 |none=>simp
 |some w=>
  show w.length<=_;unfold Ez at h;split at h;·have:=KF h;have h2:m.h_.length*m.h_.length<=1000*1000:=eX ah ah;omega
  simp at h
theorem xS {s:Int} {o:List Int} {k:Nat} {x:Int} (h:o[k]? =some x):m.uT s (o.take (k+1))=m.uT s (o.take k)++if x=s then [] else [m.mq s x]:=by
 unfold uT;rw [dh,h,fV,eB];congr 1
 by_cases e:x=s<;>simp [e]
theorem EC {s:Int} {o:List Int}:(m.uT s o).length<=o.length:=by unfold uT;rw [dJ];exact fK _ _
end g_
end
section
open Tryz
open Go.RowKit
structure Ig (M:Nat->Prop) (wM:World) (Bs:Nat) (w:World) (n:Nat) (F:Nat->Value) (s:Nat) (R:Nat->List (List Int)) (rows:List (List Int)):Prop where
 kg:KG w wM.heap.size n F
 cur:∃a c,F s= .slice a rows.length c
 ow:Ow Bs M w 49 (F s) rows
 inM:M wM.heap.size
 of:∀k,M k->k=wM.heap.size\/Bs<=k
 lt:∀k,M k->k<w.heap.size
 own:∀k,(F s).ownBlock=some k->M k
 nil:∀j,s<j->F j= .slice none 0 0
 old:∀j,j<s->∃a c,F j= .slice a (R j).length c/\Sl (fun k=>k=wM.heap.size\/Bs<=k) w a c (R j)
 bel:Below wM.heap.size wM w
 mb:wM.heap.size<Bs
 bs:Bs<=w.heap.size
section
variable {M:Nat->Prop} {wM w w':World} {Bs n s:Nat} {F:Nat->Value} {R:Nat->List (List Int)} {rows:List (List Int)}
theorem Ig.below (h:Ig M wM Bs w n F s R rows) (hb:Below w.heap.size w w'):Ig M wM Bs w' n F s R rows:=
 ⟨h.kg.kept (hb.block _ h.kg.lt),h.cur,h.ow.below hb,h.inM,h.of,fun k hk=>eZ (h.lt k hk) hb.size,h.own,h.nil,fun j hj=>by
  obtain ⟨a,c,h1,h2⟩:=h.old j hj
  exact ⟨a,c,h1,h2.below hb⟩,h.bel.trans (hb.mono h.bel.size),h.mb,dH h.bs hb.size⟩
theorem Ig.made (wM:World):Ig (fun k=>k=wM.heap.size) wM (wM.heap.size+1) (wM.alloc (.map #[] 0)) 0 (fun _=> .slice none 0 0) 0 R []:=
 ⟨KG.made wM,⟨none,0,rfl⟩,Ow.nil,rfl,fun _ hk=> .inl hk,fun k hk=>by subst hk;simp,fun k hk=>by simp [Value.ownBlock] at hk,fun _ _=>rfl,fun j hj=>by omega,(bP _ _).alloc (bM _) _,gL _,aH⟩
theorem Ig.app (h:Ig M wM Bs w n F s R rows) (hs:s<1000) (hn:n<1000000000000) {a6:Option Addr} {c6 z:Nat} {l6:List (List Int)} {w6:World} (hz:w.heap.size=z) (hg:w.grownBy w6 (F s).ownBlock) (hO:Ow Bs (fun k=>M k\/k=z) w6 49 (.slice a6 l6.length c6) l6) (hk:∀k,(Value.slice a6 l6.length c6).ownBlock=some k->((F s).ownBlock=some k\/k=z)/\k<w6.heap.size):∃(w7:World) (M':Nat->Prop) (F':Nat->Value),(Instr.mapUpdate 175 (.map (some wM.heap.size)) (.int .i64 (s:Int)) (.slice a6 l6.length c6)).run prog w6= .ok () w7/\Ig M' wM Bs w7 (n+1) F' s R l6:=by
 subst hz;have hmb:=h.mb;have hbs:=h.bs;have hne:some wM.heap.size≠(F s).ownBlock:=fun e=>by have:=(h.ow.lt _ e.symm).1;omega
 have P_:KG w6 wM.heap.size n F:=h.kg.kept (hg.block _ h.kg.lt hne);obtain ⟨w7,oD,hk7,hg7⟩:=P_.put hn hs (.slice a6 l6.length c6);have hs6:=hg.size;have hs7:=hg7.size;have hb6:Below wM.heap.size wM w6:=h.bel.grown hg ah (fun k hk=>by have:=(h.ow.lt k hk).1;omega);have e67:Ext (fun k=>M k\/k=w.heap.size) (fun k=>(M k\/k=w.heap.size)/\k<w7.heap.size) w6 w7:=(Ext.grownBy hg7 (fun k e=>by cases e;exact .inl h.inM)).trans (Ext.jA fun _ _ e=>e.1);refine ⟨w7,fun k=>(M k\/k=w.heap.size)/\k<w7.heap.size,_,oD,hk7,⟨a6,c6,aH⟩,?_,⟨.inl h.inM,ig h.kg.lt⟩,fun k hk=> ?_,fun k hk=>hk.2,fun k hk'=> ?_,fun j hj=>by rw [bO ah];exact h.nil j hj,fun j hj=> ?_,hb6.grown hg7 ah (fun k e=>by cases e;exact bM _),h.mb,ah⟩;·simp only [aqj];exact hO.ext e67 (fun k hk'=>hg7.block k (hk k hk').2 (fun e=>by cases e;have:=(hO.lt _ hk').1;omega))
 ·rcases hk.1 with e|e;·exact h.of k e
  exact .inr ah
 ·simp only [aqj] at hk';refine ⟨?_,ig ((hk k hk').2)⟩;rcases (hk k hk').1 with e|e;·exact .inl (h.own k e)
  exact .inr e
 rw [bO ah];obtain ⟨a,c,h1,h2⟩:=h.old j hj;refine ⟨a,c,h1,(h2.ext (Ext.grownBy hg (fun k e=> .inr (h.ow.lt k e).1))).ext (Ext.grownBy hg7 (fun k e=>by cases e;exact .inl rfl))⟩
theorem Ig.h_ (h:Ig M wM Bs w n F s R rows) (hr:R s=rows):Ig (fun k=>k=wM.heap.size) wM w.heap.size w n F (s+1) R []:=by
 have hmb:=h.mb;have hbs:=h.bs;obtain ⟨a,c,hF⟩:=h.cur;refine ⟨h.kg,⟨none,0,h.nil _ (gL s)⟩,by rw [h.nil _ (gL s)];exact Ow.nil,rfl,fun _ hk=> .inl hk,fun k hk=>by subst hk;omega,fun k hk=>by rw [h.nil _ (gL s)] at hk;simp [Value.ownBlock] at hk,fun j hj=>h.nil j ah,fun j hj=> ?_,h.bel,ah,bM _⟩;by_cases e:j=s;·subst e;refine ⟨a,c,by rw [hr];exact hF,?_⟩;rw [hr];have hO:=h.ow;rw [hF] at hO;refine ((hO.oF (M':=fun k=>k=wM.heap.size) (fun k _ e=>by subst e;exact h.inM)).jD (fun k hk e=> ?_)).anti (fun k hk e=>e.elim id (fun e=>by omega));have:=(hO.lt k hk).1;omega
 obtain ⟨a,c,h1,h2⟩:=h.old j ah;exact ⟨a,c,h1,h2.anti (fun k hk e=>e.elim .inl (fun e=>by omega))⟩
end
def Mix (n0 B:Nat) (w:World) (v u:Value) (S:List Int) (W:List (List Int)):Prop:=
 Ow B (fun k=>B<=k) w 3 v S/\Oy (fun k=>v.ownBlock=some k\/k<n0) B w 49 u W/\Hid (∀k,v.ownBlock=some k->u.ownBlock=some k->False)
theorem Mix.below {n0 B:Nat} {w w':World} {v u:Value} {S:List Int} {W:List (List Int)} (h:Mix n0 B w v u S W) (hb:Below w.heap.size w w'):Mix n0 B w' v u S W:=⟨h.1.below hb,Ow.below h.2.1 hb,h.2.2⟩
theorem Mix.alloc {n0 B:Nat} {w:World} {v u:Value} {S:List Int} {W:List (List Int)} (h:Mix n0 B w v u S W) (o:Obj):Mix n0 B (w.alloc o) v u S W:=h.below ((bP _ _).alloc (bM _) _)
theorem Mix.jD {n0 B:Nat} {w:World} {v:Value} {a:Option Addr} {c:Nat} {S:List Int} {W:List (List Int)} (h:Mix n0 B w v (.slice a W.length c) S W) (hB:n0<=B):Sl (fun k=>k<n0) w a c W:=
 (h.2.1.oF (M':=fun k=>k<n0) fun k _ hm=> .inr (.inr hm)).jD fun k hk=>by have:=(h.2.1.lt k hk).1;omega
section
variable {P:Program} {w:World} {o:Oper} {a:Act} {ops:Array Oper} {rest:List Oper} {Q:Exit->Act->World->Prop}
theorem MH {n0 B:Nat} {v u:Value} {S:List Int} {W:List (List Int)} {s x:Operand} {t:TypeId} {g c:Nat} {y:Int} (hg:o.guard=none) (hop:o.op= .call {callee:= .builtin .append,args:= #[s,x],argTypes:= #[t,t]}) (ht:P.underlying t=some (.slice 3)) (hi:(P.info? 3).map (fun i=>(i.zero,i.size,i.bytes))=some (some (.int .i64 0),1,8)) (hs:a.eval s=v) (hx:a.eval x= .slice (some ⟨g,0,none⟩) 1 c) (hM:Mix n0 B w v u S W) (lU:w.cell? ⟨g,0,none⟩=some (.int .i64 y)) (hy:i64 y) (iX:S.length<1000000000000) (hB:B<=w.heap.size) (h:∀(a':Option Addr) (c':Nat) (l':List Int) (w':World),Hid (l'=S++[y])->Mix n0 B w' (.slice a' l'.length c') u l' W->Below B w w'->wpList P ops Q rest (a.put o.dst (.slice a' l'.length c')) w'):wpList P ops Q (o::rest) a w:=by
 refine mG hg hop ht hi hs hx hM.1 lU hy iX hB ?_;intro a' c' l' w' h1 h2 h3 h4;refine h a' c' l' w' h1 ⟨h2,Ow.ext hM.2.1 ⟨h4.size,fun k hk hm=>h4.block k hk fun e=>hm (.inr (.inl e.symm)),fun k hk hm=> ?_⟩ fun k hk=>h4.block k (hM.2.1.lt k hk).2 fun e=>hM.2.2.out k e.symm hk,fun k hk hu=> ?_⟩ ((bP _ _).grown h4 hB fun k hk=>(hM.1.lt k hk).1)
 ·rcases hm with hm|hm|hm;·exact .inl hm
  ·rcases (h3.out k hm).1 with e|e;·exact .inr (.inl e)
   omega
  exact .inr (.inr hm)
 rcases (h3.out k hk).1 with e|e;·exact hM.2.2.out k e hu
 have:=(hM.2.1.lt k hu).2;omega
theorem MJ {n0 B:Nat} {v u:Value} {S:List Int} {W:List (List Int)} {s x:Operand} {t:TypeId} {g c:Nat} {r:List Int} {ar:Option Addr} {cr:Nat} (hg:o.guard=none) (hop:o.op= .call {callee:= .builtin .append,args:= #[s,x],argTypes:= #[t,t]}) (ht:P.underlying t=some (.slice 49)) (hi:(P.info? 49).map (fun i=>(i.zero,i.size,i.bytes))=some (some (.slice none 0 0),1,24)) (hs:a.eval s=u) (hx:a.eval x= .slice (some ⟨g,0,none⟩) 1 c) (hM:Mix n0 B w v u S W) (lU:w.cell? ⟨g,0,none⟩=some (.slice ar r.length cr)) (hy:Sl (fun k=>u.ownBlock=some k\/v.ownBlock=some k\/k<n0) w ar cr r) (iX:W.length<1000000000000) (hB:B<=w.heap.size) (h:∀(a':Option Addr) (c':Nat) (l':List (List Int)) (w':World),Hid (l'=W++[r])->Mix n0 B w' v (.slice a' l'.length c') S l'->Below B w w'->wpList P ops Q rest (a.put o.dst (.slice a' l'.length c')) w'):wpList P ops Q (o::rest) a w:=by
 refine tZ (N:=fun k=>v.ownBlock=some k\/k<n0) hg s x t hop 49 (.slice none 0 0) 1 24 ht hi rfl (by decide) B u W hs rfl hM.2.1 ⟨g,0,none⟩ c [.slice ar r.length cr] r hx (nD hy) ?_ ?_ ah aS hB ?_
 ·intro j y hj;match j,hj with
  |0,hj=>simp at hj;subst hj;simpa [Addr.add] using lU
 ·intro y hy;simp at hy;subst hy;rfl
 intro a' c' l' w' h1 h2 h3 h4;refine h a' c' l' w' h1 ⟨Ow.kept hM.1 h4.size fun k hk=>h4.block k (hM.1.lt k hk).2 fun e=>hM.2.2.out k hk e.symm,h2,fun k hk hu=> ?_⟩ ((bP _ _).grown h4 hB fun k hk=>(hM.2.1.lt k hk).1);rcases (h3.out k hu).1 with e|e;·exact hM.2.2.out k hk e
 have:=(hM.1.lt k hk).2;omega
end
section
variable {M:Nat->Prop} {w:World} {b:Option Addr} {d:Nat} {l:List Int}
theorem X_ (hs:Sl M w b d l) (x:Int):Calls prog 230 #[.slice b l.length d,.int .i64 x] w fun e w'=>e= .returned (.bool (decide (x∈l)))/\w'=w:=by
 have ll:=hs.le;have HS:=bK hs;have Gd:Hid (x∉l.take 0):=bK aH;clear hs;go_enter func230,ntmps230;go_wp2;go_loop [5] (fun i=>∃k:Nat,k<=l.length/\i= .int .i64 k/\Hid (x∉l.take k)) (fun i=>l.length-(intOf i).toNat);case atStart=>exact ⟨0,ah,rfl,Gd⟩
 case round=>
  clear Gd;obtain ⟨k,hk,rfl,hF⟩:=hrel;by_cases hlt:k<l.length
  ·obtain ⟨bs,os,y,rfl,Ca,hy, -⟩:=HS.out.iC hlt;by_cases he:y=x
   ·have LV:(y==x)=true:=by simp [he]
    have hT:Hid (decide (x∈l)=true):=bK (by exact dw (by rw [<-he];exact bV hy.out));clear he;go_wp2;go_ret;exact ⟨by rw [hT.out];rfl,rfl⟩
   have LV:(y==x)=false:=by simp [he]
   have hF2:Hid (x∉l.take (k+1)):=apZ (ER hy.out he hF.out).symm;clear he;go_wp2;go_round;case rel=>exact ⟨k+1,ah,by go_num,hF2⟩
   case measure=>exact bF
  have hT:Hid (decide (x∈l)=false):=bK (by exact cZ (by have h:=hF.out;rwa [bY ah] at h));go_wp2;go_ret;exact ⟨by rw [hT.out];rfl,rfl⟩
theorem ad9 (hs:Sl M w b d l) (x:Int) {v:Bool} (h:decide (x∈l)=v):
    Calls prog 230 #[.slice b l.length d,.int .i64 x] w fun e w'=>e= .returned (.bool v)/\w'=w:=by rw [<-h];exact X_ hs x
end
section
variable {M:Nat->Prop} {w:World} {an ao:Option Addr} {cn co:Nat} {m:g_}
theorem QC (hm:Ma M w an cn ao co m) (he:Hid (m.err=0)):Calls prog 189 #[kF m an cn ao co] w fun e w'=>∃(a b:Option Addr) (c d:Nat) (S:List Int) (L:List (List Int)),e= .returned (.tuple #[.slice a S.length c,.slice b L.length d,.int .i64 0])/\ Hid (L=m.qm.map Pc.word)/\Sl (fun k=>k<w.heap.size) w' b d L/\Below w.heap.size w w':=by
 obtain ⟨bn,on,bo,oo,rfl,rfl⟩:=hm.addr (m.iG he.out);have hB0:=iB w (iP m (some ⟨bn,on,none⟩) cn (some ⟨bo,oo,none⟩) co);have hx0:=jE w m (some ⟨bn,on,none⟩) cn (some ⟨bo,oo,none⟩) co;have hz0:w.heap.size+1<=(w.alloc (iP m (some ⟨bn,on,none⟩) cn (some ⟨bo,oo,none⟩) co)).heap.size:=aH;have okp:=m.iG he.out;have n1:=okp.n1;have l1:=hm.h_.le;have l2:=hm.out.le;have agu:=bK hm.start;have HV:=oz (hm.below hB0);rw [he.out] at HV;have HV:=bK HV;have HM:=bK hm;have ok:=bK okp;clear hm okp;go_enter func189,ntmps189;go_wp2_with fail;generalize w.alloc (iP m (some ⟨bn,on,none⟩) cn (some ⟨bo,oo,none⟩) co)=w0 at*
 refine (HV.out).mono ?_;rintro e w1 ⟨rfl,hb1⟩;have hB1:=hB0.trans (hb1.mono ah);have hx1:=hx0.below hb1 ah;have hz1:w.heap.size+1<=w1.heap.size:=ig hb1.size;have HC:Hid (∀w',Below w1.heap.size w1 w'->C4 w' w.heap.size (some ⟨bn,on,none⟩) cn (some ⟨bo,oo,none⟩) co m/\Below w.heap.size w w'):=fun w' h=>⟨hx1.below h ah,hB1.trans (h.mono ah)⟩;have hc1:=hx1.2.1;clear HV hB0 hx0 hb1 hz0 hB1 hx1;go_wp2_with fail;have hb4:Below w1.heap.size w1 (((w1.alloc (.cells #[.int .i64 m.start] 3)).alloc (.cells #[] 3)).alloc (.cells #[.slice (some ⟨w1.heap.size+1,0,none⟩) 0 0] 49)):=((iB w1 _).alloc aH _).alloc aJ _;have hM4:Mix w.heap.size w1.heap.size (((w1.alloc (.cells #[.int .i64 m.start] 3)).alloc (.cells #[] 3)).alloc (.cells #[.slice (some ⟨w1.heap.size+1,0,none⟩) 0 0] 49)) (.slice (some ⟨w1.heap.size,0,none⟩) 1 1) (.slice (some ⟨w1.heap.size+2,0,none⟩) 1 1) [m.start] [[]]:=by refine ⟨((Ow.one agu.out (bM _)).alloc _).alloc _,?_,fun k h1 h2=>by simp [Value.ownBlock] at h1 h2;omega⟩;have h:=Ow.ahh (B:=w1.heap.size) (M:=fun k=>(Value.slice (some ⟨w1.heap.size+2,0,none⟩) 1 1).ownBlock=some k\/(Value.slice (some ⟨w1.heap.size,0,none⟩) 1 1).ownBlock=some k\/k<w.heap.size) (w:=(w1.alloc (.cells #[.int .i64 m.start] 3)).alloc (.cells #[] 3)) (T:=49) (a:=some ⟨w1.heap.size+1,0,none⟩) (c:=0) (r:=[]) (Sl.nil _ _ _ aS) aJ;have hsz:((w1.alloc (.cells #[.int .i64 m.start] 3)).alloc (.cells #[] 3)).heap.size=w1.heap.size+2:=aH;rw [hsz] at h;exact h
 have hL0:Hid ([(⟨m.start,[]⟩:Pc)]=m.wW 0):=rfl;have hS0:Hid ([m.start]=[(⟨m.start,[]⟩:Pc)].map Pc.s):=rfl;have hW0:Hid ([([]:List Int)]=[(⟨m.start,[]⟩:Pc)].map Pc.word):=rfl;go_upto_region 7 with (fail);generalize hgg:((w1.alloc (.cells #[.int .i64 m.start] 3)).alloc (.cells #[] 3)).alloc (.cells #[.slice (some ⟨w1.heap.size+1,0,none⟩) 0 0] 49)=w4 at*
 clear hgg hc1
 go_loopw [6,7,8] (fun v u i wr=>∃(k:Nat) (a1:Option Addr) (c1:Nat) (a2:Option Addr) (c2:Nat) (L:List Pc) (S:List Int) (W:List (List Int)),k<=m.h_.length/\i= .int .i64 k/\v= .slice a1 S.length c1/\u= .slice a2 W.length c2/\Hid (L=m.wW k)/\Hid (S=L.map Pc.s)/\Hid (W=L.map Pc.word)/\
  Mix w.heap.size w1.heap.size wr (.slice a1 S.length c1) (.slice a2 W.length c2) S W/\Below w1.heap.size w1 wr) (fun _ _ i _=>m.h_.length-(intOf i).toNat)
 case atStart=>exact ⟨0,some ⟨w1.heap.size,0,none⟩,1,some ⟨w1.heap.size+2,0,none⟩,1,[⟨m.start,[]⟩],[m.start],[[]],ah,rfl,rfl,rfl,hL0,hS0,hW0,hM4,hb4⟩
 case round=>
  clear hL0 hS0 hW0 hM4 hb4;obtain ⟨k,a1,c1,a2,c2,L,S,W,hk,rfl,rfl,rfl,hL,hS,hW,hM,hB⟩:=hrel;obtain ⟨wo,rfl⟩:=iA wr;have hLn:Hid (L.length<=m.h_.length):=bK (by rw [hL.out,g_.rE];exact g_.og ok.out k);have zh:Hid (S.length=L.length):=bK (by rw [hS.out,dJ]);by_cases hlt:k<S.length
  ·have Qv:k<L.length:=by have:=zh.out;omega
   have hkn:k<m.h_.length:=ig hLn.out;obtain ⟨q,hq⟩:∃q,L[k]? =some q:=⟨_,bN Qv⟩;have hqa:=bK (g_.rF ok.out k q (by rw [<-hL.out];exact bV hq));obtain ⟨x,hx⟩:=b_ hqa.out.1;have hxn:x<m.h_.length:=ig hqa.out.2.1;have HX:=bK hx;have HQ:=bK hq;obtain ⟨bn2,on2,ar,r1,cr,hbe,hn1,hr1,hS1⟩:=HM.out.h_.iD hxn;obtain ⟨rfl,rfl⟩:bn=bn2/\on=on2:=iq hbe;have HN:Hid (∀w',Below w.heap.size w w'->w'.cell? ⟨bn,on+x,none⟩=some (.slice ar r1.length cr)):=fun w' h=>(h.cell (p:=⟨bn,on+x,none⟩) (lt_of_cell hn1)).trans hn1;have zR:=bK hS1;have Ls:=hS1.le;have adH:Hid ((r1.length:Int)=m.gZ):=by have:=ok.out.rn x hxn;rw [iw hr1.out] at this;exact this
   have amR:r1.length<=64:=by have:=adH.out;have:=ok.out.i1;omega
   have PZ:Hid (L=jP L q.word r1 0):=rfl;clear hbe hn1 hS1 hq hx zh;go_wp2_with fail
   go_loopw [6,7,9] (fun v u i wr=>∃(j:Nat) (a1:Option Addr) (c1:Nat) (a2:Option Addr) (c2:Nat) (K:List Pc) (S:List Int) (W:List (List Int)),j<=r1.length/\i= .int .i64 j/\v= .slice a1 S.length c1/\u= .slice a2 W.length c2/\Hid (K=jP L q.word r1 j)/\Hid (S=K.map Pc.s)/\Hid (W=K.map Pc.word)/\
    Mix w.heap.size w1.heap.size wr (.slice a1 S.length c1) (.slice a2 W.length c2) S W/\Below w1.heap.size w1 wr) (fun _ _ i _=>r1.length-(intOf i).toNat)
   case atStart=>exact ⟨0,a1,c1,a2,c2,L,S,W,ah,rfl,rfl,rfl,PZ,hS,hW,hM,hB⟩
   case round=>
    clear PZ hS hW hM hB;obtain ⟨j,p1,d1,p2,d2,K,S2,W2,hj,rfl,rfl,rfl,hK,hS2,hW2,hM,hB⟩:=hrel;obtain ⟨w5,rfl⟩:=iA wr;obtain ⟨hc0, -,hc2, -⟩:=(HC.out _ hB).1;have hBw:=(HC.out _ hB).2;have hri:=adH.out;by_cases hlj:j<r1.length
    ·have adL:((j:Nat):Int)<m.gZ:=ah;have hKk:Hid (K[k]? =some q):=by obtain ⟨sf,hsf⟩:=tX L q.word r1 j;unfold Hid;rw [hK.out,hsf,dz Qv];exact HQ.out
     have hkK:=iW hKk.out;have aby:Hid (S2.length=K.length/\W2.length=K.length):=bK (by rw [hS2.out,hW2.out,dJ,dJ];exact ⟨rfl,rfl⟩);have hkS:k<S2.length:=ig aby.out;have hkW:k<W2.length:=ig aby.out;have rW:Hid (K.length<=m.h_.length):=by
      have h1:=g_.mD ok.out k;have h2:K.map Pc.s=visit (m.lq k) (r1.take j):=by rw [hK.out,qA _ _ _ _ hj,hL.out,g_.vJ]
      have h3:=qD m.h_.length (K.map Pc.s) (by rw [h2];exact qC _ _ h1.1) (fun z hz=>by
       rw [h2,um] at hz
       rcases hz with hz|hz
       ·exact h1.2.1 z hz
       exact g_.kN ok.out hxn (by rw [iw hr1.out];exact aqe hz))
      unfold Hid;simpa using h3
     obtain ⟨g,y,rfl,Ca, -,hy, -⟩:=hM.1.iC hkS;have hyx:y=(x:Int):=by have h:=hy.out;rw [hS2.out,dP,hKk.out] at h;rw [<-HX.out];simpa using h.symm
     rw [hyx] at Ca;obtain ⟨b3,o3,t0,rfl,htc,ht0,vK⟩:=(zR.out.below hBw).iC hlj;have hn5:=HN.out _ hBw;have p1':∀n,(w5.drewN n).cell? ⟨w.heap.size,2,none⟩=some (.slice (some ⟨bn,on,none⟩) m.h_.length cn):=fun n=>by simpa using hc2
     have p2':∀n,(w5.drewN n).cell? ⟨g,k,none⟩=some (.int .i64 (x:Int)):=fun n=>by simpa using Ca
     have p3':∀n,(w5.drewN n).cell? ⟨bn,on+x,none⟩=some (.slice (some ⟨b3,o3,none⟩) r1.length cr):=fun n=>by simpa using hn5
     have p4':∀n,(w5.drewN n).cell? ⟨b3,o3+j,none⟩=some (.int .i64 t0):=fun n=>by simpa using htc
     clear hyx hri hy;go_upto_region 12 with (fail);refine go_quiet fun nq=> ?_;have hd:=below_drewN w5.heap.size w5 nq;have hM6:=hM.below hd;have jo:=hB.trans (hd.mono hB.size);clear p1' p2' p3' p4' hd hM hB hc0 hc2 hBw Ca htc hn5;generalize w5.drewN nq=w6 at*
     obtain ⟨vb,hvb⟩:∃vb,decide (t0∈S2)=vb:=⟨_,rfl⟩;have akA:=bK (ad9 (hM6.1.fresh (n:=w1.heap.size) (bM _)) t0 hvb);have HV:=bK hvb;clear hvb;go_wp2_with fail;refine (akA.out).mono ?_;rintro e w7 ⟨rfl,hw7⟩;obtain rfl:w6=w7:=hw7.symm;clear akA;cases vb with
     |true=>
      have hin:Hid (K=jP L q.word r1 (j+1)):=by have h1:t0∈S2:=fT HV.out;rw [hS2.out] at h1;unfold Hid;rw [vH ht0.out (by rw [<-hK.out];exact h1),hK.out]
      go_wp2;go_roundw;case rel=>exact ⟨j+1,some ⟨g,0,none⟩,d1,p2,d2,K,S2,W2,ah,by go_num,rfl,rfl,hin,hS2,hW2,hM6,jo⟩
      case measure=>exact bF
     |false=>
      have Wz:Hid (jP L q.word r1 (j+1)=K++[⟨t0,q.word++[(j:Int)]⟩]):=by have h1:¬t0∈S2:=apZ HV.out;rw [hS2.out] at h1;unfold Hid;rw [vI ht0.out (by rw [<-hK.out];exact h1),<-hK.out]
      have qR:=jo.size;have hSW:Hid (S2.length<1000000000000/\W2.length<1000000000000):=bK (by have:=aby.out;have:=rW.out;omega);go_wp2_with (at_builtin;refine MH (n0:=w.heap.size) (B:=w1.heap.size) (y:=t0) rfl rfl underlying49 iE rfl rfl (hM6.alloc _) bf vK.out hSW.out.1 aJ ?_);intro a8 c8 S8 w8 Jp hM8 rP;have mg:=(jo.alloc qR (.cells #[.int .i64 t0] 3)).trans rP;obtain ⟨g2,hg2, -,ahk⟩:=jZ hM8.2.1 ah;subst hg2;obtain ⟨br,r2,dr,ad7, -,hr2,abt⟩:=Ow.iD hM8.2.1 rfl hkW;obtain rfl:r2=q.word:=by have h:=hr2.out;rw [hW2.out,dP,hKk.out] at h;simpa using h.symm
      have HEx:=bK (vP (j:Int) bg abt (ig hqa.out.2.2.2.1));have anG:Hid (S8=(K++[(⟨t0,q.word++[(j:Int)]⟩:Pc)]).map Pc.s):=bK (by rw [Jp.out,hS2.out];simp);clear hM6 rP jo qR Jp hr2 abt;go_wp2_with fail;refine (HEx.out).mono ?_;rintro e w9 ⟨aE,cE,E,rfl,hE,YO,wO⟩;have hM9:=hM8.below wO;have mH:=mg.trans (wO.mono mg.size);have hz9:=mH.size
      have hE9:Sl (fun k=>(Value.slice (some ⟨g2,0,none⟩) W2.length d2).ownBlock=some k\/(Value.slice a8 S8.length c8).ownBlock=some k\/k<w.heap.size) w9 aE cE E:=YO.anti fun k _ hm=>by
       rcases hm with hm|hm|hm
       ·exact (hM8.2.1.lt k hm).2
       ·exact (hM8.1.lt k hm).2
       have:=mg.size;show k<_;omega
      have hEl:=YO.le;clear HEx hM8 mg wO YO ad7;go_wp2_with (at_builtin;refine MJ (n0:=w.heap.size) (B:=w1.heap.size) (r:=E) (ar:=aE) (cr:=cE) rfl rfl underlying22 iI rfl rfl (hM9.alloc _) bf (hE9.alloc _) hSW.out.2 aJ ?_);intro a10 c10 W10 qo Tq anH nO;have nE:=(mH.alloc hz9 (.cells #[.slice aE E.length cE] 49)).trans nO;have akB:Hid (W10=(K++[(⟨t0,q.word++[(j:Int)]⟩:Pc)]).map Pc.word):=bK (by rw [Tq.out,hW2.out,hE.out];simp);clear hM9 hE9 nO mH hz9 Tq;go_wp2;go_roundw;case rel=>exact ⟨j+1,a8,c8,a10,c10,K++[⟨t0,q.word++[(j:Int)]⟩],S8,W10,ah,by go_num,rfl,rfl,bK Wz.out.symm,anG,akB,anH,nE⟩
      case measure=>exact bF
    have adL:¬((j:Nat):Int)<m.gZ:=ah;have hF:Hid (K=m.wW (k+1)):=by unfold Hid;simp only [g_.wW];rw [<-hL.out,bQ Qv,aeM HQ.out,HX.out];rw [show ((x:Int)).toNat=x from rfl,iw hr1.out,hK.out,show j=r1.length by omega]
    clear hri;go_wp2;go_roundw;case rel=>exact ⟨k+1,p1,d1,p2,d2,K,S2,W2,ah,by go_num,rfl,rfl,hF,hS2,hW2,hM,hB⟩
    case measure=>exact bF
  have hF:Hid (W=m.qm.map Pc.word):=bK (by rw [hW.out,g_.UW (i:=k) (by rw [<-hL.out,<-zh.out];exact hlt) hk,hL.out]);have aby:=hM.jD ah;have jh:=(HC.out _ hB).2;go_wp2;go_ret3;exact ⟨a1,a2,c1,c2,S,W,rfl,hF,aby,jh⟩
theorem TR (hm:Ma M w an cn ao co m) (he:Hid (m.err=0)):Calls prog 147 #[kF m an cn ao co] w fun e w'=>∃(b:Option Addr) (d:Nat) (L:List (List Int)),e= .returned (.tuple #[.slice b L.length d,.int .i64 0])/\ Hid (L=m.qm.map Pc.word)/\Sl (fun k=>k<w.heap.size) w' b d L/\Below w.heap.size w w':=by
 have hB0:=iB w (iP m an cn ao co);have hx0:=jE w m an cn ao co;have hz0:w.heap.size<=(w.alloc (iP m an cn ao co)).heap.size:=aH;have HC:=bK (QC (hm.below hB0) he);have n1:=hm.h_.le;have n2:=hm.out.le;clear hm;go_enter func147,ntmps147;go_wp2_with fail;generalize w.alloc (iP m an cn ao co)=w0 at*
 refine (HC.out).mono ?_;rintro e w1 ⟨a,b,c,d,S,L,rfl,hL,hS,hb⟩;have hB1:=hB0.trans (hb.mono hz0);have hS1:=hS.anti (M':=fun k=>k<w.heap.size) fun k _ hk=>by omega
 clear hS hb HC hB0 hx0;go_wp2;go_ret2;exact ⟨b,d,L,rfl,hL,hS1,hB1⟩
end
end
