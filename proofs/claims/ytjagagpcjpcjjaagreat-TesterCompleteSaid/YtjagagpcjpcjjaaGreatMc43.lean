/- Several texts, one behind the other. Conditions: as each of them says. -/
import Derived.Test.YtjagagpcjpcjjaaGreatMc42
import Derived.Test.YtjagagpcjpcjjaaGreatMc39
import Derived.Test.YtjagagpcjpcjjaaGreatMc37
import Derived.Test.YtjagagpcjpcjjaaGreatMc36
import Derived.Test.YtjagagpcjpcjjaaGreatMc35
import Derived.Test.YtjagagpcjpcjjaaGreatMc34
import Derived.Test.YtjagagpcjpcjjaaGreatMc29
import Derived.Test.YtjagagpcjpcjjaaGreatMc19
import Derived.Test.YtjagagpcjpcjjaaGreatMc10
import Derived.Test.YtjagagpcjpcjjaaGreatMc7
import Derived.Test.YtjagagpcjpcjjaaGreatMc4
import Derived.Test.YtjagagpcjpcjjaaGreatMc1
import Derived.Deep.Cut
set_option maxRecDepth 100000
set_option maxHeartbeats 32000000
namespace Go.Proofs.YtjagagpcjpcjjaaGreat
structure GOk (n:Nat) (g:Gp):Prop where
 le:g.ini.length=g.cur.length
 pos:0<g.cur.length
 st:∀s∈g.cur,0≤s∧s<n
def addKid (t:Nat) (q:Kd) (K:List Nd):List Nd:=match K[t]? with
 |some nd=>K.set t ⟨nd.st,nd.inp,nd.kids++[q]⟩
 |none=>K
theorem addKid_len {t:Nat} {q:Kd} {K:List Nd}:(addKid t q K).length=K.length:=by unfold addKid;split<;>simp
theorem addKid_pre {t i:Nat} {q:Kd} {K:List Nd} (h:i≠t):(addKid t q K)[i]? =K[i]? :=by
 unfold addKid;split
 ·rw [List.getElem?_set_ne (fun e=>h e.symm)]
 rfl
theorem addKid_some {t:Nat} {q:Kd} {K:List Nd} {nd:Nd} (h:K[t]? =some nd):addKid t q K=K.set t ⟨nd.st,nd.inp,nd.kids++[q]⟩:=by unfold addKid;rw [h]
def gKid (rc:List Nd→Gp→List Nd) (t:Nat) (L:List Nd) (p:Int×Gp):List Nd:=if 4096<L.length then L else addKid t ⟨p.1,L.length⟩ (rc L p.2)
namespace Mach
variable (m:Mach)
def gWord (g:Gp) (w:List Int):List Int:=if w.length=0∧1<g.ini.length then (m.findW g.cur).1 else w
def gParts (x:Nat) (g:Gp):List (Int×Gp):=(m.outsI x g.cur).zip (m.grps x g.ini g.cur)
def grow:Nat→List Nd→Gp→List Int→List Nd
 |0,L,_,_=>L
 |f+1,L,g,w=>
  if 4096<L.length+1 then L++[⟨g.ini, -1,[]⟩] else
  match m.gWord g w with
  |[]=>L++[⟨g.ini, -1,[]⟩]
  |a::u=>(m.gParts a.toNat g).foldl (gKid (fun K h=>grow f K h u) L.length) (L++[⟨g.ini,a,[]⟩])
def gLoop (f t:Nat) (u:List Int) (ps:List (Int×Gp)) (L:List Nd):List Nd:=ps.foldl (gKid (fun K h=>m.grow f K h u) t) L
variable {m}
theorem gLoop_pre {f t:Nat} {u:List Int} (ih:∀L g w,L.length≤(m.grow f L g w).length∧∀i,i<L.length→(m.grow f L g w)[i]? =L[i]?):∀(ps:List (Int×Gp)) (L:List Nd),L.length≤(m.gLoop f t u ps L).length∧∀i,i<L.length→i≠t→(m.gLoop f t u ps L)[i]? =L[i]?
 |[],L=>⟨Nat.le_refl _,fun _ _ _=>rfl⟩
 |p::ps,L=>by
  have h:=gLoop_pre (t:=t) (u:=u) ih ps (gKid (fun K h=>m.grow f K h u) t L p)
  have hk:L.length≤(gKid (fun K h=>m.grow f K h u) t L p).length∧∀i,i<L.length→i≠t→(gKid (fun K h=>m.grow f K h u) t L p)[i]? =L[i]? :=by
   unfold gKid
   split
   ·exact ⟨Nat.le_refl _,fun _ _ _=>rfl⟩
   rw [addKid_len]
   exact ⟨(ih _ _ _).1,fun i hi hn=>by rw [addKid_pre hn];exact (ih _ _ _).2 i hi⟩
  exact ⟨Nat.le_trans hk.1 h.1,fun i hi hn=>(h.2 i (by omega) hn).trans (hk.2 i hi hn)⟩
theorem grow_pre:∀(f:Nat) (L:List Nd) (g:Gp) (w:List Int),L.length≤(m.grow f L g w).length∧∀i,i<L.length→(m.grow f L g w)[i]? =L[i]?
 |0,L,g,w=>⟨Nat.le_refl _,fun _ _=>rfl⟩
 |f+1,L,g,w=>by
  have hA:∀x:Nd,L.length≤(L++[x]).length∧∀i,i<L.length→(L++[x])[i]? =L[i]? :=fun x=>⟨by simp,fun i hi=>List.getElem?_append_left hi⟩
  unfold grow
  split
  ·exact hA _
  split
  ·exact hA _
  rename_i a u _
  have h:=gLoop_pre (t:=L.length) (u:=u) (grow_pre f) (m.gParts a.toNat g) (L++[⟨g.ini,a,[]⟩])
  have h2:=hA ⟨g.ini,a,[]⟩
  exact ⟨Nat.le_trans h2.1 h.1,fun i hi=>(h.2 i (by simp;omega) (by omega)).trans (h2.2 i hi)⟩
theorem gLoop_top {f t:Nat} {u:List Int} (ih:∀L g w,L.length≤4096→(m.grow f L g w).length≤4097):∀(ps:List (Int×Gp)) (L:List Nd),L.length≤4097→(m.gLoop f t u ps L).length≤4097
 |[],L,h=>h
 |p::ps,L,h=>by
  refine gLoop_top ih ps (gKid (fun K h=>m.grow f K h u) t L p) ?_
  unfold gKid
  split
  ·exact h
  rw [addKid_len];exact ih _ _ _ (by omega)
theorem grow_top:∀(f:Nat) (L:List Nd) (g:Gp) (w:List Int),L.length≤4096→(m.grow f L g w).length≤4097
 |0,L,g,w,h=>by unfold grow;omega
 |f+1,L,g,w,h=>by
  unfold grow
  split
  ·simp;omega
  split
  ·simp;omega
  rename_i a u _
  exact gLoop_top (grow_top f) (m.gParts a.toNat g) (L++[⟨g.ini,a,[]⟩]) (by simp;omega)
theorem gLoop_at {f t:Nat} {u:List Int}:∀(ps:List (Int×Gp)) (L:List Nd) (x:Nd),L[t]? =some x→∃y,(m.gLoop f t u ps L)[t]? =some y∧y.st=x.st∧y.inp=x.inp∧y.kids.length≤x.kids.length+ps.length
 |[],L,x,h=>⟨x,h,rfl,rfl,by simp⟩
 |p::ps,L,x,h=>by
  have ht:=some_lt h
  have hk:∃z,(gKid (fun K h=>m.grow f K h u) t L p)[t]? =some z∧z.st=x.st∧z.inp=x.inp∧z.kids.length≤x.kids.length+1:=by
   unfold gKid
   split
   ·exact ⟨x,h,rfl,rfl,by omega⟩
   have h1:=((grow_pre (m:=m) f L p.2 u).2 t ht).trans h
   have h2:=some_lt h1
   exact ⟨⟨x.st,x.inp,x.kids++[⟨p.1,L.length⟩]⟩,by rw [addKid_some h1];simp [h2],rfl,rfl,by simp⟩
  obtain ⟨z,z1,z2,z3,z4⟩:=hk
  obtain ⟨y,y1,y2,y3,y4⟩:=gLoop_at ps _ z z1
  exact ⟨y,y1,y2.trans z2,y3.trans z3,by simp;omega⟩
theorem gLoop_step {f t:Nat} {u:List Int} {ps:List (Int×Gp)} {k:Nat} {p:Int×Gp} (L:List Nd) (h:ps[k]? =some p):m.gLoop f t u (ps.take (k+1)) L=gKid (fun K h=>m.grow f K h u) t (m.gLoop f t u (ps.take k) L) p:=by
 unfold gLoop;rw [List.take_add_one,h,List.foldl_append];rfl
theorem gLoop_cut {f t:Nat} {u:List Int}:∀(ps:List (Int×Gp)) (L:List Nd),4096<L.length→m.gLoop f t u ps L=L
 |[],L,_=>rfl
 |p::ps,L,h=>by
  have:gKid (fun K h=>m.grow f K h u) t L p=L:=by unfold gKid;rw [if_pos h]
  show m.gLoop f t u ps (gKid (fun K h=>m.grow f K h u) t L p)=L
  rw [this];exact gLoop_cut ps L h
theorem gLoop_stop {f t:Nat} {u:List Int} {ps:List (Int×Gp)} {k:Nat} (L:List Nd) (h:4096<(m.gLoop f t u (ps.take k) L).length):m.gLoop f t u ps L=m.gLoop f t u (ps.take k) L:=by
 have e:m.gLoop f t u ps L=m.gLoop f t u (ps.drop k) (m.gLoop f t u (ps.take k) L):=by unfold gLoop;rw [←List.foldl_append,List.take_append_drop]
 rw [e,gLoop_cut _ _ h]
theorem grow_full {f:Nat} {L:List Nd} {g:Gp} {w:List Int} (h:4096<L.length+1):m.grow (f+1) L g w=L++[⟨g.ini, -1,[]⟩]:=by unfold grow;rw [if_pos h]
theorem grow_leaf {f:Nat} {L:List Nd} {g:Gp} {w:List Int} (h:m.gWord g w=[]):m.grow (f+1) L g w=L++[⟨g.ini, -1,[]⟩]:=by unfold grow;rw [h];split<;>rfl
theorem grow_on {f:Nat} {L:List Nd} {g:Gp} {w u:List Int} {a:Int} (h0:¬4096<L.length+1) (h:m.gWord g w=a::u):m.grow (f+1) L g w=m.gLoop f L.length u (m.gParts a.toNat g) (L++[⟨g.ini,a,[]⟩]):=by
 conv=>lhs;unfold grow
 rw [if_neg h0,h];rfl
theorem grp_ok {g:Gp} {x:Nat} {o:Int} (ok:m.Ok) (hx:x<m.inputs.toNat) (h:GOk m.next.length g) (ho:o∈m.outsI x g.cur):GOk m.next.length (m.grp x g.ini g.cur o):=by
 have hz:(g.ini.zip g.cur).map Prod.snd=g.cur:=List.map_snd_zip (by have:=h.le;omega)
 refine ⟨?_,?_,fun s hs=> ?_⟩
 ·show (m.gpI x g.ini g.cur o).length=(m.gpC x g.ini g.cur o).length
  unfold gpI gpC;rw [List.length_map,List.length_map]
 ·show 0<(m.gpC x g.ini g.cur o).length
  unfold gpC outsI at*
  rw [List.length_map]
  rw [iset_mem,List.mem_map] at ho
  obtain ⟨s,hs,rfl⟩:=ho
  rw [←hz,List.mem_map] at hs
  obtain ⟨p,hp,rfl⟩:=hs
  exact List.length_pos_of_mem (List.mem_filter.2 ⟨hp,by simp⟩)
 obtain ⟨p,hp,rfl⟩:=List.mem_map.1 (show s∈m.gpC x g.ini g.cur o from hs)
 have hp2:p.2∈g.cur:=by rw [←hz];exact List.mem_map_of_mem (List.mem_filter.1 hp).1
 have:=h.st p.2 hp2
 exact ok.nx p.2.toNat x (by omega) hx
theorem grp_le {g:Gp} {x:Nat} {o:Int}:(m.grp x g.ini g.cur o).cur.length≤g.cur.length:=by
 show (m.gpC x g.ini g.cur o).length≤_
 unfold gpC;rw [List.length_map]
 refine Nat.le_trans (List.length_filter_le _ _) ?_
 rw [List.length_zip];omega
theorem gParts_at {g:Gp} {x k:Nat} {o:Int} (h:(m.outsI x g.cur)[k]? =some o):(m.gParts x g)[k]? =some (o,m.grp x g.ini g.cur o):=by
 unfold gParts grps
 rw [List.getElem?_zip_eq_some]
 exact ⟨h,by rw [List.getElem?_map,h];rfl⟩
theorem gParts_len {g:Gp} {x:Nat}:(m.gParts x g).length=(m.outsI x g.cur).length:=by unfold gParts grps;rw [List.length_zip,List.length_map];omega
theorem fOne_word {q:Fq} {a:Nat} {L:List Fq} {w:List Int} (hq:m.okS q.word) (ha:a<m.inputs.toNat) (h:m.fOne q a L= .word w):m.okS w:=by
 unfold fOne at h
 split at h
 ·simp at h
 split at h
 ·simp only [FR.word.injEq] at h
  subst h
  intro y hy
  rcases List.mem_append.1 hy with e|e
  ·exact hq y e
  rw [List.mem_singleton.1 e];omega
 split at h
 ·simp at h
 split at h<;>simp at h
theorem fOne_go {q:Fq} {a:Nat} {L K:List Fq} (hL:∀p∈L,m.okS p.word) (hq:m.okS q.word) (ha:a<m.inputs.toNat) (h:m.fOne q a L= .go K):∀p∈K,m.okS p.word:=by
 unfold fOne at h
 split at h
 ·simp only [FR.go.injEq] at h;subst h;exact hL
 split at h
 ·simp at h
 split at h
 ·simp only [FR.go.injEq] at h;subst h;exact hL
 split at h
 ·simp at h
 simp only [FR.go.injEq] at h
 subst h
 intro p hp
 rcases List.mem_append.1 hp with e|e
 ·exact hL p e
 rw [List.mem_singleton.1 e]
 intro y hy
 rcases List.mem_append.1 hy with e|e
 ·exact hq y e
 rw [List.mem_singleton.1 e];omega
def FRok (m:Mach):FR→Prop
 | .go L=>∀p∈L,m.okS p.word
 | .word w=>m.okS w
 | .cut=>True
theorem fRow_ok {q:Fq} {L:List Fq} (hL:∀p∈L,m.okS p.word) (hq:m.okS q.word):∀a,a≤m.inputs.toNat→FRok m (m.fRow q L a)
 |0,_=>hL
 |a+1,ha=>by
  have ih:=fRow_ok hL hq a (by omega)
  unfold fRow
  split
  ·rename_i K hK
   rw [hK] at ih
   cases e:m.fOne q a K with
   |go K2=>exact fOne_go ih hq (by omega) e
   |word w=>exact fOne_word hq (by omega) e
   |cut=>trivial
  exact ih
theorem fTo_ok {l:List Int}:∀i,FRok m (m.fTo l i)
 |0=>by
  intro p hp
  obtain rfl:p=⟨l,[]⟩:=by simpa using hp
  intro y hy;simp at hy
 |i+1=>by
  have ih:=fTo_ok (l:=l) i
  unfold fTo
  split
  ·rename_i L hL
   rw [hL] at ih
   split
   ·rename_i hi
    refine fRow_ok ih ?_ _ (Nat.le_refl _)
    rw [List.getD_eq_getElem?_getD,List.getElem?_eq_getElem hi]
    exact ih _ (List.getElem_mem hi)
   exact ih
  exact ih
theorem findW_ok (l:List Int):m.okS (m.findW l).1:=by
 have h:=fTo_ok (m:=m) (l:=l) fMax
 unfold findW
 cases e:m.fTo l fMax with
 |go L=>intro y hy;simp [fRes] at hy
 |word w=>rw [e] at h;exact h
 |cut=>intro y hy;simp [fRes] at hy
theorem gWord_ok {g:Gp} {w:List Int} (h:m.okS w):m.okS (m.gWord g w):=by
 unfold gWord;split
 ·exact findW_ok _
 exact h
end Mach
namespace Mach
variable (m:Mach)
def rLoop (rc:Nat→Gp→Nat×Bool):List ((Int×Gp)×Kd)→Nat→Nat×Bool
 |[],n=>(n,true)
 |z::l,n=>if z.2.out≠z.1.1∨z.2.to≠n then (0,false) else match rc n z.1.2 with
  |(n',true)=>rLoop rc l n'
  |(_,false)=>(0,false)
def right (T:List Nd):Nat→Nat→Gp→Nat×Bool
 |0,_,_=>(0,false)
 |f+1,a,g=>match T[a]? with
  |none=>(0,false)
  |some x=>if x.st≠g.ini∨(iset g.cur).length≠g.cur.length then (0,false) else
   if x.inp= -1 then (a+1,decide (x.kids.length=0)) else
   if x.inp<0∨m.inputs≤x.inp then (0,false) else
   if (m.gParts x.inp.toNat g).length≠x.kids.length then (0,false) else
   rLoop (fun n h=>right T f n h) ((m.gParts x.inp.toNat g).zip x.kids) (a+1)
variable {m}
theorem rLoop_bd {T:List Nd} {rc:Nat→Gp→Nat×Bool} (ih:∀n h k,rc n h=(k,true)→n<k∧k≤T.length):∀(l:List ((Int×Gp)×Kd)) (n k:Nat),n≤T.length→rLoop rc l n=(k,true)→n≤k∧k≤T.length
 |[],n,k,hn,h=>by simp [rLoop] at h;omega
 |z::l,n,k,hn,h=>by
  unfold rLoop at h
  split at h
  ·simp at h
  split at h
  ·rename_i n' hn'
   have h1:=ih _ _ _ hn'
   have h2:=rLoop_bd ih l n' k h1.2 h
   omega
  simp at h
theorem right_bd {T:List Nd}:∀(f a:Nat) (g:Gp) (k:Nat),m.right T f a g=(k,true)→a<k∧k≤T.length
 |0,a,g,k,h=>by simp [right] at h
 |f+1,a,g,k,h=>by
  unfold right at h
  split at h
  ·simp at h
  rename_i x hx
  have hlt:=some_lt hx
  split at h
  ·simp at h
  split at h
  ·simp at h;omega
  split at h
  ·simp at h
  split at h
  ·simp at h
  have:=rLoop_bd (T:=T) (right_bd f) _ (a+1) k hlt h
  omega
theorem right_none {T:List Nd} {f a:Nat} {g:Gp} (h:T.length≤a):m.right T f a g=(0,false):=by
 cases f with
 |zero=>rfl
 |succ f=>unfold right;rw [List.getElem?_eq_none h]
theorem right_no {T:List Nd} {f a:Nat} {g:Gp} {x:Nd} (hx:T[a]? =some x) (h:x.st≠g.ini∨(iset g.cur).length≠g.cur.length):m.right T (f+1) a g=(0,false):=by
 unfold right;rw [hx];simp only [];rw [if_pos h]
theorem right_leaf {T:List Nd} {f a:Nat} {g:Gp} {x:Nd} (hx:T[a]? =some x) (h:¬(x.st≠g.ini∨(iset g.cur).length≠g.cur.length)) (h2:x.inp= -1):m.right T (f+1) a g=(a+1,decide (x.kids.length=0)):=by
 unfold right;rw [hx];simp only [];rw [if_neg h,if_pos h2]
theorem right_out {T:List Nd} {f a:Nat} {g:Gp} {x:Nd} (hx:T[a]? =some x) (h2:x.inp≠ -1) (h3:x.inp<0∨m.inputs≤x.inp):m.right T (f+1) a g=(0,false):=by
 unfold right;rw [hx];simp only []
 by_cases hc:x.st≠g.ini∨(iset g.cur).length≠g.cur.length
 ·rw [if_pos hc]
 rw [if_neg hc,if_neg h2,if_pos h3]
theorem right_len {T:List Nd} {f a:Nat} {g:Gp} {x:Nd} (hx:T[a]? =some x) (h2:x.inp≠ -1) (h4:(m.gParts x.inp.toNat g).length≠x.kids.length):m.right T (f+1) a g=(0,false):=by
 unfold right;rw [hx];simp only []
 by_cases hc:x.st≠g.ini∨(iset g.cur).length≠g.cur.length
 ·rw [if_pos hc]
 rw [if_neg hc,if_neg h2]
 by_cases hd:x.inp<0∨m.inputs≤x.inp
 ·rw [if_pos hd]
 rw [if_neg hd,if_pos h4]
theorem right_on {T:List Nd} {f a:Nat} {g:Gp} {x:Nd} (hx:T[a]? =some x) (h:¬(x.st≠g.ini∨(iset g.cur).length≠g.cur.length)) (h2:x.inp≠ -1) (h3:¬(x.inp<0∨m.inputs≤x.inp)) (h4:¬(m.gParts x.inp.toNat g).length≠x.kids.length):
    m.right T (f+1) a g=rLoop (fun n h=>m.right T f n h) ((m.gParts x.inp.toNat g).zip x.kids) (a+1):=by
 conv=>lhs;unfold right
 rw [hx];simp only [];rw [if_neg h,if_neg h2,if_neg h3,if_neg h4]
theorem rLoop_bad {rc:Nat→Gp→Nat×Bool} {Z:List ((Int×Gp)×Kd)} {k n:Nat} {z:(Int×Gp)×Kd} (h:Z[k]? =some z) (hb:z.2.out≠z.1.1∨z.2.to≠n):rLoop rc (Z.drop k) n=(0,false):=by
 rw [List.drop_eq_getElem_cons (some_lt h)]
 have e:Z[k]'(some_lt h)=z:=by have:=h;rw [List.getElem?_eq_getElem (some_lt h)] at this;simpa using this
 rw [e]
 unfold rLoop;rw [if_pos hb]
theorem rLoop_in {rc:Nat→Gp→Nat×Bool} {Z:List ((Int×Gp)×Kd)} {k n:Nat} {z:(Int×Gp)×Kd} (h:Z[k]? =some z) (hb:¬(z.2.out≠z.1.1∨z.2.to≠n)) {n':Nat} {y:Bool} (hr:rc n z.1.2=(n',y)):rLoop rc (Z.drop k) n=if y=true then rLoop rc (Z.drop (k+1)) n' else (0,false):=by
 rw [List.drop_eq_getElem_cons (some_lt h)]
 have e:Z[k]'(some_lt h)=z:=by have:=h;rw [List.getElem?_eq_getElem (some_lt h)] at this;simpa using this
 rw [e]
 conv=>lhs;unfold rLoop
 rw [if_neg hb,hr]
 cases y<;>rfl
end Mach
theorem iins_new {x:Int}:∀{l:List Int},x∉l→(iins x l).length=l.length+1
 |[],_=>rfl
 |y::l,h=>by
  have h1:x≠y:=fun e=>h (by rw [e];exact .head _)
  have h2:x∉l:=fun e=>h (.tail _ e)
  unfold iins
  split
  ·rw [List.length_cons,iins_new h2];rfl
  rw [if_neg (fun e=>h1 e.symm)];rfl
def DifI (l:List Int) (k:Nat):Prop:=∀(i j:Nat) (x y:Int),i<k→j<i→l[i]? =some x→l[j]? =some y→x≠y
theorem difI_len {l:List Int}:∀{k:Nat},k≤l.length→DifI l k→(iset (l.take k)).length=k
 |0,_,_=>by simp [iset]
 |k+1,hk,h=>by
  have hx:l[k]? =some l[k]:=List.getElem?_eq_getElem hk
  rw [iset_succ hx,iins_new,difI_len (by omega) fun i j x y hi hj=>h i j x y (by omega) hj]
  rw [iset_mem]
  intro hm
  obtain ⟨j,hj,e⟩:=List.getElem_of_mem hm
  rw [List.length_take] at hj
  have:(l.take k)[j]? =some l[k]:=by rw [List.getElem?_eq_getElem (by rw [List.length_take];exact hj),e]
  rw [List.getElem?_take,if_pos (by omega)] at this
  exact h k j l[k] l[k] (by omega) (by omega) hx this rfl
theorem difI_yes {l:List Int} (h:DifI l l.length):¬(iset l).length≠l.length:=by
 have:=difI_len (Nat.le_refl _) h
 rw [List.take_length] at this
 omega
namespace Mach
variable {m:Mach}
end Mach
end Go.Proofs.YtjagagpcjpcjjaaGreat
namespace Go.Proofs.YtjagagpcjpcjjaaGreat
open Go.RowKit
structure Bd (n0:Nat) (W:Nat→Prop) (w:World) (bb:Nat) (an:Option Addr) (cn:Nat) (ao:Option Addr) (co:Nat) (m:Mach) (v:Value) (L:List Nd):Prop where
 c4:C4 w bb an cn ao co m
 nd:w.cell? ⟨bb,4,none⟩=some v
 fz:w.frozen? ⟨bb,4,none⟩=false
 ok:NdOk (fun k=>W k∨k<n0) (bb+1) w v L
 inW:W bb
 lt:∀k,W k→k<w.heap.size
 ge:∀k,W k→bb≤k
 old:n0≤bb
theorem Ext.cell {M M':Nat→Prop} {w w':World} {p:Addr} (e:Ext M M' w w') (hl:p.block<w.heap.size) (hm:¬M p.block):w'.cell? p=w.cell? p:=World.cell?_of_block (e.block _ hl hm)
theorem C4.kept {w w':World} {b:Nat} {an ao:Option Addr} {cn co:Nat} {m:Mach} (h:C4 w b an cn ao co m) (hb:w'.heap[b]? =w.heap[b]?):C4 w' b an cn ao co m:=
 ⟨(World.cell?_of_block (a:=⟨b,0,none⟩) hb).trans h.1,(World.cell?_of_block (a:=⟨b,1,none⟩) hb).trans h.2.1,(World.cell?_of_block (a:=⟨b,2,none⟩) hb).trans h.2.2.1,(World.cell?_of_block (a:=⟨b,3,none⟩) hb).trans h.2.2.2⟩
section
variable {n0:Nat} {W W':Nat→Prop} {w w':World} {bb:Nat} {an ao:Option Addr} {cn co:Nat} {m:Mach} {v:Value} {L:List Nd}
theorem NdOk.ownB {B:Nat} (h:NdOk W B w v L):∀k,v.ownBlock=some k→B≤k∧k<w.heap.size∧W k:=by
 obtain ⟨X,h1,h2, -⟩:=h
 exact fun k hk=>⟨(h1.lt k hk).1,(h1.lt k hk).2,h2 k hk⟩
theorem NdOk.addr {B:Nat} {a:Option Addr} {c:Nat} (h:NdOk W B w (.slice a L.length c) L) (h0:0<L.length):∃g,a=some ⟨g,0,none⟩:=by
 obtain ⟨X,h1, -,h3, -⟩:=h
 rw [←h3] at h1
 obtain ⟨g,hg, -⟩:=ow_some h1 (by omega)
 exact ⟨g,hg⟩
theorem NdOk.kidW {B g c:Nat} {l:List Nd} (h:NdOk W B w (.slice (some ⟨g,0,none⟩) l.length c) l) {i n ck:Nat} {nd:Nd} {ak:Option Addr} (hi:l[i]? =some nd) (hc:w.cell? ⟨g,i*3+2,none⟩=some (.slice ak n ck)):∀k,(Value.slice ak n ck).ownBlock=some k→W k∧k≠g:=by
 obtain ⟨X,h1,h2,h3,h4,h5⟩:=h
 obtain ⟨x,hx⟩:∃x,X[i]? =some x:=⟨_,List.getElem?_eq_getElem (by rw [h3];exact some_lt hi)⟩
 rw [←h3] at h1
 obtain ⟨-, -,c2, -, -⟩:=h1.nda_cells hx
 obtain ⟨g1,g2,g3,g4,g5⟩:=h4 i x nd hx hi
 rw [hc] at c2
 intro k hk
 have e:Value.slice ak n ck=x.kv:=by simpa using c2
 rw [e] at hk
 exact ⟨(g5 k hk).1,fun e2=>(g5 k hk).2 (by rw [e2];rfl)⟩
theorem NdOk.re {B:Nat} (h:NdOk W B w v L) (h1:∀k,k<w.heap.size→W' k→W k) (h2:∀k,k<w.heap.size→W k→W' k):NdOk W' B w v L:=h.ext (Ext.sub_only h1) h2 fun _ _ _=>rfl
theorem Bd.size (h:Bd n0 W w bb an cn ao co m v L):bb<w.heap.size:=h.lt bb h.inW
theorem Bd.ltV (h:Bd n0 W w bb an cn ao co m v L):∀k,W k∨k<n0→k<w.heap.size:=fun k hk=>hk.elim (h.lt k) fun e=>by have:=h.old;have:=h.size;omega
theorem Bd.ownW (h:Bd n0 W w bb an cn ao co m v L):∀k,v.ownBlock=some k→bb+1≤k∧k<w.heap.size∧W k:=fun k hk=>by
 obtain ⟨h1,h2,h3⟩:=h.ok.ownB k hk
 have:=h.old
 exact ⟨h1,h2,h3.elim id fun e=>by omega⟩
theorem Bd.below (h:Bd n0 W w bb an cn ao co m v L) (hb:Below w.heap.size w w'):Bd n0 W w' bb an cn ao co m v L:=
 ⟨h.c4.kept (hb.block bb h.size),(hb.cell (p:=⟨bb,4,none⟩) h.size).trans h.nd,(frozen_block (a:=⟨bb,4,none⟩) (hb.block bb h.size)).trans h.fz,h.ok.below hb h.ltV,h.inW,fun k hk=>Nat.lt_of_lt_of_le (h.lt k hk) hb.size,h.ge,h.old⟩
theorem Bd.len (h:Bd n0 W w bb an cn ao co m v L):∃a c,v= .slice a L.length c∧L.length≤c∧c≤maxLen:=h.ok.len
theorem C4.set4 {p:Addr} {u:Value} (h:C4 w bb an cn ao co m) (hp:p.block=bb→3<p.off):C4 (w.setCell p u) bb an cn ao co m:=by
 have hne:∀o,o≤3→p≠(⟨bb,o,none⟩:Addr):=fun o ho e=>by
  have:=hp (by rw [e])
  rw [e] at this
  simp at this;omega
 exact ⟨(World.cell?_setCell_other _ _ _ _ (hne 0 (by omega))).trans h.1,(World.cell?_setCell_other _ _ _ _ (hne 1 (by omega))).trans h.2.1,(World.cell?_setCell_other _ _ _ _ (hne 2 (by omega))).trans h.2.2.1,(World.cell?_setCell_other _ _ _ _ (hne 3 (by omega))).trans h.2.2.2⟩
theorem Bd.node {a':Option Addr} {c':Nat} {l':List Nd} (h:Bd n0 W w bb an cn ao co m v L) (hO:NdOk (fun k=>(W k∨k<n0)∨k=w.heap.size) (bb+1) w' (.slice a' l'.length c') l') (hg:w.grownBy w' v.ownBlock):
    ∃W1,Bd n0 W1 (w'.setCell ⟨bb,4,none⟩ (.slice a' l'.length c')) bb an cn ao co m (.slice a' l'.length c') l'∧Ext W W1 w (w'.setCell ⟨bb,4,none⟩ (.slice a' l'.length c')):=by
 have hb:w'.heap[bb]? =w.heap[bb]? :=hg.block bb h.size fun e=>by have:=(h.ownW bb e.symm).1;omega
 have hs:(w'.setCell ⟨bb,4,none⟩ (.slice a' l'.length c')).heap.size=w'.heap.size:=by simp [World.setCell]
 have hbs:=h.size
 have hes:=hg.size
 have hol:=h.old
 have he:Ext W (fun k=>W k∨k=w.heap.size) w w':=⟨hg.size,fun k hk hm=>hg.block k hk (fun e=>hm (h.ownW k e.symm).2.2),fun k hk hm=>hm.elim id (fun e=>by omega)⟩
 refine ⟨fun k=>(W k∨k=w.heap.size)∧k<(w'.setCell ⟨bb,4,none⟩ (.slice a' l'.length c')).heap.size,⟨(h.c4.kept hb).set4 (fun _=>by show 3<4;omega),?_,?_,(hO.setOther (p:=⟨bb,4,none⟩) (.inl (.inl h.inW)) (Nat.lt_succ_self bb) _).re (fun k hk e=> ?_) (fun k hk e=> ?_),⟨.inl h.inW,by rw [hs];omega⟩,fun k hk=>hk.2,fun k hk=> ?_,h.old⟩,(he.trans (Ext.setCell _ (p:=⟨bb,4,none⟩) (.inl h.inW) _)).trans (Ext.sub_only fun _ _ e=>e.1)⟩
 ·exact World.cell?_setCell_same _ _ _ ((World.cell?_of_block (a:=⟨bb,4,none⟩) hb).trans h.nd)
 ·rw [World.frozen?_setCell,frozen_block (a:=⟨bb,4,none⟩) hb];exact h.fz
 ·rcases e with e|e
  ·exact e.1.elim (fun e=> .inl (.inl e)) .inr
  exact .inl (.inr e)
 ·rcases e with (e|e)|e
  ·exact .inl ⟨.inl e,hk⟩
  ·exact .inr e
  exact .inl ⟨.inr e,hk⟩
 rcases hk.1 with e|e
 ·exact h.ge k e
 omega
theorem Bd.inp {g c:Nat} (h:Bd n0 W w bb an cn ao co m (.slice (some ⟨g,0,none⟩) L.length c) L) {i:Nat} {nd:Nd} (hi:L[i]? =some nd) {y:Int} (hy:i64 y):
    Bd n0 W (w.setCell ⟨g,i*3+1,none⟩ (.int .i64 y)) bb an cn ao co m (.slice (some ⟨g,0,none⟩) L.length c) (L.set i ⟨nd.st,y,nd.kids⟩)∧Ext W W w (w.setCell ⟨g,i*3+1,none⟩ (.int .i64 y)):=by
 have hgo:=h.ownW g rfl
 have hb:(w.setCell ⟨g,i*3+1,none⟩ (.int .i64 y)).heap[bb]? =w.heap[bb]? :=Below.heap_setCell _ _ _ _ (by show bb≠g;omega)
 have hs:(w.setCell ⟨g,i*3+1,none⟩ (.int .i64 y)).heap.size=w.heap.size:=by simp [World.setCell]
 have hl:(L.set i ⟨nd.st,y,nd.kids⟩).length=L.length:=List.length_set
 refine ⟨⟨h.c4.kept hb,(World.cell?_of_block (a:=⟨bb,4,none⟩) hb).trans h.nd,(frozen_block (a:=⟨bb,4,none⟩) hb).trans h.fz,h.ok.setInp hi hy,h.inW,fun k hk=>by rw [hs];exact h.lt k hk,h.ge,h.old⟩,Ext.setCell _ (p:=⟨g,i*3+1,none⟩) hgo.2.2 _⟩
theorem Bd.kidW {g c:Nat} (h:Bd n0 W w bb an cn ao co m (.slice (some ⟨g,0,none⟩) L.length c) L) {i ck:Nat} {nd:Nd} {ak:Option Addr} (hi:L[i]? =some nd) (hO:Ow (bb+1) (fun k=>W k∨k<n0) w 228 (.slice ak nd.kids.length ck) nd.kids) (hc:w.cell? ⟨g,i*3+2,none⟩=some (.slice ak nd.kids.length ck)):∀k,(Value.slice ak nd.kids.length ck).ownBlock=some k→W k∧k≠g:=fun k hk=>by
 obtain ⟨h1,h2⟩:=h.ok.kidW hi hc k hk
 have:=(hO.lt k hk).1
 have:=h.old
 exact ⟨h1.elim id fun e=>by omega,h2⟩
theorem Bd.kid {g c:Nat} (h:Bd n0 W w bb an cn ao co m (.slice (some ⟨g,0,none⟩) L.length c) L) {i:Nat} {nd:Nd} (hi:L[i]? =some nd) {ak a':Option Addr} {ck c':Nat} {K:List Kd} (hc:w.cell? ⟨g,i*3+2,none⟩=some (.slice ak nd.kids.length ck))
    (hO0:Ow (bb+1) (fun k=>W k∨k<n0) w 228 (.slice ak nd.kids.length ck) nd.kids) (hO:Ow (bb+1) (fun k=>(W k∨k<n0)∨k=w.heap.size) w' 228 (.slice a' K.length c') K) (hk:∀k,(Value.slice a' K.length c').ownBlock=some k→(Value.slice ak nd.kids.length ck).ownBlock=some k∨k=w.heap.size) (hgr:w.grownBy w' (Value.slice ak nd.kids.length ck).ownBlock) (hWk:∀k,(Value.slice ak nd.kids.length ck).ownBlock=some k→W k):
    ∃W1,Bd n0 W1 (w'.setCell ⟨g,i*3+2,none⟩ (.slice a' K.length c')) bb an cn ao co m (.slice (some ⟨g,0,none⟩) L.length c) (L.set i ⟨nd.st,nd.inp,K⟩)∧Ext W W1 w (w'.setCell ⟨g,i*3+2,none⟩ (.slice a' K.length c')):=by
 have hgo:=h.ownW g rfl
 have hb0:w'.heap[bb]? =w.heap[bb]? :=hgr.block bb h.size fun e=>by have:=(hO0.lt bb e.symm).1;omega
 have hb:(w'.setCell ⟨g,i*3+2,none⟩ (.slice a' K.length c')).heap[bb]? =w.heap[bb]? :=(Below.heap_setCell _ _ _ _ (by show bb≠g;omega)).trans hb0
 have hs:(w'.setCell ⟨g,i*3+2,none⟩ (.slice a' K.length c')).heap.size=w'.heap.size:=by simp [World.setCell]
 have hx1:Ext W (fun k=>W k∨k=w.heap.size) w w':=⟨hgr.size,fun k hk hm=>hgr.block k hk (fun e=>hm (hWk k e.symm)),fun k hk hm=>hm.elim id (fun e=>by omega)⟩
 have hbs:=h.size
 have hes:=hgr.size
 refine ⟨fun k=>(W k∨k=w.heap.size)∧k<(w'.setCell ⟨g,i*3+2,none⟩ (.slice a' K.length c')).heap.size,⟨h.c4.kept hb,(World.cell?_of_block (a:=⟨bb,4,none⟩) hb).trans h.nd,(frozen_block (a:=⟨bb,4,none⟩) hb).trans h.fz,?_,⟨.inl h.inW,by rw [hs];omega⟩,fun k hk=>hk.2,fun k hk=> ?_,h.old⟩,(hx1.trans (Ext.setCell _ (p:=⟨g,i*3+2,none⟩) (.inl hgo.2.2) _)).trans (Ext.sub_only fun _ _ e=>e.1)⟩
 ·refine (h.ok.pushKid hi hc hO hk hgr h.ltV).re (fun k hk e=> ?_) (fun k hk e=> ?_)
  ·rcases e with e|e
   ·exact e.1.elim (fun e=> .inl (.inl e)) .inr
   exact .inl (.inr e)
  rcases e with (e|e)|e
  ·exact .inl ⟨.inl e,hk⟩
  ·exact .inr e
  exact .inl ⟨.inr e,hk⟩
 rcases hk.1 with e|e
 ·exact h.ge k e
 omega
end
theorem Sl.notM {α:Type} [GR α] {M:Nat→Prop} {w:World} {b off c:Nat} {l:List α} (h:Sl M w (some ⟨b,off,none⟩) c l) {j:Nat} (hj:j<l.length):¬M b:=by
 obtain ⟨b',o',cs,ha, -,hm, -⟩:=h.2.2 j l[j] (by simp [hj])
 obtain ⟨rfl,rfl⟩:b=b'∧off=o':=by simpa using ha
 exact hm
def GrowC (f:Nat):Prop:=∀{n0:Nat} {W:Nat→Prop} {w:World} {bb:Nat} {an ao ai ac au:Option Addr} {cn co ci cc cu:Nat} {m:Mach} {v:Value} {L:List Nd} {g:Gp} {u:List Int},
    Bd n0 W w bb an cn ao co m v L→Ma W w an cn ao co m→Sl W w ai ci g.ini→Sl W w ac cc g.cur→Sl W w au cu u→Hid m.Ok→Hid (GOk m.next.length g)→Hid (g.cur.length<1000)→Hid (m.okS u)→Hid (L.length≤4096)→Hid (4097≤L.length+f)→
    Calls Tryz.prog 132 #[.pointer (some ⟨bb,0,none⟩),.agg #[.slice ai g.ini.length ci,.slice ac g.cur.length cc],.slice au u.length cu] w fun e w'=>∃(W':Nat→Prop) (v':Value),e= .returned (.int .i64 L.length)∧Bd n0 W' w' bb an cn ao co m v' (m.grow f L g u)∧Ext W W' w w'∧Below bb w w'
theorem tgrow_any:∀(f:Nat),GrowC f:=by
 intro f
 induction f with
 |zero=>intro n0 W w bb an ao ai ac au cn co ci cc cu m v L g u hBd hm hI hC hU ok hg hn hu hL hf;have:=hL.out;have:=hf.out;omega
 |succ f ih=>
  intro n0 W w bb an ao ai ac au cn co ci cc cu m v L g u hBd hm hI hC hU ok hg hn hu hL hf
  obtain ⟨av,cv,rfl,hv1,hv2⟩:=hBd.len
  have n1:=ok.out.n1
  have l1:=hm.next.le
  have l2:=hm.out.le
  have l3:=hI.le
  have l4:=hC.le
  have l5:=hU.le
  have hL4:=hL.out
  have hbz:=hBd.size
  have hNW:Hid (∀k,W k→k<w.heap.size):=hBd.lt
  have hba:=(Below.refl w.heap.size w).alloc (Nat.le_refl _) (.cells #[.slice ai g.ini.length ci,.slice ac g.cur.length cc] 172)
  have hB0:Below bb w (w.alloc (.cells #[.slice ai g.ini.length ci,.slice ac g.cur.length cc] 172)):=hba.mono (by omega)
  have hEw:Ext W W w (w.alloc (.cells #[.slice ai g.ini.length ci,.slice ac g.cur.length cc] 172)):=Ext.of_below hba
  have hBd0:=hBd.below hba
  have hg0:(w.alloc (.cells #[.slice ai g.ini.length ci,.slice ac g.cur.length cc] 172)).cell? ⟨w.heap.size,0,none⟩=some (.slice ai g.ini.length ci):=by simp
  have hg1:(w.alloc (.cells #[.slice ai g.ini.length ci,.slice ac g.cur.length cc] 172)).cell? ⟨w.heap.size,1,none⟩=some (.slice ac g.cur.length cc):=by simp
  have hz0:w.heap.size<(w.alloc (.cells #[.slice ai g.ini.length ci,.slice ac g.cur.length cc] 172)).heap.size:=by simp
  have HG:Hid (∀{W':Nat→Prop} {w':World},Ext W W' (w.alloc (.cells #[.slice ai g.ini.length ci,.slice ac g.cur.length cc] 172)) w'→w'.cell? ⟨w.heap.size,0,none⟩=some (.slice ai g.ini.length ci)∧w'.cell? ⟨w.heap.size,1,none⟩=some (.slice ac g.cur.length cc)):=fun e=>
   ⟨(e.cell (p:=⟨w.heap.size,0,none⟩) hz0 (fun h=>absurd (hNW.out _ h) (Nat.lt_irrefl _))).trans hg0,(e.cell (p:=⟨w.heap.size,1,none⟩) hz0 (fun h=>absurd (hNW.out _ h) (Nat.lt_irrefl _))).trans hg1⟩
  have HM:=Lib.hid (hm.below hba)
  have HI:=Lib.hid (hI.below hba)
  have HC:=Lib.hid (hC.below hba)
  have HU:=Lib.hid (hU.below hba)
  clear hBd hm hI hC hU hba hg0 hg1
  have hnd0:=hBd0.nd
  obtain ⟨GG,hG⟩:∃GG,Hid (GG=m.grow (f+1) L g u):=⟨_,rfl⟩
  obtain ⟨gw,hgw⟩:∃gw,Hid (gw=m.gWord g u):=⟨_,rfl⟩
  have hGf:Hid (4096<L.length+1→GG=L++[⟨g.ini, -1,[]⟩]):=fun h=>by rw [hG.out];exact Mach.grow_full h
  have hGl:Hid (gw=[]→GG=L++[⟨g.ini, -1,[]⟩]):=fun h=>by rw [hG.out];exact Mach.grow_leaf (by rw [←hgw.out];exact h)
  have hGo:Hid (∀a v,¬4096<L.length+1→gw=a::v→GG=m.gLoop f L.length v (m.gParts a.toNat g) (L++[⟨g.ini,a,[]⟩])):=fun a v h e=>by rw [hG.out];exact Mach.grow_on h (by rw [←hgw.out];exact e)
  have hgwok:Hid (m.okS gw):=by rw [hgw.out];exact Mach.gWord_ok hu.out
  have hcase:(u.length=0∧1<g.ini.length∧Hid (gw=(m.findW g.cur).1))∨(u.length=0∧¬1<g.ini.length∧Hid (u=gw))∨(¬u.length=0∧Hid (u=gw)):=by
   by_cases h1:u.length=0
   ·by_cases h2:1<g.ini.length
    ·exact .inl ⟨h1,h2,by unfold Hid;rw [hgw.out];unfold Mach.gWord;rw [if_pos ⟨h1,h2⟩]⟩
    exact .inr (.inl ⟨h1,h2,by unfold Hid;rw [hgw.out];unfold Mach.gWord;rw [if_neg (fun h=>h2 h.2)]⟩)
   exact .inr (.inr ⟨h1,by unfold Hid;rw [hgw.out];unfold Mach.gWord;rw [if_neg (fun h=>h1 h.1)]⟩)
  rw [←hG.out]
  clear hG hgw
  go_enter Tryz.func132,Tryz.ntmps132
  go_upto_region 1 with (fail)
  generalize w.alloc (.cells #[.slice ai g.ini.length ci,.slice ac g.cur.length cc] 172)=w0 at*
  have hE0:Ext W W w0 w0:=Ext.refl W w0
  go_upto_region 2 with (fail)
  refine wp_region_T (fun w'=>w'.cell? ⟨bb,4,none⟩=some (.slice av L.length cv)∧w'.cell? ⟨w.heap.size,0,none⟩=some (.slice ai g.ini.length ci)) [0,1,2,3,4,5,6,8,11,12] (by kernel_rfl) ?_
  have hbd:=(Below.refl w0.heap.size w0).drew
  have hBd1:=hBd0.below hbd
  have hE1:=hE0.trans (Ext.of_below (M:=W) hbd)
  have hB1:=hB0.trans (hbd.mono (by omega))
  have hS1:=And.intro hBd1.nd (HG.out hE1).1
  have hz1:w.heap.size<w0.drew.heap.size:=hz0
  clear hBd0 hE0 hB0 hbd hnd0 hz0
  generalize w0.drew=w1 at*
  have HCl:=Lib.hid (clone_own (HI.out.ext hE1) (by have:=hn.out;have:=hg.out.le;omega))
  refine skT_on [0,1,2,3,4,5,6] ?_
  repeat (refine skT_take (v:= ?_) rfl ?_ ?_;rotate_left;(focus (intro w' hSw;(try dsimp only at hSw);go_simp;try with_reducible rfl));try simp only [Act.put,List.setIfInBounds_toArray,List.set_cons_zero,List.set_cons_succ])
  refine skT_off ?_
  refine wpAnyT_one (i:=7) (by kernel_rfl) rfl rfl (fun K hK=> ?_)
  go_simp
  refine (HCl.out).mono ?_
  rintro e w2 ⟨a2,c2,I2,rfl,hI2,hO2,hb2⟩
  have hBd2:=hBd1.below hb2
  have hE2:=hE1.trans (Ext.of_below (M:=W) hb2)
  have hB2:=hB1.trans (hb2.mono (by omega))
  have hS2:=And.intro hBd2.nd (HG.out hE2).1
  have hz2:w.heap.size<w2.heap.size:=by have:=hb2.size;omega
  refine hK _ _ (fun _=>hS2) ?_
  have hI2s:Sl (fun k=>W k∨k<n0) w2 a2 c2 I2:=(hO2.fresh (Nat.le_refl _)).anti (fun k _ hm=>hBd1.ltV k hm)
  clear hK K hBd1 hE1 hB1 hb2 hS1 hz1 HCl hO2
  refine skT_on [8] ?_
  repeat (refine skT_take (v:= ?_) rfl ?_ ?_;rotate_left;(focus (intro w' hSw;(try dsimp only at hSw);go_simp;try with_reducible rfl));try simp only [Act.put,List.setIfInBounds_toArray,List.set_cons_zero,List.set_cons_succ])
  refine skT_off ?_
  refine wpAnyT_one (i:=9) (by kernel_rfl) rfl rfl (fun K hK=> ?_)
  go_simp
  have hba:=(Below.refl w2.heap.size w2).alloc (Nat.le_refl _) (.cells #[.slice a2 I2.length c2,.int .i64 (-1),.slice none 0 0] 179)
  have hBd3:=hBd2.below hba
  have hE3:=hE2.trans (Ext.of_below (M:=W) hba)
  have hB3:=hB2.trans (hba.mono (by omega))
  have hS3:=And.intro hBd3.nd (HG.out hE3).1
  have hI3s:=hI2s.below hba
  refine hK _ _ (fun _=>hS3) ?_
  clear hK K hBd2 hE2 hB2 hS2 hba hI2s
  refine wpAnyT_one (i:=10) (by kernel_rfl) rfl rfl (fun K hK=> ?_)
  refine wp_push_nd (B:=bb+1) (W:=fun k=>W k∨k<n0) (v:= .slice av L.length cv) (l:=L) (g:=w2.heap.size) (c:=1) (st:=I2) (y:= -1) (ar:=a2) (cr:=c2) rfl Tryz.underlying117 info_node rfl rfl hBd3.ok (by simp [go_sem]) (by simp [go_sem]) (by simp [go_sem]) hI3s (by unfold i64;omega) (by omega) (by have:=hBd3.size;omega) hBd3.ltV ?_
  intro a4 c4 L4 w4 hL4e hN4 hE4 hgr4
  have hgb0:=hgr4.block w.heap.size (by simp;omega) (fun e=>by exact absurd (hNW.out _ (hBd3.ownW _ e.symm).2.2) (by omega))
  have hgbb:=hgr4.block bb hBd3.size (fun e=>by have:=(hBd3.ownW _ e.symm).1;omega)
  have hS4:=And.intro ((World.cell?_of_block (a:=⟨bb,4,none⟩) hgbb).trans hS3.1) ((World.cell?_of_block (a:=⟨w.heap.size,0,none⟩) hgb0).trans hS3.2)
  have hB4:=hB3.grown hgr4 (by have:=hBd3.size;omega) (fun k hk=>by have:=(hBd3.ownW k hk).1;omega)
  have hfz4:w4.frozen? ⟨bb,4,none⟩=false:=(frozen_block (a:=⟨bb,4,none⟩) hgbb).trans hBd3.fz
  refine hK _ _ (fun _=>hS4) ?_
  obtain ⟨W5,hBd5,hE5⟩:=hBd3.node hN4 hgr4
  replace hE5:=hE3.trans hE5
  have hB5:=hB4.setCell (p:=⟨bb,4,none⟩) (Nat.le_refl _) (.slice a4 L4.length c4)
  clear hK K hBd3 hE3 hB3 hS3 hI3s hN4 hE4 hgr4 hgb0 hgbb hB4 hz2
  refine skT_on [11,12] ?_
  repeat (refine skT_take (v:= ?_) rfl ?_ ?_;rotate_left;(focus (intro w' hSw;(try dsimp only at hSw);go_simp;try with_reducible rfl));try simp only [Act.put,List.setIfInBounds_toArray,List.set_cons_zero,List.set_cons_succ])
  refine skT_off ?_
  refine wpAnyT_late (i:=13) (by kernel_rfl) (by kernel_rfl) rfl rfl (fun K hK=> ?_)
  go_simp
  refine hK _ _ ?_
  clear hK K
  refine wpAnyT_done (by kernel_rfl) ?_ _
  clear hS4 hfz4
  generalize w4.setCell ⟨bb,4,none⟩ (.slice a4 L4.length c4)=w5 at*
  have hnd5:=hBd5.nd
  have hL4n:Hid (L4=L++[⟨g.ini, -1,[]⟩]):=by unfold Hid;rw [hL4e.out,hI2.out]
  have hL4l:Hid (L4.length=L.length+1):=by unfold Hid;rw [hL4n.out];simp
  clear hL4e hI2
  by_cases hfull:4096<L4.length
  ·have hR:Hid (L4=GG):=by unfold Hid;rw [hGf.out (by have:=hL4l.out;omega)];exact hL4n.out
   clear hcase
   go_wp2
   go_ret
   exact ⟨W5,_,rfl,by rw [←hR.out];exact hBd5,hEw.trans hE5,hB5⟩
  have hgs:=HG.out hE5
  have hgs0:=hgs.1
  have hLlt:L.length<4096:=by have:=hL4l.out;omega
  rcases hcase with ⟨hu0,hi1,hue⟩|⟨hu0,hi1,hue⟩|⟨hu0,hue⟩
  rotate_left 1
  ·have hR : Hid (L4 = GG) := by
     unfold Hid;rw [hGl.out (by rw [←hue.out];exact List.eq_nil_of_length_eq_zero hu0)];exact hL4n.out
   go_wp2
   go_ret
   exact ⟨W5,_,rfl,by rw [←hR.out];exact hBd5,hEw.trans hE5,hB5⟩
  rotate_left 1
  focus
   go_upto_region 6 with (fail)
   clear hgs hgs0 hnd5
   refine wp_region_T (fun w'=>C4 w' bb an cn ao co m∧w'.cell? ⟨w.heap.size,1,none⟩=some (.slice ac g.cur.length cc)) [0,1,2,3,4,5,7,8,9,10] (by kernel_rfl) ?_
   have hbd:=(Below.refl w5.heap.size w5).drew
   have hBd6:=hBd5.below hbd
   have hE6:=hE5.trans (Ext.of_below (M:=W5) hbd)
   have hB6:=hB5.trans (hbd.mono (by have:=hBd5.size;omega))
   have hS6:=And.intro hBd6.c4 (HG.out hE6).2
   clear hBd5 hE5 hB5 hbd
   generalize w5.drew=w6 at*
   have HFd:=Lib.hid (find_any (HM.out.ext hE6) (HC.out.ext hE6) ok hg.out.st hn)
   refine skT_on [0,1,2,3,4,5] ?_
   repeat (refine skT_take (v:= ?_) rfl ?_ ?_;rotate_left;(focus (intro w' hSw;(try dsimp only at hSw);go_simp;try with_reducible rfl));try simp only [Act.put,List.setIfInBounds_toArray,List.set_cons_zero,List.set_cons_succ])
   refine skT_off ?_
   refine wpAnyT_one (i:=6) (by kernel_rfl) rfl rfl (fun K hK=> ?_)
   go_simp
   refine (HFd.out).mono ?_
   rintro e w7 ⟨aU,cU,U,y,rfl,hfw,hUs,hb7⟩
   have hBd7:=hBd6.below hb7
   have hE7:=hE6.trans (Ext.of_below (M:=W5) hb7)
   have hB7:=hB6.trans (hb7.mono (by have:=hBd6.size;omega))
   have hS7:=And.intro hBd7.c4 (HG.out hE7).2
   have HUs:=Lib.hid (hUs.anti (M':=W5) (fun k _ hm=>hBd6.lt k hm))
   have hUe:Hid (U=gw):=by unfold Hid;rw [hue.out,hfw.out]
   refine hK _ _ (fun _=>hS7) ?_
   clear hK K HFd hBd6 hE6 hB6 hS6 hb7 hUs hfw hue hu0 hi1
   refine skT_on [7,8,9,10] ?_
   repeat (refine skT_take (v:= ?_) rfl ?_ ?_;rotate_left;(focus (intro w' hSw;(try dsimp only at hSw);go_simp;try with_reducible rfl));try simp only [Act.put,List.setIfInBounds_toArray,List.set_cons_zero,List.set_cons_succ])
   refine skT_off ?_
   refine wpAnyT_done (by kernel_rfl) ?_ _
   clear hS7
   by_cases hU0:U.length=0
   ·have hR:Hid (L4=GG):=by unfold Hid;rw [hGl.out (by rw [←hUe.out];exact List.eq_nil_of_length_eq_zero hU0)];exact hL4n.out
    go_wp2
    go_ret
    exact ⟨W5,_,rfl,by rw [←hR.out];exact hBd7,hEw.trans hE7,hB7⟩
   have hUl:0<U.length:=by omega
   clear hU0
  rotate_left 1
  focus
   have hBd7:=hBd5
   have hE7:=hE5
   have hB7:=hB5
   have HUs:=Lib.hid (HU.out.ext hE5)
   clear hBd5 hE5 hB5 hnd5 hgs hgs0
   obtain ⟨U,rfl⟩:∃U:List Int,U=u:=⟨_,rfl⟩
   obtain ⟨aU,rfl⟩:∃aU:Option Addr,aU=au:=⟨_,rfl⟩
   obtain ⟨cU,rfl⟩:∃cU:Nat,cU=cu:=⟨_,rfl⟩
   obtain ⟨w7,rfl⟩:∃w7:World,w7=w5:=⟨_,rfl⟩
   have hUe:Hid (U=gw):=hue
   have hUl:0<U.length:=by omega
   clear hue
  all_goals
   have hUok:Hid (m.okS U):=by rw [hUe.out];exact hgwok.out
   obtain ⟨u1,hu1⟩:∃u1,Hid (u1=U.drop 1):=⟨_,rfl⟩
   have hUc:=HUs.out.1
   have hUc2:=HUs.out.2.1
   obtain ⟨bU,oU,x0,rfl,hxc,hx0,hx64⟩:=HUs.out.at_int (j:=0) hUl
   rw [Nat.add_zero] at hxc
   have hxr:=hUok.out x0 (List.mem_of_getElem? hx0.out)
   obtain ⟨x,rfl⟩:=Int.eq_ofNat_of_zero_le hxr.1
   have hxi:x<m.inputs.toNat:=by omega
   have hUx:Hid (U=(x:Int)::u1):=by
    unfold Hid;rw [hu1.out]
    cases hq:U with
    |nil=>rw [hq] at hUl;simp at hUl
    |cons y ys=>have:=hx0.out;rw [hq] at this;simp at this;rw [this];rfl
   have hu1ok:Hid (m.okS u1):=fun y hy=>hUok.out y (by rw [hUx.out];exact List.mem_cons_of_mem _ hy)
   have hu1l:Hid (U.length-1=u1.length):=by unfold Hid;rw [hUx.out];simp
   obtain ⟨gN,rfl⟩:=hBd7.ok.addr (by have:=hL4l.out;omega)
   have hnd:Hid (L4[L.length]? =some ⟨g.ini, -1,[]⟩):=by unfold Hid;rw [hL4n.out];simp
   obtain ⟨akn,ckn, -,hi7,hfzN, -,hgN,hgN2,hWgN⟩:=hBd7.ok.at hnd.out
   have hxcw:=hxc
   have hnd7:=hBd7.nd
   have hlt4:L.length<L4.length:=by have:=hL4l.out;omega
   go_upto_region 9 with (fail)
   refine wp_region_T (fun w'=>w'.cell? ⟨bb,4,none⟩=some (.slice (some ⟨gN,0,none⟩) L4.length c4)∧w'.cell? ⟨bU,oU,none⟩=some (.int .i64 (x:Int))) [0,1,2,3,4,5,6,7,8,9] (by kernel_rfl) ?_
   have hbd:=(Below.refl w7.heap.size w7).drew
   have hBd8:=hBd7.below hbd
   have hE8:=hE7.trans (Ext.of_below (M:=W5) hbd)
   have hB8:=hB7.trans (hbd.mono (by have:=hBd7.size;omega))
   have HU8:=Lib.hid (HUs.out.below hbd)
   have hS8:=And.intro hBd8.nd ((hbd.cell (p:=⟨bU,oU,none⟩) (lt_of_cell hxc)).trans hxc)
   have hi8:w7.drew.cell? ⟨gN,L.length*3+1,none⟩=some (.int .i64 (-1)):=hi7
   have hfz8:w7.drew.frozen? ⟨gN,L.length*3+1,none⟩=false:=hfzN _
   clear hBd7 hE7 hB7 hbd hxc hi7 hfzN HUs hxcw hnd7 hgN2
   generalize w7.drew=w8 at*
   refine skT_on [0,1,2,3,4,5,6,7,8,9] ?_
   repeat (refine skT_take (v:= ?_) rfl ?_ ?_;rotate_left;(focus (intro w' hSw;(try dsimp only at hSw);go_simp;try with_reducible rfl));try simp only [Act.put,List.setIfInBounds_toArray,List.set_cons_zero,List.set_cons_succ])
   refine skT_off ?_
   refine wpAnyT_late (i:=10) (by kernel_rfl) (by kernel_rfl) rfl rfl (fun K hK=> ?_)
   go_simp
   refine hK _ _ ?_
   clear hK K
   refine wpAnyT_done (by kernel_rfl) ?_ _
   obtain ⟨hBd9,hEs⟩:=hBd8.inp hnd.out hx64.out
   have hE9:=hE8.trans hEs
   have hB9:=hB8.setCell (p:=⟨gN,L.length*3+1,none⟩) (by show bb≤gN;omega) (.int .i64 (x:Int))
   have HU9:=Lib.hid (HU8.out.ext hEs)
   clear hBd8 hE8 hB8 hS8 hi8 hfz8 HU8 hEs
   generalize w8.setCell ⟨gN,L.length*3+1,none⟩ (.int .i64 (x:Int))=w9 at*
   have hxc:Hid (∀{W':Nat→Prop} {w':World},Ext W5 W' w9 w'→w'.cell? ⟨bU,oU,none⟩=some (.int .i64 (x:Int))):=fun e=>by
    obtain ⟨b',o',x',hb',hc',hx', -⟩:=(HU9.out.ext e).at_int (j:=0) hUl
    obtain ⟨rfl,rfl⟩:bU=b'∧oU=o':=by simpa using hb'
    rw [hx0.out] at hx'
    obtain rfl:(x:Int)=x':=by simpa using hx'.out
    simpa using hc'
   have hgs9:=And.intro (HG.out hE9).1 (And.intro (HG.out hE9).2 (hxc.out (Ext.refl _ _)))
   go_upto_region 10 with (fail)
   refine wp_region_T (fun w'=>w'.cell? ⟨w.heap.size,0,none⟩=some (.slice ai g.ini.length ci)∧w'.cell? ⟨w.heap.size,1,none⟩=some (.slice ac g.cur.length cc)∧w'.cell? ⟨bU,oU,none⟩=some (.int .i64 (x:Int))) [0,1,2,3,4,6,7,8,9,10] (by kernel_rfl) ?_
   have hbd:=(Below.refl w9.heap.size w9).drew
   have hBd10:=hBd9.below hbd
   have hE10:=hE9.trans (Ext.of_below (M:=W5) hbd)
   have hE910:=Ext.of_below (M:=W5) hbd
   have hB10:=hB9.trans (hbd.mono (by have:=hBd9.size;omega))
   have hS10:=And.intro (HG.out hE10).1 (And.intro (HG.out hE10).2 (hxc.out hE910))
   clear hBd9 hE9 hB9 hbd hgs9
   generalize w9.drew=w10 at*
   have HSp:=Lib.hid (split_any hBd10.c4 hBd10.size (HM.out.ext hE10) (HI.out.ext hE10) (HC.out.ext hE10) ok hg.out.le hg.out.pos hn hg.out.st x hxi)
   refine skT_on [0,1,2,3,4] ?_
   repeat (refine skT_take (v:= ?_) rfl ?_ ?_;rotate_left;(focus (intro w' hSw;(try dsimp only at hSw);go_simp;try with_reducible rfl));try simp only [Act.put,List.setIfInBounds_toArray,List.set_cons_zero,List.set_cons_succ])
   refine skT_off ?_
   refine wpAnyT_one (i:=5) (by kernel_rfl) rfl rfl (fun K hK=> ?_)
   go_simp
   refine (HSp.out).mono ?_
   rintro e w11 ⟨aX,aG,cX,cG,X,G,rfl,hX,hGe,hXs,hGs,hb11⟩
   have hBd11:=hBd10.below hb11
   have hE11:=hE10.trans (Ext.of_below (M:=W5) hb11)
   have hE911:=hE910.trans (Ext.of_below (M:=W5) hb11)
   have hB11:=hB10.trans (hb11.mono (by have:=hBd10.size;omega))
   have hS11:=And.intro (HG.out hE11).1 (And.intro (HG.out hE11).2 (hxc.out hE911))
   refine hK _ _ (fun _=>hS11) ?_
   have HX:=Lib.hid (hXs.anti (M':=W5) (fun k _ hm=>hBd10.lt k hm))
   have HGs:=Lib.hid (hGs.anti (M':=W5) (fun k _ hm=>hBd10.lt k hm))
   have HU11:=Lib.hid (HU9.out.ext hE911)
   clear hK K HSp hBd10 hE10 hE910 hB10 hS10 hb11 hXs hGs
   refine skT_on [6,7,8,9,10] ?_
   repeat (refine skT_take (v:= ?_) rfl ?_ ?_;rotate_left;(focus (intro w' hSw;(try dsimp only at hSw);go_simp;try with_reducible rfl));try simp only [Act.put,List.setIfInBounds_toArray,List.set_cons_zero,List.set_cons_succ])
   refine skT_off ?_
   refine wpAnyT_done (by kernel_rfl) ?_ _
   clear hS11 hE911 hxc HU9
   obtain ⟨L7,hL7⟩:∃L7:List Nd,Hid (L7=L++[(⟨g.ini,(x:Int),[]⟩:Nd)]):=⟨_,rfl⟩
   have hL7e:Hid (L4.set L.length ⟨g.ini,(x:Int),[]⟩=L7):=by unfold Hid;rw [hL7.out,hL4n.out];simp
   have hL7l:Hid (L4.length=L7.length):=by rw [←hL7e.out];exact List.length_set.symm
   replace hBd11:Bd n0 W5 w11 bb an cn ao co m (.slice (some ⟨gN,0,none⟩) L7.length c4) L7:=by rw [←hL7l.out,←hL7e.out];exact hBd11
   obtain ⟨P,hP⟩:∃P,Hid (P=m.gParts x g):=⟨_,rfl⟩
   have hPl:Hid (P.length=X.length):=by unfold Hid;rw [hP.out,Mach.gParts_len,hX.out]
   have hXn:Hid (X.length<1000):=by
    unfold Hid;rw [hX.out];unfold Mach.outsI
    exact Nat.lt_of_le_of_lt (iset_len _) (by rw [List.length_map];exact hn.out)
   have hXG:Hid (G.length=X.length):=by unfold Hid;rw [hGe.out,hX.out];unfold Mach.grps;simp
   have hXle:=HX.out.le
   have hXlt:=hXn.out
   have hEl:Ext W5 W5 w11 w11:=Ext.refl _ _
   have hBl:Below bb w11 w11:=Below.refl _ _
   have hK0:Hid (L7=m.gLoop f L.length u1 (P.take 0) L7):=rfl
   have hL7n:Hid (L7.length=L.length+1):=by unfold Hid;rw [hL7.out];simp
   have HBd:=Lib.hid hBd11
   clear hlt4
   go_wp2
   go_loopw [82] (fun i wr=>∃(k:Nat) (W':Nat→Prop) (av:Option Addr) (cv:Nat) (Kn:List Nd),k≤X.length∧i= .int .i64 k∧Hid (Kn=m.gLoop f L.length u1 (P.take k) L7)∧Bd n0 W' wr bb an cn ao co m (.slice av Kn.length cv) Kn∧Ext W5 W' w11 wr∧Below bb w11 wr) (fun i _=>X.length-(intOf i).toNat)
   case atStart=>exact ⟨0,W5,some ⟨gN,0,none⟩,c4,L7,by omega,rfl,hK0,HBd.out,hEl,hBl⟩
   case round=>
    clear hK0 hBd11 hEl hBl HBd
    obtain ⟨k,W6,a6,c6,Kn,hk,rfl,hKe,hBd,hEl,hBl⟩:=hrel
    obtain ⟨wo,rfl⟩:∃wo:World,wo=wr:=⟨_,rfl⟩
    have hKb:Hid (Kn.length≤4097):=by
     unfold Hid;rw [hKe.out]
     exact Mach.gLoop_top (Mach.grow_top f) _ _ (by have:=hL7n.out;omega)
    have hKg:Hid (L.length+1≤Kn.length):=by
     unfold Hid;rw [hKe.out]
     have:=(Mach.gLoop_pre (t:=L.length) (u:=u1) (Mach.grow_pre (m:=m) f) (P.take k) L7).1
     have:=hL7n.out
     omega
    by_cases hlt:k<X.length
    ·by_cases hbr:4096<Kn.length
     ·have hR : Hid (Kn = GG) := by
        unfold Hid
        rw [hGo.out _ _ (by omega) (hUe.out.symm.trans hUx.out),←hL7.out,show ((x:Int)).toNat=x from rfl,←hP.out,Mach.gLoop_stop (k:=k) L7 (by rw [←hKe.out];exact hbr)]
        exact hKe.out
      have hnd6:=hBd.nd
      obtain ⟨bX,oX,o0,rfl,hoc, -, -⟩:=(HX.out.ext hEl).at_int hlt
      go_wp2
      go_ret
      exact ⟨W6,_,rfl,by rw [←hR.out];exact hBd,hEw.trans (hE11.trans hEl),hB11.trans hBl⟩
     have hKG:k<G.length:=by have:=hXG.out;omega
     obtain ⟨bG,oG,a1,c1,a2',c2',q,hGa,hq0,hq1,hqe,hQI,hQC⟩:=(HGs.out.ext hEl).at_gp hKG
     obtain ⟨bX,oX,o0,rfl,hoc,hXk,ho64⟩:=(HX.out.ext hEl).at_int hlt
     have hom:o0∈m.outsI x g.cur:=by rw [←hX.out];exact List.mem_of_getElem? hXk.out
     have hqg:Hid (q=m.grp x g.ini g.cur o0):=by
      have h1:=hqe.out
      rw [hGe.out] at h1
      unfold Mach.grps at h1
      rw [←hX.out,List.getElem?_map,hXk.out] at h1
      unfold Hid
      simpa using h1.symm
     have hPk:Hid (P[k]? =some (o0,q)):=by
      unfold Hid;rw [hP.out,hqg.out]
      exact Mach.gParts_at (by rw [←hX.out];exact hXk.out)
     have hqok:Hid (GOk m.next.length q):=by rw [hqg.out];exact Mach.grp_ok ok.out hxi hg.out hom
     have hqn:Hid (q.cur.length<1000):=by
      unfold Hid;rw [hqg.out]
      exact Nat.lt_of_le_of_lt Mach.grp_le hn.out
     subst hGa
     have hqb:=lt_of_cell hq0
     have hqW:¬W6 bG:=(HGs.out.ext hEl).notM hKG
     have hU1i:(1:Int)≤((U.length:Nat):Int):=by omega
     have hE11l:=hE11.trans hEl
     obtain ⟨b2,hb2⟩:∃b2,b2=dA (some ⟨bU,oU,none⟩) cU 1:=⟨_,rfl⟩
     have hdb:(if cU=1 then some (⟨bU,oU,none⟩:Addr) else some ⟨bU,oU+1,none⟩)=b2:=by rw [hb2];simp [dA,Addr.add]
     have HUd:=Lib.hid ((HU11.out.ext hEl).drop (i:=1) (by omega))
     rw [←hb2,←hu1.out] at HUd
     clear hb2 hom hqe
     have hnd6:=hBd.nd
     go_upto_region 15 with (fail)
     refine wp_region_T (fun w'=>w'.cell? ⟨bG,oG+k*2,none⟩=some (.slice a1 q.ini.length c1)∧w'.cell? ⟨bG,oG+k*2+1,none⟩=some (.slice a2' q.cur.length c2')) [0,1,2,3,4,5,6,8] (by kernel_rfl) ?_
     have hbd:=(Below.refl wo.heap.size wo).drew
     have hBd12:=hBd.below hbd
     have hE12:=hEl.trans (Ext.of_below (M:=W6) hbd)
     have hB12:=hBl.trans (hbd.mono (by have:=hBd.size;omega))
     have hS12:=And.intro ((hbd.cell (p:=⟨bG,oG+k*2,none⟩) hqb).trans hq0) ((hbd.cell (p:=⟨bG,oG+k*2+1,none⟩) hqb).trans hq1)
     have hE1112:=hE11.trans hE12
     have HIc0:=(ih hBd12 (HM.out.ext hE1112) (hQI.below hbd) (hQC.below hbd) (HUd.out.below hbd) ok hqok hqn hu1ok (Lib.hid (by omega)) (Lib.hid (by have:=hKg.out;have:=hf.out;omega)))
     rw [←hu1l.out] at HIc0
     have HIc:=Lib.hid HIc0
     clear HIc0
     clear hBd hEl hBl hbd hnd6 hq0 hq1 hoc hE11l HUd hQI hQC
     generalize wo.drew=w12 at*
     refine skT_on [0,1,2,3,4,5,6] ?_
     repeat (refine skT_take (v:= ?_) rfl ?_ ?_;rotate_left;(focus (intro w' hSw;(try dsimp only at hSw);go_simp;try with_reducible rfl));try simp only [Act.put,List.setIfInBounds_toArray,List.set_cons_zero,List.set_cons_succ])
     refine skT_off ?_
     refine wpAnyT_one (i:=7) (by kernel_rfl) rfl rfl (fun K hK=> ?_)
     go_simp
     refine (HIc.out).mono ?_
     rintro e w14 ⟨W14,v14,rfl,hBd14,hE14,hB14⟩
     have hE14s:=hE12.trans hE14
     have hB14s:=hB12.trans hB14
     have hS14:=And.intro ((hE14.cell (p:=⟨bG,oG+k*2,none⟩) (lt_of_cell hS12.1) hqW).trans hS12.1) ((hE14.cell (p:=⟨bG,oG+k*2+1,none⟩) (lt_of_cell hS12.1) hqW).trans hS12.2)
     refine hK _ _ (fun _=>hS14) ?_
     obtain ⟨K2,hK2⟩:∃K2:List Nd,Hid (K2=m.grow f Kn q u1):=⟨_,rfl⟩
     rw [←hK2.out] at hBd14
     have hpre:Hid (Kn.length≤K2.length∧∀i,i<Kn.length→K2[i]? =Kn[i]?):=by rw [hK2.out];exact Mach.grow_pre f Kn q u1
     obtain ⟨y,hyK,hys,hyi,hyk⟩:=Mach.gLoop_at (f:=f) (u:=u1) (P.take k) L7 _ (show L7[L.length]? =some ⟨g.ini,(x:Int),[]⟩ by rw [hL7.out];simp)
     rw [←hKe.out] at hyK
     have hyK2:Hid (K2[L.length]? =some y):=(hpre.out.2 L.length hKg.out).trans hyK
     have hykl:Hid (y.kids.length<1000):=by
      have h1:([]:List Kd).length+(P.take k).length≤k:=by simp;omega
      exact Nat.lt_of_le_of_lt (Nat.le_trans hyk h1) (by omega)
     have hstp:Hid (m.gLoop f L.length u1 (P.take (k+1)) L7=K2.set L.length ⟨y.st,y.inp,y.kids++[⟨o0,Kn.length⟩]⟩):=by
      unfold Hid
      rw [Mach.gLoop_step L7 hPk.out,←hKe.out]
      unfold gKid
      rw [if_neg hbr]
      show addKid L.length ⟨o0,Kn.length⟩ (m.grow f Kn q u1)=_
      rw [←hK2.out,addKid_some hyK2.out]
     have hKi64:Hid (i64 (Kn.length:Int)):=by unfold Hid i64;have:=hKb.out;omega
     clear hyK hys hyi hyk hK hS12 hE12 hB12 hBd12 HIc hpre hK2 hqok hqn hPk hqg hE14 hB14 hE1112
     obtain ⟨a14,c14,rfl, -, -⟩:=hBd14.len
     have hlt2:L.length<K2.length:=some_lt hyK2.out
     obtain ⟨gM,rfl⟩:=hBd14.ok.addr (by omega)
     obtain ⟨akk,ckk,hk14, -,hfz14,hOk14,hgM,hgM2,hWgM⟩:=hBd14.ok.at hyK2.out
     have hWk:=hBd14.kidW hyK2.out hOk14 hk14
     refine skT_on [8] ?_
     repeat (refine skT_take (v:= ?_) rfl ?_ ?_;rotate_left;(focus (intro w' hSw;(try dsimp only at hSw);go_simp;try with_reducible rfl));try simp only [Act.put,List.setIfInBounds_toArray,List.set_cons_zero,List.set_cons_succ])
     refine skT_off ?_
     refine wpAnyT_done (by kernel_rfl) ?_ _
     clear hS14
     have hnd14:=hBd14.nd
     go_upto_region 16 with (fail)
     refine wp_region_T (fun w'=>w'.cell? ⟨bb,4,none⟩=some (.slice (some ⟨gM,0,none⟩) K2.length c14)∧w'.cell? ⟨gM,L.length*3+2,none⟩=some (.slice akk y.kids.length ckk)) [0,1,2,3,4,5,6,7,8,9,10,11,12,13,14,15,18,19] (by kernel_rfl) ?_
     have hbd:=(Below.refl w14.heap.size w14).drew
     have hBd15:=hBd14.below hbd
     have hE15:=hE14s.trans (Ext.of_below (M:=W14) hbd)
     have hB15:=hB14s.trans (hbd.mono (by have:=hBd14.size;omega))
     have hk15:=(hbd.cell (p:=⟨gM,L.length*3+2,none⟩) hgM2).trans hk14
     have hO15:=hOk14.below hbd
     have hfz15:w14.drew.frozen? ⟨gM,L.length*3+2,none⟩=false:=hfz14 _
     have hS15:=And.intro hBd15.nd hk15
     have hgM3:gM<w14.drew.heap.size:=hgM2
     clear hBd14 hE14s hB14s hbd hk14 hOk14 hfz14 hgM2 hnd14
     generalize w14.drew=w15 at*
     refine skT_on [0,1,2,3,4,5,6,7,8,9,10,11,12,13,14,15] ?_
     repeat (refine skT_take (v:= ?_) rfl ?_ ?_;rotate_left;(focus (intro w' hSw;(try dsimp only at hSw);go_simp;try with_reducible rfl));try simp only [Act.put,List.setIfInBounds_toArray,List.set_cons_zero,List.set_cons_succ])
     refine skT_off ?_
     refine wpAnyT_one (i:=16) (by kernel_rfl) rfl rfl (fun K hK=> ?_)
     go_simp
     have hba:=(Below.refl w15.heap.size w15).alloc (Nat.le_refl _) (.cells #[.int .i64 o0,.int .i64 (Kn.length:Int)] 228)
     have hBd16:=hBd15.below hba
     have hE16:=hE15.trans (Ext.of_below (M:=W14) hba)
     have hB16:=hB15.trans (hba.mono (by have:=hBd15.size;omega))
     have hk16:=(hba.cell (p:=⟨gM,L.length*3+2,none⟩) hgM3).trans hk15
     have hO16:=hO15.below hba
     have hfz16:=(frozen_block (a:=⟨gM,L.length*3+2,none⟩) (hba.block _ hgM3)).trans hfz15
     have hS16:=And.intro hBd16.nd hk16
     refine hK _ _ (fun _=>hS16) ?_
     clear hK K hBd15 hE15 hB15 hk15 hO15 hfz15 hS15 hba
     refine wpAnyT_one (i:=17) (by kernel_rfl) rfl rfl (fun K hK=> ?_)
     refine wp_push_kd (B:=bb+1) (W:=fun k=>W14 k∨k<n0) (v:= .slice akk y.kids.length ckk) (l:=y.kids) (g:=w15.heap.size) (c:=1) (q:=⟨o0,(Kn.length:Int)⟩) rfl Tryz.underlying177 info_kid rfl rfl rfl hO16 (fun k hk=> .inl (hWk k hk).1) (by simp [go_sem]) (by simp [go_sem]) ⟨ho64.out,hKi64.out⟩ (by have:=hykl.out;omega) (by have:=hBd16.size;omega) ?_
     intro a17 c17 l17 w17 hl17 hO17 hk17 hgr17
     have hgb:=hgr17.block bb hBd16.size (fun e=>by have:=(hO16.lt _ e.symm).1;omega)
     have hgM4:gM<(w15.alloc (.cells #[.int .i64 o0,.int .i64 (Kn.length:Int)] 228)).heap.size:=by simp;omega
     have hgg:=hgr17.block gM hgM4 (fun e=>(hWk gM e.symm).2 rfl)
     have hS17:=And.intro ((World.cell?_of_block (a:=⟨bb,4,none⟩) hgb).trans hS16.1) ((World.cell?_of_block (a:=⟨gM,L.length*3+2,none⟩) hgg).trans hS16.2)
     have hfz17:=(frozen_block (a:=⟨gM,L.length*3+2,none⟩) hgg).trans hfz16
     have hB17:=hB16.grown hgr17 (by have:=hBd16.size;omega) (fun k hk=>by have:=(hO16.lt k hk).1;omega)
     refine hK _ _ (fun _=>hS17) ?_
     obtain ⟨W18,hBd18,hE18⟩:=hBd16.kid hyK2.out hk16 hO16 hO17 (fun k hk=>(hk17.out k hk).1) hgr17 (fun k hk=>(hWk k hk).1)
     replace hE18:=hE16.trans hE18
     have hB18:=hB17.setCell (p:=⟨gM,L.length*3+2,none⟩) (by show bb≤gM;omega) (.slice a17 l17.length c17)
     clear hK K hBd16 hE16 hB16 hk16 hO16 hfz16 hS16 hO17 hk17 hgr17 hgb hgg hB17
     refine skT_on [18,19] ?_
     repeat (refine skT_take (v:= ?_) rfl ?_ ?_;rotate_left;(focus (intro w' hSw;(try dsimp only at hSw);go_simp;try with_reducible rfl));try simp only [Act.put,List.setIfInBounds_toArray,List.set_cons_zero,List.set_cons_succ])
     refine skT_off ?_
     refine wpAnyT_late (i:=20) (by kernel_rfl) (by kernel_rfl) rfl rfl (fun K hK=> ?_)
     go_simp
     refine hK _ _ ?_
     clear hK K
     refine wpAnyT_done (by kernel_rfl) ?_ _
     clear hS17 hfz17
     generalize w17.setCell ⟨gM,L.length*3+2,none⟩ (.slice a17 l17.length c17)=w18 at*
     obtain ⟨K3,hK3⟩:∃K3:List Nd,Hid (K3=K2.set L.length ⟨y.st,y.inp,l17⟩):=⟨_,rfl⟩
     have hK3l:Hid (K2.length=K3.length):=by unfold Hid;rw [hK3.out];exact List.length_set.symm
     have hK3e:Hid (K3=m.gLoop f L.length u1 (P.take (k+1)) L7):=by unfold Hid;rw [hstp.out,hK3.out,hl17.out]
     have HBd:=Lib.hid (show Bd n0 W18 w18 bb an cn ao co m (.slice (some ⟨gM,0,none⟩) K3.length c14) K3 by rw [←hK3l.out,hK3.out];exact hBd18)
     clear hBd18
     go_wp2
     go_roundw
     case rel=>exact ⟨k+1,W18,some ⟨gM,0,none⟩,c14,K3,by omega,by go_num,hK3e,HBd.out,hE18,hB18⟩
     case measure=>simp [intOf];omega
    have hR : Hid (Kn = GG) := by
     unfold Hid
     rw [hGo.out _ _ (by omega) (hUe.out.symm.trans hUx.out),←hL7.out,show ((x:Int)).toNat=x from rfl,←hP.out,hKe.out]
     congr 1
     exact List.take_of_length_le (by have:=hPl.out;omega)
    go_wp2
    go_ret
    exact ⟨W6,_,rfl,by rw [←hR.out];exact hBd,hEw.trans (hE11.trans hEl),hB11.trans hBl⟩
theorem beq0 (n:Nat):((n:Int)==0)=decide (n=0):=by rw [Bool.eq_iff_iff];simp
def RightR (m:Mach) (T:List Nd) (f at':Nat) (g:Gp) (w:World) (e:Ending) (w':World):Prop:=∃(n:Nat) (y:Bool),e= .returned (.tuple #[.int .i64 n,.bool y])∧Hid (m.right T f at' g=(n,y))∧Below w.heap.size w w'
def RightC (f:Nat):Prop:=∀{M MT M1 M2:Nat→Prop} {w:World} {bb:Nat} {an ao aT ai ac:Option Addr} {cn co cT ci cc:Nat} {m:Mach} {T:List Nd} {at':Nat} {g:Gp},
    C4 w bb an cn ao co m→bb<w.heap.size→Ma M w an cn ao co m→Sl MT w aT cT T→Sl M1 w ai ci g.ini→Sl M2 w ac cc g.cur→Hid m.Ok→Hid (GOk m.next.length g)→Hid (g.cur.length<1000)→Hid (T.length<1000000000)→Hid (at'≤T.length)→Hid (T.length+1≤at'+f)→
    Calls Tryz.prog 181 #[.pointer (some ⟨bb,0,none⟩),.agg #[.slice aT T.length cT],.int .i64 at',.agg #[.slice ai g.ini.length ci,.slice ac g.cur.length cc]] w (RightR m T f at' g w)
theorem right_any:∀(f:Nat),RightC f:=by
 intro f
 induction f with
 |zero=>intro M MT M1 M2 w bb an ao aT ai ac cn co cT ci cc m T at' g hb hbb hm hT hI hC ok hg hn hTn haT hf;have:=haT.out;have:=hf.out;omega
 |succ f ih=>
  intro M MT M1 M2 w bb an ao aT ai ac cn co cT ci cc m T at' g hb hbb hm hT hI hC ok hg hn hTn haT hf
  have n1:=ok.out.n1
  have l1:=hm.next.le
  have l2:=hm.out.le
  have l3:=hI.le
  have l4:=hC.le
  have l5:=hT.le
  have haT1:=haT.out
  have hTn1:=hTn.out
  have hB0:=((Below.refl w.heap.size w).alloc (Nat.le_refl _) (.cells #[.slice aT T.length cT] 119)).alloc (by simp) (.cells #[.slice ai g.ini.length ci,.slice ac g.cur.length cc] 172)
  have ht0:((w.alloc (.cells #[.slice aT T.length cT] 119)).alloc (.cells #[.slice ai g.ini.length ci,.slice ac g.cur.length cc] 172)).cell? ⟨w.heap.size,0,none⟩=some (.slice aT T.length cT):=by
   rw [World.cell?_of_block (w:=w.alloc (.cells #[.slice aT T.length cT] 119)) (Below.heap_alloc _ _ _ (by simp))];simp
  have hg0:((w.alloc (.cells #[.slice aT T.length cT] 119)).alloc (.cells #[.slice ai g.ini.length ci,.slice ac g.cur.length cc] 172)).cell? ⟨w.heap.size+1,0,none⟩=some (.slice ai g.ini.length ci):=by
   have:=World.cell?_of_block (a:=⟨(w.alloc (.cells #[.slice aT T.length cT] 119)).heap.size,0,none⟩) (w:=(w.alloc (.cells #[.slice aT T.length cT] 119)).alloc (.cells #[.slice ai g.ini.length ci,.slice ac g.cur.length cc] 172)) rfl
   simp
  have hg1:((w.alloc (.cells #[.slice aT T.length cT] 119)).alloc (.cells #[.slice ai g.ini.length ci,.slice ac g.cur.length cc] 172)).cell? ⟨w.heap.size+1,1,none⟩=some (.slice ac g.cur.length cc):=by
   simp
  have hz0:((w.alloc (.cells #[.slice aT T.length cT] 119)).alloc (.cells #[.slice ai g.ini.length ci,.slice ac g.cur.length cc] 172)).heap.size=w.heap.size+2:=by simp
  have HB:=Lib.hid hb
  have HM:=Lib.hid hm
  have HT:=Lib.hid hT
  have HI:=Lib.hid hI
  have HC:=Lib.hid hC
  clear hb hm hT hI hC
  go_enter Tryz.func181,Tryz.ntmps181
  go_upto_region 1 with (fail)
  generalize (w.alloc (.cells #[.slice aT T.length cT] 119)).alloc (.cells #[.slice ai g.ini.length ci,.slice ac g.cur.length cc] 172)=w0 at*
  have HS:Hid (∀w',Below w0.heap.size w0 w'→w'.cell? ⟨w.heap.size,0,none⟩=some (.slice aT T.length cT)∧w'.cell? ⟨w.heap.size+1,0,none⟩=some (.slice ai g.ini.length ci)∧w'.cell? ⟨w.heap.size+1,1,none⟩=some (.slice ac g.cur.length cc)):=fun w' h=>
   ⟨(h.cell (p:=⟨w.heap.size,0,none⟩) (by show w.heap.size<_;omega)).trans ht0,(h.cell (p:=⟨w.heap.size+1,0,none⟩) (by show w.heap.size+1<_;omega)).trans hg0,(h.cell (p:=⟨w.heap.size+1,1,none⟩) (by show w.heap.size+1<_;omega)).trans hg1⟩
  clear ht0 hg0 hg1
  by_cases hA:at'<T.length
  ·obtain ⟨bT,oT,a1,c1,a2,c2,x,haTe,hx0,hx1,hx2,hxe,hxs,hxk,hxi⟩:=HT.out.at_nd hA
   have hxb:=lt_of_cell hx0
   subst haTe
   have HX:Hid (∀w',Below w.heap.size w w'→w'.cell? ⟨bT,oT+at'*3,none⟩=some (.slice a1 x.st.length c1)∧w'.cell? ⟨bT,oT+at'*3+1,none⟩=some (.int .i64 x.inp)∧w'.cell? ⟨bT,oT+at'*3+2,none⟩=some (.slice a2 x.kids.length c2)):=fun w' h=>
    ⟨(h.cell (p:=⟨bT,oT+at'*3,none⟩) hxb).trans hx0,(h.cell (p:=⟨bT,oT+at'*3+1,none⟩) hxb).trans hx1,(h.cell (p:=⟨bT,oT+at'*3+2,none⟩) hxb).trans hx2⟩
   have HXS:=Lib.hid hxs
   have HXK:=Lib.hid hxk
   have hxsl:=hxs.le
   have hxkl:=hxk.le
   clear hx0 hx1 hx2 hxs hxk
   have hge:¬((at':Int)≥(T.length:Int)):=by omega
   refine wp_region_L (fun w'=>w'.cell? ⟨w.heap.size,0,none⟩=some (.slice (some ⟨bT,oT,none⟩) T.length cT)∧(w'.cell? ⟨w.heap.size+1,0,none⟩=some (.slice ai g.ini.length ci)∧w'.cell? ⟨w.heap.size+1,1,none⟩=some (.slice ac g.cur.length cc))∧w'.cell? ⟨bT,oT+at'*3,none⟩=some (.slice a1 x.st.length c1)) [0,1,2,3,4,5,6,7,8,9,10,11,12,13,15,16,17,18,19,21,22,23,24,25] (by kernel_rfl) ?_
   have hbd:=(Below.refl w0.heap.size w0).drew
   have hW1:=hbd
   have hB1:=hB0.trans (hbd.mono (by omega))
   have hS1:=And.intro (HS.out _ hW1).1 (And.intro (HS.out _ hW1).2 (HX.out _ hB1).1)
   clear hbd
   have hz1:w0.heap.size≤w0.drew.heap.size:=Nat.le_refl _
   have HEq:=Lib.hid (sleq_any (HXS.out.below hB1) (HI.out.below hB1))
   generalize w0.drew=w1 at*
   refine skL_on [0,1,2,3,4,5,6,7,8,9,10,11,12,13] ?_
   repeat (refine skL_take (v:= ?_) rfl ?_ ?_;rotate_left;(focus (intro w' hSw;(try dsimp only at hSw);go_simp;try with_reducible rfl));try simp only [Act.put,List.setIfInBounds_toArray,List.set_cons_zero,List.set_cons_succ])
   refine skL_off ?_
   refine wpAnyL_one (i:=14) (by kernel_rfl) rfl rfl (fun K hK=> ?_)
   go_simp
   refine (HEq.out).mono ?_
   rintro e w2 ⟨rfl,hb2⟩
   have hW2:=hW1.trans (hb2.mono hz1)
   have hB2:=hB1.trans (hb2.mono (by omega))
   have hS2:=And.intro (HS.out _ hW2).1 (And.intro (HS.out _ hW2).2 (HX.out _ hB2).1)
   have hz2:w0.heap.size≤w2.heap.size:=by have:=hb2.size;omega
   refine hK _ _ (fun _=>hS2) ?_
   clear hK K HEq hW1 hB1 hS1 hz1 hb2
   by_cases hEq:x.st=g.ini
   ·have hdq:decide (x.st=g.ini)=true:=decide_eq_true hEq
    rw [hdq]
    have HE:=Lib.hid hEq
    clear hEq hdq
    have HDi:=Lib.hid (distinct_any (HC.out.below hB2) (Lib.hid hg.out.pos) (Lib.hid (by have:=hn.out;omega)))
    refine skL_on [15,16,17,18,19,21,22,23] ?_
    repeat (refine skL_take (v:= ?_) rfl ?_ ?_;rotate_left;(focus (intro w' hSw;(try dsimp only at hSw);go_simp;try with_reducible rfl));try simp only [Act.put,List.setIfInBounds_toArray,List.set_cons_zero,List.set_cons_succ])
    refine skL_off ?_
    refine wpAnyL_one (i:=20) (by kernel_rfl) rfl rfl (fun K hK=> ?_)
    go_simp
    refine (HDi.out).mono ?_
    rintro e w3 ⟨rfl,hb3⟩
    have hW3:=hW2.trans (hb3.mono hz2)
    have hB3:=hB2.trans (hb3.mono (by omega))
    have hS3:=And.intro (HS.out _ hW3).1 (And.intro (HS.out _ hW3).2 (HX.out _ hB3).1)
    have hz3:w0.heap.size≤w3.heap.size:=by have:=hb3.size;omega
    refine hK _ _ (fun _=>hS3) ?_
    clear hK K HDi hW2 hB2 hS2 hz2 hb3
    by_cases hdi:(iset g.cur).length=g.cur.length
    ·have hno:Hid (¬(x.st≠g.ini∨(iset g.cur).length≠g.cur.length)):=fun h=>h.elim (fun e=>e HE.out) (fun e=>e hdi)
     have hne:(((iset g.cur).length:Int) !=(g.cur.length:Int))=false:=by simp [hdi]
     clear hdi
     refine skL_on [24,25] ?_
     repeat (refine skL_take (v:= ?_) rfl ?_ ?_;rotate_left;(focus (intro w' hSw;(try dsimp only at hSw);go_simp;try with_reducible rfl));try simp only [Act.put,List.setIfInBounds_toArray,List.set_cons_zero,List.set_cons_succ])
     refine skL_off ?_
     refine wpAnyL_done (by kernel_rfl) ?_ _
     clear hS3
     have hS3:=(HS.out _ hW3).1
     have hX3:=HX.out _ hB3
     have hX30:=hX3.1
     have hX31:=hX3.2.1
     have hX32:=hX3.2.2
     clear hX3
     go_upto_region 4 with (fail)
     have hba:=(Below.refl w3.heap.size w3).alloc (Nat.le_refl _) (.cells #[.slice a1 x.st.length c1,.int .i64 x.inp,.slice a2 x.kids.length c2] 179)
     have hW4:=hW3.trans (hba.mono hz3)
     have hB4:=hB3.trans (hba.mono (by omega))
     have hx40:(w3.alloc (.cells #[.slice a1 x.st.length c1,.int .i64 x.inp,.slice a2 x.kids.length c2] 179)).cell? ⟨w3.heap.size,1,none⟩=some (.int .i64 x.inp):=by simp
     have hx41:(w3.alloc (.cells #[.slice a1 x.st.length c1,.int .i64 x.inp,.slice a2 x.kids.length c2] 179)).cell? ⟨w3.heap.size,2,none⟩=some (.slice a2 x.kids.length c2):=by simp
     have hz4:w3.heap.size<(w3.alloc (.cells #[.slice a1 x.st.length c1,.int .i64 x.inp,.slice a2 x.kids.length c2] 179)).heap.size:=by simp
     clear hS3 hX30 hX31 hX32 hba hW3 hB3
     generalize w3.alloc (.cells #[.slice a1 x.st.length c1,.int .i64 x.inp,.slice a2 x.kids.length c2] 179)=w4 at*
     have hwr:IntKind.i64.wrap ((at':Int)+1)=(at':Int)+1:=IntWalk.i64_in _ (by omega)
     by_cases h1:x.inp= -1
     ·have hR:Hid (m.right T (f+1) at' g=(at'+1,decide (x.kids.length=0))):=Mach.right_leaf hxe.out hno.out h1
      have h1b:(x.inp== -1)=true:=by simp [h1]
      clear h1
      have hk0:=beq0 x.kids.length
      have hq4:∀n,(w4.drewN n).cell? ⟨w3.heap.size,2,none⟩=some (.slice a2 x.kids.length c2):=fun n=>by simpa using hx41
      go_upto_region 5 with (fail)
      refine wp_quiet_fast (by kernel_rfl) (by kernel_rfl) ?_
      repeat (first|go_big_quiet_step (fail)|quiet_step (fail))
      refine wpQuiet_nil ?_
      intro _ hw'
      obtain ⟨nq,hw''⟩:=hw'
      subst hw''
      have hBq:=bl_drewN hB4 nq
      clear hq4 hx40 hx41 hB4 hW4
      generalize w4.drewN nq=w5 at*
      go_wp2
      exact bodyPost_ret (v:= .tuple #[.int .i64 ((at'+1:Nat):Int),.bool (decide (x.kids.length=0))]) (by simp [results,Tryz.results181,go_sem]) rfl ⟨at'+1,decide (x.kids.length=0),rfl,hR,hBq⟩
     have h1b:(x.inp== -1)=false:=by simp [h1]
     have H1:=Lib.hid h1
     clear h1
     have hb4:=HB.out.below hB4 hbb
     have hb40:=hb4.1
     by_cases h2:x.inp<0∨m.inputs≤x.inp
     ·have hR:Hid (m.right T (f+1) at' g=(0,false)):=Mach.right_out hxe.out H1.out h2
      have hq40:∀n,(w4.drewN n).cell? ⟨w3.heap.size,1,none⟩=some (.int .i64 x.inp):=fun n=>by simpa using hx40
      have hqb0:∀n,(w4.drewN n).cell? ⟨bb,0,none⟩=some (.int .i64 m.inputs):=fun n=>by simpa using hb40
      by_cases h2a:x.inp<0
      ·clear h2
       go_upto_region 6 with (fail)
       refine wp_quiet_fast (by kernel_rfl) (by kernel_rfl) ?_
       repeat (first|go_big_quiet_step (fail)|quiet_step (fail))
       refine wpQuiet_nil ?_
       intro _ hw'
       obtain ⟨nq,hw''⟩:=hw'
       subst hw''
       have hBq:=bl_drewN hB4 nq
       clear hq40 hqb0 hx40 hx41 hB4 hW4 hb4 hb40
       generalize w4.drewN nq=w5 at*
       go_wp2
       exact bodyPost_ret (v:= .tuple #[.int .i64 0,.bool false]) (by simp [results,Tryz.results181,go_sem]) rfl ⟨0,false,rfl,hR,hBq⟩
      have h2b:x.inp≥m.inputs:=h2.elim (fun e=>absurd e h2a) id
      clear h2
      go_upto_region 6 with (fail)
      refine wp_quiet_fast (by kernel_rfl) (by kernel_rfl) ?_
      repeat (first|go_big_quiet_step (fail)|quiet_step (fail))
      refine wpQuiet_nil ?_
      intro _ hw'
      obtain ⟨nq,hw''⟩:=hw'
      subst hw''
      have hBq:=bl_drewN hB4 nq
      clear hq40 hqb0 hx40 hx41 hB4 hW4 hb4 hb40
      generalize w4.drewN nq=w5 at*
      go_wp2
      exact bodyPost_ret (v:= .tuple #[.int .i64 0,.bool false]) (by simp [results,Tryz.results181,go_sem]) rfl ⟨0,false,rfl,hR,hBq⟩
     have h2a:¬(x.inp<0):=fun e=>h2 (.inl e)
     have h2b:¬(x.inp≥m.inputs):=fun e=>h2 (.inr e)
     obtain ⟨xn,hxn⟩:=Int.eq_ofNat_of_zero_le (show 0≤x.inp by omega)
     have hxi:xn<m.inputs.toNat:=by omega
     have hq40:∀n,(w4.drewN n).cell? ⟨w3.heap.size,1,none⟩=some (.int .i64 x.inp):=fun n=>by simpa using hx40
     have hqb0:∀n,(w4.drewN n).cell? ⟨bb,0,none⟩=some (.int .i64 m.inputs):=fun n=>by simpa using hb40
     have hno2:Hid (¬(x.inp<0∨m.inputs≤x.inp)):=h2
     have HX:=Lib.hid hxn
     clear h2 hxn
     go_upto_region 6 with (fail)
     refine wp_quiet_fast (by kernel_rfl) (by kernel_rfl) ?_
     repeat (first|go_big_quiet_step (fail)|quiet_step (fail))
     refine wpQuiet_nil ?_
     intro _ hw'
     obtain ⟨nq,hw''⟩:=hw'
     subst hw''
     have hBd:=below_drewN w4.heap.size w4 nq
     have hB5:=hB4.trans (hBd.mono (by omega))
     have hW5:=hW4.trans (hBd.mono (by omega))
     have hx50:=(hBd.cell (p:=⟨w3.heap.size,1,none⟩) hz4).trans hx40
     have hx51:=(hBd.cell (p:=⟨w3.heap.size,2,none⟩) hz4).trans hx41
     have hz5:w3.heap.size<(w4.drewN nq).heap.size:=by have:=hBd.size;omega
     clear hq40 hqb0 hx40 hx41 hB4 hW4 hb4 hb40 hBd hz4 h2a h2b
     generalize w4.drewN nq=w5 at*
     have hS5:=HS.out _ hW5
     have hS51:=hS5.2.1
     have hS52:=hS5.2.2
     rw [HX.out] at hx50
     have HSp:=Lib.hid (split_any (HB.out.below hB5 hbb) (by have:=hB5.size;omega) (HM.out.below hB5) (HI.out.below hB5) (HC.out.below hB5) ok hg.out.le hg.out.pos hn hg.out.st xn hxi)
     clear hS5
     go_upto_region 8 with (fail)
     go_wp2_with fail
     refine (HSp.out).mono ?_
     rintro e w6 ⟨aX,aG,cX,cG,X,G,rfl,hX,hGe,hXs,hGs,hb6⟩
     go_upto_region 9 with (fail)
     have hB6:=hB5.trans (hb6.mono (by have:=hB5.size;omega))
     have hW6:=hW5.trans (hb6.mono (by have:=hW5.size;omega))
     have hx61:=(hb6.cell (p:=⟨w3.heap.size,2,none⟩) hz5).trans hx51
     have hS60:=(HS.out _ hW6).1
     have hz6:w3.heap.size<w6.heap.size:=by have:=hb6.size;omega
     have HXs:=Lib.hid hXs
     have HGs:=Lib.hid hGs
     have hsz5:w.heap.size≤w5.heap.size:=hB5.size
     clear hx50 hx51 hS51 hS52 hB5 hW5 HSp hXs hGs hb6 hz5
     obtain ⟨P,hP⟩:∃P,Hid (P=m.gParts xn g):=⟨_,rfl⟩
     have hPl:Hid (P.length=X.length):=by unfold Hid;rw [hP.out,Mach.gParts_len,hX.out]
     have hXG:Hid (G.length=X.length):=by unfold Hid;rw [hGe.out,hX.out];unfold Mach.grps;simp
     have hPx:Hid (m.gParts x.inp.toNat g=P):=by unfold Hid;rw [hP.out,HX.out];rfl
     have hXle:=HXs.out.le
     by_cases h4:X.length=x.kids.length
     ·have h4b:((X.length:Int) !=(x.kids.length:Int))=false:=by simp [h4]
      have H4:=Lib.hid h4
      clear h4
      have hR:Hid (m.right T (f+1) at' g=Mach.rLoop (fun n h=>m.right T f n h) ((P.zip x.kids).drop 0) (at'+1)):=by
       unfold Hid
       rw [Mach.right_on hxe.out hno.out H1.out hno2.out (by rw [hPx.out,hPl.out];exact fun e=>e H4.out),hPx.out];rfl
      have hat1:Hid (at'<at'+1∧at'+1≤T.length):=⟨by omega,hA⟩
      have hBl:Below w6.heap.size w6 w6:=Below.refl _ _
      have hxi0:Hid (((at':Int)+1)=((at'+1:Nat):Int)):=by unfold Hid;omega
      have hsz6:w.heap.size≤w6.heap.size:=by have:=hB6.size;omega
      have hszW:w0.heap.size≤w6.heap.size:=hW6.size
      have hS61:=Lib.hid hS60
      go_upto_region 12 with (fail)
      go_wp2
      go_loopw [90,13] (fun i v wr=>∃(k n:Nat),k≤x.kids.length∧i= .int .i64 k∧v= .int .i64 n∧Hid (m.right T (f+1) at' g=Mach.rLoop (fun n h=>m.right T f n h) ((P.zip x.kids).drop k) n)∧Hid (at'<n∧n≤T.length)∧Below w6.heap.size w6 wr) (fun i _ _=>x.kids.length-(intOf i).toNat)
      case atStart=>exact ⟨0,at'+1,by omega,rfl,by rw [hxi0.out],hR,hat1,hBl⟩
      case round=>
       clear hR hat1 hBl hx61 hS60
       obtain ⟨k,n,hk,rfl,rfl,hR,hnT,hBl⟩:=hrel
       obtain ⟨wo,rfl⟩:∃wo:World,wo=wr:=⟨_,rfl⟩
       have hBo:=hB6.trans (hBl.mono hsz6)
       have hWo:=hW6.trans (hBl.mono hszW)
       by_cases hlt:k<x.kids.length
       ·have hkX:k<X.length:=by have:=H4.out;omega
        have hkG:k<G.length:=by have:=hXG.out;omega
        obtain ⟨bk,okk,kd,rfl,hk0,hk1,hkd,hki⟩:=(HXK.out.below hBo).at_kd hlt
        obtain ⟨bX,oX,o0,rfl,hoc,hXk, -⟩:=(HXs.out.below hBl).at_int hkX
        obtain ⟨bG,oG,a1',c1',a2',c2',q,rfl,hq0,hq1,hqe,hQI,hQC⟩:=(HGs.out.below hBl).at_gp hkG
        have hom:o0∈m.outsI xn g.cur:=by rw [←hX.out];exact List.mem_of_getElem? hXk.out
        have hqg:Hid (q=m.grp xn g.ini g.cur o0):=by
         have h1:=hqe.out
         rw [hGe.out] at h1
         unfold Mach.grps at h1
         rw [←hX.out,List.getElem?_map,hXk.out] at h1
         unfold Hid
         simpa using h1.symm
        have hPk:Hid (P[k]? =some (o0,q)):=by
         unfold Hid;rw [hP.out,hqg.out]
         exact Mach.gParts_at (by rw [←hX.out];exact hXk.out)
        have hZk:Hid ((P.zip x.kids)[k]? =some ((o0,q),kd)):=List.getElem?_zip_eq_some.2 ⟨hPk.out,hkd.out⟩
        have hqok:Hid (GOk m.next.length q):=by rw [hqg.out];exact Mach.grp_ok ok.out hxi hg.out hom
        have hqn:Hid (q.cur.length<1000):=by
         unfold Hid;rw [hqg.out]
         exact Nat.lt_of_le_of_lt Mach.grp_le hn.out
        have hqb:=lt_of_cell hq0
        have hXb:=lt_of_cell hoc
        clear hom hqe
        go_upto_region 15 with (fail)
        have hba:=(Below.refl wo.heap.size wo).alloc (Nat.le_refl _) (.cells #[.int .i64 kd.out,.int .i64 kd.to] 228)
        have hBa:=hBl.trans (hba.mono hBl.size)
        have ho8:=(hba.cell (p:=⟨bX,oX+k,none⟩) hXb).trans hoc
        have hq08:=(hba.cell (p:=⟨bG,oG+k*2,none⟩) hqb).trans hq0
        have hq18:=(hba.cell (p:=⟨bG,oG+k*2+1,none⟩) hqb).trans hq1
        have hQI8:=Lib.hid (hQI.below hba)
        have hQC8:=Lib.hid (hQC.below hba)
        have hd0:(wo.alloc (.cells #[.int .i64 kd.out,.int .i64 kd.to] 228)).cell? ⟨wo.heap.size,0,none⟩=some (.int .i64 kd.out):=by simp
        have hd1:(wo.alloc (.cells #[.int .i64 kd.out,.int .i64 kd.to] 228)).cell? ⟨wo.heap.size,1,none⟩=some (.int .i64 kd.to):=by simp
        have hqb8:bG<(wo.alloc (.cells #[.int .i64 kd.out,.int .i64 kd.to] 228)).heap.size:=by have:=hba.size;omega
        clear hk0 hk1 hoc hq0 hq1 hQI hQC hba hBl hBo hWo hqb hXb
        generalize wo.alloc (.cells #[.int .i64 kd.out,.int .i64 kd.to] 228)=w8 at*
        have hd0n:∀i,(w8.drewN i).cell? ⟨wo.heap.size,0,none⟩=some (.int .i64 kd.out):=fun i=>by simpa using hd0
        have hd1n:∀i,(w8.drewN i).cell? ⟨wo.heap.size,1,none⟩=some (.int .i64 kd.to):=fun i=>by simpa using hd1
        have hocn:∀i,(w8.drewN i).cell? ⟨bX,oX+k,none⟩=some (.int .i64 o0):=fun i=>by simpa using ho8
        by_cases hb1:kd.out=o0
        ·have hb1b:(kd.out !=o0)=false:=by simp [hb1]
         by_cases hb2:kd.to=(n:Int)
         ·have hb2b:(kd.to !=(n:Int))=false:=by simp [hb2]
          have hgood:Hid (¬(kd.out≠o0∨kd.to≠(n:Int))):=fun e=>e.elim (fun e=>e hb1) (fun e=>e hb2)
          clear hb1 hb2
          refine wp_quiet_fast (by kernel_rfl) (by kernel_rfl) ?_
          repeat (first|go_big_quiet_step (fail)|quiet_step (fail))
          refine wpQuiet_nil ?_
          intro _ hw'
          obtain ⟨nq,hw''⟩:=hw'
          subst hw''
          have hdr:=below_drewN w8.heap.size w8 nq
          have hB9:=hBa.trans (hdr.mono (by have:=hBa.size;omega))
          have hq09:=(hdr.cell (p:=⟨bG,oG+k*2,none⟩) hqb8).trans hq08
          have hq19:=(hdr.cell (p:=⟨bG,oG+k*2+1,none⟩) hqb8).trans hq18
          have hQI9:=Lib.hid (hQI8.out.below hdr)
          have hQC9:=Lib.hid (hQC8.out.below hdr)
          have hqb9:bG<(w8.drewN nq).heap.size:=by have:=hdr.size;omega
          clear hd0n hd1n hocn hd0 hd1 ho8 hq08 hq18 hQI8 hQC8 hdr hBa hqb8
          generalize w8.drewN nq=w9 at*
          go_upto_region 17 with (fail)
          refine wp_region_T (fun w'=>w'.cell? ⟨w.heap.size,0,none⟩=some (.slice (some ⟨bT,oT,none⟩) T.length cT)∧w'.cell? ⟨bG,oG+k*2,none⟩=some (.slice a1' q.ini.length c1')∧w'.cell? ⟨bG,oG+k*2+1,none⟩=some (.slice a2' q.cur.length c2')) [0,1,2,3,4,5,6,8,9,10,11,12] (by kernel_rfl) ?_
          have hdr:=(Below.refl w9.heap.size w9).drew
          have hB10:=hB9.trans (hdr.mono hB9.size)
          have hBw10:=hB6.trans (hB10.mono hsz6)
          have hWw10:=hW6.trans (hB10.mono hszW)
          have hS10:=And.intro (HS.out _ hWw10).1 (And.intro ((hdr.cell (p:=⟨bG,oG+k*2,none⟩) hqb9).trans hq09) ((hdr.cell (p:=⟨bG,oG+k*2+1,none⟩) hqb9).trans hq19))
          have hqb10:bG<w9.drew.heap.size:=hqb9
          have HIh:=Lib.hid (ih (HB.out.below hBw10 hbb) (by have:=hBw10.size;omega) (HM.out.below hBw10) (HT.out.below hBw10) (hQI9.out.below hdr) (hQC9.out.below hdr) ok hqok hqn hTn (at':=n) (Lib.hid hnT.out.2) (Lib.hid (by have:=hnT.out.1;have:=hf.out;omega)))
          clear hB9 hdr hq09 hq19 hQI9 hQC9 hqb9
          generalize w9.drew=w10 at*
          refine skT_on [0,1,2,3,4,5,6] ?_
          repeat (refine skT_take (v:= ?_) rfl ?_ ?_;rotate_left;(focus (intro w' hSw;(try dsimp only at hSw);go_simp;try with_reducible rfl));try simp only [Act.put,List.setIfInBounds_toArray,List.set_cons_zero,List.set_cons_succ])
          refine skT_off ?_
          refine wpAnyT_one (i:=7) (by kernel_rfl) rfl rfl (fun K hK=> ?_)
          go_simp
          refine (HIh.out).mono ?_
          rintro e w11 ⟨n',y,rfl,hr,hb11⟩
          have hB11:=hB10.trans (hb11.mono hB10.size)
          have hBw11:=hB6.trans (hB11.mono hsz6)
          have hWw11:=hW6.trans (hB11.mono hszW)
          have hS11:=And.intro (HS.out _ hWw11).1 (And.intro ((hb11.cell (p:=⟨bG,oG+k*2,none⟩) hqb10).trans hS10.2.1) ((hb11.cell (p:=⟨bG,oG+k*2+1,none⟩) hqb10).trans hS10.2.2))
          refine hK _ _ (fun _=>hS11) ?_
          clear hK K HIh hB10 hBw10 hWw10 hS10 hb11
          refine skT_on [8,9,10,11,12] ?_
          repeat (refine skT_take (v:= ?_) rfl ?_ ?_;rotate_left;(focus (intro w' hSw;(try dsimp only at hSw);go_simp;try with_reducible rfl));try simp only [Act.put,List.setIfInBounds_toArray,List.set_cons_zero,List.set_cons_succ])
          refine skT_off ?_
          refine wpAnyT_done (by kernel_rfl) ?_ _
          clear hS11
          have hstep:=Lib.hid (Mach.rLoop_in (rc:=fun n h=>m.right T f n h) hZk.out hgood.out hr.out)
          cases y with
          |true=>
           have hR2:Hid (m.right T (f+1) at' g=Mach.rLoop (fun n h=>m.right T f n h) ((P.zip x.kids).drop (k+1)) n'):=by
            unfold Hid;rw [hR.out,hstep.out,if_pos rfl]
           have hnT2:Hid (at'<n'∧n'≤T.length):=by
            have h1:=Mach.right_bd _ _ _ _ hr.out
            have h2:=hnT.out
            exact ⟨by omega,h1.2⟩
           clear hr
           go_wp2
           go_roundw
           case rel=>exact ⟨k+1,n',by omega,by go_num,rfl,hR2,hnT2,hB11⟩
           case measure=>simp [intOf];omega
          |false=>
           have hR2:Hid (m.right T (f+1) at' g=(0,false)):=by
            unfold Hid;rw [hR.out,hstep.out,if_neg (by simp)]
           clear hr
           go_wp2
           exact bodyPost_ret (v:= .tuple #[.int .i64 0,.bool false]) (by simp [results,Tryz.results181,go_sem]) rfl ⟨0,false,rfl,hR2,hBw11⟩
         have hb2b:(kd.to !=(n:Int))=true:=by simp [hb2]
         have hR2:Hid (m.right T (f+1) at' g=(0,false)):=by unfold Hid;rw [hR.out];exact Mach.rLoop_bad hZk.out (.inr hb2)
         clear hb2 hb1
         refine wp_quiet_fast (by kernel_rfl) (by kernel_rfl) ?_
         repeat (first|go_big_quiet_step (fail)|quiet_step (fail))
         refine wpQuiet_nil ?_
         intro _ hw'
         obtain ⟨nq,hw''⟩:=hw'
         subst hw''
         have hB9:=hB6.trans ((hBa.trans ((below_drewN w8.heap.size w8 nq).mono (by have:=hBa.size;omega))).mono hsz6)
         clear hd0n hd1n hocn hd0 hd1 ho8 hq08 hq18
         generalize w8.drewN nq=w9 at*
         go_wp2
         exact bodyPost_ret (v:= .tuple #[.int .i64 0,.bool false]) (by simp [results,Tryz.results181,go_sem]) rfl ⟨0,false,rfl,hR2,hB9⟩
        have hb1b:(kd.out !=o0)=true:=by simp [hb1]
        have hR2:Hid (m.right T (f+1) at' g=(0,false)):=by unfold Hid;rw [hR.out];exact Mach.rLoop_bad hZk.out (.inl hb1)
        clear hb1
        refine wp_quiet_fast (by kernel_rfl) (by kernel_rfl) ?_
        repeat (first|go_big_quiet_step (fail)|quiet_step (fail))
        refine wpQuiet_nil ?_
        intro _ hw'
        obtain ⟨nq,hw''⟩:=hw'
        subst hw''
        have hB9:=hB6.trans ((hBa.trans ((below_drewN w8.heap.size w8 nq).mono (by have:=hBa.size;omega))).mono hsz6)
        clear hd0n hd1n hocn hd0 hd1 ho8 hq08 hq18
        generalize w8.drewN nq=w9 at*
        go_wp2
        exact bodyPost_ret (v:= .tuple #[.int .i64 0,.bool false]) (by simp [results,Tryz.results181,go_sem]) rfl ⟨0,false,rfl,hR2,hB9⟩
       have hF : Hid (m.right T (f + 1) at' g = (n, true)) := by
        unfold Hid;rw [hR.out,List.drop_of_length_le (by rw [List.length_zip];omega)];rfl
       go_wp2
       exact bodyPost_ret (v:= .tuple #[.int .i64 n,.bool true]) (by simp [results,Tryz.results181,go_sem]) rfl ⟨n,true,rfl,hF,hBo⟩
     have hR:Hid (m.right T (f+1) at' g=(0,false)):=Mach.right_len hxe.out H1.out (by rw [hPx.out,hPl.out];exact h4)
     have h4b:((X.length:Int) !=(x.kids.length:Int))=true:=by simp;omega
     clear h4
     go_wp2
     exact bodyPost_ret (v:= .tuple #[.int .i64 0,.bool false]) (by simp [results,Tryz.results181,go_sem]) rfl ⟨0,false,rfl,hR,hB6⟩
    have hR:Hid (m.right T (f+1) at' g=(0,false)):=Mach.right_no hxe.out (.inr hdi)
    have hne:(((iset g.cur).length:Int) !=(g.cur.length:Int))=true:=by simp;omega
    clear hdi
    refine skL_on [24,25] ?_
    repeat (refine skL_take (v:= ?_) rfl ?_ ?_;rotate_left;(focus (intro w' hSw;(try dsimp only at hSw);go_simp;try with_reducible rfl));try simp only [Act.put,List.setIfInBounds_toArray,List.set_cons_zero,List.set_cons_succ])
    refine skL_off ?_
    refine wpAnyL_done (by kernel_rfl) ?_ _
    go_wp2
    exact bodyPost_ret (v:= .tuple #[.int .i64 0,.bool false]) (by simp [results,Tryz.results181,go_sem]) rfl ⟨0,false,rfl,hR,hB3⟩
   have hdq:decide (x.st=g.ini)=false:=decide_eq_false hEq
   have hR:Hid (m.right T (f+1) at' g=(0,false)):=Mach.right_no hxe.out (.inl hEq)
   rw [hdq]
   clear hEq hdq
   refine skL_on [15,16,17] ?_
   repeat (refine skL_take (v:= ?_) rfl ?_ ?_;rotate_left;(focus (intro w' hSw;(try dsimp only at hSw);go_simp;try with_reducible rfl));try simp only [Act.put,List.setIfInBounds_toArray,List.set_cons_zero,List.set_cons_succ])
   refine skL_off ?_
   refine wpAnyL_take (i:=18) (v:=undef) rfl (by kernel_rfl) (by kernel_rfl) (by kernel_rfl) (by kernel_rfl) (fun _ _ _ h=>h) (Or.inr ⟨by rfl,rfl⟩) (by assumption) ?_
   try simp only [Act.put,List.setIfInBounds_toArray,List.set_cons_zero,List.set_cons_succ]
   refine wpAnyL_take (i:=19) (v:=undef) rfl (by kernel_rfl) (by kernel_rfl) (by kernel_rfl) (by kernel_rfl) (fun _ _ _ h=>h) (Or.inr ⟨by rfl,rfl⟩) (by assumption) ?_
   try simp only [Act.put,List.setIfInBounds_toArray,List.set_cons_zero,List.set_cons_succ]
   refine wpAnyL_take (i:=21) (v:=undef) rfl (by kernel_rfl) (by kernel_rfl) (by kernel_rfl) (by kernel_rfl) (fun _ _ _ h=>h) (Or.inr ⟨by rfl,rfl⟩) (by assumption) ?_
   try simp only [Act.put,List.setIfInBounds_toArray,List.set_cons_zero,List.set_cons_succ]
   refine wpAnyL_take (i:=22) (v:=undef) rfl (by kernel_rfl) (by kernel_rfl) (by kernel_rfl) (by kernel_rfl) (fun _ _ _ h=>h) (Or.inr ⟨by rfl,rfl⟩) (by assumption) ?_
   try simp only [Act.put,List.setIfInBounds_toArray,List.set_cons_zero,List.set_cons_succ]
   refine wpAnyL_take (i:=23) (v:=undef) rfl (by kernel_rfl) (by kernel_rfl) (by kernel_rfl) (by kernel_rfl) (fun _ _ _ h=>h) (Or.inr ⟨by rfl,rfl⟩) (by assumption) ?_
   try simp only [Act.put,List.setIfInBounds_toArray,List.set_cons_zero,List.set_cons_succ]
   refine wpAnyL_skip (i:=20) (by kernel_rfl) rfl rfl (by assumption) ?_
   try simp only [Act.put,List.setIfInBounds_toArray,List.set_cons_zero,List.set_cons_succ]
   refine wpAnyL_skip (i:=24) (by kernel_rfl) rfl rfl (by assumption) ?_
   try simp only [Act.put,List.setIfInBounds_toArray,List.set_cons_zero,List.set_cons_succ]
   refine skL_on [25] ?_
   repeat (refine skL_take (v:= ?_) rfl ?_ ?_;rotate_left;(focus (intro w' hSw;(try dsimp only at hSw);go_simp;try with_reducible rfl));try simp only [Act.put,List.setIfInBounds_toArray,List.set_cons_zero,List.set_cons_succ])
   refine skL_off ?_
   refine wpAnyL_done (by kernel_rfl) ?_ _
   go_wp2
   exact bodyPost_ret (v:= .tuple #[.int .i64 0,.bool false]) (by simp [results,Tryz.results181,go_sem]) rfl ⟨0,false,rfl,hR,hB2⟩
  have hR:Hid (m.right T (f+1) at' g=(0,false)):=Mach.right_none (by omega)
  refine wp_region_L (fun w'=>w'.cell? ⟨w.heap.size,0,none⟩=some (.slice aT T.length cT)) [0,1,2,3,4,5,6,7,8,9,10,11,12,13,14,15,16,17,18,19,20,21,22,23,24,25] (by kernel_rfl) ?_
  have hbd:=(Below.refl w0.heap.size w0).drew
  have hS1:=(HS.out _ hbd).1
  have hB1:=hB0.trans (hbd.mono (by omega))
  clear hbd
  generalize w0.drew=w1 at*
  have hge:((at':Int)≥(T.length:Int)):=by omega
  refine skL_on [0,1,2,3,4,5] ?_
  repeat (refine skL_take (v:= ?_) rfl ?_ ?_;rotate_left;(focus (intro w' hSw;(try dsimp only at hSw);go_simp;try with_reducible rfl));try simp only [Act.put,List.setIfInBounds_toArray,List.set_cons_zero,List.set_cons_succ])
  refine skL_off ?_
  refine wpAnyL_take (i:=6) (v:=undef) rfl (by kernel_rfl) (by kernel_rfl) (by kernel_rfl) (by kernel_rfl) (fun _ _ _ h=>h) (Or.inr ⟨by rfl,rfl⟩) (by assumption) ?_
  try simp only [Act.put,List.setIfInBounds_toArray,List.set_cons_zero,List.set_cons_succ]
  refine wpAnyL_take (i:=7) (v:=undef) rfl (by kernel_rfl) (by kernel_rfl) (by kernel_rfl) (by kernel_rfl) (fun _ _ _ h=>h) (Or.inr ⟨by rfl,rfl⟩) (by assumption) ?_
  try simp only [Act.put,List.setIfInBounds_toArray,List.set_cons_zero,List.set_cons_succ]
  refine wpAnyL_take (i:=8) (v:=undef) rfl (by kernel_rfl) (by kernel_rfl) (by kernel_rfl) (by kernel_rfl) (fun _ _ _ h=>h) (Or.inr ⟨by rfl,rfl⟩) (by assumption) ?_
  try simp only [Act.put,List.setIfInBounds_toArray,List.set_cons_zero,List.set_cons_succ]
  refine wpAnyL_take (i:=9) (v:=undef) rfl (by kernel_rfl) (by kernel_rfl) (by kernel_rfl) (by kernel_rfl) (fun _ _ _ h=>h) (Or.inr ⟨by rfl,rfl⟩) (by assumption) ?_
  try simp only [Act.put,List.setIfInBounds_toArray,List.set_cons_zero,List.set_cons_succ]
  refine wpAnyL_take (i:=10) (v:=undef) rfl (by kernel_rfl) (by kernel_rfl) (by kernel_rfl) (by kernel_rfl) (fun _ _ _ h=>h) (Or.inr ⟨by rfl,rfl⟩) (by assumption) ?_
  try simp only [Act.put,List.setIfInBounds_toArray,List.set_cons_zero,List.set_cons_succ]
  refine wpAnyL_take (i:=11) (v:=undef) rfl (by kernel_rfl) (by kernel_rfl) (by kernel_rfl) (by kernel_rfl) (fun _ _ _ h=>h) (Or.inr ⟨by rfl,rfl⟩) (by assumption) ?_
  try simp only [Act.put,List.setIfInBounds_toArray,List.set_cons_zero,List.set_cons_succ]
  refine wpAnyL_skip (i:=12) (by kernel_rfl) rfl rfl (by assumption) ?_
  try simp only [Act.put,List.setIfInBounds_toArray,List.set_cons_zero,List.set_cons_succ]
  refine wpAnyL_skip (i:=13) (by kernel_rfl) rfl rfl (by assumption) ?_
  try simp only [Act.put,List.setIfInBounds_toArray,List.set_cons_zero,List.set_cons_succ]
  refine wpAnyL_skip (i:=14) (by kernel_rfl) rfl rfl (by assumption) ?_
  try simp only [Act.put,List.setIfInBounds_toArray,List.set_cons_zero,List.set_cons_succ]
  refine wpAnyL_skip (i:=15) (by kernel_rfl) rfl rfl (by assumption) ?_
  try simp only [Act.put,List.setIfInBounds_toArray,List.set_cons_zero,List.set_cons_succ]
  refine skL_on [16,17] ?_
  repeat (refine skL_take (v:= ?_) rfl ?_ ?_;rotate_left;(focus (intro w' hSw;(try dsimp only at hSw);go_simp;try with_reducible rfl));try simp only [Act.put,List.setIfInBounds_toArray,List.set_cons_zero,List.set_cons_succ])
  refine skL_off ?_
  refine wpAnyL_take (i:=18) (v:=undef) rfl (by kernel_rfl) (by kernel_rfl) (by kernel_rfl) (by kernel_rfl) (fun _ _ _ h=>h) (Or.inr ⟨by rfl,rfl⟩) (by assumption) ?_
  try simp only [Act.put,List.setIfInBounds_toArray,List.set_cons_zero,List.set_cons_succ]
  refine wpAnyL_take (i:=19) (v:=undef) rfl (by kernel_rfl) (by kernel_rfl) (by kernel_rfl) (by kernel_rfl) (fun _ _ _ h=>h) (Or.inr ⟨by rfl,rfl⟩) (by assumption) ?_
  try simp only [Act.put,List.setIfInBounds_toArray,List.set_cons_zero,List.set_cons_succ]
  refine wpAnyL_take (i:=21) (v:=undef) rfl (by kernel_rfl) (by kernel_rfl) (by kernel_rfl) (by kernel_rfl) (fun _ _ _ h=>h) (Or.inr ⟨by rfl,rfl⟩) (by assumption) ?_
  try simp only [Act.put,List.setIfInBounds_toArray,List.set_cons_zero,List.set_cons_succ]
  refine wpAnyL_take (i:=22) (v:=undef) rfl (by kernel_rfl) (by kernel_rfl) (by kernel_rfl) (by kernel_rfl) (fun _ _ _ h=>h) (Or.inr ⟨by rfl,rfl⟩) (by assumption) ?_
  try simp only [Act.put,List.setIfInBounds_toArray,List.set_cons_zero,List.set_cons_succ]
  refine wpAnyL_take (i:=23) (v:=undef) rfl (by kernel_rfl) (by kernel_rfl) (by kernel_rfl) (by kernel_rfl) (fun _ _ _ h=>h) (Or.inr ⟨by rfl,rfl⟩) (by assumption) ?_
  try simp only [Act.put,List.setIfInBounds_toArray,List.set_cons_zero,List.set_cons_succ]
  refine wpAnyL_skip (i:=20) (by kernel_rfl) rfl rfl (by assumption) ?_
  try simp only [Act.put,List.setIfInBounds_toArray,List.set_cons_zero,List.set_cons_succ]
  refine wpAnyL_skip (i:=24) (by kernel_rfl) rfl rfl (by assumption) ?_
  try simp only [Act.put,List.setIfInBounds_toArray,List.set_cons_zero,List.set_cons_succ]
  refine skL_on [25] ?_
  repeat (refine skL_take (v:= ?_) rfl ?_ ?_;rotate_left;(focus (intro w' hSw;(try dsimp only at hSw);go_simp;try with_reducible rfl));try simp only [Act.put,List.setIfInBounds_toArray,List.set_cons_zero,List.set_cons_succ])
  refine skL_off ?_
  refine wpAnyL_done (by kernel_rfl) ?_ _
  go_wp2
  exact bodyPost_ret (v:= .tuple #[.int .i64 0,.bool false]) (by simp [results,Tryz.results181,go_sem]) rfl ⟨0,false,rfl,hR,hB1⟩
end Go.Proofs.YtjagagpcjpcjjaaGreat
namespace Go.Proofs.YtjagagpcjpcjjaaGreat
namespace Mach
variable (m:Mach)
def kidOf (l:List Kd) (o:Int):Option Kd:=l.find? (fun k=>decide (k.out=o))
def wordGo (T:List Nd):Nat→Nat→Int→List Int→List Int×Nat
 |0,a,_,w=>(w,a)
 |f+1,a,c,w=>match T[a]? with
  |none=>(w,a)
  |some x=>if x.inp<0 then (w,a) else match kidOf x.kids (m.ot c.toNat x.inp.toNat) with
   |none=>(w,a)
   |some k=>wordGo T f k.to.toNat (m.nx c.toNat x.inp.toNat) (w++[x.inp])
def adsW (T:List Nd) (s:Int):List Int×Nat:=m.wordGo T T.length 0 s []
def Wi (T:List Nd) (a:Nat) (c:Int):Prop:=∃f g e,m.right T f a g=(e,true)∧c∈g.cur∧GOk m.next.length g∧((∀s∈g.ini,0≤s∧s<(m.next.length:Int))∧g.cur.length≤m.next.length)
variable {m}
theorem rLoop_all {rc:Nat→Gp→Nat×Bool} (ih:∀n h k,rc n h=(k,true)→n<k):∀(Z:List ((Int×Gp)×Kd)) (n e:Nat),rLoop rc Z n=(e,true)→∀(k:Nat) (z:(Int×Gp)×Kd),Z[k]? =some z→z.2.out=z.1.1∧∃n',n≤n'∧z.2.to=(n':Int)∧∃e',rc n' z.1.2=(e',true)
 |[],n,e,h,k,z,hz=>by simp at hz
 |y::l,n,e,h,k,z,hz=>by
  unfold rLoop at h
  split at h
  ·simp at h
  rename_i hg
  have hg1:y.2.out=y.1.1:=Classical.byContradiction fun e=>hg (.inl e)
  have hg2:y.2.to=(n:Int):=Classical.byContradiction fun e=>hg (.inr e)
  split at h
  ·rename_i n' hn'
   cases k with
   |zero=>
    simp at hz
    subst hz
    exact ⟨hg1,n,Nat.le_refl _,hg2,n',hn'⟩
   |succ k=>
    simp at hz
    obtain ⟨h1,n2,h2,h3,h4⟩:=rLoop_all ih l n' e h k z hz
    have:=ih _ _ _ hn'
    exact ⟨h1,n2,by omega,h3,h4⟩
  simp at h
theorem right_parts {T:List Nd} {f a e:Nat} {g:Gp} {x:Nd} (h:m.right T f a g=(e,true)) (hx:T[a]? =some x) (h0:0≤x.inp):
    x.inp<m.inputs∧(m.gParts x.inp.toNat g).length=x.kids.length∧∃f',∀(k:Nat) (z:(Int×Gp)×Kd),((m.gParts x.inp.toNat g).zip x.kids)[k]? =some z→z.2.out=z.1.1∧∃n',a+1≤n'∧z.2.to=(n':Int)∧∃e',m.right T f' n' z.1.2=(e',true):=by
 cases f with
 |zero=>simp [right] at h
 |succ f=>
  by_cases hc:x.st≠g.ini∨(iset g.cur).length≠g.cur.length
  ·rw [right_no hx hc] at h;simp at h
  have h1:x.inp≠ -1:=by omega
  by_cases hd:x.inp<0∨m.inputs≤x.inp
  ·rw [right_out hx h1 hd] at h;simp at h
  by_cases hl:(m.gParts x.inp.toNat g).length≠x.kids.length
  ·rw [right_len hx h1 hl] at h;simp at h
  rw [right_on hx hc h1 hd hl] at h
  exact ⟨by omega,Classical.byContradiction hl,f,rLoop_all (fun n h k hk=>(right_bd _ _ _ _ hk).1) _ _ _ h⟩
theorem kidOf_at {l:List Kd} {o:Int} {k:Nat} {kd:Kd} (hk:l[k]? =some kd) (ho:kd.out=o) (hb:∀(j:Nat) (kj:Kd),j<k→l[j]? =some kj→kj.out≠o):kidOf l o=some kd:=by
 unfold kidOf
 rw [List.find?_eq_some_iff_getElem]
 have hkl:=some_lt hk
 refine ⟨by simp [ho],k,hkl,by rw [List.getElem?_eq_getElem hkl] at hk;simpa using hk,fun j hj=> ?_⟩
 have:=hb j l[j] hj (List.getElem?_eq_getElem (by omega))
 simp [this]
theorem wi_step {T:List Nd} {a:Nat} {c:Int} {x:Nd} (ok:m.Ok) (h:m.Wi T a c) (hx:T[a]? =some x) (h0:0≤x.inp):
    x.inp<m.inputs∧∃(k:Nat) (kd:Kd) (n':Nat),x.kids[k]? =some kd∧kd.out=m.ot c.toNat x.inp.toNat∧(∀(j:Nat) (kj:Kd),j<k→x.kids[j]? =some kj→kj.out≠m.ot c.toNat x.inp.toNat)∧kd.to=(n':Int)∧a<n'∧n'<T.length∧m.Wi T n' (m.nx c.toNat x.inp.toNat):=by
 obtain ⟨f,g,e,hr,hc,hg,hgi⟩:=h
 obtain ⟨h1,h2,f',h3⟩:=right_parts hr hx h0
 refine ⟨h1,?_⟩
 have ho:m.ot c.toNat x.inp.toNat∈m.outsI x.inp.toNat g.cur:=by
  unfold outsI;rw [iset_mem];exact List.mem_map_of_mem (f:=fun s=>m.ot s.toNat x.inp.toNat) hc
 obtain ⟨k,hk⟩:=List.mem_iff_getElem?.1 ho
 have hP:=gParts_at hk
 have hkl:k<x.kids.length:=by rw [←h2];exact some_lt hP
 have hout:∀(j:Nat) (kj:Kd),x.kids[j]? =some kj→∃oj,(m.outsI x.inp.toNat g.cur)[j]? =some oj∧kj.out=oj:=fun j kj hj=>by
  have hjl:=some_lt hj
  obtain ⟨oj,hoj⟩:∃oj,(m.outsI x.inp.toNat g.cur)[j]? =some oj:=⟨_,List.getElem?_eq_getElem (by rw [←gParts_len,h2];exact hjl)⟩
  have:=h3 j ((oj,m.grp x.inp.toNat g.ini g.cur oj),kj) (List.getElem?_zip_eq_some.2 ⟨gParts_at hoj,hj⟩)
  exact ⟨oj,hoj,this.1⟩
 obtain ⟨h4,n',h5,h6,e',h7⟩:=h3 k ((m.ot c.toNat x.inp.toNat,m.grp x.inp.toNat g.ini g.cur (m.ot c.toNat x.inp.toNat)),x.kids[k]) (List.getElem?_zip_eq_some.2 ⟨hP,List.getElem?_eq_getElem hkl⟩)
 refine ⟨k,x.kids[k],n',List.getElem?_eq_getElem hkl,h4,fun j kj hj hkj e2=> ?_,h6,by omega,?_,f',_,e',h7,?_,grp_ok ok (by omega) hg ho,fun s hs=> ?_,Nat.le_trans grp_le hgi.2⟩
 ·obtain ⟨oj,h8,h9⟩:=hout j kj hkj
  have hA:IAsc (m.outsI x.inp.toNat g.cur):=iset_asc _
  have a1:=iasc_count hA hk
  have a2:=iasc_count hA h8
  rw [←h9,e2] at a2
  omega
 ·have:=right_bd _ _ _ _ h7;omega
 ·show m.nx c.toNat x.inp.toNat∈m.gpC x.inp.toNat g.ini g.cur (m.ot c.toNat x.inp.toNat)
  unfold gpC
  have hz:(g.ini.zip g.cur).map Prod.snd=g.cur:=List.map_snd_zip (by have:=hg.le;omega)
  rw [←hz] at hc
  obtain ⟨p,hp,rfl⟩:=List.mem_map.1 hc
  exact List.mem_map.2 ⟨p,List.mem_filter.2 ⟨hp,by simp⟩,rfl⟩
 obtain ⟨p,hp,rfl⟩:=List.mem_map.1 (show s∈m.gpI x.inp.toNat g.ini g.cur (m.ot c.toNat x.inp.toNat) from hs)
 exact hgi.1 p.1 (List.of_mem_zip (List.mem_filter.1 hp).1).1
theorem wi_node {T:List Nd} {a:Nat} {c:Int} {x:Nd} (h:m.Wi T a c) (hx:T[a]? =some x):(∀s∈x.st,0≤s∧s<(m.next.length:Int))∧x.st.length≤m.next.length:=by
 obtain ⟨f,g,e,hr,hc,hg,hgi⟩:=h
 cases f with
 |zero=>simp [right] at hr
 |succ f=>
  have e:x.st=g.ini:=Classical.byContradiction fun e=>by rw [right_no hx (.inl e)] at hr;simp at hr
  rw [e]
  exact ⟨hgi.1,by rw [hg.le];exact hgi.2⟩
theorem wi_lt {T:List Nd} {a:Nat} {c:Int} (h:m.Wi T a c):a<T.length∧0≤c∧c<m.next.length:=by
 obtain ⟨f,g,e,hr,hc,hg, -⟩:=h
 have h1:=right_bd _ _ _ _ hr
 exact ⟨by omega,hg.st c hc⟩
theorem wordGo_stop {T:List Nd} {f a:Nat} {c:Int} {w:List Int} {x:Nd} (hx:T[a]? =some x) (h:x.inp<0):m.wordGo T f a c w=(w,a):=by
 cases f with
 |zero=>rfl
 |succ f=>unfold wordGo;rw [hx];simp only [];rw [if_pos h]
theorem wordGo_on {T:List Nd} {f a:Nat} {c:Int} {w:List Int} {x:Nd} {kd:Kd} (hx:T[a]? =some x) (h:0≤x.inp) (hk:kidOf x.kids (m.ot c.toNat x.inp.toNat)=some kd):m.wordGo T (f+1) a c w=m.wordGo T f kd.to.toNat (m.nx c.toNat x.inp.toNat) (w++[x.inp]):=by
 conv=>lhs;unfold wordGo
 rw [hx];simp only [];rw [if_neg (by omega),hk]
end Mach
end Go.Proofs.YtjagagpcjpcjjaaGreat
namespace Go.Proofs.YtjagagpcjpcjjaaGreat
open Go.RowKit
theorem Ow.base {α:Type} [GR α] {B B':Nat} {M:Nat→Prop} {w:World} {T:TypeId} {v:Value} {l:List α} (h:Ow B M w T v l) (hb:B'≤B):Ow B' M w T v l:=by
 obtain ⟨xs,h1,h2⟩:=h
 refine ⟨xs,⟨h1.1,?_⟩,h2⟩
 rcases h1.2 with e|⟨g,cap,cur,h3,h4,h5⟩
 ·exact .inl e
 exact .inr ⟨g,cap,cur,h3,Nat.le_trans hb h4,h5⟩
section
variable {M M':Nat→Prop} {w:World} {an ao b:Option Addr} {cn co d:Nat} {m:Mach} {l:List Int}
end
section
variable {M M':Nat→Prop} {w:World} {an ao b:Option Addr} {cn co d:Nat} {m:Mach} {l:List Int}
end
def Two (B:Nat) (w:World) (T:TypeId) (v u:Value) (K1 K2:List (List Int)):Prop:=
 Ow B (fun k=>v.ownBlock=some k∨u.ownBlock=some k) w T v K1∧Ow B (fun k=>v.ownBlock=some k∨u.ownBlock=some k) w T u K2∧Hid (∀k,v.ownBlock=some k→u.ownBlock=some k→False)
theorem Two.symm {B:Nat} {w:World} {T:TypeId} {v u:Value} {K1 K2:List (List Int)} (h:Two B w T v u K1 K2):Two B w T u v K2 K1:=
 ⟨h.2.1.subM fun _ _ hm=>hm.symm,h.1.subM fun _ _ hm=>hm.symm,fun k h1 h2=>h.2.2.out k h2 h1⟩
theorem Two.below {B:Nat} {w w':World} {T:TypeId} {v u:Value} {K1 K2:List (List Int)} (h:Two B w T v u K1 K2) (hb:Below w.heap.size w w'):Two B w' T v u K1 K2:=⟨h.1.below hb,h.2.1.below hb,h.2.2⟩
theorem Two.alloc {B:Nat} {w:World} {T:TypeId} {v u:Value} {K1 K2:List (List Int)} (h:Two B w T v u K1 K2) (o:Obj):Two B (w.alloc o) T v u K1 K2:=h.below ((Below.refl _ _).alloc (Nat.le_refl _) _)
theorem Two.fresh {B:Nat} {w w':World} {T:TypeId} {v u:Value} {K1 K2:List (List Int)} (h:Two B w T v u K1 K2) {a:Option Addr} {c:Nat} {r:List Int} (hs:Sl (fun k=>k<w.heap.size) w' a c r):Sl (fun k=>v.ownBlock=some k∨u.ownBlock=some k) w' a c r:=
 hs.anti fun k _ hm=>hm.elim (fun e=>(h.1.lt k e).2) fun e=>(h.2.1.lt k e).2
section
variable {P:Program} {w:World} {o:Oper} {a:Act} {ops:Array Oper} {rest:List Oper} {Q:Exit→Act→World→Prop}
end
theorem Mach.outs_many {m:Mach} {a:Nat} {l:List Int} (h0:0<l.length):(m.eqTo a l l.length=true→¬1<(m.outsI a l).length)∧(m.eqTo a l l.length=false→1<(m.outsI a l).length):=by
 have hl0:l[0]? =some l[0]:=List.getElem?_eq_getElem h0
 unfold Mach.eqTo Mach.outsI
 rw [List.take_length,getD_of_some hl0]
 constructor
 ·intro h
  rw [List.all_eq_true] at h
  have e:iset (l.map fun s=>m.ot s.toNat a)=[m.ot l[0].toNat a]:=by
   refine iset_of (by simp [IAsc]) fun z=> ?_
   rw [List.mem_singleton,List.mem_map]
   constructor
   ·rintro rfl;exact ⟨l[0],List.getElem_mem h0,rfl⟩
   rintro ⟨s,hs,rfl⟩;simpa using h s hs
  rw [e];simp
 intro h
 rw [List.all_eq_false] at h
 obtain ⟨s,hs,hne⟩:=h
 have hne:m.ot s.toNat a≠m.ot l[0].toNat a:=by simpa using hne
 have h1:m.ot s.toNat a∈iset (l.map fun s=>m.ot s.toNat a):=by rw [iset_mem];exact List.mem_map.2 ⟨s,hs,rfl⟩
 have h2:m.ot l[0].toNat a∈iset (l.map fun s=>m.ot s.toNat a):=by rw [iset_mem];exact List.mem_map.2 ⟨l[0],List.getElem_mem h0,rfl⟩
 generalize iset (l.map fun s=>m.ot s.toNat a)=X at h1 h2
 match X,h1,h2 with
 |[],h1,_=>simp at h1
 |[y],h1,h2=>rw [List.mem_singleton] at h1 h2;exact absurd (h1.trans h2.symm) hne
 |_::_::_,_,_=>simp
section
variable {M M':Nat→Prop} {w:World} {an ao b:Option Addr} {cn co d:Nat} {m:Mach} {l:List Int}
end
end Go.Proofs.YtjagagpcjpcjjaaGreat
namespace Go.Proofs.YtjagagpcjpcjjaaGreat
theorem scan_len {a b:Mach} {p:Pl} {l:List Pl} {n:Nat} (hp:p.word.length≤n) (hl:∀q∈l,q.word.length≤n):∀x,(∀q∈(scan a b p l x).1,q.word.length≤n+1)∧∀w,(scan a b p l x).2=some w→w.length≤n+1
 |0=>⟨fun q hq=>Nat.le_succ_of_le (hl q hq),fun w hw=>by simp [scan] at hw⟩
 |x+1=>by
  obtain ⟨h1,h2⟩:=scan_len (a:=a) (b:=b) hp hl x
  unfold scan
  split
  ·rename_i w hw
   exact ⟨h1,fun v hv=>h2 v (by rw [hw];exact hv)⟩
  split
  ·exact ⟨h1,fun v hv=>by simp at hv;subst hv;simp;omega⟩
  split
  ·exact ⟨h1,fun v hv=>by simp at hv⟩
  refine ⟨fun q hq=> ?_,fun v hv=>by simp at hv⟩
  rcases List.mem_append.1 hq with e|e
  ·exact h1 q e
  rw [List.mem_singleton.1 e];simp;omega
theorem srch_len {a b:Mach} {s t:Int}:∀i,(∀q∈(srch a b s t i).1,q.word.length≤i)∧∀w,(srch a b s t i).2=some w→w.length≤i
 |0=>⟨fun q hq=>by simp [srch] at hq;subst hq;simp,fun w hw=>by simp [srch] at hw⟩
 |i+1=>by
  obtain ⟨h1,h2⟩:=srch_len (a:=a) (b:=b) (s:=s) (t:=t) i
  unfold srch
  split
  ·rename_i w hw
   exact ⟨fun q hq=>Nat.le_succ_of_le (h1 q hq),fun v hv=>by simp at hv;subst hv;exact Nat.le_succ_of_le (h2 _ hw)⟩
  split
  ·exact ⟨fun q hq=>Nat.le_succ_of_le (h1 q hq),fun v hv=>by simp at hv⟩
  rename_i p hp
  exact scan_len (h1 p (List.mem_of_getElem? hp)) h1 _
theorem first_len {a b:Mach} {s t:Int} {w:List Int} (h:firstW a b s t=some w):w.length≤a.next.length*b.next.length:=(srch_len _).2 w h
namespace Mach
variable (m:Mach)
def sepW (s x:Int):List Int:=(stW m s x).getD []
def nodeSt (T:List Nd) (l:Nat):List Int:=match T[l]? with|some x=>x.st|none=>[]
def idO (s:Int) (o:List Int):List (List Int):=(o.filter fun x=>decide (x≠s)).map fun x=>sepW m s x
def idA (T:List Nd) (s:Int):List (List Int):=if 0<(m.adsW T s).1.length∨(nodeSt T (m.adsW T s).2).length=1 then [(m.adsW T s).1] else []
def idW (T:List Nd) (s:Int):List (List Int):=m.idA T s++m.idO s (nodeSt T (m.adsW T s).2)
def ids (T:List Nd):List (List (List Int)):=(List.range m.next.length).map fun s:Nat=>srt cmpW (m.idW T (s:Int))
variable {m}
theorem sepW_len (hn:m.next.length<1000) (s x:Int):(m.sepW s x).length≤1000000:=by
 unfold sepW
 cases h:stW m s x with
 |none=>simp
 |some w=>
  show w.length≤_
  unfold stW at h
  split at h
  ·have:=first_len h
   have h2:m.next.length*m.next.length≤1000*1000:=Nat.mul_le_mul (by omega) (by omega)
   omega
  simp at h
theorem idO_step {s:Int} {o:List Int} {k:Nat} {x:Int} (h:o[k]? =some x):m.idO s (o.take (k+1))=m.idO s (o.take k)++if x=s then [] else [m.sepW s x]:=by
 unfold idO
 rw [List.take_add_one,h,List.filter_append,List.map_append]
 congr 1
 by_cases e:x=s<;>simp [e]
theorem idO_len {s:Int} {o:List Int}:(m.idO s o).length≤o.length:=by unfold idO;rw [List.length_map];exact List.length_filter_le _ _
end Mach
end Go.Proofs.YtjagagpcjpcjjaaGreat
namespace Go.Proofs.YtjagagpcjpcjjaaGreat
open Go.RowKit
structure Ig (M:Nat→Prop) (wM:World) (Bs:Nat) (w:World) (n:Nat) (F:Nat→Value) (s:Nat) (R:Nat→List (List Int)) (rows:List (List Int)):Prop where
 kg:KG w wM.heap.size n F
 cur:∃a c,F s= .slice a rows.length c
 ow:Ow Bs M w 49 (F s) rows
 inM:M wM.heap.size
 of:∀k,M k→k=wM.heap.size∨Bs≤k
 lt:∀k,M k→k<w.heap.size
 own:∀k,(F s).ownBlock=some k→M k
 nil:∀j,s<j→F j= .slice none 0 0
 old:∀j,j<s→∃a c,F j= .slice a (R j).length c∧Sl (fun k=>k=wM.heap.size∨Bs≤k) w a c (R j)
 bel:Below wM.heap.size wM w
 mb:wM.heap.size<Bs
 bs:Bs≤w.heap.size
section
variable {M:Nat→Prop} {wM w w':World} {Bs n s:Nat} {F:Nat→Value} {R:Nat→List (List Int)} {rows:List (List Int)}
theorem Ig.below (h:Ig M wM Bs w n F s R rows) (hb:Below w.heap.size w w'):Ig M wM Bs w' n F s R rows:=
 ⟨h.kg.kept (hb.block _ h.kg.lt),h.cur,h.ow.below hb,h.inM,h.of,fun k hk=>Nat.lt_of_lt_of_le (h.lt k hk) hb.size,h.own,h.nil,fun j hj=>by
  obtain ⟨a,c,h1,h2⟩:=h.old j hj
  exact ⟨a,c,h1,h2.below hb⟩,h.bel.trans (hb.mono h.bel.size),h.mb,Nat.le_trans h.bs hb.size⟩
theorem Ig.made (wM:World):Ig (fun k=>k=wM.heap.size) wM (wM.heap.size+1) (wM.alloc (.map #[] 0)) 0 (fun _=> .slice none 0 0) 0 R []:=
 ⟨KG.made wM,⟨none,0,rfl⟩,Ow.nil,rfl,fun _ hk=> .inl hk,fun k hk=>by subst hk;simp,fun k hk=>by simp [Value.ownBlock] at hk,fun _ _=>rfl,fun j hj=>by omega,(Below.refl _ _).alloc (Nat.le_refl _) _,Nat.lt_succ_self _,by simp⟩
theorem Ig.app (h:Ig M wM Bs w n F s R rows) (hs:s<1000) (hn:n<1000000000000) {a6:Option Addr} {c6 z:Nat} {l6:List (List Int)} {w6:World} (hz:w.heap.size=z) (hg:w.grownBy w6 (F s).ownBlock) (hO:Ow Bs (fun k=>M k∨k=z) w6 49 (.slice a6 l6.length c6) l6)
    (hk:∀k,(Value.slice a6 l6.length c6).ownBlock=some k→((F s).ownBlock=some k∨k=z)∧k<w6.heap.size):
    ∃(w7:World) (M':Nat→Prop) (F':Nat→Value),(Instr.mapUpdate 175 (.map (some wM.heap.size)) (.int .i64 (s:Int)) (.slice a6 l6.length c6)).run Tryz.prog w6= .ok () w7∧Ig M' wM Bs w7 (n+1) F' s R l6:=by
 subst hz
 have hmb:=h.mb
 have hbs:=h.bs
 have hne:some wM.heap.size≠(F s).ownBlock:=fun e=>by have:=(h.ow.lt _ e.symm).1;omega
 have hk6:KG w6 wM.heap.size n F:=h.kg.kept (hg.block _ h.kg.lt hne)
 obtain ⟨w7,hrun,hk7,hg7⟩:=hk6.put hn hs (.slice a6 l6.length c6)
 have hs6:=hg.size
 have hs7:=hg7.size
 have hb6:Below wM.heap.size wM w6:=h.bel.grown hg (by omega) (fun k hk=>by have:=(h.ow.lt k hk).1;omega)
 have e67:Ext (fun k=>M k∨k=w.heap.size) (fun k=>(M k∨k=w.heap.size)∧k<w7.heap.size) w6 w7:=(Ext.grownBy hg7 (fun k e=>by cases e;exact .inl h.inM)).trans (Ext.sub_only fun _ _ e=>e.1)
 refine ⟨w7,fun k=>(M k∨k=w.heap.size)∧k<w7.heap.size,_,hrun,hk7,⟨a6,c6,by simp⟩,?_,⟨.inl h.inM,by have:=h.kg.lt;omega⟩,fun k hk=> ?_,fun k hk=>hk.2,fun k hk'=> ?_,fun j hj=>by rw [if_neg (by omega)];exact h.nil j hj,fun j hj=> ?_,hb6.grown hg7 (by omega) (fun k e=>by cases e;exact Nat.le_refl _),h.mb,by omega⟩
 ·simp only [if_true]
  exact hO.ext e67 (fun k hk'=>hg7.block k (hk k hk').2 (fun e=>by cases e;have:=(hO.lt _ hk').1;omega))
 ·rcases hk.1 with e|e
  ·exact h.of k e
  exact .inr (by omega)
 ·simp only [if_true] at hk'
  refine ⟨?_,by have:=(hk k hk').2;omega⟩
  rcases (hk k hk').1 with e|e
  ·exact .inl (h.own k e)
  exact .inr e
 rw [if_neg (by omega)]
 obtain ⟨a,c,h1,h2⟩:=h.old j hj
 refine ⟨a,c,h1,(h2.ext (Ext.grownBy hg (fun k e=> .inr (h.ow.lt k e).1))).ext (Ext.grownBy hg7 (fun k e=>by cases e;exact .inl rfl))⟩
theorem Ig.next (h:Ig M wM Bs w n F s R rows) (hr:R s=rows):Ig (fun k=>k=wM.heap.size) wM w.heap.size w n F (s+1) R []:=by
 have hmb:=h.mb
 have hbs:=h.bs
 obtain ⟨a,c,hF⟩:=h.cur
 refine ⟨h.kg,⟨none,0,h.nil _ (Nat.lt_succ_self s)⟩,by rw [h.nil _ (Nat.lt_succ_self s)];exact Ow.nil,rfl,fun _ hk=> .inl hk,fun k hk=>by subst hk;omega,fun k hk=>by rw [h.nil _ (Nat.lt_succ_self s)] at hk;simp [Value.ownBlock] at hk,fun j hj=>h.nil j (by omega),fun j hj=> ?_,h.bel,by omega,Nat.le_refl _⟩
 by_cases e:j=s
 ·subst e
  refine ⟨a,c,by rw [hr];exact hF,?_⟩
  rw [hr]
  have hO:=h.ow
  rw [hF] at hO
  refine ((hO.subM (M':=fun k=>k=wM.heap.size) (fun k _ e=>by subst e;exact h.inM)).toSl (fun k hk e=> ?_)).anti (fun k hk e=>e.elim id (fun e=>by omega))
  have:=(hO.lt k hk).1
  omega
 obtain ⟨a,c,h1,h2⟩:=h.old j (by omega)
 exact ⟨a,c,h1,h2.anti (fun k hk e=>e.elim .inl (fun e=>by omega))⟩
end
def Mix (n0 B:Nat) (w:World) (v u:Value) (S:List Int) (W:List (List Int)):Prop:=
 Ow B (fun k=>B≤k) w 3 v S∧Oy (fun k=>v.ownBlock=some k∨k<n0) B w 49 u W∧Hid (∀k,v.ownBlock=some k→u.ownBlock=some k→False)
theorem Mix.below {n0 B:Nat} {w w':World} {v u:Value} {S:List Int} {W:List (List Int)} (h:Mix n0 B w v u S W) (hb:Below w.heap.size w w'):Mix n0 B w' v u S W:=⟨h.1.below hb,Ow.below h.2.1 hb,h.2.2⟩
theorem Mix.alloc {n0 B:Nat} {w:World} {v u:Value} {S:List Int} {W:List (List Int)} (h:Mix n0 B w v u S W) (o:Obj):Mix n0 B (w.alloc o) v u S W:=h.below ((Below.refl _ _).alloc (Nat.le_refl _) _)
theorem Mix.toSl {n0 B:Nat} {w:World} {v:Value} {a:Option Addr} {c:Nat} {S:List Int} {W:List (List Int)} (h:Mix n0 B w v (.slice a W.length c) S W) (hB:n0≤B):Sl (fun k=>k<n0) w a c W:=
 (h.2.1.subM (M':=fun k=>k<n0) fun k _ hm=> .inr (.inr hm)).toSl fun k hk=>by have:=(h.2.1.lt k hk).1;omega
section
variable {P:Program} {w:World} {o:Oper} {a:Act} {ops:Array Oper} {rest:List Oper} {Q:Exit→Act→World→Prop}
end
section
variable {M:Nat→Prop} {w:World} {b:Option Addr} {d:Nat} {l:List Int}
end
section
variable {M:Nat→Prop} {w:World} {an ao:Option Addr} {cn co:Nat} {m:Mach}
end
end Go.Proofs.YtjagagpcjpcjjaaGreat
