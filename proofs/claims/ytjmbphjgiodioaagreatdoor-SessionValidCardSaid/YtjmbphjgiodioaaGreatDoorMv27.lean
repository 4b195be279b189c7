/- Several texts, one behind the other. Conditions: as each of them says. -/
import Derived.Test.YtjmbphjgiodioaaGreatDoorMv25
import Derived.Test.YtjmbphjgiodioaaGreatDoorMv19
import Derived.Test.YtjmbphjgiodioaaGreatDoorMv9
import Derived.Test.YtjmbphjgiodioaaGreatDoorMv7
import Derived.Test.YtjmbphjgiodioaaGreatDoorMv4
import Derived.Test.YtjmbphjgiodioaaGreatDoorMv1
set_option maxRecDepth 100000
set_option maxHeartbeats 32000000
namespace Go.Proofs.YtjmbphjgiodioaaGreatDoor
def fstE (f:Nat→Int):Nat→Int
 |0=>0
 |k+1=>if fstE f k=0 then f k else fstE f k
theorem fst_stop {f:Nat→Int} {k n:Nat} (hk:k≤n) (h:fstE f k≠0):fstE f n=fstE f k:=by
 induction n with
 | zero => obtain rfl : k = 0 := by omega
           rfl
 |succ n ih=>
  by_cases e:k=n+1
  ·rw [e]
  have h1:=ih (by omega)
  simp only [fstE]
  rw [h1,if_neg h]
theorem fst_next {f:Nat→Int} {k:Nat} (h0:fstE f k=0) (h1:f k=0):fstE f (k+1)=0:=by simp only [fstE];rw [if_pos h0,h1]
theorem fst_hit {f:Nat→Int} {k n:Nat} {v:Int} (hk:k<n) (h0:fstE f k=0) (h1:f k=v) (hv:v≠0):fstE f n=v:=by
 have h2:fstE f (k+1)=v:=by simp only [fstE];rw [if_pos h0,h1]
 rw [fst_stop (k:=k+1) hk (by rw [h2];exact hv),h2]
theorem fst_zero {f:Nat→Int} {k n:Nat} (h:fstE f n=0) (hk:k<n):f k=0:=by
 have h1:fstE f (k+1)=0:=by
  by_cases e:fstE f (k+1)=0
  ·exact e
  rw [←fst_stop hk e];exact h
 have h0:fstE f k=0:=by
  by_cases e:fstE f k=0
  ·exact e
  rw [←fst_stop (f:=f) (n:=n) (by omega) e];exact h
 simp only [fstE] at h1
 rw [if_pos h0] at h1
 exact h1
theorem gd_of {α:Type} {l:List α} {k:Nat} {x d:α} (h:l[k]? =some x):l.getD k d=x:=by rw [List.getD_eq_getElem?_getD,h];rfl
structure Tab where
 inputs:Int
 pre:List (List Int)
 suf:List (List Int)
def lng (l:List (List Int)):Nat:=l.foldl (fun n w=>max n w.length) 0
theorem lng_take {l:List (List Int)} {k:Nat} {w:List Int} (h:l[k]? =some w):lng (l.take (k+1))=max (lng (l.take k)) w.length:=by
 unfold lng;rw [List.take_add_one,h,Option.toList,List.foldl_append];rfl
theorem lng_le {n:Nat}:∀{l:List (List Int)},(∀w∈l,w.length≤n)→∀m,m≤n→l.foldl (fun n w=>max n w.length) m≤n
 |[],_,_,h=>h
 |w::l,hl,m,h=>by
  rw [List.foldl_cons]
  exact lng_le (fun x hx=>hl x (by simp [hx])) _ (by have:=hl w (by simp);omega)
namespace Tab
variable (t:Tab)
def pfErr (i:Nat):Int:=
 if wErr (t.pre.getD i []) t.inputs≠0 then wErr (t.pre.getD i []) t.inputs
 else if (i=0∧t.pre.getD i []≠[])∨(0<i∧0≤cmpW (t.pre.getD (i-1) []) (t.pre.getD i [])) then 10
 else if t.pre.getD i []≠[]∧(t.pre.getD i []).dropLast∉t.pre then 1 else 0
def sfErr (i:Nat):Int:=
 if wErr (t.suf.getD i []) t.inputs≠0 then wErr (t.suf.getD i []) t.inputs
 else if t.suf.getD i []=[] then 19
 else if 0<i∧0≤cmpW (t.suf.getD (i-1) []) (t.suf.getD i []) then 10 else 0
def single:Prop:=∀a:Nat,(a:Int)<t.inputs→[(a:Int)]∈t.suf
def inB:Prop:=1≤t.inputs∧t.inputs≤64
def fit:Prop:=t.pre.length≤10000∧t.suf.length≤10000∧(t.pre.length:Int)*(t.inputs+1)*t.suf.length≤160000
open Classical in
noncomputable def err:Int:=
 if ¬t.inB then 2
 else if t.pre.length=0 then 19
 else if ¬t.fit then 11
 else if fstE t.pfErr t.pre.length≠0 then fstE t.pfErr t.pre.length
 else if fstE t.sfErr t.suf.length≠0 then fstE t.sfErr t.suf.length
 else if ¬t.single then 1
 else if 1023<lng t.pre+lng t.suf then 3 else 0
variable {t}
theorem err_2 (h:¬t.inB):t.err=2:=by unfold err;rw [if_pos h]
theorem err_19 (h:t.inB) (h2:t.pre.length=0):t.err=19:=by unfold err;rw [if_neg (fun e=>e h),if_pos h2]
theorem err_11 (h:t.inB) (h2:¬t.pre.length=0) (h3:¬t.fit):t.err=11:=by unfold err;rw [if_neg (fun e=>e h),if_neg h2,if_pos h3]
def hd (t:Tab):Prop:=t.inB∧¬t.pre.length=0∧t.fit
theorem err_p {v:Int} (h:t.hd) (h4:fstE t.pfErr t.pre.length=v) (hv:v≠0):t.err=v:=by
 unfold err;rw [if_neg (fun e=>e h.1),if_neg h.2.1,if_neg (fun e=>e h.2.2),if_pos (by rw [h4];exact hv),h4]
theorem err_s {v:Int} (h:t.hd) (h4:fstE t.pfErr t.pre.length=0) (h5:fstE t.sfErr t.suf.length=v) (hv:v≠0):t.err=v:=by
 unfold err;rw [if_neg (fun e=>e h.1),if_neg h.2.1,if_neg (fun e=>e h.2.2),if_neg (by simp [h4]),if_pos (by rw [h5];exact hv),h5]
theorem err_1 (h:t.hd) (h4:fstE t.pfErr t.pre.length=0) (h5:fstE t.sfErr t.suf.length=0) (h6:¬t.single):t.err=1:=by
 unfold err;rw [if_neg (fun e=>e h.1),if_neg h.2.1,if_neg (fun e=>e h.2.2),if_neg (by simp [h4]),if_neg (by simp [h5]),if_pos h6]
theorem err_e (h:t.hd) (h4:fstE t.pfErr t.pre.length=0) (h5:fstE t.sfErr t.suf.length=0) (h6:t.single):t.err=if 1023<lng t.pre+lng t.suf then 3 else 0:=by
 unfold err;rw [if_neg (fun e=>e h.1),if_neg h.2.1,if_neg (fun e=>e h.2.2),if_neg (by simp [h4]),if_neg (by simp [h5]),if_neg (fun e=>e h6)]
theorem pf_w {i:Nat} {w:List Int} {v:Int} (h:t.pre[i]? =some w) (h1:wErr w t.inputs=v) (hv:v≠0):t.pfErr i=v:=by unfold pfErr;rw [gd_of h,if_pos (by rw [h1];exact hv),h1]
theorem pf_0 {w:List Int} (h:t.pre[0]? =some w) (h1:wErr w t.inputs=0):t.pfErr 0=if w=[] then 0 else 10:=by
 unfold pfErr;rw [gd_of h,if_neg (by simp [h1])]
 by_cases e:w=[]
 ·rw [if_pos e,if_neg (by simp [e]),if_neg (by simp [e])]
 rw [if_neg e,if_pos (.inl ⟨rfl,e⟩)]
theorem pf_c {i:Nat} {u w:List Int} (h0:t.pre[i]? =some u) (h:t.pre[i+1]? =some w) (h1:wErr w t.inputs=0) (h2:0≤cmpW u w):t.pfErr (i+1)=10:=by
 unfold pfErr;rw [gd_of h,if_neg (by simp [h1]),if_pos (.inr ⟨by omega,by rw [Nat.add_sub_cancel,gd_of h0];exact h2⟩)]
theorem pf_d {i:Nat} {u w:List Int} (h0:t.pre[i]? =some u) (h:t.pre[i+1]? =some w) (h1:wErr w t.inputs=0) (h2:¬0≤cmpW u w):t.pfErr (i+1)=if w≠[]∧w.dropLast∉t.pre then 1 else 0:=by
 unfold pfErr;rw [gd_of h,if_neg (by simp [h1]),if_neg]
 rintro (⟨e,_⟩|⟨_,e⟩)
 ·omega
 rw [Nat.add_sub_cancel,gd_of h0] at e;exact h2 e
theorem sf_w {i:Nat} {w:List Int} {v:Int} (h:t.suf[i]? =some w) (h1:wErr w t.inputs=v) (hv:v≠0):t.sfErr i=v:=by unfold sfErr;rw [gd_of h,if_pos (by rw [h1];exact hv),h1]
theorem sf_e {i:Nat} {w:List Int} (h:t.suf[i]? =some w) (h1:wErr w t.inputs=0) (h2:w=[]):t.sfErr i=19:=by unfold sfErr;rw [gd_of h,if_neg (by simp [h1]),if_pos h2]
theorem sf_0 {w:List Int} (h:t.suf[0]? =some w) (h1:wErr w t.inputs=0) (h2:w≠[]):t.sfErr 0=0:=by unfold sfErr;rw [gd_of h,if_neg (by simp [h1]),if_neg h2,if_neg (by omega)]
theorem sf_c {i:Nat} {u w:List Int} (h0:t.suf[i]? =some u) (h:t.suf[i+1]? =some w) (h1:wErr w t.inputs=0) (h2:w≠[]):t.sfErr (i+1)=if 0≤cmpW u w then 10 else 0:=by
 unfold sfErr;rw [gd_of h,if_neg (by simp [h1]),if_neg h2,Nat.add_sub_cancel,gd_of h0]
 by_cases e:0≤cmpW u w
 ·rw [if_pos ⟨by omega,e⟩,if_pos e]
 rw [if_neg (fun h=>e h.2),if_neg e]
theorem suf_ok (h:fstE t.sfErr t.suf.length=0):(∀w∈t.suf,wErr w t.inputs=0∧w≠[])∧Asc cmpW t.suf:=by
 have h1:∀i w,t.suf[i]? =some w→wErr w t.inputs=0∧w≠[]:=fun i w hi=>by
  have hlt:i<t.suf.length:=by
   by_cases e:i<t.suf.length
   ·exact e
   rw [List.getElem?_eq_none (by omega)] at hi;cases hi
  have hz:=fst_zero h hlt
  by_cases e:wErr w t.inputs=0
  ·refine ⟨e,fun e2=> ?_⟩
   rw [sf_e hi e e2] at hz;cases hz
  rw [sf_w hi rfl e] at hz;exact absurd hz e
 refine ⟨fun w hw=> ?_,?_⟩
 ·obtain ⟨i,hi⟩:=List.mem_iff_getElem?.1 hw
  exact h1 i w hi
 unfold Asc
 have hn:∀i (hi:i+1<t.suf.length),cmpW t.suf[i] t.suf[i+1]<0:=fun i hi=>by
  have hz:=fst_zero h hi
  have h2:=h1 (i+1) _ (List.getElem?_eq_getElem hi)
  rw [sf_c (List.getElem?_eq_getElem (by omega)) (List.getElem?_eq_getElem hi) h2.1 h2.2] at hz
  by_cases e:0≤cmpW t.suf[i] t.suf[i+1]
  ·rw [if_pos e] at hz;cases hz
  omega
 rw [List.pairwise_iff_getElem]
 intro i j hi hj hij
 induction j with
 |zero=>omega
 |succ j ih=>
  by_cases e:i=j
  ·subst e;exact hn i hj
  exact tot_cmp.lt_trans (ih (by omega) (by omega)) (hn j hj)
theorem cmp_len {a b:List Int} (h:cmpW a b<0):a.length≤b.length:=by
 unfold cmpW at h
 by_cases e:a.length=b.length
 ·omega
 rw [if_neg e] at h
 unfold sgn at h
 split at h<;>(try split at h)<;>omega
theorem one_word {w:List Int} (h:w.length≤1) (h2:w≠[]):∃x,w=[x]:=by
 cases w with
 |nil=>exact absurd rfl h2
 |cons x l=>cases l with
  |nil=>exact ⟨x,rfl⟩
  |cons y l=>simp at h
theorem wErr_sym {w:List Int} {n:Int} (h:wErr w n=0):∀x∈w,0≤x∧x<n:=by
 intro x hx
 unfold wErr at h
 split at h
 ·cases h
 split at h
 ·cases h
 split at h
 ·cases h
 rename_i h3
 by_cases e:0≤x∧x<n
 ·exact e
 exact absurd ⟨x,hx,by omega⟩ h3
theorem suf_at (h:fstE t.sfErr t.suf.length=0) {j n:Nat} (hn:(n:Int)=t.inputs) (hj:j<n) (hl:n≤t.suf.length) (h1:(t.suf.getD (n-1) []).length≤1):t.suf[j]? =some [(j:Int)]:=by
 obtain ⟨hw,ha⟩:=suf_ok h
 unfold Asc at ha
 rw [List.pairwise_iff_getElem] at ha
 have hone:∀i (hi:i<n),∃x:Int,t.suf[i]? =some [x]∧0≤x∧x<n:=fun i hi=>by
  have hil:i<t.suf.length:=by omega
  have hle:t.suf[i].length≤1:=by
   rw [gd_of (List.getElem?_eq_getElem (show n-1<t.suf.length by omega))] at h1
   by_cases e:i=n-1
   ·subst e;exact h1
   have:=cmp_len (ha i (n-1) hil (by omega) (by omega));omega
  have hm:=hw t.suf[i] (List.getElem_mem hil)
  obtain ⟨x,hx⟩:=one_word hle hm.2
  have hs:=wErr_sym hm.1 x (by rw [hx];simp)
  exact ⟨x,by rw [List.getElem?_eq_getElem hil,hx],hs.1,by omega⟩
 have hup:∀i,i<n→∀x:Int,t.suf[i]? =some [x]→(i:Int)≤x:=fun i=>by
  induction i with
  |zero=>intro hi x hx;obtain ⟨y,hy,h0,_⟩:=hone 0 hi;rw [hx] at hy;simp at hy;omega
  |succ i ih=>
   intro hi x hx
   obtain ⟨y,hy,_,_⟩:=hone i (by omega)
   have hyi:=ih (by omega) y hy
   have hc:=ha i (i+1) (by omega) (by omega) (by omega)
   rw [List.getElem?_eq_getElem (by omega)] at hx hy
   simp only [Option.some.injEq] at hx hy
   rw [hx,hy] at hc
   have:y<x:=by
    simp [cmpW,lexW] at hc
    by_cases e:y=x
    ·rw [if_pos e] at hc;omega
    rw [if_neg e] at hc;unfold sgn at hc;split at hc<;>omega
   omega
 have hdn:∀d i,i<n→n-1-i=d→∀x:Int,t.suf[i]? =some [x]→x≤(i:Int):=fun d=>by
  induction d with
  |zero=>intro i hi hd x hx;obtain ⟨y,hy,_,h2⟩:=hone i hi;rw [hx] at hy;simp at hy;omega
  |succ d ih=>
   intro i hi hd x hx
   obtain ⟨y,hy,_,_⟩:=hone (i+1) (by omega)
   have hyi:=ih (i+1) (by omega) (by omega) y hy
   have hc:=ha i (i+1) (by omega) (by omega) (by omega)
   rw [List.getElem?_eq_getElem (by omega)] at hx hy
   simp only [Option.some.injEq] at hx hy
   rw [hx,hy] at hc
   have:x<y:=by
    simp [cmpW,lexW] at hc
    by_cases e:x=y
    ·rw [if_pos e] at hc;omega
    rw [if_neg e] at hc;unfold sgn at hc;split at hc<;>omega
   omega
 obtain ⟨x,hx,_,_⟩:=hone j hj
 have e1:=hup j hj x hx
 have e2:=hdn _ j hj rfl x hx
 rw [hx,show x=(j:Int) by omega]
theorem single_of (h:fstE t.sfErr t.suf.length=0) {n:Nat} (hn:(n:Int)=t.inputs) (hl:n≤t.suf.length) (h1:(t.suf.getD (n-1) []).length≤1):t.single:=
 fun a ha=>List.mem_of_getElem? (suf_at h hn (by omega) hl h1)
theorem of_single (h:fstE t.sfErr t.suf.length=0) {n:Nat} (hn:(n:Int)=t.inputs) (h1:1≤n) (hs:t.single):n≤t.suf.length∧(t.suf.getD (n-1) []).length≤1:=by
 obtain ⟨hw,ha⟩:=suf_ok h
 have hpl:∀a,a<n→∃i,i<t.suf.length∧t.suf[i]? =some [(a:Int)]:=fun a ha=>by
  obtain ⟨i,hi⟩:=List.mem_iff_getElem?.1 (hs a (by omega))
  refine ⟨i,?_,hi⟩
  by_cases e:i<t.suf.length
  ·exact e
  rw [List.getElem?_eq_none (by omega)] at hi;cases hi
 -- the place of the word a is at least a
 have hge:∀a,a<n→∀i,t.suf[i]? =some [(a:Int)]→a≤i∧∀b,b<a→∃j,j<i∧t.suf[j]? =some [(b:Int)]:=fun a=>by
  have hlt:∀a b,b<a→a<n→∀i,t.suf[i]? =some [(a:Int)]→∃j,j<i∧t.suf[j]? =some [(b:Int)]:=fun a b hb ha' i hi=>by
   obtain ⟨j,hj,hj2⟩:=hpl b (by omega)
   refine ⟨j,?_,hj2⟩
   have hil:i<t.suf.length:=by
    by_cases e:i<t.suf.length
    ·exact e
    rw [List.getElem?_eq_none (by omega)] at hi;cases hi
   by_cases e:j<i
   ·exact e
   by_cases e2:j=i
   ·subst e2;rw [hi] at hj2;simp at hj2;omega
   have hc:=List.pairwise_iff_getElem.1 ha i j hil hj (by omega)
   rw [List.getElem?_eq_getElem (by omega)] at hi hj2
   simp only [Option.some.injEq] at hi hj2
   rw [hi,hj2] at hc
   simp [cmpW,lexW] at hc
   rw [if_neg (by omega)] at hc
   unfold sgn at hc
   split at hc<;>(try split at hc)<;>omega
  induction a with
  |zero=>intro h0 i hi;exact ⟨by omega,fun b hb=>by omega⟩
  |succ a ih=>
   intro h0 i hi
   obtain ⟨j,hj,hj2⟩:=hlt (a+1) a (by omega) h0 i hi
   have:=(ih (by omega) j hj2).1
   exact ⟨by omega,fun b hb=>hlt (a+1) b hb h0 i hi⟩
 obtain ⟨i,hi,hi2⟩:=hpl (n-1) (by omega)
 have hgi:=(hge (n-1) (by omega) i hi2).1
 refine ⟨by omega,?_⟩
 rw [gd_of (List.getElem?_eq_getElem (show n-1<t.suf.length by omega))]
 by_cases e:i=n-1
 ·subst e
  rw [List.getElem?_eq_getElem hi] at hi2
  simp only [Option.some.injEq] at hi2
  rw [hi2];simp
 have hc:=cmp_len (List.pairwise_iff_getElem.1 ha (n-1) i (by omega) hi (by omega))
 rw [List.getElem?_eq_getElem hi] at hi2
 simp only [Option.some.injEq] at hi2
 rw [hi2] at hc
 simpa using hc
end Tab
structure Dn where
 leaf:Bool
 acc:List Int
 suf:List Int
 outs:List (List Int)
 kids:List Int
def outErr (o s:List Int):Int:=if o.length≠s.length then 1 else if ∃x∈o,badO x then 2 else 0
namespace Dn
variable (x:Dn) (n:Nat)
def kdErr (i:Nat):Int:=
 if outErr (x.outs.getD i []) x.suf≠0 then outErr (x.outs.getD i []) x.suf
 else if 0<i∧0≤lexW (x.outs.getD (i-1) []) (x.outs.getD i []) then 10
 else if x.kids.getD i 0<0∨(n:Int)≤x.kids.getD i 0 then 2 else 0
def err:Int:=
 if x.leaf=true then (if 0<x.suf.length+x.outs.length+x.kids.length then 1 else wErr x.acc 64)
 else if 0<x.acc.length then 1
 else if x.suf.length=0 then 19
 else if wErr x.suf 64≠0 then wErr x.suf 64
 else if x.outs.length≠x.kids.length then 1
 else fstE (x.kdErr n) x.kids.length
variable {x n}
theorem err_l1 (h:x.leaf=true) (h1:0<x.suf.length+x.outs.length+x.kids.length):x.err n=1:=by unfold err;rw [if_pos h,if_pos h1]
theorem err_l (h:x.leaf=true) (h1:¬0<x.suf.length+x.outs.length+x.kids.length):x.err n=wErr x.acc 64:=by unfold err;rw [if_pos h,if_neg h1]
theorem err_a (h:x.leaf=false) (h1:0<x.acc.length):x.err n=1:=by unfold err;rw [if_neg (by simp [h]),if_pos h1]
theorem err_s (h:x.leaf=false) (h1:¬0<x.acc.length) (h2:x.suf.length=0):x.err n=19:=by unfold err;rw [if_neg (by simp [h]),if_neg h1,if_pos h2]
theorem err_w {v:Int} (h:x.leaf=false) (h1:¬0<x.acc.length) (h2:¬x.suf.length=0) (h3:wErr x.suf 64=v) (hv:v≠0):x.err n=v:=by unfold err;rw [if_neg (by simp [h]),if_neg h1,if_neg h2,if_pos (by rw [h3];exact hv),h3]
theorem err_o (h:x.leaf=false) (h1:¬0<x.acc.length) (h2:¬x.suf.length=0) (h3:wErr x.suf 64=0) (h4:¬x.outs.length=x.kids.length):x.err n=1:=by unfold err;rw [if_neg (by simp [h]),if_neg h1,if_neg h2,if_neg (by simp [h3]),if_pos h4]
theorem err_k (h:x.leaf=false) (h1:¬0<x.acc.length) (h2:¬x.suf.length=0) (h3:wErr x.suf 64=0) (h4:x.outs.length=x.kids.length):x.err n=fstE (x.kdErr n) x.kids.length:=by unfold err;rw [if_neg (by simp [h]),if_neg h1,if_neg h2,if_neg (by simp [h3]),if_neg (by simp [h4])]
theorem kd_o {i:Nat} {o:List Int} {v:Int} (h:x.outs[i]? =some o) (h1:outErr o x.suf=v) (hv:v≠0):x.kdErr n i=v:=by unfold kdErr;rw [gd_of h,if_pos (by rw [h1];exact hv),h1]
theorem kd_x {i:Nat} {p o:List Int} (h0:x.outs[i]? =some p) (h:x.outs[i+1]? =some o) (h1:outErr o x.suf=0) (h2:0≤lexW p o):x.kdErr n (i+1)=10:=by
 unfold kdErr;rw [gd_of h,if_neg (by simp [h1]),Nat.add_sub_cancel,gd_of h0,if_pos ⟨by omega,h2⟩]
theorem kd_k {i:Nat} {o:List Int} {k:Int} (h:x.outs[i]? =some o) (hk:x.kids[i]? =some k) (h1:outErr o x.suf=0) (h2:i=0∨∃p,x.outs[i-1]? =some p∧¬0≤lexW p o):x.kdErr n i=if k<0∨(n:Int)≤k then 2 else 0:=by
 unfold kdErr;rw [gd_of h,if_neg (by simp [h1]),gd_of hk,if_neg]
 rintro ⟨e1,e2⟩
 rcases h2 with e|⟨p,e,e3⟩
 ·omega
 rw [gd_of e] at e2;exact e3 e2
theorem kd_asc {i:Nat} (h:fstE (x.kdErr n) i=0):∀j k,j<k→k<i→lexW (x.outs.getD j []) (x.outs.getD k [])<0:=by
 intro j k hjk hk
 have hn:∀q,q+1<i→lexW (x.outs.getD q []) (x.outs.getD (q+1) [])<0:=fun q hq=>by
  have hz:=fst_zero h hq
  unfold kdErr at hz
  split at hz
  ·rename_i e;exact absurd hz e
  split at hz
  ·cases hz
  rename_i e
  rw [Nat.add_sub_cancel] at e
  by_cases e2:0≤lexW (x.outs.getD q []) (x.outs.getD (q+1) [])
  ·exact absurd ⟨by omega,e2⟩ e
  omega
 induction k with
 |zero=>omega
 |succ k ih=>
  by_cases e:j=k
  ·subst e;exact hn j hk
  exact tot_lex.lt_trans (ih (by omega) (by omega)) (hn k hk)
end Dn
def kidsAt (l:List Dn) (k:Int):List Int:=(l.getD k.toNat ⟨false,[],[],[],[]⟩).kids
def lev (l:List Dn) (q:List Int):List Int:=0::(q.map (kidsAt l)).flatten
def oneP (l:List Dn):Prop:=∃L:List Int,L=lev l L∧L.Nodup∧L.length=l.length∧∀i,i<L.length→i<(lev l (L.take i)).length
theorem lev_mono {l:List Dn} {a b:List Int} (h:a<+:b):lev l a<+:lev l b:=by
 obtain ⟨c,rfl⟩:=h
 unfold lev
 rw [List.map_append,List.flatten_append]
 exact ⟨((c.map (kidsAt l)).flatten),by simp⟩
theorem lev_succ {l:List Dn} {q:List Int} {i:Nat} {k:Int} (h:q[i]? =some k):lev l (q.take (i+1))=lev l (q.take i)++kidsAt l k:=by
 unfold lev;rw [List.take_add_one,h];simp
theorem lev_end {l:List Dn} {q:List Int} (hq:q=lev l q) {L:List Int} (hL:L=lev l L) (hLg:∀i,i<L.length→i<(lev l (L.take i)).length) (hp:q<+:L):L=q:=by
 obtain ⟨r,rfl⟩:=hp
 by_cases e:r=[]
 ·rw [e,List.append_nil]
 have hr:0<r.length:=List.length_pos_iff.2 e
 have h1:=hLg q.length (by rw [List.length_append];omega)
 rw [List.take_left',←hq] at h1
 ·omega
 rfl
def accs (l:List Dn):List (List Int):=(l.filter fun x=>x.leaf).map Dn.acc
open Classical in
noncomputable def dtErr (l:List Dn):Int:=
 if l.length=0 then 19
 else if 4096<l.length then 11
 else if fstE (fun i=>(l.getD i ⟨false,[],[],[],[]⟩).err l.length) l.length≠0 then fstE (fun i=>(l.getD i ⟨false,[],[],[],[]⟩).err l.length) l.length
 else if ¬oneP l then 1
 else if (srt cmpW (accs l)).length≠(accs l).length then 7 else 0
def ndErr (l:List Dn) (i:Nat):Int:=(l.getD i ⟨false,[],[],[],[]⟩).err l.length
theorem nd_of {l:List Dn} {i:Nat} {x:Dn} (h:l[i]? =some x):ndErr l i=x.err l.length:=by unfold ndErr;rw [gd_of h]
theorem dt_0 {l:List Dn} (h:l.length=0):dtErr l=19:=by unfold dtErr;rw [if_pos h]
theorem dt_g {l:List Dn} (h:¬l.length=0) (h1:4096<l.length):dtErr l=11:=by unfold dtErr;rw [if_neg h,if_pos h1]
theorem dt_n {l:List Dn} {v:Int} (h:¬l.length=0) (h1:¬4096<l.length) (h2:fstE (ndErr l) l.length=v) (hv:v≠0):dtErr l=v:=by unfold dtErr;rw [if_neg h,if_neg h1,if_pos (by exact h2.symm▸hv)];exact h2
theorem dt_w {l:List Dn} (h:¬l.length=0) (h1:¬4096<l.length) (h2:fstE (ndErr l) l.length=0) (h3:¬oneP l):dtErr l=1:=by
 unfold dtErr
 rw [if_neg h,if_neg h1,if_neg (fun e=>e h2),if_pos h3]
theorem dt_a {l:List Dn} (h:¬l.length=0) (h1:¬4096<l.length) (h2:fstE (ndErr l) l.length=0) (h3:oneP l):dtErr l=if (srt cmpW (accs l)).length≠(accs l).length then 7 else 0:=by
 unfold dtErr
 rw [if_neg h,if_neg h1,if_neg (fun e=>e h2),if_neg (fun e=>e h3)]
structure Cfg where
 inputs:Int
 kind:Int
 stg:Stg
 bound:Int
namespace Cfg
variable (c:Cfg)
def err:Int:=if c.inputs<1∨64<c.inputs∨c.kind<1∨3<c.kind then 2 else if c.stg.err≠0 then c.stg.err else if c.bound<1∨128<c.bound then 2 else 0
end Cfg
structure Ses where
 cfg:Cfg
 phase:Int
 rounds:Int
 code:Int
 obs:Ob
 tab:Tab
 tIn:Int
 nodes:List Dn
 lz:Tab
 hyp:Hy
namespace Tab
def blank (t:Tab):Prop:=t.inputs=0∧t.pre.length=0∧t.suf.length=0
end Tab
namespace Ses
variable (s:Ses)
def blank:Prop:=(s.cfg.kind=1∨s.tab.blank)∧(s.cfg.kind=2∨(s.tIn=0∧s.nodes.length=0))∧(s.cfg.kind=3∨s.lz.blank)
def lt:Tab:=if s.cfg.kind=1 then s.tab else s.lz
open Classical in
noncomputable def lErr:Int:=
 if ¬s.blank then 1
 else if s.cfg.kind=2 then (if dtErr s.nodes≠0 then dtErr s.nodes else if s.tIn≠s.cfg.inputs then 15 else 0)
 else if s.lt.inputs≠s.cfg.inputs then 15 else s.lt.err
def hBlank:Prop:=s.hyp.m.inputs=0∧s.hyp.m.start=0∧s.hyp.m.next.length=0∧s.hyp.m.out.length=0∧s.hyp.acc.length=0
open Classical in
noncomputable def hErr:Int:=
 if s.phase≠1∧s.phase≠2 then (if s.hBlank then 0 else 1)
 else if s.hyp.err≠0 then s.hyp.err else if s.hyp.m.inputs≠s.cfg.inputs then 15 else 0
noncomputable def err:Int:=
 if s.cfg.err≠0 then s.cfg.err
 else if s.phase<0∨3<s.phase∨s.rounds<0 then 2
 else if (s.phase=3∧s.code=0)∨(s.phase≠3∧s.code≠0) then 1
 else if s.obs.err≠0 then s.obs.err
 else if s.obs.inputs≠s.cfg.inputs then 15
 else if s.lErr≠0 then s.lErr else s.hErr
end Ses
end Go.Proofs.YtjmbphjgiodioaaGreatDoor
namespace Go.Proofs.YtjmbphjgiodioaaGreatDoor
open Go.RowKit
instance:GR Dn where
 sz:=5
 rep M w cs x:=∃a1 c1 a2 c2 a3 c3 a4 c4,cs=[.bool x.leaf,.slice a1 x.acc.length c1,.slice a2 x.suf.length c2,.slice a3 x.outs.length c3,.slice a4 x.kids.length c4]∧Sl M w a1 c1 x.acc∧Sl M w a2 c2 x.suf∧Sl M w a3 c3 x.outs∧Sl M w a4 c4 x.kids
 len h:=by obtain ⟨_,_,_,_,_,_,_,_,h,_⟩:=h;rw [h];rfl
 ext e h:=by obtain ⟨a1,c1,a2,c2,a3,c3,a4,c4,h,h1,h2,h3,h4⟩:=h;exact ⟨a1,c1,a2,c2,a3,c3,a4,c4,h,h1.ext e,h2.ext e,h3.ext e,h4.ext e⟩
structure Nad where
 a1:Option Addr
 c1:Nat
 a2:Option Addr
 c2:Nat
 a3:Option Addr
 c3:Nat
 a4:Option Addr
 c4:Nat
structure NdL (M:Nat→Prop) (w:World) (A:Nad) (x:Dn):Prop where
 acc:Sl M w A.a1 A.c1 x.acc
 suf:Sl M w A.a2 A.c2 x.suf
 outs:Sl M w A.a3 A.c3 x.outs
 kids:Sl M w A.a4 A.c4 x.kids
abbrev dnV (x:Dn) (A:Nad):Value:= .agg #[.bool x.leaf,.slice A.a1 x.acc.length A.c1,.slice A.a2 x.suf.length A.c2,.slice A.a3 x.outs.length A.c3,.slice A.a4 x.kids.length A.c4]
abbrev dnO (x:Dn) (A:Nad):Obj:= .cells #[.bool x.leaf,.slice A.a1 x.acc.length A.c1,.slice A.a2 x.suf.length A.c2,.slice A.a3 x.outs.length A.c3,.slice A.a4 x.kids.length A.c4] 140
abbrev D5 (w:World) (b o:Nat) (x:Dn) (A:Nad):Prop:=w.cell? ⟨b,o,none⟩=some (.bool x.leaf)∧w.cell? ⟨b,o+1,none⟩=some (.slice A.a1 x.acc.length A.c1)∧w.cell? ⟨b,o+2,none⟩=some (.slice A.a2 x.suf.length A.c2)∧w.cell? ⟨b,o+3,none⟩=some (.slice A.a3 x.outs.length A.c3)∧w.cell? ⟨b,o+4,none⟩=some (.slice A.a4 x.kids.length A.c4)
section
variable {M M':Nat→Prop} {w w':World} {a:Option Addr} {c:Nat}
theorem NdL.ext {A:Nad} {x:Dn} (e:Ext M M' w w') (h:NdL M w A x):NdL M' w' A x:=⟨h.acc.ext e,h.suf.ext e,h.outs.ext e,h.kids.ext e⟩
theorem NdL.below {A:Nad} {x:Dn} (h:NdL M w A x) (hb:Below w.heap.size w w'):NdL M w' A x:=h.ext (Ext.of_below hb)
theorem NdL.anti {A:Nad} {x:Dn} (h:NdL M w A x) (hM:∀k,k<w.heap.size→M' k→M k):NdL M' w A x:=⟨h.acc.anti hM,h.suf.anti hM,h.outs.anti hM,h.kids.anti hM⟩
theorem d5_new (w:World) (x:Dn) (A:Nad):D5 (w.alloc (dnO x A)) w.heap.size 0 x A:=by refine ⟨?_,?_,?_,?_,?_⟩<;>simp
theorem D5.below {B b o:Nat} {x:Dn} {A:Nad} (h:D5 w b o x A) (hb:Below B w w') (hlt:b<B):D5 w' b o x A:=
 ⟨(hb.cell (p:=⟨b,o,none⟩) hlt).trans h.1,(hb.cell (p:=⟨b,o+1,none⟩) hlt).trans h.2.1,(hb.cell (p:=⟨b,o+2,none⟩) hlt).trans h.2.2.1,(hb.cell (p:=⟨b,o+3,none⟩) hlt).trans h.2.2.2.1,(hb.cell (p:=⟨b,o+4,none⟩) hlt).trans h.2.2.2.2⟩
theorem Sl.at_dn {l:List Dn} (h:Sl M w a c l) {j:Nat} (hj:j<l.length):
    ∃b off A x,a=some ⟨b,off,none⟩∧D5 w b (off+j*5) x A∧Hid (l[j]? =some x)∧NdL M w A x:=by
 obtain ⟨b,off,cs,ha,_,_,⟨a1,c1,a2,c2,a3,c3,a4,c4,rfl,h1,h2,h3,h4⟩,hc⟩:=h.2.2 j l[j] (by simp [hj])
 exact ⟨b,off,⟨a1,c1,a2,c2,a3,c3,a4,c4⟩,l[j],ha,⟨by simpa [GR.sz] using hc 0 _ rfl,by simpa [GR.sz] using hc 1 _ rfl,by simpa [GR.sz] using hc 2 _ rfl,by simpa [GR.sz] using hc 3 _ rfl,by simpa [GR.sz] using hc 4 _ rfl⟩,by unfold Hid;simp [hj],h1,h2,h3,h4⟩
theorem Sl.i64 {l:List Int} (h:Sl M w a c l):∀x∈l,Go.Proofs.YtjmbphjgiodioaaGreatDoor.i64 x:=fun x hx=>by
 obtain ⟨j,hj,rfl⟩:=List.getElem_of_mem hx
 obtain ⟨b,o,y,_,_,hy,hi⟩:=h.at_int hj
 have:=hy.out
 rw [List.getElem?_eq_getElem hj] at this
 simp only [Option.some.injEq] at this
 rw [this];exact hi
structure Tm (M:Nat→Prop) (w:World) (a:Option Addr) (c:Nat) (a':Option Addr) (c':Nat) (t:Tab):Prop where
 inputs:Go.Proofs.YtjmbphjgiodioaaGreatDoor.i64 t.inputs
 pre:Sl M w a c t.pre
 suf:Sl M w a' c' t.suf
abbrev tmV (t:Tab) (a:Option Addr) (c:Nat) (a':Option Addr) (c':Nat):Value:= .agg #[.int .i64 t.inputs,.slice a t.pre.length c,.slice a' t.suf.length c']
abbrev tmO (t:Tab) (a:Option Addr) (c:Nat) (a':Option Addr) (c':Nat):Obj:= .cells #[.int .i64 t.inputs,.slice a t.pre.length c,.slice a' t.suf.length c'] 29
abbrev X3 (w:World) (b:Nat) (t:Tab) (a:Option Addr) (c:Nat) (a':Option Addr) (c':Nat):Prop:=w.cell? ⟨b,0,none⟩=some (.int .i64 t.inputs)∧w.cell? ⟨b,1,none⟩=some (.slice a t.pre.length c)∧w.cell? ⟨b,2,none⟩=some (.slice a' t.suf.length c')
theorem x3_new (w:World) (t:Tab) (a:Option Addr) (c:Nat) (a':Option Addr) (c':Nat):X3 (w.alloc (tmO t a c a' c')) w.heap.size t a c a' c':=by refine ⟨?_,?_,?_⟩<;>simp
theorem X3.below {B b:Nat} {t:Tab} {a':Option Addr} {c':Nat} (h:X3 w b t a c a' c') (hb:Below B w w') (hlt:b<B):X3 w' b t a c a' c':=
 ⟨(hb.cell (p:=⟨b,0,none⟩) hlt).trans h.1,(hb.cell (p:=⟨b,1,none⟩) hlt).trans h.2.1,(hb.cell (p:=⟨b,2,none⟩) hlt).trans h.2.2⟩
theorem Tm.ext {t:Tab} {a':Option Addr} {c':Nat} (e:Ext M M' w w') (h:Tm M w a c a' c' t):Tm M' w' a c a' c' t:=⟨h.inputs,h.pre.ext e,h.suf.ext e⟩
theorem Tm.below {t:Tab} {a':Option Addr} {c':Nat} (h:Tm M w a c a' c' t) (hb:Below w.heap.size w w'):Tm M w' a c a' c' t:=h.ext (Ext.of_below hb)
end
structure Sad where
 t:Option Addr
 tc:Nat
 p:Option Addr
 pc:Nat
 q:Option Addr
 qc:Nat
 n:Option Addr
 nc:Nat
 u:Option Addr
 uc:Nat
 v:Option Addr
 vc:Nat
 x:Option Addr
 xc:Nat
 y:Option Addr
 yc:Nat
 z:Option Addr
 zc:Nat
abbrev sesL (s:Ses) (A:Sad):List Value:=[.int .i64 s.cfg.inputs,.int .i64 s.cfg.kind,.int .i64 s.cfg.stg.kind,.int .i64 s.cfg.stg.extra,.int .u64 (s.cfg.stg.seed:Int),.int .i64 s.cfg.stg.count,.int .i64 s.cfg.stg.len,.int .i64 s.cfg.bound,.int .i64 s.phase,
 .int .i64 s.tab.inputs,.slice A.p s.tab.pre.length A.pc,.slice A.q s.tab.suf.length A.qc,.int .i64 s.tIn,.slice A.n s.nodes.length A.nc,.int .i64 s.lz.inputs,.slice A.u s.lz.pre.length A.uc,.slice A.v s.lz.suf.length A.vc,
 .int .i64 s.obs.inputs,.slice A.t s.obs.traces.length A.tc,.int .i64 s.hyp.m.inputs,.int .i64 s.hyp.m.start,.slice A.x s.hyp.m.next.length A.xc,.slice A.y s.hyp.m.out.length A.yc,.slice A.z s.hyp.acc.length A.zc,.int .i64 s.rounds,.int .i64 s.code]
structure Ses.I (s:Ses):Prop where
 inputs:i64 s.cfg.inputs
 kind:i64 s.cfg.kind
 skind:i64 s.cfg.stg.kind
 extra:i64 s.cfg.stg.extra
 seed:s.cfg.stg.seed<18446744073709551616
 count:i64 s.cfg.stg.count
 len:i64 s.cfg.stg.len
 bound:i64 s.cfg.bound
 phase:i64 s.phase
 rounds:i64 s.rounds
 code:i64 s.code
 oIn:i64 s.obs.inputs
 tbIn:i64 s.tab.inputs
 tIn:i64 s.tIn
 lIn:i64 s.lz.inputs
 mIn:i64 s.hyp.m.inputs
 start:i64 s.hyp.m.start
structure Sem (M:Nat→Prop) (w:World) (A:Sad) (s:Ses):Prop where
 i:s.I
 t:Sl M w A.t A.tc s.obs.traces
 p:Sl M w A.p A.pc s.tab.pre
 q:Sl M w A.q A.qc s.tab.suf
 n:Sl M w A.n A.nc s.nodes
 u:Sl M w A.u A.uc s.lz.pre
 v:Sl M w A.v A.vc s.lz.suf
 x:Sl M w A.x A.xc s.hyp.m.next
 y:Sl M w A.y A.yc s.hyp.m.out
 z:Sl M w A.z A.zc s.hyp.acc
section
variable {M M':Nat→Prop} {w w':World} {A:Sad} {s:Ses}
theorem Sem.ext (e:Ext M M' w w') (h:Sem M w A s):Sem M' w' A s:=⟨h.i,h.t.ext e,h.p.ext e,h.q.ext e,h.n.ext e,h.u.ext e,h.v.ext e,h.x.ext e,h.y.ext e,h.z.ext e⟩
theorem Sem.below (h:Sem M w A s) (hb:Below w.heap.size w w'):Sem M w' A s:=h.ext (Ext.of_below hb)
theorem Sem.anti (h:Sem M w A s) (hM:∀k,k<w.heap.size→M' k→M k):Sem M' w A s:=⟨h.i,h.t.anti hM,h.p.anti hM,h.q.anti hM,h.n.anti hM,h.u.anti hM,h.v.anti hM,h.x.anti hM,h.y.anti hM,h.z.anti hM⟩
theorem Sem.tab (h:Sem M w A s):Tm M w A.p A.pc A.q A.qc s.tab:=⟨h.i.tbIn,h.p,h.q⟩
theorem Sem.lz (h:Sem M w A s):Tm M w A.u A.uc A.v A.vc s.lz:=⟨h.i.lIn,h.u,h.v⟩
theorem Sem.obs (h:Sem M w A s):Os M w A.t A.tc s.obs:=⟨h.i.oIn,h.t⟩
theorem Sem.hyp (h:Sem M w A s):Hp M w A.x A.xc A.y A.yc A.z A.zc s.hyp:=⟨⟨h.i.mIn,h.i.start,h.x,h.y⟩,h.z⟩
end
end Go.Proofs.YtjmbphjgiodioaaGreatDoor
namespace Go.Proofs.YtjmbphjgiodioaaGreatDoor
namespace Tab
variable {t:Tab}
theorem pre_len (h:fstE t.pfErr t.pre.length=0):∀w∈t.pre,w.length≤1024:=fun w hw=>by
 obtain ⟨i,hi,rfl⟩:=List.getElem_of_mem hw
 have h1:=fst_zero h hi
 by_cases e:wErr t.pre[i] t.inputs=0
 ·exact wErr_len e
 rw [pf_w (List.getElem?_eq_getElem hi) rfl e] at h1;exact absurd h1 e
theorem suf_len (h:fstE t.sfErr t.suf.length=0):∀w∈t.suf,w.length≤1024:=fun w hw=>wErr_len ((suf_ok h).1 w hw).1
theorem lng_1024 {l:List (List Int)} (h:∀w∈l,w.length≤1024):lng l≤1024:=lng_le h 0 (by omega)
end Tab
end Go.Proofs.YtjmbphjgiodioaaGreatDoor
