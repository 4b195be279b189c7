/- Lemmas, each with its own conditions. -/
import Derived.Test.YtjagagpcjpcjjaaGreatMw7
import Derived.Sort.Statements
set_option maxRecDepth 100000
set_option maxHeartbeats 32000000
namespace Go.Proofs.YtjagagpcjpcjjaaGreat
section
open Go.RowKit
structure Si (cf:List Int->List Int->Int):Prop where
 same:∀a,cf a a=0
 zero:∀a b,cf a b=0->a=b
 swap:∀a b,cf b a= -cf a b
 trans:∀a b c,cf a b<=0->cf b c<=0->cf a c<=0/\(cf a b<0->cf a c<0)
theorem jF:Si iM:=⟨pK,fun _ _=>uG,Fz,fun _ _ _=>Cb⟩
theorem rG:Si jc:=⟨AA,fun _ _=>AB,Fy,fun _ _ _=>lex_trans⟩
def ins (cf:List Int->List Int->Int) (w:List Int):List (List Int)->List (List Int)
 |[]=>[w]
 |v::l=>if cf v w<0 then v::ins cf w l else if cf v w=0 then v::l else w::v::l
def nK (cf:List Int->List Int->Int) (l:List (List Int)):List (List Int):=l.foldl (fun L w=>ins cf w L) []
def Asc (cf:List Int->List Int->Int) (l:List (List Int)):Prop:=l.Pairwise fun a b=>cf a b<0
section
variable {cf:List Int->List Int->Int}
theorem Si.lt_trans (h:Si cf) {a b c:List Int} (h1:cf a b<0) (h2:cf b c<0):cf a c<0:=(h.trans a b c ah ah).2 h1
theorem LB (h:Si cf) {w x:List Int}:∀{l:List (List Int)},x∈ins cf w l↔x=w\/x∈l
 |[]=>by simp [ins]
 |v::l=>by
  unfold ins
  split
  ·rw [gH,LB h (l:=l),gH]
   constructor
   ·rintro (h|h|h)
    ·exact .inr (.inl h)
    ·exact .inl h
    exact .inr (.inr h)
   rintro (h|h|h)
   ·exact .inr (.inl h)
   ·exact .inl h
   exact .inr (.inr h)
  split
  ·rename_i h0
   have e:=h.zero _ _ h0
   subst e
   simp
  simp
theorem UZ (h:Si cf) {w:List Int}:∀{l:List (List Int)},Asc cf l->Asc cf (ins cf w l)
 |[],_=>by simp [ins,Asc]
 |v::l,hl=>by
  unfold Asc at hl
  rw [gY] at hl
  unfold ins
  split
  ·rename_i h1
   refine gY.2 ⟨fun x hx=> ?_,UZ h hl.2⟩
   rcases (LB h).1 hx with rfl|hx
   ·exact h1
   exact hl.1 x hx
  split
  ·exact gY.2 hl
  rename_i h1 h2
  have h3:cf w v<0:=by rw [h.swap v w];omega
  refine gY.2 ⟨fun x hx=> ?_,gY.2 hl⟩
  rcases gH.1 hx with rfl|hx
  ·exact h3
  exact h.lt_trans h3 (hl.1 x hx)
theorem ZF (l:List (List Int)) (w:List Int):nK cf (l++[w])=ins cf w (nK cf l):=by unfold nK;rw [aql];rfl
theorem OE {l:List (List Int)} {k:Nat} {w:List Int} (h:l[k]? =some w):nK cf (l.take (k+1))=ins cf w (nK cf (l.take k)):=by
 rw [dh,h];exact ZF _ _
theorem Cc (h:Si cf):∀(l:List (List Int)) (L:List (List Int)),Asc cf L->Asc cf (l.foldl (fun L w=>ins cf w L) L)/\∀x,x∈l.foldl (fun L w=>ins cf w L) L↔x∈l\/x∈L
 |[],L,hL=>⟨hL,fun x=>by simp⟩
 |w::l,L,hL=>by
  obtain ⟨h1,h2⟩:=Cc h l (ins cf w L) (UZ h hL)
  refine ⟨h1,fun x=> ?_⟩
  rw [arA,h2 x,LB h,gH]
  constructor
  ·rintro (h|h|h)
   ·exact .inl (.inr h)
   ·exact .inl (.inl h)
   exact .inr h
  rintro ((h|h)|h)
  ·exact .inr (.inl h)
  ·exact .inl h
  exact .inr (.inr h)
theorem rH (h:Si cf) (l:List (List Int)):Asc cf (nK cf l):=(Cc h l [] (by simp [Asc])).1
theorem j_ (h:Si cf) {l:List (List Int)} {x:List Int}:x∈nK cf l↔x∈l:=by
 have:=(Cc h l [] (by simp [Asc])).2 x;simpa [nK] using this
theorem vL (h:Si cf):∀{l l':List (List Int)},Asc cf l->Asc cf l'->(∀x,x∈l↔x∈l')->l=l'
 |[],[],_,_,_=>rfl
 |[],y::l',_,_,hm=>by have:=(hm y).2 aH;simp at this
 |x::l,[],_,_,hm=>by have:=(hm x).1 aH;simp at this
 |x::l,y::l',hl,hl',hm=>by
  unfold Asc at hl hl'
  rw [gY] at hl hl'
  have hxy:x=y:=by
   rcases gH.1 ((hm x).1 aH) with e|e
   ·exact e
   rcases gH.1 ((hm y).2 aH) with e2|e2
   ·exact e2.symm
   have h1:=hl'.1 x e
   have h2:=hl.1 y e2
   have h3:=h.swap x y
   omega
  subst hxy
  have hnl:∀z∈l,z≠x:=fun z hz e=>by have:=hl.1 z hz;rw [e,h.same] at this;omega
  have alP:∀z∈l',z≠x:=fun z hz e=>by have:=hl'.1 z hz;rw [e,h.same] at this;omega
  rw [vL h hl.2 hl'.2 fun z=>⟨fun hz=>by
   rcases gH.1 ((hm z).1 (by simp [hz])) with e|e
   ·exact absurd e (hnl z hz)
   ·exact e,fun hz=>by
   rcases gH.1 ((hm z).2 (by simp [hz])) with e|e
   ·exact absurd e (alP z hz)
   exact e⟩]
theorem Sj (h:Si cf) {l L:List (List Int)} (ha:Asc cf L) (hm:∀x,x∈L↔x∈l):nK cf l=L:=
 vL h (rH h l) ha fun x=>by rw [j_ h,hm]
theorem vM (l:List (List Int)):(nK cf l).length<=l.length:=by
 have hi:∀(w:List Int) (L:List (List Int)),(ins cf w L).length<=L.length+1:=by
  intro w L;induction L with
  |nil=>simp [ins]
  |cons v L ih=>unfold ins;split<;>(try split)<;>simp<;>omega
 have:∀k,k<=l.length->(nK cf (l.take k)).length<=k:=by
  intro k;induction k with
  |zero=>intro _;simp [nK]
  |succ k ih=>intro hk;rw [OE (bN (show k<l.length by omega))];have:=hi l[k] (nK cf (l.take k));have:=ih ah;omega
 have h:=this l.length (bM _);rwa [dV] at h
end
def Nc:List Int->List (List Int)->List (List Int)
 |_,[]=>[]
 |v,w::l=>if w=v then Nc w l else w::Nc w l
def Ad:List (List Int)->List (List Int)
 |[]=>[]
 |v::l=>v::Nc v l
theorem ZG:∀(v:List Int) (l:List (List Int)),(Nc v l).length<=l.length
 |_,[]=>bM _
 |v,w::l=>by
  unfold Nc
  have:=ZG w l
  split<;>simp<;>omega
section
variable {cf:List Int->List Int->Int}
def Ord (cf:List Int->List Int->Int) (l:List (List Int)):Prop:=l.Pairwise fun a b=>cf a b<=0
theorem U_:∀{v:List Int} {l:List (List Int)} {x:List Int},x∈v::Nc v l↔x∈v::l
 |v,[],x=>by simp [Nc]
 |v,w::l,x=>by
  unfold Nc
  have ih:=U_ (v:=w) (l:=l) (x:=x)
  by_cases e:w=v
  ·subst e
   rw [bQ rfl,ih]
   simp
  rw [bO e]
  simp only [gH] at ih ⊢
  constructor
  ·rintro (h|h)
   ·exact .inl h
   exact .inr (ih.1 h)
  rintro (h|h)
  ·exact .inl h
  exact .inr (ih.2 h)
theorem Va (h:Si cf):∀{v:List Int} {l:List (List Int)},Ord cf (v::l)->Asc cf (v::Nc v l)
 |v,[],_=>by simp [Nc,Asc]
 |v,w::l,ho=>by
  unfold Ord at ho
  rw [gY] at ho
  have ih:=Va h (v:=w) (l:=l) ho.2
  unfold Nc
  by_cases e:w=v
  ·subst e;rw [bQ rfl];exact ih
  rw [bO e]
  refine gY.2 ⟨fun x hx=> ?_,ih⟩
  have hvw:cf v w<0:=by
   have h1:=ho.1 w aH
   have h2:cf v w≠0:=fun h0=>e (h.zero _ _ h0).symm
   omega
  rcases gH.1 hx with rfl|hx
  ·exact hvw
  unfold Asc at ih
  rw [gY] at ih
  exact h.lt_trans hvw (ih.1 x hx)
theorem Vb (h:Si cf) {l L:List (List Int)} (hp:L.Perm l) (ho:Ord cf L):Ad L=nK cf l:=by
 have hm:∀x,x∈L↔x∈l:=fun x=>hp.mem_iff;cases L with
 |nil=>exact (Sj h (by simp [Ad,Asc]) (by simpa [Ad] using hm)).symm
 |cons v L=>exact (Sj h (Va h ho) fun x=>(U_.trans (hm x))).symm
end
def ZH (l:List (List Int)) (w:List Int):Bool:= !l.any fun v=> !decide (v=w)&&decide (jf v w=w.length)
def pO (l:List (List Int)):List (List Int):=nK iM (l.filter (ZH l))
theorem mQ {l:List (List Int)} {w:List Int}:ZH l w=true↔∀v∈l,v≠w->¬w<+:v:=by
 unfold ZH;rw [aqy,arM];constructor;·intro h v hv hne hp;have:=h v hv;simp only [hne,arR,Bool.not_false,aq1,gQ] at this;exact this (oW.2 hp)
 intro h v hv;simp only [gP,aqy,aqm,gQ];rintro ⟨hne,hc⟩;exact h v hv hne (oW.1 hc)
def qX (L:List (List Int)) (i:Nat):Bool:=decide (i+1=L.length)|| !decide (jf (L.getD (i+1) []) (L.getD i [])=(L.getD i []).length)
def nM (L:List (List Int)) (k:Nat):List (List Int):=((List.range k).filter (qX L)).map (fun i=>L.getD i [])
theorem xA (L:List (List Int)) (k:Nat):nM L (k+1)=if qX L k=true then nM L k++[L.getD k []] else nM L k:=by
 unfold nM;rw [aqg,fV];by_cases h:qX L k=true;·rw [bQ h];simp [h]
 rw [bO h];simp [h]
theorem Sk (L:List (List Int)) (k:Nat):(nM L k).length<=k:=by
 unfold nM;rw [dJ];have:=fK (qX L) (List.range k);simpa using this
theorem Dk:∀{w u v:List Int},jc w u<=0->jc u v<=0->w<+:v->w<+:u
 |[],_,_,_,_,_=>List.nil_prefix
 |x::w,[],_,h,_,_=>by simp [jc] at h
 |x::w,y::u,[],_,_,h3=>by simp at h3
 |x::w,y::u,z::v,h1,h2,h3=>by
  rw [aqW] at h3
  obtain ⟨rfl,h3⟩:=h3
  simp only [jc] at h1 h2
  have hxy:x=y:=by
   split at h1
   ·rename_i e;exact e
   rename_i e
   split at h2
   ·rename_i e2;exact e2.symm
   have h4:tQ x y<0:=by
    rcases arL x y with h|h|h
    ·rw [zF h];decide
    ·exact absurd h e
    rw [B_ h] at h1;omega
   have h5:=yA.1 h4
   rw [B_ h5] at h2
   omega
  subst hxy
  rw [bQ rfl] at h1 h2
  rw [aqW]
  exact ⟨rfl,Dk h1 h2 h3⟩
theorem FH {L:List (List Int)} (h:Asc jc L) {i:Nat} (hi:i<L.length):qX L i=true↔∀v∈L,v≠L[i]->¬L[i]<+:v:=by
 have hp:=arO.1 h;have gi:L.getD i []=L[i]:=by rw [bS,bN hi];rfl
 unfold qX;rw [arv,gX,aqy,aqm,gi];by_cases hl:i+1<L.length
 ·have gn:L.getD (i+1) []=L[i+1]:=by rw [bS,bN hl];rfl
  rw [gn,oW];constructor
  ·rintro (e|hk) v hv hne yQ;·omega
   obtain ⟨j,hj,rfl⟩:=fq hv;have h0:=zJ yQ;by_cases hji:j<i;·have:=hp j i hj hi hji;omega
   have hij:i<j:=by
    by_cases e:i=j;·subst e;exact absurd rfl hne
    omega
   by_cases e:i+1=j;·subst e;exact hk yQ
   have h1:=hp i (i+1) hi hl ah;have h2:=hp (i+1) j hl hj ah;exact hk (Dk ah ah yQ)
  intro hk;refine .inr fun yQ=>hk L[i+1] (dQ hl) (fun e=> ?_) yQ;have h1:=hp i (i+1) hi hl ah;rw [e,AA] at h1;omega
 constructor
 ·intro _ v hv hne yQ;obtain ⟨j,hj,rfl⟩:=fq hv;have h0:=zJ yQ;by_cases hji:j<i;·have:=hp j i hj hi hji;omega
  have:i=j:=ah;subst this;exact absurd rfl hne
 intro _;exact .inl ah
theorem FI {L:List (List Int)} (h:Asc jc L) {x:List Int}:x∈nM L L.length↔x∈L/\ZH L x=true:=by
 unfold nM;rw [aqJ];constructor
 ·rintro ⟨i,hi,rfl⟩;rw [aq8,aqE] at hi;have gi:L.getD i []=L[i]:=by rw [bS,bN hi.1];rfl
  rw [gi];exact ⟨dQ _,mQ.2 ((FH h hi.1).1 hi.2)⟩
 rintro ⟨hx,ht⟩;obtain ⟨i,hi,rfl⟩:=fq hx;have gi:L.getD i []=L[i]:=by rw [bS,bN hi];rfl
 exact ⟨i,aq8.2 ⟨aqE.2 hi,(FH h hi).2 (mQ.1 ht)⟩,gi⟩
theorem ZI (l:List (List Int)):nK iM (nM (nK jc l) (nK jc l).length)=pO l:=by
 unfold pO;refine vL jF (rH jF _) (rH jF _) fun x=> ?_;rw [j_ jF,j_ jF,FI (rH rG l),j_ rG,aq8];constructor;·rintro ⟨h1,h2⟩;refine ⟨h1,mQ.2 fun v hv=>mQ.1 h2 v ((j_ rG).2 hv)⟩
 rintro ⟨h1,h2⟩;refine ⟨h1,mQ.2 fun v hv=>mQ.1 h2 v ((j_ rG).1 hv)⟩
end
section
end
