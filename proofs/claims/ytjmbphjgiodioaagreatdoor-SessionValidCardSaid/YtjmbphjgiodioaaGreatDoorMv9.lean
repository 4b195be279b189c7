/- Several texts, one behind the other. Conditions: as each of them says. -/
import Derived.Test.YtjmbphjgiodioaaGreatDoorMv7
import Derived.Sort.Statements
set_option maxRecDepth 100000
set_option maxHeartbeats 32000000
namespace Go.Proofs.YtjmbphjgiodioaaGreatDoor
open Go.RowKit
structure Tot (cf:List Int→List Int→Int):Prop where
 same:∀a,cf a a=0
 zero:∀a b,cf a b=0→a=b
 swap:∀a b,cf b a= -cf a b
 trans:∀a b c,cf a b≤0→cf b c≤0→cf a c≤0∧(cf a b<0→cf a c<0)
theorem tot_cmp:Tot cmpW:=⟨cmp_same,fun _ _=>cmp_zero,cmp_swap,fun _ _ _=>cmp_trans⟩
theorem tot_lex:Tot lexW:=⟨lex_same,fun _ _=>lex_zero,lex_swap,fun _ _ _=>lex_trans⟩
def ins (cf:List Int→List Int→Int) (w:List Int):List (List Int)→List (List Int)
 |[]=>[w]
 |v::l=>if cf v w<0 then v::ins cf w l else if cf v w=0 then v::l else w::v::l
def srt (cf:List Int→List Int→Int) (l:List (List Int)):List (List Int):=l.foldl (fun L w=>ins cf w L) []
def Asc (cf:List Int→List Int→Int) (l:List (List Int)):Prop:=l.Pairwise fun a b=>cf a b<0
section
variable {cf:List Int→List Int→Int}
theorem Tot.lt_trans (h:Tot cf) {a b c:List Int} (h1:cf a b<0) (h2:cf b c<0):cf a c<0:=(h.trans a b c (by omega) (by omega)).2 h1
theorem ins_mem (h:Tot cf) {w x:List Int}:∀{l:List (List Int)},x∈ins cf w l↔x=w∨x∈l
 |[]=>by simp [ins]
 |v::l=>by
  unfold ins
  split
  ·rw [List.mem_cons,ins_mem h (l:=l),List.mem_cons]
   constructor
   ·rintro (h|h|h)
    ·exact .inr (.inl h)
    ·exact .inl h
    exact .inr (.inr h)
   rintro (h|h|h)
   ·exact .inr (.inl h)
   ·exact .inl h
   exact .inr (.inr h)
  split
  ·rename_i h0
   have e:=h.zero _ _ h0
   subst e
   simp
  simp
theorem ins_asc (h:Tot cf) {w:List Int}:∀{l:List (List Int)},Asc cf l→Asc cf (ins cf w l)
 |[],_=>by simp [ins,Asc]
 |v::l,hl=>by
  unfold Asc at hl
  rw [List.pairwise_cons] at hl
  unfold ins
  split
  ·rename_i h1
   refine List.pairwise_cons.2 ⟨fun x hx=> ?_,ins_asc h hl.2⟩
   rcases (ins_mem h).1 hx with rfl|hx
   ·exact h1
   exact hl.1 x hx
  split
  ·exact List.pairwise_cons.2 hl
  rename_i h1 h2
  have h3:cf w v<0:=by rw [h.swap v w];omega
  refine List.pairwise_cons.2 ⟨fun x hx=> ?_,List.pairwise_cons.2 hl⟩
  rcases List.mem_cons.1 hx with rfl|hx
  ·exact h3
  exact h.lt_trans h3 (hl.1 x hx)
theorem srt_snoc (l:List (List Int)) (w:List Int):srt cf (l++[w])=ins cf w (srt cf l):=by unfold srt;rw [List.foldl_append];rfl
theorem srt_succ {l:List (List Int)} {k:Nat} {w:List Int} (h:l[k]? =some w):srt cf (l.take (k+1))=ins cf w (srt cf (l.take k)):=by
 rw [List.take_add_one,h];exact srt_snoc _ _
theorem foldl_ins (h:Tot cf):∀(l:List (List Int)) (L:List (List Int)),Asc cf L→Asc cf (l.foldl (fun L w=>ins cf w L) L)∧∀x,x∈l.foldl (fun L w=>ins cf w L) L↔x∈l∨x∈L
 |[],L,hL=>⟨hL,fun x=>by simp⟩
 |w::l,L,hL=>by
  obtain ⟨h1,h2⟩:=foldl_ins h l (ins cf w L) (ins_asc h hL)
  refine ⟨h1,fun x=> ?_⟩
  rw [List.foldl_cons,h2 x,ins_mem h,List.mem_cons]
  constructor
  ·rintro (h|h|h)
   ·exact .inl (.inr h)
   ·exact .inl (.inl h)
   exact .inr h
  rintro ((h|h)|h)
  ·exact .inr (.inl h)
  ·exact .inl h
  exact .inr (.inr h)
theorem srt_asc (h:Tot cf) (l:List (List Int)):Asc cf (srt cf l):=(foldl_ins h l [] (by simp [Asc])).1
theorem srt_mem (h:Tot cf) {l:List (List Int)} {x:List Int}:x∈srt cf l↔x∈l:=by
 have:=(foldl_ins h l [] (by simp [Asc])).2 x
 simpa [srt] using this
theorem asc_unique (h:Tot cf):∀{l l':List (List Int)},Asc cf l→Asc cf l'→(∀x,x∈l↔x∈l')→l=l'
 |[],[],_,_,_=>rfl
 |[],y::l',_,_,hm=>by have:=(hm y).2 (by simp);simp at this
 |x::l,[],_,_,hm=>by have:=(hm x).1 (by simp);simp at this
 |x::l,y::l',hl,hl',hm=>by
  unfold Asc at hl hl'
  rw [List.pairwise_cons] at hl hl'
  have hxy:x=y:=by
   rcases List.mem_cons.1 ((hm x).1 (by simp)) with e|e
   ·exact e
   rcases List.mem_cons.1 ((hm y).2 (by simp)) with e2|e2
   ·exact e2.symm
   have h1:=hl'.1 x e
   have h2:=hl.1 y e2
   have h3:=h.swap x y
   omega
  subst hxy
  have hnl:∀z∈l,z≠x:=fun z hz e=>by have:=hl.1 z hz;rw [e,h.same] at this;omega
  have hnl':∀z∈l',z≠x:=fun z hz e=>by have:=hl'.1 z hz;rw [e,h.same] at this;omega
  rw [asc_unique h hl.2 hl'.2 fun z=>⟨fun hz=>by
   rcases List.mem_cons.1 ((hm z).1 (by simp [hz])) with e|e
   ·exact absurd e (hnl z hz)
   ·exact e,fun hz=>by
   rcases List.mem_cons.1 ((hm z).2 (by simp [hz])) with e|e
   ·exact absurd e (hnl' z hz)
   exact e⟩]
theorem srt_of (h:Tot cf) {l L:List (List Int)} (ha:Asc cf L) (hm:∀x,x∈L↔x∈l):srt cf l=L:=
 asc_unique h (srt_asc h l) ha fun x=>by rw [srt_mem h,hm]
theorem srt_len (l:List (List Int)):(srt cf l).length≤l.length:=by
 have hi:∀(w:List Int) (L:List (List Int)),(ins cf w L).length≤L.length+1:=by
  intro w L
  induction L with
  |nil=>simp [ins]
  |cons v L ih=>unfold ins;split<;>(try split)<;>simp<;>omega
 have:∀k,k≤l.length→(srt cf (l.take k)).length≤k:=by
  intro k
  induction k with
  |zero=>intro _;simp [srt]
  |succ k ih=>
   intro hk
   rw [srt_succ (List.getElem?_eq_getElem (show k<l.length by omega))]
   have:=hi l[k] (srt cf (l.take k))
   have:=ih (by omega)
   omega
 have h:=this l.length (Nat.le_refl _)
 rwa [List.take_length] at h
end
def cpt:List Int→List (List Int)→List (List Int)
 |_,[]=>[]
 |v,w::l=>if w=v then cpt w l else w::cpt w l
def cpc:List (List Int)→List (List Int)
 |[]=>[]
 |v::l=>v::cpt v l
theorem cpt_le:∀(v:List Int) (l:List (List Int)),(cpt v l).length≤l.length
 |_,[]=>Nat.le_refl _
 |v,w::l=>by
  unfold cpt
  have:=cpt_le w l
  split<;>simp<;>omega
section
variable {cf:List Int→List Int→Int}
def Ord (cf:List Int→List Int→Int) (l:List (List Int)):Prop:=l.Pairwise fun a b=>cf a b≤0
theorem cpt_mem:∀{v:List Int} {l:List (List Int)} {x:List Int},x∈v::cpt v l↔x∈v::l
 |v,[],x=>by simp [cpt]
 |v,w::l,x=>by
  unfold cpt
  have ih:=cpt_mem (v:=w) (l:=l) (x:=x)
  by_cases e:w=v
  ·subst e
   rw [if_pos rfl,ih]
   simp
  rw [if_neg e]
  simp only [List.mem_cons] at ih ⊢
  constructor
  ·rintro (h|h)
   ·exact .inl h
   exact .inr (ih.1 h)
  rintro (h|h)
  ·exact .inl h
  exact .inr (ih.2 h)
theorem cpt_asc (h:Tot cf):∀{v:List Int} {l:List (List Int)},Ord cf (v::l)→Asc cf (v::cpt v l)
 |v,[],_=>by simp [cpt,Asc]
 |v,w::l,ho=>by
  unfold Ord at ho
  rw [List.pairwise_cons] at ho
  have ih:=cpt_asc h (v:=w) (l:=l) ho.2
  unfold cpt
  by_cases e:w=v
  ·subst e;rw [if_pos rfl];exact ih
  rw [if_neg e]
  refine List.pairwise_cons.2 ⟨fun x hx=> ?_,ih⟩
  have hvw:cf v w<0:=by
   have h1:=ho.1 w (by simp)
   have h2:cf v w≠0:=fun h0=>e (h.zero _ _ h0).symm
   omega
  rcases List.mem_cons.1 hx with rfl|hx
  ·exact hvw
  unfold Asc at ih
  rw [List.pairwise_cons] at ih
  exact h.lt_trans hvw (ih.1 x hx)
theorem cpc_srt (h:Tot cf) {l L:List (List Int)} (hp:L.Perm l) (ho:Ord cf L):cpc L=srt cf l:=by
 have hm:∀x,x∈L↔x∈l:=fun x=>hp.mem_iff
 cases L with
 |nil=>exact (srt_of h (by simp [cpc,Asc]) (by simpa [cpc] using hm)).symm
 |cons v L=>exact (srt_of h (cpt_asc h ho) fun x=>(cpt_mem.trans (hm x))).symm
end
end Go.Proofs.YtjmbphjgiodioaaGreatDoor
