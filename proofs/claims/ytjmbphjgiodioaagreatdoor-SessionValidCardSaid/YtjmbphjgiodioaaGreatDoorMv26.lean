/- Several texts, one behind the other. Conditions: as each of them says. -/
import Derived.Test.YtjmbphjgiodioaaGreatDoorMv13
import Derived.Test.YtjmbphjgiodioaaGreatDoorMv10
import Derived.Test.YtjmbphjgiodioaaGreatDoorMv7
import Derived.Test.YtjmbphjgiodioaaGreatDoorMv3
import Derived.Lib.SliceRun
set_option maxRecDepth 100000
set_option maxHeartbeats 32000000
namespace Go.Proofs.YtjmbphjgiodioaaGreatDoor
open Go.RowKit Go.Sort
theorem cpt_snoc:∀(v:List Int) (l:List (List Int)) (x:List Int),cpt v (l++[x])=if x=(v::l).getLast (by simp) then cpt v l else cpt v l++[x]
 |v,[],x=>by by_cases e:x=v<;>simp [cpt,e]
 |v,w::l,x=>by
  have ih:=cpt_snoc w l x
  rw [List.getLast_cons (by simp)]
  simp only [List.cons_append,cpt]
  by_cases e:w=v
  ·rw [if_pos e,if_pos e,ih]
  rw [if_neg e,if_neg e,ih]
  split<;>simp
theorem cpc_step {L:List (List Int)} {p:Nat} {x y:List Int} (hp:0<p) (hx:L[p]? =some x) (hy:L[p-1]? =some y):cpc (L.take (p+1))=if x=y then cpc (L.take p) else cpc (L.take p)++[x]:=by
 have hpl:p<L.length:=by
  by_cases e:p<L.length
  ·exact e
  rw [List.getElem?_eq_none (by omega)] at hx;simp at hx
 rw [List.take_add_one,hx]
 simp only [Option.toList_some]
 obtain ⟨v,l,hl⟩:∃v l,L.take p=v::l:=by
  cases h:L.take p with
  |nil=>have:=congrArg List.length h;rw [List.length_take,List.length_nil] at this;omega
  |cons v l=>exact ⟨v,l,rfl⟩
 have hlast:(v::l).getLast (by simp)=y:=by
  have e1:(L.take p).getLast? =some y:=by
   rw [List.getLast?_eq_getElem?,List.length_take,Nat.min_eq_left (show p≤L.length by omega),List.getElem?_take,if_pos (show p-1<p by omega)];exact hy
  rw [hl,List.getLast?_eq_some_getLast (by simp)] at e1
  simpa using e1
 rw [hl]
 simp only [List.cons_append,cpc]
 rw [cpt_snoc,hlast]
 split<;>simp
def Dist (L:List (List Int)) (k:Nat):Prop:=cpc (L.take k)=L.take k
theorem dist_one {L:List (List Int)}:Dist L 1:=by
 unfold Dist
 cases L with
 |nil=>rfl
 |cons v l=>simp [cpc,cpt]
theorem dist_succ {L:List (List Int)} {p:Nat} {x y:List Int} (hp:0<p) (hx:L[p]? =some x) (hy:L[p-1]? =some y) (h:Dist L p) (e:x≠y):Dist L (p+1):=by
 unfold Dist at h ⊢
 rw [cpc_step hp hx hy,if_neg e,h,List.take_add_one,hx];rfl
theorem dist_all {L:List (List Int)} {p:Nat} (hp:¬p<L.length) (h:Dist L p):L=cpc L:=by
 unfold Dist at h
 rw [List.take_of_length_le (by omega)] at h
 exact h.symm
theorem short_cpc {L:List (List Int)} (h:L.length<2):L=cpc L:=by
 match L,h with
 |[],_=>rfl
 |[v],_=>simp [cpc,cpt]
section
variable {B:Nat} {M:Nat→Prop} {w:World} {T:TypeId} {a:Option Addr} {c n:Nat}
theorem Ow.at_row {l:List (List Int)} {g:Nat} (h:Ow B M w T (.slice (some ⟨g,0,none⟩) n c) l) (hn:n=l.length) {j:Nat} (hj:j<l.length):
    ∃a' r c',w.cell? ⟨g,j,none⟩=some (.slice a' r.length c')∧w.frozen? ⟨g,j,none⟩=false∧Hid (l[j]? =some r)∧Sl M w a' c' r:=by
 subst hn
 obtain ⟨xs,h1,h2⟩:=h
 obtain ⟨a',c',h3,h4⟩:=h2 j l[j] (by simp [hj])
 refine ⟨a',l[j],c',?_,h1.frozenAt j,by unfold Hid;simp [hj],h4⟩
 rw [h1.cellAt j (by simpa [GR.sz] using hj)]
 exact take_drop_one h3
theorem Ow.set_row {l:List (List Int)} {g:Nat} (h:Ow B M w T (.slice (some ⟨g,0,none⟩) n c) l) (hn:n=l.length) (hM:M g) {a':Option Addr} {c':Nat} {r:List Int} (j:Nat) (hr:Sl M w a' c' r):
    Ow B M (w.setCell ⟨g,j,none⟩ (.slice a' r.length c')) T (.slice (some ⟨g,0,none⟩) n c) (l.set j r):=by
 subst hn
 exact Ow.set rfl h hM ⟨a',c',rfl,hr.ext (Ext.setCell w (p:=⟨g,j,none⟩) hM _)⟩
theorem Ow.clear {g:Nat} (hM:M g):∀(q:Nat) (k:Nat) (l:List (List Int)) (w:World),Ow B M w T (.slice (some ⟨g,0,none⟩) n c) l→n=l.length→k+q=n→
    ∃l',l'.length=n∧l'.take k=l.take k∧Ow B M (w.setCells g k (List.replicate q (.slice none 0 0))) T (.slice (some ⟨g,0,none⟩) n c) l'
 |0,k,l,w,h,hn,hk=>⟨l,hn.symm,rfl,h⟩
 |q+1,k,l,w,h,hn,hk=>by
  have h2:=h.set_row hn hM k (Sl.nil (α:=Int) M w none (c:=0) (by unfold maxLen;omega))
  obtain ⟨l',e1,e2,e3⟩:=Ow.clear hM q (k+1) (l.set k []) _ h2 (by simpa using hn) (by omega)
  refine ⟨l',e1,?_,e3⟩
  have:(l'.take (k+1)).take k=((l.set k []).take (k+1)).take k:=by rw [e2]
  rw [List.take_take,List.take_take,Nat.min_eq_left (by omega)] at this
  rw [this,List.take_set_of_le (by omega)]
theorem Ow.take {α:Type} [GR α] {l:List α} {g:Nat} (h:Ow B M w T (.slice (some ⟨g,0,none⟩) n c) l) (hn:n=l.length) {k:Nat} (hk:k≤n):Ow B M w T (.slice (some ⟨g,0,none⟩) k c) (l.take k):=by
 subst hn
 obtain ⟨xs,h1,h2⟩:=h
 have hxl:xs.length=l.length*GR.sz α:=h1.1
 have hkl:(l.take k).length=k:=by rw [List.length_take];omega
 have hmul:k*GR.sz α≤l.length*GR.sz α:=Nat.mul_le_mul_right _ hk
 rcases h1.2 with ⟨hv, -⟩|⟨g',cap,cur,hv,hb,hg,h3,h4,h5,h6⟩
 ·simp at hv
 simp only [Value.slice.injEq,Option.some.injEq,Addr.mk.injEq,true_and,and_true] at hv
 obtain ⟨rfl,rfl⟩:=hv
 refine ⟨xs.take (k*GR.sz α),⟨by rw [hkl,List.length_take];omega,.inr ⟨g,c,cur,by rw [hkl],hb,hg,by omega,h4,h5,by rw [hkl,←h6,List.take_take,Nat.min_eq_left hmul]⟩⟩,fun j x hj=> ?_⟩
 have hjk:j<k:=by
  by_cases e:j<k
  ·exact e
  rw [List.getElem?_eq_none (by omega)] at hj;simp at hj
 rw [List.getElem?_take,if_pos hjk] at hj
 have:=h2 j x hj
 have e1:(j+1)*GR.sz α≤k*GR.sz α:=Nat.mul_le_mul_right _ hjk
 rw [Nat.add_mul,Nat.one_mul] at e1
 have e2:((xs.take (k*GR.sz α)).drop (j*GR.sz α)).take (GR.sz α)=(xs.drop (j*GR.sz α)).take (GR.sz α):=by
  rw [List.drop_take,List.take_take,Nat.min_eq_left (by omega)]
 rw [e2];exact this
end
section
variable {M M':Nat→Prop} {w:World} {a b:Option Addr} {c d bo:Nat} {xs ys:List Int}
theorem cmpF_lex:CmpF 112 lexW:=by
 intro M M' w a b c d xs ys h1 h2
 refine (lex_any (M:=fun _=>False) (h1.anti fun _ _ h=>h.elim) (h2.anti fun _ _ h=>h.elim)).mono ?_
 rintro e w' ⟨rfl,hw⟩
 exact ⟨rfl,0,#[],by rw [hw];simp [grow,World.drewN]⟩
theorem ret_bb {p q:Bool} (h:p=q):Ending.returned (.bool p)= .returned (.bool q):=by rw [h]
theorem ordC_any (h1:Sl M w a c xs) (h2:Sl M' w b d ys) (hb:w.cell? ⟨bo,0,none⟩=some (.func (.func 108) #[] #[])):
    Calls Tryz.prog 297 #[.slice a xs.length c,.slice b ys.length d,.pointer (some ⟨bo,0,none⟩)] w fun e w'=>e= .returned (.bool (decide (xs=ys)))∧Below w.heap.size w w':=by
 have HC:=Lib.hid (cmpF_cmp M M' w a b c d xs ys h1 h2)
 have he:((cmpW xs ys==0):Bool)=decide (xs=ys):=by
  by_cases e:xs=ys
  ·subst e;simp [cmp_same]
  simp only [e,decide_false,beq_eq_false_iff_ne]
  exact fun h=>e (cmp_zero h)
 have HE:=Lib.hid he
 clear he
 go_enter Tryz.func297,Tryz.ntmps297
 go_wp2_with fail
 refine (HC.out).mono ?_
 rintro e w1 ⟨rfl,q,os,hw⟩
 have hB:=CmpF.below hw
 clear hw
 go_wp2
 go_ret
 exact ⟨ret_bb HE.out,hB⟩
end
end Go.Proofs.YtjmbphjgiodioaaGreatDoor
