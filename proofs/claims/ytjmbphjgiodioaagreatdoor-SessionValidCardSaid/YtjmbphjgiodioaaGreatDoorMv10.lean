/- Several texts, one behind the other. Conditions: as each of them says. -/
import Derived.Test.YtjmbphjgiodioaaGreatDoorMv7
import Derived.WalkSpells
set_option maxRecDepth 100000
set_option maxHeartbeats 32000000
namespace Go.Proofs.YtjmbphjgiodioaaGreatDoor
open Go.RowKit
section
variable {M:Nat→Prop} {w:World} {a:Option Addr} {c:Nat} {l:List Int}
theorem clone_own (h:Sl M w a c l) (hl:l.length<1000000000000):
    Calls Tryz.prog 97 #[.slice a l.length c] w fun e w'=>∃a' c' l',e= .returned (.slice a' l'.length c')∧Hid (l'=l)∧Ow w.heap.size (fun k=>w.heap.size≤k) w' 3 (.slice a' l'.length c') l'∧Below w.heap.size w w':=by
 have he:=fun (w:World) (a:Option Addr) (n c:Nat)=>Lib.run_eql_slice_nil (P:=Tryz.prog) w 94 3 a n c 0 0 Tryz.underlying94
 cases a with
 |none=>
  have h0:l=[]:=by
   cases l with
   |nil=>rfl
   |cons x l=>obtain ⟨_,_,_,ha,_⟩:=h.at_int (j:=0) (by simp);cases ha
  subst h0
  go_enter Tryz.func97,Tryz.ntmps97
  go_wp2
  go_ret
  exact ⟨none,0,[],rfl,rfl,Ow.nil,Below.refl _ _⟩
 |some ad=>
  go_enter Tryz.func97,Tryz.ntmps97
  go_wp2_with (at_builtin;refine wpList_app_ints (B:=w.heap.size) (l0:=[]) rfl rfl Tryz.underlying94 info_int rfl rfl (Ow.zero (Nat.le_refl _)) (h.alloc _) (by simpa using hl) (by simp) ?_)
  intro a' c' l' w' hl' hO hb
  go_wp2
  go_ret
  exact ⟨a',c',l',rfl,by simpa using hl',hO,((Below.refl _ _).alloc (Nat.le_refl _) _).trans hb⟩
theorem clone_any (h:Sl M w a c l) (hl:l.length<1000000000000):
    Calls Tryz.prog 97 #[.slice a l.length c] w fun e w'=>∃a' c' l',e= .returned (.slice a' l'.length c')∧Hid (l'=l)∧Sl (fun k=>k<w.heap.size) w' a' c' l'∧Below w.heap.size w w':=
 (clone_own h hl).mono fun _ _ ⟨a',c',l',h1,h2,h3,h4⟩=>⟨a',c',l',h1,h2,h3.fresh (Nat.le_refl _),h4⟩
end
section
variable {P:Program} {w:World} {o:Oper} {a:Act} {ops:Array Oper} {rest:List Oper} {Q:Exit→Act→World→Prop}
theorem wpList_app_rows {l0 l1:List (List Int)} {s x:Operand} {t e:TypeId} {B:Nat} {v:Value} {ad:Addr} {c:Nat} (hg:o.guard=none) (hop:o.op= .call {callee:= .builtin .append,args:= #[s,x],argTypes:= #[t,t]})
    (ht:P.underlying t=some (.slice e)) (hi:(P.info? e).map (fun i=>(i.zero,i.size,i.bytes))=some (some (.slice none 0 0),1,24))
    (hs:a.eval s=v) (hx:a.eval x= .slice (some ad) l1.length c) (hown:Ow B (fun k=>B≤k) w e v l0) (hsrc:Sl (fun k=>B≤k) w (some ad) c l1)
    (hlen:l0.length+l1.length<1000000000000) (hB:B≤w.heap.size)
    (h:∀(a':Option Addr) (c':Nat) (l':List (List Int)) (w':World),Hid (l'=l0++l1)→Ow B (fun k=>B≤k) w' e (.slice a' l'.length c') l'→Below B w w'→
     wpList P ops Q rest (a.put o.dst (.slice a' l'.length c')) w'):wpList P ops Q (o::rest) a w:=by
 obtain ⟨i,hi1,hi2,hi3,hi4⟩:=info_parts hi
 have hown0:=hown
 obtain ⟨xs,hr,hrep⟩:=hown
 have hcell:∀(j:Nat) (r:List Int),l1[j]? =some r→∃a' c',w.cell? (ad.add j)=some (.slice a' r.length c')∧Sl (fun k=>B≤k) w a' c' r:=by
  intro j r hj
  have hjl:j<l1.length:=by
   by_cases e:j<l1.length
   ·exact e
   rw [List.getElem?_eq_none (by omega)] at hj;simp at hj
  obtain ⟨b,off,a',r',c',had,hc,hr',hsl⟩:=hsrc.at_row hjl
  have had':ad=⟨b,off,none⟩:=by simpa using had
  have hz':r=r':=by have:=hr'.out;rw [hj] at this;simpa using this
  subst hz'
  refine ⟨a',c',?_,hsl⟩
  rw [had',Addr.add]
  split
  ·rename_i h0;subst h0;simpa using hc
  exact hc
 have hnews:∀(j:Nat) (u:Value),((List.range l1.length).map fun j=>(w.cell? (ad.add j)).getD (.int .i64 0))[j]? =some u→∃r,l1[j]? =some r∧∃a' c',u= .slice a' r.length c'∧w.cell? (ad.add j)=some u∧Sl (fun k=>B≤k) w a' c' r:=by
  intro j u hj
  rw [List.getElem?_map] at hj
  obtain ⟨y,hy,rfl⟩:=Option.map_eq_some_iff.1 hj
  have hjl:j<l1.length:=by
   by_cases e:j<l1.length
   ·exact e
   rw [List.getElem?_eq_none (by simp;omega)] at hy;simp at hy
  rw [List.getElem?_range hjl] at hy
  obtain rfl:j=y:=by simpa using hy
  obtain ⟨a',c',hc,hsl⟩:=hcell j l1[j] (List.getElem?_eq_getElem hjl)
  exact ⟨l1[j],List.getElem?_eq_getElem hjl,a',c',by rw [hc];rfl,by rw [hc];rfl,hsl⟩
 refine wpList_append_own w hg s x t hop B e i (.slice none 0 0) 1 24 ht hi1 hi2 hi3 hi4 rfl (by decide) v l0.length xs hs hr ad l1.length c ((List.range l1.length).map fun j=>(w.cell? (ad.add j)).getD (.int .i64 0)) hx (by simp) ?_ ?_ (by unfold maxLen;omega) (by omega) hB ?_
 ·intro j u hj
  obtain ⟨_,_,_,_,_,hc,_⟩:=hnews j u hj
  exact hc
 ·intro u hu
  obtain ⟨j,hj,hu⟩:=List.getElem_of_mem hu
  obtain ⟨_,_,_,_,rfl,_⟩:=hnews j u (by rw [List.getElem?_eq_getElem hj,hu])
  rfl
 intro v' w' ho hgr hiff
 have hl0:xs.length=l0.length:=by have:=hr.1;simpa [GR.sz] using this
 have hE:Ext (fun k=>B≤k) (fun k=>B≤k) w w':=⟨hgr.size,fun k hk hm=>hgr.block k hk fun e=>hm (hown0.lt k e.symm).1,fun k hk hm=>hm⟩
 have hpush:Ow B (fun k=>B≤k) w' e v' (l0++l1):=by
  refine ⟨xs++(List.range l1.length).map fun j=>(w.cell? (ad.add j)).getD (.int .i64 0),by simpa [GR.sz] using ho,fun j y hj=> ?_⟩
  by_cases hlt:j<l0.length
  ·rw [List.getElem?_append_left hlt] at hj
   have:=GR.ext hE (hrep j y hj)
   simp only [GR.sz,Nat.mul_one] at this ⊢
   rw [List.drop_append_of_le_length (by omega),List.take_append_of_le_length (by simp;omega)]
   exact this
  rw [List.getElem?_append_right (by omega)] at hj
  have hjl:j-l0.length<l1.length:=by
   by_cases e:j-l0.length<l1.length
   ·exact e
   rw [List.getElem?_eq_none (by omega)] at hj;simp at hj
  obtain ⟨a',c',hc,hsl⟩:=hcell _ _ hj
  simp only [GR.sz,Nat.mul_one]
  have e1:((xs++(List.range l1.length).map fun j=>(w.cell? (ad.add j)).getD (.int .i64 0)).drop j).take 1=[.slice a' y.length c']:=by
   apply List.ext_getElem?
   intro q
   rcases q with _|q
   ·rw [List.getElem?_take,if_pos (by omega),List.getElem?_drop,List.getElem?_append_right (by omega),List.getElem?_map,hl0,Nat.add_zero,List.getElem?_range hjl]
    simp [hc]
   rw [List.getElem?_take,if_neg (by omega)];rfl
  rw [e1]
  exact ⟨a',c',rfl,hsl.ext hE⟩
 obtain ⟨a',c',hv,_,_⟩:=hpush.shape
 rw [hv]
 rw [hv] at hpush
 exact h a' c' _ w' rfl hpush ((Below.refl _ _).grown hgr hB (fun k hk=>(hown0.lt k hk).1))
end
section
variable {M:Nat→Prop} {w:World} {a:Option Addr} {c:Nat} {l:List (List Int)}
theorem fresh_M {α:Type} [GR α] {l:List α} (h:Sl M w a c l):Sl (fun k=>w.heap.size≤k) w a c l:=h.ext (Ext.sub_only fun k hk hm=>by omega)
theorem cloneR_any (h:Sl M w a c l) (hl:l.length<1000000000000):
    Calls Tryz.prog 294 #[.slice a l.length c] w fun e w'=>∃a' c' l',e= .returned (.slice a' l'.length c')∧Hid (l'=l)∧Ow w.heap.size (fun k=>w.heap.size≤k) w' 94 (.slice a' l'.length c') l'∧Below w.heap.size w w':=by
 have he:=fun (w:World) (a:Option Addr) (n c:Nat)=>Lib.run_eql_slice_nil (P:=Tryz.prog) w 27 94 a n c 0 0 Tryz.underlying27
 cases a with
 |none=>
  have h0:l=[]:=by
   cases l with
   |nil=>rfl
   |cons x l=>obtain ⟨_,_,_,_,_,ha,_⟩:=h.at_row (j:=0) (by simp);cases ha
  subst h0
  go_enter Tryz.func294,Tryz.ntmps294
  go_wp2
  go_ret
  exact ⟨none,0,[],rfl,rfl,Ow.nil,Below.refl _ _⟩
 |some ad=>
  have hs:=(fresh_M h).alloc (.cells #[] 94)
  go_enter Tryz.func294,Tryz.ntmps294
  go_wp2_with (at_builtin;refine wpList_app_rows (B:=w.heap.size) (l0:=[]) rfl rfl Tryz.underlying27 info_ints rfl rfl (Ow.zero (Nat.le_refl _)) hs (by simpa using hl) (by simp) ?_)
  intro a' c' l' w' hl' hO hb
  go_wp2
  go_ret
  exact ⟨a',c',l',rfl,by simpa using hl',hO,((Below.refl _ _).alloc (Nat.le_refl _) _).trans hb⟩
end
end Go.Proofs.YtjmbphjgiodioaaGreatDoor
