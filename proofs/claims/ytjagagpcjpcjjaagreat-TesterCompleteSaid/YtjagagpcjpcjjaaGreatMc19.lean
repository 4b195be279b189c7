/- Several texts, one behind the other. Conditions: as each of them says. -/
import Derived.Test.YtjagagpcjpcjjaaGreatMc9
import Derived.Test.YtjagagpcjpcjjaaGreatMc7
import Derived.WalkSpells
import Derived.Lib.Walk
import Derived.Lib.SliceRun
import Derived.Lib.AppendZerosOnto
set_option maxRecDepth 100000
set_option maxHeartbeats 32000000
namespace Go.Proofs.YtjagagpcjpcjjaaGreat
open Go.RowKit
section
variable {P:Program} {w:World} {o:Oper} {a:Act} {ops:Array Oper} {rest:List Oper} {Q:Exit→Act→World→Prop}
theorem app_none {B:Nat} {t ty e:TypeId} {i:TypeInfo} {n size:Nat} {v:Value} {xs:List Value} (ht:P.underlying t=some (.slice e)) (hi:P.info? e=some i) (h:w.ownsRow B e size v n xs) (c:Nat):
    (Builtin.append_ #[t,t] ty #[v,.slice none 0 c]).run P w= .ok v w:=by
 rcases h.2 with ⟨rfl,rfl⟩|⟨g,cap,cur,rfl,_,_,hnc,_⟩
 ·simp [Builtin.append_,run_underlying ht,sizeOf,typeInfo,hi,Builtin.lenOf,Builtin.firstCells]
 simp [Builtin.append_,run_underlying ht,sizeOf,typeInfo,hi,Builtin.lenOf,Builtin.firstCells,hnc,storeCells]
theorem wpList_app_any {l0 l1:List Int} {s x:Operand} {t e:TypeId} {B:Nat} {M:Nat→Prop} {v:Value} {A:Option Addr} {c:Nat} (hg:o.guard=none) (hop:o.op= .call {callee:= .builtin .append,args:= #[s,x],argTypes:= #[t,t]})
    (ht:P.underlying t=some (.slice e)) (hi:(P.info? e).map (fun i=>(i.zero,i.size,i.bytes))=some (some (.int .i64 0),1,8))
    (hs:a.eval s=v) (hx:a.eval x= .slice A l1.length c) (hown:Ow B (fun k=>B≤k) w e v l0) (hsrc:Sl M w A c l1)
    (hlen:l0.length+l1.length<1000000000000) (hB:B≤w.heap.size)
    (h:∀(a':Option Addr) (c':Nat) (l':List Int) (w':World),Hid (l'=l0++l1)→Ow B (fun k=>B≤k) w' e (.slice a' l'.length c') l'→Below B w w'→
     wpList P ops Q rest (a.put o.dst (.slice a' l'.length c')) w'):wpList P ops Q (o::rest) a w:=by
 cases A with
 |some ad=>exact wpList_app_ints hg hop ht hi hs hx hown hsrc hlen hB h
 |none=>
  have h0:l1=[]:=by
   cases l1 with
   |nil=>rfl
   |cons x l=>obtain ⟨_,_,_,ha,_⟩:=hsrc.at_int (j:=0) (by simp);cases ha
  subst h0
  obtain ⟨i,hi1,_⟩:=info_parts hi
  obtain ⟨a',c',hv,_,_⟩:=hown.shape
  have hown0:=hown
  obtain ⟨xs,hr,_⟩:=hown
  refine wpList_plain hg fun K hK=> ?_
  have hrun:=app_none (ty:=o.type) ht hi1 hr c
  unfold Oper.wp execOp
  simp only [hop,resolve,invoke,builtin,Sem.run_bind,Sem.run_pure,Result.andThen_ok,List.map_toArray,List.map_cons,List.map_nil,hs,hx,List.length_nil,hrun]
  show K (a.put o.dst v) w
  rw [hv] at hown0 ⊢
  exact hK _ _ (h a' c' l0 w (by unfold Hid;simp) hown0 (Below.refl _ _))
end
section
variable {M:Nat→Prop} {w:World}
theorem grow_zero:Calls Tryz.prog 177 #[.slice none 0 0,.int .i64 0] w fun e w'=>∃a c,e= .returned (.slice a 0 c)∧Ow (α:=Int) w.heap.size (fun k=>w.heap.size≤k) w' 3 (.slice a 0 c) []∧Below w.heap.size w w':=by
 go_enter Tryz.func177,Tryz.ntmps177
 go_wp2
 go_ret
 exact ⟨none,0,rfl,Ow.nil,Below.refl _ _⟩
theorem grow_some (n:Nat) (h0:0<n) (hn:n<1000000000000):Calls Tryz.prog 177 #[.slice none 0 0,.int .i64 n] w fun e w'=>∃a c,e= .returned (.slice a 0 c)∧Ow (α:=Int) w.heap.size (fun k=>w.heap.size≤k) w' 3 (.slice a 0 c) []∧Below w.heap.size w w':=by
 obtain ⟨i,hi1,hi2,hi3,hi4⟩:=info_parts info_int
 have hold:(Builtin.firstCells i.size 0 (.slice none 0 0)).run Tryz.prog w.drew= .ok (([]:List Value).toArray) w.drew:=run_firstCells_none w.drew i.size 0 0 0
 have hGn:n≤grownCap w n 0 3:=grownCap_ge w _ _ _
 have hGm:grownCap w n 0 3≤maxLen:=grownCap_le_maxLen w n 0 3 (by unfold maxLen;omega)
 obtain ⟨cur,hcs,hrz⟩:∃cur:Array Value,cur.size=grownCap w n 0 3∧∀ty,(Builtin.append_ #[49,3] ty #[.slice none 0 0,.int .i64 ((n:Nat):Int)]).run Tryz.prog w= .ok (.slice (some ⟨w.heap.size,0,none⟩) n (grownCap w n 0 3)) (w.drew.alloc (.cells cur 3)):=by
  refine ⟨([]:List Value).toArray++Builtin.zeroCells (Value.int .i64 0).cells n++Builtin.zeroCells (Value.int .i64 0).cells (grownCap w n 0 3-n),?_,fun ty=> ?_⟩
  rotate_left
  ·have h:=Lib.run_append_grow_zeros w 49 3 ty 3 i (.int .i64 0) .i64 .i64 Tryz.underlying49 Tryz.underlying3 hi1 hi2 none 0 0 [] hold n h0 (by rw [hi3];omega) (by omega) (by omega) (by rw [hi4];omega) (by rw [hi4];exact growslice_fits (by omega) (by omega))
   rw [Nat.zero_add] at h
   exact h
  simp [Builtin.zeroCells,Value.cells]
  try omega
 obtain ⟨G,hG⟩:∃G,G=grownCap w n 0 3:=⟨_,rfl⟩
 rw [←hG] at hrz hGn hGm hcs
 have hG63:G≤9223372036854775807:=by unfold maxLen at hGm;omega
 have HC:=Lib.hid hcs
 clear hold hG hcs
 go_enter Tryz.func177,Tryz.ntmps177
 go_wp2_with (at_builtin;refine Lib.wpList_append_run _ rfl _ _ _ _ rfl _ _ rfl rfl _ _ (hrz _) ?_)
 go_wp2
 go_ret
 exact ⟨_,G,rfl,⟨[],⟨rfl,.inr ⟨w.heap.size,G,cur,rfl,Nat.le_refl _,heap_alloc_new w.drew _,Nat.zero_le _,hGm,by rw [HC.out];simp [GR.sz],rfl⟩⟩,fun j x hj=>by simp at hj⟩,((Below.refl _ _).drew).alloc (Nat.le_refl _) _⟩
theorem grow_any (n:Nat) (hn:n<1000000000000):Calls Tryz.prog 177 #[.slice none 0 0,.int .i64 n] w fun e w'=>∃a c,e= .returned (.slice a 0 c)∧Ow (α:=Int) w.heap.size (fun k=>w.heap.size≤k) w' 3 (.slice a 0 c) []∧Below w.heap.size w w':=by
 rcases Nat.eq_zero_or_pos n with rfl|h
 ·exact grow_zero
 exact grow_some n h hn
theorem flat_snoc {rows:List (List Int)} {k:Nat} {r:List Int} (h:rows[k]? =some r):(rows.take (k+1)).flatten=(rows.take k).flatten++r:=by
 rw [List.take_add_one,h];simp
theorem flat_le (rows:List (List Int)) (k:Nat):(rows.take k).flatten.length≤rows.flatten.length:=by
 conv=>rhs;rw [←List.take_append_drop k rows]
 rw [List.flatten_append,List.length_append];omega
theorem concat_own {a:Option Addr} {c:Nat} {rows:List (List Int)} (h:Sl M w a c rows) (hn:rows.flatten.length<1000000000000):
    Calls Tryz.prog 130 #[.slice a rows.length c] w fun e w'=>∃a' c' l',e= .returned (.slice a' l'.length c')∧Hid (l'=rows.flatten)∧Ow w.heap.size (fun k=>w.heap.size≤k) w' 3 (.slice a' l'.length c') l'∧Below w.heap.size w w':=by
 have hrl:=h.le
 go_enter Tryz.func130,Tryz.ntmps130
 go_wp2
 go_loop [3,11] (fun sz i=>∃k:Nat,k≤rows.length∧i= .int .i64 k∧∃z:Nat,sz= .int .i64 z∧Hid (z=(rows.take k).flatten.length)) (fun _ i=>rows.length-(intOf i).toNat)
 case atStart=>exact ⟨0,by omega,rfl,0,rfl,rfl⟩
 case round=>
  obtain ⟨k,hk,rfl,z,rfl,hz⟩:=hrel
  have hzl:z<1000000000000:=by have:=flat_le rows k;rw [hz.out];omega
  by_cases hlt:k<rows.length
  ·obtain ⟨b,off,a1,r,c1,rfl,hc,hr, -⟩:=h.at_row hlt
   have hz2:Hid (z+r.length=(rows.take (k+1)).flatten.length):=by unfold Hid;rw [flat_snoc hr.out,List.length_append,hz.out]
   have hzl2:z+r.length<1000000000000:=by have:=flat_le rows (k+1);rw [hz2.out];omega
   go_wp2
   go_round
   case rel=>exact ⟨k+1,by omega,by go_num,z+r.length,by go_num,hz2⟩
   case measure=>simp [intOf];omega
  go_wp2_with fail
  refine (grow_any z hzl).mono ?_
  rintro e w1 ⟨a1,c1,rfl,hO,hb1⟩
  have hz1:=hb1.size
  have H:=Lib.hid h
  clear h
  go_wp2
  go_loopw [6,27] (fun v i wr=>∃(k:Nat) (a':Option Addr) (c':Nat) (l':List Int),k≤rows.length∧i= .int .i64 k∧v= .slice a' l'.length c'∧Hid (l'=(rows.take k).flatten)∧
   Ow w.heap.size (fun k=>w.heap.size≤k) wr 3 (.slice a' l'.length c') l'∧Below w.heap.size w wr) (fun _ i _=>rows.length-(intOf i).toNat)
  case atStart=>exact ⟨0,a1,c1,[],by omega,rfl,rfl,rfl,hO,hb1⟩
  case round=>
   clear hO hb1
   obtain ⟨j,a2,c2,l2,hj,rfl,rfl,hl2,hO,hB⟩:=hrel
   obtain ⟨w2,rfl⟩:∃w2:World,w2=wr:=⟨_,rfl⟩
   by_cases hlj:j<rows.length
   ·have hll:=flat_le rows (j+1)
    obtain ⟨b,off,a3,r,c3,rfl,hc,hr,hS⟩:=(H.out.below hB).at_row hlj
    have hl3:Hid (l2++r=(rows.take (j+1)).flatten):=by unfold Hid;rw [flat_snoc hr.out,hl2.out]
    have hlen:l2.length+r.length<1000000000000:=by rw [←List.length_append,hl3.out];omega
    have hsz:=hB.size
    clear hll
    go_wp2_with (at_builtin;refine wpList_app_any (B:=w.heap.size) (l0:=l2) (l1:=r) rfl rfl Tryz.underlying49 info_int rfl rfl hO hS hlen hsz ?_)
    intro a4 c4 l4 w4 hl4 hO4 hb4
    have hB4:=hB.trans hb4
    go_wp2
    go_roundw
    case rel=>exact ⟨j+1,a4,c4,l4,by omega,by go_num,rfl,by unfold Hid;rw [hl4.out];exact hl3.out,hO4,hB4⟩
    case measure=>simp [intOf];omega
   go_wp2
   go_ret
   exact ⟨a2,c2,l2,rfl,by unfold Hid;rw [hl2.out,List.take_of_length_le (by omega)],hO,hB⟩
theorem join_own {a:Option Addr} {c:Nat} {rows:List (List Int)} (h:Sl M w a c rows) (hn:rows.flatten.length<1000000000000):
    Calls Tryz.prog 79 #[.slice a rows.length c] w fun e w'=>∃a' c' l',e= .returned (.slice a' l'.length c')∧Hid (l'=rows.flatten)∧Ow w.heap.size (fun k=>w.heap.size≤k) w' 3 (.slice a' l'.length c') l'∧Below w.heap.size w w':=by
 go_enter Tryz.func79,Tryz.ntmps79
 go_wp2_with fail
 refine (concat_own h hn).mono ?_
 rintro e w1 ⟨a1,c1,l1,rfl,hl,hS,hB⟩
 go_wp2
 go_ret
 exact ⟨a1,c1,l1,rfl,hl,hS,hB⟩
theorem join_any {a:Option Addr} {c:Nat} {rows:List (List Int)} (h:Sl M w a c rows) (hn:rows.flatten.length<1000000000000):
    Calls Tryz.prog 79 #[.slice a rows.length c] w fun e w'=>∃a' c' l',e= .returned (.slice a' l'.length c')∧Hid (l'=rows.flatten)∧Sl (fun k=>k<w.heap.size) w' a' c' l'∧Below w.heap.size w w':=
 (join_own h hn).mono fun _ _ ⟨a',c',l',h1,h2,h3,h4⟩=>⟨a',c',l',h1,h2,h3.fresh (Nat.le_refl _),h4⟩
end
section
variable {M:Nat→Prop} {w:World}
end
def hasP (l p:List Int):Bool:=decide (comW l p=p.length)
namespace Ob
variable (o:Ob)
def find (w:List Int):Option Tr:=o.traces.find? (fun t=>hasP t.inn w)
def known (w:List Int):Bool:=decide (w=[])||(o.find w).isSome
def ans (w:List Int):List Int:=if w=[] then [] else match o.find w with|none=>[]|some t=>t.out.take w.length
def lens:Prop:=∀t∈o.traces,t.inn.length≤t.out.length∧t.out.length<100000000000
variable {o}
theorem ans_nil {w:List Int} (h:w=[]):o.ans w=[]∧o.known w=true:=by
 unfold ans known;simp [h]
theorem ans_none {w:List Int} (h:¬w=[]) (h2:∀t∈o.traces,hasP t.inn w=false):o.ans w=[]∧o.known w=false:=by
 have:o.find w=none:=by unfold find;rw [List.find?_eq_none];intro t ht;rw [h2 t ht];decide
 unfold ans known;simp [h,this]
theorem ans_some {w:List Int} {k:Nat} {t:Tr} (h:¬w=[]) (ht:o.traces[k]? =some t) (hp:hasP t.inn w=true) (h2:∀t∈o.traces.take k,hasP t.inn w=false):o.ans w=t.out.take w.length∧o.known w=true:=by
 have hk:k<o.traces.length:=by
  by_cases e:k<o.traces.length
  ·exact e
  rw [List.getElem?_eq_none (by omega)] at ht;simp at ht
 have:o.find w=some t:=by
  unfold find
  rw [List.find?_eq_some_iff_append]
  refine ⟨hp,o.traces.take k,o.traces.drop (k+1),?_,fun y hy=>by rw [h2 y hy];decide⟩
  have e:o.traces[k]=t:=by rw [List.getElem?_eq_getElem hk] at ht;simpa using ht
  rw [←e,List.getElem_cons_drop,List.take_append_drop]
 unfold ans known;simp [h,this]
end Ob
theorem tr_take {l:List Tr} {w:List Int} {k:Nat} {t:Tr} (hx:l[k]? =some t) (hp:hasP t.inn w=false) (hn:∀y∈l.take k,hasP y.inn w=false):∀y∈l.take (k+1),hasP y.inn w=false:=by
 intro y hy
 rw [List.take_add_one,hx] at hy
 simp at hy
 rcases hy with hy|rfl
 ·exact hn y hy
 exact hp
theorem hasP_le {l p:List Int} (h:hasP l p=true):p.length≤l.length:=by
 unfold hasP at h
 have:=(comW_le l p).1
 have:=of_decide_eq_true h
 omega
theorem ret_lb {a:Option Addr} {n c:Nat} {x y:Bool} (h:x=y):Ending.returned (.tuple #[.slice a n c,.bool x])= .returned (.tuple #[.slice a n c,.bool y]):=by rw [h]
theorem ret_ij {x y:Int} (h:x=y):Ending.returned (.int .i64 x)= .returned (.int .i64 y):=by rw [h]
theorem blw {w w':World} (h:Hid (∃n,w'=w.drewN n)) (B:Nat):Below B w w':=by
 obtain ⟨n,rfl⟩:=h.out;exact below_drewN _ _ _
section
variable {M M':Nat→Prop} {w:World} {a b:Option Addr} {c d:Nat}
theorem hasp_is {xs ys:List Int} (h1:Sl M w a c xs) (h2:Sl M' w b d ys) {v:Bool} (h:hasP xs ys=v):
    Calls Tryz.prog 62 #[.slice a xs.length c,.slice b ys.length d] w fun e w'=>e= .returned (.bool v)∧Below w.heap.size w w':=
 (hasp_any (h1.anti (M':=fun _=>False) fun _ _ h=>h.elim) (h2.anti (M':=fun _=>False) fun _ _ h=>h.elim)).mono fun e w' ⟨he,hw⟩=>⟨by rw [he,←h];rfl,blw hw _⟩
theorem ansT_is {t:Tr} {l:List Int} {b1 b2:Option Addr} {c1 c2 g:Nat} (h1:Sl M w b1 c1 t.inn) (h2:Sl M' w b d l) (hc:w.cell? ⟨g,0,none⟩=some (.slice b l.length d)) {v:Bool} (h:hasP t.inn l=v):
    Calls Tryz.prog 66 #[trV t b1 c1 b2 c2,.pointer (some ⟨g,0,none⟩)] w fun e w'=>e= .returned (.bool v)∧Below w.heap.size w w':=by
 have hl2:=h2.le
 have hlt:=lt_of_cell hc
 have hc2:=((Below.refl w.heap.size w).alloc (Nat.le_refl _) (trO t b1 c1 b2 c2)).cell (p:=⟨g,0,none⟩) hlt
 rw [hc] at hc2
 have HC:=Lib.hid (hasp_is (h1.alloc (trO t b1 c1 b2 c2)) (h2.alloc (trO t b1 c1 b2 c2)) h)
 have hB0:=(Below.refl w.heap.size w).alloc (Nat.le_refl _) (trO t b1 c1 b2 c2)
 clear h1 h2 hc h hlt
 go_enter Tryz.func66,Tryz.ntmps66
 go_wp2_with fail
 refine (HC.out).mono ?_
 rintro e w2 ⟨rfl,hb2⟩
 have hB:=hB0.trans (hb2.mono (by simp))
 go_wp2
 go_ret
 exact ⟨rfl,hB⟩
theorem idxT_yes {l:List Tr} {p:List Int} {g k:Nat} {t:Tr} (hs:Sl M w a c l) (hw:Sl M' w b d p) (hc:w.cell? ⟨g,0,none⟩=some (.slice b p.length d)) (hk:l[k]? =some t) (hp:hasP t.inn p=true) (hn:∀y∈l.take k,hasP y.inn p=false):
    Calls Tryz.prog 65 #[.slice a l.length c,.func (Fn.func 66) #[] #[.pointer (some ⟨g,0,none⟩)]] w fun e w'=>e= .returned (.int .i64 k)∧Below w.heap.size w w':=by
 have hll:=hs.le
 have hlt0:=lt_of_cell hc
 have HS:=Lib.hid hs
 have HW:=Lib.hid hw
 have HH:=Lib.hid hn
 have hB0:=Below.refl w.heap.size w
 clear hs hw hn
 go_enter Tryz.func65,Tryz.ntmps65
 go_wp2
 go_loopw [8] (fun i wr=>∃j:Nat,j≤l.length∧i= .int .i64 j∧Hid (∀y∈l.take j,hasP y.inn p=false)∧Below w.heap.size w wr) (fun i _=>l.length-(intOf i).toNat)
 case atStart=>exact ⟨0,by omega,rfl,(fun y hy=>by simp at hy),hB0⟩
 case round=>
  clear hB0
  obtain ⟨j,hj,rfl,hN,hB⟩:=hrel
  obtain ⟨w1,rfl⟩:∃w1:World,w1=wr:=⟨_,rfl⟩
  by_cases hlt:j<l.length
  ·obtain ⟨b1,o1,a1,c1,a2,c2,t',rfl,hc1,hc2,ht,hs1,hs2⟩:=(HS.out.below hB).at_tr hlt
   have hcw:=(hB.cell (p:=⟨g,0,none⟩) hlt0).trans hc
   by_cases hq:hasP t'.inn p=true
   ·have HC:=Lib.hid (ansT_is (b2:=a2) (c2:=c2) hs1 (HW.out.below hB) hcw hq)
    have HE:Hid (((j:Nat):Int)=k):=by
     unfold Hid
     have:¬k<j:=fun e=>by have:=hN.out t (by rw [List.mem_iff_getElem?];exact ⟨k,by rw [List.getElem?_take,if_pos e];exact hk⟩);rw [hp] at this;cases this
     have:¬j<k:=fun e=>by have:=HH.out t' (by rw [List.mem_iff_getElem?];exact ⟨j,by rw [List.getElem?_take,if_pos e];exact ht.out⟩);rw [hq] at this;cases this
     omega
    clear hs1 hs2 hcw hq
    go_wp2_with fail
    refine (HC.out).mono ?_
    rintro e w2 ⟨rfl,hb2⟩
    have hB2:=hB.trans (hb2.mono (by have:=hB.size;omega))
    go_wp2
    go_ret
    exact ⟨ret_ij (by rw [HE.out]),hB2⟩
   have HC:=Lib.hid (ansT_is (b2:=a2) (c2:=c2) hs1 (HW.out.below hB) hcw (v:=false) (by simpa using hq))
   have hN2:Hid (∀y∈l.take (j+1),hasP y.inn p=false):=tr_take ht.out (by simpa using hq) hN.out
   clear hs1 hs2 hcw hq hN
   go_wp2_with fail
   refine (HC.out).mono ?_
   rintro e w2 ⟨rfl,hb2⟩
   have hB2:=hB.trans (hb2.mono (by have:=hB.size;omega))
   go_wp2
   go_roundw
   case rel=>exact ⟨j+1,by omega,by go_num,hN2,hB2⟩
   case measure=>simp [intOf];omega
  exfalso
  have hkl:k<l.length:=by
   by_cases e:k<l.length
   ·exact e
   rw [List.getElem?_eq_none (by omega)] at hk;simp at hk
  have:=hN.out t (by rw [List.take_of_length_le (by omega)];exact List.mem_of_getElem? hk)
  rw [hp] at this;cases this
theorem idxT_no {l:List Tr} {p:List Int} {g:Nat} (hs:Sl M w a c l) (hw:Sl M' w b d p) (hc:w.cell? ⟨g,0,none⟩=some (.slice b p.length d)) (hn:∀y∈l,hasP y.inn p=false):
    Calls Tryz.prog 65 #[.slice a l.length c,.func (Fn.func 66) #[] #[.pointer (some ⟨g,0,none⟩)]] w fun e w'=>e= .returned (.int .i64 (-1))∧Below w.heap.size w w':=by
 have hll:=hs.le
 have hlt0:=lt_of_cell hc
 have HS:=Lib.hid hs
 have HW:=Lib.hid hw
 have HH:=Lib.hid hn
 have hB0:=Below.refl w.heap.size w
 clear hs hw hn
 go_enter Tryz.func65,Tryz.ntmps65
 go_wp2
 go_loopw [8] (fun i wr=>∃j:Nat,j≤l.length∧i= .int .i64 j∧Hid (∀y∈l.take j,hasP y.inn p=false)∧Below w.heap.size w wr) (fun i _=>l.length-(intOf i).toNat)
 case atStart=>exact ⟨0,by omega,rfl,(fun y hy=>by simp at hy),hB0⟩
 case round=>
  clear hB0
  obtain ⟨j,hj,rfl,hN,hB⟩:=hrel
  obtain ⟨w1,rfl⟩:∃w1:World,w1=wr:=⟨_,rfl⟩
  by_cases hlt:j<l.length
  ·obtain ⟨b1,o1,a1,c1,a2,c2,t',rfl,hc1,hc2,ht,hs1,hs2⟩:=(HS.out.below hB).at_tr hlt
   have hcw:=(hB.cell (p:=⟨g,0,none⟩) hlt0).trans hc
   by_cases hq:hasP t'.inn p=true
   ·have:=HH.out t' (List.mem_of_getElem? ht.out)
    rw [hq] at this;cases this
   have HC:=Lib.hid (ansT_is (b2:=a2) (c2:=c2) hs1 (HW.out.below hB) hcw (v:=false) (by simpa using hq))
   have hN2:Hid (∀y∈l.take (j+1),hasP y.inn p=false):=tr_take ht.out (by simpa using hq) hN.out
   clear hs1 hs2 hcw hq hN
   go_wp2_with fail
   refine (HC.out).mono ?_
   rintro e w2 ⟨rfl,hb2⟩
   have hB2:=hB.trans (hb2.mono (by have:=hB.size;omega))
   go_wp2
   go_roundw
   case rel=>exact ⟨j+1,by omega,by go_num,hN2,hB2⟩
   case measure=>simp [intOf];omega
  go_wp2
  go_ret
  exact ⟨rfl,hB⟩
theorem find_cases (o:Ob) (l:List Int):(∀y∈o.traces,hasP y.inn l=false)∨∃(k:Nat) (t:Tr),o.traces[k]? =some t∧hasP t.inn l=true∧∀y∈o.traces.take k,hasP y.inn l=false:=by
 cases e:o.traces.find? (fun t=>hasP t.inn l) with
 |none=>
  rw [List.find?_eq_none] at e
  exact .inl fun y hy=>by simpa using e y hy
 |some t=>
  rw [List.find?_eq_some_iff_append] at e
  obtain ⟨hp,xs,ys,hl,hn⟩:=e
  refine .inr ⟨xs.length,t,?_,hp,fun y hy=> ?_⟩
  ·rw [hl];simp
  rw [hl] at hy
  simp at hy
  simpa using hn y hy
theorem ans_any {o:Ob} {l:List Int} (ho:Os M w a c o) (hw:Sl M' w b d l) (hl:Hid o.lens):
    Calls Tryz.prog 25 #[obV o a c,.slice b l.length d] w fun e w'=>∃(a':Option Addr) (c':Nat) (l':List Int),e= .returned (.tuple #[.slice a' l'.length c',.bool (o.known l)])∧Hid (l'=o.ans l)∧
     Sl (fun k=>k<w.heap.size) w' a' c' l'∧Below w.heap.size w w':=by
 have hll:=hw.le
 have hol:=ho.traces.le
 have hB0:=((Below.refl w.heap.size w).alloc (Nat.le_refl _) (obO o a c)).alloc (by simp) (.cells #[.slice b l.length d] 49)
 have HO:=Lib.hid ho
 have HW:=Lib.hid hw
 have hx0:O2 ((w.alloc (obO o a c)).alloc (.cells #[.slice b l.length d] 49)) w.heap.size a c o:=(o2_new w).below (B:=w.heap.size+1) ((Below.refl _ _).alloc (by simp) _) (by omega)
 have hz0:w.heap.size+2≤((w.alloc (obO o a c)).alloc (.cells #[.slice b l.length d] 49)).heap.size:=by simp
 have hc0:((w.alloc (obO o a c)).alloc (.cells #[.slice b l.length d] 49)).cell? ⟨w.heap.size+1,0,none⟩=some (.slice b l.length d):=box1 _ _ _ (by simp)
 clear ho hw
 by_cases h0:l=[]
 ·have h0b:(((l.length:Nat):Int)==0)=true:=by simp [h0]
  have HF:=Lib.hid (o.ans_nil h0)
  clear h0
  go_enter Tryz.func25,Tryz.ntmps25
  go_wp2
  go_ret2
  exact ⟨none,0,[],ret_lb HF.out.2.symm,HF.out.1.symm,Sl.nil _ _ _ (by unfold maxLen;omega),hB0⟩
 have h0b:(((l.length:Nat):Int)==0)=false:=by simp [h0]
 have H0:=Lib.hid h0
 clear h0
 rcases find_cases o l with hn|⟨k,t,ht,hp,hn⟩
 ·have HF:=Lib.hid (o.ans_none H0.out hn)
  have HC:=Lib.hid (idxT_no (HO.out.below hB0).traces (HW.out.below hB0) hc0 hn)
  clear hn hx0
  go_enter Tryz.func25,Tryz.ntmps25
  go_wp2_with fail
  generalize ((w.alloc (obO o a c)).alloc (.cells #[.slice b l.length d] 49))=w0 at*
  refine (HC.out).mono ?_
  rintro e w2 ⟨rfl,hb2⟩
  have hB2:=hB0.trans (hb2.mono (by omega))
  clear hb2
  go_wp2
  go_ret2
  exact ⟨none,0,[],ret_lb HF.out.2.symm,HF.out.1.symm,Sl.nil _ _ _ (by unfold maxLen;omega),hB2⟩
 have HF:=Lib.hid (o.ans_some H0.out ht hp hn)
 have hkl:k<o.traces.length:=by
  by_cases e:k<o.traces.length
  ·exact e
  rw [List.getElem?_eq_none (by omega)] at ht;simp at ht
 have HT:=Lib.hid ht
 have hle:=Lib.hid (hl.out t (List.mem_of_getElem? ht))
 have hlo:l.length≤t.out.length:=Nat.le_trans (hasP_le hp) hle.out.1
 have hto:t.out.length<100000000000:=hle.out.2
 have HC:=Lib.hid (idxT_yes (HO.out.below hB0).traces (HW.out.below hB0) hc0 ht hp hn)
 clear ht hp hn
 go_enter Tryz.func25,Tryz.ntmps25
 go_wp2_with fail
 generalize ((w.alloc (obO o a c)).alloc (.cells #[.slice b l.length d] 49))=w0 at*
 refine (HC.out).mono ?_
 rintro e w2 ⟨rfl,hb2⟩
 have hx2:=hx0.below hb2 (by omega)
 have hc2:=(hb2.cell (p:=⟨w.heap.size+1,0,none⟩) (by show w.heap.size+1<_;omega)).trans hc0
 have hB2:=hB0.trans (hb2.mono (by omega))
 have hz2:w.heap.size+2≤w2.heap.size:=by have:=hb2.size;omega
 obtain ⟨b1,o1,a1,c1,a2,c2,t',rfl,hd1,hd2,ht',hs1,hs2⟩:=(HO.out.below hB2).traces.at_tr hkl
 obtain rfl:t=t':=by have h1:=HT.out;have h2:=ht'.out;rw [h1] at h2;simpa using h2
 have hc2l:=hs2.1
 have hc2m:=hs2.2.1
 have hmin:min ((l.length:Nat):Int) ((t.out.length:Nat):Int)=((l.length:Nat):Int):=by omega
 have HS:=Lib.hid hs2
 clear hx0 hc0 hb2 HC hd1 hs1 hs2
 go_wp2_with fail
 have e1:(t.out.take l.length).length=l.length:=by rw [List.length_take];omega
 have HC:=clone_any (HS.out.taken hlo) (by omega)
 rw [e1] at HC
 refine HC.mono ?_
 rintro e w3 ⟨a3,c3,l3,rfl,hl3,hs3,hb3⟩
 have hB3:=hB2.trans (hb3.mono (by omega))
 have hs4:=hs3.anti (M':=fun k=>k<w.heap.size) (fun k _ hk=>by omega)
 have hl4:Hid (l3=o.ans l):=by unfold Hid;rw [hl3.out,HF.out.1]
 clear hl3 hs3 hb3 hB2
 go_wp2
 go_ret2
 exact ⟨a3,c3,l3,ret_lb HF.out.2.symm,hl4,hs4,hB3⟩
end
theorem ret_nx {a:Option Addr} {n c:Nat} {b b':Bool} (h:b=b'):Ending.returned (.tuple #[.slice a n c,.bool b])= .returned (.tuple #[.slice a n c,.bool b']):=by rw [h]
theorem ret_nv {a:Option Addr} {n n' c:Nat} {b b':Bool} (h:n=n') (h2:b=b'):Ending.returned (.tuple #[.slice a n c,.bool b])= .returned (.tuple #[.slice a n' c,.bool b']):=by rw [h,h2]
theorem row_of {w:List Int} {k:Nat} {l:List Int} (h:l=w.take k++List.replicate (w.length-k) 0) (hk:k≤w.length):l.length=w.length:=by rw [h,nx_len hk]
section
variable {M:Nat→Prop} {w:World} {a:Option Addr} {c:Nat}
theorem next_any1 {l:List Int} (h:Sl M w a c l) (n:Int):
    Calls Tryz.prog 125 #[.slice a l.length c,.int .i64 n] w fun e w'=>∃a' c' l',e= .returned (.tuple #[.slice a' l'.length c',.bool (nextB l n)])∧Hid (l'=nextV l n)∧Sl (fun k=>k<w.heap.size) w' a' c' l'∧Below w.heap.size w w':=by
 have hll:=h.le
 have HC:=Lib.hid (wcheck_any h n)
 by_cases he:wErr l n=0
 ·have he':(wErr l n !=0)=false:=by simp [he]
  obtain ⟨n0,n1,hl2,hx2⟩:=wErr_zero he
  have HX:=Lib.hid hx2
  have HE:=Lib.hid he
  clear he hx2
  go_enter Tryz.func125,Tryz.ntmps125
  go_wp2_with fail
  refine (HC.out).mono ?_
  rintro e w1 ⟨rfl,hB1⟩
  have h1:=h.below hB1
  have hz1:=hB1.size
  clear h HC
  go_wp2_with fail
  refine (clone_own h1 (by omega)).mono ?_
  rintro e w2 ⟨a2,c2,l2,rfl,hl2',hO,hb2⟩
  have hlen0:Hid (l2.length=l.length):=by unfold Hid;rw [hl2'.out]
  have hO':Ow w1.heap.size (fun k=>w1.heap.size≤k) w2 3 (.slice a2 l.length c2) l2:=by rw [←hlen0.out];exact hO
  rw [hlen0.out]
  have hr0:Hid (l2=l.take l.length++List.replicate (l.length-l.length) 0):=by unfold Hid;rw [hl2'.out];simp
  have hn0:Hid (nxW n (l.drop l.length)=none):=by unfold Hid;simp [nxW]
  clear hl2' hlen0 hO
  go_wp2
  go_loopw [7] (fun i wr=>∃(k:Nat) (lst:List Int),k≤l.length∧((0<k∧∃t:Nat,t+1=k∧i= .int .i64 t)∨(k=0∧i= .int .i64 (-1)))∧Hid (lst=l.take k++List.replicate (l.length-k) 0)∧Hid (nxW n (l.drop k)=none)∧
   Ow w1.heap.size (fun k=>w1.heap.size≤k) wr 3 (.slice a2 l.length c2) lst∧Below w1.heap.size w1 wr) (fun i _=>(intOf i+1).toNat)
  case atStart=>
   refine ⟨l.length,l2,by omega,?_,hr0,hn0,hO',hb2⟩
   by_cases e:l.length=0
   ·exact .inr ⟨e,by rw [e];rfl⟩
   exact .inl ⟨by omega,l.length-1,by omega,by rw [show ((l.length-1:Nat):Int)=(l.length:Int)-1 from by omega]⟩
  case round=>
   clear hr0 hn0 hO' hb2
   obtain ⟨k,lst,hk,hi,hr,hn,hO,hB⟩:=hrel
   obtain ⟨w3,rfl⟩:∃w3:World,w3=wr:=⟨_,rfl⟩
   have hs3:=hB.size
   have hlen:Hid (l.length=lst.length):=(row_of hr.out hk).symm
   rcases hi with ⟨hk0,t,ht,rfl⟩|⟨hk0,rfl⟩
   ·obtain ⟨g,x,rfl,hc,hf,hx, -⟩:=hO.at_int' hlen.out (j:=t) (by have:=hlen.out;omega)
    have hg:=(hO.lt g rfl).1
    have hxl:Hid (l[t]? =some x):=by
     have htl:t<l.length:=by omega
     have e1:=hx.out
     rw [hr.out,←ht,nx_at (x:=l[t]) (List.getElem?_eq_getElem htl)] at e1
     rw [←e1];exact List.getElem?_eq_getElem htl
    obtain ⟨x0,x1⟩:=HX.out x (List.mem_of_getElem? hxl.out)
    have hn':Hid (nxW n (l.drop (t+1))=none):=by have:=hn.out;rw [←ht] at this;exact this
    have hr':Hid (lst=l.take (t+1)++List.replicate (l.length-(t+1)) 0):=by have:=hr.out;rw [←ht] at this;exact this
    by_cases hlt:x+1<n
    ·have HN:=Lib.hid (next_hit HE.out (nx_hit hxl.out hn'.out hlt))
     have hO2:=hO.set_int (x:=x+1) hlen.out hg t (by unfold i64;omega)
     have HO2:=Lib.hid hO2
     clear hO2
     go_wp2
     go_ret2
     have h3:=HO2.out
     have e3:l.length=(lst.set t (x+1)).length:=by rw [hlen.out];simp
     rw [e3] at h3
     exact ⟨_,_,lst.set t (x+1),ret_nv e3 HN.out.2.symm,by unfold Hid;rw [hr'.out];exact HN.out.1.symm,h3.fresh hz1,hB1.trans ((hB.setCell (p:=⟨g,t,none⟩) hg _).mono hz1)⟩
    have HN:=Lib.hid (nx_carry hxl.out hn'.out hlt)
    have HR:Hid (lst.set t 0=l.take t++List.replicate (l.length-t) 0):=by unfold Hid;rw [hr'.out];exact nx_row hxl.out
    have hO2:=hO.set_int (x:=0) hlen.out hg t (by unfold i64;omega)
    have HO2:=Lib.hid hO2
    have HB:=Lib.hid (hB.setCell (p:=⟨g,t,none⟩) hg (.int .i64 0))
    clear hO2
    go_wp2
    go_roundw
    case rel=>
     refine ⟨t,lst.set t 0,by omega,?_,HR.out,HN.out,HO2.out,HB.out⟩
     by_cases e:t=0
     ·exact .inr ⟨e,by subst e;rfl⟩
     exact .inl ⟨by omega,t-1,by omega,by rw [show ((t-1:Nat):Int)=(t:Int)-1 from by omega]⟩
    case measure=>simp [intOf]
   have hn':Hid (nxW n l=none):=by have:=hn.out;rw [hk0] at this;exact this
   have hr':Hid (lst=List.replicate l.length 0):=by unfold Hid;rw [hr.out,hk0];simp
   by_cases hfull:l.length=1024
   ·have hfb:((l.length:Int)==1024)=true:=by simp [hfull]
    have HN:=Lib.hid (next_full HE.out hn'.out hfull)
    have HK:=Lib.hid hk0
    clear hfull hk0
    go_wp2
    go_ret2
    exact ⟨none,0,[],ret_nx HN.out.2.symm,HN.out.1.symm,Sl.nil _ _ _ (by unfold maxLen;omega),hB1.trans (hB.mono hz1)⟩
   have hfb:((l.length:Int)==1024)=false:=by simp;omega
   have HN:=Lib.hid (next_longer HE.out hn'.out hfull)
   have HK:=Lib.hid hk0
   have hO2:Ow w1.heap.size (fun k=>w1.heap.size≤k) w3 3 (.slice a2 lst.length c2) lst:=by rw [←hlen.out];exact hO
   have HO2:=Lib.hid hO2
   clear hfull hk0 hO2 hO
   go_wp2_with (at_builtin;refine wpList_push_i (B:=w1.heap.size) (l:=lst) (y:=0) rfl rfl Tryz.underlying49 info_int (by rw [←hlen.out];rfl) rfl (HO2.out.alloc _) (by simp [go_sem]) (by unfold i64;omega) (by rw [←hlen.out];omega) (by simp;omega) ?_)
   intro a5 c5 l5 w5 hl5 hO5 hb5
   have hB5:=hB1.trans (((hB.alloc hs3 _).trans hb5).mono hz1)
   have hF:Hid (l5=nextV l n):=by unfold Hid;rw [HN.out.1,hl5.out,hr'.out]
   clear hb5
   go_wp2
   go_ret2
   exact ⟨a5,c5,l5,ret_nx HN.out.2.symm,hF.out,hO5.fresh hz1,hB5⟩
 have he':(wErr l n !=0)=true:=by simp [he]
 have HN:=Lib.hid (next_bad he)
 clear he
 go_enter Tryz.func125,Tryz.ntmps125
 go_wp2_with fail
 refine (HC.out).mono ?_
 rintro e w1 ⟨rfl,hB1⟩
 clear HC
 go_wp2
 go_ret2
 exact ⟨none,0,[],ret_nx HN.out.2.symm,HN.out.1.symm,Sl.nil _ _ _ (by unfold maxLen;omega),hB1⟩
end
def upt (n N:Int):Nat→List (List Int)→List Int→Bool→List (List Int)×Int
 |0,out,_,_=>(out,0)
 |f+1,out,w,ok=>if ok=true∧(w.length:Int)≤N then (if out.length=10000 then ([],11) else upt n N f (out++[w]) (nextV w n) (nextB w n)) else (out,0)
def uptW (n N:Int):List (List Int)×Int:=if (n<1∨1024<n)∨N<0∨1024<N then ([],2) else upt n N 10001 [] [] true
theorem upt_stop {n N:Int} {f:Nat} {out:List (List Int)} {w:List Int} {ok:Bool} (h:¬(ok=true∧(w.length:Int)≤N)):upt n N f out w ok=(out,0):=by
 cases f with
 |zero=>rfl
 |succ f=>unfold upt;rw [if_neg h]
theorem upt_many {n N:Int} {f:Nat} {out:List (List Int)} {w:List Int} {ok:Bool} (h:ok=true∧(w.length:Int)≤N) (h2:out.length=10000) (hf:f=10001-out.length):upt n N f out w ok=([],11):=by
 obtain rfl:f=0+1:=by omega
 unfold upt;rw [if_pos h,if_pos h2]
theorem upt_go {n N:Int} {f:Nat} {out:List (List Int)} {w:List Int} {ok:Bool} (h:ok=true∧(w.length:Int)≤N) (h2:¬out.length=10000) (h3:out.length≤10000) (hf:f=10001-out.length):
    upt n N f out w ok=upt n N (10001-(out.length+1)) (out++[w]) (nextV w n) (nextB w n):=by
 obtain ⟨f',rfl⟩:∃f',f=f'+1:=⟨f-1,by omega⟩
 have e:10001-(out.length+1)=f':=by omega
 rw [e]
 conv=>lhs;unfold upt
 rw [if_pos h,if_neg h2]
section
variable {w:World}
theorem ckP_no (n:Int) (h:n<1∨1024<n):Calls Tryz.prog 56 #[.slice none 0 0,.int .i64 n] w fun e w'=>e= .returned (.int .i64 2)∧Below w.heap.size w w':=by
 have:=wcheck_any (l:=[]) (Sl.nil (fun _=>False) w none (c:=0) (by unfold maxLen;omega)) n
 rwa [wErr_r h] at this
theorem ckP_yes (n:Int) (h:¬(n<1∨1024<n)):Calls Tryz.prog 56 #[.slice none 0 0,.int .i64 n] w fun e w'=>e= .returned (.int .i64 0)∧Below w.heap.size w w':=by
 have:=wcheck_any (l:=[]) (Sl.nil (fun _=>False) w none (c:=0) (by unfold maxLen;omega)) n
 rwa [wErr_0 h (by simp) (by simp)] at this
theorem upto_any (n N:Int):
    Calls Tryz.prog 74 #[.int .i64 n,.int .i64 N] w fun e w'=>∃(a':Option Addr) (c':Nat) (L:List (List Int)) (er:Int),e= .returned (.tuple #[.slice a' L.length c',.int .i64 er])∧Hid (uptW n N=(L,er))∧
     Sl (fun k=>k<w.heap.size) w' a' c' L∧Below w.heap.size w w':=by
 by_cases h1:n<1∨1024<n
 ·have HF:Hid (uptW n N=([],2)):=by unfold Hid uptW;rw [if_pos (.inl h1)]
  have HC:=Lib.hid (ckP_no (w:=w) n h1)
  clear h1
  go_enter Tryz.func74,Tryz.ntmps74
  go_wp2_with fail
  refine (HC.out).mono ?_
  rintro e w1 ⟨rfl,hb1⟩
  go_wp2
  go_ret2
  exact ⟨none,0,[],2,rfl,HF.out,Sl.nil _ _ _ (by unfold maxLen;omega),hb1⟩
 have HC:=Lib.hid (ckP_yes (w:=w) n h1)
 by_cases h2:N<0∨1024<N
 ·have HF:Hid (uptW n N=([],2)):=by unfold Hid uptW;rw [if_pos (.inr h2)]
  rcases h2 with h2|h2
  ·clear h1
   go_enter Tryz.func74,Tryz.ntmps74
   go_wp2_with fail
   refine (HC.out).mono ?_
   rintro e w1 ⟨rfl,hb1⟩
   go_wp2
   go_ret2
   exact ⟨none,0,[],2,rfl,HF.out,Sl.nil _ _ _ (by unfold maxLen;omega),hb1⟩
  have h3:¬N<0:=by omega
  clear h1
  go_enter Tryz.func74,Tryz.ntmps74
  go_wp2_with fail
  refine (HC.out).mono ?_
  rintro e w1 ⟨rfl,hb1⟩
  go_wp2
  go_ret2
  exact ⟨none,0,[],2,rfl,HF.out,Sl.nil _ _ _ (by unfold maxLen;omega),hb1⟩
 have HF:Hid (uptW n N=upt n N (10001-0) [] [] true):=by unfold Hid uptW;rw [if_neg (by rintro (h|h);exact h1 h;exact h2 h)]
 have h3:¬N<0:=by omega
 have h4:¬1024<N:=by omega
 clear h1 h2
 go_enter Tryz.func74,Tryz.ntmps74
 go_wp2_with fail
 refine (HC.out).mono ?_
 rintro e w1 ⟨rfl,hb1⟩
 have hO0:Ox (α:=List Int) w.heap.size w.heap.size w1 49 (.slice none 0 0) []:=Ox.nil
 have hS0:Sl (fun k=>(Value.slice none 0 0).ownBlock=some k∨k<w.heap.size) w1 none 0 ([]:List Int):=Sl.nil _ _ _ (by unfold maxLen;omega)
 clear HC
 go_wp2
 go_loopw [6,7,8] (fun v0 u0 t wr=>∃(a':Option Addr) (c':Nat) (K:List (List Int)) (ax:Option Addr) (cx:Nat) (x:List Int) (ok:Bool),v0= .slice a' K.length c'∧u0= .slice ax x.length cx∧t= .bool ok∧K.length≤10000∧
  Hid (uptW n N=upt n N (10001-K.length) K x ok)∧Ox w.heap.size w.heap.size wr 49 (.slice a' K.length c') K∧Sl (fun k=>(Value.slice a' K.length c').ownBlock=some k∨k<w.heap.size) wr ax cx x∧Below w.heap.size w wr) (fun v0 u0 _ _=>10001-(match v0 with| .slice _ n _=>n|_=>0))
 case atStart=>exact ⟨none,0,[],none,0,[],true,rfl,rfl,rfl,by simp,HF,hO0,hS0,hb1⟩
 case round=>
  clear hO0 hS0 hb1 HF
  obtain ⟨a2,c2,K,ax,cx,x,ok,rfl,rfl,rfl,hK,hF,hO,hS,hB⟩:=hrel
  obtain ⟨w2,rfl⟩:∃w2:World,w2=wr:=⟨_,rfl⟩
  have hxl:=hS.le
  by_cases hc:ok=true∧(x.length:Int)≤N
  ·obtain ⟨rfl,hc2⟩:=hc
   by_cases hk:K.length=10000
   ·have HF:Hid (uptW n N=([],11)):=by unfold Hid;rw [hF.out];exact upt_many ⟨rfl,hc2⟩ hk rfl
    have hkb:(((K.length:Nat):Int)==10000)=true:=by simp [hk]
    clear hk hF
    go_wp2
    go_ret2
    exact ⟨none,0,[],11,rfl,HF.out,Sl.nil _ _ _ (by unfold maxLen;omega),hB⟩
   have hkb:(((K.length:Nat):Int)==10000)=false:=by simp;omega
   have HF:Hid (uptW n N=upt n N (10001-(K.length+1)) (K++[x]) (nextV x n) (nextB x n)):=by unfold Hid;rw [hF.out];exact upt_go ⟨rfl,hc2⟩ hk hK rfl
   have hk1:K.length+1≤10000:=by omega
   have hz:=hB.size
   have hK12:K.length<1000000000000:=by omega
   clear hk hF
   go_wp2_with (at_builtin;refine wpList_push_x (n0:=w.heap.size) (B:=w.heap.size) (r:=x) (ar:=ax) (cr:=cx) rfl rfl Tryz.underlying22 info_ints rfl rfl (hO.alloc _) (by simp [go_sem]) (hS.alloc _) hK12 (by simp;omega) ?_)
   intro a4 c4 K4 w4 hK4 hO4 hbk hgr
   have hB4:=(hB.alloc hz (.cells #[.slice ax x.length cx] 49)).grown hgr (by simp;omega) (fun k hk=>(hO.lt k hk).1)
   have hz4:=hB4.size
   have hS4:Sl (fun k=>(Value.slice a4 K4.length c4).ownBlock=some k∨k<w.heap.size) w4 ax cx x:=by
    refine (hS.alloc (.cells #[.slice ax x.length cx] 49)).ext ⟨hgr.size,fun k hk hm=>hgr.block k hk fun e=>hm (.inl e.symm),fun k hk hm=> ?_⟩
    rcases hm with hm|hm
    ·rcases hbk.out k hm with e|e
     ·exact .inl e
     have hk':k<w2.heap.size+1:=by simpa using hk
     omega
    exact .inr hm
   have hl4:K4.length≤10000:=by rw [hK4.out];simpa using hk1
   have hF4:Hid (uptW n N=upt n N (10001-K4.length) K4 (nextV x n) (nextB x n)):=by unfold Hid;rw [HF.out,hK4.out];simp
   have hlt4:K.length<K4.length:=by rw [hK4.out];simp
   have HC:=Lib.hid (next_any1 hS4 n)
   clear hK4 hbk hgr hO hB hS HF hS4
   go_wp2_with fail
   refine (HC.out).mono ?_
   rintro e w5 ⟨a5,c5,x5,rfl,hx5,hs5,hb5⟩
   have hO5:=Ox.later hO4 hb5
   have hB5:=hB4.trans (hb5.mono (by omega))
   have hS5:=hs5.anti (M':=fun k=>(Value.slice a4 K4.length c4).ownBlock=some k∨k<w.heap.size) fun k _ hm=>by
    rcases hm with hm|hm
    ·exact (hO4.lt k hm).2
    omega
   have hF5:Hid (uptW n N=upt n N (10001-K4.length) K4 x5 (nextB x n)):=by unfold Hid;rw [hF4.out,hx5.out]
   clear hO4 hB4 hb5 hs5 hF4 hx5 HC
   go_wp2
   go_roundw
   case rel=>exact ⟨a4,c4,K4,a5,c5,x5,nextB x n,rfl,rfl,rfl,hl4,hF5,hO5,hS5,hB5⟩
   case measure=>simp;omega
  have HF:Hid (uptW n N=(K,0)):=by unfold Hid;rw [hF.out];exact upt_stop hc
  have hSl:=hO.toSl (Nat.le_refl _)
  cases ok with
  |false=>
   clear hc hF
   go_wp2
   go_ret2
   exact ⟨a2,c2,K,0,rfl,HF.out,hSl,hB⟩
  |true=>
   have hc2:¬(x.length:Int)≤N:=fun h=>hc ⟨rfl,h⟩
   clear hc hF
   go_wp2
   go_ret2
   exact ⟨a2,c2,K,0,rfl,HF.out,hSl,hB⟩
end
end Go.Proofs.YtjagagpcjpcjjaaGreat
namespace Go.Proofs.YtjagagpcjpcjjaaGreat
theorem val_inj {n:Int} (hn:1≤n) {a b:List Int} (ha:okW n a) (hb:okW n b) (h:valA n 0 a=valA n 0 b):a=b:=by
 have h1:=un_val hn a.length (max a.length b.length) a rfl ha (Nat.le_max_left _ _)
 have h2:=un_val hn b.length (max a.length b.length) b rfl hb (Nat.le_max_right _ _)
 rw [h,h2] at h1
 have:=Option.some.inj h1
 rw [←List.reverse_reverse a,←List.reverse_reverse b,this]
theorem valA_nonneg {n:Int} (hn:1≤n) {a:List Int} (ha:okW n a):0≤valA n 0 a:=valA_ge hn a 0 (by omega) ha
theorem nextV_val {n:Int} {w:List Int} (h:wErr w n=0) (hl:w.length<1024):nextB w n=true∧okW n (nextV w n)∧valA n 0 (nextV w n)=valA n 0 w+1∧(nextV w n).length≤w.length+1:=by
 obtain ⟨h1,h2,h3,h4⟩:=okW_of h
 unfold nextB nextV
 rw [if_neg (by simp [h]),if_neg (by simp [h])]
 cases e:nxW n w with
 |some y=>
  obtain ⟨g1,g2, -⟩:=nx_ok h1 w y h4 e
  exact ⟨rfl,g1,nx_some w 0 y h4 e,by show y.length≤_;omega⟩
 |none=>
  have hne:¬w.length=1024:=by omega
  simp only []
  rw [if_neg hne]
  refine ⟨by simp;omega,okW_zero h1 _,?_,by simp⟩
  rw [nx_none w 0 h4 e,List.replicate_succ,valA]
  simp
theorem upt_all {n N:Int} (h1:1≤n) (h2:n≤1024) (hN:N<1000):∀(f:Nat) (out:List (List Int)) (w:List Int),f+out.length=10001→out.length≤10000→okW n w→w.length≤1000→(w.length:Int)≤N+1→(∀v,okW n v→valA n 0 v<valA n 0 w→v∈out)→(upt n N f out w true).2=0→
    ∀v,okW n v→(v.length:Int)≤N→v∈(upt n N f out w true).1
 |0,out,w,hf,ho,hw,hl,hlN,ha,he,v,hv,hvl=>by omega
 |f+1,out,w,hf,ho,hw,hl,hlN,ha,he,v,hv,hvl=>by
  by_cases hc:(w.length:Int)≤N
  ·by_cases h4:out.length=10000
   ·unfold upt at he
    rw [if_pos ⟨rfl,hc⟩,if_pos h4] at he
    simp at he
   have hE:=wErr_of h1 h2 (by omega) hw
   obtain ⟨g1,g2,g3,g4⟩:=nextV_val hE (by omega)
   have hu:upt n N (f+1) out w true=upt n N f (out++[w]) (nextV w n) (nextB w n):=by
    conv=>lhs;unfold upt
    rw [if_pos ⟨rfl,hc⟩,if_neg h4]
   rw [hu,g1] at he ⊢
   refine upt_all h1 h2 hN f (out++[w]) (nextV w n) (by simp;omega) (by simp;omega) g2 (by omega) (by omega) (fun x hx hxv=> ?_) he v hv hvl
   rw [g3] at hxv
   by_cases e:valA n 0 x=valA n 0 w
   ·rw [val_inj h1 hx hw e];simp
   exact List.mem_append.2 (.inl (ha x hx (by omega)))
  have hu : upt n N (f + 1) out w true = (out, 0) := by
   unfold upt;rw [if_neg (fun h=>hc h.2)]
  rw [hu]
  exact ha v hv (len_val h1 (by omega) hv hw)
theorem uptW_all {n N:Int} (hN:N<1000) (he:(uptW n N).2=0):∀v,okW n v→(v.length:Int)≤N→v∈(uptW n N).1:=by
 intro v hv hvl
 unfold uptW at he ⊢
 split at he
 ·simp at he
 rename_i h
 rw [if_neg h]
 exact upt_all (by omega) (by omega) hN 10001 [] [] rfl (by simp) (fun y hy=>by simp at hy) (by simp) (by simp;omega) (fun x hx hxv=>by
  have:=valA_nonneg (n:=n) (by omega) hx
  have e:valA n 0 ([]:List Int)=0:=rfl
  omega) he v hv hvl
end Go.Proofs.YtjagagpcjpcjjaaGreat
