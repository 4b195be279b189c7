/- Several texts, one behind the other. Conditions: as each of them says. -/
import Derived.Test.YtjmbphjgiodioaaGreatDoorMv10
import Derived.Test.YtjmbphjgiodioaaGreatDoorMv7
import Derived.WalkSpells
import Derived.Lib.Walk
import Derived.Lib.SliceRun
import Derived.Lib.AppendZerosOnto
set_option maxRecDepth 100000
set_option maxHeartbeats 32000000
namespace Go.Proofs.YtjmbphjgiodioaaGreatDoor
open Go.RowKit
section
variable {P:Program} {w:World} {o:Oper} {a:Act} {ops:Array Oper} {rest:List Oper} {Q:Exit→Act→World→Prop}
theorem app_none {B:Nat} {t ty e:TypeId} {i:TypeInfo} {n size:Nat} {v:Value} {xs:List Value} (ht:P.underlying t=some (.slice e)) (hi:P.info? e=some i) (h:w.ownsRow B e size v n xs) (c:Nat):
    (Builtin.append_ #[t,t] ty #[v,.slice none 0 c]).run P w= .ok v w:=by
 rcases h.2 with ⟨rfl,rfl⟩|⟨g,cap,cur,rfl,_,_,hnc,_⟩
 ·simp [Builtin.append_,run_underlying ht,sizeOf,typeInfo,hi,Builtin.lenOf,Builtin.firstCells]
 simp [Builtin.append_,run_underlying ht,sizeOf,typeInfo,hi,Builtin.lenOf,Builtin.firstCells,hnc,storeCells]
theorem wpList_app_any {l0 l1:List Int} {s x:Operand} {t e:TypeId} {B:Nat} {M:Nat→Prop} {v:Value} {A:Option Addr} {c:Nat} (hg:o.guard=none) (hop:o.op= .call {callee:= .builtin .append,args:= #[s,x],argTypes:= #[t,t]})
    (ht:P.underlying t=some (.slice e)) (hi:(P.info? e).map (fun i=>(i.zero,i.size,i.bytes))=some (some (.int .i64 0),1,8))
    (hs:a.eval s=v) (hx:a.eval x= .slice A l1.length c) (hown:Ow B (fun k=>B≤k) w e v l0) (hsrc:Sl M w A c l1)
    (hlen:l0.length+l1.length<1000000000000) (hB:B≤w.heap.size)
    (h:∀(a':Option Addr) (c':Nat) (l':List Int) (w':World),Hid (l'=l0++l1)→Ow B (fun k=>B≤k) w' e (.slice a' l'.length c') l'→Below B w w'→
     wpList P ops Q rest (a.put o.dst (.slice a' l'.length c')) w'):wpList P ops Q (o::rest) a w:=by
 cases A with
 |some ad=>exact wpList_app_ints hg hop ht hi hs hx hown hsrc hlen hB h
 |none=>
  have h0:l1=[]:=by
   cases l1 with
   |nil=>rfl
   |cons x l=>obtain ⟨_,_,_,ha,_⟩:=hsrc.at_int (j:=0) (by simp);cases ha
  subst h0
  obtain ⟨i,hi1,_⟩:=info_parts hi
  obtain ⟨a',c',hv,_,_⟩:=hown.shape
  have hown0:=hown
  obtain ⟨xs,hr,_⟩:=hown
  refine wpList_plain hg fun K hK=> ?_
  have hrun:=app_none (ty:=o.type) ht hi1 hr c
  unfold Oper.wp execOp
  simp only [hop,resolve,invoke,builtin,Sem.run_bind,Sem.run_pure,Result.andThen_ok,List.map_toArray,List.map_cons,List.map_nil,hs,hx,List.length_nil,hrun]
  show K (a.put o.dst v) w
  rw [hv] at hown0 ⊢
  exact hK _ _ (h a' c' l0 w (by unfold Hid;simp) hown0 (Below.refl _ _))
end
section
variable {M:Nat→Prop} {w:World}
theorem grow_zero:Calls Tryz.prog 387 #[.slice none 0 0,.int .i64 0] w fun e w'=>∃a c,e= .returned (.slice a 0 c)∧Ow (α:=Int) w.heap.size (fun k=>w.heap.size≤k) w' 3 (.slice a 0 c) []∧Below w.heap.size w w':=by
 go_enter Tryz.func387,Tryz.ntmps387
 go_wp2
 go_ret
 exact ⟨none,0,rfl,Ow.nil,Below.refl _ _⟩
theorem grow_some (n:Nat) (h0:0<n) (hn:n<1000000000000):Calls Tryz.prog 387 #[.slice none 0 0,.int .i64 n] w fun e w'=>∃a c,e= .returned (.slice a 0 c)∧Ow (α:=Int) w.heap.size (fun k=>w.heap.size≤k) w' 3 (.slice a 0 c) []∧Below w.heap.size w w':=by
 obtain ⟨i,hi1,hi2,hi3,hi4⟩:=info_parts info_int
 have hold:(Builtin.firstCells i.size 0 (.slice none 0 0)).run Tryz.prog w.drew= .ok (([]:List Value).toArray) w.drew:=run_firstCells_none w.drew i.size 0 0 0
 have hGn:n≤grownCap w n 0 3:=grownCap_ge w _ _ _
 have hGm:grownCap w n 0 3≤maxLen:=grownCap_le_maxLen w n 0 3 (by unfold maxLen;omega)
 obtain ⟨cur,hcs,hrz⟩:∃cur:Array Value,cur.size=grownCap w n 0 3∧∀ty,(Builtin.append_ #[94,3] ty #[.slice none 0 0,.int .i64 ((n:Nat):Int)]).run Tryz.prog w= .ok (.slice (some ⟨w.heap.size,0,none⟩) n (grownCap w n 0 3)) (w.drew.alloc (.cells cur 3)):=by
  refine ⟨([]:List Value).toArray++Builtin.zeroCells (Value.int .i64 0).cells n++Builtin.zeroCells (Value.int .i64 0).cells (grownCap w n 0 3-n),?_,fun ty=> ?_⟩
  rotate_left
  ·have h:=Lib.run_append_grow_zeros w 94 3 ty 3 i (.int .i64 0) .i64 .i64 Tryz.underlying94 Tryz.underlying3 hi1 hi2 none 0 0 [] hold n h0 (by rw [hi3];omega) (by omega) (by omega) (by rw [hi4];omega) (by rw [hi4];exact growslice_fits (by omega) (by omega))
   rw [Nat.zero_add] at h
   exact h
  simp [Builtin.zeroCells,Value.cells]
  try omega
 obtain ⟨G,hG⟩:∃G,G=grownCap w n 0 3:=⟨_,rfl⟩
 rw [←hG] at hrz hGn hGm hcs
 have hG63:G≤9223372036854775807:=by unfold maxLen at hGm;omega
 have HC:=Lib.hid hcs
 clear hold hG hcs
 go_enter Tryz.func387,Tryz.ntmps387
 go_wp2_with (at_builtin;refine Lib.wpList_append_run _ rfl _ _ _ _ rfl _ _ rfl rfl _ _ (hrz _) ?_)
 go_wp2
 go_ret
 exact ⟨_,G,rfl,⟨[],⟨rfl,.inr ⟨w.heap.size,G,cur,rfl,Nat.le_refl _,heap_alloc_new w.drew _,Nat.zero_le _,hGm,by rw [HC.out];simp [GR.sz],rfl⟩⟩,fun j x hj=>by simp at hj⟩,((Below.refl _ _).drew).alloc (Nat.le_refl _) _⟩
theorem grow_any (n:Nat) (hn:n<1000000000000):Calls Tryz.prog 387 #[.slice none 0 0,.int .i64 n] w fun e w'=>∃a c,e= .returned (.slice a 0 c)∧Ow (α:=Int) w.heap.size (fun k=>w.heap.size≤k) w' 3 (.slice a 0 c) []∧Below w.heap.size w w':=by
 rcases Nat.eq_zero_or_pos n with rfl|h
 ·exact grow_zero
 exact grow_some n h hn
theorem flat_snoc {rows:List (List Int)} {k:Nat} {r:List Int} (h:rows[k]? =some r):(rows.take (k+1)).flatten=(rows.take k).flatten++r:=by
 rw [List.take_add_one,h];simp
theorem flat_le (rows:List (List Int)) (k:Nat):(rows.take k).flatten.length≤rows.flatten.length:=by
 conv=>rhs;rw [←List.take_append_drop k rows]
 rw [List.flatten_append,List.length_append];omega
theorem concat_own {a:Option Addr} {c:Nat} {rows:List (List Int)} (h:Sl M w a c rows) (hn:rows.flatten.length<1000000000000):
    Calls Tryz.prog 281 #[.slice a rows.length c] w fun e w'=>∃a' c' l',e= .returned (.slice a' l'.length c')∧Hid (l'=rows.flatten)∧Ow w.heap.size (fun k=>w.heap.size≤k) w' 3 (.slice a' l'.length c') l'∧Below w.heap.size w w':=by
 have hrl:=h.le
 go_enter Tryz.func281,Tryz.ntmps281
 go_wp2
 go_loop [3,11] (fun sz i=>∃k:Nat,k≤rows.length∧i= .int .i64 k∧∃z:Nat,sz= .int .i64 z∧Hid (z=(rows.take k).flatten.length)) (fun _ i=>rows.length-(intOf i).toNat)
 case atStart=>exact ⟨0,by omega,rfl,0,rfl,rfl⟩
 case round=>
  obtain ⟨k,hk,rfl,z,rfl,hz⟩:=hrel
  have hzl:z<1000000000000:=by have:=flat_le rows k;rw [hz.out];omega
  by_cases hlt:k<rows.length
  ·obtain ⟨b,off,a1,r,c1,rfl,hc,hr, -⟩:=h.at_row hlt
   have hz2:Hid (z+r.length=(rows.take (k+1)).flatten.length):=by unfold Hid;rw [flat_snoc hr.out,List.length_append,hz.out]
   have hzl2:z+r.length<1000000000000:=by have:=flat_le rows (k+1);rw [hz2.out];omega
   go_wp2
   go_round
   case rel=>exact ⟨k+1,by omega,by go_num,z+r.length,by go_num,hz2⟩
   case measure=>simp [intOf];omega
  go_wp2_with fail
  refine (grow_any z hzl).mono ?_
  rintro e w1 ⟨a1,c1,rfl,hO,hb1⟩
  have hz1:=hb1.size
  have H:=Lib.hid h
  clear h
  go_wp2
  go_loopw [6,27] (fun v i wr=>∃(k:Nat) (a':Option Addr) (c':Nat) (l':List Int),k≤rows.length∧i= .int .i64 k∧v= .slice a' l'.length c'∧Hid (l'=(rows.take k).flatten)∧
   Ow w.heap.size (fun k=>w.heap.size≤k) wr 3 (.slice a' l'.length c') l'∧Below w.heap.size w wr) (fun _ i _=>rows.length-(intOf i).toNat)
  case atStart=>exact ⟨0,a1,c1,[],by omega,rfl,rfl,rfl,hO,hb1⟩
  case round=>
   clear hO hb1
   obtain ⟨j,a2,c2,l2,hj,rfl,rfl,hl2,hO,hB⟩:=hrel
   obtain ⟨w2,rfl⟩:∃w2:World,w2=wr:=⟨_,rfl⟩
   by_cases hlj:j<rows.length
   ·have hll:=flat_le rows (j+1)
    obtain ⟨b,off,a3,r,c3,rfl,hc,hr,hS⟩:=(H.out.below hB).at_row hlj
    have hl3:Hid (l2++r=(rows.take (j+1)).flatten):=by unfold Hid;rw [flat_snoc hr.out,hl2.out]
    have hlen:l2.length+r.length<1000000000000:=by rw [←List.length_append,hl3.out];omega
    have hsz:=hB.size
    clear hll
    go_wp2_with (at_builtin;refine wpList_app_any (B:=w.heap.size) (l0:=l2) (l1:=r) rfl rfl Tryz.underlying94 info_int rfl rfl hO hS hlen hsz ?_)
    intro a4 c4 l4 w4 hl4 hO4 hb4
    have hB4:=hB.trans hb4
    go_wp2
    go_roundw
    case rel=>exact ⟨j+1,a4,c4,l4,by omega,by go_num,rfl,by unfold Hid;rw [hl4.out];exact hl3.out,hO4,hB4⟩
    case measure=>simp [intOf];omega
   go_wp2
   go_ret
   exact ⟨a2,c2,l2,rfl,by unfold Hid;rw [hl2.out,List.take_of_length_le (by omega)],hO,hB⟩
theorem join_own {a:Option Addr} {c:Nat} {rows:List (List Int)} (h:Sl M w a c rows) (hn:rows.flatten.length<1000000000000):
    Calls Tryz.prog 183 #[.slice a rows.length c] w fun e w'=>∃a' c' l',e= .returned (.slice a' l'.length c')∧Hid (l'=rows.flatten)∧Ow w.heap.size (fun k=>w.heap.size≤k) w' 3 (.slice a' l'.length c') l'∧Below w.heap.size w w':=by
 go_enter Tryz.func183,Tryz.ntmps183
 go_wp2_with fail
 refine (concat_own h hn).mono ?_
 rintro e w1 ⟨a1,c1,l1,rfl,hl,hS,hB⟩
 go_wp2
 go_ret
 exact ⟨a1,c1,l1,rfl,hl,hS,hB⟩
theorem join_any {a:Option Addr} {c:Nat} {rows:List (List Int)} (h:Sl M w a c rows) (hn:rows.flatten.length<1000000000000):
    Calls Tryz.prog 183 #[.slice a rows.length c] w fun e w'=>∃a' c' l',e= .returned (.slice a' l'.length c')∧Hid (l'=rows.flatten)∧Sl (fun k=>k<w.heap.size) w' a' c' l'∧Below w.heap.size w w':=
 (join_own h hn).mono fun _ _ ⟨a',c',l',h1,h2,h3,h4⟩=>⟨a',c',l',h1,h2,h3.fresh (Nat.le_refl _),h4⟩
end
section
variable {M:Nat→Prop} {w:World}
theorem joinR_any {a:Option Addr} {c:Nat} {rows:List (List Int)} (h:Sl M w a c rows) (hn:rows.flatten.length<1000000000000):
    Calls Tryz.prog 197 #[.slice a rows.length c] w fun e w'=>∃a' c' l',e= .returned (.slice a' l'.length c')∧Hid (l'=rows.flatten)∧Sl (fun k=>k<w.heap.size) w' a' c' l'∧Below w.heap.size w w':=by
 have hrl:=h.le
 have H:=Lib.hid h
 have hO:Ow (α:=Int) w.heap.size (fun k=>w.heap.size≤k) w 3 (.slice none 0 0) []:=Ow.nil
 have hb:=Below.refl w.heap.size w
 clear h
 go_enter Tryz.func197,Tryz.ntmps197
 go_wp2
 go_loopw [3,4] (fun v i wr=>∃(k:Nat) (a':Option Addr) (c':Nat) (l':List Int),k≤rows.length∧i= .int .i64 k∧v= .slice a' l'.length c'∧Hid (l'=(rows.take k).flatten)∧
  Ow w.heap.size (fun k=>w.heap.size≤k) wr 3 (.slice a' l'.length c') l'∧Below w.heap.size w wr) (fun _ i _=>rows.length-(intOf i).toNat)
 case atStart=>exact ⟨0,none,0,[],by omega,rfl,rfl,rfl,hO,hb⟩
 case round=>
  clear hO hb
  obtain ⟨j,a2,c2,l2,hj,rfl,rfl,hl2,hO,hB⟩:=hrel
  obtain ⟨w2,rfl⟩:∃w2:World,w2=wr:=⟨_,rfl⟩
  by_cases hlj:j<rows.length
  ·have hll:=flat_le rows (j+1)
   obtain ⟨b,off,a3,r,c3,rfl,hc,hr,hS⟩:=(H.out.below hB).at_row hlj
   have hl3:Hid (l2++r=(rows.take (j+1)).flatten):=by unfold Hid;rw [flat_snoc hr.out,hl2.out]
   have hlen:l2.length+r.length<1000000000000:=by rw [←List.length_append,hl3.out];omega
   have hsz:=hB.size
   clear hll
   go_wp2_with (at_builtin;refine wpList_app_any (B:=w.heap.size) (l0:=l2) (l1:=r) rfl rfl Tryz.underlying94 info_int rfl rfl hO hS hlen hsz ?_)
   intro a4 c4 l4 w4 hl4 hO4 hb4
   have hB4:=hB.trans hb4
   go_wp2
   go_roundw
   case rel=>exact ⟨j+1,a4,c4,l4,by omega,by go_num,rfl,by unfold Hid;rw [hl4.out];exact hl3.out,hO4,hB4⟩
   case measure=>simp [intOf];omega
  go_wp2
  go_ret
  exact ⟨a2,c2,l2,rfl,by unfold Hid;rw [hl2.out,List.take_of_length_le (by omega)],hO.fresh (Nat.le_refl _),hB⟩
end
def hasP (l p:List Int):Bool:=decide (comW l p=p.length)
namespace Ob
variable (o:Ob)
def find (w:List Int):Option Tr:=o.traces.find? (fun t=>hasP t.inn w)
def known (w:List Int):Bool:=decide (w=[])||(o.find w).isSome
def lens:Prop:=∀t∈o.traces,t.inn.length≤t.out.length∧t.out.length<100000000000
variable {o}
end Ob
theorem ret_ij {x y:Int} (h:x=y):Ending.returned (.int .i64 x)= .returned (.int .i64 y):=by rw [h]
theorem blw {w w':World} (h:Hid (∃n,w'=w.drewN n)) (B:Nat):Below B w w':=by
 obtain ⟨n,rfl⟩:=h.out;exact below_drewN _ _ _
section
variable {M M':Nat→Prop} {w:World} {a b:Option Addr} {c d:Nat}
theorem hasp_is {xs ys:List Int} (h1:Sl M w a c xs) (h2:Sl M' w b d ys) {v:Bool} (h:hasP xs ys=v):
    Calls Tryz.prog 68 #[.slice a xs.length c,.slice b ys.length d] w fun e w'=>e= .returned (.bool v)∧Below w.heap.size w w':=
 (hasp_any (h1.anti (M':=fun _=>False) fun _ _ h=>h.elim) (h2.anti (M':=fun _=>False) fun _ _ h=>h.elim)).mono fun e w' ⟨he,hw⟩=>⟨by rw [he,←h];rfl,blw hw _⟩
theorem haspR_is {xs ys:List Int} (h1:Sl M w a c xs) (h2:Sl M' w b d ys) {v:Bool} (h:hasP xs ys=v):
    Calls Tryz.prog 126 #[.slice a xs.length c,.slice b ys.length d] w fun e w'=>e= .returned (.bool v)∧Below w.heap.size w w':=
 (haspR_any (h1.anti (M':=fun _=>False) fun _ _ h=>h.elim) (h2.anti (M':=fun _=>False) fun _ _ h=>h.elim)).mono fun e w' ⟨he,hw⟩=>⟨by rw [he,←h];rfl,blw hw _⟩
end
def badO (x:Int):Prop:=x<0∨1048576<x
instance (x:Int):Decidable (badO x):=by unfold badO;exact inferInstance
def Tr.err (t:Tr) (n:Int):Int:=if wErr t.inn n≠0 then wErr t.inn n else if t.out.length≠t.inn.length then 1 else if ∃x∈t.out,badO x then 2 else 0
theorem Tr.err_w {t:Tr} {n:Int} (h:wErr t.inn n≠0):t.err n=wErr t.inn n:=by unfold Tr.err;rw [if_pos h]
theorem Tr.err_l {t:Tr} {n:Int} (h:wErr t.inn n=0) (h2:t.out.length≠t.inn.length):t.err n=1:=by unfold Tr.err;rw [if_neg (by simp [h]),if_pos h2]
theorem Tr.err_o {t:Tr} {n:Int} (h:wErr t.inn n=0) (h2:t.out.length=t.inn.length) (h3:∃x∈t.out,badO x):t.err n=2:=by unfold Tr.err;rw [if_neg (by simp [h]),if_neg (by simp [h2]),if_pos h3]
theorem Tr.err_0 {t:Tr} {n:Int} (h:wErr t.inn n=0) (h2:t.out.length=t.inn.length) (h3:¬∃x∈t.out,badO x):t.err n=0:=by unfold Tr.err;rw [if_neg (by simp [h]),if_neg (by simp [h2]),if_neg h3]
theorem Tr.of_err {t:Tr} {n:Int} (h:t.err n=0):wErr t.inn n=0∧t.out.length=t.inn.length∧¬∃x∈t.out,badO x:=by
 unfold Tr.err at h
 split at h
 ·rename_i h1;exact absurd h h1
 rename_i h1
 split at h
 ·simp at h
 rename_i h2
 split at h
 ·simp at h
 rename_i h3;exact ⟨by simpa using h1,by simpa using h2,h3⟩
theorem wErr_len {w:List Int} {n:Int} (h:wErr w n=0):w.length≤1024:=by
 unfold wErr at h
 split at h
 ·simp at h
 split at h
 ·simp at h
 omega
def Tr.dif (a b:Tr):Int:=
 let n:=comW a.inn b.inn
 let k:=comW (a.out.take n) (b.out.take n)
 if k<n then k else -1
namespace Ob
variable (o:Ob)
def tr (i:Nat):Tr:=o.traces.getD i ⟨[],[]⟩
def atErr (i:Nat):Int:=
 if wErr (o.tr i).inn o.inputs≠0 then wErr (o.tr i).inn o.inputs
 else if (o.tr i).inn=[] then 19
 else if (o.tr i).err o.inputs≠0 then (o.tr i).err o.inputs
 else if 0<i∧0≤cmpW (o.tr (i-1)).inn (o.tr i).inn then 10 else 0
def atsErr:Nat→Int
 |0=>0
 |k+1=>if atsErr k=0 then o.atErr k else atsErr k
def preB (i k:Nat):Bool:=(List.range k).any fun j=>decide (i<j)&&hasP (o.tr j).inn (o.tr i).inn
def claB (i k:Nat):Bool:=(List.range k).any fun j=>decide (i<j)&&decide (0≤(o.tr i).dif (o.tr j))
def apErr (i:Nat):Int:=if o.preB i o.traces.length=true then 7 else if o.claB i o.traces.length=true then 13 else 0
def apsErr:Nat→Int
 |0=>0
 |k+1=>if apsErr k=0 then o.apErr k else apsErr k
def err:Int:=
 if o.inputs<1∨64<o.inputs then 2
 else if 10000<o.traces.length then 11
 else if o.atsErr o.traces.length≠0 then o.atsErr o.traces.length
 else o.apsErr o.traces.length
variable {o}
theorem atsErr_stop {k n:Nat} (hk:k≤n) (h:o.atsErr k≠0):o.atsErr n=o.atsErr k:=by
 induction n with
 | zero => obtain rfl : k = 0 := by omega
           rfl
 |succ n ih=>
  by_cases e:k=n+1
  ·rw [e]
  have:=ih (by omega)
  show (if o.atsErr n=0 then _ else _)=_
  rw [this,if_neg h]
theorem apsErr_stop {k n:Nat} (hk:k≤n) (h:o.apsErr k≠0):o.apsErr n=o.apsErr k:=by
 induction n with
 | zero => obtain rfl : k = 0 := by omega
           rfl
 |succ n ih=>
  by_cases e:k=n+1
  ·rw [e]
  have:=ih (by omega)
  show (if o.apsErr n=0 then _ else _)=_
  rw [this,if_neg h]
theorem atsErr_zero {k n:Nat} (hk:k<n) (h:o.atsErr n=0):o.atErr k=0:=by
 induction n with
 |zero=>omega
 |succ n ih=>
  have h':(if o.atsErr n=0 then o.atErr n else o.atsErr n)=0:=h
  by_cases e:o.atsErr n=0
  ·rw [if_pos e] at h'
   by_cases e2:k=n
   ·rw [e2];exact h'
   exact ih (by omega) e
  rw [if_neg e] at h';exact absurd h' e
theorem atErr_zero {i:Nat} (h:o.atErr i=0):(o.tr i).err o.inputs=0∧(o.tr i).inn≠[]∧(0<i→cmpW (o.tr (i-1)).inn (o.tr i).inn<0):=by
 unfold atErr at h
 split at h
 ·rename_i h1;exact absurd h h1
 split at h
 ·simp at h
 rename_i h2
 split at h
 ·rename_i h3;exact absurd h h3
 rename_i h3
 split at h
 ·simp at h
 rename_i h4
 refine ⟨by simpa using h3,h2,fun hi=> ?_⟩
 have:¬(0≤cmpW (o.tr (i-1)).inn (o.tr i).inn):=fun e=>h4 ⟨hi,e⟩
 omega
theorem tr_of {i:Nat} {t:Tr} (h:o.traces[i]? =some t):o.tr i=t:=getD_of_some h
def goods (k:Nat):Prop:=∀j,j<k→(o.tr j).err o.inputs=0
theorem goods_all (h:o.atsErr o.traces.length=0):o.goods o.traces.length:=fun _ hj=>(atErr_zero (atsErr_zero hj h)).1
theorem goods_lens (h:o.goods o.traces.length):o.lens:=by
 intro t ht
 obtain ⟨k,hk,rfl⟩:=List.getElem_of_mem ht
 have e:=h k hk
 rw [tr_of (List.getElem?_eq_getElem hk)] at e
 obtain ⟨h1,h2,_⟩:=Tr.of_err e
 have:=wErr_len h1
 omega
theorem err_cases:
    (o.inputs<1∧o.err=2)∨(1≤o.inputs∧64<o.inputs∧o.err=2)∨(1≤o.inputs∧o.inputs≤64∧10000<o.traces.length∧o.err=11)∨
    (1≤o.inputs∧o.inputs≤64∧o.traces.length≤10000∧o.err=(if o.atsErr o.traces.length≠0 then o.atsErr o.traces.length else o.apsErr o.traces.length)):=by
 unfold err
 by_cases h1:o.inputs<1
 ·exact .inl ⟨h1,by rw [if_pos (.inl h1)]⟩
 by_cases h2:64<o.inputs
 ·exact .inr (.inl ⟨by omega,h2,by rw [if_pos (.inr h2)]⟩)
 by_cases h3:10000<o.traces.length
 ·exact .inr (.inr (.inl ⟨by omega,by omega,h3,by rw [if_neg (by omega),if_pos h3]⟩))
 exact .inr (.inr (.inr ⟨by omega,by omega,by omega,by rw [if_neg (by omega),if_neg h3]⟩))
theorem preB_succ (i k:Nat):o.preB i (k+1)=(o.preB i k||(decide (i<k)&&hasP (o.tr k).inn (o.tr i).inn)):=by
 unfold preB;rw [List.range_succ,List.any_append];simp
theorem claB_succ (i k:Nat):o.claB i (k+1)=(o.claB i k||(decide (i<k)&&decide (0≤(o.tr i).dif (o.tr k)))):=by
 unfold claB;rw [List.range_succ,List.any_append];simp
theorem preB_low {i k:Nat} (h:k≤i+1):o.preB i k=false:=by
 unfold preB;rw [List.any_eq_false];intro j hj;rw [List.mem_range] at hj;simp;omega
theorem claB_low {i k:Nat} (h:k≤i+1):o.claB i k=false:=by
 unfold claB;rw [List.any_eq_false];intro j hj;rw [List.mem_range] at hj;simp;omega
end Ob
end Go.Proofs.YtjmbphjgiodioaaGreatDoor
