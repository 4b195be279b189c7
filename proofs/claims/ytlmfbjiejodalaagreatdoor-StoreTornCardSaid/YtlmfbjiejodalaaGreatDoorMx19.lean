/- Several texts, one behind the other. Conditions: as each of them says. -/
import Derived.Test.YtlmfbjiejodalaaGreatDoorMx7
import Derived.WalkSpells
import Derived.Lib.Walk
import Derived.Lib.SliceRun
import Derived.Lib.AppendZerosOnto
set_option maxRecDepth 100000
set_option maxHeartbeats 32000000
namespace Go.Proofs.YtlmfbjiejodalaaGreatDoor
open Go.RowKit
section
variable {P:Program} {w:World} {o:Oper} {a:Act} {ops:Array Oper} {rest:List Oper} {Q:Exit→Act→World→Prop}
theorem app_none {B:Nat} {t ty e:TypeId} {i:TypeInfo} {n size:Nat} {v:Value} {xs:List Value} (ht:P.underlying t=some (.slice e)) (hi:P.info? e=some i) (h:w.ownsRow B e size v n xs) (c:Nat):
    (Builtin.append_ #[t,t] ty #[v,.slice none 0 c]).run P w= .ok v w:=by
 rcases h.2 with ⟨rfl,rfl⟩|⟨g,cap,cur,rfl,_,_,hnc,_⟩
 ·simp [Builtin.append_,run_underlying ht,sizeOf,typeInfo,hi,Builtin.lenOf,Builtin.firstCells]
 simp [Builtin.append_,run_underlying ht,sizeOf,typeInfo,hi,Builtin.lenOf,Builtin.firstCells,hnc,storeCells]
theorem wpList_app_any {l0 l1:List Int} {s x:Operand} {t e:TypeId} {B:Nat} {M:Nat→Prop} {v:Value} {A:Option Addr} {c:Nat} (hg:o.guard=none) (hop:o.op= .call {callee:= .builtin .append,args:= #[s,x],argTypes:= #[t,t]})
    (ht:P.underlying t=some (.slice e)) (hi:(P.info? e).map (fun i=>(i.zero,i.size,i.bytes))=some (some (.int .i64 0),1,8))
    (hs:a.eval s=v) (hx:a.eval x= .slice A l1.length c) (hown:Ow B (fun k=>B≤k) w e v l0) (hsrc:Sl M w A c l1)
    (hlen:l0.length+l1.length<1000000000000) (hB:B≤w.heap.size)
    (h:∀(a':Option Addr) (c':Nat) (l':List Int) (w':World),Hid (l'=l0++l1)→Ow B (fun k=>B≤k) w' e (.slice a' l'.length c') l'→Below B w w'→
     wpList P ops Q rest (a.put o.dst (.slice a' l'.length c')) w'):wpList P ops Q (o::rest) a w:=by
 cases A with
 |some ad=>exact wpList_app_ints hg hop ht hi hs hx hown hsrc hlen hB h
 |none=>
  have h0:l1=[]:=by
   cases l1 with
   |nil=>rfl
   |cons x l=>obtain ⟨_,_,_,ha,_⟩:=hsrc.at_int (j:=0) (by simp);cases ha
  subst h0
  obtain ⟨i,hi1,_⟩:=info_parts hi
  obtain ⟨a',c',hv,_,_⟩:=hown.shape
  have hown0:=hown
  obtain ⟨xs,hr,_⟩:=hown
  refine wpList_plain hg fun K hK=> ?_
  have hrun:=app_none (ty:=o.type) ht hi1 hr c
  unfold Oper.wp execOp
  simp only [hop,resolve,invoke,builtin,Sem.run_bind,Sem.run_pure,Result.andThen_ok,List.map_toArray,List.map_cons,List.map_nil,hs,hx,List.length_nil,hrun]
  show K (a.put o.dst v) w
  rw [hv] at hown0 ⊢
  exact hK _ _ (h a' c' l0 w (by unfold Hid;simp) hown0 (Below.refl _ _))
end
section
variable {M:Nat→Prop} {w:World}
theorem grow_zero:Calls Tryz.prog 332 #[.slice none 0 0,.int .i64 0] w fun e w'=>∃a c,e= .returned (.slice a 0 c)∧Ow (α:=Int) w.heap.size (fun k=>w.heap.size≤k) w' 3 (.slice a 0 c) []∧Below w.heap.size w w':=by
 go_enter Tryz.func332,Tryz.ntmps332
 go_wp2
 go_ret
 exact ⟨none,0,rfl,Ow.nil,Below.refl _ _⟩
theorem grow_some (n:Nat) (h0:0<n) (hn:n<1000000000000):Calls Tryz.prog 332 #[.slice none 0 0,.int .i64 n] w fun e w'=>∃a c,e= .returned (.slice a 0 c)∧Ow (α:=Int) w.heap.size (fun k=>w.heap.size≤k) w' 3 (.slice a 0 c) []∧Below w.heap.size w w':=by
 obtain ⟨i,hi1,hi2,hi3,hi4⟩:=info_parts info_int
 have hold:(Builtin.firstCells i.size 0 (.slice none 0 0)).run Tryz.prog w.drew= .ok (([]:List Value).toArray) w.drew:=run_firstCells_none w.drew i.size 0 0 0
 have hGn:n≤grownCap w n 0 3:=grownCap_ge w _ _ _
 have hGm:grownCap w n 0 3≤maxLen:=grownCap_le_maxLen w n 0 3 (by unfold maxLen;omega)
 obtain ⟨cur,hcs,hrz⟩:∃cur:Array Value,cur.size=grownCap w n 0 3∧∀ty,(Builtin.append_ #[62,3] ty #[.slice none 0 0,.int .i64 ((n:Nat):Int)]).run Tryz.prog w= .ok (.slice (some ⟨w.heap.size,0,none⟩) n (grownCap w n 0 3)) (w.drew.alloc (.cells cur 3)):=by
  refine ⟨([]:List Value).toArray++Builtin.zeroCells (Value.int .i64 0).cells n++Builtin.zeroCells (Value.int .i64 0).cells (grownCap w n 0 3-n),?_,fun ty=> ?_⟩
  rotate_left
  ·have h:=Lib.run_append_grow_zeros w 62 3 ty 3 i (.int .i64 0) .i64 .i64 Tryz.underlying62 Tryz.underlying3 hi1 hi2 none 0 0 [] hold n h0 (by rw [hi3];omega) (by omega) (by omega) (by rw [hi4];omega) (by rw [hi4];exact growslice_fits (by omega) (by omega))
   rw [Nat.zero_add] at h
   exact h
  simp [Builtin.zeroCells,Value.cells]
  try omega
 obtain ⟨G,hG⟩:∃G,G=grownCap w n 0 3:=⟨_,rfl⟩
 rw [←hG] at hrz hGn hGm hcs
 have hG63:G≤9223372036854775807:=by unfold maxLen at hGm;omega
 have HC:=Lib.hid hcs
 clear hold hG hcs
 go_enter Tryz.func332,Tryz.ntmps332
 go_wp2_with (at_builtin;refine Lib.wpList_append_run _ rfl _ _ _ _ rfl _ _ rfl rfl _ _ (hrz _) ?_)
 go_wp2
 go_ret
 exact ⟨_,G,rfl,⟨[],⟨rfl,.inr ⟨w.heap.size,G,cur,rfl,Nat.le_refl _,heap_alloc_new w.drew _,Nat.zero_le _,hGm,by rw [HC.out];simp [GR.sz],rfl⟩⟩,fun j x hj=>by simp at hj⟩,((Below.refl _ _).drew).alloc (Nat.le_refl _) _⟩
theorem grow_any (n:Nat) (hn:n<1000000000000):Calls Tryz.prog 332 #[.slice none 0 0,.int .i64 n] w fun e w'=>∃a c,e= .returned (.slice a 0 c)∧Ow (α:=Int) w.heap.size (fun k=>w.heap.size≤k) w' 3 (.slice a 0 c) []∧Below w.heap.size w w':=by
 rcases Nat.eq_zero_or_pos n with rfl|h
 ·exact grow_zero
 exact grow_some n h hn
theorem flat_snoc {rows:List (List Int)} {k:Nat} {r:List Int} (h:rows[k]? =some r):(rows.take (k+1)).flatten=(rows.take k).flatten++r:=by
 rw [List.take_add_one,h];simp
theorem flat_le (rows:List (List Int)) (k:Nat):(rows.take k).flatten.length≤rows.flatten.length:=by
 conv=>rhs;rw [←List.take_append_drop k rows]
 rw [List.flatten_append,List.length_append];omega
theorem concat_own {a:Option Addr} {c:Nat} {rows:List (List Int)} (h:Sl M w a c rows) (hn:rows.flatten.length<1000000000000):
    Calls Tryz.prog 271 #[.slice a rows.length c] w fun e w'=>∃a' c' l',e= .returned (.slice a' l'.length c')∧Hid (l'=rows.flatten)∧Ow w.heap.size (fun k=>w.heap.size≤k) w' 3 (.slice a' l'.length c') l'∧Below w.heap.size w w':=by
 have hrl:=h.le
 go_enter Tryz.func271,Tryz.ntmps271
 go_wp2
 go_loop [3,11] (fun sz i=>∃k:Nat,k≤rows.length∧i= .int .i64 k∧∃z:Nat,sz= .int .i64 z∧Hid (z=(rows.take k).flatten.length)) (fun _ i=>rows.length-(intOf i).toNat)
 case atStart=>exact ⟨0,by omega,rfl,0,rfl,rfl⟩
 case round=>
  obtain ⟨k,hk,rfl,z,rfl,hz⟩:=hrel
  have hzl:z<1000000000000:=by have:=flat_le rows k;rw [hz.out];omega
  by_cases hlt:k<rows.length
  ·obtain ⟨b,off,a1,r,c1,rfl,hc,hr, -⟩:=h.at_row hlt
   have hz2:Hid (z+r.length=(rows.take (k+1)).flatten.length):=by unfold Hid;rw [flat_snoc hr.out,List.length_append,hz.out]
   have hzl2:z+r.length<1000000000000:=by have:=flat_le rows (k+1);rw [hz2.out];omega
   go_wp2
   go_round
   case rel=>exact ⟨k+1,by omega,by go_num,z+r.length,by go_num,hz2⟩
   case measure=>simp [intOf];omega
  go_wp2_with fail
  refine (grow_any z hzl).mono ?_
  rintro e w1 ⟨a1,c1,rfl,hO,hb1⟩
  have hz1:=hb1.size
  have H:=Lib.hid h
  clear h
  go_wp2
  go_loopw [6,27] (fun v i wr=>∃(k:Nat) (a':Option Addr) (c':Nat) (l':List Int),k≤rows.length∧i= .int .i64 k∧v= .slice a' l'.length c'∧Hid (l'=(rows.take k).flatten)∧
   Ow w.heap.size (fun k=>w.heap.size≤k) wr 3 (.slice a' l'.length c') l'∧Below w.heap.size w wr) (fun _ i _=>rows.length-(intOf i).toNat)
  case atStart=>exact ⟨0,a1,c1,[],by omega,rfl,rfl,rfl,hO,hb1⟩
  case round=>
   clear hO hb1
   obtain ⟨j,a2,c2,l2,hj,rfl,rfl,hl2,hO,hB⟩:=hrel
   obtain ⟨w2,rfl⟩:∃w2:World,w2=wr:=⟨_,rfl⟩
   by_cases hlj:j<rows.length
   ·have hll:=flat_le rows (j+1)
    obtain ⟨b,off,a3,r,c3,rfl,hc,hr,hS⟩:=(H.out.below hB).at_row hlj
    have hl3:Hid (l2++r=(rows.take (j+1)).flatten):=by unfold Hid;rw [flat_snoc hr.out,hl2.out]
    have hlen:l2.length+r.length<1000000000000:=by rw [←List.length_append,hl3.out];omega
    have hsz:=hB.size
    clear hll
    go_wp2_with (at_builtin;refine wpList_app_any (B:=w.heap.size) (l0:=l2) (l1:=r) rfl rfl Tryz.underlying62 info_int rfl rfl hO hS hlen hsz ?_)
    intro a4 c4 l4 w4 hl4 hO4 hb4
    have hB4:=hB.trans hb4
    go_wp2
    go_roundw
    case rel=>exact ⟨j+1,a4,c4,l4,by omega,by go_num,rfl,by unfold Hid;rw [hl4.out];exact hl3.out,hO4,hB4⟩
    case measure=>simp [intOf];omega
   go_wp2
   go_ret
   exact ⟨a2,c2,l2,rfl,by unfold Hid;rw [hl2.out,List.take_of_length_le (by omega)],hO,hB⟩
theorem join_own {a:Option Addr} {c:Nat} {rows:List (List Int)} (h:Sl M w a c rows) (hn:rows.flatten.length<1000000000000):
    Calls Tryz.prog 206 #[.slice a rows.length c] w fun e w'=>∃a' c' l',e= .returned (.slice a' l'.length c')∧Hid (l'=rows.flatten)∧Ow w.heap.size (fun k=>w.heap.size≤k) w' 3 (.slice a' l'.length c') l'∧Below w.heap.size w w':=by
 go_enter Tryz.func206,Tryz.ntmps206
 go_wp2_with fail
 refine (concat_own h hn).mono ?_
 rintro e w1 ⟨a1,c1,l1,rfl,hl,hS,hB⟩
 go_wp2
 go_ret
 exact ⟨a1,c1,l1,rfl,hl,hS,hB⟩
theorem join_any {a:Option Addr} {c:Nat} {rows:List (List Int)} (h:Sl M w a c rows) (hn:rows.flatten.length<1000000000000):
    Calls Tryz.prog 206 #[.slice a rows.length c] w fun e w'=>∃a' c' l',e= .returned (.slice a' l'.length c')∧Hid (l'=rows.flatten)∧Sl (fun k=>k<w.heap.size) w' a' c' l'∧Below w.heap.size w w':=
 (join_own h hn).mono fun _ _ ⟨a',c',l',h1,h2,h3,h4⟩=>⟨a',c',l',h1,h2,h3.fresh (Nat.le_refl _),h4⟩
end
end Go.Proofs.YtlmfbjiejodalaaGreatDoor
