/- Several texts, one behind the other. Conditions: as each of them says. -/
import Derived.Test.YtjmbphjgiodioaaGreatDoorMv32
import Derived.Test.YtjmbphjgiodioaaGreatDoorMv31
import Derived.Test.YtjmbphjgiodioaaGreatDoorMv27
import Derived.Test.YtjmbphjgiodioaaGreatDoorMv26
import Derived.Test.YtjmbphjgiodioaaGreatDoorMv19
import Derived.Test.YtjmbphjgiodioaaGreatDoorMv17
import Derived.Test.YtjmbphjgiodioaaGreatDoorMv10
import Derived.Test.YtjmbphjgiodioaaGreatDoorMv7
import Derived.Test.YtjmbphjgiodioaaGreatDoorMv3
import Derived.Deep.Cut
import Derived.WalkSpells
set_option maxRecDepth 100000
set_option maxHeartbeats 32000000
namespace Go.Proofs.YtjmbphjgiodioaaGreatDoor
open Go.RowKit
def difT (s t:Tr):Int:=if comW (s.out.take (comW s.inn t.inn)) (t.out.take (comW s.inn t.inn))<comW s.inn t.inn then (comW (s.out.take (comW s.inn t.inn)) (t.out.take (comW s.inn t.inn)):Nat) else -1
section
variable {M M1 M2 M3:Nat→Prop} {w:World} {a1 a2 b1 b2:Option Addr} {c1 c2 d1 d2:Nat}
theorem fls {α:Type} [GR α] {M:Nat→Prop} {w:World} {a:Option Addr} {c:Nat} {l:List α} (h:Sl M w a c l):Sl (fun _=>False) w a c l:=h.anti fun _ _ h=>h.elim
theorem odif_any {s t:Tr} (h1:Sl M w a1 c1 s.inn) (h2:Sl M1 w a2 c2 s.out) (h3:Sl M2 w b1 d1 t.inn) (h4:Sl M3 w b2 d2 t.out) (e1:s.out.length=s.inn.length) (e2:t.out.length=t.inn.length):
    Calls Tryz.prog 70 #[trV s a1 c1 a2 c2,trV t b1 d1 b2 d2] w fun e w'=>e= .returned (.int .i64 (difT s t))∧Below w.heap.size w w':=by
 have z1:(w.alloc (trO s a1 c1 a2 c2)).heap.size=w.heap.size+1:=by simp
 have hB0:Below w.heap.size w ((w.alloc (trO s a1 c1 a2 c2)).alloc (trO t b1 d1 b2 d2)):=((Below.refl _ _).alloc (Nat.le_refl _) _).alloc (by simp) _
 have hx0:T2 ((w.alloc (trO s a1 c1 a2 c2)).alloc (trO t b1 d1 b2 d2)) w.heap.size a1 c1 a2 c2 s:=(t2_new w).below (B:=w.heap.size+1) ((Below.refl _ _).alloc (by rw [z1];exact Nat.le_refl _) _) (by omega)
 have hy0:T2 ((w.alloc (trO s a1 c1 a2 c2)).alloc (trO t b1 d1 b2 d2)) (w.heap.size+1) b1 d1 b2 d2 t:=by
  have h:=t2_new (t:=t) (a:=b1) (c:=d1) (a':=b2) (c':=d2) (w.alloc (trO s a1 c1 a2 c2))
  rw [z1] at h;exact h
 have hz0:w.heap.size+2≤((w.alloc (trO s a1 c1 a2 c2)).alloc (trO t b1 d1 b2 d2)).heap.size:=by simp
 have l1:=h1.le
 have l2:=h2.le
 have l3:=h3.le
 have l4:=h4.le
 have l2c:=h2.1
 have l4c:=h4.1
 have H1:=Lib.hid (fls (h1.below hB0))
 have H2:=Lib.hid (fls (h2.below hB0))
 have H3:=Lib.hid (fls (h3.below hB0))
 have H4:=Lib.hid (fls (h4.below hB0))
 have hcl:=comW_le s.inn t.inn
 obtain ⟨n,hn⟩:∃n,n=comW s.inn t.inn:=⟨_,rfl⟩
 rw [←hn] at hcl
 have hns:n≤s.out.length:=by omega
 have hnt:n≤t.out.length:=by omega
 have HN:=Lib.hid hn
 have hm3:¬s.out.length<n:=by omega
 have hm5:n≤c2:=by omega
 have hm6:n≤d2:=by omega
 have hm4:¬((t.out.length:Nat):Int)<((n:Nat):Int):=by omega
 have hm1:min ((n:Nat):Int) ((s.out.length:Nat):Int)=(n:Int):=by omega
 have hm2:min ((n:Nat):Int) ((t.out.length:Nat):Int)=(n:Int):=by omega
 have HF:Hid (difT s t=if comW (s.out.take n) (t.out.take n)<n then ((comW (s.out.take n) (t.out.take n):Nat):Int) else -1):=by unfold Hid difT;rw [←hn]
 obtain ⟨i,hi⟩:∃i,i=comW (s.out.take n) (t.out.take n):=⟨_,rfl⟩
 rw [←hi] at HF
 have HI:=Lib.hid hi
 clear h1 h2 h3 h4 e1 e2 z1 hcl hn hi
 go_enter Tryz.func70,Tryz.ntmps70
 go_upto_region 1 with (fail)
 generalize (w.alloc (trO s a1 c1 a2 c2)).alloc (trO t b1 d1 b2 d2)=w0 at*
 have HS:Hid (∀w',Below w0.heap.size w0 w'→(T2 w' w.heap.size a1 c1 a2 c2 s∧T2 w' (w.heap.size+1) b1 d1 b2 d2 t)∧Below w.heap.size w w'∧Sl (fun _=>False) w' a1 c1 s.inn∧Sl (fun _=>False) w' b1 d1 t.inn∧Sl (fun _=>False) w' a2 c2 s.out∧Sl (fun _=>False) w' b2 d2 t.out):=fun w' hb=>
  ⟨⟨hx0.below hb (by omega),hy0.below hb (by omega)⟩,hB0.trans (hb.mono (by omega)),H1.out.below hb,H3.out.below hb,H2.out.below hb,H4.out.below hb⟩
 clear hx0 hy0 hB0 hz0 H1 H2 H3 H4
 refine wp_region_L (fun w'=>T2 w' w.heap.size a1 c1 a2 c2 s∧T2 w' (w.heap.size+1) b1 d1 b2 d2 t) [0,1,2,3,5,6,7,8,9,10,11,12] (by kernel_rfl) ?_
 have hb1:=(Below.refl w0.heap.size w0).drew
 have hS1:=(HS.out _ hb1).1
 have HC0:=com_any (HS.out _ hb1).2.2.1 (HS.out _ hb1).2.2.2.1
 rw [←HN.out] at HC0
 have HC:=Lib.hid HC0
 generalize w0.drew=w1 at*
 clear HC0
 refine skL_on [0,1,2,3,5,6,7,8,9,10] ?_
 repeat (refine skL_take (v:= ?_) rfl ?_ ?_;rotate_left;(focus (intro w' hSw;(try dsimp only at hSw);go_simp;try with_reducible rfl));try simp only [Act.put,List.setIfInBounds_toArray,List.set_cons_zero,List.set_cons_succ])
 refine skL_off ?_
 refine wpAnyL_one (i:=4) (by kernel_rfl) rfl rfl (fun K hK=> ?_)
 go_simp
 refine (HC.out).mono ?_
 rintro e w2 ⟨rfl,hd2⟩
 have hb2:=hb1.trans ((blw hd2 w1.heap.size).mono hb1.size)
 have hS2:=(HS.out _ hb2).1
 refine hK _ _ (fun _=>hS2) ?_
 clear hK K HC hS1 hd2 hb1
 refine wpAnyL_one (i:=11) (by kernel_rfl) rfl rfl (fun K hK=> ?_)
 go_simp
 refine hK _ _ (fun _=>hS2) ?_
 clear hK K
 refine skL_on [12] ?_
 repeat (refine skL_take (v:= ?_) rfl ?_ ?_;rotate_left;(focus (intro w' hSw;(try dsimp only at hSw);go_simp;try with_reducible rfl));try simp only [Act.put,List.setIfInBounds_toArray,List.set_cons_zero,List.set_cons_succ])
 refine skL_off ?_
 refine wpAnyL_done (by kernel_rfl) ?_ _
 clear hS2
 go_upto_region 2 with (fail)
 refine wp_region_L (fun w'=>T2 w' w.heap.size a1 c1 a2 c2 s∧T2 w' (w.heap.size+1) b1 d1 b2 d2 t) [0,1,2,3,4,5,6,7,9] (by kernel_rfl) ?_
 have hb3:=hb2.trans (((Below.refl w2.heap.size w2).drew).mono hb2.size)
 have hS3:=(HS.out _ hb3).1
 have HC0:=com_any ((HS.out _ hb3).2.2.2.2.1.taken hns) ((HS.out _ hb3).2.2.2.2.2.taken hnt)
 rw [←HI.out,List.length_take,List.length_take,Nat.min_eq_left hns,Nat.min_eq_left hnt] at HC0
 have HC:=Lib.hid HC0
 generalize w2.drew=w3 at*
 clear HC0 hb2
 refine skL_on [0,1,2,3,4,5,6,7] ?_
 repeat (refine skL_take (v:= ?_) rfl ?_ ?_;rotate_left;(focus (intro w' hSw;(try dsimp only at hSw);go_simp;try with_reducible rfl));try simp only [Act.put,List.setIfInBounds_toArray,List.set_cons_zero,List.set_cons_succ])
 refine skL_off ?_
 refine wpAnyL_one (i:=8) (by kernel_rfl) rfl rfl (fun K hK=> ?_)
 go_simp
 refine (HC.out).mono ?_
 rintro e w4 ⟨rfl,hd4⟩
 have hb4:=hb3.trans ((blw hd4 w3.heap.size).mono hb3.size)
 have hS4:=(HS.out _ hb4).1
 have hBf:=(HS.out _ hb4).2.1
 refine hK _ _ (fun _=>hS4) ?_
 clear hK K HC hS3 hd4 hb3
 refine skL_on [9] ?_
 repeat (refine skL_take (v:= ?_) rfl ?_ ?_;rotate_left;(focus (intro w' hSw;(try dsimp only at hSw);go_simp;try with_reducible rfl));try simp only [Act.put,List.setIfInBounds_toArray,List.set_cons_zero,List.set_cons_succ])
 refine skL_off ?_
 refine wpAnyL_done (by kernel_rfl) ?_ _
 clear hS4
 by_cases hlt:i<n
 ·have hv:Hid (difT s t=(i:Int)):=by unfold Hid;rw [HF.out,if_pos hlt]
  go_wp2
  go_ret
  exact ⟨by rw [hv.out];rfl,hBf⟩
 have hv:Hid (difT s t= -1):=by unfold Hid;rw [HF.out,if_neg hlt]
 go_wp2
 go_ret
 exact ⟨by rw [hv.out];rfl,hBf⟩
theorem order_any {s t:Tr} (h1:Sl M w a1 c1 s.inn) (h2:Sl M1 w b1 d1 t.inn):
    Calls Tryz.prog 64 #[trV s a1 c1 a2 c2,trV t b1 d1 b2 d2] w fun e w'=>e= .returned (.int .i64 (cmpW s.inn t.inn))∧Below w.heap.size w w':=by
 have hb:Below w.heap.size w ((w.alloc (trO s a1 c1 a2 c2)).alloc (trO t b1 d1 b2 d2)):=((Below.refl _ _).alloc (Nat.le_refl _) _).alloc (by simp) _
 have HC:=Lib.hid (cmpF_cmp _ _ _ _ _ _ _ _ _ (h1.below hb) (h2.below hb))
 have l1:=h1.le
 have l2:=h2.le
 clear h1 h2
 go_enter Tryz.func64,Tryz.ntmps64
 go_wp2_with fail
 generalize (w.alloc (trO s a1 c1 a2 c2)).alloc (trO t b1 d1 b2 d2)=w1 at*
 refine (HC.out).mono ?_
 rintro e w2 ⟨rfl,q,os,hw2⟩
 have hB:=hb.trans ((CmpF.below hw2).mono hb.size)
 clear hw2
 go_wp2
 go_ret
 exact ⟨rfl,hB⟩
end
def badB (x:Int):Bool:=decide (x<0)||decide (1048576<x)
def IdI (l:List Int) (r:Int):Prop:=(r<0→l.any badB=false)∧(0≤r→l.any badB=true)
theorem badB_iff {x:Int}:badB x=true↔badO x:=by unfold badB badO;simp
theorem any_bad {l:List Int} (h:l.any badB=true):∃x∈l,badO x:=by
 obtain ⟨x,h1,h2⟩:=List.any_eq_true.1 h
 exact ⟨x,h1,badB_iff.1 h2⟩
theorem any_bad0 {l:List Int} (h:l.any badB=false):¬∃x∈l,badO x:=fun ⟨x,h1,h2⟩=>by
 have:=List.any_eq_true.2 ⟨x,h1,badB_iff.2 h2⟩
 rw [h] at this;cases this
section
variable {M M1 M2 M3:Nat→Prop} {w:World} {a1 a2 b1 b2:Option Addr} {c1 c2 d1 d2:Nat}
theorem prop1x (x:Int) {v:Bool} (hv:badB x=v):Calls Tryz.prog 107 #[.int .i64 x] w fun e w'=>e= .returned (.bool v)∧w'=w:=by
 unfold badB at hv
 by_cases h1:x<0
 ·obtain rfl:v=true:=by rw [←hv];simp [h1]
  clear hv
  go_enter Tryz.func107,Tryz.ntmps107
  go_wp2
  go_ret
  exact ⟨rfl,rfl⟩
 by_cases h2:1048576<x
 ·obtain rfl:v=true:=by rw [←hv];simp [h2]
  clear hv
  go_enter Tryz.func107,Tryz.ntmps107
  go_wp2
  go_ret
  exact ⟨rfl,rfl⟩
 obtain rfl:v=false:=by rw [←hv];simp [h1,h2]
 clear hv
 go_enter Tryz.func107,Tryz.ntmps107
 go_wp2
 go_ret
 exact ⟨rfl,rfl⟩
theorem idxPx {l:List Int} (hs:Sl M w a1 c1 l):
    Calls Tryz.prog 184 #[.slice a1 l.length c1,.func (Fn.func 107) #[] #[]] w fun e w'=>(∃r:Int,e= .returned (.int .i64 r)∧Hid (IdI l r))∧w'=w:=by
 have hll:=hs.le
 have hN0:Hid (∀u∈l.take 0,badB u=false):=fun y hy=>by simp at hy
 go_enter Tryz.func184,Tryz.ntmps184
 go_wp2
 go_loopw [8] (fun i wr=>∃j:Nat,j≤l.length∧i= .int .i64 j∧Hid (∀u∈l.take j,badB u=false)∧Hid (wr=w)) (fun i _=>l.length-(intOf i).toNat)
 case atStart=>exact ⟨0,by omega,rfl,hN0,rfl⟩
 case round=>
  clear hN0
  obtain ⟨j,hj,rfl,hN,hw⟩:=hrel
  have hw:=hw.out
  subst hw
  by_cases hlt:j<l.length
  ·obtain ⟨b0,o0,x,rfl,hxc,hx, -⟩:=hs.at_int hlt
   obtain ⟨v,hv⟩:∃v:Bool,badB x=v:=⟨_,rfl⟩
   have HC:=Lib.hid (prop1x (w:=wr) x hv)
   have HV:=Lib.hid hv
   clear hv
   go_wp2_with fail
   refine (HC.out).mono ?_
   rintro e w2 ⟨rfl,hw2⟩
   obtain rfl:wr=w2:=hw2.symm
   cases v with
   |true=>
    have hR:Hid (IdI l (j:Int)):=⟨fun h=>by omega,fun _=>List.any_eq_true.2 ⟨x,List.mem_of_getElem? hx.out,HV.out⟩⟩
    go_wp2
    go_ret
    exact ⟨⟨_,rfl,hR⟩,rfl⟩
   |false=>
    have hww:Hid (wr=wr):=rfl
    have hN2:Hid (∀u∈l.take (j+1),badB u=false):=fun y hy=>by
     rw [List.take_add_one,hx.out] at hy
     rcases List.mem_append.1 hy with hy|hy
     ·exact hN.out y hy
     have:y=x:=by simpa using hy
     subst this;exact HV.out
    go_wp2
    go_roundw
    case rel=>exact ⟨j+1,by omega,by go_num,hN2,hww⟩
    case measure=>simp [intOf];omega
  have hR:Hid (IdI l (-1)):=⟨fun _=>List.any_eq_false.2 fun y hy=>by simp [hN.out y (by rw [List.take_of_length_le (by omega)];exact hy)],fun h=>by omega⟩
  go_wp2
  go_ret
  exact ⟨⟨_,rfl,hR⟩,rfl⟩
theorem conPx {l:List Int} (hs:Sl M w a1 c1 l) {v:Bool} (hv:l.any badB=v):
    Calls Tryz.prog 105 #[.slice a1 l.length c1,.func (Fn.func 107) #[] #[]] w fun e w'=>e= .returned (.bool v)∧w'=w:=by
 have hll:=hs.le
 have HC:=Lib.hid (idxPx hs)
 go_enter Tryz.func105,Tryz.ntmps105
 go_wp2_with fail
 refine (HC.out).mono ?_
 rintro e w2 ⟨⟨r,rfl,hr⟩,hw2⟩
 obtain rfl:w=w2:=hw2.symm
 by_cases h0:0≤r
 ·have h0d:decide (0≤r)=true:=decide_eq_true h0
  have hv2:=hv.symm.trans (hr.out.2 h0)
  clear hv
  subst hv2
  go_wp2
  go_ret
  exact ⟨rfl,rfl⟩
 have h0d:decide (0≤r)=false:=decide_eq_false h0
 have hv2:=hv.symm.trans (hr.out.1 (by omega))
 clear hv
 subst hv2
 go_wp2
 go_ret
 exact ⟨rfl,rfl⟩
theorem val1x (x:Int) {v:Bool} (hv:badB x=v):Calls Tryz.prog 293 #[.int .i64 x] w fun e w'=>e= .returned (.bool v)∧w'=w:=by
 unfold badB at hv
 by_cases h1:x<0
 ·obtain rfl:v=true:=by rw [←hv];simp [h1]
  clear hv
  go_enter Tryz.func293,Tryz.ntmps293
  go_wp2
  go_ret
  exact ⟨rfl,rfl⟩
 by_cases h2:1048576<x
 ·obtain rfl:v=true:=by rw [←hv];simp [h2]
  clear hv
  go_enter Tryz.func293,Tryz.ntmps293
  go_wp2
  go_ret
  exact ⟨rfl,rfl⟩
 obtain rfl:v=false:=by rw [←hv];simp [h1,h2]
 clear hv
 go_enter Tryz.func293,Tryz.ntmps293
 go_wp2
 go_ret
 exact ⟨rfl,rfl⟩
theorem idxVx {l:List Int} (hs:Sl M w a1 c1 l):
    Calls Tryz.prog 184 #[.slice a1 l.length c1,.func (Fn.func 293) #[] #[]] w fun e w'=>(∃r:Int,e= .returned (.int .i64 r)∧Hid (IdI l r))∧w'=w:=by
 have hll:=hs.le
 have hN0:Hid (∀u∈l.take 0,badB u=false):=fun y hy=>by simp at hy
 go_enter Tryz.func184,Tryz.ntmps184
 go_wp2
 go_loopw [8] (fun i wr=>∃j:Nat,j≤l.length∧i= .int .i64 j∧Hid (∀u∈l.take j,badB u=false)∧Hid (wr=w)) (fun i _=>l.length-(intOf i).toNat)
 case atStart=>exact ⟨0,by omega,rfl,hN0,rfl⟩
 case round=>
  clear hN0
  obtain ⟨j,hj,rfl,hN,hw⟩:=hrel
  have hw:=hw.out
  subst hw
  by_cases hlt:j<l.length
  ·obtain ⟨b0,o0,x,rfl,hxc,hx, -⟩:=hs.at_int hlt
   obtain ⟨v,hv⟩:∃v:Bool,badB x=v:=⟨_,rfl⟩
   have HC:=Lib.hid (val1x (w:=wr) x hv)
   have HV:=Lib.hid hv
   clear hv
   go_wp2_with fail
   refine (HC.out).mono ?_
   rintro e w2 ⟨rfl,hw2⟩
   obtain rfl:wr=w2:=hw2.symm
   cases v with
   |true=>
    have hR:Hid (IdI l (j:Int)):=⟨fun h=>by omega,fun _=>List.any_eq_true.2 ⟨x,List.mem_of_getElem? hx.out,HV.out⟩⟩
    go_wp2
    go_ret
    exact ⟨⟨_,rfl,hR⟩,rfl⟩
   |false=>
    have hww:Hid (wr=wr):=rfl
    have hN2:Hid (∀u∈l.take (j+1),badB u=false):=fun y hy=>by
     rw [List.take_add_one,hx.out] at hy
     rcases List.mem_append.1 hy with hy|hy
     ·exact hN.out y hy
     have:y=x:=by simpa using hy
     subst this;exact HV.out
    go_wp2
    go_roundw
    case rel=>exact ⟨j+1,by omega,by go_num,hN2,hww⟩
    case measure=>simp [intOf];omega
  have hR:Hid (IdI l (-1)):=⟨fun _=>List.any_eq_false.2 fun y hy=>by simp [hN.out y (by rw [List.take_of_length_le (by omega)];exact hy)],fun h=>by omega⟩
  go_wp2
  go_ret
  exact ⟨⟨_,rfl,hR⟩,rfl⟩
theorem conVx {l:List Int} (hs:Sl M w a1 c1 l) {v:Bool} (hv:l.any badB=v):
    Calls Tryz.prog 105 #[.slice a1 l.length c1,.func (Fn.func 293) #[] #[]] w fun e w'=>e= .returned (.bool v)∧w'=w:=by
 have hll:=hs.le
 have HC:=Lib.hid (idxVx hs)
 go_enter Tryz.func105,Tryz.ntmps105
 go_wp2_with fail
 refine (HC.out).mono ?_
 rintro e w2 ⟨⟨r,rfl,hr⟩,hw2⟩
 obtain rfl:w=w2:=hw2.symm
 by_cases h0:0≤r
 ·have h0d:decide (0≤r)=true:=decide_eq_true h0
  have hv2:=hv.symm.trans (hr.out.2 h0)
  clear hv
  subst hv2
  go_wp2
  go_ret
  exact ⟨rfl,rfl⟩
 have h0d:decide (0≤r)=false:=decide_eq_false h0
 have hv2:=hv.symm.trans (hr.out.1 (by omega))
 clear hv
 subst hv2
 go_wp2
 go_ret
 exact ⟨rfl,rfl⟩
theorem properx {t:Tr} (h1:Sl M w a1 c1 t.inn) (h2:Sl M1 w a2 c2 t.out) (n:Int) {er:Int} (her:t.err n=er):
    Calls Tryz.prog 63 #[trV t a1 c1 a2 c2,.int .i64 n] w fun e w'=>e= .returned (.int .i64 er)∧Below w.heap.size w w':=by
 have hB0:=(Below.refl w.heap.size w).alloc (Nat.le_refl _) (trO t a1 c1 a2 c2)
 have hx0:T2 (w.alloc (trO t a1 c1 a2 c2)) w.heap.size a1 c1 a2 c2 t:=t2_new w
 have hz0:w.heap.size<(w.alloc (trO t a1 c1 a2 c2)).heap.size:=by simp
 have HC0:=wcheck_any (h1.below hB0) n
 obtain ⟨we,hwe⟩:∃v,v=wErr t.inn n:=⟨_,rfl⟩
 rw [←hwe] at HC0
 have HC:=Lib.hid HC0
 have HE:Hid (wErr t.inn n=we∧t.err n=er):=⟨hwe.symm,her⟩
 have H2:=Lib.hid (h2.below hB0)
 have l1:=h1.le
 have l2:=h2.le
 clear h1 h2 HC0 hwe her
 go_enter Tryz.func63,Tryz.ntmps63
 go_upto_region 1 with (fail)
 generalize w.alloc (trO t a1 c1 a2 c2)=w0 at*
 obtain ⟨x0,x1⟩:=hx0
 go_wp2_with fail
 refine (HC.out).mono ?_
 rintro e w1 ⟨rfl,hb1⟩
 have hB1:=hB0.trans (hb1.mono hB0.size)
 obtain ⟨x0,x1⟩:=T2.below ⟨x0,x1⟩ hb1 hz0
 have H3:=H2.out.below hb1
 clear HC hB0 hb1 hz0
 by_cases hw0:we=0
 ·have hwb:(we !=0)=false:=by simp [hw0]
  by_cases hl:t.out.length=t.inn.length
  ·have hlb:(((t.out.length:Nat):Int) !=((t.inn.length:Nat):Int))=false:=by simp [hl]
   have HL:=Lib.hid hl
   have HW:=Lib.hid hw0
   obtain ⟨v,hv⟩:∃v:Bool,t.out.any badB=v:=⟨_,rfl⟩
   have HC:=Lib.hid (conPx H3 hv)
   have HV:=Lib.hid hv
   clear hl hw0 H3 hv
   go_wp2_with fail
   refine (HC.out).mono ?_
   rintro e w2 ⟨rfl,hw2⟩
   obtain rfl:w1=w2:=hw2.symm
   cases v with
   |true=>
    have hr:=HE.out.2.symm.trans (Tr.err_o (HE.out.1.trans HW.out) HL.out (any_bad HV.out))
    subst hr
    go_wp2
    go_ret
    exact ⟨rfl,hB1⟩
   |false=>
    have hr:=HE.out.2.symm.trans (Tr.err_0 (HE.out.1.trans HW.out) HL.out (any_bad0 HV.out))
    subst hr
    go_wp2
    go_ret
    exact ⟨rfl,hB1⟩
  have hlb:(((t.out.length:Nat):Int) !=((t.inn.length:Nat):Int))=true:=by simp;omega
  have hr:=HE.out.2.symm.trans (Tr.err_l (HE.out.1.trans hw0) hl)
  clear hl hw0
  subst hr
  go_wp2
  go_ret
  exact ⟨rfl,hB1⟩
 have hwb:(we !=0)=true:=by simp [hw0]
 have hr:er=we:=HE.out.2.symm.trans ((Tr.err_w (by rw [HE.out.1];exact hw0)).trans HE.out.1)
 clear hw0
 subst hr
 go_wp2
 go_ret
 exact ⟨rfl,hB1⟩
end
def Dn.fit (x:Dn):Prop:=x.suf.length≤140737488355328∧x.outs.length≤5864062014634∧x.kids.length≤140737488355328
theorem oe_1 {o s:List Int} (h:¬o.length=s.length):outErr o s=1:=by unfold outErr;rw [if_pos h]
theorem oe_2 {o s:List Int} (h:o.length=s.length) (h2:o.any badB=true):outErr o s=2:=by unfold outErr;rw [if_neg (by simp [h]),if_pos (any_bad h2)]
theorem oe_0 {o s:List Int} (h:o.length=s.length) (h2:o.any badB=false):outErr o s=0:=by unfold outErr;rw [if_neg (by simp [h]),if_neg (any_bad0 h2)]
section
variable {M M':Nat→Prop} {w:World} {a b:Option Addr} {c d:Nat}
theorem chkQ_is {l:List Int} (h:Sl M w a c l) {n v:Int} (hv:wErr l n=v):Calls Tryz.prog 62 #[.slice a l.length c,.int .i64 n] w fun e w'=>e= .returned (.int .i64 v)∧Below w.heap.size w w':=
 (wcheck_any h n).mono fun e w' k=>⟨by rw [k.1,hv],k.2⟩
theorem lexP_is {xs ys:List Int} (h1:Sl M w a c xs) (h2:Sl M' w b d ys) {v:Int} (hv:lexW xs ys=v):Calls Tryz.prog 112 #[.slice a xs.length c,.slice b ys.length d] w fun e w'=>e= .returned (.int .i64 v)∧Below w.heap.size w w':=
 (cmpF_lex _ _ _ _ _ _ _ _ _ h1 h2).mono fun e w' ⟨k1,q,os,k2⟩=>⟨by rw [k1,hv],CmpF.below k2⟩
theorem values_any {o s:List Int} (ho:Sl M w a c o) (hs:Sl M' w b d s) {er:Int} (her:outErr o s=er):
    Calls Tryz.prog 190 #[.slice a o.length c,.slice b s.length d] w fun e w'=>e= .returned (.int .i64 er)∧w'=w:=by
 have l1:=ho.le
 have l2:=hs.le
 by_cases hl:o.length=s.length
 ·have hlb:(((o.length:Nat):Int) !=((s.length:Nat):Int))=false:=by simp [hl]
  obtain ⟨v,hv⟩:∃v:Bool,o.any badB=v:=⟨_,rfl⟩
  have HC:=Lib.hid (conVx ho hv)
  have HL:=Lib.hid hl
  have HV:=Lib.hid hv
  have HE:=Lib.hid her
  clear hl hv ho hs her
  go_enter Tryz.func190,Tryz.ntmps190
  go_wp2_with fail
  refine (HC.out).mono ?_
  rintro e w2 ⟨rfl,hw2⟩
  obtain rfl:w=w2:=hw2.symm
  cases v with
  |true=>
   have hr:=HE.out.symm.trans (oe_2 HL.out HV.out)
   subst hr
   go_wp2
   go_ret
   exact ⟨rfl,rfl⟩
  |false=>
   have hr:=HE.out.symm.trans (oe_0 HL.out HV.out)
   subst hr
   go_wp2
   go_ret
   exact ⟨rfl,rfl⟩
 have hlb:(((o.length:Nat):Int) !=((s.length:Nat):Int))=true:=by simp;omega
 have hr:=her.symm.trans (oe_1 hl)
 clear hl her
 subst hr
 go_enter Tryz.func190,Tryz.ntmps190
 go_wp2
 go_ret
 exact ⟨rfl,rfl⟩
theorem leaf_any {A:Nad} {x:Dn} (hN:NdL M w A x) (hl:x.leaf=true) (hf:Hid x.fit) {n:Nat} {er:Int} (her:x.err n=er):
    Calls Tryz.prog 115 #[dnV x A] w fun e w'=>e= .returned (.int .i64 er)∧Below w.heap.size w w':=by
 have hB0:=(Below.refl w.heap.size w).alloc (Nat.le_refl _) (dnO x A)
 have hx0:D5 (w.alloc (dnO x A)) w.heap.size 0 x A:=d5_new w x A
 have hz0:w.heap.size<(w.alloc (dnO x A)).heap.size:=by simp
 obtain ⟨f1,f2,f3⟩:=hf.out
 have l0:=hN.acc.le
 have HE:=Lib.hid her
 have HL:=Lib.hid hl
 have HC:=Lib.hid (chkQ_is (hN.below hB0).acc (rfl:wErr x.acc 64=wErr x.acc 64))
 have hw1:IntKind.i64.wrap ((x.suf.length:Int)+(x.outs.length:Int))=(x.suf.length:Int)+(x.outs.length:Int):=IntWalk.i64_in _ (by omega)
 have hw2:IntKind.i64.wrap ((x.suf.length:Int)+(x.outs.length:Int)+(x.kids.length:Int))=(x.suf.length:Int)+(x.outs.length:Int)+(x.kids.length:Int):=IntWalk.i64_in _ (by omega)
 have hz1:Hid (x.err n=if 0<x.suf.length+x.outs.length+x.kids.length then 1 else wErr x.acc 64):=by unfold Hid Dn.err;rw [if_pos hl]
 obtain ⟨z,hz⟩:∃z,z=wErr x.acc 64:=⟨_,rfl⟩
 rw [←hz] at HC hz1
 clear hN her hl hf hz
 go_enter Tryz.func115,Tryz.ntmps115
 go_upto_region 1 with (fail)
 generalize w.alloc (dnO x A)=w0 at*
 obtain ⟨x0,x1,x2,x3,x4⟩:=hx0
 by_cases h0:0<x.suf.length+x.outs.length+x.kids.length
 ·have h0d:(0:Int)<(x.suf.length:Int)+(x.outs.length:Int)+(x.kids.length:Int):=by omega
  have hr:=HE.out.symm.trans (hz1.out.trans (if_pos h0))
  clear h0
  subst hr
  go_wp2
  go_ret
  exact ⟨rfl,hB0⟩
 have h0d:¬(0:Int)<(x.suf.length:Int)+(x.outs.length:Int)+(x.kids.length:Int):=by omega
 have hr:=HE.out.symm.trans (hz1.out.trans (if_neg h0))
 clear h0
 subst hr
 go_wp2_with fail
 refine (HC.out).mono ?_
 rintro e w1 ⟨rfl,hb1⟩
 have hB1:=hB0.trans (hb1.mono hB0.size)
 go_wp2
 go_ret
 exact ⟨rfl,hB1⟩
end
section
variable {M M':Nat→Prop} {w:World} {a b:Option Addr} {c d:Nat}
theorem inner_any {A:Nad} {x:Dn} (hN:NdL M w A x) (hl:x.leaf=false) {n:Nat} {er:Int} (her:x.err n=er):
    Calls Tryz.prog 116 #[dnV x A,.int .i64 n] w fun e w'=>e= .returned (.int .i64 er)∧Below w.heap.size w w':=by
 have hB0:=(Below.refl w.heap.size w).alloc (Nat.le_refl _) (dnO x A)
 have hx0:D5 (w.alloc (dnO x A)) w.heap.size 0 x A:=d5_new w x A
 have hz0:w.heap.size<(w.alloc (dnO x A)).heap.size:=by simp
 have HE:=Lib.hid her
 have HL:=Lib.hid hl
 have HN0:=Lib.hid (hN.below hB0)
 clear hN her hl
 go_enter Tryz.func116,Tryz.ntmps116
 go_upto_region 1 with (fail)
 generalize w.alloc (dnO x A)=w0 at*
 obtain ⟨a1,c1,a2,c2,a3,c3,a4,c4⟩:=A
 obtain ⟨na,hna⟩:∃n,x.acc.length=n:=⟨_,rfl⟩
 obtain ⟨ns,hns⟩:∃n,x.suf.length=n:=⟨_,rfl⟩
 obtain ⟨no,hno⟩:∃n,x.outs.length=n:=⟨_,rfl⟩
 obtain ⟨nk,hnk⟩:∃n,x.kids.length=n:=⟨_,rfl⟩
 have l1:=HN0.out.acc.le
 have l2:=HN0.out.suf.le
 have l3:=HN0.out.outs.le
 have l4:=HN0.out.kids.le
 have HNA:=Lib.hid hna
 have HNS:=Lib.hid hns
 have HNO:=Lib.hid hno
 have HNK:=Lib.hid hnk
 have HS:Hid (∀w',Below w0.heap.size w0 w'→(w'.cell? ⟨w.heap.size,1,none⟩=some (.slice a1 na c1)∧w'.cell? ⟨w.heap.size,2,none⟩=some (.slice a2 ns c2)∧w'.cell? ⟨w.heap.size,3,none⟩=some (.slice a3 no c3)∧w'.cell? ⟨w.heap.size,4,none⟩=some (.slice a4 nk c4))∧
     (Sl (fun _=>False) w' a1 c1 x.acc∧Sl (fun _=>False) w' a2 c2 x.suf∧Sl (fun _=>False) w' a3 c3 x.outs∧Sl (fun _=>False) w' a4 c4 x.kids)∧Below w.heap.size w w'):=fun w' hb=>by
  have h9:=hx0.below hb hz0
  rw [←hna,←hns,←hno,←hnk]
  exact ⟨⟨h9.2.1,h9.2.2.1,h9.2.2.2.1,h9.2.2.2.2⟩,⟨flz (HN0.out.below hb).acc,flz (HN0.out.below hb).suf,flz (HN0.out.below hb).outs,flz (HN0.out.below hb).kids⟩,hB0.trans (hb.mono (by omega))⟩
 rw [hna] at l1
 rw [hns] at l2
 rw [hno] at l3
 rw [hnk] at l4
 clear hna hns hno hnk hx0 HN0 hz0 hB0
 have hb0:=Below.refl w0.heap.size w0
 obtain ⟨⟨x1,x2,x3,x4⟩,⟨-,s2, -, -⟩,hBw⟩:=HS.out _ hb0
 cases na with
 |succ m=>
  have hr:=HE.out.symm.trans (Dn.err_a HL.out (by rw [HNA.out];omega))
  clear s2
  subst hr
  go_wp2
  go_ret
  exact ⟨rfl,hBw⟩
 |zero=>
 have hA0:Hid (¬0<x.acc.length):=by unfold Hid;rw [HNA.out];omega
 cases ns with
 |zero=>
  have hr:=HE.out.symm.trans (Dn.err_s HL.out hA0.out HNS.out)
  clear s2
  subst hr
  go_wp2
  go_ret
  exact ⟨rfl,hBw⟩
 |succ m=>
 have hS0:Hid (¬x.suf.length=0):=by unfold Hid;rw [HNS.out];omega
 obtain ⟨we,hwe⟩:∃v,wErr x.suf 64=v:=⟨_,rfl⟩
 have HC0:=chkQ_is s2 hwe
 rw [HNS.out] at HC0
 have HC:=Lib.hid HC0
 have HW:=Lib.hid hwe
 clear HC0 hwe s2
 go_wp2_with fail
 refine (HC.out).mono ?_
 rintro e w1 ⟨rfl,hb1⟩
 clear HC x1 x2 x3 x4 hBw hb0
 obtain ⟨⟨x1,x2,x3,x4⟩, -,hBw⟩:=HS.out _ hb1
 by_cases hw0:we=0
 rotate_left
 ·have hwb:(we !=0)=true:=by simp [hw0]
  have hr:=HE.out.symm.trans (Dn.err_w HL.out hA0.out hS0.out HW.out hw0)
  clear hw0
  subst hr
  go_wp2
  go_ret
  exact ⟨rfl,hBw⟩
 have hwb:(we !=0)=false:=by simp [hw0]
 have HW0:Hid (wErr x.suf 64=0):=HW.out.trans hw0
 clear hw0 HW
 by_cases h4:no=nk
 rotate_left
 ·have hnb:(((no:Nat):Int) !=((nk:Nat):Int))=true:=by simp;omega
  have hr:=HE.out.symm.trans (Dn.err_o HL.out hA0.out hS0.out HW0.out (by rw [HNO.out,HNK.out];exact h4))
  clear h4
  subst hr
  go_wp2
  go_ret
  exact ⟨rfl,hBw⟩
 subst h4
 have hEK:=Lib.hid (HE.out.symm.trans (Dn.err_k HL.out hA0.out hS0.out HW0.out (HNO.out.trans HNK.out.symm)))
 have hF0:Hid (fstE (x.kdErr n) 0=0):=rfl
 clear HE hBw
 go_wp2
 go_loopw [35] (fun i wr=>∃k:Nat,k≤no∧i= .int .i64 k∧Hid (fstE (x.kdErr n) k=0)∧Below w0.heap.size w0 wr) (fun i _=>no-(intOf i).toNat)
 case atStart=>exact ⟨0,by omega,rfl,hF0,hb1⟩
 case round=>
  clear hF0 hb1 x1 x2 x3 x4
  obtain ⟨k,hk,rfl,hF,hB⟩:=hrel
  obtain ⟨wo,rfl⟩:∃wo:World,wo=wr:=⟨_,rfl⟩
  obtain ⟨⟨x1,x2,x3,x4⟩,⟨-,s2,s3,s4⟩,hBw⟩:=HS.out _ hB
  by_cases hlt:k<no
  ·have hlk:k<x.kids.length:=by rw [HNK.out];exact hlt
   obtain ⟨b3,o3,ao,y,co,rfl,hco,hy,hsy⟩:=s3.at_row (show k<x.outs.length by rw [HNO.out];exact hlt)
   obtain ⟨b4,o4,kk,rfl,hck,hkk,hki⟩:=s4.at_int hlk
   have hyl:=hsy.le
   obtain ⟨oe,hoe⟩:∃v,outErr y x.suf=v:=⟨_,rfl⟩
   have HC0:=values_any hsy s2 hoe
   rw [HNS.out] at HC0
   have HC:=Lib.hid HC0
   have HO:=Lib.hid hoe
   have HY:=Lib.hid hsy
   have HS3:=Lib.hid s3
   clear HC0 hoe hsy s2 s3 s4
   go_wp2_with fail
   refine (HC.out).mono ?_
   rintro e w2 ⟨rfl,hw2⟩
   obtain rfl:wo=w2:=hw2.symm
   clear HC
   by_cases ho0:oe=0
   rotate_left
   ·have hob:(oe !=0)=true:=by simp [ho0]
    have hr:=hEK.out.trans (fst_hit hlk hF.out (Dn.kd_o hy.out HO.out ho0) ho0)
    clear ho0
    subst hr
    go_wp2
    go_ret
    exact ⟨rfl,hBw⟩
   have hob:(oe !=0)=false:=by simp [ho0]
   have HO0:Hid (outErr y x.suf=0):=HO.out.trans ho0
   clear ho0 HO
   cases k with
   |zero=>
    have hck0:wo.cell? ⟨b4,o4,none⟩=some (.int .i64 kk):=hck
    have HP:=Lib.hid (Dn.kd_k (n:=n) hy.out hkk.out HO0.out (.inl rfl))
    by_cases hk1:kk<0
    ·have hr:=hEK.out.trans (fst_hit hlk hF.out (HP.out.trans (if_pos (.inl hk1))) (by decide))
     subst hr
     go_wp2
     go_ret
     exact ⟨rfl,hBw⟩
    by_cases hk2:(n:Int)≤kk
    ·have hr:=hEK.out.trans (fst_hit hlk hF.out (HP.out.trans (if_pos (.inr hk2))) (by decide))
     subst hr
     go_wp2
     go_ret
     exact ⟨rfl,hBw⟩
    have hF2:Hid (fstE (x.kdErr n) (0+1)=0):=fst_next hF.out (HP.out.trans (if_neg (fun h=>h.elim hk1 hk2)))
    clear hF HP
    go_wp2
    go_roundw
    case rel=>exact ⟨1,by omega,by go_num,hF2,hB⟩
    case measure=>simp [intOf];omega
   |succ q=>
    obtain ⟨b5,o5,au,u,cu,he,hcu,hu,hsu⟩:=HS3.out.at_row (show q<x.outs.length by rw [HNO.out];omega)
    simp only [Option.some.injEq,Addr.mk.injEq,and_true] at he
    obtain ⟨rfl,rfl⟩:=he
    have hul:=hsu.le
    have hwq:IntKind.i64.wrap (q:Int)=(q:Int):=IntWalk.i64_in _ (by omega)
    have hq0:(0:Int)<(q:Int)+1:=by omega
    have hql:q<no:=by omega
    obtain ⟨z,hz9⟩:∃z,lexW u y=z:=⟨_,rfl⟩
    have HC:=Lib.hid (lexP_is hsu HY.out hz9)
    have HZ:=Lib.hid hz9
    have hck0:=hck
    clear hsu hz9 hBw
    go_wp2_with fail
    refine (HC.out).mono ?_
    rintro e w3 ⟨rfl,hb3⟩
    have hB3:=hB.trans (hb3.mono hB.size)
    have hck3:=(hb3.cell (p:=⟨b4,o4+(q+1),none⟩) (lt_of_cell hck)).trans hck
    clear HC x1 x2 x3 x4 hck hck0 hcu hco hB hb3
    obtain ⟨⟨x1,x2,x3,x4⟩, -,hBw⟩:=HS.out _ hB3
    by_cases hzn:0≤z
    ·have hzd:decide (0≤z)=true:=decide_eq_true hzn
     have hr:=hEK.out.trans (fst_hit hlk hF.out (Dn.kd_x hu.out hy.out HO0.out (by rw [HZ.out];exact hzn)) (by decide))
     subst hr
     go_wp2
     go_ret
     exact ⟨rfl,hBw⟩
    have hzd:decide (0≤z)=false:=decide_eq_false hzn
    have HP:=Lib.hid (Dn.kd_k (n:=n) hy.out hkk.out HO0.out (.inr ⟨u,hu.out,by rw [HZ.out];exact hzn⟩))
    clear hzn
    by_cases hk1:kk<0
    ·have hr:=hEK.out.trans (fst_hit hlk hF.out (HP.out.trans (if_pos (.inl hk1))) (by decide))
     subst hr
     go_wp2
     go_ret
     exact ⟨rfl,hBw⟩
    by_cases hk2:(n:Int)≤kk
    ·have hr:=hEK.out.trans (fst_hit hlk hF.out (HP.out.trans (if_pos (.inr hk2))) (by decide))
     subst hr
     go_wp2
     go_ret
     exact ⟨rfl,hBw⟩
    have hF2:Hid (fstE (x.kdErr n) (q+1+1)=0):=fst_next hF.out (HP.out.trans (if_neg (fun h=>h.elim hk1 hk2)))
    clear hF HP
    go_wp2
    go_roundw
    case rel=>exact ⟨q+1+1,by omega,by go_num,hF2,hB3⟩
    case measure=>simp [intOf];omega
  have hr:=hEK.out.trans ((congrArg (fstE (x.kdErr n)) (show x.kids.length=k by rw [HNK.out];omega)).trans hF.out)
  subst hr
  go_wp2
  go_ret
  exact ⟨rfl,hBw⟩
end
structure CI (N:List Dn) (q:List Int) (k:Nat):Prop where
 le:k≤q.length
 top:q.length≤N.length
 fix:q=lev N (q.take k)
 nodup:(q.take k).Nodup
 rng:∀x∈q,0≤x∧x<N.length
 pre:∀L,L=lev N L→q<+:L
 gen:∀i,i<k→i<(lev N (q.take i)).length
theorem CI.start {N:List Dn} (h:0<N.length):CI N [0] 0:=
 ⟨by simp,by simp;omega,by simp [lev],by simp,fun x hx=>by simp at hx;subst hx;omega,fun L hL=>by rw [hL];exact ⟨_,by unfold lev;rfl⟩,fun i hi=>by omega⟩
theorem CI.next {N:List Dn} {q ks:List Int} {k:Nat} {t:Int} (h:CI N q k) (ht:q[k]? =some t) (hn:t∉q.take k) (hks:kidsAt N t=ks) (hr:∀x∈ks,0≤x∧x<N.length) (hl:(q++ks).length≤N.length):CI N (q++ks) (k+1):=by
 have hk:k<q.length:=by
  by_cases e:k<q.length
  ·exact e
  rw [List.getElem?_eq_none (by omega)] at ht;cases ht
 have e1:(q++ks).take (k+1)=q.take (k+1):=List.take_append_of_le_length (by omega)
 have e2:lev N (q.take (k+1))=q++ks:=by rw [lev_succ ht,←h.fix,hks]
 refine ⟨by rw [List.length_append];omega,hl,by rw [e1,e2],?_,fun x hx=> ?_,fun L hL=> ?_,fun i hi=> ?_⟩
 ·rw [e1,List.take_add_one,ht,Option.toList,List.nodup_append]
  exact ⟨h.nodup,by simp,fun x hx y hy e=>by simp at hy;subst hy;subst e;exact hn hx⟩
 ·rcases List.mem_append.1 hx with hx|hx
  ·exact h.rng x hx
  exact hr x hx
 ·have h1:=lev_mono (l:=N) ((List.take_prefix (k+1) q).trans (h.pre L hL))
  rw [e2] at h1
  rw [←hL] at h1
  exact h1
 have e3:(q++ks).take i=q.take i:=List.take_append_of_le_length (by omega)
 rw [e3]
 by_cases e:i=k
 ·subst e;rw [←h.fix];exact hk
 exact h.gen i (by omega)
theorem CI.twice {N:List Dn} {q:List Int} {k:Nat} {t:Int} (h:CI N q k) (ht:q[k]? =some t) (hn:t∈q.take k):¬oneP N:=by
 rintro ⟨L,h1,h2, -, -⟩
 have hk:k<q.length:=by
  by_cases e:k<q.length
  ·exact e
  rw [List.getElem?_eq_none (by omega)] at ht;cases ht
 have h3:(q.take (k+1)).Nodup:=(h2.sublist (h.pre L h1).sublist).sublist (List.take_sublist _ _)
 rw [List.take_add_one,ht,Option.toList,List.nodup_append] at h3
 exact h3.2.2 t hn t (by simp) rfl
theorem CI.long {N:List Dn} {q ks:List Int} {k:Nat} {t:Int} (h:CI N q k) (ht:q[k]? =some t) (hks:kidsAt N t=ks) (hl:N.length<(q++ks).length):¬oneP N:=by
 rintro ⟨L,h1, -,h3, -⟩
 have e2:lev N (q.take (k+1))=q++ks:=by rw [lev_succ ht,←h.fix,hks]
 have h4:=lev_mono (l:=N) ((List.take_prefix (k+1) q).trans (h.pre L h1))
 rw [e2,←h1] at h4
 have:=h4.length_le
 omega
theorem CI.end {N:List Dn} {q:List Int} {k:Nat} (h:CI N q k) (hk:¬k<q.length):oneP N↔q.length=N.length:=by
 have hkq:k=q.length:=by have:=h.le;omega
 subst hkq
 have hf:q=lev N q:=by have:=h.fix;rwa [List.take_length] at this
 constructor
 ·rintro ⟨L,h1, -,h3,h4⟩
  have:=lev_end hf h1 h4 (h.pre L h1)
  rw [←this];exact h3
 intro e
 exact ⟨q,hf,by have:=h.nodup;rwa [List.take_length] at this,e,h.gen⟩
section
variable {P:Program} {w:World} {o:Oper} {a:Act} {ops:Array Oper} {rest:List Oper} {Q:Exit→Act→World→Prop}
theorem wpList_app_intsG {l0 l1:List Int} {s x:Operand} {t e:TypeId} {B:Nat} {M:Nat→Prop} {v:Value} {ad:Addr} {c:Nat} (hg:o.guard=none) (hop:o.op= .call {callee:= .builtin .append,args:= #[s,x],argTypes:= #[t,t]})
    (ht:P.underlying t=some (.slice e)) (hi:(P.info? e).map (fun i=>(i.zero,i.size,i.bytes))=some (some (.int .i64 0),1,8))
    (hs:a.eval s=v) (hx:a.eval x= .slice (some ad) l1.length c) (hown:Ow B (fun k=>B≤k) w e v l0) (hsrc:Sl M w (some ad) c l1)
    (hlen:l0.length+l1.length<17000000000000) (hB:B≤w.heap.size)
    (h:∀(a':Option Addr) (c':Nat) (l':List Int) (w':World),Hid (l'=l0++l1)→Ow B (fun k=>B≤k) w' e (.slice a' l'.length c') l'→Below B w w'→
     wpList P ops Q rest (a.put o.dst (.slice a' l'.length c')) w'):wpList P ops Q (o::rest) a w:=by
 obtain ⟨i,hi1,hi2,hi3,hi4⟩:=info_parts hi
 have hown0:=hown
 obtain ⟨xs,hr,hrep⟩:=hown
 refine wpList_append_own w hg s x t hop B e i (.int .i64 0) 1 8 ht hi1 hi2 hi3 hi4 rfl (by decide) v l0.length xs hs hr ad l1.length c (l1.map (.int .i64)) hx (by simp) ?_ ?_ (by unfold maxLen;omega) (by omega) hB ?_
 ·intro j u hj
  rw [List.getElem?_map] at hj
  obtain ⟨y,hy,rfl⟩:=Option.map_eq_some_iff.1 hj
  have hjl:j<l1.length:=by
   by_cases e:j<l1.length
   ·exact e
   rw [List.getElem?_eq_none (by omega)] at hy;simp at hy
  obtain ⟨b,off,z,had,hc,hz,_⟩:=hsrc.at_int hjl
  have had':ad=⟨b,off,none⟩:=by simpa using had
  have hz':y=z:=by have:=hz.out;rw [hy] at this;simpa using this
  rw [had',hz',Addr.add]
  split
  ·rename_i h0;subst h0;simpa using hc
  exact hc
 ·intro u hu
  obtain ⟨y,_,rfl⟩:=List.mem_map.1 hu
  rfl
 intro v' w' ho hgr hiff
 have hl0:xs.length=l0.length:=by have:=hr.1;simpa [GR.sz] using this
 have hpush:Ow B (fun k=>B≤k) w' e v' (l0++l1):=by
  refine ⟨xs++l1.map (Value.int .i64),by simpa [GR.sz] using ho,fun j y hj=> ?_⟩
  by_cases hlt:j<l0.length
  ·rw [List.getElem?_append_left hlt] at hj
   have:=hrep j y hj
   simp only [GR.sz,Nat.mul_one] at this ⊢
   rw [List.drop_append_of_le_length (by omega),List.take_append_of_le_length (by simp;omega)]
   exact this
  rw [List.getElem?_append_right (by omega)] at hj
  have hjl:j-l0.length<l1.length:=by
   by_cases e:j-l0.length<l1.length
   ·exact e
   rw [List.getElem?_eq_none (by omega)] at hj;simp at hj
  obtain ⟨b,off,z,_,_,hz,hzi⟩:=hsrc.at_int hjl
  have hz':y=z:=by have:=hz.out;rw [hj] at this;simpa using this
  subst hz'
  simp only [GR.sz,Nat.mul_one]
  have e1:((xs++l1.map (Value.int .i64)).drop j).take 1=[.int .i64 y]:=by
   apply List.ext_getElem?
   intro q
   rcases q with _|q
   ·rw [List.getElem?_take,if_pos (by omega),List.getElem?_drop,List.getElem?_append_right (by omega),List.getElem?_map,hl0,Nat.add_zero,hj]
    rfl
   rw [List.getElem?_take,if_neg (by omega)];rfl
  rw [e1]
  exact ⟨rfl,hzi.out⟩
 obtain ⟨a',c',hv,_,_⟩:=hpush.shape
 rw [hv]
 rw [hv] at hpush
 exact h a' c' _ w' rfl hpush ((Below.refl _ _).grown hgr hB (fun k hk=>(hown0.lt k hk).1))
theorem wpList_app_anyG {l0 l1:List Int} {s x:Operand} {t e:TypeId} {B:Nat} {M:Nat→Prop} {v:Value} {A:Option Addr} {c:Nat} (hg:o.guard=none) (hop:o.op= .call {callee:= .builtin .append,args:= #[s,x],argTypes:= #[t,t]})
    (ht:P.underlying t=some (.slice e)) (hi:(P.info? e).map (fun i=>(i.zero,i.size,i.bytes))=some (some (.int .i64 0),1,8))
    (hs:a.eval s=v) (hx:a.eval x= .slice A l1.length c) (hown:Ow B (fun k=>B≤k) w e v l0) (hsrc:Sl M w A c l1)
    (hlen:l0.length+l1.length<17000000000000) (hB:B≤w.heap.size)
    (h:∀(a':Option Addr) (c':Nat) (l':List Int) (w':World),Hid (l'=l0++l1)→Ow B (fun k=>B≤k) w' e (.slice a' l'.length c') l'→Below B w w'→
     wpList P ops Q rest (a.put o.dst (.slice a' l'.length c')) w'):wpList P ops Q (o::rest) a w:=by
 cases A with
 |some ad=>exact wpList_app_intsG hg hop ht hi hs hx hown hsrc hlen hB h
 |none=>
  have h0:l1=[]:=by
   cases l1 with
   |nil=>rfl
   |cons x l=>obtain ⟨_,_,_,ha,_⟩:=hsrc.at_int (j:=0) (by simp);cases ha
  subst h0
  obtain ⟨i,hi1,_⟩:=info_parts hi
  obtain ⟨a',c',hv,_,_⟩:=hown.shape
  have hown0:=hown
  obtain ⟨xs,hr,_⟩:=hown
  refine wpList_plain hg fun K hK=> ?_
  have hrun:=app_none (ty:=o.type) ht hi1 hr c
  unfold Oper.wp execOp
  simp only [hop,resolve,invoke,builtin,Sem.run_bind,Sem.run_pure,Result.andThen_ok,List.map_toArray,List.map_cons,List.map_nil,hs,hx,List.length_nil,hrun]
  show K (a.put o.dst v) w
  rw [hv] at hown0 ⊢
  exact hK _ _ (h a' c' l0 w (by unfold Hid;simp) hown0 (Below.refl _ _))
end
def OneR (N:List Dn) (v:Bool):Prop:=v=true↔oneP N
def ConR (N:List Dn) (w:World) (e:Ending) (w':World):Prop:=∃v,e= .returned (.bool v)∧Hid (OneR N v)∧Below w.heap.size w w'
section
variable {M:Nat→Prop} {w:World} {a:Option Addr} {c:Nat} {N:List Dn}
theorem conn_any (hs:Sl M w a c N) (hN0:0<N.length) (hN:N.length≤4096) (hk:Hid (∀x∈N,(∀k∈x.kids,0≤k∧k<N.length)∧x.kids.length<10000000000000)):
    Calls Tryz.prog 117 #[.agg #[.slice a N.length c]] w (ConR N w):=by
 have hB0:=(Below.refl w.heap.size w).alloc (Nat.le_refl _) (.cells #[.slice a N.length c] 32)
 have hx0:(w.alloc (.cells #[.slice a N.length c] 32)).cell? ⟨w.heap.size,0,none⟩=some (.slice a N.length c):=by simp
 have hz0:(w.alloc (.cells #[.slice a N.length c] 32)).heap.size=w.heap.size+1:=by simp
 have HT:=Lib.hid (hs.below hB0)
 have HW:=Lib.hid (flz hs)
 have hC0:=Lib.hid (CI.start (N:=N) hN0)
 clear hs
 go_enter Tryz.func117,Tryz.ntmps117
 go_upto_region 1 with (fail)
 generalize w.alloc (.cells #[.slice a N.length c] 32)=w0 at*
 have HS:Hid (∀w',Below (w.heap.size+1) w0 w'→w'.cell? ⟨w.heap.size,0,none⟩=some (.slice a N.length c)∧Sl (fun _=>False) w' a c N∧Below w.heap.size w w'):=fun w' hb=>⟨(hb.cell (p:=⟨w.heap.size,0,none⟩) (by show w.heap.size<w.heap.size+1;omega)).trans hx0,flz (HT.out.below (by rw [hz0];exact hb)),hB0.trans (hb.mono (by omega))⟩
 clear HT hB0
 go_wp2_with (at_make;refine wpList_mk_b (B:=w.heap.size+1) (n:=N.length) rfl rfl Tryz.underlying256 info_bool rfl (by omega) (by omega) ?_)
 intro g c1 b w2 hb hO hb2 hg
 have hB2:Below (w.heap.size+1) w0 w2:=hb2.mono (by omega)
 have hbl:Hid (b.length=N.length):=by unfold Hid;rw [hb.out,List.length_replicate]
 have hMk:Hid (Marks N.length (([0]:List Int).take 0) b):=by
  refine ⟨hbl.out,fun t ht=> ?_⟩
  rw [hb.out,List.getElem?_replicate,if_pos ht];simp
 have hglt:=(hO.lt g rfl).2
 have hO3:=hO.alloc (.cells #[.int .i64 0] 3)
 have hN3:Ow (g+1) (fun k=>g+1≤k) (w2.alloc (.cells #[.int .i64 0] 3)) 3 (.slice (some ⟨w2.heap.size,0,none⟩) 1 1) [(0:Int)]:=
  Ow.one (B:=g+1) (M:=fun k=>g+1≤k) (w:=w2) (T:=3) (by unfold i64;omega) (by omega)
 have hB3:=hB2.alloc (by have:=hB2.size;omega) (.cells #[.int .i64 0] 3)
 clear hO hb hb2 hB2 hx0
 go_wp2
 go_loopw [4,5] (fun v i wr=>∃(k:Nat) (a':Option Addr) (c':Nat) (q:List Int) (bs:List Bool),i= .int .i64 k∧v= .slice a' q.length c'∧Hid (CI N q k)∧Hid (Marks N.length (q.take k) bs)∧Hid (b.length=bs.length)∧
  Ow (w.heap.size+1) (fun k=>w.heap.size+1≤k) wr 4 (.slice (some ⟨g,0,none⟩) b.length c1) bs∧Ow (g+1) (fun k=>g+1≤k) wr 3 (.slice a' q.length c') q∧Below (w.heap.size+1) w0 wr) (fun _ i _=>N.length-(intOf i).toNat)
 case atStart=>exact ⟨0,_,_,[0],b,rfl,rfl,hC0,hMk,rfl,hO3,hN3,hB3⟩
 case round=>
  clear hO3 hN3 hB3 hMk hC0
  obtain ⟨k,a',c',q,bs,rfl,rfl,hC,hM,hbs,hO,hQ,hB⟩:=hrel
  obtain ⟨wo,rfl⟩:∃wo:World,wo=wr:=⟨_,rfl⟩
  obtain ⟨x0,hsl,hBw⟩:=HS.out _ hB
  have hz:=hB.size
  have hqn:q.length≤N.length:=hC.out.top
  have hkq:k≤q.length:=hC.out.le
  by_cases hlt:k<q.length
  ·obtain ⟨gn,t0,rfl,hxc, -,ht0, -⟩:=hQ.at_int hlt
   have htr:=hC.out.rng t0 (List.mem_of_getElem? ht0.out)
   obtain ⟨t,rfl⟩:=Int.eq_ofNat_of_zero_le htr.1
   have htn:t<N.length:=by omega
   have htb:t<b.length:=by have:=hbl.out;omega
   have htb2:t<bs.length:=by have:=hbs.out;omega
   obtain ⟨g',y,hg',hyc,hyf,hy⟩:=hO.at_bool' hbs.out htb2
   obtain rfl:g=g':=by simpa using hg'
   have hyd:Hid (y=decide ((t:Int)∈q.take k)):=hM.out.at htn hy.out
   cases y with
   |true=>
    have hr:Hid (OneR N false):=⟨fun h=>(by cases h),fun h=>absurd h (hC.out.twice ht0.out (by simpa using hyd.out.symm))⟩
    go_wp2
    go_ret
    exact ⟨false,rfl,hr,hBw⟩
   |false=>
    have hnin:Hid ((t:Int)∉q.take k):=of_decide_eq_false hyd.out.symm
    obtain ⟨bn,on,A,x,rfl,hD,hx,hNl⟩:=HW.out.at_dn htn
    obtain ⟨-, -, -, -,x4⟩:=hD
    obtain ⟨a1,d1,a2,d2,a3,d3,a4,d4⟩:=A
    have hka:Hid (kidsAt N (t:Int)=x.kids):=by unfold Hid kidsAt;rw [Int.toNat_natCast,gd_of hx.out]
    have hkx:=Lib.hid (hk.out x (List.mem_of_getElem? hx.out))
    have hkl:=hNl.kids.le
    have hkds:Hid (x.kids.length<10000000000000):=hkx.out.2
    have HK:Hid (∀w',Below w.heap.size w w'→w'.cell? ⟨bn,on+t*5+4,none⟩=some (.slice a4 x.kids.length d4)∧Sl (fun _=>False) w' a4 d4 x.kids):=fun w' hb=>⟨(hb.cell (p:=⟨bn,on+t*5+4,none⟩) (lt_of_cell x4)).trans x4,hNl.kids.below hb⟩
    clear x4 hNl
    have hO5:=hO.set_bool hbs.out (show w.heap.size+1≤g by omega) true t
    have hQ5:Ow (g+1) (fun k=>g+1≤k) (wo.setCell ⟨g,t,none⟩ (.bool true)) 3 (.slice (some ⟨gn,0,none⟩) q.length c') q:=hQ.setOtherI (fun k hk=>by have:=(hQ.lt k hk).1;simp;omega) _
    have hB5:=hB.setCell (p:=⟨g,t,none⟩) (show w.heap.size+1≤g by omega) (.bool true)
    have hM5:Hid (Marks N.length (q.take (k+1)) (bs.set t true)):=by unfold Hid;rw [List.take_add_one,ht0.out];exact hM.out.push htn
    have hbs5:Hid (b.length=(bs.set t true).length):=by unfold Hid;rw [List.length_set];exact hbs.out
    obtain ⟨y0,hsl5,hBw5⟩:=HS.out _ hB5
    obtain ⟨y4,hS5⟩:=HK.out _ hBw5
    have hz5:g+1≤(wo.setCell ⟨g,t,none⟩ (.bool true)).heap.size:=by have:=(hO.lt g rfl).2;simp;omega
    have hkq2:q.length+x.kids.length<17000000000000:=by have:=hkds.out;omega
    clear hO hQ hB hBw
    go_wp2_with (at_builtin;refine wpList_app_anyG (B:=g+1) (l0:=q) (l1:=x.kids) rfl rfl Tryz.underlying94 info_int rfl rfl hQ5 hS5 hkq2 hz5 ?_)
    intro a6 c6 q6 w6 hq6 hQ6 hb6
    have hO6:=hO5.uptob hb6 (fun k hk=>by simp [Value.ownBlock] at hk;omega)
    have hB6:=hB5.trans (hb6.mono (by omega))
    obtain ⟨z0, -,hBw6⟩:=HS.out _ hB6
    clear hb6 hO5 hQ5 hB5 y0 y4 hyc
    by_cases hll:N.length<q6.length
    ·have hr:Hid (OneR N false):=⟨fun h=>(by cases h),fun h=>absurd h (hC.out.long ht0.out hka.out (by rw [←hq6.out];exact hll))⟩
     have hld:(N.length:Int)<(q6.length:Int):=by omega
     go_wp2
     go_ret
     exact ⟨false,rfl,hr,hBw6⟩
    have hld:¬(N.length:Int)<(q6.length:Int):=by omega
    have hC6:Hid (CI N q6 (k+1)):=by
     unfold Hid;rw [hq6.out]
     exact hC.out.next ht0.out hnin.out hka.out hkx.out.1 (by rw [←hq6.out];omega)
    have hM6:Hid (Marks N.length (q6.take (k+1)) (bs.set t true)):=by
     unfold Hid;rw [hq6.out,List.take_append_of_le_length (by omega)];exact hM5.out
    go_wp2
    go_roundw
    case rel=>exact ⟨k+1,a6,c6,q6,bs.set t true,by go_num,rfl,hC6,hM6,hbs5,hO6,hQ6,hB6⟩
    case measure=>simp [intOf];omega
  have hee:=Lib.hid (hC.out.end hlt)
  have hr:Hid (OneR N (((q.length:Nat):Int)==((N.length:Nat):Int))):=by
   unfold Hid OneR
   rw [hee.out,beq_iff_eq]
   omega
  clear hee
  go_wp2
  go_ret
  exact ⟨_,rfl,hr,hBw⟩
end
theorem accs_next {N:List Dn} {k:Nat} {x:Dn} (h:N[k]? =some x):accs (N.take (k+1))=accs (N.take k)++(if x.leaf=true then [x.acc] else []):=by
 unfold accs
 rw [List.take_add_one,h,Option.toList,List.filter_append,List.map_append]
 congr 1
 by_cases e:x.leaf=true
 ·rw [if_pos e,List.filter_cons_of_pos e];rfl
 rw [if_neg e,List.filter_cons_of_neg e];rfl
theorem accs_le (N:List Dn):(accs N).length≤N.length:=by unfold accs;rw [List.length_map];exact List.length_filter_le _ _
section
variable {M:Nat→Prop} {w:World} {a:Option Addr} {c:Nat} {N:List Dn}
theorem accP_any (hs:Sl M w a c N) (hN:N.length≤4096) (hl:Hid (∀x∈N,x.leaf=true→x.acc.length≤1024)):
    Calls Tryz.prog 118 #[.agg #[.slice a N.length c]] w fun e w'=>∃(a':Option Addr) (c':Nat) (L:List (List Int)),e= .returned (.slice a' L.length c')∧Hid (L=accs N)∧Sl (fun k=>k<w.heap.size) w' a' c' L∧Below w.heap.size w w':=by
 have hB0:=(Below.refl w.heap.size w).alloc (Nat.le_refl _) (.cells #[.slice a N.length c] 32)
 have hx0:(w.alloc (.cells #[.slice a N.length c] 32)).cell? ⟨w.heap.size,0,none⟩=some (.slice a N.length c):=by simp
 have hz0:w.heap.size<(w.alloc (.cells #[.slice a N.length c] 32)).heap.size:=by simp
 have HT:=Lib.hid (hs.below hB0)
 clear hs
 go_enter Tryz.func118,Tryz.ntmps118
 go_upto_region 1 with (fail)
 generalize w.alloc (.cells #[.slice a N.length c] 32)=w0 at*
 have HS:Hid (∀w',Below w0.heap.size w0 w'→w'.cell? ⟨w.heap.size,0,none⟩=some (.slice a N.length c)∧Sl (fun _=>False) w' a c N∧Below w.heap.size w w'):=fun w' hb=>⟨(hb.cell (p:=⟨w.heap.size,0,none⟩) hz0).trans hx0,flz (HT.out.below hb),hB0.trans (hb.mono (by omega))⟩
 have hO0:Ox (α:=List Int) w.heap.size w0.heap.size w0 94 (.slice none 0 0) []:=Ox.nil
 have hb0:=Below.refl w0.heap.size w0
 have hL0:Hid (([]:List (List Int))=accs (N.take 0)):=rfl
 have hzw:w.heap.size≤w0.heap.size:=by omega
 clear HT hB0
 go_wp2
 clear hx0
 go_loopw [3,9] (fun v i wr=>∃(k:Nat) (a':Option Addr) (c':Nat) (K:List (List Int)),k≤N.length∧i= .int .i64 k∧v= .slice a' K.length c'∧Hid (K=accs (N.take k))∧
  Ox w.heap.size w0.heap.size wr 94 (.slice a' K.length c') K∧Below w0.heap.size w0 wr) (fun _ i _=>N.length-(intOf i).toNat)
 case atStart=>exact ⟨0,none,0,[],by omega,rfl,rfl,hL0,hO0,hb0⟩
 case round=>
  clear hO0 hb0 hL0
  obtain ⟨k,a2,c2,K,hk,rfl,rfl,hK,hO,hB⟩:=hrel
  obtain ⟨wo,rfl⟩:∃wo:World,wo=wr:=⟨_,rfl⟩
  obtain ⟨x0,hsl,hBw⟩:=HS.out _ hB
  have hz:=hB.size
  by_cases hlt:k<N.length
  ·obtain ⟨bn,on,A,x,rfl,hD,hx,hNl⟩:=hsl.at_dn hlt
   obtain ⟨a1,d1,a3,d3,a4,d4,a5,d5⟩:=A
   have hn1:=hNl.acc.le
   have hKn:Hid (accs (N.take (k+1))=K++(if x.leaf=true then [x.acc] else [])):=by unfold Hid;rw [accs_next hx.out,hK.out]
   have hKl:K.length<1000000000000:=by have h1:=accs_le (N.take k);rw [←hK.out,List.length_take] at h1;omega
   have hxl:=Lib.hid (hl.out x (List.mem_of_getElem? hx.out))
   have HA:=Lib.hid hNl.acc
   clear hNl hsl
   go_upto_region 5 with (fail)
   have hba:=(Below.refl wo.heap.size wo).alloc (Nat.le_refl _) (dnO x ⟨a1,d1,a3,d3,a4,d4,a5,d5⟩)
   have hX2:D5 (wo.alloc (dnO x ⟨a1,d1,a3,d3,a4,d4,a5,d5⟩)) wo.heap.size 0 x ⟨a1,d1,a3,d3,a4,d4,a5,d5⟩:=d5_new wo x _
   have hzo:wo.heap.size≤(wo.alloc (dnO x ⟨a1,d1,a3,d3,a4,d4,a5,d5⟩)).heap.size:=hba.size
   have hOa:=hO.later hba
   have hBa:=hB.trans (hba.mono hz)
   have HAa:=HA.out.below hba
   have hvb:Hid (∀q,(Value.slice a2 K.length c2).ownBlock=some q→q<wo.heap.size):=fun q hq=>(hO.lt q hq).2
   clear hD x0 hBw hO hB
   generalize wo.alloc (dnO x ⟨a1,d1,a3,d3,a4,d4,a5,d5⟩)=w1 at*
   obtain ⟨x1,x2, -, -, -⟩:=hX2
   obtain ⟨x0, -, -⟩:=HS.out _ hBa
   obtain ⟨lf,hlf⟩:∃b,x.leaf=b:=⟨_,rfl⟩
   rw [hlf] at x1 hKn hxl
   clear hlf
   cases lf with
   |false=>
    have hKf:Hid (K=accs (N.take (k+1))):=by unfold Hid;rw [hKn.out];simp
    clear hKn hK
    go_wp2
    go_roundw
    case rel=>exact ⟨k+1,a2,c2,K,by omega,by go_num,rfl,hKf,hOa,hBa⟩
    case measure=>simp [intOf];omega
   |true=>
   have hr1:=rows1 (T:=94) (n:=x.acc.length) HAa rfl
   have hbr:=(Below.refl w1.heap.size w1).alloc (Nat.le_refl _) (.cells #[.slice a1 x.acc.length d1] 94)
   have hzr:=hbr.size
   have HJ:=Lib.hid (join_any hr1 (by rw [flat1];have:=hxl.out rfl;omega))
   have hzB:=hBa.size
   clear hr1
   go_wp2_with fail
   refine (HJ.out).mono ?_
   rintro e w3 ⟨p3,q3,l3,rfl,hl3,hO3,hb3⟩
   have hz3:=hb3.size
   have hl3e:Hid (l3=x.acc):=by unfold Hid;rw [hl3.out,flat1]
   have hB3:=(hBa.trans (hbr.mono hzB)).trans (hb3.mono (by omega))
   have hOc:=(hOa.later hbr).later hb3
   have hS3:Sl (fun q=>(Value.slice a2 K.length c2).ownBlock=some q∨q<w.heap.size) w3 p3 q3 l3:=hO3.anti fun q _ hq=>hq.elim (fun h=>by have:=hvb.out q h;show q<_;omega) (fun h=>by show q<_;omega)
   clear HJ hb3 hOa hBa hbr hO3
   have hbs:=(Below.refl w3.heap.size w3).alloc (Nat.le_refl _) (.cells #[.slice p3 l3.length q3] 94)
   go_wp2_with (at_builtin;refine wpList_push_x (n0:=w.heap.size) (B:=w0.heap.size) rfl rfl Tryz.underlying27 info_ints rfl rfl (hOc.later hbs) (by simp [go_sem]) (hS3.alloc _) hKl (by simp;omega) ?_)
   intro a6 c6 K6 w6 hK6 hO6 hnx6 hgr6
   have hB6:=(hB3.alloc (by omega) (.cells #[.slice p3 l3.length q3] 94)).trans ((Below.refl w0.heap.size _).grown hgr6 (by simp;omega) (fun q hq=>(hOc.lt q hq).1))
   have hKf:Hid (K6=accs (N.take (k+1))):=by unfold Hid;rw [hK6.out,hKn.out,hl3e.out];simp
   clear hnx6 hgr6 hOc hB3 hK6 hKn hK hbs hS3
   go_wp2
   go_roundw
   case rel=>exact ⟨k+1,a6,c6,K6,by omega,by go_num,rfl,hKf,hO6,hB6⟩
   case measure=>simp [intOf];omega
  have hKe:Hid (K=accs N):=by unfold Hid;rw [hK.out,List.take_of_length_le (by omega)]
  have hSl:=hO.toSl hzw
  go_wp2
  go_ret
  exact ⟨a2,c2,K,rfl,hKe,hSl,hBw⟩
theorem accR_any (hs:Sl M w a c N) (hN:N.length≤4096) (hl:Hid (∀x∈N,x.leaf=true→x.acc.length≤1024)):
    Calls Tryz.prog 133 #[.agg #[.slice a N.length c]] w fun e w'=>∃(a':Option Addr) (c':Nat) (L:List (List Int)),e= .returned (.slice a' L.length c')∧Hid (L=accs N)∧Sl (fun k=>k<w.heap.size) w' a' c' L∧Below w.heap.size w w':=by
 have hB0:=(Below.refl w.heap.size w).alloc (Nat.le_refl _) (.cells #[.slice a N.length c] 32)
 have hx0:(w.alloc (.cells #[.slice a N.length c] 32)).cell? ⟨w.heap.size,0,none⟩=some (.slice a N.length c):=by simp
 have hz0:w.heap.size<(w.alloc (.cells #[.slice a N.length c] 32)).heap.size:=by simp
 have HT:=Lib.hid (hs.below hB0)
 clear hs
 go_enter Tryz.func133,Tryz.ntmps133
 go_upto_region 1 with (fail)
 generalize w.alloc (.cells #[.slice a N.length c] 32)=w0 at*
 have HS:Hid (∀w',Below w0.heap.size w0 w'→w'.cell? ⟨w.heap.size,0,none⟩=some (.slice a N.length c)∧Sl (fun _=>False) w' a c N∧Below w.heap.size w w'):=fun w' hb=>⟨(hb.cell (p:=⟨w.heap.size,0,none⟩) hz0).trans hx0,flz (HT.out.below hb),hB0.trans (hb.mono (by omega))⟩
 have hO0:Ox (α:=List Int) w.heap.size w0.heap.size w0 94 (.slice none 0 0) []:=Ox.nil
 have hb0:=Below.refl w0.heap.size w0
 have hL0:Hid (([]:List (List Int))=accs (N.take 0)):=rfl
 have hzw:w.heap.size≤w0.heap.size:=by omega
 clear HT hB0
 go_wp2
 clear hx0
 go_loopw [3,4] (fun v i wr=>∃(k:Nat) (a':Option Addr) (c':Nat) (K:List (List Int)),k≤N.length∧i= .int .i64 k∧v= .slice a' K.length c'∧Hid (K=accs (N.take k))∧
  Ox w.heap.size w0.heap.size wr 94 (.slice a' K.length c') K∧Below w0.heap.size w0 wr) (fun _ i _=>N.length-(intOf i).toNat)
 case atStart=>exact ⟨0,none,0,[],by omega,rfl,rfl,hL0,hO0,hb0⟩
 case round=>
  clear hO0 hb0 hL0
  obtain ⟨k,a2,c2,K,hk,rfl,rfl,hK,hO,hB⟩:=hrel
  obtain ⟨wo,rfl⟩:∃wo:World,wo=wr:=⟨_,rfl⟩
  obtain ⟨x0,hsl,hBw⟩:=HS.out _ hB
  have hz:=hB.size
  by_cases hlt:k<N.length
  ·obtain ⟨bn,on,A,x,rfl,hD,hx,hNl⟩:=hsl.at_dn hlt
   obtain ⟨a1,d1,a3,d3,a4,d4,a5,d5⟩:=A
   have hn1:=hNl.acc.le
   have hKn:Hid (accs (N.take (k+1))=K++(if x.leaf=true then [x.acc] else [])):=by unfold Hid;rw [accs_next hx.out,hK.out]
   have hKl:K.length<1000000000000:=by have h1:=accs_le (N.take k);rw [←hK.out,List.length_take] at h1;omega
   have hxl:=Lib.hid (hl.out x (List.mem_of_getElem? hx.out))
   have HA:=Lib.hid hNl.acc
   clear hNl hsl
   obtain ⟨x1,x2, -, -, -⟩:=hD
   have hOa:=hO
   have hBa:=hB
   have HAa:=HA.out
   have hvb:Hid (∀q,(Value.slice a2 K.length c2).ownBlock=some q→q<wo.heap.size):=fun q hq=>(hO.lt q hq).2
   obtain ⟨w1,rfl⟩:∃w1:World,w1=wo:=⟨_,rfl⟩
   obtain ⟨lf,hlf⟩:∃b,x.leaf=b:=⟨_,rfl⟩
   rw [hlf] at x1 hKn hxl
   clear hlf hO hB hBw HA
   cases lf with
   |false=>
    have hKf:Hid (K=accs (N.take (k+1))):=by unfold Hid;rw [hKn.out];simp
    clear hKn hK
    go_wp2
    go_roundw
    case rel=>exact ⟨k+1,a2,c2,K,by omega,by go_num,rfl,hKf,hOa,hBa⟩
    case measure=>simp [intOf];omega
   |true=>
   have hr1:=rows1 (T:=94) (n:=x.acc.length) HAa rfl
   have hbr:=(Below.refl w1.heap.size w1).alloc (Nat.le_refl _) (.cells #[.slice a1 x.acc.length d1] 94)
   have hzr:=hbr.size
   have HJ:=Lib.hid (joinR_any hr1 (by rw [flat1];have:=hxl.out rfl;omega))
   have hzB:=hBa.size
   clear hr1
   go_wp2_with fail
   refine (HJ.out).mono ?_
   rintro e w3 ⟨p3,q3,l3,rfl,hl3,hO3,hb3⟩
   have hz3:=hb3.size
   have hl3e:Hid (l3=x.acc):=by unfold Hid;rw [hl3.out,flat1]
   have hB3:=(hBa.trans (hbr.mono hzB)).trans (hb3.mono (by omega))
   have hOc:=(hOa.later hbr).later hb3
   have hS3:Sl (fun q=>(Value.slice a2 K.length c2).ownBlock=some q∨q<w.heap.size) w3 p3 q3 l3:=hO3.anti fun q _ hq=>hq.elim (fun h=>by have:=hvb.out q h;show q<_;omega) (fun h=>by show q<_;omega)
   clear HJ hb3 hOa hBa hbr hO3
   have hbs:=(Below.refl w3.heap.size w3).alloc (Nat.le_refl _) (.cells #[.slice p3 l3.length q3] 94)
   go_wp2_with (at_builtin;refine wpList_push_x (n0:=w.heap.size) (B:=w0.heap.size) rfl rfl Tryz.underlying27 info_ints rfl rfl (hOc.later hbs) (by simp [go_sem]) (hS3.alloc _) hKl (by simp;omega) ?_)
   intro a6 c6 K6 w6 hK6 hO6 hnx6 hgr6
   have hB6:=(hB3.alloc (by omega) (.cells #[.slice p3 l3.length q3] 94)).trans ((Below.refl w0.heap.size _).grown hgr6 (by simp;omega) (fun q hq=>(hOc.lt q hq).1))
   have hKf:Hid (K6=accs (N.take (k+1))):=by unfold Hid;rw [hK6.out,hKn.out,hl3e.out];simp
   clear hnx6 hgr6 hOc hB3 hK6 hKn hK hbs hS3
   go_wp2
   go_roundw
   case rel=>exact ⟨k+1,a6,c6,K6,by omega,by go_num,rfl,hKf,hO6,hB6⟩
   case measure=>simp [intOf];omega
  have hKe:Hid (K=accs N):=by unfold Hid;rw [hK.out,List.take_of_length_le (by omega)]
  have hSl:=hO.toSl hzw
  go_wp2
  go_ret
  exact ⟨a2,c2,K,rfl,hKe,hSl,hBw⟩
end
end Go.Proofs.YtjmbphjgiodioaaGreatDoor
namespace Go.Proofs.YtjmbphjgiodioaaGreatDoor
open Go.RowKit Go.Shelf
def agrT (s t:Tr):Prop:=∀k,k<comW s.inn t.inn→s.out[k]? =t.out[k]?
theorem comT_take {a b:List Int}:∀{n:Nat},n≤comW a b→a.take n=b.take n:=fun {n} h=>by
 induction a generalizing b n with
 | nil => have : n = 0 := by rw [comW_nil_l] at h; omega
          subst this;simp
 |cons x a ih=>
  cases b with
  | nil => have : n = 0 := by rw [comW_nil_r] at h; omega
           subst this;simp
  |cons y b=>
   by_cases e:x=y
   ·subst e
    cases n with
    |zero=>simp
    |succ n=>rw [comW_same] at h;simp [ih (b:=b) (n:=n) (by omega)]
   rw [comW_diff e] at h
   have:n=0:=by omega
   subst this;simp
theorem comW_ge {a b:List Int}:∀{n:Nat},n≤a.length→n≤b.length→a.take n=b.take n→n≤comW a b:=fun {n} h1 h2 h=>by
 induction a generalizing b n with
 |nil=>simp at h1;omega
 |cons x a ih=>
  cases b with
  |nil=>simp at h2;omega
  |cons y b=>
   cases n with
   |zero=>omega
   |succ n=>
    simp at h
    obtain ⟨rfl,h⟩:=h
    rw [comW_same]
    have:=ih (b:=b) (n:=n) (by simpa using h1) (by simpa using h2) h
    omega
theorem difT_agr {s t:Tr} (h1:s.out.length=s.inn.length) (h2:t.out.length=t.inn.length):difT s t<0↔agrT s t:=by
 have hl:=comW_le s.inn t.inn
 unfold difT agrT
 generalize comW s.inn t.inn=n at*
 constructor
 ·intro h k hk
  split at h
  ·omega
  rename_i hn
  have e:=comT_take (a:=s.out.take n) (b:=t.out.take n) (n:=n) (by omega)
  rw [List.take_take,List.take_take,Nat.min_self] at e
  have e1:(s.out.take n)[k]? =(t.out.take n)[k]? :=by rw [e]
  rwa [List.getElem?_take,List.getElem?_take,if_pos hk,if_pos hk] at e1
 intro h
 have e:s.out.take n=t.out.take n:=by
  apply List.ext_getElem?
  intro k
  rw [List.getElem?_take,List.getElem?_take]
  split
  ·rename_i hk;exact h k hk
  rfl
 have:=comW_ge (a:=s.out.take n) (b:=t.out.take n) (n:=n) (by rw [List.length_take];omega) (by rw [List.length_take];omega) (by rw [e])
 rw [if_neg (by omega)]
 omega
theorem agrT_symm {s t:Tr} (h:agrT s t):agrT t s:=fun k hk=>(h k (by
 have hl:=comW_le t.inn s.inn
 have:=comW_ge (a:=s.inn) (b:=t.inn) (n:=comW t.inn s.inn) (by omega) (by omega) (comT_take (Nat.le_refl _)).symm
 omega)).symm
theorem lex_com {a b c:List Int} (h1:lexW a b≤0) (h2:lexW b c≤0):comW a c≤comW a b∧comW a c≤comW b c:=by
 induction a generalizing b c with
 |nil=>rw [comW_nil_l];omega
 |cons x a ih=>
  cases c with
  |nil=>rw [comW_nil_r];omega
  |cons z c=>
   by_cases e:x=z
   ·subst e
    cases b with
    |nil=>exact absurd h1 (by simp [lexW])
    |cons y b=>
     have hxy:x=y:=by
      simp only [lexW] at h1 h2
      by_cases e1:x=y
      ·exact e1
      unfold sgn at h1 h2
      split at h1<;>split at h2<;>omega
     subst hxy
     simp only [lexW] at h1 h2
     have:=ih (b:=b) (c:=c) (by simpa using h1) (by simpa using h2)
     rw [comW_same,comW_same,comW_same]
     omega
   rw [comW_diff e];omega
theorem agrT_trans {s t u:Tr} (h1:lexW s.inn t.inn≤0) (h2:lexW t.inn u.inn≤0) (a1:agrT s t) (a2:agrT t u):agrT s u:=fun k hk=>by
 have:=lex_com h1 h2
 rw [a1 k (by omega),a2 k (by omega)]
theorem agr_all {L:List Tr} (hs:L.Pairwise fun a b=>lexW a.inn b.inn≤0) (hc:∀k,(h:k+1<L.length)→agrT (L[k]'(by omega)) L[k+1]):L.Pairwise agrT:=by
 induction L with
 |nil=>exact List.Pairwise.nil
 |cons x L ih=>
  have hs':=List.pairwise_cons.1 hs
  have ih':=ih hs'.2 fun k h=>hc (k+1) (by simp;omega)
  refine List.pairwise_cons.2 ⟨fun y hy=> ?_,ih'⟩
  cases L with
  |nil=>simp at hy
  |cons z L=>
   have hxz:agrT x z:=hc 0 (by simp)
   rcases List.mem_cons.1 hy with rfl|hy
   ·exact hxz
   exact agrT_trans (hs'.1 z (by simp)) ((List.pairwise_cons.1 hs'.2).1 y hy) hxz ((List.pairwise_cons.1 ih').1 y hy)
theorem info_tr:(Tryz.prog.info? 96).map (fun i=>(i.zero,i.size,i.bytes))=some (some (.agg #[.slice none 0 0,.slice none 0 0]),2,48):=by kernel_rfl
theorem adT_flat (b off n:Nat):(⟨b,off,none⟩:Addr).add n=⟨b,off+n,none⟩:=by
 unfold Addr.add
 split
 ·rename_i h;subst h;rfl
 rfl
section
variable {M:Nat→Prop} {w:World} {a:Option Addr} {c:Nat} {l:List Tr}
theorem cloneT_any (h:Sl M w a c l) (hl:l.length<100000000000):
    Calls Tryz.prog 109 #[.slice a l.length c] w fun e w'=>∃a' c',e= .returned (.slice a' l.length c')∧Ow w.heap.size (fun k=>w.heap.size≤k) w' 96 (.slice a' l.length c') l∧Below w.heap.size w w':=by
 have he:=fun (w:World) (a:Option Addr) (n c:Nat)=>Lib.run_eql_slice_nil (P:=Tryz.prog) w 37 96 a n c 0 0 Tryz.underlying37
 cases a with
 |none=>
  have h0:l=[]:=by
   cases l with
   |nil=>rfl
   |cons x l=>obtain ⟨_,_,_,_,_,_,_,ha,_⟩:=h.at_tr (j:=0) (by simp);cases ha
  subst h0
  go_enter Tryz.func109,Tryz.ntmps109
  go_wp2
  go_ret
  exact ⟨none,0,rfl,Ow.nil,Below.refl _ _⟩
 |some ad=>
  have hs:=(fresh_M h).alloc (.cells #[] 96)
  obtain ⟨W,hW⟩:∃W,W=w.alloc (.cells #[] 96):=⟨_,rfl⟩
  have hB0:Below w.heap.size w W:=by rw [hW];exact (Below.refl _ _).alloc (Nat.le_refl _) _
  have hz0:w.heap.size≤W.heap.size:=hB0.size
  have hze:W.ownsRow w.heap.size 96 2 (.slice (some ⟨w.heap.size,0,none⟩) 0 0) 0 []:=by rw [hW];exact World.ownsRow_made w #[] 0 (Nat.le_refl _) (Nat.zero_le _) (by simp)
  rw [←hW] at hs
  have hcell:∀(j:Nat) (t:Tr),l[j]? =some t→∃a1 c1 a2 c2,W.cell? (ad.add (j*2))=some (.slice a1 t.inn.length c1)∧W.cell? (ad.add (j*2+1))=some (.slice a2 t.out.length c2)∧Sl (fun k=>w.heap.size≤k) W a1 c1 t.inn∧Sl (fun k=>w.heap.size≤k) W a2 c2 t.out:=by
   intro j t hj
   have hjl:j<l.length:=by
    by_cases e:j<l.length
    ·exact e
    rw [List.getElem?_eq_none (by omega)] at hj;simp at hj
   obtain ⟨b,off,a1,c1,a2,c2,t',had,k1,k2,ht',s1,s2⟩:=hs.at_tr hjl
   have had':ad=⟨b,off,none⟩:=by simpa using had
   have hz':t=t':=by have:=ht'.out;rw [hj] at this;simpa using this
   subst hz'
   refine ⟨a1,c1,a2,c2,?_,?_,s1,s2⟩
   ·rw [had',adT_flat];exact k1
   rw [had',adT_flat];exact k2
  obtain ⟨news,hne⟩:∃news,news=(List.range (l.length*2)).map fun j=>(W.cell? (ad.add j)).getD (.int .i64 0):=⟨_,rfl⟩
  have hnl:news.length=l.length*2:=by rw [hne];simp
  have hnj:∀j,j<l.length*2→∃x n c,news[j]? =some (.slice x n c)∧W.cell? (ad.add j)=some (.slice x n c):=by
   intro j hj
   have hj2:j/2<l.length:=by omega
   obtain ⟨a1,c1,a2,c2,k1,k2, -, -⟩:=hcell (j/2) _ (List.getElem?_eq_getElem hj2)
   rcases Nat.mod_two_eq_zero_or_one j with e|e
   ·have e2:j/2*2=j:=by omega
    rw [e2] at k1
    exact ⟨_,_,_,by rw [hne,List.getElem?_map,List.getElem?_range hj];simp [k1],k1⟩
   have e2:j/2*2+1=j:=by omega
   rw [e2] at k2
   exact ⟨_,_,_,by rw [hne,List.getElem?_map,List.getElem?_range hj];simp [k2],k2⟩
  have hn2:∀j u,news[j]? =some u→W.cell? (ad.add j)=some u:=fun j u hj=>by
   have hjl:j<l.length*2:=by
    by_cases e:j<l.length*2
    ·exact e
    rw [List.getElem?_eq_none (by omega)] at hj;simp at hj
   obtain ⟨x,n,c',e1,e2⟩:=hnj j hjl
   rw [e1] at hj;simp at hj;rw [e2,hj]
  have hn1:∀u∈news,u.oneCell'=true:=fun u hu=>by
   obtain ⟨j,hj,hu⟩:=List.getElem_of_mem hu
   obtain ⟨x,n,c',e1, -⟩:=hnj j (by omega)
   rw [List.getElem?_eq_getElem hj,hu] at e1
   simp at e1;rw [e1];rfl
  obtain ⟨i,hi1,hi2,hi3,hi4⟩:=info_parts info_tr
  have HH:=Lib.hid hcell
  have HN:=Lib.hid hnj
  have hlm:0+l.length≤maxLen:=by unfold maxLen;omega
  have hlb:(0+l.length)*48≤140737488355328:=by omega
  have HW:=Lib.hid hW
  have HNE:=Lib.hid hne
  clear h hs hcell hnj hne
  go_enter Tryz.func109,Tryz.ntmps109
  go_wp2_with (at_builtin;refine wpList_append_own _ rfl _ _ _ rfl w.heap.size 96 i (.agg #[.slice none 0 0,.slice none 0 0]) 2 48 Tryz.underlying37 hi1 hi2 hi3 hi4 rfl (by decide) (.slice (some ⟨w.heap.size,0,none⟩) 0 0) 0 [] rfl (by rw [←hW];exact hze) ad l.length c news rfl hnl (by rw [←hW];exact hn2) hn1 hlm hlb (by rw [←hW];exact hz0) ?_)
  intro v' w' ho hgr hiff
  rw [←hW] at hgr
  have hfin:Ow w.heap.size (fun k=>w.heap.size≤k) w' 96 v' l:=by
   refine ⟨news,by simpa [GR.sz] using ho,fun j y hj=> ?_⟩
   have hjl:j<l.length:=by
    by_cases e:j<l.length
    ·exact e
    rw [List.getElem?_eq_none (by omega)] at hj;simp at hj
   obtain ⟨a1,c1,a2,c2,k1,k2,s1,s2⟩:=HH.out j y hj
   have hE:Ext (fun k=>w.heap.size≤k) (fun k=>w.heap.size≤k) W w':=⟨hgr.size,fun k hk hm=>hgr.block k hk fun e=>hm (by simp [Value.ownBlock] at e;omega),fun k hk hm=>hm⟩
   have e1:(news.drop (j*GR.sz Tr)).take (GR.sz Tr)=[.slice a1 y.inn.length c1,.slice a2 y.out.length c2]:=by
    apply List.ext_getElem?
    intro q
    simp only [GR.sz]
    rcases q with _|_|q
    ·rw [List.getElem?_take,if_pos (by omega),List.getElem?_drop,HNE.out,List.getElem?_map,List.getElem?_range (by omega)]
     simp [k1]
    ·rw [List.getElem?_take,if_pos (by omega),List.getElem?_drop,HNE.out,List.getElem?_map,List.getElem?_range (by omega)]
     simp [k2]
    rw [List.getElem?_take,if_neg (by omega)];rfl
   rw [e1]
   exact ⟨a1,c1,a2,c2,rfl,s1.ext hE,s2.ext hE⟩
  have hBf:Below w.heap.size w w':=hB0.grown hgr hz0 (fun k hk=>by simp [Value.ownBlock] at hk;omega)
  obtain ⟨a',c',hv,_,_⟩:=hfin.shape
  subst hv
  clear hgr ho hiff
  go_wp2
  go_ret
  exact ⟨a',c',rfl,hfin,hBf⟩
end
theorem sortT_nil (p:Option Addr) (cap:Nat) (fv:Value) (w:World):Calls Tryz.prog 110 #[.slice p 0 cap,fv] w fun e w'=>e= .returned (.tuple #[])∧w'=w:=by
 have h:=AnyF.slices_SortFunc_none (P:=Tryz.prog) (ρ:=Tryz.sortTr_ren) {Tryz.sortTr with} p cap fv w
 exact h
section
variable {M:Nat→Prop} {w:World} {a:Option Addr} {c:Nat} {l:List Tr}
end
def agrX (s t:Tr):Prop:=agrT s t∧hasP t.inn s.inn=false∧hasP s.inn t.inn=false
def nbX (s t:Tr):Prop:=agrT s t∧hasP t.inn s.inn=false
theorem agrX_symm {s t:Tr} (h:agrX s t):agrX t s:=⟨agrT_symm h.1,h.2.2,h.2.1⟩
theorem com_comm (a b:List Int):comW a b=comW b a:=by
 induction a generalizing b with
 |nil=>rw [comW_nil_l,comW_nil_r]
 |cons x a ih=>
  cases b with
  |nil=>rw [comW_nil_l,comW_nil_r]
  |cons y b=>
   by_cases e:x=y
   ·subst e;rw [comW_same,comW_same,ih]
   rw [comW_diff e,comW_diff (Ne.symm e)]
theorem lex_pre {a b:List Int} (h:lexW a b≤0) (hp:comW a b=b.length):comW a b=a.length:=by
 induction a generalizing b with
 |nil=>rw [comW_nil_l] at*;rfl
 |cons x a ih=>
  cases b with
  |nil=>exact absurd h (by simp [lexW])
  |cons y b=>
   by_cases e:x=y
   ·subst e
    rw [comW_same] at*
    simp only [lexW] at h
    simp only [List.length_cons] at*
    have:=ih (b:=b) (by simpa using h) (by omega)
    omega
   rw [comW_diff e] at hp;simp at hp
theorem nb_far {s t u:Tr} (h1:lexW s.inn t.inn≤0) (h2:lexW t.inn u.inn≤0) (h3:lexW s.inn u.inn≤0) (h:hasP t.inn s.inn=false):hasP u.inn s.inn=false∧hasP s.inn u.inn=false:=by
 have hc:=lex_com h1 h2
 unfold hasP at*
 have k0:=of_decide_eq_false h
 have h4:=comW_le s.inn t.inn
 rw [com_comm] at k0
 have k1:¬comW s.inn u.inn=s.inn.length:=by omega
 refine ⟨decide_eq_false ?_,decide_eq_false fun e=>k1 (lex_pre h3 e)⟩
 rw [com_comm];exact k1
theorem nb_near {s t:Tr} (h1:lexW s.inn t.inn≤0) (h:hasP t.inn s.inn=false):hasP s.inn t.inn=false:=by
 unfold hasP at*
 have k0:=of_decide_eq_false h
 rw [com_comm] at k0
 exact decide_eq_false fun e=>k0 (lex_pre h1 e)
theorem agx_all {L:List Tr} (hs:L.Pairwise fun a b=>lexW a.inn b.inn≤0) (hc:∀k,(h:k+1<L.length)→nbX (L[k]'(by omega)) L[k+1]):L.Pairwise agrX:=by
 have ha:=agr_all hs fun k h=>(hc k h).1
 rw [List.pairwise_iff_getElem] at ha hs ⊢
 intro i j hi hj hij
 refine ⟨ha i j hi hj hij,?_⟩
 by_cases e:j=i+1
 ·subst e
  exact ⟨(hc i hj).2,nb_near (hs i (i+1) hi hj (by omega)) (hc i hj).2⟩
 exact nb_far (hs i (i+1) hi (by omega) (by omega)) (hs (i+1) j (by omega) hj (by omega)) (hs i j hi hj hij) (hc i (by omega)).2
def FitX (l:List Tr) (v:Bool):Prop:=v=true→l.Pairwise agrX
def FixR (l:List Tr) (w:World) (e:Ending) (w':World):Prop:=∃v,e= .returned (.bool v)∧Hid (FitX l v)∧Below w.heap.size w w'
section
variable {M:Nat→Prop} {w:World} {a:Option Addr} {c:Nat} {l:List Tr}
theorem fitsx (h:Sl M w a c l) (hg:Hid (∀t∈l,t.out.length=t.inn.length)) (hl:l.length≤10000):
    Calls Tryz.prog 65 #[.slice a l.length c] w (FixR l w):=by
 have hll:=h.le
 have HC:=Lib.hid (cloneT_any h (by omega))
 clear h
 by_cases h0:l.length=0
 ·have hr:Hid (FitX l true):=fun _=>by rw [List.length_eq_zero_iff.1 h0];exact List.Pairwise.nil
  have hl0:=List.length_eq_zero_iff.1 h0
  subst hl0
  clear h0 hl hll hg
  go_enter Tryz.func65,Tryz.ntmps65
  go_wp2_with fail
  refine (HC.out).mono ?_
  rintro e w1 ⟨a1,c1,rfl, -,hb1⟩
  have HSo:=Lib.hid (sortT_nil a1 c1 (.func (.func 111) #[] #[]) w1)
  go_wp2_with fail
  refine (HSo.out).mono ?_
  rintro e w2 ⟨rfl,hw2⟩
  obtain rfl:w1=w2:=hw2.symm
  go_wp2
  go_loopw [3] (fun i wr=>i= .int .i64 1∧Below w.heap.size w wr) (fun _ _=>0)
  case atStart=>exact ⟨rfl,hb1⟩
  case round=>
   clear hb1
   obtain ⟨rfl,hB⟩:=hrel
   go_wp2
   go_ret
   exact ⟨true,rfl,hr,hB⟩
 go_enter Tryz.func65,Tryz.ntmps65
 go_wp2_with fail
 refine (HC.out).mono ?_
 rintro e w1 ⟨a1,c1,rfl,hO,hb1⟩
 have hg1:∃g,a1=some ⟨g,0,none⟩∧w.heap.size≤g:=by
  obtain ⟨xs,h1, -⟩:=hO
  rcases h1.2 with ⟨hv, -⟩|⟨g,cap,cur,hv,hb, -⟩
  ·have h9:=(Value.slice.inj hv).2.1;omega
  simp only [Value.slice.injEq] at hv
  exact ⟨g,hv.1,hb⟩
 obtain ⟨g,rfl,hgw⟩:=hg1
 have HSo:=Lib.hid (sort_trs hO (show w.heap.size≤g from hgw) hgw (by omega))
 clear hO HC
 go_wp2_with fail
 refine (HSo.out).mono ?_
 rintro e w2 ⟨rfl,L,hL,hLs,hLl,hb2⟩
 have hB2:=hb1.trans hb2
 have HL:=Lib.hid hLs
 have hLl2:=hLl.out
 rw [←hLl2]
 have hLg:Hid (∀t∈L,t.out.length=t.inn.length):=fun t ht=>hg.out t (hL.out.1.mem_iff.1 ht)
 have hPL:Hid (∀v,(v=true→L.Pairwise agrX)→FitX l v):=fun v hv h=>by
  have h1:=hv h
  exact (hL.out.1.pairwise_iff (fun {x y} h=>agrX_symm h)).1 h1
 have hA0:Hid (∀j,(h:j+1<L.length)→j+1<0+1→nbX (L[j]'(by omega)) L[j+1]):=fun j _ h=>by omega
 have hb2':=Below.refl w2.heap.size w2
 have hLn:0<L.length:=by omega
 clear HSo hLs hb1 hb2
 go_wp2
 go_loopw [3] (fun i wr=>∃q:Nat,q+1≤L.length∧i= .int .i64 ((q+1:Nat):Int)∧Hid (∀j,(h:j+1<L.length)→j+1<q+1→nbX (L[j]'(by omega)) L[j+1])∧Below w2.heap.size w2 wr) (fun i _=>L.length-(intOf i).toNat)
 case atStart=>exact ⟨0,by omega,by go_num,hA0,hb2'⟩
 case round=>
  clear hA0 hb2'
  obtain ⟨q,hq,rfl,hA,hB⟩:=hrel
  obtain ⟨w3,rfl⟩:∃w3:World,w3=wr:=⟨_,rfl⟩
  have hz3:=hB.size
  have hBf:=hB2.trans (hB.mono hB2.size)
  by_cases hlt:q+1<L.length
  ·obtain ⟨b1,o1,x1,y1,x2,y2,s,he1,k1,k2,hs,s1,s2⟩:=(HL.out.below hB).at_tr (show q<L.length by omega)
   obtain ⟨b2,o2,u1,v1,u2,v2,t,he2,k3,k4,ht,t1,t2⟩:=(HL.out.below hB).at_tr hlt
   simp only [Option.some.injEq,Addr.mk.injEq,and_true] at he1 he2
   obtain ⟨rfl,rfl⟩:=he1
   obtain ⟨rfl,rfl⟩:=he2
   rw [Nat.zero_add] at k1 k3
   rw [Nat.zero_add] at k2 k4
   have hsg:=Lib.hid (hLg.out s (List.mem_of_getElem? hs.out))
   have htg:=Lib.hid (hLg.out t (List.mem_of_getElem? ht.out))
   have hq0:(0:Int)≤(q:Int)+1:=by omega
   have hwq:IntKind.i64.wrap (q:Int)=(q:Int):=IntWalk.i64_in _ (by omega)
   have hql:q<l.length:=by omega
   have z1:=s1.le
   have z2:=s2.le
   have z3:=t1.le
   have z4:=t2.le
   have HT : Hid (∀ w', Below w3.heap.size w3 w' → ((w'.cell? ⟨g, q * 2, none⟩ = some (.slice x1 s.inn.length y1) ∧ w'.cell? ⟨g, q * 2 + 1, none⟩ = some (.slice x2 s.out.length y2)) ∧ (w'.cell? ⟨g, (q + 1) * 2, none⟩ = some (.slice u1 t.inn.length v1) ∧ w'.cell? ⟨g, (q + 1) * 2 + 1, none⟩ = some (.slice u2 t.out.length v2))) ∧
       Sl (fun _=>False) w' x1 y1 s.inn∧Sl (fun _=>False) w' x2 y2 s.out∧Sl (fun _=>False) w' u1 v1 t.inn∧Sl (fun _=>False) w' u2 v2 t.out):=fun w' hb=>
    ⟨⟨⟨(hb.cell (p:=⟨g,q*2,none⟩) (lt_of_cell k1)).trans k1,(hb.cell (p:=⟨g,q*2+1,none⟩) (lt_of_cell k2)).trans k2⟩,(hb.cell (p:=⟨g,(q+1)*2,none⟩) (lt_of_cell k3)).trans k3,(hb.cell (p:=⟨g,(q+1)*2+1,none⟩) (lt_of_cell k4)).trans k4⟩,s1.below hb,s2.below hb,t1.below hb,t2.below hb⟩
   clear s1 s2 t1 t2 k1 k2 k3 k4
   cases hp:hasP t.inn s.inn with
   |true=>
    have hr:Hid (FitX l false):=hPL.out false (fun h=>by cases h)
    go_upto_region 6 with (fail)
    refine wp_region_L (fun w'=>(w'.cell? ⟨g,q*2,none⟩=some (.slice x1 s.inn.length y1)∧w'.cell? ⟨g,q*2+1,none⟩=some (.slice x2 s.out.length y2))∧(w'.cell? ⟨g,(q+1)*2,none⟩=some (.slice u1 t.inn.length v1)∧w'.cell? ⟨g,(q+1)*2+1,none⟩=some (.slice u2 t.out.length v2))) [0,1,2,3,4,5,6,7,8,9,10,12,13,14,15,16,17,18,19,20,21,22,23,24] (by kernel_rfl) ?_
    have hbd:=(Below.refl w3.heap.size w3).drew
    have hS1:=(HT.out _ hbd).1
    have HH:=Lib.hid (hasp_is (HT.out _ hbd).2.2.2.1 (HT.out _ hbd).2.1 hp)
    have hB4:=hBf.trans (hbd.mono hBf.size)
    generalize w3.drew=w4 at*
    clear hbd hp
    refine skL_on [0,1,2,3,4,5,6,7,8,9,10] ?_
    repeat (refine skL_take (v:= ?_) rfl ?_ ?_;rotate_left;(focus (intro w' hSw;(try dsimp only at hSw);go_simp;try with_reducible rfl));try simp only [Act.put,List.setIfInBounds_toArray,List.set_cons_zero,List.set_cons_succ])
    refine skL_off ?_
    refine wpAnyL_one (i:=11) (by kernel_rfl) rfl rfl (fun K hK=> ?_)
    go_simp
    refine (HH.out).mono ?_
    rintro e w5 ⟨rfl,hb5⟩
    have hB5:=hB4.trans (hb5.mono hB4.size)
    have hS5:(w5.cell? ⟨g,q*2,none⟩=some (.slice x1 s.inn.length y1)∧w5.cell? ⟨g,q*2+1,none⟩=some (.slice x2 s.out.length y2))∧(w5.cell? ⟨g,(q+1)*2,none⟩=some (.slice u1 t.inn.length v1)∧w5.cell? ⟨g,(q+1)*2+1,none⟩=some (.slice u2 t.out.length v2)):=
     ⟨⟨(hb5.cell (p:=⟨g,q*2,none⟩) (lt_of_cell hS1.1.1)).trans hS1.1.1,(hb5.cell (p:=⟨g,q*2+1,none⟩) (lt_of_cell hS1.1.2)).trans hS1.1.2⟩,(hb5.cell (p:=⟨g,(q+1)*2,none⟩) (lt_of_cell hS1.2.1)).trans hS1.2.1,(hb5.cell (p:=⟨g,(q+1)*2+1,none⟩) (lt_of_cell hS1.2.2)).trans hS1.2.2⟩
    refine hK _ _ (fun _=>hS5) ?_
    clear hK K HH hS1 hb5 hB4
    refine skL_on [12] ?_
    repeat (refine skL_take (v:= ?_) rfl ?_ ?_;rotate_left;(focus (intro w' hSw;(try dsimp only at hSw);go_simp;try with_reducible rfl));try simp only [Act.put,List.setIfInBounds_toArray,List.set_cons_zero,List.set_cons_succ])
    refine skL_off ?_
    refine wpAnyL_take (i:=13) (v:=undef) rfl (by kernel_rfl) (by kernel_rfl) (by kernel_rfl) (by kernel_rfl) (fun _ _ _ h=>h) (Or.inr ⟨by rfl,rfl⟩) (by assumption) ?_
    try simp only [Act.put,List.setIfInBounds_toArray,List.set_cons_zero,List.set_cons_succ]
    refine wpAnyL_take (i:=14) (v:=undef) rfl (by kernel_rfl) (by kernel_rfl) (by kernel_rfl) (by kernel_rfl) (fun _ _ _ h=>h) (Or.inr ⟨by rfl,rfl⟩) (by assumption) ?_
    try simp only [Act.put,List.setIfInBounds_toArray,List.set_cons_zero,List.set_cons_succ]
    refine wpAnyL_take (i:=15) (v:=undef) rfl (by kernel_rfl) (by kernel_rfl) (by kernel_rfl) (by kernel_rfl) (fun _ _ _ h=>h) (Or.inr ⟨by rfl,rfl⟩) (by assumption) ?_
    try simp only [Act.put,List.setIfInBounds_toArray,List.set_cons_zero,List.set_cons_succ]
    refine wpAnyL_take (i:=16) (v:=undef) rfl (by kernel_rfl) (by kernel_rfl) (by kernel_rfl) (by kernel_rfl) (fun _ _ _ h=>h) (Or.inr ⟨by rfl,rfl⟩) (by assumption) ?_
    try simp only [Act.put,List.setIfInBounds_toArray,List.set_cons_zero,List.set_cons_succ]
    refine wpAnyL_take (i:=17) (v:=undef) rfl (by kernel_rfl) (by kernel_rfl) (by kernel_rfl) (by kernel_rfl) (fun _ _ _ h=>h) (Or.inr ⟨by rfl,rfl⟩) (by assumption) ?_
    try simp only [Act.put,List.setIfInBounds_toArray,List.set_cons_zero,List.set_cons_succ]
    refine wpAnyL_take (i:=18) (v:=undef) rfl (by kernel_rfl) (by kernel_rfl) (by kernel_rfl) (by kernel_rfl) (fun _ _ _ h=>h) (Or.inr ⟨by rfl,rfl⟩) (by assumption) ?_
    try simp only [Act.put,List.setIfInBounds_toArray,List.set_cons_zero,List.set_cons_succ]
    refine wpAnyL_skip (i:=19) (by kernel_rfl) rfl rfl (by assumption) ?_
    try simp only [Act.put,List.setIfInBounds_toArray,List.set_cons_zero,List.set_cons_succ]
    refine wpAnyL_skip (i:=20) (by kernel_rfl) rfl rfl (by assumption) ?_
    try simp only [Act.put,List.setIfInBounds_toArray,List.set_cons_zero,List.set_cons_succ]
    refine wpAnyL_skip (i:=21) (by kernel_rfl) rfl rfl (by assumption) ?_
    try simp only [Act.put,List.setIfInBounds_toArray,List.set_cons_zero,List.set_cons_succ]
    refine wpAnyL_skip (i:=22) (by kernel_rfl) rfl rfl (by assumption) ?_
    try simp only [Act.put,List.setIfInBounds_toArray,List.set_cons_zero,List.set_cons_succ]
    refine wpAnyL_skip (i:=23) (by kernel_rfl) rfl rfl (by assumption) ?_
    try simp only [Act.put,List.setIfInBounds_toArray,List.set_cons_zero,List.set_cons_succ]
    refine skL_on [24] ?_
    repeat (refine skL_take (v:= ?_) rfl ?_ ?_;rotate_left;(focus (intro w' hSw;(try dsimp only at hSw);go_simp;try with_reducible rfl));try simp only [Act.put,List.setIfInBounds_toArray,List.set_cons_zero,List.set_cons_succ])
    refine skL_off ?_
    refine wpAnyL_done (by kernel_rfl) ?_ _
    clear hS5
    go_wp2
    go_ret
    exact ⟨false,rfl,hr,hB5⟩
   |false=>
    have hdf:=Lib.hid (difT_agr hsg.out htg.out)
    have HPF:=Lib.hid hp
    have hagr:Hid (difT s t<0→∀j,(h:j+1<L.length)→j+1<(q+1)+1→nbX (L[j]'(by omega)) L[j+1]):=fun hd j h hj=>by
     by_cases e:j=q
     ·subst e
      have e1:=hs.out
      have e2:=ht.out
      rw [List.getElem?_eq_getElem (by omega)] at e1 e2
      simp only [Option.some.injEq] at e1 e2
      rw [e1,e2]
      exact ⟨hdf.out.1 hd,HPF.out⟩
     exact hA.out j h (by omega)
    obtain ⟨z,hz⟩:∃z,z=difT s t:=⟨_,rfl⟩
    rw [←hz] at hagr
    go_upto_region 6 with (fail)
    refine wp_region_L (fun w'=>(w'.cell? ⟨g,q*2,none⟩=some (.slice x1 s.inn.length y1)∧w'.cell? ⟨g,q*2+1,none⟩=some (.slice x2 s.out.length y2))∧(w'.cell? ⟨g,(q+1)*2,none⟩=some (.slice u1 t.inn.length v1)∧w'.cell? ⟨g,(q+1)*2+1,none⟩=some (.slice u2 t.out.length v2))) [0,1,2,3,4,5,6,7,8,9,10,12,13,14,15,16,17,18,19,20,21,23,24] (by kernel_rfl) ?_
    have hbd:=(Below.refl w3.heap.size w3).drew
    have hS1:=(HT.out _ hbd).1
    have HH:=Lib.hid (hasp_is (HT.out _ hbd).2.2.2.1 (HT.out _ hbd).2.1 hp)
    have hB4:=hbd
    generalize w3.drew=w4 at*
    clear hbd hp
    refine skL_on [0,1,2,3,4,5,6,7,8,9,10] ?_
    repeat (refine skL_take (v:= ?_) rfl ?_ ?_;rotate_left;(focus (intro w' hSw;(try dsimp only at hSw);go_simp;try with_reducible rfl));try simp only [Act.put,List.setIfInBounds_toArray,List.set_cons_zero,List.set_cons_succ])
    refine skL_off ?_
    refine wpAnyL_one (i:=11) (by kernel_rfl) rfl rfl (fun K hK=> ?_)
    go_simp
    refine (HH.out).mono ?_
    rintro e w5 ⟨rfl,hb5⟩
    have hB5:=hB4.trans (hb5.mono hB4.size)
    have hS5:=(HT.out _ hB5).1
    have HD0:=odif_any (HT.out _ hB5).2.1 (HT.out _ hB5).2.2.1 (HT.out _ hB5).2.2.2.1 (HT.out _ hB5).2.2.2.2 hsg.out htg.out
    rw [←hz] at HD0
    have HD:=Lib.hid HD0
    refine hK _ _ (fun _=>hS5) ?_
    clear hK K HH hS1 hb5 hB4 HD0 hz
    refine skL_on [12,13,14,15,16,17,18,19,20,21] ?_
    repeat (refine skL_take (v:= ?_) rfl ?_ ?_;rotate_left;(focus (intro w' hSw;(try dsimp only at hSw);go_simp;try with_reducible rfl));try simp only [Act.put,List.setIfInBounds_toArray,List.set_cons_zero,List.set_cons_succ])
    refine skL_off ?_
    refine wpAnyL_one (i:=22) (by kernel_rfl) rfl rfl (fun K hK=> ?_)
    go_simp
    refine (HD.out).mono ?_
    rintro e w6 ⟨rfl,hb6⟩
    have hB6:=hB5.trans (hb6.mono hB5.size)
    have hS6:=(HT.out _ hB6).1
    refine hK _ _ (fun _=>hS6) ?_
    clear hK K HD hS5 hb6 hB5
    refine skL_on [23,24] ?_
    repeat (refine skL_take (v:= ?_) rfl ?_ ?_;rotate_left;(focus (intro w' hSw;(try dsimp only at hSw);go_simp;try with_reducible rfl));try simp only [Act.put,List.setIfInBounds_toArray,List.set_cons_zero,List.set_cons_succ])
    refine skL_off ?_
    refine wpAnyL_done (by kernel_rfl) ?_ _
    clear hS6
    have hB7:=hBf.trans (hB6.mono hBf.size)
    by_cases hzn:0≤z
    ·have hr:Hid (FitX l false):=hPL.out false (fun h=>by cases h)
     have hzd:decide (0≤z)=true:=decide_eq_true hzn
     go_wp2
     go_ret
     exact ⟨false,rfl,hr,hB7⟩
    have hzd:decide (0≤z)=false:=decide_eq_false hzn
    have hA2:=Lib.hid (hagr.out (by omega))
    have hB8:=hB.trans (hB6.mono hB.size)
    go_wp2
    go_roundw
    case rel=>exact ⟨q+1,by omega,by go_num,hA2,hB8⟩
    case measure=>simp [intOf];omega
  have hr:Hid (FitX l true):=hPL.out true fun _=>agx_all hL.out.2 fun k h=>hA.out k h (by omega)
  go_wp2
  go_ret
  exact ⟨true,rfl,hr,hBf⟩
end
section
variable {M M1 M2 M3:Nat→Prop} {w:World} {a a1 a2 b1 b2:Option Addr} {c c1 c2 d1 d2 g:Nat} {t u:Tr} {l:List Tr}
theorem v1_any (h1:Sl M w a1 c1 u.inn) (_h2:Sl M3 w a2 c2 u.out) (hT:T2 w g b1 d1 b2 d2 t) (s1:Sl M1 w b1 d1 t.inn) (_s2:Sl M2 w b2 d2 t.out) (_hu:Hid (u.out.length=u.inn.length)) (_ht:Hid (t.out.length=t.inn.length)) {v:Bool} (hv:hasP u.inn t.inn=v):
    Calls Tryz.prog 67 #[trV u a1 c1 a2 c2,.pointer (some ⟨g,0,none⟩)] w fun e w'=>e= .returned (.bool v)∧Below w.heap.size w w':=by
 have hB0:=(Below.refl w.heap.size w).alloc (Nat.le_refl _) (trO u a1 c1 a2 c2)
 have hT1:=hT.below hB0 (lt_of_cell hT.1)
 have HC:=Lib.hid (hasp_is (h1.below hB0) (s1.below hB0) hv)
 have l1:=h1.le
 have l2:=s1.le
 clear h1 s1 hT hv _h2 _s2
 obtain ⟨x0,x1⟩:=hT1
 go_enter Tryz.func67,Tryz.ntmps67
 go_wp2_with fail
 refine (HC.out).mono ?_
 rintro e w1 ⟨rfl,hb1⟩
 have hB1:=hB0.trans (hb1.mono hB0.size)
 go_wp2
 go_ret
 exact ⟨rfl,hB1⟩
theorem v2_any (h1:Sl M w a1 c1 u.inn) (h2:Sl M3 w a2 c2 u.out) (hT:T2 w g b1 d1 b2 d2 t) (s1:Sl M1 w b1 d1 t.inn) (s2:Sl M2 w b2 d2 t.out) (hu:Hid (u.out.length=u.inn.length)) (ht:Hid (t.out.length=t.inn.length)) {v:Bool} (hv:decide (0≤difT t u)=v):
    Calls Tryz.prog 69 #[trV u a1 c1 a2 c2,.pointer (some ⟨g,0,none⟩)] w fun e w'=>e= .returned (.bool v)∧Below w.heap.size w w':=by
 have hB0:=(Below.refl w.heap.size w).alloc (Nat.le_refl _) (trO u a1 c1 a2 c2)
 have hT1:=hT.below hB0 (lt_of_cell hT.1)
 have HC0:=odif_any (s1.below hB0) (s2.below hB0) (h1.below hB0) (h2.below hB0) ht.out hu.out
 obtain ⟨z,hz⟩:∃z,z=difT t u:=⟨_,rfl⟩
 rw [←hz] at HC0 hv
 have HC:=Lib.hid HC0
 have l1:=h1.le
 have l2:=s1.le
 have l3:=h2.le
 have l4:=s2.le
 clear h1 s1 hT h2 s2 HC0 hz
 obtain ⟨x0,x1⟩:=hT1
 go_enter Tryz.func69,Tryz.ntmps69
 go_wp2_with fail
 refine (HC.out).mono ?_
 rintro e w1 ⟨rfl,hb1⟩
 have hB1:=hB0.trans (hb1.mono hB0.size)
 go_wp2
 go_ret
 exact ⟨by rw [←hv];rfl,hB1⟩
end
def IdyP (l:List Tr) (P:Tr→Bool) (r:Int):Prop:=(r<0→l.any P=false)∧(0≤r→l.any P=true)
def IdyR (l:List Tr) (P:Tr→Bool) (w:World) (e:Ending) (w':World):Prop:=∃r:Int,e= .returned (.int .i64 r)∧Hid (IdyP l P r)∧Below w.heap.size w w'
section
variable {M M1 M2 M3:Nat→Prop} {w:World} {a a1 a2 b1 b2:Option Addr} {c c1 c2 d1 d2 g:Nat} {t u:Tr} {l:List Tr}
theorem idxw1 (hs:Sl M w a c l) (hT:T2 w g b1 d1 b2 d2 t) (s1:Sl M1 w b1 d1 t.inn) (s2:Sl M2 w b2 d2 t.out) (hg:Hid (∀u∈l,u.out.length=u.inn.length)) (ht:Hid (t.out.length=t.inn.length)) (hl:l.length≤10000):
    Calls Tryz.prog 113 #[.slice a l.length c,.func (Fn.func 67) #[] #[.pointer (some ⟨g,0,none⟩)]] w (IdyR l (fun u=>hasP u.inn t.inn) w):=by
 have hll:=hs.le
 have HS:=Lib.hid hs
 have HT:Hid (∀w',Below w.heap.size w w'→T2 w' g b1 d1 b2 d2 t∧Sl M1 w' b1 d1 t.inn∧Sl M2 w' b2 d2 t.out):=fun w' hb=>⟨hT.below hb (lt_of_cell hT.1),s1.below hb,s2.below hb⟩
 have hB0:=Below.refl w.heap.size w
 have hN0:Hid (∀u∈l.take 0,(hasP u.inn t.inn)=false):=fun y hy=>by simp at hy
 clear hs hT s1 s2
 go_enter Tryz.func113,Tryz.ntmps113
 go_wp2
 go_loopw [8] (fun i wr=>∃j:Nat,j≤l.length∧i= .int .i64 j∧Hid (∀u∈l.take j,(hasP u.inn t.inn)=false)∧Below w.heap.size w wr) (fun i _=>l.length-(intOf i).toNat)
 case atStart=>exact ⟨0,by omega,rfl,hN0,hB0⟩
 case round=>
  clear hB0 hN0
  obtain ⟨j,hj,rfl,hN,hB⟩:=hrel
  obtain ⟨w1,rfl⟩:∃w1:World,w1=wr:=⟨_,rfl⟩
  by_cases hlt:j<l.length
  ·obtain ⟨bL,oL,q1,r1,q2,r2,x,rfl,hc1,hc2,hx,hx1,hx2⟩:=(HS.out.below hB).at_tr hlt
   have hxg:=Lib.hid (hg.out x (List.mem_of_getElem? hx.out))
   have HTw:=HT.out _ hB
   obtain ⟨v,hv⟩:∃v:Bool,(hasP x.inn t.inn)=v:=⟨_,rfl⟩
   have HC:=Lib.hid (v1_any hx1 hx2 HTw.1 HTw.2.1 HTw.2.2 hxg ht hv)
   have l1:=hx1.le
   have l2:=hx2.le
   have HV:=Lib.hid hv
   clear hx1 hx2 HTw hv
   go_wp2_with fail
   refine (HC.out).mono ?_
   rintro e w2 ⟨rfl,hb2⟩
   have hB2:=hB.trans (hb2.mono hB.size)
   cases v with
   |true=>
    have hr:Hid (IdyP l (fun u=>hasP u.inn t.inn) (j:Int)):=⟨fun h=>by omega,fun _=>List.any_eq_true.2 ⟨x,List.mem_of_getElem? hx.out,HV.out⟩⟩
    go_wp2
    go_ret
    exact ⟨_,rfl,hr,hB2⟩
   |false=>
    have hN2:Hid (∀u∈l.take (j+1),(hasP u.inn t.inn)=false):=fun y hy=>by
     rw [List.take_add_one,hx.out] at hy
     rcases List.mem_append.1 hy with hy|hy
     ·exact hN.out y hy
     have:y=x:=by simpa using hy
     subst this;exact HV.out
    clear HC hb2 hc1 hc2
    go_wp2
    go_roundw
    case rel=>exact ⟨j+1,by omega,by go_num,hN2,hB2⟩
    case measure=>simp [intOf];omega
  have hr:Hid (IdyP l (fun u=>hasP u.inn t.inn) (-1)):=⟨fun _=>List.any_eq_false.2 fun y hy=>by simpa using hN.out y (by rw [List.take_of_length_le (by omega)];exact hy),fun h=>by omega⟩
  go_wp2
  go_ret
  exact ⟨_,rfl,hr,hB⟩
theorem conw1 (hs:Sl M w a c l) (hT:T2 w g b1 d1 b2 d2 t) (s1:Sl M1 w b1 d1 t.inn) (s2:Sl M2 w b2 d2 t.out) (hg:Hid (∀u∈l,u.out.length=u.inn.length)) (ht:Hid (t.out.length=t.inn.length)) (hl:l.length≤10000) {v:Bool} (hv:(l.any fun u=>hasP u.inn t.inn)=v):
    Calls Tryz.prog 66 #[.slice a l.length c,.func (Fn.func 67) #[] #[.pointer (some ⟨g,0,none⟩)]] w fun e w'=>e= .returned (.bool v)∧Below w.heap.size w w':=by
 have hll:=hs.le
 have HC:=Lib.hid (idxw1 hs hT s1 s2 hg ht hl)
 have HV:=Lib.hid hv
 clear hs hT s1 s2 hv
 go_enter Tryz.func66,Tryz.ntmps66
 go_wp2_with fail
 refine (HC.out).mono ?_
 rintro e w1 ⟨r,rfl,hr,hb1⟩
 by_cases h0:0≤r
 ·have h0d:decide (0≤r)=true:=decide_eq_true h0
  have hR:=HV.out.symm.trans (hr.out.2 h0)
  subst hR
  go_wp2
  go_ret
  exact ⟨rfl,hb1⟩
 have h0d:decide (0≤r)=false:=decide_eq_false h0
 have hR:=HV.out.symm.trans (hr.out.1 (by omega))
 subst hR
 go_wp2
 go_ret
 exact ⟨rfl,hb1⟩
theorem idxw2 (hs:Sl M w a c l) (hT:T2 w g b1 d1 b2 d2 t) (s1:Sl M1 w b1 d1 t.inn) (s2:Sl M2 w b2 d2 t.out) (hg:Hid (∀u∈l,u.out.length=u.inn.length)) (ht:Hid (t.out.length=t.inn.length)) (hl:l.length≤10000):
    Calls Tryz.prog 113 #[.slice a l.length c,.func (Fn.func 69) #[] #[.pointer (some ⟨g,0,none⟩)]] w (IdyR l (fun u=>decide (0≤difT t u)) w):=by
 have hll:=hs.le
 have HS:=Lib.hid hs
 have HT:Hid (∀w',Below w.heap.size w w'→T2 w' g b1 d1 b2 d2 t∧Sl M1 w' b1 d1 t.inn∧Sl M2 w' b2 d2 t.out):=fun w' hb=>⟨hT.below hb (lt_of_cell hT.1),s1.below hb,s2.below hb⟩
 have hB0:=Below.refl w.heap.size w
 have hN0:Hid (∀u∈l.take 0,(decide (0≤difT t u))=false):=fun y hy=>by simp at hy
 clear hs hT s1 s2
 go_enter Tryz.func113,Tryz.ntmps113
 go_wp2
 go_loopw [8] (fun i wr=>∃j:Nat,j≤l.length∧i= .int .i64 j∧Hid (∀u∈l.take j,(decide (0≤difT t u))=false)∧Below w.heap.size w wr) (fun i _=>l.length-(intOf i).toNat)
 case atStart=>exact ⟨0,by omega,rfl,hN0,hB0⟩
 case round=>
  clear hB0 hN0
  obtain ⟨j,hj,rfl,hN,hB⟩:=hrel
  obtain ⟨w1,rfl⟩:∃w1:World,w1=wr:=⟨_,rfl⟩
  by_cases hlt:j<l.length
  ·obtain ⟨bL,oL,q1,r1,q2,r2,x,rfl,hc1,hc2,hx,hx1,hx2⟩:=(HS.out.below hB).at_tr hlt
   have hxg:=Lib.hid (hg.out x (List.mem_of_getElem? hx.out))
   have HTw:=HT.out _ hB
   obtain ⟨v,hv⟩:∃v:Bool,(decide (0≤difT t x))=v:=⟨_,rfl⟩
   have HC:=Lib.hid (v2_any hx1 hx2 HTw.1 HTw.2.1 HTw.2.2 hxg ht hv)
   have l1:=hx1.le
   have l2:=hx2.le
   have HV:=Lib.hid hv
   clear hx1 hx2 HTw hv
   go_wp2_with fail
   refine (HC.out).mono ?_
   rintro e w2 ⟨rfl,hb2⟩
   have hB2:=hB.trans (hb2.mono hB.size)
   cases v with
   |true=>
    have hr:Hid (IdyP l (fun u=>decide (0≤difT t u)) (j:Int)):=⟨fun h=>by omega,fun _=>List.any_eq_true.2 ⟨x,List.mem_of_getElem? hx.out,HV.out⟩⟩
    go_wp2
    go_ret
    exact ⟨_,rfl,hr,hB2⟩
   |false=>
    have hN2:Hid (∀u∈l.take (j+1),(decide (0≤difT t u))=false):=fun y hy=>by
     rw [List.take_add_one,hx.out] at hy
     rcases List.mem_append.1 hy with hy|hy
     ·exact hN.out y hy
     have:y=x:=by simpa using hy
     subst this;exact HV.out
    clear HC hb2 hc1 hc2
    go_wp2
    go_roundw
    case rel=>exact ⟨j+1,by omega,by go_num,hN2,hB2⟩
    case measure=>simp [intOf];omega
  have hr:Hid (IdyP l (fun u=>decide (0≤difT t u)) (-1)):=⟨fun _=>List.any_eq_false.2 fun y hy=>by simpa using hN.out y (by rw [List.take_of_length_le (by omega)];exact hy),fun h=>by omega⟩
  go_wp2
  go_ret
  exact ⟨_,rfl,hr,hB⟩
theorem conw2 (hs:Sl M w a c l) (hT:T2 w g b1 d1 b2 d2 t) (s1:Sl M1 w b1 d1 t.inn) (s2:Sl M2 w b2 d2 t.out) (hg:Hid (∀u∈l,u.out.length=u.inn.length)) (ht:Hid (t.out.length=t.inn.length)) (hl:l.length≤10000) {v:Bool} (hv:(l.any fun u=>decide (0≤difT t u))=v):
    Calls Tryz.prog 66 #[.slice a l.length c,.func (Fn.func 69) #[] #[.pointer (some ⟨g,0,none⟩)]] w fun e w'=>e= .returned (.bool v)∧Below w.heap.size w w':=by
 have hll:=hs.le
 have HC:=Lib.hid (idxw2 hs hT s1 s2 hg ht hl)
 have HV:=Lib.hid hv
 clear hs hT s1 s2 hv
 go_enter Tryz.func66,Tryz.ntmps66
 go_wp2_with fail
 refine (HC.out).mono ?_
 rintro e w1 ⟨r,rfl,hr,hb1⟩
 by_cases h0:0≤r
 ·have h0d:decide (0≤r)=true:=decide_eq_true h0
  have hR:=HV.out.symm.trans (hr.out.2 h0)
  subst hR
  go_wp2
  go_ret
  exact ⟨rfl,hb1⟩
 have h0d:decide (0≤r)=false:=decide_eq_false h0
 have hR:=HV.out.symm.trans (hr.out.1 (by omega))
 subst hR
 go_wp2
 go_ret
 exact ⟨rfl,hb1⟩
end
def dA2 (a:Option Addr) (c i:Nat):Option Addr:=if c=i then a else a.map (·.add (i*2))
theorem Sl.dropT {M:Nat→Prop} {w:World} {a:Option Addr} {c:Nat} {l:List Tr} (h:Sl M w a c l) {i:Nat} (hi:i≤l.length):Sl M w (dA2 a c i) (c-i) (l.drop i):=by
 refine ⟨by have:=h.1;rw [List.length_drop];omega,by have:=h.2.1;omega,fun j x hj=> ?_⟩
 have hj2:l[i+j]? =some x:=by rw [List.getElem?_drop] at hj;exact hj
 have hjl:i+j<l.length:=by
  by_cases e:i+j<l.length
  ·exact e
  rw [List.getElem?_eq_none (by omega)] at hj2;simp at hj2
 obtain ⟨b,off,cs,ha,hb,hm,hr,hc⟩:=h.2.2 (i+j) x hj2
 refine ⟨b,off+i*2,cs,?_,hb,hm,hr,fun k u hk=> ?_⟩
 ·have:=h.1
  unfold dA2
  rw [if_neg (by omega),ha,Option.map_some,adT_flat]
 have:=hc k u hk
 have e:off+i*2+j*GR.sz Tr+k=off+(i+j)*GR.sz Tr+k:=by simp only [GR.sz];omega
 rw [e];exact this
namespace Ob
variable {o:Ob}
def inB (o:Ob):Prop:=1≤o.inputs∧o.inputs≤64∧o.traces.length≤10000
theorem err_in (h:o.inB):o.err=(if o.atsErr o.traces.length≠0 then o.atsErr o.traces.length else o.apsErr o.traces.length):=by
 obtain ⟨h1,h2,h3⟩:=h
 rcases err_cases (o:=o) with ⟨a,_⟩|⟨_,a,_⟩|⟨_,_,a,_⟩|⟨_,_,_,e⟩
 ·omega
 ·omega
 ·omega
 exact e
theorem err_at {k:Nat} {v:Int} (hi:o.inB) (hk:k<o.traces.length) (h0:o.atsErr k=0) (h1:o.atErr k=v) (hv:v≠0):o.err=v:=by
 have h2:o.atsErr (k+1)=v:=by simp only [atsErr];rw [if_pos h0,h1]
 have h3:=atsErr_stop (o:=o) (k:=k+1) (n:=o.traces.length) hk (by rw [h2];exact hv)
 rw [err_in hi,if_pos (by rw [h3,h2];exact hv),h3,h2]
theorem ats_next {k:Nat} (h0:o.atsErr k=0) (h1:o.atErr k=0):o.atsErr (k+1)=0:=by simp only [atsErr];rw [if_pos h0,h1]
theorem err_ap {k:Nat} {v:Int} (hi:o.inB) (ha:o.atsErr o.traces.length=0) (hk:k<o.traces.length) (h0:o.apsErr k=0) (h1:o.apErr k=v) (hv:v≠0):o.err=v:=by
 have h2:o.apsErr (k+1)=v:=by simp only [apsErr];rw [if_pos h0,h1]
 have h3:=apsErr_stop (o:=o) (k:=k+1) (n:=o.traces.length) hk (by rw [h2];exact hv)
 rw [err_in hi,if_neg (by simp [ha]),h3,h2]
theorem aps_next {k:Nat} (h0:o.apsErr k=0) (h1:o.apErr k=0):o.apsErr (k+1)=0:=by simp only [apsErr];rw [if_pos h0,h1]
theorem err_ok (hi:o.inB) (ha:o.atsErr o.traces.length=0) (h:o.apsErr o.traces.length=0):o.err=0:=by rw [err_in hi,if_neg (by simp [ha]),h]
theorem atE_w {k:Nat} {t:Tr} {v:Int} (ht:o.traces[k]? =some t) (h:wErr t.inn o.inputs=v) (hv:v≠0):o.atErr k=v:=by
 unfold atErr;rw [tr_of ht,if_pos (by rw [h];exact hv),h]
theorem atE_e {k:Nat} {t:Tr} (ht:o.traces[k]? =some t) (h:wErr t.inn o.inputs=0) (h2:t.inn.length=0):o.atErr k=19:=by
 unfold atErr;rw [tr_of ht,if_neg (by simp [h]),if_pos (List.length_eq_zero_iff.1 h2)]
theorem atE_p {k:Nat} {t:Tr} {v:Int} (ht:o.traces[k]? =some t) (h:wErr t.inn o.inputs=0) (h2:¬t.inn.length=0) (h3:t.err o.inputs=v) (hv:v≠0):o.atErr k=v:=by
 unfold atErr;rw [tr_of ht,if_neg (by simp [h]),if_neg (fun e=>h2 (by rw [e];rfl)),if_pos (by rw [h3];exact hv),h3]
theorem atE_c {k:Nat} {s t:Tr} (hs:o.traces[k]? =some s) (ht:o.traces[k+1]? =some t) (h:wErr t.inn o.inputs=0) (h2:¬t.inn.length=0) (h3:t.err o.inputs=0):o.atErr (k+1)=if 0≤cmpW s.inn t.inn then 10 else 0:=by
 unfold atErr;rw [tr_of ht,Nat.add_sub_cancel,tr_of hs,if_neg (by simp [h]),if_neg (fun e=>h2 (by rw [e];rfl)),if_neg (by simp [h3])]
 by_cases e:0≤cmpW s.inn t.inn
 ·rw [if_pos ⟨by omega,e⟩,if_pos e]
 rw [if_neg (fun h=>e h.2),if_neg e]
theorem atE_0 {t:Tr} (ht:o.traces[0]? =some t) (h:wErr t.inn o.inputs=0) (h2:¬t.inn.length=0) (h3:t.err o.inputs=0):o.atErr 0=0:=by
 unfold atErr;rw [tr_of ht,if_neg (by simp [h]),if_neg (fun e=>h2 (by rw [e];rfl)),if_neg (by simp [h3]),if_neg (by omega)]
theorem any_drop (P:Tr→Bool) (k:Nat):((List.range o.traces.length).any fun j=>decide (k<j)&&P (o.tr j))=(o.traces.drop (k+1)).any P:=by
 rw [Bool.eq_iff_iff,List.any_eq_true,List.any_eq_true]
 constructor
 ·rintro ⟨j,hj,h⟩
  rw [List.mem_range] at hj
  simp at h
  refine ⟨o.tr j,?_,h.2⟩
  rw [tr_of (List.getElem?_eq_getElem hj)]
  exact List.mem_iff_getElem?.2 ⟨j-(k+1),by rw [List.getElem?_drop,show k+1+(j-(k+1))=j by omega];exact List.getElem?_eq_getElem hj⟩
 rintro ⟨u,hu,h⟩
 obtain ⟨j,hj⟩:=List.mem_iff_getElem?.1 hu
 rw [List.getElem?_drop] at hj
 refine ⟨k+1+j,?_,?_⟩
 ·rw [List.mem_range]
  by_cases e:k+1+j<o.traces.length
  ·exact e
  rw [List.getElem?_eq_none (by omega)] at hj;simp at hj
 rw [tr_of hj];simp;exact ⟨by omega,h⟩
theorem preB_drop {k:Nat} {t:Tr} (ht:o.traces[k]? =some t):o.preB k o.traces.length=(o.traces.drop (k+1)).any fun u=>hasP u.inn t.inn:=by
 unfold preB;rw [←any_drop,tr_of ht]
theorem claB_drop {k:Nat} {t:Tr} (ht:o.traces[k]? =some t):o.claB k o.traces.length=(o.traces.drop (k+1)).any fun u=>decide (0≤difT t u):=by
 unfold claB;rw [←any_drop (fun u=>decide (0≤difT t u)),tr_of ht];rfl
theorem apE_7 {k:Nat} {t:Tr} (ht:o.traces[k]? =some t) (h:((o.traces.drop (k+1)).any fun u=>hasP u.inn t.inn)=true):o.apErr k=7:=by unfold apErr;rw [preB_drop ht,if_pos h]
theorem apE_c {k:Nat} {t:Tr} (ht:o.traces[k]? =some t) (h:((o.traces.drop (k+1)).any fun u=>hasP u.inn t.inn)=false):o.apErr k=if ((o.traces.drop (k+1)).any fun u=>decide (0≤difT t u))=true then 13 else 0:=by
 unfold apErr;rw [preB_drop ht,claB_drop ht,if_neg (by simp [h])]
theorem aps_fit (hl:∀t∈o.traces,t.out.length=t.inn.length) (h:o.traces.Pairwise agrX):∀k,k≤o.traces.length→o.apsErr k=0
 |0,_=>rfl
 |k+1,hk=>by
  have ht:o.traces[k]? =some o.traces[k]:=List.getElem?_eq_getElem hk
  rw [List.pairwise_iff_getElem] at h
  have hP:∀u∈o.traces.drop (k+1),agrX o.traces[k] u:=fun u hu=>by
   obtain ⟨j,hj,rfl⟩:=List.getElem_of_mem hu
   rw [List.getElem_drop]
   exact h k (k+1+j) (by omega) (by rw [List.length_drop] at hj;omega) (by omega)
  refine aps_next (aps_fit hl (List.pairwise_iff_getElem.2 h) k (by omega)) ?_
  rw [apE_c ht (List.any_eq_false.2 fun u hu=>by simp [(hP u hu).2.1]),if_neg]
  rw [Bool.not_eq_true]
  refine List.any_eq_false.2 fun u hu=> ?_
  have:=(difT_agr (hl _ (List.getElem_mem hk)) (hl u (List.mem_of_mem_drop hu))).2 (hP u hu).1
  simp;omega
end Ob
section
variable {M:Nat→Prop} {w:World} {a:Option Addr} {c:Nat} {o:Ob}
theorem ovalidx (ho:Os M w a c o) {er:Int} (her:o.err=er):Calls Tryz.prog 36 #[obV o a c] w fun e w'=>e= .returned (.int .i64 er)∧Below w.heap.size w w':=by
 have hB0:=(Below.refl w.heap.size w).alloc (Nat.le_refl _) (obO o a c)
 have hx0:O2 (w.alloc (obO o a c)) w.heap.size a c o:=o2_new w
 have hz0:w.heap.size<(w.alloc (obO o a c)).heap.size:=by simp
 have hol:=ho.traces.le
 have HO:=Lib.hid (ho.below hB0)
 have HE:=Lib.hid her
 clear ho her
 go_enter Tryz.func36,Tryz.ntmps36
 go_upto_region 1 with (fail)
 generalize w.alloc (obO o a c)=w0 at*
 have HS:Hid (∀w',Below w0.heap.size w0 w'→O2 w' w.heap.size a c o∧Os M w' a c o∧Below w.heap.size w w'):=fun w' hb=>⟨hx0.below hb hz0,HO.out.below hb,hB0.trans (hb.mono (by omega))⟩
 have hb0:=Below.refl w0.heap.size w0
 have hxz:=hx0
 obtain ⟨o0,o1⟩:=hxz
 clear hx0 HO
 by_cases h1:o.inputs<1
 ·have hr:=HE.out.symm.trans (show o.err=2 by unfold Ob.err;rw [if_pos (.inl h1)])
  subst hr
  go_wp2
  go_ret
  exact ⟨rfl,hB0⟩
 by_cases h2:64<o.inputs
 ·have hr:=HE.out.symm.trans (show o.err=2 by unfold Ob.err;rw [if_pos (.inr h2)])
  subst hr
  go_wp2
  go_ret
  exact ⟨rfl,hB0⟩
 by_cases h3:10000<o.traces.length
 ·have hr:=HE.out.symm.trans (show o.err=11 by unfold Ob.err;rw [if_neg (by omega),if_pos h3])
  subst hr
  have h3d:decide ((10000:Int)<o.traces.length)=true:=decide_eq_true (by omega)
  go_wp2
  go_ret
  exact ⟨rfl,hB0⟩
 have h3d:decide ((10000:Int)<o.traces.length)=false:=decide_eq_false (by omega)
 have hG0:Hid (∀t∈o.traces.take 0,wErr t.inn o.inputs=0∧t.out.length=t.inn.length):=fun t ht=>by simp at ht
 have hn:=Lib.hid h3
 have HI:Hid o.inB:=⟨by omega,by omega,by omega⟩
 have hA0:Hid (o.atsErr 0=0):=rfl
 go_wp2
 go_loopw [25] (fun i wr=>∃k:Nat,k≤o.traces.length∧i= .int .i64 k∧Hid (∀t∈o.traces.take k,wErr t.inn o.inputs=0∧t.out.length=t.inn.length)∧Hid (o.atsErr k=0)∧Below w0.heap.size w0 wr) (fun i _=>o.traces.length-(intOf i).toNat)
 case atStart=>exact ⟨0,by omega,rfl,hG0,hA0,hb0⟩
 case round=>
  clear hG0 hA0 hb0 o0 o1
  obtain ⟨k,hk,rfl,hG,hA,hB⟩:=hrel
  obtain ⟨w1,rfl⟩:∃w1:World,w1=wr:=⟨_,rfl⟩
  have hz1:=hB.size
  obtain ⟨⟨o0,o1⟩,hos,hBw⟩:=HS.out _ hB
  by_cases hlt:k<o.traces.length
  ·obtain ⟨bT,oT,a1,c1,a2,c2,t,he1,hc1,hc2,ht,hs1,hs2⟩:=hos.traces.at_tr hlt
   have htl:=hs1.le
   have htl2:=hs2.le
   have HT1:Hid (∀w',Below w1.heap.size w1 w'→Sl M w' a1 c1 t.inn∧Sl M w' a2 c2 t.out):=fun w' hb=>⟨hs1.below hb,hs2.below hb⟩
   subst he1
   clear hs1 hs2 hos
   go_upto_region 8 with (fail)
   have hba:=(Below.refl w1.heap.size w1).alloc (Nat.le_refl _) (trO t a1 c1 a2 c2)
   have hX2:T2 (w1.alloc (trO t a1 c1 a2 c2)) w1.heap.size a1 c1 a2 c2 t:=t2_new w1
   have hB2:=hB.trans (hba.mono hz1)
   have hz2:w1.heap.size<(w1.alloc (trO t a1 c1 a2 c2)).heap.size:=by simp
   have HC:=Lib.hid (wcheck_any (HT1.out _ hba).1 o.inputs)
   clear o0 o1 hc1 hc2 hB
   generalize w1.alloc (trO t a1 c1 a2 c2)=w2 at*
   obtain ⟨o0,o1⟩:=(HS.out _ hB2).1
   obtain ⟨x0,x1⟩:=hX2
   obtain ⟨we,hwe⟩:∃v,v=wErr t.inn o.inputs:=⟨_,rfl⟩
   rw [←hwe] at HC
   go_wp2_with fail
   refine (HC.out).mono ?_
   rintro e w3 ⟨rfl,hb3⟩
   have hb13:=hba.trans (hb3.mono (by omega))
   have hB3:=hB2.trans (hb3.mono hB2.size)
   obtain ⟨x0,x1⟩:=T2.below ⟨x0,x1⟩ hb3 hz2
   clear HC o0 o1 hb3 hB2 hz2 hba hBw
   obtain ⟨⟨o0,o1⟩, -,hBw⟩:=HS.out _ hB3
   by_cases hw0:we=0
   rotate_left
   ·have hwb:(we !=0)=true:=by simp [hw0]
    have hr:=HE.out.symm.trans (Ob.err_at HI.out hlt hA.out (Ob.atE_w ht.out hwe.symm hw0) hw0)
    clear hw0 hwe
    subst hr
    go_wp2
    go_ret
    exact ⟨rfl,hBw⟩
   have hwb:(we !=0)=false:=by simp [hw0]
   have HW0:Hid (wErr t.inn o.inputs=0):=by unfold Hid;rw [←hwe];exact hw0
   clear hw0 hwe
   by_cases hl0:t.inn.length=0
   ·have hlb:(((t.inn.length:Nat):Int)==0)=true:=by rw [hl0];rfl
    have hr:=HE.out.symm.trans (Ob.err_at HI.out hlt hA.out (Ob.atE_e ht.out HW0.out hl0) (by decide))
    clear hl0
    subst hr
    go_wp2
    go_ret
    exact ⟨rfl,hBw⟩
   have hlb:(((t.inn.length:Nat):Int)==0)=false:=by simp;exact fun e=>hl0 (by rw [e];rfl)
   obtain ⟨pe,hpe⟩:∃v,t.err o.inputs=v:=⟨_,rfl⟩
   have HP:=Lib.hid (properx (HT1.out _ hb13).1 (HT1.out _ hb13).2 o.inputs hpe)
   have HN0:=Lib.hid hl0
   clear hl0
   go_wp2_with fail
   refine (HP.out).mono ?_
   rintro e w4 ⟨rfl,hb4⟩
   have hb14:=hb13.trans (hb4.mono (by have:=hb13.size;omega))
   have hB4:=hB3.trans (hb4.mono hB3.size)
   obtain ⟨x0,x1⟩:=T2.below ⟨x0,x1⟩ hb4 (lt_of_cell x0)
   clear HP o0 o1 hb4 hB3 hb13 hBw
   obtain ⟨⟨o0,o1⟩, -,hBw⟩:=HS.out _ hB4
   by_cases hp0:pe=0
   rotate_left
   ·have hpb:(pe !=0)=true:=by simp [hp0]
    have hr:=HE.out.symm.trans (Ob.err_at HI.out hlt hA.out (Ob.atE_p ht.out HW0.out HN0.out hpe hp0) hp0)
    clear hp0 hpe
    subst hr
    go_wp2
    go_ret
    exact ⟨rfl,hBw⟩
   have hpb:(pe !=0)=false:=by simp [hp0]
   have HT0:Hid (t.err o.inputs=0):=hpe.trans hp0
   have HL:Hid (t.out.length=t.inn.length):=(Tr.of_err HT0.out).2.1
   have hG2:Hid (∀t∈o.traces.take (k+1),wErr t.inn o.inputs=0∧t.out.length=t.inn.length):=fun y hy=>by
    rw [List.take_add_one,ht.out] at hy
    rcases List.mem_append.1 hy with hy|hy
    ·exact hG.out y hy
    have:y=t:=by simpa using hy
    subst this;exact ⟨HW0.out,HL.out⟩
   clear hp0 hpe hG
   cases k with
   |zero=>
    have hA2:Hid (o.atsErr (0+1)=0):=Ob.ats_next hA.out (Ob.atE_0 ht.out HW0.out HN0.out HT0.out)
    clear hA
    go_upto_region 16 with (fail)
    refine wp_region_L (fun w'=>O2 w' w.heap.size (some ⟨bT,oT,none⟩) c o∧T2 w' w1.heap.size a1 c1 a2 c2 t) [0,1,2,3,4,5,6,7,8,9,10,11,12] (by kernel_rfl) ?_
    have hbd:=(Below.refl w4.heap.size w4).drew
    have hB5:=hB4.trans (hbd.mono hB4.size)
    have hS5:O2 w4.drew w.heap.size (some ⟨bT,oT,none⟩) c o∧T2 w4.drew w1.heap.size a1 c1 a2 c2 t:=⟨⟨o0,o1⟩,x0,x1⟩
    generalize w4.drew=w5 at*
    clear o0 o1 x0 x1 hbd hB4 hBw
    refine skL_on [0,1,2] ?_
    repeat (refine skL_take (v:= ?_) rfl ?_ ?_;rotate_left;(focus (intro w' hSw;(try dsimp only at hSw);go_simp;try with_reducible rfl));try simp only [Act.put,List.setIfInBounds_toArray,List.set_cons_zero,List.set_cons_succ])
    refine skL_off ?_
    refine wpAnyL_take (i:=3) (v:=undef) rfl (by kernel_rfl) (by kernel_rfl) (by kernel_rfl) (by kernel_rfl) (fun _ _ _ h=>h) (Or.inr ⟨by rfl,rfl⟩) (by assumption) ?_
    try simp only [Act.put,List.setIfInBounds_toArray,List.set_cons_zero,List.set_cons_succ]
    refine wpAnyL_take (i:=4) (v:=undef) rfl (by kernel_rfl) (by kernel_rfl) (by kernel_rfl) (by kernel_rfl) (fun _ _ _ h=>h) (Or.inr ⟨by rfl,rfl⟩) (by assumption) ?_
    try simp only [Act.put,List.setIfInBounds_toArray,List.set_cons_zero,List.set_cons_succ]
    refine wpAnyL_take (i:=5) (v:=undef) rfl (by kernel_rfl) (by kernel_rfl) (by kernel_rfl) (by kernel_rfl) (fun _ _ _ h=>h) (Or.inr ⟨by rfl,rfl⟩) (by assumption) ?_
    try simp only [Act.put,List.setIfInBounds_toArray,List.set_cons_zero,List.set_cons_succ]
    refine wpAnyL_take (i:=6) (v:=undef) rfl (by kernel_rfl) (by kernel_rfl) (by kernel_rfl) (by kernel_rfl) (fun _ _ _ h=>h) (Or.inr ⟨by rfl,rfl⟩) (by assumption) ?_
    try simp only [Act.put,List.setIfInBounds_toArray,List.set_cons_zero,List.set_cons_succ]
    refine wpAnyL_take (i:=7) (v:=undef) rfl (by kernel_rfl) (by kernel_rfl) (by kernel_rfl) (by kernel_rfl) (fun _ _ _ h=>h) (Or.inr ⟨by rfl,rfl⟩) (by assumption) ?_
    try simp only [Act.put,List.setIfInBounds_toArray,List.set_cons_zero,List.set_cons_succ]
    refine wpAnyL_take (i:=8) (v:=undef) rfl (by kernel_rfl) (by kernel_rfl) (by kernel_rfl) (by kernel_rfl) (fun _ _ _ h=>h) (Or.inr ⟨by rfl,rfl⟩) (by assumption) ?_
    try simp only [Act.put,List.setIfInBounds_toArray,List.set_cons_zero,List.set_cons_succ]
    refine wpAnyL_skip (i:=9) (by kernel_rfl) rfl rfl (by assumption) ?_
    try simp only [Act.put,List.setIfInBounds_toArray,List.set_cons_zero,List.set_cons_succ]
    refine wpAnyL_skip (i:=10) (by kernel_rfl) rfl rfl (by assumption) ?_
    try simp only [Act.put,List.setIfInBounds_toArray,List.set_cons_zero,List.set_cons_succ]
    refine wpAnyL_skip (i:=11) (by kernel_rfl) rfl rfl (by assumption) ?_
    try simp only [Act.put,List.setIfInBounds_toArray,List.set_cons_zero,List.set_cons_succ]
    refine skL_on [12] ?_
    repeat (refine skL_take (v:= ?_) rfl ?_ ?_;rotate_left;(focus (intro w' hSw;(try dsimp only at hSw);go_simp;try with_reducible rfl));try simp only [Act.put,List.setIfInBounds_toArray,List.set_cons_zero,List.set_cons_succ])
    refine skL_off ?_
    refine wpAnyL_done (by kernel_rfl) ?_ _
    clear hS5
    go_wp2
    go_roundw
    case rel=>exact ⟨1,by omega,by go_num,hG2,hA2,hB5⟩
    case measure=>simp [intOf];omega
   |succ q=>
    obtain ⟨bU,oU,u1,v1,u2,v2,s,he2,k1,k2,hs,t1,t2⟩:=(HS.out _ hB4).2.1.traces.at_tr (show q<o.traces.length by omega)
    simp only [Option.some.injEq,Addr.mk.injEq,and_true] at he2
    obtain ⟨rfl,rfl⟩:=he2
    have hwq:IntKind.i64.wrap (q:Int)=(q:Int):=IntWalk.i64_in _ (by omega)
    have hq0:(0:Int)<(q:Int)+1:=by omega
    have hql:q<o.traces.length:=by omega
    have z1:=t1.le
    have z2:=t2.le
    have HOr:Hid (∀w',Below w4.heap.size w4 w'→Calls Tryz.prog 64 #[trV s u1 v1 u2 v2,trV t a1 c1 a2 c2] w' fun e w''=>e= .returned (.int .i64 (cmpW s.inn t.inn))∧Below w'.heap.size w' w''):=fun w' hb=>order_any (t1.below hb) ((HT1.out _ (hb14.trans (hb.mono (by have:=hb14.size;omega)))).1)
    obtain ⟨z,hz⟩:∃z,z=cmpW s.inn t.inn:=⟨_,rfl⟩
    rw [←hz] at HOr
    have HZ:Hid (o.atErr (q+1)=if 0≤z then 10 else 0):=by rw [hz];exact Ob.atE_c hs.out ht.out HW0.out HN0.out HT0.out
    clear t1 t2 hz
    go_upto_region 16 with (fail)
    refine wp_region_L (fun w'=>(O2 w' w.heap.size (some ⟨bT,oT,none⟩) c o∧T2 w' w1.heap.size a1 c1 a2 c2 t)∧(w'.cell? ⟨bT,oT+q*2,none⟩=some (.slice u1 s.inn.length v1)∧w'.cell? ⟨bT,oT+q*2+1,none⟩=some (.slice u2 s.out.length v2))) [0,1,2,3,4,5,6,7,8,9,11,12] (by kernel_rfl) ?_
    have hbd:=(Below.refl w4.heap.size w4).drew
    have hB5:=hB4.trans (hbd.mono hB4.size)
    have HOr5:=Lib.hid (HOr.out _ hbd)
    have hS5:(O2 w4.drew w.heap.size (some ⟨bT,oT,none⟩) c o∧T2 w4.drew w1.heap.size a1 c1 a2 c2 t)∧(w4.drew.cell? ⟨bT,oT+q*2,none⟩=some (.slice u1 s.inn.length v1)∧w4.drew.cell? ⟨bT,oT+q*2+1,none⟩=some (.slice u2 s.out.length v2)):=⟨⟨⟨o0,o1⟩,x0,x1⟩,k1,k2⟩
    generalize w4.drew=w5 at*
    clear o0 o1 x0 x1 hbd hB4 hBw k1 k2
    refine skL_on [0,1,2,3,4,5,6,7,8,9] ?_
    repeat (refine skL_take (v:= ?_) rfl ?_ ?_;rotate_left;(focus (intro w' hSw;(try dsimp only at hSw);go_simp;try with_reducible rfl));try simp only [Act.put,List.setIfInBounds_toArray,List.set_cons_zero,List.set_cons_succ])
    refine skL_off ?_
    refine wpAnyL_one (i:=10) (by kernel_rfl) rfl rfl (fun K hK=> ?_)
    go_simp
    refine (HOr5.out).mono ?_
    rintro e w6 ⟨rfl,hb6⟩
    have hB6:=hB5.trans (hb6.mono hB5.size)
    have hS6:(O2 w6 w.heap.size (some ⟨bT,oT,none⟩) c o∧T2 w6 w1.heap.size a1 c1 a2 c2 t)∧(w6.cell? ⟨bT,oT+q*2,none⟩=some (.slice u1 s.inn.length v1)∧w6.cell? ⟨bT,oT+q*2+1,none⟩=some (.slice u2 s.out.length v2)):=
     ⟨⟨(HS.out _ hB6).1,T2.below hS5.1.2 hb6 (lt_of_cell hS5.1.2.1)⟩,(hb6.cell (p:=⟨bT,oT+q*2,none⟩) (lt_of_cell hS5.2.1)).trans hS5.2.1,(hb6.cell (p:=⟨bT,oT+q*2+1,none⟩) (lt_of_cell hS5.2.2)).trans hS5.2.2⟩
    refine hK _ _ (fun _=>hS6) ?_
    clear hK K HOr5 hS5 hb6 hB5 HOr
    refine skL_on [11,12] ?_
    repeat (refine skL_take (v:= ?_) rfl ?_ ?_;rotate_left;(focus (intro w' hSw;(try dsimp only at hSw);go_simp;try with_reducible rfl));try simp only [Act.put,List.setIfInBounds_toArray,List.set_cons_zero,List.set_cons_succ])
    refine skL_off ?_
    refine wpAnyL_done (by kernel_rfl) ?_ _
    clear hS6
    by_cases hzn:0≤z
    ·have hzd:decide (0≤z)=true:=decide_eq_true hzn
     have hr:=HE.out.symm.trans (Ob.err_at HI.out hlt hA.out (HZ.out.trans (if_pos hzn)) (by decide))
     subst hr
     have hBf:=(HS.out _ hB6).2.2
     go_wp2
     go_ret
     exact ⟨rfl,hBf⟩
    have hzd:decide (0≤z)=false:=decide_eq_false hzn
    have hA2:Hid (o.atsErr (q+1+1)=0):=Ob.ats_next hA.out (HZ.out.trans (if_neg hzn))
    clear hA
    go_wp2
    go_roundw
    case rel=>exact ⟨q+1+1,by omega,by go_num,hG2,hA2,hB6⟩
    case measure=>simp [intOf];omega
  have hgl:Hid (∀t∈o.traces,t.out.length=t.inn.length):=fun t ht=>(hG.out t (by rw [List.take_of_length_le (by omega)];exact ht)).2
  have hAA:Hid (o.atsErr o.traces.length=0):=by rw [show o.traces.length=k by omega];exact hA
  have HF:=Lib.hid (fitsx hos.traces hgl (by omega))
  clear hA
  clear hG hos
  go_wp2_with fail
  refine (HF.out).mono ?_
  rintro e w2 ⟨v,rfl,hv,hb2⟩
  have hB2:=hB.trans (hb2.mono hz1)
  clear HF hb2 hB o0 o1 hBw
  obtain ⟨⟨o0,o1⟩, -,hBw⟩:=HS.out _ hB2
  cases v with
  |true=>
   have hr:=HE.out.symm.trans (Ob.err_ok HI.out hAA.out (Ob.aps_fit hgl.out (hv.out rfl) _ (Nat.le_refl _)))
   subst hr
   go_wp2
   go_ret
   exact ⟨rfl,hBw⟩
  |false=>
   have hN0:Hid (o.apsErr 0=0):=rfl
   clear hv
   go_wp2
   go_loopw [69] (fun i wr=>∃k:Nat,k≤o.traces.length∧i= .int .i64 k∧Hid (o.apsErr k=0)∧Below w0.heap.size w0 wr) (fun i _=>o.traces.length-(intOf i).toNat)
   case atStart=>exact ⟨0,by omega,rfl,hN0,hB2⟩
   case round=>
    clear hN0 hB2 o0 o1 hBw
    obtain ⟨k,hk,rfl,hN,hB⟩:=hrel
    obtain ⟨w1,rfl⟩:∃w1:World,w1=wr:=⟨_,rfl⟩
    have hz1:=hB.size
    obtain ⟨⟨o0,o1⟩,hos,hBw⟩:=HS.out _ hB
    by_cases hlt:k<o.traces.length
    ·obtain ⟨bT,oT,a1,c1,a2,c2,t,he1,hc1,hc2,ht,hs1,hs2⟩:=hos.traces.at_tr hlt
     have htl:=hs1.le
     have htl2:=hs2.le
     have htg:=Lib.hid (hgl.out t (List.mem_of_getElem? ht.out))
     have hcap:=hos.traces.1
     have HT1:Hid (∀w',Below w1.heap.size w1 w'→Sl M w' a1 c1 t.inn∧Sl M w' a2 c2 t.out):=fun w' hb=>⟨hs1.below hb,hs2.below hb⟩
     subst he1
     have hmf:∀(fn:Fn) (first cap:Array Value) (w:World),(Instr.makeFunc fn first cap).run Tryz.prog w= .ok (.func fn first cap) w:=fun _ _ _ _=>rfl
     have hk1:k+1≤o.traces.length:=hlt
     have hk2:k+1≤c:=by omega
     clear hs1 hs2 hos
     go_upto_region 24 with (fail)
     have hba:=(Below.refl w1.heap.size w1).alloc (Nat.le_refl _) (trO t a1 c1 a2 c2)
     have hX2:T2 (w1.alloc (trO t a1 c1 a2 c2)) w1.heap.size a1 c1 a2 c2 t:=t2_new w1
     have hB2:=hB.trans (hba.mono hz1)
     have hz2:w1.heap.size<(w1.alloc (trO t a1 c1 a2 c2)).heap.size:=by simp
     clear o0 o1 hc1 hc2 hB hBw
     generalize w1.alloc (trO t a1 c1 a2 c2)=w2 at*
     by_cases hck:c=k+1
     ·subst hck
      obtain ⟨⟨o0,o1⟩,hos, -⟩:=HS.out _ hB2
      have hD:Hid (∀w',Below w2.heap.size w2 w'→Sl M w' (some ⟨bT,oT,none⟩) 0 (o.traces.drop (k+1))):=fun w' hb=>by
       have h9:=((HS.out _ (hB2.trans (hb.mono hB2.size))).2.1.traces.dropT hk1)
       unfold dA2 at h9
       rw [if_pos rfl,Nat.sub_self] at h9
       exact h9
      have hdl:Hid (∀u∈o.traces.drop (k+1),u.out.length=u.inn.length):=fun u hu=>hgl.out u (List.mem_of_mem_drop hu)
      have hdn:(o.traces.drop (k+1)).length≤10000:=by rw [List.length_drop];omega
      have HT2:=HT1.out _ hba
      obtain ⟨v,hv1⟩:∃v,((o.traces.drop (k+1)).any fun u=>hasP u.inn t.inn)=v:=⟨_,rfl⟩
      have HC0:=conw1 (hD.out _ (Below.refl _ _)) hX2 HT2.1 HT2.2 hdl htg hdn hv1
      rw [List.length_drop,show o.traces.length-(k+1)=0 by omega] at HC0
      have HC:=Lib.hid HC0
      obtain ⟨x0,x1⟩:=hX2
      clear HC0 hos HT2 hdn
      go_wp2_with fail
      refine (HC.out).mono ?_
      rintro e w3 ⟨rfl,hb3⟩
      have hB3:=hB2.trans (hb3.mono hB2.size)
      have hX3:T2 w3 w1.heap.size a1 c1 a2 c2 t:=T2.below ⟨x0,x1⟩ hb3 hz2
      clear HC o0 o1 x0 x1
      obtain ⟨⟨o0,o1⟩, -,hBw⟩:=HS.out _ hB3
      cases v with
      |true=>
       have hr:=HE.out.symm.trans (Ob.err_ap HI.out hAA.out hlt hN.out (Ob.apE_7 ht.out hv1) (by decide))
       subst hr
       go_wp2
       go_ret
       exact ⟨rfl,hBw⟩
      |false=>
       have hb13:=hba.trans (hb3.mono (by omega))
       have HT3:=HT1.out _ hb13
       have hdn:(o.traces.drop (k+1)).length≤10000:=by rw [List.length_drop];omega
       have HV1:=Lib.hid hv1
       clear hv1
       obtain ⟨v,hv2⟩:∃v,((o.traces.drop (k+1)).any fun u=>decide (0≤difT t u))=v:=⟨_,rfl⟩
       have HC0:=conw2 (hD.out _ hb3) hX3 HT3.1 HT3.2 hdl htg hdn hv2
       rw [List.length_drop,show o.traces.length-(k+1)=0 by omega] at HC0
       have HC:=Lib.hid HC0
       obtain ⟨x0,x1⟩:=hX3
       clear HC0 HT3 hb3 hB2 hz2 hdn
       go_wp2_with fail
       refine (HC.out).mono ?_
       rintro e w4 ⟨rfl,hb4⟩
       have hB4:=hB3.trans (hb4.mono hB3.size)
       clear HC o0 o1 x0 x1 hBw
       obtain ⟨⟨o0,o1⟩, -,hBw⟩:=HS.out _ hB4
       cases v with
       |true=>
        have hr:=HE.out.symm.trans (Ob.err_ap HI.out hAA.out hlt hN.out ((Ob.apE_c ht.out HV1.out).trans (if_pos hv2)) (by decide))
        subst hr
        go_wp2
        go_ret
        exact ⟨rfl,hBw⟩
       |false=>
        have hN2:Hid (o.apsErr (k+1)=0):=Ob.aps_next hN.out ((Ob.apE_c ht.out HV1.out).trans (if_neg (by simp [hv2])))
        clear hv2 hN hD hdl hb4 hB3
        go_wp2
        go_roundw
        case rel=>exact ⟨k+1,by omega,by go_num,hN2,hB4⟩
        case measure=>simp [intOf];omega
     obtain ⟨⟨o0,o1⟩,hos, -⟩:=HS.out _ hB2
     have hD:Hid (∀w',Below w2.heap.size w2 w'→Sl M w' (some ⟨bT,oT+(k+1)*2,none⟩) (c-(k+1)) (o.traces.drop (k+1))):=fun w' hb=>by
      have h9:=((HS.out _ (hB2.trans (hb.mono hB2.size))).2.1.traces.dropT hk1)
      unfold dA2 at h9
      rw [if_neg hck,Option.map_some,adT_flat] at h9
      exact h9
     have hdl:Hid (∀u∈o.traces.drop (k+1),u.out.length=u.inn.length):=fun u hu=>hgl.out u (List.mem_of_mem_drop hu)
     have hdn:(o.traces.drop (k+1)).length≤10000:=by rw [List.length_drop];omega
     have HT2:=HT1.out _ hba
     obtain ⟨v,hv1⟩:∃v,((o.traces.drop (k+1)).any fun u=>hasP u.inn t.inn)=v:=⟨_,rfl⟩
     have HC0:=conw1 (hD.out _ (Below.refl _ _)) hX2 HT2.1 HT2.2 hdl htg hdn hv1
     rw [List.length_drop] at HC0
     have HC:=Lib.hid HC0
     obtain ⟨x0,x1⟩:=hX2
     clear HC0 hos HT2 hdn
     go_wp2_with fail
     refine (HC.out).mono ?_
     rintro e w3 ⟨rfl,hb3⟩
     have hB3:=hB2.trans (hb3.mono hB2.size)
     have hX3:T2 w3 w1.heap.size a1 c1 a2 c2 t:=T2.below ⟨x0,x1⟩ hb3 hz2
     clear HC o0 o1 x0 x1
     obtain ⟨⟨o0,o1⟩, -,hBw⟩:=HS.out _ hB3
     cases v with
     |true=>
      have hr:=HE.out.symm.trans (Ob.err_ap HI.out hAA.out hlt hN.out (Ob.apE_7 ht.out hv1) (by decide))
      subst hr
      go_wp2
      go_ret
      exact ⟨rfl,hBw⟩
     |false=>
      have hb13:=hba.trans (hb3.mono (by omega))
      have HT3:=HT1.out _ hb13
      have hdn:(o.traces.drop (k+1)).length≤10000:=by rw [List.length_drop];omega
      have HV1:=Lib.hid hv1
      clear hv1
      obtain ⟨v,hv2⟩:∃v,((o.traces.drop (k+1)).any fun u=>decide (0≤difT t u))=v:=⟨_,rfl⟩
      have HC0:=conw2 (hD.out _ hb3) hX3 HT3.1 HT3.2 hdl htg hdn hv2
      rw [List.length_drop] at HC0
      have HC:=Lib.hid HC0
      obtain ⟨x0,x1⟩:=hX3
      clear HC0 HT3 hb3 hB2 hz2 hdn
      go_wp2_with fail
      refine (HC.out).mono ?_
      rintro e w4 ⟨rfl,hb4⟩
      have hB4:=hB3.trans (hb4.mono hB3.size)
      clear HC o0 o1 x0 x1 hBw
      obtain ⟨⟨o0,o1⟩, -,hBw⟩:=HS.out _ hB4
      cases v with
      |true=>
       have hr:=HE.out.symm.trans (Ob.err_ap HI.out hAA.out hlt hN.out ((Ob.apE_c ht.out HV1.out).trans (if_pos hv2)) (by decide))
       subst hr
       go_wp2
       go_ret
       exact ⟨rfl,hBw⟩
      |false=>
       have hN2:Hid (o.apsErr (k+1)=0):=Ob.aps_next hN.out ((Ob.apE_c ht.out HV1.out).trans (if_neg (by simp [hv2])))
       clear hv2 hN hD hdl hb4 hB3
       go_wp2
       go_roundw
       case rel=>exact ⟨k+1,by omega,by go_num,hN2,hB4⟩
       case measure=>simp [intOf];omega
    have hr:=HE.out.symm.trans (Ob.err_ok HI.out hAA.out (by rw [show o.traces.length=k by omega];exact hN.out))
    subst hr
    go_wp2
    go_ret
    exact ⟨rfl,hBw⟩
end
end Go.Proofs.YtjmbphjgiodioaaGreatDoor
namespace Go.Proofs.YtjmbphjgiodioaaGreatDoor
open Go.RowKit
theorem Dn.kd_ge {x:Dn} {n k j:Nat} {u y:List Int} (h:fstE (x.kdErr n) k=0) (hj:j<k) (hk:k<x.outs.length) (hu:x.outs[j]? =some u) (hy:x.outs[k]? =some y) (h1:outErr y x.suf=0) (hz:0≤lexW u y):x.kdErr n k=10:=by
 obtain ⟨q,rfl⟩:∃q,k=q+1:=⟨k-1,by omega⟩
 have hp:x.outs[q]? =some x.outs[q]:=List.getElem?_eq_getElem (by omega)
 refine Dn.kd_x hp hy h1 ?_
 by_cases e:j=q
 ·subst e
  rw [hp] at hu
  rw [Option.some.inj hu];exact hz
 by_cases e2:0≤lexW x.outs[q] y
 ·exact e2
 have h2:=Dn.kd_asc h j q (by omega) (by omega)
 rw [gd_of hu,gd_of hp] at h2
 have:=tot_lex.lt_trans h2 (show lexW x.outs[q] y<0 by omega)
 omega
section
variable {M M':Nat→Prop} {w:World} {a b:Option Addr} {c d:Nat}
theorem lexR_is {xs ys:List Int} (h1:Sl M w a c xs) (h2:Sl M' w b d ys) {v:Int} (hv:lexW xs ys=v):Calls Tryz.prog 125 #[.slice a xs.length c,.slice b ys.length d] w fun e w'=>e= .returned (.int .i64 v)∧∃n,w'=w.drewN n:=
 (lexR_any (flz h1) (flz h2)).mono fun e w' k=>⟨by rw [k.1,hv],k.2.out⟩
theorem outputs_any {o s:List Int} (ho:Sl M w a c o) (hs:Sl M' w b d s) {er:Int} (her:outErr o s=er):
    Calls Tryz.prog 196 #[.slice a o.length c,.slice b s.length d] w fun e w'=>e= .returned (.int .i64 er)∧w'=w:=by
 have l1:=ho.le
 have l2:=hs.le
 by_cases hl:o.length=s.length
 rotate_left
 ·have hlb:(((o.length:Nat):Int) !=((s.length:Nat):Int))=true:=by simp;omega
  have hr:=her.symm.trans (oe_1 hl)
  clear hl her
  subst hr
  go_enter Tryz.func196,Tryz.ntmps196
  go_wp2
  go_ret
  exact ⟨rfl,rfl⟩
 have hlb:(((o.length:Nat):Int) !=((s.length:Nat):Int))=false:=by simp [hl]
 have HL:=Lib.hid hl
 have HE:=Lib.hid her
 have hN0:Hid (∀u∈o.take 0,badB u=false):=fun y hy=>by simp at hy
 clear hl hs her
 go_enter Tryz.func196,Tryz.ntmps196
 go_wp2
 go_loop [5] (fun i=>∃j:Nat,j≤o.length∧i= .int .i64 j∧Hid (∀u∈o.take j,badB u=false)) (fun i=>o.length-(intOf i).toNat)
 case atStart=>exact ⟨0,by omega,rfl,hN0⟩
 case round=>
  clear hN0
  obtain ⟨j,hj,rfl,hN⟩:=hrel
  by_cases hlt:j<o.length
  ·obtain ⟨b0,o0,x,rfl,hxc,hx, -⟩:=ho.at_int hlt
   by_cases h1:x<0
   ·have hr:=HE.out.symm.trans (oe_2 HL.out (List.any_eq_true.2 ⟨x,List.mem_of_getElem? hx.out,by unfold badB;simp [h1]⟩))
    subst hr
    go_wp2
    go_ret
    exact ⟨rfl,rfl⟩
   by_cases h2:1048576<x
   ·have hr:=HE.out.symm.trans (oe_2 HL.out (List.any_eq_true.2 ⟨x,List.mem_of_getElem? hx.out,by unfold badB;simp [h2]⟩))
    subst hr
    go_wp2
    go_ret
    exact ⟨rfl,rfl⟩
   have hN2 : Hid (∀ u ∈ o.take (j + 1), badB u = false) := fun y hy => by
    rw [List.take_add_one,hx.out] at hy
    rcases List.mem_append.1 hy with hy|hy
    ·exact hN.out y hy
    have:y=x:=by simpa using hy
    subst this;unfold badB;simp [h1,h2]
   clear hN
   go_wp2
   go_round
   case rel=>exact ⟨j+1,by omega,by go_num,hN2⟩
   case measure=>simp [intOf];omega
  have hr:=HE.out.symm.trans (oe_0 HL.out (List.any_eq_false.2 fun y hy=>by simp [hN.out y (by rw [List.take_of_length_le (by omega)];exact hy)]))
  subst hr
  go_wp2
  go_ret
  exact ⟨rfl,rfl⟩
theorem ending_0 (a:Option Addr) (c:Nat) (w:World):Calls Tryz.prog 195 #[.slice a 0 c] w fun e w'=>e= .returned (.int .i64 19)∧w'=w:=by
 go_enter Tryz.func195,Tryz.ntmps195
 go_wp2
 go_ret
 exact ⟨rfl,rfl⟩
theorem ending_s {l:List Int} (hs:Sl M w a c l) {m:Nat} (hm:l.length=m+1) {v:Int} (hv:wErr l 64=v):Calls Tryz.prog 195 #[.slice a (m+1) c] w fun e w'=>e= .returned (.int .i64 v)∧w'=w:=by
 have hl:=hs.le
 have HC0:=chkR_is hs hv
 rw [hm] at HC0 hl
 have HC:=Lib.hid HC0
 clear HC0 hm hs hv
 go_enter Tryz.func195,Tryz.ntmps195
 go_wp2_with fail
 refine (HC.out).mono ?_
 rintro e w1 ⟨rfl,hw1⟩
 obtain rfl:w=w1:=hw1.symm
 go_wp2
 go_ret
 exact ⟨rfl,rfl⟩
theorem node_any {A:Nad} {x:Dn} (hN:NdL M w A x) {n:Nat} {er:Int} (her:x.err n=er):
    Calls Tryz.prog 131 #[.agg #[.slice a n c],dnV x A] w fun e w'=>e= .returned (.int .i64 er)∧Below w.heap.size w w':=by
 have hb00:=(Below.refl w.heap.size w).alloc (Nat.le_refl _) (.cells #[.slice a n c] 32)
 have hB0:=hb00.alloc (by simp) (dnO x A)
 have hz9:(w.alloc (.cells #[.slice a n c] 32)).heap.size=w.heap.size+1:=by simp
 have hx0:D5 ((w.alloc (.cells #[.slice a n c] 32)).alloc (dnO x A)) (w.heap.size+1) 0 x A:=by rw [←hz9];exact d5_new _ x A
 have ht0:((w.alloc (.cells #[.slice a n c] 32)).alloc (dnO x A)).cell? ⟨w.heap.size,0,none⟩=some (.slice a n c):=by simp
 have hz0:w.heap.size+1<((w.alloc (.cells #[.slice a n c] 32)).alloc (dnO x A)).heap.size:=by simp
 have HE:=Lib.hid her
 have HN0:=Lib.hid (hN.below hB0)
 clear hN her hz9 hb00
 go_enter Tryz.func131,Tryz.ntmps131
 go_upto_region 1 with (fail)
 generalize (w.alloc (.cells #[.slice a n c] 32)).alloc (dnO x A)=w0 at*
 obtain ⟨a1,c1,a2,c2,a3,c3,a4,c4⟩:=A
 obtain ⟨na,hna⟩:∃n,x.acc.length=n:=⟨_,rfl⟩
 obtain ⟨ns,hns⟩:∃n,x.suf.length=n:=⟨_,rfl⟩
 obtain ⟨no,hno⟩:∃n,x.outs.length=n:=⟨_,rfl⟩
 obtain ⟨nk,hnk⟩:∃n,x.kids.length=n:=⟨_,rfl⟩
 have l1:=HN0.out.acc.le
 have l2:=HN0.out.suf.le
 have l3:=HN0.out.outs.le
 have l4:=HN0.out.kids.le
 have HNA:=Lib.hid hna
 have HNS:=Lib.hid hns
 have HNO:=Lib.hid hno
 have HNK:=Lib.hid hnk
 have HS:Hid (∀w',Below w0.heap.size w0 w'→(w'.cell? ⟨w.heap.size+1,1,none⟩=some (.slice a1 na c1)∧w'.cell? ⟨w.heap.size+1,2,none⟩=some (.slice a2 ns c2)∧w'.cell? ⟨w.heap.size+1,3,none⟩=some (.slice a3 no c3)∧w'.cell? ⟨w.heap.size+1,4,none⟩=some (.slice a4 nk c4)∧w'.cell? ⟨w.heap.size,0,none⟩=some (.slice a n c))∧
     (Sl (fun _=>False) w' a1 c1 x.acc∧Sl (fun _=>False) w' a2 c2 x.suf∧Sl (fun _=>False) w' a3 c3 x.outs∧Sl (fun _=>False) w' a4 c4 x.kids)∧Below w.heap.size w w'):=fun w' hb=>by
  have h9:=hx0.below hb hz0
  rw [←hna,←hns,←hno,←hnk]
  exact ⟨⟨h9.2.1,h9.2.2.1,h9.2.2.2.1,h9.2.2.2.2,(hb.cell (p:=⟨w.heap.size,0,none⟩) (by show w.heap.size<w0.heap.size;omega)).trans ht0⟩,⟨flz (HN0.out.below hb).acc,flz (HN0.out.below hb).suf,flz (HN0.out.below hb).outs,flz (HN0.out.below hb).kids⟩,hB0.trans (hb.mono (by omega))⟩
 have x0:w0.cell? ⟨w.heap.size+1,0,none⟩=some (.bool x.leaf):=hx0.1
 obtain ⟨lf,hlf⟩:∃b,x.leaf=b:=⟨_,rfl⟩
 rw [hlf] at x0
 rw [hna] at l1
 rw [hns] at l2
 rw [hno] at l3
 rw [hnk] at l4
 clear hna hns hno hnk hx0 HN0 hB0 ht0
 have hb0:=Below.refl w0.heap.size w0
 obtain ⟨⟨x1,x2,x3,x4,x5⟩,⟨s1, -, -, -⟩,hBw⟩:=HS.out _ hb0
 have HL:=Lib.hid hlf
 clear hlf
 cases lf with
 |true=>
  cases ns with
  |succ m=>
   have hr:=HE.out.symm.trans (Dn.err_l1 HL.out (by rw [HNS.out];omega))
   clear s1
   subst hr
   go_wp2
   go_ret
   exact ⟨rfl,hBw⟩
  |zero=>
  cases no with
  |succ m=>
   have hr:=HE.out.symm.trans (Dn.err_l1 HL.out (by rw [HNO.out];omega))
   clear s1
   subst hr
   go_wp2
   go_ret
   exact ⟨rfl,hBw⟩
  |zero=>
  cases nk with
  |succ m=>
   have hr:=HE.out.symm.trans (Dn.err_l1 HL.out (by rw [HNK.out];omega))
   clear s1
   subst hr
   go_wp2
   go_ret
   exact ⟨rfl,hBw⟩
  |zero=>
  have HC0:=chkR_is s1 (HE.out.symm.trans (Dn.err_l HL.out (by rw [HNS.out,HNO.out,HNK.out];omega))).symm
  rw [HNA.out] at HC0
  have HC:=Lib.hid HC0
  clear HC0 s1
  go_wp2_with fail
  refine (HC.out).mono ?_
  rintro e w1 ⟨rfl,hw1⟩
  obtain rfl:w0=w1:=hw1.symm
  go_wp2
  go_ret
  exact ⟨rfl,hBw⟩
 |false=>
 clear s1
 cases na with
 |succ m=>
  have hr:=HE.out.symm.trans (Dn.err_a HL.out (by rw [HNA.out];omega))
  subst hr
  go_wp2
  go_ret
  exact ⟨rfl,hBw⟩
 |zero=>
 have hA0:Hid (¬0<x.acc.length):=by unfold Hid;rw [HNA.out];omega
 cases ns with
 |zero=>
  have hr:=HE.out.symm.trans (Dn.err_s HL.out hA0.out HNS.out)
  subst hr
  go_wp2_with fail
  refine (ending_0 _ _ _).mono ?_
  rintro e w1 ⟨rfl,hw1⟩
  obtain rfl:w0=w1:=hw1.symm
  go_wp2
  go_ret
  exact ⟨rfl,hBw⟩
 |succ m=>
 have hS0:Hid (¬x.suf.length=0):=by unfold Hid;rw [HNS.out];omega
 obtain ⟨we,hwe⟩:∃v,wErr x.suf 64=v:=⟨_,rfl⟩
 have HC:=Lib.hid (ending_s (HS.out _ hb0).2.1.2.1 HNS.out hwe)
 have HW:=Lib.hid hwe
 clear hwe
 go_wp2_with fail
 refine (HC.out).mono ?_
 rintro e w1 ⟨rfl,hw1⟩
 obtain rfl:w0=w1:=hw1.symm
 clear HC
 by_cases hw0:we=0
 rotate_left
 ·have hwb:(we !=0)=true:=by simp [hw0]
  have hr:=HE.out.symm.trans (Dn.err_w HL.out hA0.out hS0.out HW.out hw0)
  clear hw0
  subst hr
  go_wp2
  go_ret
  exact ⟨rfl,hBw⟩
 have hwb:(we !=0)=false:=by simp [hw0]
 have HW0:Hid (wErr x.suf 64=0):=HW.out.trans hw0
 clear hw0 HW
 by_cases h4:no=nk
 rotate_left
 ·have hnb:(((no:Nat):Int) !=((nk:Nat):Int))=true:=by simp;omega
  have hr:=HE.out.symm.trans (Dn.err_o HL.out hA0.out hS0.out HW0.out (by rw [HNO.out,HNK.out];exact h4))
  clear h4
  subst hr
  go_wp2
  go_ret
  exact ⟨rfl,hBw⟩
 subst h4
 have hEK:=Lib.hid (HE.out.symm.trans (Dn.err_k HL.out hA0.out hS0.out HW0.out (HNO.out.trans HNK.out.symm)))
 have hF0:Hid (fstE (x.kdErr n) 0=0):=rfl
 clear HE hBw
 go_wp2
 go_loopw [6] (fun i wr=>∃k:Nat,k≤no∧i= .int .i64 k∧Hid (fstE (x.kdErr n) k=0)∧Below w0.heap.size w0 wr) (fun i _=>no-(intOf i).toNat)
 case atStart=>exact ⟨0,by omega,rfl,hF0,hb0⟩
 case round=>
  clear hF0 hb0 x0 x1 x2 x3 x4 x5
  obtain ⟨k,hk,rfl,hF,hB⟩:=hrel
  obtain ⟨wo,rfl⟩:∃wo:World,wo=wr:=⟨_,rfl⟩
  obtain ⟨⟨x1,x2,x3,x4,x5⟩,⟨-,s2,s3,s4⟩,hBw⟩:=HS.out _ hB
  by_cases hlt:k<no
  ·have hlk:k<x.kids.length:=by rw [HNK.out];exact hlt
   have hlo:k<x.outs.length:=by rw [HNO.out];exact hlt
   obtain ⟨b3,o3,ao,y,co,rfl,hco,hy,hsy⟩:=s3.at_row hlo
   obtain ⟨b4,o4,kk,rfl,hck,hkk,hki⟩:=s4.at_int hlk
   have hyl:=hsy.le
   obtain ⟨oe,hoe⟩:∃v,outErr y x.suf=v:=⟨_,rfl⟩
   have HC:Hid (∀q,Calls Tryz.prog 196 #[.slice ao y.length co,.slice a2 (m+1) c2] (wo.drewN q) fun e w''=>e= .returned (.int .i64 oe)∧w''=wo.drewN q):=fun q=>by
    have HC0:=outputs_any (hsy.drewN q) (s2.drewN q) hoe
    rw [HNS.out] at HC0;exact HC0
   have HO:=Lib.hid hoe
   have HY:=Lib.hid hsy
   have HS3:=Lib.hid s3
   clear hoe hsy s2 s3 s4
   go_wp2
   refine wp_quiet_fast (by kernel_rfl) (by kernel_rfl) ?_
   repeat (first|go_big_quiet_step ((go_at_call 196;exact Calls.quiet_of_same (HC.out _)))|quiet_step ((go_at_call 196;exact Calls.quiet_of_same (HC.out _))))
   refine wpQuiet_nil ?_
   intro _ hw'
   obtain ⟨nq,hw''⟩:=hw'
   subst hw''
   have hB1:=bl_drewN hB nq
   have hco1:(wo.drewN nq).cell? ⟨b3,o3+k,none⟩=some (.slice ao y.length co):=hco
   have hck1:(wo.drewN nq).cell? ⟨b4,o4+k,none⟩=some (.int .i64 kk):=hck
   have HY1:=Lib.hid (HY.out.drewN nq)
   have HS31:=Lib.hid (HS3.out.drewN nq)
   clear x1 x2 x3 x4 x5 hBw hB hco hck HY HS3 HC
   obtain ⟨w1,hw1⟩:∃w1,w1=wo.drewN nq:=⟨_,rfl⟩
   rw [←hw1] at hB1 hco1 hck1 HY1 HS31 ⊢
   clear hw1
   obtain ⟨⟨x1,x2,x3,x4,x5⟩, -,hBw⟩:=HS.out _ hB1
   by_cases ho0:oe=0
   rotate_left
   ·have hob:(oe !=0)=true:=by simp [ho0]
    have hr:=hEK.out.trans (fst_hit hlk hF.out (Dn.kd_o hy.out HO.out ho0) ho0)
    clear ho0
    subst hr
    go_wp2
    go_ret
    exact ⟨rfl,hBw⟩
   have hob:(oe !=0)=false:=by simp [ho0]
   have HO0:Hid (outErr y x.suf=0):=HO.out.trans ho0
   have hJ0:Hid (∀j u,j<0→x.outs[j]? =some u→lexW u y<0):=fun j u hj=>by omega
   have hb11:=Below.refl w1.heap.size w1
   clear ho0 HO
   go_wp2
   go_loopw [8] (fun i wr=>∃j:Nat,j≤k∧i= .int .i64 j∧Hid (∀j' u,j'<j→x.outs[j']? =some u→lexW u y<0)∧Below w1.heap.size w1 wr) (fun i _=>k-(intOf i).toNat)
   case atStart=>exact ⟨0,by omega,rfl,hJ0,hb11⟩
   case round=>
    clear hJ0 hb11 x1 x2 x3 x4 x5 hBw
    obtain ⟨j,hj,rfl,hJ,hb2⟩:=hrel
    obtain ⟨w2,rfl⟩:∃w2:World,w2=wr:=⟨_,rfl⟩
    have hB2:=hB1.trans (hb2.mono hB1.size)
    obtain ⟨⟨x1,x2,x3,x4,x5⟩, -,hBw⟩:=HS.out _ hB2
    have hco2:=(hb2.cell (p:=⟨b3,o3+k,none⟩) (lt_of_cell hco1)).trans hco1
    have hck2:=(hb2.cell (p:=⟨b4,o4+k,none⟩) (lt_of_cell hck1)).trans hck1
    by_cases hjk:j<k
    ·obtain ⟨b5,o5,au,u,cu,he,hcu,hu,hsu⟩:=(HS31.out.below hb2).at_row (show j<x.outs.length by omega)
     simp only [Option.some.injEq,Addr.mk.injEq,and_true] at he
     obtain ⟨rfl,rfl⟩:=he
     have hul:=hsu.le
     have hjn:j<no:=by omega
     obtain ⟨z,hz9⟩:∃z,lexW u y=z:=⟨_,rfl⟩
     have HC:=Lib.hid (fun q=>lexR_is (hsu.drewN q) ((HY1.out.below hb2).drewN q) hz9)
     have HZ:=Lib.hid hz9
     clear hsu hz9
     go_wp2
     refine wp_quiet_fast (by kernel_rfl) (by kernel_rfl) ?_
     repeat (first|go_big_quiet_step ((go_at_call 125;exact Calls.quiet_of (HC.out _)))|quiet_step ((go_at_call 125;exact Calls.quiet_of (HC.out _))))
     refine wpQuiet_nil ?_
     intro _ hw'
     obtain ⟨nq,hw''⟩:=hw'
     subst hw''
     have hb3:=bl_drewN hb2 nq
     have hBw3:=bl_drewN hBw nq
     by_cases hzn:0≤z
     ·have hzd:decide (0≤z)=true:=decide_eq_true hzn
      have hr:=hEK.out.trans (fst_hit hlk hF.out (Dn.kd_ge hF.out hjk hlo hu.out hy.out HO0.out (by rw [HZ.out];exact hzn)) (by decide))
      subst hr
      go_wp2
      go_ret
      exact ⟨rfl,hBw3⟩
     have hzd:decide (0≤z)=false:=decide_eq_false hzn
     have hJ2:Hid (∀j' u,j'<j+1→x.outs[j']? =some u→lexW u y<0):=fun j' u' hj' hu'=>by
      by_cases e:j'=j
      ·subst e
       have:=hu.out.symm.trans hu'
       simp only [Option.some.injEq] at this
       rw [←this,HZ.out];omega
      exact hJ.out j' u' (by omega) hu'
     clear hJ
     go_wp2
     go_roundw
     case rel=>exact ⟨j+1,by omega,by go_num,hJ2,hb3⟩
     case measure=>simp [intOf];omega
    have HP := Lib.hid (Dn.kd_k (n := n) hy.out hkk.out HO0.out (by
     by_cases e:k=0
     ·exact .inl e
     refine .inr ⟨x.outs[k-1],List.getElem?_eq_getElem (by omega),?_⟩
     have:=hJ.out (k-1) _ (by omega) (List.getElem?_eq_getElem (by omega))
     omega))
    clear hJ
    by_cases hk1:kk<0
    ·have hr:=hEK.out.trans (fst_hit hlk hF.out (HP.out.trans (if_pos (.inl hk1))) (by decide))
     subst hr
     go_wp2
     refine wp_quiet_fast (by kernel_rfl) (by kernel_rfl) ?_
     repeat (first|go_big_quiet_step (fail)|quiet_step (fail))
     refine wpQuiet_nil ?_
     intro _ hw'
     obtain ⟨nq,hw''⟩:=hw'
     subst hw''
     have hBw3:=bl_drewN hBw nq
     go_wp2
     go_ret
     exact ⟨rfl,hBw3⟩
    by_cases hk2:(n:Int)≤kk
    ·have hr:=hEK.out.trans (fst_hit hlk hF.out (HP.out.trans (if_pos (.inr hk2))) (by decide))
     subst hr
     go_wp2
     refine wp_quiet_fast (by kernel_rfl) (by kernel_rfl) ?_
     repeat (first|go_big_quiet_step (fail)|quiet_step (fail))
     refine wpQuiet_nil ?_
     intro _ hw'
     obtain ⟨nq,hw''⟩:=hw'
     subst hw''
     have hBw3:=bl_drewN hBw nq
     go_wp2
     go_ret
     exact ⟨rfl,hBw3⟩
    have hF2:Hid (fstE (x.kdErr n) (k+1)=0):=fst_next hF.out (HP.out.trans (if_neg (fun h=>h.elim hk1 hk2)))
    clear hF HP
    go_wp2
    refine wp_quiet_fast (by kernel_rfl) (by kernel_rfl) ?_
    repeat (first|go_big_quiet_step (fail)|quiet_step (fail))
    refine wpQuiet_nil ?_
    intro _ hw'
    obtain ⟨nq,hw''⟩:=hw'
    subst hw''
    have hB3:=bl_drewN hB2 nq
    go_wp2
    go_roundw
    case rel=>exact ⟨k+1,by omega,by go_num,hF2,hB3⟩
    case measure=>simp [intOf];omega
  have hr:=hEK.out.trans ((congrArg (fstE (x.kdErr n)) (show x.kids.length=k by rw [HNK.out];omega)).trans hF.out)
  subst hr
  go_wp2
  go_ret
  exact ⟨rfl,hBw⟩
end
structure WI (N:List Dn) (q:List Int) (k:Nat):Prop where
 le:k≤q.length
 fix:q=lev N (q.take k)
 nodup:q.Nodup
 rng:∀x∈q,0≤x∧x<N.length
 pre:∀L,L=lev N L→q<+:L
 gen:∀i,i<k→i<(lev N (q.take i)).length
theorem WI.start {N:List Dn} (h:0<N.length):WI N [0] 0:=
 ⟨by simp,by simp [lev],by simp,fun x hx=>by simp at hx;subst hx;omega,fun L hL=>by rw [hL];exact ⟨_,by unfold lev;rfl⟩,fun i hi=>by omega⟩
theorem WI.top {N:List Dn} {q:List Int} {k:Nat} (h:WI N q k):q.length≤N.length:=nodup_le _ _ h.nodup h.rng
structure WJ (N:List Dn) (q ks l:List Int) (j:Nat):Prop where
 eq:l=q++ks.take j
 nodup:l.Nodup
 rng:∀x∈l,0≤x∧x<N.length
theorem WJ.top {N:List Dn} {q ks l:List Int} {j:Nat} (h:WJ N q ks l j):l.length≤N.length:=nodup_le _ _ h.nodup h.rng
theorem WI.all {N:List Dn} {q ks:List Int} {k:Nat} {t:Int} (h:WI N q k) (ht:q[k]? =some t) (hks:kidsAt N t=ks) {L:List Int} (hL:L=lev N L):q++ks<+:L:=by
 have e2:lev N (q.take (k+1))=q++ks:=by rw [lev_succ ht,←h.fix,hks]
 have h1:=lev_mono (l:=N) ((List.take_prefix (k+1) q).trans (h.pre L hL))
 rw [e2,←hL] at h1
 exact h1
theorem WI.next {N:List Dn} {q ks l:List Int} {k:Nat} {t:Int} (h:WI N q k) (ht:q[k]? =some t) (hks:kidsAt N t=ks) (hj:WJ N q ks l ks.length):WI N l (k+1):=by
 have hk:k<q.length:=by
  by_cases e:k<q.length
  ·exact e
  rw [List.getElem?_eq_none (by omega)] at ht;cases ht
 have hl:l=q++ks:=by rw [hj.eq,List.take_length]
 have e1:l.take (k+1)=q.take (k+1):=by rw [hl];exact List.take_append_of_le_length (by omega)
 have e2:lev N (q.take (k+1))=q++ks:=by rw [lev_succ ht,←h.fix,hks]
 refine ⟨by rw [hl,List.length_append];omega,by rw [e1,e2,hl],hj.nodup,hj.rng,fun L hL=>by rw [hl];exact h.all ht hks hL,fun i hi=> ?_⟩
 have e3:l.take i=q.take i:=by rw [hl];exact List.take_append_of_le_length (by omega)
 rw [e3]
 by_cases e:i=k
 ·subst e;rw [←h.fix];exact hk
 exact h.gen i (by omega)
theorem WI.twice {N:List Dn} {q ks l:List Int} {k j:Nat} {t y:Int} (h:WI N q k) (ht:q[k]? =some t) (hks:kidsAt N t=ks) (hj:WJ N q ks l j) (hy:ks[j]? =some y) (hm:y∈l):¬oneP N:=by
 rintro ⟨L,h1,h2, -, -⟩
 have hp:l++[y]<+:q++ks:=by
  have e:l++[y]=q++ks.take (j+1):=by rw [hj.eq,List.take_add_one,hy,Option.toList,List.append_assoc]
  rw [e]
  exact (List.prefix_append_right_inj q).2 (List.take_prefix _ _)
 have h3:=h2.sublist (hp.trans (h.all ht hks h1)).sublist
 rw [List.nodup_append] at h3
 exact h3.2.2 y hm y (by simp) rfl
theorem WJ.next {N:List Dn} {q ks l:List Int} {j:Nat} {y:Int} (h:WJ N q ks l j) (hy:ks[j]? =some y) (hr:0≤y∧y<N.length) (hm:y∉l):WJ N q ks (l++[y]) (j+1):=by
 refine ⟨by rw [h.eq,List.take_add_one,hy,Option.toList,List.append_assoc],?_,fun x hx=> ?_⟩
 ·rw [List.nodup_append]
  exact ⟨h.nodup,by simp,fun a ha b hb e=>by simp at hb;subst hb;subst e;exact hm ha⟩
 rcases List.mem_append.1 hx with hx|hx
 ·exact h.rng x hx
 simp at hx;subst hx;exact hr
theorem WI.end {N:List Dn} {q:List Int} {k:Nat} (h:WI N q k) (hk:¬k<q.length):oneP N↔q.length=N.length:=by
 have hkq:k=q.length:=by have:=h.le;omega
 subst hkq
 have hf:q=lev N q:=by have:=h.fix;rwa [List.take_length] at this
 constructor
 ·rintro ⟨L,h1, -,h3,h4⟩
  have:=lev_end hf h1 h4 (h.pre L h1)
  rw [←this];exact h3
 intro e
 exact ⟨q,hf,h.nodup,e,h.gen⟩
section
variable {M:Nat→Prop} {w:World} {a:Option Addr} {c:Nat} {N:List Dn}
theorem whole_any (hs:Sl M w a c N) (hN0:0<N.length) (hN:N.length≤4096) (hk:Hid (∀x∈N,∀k∈x.kids,0≤k∧k<N.length)):
    Calls Tryz.prog 132 #[.agg #[.slice a N.length c]] w (ConR N w):=by
 have hB0:=(Below.refl w.heap.size w).alloc (Nat.le_refl _) (.cells #[.slice a N.length c] 32)
 have hx0:(w.alloc (.cells #[.slice a N.length c] 32)).cell? ⟨w.heap.size,0,none⟩=some (.slice a N.length c):=by simp
 have hz0:(w.alloc (.cells #[.slice a N.length c] 32)).heap.size=w.heap.size+1:=by simp
 have HT:=Lib.hid (hs.below hB0)
 have HW:=Lib.hid (flz hs)
 have hC0:=Lib.hid (WI.start (N:=N) hN0)
 clear hs
 go_enter Tryz.func132,Tryz.ntmps132
 go_upto_region 1 with (fail)
 generalize w.alloc (.cells #[.slice a N.length c] 32)=w0 at*
 have HS:Hid (∀w',Below (w.heap.size+1) w0 w'→w'.cell? ⟨w.heap.size,0,none⟩=some (.slice a N.length c)∧Sl (fun _=>False) w' a c N∧Below w.heap.size w w'):=fun w' hb=>⟨(hb.cell (p:=⟨w.heap.size,0,none⟩) (by show w.heap.size<w.heap.size+1;omega)).trans hx0,flz (HT.out.below (by rw [hz0];exact hb)),hB0.trans (hb.mono (by omega))⟩
 clear HT hB0
 go_wp2_with (at_make;refine wpList_mk_b (B:=w.heap.size+1) (n:=N.length) rfl rfl Tryz.underlying256 info_bool rfl (by omega) (by omega) ?_)
 intro g c1 b w2 hb hO hb2 hg
 have hB2:Below (w.heap.size+1) w0 w2:=hb2.mono (by omega)
 have hbl:Hid (b.length=N.length):=by unfold Hid;rw [hb.out,List.length_replicate]
 have hMk:Hid (Marks N.length [(0:Int)] (b.set 0 true)):=Marks.init hb.out hN0
 have hb0l:0<b.length:=by have:=hbl.out;omega
 obtain ⟨g',y0,hg',hyc,hyf, -⟩:=hO.at_bool hb0l
 obtain rfl:g=g':=by simpa using hg'
 have hglt:=(hO.lt g rfl).2
 have hO3:=(hO.set_bool rfl (show w.heap.size+1≤g by omega) true 0).alloc (.cells #[.int .i64 0] 3)
 have hN3:Ow (g+1) (fun k=>g+1≤k) ((w2.setCell ⟨g,0,none⟩ (.bool true)).alloc (.cells #[.int .i64 0] 3)) 3 (.slice (some ⟨w2.heap.size,0,none⟩) 1 1) [(0:Int)]:=by
  have:=Ow.one (B:=g+1) (M:=fun k=>g+1≤k) (w:=w2.setCell ⟨g,0,none⟩ (.bool true)) (T:=3) (x:=0) (by unfold i64;omega) (by simp;omega)
  simpa using this
 have hB3:Below (w.heap.size+1) w0 ((w2.setCell ⟨g,0,none⟩ (.bool true)).alloc (.cells #[.int .i64 0] 3)):=(hB2.setCell (p:=⟨g,0,none⟩) (show w.heap.size+1≤g by omega) _).alloc (by have:=hB2.size;simp;omega) _
 have hbs3:Hid (b.length=(b.set 0 true).length):=by unfold Hid;rw [List.length_set]
 clear hO hb hb2 hB2 hx0
 go_wp2
 clear hyc hyf
 go_loopw [4,5] (fun v i wr=>∃(k:Nat) (a':Option Addr) (c':Nat) (q:List Int) (bs:List Bool),i= .int .i64 k∧v= .slice a' q.length c'∧Hid (WI N q k)∧Hid (Marks N.length q bs)∧Hid (b.length=bs.length)∧
  Ow (w.heap.size+1) (fun k=>w.heap.size+1≤k) wr 4 (.slice (some ⟨g,0,none⟩) b.length c1) bs∧Ow (g+1) (fun k=>g+1≤k) wr 3 (.slice a' q.length c') q∧Below (w.heap.size+1) w0 wr) (fun _ i _=>N.length-(intOf i).toNat)
 case atStart=>exact ⟨0,_,_,[0],_,rfl,rfl,hC0,hMk,hbs3,hO3,hN3,hB3⟩
 case round=>
  clear hO3 hN3 hB3 hMk hC0 hbs3
  obtain ⟨k,a',c',q,bs,rfl,rfl,hC,hM,hbs,hO,hQ,hB⟩:=hrel
  obtain ⟨wo,rfl⟩:∃wo:World,wo=wr:=⟨_,rfl⟩
  obtain ⟨x0,hsl,hBw⟩:=HS.out _ hB
  have hz:=hB.size
  have hqn:q.length≤N.length:=hC.out.top
  have hkq:k≤q.length:=hC.out.le
  by_cases hlt:k<q.length
  ·obtain ⟨gn,t0,rfl,hxc, -,ht0, -⟩:=hQ.at_int hlt
   have htr:=hC.out.rng t0 (List.mem_of_getElem? ht0.out)
   obtain ⟨t,rfl⟩:=Int.eq_ofNat_of_zero_le htr.1
   have htn:t<N.length:=by omega
   obtain ⟨bn,on,A,x,rfl,hD,hx,hNl⟩:=HW.out.at_dn htn
   have hbn:=lt_of_cell hD.1
   have hDo:=hD.below hBw hbn
   obtain ⟨a1,d1,a2,d2,a3,d3,a4,d4⟩:=A
   obtain ⟨x1,x2,x3,x4,x5⟩:=hDo
   have hka:Hid (kidsAt N (t:Int)=x.kids):=by unfold Hid kidsAt;rw [Int.toNat_natCast,gd_of hx.out]
   have hkx:=Lib.hid (hk.out x (List.mem_of_getElem? hx.out))
   have hkl:=hNl.kids.le
   have HK:Hid (∀w',Below w.heap.size w w'→Sl (fun _=>False) w' a4 d4 x.kids):=fun w' hb=>hNl.kids.below hb
   clear hNl hD hsl
   go_upto_region 7 with (fail)
   refine wp_region_L (fun w'=>(w'.cell? ⟨w.heap.size,0,none⟩=some (.slice (some ⟨bn,on,none⟩) N.length c)∧w'.cell? ⟨gn,k,none⟩=some (.int .i64 (t:Int)))∧w'.cell? ⟨bn,on+t*5,none⟩=some (.bool x.leaf)∧w'.cell? ⟨bn,on+t*5+1,none⟩=some (.slice a1 x.acc.length d1)∧w'.cell? ⟨bn,on+t*5+2,none⟩=some (.slice a2 x.suf.length d2)∧w'.cell? ⟨bn,on+t*5+3,none⟩=some (.slice a3 x.outs.length d3)∧w'.cell? ⟨bn,on+t*5+4,none⟩=some (.slice a4 x.kids.length d4)) [0,1,2,3,4,5,6,7] (by kernel_rfl) ?_
   have hSd:(wo.drew.cell? ⟨w.heap.size,0,none⟩=some (.slice (some ⟨bn,on,none⟩) N.length c)∧wo.drew.cell? ⟨gn,k,none⟩=some (.int .i64 (t:Int)))∧wo.drew.cell? ⟨bn,on+t*5,none⟩=some (.bool x.leaf)∧wo.drew.cell? ⟨bn,on+t*5+1,none⟩=some (.slice a1 x.acc.length d1)∧wo.drew.cell? ⟨bn,on+t*5+2,none⟩=some (.slice a2 x.suf.length d2)∧wo.drew.cell? ⟨bn,on+t*5+3,none⟩=some (.slice a3 x.outs.length d3)∧wo.drew.cell? ⟨bn,on+t*5+4,none⟩=some (.slice a4 x.kids.length d4):=⟨⟨x0,hxc⟩,x1,x2,x3,x4,x5⟩
   have hBd:=hB.drew
   have hOd:Ow (w.heap.size+1) (fun k=>w.heap.size+1≤k) wo.drew 4 (.slice (some ⟨g,0,none⟩) b.length c1) bs:=hO.drewN 1
   have hQd:Ow (g+1) (fun k=>g+1≤k) wo.drew 3 (.slice (some ⟨gn,0,none⟩) q.length c') q:=hQ.drewN 1
   generalize wo.drew=w1 at*
   clear x0 hxc x1 x2 x3 x4 x5 hBw hB hO hQ
   have HSS:Hid (∀w',Below w1.heap.size w1 w'→(w'.cell? ⟨w.heap.size,0,none⟩=some (.slice (some ⟨bn,on,none⟩) N.length c)∧w'.cell? ⟨gn,k,none⟩=some (.int .i64 (t:Int)))∧w'.cell? ⟨bn,on+t*5,none⟩=some (.bool x.leaf)∧w'.cell? ⟨bn,on+t*5+1,none⟩=some (.slice a1 x.acc.length d1)∧w'.cell? ⟨bn,on+t*5+2,none⟩=some (.slice a2 x.suf.length d2)∧w'.cell? ⟨bn,on+t*5+3,none⟩=some (.slice a3 x.outs.length d3)∧w'.cell? ⟨bn,on+t*5+4,none⟩=some (.slice a4 x.kids.length d4)):=fun w' hb=>⟨⟨(hb.cell (p:=⟨w.heap.size,0,none⟩) (lt_of_cell hSd.1.1)).trans hSd.1.1,(hb.cell (p:=⟨gn,k,none⟩) (lt_of_cell hSd.1.2)).trans hSd.1.2⟩,
    (hb.cell (p:=⟨bn,on+t*5,none⟩) (lt_of_cell hSd.2.1)).trans hSd.2.1,(hb.cell (p:=⟨bn,on+t*5+1,none⟩) (lt_of_cell hSd.2.1)).trans hSd.2.2.1,(hb.cell (p:=⟨bn,on+t*5+2,none⟩) (lt_of_cell hSd.2.1)).trans hSd.2.2.2.1,(hb.cell (p:=⟨bn,on+t*5+3,none⟩) (lt_of_cell hSd.2.1)).trans hSd.2.2.2.2.1,(hb.cell (p:=⟨bn,on+t*5+4,none⟩) (lt_of_cell hSd.2.1)).trans hSd.2.2.2.2.2⟩
   have hb2:=(Below.refl w1.heap.size w1).alloc (Nat.le_refl _) (.cells #[.bool false,.slice none 0 0,.slice none 0 0,.slice none 0 0,.slice none 0 0] 140)
   have hz1:g<w1.heap.size:=(hOd.lt g rfl).2
   have hzq:gn<w1.heap.size:=(hQd.lt gn rfl).2
   refine skL_on [0,1,2,3,4,5,6,7] ?_
   repeat (refine skL_take (v:= ?_) rfl ?_ ?_;rotate_left;(focus (intro w' hSw;(try dsimp only at hSw);go_simp;try with_reducible rfl));try simp only [Act.put,List.setIfInBounds_toArray,List.set_cons_zero,List.set_cons_succ])
   refine skL_off ?_
   refine wpAnyL_one (i:=8) (by kernel_rfl) rfl rfl (fun K hK=> ?_)
   go_simp
   have hS2:=HSS.out _ hb2
   refine hK _ _ (fun _=>hS2) ?_
   clear hK K
   obtain ⟨w3,hw3⟩:∃w3,w3=w1.alloc (.cells #[.bool false,.slice none 0 0,.slice none 0 0,.slice none 0 0,.slice none 0 0] 140):=⟨_,rfl⟩
   have hr3:w3.heap[w1.heap.size]? =some (.cells #[.bool false,.slice none 0 0,.slice none 0 0,.slice none 0 0,.slice none 0 0] 140 (0,0)):=by rw [hw3];exact heap_alloc_new _ _
   rw [←hw3] at hb2 hS2 ⊢
   clear hw3 hSd
   have j0:w3.cell? ⟨w1.heap.size,0,none⟩=some (.bool false):=by rw [cell_of_row _ _ _ _ _ _ hr3];rfl
   have j1:w3.cell? ⟨w1.heap.size,1,none⟩=some (.slice none 0 0):=by rw [cell_of_row _ _ _ _ _ _ hr3];rfl
   have j2:w3.cell? ⟨w1.heap.size,2,none⟩=some (.slice none 0 0):=by rw [cell_of_row _ _ _ _ _ _ hr3];rfl
   have j3:w3.cell? ⟨w1.heap.size,3,none⟩=some (.slice none 0 0):=by rw [cell_of_row _ _ _ _ _ _ hr3];rfl
   have j4:w3.cell? ⟨w1.heap.size,4,none⟩=some (.slice none 0 0):=by rw [cell_of_row _ _ _ _ _ _ hr3];rfl
   have jz:∀o,w3.frozen? ⟨w1.heap.size,o,none⟩=false:=fun o=>frozen_of_row _ _ _ _ _ hr3
   have hwL:w.heap.size+1≤w1.heap.size:=by have:=hBd.size;omega
   have hbu:Below w1.heap.size w1 (((((w3.setCell ⟨w1.heap.size,0,none⟩ (.bool x.leaf)).setCell ⟨w1.heap.size,1,none⟩ (.slice a1 x.acc.length d1)).setCell ⟨w1.heap.size,2,none⟩ (.slice a2 x.suf.length d2)).setCell ⟨w1.heap.size,3,none⟩ (.slice a3 x.outs.length d3)).setCell ⟨w1.heap.size,4,none⟩ (.slice a4 x.kids.length d4)):=((((hb2.setCell (p:=⟨w1.heap.size,0,none⟩) (Nat.le_refl _) _).setCell (p:=⟨w1.heap.size,1,none⟩) (Nat.le_refl _) _).setCell (p:=⟨w1.heap.size,2,none⟩) (Nat.le_refl _) _).setCell (p:=⟨w1.heap.size,3,none⟩) (Nat.le_refl _) _).setCell (p:=⟨w1.heap.size,4,none⟩) (Nat.le_refl _) _
   have hru:(((((w3.setCell ⟨w1.heap.size,0,none⟩ (.bool x.leaf)).setCell ⟨w1.heap.size,1,none⟩ (.slice a1 x.acc.length d1)).setCell ⟨w1.heap.size,2,none⟩ (.slice a2 x.suf.length d2)).setCell ⟨w1.heap.size,3,none⟩ (.slice a3 x.outs.length d3)).setCell ⟨w1.heap.size,4,none⟩ (.slice a4 x.kids.length d4)).heap[w1.heap.size]? =some (.cells #[.bool x.leaf,.slice a1 x.acc.length d1,.slice a2 x.suf.length d2,.slice a3 x.outs.length d3,.slice a4 x.kids.length d4] 140 (0,0)):=by
    rw [heap_setCell_same _ _ _ _ _ _ (heap_setCell_same _ _ _ _ _ _ (heap_setCell_same _ _ _ _ _ _ (heap_setCell_same _ _ _ _ _ _ (heap_setCell_same _ _ _ _ _ _ hr3))))]
    rfl
   have hSu:=HSS.out _ hbu
   refine wpAnyL_one (i:=9) (by kernel_rfl) rfl rfl (fun K hK=> ?_)
   go_simp
   refine hK _ _ (fun _=>hSu) ?_
   clear hK K hS2
   refine wpAnyL_done (by kernel_rfl) ?_ _
   clear hSu hr3 j0 j1 j2 j3 j4 jz hb2 HSS
   have hBu:=hBd.trans (hbu.mono hwL)
   have hOu:=hOd.below hbu
   have hQu:=hQd.below hbu
   have hzu:w1.heap.size<(((((w3.setCell ⟨w1.heap.size,0,none⟩ (.bool x.leaf)).setCell ⟨w1.heap.size,1,none⟩ (.slice a1 x.acc.length d1)).setCell ⟨w1.heap.size,2,none⟩ (.slice a2 x.suf.length d2)).setCell ⟨w1.heap.size,3,none⟩ (.slice a3 x.outs.length d3)).setCell ⟨w1.heap.size,4,none⟩ (.slice a4 x.kids.length d4)).heap.size:=(Array.getElem?_eq_some_iff.1 hru).1
   generalize (((((w3.setCell ⟨w1.heap.size,0,none⟩ (.bool x.leaf)).setCell ⟨w1.heap.size,1,none⟩ (.slice a1 x.acc.length d1)).setCell ⟨w1.heap.size,2,none⟩ (.slice a2 x.suf.length d2)).setCell ⟨w1.heap.size,3,none⟩ (.slice a3 x.outs.length d3)).setCell ⟨w1.heap.size,4,none⟩ (.slice a4 x.kids.length d4))=u at*
   have hJ0:Hid (WJ N q x.kids q 0):=⟨by simp,hC.out.nodup,hC.out.rng⟩
   have hru0:=Lib.hid hru
   have hqL:Hid (∀k,(Value.slice (some ⟨gn,0,none⟩) q.length c').ownBlock=some k→k≠w1.heap.size):=fun k hk=>by simp [Value.ownBlock] at hk;omega
   have y5:u.cell? ⟨w1.heap.size,4,none⟩=some (.slice a4 x.kids.length d4):=by rw [cell_of_row _ _ _ _ _ _ hru];rfl
   clear hbu hBd hOd hQd hru hzq
   go_wp2
   clear y5
   go_loopw [4,7] (fun v i wr=>∃(j:Nat) (p2:Option Addr) (c2:Nat) (l:List Int) (bs2:List Bool),j≤x.kids.length∧i= .int .i64 j∧v= .slice p2 l.length c2∧Hid (WJ N q x.kids l j)∧Hid (Marks N.length l bs2)∧Hid (b.length=bs2.length)∧
    Ow (w.heap.size+1) (fun k=>w.heap.size+1≤k) wr 4 (.slice (some ⟨g,0,none⟩) b.length c1) bs2∧Ow (g+1) (fun k=>g+1≤k) wr 3 (.slice p2 l.length c2) l∧Below (w.heap.size+1) w0 wr∧
    Hid (wr.heap[w1.heap.size]? =some (.cells #[.bool x.leaf,.slice a1 x.acc.length d1,.slice a2 x.suf.length d2,.slice a3 x.outs.length d3,.slice a4 x.kids.length d4] 140 (0,0)))∧Hid (∀k,(Value.slice p2 l.length c2).ownBlock=some k→k≠w1.heap.size)) (fun _ i _=>x.kids.length-(intOf i).toNat)
   case atStart=>exact ⟨0,_,_,q,bs,by omega,rfl,rfl,hJ0,hM,hbs,hOu,hQu,hBu,hru0,hqL⟩
   case round=>
    clear hJ0 hM hbs hOu hQu hBu hru0 hqL hzu
    obtain ⟨j,p2,c2,l,bs2,hj,rfl,rfl,hJ,hM,hbs,hO,hQ,hB,hru,hqL⟩:=hrel
    obtain ⟨w4,rfl⟩:∃w4:World,w4=wr:=⟨_,rfl⟩
    obtain ⟨-, -,hBw⟩:=HS.out _ hB
    have y5:w4.cell? ⟨w1.heap.size,4,none⟩=some (.slice a4 x.kids.length d4):=by rw [cell_of_row _ _ _ _ _ _ hru.out];rfl
    have hln:l.length≤N.length:=hJ.out.top
    by_cases hlj:j<x.kids.length
    ·obtain ⟨b3,o3,y,rfl,hyc0,hy, -⟩:=(HK.out _ hBw).at_int hlj
     have hyr:=hkx.out y (List.mem_of_getElem? hy.out)
     obtain ⟨s,rfl⟩:=Int.eq_ofNat_of_zero_le hyr.1
     have hsn:s<N.length:=by omega
     have hsb:s<b.length:=by have:=hbl.out;omega
     have hsb2:s<bs2.length:=by have:=hbs.out;omega
     obtain ⟨g',m,hg',hmc,hmf,hm⟩:=hO.at_bool' hbs.out hsb2
     obtain rfl:g=g':=by simpa using hg'
     have hmd:Hid (m=decide ((s:Int)∈l)):=hM.out.at hsn hm.out
     cases m with
     |true=>
      have hr:Hid (OneR N false):=⟨fun h=>(by cases h),fun h=>absurd h (hC.out.twice ht0.out hka.out hJ.out hy.out (of_decide_eq_true hmd.out.symm))⟩
      go_wp2
      go_ret
      exact ⟨false,rfl,hr,hBw⟩
     |false=>
      have hJ2:Hid (WJ N q x.kids (l++[(s:Int)]) (j+1)):=hJ.out.next hy.out (by omega) (of_decide_eq_false hmd.out.symm)
      have hLg:w1.heap.size≠g:=by omega
      have hO5:=hO.set_bool hbs.out (show w.heap.size+1≤g by omega) true s
      have hQ5:Ow (g+1) (fun k=>g+1≤k) (w4.setCell ⟨g,s,none⟩ (.bool true)) 3 (.slice p2 l.length c2) l:=hQ.setOtherI (fun k hk=>by have:=(hQ.lt k hk).1;simp;omega) _
      have hB5:=hB.setCell (p:=⟨g,s,none⟩) (show w.heap.size+1≤g by omega) (.bool true)
      have hr5:(w4.setCell ⟨g,s,none⟩ (.bool true)).heap[w1.heap.size]? =w4.heap[w1.heap.size]? :=Below.heap_setCell _ _ _ _ hLg
      have hL5:w1.heap.size<w4.heap.size:=(Array.getElem?_eq_some_iff.1 hru.out).1
      have y6:(w4.setCell ⟨g,s,none⟩ (.bool true)).cell? ⟨w1.heap.size,4,none⟩=some (.slice (some ⟨b3,o3,none⟩) x.kids.length d4):=(World.cell?_of_block (w:=w4) hr5).trans y5
      have hyc5:(w4.setCell ⟨g,s,none⟩ (.bool true)).cell? ⟨b3,o3+j,none⟩=some (.int .i64 (s:Int)):=by
       obtain ⟨-, -,hBw5⟩:=HS.out _ hB5
       obtain ⟨b4,o4,y2,he,hyc2,hy2, -⟩:=(HK.out _ hBw5).at_int hlj
       simp only [Option.some.injEq,Addr.mk.injEq,and_true] at he
       obtain ⟨rfl,rfl⟩:=he
       have:=hy.out.symm.trans hy2.out
       simp only [Option.some.injEq] at this
       rw [hyc2,this]
      have hti:Hid (i64 (s:Int)):=i64_of_nat (by omega)
      have hzs:g+1≤(w4.setCell ⟨g,s,none⟩ (.bool true)).heap.size:=by have:=(hO.lt g rfl).2;simp;omega
      clear hO hQ hB hBw
      go_wp2_with (at_builtin;refine wpList_push_o (B:=g+1) rfl rfl Tryz.underlying94 info_int rfl rfl (hQ5.alloc _) (by simp [go_sem]) hti.out (by omega) (by simp;omega) ?_)
      intro a6 c6 l6 w6 hl6 hQ6 hob6 hgr6
      have hb6:Below (g+1) ((w4.setCell ⟨g,s,none⟩ (.bool true)).alloc (.cells #[.int .i64 (s:Int)] 3)) w6:=(Below.refl _ _).grown hgr6 (by simp;omega) (fun k hk=>(hQ5.lt k hk).1)
      have hO6:=(hO5.alloc (.cells #[.int .i64 (s:Int)] 3)).uptob hb6 (fun k hk=>by simp [Value.ownBlock] at hk;omega)
      have hB6:=(hB5.alloc (by have:=hB5.size;omega) (.cells #[.int .i64 (s:Int)] 3)).trans (hb6.mono (by omega))
      have hr6:Hid (w6.heap[w1.heap.size]? =some (.cells #[.bool x.leaf,.slice a1 x.acc.length d1,.slice a2 x.suf.length d2,.slice a3 x.outs.length d3,.slice (some ⟨b3,o3,none⟩) x.kids.length d4] 140 (0,0))):=by
       have h1:=hgr6.block w1.heap.size (by simp;omega) (fun e=>hqL.out w1.heap.size e.symm rfl)
       have h2:=heap_old (o':= .cells #[.int .i64 (s:Int)] 3) (hr5.trans hru.out)
       unfold Hid;rw [h1];exact h2
      have hq6:Hid (∀k,(Value.slice a6 l6.length c6).ownBlock=some k→k≠w1.heap.size):=fun k hk=>by
       rcases (hob6.out k hk).1 with e|e
       ·exact hqL.out k e
       have e9:k=(w4.setCell ⟨g,s,none⟩ (.bool true)).heap.size+1:=by rw [e];simp
       simp at e9
       omega
      have hJ6:Hid (WJ N q x.kids l6 (j+1)):=by unfold Hid;rw [hl6.out];exact hJ2.out
      have hM6:Hid (Marks N.length l6 (bs2.set s true)):=by unfold Hid;rw [hl6.out];exact hM.out.push hsn
      have hbs6:Hid (b.length=(bs2.set s true).length):=by unfold Hid;rw [List.length_set];exact hbs.out
      clear hb6 hgr6 hO5 hQ5 hB5 y5 y6 hyc5 hmc hmf hr5 hob6 hJ hJ2
      go_wp2
      go_roundw
      case rel=>exact ⟨j+1,a6,c6,l6,bs2.set s true,by omega,by go_num,rfl,hJ6,hM6,hbs6,hO6,hQ6,hB6,hr6,hq6⟩
      case measure=>simp [intOf];omega
    have hC2 : Hid (WI N l (k + 1)) := hC.out.next ht0.out hka.out (by
     have h9:=hJ.out
     rw [show j=x.kids.length by omega] at h9
     exact h9)
    clear hC hJ
    go_wp2
    go_roundw
    case rel=>exact ⟨k+1,p2,c2,l,bs2,by go_num,rfl,hC2,hM,hbs,hO,hQ,hB⟩
    case measure=>simp [intOf];omega
  have hee:=Lib.hid (hC.out.end hlt)
  have hr:Hid (OneR N (((q.length:Nat):Int)==((N.length:Nat):Int))):=by
   unfold Hid OneR
   rw [hee.out,beq_iff_eq]
   omega
  clear hee
  go_wp2
  go_ret
  exact ⟨_,rfl,hr,hBw⟩
end
end Go.Proofs.YtjmbphjgiodioaaGreatDoor
