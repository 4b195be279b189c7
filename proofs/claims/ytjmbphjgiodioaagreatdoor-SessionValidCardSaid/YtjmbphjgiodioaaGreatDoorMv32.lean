/- Several texts, one behind the other. Conditions: as each of them says. -/
import Derived.Test.YtjmbphjgiodioaaGreatDoorMv31
import Derived.Test.YtjmbphjgiodioaaGreatDoorMv13
import Derived.Test.YtjmbphjgiodioaaGreatDoorMv3
set_option maxRecDepth 100000
set_option maxHeartbeats 32000000
namespace Go.Proofs.YtjmbphjgiodioaaGreatDoor
open Go.RowKit
section
variable {M M':Nat→Prop} {w:World} {a b:Option Addr} {c d:Nat}
theorem cmpP_is {xs ys:List Int} (h1:Sl M w a c xs) (h2:Sl M' w b d ys) {v:Int} (hv:cmpW xs ys=v):Calls Tryz.prog 108 #[.slice a xs.length c,.slice b ys.length d] w fun e w'=>e= .returned (.int .i64 v)∧Below w.heap.size w w':=
 (cmpF_cmp _ _ _ _ _ _ _ _ _ h1 h2).mono fun e w' ⟨k1,q,os,k2⟩=>⟨by rw [k1,hv],CmpF.below k2⟩
theorem asc_zero (a:Option Addr) (n c:Nat) (w:World):Calls Tryz.prog 121 #[.slice a n c,.int .i64 0] w fun e w'=>e= .returned (.bool true)∧Below w.heap.size w w':=by
 go_enter Tryz.func121,Tryz.ntmps121
 go_wp2
 go_quiet (fail)
 go_wp2
 go_ret
 exact ⟨rfl,bl_drewN (Below.refl _ _) _⟩
theorem asc_succ {l:List (List Int)} (hs:Sl M w a c l) {q:Nat} {u y:List Int} (hu:Hid (l[q]? =some u)) (hy:Hid (l[q+1]? =some y)) (hq:q+1<l.length) {z:Int} (hz:cmpW u y=z):
    Calls Tryz.prog 121 #[.slice a l.length c,.int .i64 ((q:Int)+1)] w fun e w'=>e= .returned (.bool (decide (z<0)))∧Below w.heap.size w w':=by
 have hll:=hs.le
 obtain ⟨b1,o1,au,u',cu,rfl,hcu,hu2,hsu⟩:=hs.at_row (show q<l.length by omega)
 obtain ⟨b2,o2,ay,y',cy,he,hcy,hy2,hsy⟩:=hs.at_row hq
 simp only [Option.some.injEq,Addr.mk.injEq,and_true] at he
 obtain ⟨rfl,rfl⟩:=he
 obtain rfl:u=u':=by have:=hu.out.symm.trans hu2.out;simpa using this
 obtain rfl:y=y':=by have:=hy.out.symm.trans hy2.out;simpa using this
 have hul:=hsu.le
 have hyl:=hsy.le
 have HC:Hid (∀w',Below w.heap.size w w'→Calls Tryz.prog 108 #[.slice au u.length cu,.slice ay y.length cy] w' fun e w''=>e= .returned (.int .i64 z)∧Below w'.heap.size w' w''):=fun w' hb=>cmpP_is (hsu.below hb) (hsy.below hb) hz
 have hwq:IntKind.i64.wrap (q:Int)=(q:Int):=IntWalk.i64_in _ (by omega)
 have hq0:(0:Int)<(q:Int)+1:=by omega
 have hq1:((q:Int)+1==0)=false:=by simp;omega
 have hql:q<l.length:=by omega
 have hq2:(0:Int)≤(q:Int)+1:=by omega
 have hq3:(q:Int)+1<(l.length:Int):=by omega
 have hcy2:w.cell? ⟨b1,o1+(q+1),none⟩=some (.slice ay y.length cy):=hcy
 have hS0:w.cell? ⟨b1,o1+q,none⟩=some (.slice au u.length cu)∧w.cell? ⟨b1,o1+(q+1),none⟩=some (.slice ay y.length cy):=⟨hcu,hcy⟩
 clear hu hy hu2 hy2 hsu hsy hs hz hcy hcu hcy2
 go_enter Tryz.func121,Tryz.ntmps121
 go_upto_region 1 with (fail)
 refine wp_region_L (fun w'=>w'.cell? ⟨b1,o1+q,none⟩=some (.slice au u.length cu)∧w'.cell? ⟨b1,o1+(q+1),none⟩=some (.slice ay y.length cy)) [0,1,2,3,4,5,6,7,8,9,10,11,13,14,15] (by kernel_rfl) ?_
 have hB1:=(Below.refl w.heap.size w).drew
 have HC1:=Lib.hid (HC.out _ hB1)
 have hS1:w.drew.cell? ⟨b1,o1+q,none⟩=some (.slice au u.length cu)∧w.drew.cell? ⟨b1,o1+(q+1),none⟩=some (.slice ay y.length cy):=hS0
 have hlb:b1<w.heap.size:=lt_of_cell hS0.1
 generalize w.drew=w1 at*
 clear hS0 HC
 refine skL_on [0,1,2,3,4,5,6,7,8,9,10,11] ?_
 repeat (refine skL_take (v:= ?_) rfl ?_ ?_;rotate_left;(focus (intro w' hSw;(try dsimp only at hSw);go_simp;try with_reducible rfl));try simp only [Act.put,List.setIfInBounds_toArray,List.set_cons_zero,List.set_cons_succ])
 refine skL_off ?_
 refine wpAnyL_one (i:=12) (by kernel_rfl) rfl rfl (fun K hK=> ?_)
 go_simp
 refine (HC1.out).mono ?_
 rintro e w2 ⟨rfl,hb2⟩
 have hB2:=hB1.trans (hb2.mono hB1.size)
 have hS2:w2.cell? ⟨b1,o1+q,none⟩=some (.slice au u.length cu)∧w2.cell? ⟨b1,o1+(q+1),none⟩=some (.slice ay y.length cy):=
  ⟨(hb2.cell (p:=⟨b1,o1+q,none⟩) (Nat.lt_of_lt_of_le hlb hB1.size)).trans hS1.1,(hb2.cell (p:=⟨b1,o1+(q+1),none⟩) (Nat.lt_of_lt_of_le hlb hB1.size)).trans hS1.2⟩
 refine hK _ _ (fun _=>hS2) ?_
 clear hK K HC1 hS1 hb2 hB1
 refine skL_on [13,14,15] ?_
 repeat (refine skL_take (v:= ?_) rfl ?_ ?_;rotate_left;(focus (intro w' hSw;(try dsimp only at hSw);go_simp;try with_reducible rfl));try simp only [Act.put,List.setIfInBounds_toArray,List.set_cons_zero,List.set_cons_succ])
 refine skL_off ?_
 refine wpAnyL_done (by kernel_rfl) ?_ _
 clear hS2
 go_wp2
 go_ret
 exact ⟨rfl,hB2⟩
end
end Go.Proofs.YtjmbphjgiodioaaGreatDoor
