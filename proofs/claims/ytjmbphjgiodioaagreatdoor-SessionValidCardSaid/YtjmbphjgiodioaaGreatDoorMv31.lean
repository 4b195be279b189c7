/- Several texts, one behind the other. Conditions: as each of them says. -/
import Derived.Test.YtjmbphjgiodioaaGreatDoorMv27
import Derived.Test.YtjmbphjgiodioaaGreatDoorMv7
import Derived.Test.YtjmbphjgiodioaaGreatDoorMv4
import Derived.Test.YtjmbphjgiodioaaGreatDoorMv3
import Derived.Deep.Cut
set_option maxRecDepth 100000
set_option maxHeartbeats 32000000
namespace Go.Proofs.YtjmbphjgiodioaaGreatDoor
open Go.RowKit
section
variable {w:World}
theorem Cfg.err_2 {c:Cfg} (h:c.inputs<1∨64<c.inputs∨c.kind<1∨3<c.kind):c.err=2:=by unfold Cfg.err;rw [if_pos h]
theorem Cfg.err_s {c:Cfg} {v:Int} (h:¬(c.inputs<1∨64<c.inputs∨c.kind<1∨3<c.kind)) (h1:c.stg.err=v) (hv:v≠0):c.err=v:=by unfold Cfg.err;rw [if_neg h,if_pos (by rw [h1];exact hv),h1]
theorem Cfg.err_b {c:Cfg} (h:¬(c.inputs<1∨64<c.inputs∨c.kind<1∨3<c.kind)) (h1:c.stg.err=0):c.err=if c.bound<1∨128<c.bound then 2 else 0:=by unfold Cfg.err;rw [if_neg h,if_neg (by simp [h1])]
theorem sconf_any (c:Cfg) {er:Int} (her:c.err=er):Calls Tryz.prog 17 #[.agg #[.int .i64 c.inputs,.int .i64 c.kind,.int .i64 c.stg.kind,.int .i64 c.stg.extra,.int .u64 (c.stg.seed:Int),.int .i64 c.stg.count,.int .i64 c.stg.len,.int .i64 c.bound]] w fun e w'=>e= .returned (.int .i64 er)∧Below w.heap.size w w':=by
 have HC:=Lib.hid (fun (w:World)=>svalid_any (w:=w) c.stg)
 obtain ⟨v,hv⟩:∃v,c.stg.err=v:=⟨_,rfl⟩
 rw [hv] at HC
 have HV:=Lib.hid hv
 have HE:=Lib.hid her
 clear hv her
 have HC2:Hid (∀w,Calls Tryz.prog _ #[.agg #[.int .i64 c.stg.kind,.int .i64 c.stg.extra,.int .u64 (c.stg.seed:Int),.int .i64 c.stg.count,.int .i64 c.stg.len]] w fun e w'=>e= .returned (.int .i64 v)∧Below w.heap.size w w'):=HC.out
 obtain ⟨i,k,⟨sk,se,sd,sc,sl⟩,b⟩:=c
 dsimp only at HC2 HV HE ⊢
 have hB0:=(Below.refl w.heap.size w).alloc (Nat.le_refl _) (.cells #[.int .i64 i,.int .i64 k,.int .i64 sk,.int .i64 se,.int .u64 (sd:Int),.int .i64 sc,.int .i64 sl,.int .i64 b] 26)
 have hbx:∀o,(w.alloc (.cells #[.int .i64 i,.int .i64 k,.int .i64 sk,.int .i64 se,.int .u64 (sd:Int),.int .i64 sc,.int .i64 sl,.int .i64 b] 26)).cell? ⟨w.heap.size,o,none⟩=(#[.int .i64 i,.int .i64 k,.int .i64 sk,.int .i64 se,.int .u64 (sd:Int),.int .i64 sc,.int .i64 sl,.int .i64 b]:Array Value)[o]? :=fun o=>by rw [cell_of_row _ _ _ _ _ _ (heap_alloc_new _ _)]
 have hz0:w.heap.size<(w.alloc (.cells #[.int .i64 i,.int .i64 k,.int .i64 sk,.int .i64 se,.int .u64 (sd:Int),.int .i64 sc,.int .i64 sl,.int .i64 b] 26)).heap.size:=by simp
 clear HC
 go_enter Tryz.func17,Tryz.ntmps17
 go_upto_region 1 with (fail)
 generalize w.alloc (.cells #[.int .i64 i,.int .i64 k,.int .i64 sk,.int .i64 se,.int .u64 (sd:Int),.int .i64 sc,.int .i64 sl,.int .i64 b] 26)=w0 at*
 have x0:=hbx 0
 have x1:=hbx 1
 have x2:=hbx 2
 have x3:=hbx 3
 have x4:=hbx 4
 have x5:=hbx 5
 have x6:=hbx 6
 have x7:=hbx 7
 simp only [List.getElem?_toArray,List.getElem?_cons_zero,List.getElem?_cons_succ] at x0 x1 x2 x3 x4 x5 x6 x7
 by_cases h1:i<1
 ·have hr:=HE.out.symm.trans (Cfg.err_2 (.inl h1))
  clear hbx
  subst hr
  go_wp2
  go_ret
  exact ⟨rfl,hB0⟩
 by_cases h2:64<i
 ·have hr:=HE.out.symm.trans (Cfg.err_2 (.inr (.inl h2)))
  clear hbx
  subst hr
  go_wp2
  go_ret
  exact ⟨rfl,hB0⟩
 by_cases h3:k<1
 ·have hr:=HE.out.symm.trans (Cfg.err_2 (.inr (.inr (.inl h3))))
  clear hbx
  subst hr
  go_wp2
  go_ret
  exact ⟨rfl,hB0⟩
 by_cases h4:3<k
 ·have hr:=HE.out.symm.trans (Cfg.err_2 (.inr (.inr (.inr h4))))
  clear hbx
  subst hr
  go_wp2
  go_ret
  exact ⟨rfl,hB0⟩
 have hno:Hid (¬(i<1∨64<i∨k<1∨3<k)):=fun h=>by omega
 have HB:=Lib.hid (fun w' (hb:Below w0.heap.size w0 w')=>(⟨(hb.cell (p:=⟨w.heap.size,7,none⟩) hz0).trans x7,hB0.trans (hb.mono (Nat.le_of_lt hz0))⟩:w'.cell? ⟨w.heap.size,7,none⟩=some (.int .i64 b)∧Below w.heap.size w w'))
 clear hbx
 go_wp2_with fail
 refine (HC2.out _).mono ?_
 rintro e w1 ⟨rfl,hb1⟩
 obtain ⟨y7,hB1⟩:=HB.out _ hb1
 clear HC2 x0 x1 x2 x3 x4 x5 x6 x7 hB0 HB hb1
 by_cases hv0:v=0
 rotate_left
 ·have hvb:(v !=0)=true:=by simp [hv0]
  have hr:=HE.out.symm.trans (Cfg.err_s hno.out HV.out hv0)
  clear hv0
  subst hr
  go_wp2
  go_ret
  exact ⟨rfl,hB1⟩
 have hvb:(v !=0)=false:=by simp [hv0]
 have hR:=Lib.hid (HE.out.symm.trans (Cfg.err_b hno.out (HV.out.trans hv0)))
 clear hv0 HE HV
 by_cases h5:b<1
 ·have hr:=hR.out.trans (if_pos (.inl h5))
  subst hr
  go_wp2
  go_ret
  exact ⟨rfl,hB1⟩
 by_cases h6:128<b
 ·have hr:=hR.out.trans (if_pos (.inr h6))
  subst hr
  go_wp2
  go_ret
  exact ⟨rfl,hB1⟩
 have hr:=hR.out.trans (if_neg (fun h=>by dsimp only at h;omega))
 subst hr
 go_wp2
 go_ret
 exact ⟨rfl,hB1⟩
theorem sconfR_any (c:Cfg) {er:Int} (her:c.err=er):Calls Tryz.prog 22 #[.agg #[.int .i64 c.inputs,.int .i64 c.kind,.int .i64 c.stg.kind,.int .i64 c.stg.extra,.int .u64 (c.stg.seed:Int),.int .i64 c.stg.count,.int .i64 c.stg.len,.int .i64 c.bound]] w fun e w'=>e= .returned (.int .i64 er)∧Below w.heap.size w w':=by
 have HC:=Lib.hid (fun (w:World)=>svalidR_any (w:=w) c.stg)
 obtain ⟨v,hv⟩:∃v,c.stg.err=v:=⟨_,rfl⟩
 rw [hv] at HC
 have HV:=Lib.hid hv
 have HE:=Lib.hid her
 clear hv her
 have HC2:Hid (∀w,Calls Tryz.prog _ #[.agg #[.int .i64 c.stg.kind,.int .i64 c.stg.extra,.int .u64 (c.stg.seed:Int),.int .i64 c.stg.count,.int .i64 c.stg.len]] w fun e w'=>e= .returned (.int .i64 v)∧Below w.heap.size w w'):=HC.out
 obtain ⟨i,k,⟨sk,se,sd,sc,sl⟩,b⟩:=c
 dsimp only at HC2 HV HE ⊢
 have hB0:=(Below.refl w.heap.size w).alloc (Nat.le_refl _) (.cells #[.int .i64 i,.int .i64 k,.int .i64 sk,.int .i64 se,.int .u64 (sd:Int),.int .i64 sc,.int .i64 sl,.int .i64 b] 26)
 have hbx:∀o,(w.alloc (.cells #[.int .i64 i,.int .i64 k,.int .i64 sk,.int .i64 se,.int .u64 (sd:Int),.int .i64 sc,.int .i64 sl,.int .i64 b] 26)).cell? ⟨w.heap.size,o,none⟩=(#[.int .i64 i,.int .i64 k,.int .i64 sk,.int .i64 se,.int .u64 (sd:Int),.int .i64 sc,.int .i64 sl,.int .i64 b]:Array Value)[o]? :=fun o=>by rw [cell_of_row _ _ _ _ _ _ (heap_alloc_new _ _)]
 have hz0:w.heap.size<(w.alloc (.cells #[.int .i64 i,.int .i64 k,.int .i64 sk,.int .i64 se,.int .u64 (sd:Int),.int .i64 sc,.int .i64 sl,.int .i64 b] 26)).heap.size:=by simp
 clear HC
 go_enter Tryz.func22,Tryz.ntmps22
 go_upto_region 1 with (fail)
 generalize w.alloc (.cells #[.int .i64 i,.int .i64 k,.int .i64 sk,.int .i64 se,.int .u64 (sd:Int),.int .i64 sc,.int .i64 sl,.int .i64 b] 26)=w0 at*
 have x0:=hbx 0
 have x1:=hbx 1
 have x2:=hbx 2
 have x3:=hbx 3
 have x4:=hbx 4
 have x5:=hbx 5
 have x6:=hbx 6
 have x7:=hbx 7
 simp only [List.getElem?_toArray,List.getElem?_cons_zero,List.getElem?_cons_succ] at x0 x1 x2 x3 x4 x5 x6 x7
 by_cases h1:i<1
 ·have hr:=HE.out.symm.trans (Cfg.err_2 (.inl h1))
  clear hbx
  subst hr
  go_wp2
  go_ret
  exact ⟨rfl,hB0⟩
 by_cases h2:64<i
 ·have hr:=HE.out.symm.trans (Cfg.err_2 (.inr (.inl h2)))
  clear hbx
  subst hr
  go_wp2
  go_ret
  exact ⟨rfl,hB0⟩
 by_cases h3:k<1
 ·have hr:=HE.out.symm.trans (Cfg.err_2 (.inr (.inr (.inl h3))))
  clear hbx
  subst hr
  go_wp2
  go_ret
  exact ⟨rfl,hB0⟩
 by_cases h4:3<k
 ·have hr:=HE.out.symm.trans (Cfg.err_2 (.inr (.inr (.inr h4))))
  clear hbx
  subst hr
  go_wp2
  go_ret
  exact ⟨rfl,hB0⟩
 have hno:Hid (¬(i<1∨64<i∨k<1∨3<k)):=fun h=>by omega
 have HB:=Lib.hid (fun w' (hb:Below w0.heap.size w0 w')=>(⟨(hb.cell (p:=⟨w.heap.size,7,none⟩) hz0).trans x7,hB0.trans (hb.mono (Nat.le_of_lt hz0))⟩:w'.cell? ⟨w.heap.size,7,none⟩=some (.int .i64 b)∧Below w.heap.size w w'))
 clear hbx
 go_wp2_with fail
 refine (HC2.out _).mono ?_
 rintro e w1 ⟨rfl,hb1⟩
 obtain ⟨y7,hB1⟩:=HB.out _ hb1
 clear HC2 x0 x1 x2 x3 x4 x5 x6 x7 hB0 HB hb1
 by_cases hv0:v=0
 rotate_left
 ·have hvb:(v !=0)=true:=by simp [hv0]
  have hr:=HE.out.symm.trans (Cfg.err_s hno.out HV.out hv0)
  clear hv0
  subst hr
  go_wp2
  go_ret
  exact ⟨rfl,hB1⟩
 have hvb:(v !=0)=false:=by simp [hv0]
 have hR:=Lib.hid (HE.out.symm.trans (Cfg.err_b hno.out (HV.out.trans hv0)))
 clear hv0 HE HV
 by_cases h5:b<1
 ·have hr:=hR.out.trans (if_pos (.inl h5))
  subst hr
  go_wp2
  go_ret
  exact ⟨rfl,hB1⟩
 by_cases h6:128<b
 ·have hr:=hR.out.trans (if_pos (.inr h6))
  subst hr
  go_wp2
  go_ret
  exact ⟨rfl,hB1⟩
 have hr:=hR.out.trans (if_neg (fun h=>by dsimp only at h;omega))
 subst hr
 go_wp2
 go_ret
 exact ⟨rfl,hB1⟩
theorem blankT_any {i:Int} {a b:Option Addr} {n m c d:Nat} (hn:n≤9223372036854775807) (hm:m≤9223372036854775807) {v:Bool} (hv:(decide (i=0)&&decide (n=0)&&decide (m=0))=v):
    Calls Tryz.prog 71 #[.agg #[.int .i64 i,.slice a n c,.slice b m d]] w fun e w'=>e= .returned (.bool v)∧Below w.heap.size w w':=by
 have hB:=(Below.refl w.heap.size w).alloc (Nat.le_refl _) (.cells #[.int .i64 i,.slice a n c,.slice b m d] 29)
 by_cases hi:i=0
 rotate_left
 ·have hib:(i==0)=false:=by simp [hi]
  obtain rfl:v=false:=by rw [←hv];simp [hi]
  clear hv hi
  go_enter Tryz.func71,Tryz.ntmps71
  go_wp2
  go_ret
  exact ⟨rfl,hB⟩
 subst hi
 cases n with
 |succ n=>
  obtain rfl:v=false:=by rw [←hv];simp
  clear hv
  have h1:((n:Int)+1==0)=false:=by simp;omega
  go_enter Tryz.func71,Tryz.ntmps71
  go_wp2
  go_ret
  exact ⟨rfl,hB⟩
 |zero=>
 cases m with
 |succ m=>
  obtain rfl:v=false:=by rw [←hv];simp
  clear hv
  have h1:((m:Int)+1==0)=false:=by simp;omega
  go_enter Tryz.func71,Tryz.ntmps71
  go_wp2
  go_ret
  exact ⟨rfl,hB⟩
 |zero=>
  obtain rfl:v=true:=by rw [←hv];simp
  clear hv
  go_enter Tryz.func71,Tryz.ntmps71
  go_wp2
  go_ret
  exact ⟨rfl,hB⟩
theorem blankH_any {i s:Int} {a b e:Option Addr} {n m k c d f:Nat} (hn:n≤9223372036854775807) (hm:m≤9223372036854775807) (hk:k≤9223372036854775807) {v:Bool} (hv:(decide (i=0)&&decide (s=0)&&decide (n=0)&&decide (m=0)&&decide (k=0))=v):
    Calls Tryz.prog 38 #[.agg #[.int .i64 i,.int .i64 s,.slice a n c,.slice b m d,.slice e k f]] w fun e w'=>e= .returned (.bool v)∧Below w.heap.size w w':=by
 have hB:=(Below.refl w.heap.size w).alloc (Nat.le_refl _) (.cells #[.int .i64 i,.int .i64 s,.slice a n c,.slice b m d,.slice e k f] 43)
 by_cases hi:i=0
 rotate_left
 ·have hib:(i==0)=false:=by simp [hi]
  obtain rfl:v=false:=by rw [←hv];simp [hi]
  clear hv hi
  go_enter Tryz.func38,Tryz.ntmps38
  go_wp2
  go_ret
  exact ⟨rfl,hB⟩
 subst hi
 by_cases hs:s=0
 rotate_left
 ·have hsb:(s==0)=false:=by simp [hs]
  obtain rfl:v=false:=by rw [←hv];simp [hs]
  clear hv hs
  go_enter Tryz.func38,Tryz.ntmps38
  go_wp2
  go_ret
  exact ⟨rfl,hB⟩
 subst hs
 cases n with
 |succ n=>
  obtain rfl:v=false:=by rw [←hv];simp
  clear hv
  have h1:((n:Int)+1==0)=false:=by simp;omega
  go_enter Tryz.func38,Tryz.ntmps38
  go_wp2
  go_ret
  exact ⟨rfl,hB⟩
 |zero=>
 cases m with
 |succ m=>
  obtain rfl:v=false:=by rw [←hv];simp
  clear hv
  have h1:((m:Int)+1==0)=false:=by simp;omega
  go_enter Tryz.func38,Tryz.ntmps38
  go_wp2
  go_ret
  exact ⟨rfl,hB⟩
 |zero=>
 cases k with
 |succ k=>
  obtain rfl:v=false:=by rw [←hv];simp
  clear hv
  have h1:((k:Int)+1==0)=false:=by simp;omega
  go_enter Tryz.func38,Tryz.ntmps38
  go_wp2
  go_ret
  exact ⟨rfl,hB⟩
 |zero=>
  obtain rfl:v=true:=by rw [←hv];simp
  clear hv
  go_enter Tryz.func38,Tryz.ntmps38
  go_wp2
  go_ret
  exact ⟨rfl,hB⟩
end
section
variable {M M':Nat→Prop} {w:World} {a b:Option Addr} {c d:Nat}
theorem mem_take {α:Type} {l:List α} {k:Nat} {x y:α} (hx:l[k]? =some x):y∈l.take (k+1)↔y∈l.take k∨y=x:=by
 rw [List.take_add_one,hx,Option.toList,List.mem_append];simp
theorem bel_drw {w w':World} (h:Hid (∃n,w'=w.drewN n)):Below w.heap.size w w':=by obtain ⟨n,e⟩:=h.out;rw [e];exact below_drewN _ _ _
theorem flz {α:Type} [GR α] {M:Nat→Prop} {w:World} {a:Option Addr} {c:Nat} {l:List α} (h:Sl M w a c l):Sl (fun _=>False) w a c l:=h.anti fun _ _ h=>h.elim
theorem drw_tr {w w1 w2:World} (h:Hid (∃n,w1=w.drewN n)) (k:Hid (∃n,w2=w1.drewN n)):Hid (∃n,w2=w.drewN n):=by
 obtain ⟨n,rfl⟩:=k.out
 exact drw_add h n
theorem has02_any {l:List (List Int)} {x:List Int} (hs:Sl M w a c l) (hx:Sl M' w b d x) {v:Bool} (hv:decide (x∈l)=v):
    Calls Tryz.prog 194 #[.slice a l.length c,.slice b x.length d] w fun e w'=>e= .returned (.bool v)∧Hid (∃n,w'=w.drewN n):=by
 have hll:=hs.le
 have hxl:=hx.le
 replace hs:=flz hs
 replace hx:=flz hx
 have HV:=Lib.hid hv
 have hN0:Hid (x∉l.take 0):=by unfold Hid;simp
 have hD0:Hid (∃n,w=w.drewN n):=⟨0,rfl⟩
 clear hv
 go_enter Tryz.func194,Tryz.ntmps194
 go_wp2
 go_loopw [5] (fun i wr=>∃k:Nat,k≤l.length∧i= .int .i64 k∧Hid (x∉l.take k)∧Hid (∃n,wr=w.drewN n)) (fun i _=>l.length-(intOf i).toNat)
 case atStart=>exact ⟨0,by omega,rfl,hN0,hD0⟩
 case round=>
  clear hN0 hD0
  obtain ⟨k,hk,rfl,hN,hD⟩:=hrel
  obtain ⟨w1,rfl⟩:∃w1:World,w1=wr:=⟨_,rfl⟩
  by_cases hlt:k<l.length
  ·obtain ⟨b1,o1,ax,y,cx,rfl,hcx,hy,hsx⟩:=(sl_drw hD hs).at_row hlt
   have hyl:=hsx.le
   obtain ⟨u,hu⟩:∃u:Bool,decide (y=x)=u:=⟨_,rfl⟩
   have HC:=Lib.hid ((same1_any hsx (sl_drw hD hx)).mono fun e w' h=>(⟨by rw [h.1,hu],drw_tr hD h.2⟩:e= .returned (.bool u)∧Hid (∃n,w'=w.drewN n)))
   clear hsx
   go_wp2_with fail
   refine (HC.out).mono ?_
   rintro e w2 ⟨rfl,hD2⟩
   clear HC hD
   cases u with
   |true=>
    have hr:=HV.out.symm.trans (decide_eq_true (List.mem_of_getElem? (by rw [←of_decide_eq_true hu];exact hy.out)))
    clear hu
    subst hr
    go_wp2
    go_ret
    exact ⟨rfl,hD2⟩
   |false=>
    have hN2:Hid (x∉l.take (k+1)):=fun h=>by
     rcases (mem_take hy.out).1 h with h|h
     ·exact hN.out h
     exact of_decide_eq_false hu h.symm
    clear hu hN
    go_wp2
    go_roundw
    case rel=>exact ⟨k+1,by omega,by go_num,hN2,hD2⟩
    case measure=>simp [intOf];omega
  have hr:=HV.out.symm.trans (decide_eq_false (fun h=>hN.out (by rw [List.take_of_length_le (by omega)];exact h)))
  subst hr
  go_wp2
  go_ret
  exact ⟨rfl,hD⟩
theorem lng_any {l:List (List Int)} (hs:Sl M w a c l) {n:Nat} (hn:lng l=n):Calls Tryz.prog 122 #[.slice a l.length c] w fun e w'=>e= .returned (.int .i64 (n:Int))∧w'=w:=by
 have hll:=hs.le
 have HN:=Lib.hid hn
 have hL0:Hid (lng (l.take 0)=0):=rfl
 clear hn
 go_enter Tryz.func122,Tryz.ntmps122
 go_wp2
 go_loop [3,8] (fun v i=>∃k m:Nat,k≤l.length∧v= .int .i64 m∧i= .int .i64 k∧Hid (lng (l.take k)=m)) (fun _ i=>l.length-(intOf i).toNat)
 case atStart=>exact ⟨0,0,by omega,rfl,rfl,hL0⟩
 case round=>
  clear hL0
  obtain ⟨k,m,hk,rfl,rfl,hL⟩:=hrel
  by_cases hlt:k<l.length
  ·obtain ⟨b1,o1,ax,y,cx,rfl,hcx,hy,hsx⟩:=hs.at_row hlt
   have hyl:=hsx.le
   have hmx:max ((m:Nat):Int) ((y.length:Nat):Int)=((max m y.length:Nat):Int):=by omega
   have hL2:Hid (lng (l.take (k+1))=max m y.length):=by unfold Hid;rw [lng_take hy.out,hL.out]
   go_wp2
   all_goals
    go_round
    case rel=>exact ⟨k+1,max m y.length,by omega,by go_num,by go_num,hL2⟩
    case measure=>simp [intOf];omega
  have hr:=HN.out.symm.trans ((congrArg lng (List.take_of_length_le (by omega))).symm.trans hL.out)
  clear hL HN
  subst hr
  go_wp2
  go_ret
  exact ⟨rfl,rfl⟩
theorem lngR_any {l:List (List Int)} (hs:Sl M w a c l) {n:Nat} (hn:lng l=n):Calls Tryz.prog 130 #[.slice a l.length c] w fun e w'=>e= .returned (.int .i64 (n:Int))∧w'=w:=by
 have hll:=hs.le
 have HN:=Lib.hid hn
 have hL0:Hid (lng (l.take 0)=0):=rfl
 clear hn
 go_enter Tryz.func130,Tryz.ntmps130
 go_wp2
 go_loop [3,4] (fun v i=>∃k m:Nat,k≤l.length∧v= .int .i64 m∧i= .int .i64 k∧Hid (lng (l.take k)=m)) (fun _ i=>l.length-(intOf i).toNat)
 case atStart=>exact ⟨0,0,by omega,rfl,rfl,hL0⟩
 case round=>
  clear hL0
  obtain ⟨k,m,hk,rfl,rfl,hL⟩:=hrel
  by_cases hlt:k<l.length
  ·obtain ⟨b1,o1,ax,y,cx,rfl,hcx,hy,hsx⟩:=hs.at_row hlt
   have hyl:=hsx.le
   have hmx:max ((m:Nat):Int) ((y.length:Nat):Int)=((max m y.length:Nat):Int):=by omega
   have hL2:Hid (lng (l.take (k+1))=max m y.length):=by unfold Hid;rw [lng_take hy.out,hL.out]
   go_wp2
   all_goals
    go_round
    case rel=>exact ⟨k+1,max m y.length,by omega,by go_num,by go_num,hL2⟩
    case measure=>simp [intOf];omega
  have hr:=HN.out.symm.trans ((congrArg lng (List.take_of_length_le (by omega))).symm.trans hL.out)
  clear hL HN
  subst hr
  go_wp2
  go_ret
  exact ⟨rfl,rfl⟩
end
section
variable {M M':Nat→Prop} {w:World} {a b:Option Addr} {c d:Nat} {t:Tab}
theorem chkR_is {l:List Int} (h:Sl M w a c l) {n v:Int} (hv:wErr l n=v):Calls Tryz.prog 76 #[.slice a l.length c,.int .i64 n] w fun e w'=>e= .returned (.int .i64 v)∧w'=w:=
 (checkR1_any h n).mono fun e w' k=>⟨by rw [k.1,hv],k.2⟩
theorem cmpR_is {xs ys:List Int} (h1:Sl M w a c xs) (h2:Sl M' w b d ys) {v:Int} (hv:cmpW xs ys=v):Calls Tryz.prog 78 #[.slice a xs.length c,.slice b ys.length d] w fun e w'=>e= .returned (.int .i64 v)∧Below w.heap.size w w':=
 (cmpR_any (flz h1) (flz h2)).mono fun e w' k=>⟨by rw [k.1,hv],bel_drw k.2⟩
end
section
variable {M M':Nat→Prop} {w:World} {a b:Option Addr} {c d:Nat} {t:Tab}
theorem prefs_any (hT:Tm M w a c b d t) {er:Int} (her:fstE t.pfErr t.pre.length=er):
    Calls Tryz.prog 128 #[tmV t a c b d] w fun e w'=>e= .returned (.int .i64 er)∧Below w.heap.size w w':=by
 have hB0:=(Below.refl w.heap.size w).alloc (Nat.le_refl _) (tmO t a c b d)
 have hx0:X3 (w.alloc (tmO t a c b d)) w.heap.size t a c b d:=x3_new w t a c b d
 have hz0:w.heap.size<(w.alloc (tmO t a c b d)).heap.size:=by simp
 have hll:=hT.pre.le
 have HT:=Lib.hid (flz (hT.below hB0).pre)
 have HE:=Lib.hid her
 have hF0:Hid (fstE t.pfErr 0=0):=rfl
 clear hT her
 go_enter Tryz.func128,Tryz.ntmps128
 go_upto_region 1 with (fail)
 generalize w.alloc (tmO t a c b d)=w0 at*
 have HS:Hid (∀w',Below w0.heap.size w0 w'→X3 w' w.heap.size t a c b d∧Sl (fun _=>False) w' a c t.pre∧Below w.heap.size w w'):=fun w' hb=>⟨hx0.below hb hz0,HT.out.below hb,hB0.trans (hb.mono (by omega))⟩
 have hb0:=Below.refl w0.heap.size w0
 clear hx0 HT hB0
 go_wp2
 go_loopw [3] (fun i wr=>∃k:Nat,k≤t.pre.length∧i= .int .i64 k∧Hid (fstE t.pfErr k=0)∧Below w0.heap.size w0 wr) (fun i _=>t.pre.length-(intOf i).toNat)
 case atStart=>exact ⟨0,by omega,rfl,hF0,hb0⟩
 case round=>
  clear hF0 hb0
  obtain ⟨k,hk,rfl,hF,hB⟩:=hrel
  obtain ⟨w1,rfl⟩:∃w1:World,w1=wr:=⟨_,rfl⟩
  obtain ⟨⟨x0,x1,x2⟩,hsl,hBw⟩:=HS.out _ hB
  by_cases hlt:k<t.pre.length
  ·obtain ⟨b1,o1,ax,y,cx,rfl,hcx,hy,hsy⟩:=hsl.at_row hlt
   have hyl:=hsy.le
   have hycap:=hsy.1
   obtain ⟨we,hwe⟩:∃v,wErr y t.inputs=v:=⟨_,rfl⟩
   have HC:=Lib.hid (chkR_is hsy hwe)
   have HW:=Lib.hid hwe
   have HY:=Lib.hid hsy
   obtain ⟨n,hn⟩:∃n,y.length=n:=⟨_,rfl⟩
   have HN:=Lib.hid hn
   have HX:Hid (∀w',Below w1.heap.size w1 w'→X3 w' w.heap.size t (some ⟨b1,o1,none⟩) c b d∧Sl (fun _=>False) w' (some ⟨b1,o1,none⟩) c t.pre∧Below w.heap.size w w'∧Below w0.heap.size w0 w'):=fun w' hb=>by
    have h9:=HS.out _ (hB.trans (hb.mono hB.size))
    exact ⟨h9.1,h9.2.1,h9.2.2,hB.trans (hb.mono hB.size)⟩
   rw [hn] at hcx HC hyl hycap
   clear hwe hsy hn
   go_wp2_with fail
   refine (HC.out).mono ?_
   rintro e w2 ⟨rfl,hw2⟩
   obtain rfl:w1=w2:=hw2.symm
   clear HC
   by_cases hw0:we=0
   rotate_left
   ·have hwb:(we !=0)=true:=by simp [hw0]
    have hr:=HE.out.symm.trans (fst_hit hlt hF.out (Tab.pf_w hy.out HW.out hw0) hw0)
    clear hw0
    subst hr
    go_wp2
    go_ret
    exact ⟨rfl,hBw⟩
   have hwb:(we !=0)=false:=by simp [hw0]
   have HW0:Hid (wErr y t.inputs=0):=HW.out.trans hw0
   clear hw0 HW
   cases k with
   |zero=>
    cases n with
    |zero=>
     have hF2:Hid (fstE t.pfErr (0+1)=0):=fst_next hF.out ((Tab.pf_0 hy.out HW0.out).trans (if_pos (List.length_eq_zero_iff.1 HN.out)))
     clear hF
     go_wp2
     refine wp_quiet_fast (by kernel_rfl) (by kernel_rfl) ?_
     repeat (first|go_big_quiet_step (fail)|quiet_step (fail))
     refine wpQuiet_nil ?_
     intro _ hw'
     obtain ⟨nq,hw''⟩:=hw'
     subst hw''
     have hB2:=bl_drewN hB nq
     go_wp2
     go_roundw
     case rel=>exact ⟨1,by omega,by go_num,hF2,hB2⟩
     case measure=>simp [intOf];omega
    |succ m=>
     have hr:=HE.out.symm.trans (fst_hit hlt hF.out ((Tab.pf_0 hy.out HW0.out).trans (if_neg (fun e=>by have:=HN.out;rw [e] at this;simp at this))) (by decide))
     subst hr
     go_wp2
     go_ret
     exact ⟨rfl,hBw⟩
   |succ q=>
    obtain ⟨b2,o2,au,u,cu,he,hcu,hu,hsu⟩:=((HX.out _ (Below.refl _ _)).2.1).at_row (show q<t.pre.length by omega)
    simp only [Option.some.injEq,Addr.mk.injEq,and_true] at he
    obtain ⟨rfl,rfl⟩:=he
    have hul:=hsu.le
    have hwq:IntKind.i64.wrap (q:Int)=(q:Int):=IntWalk.i64_in _ (by omega)
    have hq0:(0:Int)<(q:Int)+1:=by omega
    have hql:q<t.pre.length:=by omega
    obtain ⟨z,hz⟩:∃z,cmpW u y=z:=⟨_,rfl⟩
    have HC:=Lib.hid (cmpR_is hsu HY.out hz)
    have HZ:=Lib.hid hz
    rw [HN.out] at HC
    clear hsu hz
    go_wp2_with fail
    refine (HC.out).mono ?_
    rintro e w3 ⟨rfl,hb3⟩
    obtain ⟨⟨y0,y1,y2⟩,hsl3,hBw3,hB3⟩:=HX.out _ hb3
    have HY3:=Lib.hid (HY.out.below hb3)
    clear HC hBw x0 x1 x2 hsl hb3 hB
    by_cases hzn:0≤z
    ·have hzd:decide (0≤z)=true:=decide_eq_true hzn
     have hr:=HE.out.symm.trans (fst_hit hlt hF.out (Tab.pf_c hu.out hy.out HW0.out (by rw [HZ.out];exact hzn)) (by decide))
     subst hr
     go_wp2
     go_ret
     exact ⟨rfl,hBw3⟩
    have hzd:decide (0≤z)=false:=decide_eq_false hzn
    have HP:=Lib.hid (Tab.pf_d hu.out hy.out HW0.out (by rw [HZ.out];exact hzn))
    clear hzn
    cases n with
    |zero=>
     have hF2:Hid (fstE t.pfErr (q+1+1)=0):=fst_next hF.out (HP.out.trans (if_neg (fun e=>e.1 (List.length_eq_zero_iff.1 HN.out))))
     clear hF
     go_wp2
     refine wp_quiet_fast (by kernel_rfl) (by kernel_rfl) ?_
     repeat (first|go_big_quiet_step (fail)|quiet_step (fail))
     refine wpQuiet_nil ?_
     intro _ hw'
     obtain ⟨nq,hw''⟩:=hw'
     subst hw''
     have hB2:=bl_drewN hB3 nq
     go_wp2
     go_roundw
     case rel=>exact ⟨q+1+1,by omega,by go_num,hF2,hB2⟩
     case measure=>simp [intOf];omega
    |succ m=>
     have hne:Hid (y≠[]):=fun e=>by have:=HN.out;rw [e] at this;simp at this
     have hdl:Hid (y.dropLast=y.take m):=by unfold Hid;rw [List.dropLast_eq_take,HN.out];rfl
     obtain ⟨v,hv⟩:∃v:Bool,decide (y.take m∈t.pre)=v:=⟨_,rfl⟩
     have hwm:IntKind.i64.wrap (m:Int)=(m:Int):=IntWalk.i64_in _ (by omega)
     have HH:Hid (∀nq,Calls Tryz.prog 194 #[.slice (some ⟨b1,o1,none⟩) t.pre.length c,.slice ax m cx] (w3.drewN nq) fun e w'=>e= .returned (.bool v)∧Hid (∃n,w'=(w3.drewN nq).drewN n)):=fun nq=>by
      have h9:=has02_any (hsl3.drewN nq) ((HY3.out.taken (n:=m) (by rw [HN.out];omega)).drewN nq) hv
      rw [List.length_take,HN.out,Nat.min_eq_left (by omega)] at h9
      exact h9
     have hmc:m≤cx:=by omega
     go_wp2
     refine wp_quiet_fast (by kernel_rfl) (by kernel_rfl) ?_
     repeat (first|go_big_quiet_step ((go_at_call 194;exact Calls.quiet_of ((HH.out _).mono fun e w' k=>⟨k.1,k.2.out⟩)))|quiet_step ((go_at_call 194;exact Calls.quiet_of ((HH.out _).mono fun e w' k=>⟨k.1,k.2.out⟩))))
     refine wpQuiet_nil ?_
     intro _ hw'
     obtain ⟨nq,hw''⟩:=hw'
     subst hw''
     have hB2:=bl_drewN hB3 nq
     have hBw2:=bl_drewN hBw3 nq
     cases v with
     |true=>
      have hF2:Hid (fstE t.pfErr (q+1+1)=0):=fst_next hF.out (HP.out.trans (if_neg (fun e=>e.2 (by rw [hdl.out];exact of_decide_eq_true hv))))
      clear hF hv
      go_wp2
      go_roundw
      case rel=>exact ⟨q+1+1,by omega,by go_num,hF2,hB2⟩
      case measure=>simp [intOf];omega
     |false=>
      have hr:=HE.out.symm.trans (fst_hit hlt hF.out (HP.out.trans (if_pos ⟨hne.out,by rw [hdl.out];exact of_decide_eq_false hv⟩)) (by decide))
      clear hv
      subst hr
      go_wp2
      go_ret
      exact ⟨rfl,hBw2⟩
  have hr:=HE.out.symm.trans ((congrArg (fstE t.pfErr) (show t.pre.length=k by omega)).trans hF.out)
  subst hr
  go_wp2
  go_ret
  exact ⟨rfl,hBw⟩
end
section
variable {M M':Nat→Prop} {w:World} {a b:Option Addr} {c d:Nat} {t:Tab}
def sufR (t:Tab) (er:Int):Prop:=(fstE t.sfErr t.suf.length=er∧er≠0)∨(fstE t.sfErr t.suf.length=0∧((t.single∧er=0)∨(¬t.single∧er=1)))
def SufR (t:Tab) (w:World) (e:Ending) (w':World):Prop:=∃er,e= .returned (.int .i64 er)∧Hid (sufR t er)∧Below w.heap.size w w'
theorem one_new (w:World) {x:Int} (hx:i64 x) {M:Nat→Prop} (hM:¬M w.heap.size):Sl M (w.alloc (.cells #[.int .i64 x] 3)) (some ⟨w.heap.size,0,none⟩) 1 [x]:=
 Sl.lit (heap_alloc_new _ _) rfl hM (fun y hy=>by rw [List.mem_singleton.1 hy];exact hx) rfl (by unfold maxLen;omega)
theorem sufs_any (hT:Tm M w a c b d t) (hI:Hid (t.inputs≤64)):
    Calls Tryz.prog 129 #[tmV t a c b d] w (SufR t w):=by
 have hB0:=(Below.refl w.heap.size w).alloc (Nat.le_refl _) (tmO t a c b d)
 have hx0:X3 (w.alloc (tmO t a c b d)) w.heap.size t a c b d:=x3_new w t a c b d
 have hz0:w.heap.size<(w.alloc (tmO t a c b d)).heap.size:=by simp
 have hll:=hT.suf.le
 have HT:=Lib.hid (flz (hT.below hB0).suf)
 have hF0:Hid (fstE t.sfErr 0=0):=rfl
 clear hT
 go_enter Tryz.func129,Tryz.ntmps129
 go_upto_region 1 with (fail)
 generalize w.alloc (tmO t a c b d)=w0 at*
 have HS:Hid (∀w',Below w0.heap.size w0 w'→X3 w' w.heap.size t a c b d∧Sl (fun _=>False) w' b d t.suf∧Below w.heap.size w w'):=fun w' hb=>⟨hx0.below hb hz0,HT.out.below hb,hB0.trans (hb.mono (by omega))⟩
 have hb0:=Below.refl w0.heap.size w0
 clear hx0 HT hB0
 go_wp2
 go_loopw [3] (fun i wr=>∃k:Nat,k≤t.suf.length∧i= .int .i64 k∧Hid (fstE t.sfErr k=0)∧Below w0.heap.size w0 wr) (fun i _=>t.suf.length-(intOf i).toNat)
 case atStart=>exact ⟨0,by omega,rfl,hF0,hb0⟩
 case round=>
  clear hF0 hb0
  obtain ⟨k,hk,rfl,hF,hB⟩:=hrel
  obtain ⟨w1,rfl⟩:∃w1:World,w1=wr:=⟨_,rfl⟩
  obtain ⟨⟨x0,x1,x2⟩,hsl,hBw⟩:=HS.out _ hB
  by_cases hlt:k<t.suf.length
  ·obtain ⟨b1,o1,ax,y,cx,rfl,hcx,hy,hsy⟩:=hsl.at_row hlt
   have hyl:=hsy.le
   have hycap:=hsy.1
   obtain ⟨we,hwe⟩:∃v,wErr y t.inputs=v:=⟨_,rfl⟩
   have HC:=Lib.hid (chkR_is hsy hwe)
   have HW:=Lib.hid hwe
   have HY:=Lib.hid hsy
   obtain ⟨n,hn⟩:∃n,y.length=n:=⟨_,rfl⟩
   have HN:=Lib.hid hn
   have HX:Hid (∀w',Below w1.heap.size w1 w'→X3 w' w.heap.size t a c (some ⟨b1,o1,none⟩) d∧Sl (fun _=>False) w' (some ⟨b1,o1,none⟩) d t.suf∧Below w.heap.size w w'∧Below w0.heap.size w0 w'):=fun w' hb=>by
    have h9:=HS.out _ (hB.trans (hb.mono hB.size))
    exact ⟨h9.1,h9.2.1,h9.2.2,hB.trans (hb.mono hB.size)⟩
   rw [hn] at hcx HC hyl hycap
   clear hwe hsy hn
   go_wp2_with fail
   refine (HC.out).mono ?_
   rintro e w2 ⟨rfl,hw2⟩
   obtain rfl:w1=w2:=hw2.symm
   clear HC
   by_cases hw0:we=0
   rotate_left
   ·have hwb:(we !=0)=true:=by simp [hw0]
    have hr:Hid (sufR t we):= .inl ⟨fst_hit hlt hF.out (Tab.sf_w hy.out HW.out hw0) hw0,hw0⟩
    clear hw0
    go_wp2
    go_ret
    exact ⟨_,rfl,hr,hBw⟩
   have hwb:(we !=0)=false:=by simp [hw0]
   have HW0:Hid (wErr y t.inputs=0):=HW.out.trans hw0
   clear hw0 HW
   cases n with
   |zero=>
    have hr:Hid (sufR t 19):= .inl ⟨fst_hit hlt hF.out (Tab.sf_e hy.out HW0.out (List.length_eq_zero_iff.1 HN.out)) (by decide),by decide⟩
    go_wp2
    go_ret
    exact ⟨_,rfl,hr,hBw⟩
   |succ m=>
   have hne:Hid (y≠[]):=fun e=>by have:=HN.out;rw [e] at this;simp at this
   cases k with
   |zero=>
    have hF2:Hid (fstE t.sfErr (0+1)=0):=fst_next hF.out (Tab.sf_0 hy.out HW0.out hne.out)
    clear hF
    go_wp2
    go_roundw
    case rel=>exact ⟨1,by omega,by go_num,hF2,hB⟩
    case measure=>simp [intOf];omega
   |succ q=>
    obtain ⟨b2,o2,au,u,cu,he,hcu,hu,hsu⟩:=((HX.out _ (Below.refl _ _)).2.1).at_row (show q<t.suf.length by omega)
    simp only [Option.some.injEq,Addr.mk.injEq,and_true] at he
    obtain ⟨rfl,rfl⟩:=he
    have hul:=hsu.le
    have hwq:IntKind.i64.wrap (q:Int)=(q:Int):=IntWalk.i64_in _ (by omega)
    have hq0:(0:Int)<(q:Int)+1:=by omega
    have hql:q<t.suf.length:=by omega
    obtain ⟨z,hz⟩:∃z,cmpW u y=z:=⟨_,rfl⟩
    have HC:=Lib.hid (cmpR_is hsu HY.out hz)
    have HZ:=Lib.hid hz
    rw [HN.out] at HC
    clear hsu hz
    go_wp2_with fail
    refine (HC.out).mono ?_
    rintro e w3 ⟨rfl,hb3⟩
    obtain ⟨-, -,hBw3,hB3⟩:=HX.out _ hb3
    clear HC hBw x0 x1 x2 hsl hb3 hB
    by_cases hzn:0≤z
    ·have hzd:decide (0≤z)=true:=decide_eq_true hzn
     have hr:Hid (sufR t 10):= .inl ⟨fst_hit hlt hF.out ((Tab.sf_c hu.out hy.out HW0.out hne.out).trans (if_pos (by rw [HZ.out];exact hzn))) (by decide),by decide⟩
     go_wp2
     go_ret
     exact ⟨_,rfl,hr,hBw3⟩
    have hzd:decide (0≤z)=false:=decide_eq_false hzn
    have hF2:Hid (fstE t.sfErr (q+1+1)=0):=fst_next hF.out ((Tab.sf_c hu.out hy.out HW0.out hne.out).trans (if_neg (by rw [HZ.out];exact hzn)))
    clear hF
    go_wp2
    go_roundw
    case rel=>exact ⟨q+1+1,by omega,by go_num,hF2,hB3⟩
    case measure=>simp [intOf];omega
  have hFF:Hid (fstE t.sfErr t.suf.length=0):=by rw [show t.suf.length=k by omega];exact hF
  have hS0:Hid (∀b:Nat,b<0→[(b:Int)]∈t.suf):=fun b hb=>by omega
  clear hF hsl hBw
  go_wp2
  go_loopw [6] (fun i wr=>∃q:Nat,q≤t.inputs.toNat∧i= .int .i64 q∧Hid (∀b:Nat,b<q→[(b:Int)]∈t.suf)∧Below w0.heap.size w0 wr) (fun i _=>t.inputs.toNat-(intOf i).toNat)
  case atStart=>exact ⟨0,by omega,rfl,hS0,hB⟩
  case round=>
   clear hS0 hB x0 x1 x2
   obtain ⟨q,hq,rfl,hS,hB⟩:=hrel
   obtain ⟨w1,rfl⟩:∃w1:World,w1=wr:=⟨_,rfl⟩
   obtain ⟨⟨x0,x1,x2⟩,hsl,hBw⟩:=HS.out _ hB
   by_cases hq1:(q:Int)<t.inputs
   ·have hI2:=hI.out
    have hqi:i64 (q:Int):=by unfold i64;omega
    have hq64:(q:Int)<64:=by omega
    have hb2:=(Below.refl w1.heap.size w1).alloc (Nat.le_refl _) (.cells #[.int .i64 (q:Int)] 3)
    have hB2:=hB.trans (hb2.mono hB.size)
    obtain ⟨-,hsl2, -⟩:=HS.out _ hB2
    obtain ⟨v,hv⟩:∃v:Bool,decide ([(q:Int)]∈t.suf)=v:=⟨_,rfl⟩
    have HC:=Lib.hid (has02_any hsl2 (one_new w1 (M:=fun _=>False) hqi id) hv)
    have HV:=Lib.hid hv
    clear hv hsl2 hb2 hI2
    go_wp2_with fail
    refine (HC.out).mono ?_
    rintro e w3 ⟨rfl,hD3⟩
    have hB3:=hB2.trans ((bel_drw hD3).mono hB2.size)
    have hBw3:=(HS.out _ hB3).2.2
    clear HC hD3 hB2 x0 x1 x2 hsl hBw hB
    cases v with
    |true=>
     have hS2:Hid (∀b:Nat,b<q+1→[(b:Int)]∈t.suf):=fun b hb=>by
      by_cases e:b=q
      ·subst e;exact of_decide_eq_true HV.out
      exact hS.out b (by omega)
     clear hS
     go_wp2
     go_roundw
     case rel=>exact ⟨q+1,by omega,by go_num,hS2,hB3⟩
     case measure=>simp [intOf];omega
    |false=>
     have hr:Hid (sufR t 1):= .inr ⟨hFF.out,.inr ⟨fun h=>of_decide_eq_false HV.out (h q hq1),rfl⟩⟩
     go_wp2
     go_ret
     exact ⟨_,rfl,hr,hBw3⟩
   have hr:Hid (sufR t 0):= .inr ⟨hFF.out,.inl ⟨fun b hb=>hS.out b (by omega),rfl⟩⟩
   go_wp2
   go_ret
   exact ⟨_,rfl,hr,hBw⟩
end
section
variable {M M':Nat→Prop} {w:World} {a b:Option Addr} {c d:Nat} {t:Tab}
theorem fit_b {p s:Nat} {i:Int} (hp:p≤10000) (hs:s≤10000) (h1:1≤i) (h2:i≤64):(0≤(p:Int)*(i+1)∧(p:Int)*(i+1)≤650000)∧0≤(p:Int)*(i+1)*s∧(p:Int)*(i+1)*s≤6500000000:=by
 have a1:0≤(p:Int)*(i+1):=Int.mul_nonneg (by omega) (by omega)
 have a2:(p:Int)*(i+1)≤10000*65:=Int.mul_le_mul (by omega) (by omega) (by omega) (by omega)
 have a3:0≤(p:Int)*(i+1)*s:=Int.mul_nonneg a1 (by omega)
 have a4:(p:Int)*(i+1)*s≤650000*10000:=Int.mul_le_mul (by omega) (by omega) (by omega) (by omega)
 omega
theorem tvalidR_any (hT:Tm M w a c b d t) {er:Int} (her:t.err=er):
    Calls Tryz.prog 80 #[tmV t a c b d] w fun e w'=>e= .returned (.int .i64 er)∧Below w.heap.size w w':=by
 have hB0:=(Below.refl w.heap.size w).alloc (Nat.le_refl _) (tmO t a c b d)
 have hx0:X3 (w.alloc (tmO t a c b d)) w.heap.size t a c b d:=x3_new w t a c b d
 have hz0:w.heap.size<(w.alloc (tmO t a c b d)).heap.size:=by simp
 have hll:=hT.pre.le
 have hl2:=hT.suf.le
 have HT:=Lib.hid (hT.below hB0)
 have HE:=Lib.hid her
 clear hT her
 go_enter Tryz.func80,Tryz.ntmps80
 go_upto_region 1 with (fail)
 generalize w.alloc (tmO t a c b d)=w0 at*
 have HS:Hid (∀w',Below w0.heap.size w0 w'→X3 w' w.heap.size t a c b d∧Tm M w' a c b d t∧Below w.heap.size w w'):=fun w' hb=>⟨hx0.below hb hz0,HT.out.below hb,hB0.trans (hb.mono (by omega))⟩
 have hb0:=Below.refl w0.heap.size w0
 clear HT
 obtain ⟨x0,x1,x2⟩:=hx0
 by_cases h1:t.inputs<1
 ·have hr:=HE.out.symm.trans (Tab.err_2 (fun h=>by have:=h.1;omega))
  subst hr
  go_wp2
  go_ret
  exact ⟨rfl,hB0⟩
 by_cases h2:64<t.inputs
 ·have hr:=HE.out.symm.trans (Tab.err_2 (fun h=>by have:=h.2;omega))
  subst hr
  go_wp2
  go_ret
  exact ⟨rfl,hB0⟩
 have hIB:Hid t.inB:=⟨by omega,by omega⟩
 obtain ⟨np,hnp⟩:∃n,t.pre.length=n:=⟨_,rfl⟩
 obtain ⟨ns,hns⟩:∃n,t.suf.length=n:=⟨_,rfl⟩
 have HNP:=Lib.hid hnp
 have HNS:=Lib.hid hns
 have HC1:Hid (∀w',Below w0.heap.size w0 w'→∀v,fstE t.pfErr np=v→Calls Tryz.prog 128 #[.agg #[.int .i64 t.inputs,.slice a np c,.slice b ns d]] w' fun e w''=>e= .returned (.int .i64 v)∧Below w'.heap.size w' w''):=fun w' hb v hv=>by
  rw [←hnp,←hns];exact prefs_any (HS.out _ hb).2.1 (by rw [hnp];exact hv)
 have HC2:Hid (∀w',Below w0.heap.size w0 w'→Calls Tryz.prog 129 #[.agg #[.int .i64 t.inputs,.slice a np c,.slice b ns d]] w' (SufR t w')):=fun w' hb=>by
  rw [←hnp,←hns];exact sufs_any (HS.out _ hb).2.1 (by unfold Hid;omega)
 have HC3:Hid (∀w',Below w0.heap.size w0 w'→Calls Tryz.prog 130 #[.slice a np c] w' fun e w''=>e= .returned (.int .i64 ((lng t.pre:Nat):Int))∧w''=w'):=fun w' hb=>by
  rw [←hnp];exact lngR_any (HS.out _ hb).2.1.pre rfl
 have HC4:Hid (∀w',Below w0.heap.size w0 w'→Calls Tryz.prog 130 #[.slice b ns d] w' fun e w''=>e= .returned (.int .i64 ((lng t.suf:Nat):Int))∧w''=w'):=fun w' hb=>by
  rw [←hns];exact lngR_any (HS.out _ hb).2.1.suf rfl
 have HX:Hid (∀w',Below w0.heap.size w0 w'→(w'.cell? ⟨w.heap.size,0,none⟩=some (.int .i64 t.inputs)∧w'.cell? ⟨w.heap.size,1,none⟩=some (.slice a np c)∧w'.cell? ⟨w.heap.size,2,none⟩=some (.slice b ns d))∧Below w.heap.size w w'):=fun w' hb=>by
  rw [←hnp,←hns];exact ⟨(HS.out _ hb).1,(HS.out _ hb).2.2⟩
 rw [hnp] at x1 hll
 rw [hns] at x2 hl2
 clear hnp hns
 cases np with
 |zero=>
  have hr:=HE.out.symm.trans (Tab.err_19 hIB.out HNP.out)
  subst hr
  go_wp2
  go_ret
  exact ⟨rfl,hB0⟩
 |succ np=>
 have h0:Hid (¬t.pre.length=0):=by unfold Hid;rw [HNP.out];omega
 by_cases h3:10000<np+1
 ·have hr:=HE.out.symm.trans (Tab.err_11 hIB.out h0.out (fun h=>by have:=h.1;rw [HNP.out] at this;omega))
  have h3d:(10000:Int)<(np:Int)+1:=by omega
  subst hr
  go_wp2
  go_ret
  exact ⟨rfl,hB0⟩
 have h3d:¬(10000:Int)<(np:Int)+1:=by omega
 by_cases h4:10000<ns
 ·have hr:=HE.out.symm.trans (Tab.err_11 hIB.out h0.out (fun h=>by have:=h.2.1;rw [HNS.out] at this;omega))
  have h4d:(10000:Int)<(ns:Int):=by omega
  subst hr
  go_wp2
  go_ret
  exact ⟨rfl,hB0⟩
 have h4d:¬(10000:Int)<(ns:Int):=by omega
 obtain ⟨A,hA⟩:∃A:Int,((np:Int)+1)*(t.inputs+1)=A:=⟨_,rfl⟩
 obtain ⟨Z,hZ⟩:∃Z:Int,A*(ns:Int)=Z:=⟨_,rfl⟩
 have hfb:=fit_b (p:=np+1) (s:=ns) (i:=t.inputs) (by omega) (by omega) (by omega) (by omega)
 have hZe:Hid ((t.pre.length:Int)*(t.inputs+1)*t.suf.length=Z):=by unfold Hid;rw [HNP.out,HNS.out,←hZ,←hA];rfl
 rw [show (((np+1:Nat):Int))=(np:Int)+1 from rfl,hA,hZ] at hfb
 have hw1:IntKind.i64.wrap (t.inputs+1)=t.inputs+1:=IntWalk.i64_in _ (by omega)
 have hw2:IntKind.i64.wrap A=A:=IntWalk.i64_in _ (by omega)
 have hw3:IntKind.i64.wrap Z=Z:=IntWalk.i64_in _ (by omega)
 by_cases h5:160000<Z
 ·have hr:=HE.out.symm.trans (Tab.err_11 hIB.out h0.out (fun h=>by have:=h.2.2;rw [hZe.out] at this;omega))
  subst hr
  clear hfb
  go_wp2
  go_ret
  exact ⟨rfl,hB0⟩
 have hHd:Hid t.hd:=⟨hIB.out,h0.out,by rw [HNP.out];omega,by rw [HNS.out];omega,by rw [hZe.out];omega⟩
 obtain ⟨pe,hpe⟩:∃v,fstE t.pfErr (np+1)=v:=⟨_,rfl⟩
 have HC:=Lib.hid (HC1.out _ hb0 _ hpe)
 have HP:Hid (fstE t.pfErr t.pre.length=pe):=by unfold Hid;rw [HNP.out];exact hpe
 clear hfb hpe HC1
 go_wp2_with fail
 refine (HC.out).mono ?_
 rintro e w1 ⟨rfl,hb1⟩
 obtain ⟨⟨y0,y1,y2⟩,hBw1⟩:=HX.out _ hb1
 clear x0 x1 x2 HC hB0
 by_cases hp0:pe=0
 rotate_left
 ·have hpb:(pe !=0)=true:=by simp [hp0]
  have hr:=HE.out.symm.trans (Tab.err_p hHd.out HP.out hp0)
  clear hp0
  subst hr
  go_wp2
  go_ret
  exact ⟨rfl,hBw1⟩
 have hpb:(pe !=0)=false:=by simp [hp0]
 have HP0:=Lib.hid (HP.out.trans hp0)
 have HC:=Lib.hid (HC2.out _ hb1)
 clear hp0 HP HC2
 go_wp2_with fail
 refine (HC.out).mono ?_
 rintro e w2 ⟨se,rfl,hse,hb2⟩
 have hb12:=hb1.trans (hb2.mono hb1.size)
 obtain ⟨⟨z0,z1,z2⟩,hBw2⟩:=HX.out _ hb12
 clear y0 y1 y2 HC hBw1 hb2
 by_cases hs0:se=0
 rotate_left
 ·have hsb:(se !=0)=true:=by simp [hs0]
  have hr:er=se:=HE.out.symm.trans (by
   rcases hse.out with ⟨e1,e2⟩|⟨e1,⟨e2,e3⟩|⟨e2,e3⟩⟩
   ·exact Tab.err_s hHd.out HP0.out e1 e2
   ·exact absurd e3 hs0
   rw [e3];exact Tab.err_1 hHd.out HP0.out e1 e2)
  clear hs0
  subst hr
  go_wp2
  go_ret
  exact ⟨rfl,hBw2⟩
 have hsb:(se !=0)=false:=by simp [hs0]
 have hss:Hid (fstE t.sfErr t.suf.length=0∧t.single):=by
  rcases hse.out with ⟨e1,e2⟩|⟨e1,⟨e2,e3⟩|⟨e2,e3⟩⟩
  ·exact absurd hs0 e2
  ·exact ⟨e1,e2⟩
  omega
 have HR:=Lib.hid (HE.out.symm.trans (Tab.err_e hHd.out HP0.out hss.out.1 hss.out.2))
 have HC5:Hid (∀q,Calls Tryz.prog 130 #[.slice a (np+1) c] (w2.drewN q) fun e w''=>e= .returned (.int .i64 ((lng t.pre:Nat):Int))∧w''=w2.drewN q):=fun q=>HC3.out _ (bl_drewN hb12 q)
 have HC6:Hid (∀q,Calls Tryz.prog 130 #[.slice b ns d] (w2.drewN q) fun e w''=>e= .returned (.int .i64 ((lng t.suf:Nat):Int))∧w''=w2.drewN q):=fun q=>HC4.out _ (bl_drewN hb12 q)
 obtain ⟨m1,hm1⟩:∃m,lng t.pre=m:=⟨_,rfl⟩
 obtain ⟨m2,hm2⟩:∃m,lng t.suf=m:=⟨_,rfl⟩
 have hm1b:m1≤1024:=by rw [←hm1];exact Tab.lng_1024 (Tab.pre_len HP0.out)
 have hm2b:m2≤1024:=by rw [←hm2];exact Tab.lng_1024 (Tab.suf_len hss.out.1)
 rw [hm1] at HC5
 rw [hm2] at HC6
 rw [hm1,hm2] at HR
 have hws:IntKind.i64.wrap ((m1:Int)+(m2:Int))=(m1:Int)+(m2:Int):=IntWalk.i64_in _ (by omega)
 clear hse hs0 hm1 hm2 HC3 HC4
 go_wp2
 refine wp_quiet_fast (by kernel_rfl) (by kernel_rfl) ?_
 repeat (first|go_big_quiet_step ((go_at_call 130;first|with_reducible exact Calls.quiet_of_same (HC5.out _)|with_reducible exact Calls.quiet_of_same (HC6.out _)))|quiet_step ((go_at_call 130;first|with_reducible exact Calls.quiet_of_same (HC5.out _)|with_reducible exact Calls.quiet_of_same (HC6.out _))))
 refine wpQuiet_nil ?_
 intro _ hw'
 obtain ⟨nq,hw''⟩:=hw'
 subst hw''
 have hBf:=bl_drewN hBw2 nq
 by_cases h6:1023<m1+m2
 ·have hr:=HR.out.trans (if_pos h6)
  have h6d:(1023:Int)<(m1:Int)+(m2:Int):=by omega
  subst hr
  go_wp2
  go_ret
  exact ⟨rfl,hBf⟩
 have hr:=HR.out.trans (if_neg h6)
 have h6d:¬(1023:Int)<(m1:Int)+(m2:Int):=by omega
 subst hr
 go_wp2
 go_ret
 exact ⟨rfl,hBf⟩
end
end Go.Proofs.YtjmbphjgiodioaaGreatDoor
