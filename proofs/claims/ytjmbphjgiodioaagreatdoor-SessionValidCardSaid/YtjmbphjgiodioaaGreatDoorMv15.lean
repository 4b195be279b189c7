/- Several texts, one behind the other. Conditions: as each of them says. -/
import Derived.Test.YtjmbphjgiodioaaGreatDoorMv7
import Derived.Test.YtjmbphjgiodioaaGreatDoorMv4
import Derived.Test.YtjmbphjgiodioaaGreatDoorMv3
import Derived.Test.YtjmbphjgiodioaaGreatDoorMv1
set_option maxRecDepth 100000
set_option maxHeartbeats 32000000
namespace Go.Proofs.YtjmbphjgiodioaaGreatDoor
open Go.RowKit
section
variable {P:Program} {w:World} {o:Oper} {a:Act} {ops:Array Oper} {rest:List Oper} {Q:Exit→Act→World→Prop}
theorem wp_push_q {K:Act→World→Prop} {l:List Int} {s x:Operand} {t e:TypeId} {B:Nat} {M:Nat→Prop} {v:Value} {g:Nat} {c:Nat} {y:Int} (hop:o.op= .call {callee:= .builtin .append,args:= #[s,x],argTypes:= #[t,t]})
    (ht:P.underlying t=some (.slice e)) (hi:(P.info? e).map (fun i=>(i.zero,i.size,i.bytes))=some (some (.int .i64 0),1,8))
    (hs:a.eval s=v) (hx:a.eval x= .slice (some ⟨g,0,none⟩) 1 c) (hown:Ow B M w e v l) (hnew:w.cell? ⟨g,0,none⟩=some (.int .i64 y)) (hy:i64 y)
    (hlen:l.length<1000000000000) (hB:B≤w.heap.size)
    (h:∀(a':Option Addr) (c':Nat) (l':List Int) (w':World),Hid (l'=l++[y])→Ow B M w' e (.slice a' l'.length c') l'→Below B w w'→K (a.put o.dst (.slice a' l'.length c')) w'):o.wp P a w K Q:=
 wp_push_o hop ht hi hs hx hown hnew hy hlen hB fun a' c' l' w' h1 h2 _ h4=>h a' c' l' w' h1 h2 (Below.grown (Below.refl B w) h4 hB fun k hk=>(hown.lt k hk).1)
end
section
variable {M M':Nat→Prop} {w:World} {an ao a:Option Addr} {cn co c:Nat} {m:Mach}
theorem ret_li {a:Option Addr} {n c:Nat} {x y:Int} (h:x=y):Ending.returned (.tuple #[.slice a n c,.int .i64 x])= .returned (.tuple #[.slice a n c,.int .i64 y]):=by rw [h]
theorem outsR_any {l:List Int} {s:Int} (hm:Ma M w an cn ao co m) (hw:Sl M' w a c l) (ok:Hid m.Ok) (hs:Hid (0≤s∧s<m.next.length)) (hok:Hid (m.okS l)) (hl:l.length<1000000000):
    Calls Tryz.prog 83 #[maV m an cn ao co,.int .i64 s,.slice a l.length c] w fun e w'=>∃(a':Option Addr) (c':Nat) (l':List Int),e= .returned (.tuple #[.slice a' l'.length c',.int .i64 (m.endW s l)])∧Hid (l'=m.outsW s l)∧
     Sl (fun k=>k<w.heap.size) w' a' c' l'∧Below w.heap.size w w':=by
 have hll:=hw.le
 have n1:=ok.out.n1
 have i1:=ok.out.i1
 have HM:=Lib.hid hm
 have HS:=Lib.hid hw
 have hB0:=(Below.refl w.heap.size w).alloc (Nat.le_refl _) (maO m an cn ao co)
 have hx0:C4 (w.alloc (maO m an cn ao co)) w.heap.size an cn ao co m:=c4_new w
 have hO0:Ow (α:=Int) (w.heap.size+1) (fun k=>w.heap.size≤k) (w.alloc (maO m an cn ao co)) 3 (.slice none 0 0) []:=Ow.nil
 have hz0:w.heap.size+1≤(w.alloc (maO m an cn ao co)).heap.size:=by simp
 have hb0:=Below.refl (w.heap.size+1) (w.alloc (maO m an cn ao co))
 clear hm hw
 go_enter Tryz.func83,Tryz.ntmps83
 go_wp2
 generalize w.alloc (maO m an cn ao co)=w0 at*
 go_loopw [1,8,9] (fun st v i wr=>∃(k:Nat) (a':Option Addr) (c':Nat) (l':List Int),k≤l.length∧i= .int .i64 k∧st= .int .i64 (m.endW s (l.take k))∧v= .slice a' l'.length c'∧Hid (l'=m.outsW s (l.take k))∧
  Ow (w.heap.size+1) (fun k=>w.heap.size≤k) wr 3 (.slice a' l'.length c') l'∧Below (w.heap.size+1) w0 wr) (fun _ _ i _=>l.length-(intOf i).toNat)
 case atStart=>exact ⟨0,none,0,[],by omega,rfl,rfl,rfl,rfl,hO0,hb0⟩
 case round=>
  clear hO0 hb0
  obtain ⟨k,a2,c2,l2,hk,rfl,rfl,rfl,hl2,hO,hb⟩:=hrel
  obtain ⟨w1,rfl⟩:∃w1:World,w1=wr:=⟨_,rfl⟩
  have hx:=hx0.below hb (by omega)
  have hB:=hB0.trans (hb.mono (by omega))
  have hsz:w.heap.size+1≤w1.heap.size:=by have:=hb.size;omega
  have hr:=Mach.endW_range ok.out (l.take k) s hs.out.1 hs.out.2 (Mach.okS_take hok.out k)
  obtain ⟨sn,hsn⟩:=Int.eq_ofNat_of_zero_le hr.1
  rw [hsn] at hr
  have HSN:=Lib.hid hsn
  rw [hsn]
  clear hsn
  by_cases hlt:k<l.length
  ·obtain ⟨bl,ol,x,rfl,hxc,hxk, -⟩:=HS.out.at_int hlt
   obtain ⟨x0,x1⟩:=hok.out x (List.mem_of_getElem? hxk.out)
   obtain ⟨xn,rfl⟩:=Int.eq_ofNat_of_zero_le x0
   have hsn2:sn<m.next.length:=by omega
   have hxn:xn<m.inputs.toNat:=by omega
   obtain ⟨bn,on,bo,oo,rfl,rfl⟩:=HM.out.addr ok.out
   obtain ⟨b1,o1,d1,r1,b2,o2,d2,r2,nn,y,hn1,hn2,hn3,hn4,hn5,hy0,hy1,hnx,hot,hr1,hr2,hr3,hr4⟩:=HM.out.atS ok.out hsn2 hxn
   have hle2:=Lib.hid (show l2.length≤k by rw [hl2.out,Mach.outsW_len,List.length_take];omega)
   have hl3:Hid (l2++[y]=m.outsW s (l.take (k+1))):=by
    unfold Hid;rw [Mach.take_step hxk.out,Mach.outsW_snoc,HSN.out,←hl2.out];simp [hot.out]
   have he3:Hid (((nn:Nat):Int)=m.endW s (l.take (k+1))):=by
    unfold Hid;rw [Mach.take_step hxk.out,Mach.endW_snoc,HSN.out];simp [hnx.out]
   have hso:sn<m.out.length:=by rw [ok.out.lo];exact hsn2
   have HK:Hid (∀w',Below w.heap.size w w'→(w'.cell? ⟨bl,ol+k,none⟩=some (.int .i64 xn)∧w'.cell? ⟨bo,oo+sn,none⟩=some (.slice (some ⟨b2,o2,none⟩) r2 d2)∧w'.cell? ⟨b2,o2+xn,none⟩=some (.int .i64 y))∧w'.cell? ⟨bn,on+sn,none⟩=some (.slice (some ⟨b1,o1,none⟩) r1 d1)∧w'.cell? ⟨b1,o1+xn,none⟩=some (.int .i64 nn)):=fun w' hb'=>
    ⟨⟨(hb'.cell (p:=⟨bl,ol+k,none⟩) (lt_of_cell hxc)).trans hxc,(hb'.cell (p:=⟨bo,oo+sn,none⟩) (lt_of_cell hn2)).trans hn2,(hb'.cell (p:=⟨b2,o2+xn,none⟩) (lt_of_cell hn4)).trans hn4⟩,(hb'.cell (p:=⟨bn,on+sn,none⟩) (lt_of_cell hn1)).trans hn1,(hb'.cell (p:=⟨b1,o1+xn,none⟩) (lt_of_cell hn3)).trans hn3⟩
   clear x0 x1 hr hl2 hxc hn1 hn2 hn3 hn4
   go_wp2
   refine wp_region_L (fun w'=>C4 w' w.heap.size (some ⟨bn,on,none⟩) cn (some ⟨bo,oo,none⟩) co m∧w'.cell? ⟨bl,ol+k,none⟩=some (.int .i64 xn)∧w'.cell? ⟨bo,oo+sn,none⟩=some (.slice (some ⟨b2,o2,none⟩) r2 d2)∧w'.cell? ⟨b2,o2+xn,none⟩=some (.int .i64 y)) [0,1,2,3,4,5,6,7,8,9,10,11,14] (by kernel_rfl) ?_
   have hSS:C4 w1.drew w.heap.size (some ⟨bn,on,none⟩) cn (some ⟨bo,oo,none⟩) co m∧w1.drew.cell? ⟨bl,ol+k,none⟩=some (.int .i64 xn)∧w1.drew.cell? ⟨bo,oo+sn,none⟩=some (.slice (some ⟨b2,o2,none⟩) r2 d2)∧w1.drew.cell? ⟨b2,o2+xn,none⟩=some (.int .i64 y):=⟨hx.below (Below.refl w1.heap.size w1).drew (by omega),(HK.out _ hB.drew).1⟩
   have hOd:=hO.drew
   have hbd:=hb.drew
   have hBd:=hB.drew
   have hzd:w.heap.size+1≤w1.drew.heap.size:=hsz
   clear hx hO hb hsz hB
   generalize w1.drew=w2 at*
   refine skL_on [0,1,2,3,4,5,6,7,8,9,10,11] ?_
   repeat (refine skL_take (v:= ?_) rfl ?_ ?_;rotate_left;(focus (intro w' hSw;(try dsimp only at hSw);go_simp;try with_reducible rfl));try simp only [Act.put,List.setIfInBounds_toArray,List.set_cons_zero,List.set_cons_succ])
   refine skL_off ?_
   refine wpAnyL_one (i:=12) (by kernel_rfl) rfl rfl (fun K hK=> ?_)
   go_simp
   have hba:=hBd.alloc (by omega) (.cells #[.int .i64 y] 3)
   refine hK _ _ (fun _=>⟨hSS.1.below ((Below.refl w2.heap.size w2).alloc (Nat.le_refl _) _) (by omega),(HK.out _ hba).1⟩) ?_
   clear hK K
   refine wpAnyL_one (i:=13) (by kernel_rfl) rfl rfl (fun K hK=> ?_)
   refine wp_push_q (B:=w.heap.size+1) (M:=fun k=>w.heap.size≤k) (v:= .slice a2 l2.length c2) (l:=l2) (y:=y) rfl Tryz.underlying94 info_int rfl rfl (hOd.alloc _) (by simp [go_sem]) (by unfold i64;omega) (by have:=hle2.out;omega) (by simp;omega) ?_
   intro a5 c5 l5 w5 hl5 hO5 hb5
   have hb6:=(hbd.alloc (by omega) (.cells #[.int .i64 y] 3)).trans hb5
   have hB6:=hba.trans (hb5.mono (by omega))
   have hx6:=hx0.below hb6 (by omega)
   have hS6:=And.intro hx6 (HK.out _ hB6).1
   refine hK _ _ (fun _=>hS6) ?_
   clear hK K hSS hOd hbd hBd hzd hba hb5
   refine skL_on [14] ?_
   repeat (refine skL_take (v:= ?_) rfl ?_ ?_;rotate_left;(focus (intro w' hSw;(try dsimp only at hSw);go_simp;try with_reducible rfl));try simp only [Act.put,List.setIfInBounds_toArray,List.set_cons_zero,List.set_cons_succ])
   refine skL_off ?_
   refine wpAnyL_done (by kernel_rfl) ?_ _
   have hl6:Hid (l5=m.outsW s (l.take (k+1))):=by unfold Hid;rw [hl5.out,hl3.out]
   obtain ⟨⟨hc1, -, -⟩,hc2,hc3⟩:=HK.out _ hB6
   clear hl5 hl3 HK
   go_wp2
   refine wp_quiet_fast (by kernel_rfl) (by kernel_rfl) ?_
   repeat (first|go_big_quiet_step (fail)|quiet_step (fail))
   refine wpQuiet_nil ?_
   intro _ hw'
   obtain ⟨nq,hw''⟩:=hw'
   subst hw''
   have hb7:=bl_drewN hb6 nq
   have hO7:=hO5.drewN nq
   clear hx6 hc1 hc2 hc3 hb6 hO5
   go_wp2
   go_roundw
   case rel=>exact ⟨k+1,a5,c5,l5,by omega,by go_num,by rw [←he3.out],rfl,hl6,hO7,hb7⟩
   case measure=>simp [intOf];omega
  have e:k=l.length:=by omega
  have hl6:Hid (l2=m.outsW s l):=by unfold Hid;rw [hl2.out,e,List.take_length]
  have he6:Hid (((sn:Nat):Int)=m.endW s l):=by unfold Hid;rw [←HSN.out,e,List.take_length]
  have hS:=(hO.anyM (M':=fun k=>k<w.heap.size)).toSl fun k hk hlt=>by have:=(hO.lt k hk).1;omega
  clear hl2 e
  go_wp2
  go_ret2
  exact ⟨a2,c2,l2,ret_li he6.out,hl6,hS,hB⟩
end
abbrev R5 (w:World) (b:Nat) (an:Option Addr) (cn:Nat) (ao:Option Addr) (co:Nat) (m:Mach) (z:Int):Prop:=
 C4 w b an cn ao co m∧w.cell? ⟨b,4,none⟩=some (.int .i64 z)∧w.frozen? ⟨b,4,none⟩=false
section
variable {B b:Nat} {w w':World} {an ao:Option Addr} {cn co:Nat} {m:Mach} {z:Int}
theorem R5.below (h:R5 w b an cn ao co m z) (hb:Below B w w') (hlt:b<B):R5 w' b an cn ao co m z:=
 ⟨h.1.below hb hlt,(hb.cell (p:=⟨b,4,none⟩) hlt).trans h.2.1,(hb.frozen (p:=⟨b,4,none⟩) hlt).trans h.2.2⟩
theorem R5.set (h:R5 w b an cn ao co m z) (y:Int):R5 (w.setCell ⟨b,4,none⟩ (.int .i64 y)) b an cn ao co m y:=
 ⟨⟨by rw [World.cell?_setCell_other _ _ _ _ (by simp)];exact h.1.1,by rw [World.cell?_setCell_other _ _ _ _ (by simp)];exact h.1.2.1,by rw [World.cell?_setCell_other _ _ _ _ (by simp)];exact h.1.2.2.1,by rw [World.cell?_setCell_other _ _ _ _ (by simp)];exact h.1.2.2.2⟩,
  World.cell?_setCell_same _ _ _ h.2.1,by simpa using h.2.2⟩
end
section
variable {M:Nat→Prop} {w:World} {an ao a:Option Addr} {cn co c:Nat} {m:Mach}
theorem move_any (hm:Ma M w an cn ao co m) (ok:m.Ok) {s x:Nat} (hs:s<m.next.length) (hx:x<m.inputs.toNat):
    Calls Tryz.prog 181 #[maV m an cn ao co,.int .i64 (s:Int),.int .i64 (x:Int)] w fun e w'=>∃(n:Nat) (y:Int),e= .returned (.tuple #[.int .i64 (n:Int),.int .i64 y])∧n<m.next.length∧0≤y∧y≤1048576∧Hid (m.nx s x=n)∧Hid (m.ot s x=y)∧Below w.heap.size w w':=by
 have hsz:s<m.out.length:=by have:=ok.lo;omega
 have n1:=ok.n1
 have i1:=ok.i1
 obtain ⟨bn,on,bo,oo,rfl,rfl⟩:=hm.addr ok
 have hm2:=hm.ext (Ext.alloc M w (.cells #[.int .i64 m.inputs,.int .i64 m.start,.slice (some ⟨bn,on,none⟩) m.next.length cn,.slice (some ⟨bo,oo,none⟩) m.out.length co] 164))
 obtain ⟨b1,o1,c1,l1,b2,o2,c2,l2,n,y,k1,k2,k3,k4,hn,hy0,hy1,hnx,hot,hl1,hl2,hl3,hl4⟩:=hm2.atS ok hs hx
 have hB:=(Below.refl w.heap.size w).alloc (Nat.le_refl _) (.cells #[.int .i64 m.inputs,.int .i64 m.start,.slice (some ⟨bn,on,none⟩) m.next.length cn,.slice (some ⟨bo,oo,none⟩) m.out.length co] 164)
 have HM:=Lib.hid hm2
 have OK:=Lib.hid ok
 clear hm hm2 ok
 go_enter Tryz.func181,Tryz.ntmps181
 go_wp2
 refine wp_quiet_fast (by kernel_rfl) (by kernel_rfl) ?_
 repeat (first|go_big_quiet_step (fail)|quiet_step (fail))
 refine wpQuiet_nil ?_
 intro _ hw'
 obtain ⟨nq,hw''⟩:=hw'
 subst hw''
 go_wp2
 go_ret2
 exact ⟨n,y,rfl,hn,hy0,hy1,hnx,hot,bl_drewN hB _⟩
theorem run_any {M':Nat→Prop} {B b:Nat} {l:List Int} {s:Int} (hb:B≤b) (hbw:b<w.heap.size) (HM:∀w',Below B w w'→Ma M w' an cn ao co m) (HS:∀w',Below B w w'→Sl M' w' a c l) (ok:m.Ok)
    (h5:R5 w b an cn ao co m s) (hs:0≤s∧s<m.next.length) (hw:m.okS l) (hl:l.length≤1024):
    Calls Tryz.prog 98 #[.pointer (some ⟨b,0,none⟩),.slice a l.length c] w fun e w'=>∃(a':Option Addr) (c':Nat) (l':List Int),e= .returned (.slice a' l'.length c')∧Hid (l'=m.outsW s l)∧
     Sl (fun k=>k<w.heap.size) w' a' c' l'∧Below B w w'∧R5 w' b an cn ao co m (m.endW s l):=by
 have OK:=Lib.hid ok
 have HW:=Lib.hid hw
 have HS0:=Lib.hid hs
 have n1:=ok.n1
 have i1:=ok.i1
 have HMh:=Lib.hid HM
 have HSh:=Lib.hid HS
 have hl0:Hid (([]:List Int)=m.outsW s (l.take 0)):=rfl
 have hO0:Ow (α:=Int) w.heap.size (fun k=>w.heap.size≤k) w 3 (.slice none 0 0) []:=Ow.nil
 have hB0:=Below.refl B w
 clear HM HS ok hw hs
 go_enter Tryz.func98,Tryz.ntmps98
 go_wp2
 go_loopw [5,12] (fun v i wr=>∃(k:Nat) (a':Option Addr) (c':Nat) (l':List Int),k≤l.length∧i= .int .i64 k∧v= .slice a' l'.length c'∧l'.length≤1024∧Hid (l'=m.outsW s (l.take k))∧
  Ow w.heap.size (fun k=>w.heap.size≤k) wr 3 (.slice a' l'.length c') l'∧Below B w wr∧R5 wr b an cn ao co m (m.endW s (l.take k))) (fun _ i _=>l.length-(intOf i).toNat)
 case atStart=>exact ⟨0,none,0,[],by omega,rfl,rfl,by simp,hl0,hO0,hB0,h5⟩
 case round=>
  clear hl0 hO0 hB0 h5
  obtain ⟨k,a2,c2,l2,hk,rfl,rfl,hl2,ho2,hO,hB,h5⟩:=hrel
  obtain ⟨w1,rfl⟩:∃w1:World,w1=wr:=⟨_,rfl⟩
  have hsz:=hB.size
  by_cases hlt:k<l.length
  ·obtain ⟨bl,ol,x,rfl,hxc,hx, -⟩:=(HSh.out w1 hB).at_int hlt
   obtain ⟨x0,x1⟩:=HW.out x (List.mem_of_getElem? hx.out)
   obtain ⟨xn,rfl⟩:=Int.eq_ofNat_of_zero_le x0
   have hr:=Mach.endW_range OK.out (l.take k) s HS0.out.1 HS0.out.2 (Mach.okS_take HW.out k)
   have hl2k:Hid (l2.length=k):=by unfold Hid;rw [ho2.out,Mach.outsW_len,List.length_take];omega
   obtain ⟨sn,hsn⟩:=Int.eq_ofNat_of_zero_le hr.1
   rw [hsn] at h5 hr
   have hsn2:sn<m.next.length:=by omega
   have hxn:xn<m.inputs.toNat:=by omega
   have hxn2:xn<64:=by omega
   have HSN:=Lib.hid hsn
   have hmm:=HMh.out w1 hB
   have HMM:=Lib.hid hmm
   clear hsn hr x0 x1 hmm
   go_wp2
   refine wp_region_L (fun w'=>R5 w' b an cn ao co m (sn:Int)) [0,1,2,3,4,5,6,7,8,11,12] (by kernel_rfl) ?_
   have h5d:R5 w1.drew b an cn ao co m (sn:Int):=⟨h5.1.drew,by simpa using h5.2.1,by simpa using h5.2.2⟩
   have hBd:=hB.drew
   have hOd:=hO.drew
   have HMd:=Lib.hid (HMM.out.ext (Ext.drew _ _))
   have hszd:w.heap.size≤w1.drew.heap.size:=hsz
   clear h5 hB hO HMM
   generalize w1.drew=w2 at*
   refine skL_on [0,1,2,3,4,5,6,7,8] ?_
   repeat (refine skL_take (v:= ?_) rfl ?_ ?_;rotate_left;(focus (intro w' hSw;(try dsimp only at hSw);go_simp;try with_reducible rfl));try simp only [Act.put,List.setIfInBounds_toArray,List.set_cons_zero,List.set_cons_succ])
   refine skL_off ?_
   refine wpAnyL_one (i:=9) (by kernel_rfl) rfl rfl (fun K hK=> ?_)
   go_simp
   refine (move_any HMd.out OK.out hsn2 hxn).mono ?_
   rintro e w3 ⟨n,y,rfl,hn,hy0,hy1,hnx,hot,hb3⟩
   have h53:=h5d.below hb3 (by omega)
   have hB3:=hBd.trans (hb3.mono (by omega))
   have hO3:=hOd.below hb3
   have hsz3:w.heap.size≤w3.heap.size:=by have:=hb3.size;omega
   refine hK _ _ (fun _=>h53) ?_
   clear hK K h5d hBd hOd hb3 HMd
   refine wpAnyL_one (i:=10) (by kernel_rfl) rfl rfl (fun K hK=> ?_)
   go_simp
   refine hK _ _ (fun _=>h53) ?_
   clear hK K
   refine skL_on [11,12] ?_
   repeat (refine skL_take (v:= ?_) rfl ?_ ?_;rotate_left;(focus (intro w' hSw;(try dsimp only at hSw);go_simp;try with_reducible rfl));try simp only [Act.put,List.setIfInBounds_toArray,List.set_cons_zero,List.set_cons_succ])
   refine skL_off ?_
   refine wpAnyL_one (i:=13) (by kernel_rfl) rfl rfl (fun K hK=> ?_)
   go_simp
   refine hK _ _ (fun _=>h53) ?_
   clear hK K
   refine wpAnyL_one (i:=14) (by kernel_rfl) rfl rfl (fun K hK=> ?_)
   go_simp
   refine hK _ _ (fun _=>h53) ?_
   clear hK K
   refine wpAnyL_done (by kernel_rfl) ?_ _
   have h54:=h53.set (n:Int)
   have hB4:=hB3.setCell (p:=⟨b,4,none⟩) hb (.int .i64 (n:Int))
   have hO4:=hO3.setOtherI (p:=⟨b,4,none⟩) (fun k hk=>by have:=(hO3.lt k hk).1;simp;omega) (.int .i64 (n:Int))
   have H54:=Lib.hid h54
   have HB4:=Lib.hid hB4
   have HO4:=Lib.hid hO4
   clear h54 hB4 hO4 hO3 hB3
   have hll:l2.length<1024:=by rw [hl2k.out];omega
   go_wp2_with (at_builtin;refine wpList_push_i (B:=w.heap.size) (l:=l2) (y:=y) rfl rfl Tryz.underlying94 info_int rfl rfl (HO4.out.alloc _) (by simp [go_sem]) (by unfold i64;omega) (by omega) (by simp;omega) ?_)
   intro a5 c5 l5 w5 hl5 hO5 hb5
   have hbA:=(Below.refl _ _).alloc (B:=(w3.setCell ⟨b,4,none⟩ (.int .i64 (n:Int))).heap.size) (Nat.le_refl _) (.cells #[.int .i64 y] 3)
   have hlb:b<(w3.setCell ⟨b,4,none⟩ (.int .i64 (n:Int))).heap.size:=by simp;omega
   have hlb2:b<w.heap.size:=hbw
   have h55:=(H54.out.below hbA hlb).below hb5 hbw
   have hB5:=(HB4.out.alloc (by simp;omega) (.cells #[.int .i64 y] 3)).trans (hb5.mono (by omega))
   have ho5:Hid (l5=m.outsW s (l.take (k+1))):=by
    unfold Hid
    rw [hl5.out,ho2.out,Mach.take_step hx.out,Mach.outsW_snoc,HSN.out]
    simp only [Int.toNat_natCast]
    rw [hot.out]
   have he5:Hid ((n:Int)=m.endW s (l.take (k+1))):=by
    unfold Hid
    rw [Mach.take_step hx.out,Mach.endW_snoc,HSN.out]
    simp only [Int.toNat_natCast]
    rw [hnx.out]
   have h56:R5 w5 b an cn ao co m (m.endW s (l.take (k+1))):=by rw [←he5.out];exact h55
   have hl5':l5.length≤1024:=by rw [hl5.out];simp;omega
   clear h55 h53 H54 hbA hb5
   have H56:=Lib.hid h56
   clear h56
   go_wp2
   go_roundw
   case rel=>exact ⟨k+1,a5,c5,l5,by omega,by go_num,rfl,hl5',ho5,hO5,hB5,H56.out⟩
   case measure=>simp [intOf];omega
  have e:l.take k=l:=List.take_of_length_le (by omega)
  have h56:R5 w1 b an cn ao co m (m.endW s l):=by rw [e] at h5;exact h5
  have ho5:Hid (l2=m.outsW s l):=by unfold Hid;rw [ho2.out,e]
  have H56:=Lib.hid h56
  clear e h56 h5
  go_wp2
  go_ret
  exact ⟨a2,c2,l2,rfl,ho5,hO.fresh (Nat.le_refl _),hB,H56.out⟩
end
namespace Mach
variable (m:Mach)
def stErr (s:Int):Int:=if m.err≠0 then m.err else if s<0∨(m.next.length:Int)≤s then 2 else 0
def frErr (s:Int) (w:List Int):Int:=if m.stErr s≠0 then m.stErr s else wErr w m.inputs
def frOut (s:Int) (w:List Int):List Int:=if m.frErr s w=0 then m.outsW s w else []
def frEnd (s:Int) (w:List Int):Int:=if m.frErr s w=0 then m.endW s w else 0
variable {m}
theorem stErr_ok {s:Int} (h:m.stErr s=0):m.err=0∧0≤s∧s<m.next.length:=by
 unfold stErr at h
 split at h
 ·rename_i h1;exact absurd h h1
 rename_i h1
 split at h
 ·simp at h
 exact ⟨by simpa using h1,by omega,by omega⟩
theorem frErr_st {s:Int} {w:List Int} (h:m.stErr s≠0):m.frErr s w=m.stErr s∧m.frOut s w=[]∧m.frEnd s w=0:=by
 have e:m.frErr s w=m.stErr s:=by unfold frErr;rw [if_pos h]
 refine ⟨e,?_,?_⟩
 ·unfold frOut;rw [if_neg (by rw [e];exact h)]
 unfold frEnd;rw [if_neg (by rw [e];exact h)]
theorem frErr_w {s:Int} {w:List Int} (h:m.stErr s=0) (h2:wErr w m.inputs≠0):m.frErr s w=wErr w m.inputs∧m.frOut s w=[]∧m.frEnd s w=0:=by
 have e:m.frErr s w=wErr w m.inputs:=by unfold frErr;rw [if_neg (by simp [h])]
 refine ⟨e,?_,?_⟩
 ·unfold frOut;rw [if_neg (by rw [e];exact h2)]
 unfold frEnd;rw [if_neg (by rw [e];exact h2)]
theorem frErr_0 {s:Int} {w:List Int} (h:m.stErr s=0) (h2:wErr w m.inputs=0):m.frErr s w=0∧m.frOut s w=m.outsW s w∧m.frEnd s w=m.endW s w:=by
 have e:m.frErr s w=0:=by unfold frErr;rw [if_neg (by simp [h]),h2]
 refine ⟨e,?_,?_⟩
 ·unfold frOut;rw [if_pos e]
 unfold frEnd;rw [if_pos e]
theorem okS_of {w:List Int} (h:wErr w m.inputs=0):m.okS w∧w.length≤1024:=by
 unfold wErr at h
 split at h
 ·simp at h
 rename_i h1
 split at h
 ·simp at h
 rename_i h2
 split at h
 ·simp at h
 rename_i h3
 refine ⟨fun x hx=> ?_,by omega⟩
 have:¬(x<0∨m.inputs≤x):=fun e=>h3 ⟨x,hx,e⟩
 omega
end Mach
theorem ret_fr {a:Option Addr} {n n' c:Nat} {x x' y y':Int} (h:n=n') (h2:x=x') (h3:y=y'):Ending.returned (.tuple #[.slice a n c,.int .i64 x,.int .i64 y])= .returned (.tuple #[.slice a n' c,.int .i64 x',.int .i64 y']):=by rw [h,h2,h3]
section
variable {M:Nat→Prop} {w:World} {an ao a:Option Addr} {cn co c:Nat} {m:Mach}
theorem state_any (hm:Ma M w an cn ao co m) (s:Int):
    Calls Tryz.prog 123 #[maV m an cn ao co,.int .i64 s] w fun e w'=>e= .returned (.int .i64 (m.stErr s))∧Below w.heap.size w w':=by
 have hle:=hm.next.le
 have hv:=valid_any (hm.ext (Ext.alloc M w (.cells #[.int .i64 m.inputs,.int .i64 m.start,.slice an m.next.length cn,.slice ao m.out.length co] 41)))
 have HV:=Lib.hid hv
 clear hv
 by_cases he:m.err=0
 ·have he':(m.err !=0)=false:=by simp [he]
  by_cases hs:s<0
  ·have HF:Hid (m.stErr s=2):=by unfold Hid Mach.stErr;rw [if_neg (by simp [he]),if_pos (.inl hs)]
   have hd:decide (s<0)=true:=by simp [hs]
   clear he
   go_enter Tryz.func123,Tryz.ntmps123
   go_wp2_with fail
   refine (HV.out).mono ?_
   rintro e w1 ⟨rfl,hb1⟩
   have hB:=((Below.refl w.heap.size w).alloc (Nat.le_refl _) (.cells #[.int .i64 m.inputs,.int .i64 m.start,.slice an m.next.length cn,.slice ao m.out.length co] 41)).trans (hb1.mono (by simp))
   go_wp2
   go_ret
   exact ⟨ret_int HF.out.symm,hB⟩
  have hd:decide (s<0)=false:=by simp;omega
  by_cases hs2:(m.next.length:Int)≤s
  ·have HF:Hid (m.stErr s=2):=by unfold Hid Mach.stErr;rw [if_neg (by simp [he]),if_pos (.inr hs2)]
   have hd2:decide ((m.next.length:Int)≤s)=true:=by simp [hs2]
   clear he
   go_enter Tryz.func123,Tryz.ntmps123
   go_wp2_with fail
   refine (HV.out).mono ?_
   rintro e w1 ⟨rfl,hb1⟩
   have hbx:∀o,w1.cell? ⟨w.heap.size,o,none⟩=_:=fun o=>hb1.cell (by simp)
   have hB:=((Below.refl w.heap.size w).alloc (Nat.le_refl _) (.cells #[.int .i64 m.inputs,.int .i64 m.start,.slice an m.next.length cn,.slice ao m.out.length co] 41)).trans (hb1.mono (by simp))
   go_wp2
   go_ret
   exact ⟨ret_int HF.out.symm,hB⟩
  have HF:Hid (m.stErr s=0):=by unfold Hid Mach.stErr;rw [if_neg (by simp [he]),if_neg (by omega)]
  have hd2:decide ((m.next.length:Int)≤s)=false:=by simp;omega
  clear he
  go_enter Tryz.func123,Tryz.ntmps123
  go_wp2_with fail
  refine (HV.out).mono ?_
  rintro e w1 ⟨rfl,hb1⟩
  have hbx:∀o,w1.cell? ⟨w.heap.size,o,none⟩=_:=fun o=>hb1.cell (by simp)
  have hB:=((Below.refl w.heap.size w).alloc (Nat.le_refl _) (.cells #[.int .i64 m.inputs,.int .i64 m.start,.slice an m.next.length cn,.slice ao m.out.length co] 41)).trans (hb1.mono (by simp))
  go_wp2
  go_ret
  exact ⟨ret_int HF.out.symm,hB⟩
 have he':(m.err !=0)=true:=by simp [he]
 have HF:Hid (m.stErr s=m.err):=by unfold Hid Mach.stErr;rw [if_pos he]
 clear he
 go_enter Tryz.func123,Tryz.ntmps123
 go_wp2_with fail
 refine (HV.out).mono ?_
 rintro e w1 ⟨rfl,hb1⟩
 have hB:=((Below.refl w.heap.size w).alloc (Nat.le_refl _) (.cells #[.int .i64 m.inputs,.int .i64 m.start,.slice an m.next.length cn,.slice ao m.out.length co] 41)).trans (hb1.mono (by simp))
 go_wp2
 go_ret
 exact ⟨ret_int HF.out.symm,hB⟩
theorem from_any {M':Nat→Prop} {l:List Int} (hm:Ma M w an cn ao co m) (hw:Sl M' w a c l) (s:Int):
    Calls Tryz.prog 75 #[maV m an cn ao co,.int .i64 s,.slice a l.length c] w fun e w'=>∃(a':Option Addr) (c':Nat) (l':List Int),e= .returned (.tuple #[.slice a' l'.length c',.int .i64 (m.frEnd s l),.int .i64 (m.frErr s l)])∧Hid (l'=m.frOut s l)∧
     Sl (fun k=>k<w.heap.size) w' a' c' l'∧Below w.heap.size w w':=by
 have hll:=hw.le
 have hle:=hm.next.le
 have HM:=Lib.hid hm
 have HW:=Lib.hid hw
 have hbx0:=c4_new (m:=m) (an:=an) (cn:=cn) (ao:=ao) (co:=co) w
 have hB0:=(Below.refl w.heap.size w).alloc (Nat.le_refl _) (maO m an cn ao co)
 have HC:=Lib.hid (state_any (HM.out.ext (Ext.alloc M w (maO m an cn ao co))) s)
 clear hm hw
 by_cases hst:m.stErr s=0
 ·have hst':(m.stErr s !=0)=false:=by simp [hst]
  have HST:=Lib.hid hst
  clear hst
  go_enter Tryz.func75,Tryz.ntmps75
  go_wp2_with fail
  refine (HC.out).mono ?_
  rintro e w1 ⟨rfl,hb1⟩
  have hB1:=hB0.trans (hb1.mono (by simp))
  have h41:=hbx0.below hb1 (by simp)
  have hz1:w.heap.size+1≤w1.heap.size:=by have:=hb1.size;simpa using this
  clear hbx0 hB0 hb1 HC
  have HC:=Lib.hid (wcheck_any (HW.out.below hB1) m.inputs)
  go_wp2_with fail
  refine (HC.out).mono ?_
  rintro e w2 ⟨rfl,hb2⟩
  have hB2:=hB1.trans (hb2.mono (by omega))
  have h42:=h41.below hb2 (by omega)
  have hz2:w.heap.size+1≤w2.heap.size:=by have:=hb2.size;omega
  clear hB1 h41 hb2 HC
  by_cases hwe:wErr l m.inputs=0
  ·have hwe':(wErr l m.inputs !=0)=false:=by simp [hwe]
   obtain ⟨hok,hl2⟩:=Mach.okS_of hwe
   obtain ⟨he,hs0,hs1⟩:=Mach.stErr_ok HST.out
   have OK:=Lib.hid (m.ok_of_err he)
   have HF:=Lib.hid (Mach.frErr_0 HST.out hwe)
   have hB3:=hB2.alloc (by omega) (.cells #[.int .i64 m.inputs,.int .i64 m.start,.slice an m.next.length cn,.slice ao m.out.length co,.int .i64 s] 166)
   have h5:R5 (w2.alloc (.cells #[.int .i64 m.inputs,.int .i64 m.start,.slice an m.next.length cn,.slice ao m.out.length co,.int .i64 s] 166)) w2.heap.size an cn ao co m s:=by
    refine ⟨⟨?_,?_,?_,?_⟩,?_,?_⟩<;>simp
   have HR:=Lib.hid (run_any (B:=w2.heap.size) (b:=w2.heap.size) (w:=w2.alloc (.cells #[.int .i64 m.inputs,.int .i64 m.start,.slice an m.next.length cn,.slice ao m.out.length co,.int .i64 s] 166)) (Nat.le_refl _) (by simp)
    (fun w' hb=>HM.out.below (hB3.trans (hb.mono (by omega)))) (fun w' hb=>HW.out.below (hB3.trans (hb.mono (by omega)))) OK.out h5 ⟨hs0,hs1⟩ hok hl2)
   clear he hwe hok h5
   go_wp2_with fail
   refine (HR.out).mono ?_
   rintro e w3 ⟨a3,c3,l3,rfl,hl3,hs3,hb3,h53⟩
   have hBf:=hB3.trans (hb3.mono (by omega))
   have hl4:Hid (l3=m.frOut s l):=by unfold Hid;rw [hl3.out,HF.out.2.1]
   have hs4:=hs3.anti (M':=fun k=>k<w.heap.size) (fun k _ hk=>by simp;omega)
   have hat:=h53.2.1
   clear hl3 hs3 hb3 h53 hB3 hB2 h42 HR
   go_wp2
   refine wp_quiet_fast (by kernel_rfl) (by kernel_rfl) ?_
   repeat (first|go_big_quiet_step (fail)|quiet_step (fail))
   refine wpQuiet_nil ?_
   intro _ hw'
   obtain ⟨nq,hw''⟩:=hw'
   subst hw''
   go_wp2
   exact bodyPost_ret (v:= .tuple #[.slice a3 l3.length c3,.int .i64 (m.endW s l),.int .i64 0]) (by simp [results,Tryz.results75,go_sem]) rfl ⟨a3,c3,l3,ret_fr rfl HF.out.2.2.symm HF.out.1.symm,hl4,hs4.drewN _,bl_drewN hBf _⟩
  have hwe':(wErr l m.inputs !=0)=true:=by simp [hwe]
  have HF:=Lib.hid (Mach.frErr_w HST.out hwe)
  clear hwe
  go_wp2
  exact bodyPost_ret (v:= .tuple #[.slice none 0 0,.int .i64 0,.int .i64 (wErr l m.inputs)]) (by simp [results,Tryz.results75,go_sem]) rfl ⟨none,0,[],ret_fr rfl HF.out.2.2.symm HF.out.1.symm,HF.out.2.1.symm,Sl.nil _ _ _ (by unfold maxLen;omega),hB2⟩
 have hst':(m.stErr s !=0)=true:=by simp [hst]
 have HF:=Lib.hid (Mach.frErr_st (w:=l) hst)
 clear hst
 go_enter Tryz.func75,Tryz.ntmps75
 go_wp2_with fail
 refine (HC.out).mono ?_
 rintro e w1 ⟨rfl,hb1⟩
 have hB1:=hB0.trans (hb1.mono (by simp))
 clear hbx0 hB0 hb1 HC
 go_wp2
 exact bodyPost_ret (v:= .tuple #[.slice none 0 0,.int .i64 0,.int .i64 (m.stErr s)]) (by simp [results,Tryz.results75,go_sem]) rfl ⟨none,0,[],ret_fr rfl HF.out.2.2.symm HF.out.1.symm,HF.out.2.1.symm,Sl.nil _ _ _ (by unfold maxLen;omega),hB1⟩
end
end Go.Proofs.YtjmbphjgiodioaaGreatDoor
