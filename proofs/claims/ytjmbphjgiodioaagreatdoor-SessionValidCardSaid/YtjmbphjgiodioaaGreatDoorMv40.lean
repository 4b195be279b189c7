/- Several texts, one behind the other. Conditions: as each of them says. -/
import Derived.Test.YtjmbphjgiodioaaGreatDoorMv36
import Derived.Test.YtjmbphjgiodioaaGreatDoorMv33
import Derived.Test.YtjmbphjgiodioaaGreatDoorMv29
set_option maxRecDepth 100000
set_option maxHeartbeats 32000000
namespace Go.Proofs.YtjmbphjgiodioaaGreatDoor
open Go.RowKit
theorem Dn.ok {x:Dn} {n:Nat} (h:x.err n=0):(∀k∈x.kids,0≤k∧k<n)∧(x.leaf=true→x.acc.length≤1024∧x.kids=[])∧(x.leaf=false→x.kids.length=x.outs.length):=by
 by_cases hl:x.leaf=true
 ·by_cases h0:0<x.suf.length+x.outs.length+x.kids.length
  ·rw [Dn.err_l1 hl h0] at h;cases h
  rw [Dn.err_l hl h0] at h
  have hk:x.kids=[]:=List.eq_nil_of_length_eq_zero (by omega)
  exact ⟨fun k hk2=>(by rw [hk] at hk2;cases hk2),fun _=>⟨wErr_len h,hk⟩,fun e=>(by rw [hl] at e;cases e)⟩
 have hl2:x.leaf=false:=by simpa using hl
 have h1:¬0<x.acc.length:=fun e=>by rw [Dn.err_a hl2 e] at h;cases h
 have h2:¬x.suf.length=0:=fun e=>by rw [Dn.err_s hl2 h1 e] at h;cases h
 have h3:wErr x.suf 64=0:=by
  by_cases e:wErr x.suf 64=0
  ·exact e
  rw [Dn.err_w hl2 h1 h2 rfl e] at h;exact absurd h e
 have h4:x.outs.length=x.kids.length:=by
  by_cases e:x.outs.length=x.kids.length
  ·exact e
  rw [Dn.err_o hl2 h1 h2 h3 e] at h;cases h
 rw [Dn.err_k hl2 h1 h2 h3 h4] at h
 refine ⟨fun k hk=> ?_,fun e=>(by rw [hl2] at e;cases e),fun _=>h4.symm⟩
 obtain ⟨i,hi,rfl⟩:=List.getElem_of_mem hk
 have h5:=fst_zero h hi
 unfold Dn.kdErr at h5
 rw [gd_of (List.getElem?_eq_getElem hi)] at h5
 split at h5
 ·rename_i e;exact absurd h5 e
 split at h5
 ·cases h5
 split at h5
 ·cases h5
 rename_i e;omega
theorem nds_ok {N:List Dn} (h:fstE (ndErr N) N.length=0):∀x∈N,x.err N.length=0:=fun x hx=>by
 obtain ⟨i,hi,rfl⟩:=List.getElem_of_mem hx
 have h1:=fst_zero h hi
 rwa [nd_of (List.getElem?_eq_getElem hi)] at h1
theorem nds_kids {N:List Dn} (h:fstE (ndErr N) N.length=0) (hf:∀x∈N,x.fit):∀x∈N,(∀k∈x.kids,0≤k∧k<N.length)∧x.kids.length<10000000000000:=fun x hx=>by
 obtain ⟨h1,h2,h3⟩:=Dn.ok (nds_ok h x hx)
 refine ⟨h1,?_⟩
 cases hl:x.leaf with
 |true=>rw [(h2 hl).2];simp
 |false=>have:=(hf x hx).2.1;rw [h3 hl];omega
theorem nds_acc {N:List Dn} (h:fstE (ndErr N) N.length=0):∀x∈N,x.leaf=true→x.acc.length≤1024:=fun x hx hl=>((Dn.ok (nds_ok h x hx)).2.1 hl).1
theorem accs_len {N:List Dn} (h:fstE (ndErr N) N.length=0):∀r∈accs N,r.length≤1024:=fun r hr=>by
 unfold accs at hr
 obtain ⟨x,hx,rfl⟩:=List.mem_map.1 hr
 rw [List.mem_filter] at hx
 exact nds_acc h x hx.1 hx.2
section
variable {M:Nat→Prop} {w:World} {a:Option Addr} {c:Nat} {N:List Dn}
theorem dvalid_any (hs:Sl M w a c N) (hf:Hid (∀x∈N,x.fit)) {er:Int} (her:dtErr N=er):
    Calls Tryz.prog 72 #[.agg #[.slice a N.length c]] w fun e w'=>e= .returned (.int .i64 er)∧Below w.heap.size w w':=by
 have hB0:=(Below.refl w.heap.size w).alloc (Nat.le_refl _) (.cells #[.slice a N.length c] 32)
 have hx0:(w.alloc (.cells #[.slice a N.length c] 32)).cell? ⟨w.heap.size,0,none⟩=some (.slice a N.length c):=by simp
 have hz0:w.heap.size<(w.alloc (.cells #[.slice a N.length c] 32)).heap.size:=by simp
 have HT:=Lib.hid (hs.below hB0)
 have HE:=Lib.hid her
 have hll:=hs.le
 clear hs her
 go_enter Tryz.func72,Tryz.ntmps72
 go_upto_region 1 with (fail)
 generalize w.alloc (.cells #[.slice a N.length c] 32)=w0 at*
 obtain ⟨n,hn⟩:∃n,N.length=n:=⟨_,rfl⟩
 have HN:=Lib.hid hn
 have HS:Hid (∀w',Below w0.heap.size w0 w'→w'.cell? ⟨w.heap.size,0,none⟩=some (.slice a n c)∧Sl (fun _=>False) w' a c N∧Below w.heap.size w w'):=fun w' hb=>by
  rw [←hn];exact ⟨(hb.cell (p:=⟨w.heap.size,0,none⟩) hz0).trans hx0,flz (HT.out.below hb),hB0.trans (hb.mono (by omega))⟩
 rw [hn] at hx0 hll
 have hb0:=Below.refl w0.heap.size w0
 clear HT hn
 cases n with
 |zero=>
  have hr:=HE.out.symm.trans (dt_0 HN.out)
  subst hr
  go_wp2
  go_ret
  exact ⟨rfl,hB0⟩
 |succ m=>
 have h0:Hid (¬N.length=0):=by unfold Hid;rw [HN.out];omega
 by_cases h1:4096<m+1
 ·have h1d:(4096:Int)<(m:Int)+1:=by omega
  have hr:=HE.out.symm.trans (dt_g h0.out (by rw [HN.out];exact h1))
  subst hr
  go_wp2
  go_ret
  exact ⟨rfl,hB0⟩
 have h1d:¬(4096:Int)<(m:Int)+1:=by omega
 have h1h:Hid (¬4096<N.length):=by unfold Hid;rw [HN.out];exact h1
 have hm1:m+1≤4096:=by omega
 have hF0:Hid (fstE (ndErr N) 0=0):=rfl
 clear hB0 h1
 go_wp2
 go_loopw [20] (fun i wr=>∃k:Nat,k≤m+1∧i= .int .i64 k∧Hid (fstE (ndErr N) k=0)∧Below w0.heap.size w0 wr) (fun i _=>m+1-(intOf i).toNat)
 case atStart=>exact ⟨0,by omega,rfl,hF0,hb0⟩
 case round=>
  clear hF0 hb0 hx0
  obtain ⟨k,hk,rfl,hF,hB⟩:=hrel
  obtain ⟨wo,rfl⟩:∃wo:World,wo=wr:=⟨_,rfl⟩
  obtain ⟨x0,hsl,hBw⟩:=HS.out _ hB
  have hz:=hB.size
  by_cases hlt:k<m+1
  ·have hlk:k<N.length:=by rw [HN.out];exact hlt
   obtain ⟨bn,on,A,x,rfl,hD,hx,hNl⟩:=hsl.at_dn hlk
   obtain ⟨a1,d1,a3,d3,a4,d4,a5,d5⟩:=A
   have hn1:=hNl.acc.le
   have hn2:=hNl.suf.le
   have hn3:=hNl.outs.le
   have hn4:=hNl.kids.le
   have hnd:=Lib.hid (nd_of hx.out)
   have hfx:=Lib.hid (hf.out x (List.mem_of_getElem? hx.out))
   have hba:=(Below.refl wo.heap.size wo).alloc (Nat.le_refl _) (dnO x ⟨a1,d1,a3,d3,a4,d4,a5,d5⟩)
   have hX2:D5 (wo.alloc (dnO x ⟨a1,d1,a3,d3,a4,d4,a5,d5⟩)) wo.heap.size 0 x ⟨a1,d1,a3,d3,a4,d4,a5,d5⟩:=d5_new wo x _
   have HNa:=Lib.hid (hNl.below hba)
   have hBa:=hB.trans (hba.mono hz)
   obtain ⟨y1,y2,y3,y4,y5⟩:=hD
   obtain ⟨er2,her2⟩:∃v,x.err N.length=v:=⟨_,rfl⟩
   have hnd2:Hid (ndErr N k=er2):=hnd.out.trans her2
   clear hNl hsl hBw
   cases hlf:x.leaf with
   |true=>
    have HC0:=leaf_any HNa.out hlf hfx her2
    simp only [dnV,hlf] at HC0
    have HC:=Lib.hid HC0
    simp only [dnO,hlf] at hX2 hba hBa HC
    rw [hlf] at y1
    clear HC0 her2 HNa hnd hfx
    go_upto_region 8 with (fail)
    generalize wo.alloc (.cells #[.bool true,.slice a1 x.acc.length d1,.slice a3 x.suf.length d3,.slice a4 x.outs.length d4,.slice a5 x.kids.length d5] 140)=w1 at*
    obtain ⟨x0a, -,hBwa⟩:=HS.out _ hBa
    obtain ⟨z1,z2,z3,z4,z5⟩:=hX2
    clear y1 y2 y3 y4 y5 x0 hB hba
    go_wp2_with fail
    refine (HC.out).mono ?_
    rintro e w2 ⟨rfl,hb2⟩
    have hB2:=hBa.trans (hb2.mono hBa.size)
    clear HC z1 z2 z3 z4 z5 x0a hBwa hBa hb2
    obtain ⟨x0, -,hBw⟩:=HS.out _ hB2
    by_cases he0:er2=0
    ·have heb:(er2 !=0)=false:=by simp [he0]
     have hF2:Hid (fstE (ndErr N) (k+1)=0):=fst_next hF.out (hnd2.out.trans he0)
     clear he0 hF hnd2
     go_wp2
     go_roundw
     case rel=>exact ⟨k+1,by omega,by go_num,hF2,hB2⟩
     case measure=>simp [intOf];omega
    have heb:(er2 !=0)=true:=by simp [he0]
    have hr:=HE.out.symm.trans (dt_n h0.out h1h.out (fst_hit hlk hF.out (hnd2.out) he0) he0)
    clear he0 hF hnd2
    subst hr
    go_wp2
    go_ret
    exact ⟨rfl,hBw⟩
   |false=>
    have HC0:=inner_any HNa.out hlf her2
    simp only [dnV,hlf] at HC0
    rw [HN.out] at HC0
    have HC:=Lib.hid HC0
    simp only [dnO,hlf] at hX2 hba hBa HC
    rw [hlf] at y1
    clear HC0 her2 HNa hnd hfx
    go_upto_region 8 with (fail)
    generalize wo.alloc (.cells #[.bool false,.slice a1 x.acc.length d1,.slice a3 x.suf.length d3,.slice a4 x.outs.length d4,.slice a5 x.kids.length d5] 140)=w1 at*
    obtain ⟨x0a, -,hBwa⟩:=HS.out _ hBa
    obtain ⟨z1,z2,z3,z4,z5⟩:=hX2
    clear y1 y2 y3 y4 y5 x0 hB hba
    go_wp2_with fail
    refine (HC.out).mono ?_
    rintro e w2 ⟨rfl,hb2⟩
    have hB2:=hBa.trans (hb2.mono hBa.size)
    clear HC z1 z2 z3 z4 z5 x0a hBwa hBa hb2
    obtain ⟨x0, -,hBw⟩:=HS.out _ hB2
    by_cases he0:er2=0
    ·have heb:(er2 !=0)=false:=by simp [he0]
     have hF2:Hid (fstE (ndErr N) (k+1)=0):=fst_next hF.out (hnd2.out.trans he0)
     clear he0 hF hnd2
     go_wp2
     go_roundw
     case rel=>exact ⟨k+1,by omega,by go_num,hF2,hB2⟩
     case measure=>simp [intOf];omega
    have heb:(er2 !=0)=true:=by simp [he0]
    have hr:=HE.out.symm.trans (dt_n h0.out h1h.out (fst_hit hlk hF.out (hnd2.out) he0) he0)
    clear he0 hF hnd2
    subst hr
    go_wp2
    go_ret
    exact ⟨rfl,hBw⟩
  have hFF:Hid (fstE (ndErr N) N.length=0):=by rw [show N.length=k by rw [HN.out];omega];exact hF
  have hsl:=(HS.out _ hB).2.1
  have hzz:=hB.size
  have hN0:0<N.length:=by rw [HN.out];omega
  have hN1:N.length≤4096:=by rw [HN.out];omega
  have HC0:=conn_any hsl hN0 hN1 (nds_kids hFF.out hf.out)
  rw [HN.out] at HC0
  have HC:=Lib.hid HC0
  have HAcc:Hid (∀w',Below w0.heap.size w0 w'→Calls Tryz.prog 118 #[.agg #[.slice a (m+1) c]] w' fun e w''=>∃(a':Option Addr) (c':Nat) (L:List (List Int)),e= .returned (.slice a' L.length c')∧Hid (L=accs N)∧Sl (fun k=>k<w'.heap.size) w'' a' c' L∧Below w'.heap.size w' w''):=fun w' hb=>by
   have h9:=accP_any (HS.out _ hb).2.1 hN1 (nds_acc hFF.out)
   rw [HN.out] at h9;exact h9
  have hal:Hid ((accs N).length≤4096∧∀r∈accs N,r.length≤1024):=⟨Nat.le_trans (accs_le N) hN1,accs_len hFF.out⟩
  clear hF HC0 hsl hN0 hN1
  go_wp2_with fail
  refine (HC.out).mono ?_
  rintro e w1 ⟨v,rfl,hv,hb1⟩
  have hB1:=hB.trans (hb1.mono hzz)
  clear HC x0 hB hb1 hBw
  obtain ⟨x0, -,hBw⟩:=HS.out _ hB1
  cases v with
  |false=>
   have hr:=HE.out.symm.trans (dt_w h0.out h1h.out hFF.out (fun h=>by have:=hv.out.2 h;cases this))
   clear hv
   subst hr
   go_wp2
   go_ret
   exact ⟨rfl,hBw⟩
  |true=>
   have hR:=Lib.hid (HE.out.symm.trans (dt_a h0.out h1h.out hFF.out (hv.out.1 rfl)))
   have HA:=Lib.hid (HAcc.out _ hB1)
   have hz1:=hB1.size
   clear hv HAcc
   go_wp2_with fail
   refine (HA.out).mono ?_
   rintro e w2 ⟨p2,q2,L2,rfl,hL2,hs2,hb2⟩
   have hB2:=hB1.trans (hb2.mono hz1)
   have hz2:=hB2.size
   have hl2:L2.length≤4096:=by rw [hL2.out];exact hal.out.1
   have HSo:=Lib.hid (sorted_any hs2 (by omega) (Lib.hid (fun r hr=>by rw [hL2.out] at hr;have:=hal.out.2 r hr;omega)))
   clear HA x0 hB1 hb2 hBw hs2
   go_wp2_with fail
   refine (HSo.out).mono ?_
   rintro e w3 ⟨p3,q3,L3,rfl,hL3,hs3,hb3⟩
   have hB3:=hB2.trans (hb3.mono hz2)
   obtain ⟨-, -,hBw⟩:=HS.out _ hB3
   have hl3:=hs3.le
   obtain ⟨n3,hn3⟩:∃n,L3.length=n:=⟨_,rfl⟩
   obtain ⟨n2,hn2⟩:∃n,L2.length=n:=⟨_,rfl⟩
   have hR2:Hid (er=if n3≠n2 then 7 else 0):=by unfold Hid;rw [hR.out,←hL2.out,←hn3,←hn2,hL3.out]
   clear HSo hB2 hB3 hb3 hs3 hR hL2 hL3
   rw [hn3,hn2]
   rw [hn2] at hl2
   rw [hn3] at hl3
   clear hn3 hn2
   by_cases e3:n3=n2
   ·have hb:(((n3:Nat):Int) !=((n2:Nat):Int))=false:=by simp [e3]
    have hr:=hR2.out.trans (if_neg (fun h=>h e3))
    clear e3
    subst hr
    go_wp2
    go_ret
    exact ⟨rfl,hBw⟩
   have hb:(((n3:Nat):Int) !=((n2:Nat):Int))=true:=by simp;omega
   have hr:=hR2.out.trans (if_pos e3)
   clear e3
   subst hr
   go_wp2
   go_ret
   exact ⟨rfl,hBw⟩
end
section
variable {M:Nat→Prop} {w:World} {a:Option Addr} {c:Nat} {N:List Dn}
theorem dvalidR_any (hs:Sl M w a c N) (hf:Hid (∀x∈N,x.fit)) {er:Int} (her:dtErr N=er):
    Calls Tryz.prog 81 #[.agg #[.slice a N.length c]] w fun e w'=>e= .returned (.int .i64 er)∧Below w.heap.size w w':=by
 have hB0:=(Below.refl w.heap.size w).alloc (Nat.le_refl _) (.cells #[.slice a N.length c] 32)
 have hx0:(w.alloc (.cells #[.slice a N.length c] 32)).cell? ⟨w.heap.size,0,none⟩=some (.slice a N.length c):=by simp
 have hz0:w.heap.size<(w.alloc (.cells #[.slice a N.length c] 32)).heap.size:=by simp
 have HT:=Lib.hid (hs.below hB0)
 have HE:=Lib.hid her
 have hll:=hs.le
 clear hs her
 go_enter Tryz.func81,Tryz.ntmps81
 go_upto_region 1 with (fail)
 generalize w.alloc (.cells #[.slice a N.length c] 32)=w0 at*
 obtain ⟨n,hn⟩:∃n,N.length=n:=⟨_,rfl⟩
 have HN:=Lib.hid hn
 have HS:Hid (∀w',Below w0.heap.size w0 w'→w'.cell? ⟨w.heap.size,0,none⟩=some (.slice a n c)∧Sl (fun _=>False) w' a c N∧Below w.heap.size w w'):=fun w' hb=>by
  rw [←hn];exact ⟨(hb.cell (p:=⟨w.heap.size,0,none⟩) hz0).trans hx0,flz (HT.out.below hb),hB0.trans (hb.mono (by omega))⟩
 rw [hn] at hx0 hll
 have hb0:=Below.refl w0.heap.size w0
 clear HT hn
 cases n with
 |zero=>
  have hr:=HE.out.symm.trans (dt_0 HN.out)
  subst hr
  go_wp2
  go_ret
  exact ⟨rfl,hB0⟩
 |succ m=>
 have h0:Hid (¬N.length=0):=by unfold Hid;rw [HN.out];omega
 by_cases h1:4096<m+1
 ·have h1d:(4096:Int)<(m:Int)+1:=by omega
  have hr:=HE.out.symm.trans (dt_g h0.out (by rw [HN.out];exact h1))
  subst hr
  go_wp2
  go_ret
  exact ⟨rfl,hB0⟩
 have h1d:¬(4096:Int)<(m:Int)+1:=by omega
 have h1h:Hid (¬4096<N.length):=by unfold Hid;rw [HN.out];exact h1
 have hm1:m+1≤4096:=by omega
 have hF0:Hid (fstE (ndErr N) 0=0):=rfl
 clear hB0 h1
 go_wp2
 go_loopw [3] (fun i wr=>∃k:Nat,k≤m+1∧i= .int .i64 k∧Hid (fstE (ndErr N) k=0)∧Below w0.heap.size w0 wr) (fun i _=>m+1-(intOf i).toNat)
 case atStart=>exact ⟨0,by omega,rfl,hF0,hb0⟩
 case round=>
  clear hF0 hb0 hx0
  obtain ⟨k,hk,rfl,hF,hB⟩:=hrel
  obtain ⟨wo,rfl⟩:∃wo:World,wo=wr:=⟨_,rfl⟩
  obtain ⟨x0,hsl,hBw⟩:=HS.out _ hB
  have hz:=hB.size
  by_cases hlt:k<m+1
  ·have hlk:k<N.length:=by rw [HN.out];exact hlt
   obtain ⟨bn,on,A,x,rfl,hD,hx,hNl⟩:=hsl.at_dn hlk
   obtain ⟨a1,d1,a3,d3,a4,d4,a5,d5⟩:=A
   have hn1:=hNl.acc.le
   have hn2:=hNl.suf.le
   have hn3:=hNl.outs.le
   have hn4:=hNl.kids.le
   obtain ⟨er2,her2⟩:∃v,x.err N.length=v:=⟨_,rfl⟩
   have hnd2:Hid (ndErr N k=er2):=(nd_of hx.out).trans her2
   have hBd:=hB.drew
   have hdd:=(Below.refl wo.heap.size wo).drew
   rw [HN.out] at her2
   have HC:=Lib.hid (node_any (a:=some ⟨bn,on,none⟩) (c:=c) (hNl.below hdd) her2)
   have hbn:=lt_of_cell hD.1
   have hSd:wo.drew.cell? ⟨w.heap.size,0,none⟩=some (.slice (some ⟨bn,on,none⟩) (m+1) c)∧D5 wo.drew bn (on+k*5) x ⟨a1,d1,a3,d3,a4,d4,a5,d5⟩:=⟨x0,hD⟩
   clear hNl hsl her2
   go_upto_region 8 with (fail)
   refine wp_region_L (fun w'=>w'.cell? ⟨w.heap.size,0,none⟩=some (.slice (some ⟨bn,on,none⟩) (m+1) c)∧D5 w' bn (on+k*5) x ⟨a1,d1,a3,d3,a4,d4,a5,d5⟩) [0,1,2,3,4,5,7] (by kernel_rfl) ?_
   generalize wo.drew=w1 at*
   clear x0 hD hBw hB
   refine skL_on [0,1,2,3,4,5] ?_
   repeat (refine skL_take (v:= ?_) rfl ?_ ?_;rotate_left;(focus (intro w' hSw;(try dsimp only at hSw);go_simp;try with_reducible rfl));try simp only [Act.put,List.setIfInBounds_toArray,List.set_cons_zero,List.set_cons_succ])
   refine skL_off ?_
   refine wpAnyL_one (i:=6) (by kernel_rfl) rfl rfl (fun K hK=> ?_)
   go_simp
   refine (HC.out).mono ?_
   rintro e w2 ⟨rfl,hb2⟩
   have hB2:=hBd.trans (hb2.mono hBd.size)
   have hS2:w2.cell? ⟨w.heap.size,0,none⟩=some (.slice (some ⟨bn,on,none⟩) (m+1) c)∧D5 w2 bn (on+k*5) x ⟨a1,d1,a3,d3,a4,d4,a5,d5⟩:=⟨(HS.out _ hB2).1,hSd.2.below hb2 (lt_of_cell hSd.2.1)⟩
   refine hK _ _ (fun _=>hS2) ?_
   clear hK K HC hSd hb2 hBd
   refine skL_on [7] ?_
   repeat (refine skL_take (v:= ?_) rfl ?_ ?_;rotate_left;(focus (intro w' hSw;(try dsimp only at hSw);go_simp;try with_reducible rfl));try simp only [Act.put,List.setIfInBounds_toArray,List.set_cons_zero,List.set_cons_succ])
   refine skL_off ?_
   refine wpAnyL_done (by kernel_rfl) ?_ _
   clear hS2 hdd
   obtain ⟨x0, -,hBw⟩:=HS.out _ hB2
   by_cases he0:er2=0
   ·have heb:(er2 !=0)=false:=by simp [he0]
    have hF2:Hid (fstE (ndErr N) (k+1)=0):=fst_next hF.out (hnd2.out.trans he0)
    clear he0 hF hnd2
    go_wp2
    go_roundw
    case rel=>exact ⟨k+1,by omega,by go_num,hF2,hB2⟩
    case measure=>simp [intOf];omega
   have heb:(er2 !=0)=true:=by simp [he0]
   have hr:=HE.out.symm.trans (dt_n h0.out h1h.out (fst_hit hlk hF.out (hnd2.out) he0) he0)
   clear he0 hF hnd2
   subst hr
   go_wp2
   go_ret
   exact ⟨rfl,hBw⟩
  have hFF:Hid (fstE (ndErr N) N.length=0):=by rw [show N.length=k by rw [HN.out];omega];exact hF
  have hsl:=(HS.out _ hB).2.1
  have hzz:=hB.size
  have hN0:0<N.length:=by rw [HN.out];omega
  have hN1:N.length≤4096:=by rw [HN.out];omega
  have HC0:=whole_any hsl hN0 hN1 (Lib.hid (fun x hx=>(nds_kids hFF.out hf.out x hx).1))
  rw [HN.out] at HC0
  have HC:=Lib.hid HC0
  have HAcc:Hid (∀w',Below w0.heap.size w0 w'→Calls Tryz.prog 133 #[.agg #[.slice a (m+1) c]] w' fun e w''=>∃(a':Option Addr) (c':Nat) (L:List (List Int)),e= .returned (.slice a' L.length c')∧Hid (L=accs N)∧Sl (fun k=>k<w'.heap.size) w'' a' c' L∧Below w'.heap.size w' w''):=fun w' hb=>by
   have h9:=accR_any (HS.out _ hb).2.1 hN1 (nds_acc hFF.out)
   rw [HN.out] at h9;exact h9
  have hal:Hid ((accs N).length≤4096∧∀r∈accs N,r.length≤1024):=⟨Nat.le_trans (accs_le N) hN1,accs_len hFF.out⟩
  clear hF HC0 hsl hN0 hN1
  go_wp2_with fail
  refine (HC.out).mono ?_
  rintro e w1 ⟨v,rfl,hv,hb1⟩
  have hB1:=hB.trans (hb1.mono hzz)
  clear HC x0 hB hb1 hBw
  obtain ⟨x0, -,hBw⟩:=HS.out _ hB1
  cases v with
  |false=>
   have hr:=HE.out.symm.trans (dt_w h0.out h1h.out hFF.out (fun h=>by have:=hv.out.2 h;cases this))
   clear hv
   subst hr
   go_wp2
   go_ret
   exact ⟨rfl,hBw⟩
  |true=>
   have hR:=Lib.hid (HE.out.symm.trans (dt_a h0.out h1h.out hFF.out (hv.out.1 rfl)))
   have HA:=Lib.hid (HAcc.out _ hB1)
   have hz1:=hB1.size
   clear hv HAcc
   go_wp2_with fail
   refine (HA.out).mono ?_
   rintro e w2 ⟨p2,q2,L2,rfl,hL2,hs2,hb2⟩
   have hB2:=hB1.trans (hb2.mono hz1)
   have hz2:=hB2.size
   have hl2:L2.length≤4096:=by rw [hL2.out];exact hal.out.1
   have HSo:=Lib.hid (sortedR_any hs2 (Lib.hid ⟨by omega,fun r hr=>by rw [hL2.out] at hr;have:=hal.out.2 r hr;omega⟩))
   clear HA x0 hB1 hb2 hBw hs2
   go_wp2_with fail
   refine (HSo.out).mono ?_
   rintro e w3 ⟨p3,q3,L3,rfl,hL3,hs3,hb3⟩
   have hB3:=hB2.trans (hb3.mono hz2)
   obtain ⟨-, -,hBw⟩:=HS.out _ hB3
   have hl3:=hs3.le
   obtain ⟨n3,hn3⟩:∃n,L3.length=n:=⟨_,rfl⟩
   obtain ⟨n2,hn2⟩:∃n,L2.length=n:=⟨_,rfl⟩
   have hR2:Hid (er=if n3≠n2 then 7 else 0):=by unfold Hid;rw [hR.out,←hL2.out,←hn3,←hn2,hL3.out]
   clear HSo hB2 hB3 hb3 hs3 hR hL2 hL3
   rw [hn3,hn2]
   rw [hn2] at hl2
   rw [hn3] at hl3
   clear hn3 hn2
   by_cases e3:n3=n2
   ·have hb:(((n3:Nat):Int) !=((n2:Nat):Int))=false:=by simp [e3]
    have hr:=hR2.out.trans (if_neg (fun h=>h e3))
    clear e3
    subst hr
    go_wp2
    go_ret
    exact ⟨rfl,hBw⟩
   have hb:(((n3:Nat):Int) !=((n2:Nat):Int))=true:=by simp;omega
   have hr:=hR2.out.trans (if_pos e3)
   clear e3
   subst hr
   go_wp2
   go_ret
   exact ⟨rfl,hBw⟩
end
end Go.Proofs.YtjmbphjgiodioaaGreatDoor
