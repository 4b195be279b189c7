/- Several texts, one behind the other. Conditions: as each of them says. -/
import Derived.Test.YtlmfbjiejodalaaGreatDoorMx16
import Derived.Test.YtlmfbjiejodalaaGreatDoorMx7
import Derived.Test.YtlmfbjiejodalaaGreatDoorMx3
import Derived.Test.YtlmfbjiejodalaaGreatDoorMx2
import Derived.Laws.BitsAllLaws
set_option maxRecDepth 100000
set_option maxHeartbeats 32000000
namespace Go.Proofs.YtlmfbjiejodalaaGreatDoor
open Go.RowKit
theorem or_step {U:Nat} {y:Int} (hU:128*U<18446744073709551616) (h0:0≤y) (h1:y<256):
    bits .or .u64 (IntKind.u64.wrap ((U:Int)*128)) (IntKind.u64.wrap (bits .and .u8 y 127))=(((y%128).toNat+128*U:Nat):Int):=by
 have e1:IntKind.u64.wrap ((U:Int)*128)=((U*128:Nat):Int):=by rw [IntKind.wrap_u64];omega
 have k:=u8_and y 127 h0 h1 (by decide) (by decide)
 have e2:y.toNat&&&(127:Int).toNat=y.toNat%128:=Nat.and_two_pow_sub_one_eq_mod y.toNat 7
 rw [e2] at k
 have e3:IntKind.u64.wrap (bits .and .u8 y 127)=((y.toNat%128:Nat):Int):=by rw [k,IntKind.wrap_u64];omega
 rw [e1,e3,u64_or_nat _ _ (by omega) (by omega)]
 have e4:U*128 ||| y.toNat%128=U*128+y.toNat%128:=by
  have h:=Nat.shiftLeft_add_eq_or_of_lt (a:=U) (b:=y.toNat%128) (i:=7) (by omega)
  rw [Nat.shiftLeft_eq] at h
  exact h.symm
 rw [e4]
 omega
theorem and1_64 {Q:Nat} (h:Q<18446744073709551616):bits .and .u64 (Q:Int) 1=((Q%2:Nat):Int):=by
 have k:=u64_and_nat Q 1 h (by decide)
 rw [show Q&&&1=Q%2 from Nat.and_two_pow_sub_one_eq_mod Q 1] at k
 exact k
section
variable {w:World} {M:Nat→Prop} {a:Option Addr} {c g:Nat}
structure Src (w:World) (g:Nat) (a:Option Addr) (c:Nat) (L:List By) (p:Nat):Prop where
 cell:w.heap[g]? =some (.cells #[.slice a L.length c,.int .i64 (p:Int)] 181 (0,0))
 sl:Sl (fun k=>k=g) w a c L
 le:p≤L.length
theorem Src.at {L:List By} {p:Nat} (h:Src w g a c L p):w.cell? ⟨g,0,none⟩=some (.slice a L.length c)∧w.cell? ⟨g,1,none⟩=some (.int .i64 (p:Int))∧w.frozen? ⟨g,1,none⟩=false:=by
 refine ⟨?_,?_,?_⟩
 ·rw [cell_of_row _ _ _ _ _ _ h.cell];rfl
 ·rw [cell_of_row _ _ _ _ _ _ h.cell];rfl
 unfold World.frozen?;rw [h.cell];rfl
theorem Src.lt {L:List By} {p:Nat} (h:Src w g a c L p):g<w.heap.size:=(Array.getElem?_eq_some_iff.1 h.cell).1
theorem Src.kb {w1:World} {L:List By} {p:Nat} (h:Src w g a c L p) (hb:Below w.heap.size w w1):Src w1 g a c L p:=⟨(hb.block g h.lt).trans h.cell,h.sl.below hb,h.le⟩
theorem Src.set {L:List By} {p q:Nat} {v:Int} (h:Src w g a c L p) (hq:p+q≤L.length) (hv:v=((p+q:Nat):Int)):Src (w.setCell ⟨g,1,none⟩ (.int .i64 v)) g a c L (p+q):=by
 refine ⟨?_,h.sl.ext (Ext.setCell (M:=fun k=>k=g) w (p:=⟨g,1,none⟩) rfl _),hq⟩
 unfold World.setCell
 show (w.heap.modify g _)[g]? =_
 rw [Array.getElem?_modify,if_pos rfl,h.cell,hv]
 rfl
theorem back_odd {n:Int} (hn:i64 n) (ho:zz n%2=1):wrap64 (bits .xor .u64 IntKind.u64.max ((zz n:Int)/2))=n:=by
 have hl:=zz_lt hn
 have k:=u64_xor_nat 18446744073709551615 (zz n/2) (by decide) (by omega)
 rw [nat_compl (by omega)] at k
 have e:bits .xor .u64 IntKind.u64.max ((zz n:Int)/2)=((18446744073709551615-zz n/2:Nat):Int):=by
  rw [show ((zz n:Int)/2)=((zz n/2:Nat):Int) by omega];exact k
 have hb:=zz_back n
 rw [if_pos ho] at hb
 unfold i64 at hn
 rw [e]
 unfold wrap64
 omega
theorem back_even {n:Int} (hn:i64 n) (ho:¬zz n%2=1):wrap64 ((zz n:Int)/2)=n:=by
 have hl:=zz_lt hn
 have hb:=zz_back n
 rw [if_neg ho] at hb
 unfold i64 at hn
 unfold wrap64
 omega
theorem number_ok {n:Int} (hn:i64 n) {L R:List By} {p:Nat} (hS:Src w g a c L p) (hL:Hid (L.drop p=putI n++R)):
    Calls Tryz.prog 117 #[.pointer (some ⟨g,0,none⟩)] w fun e w'=>e= .returned (.int .i64 n)∧Src w' g a c L (p+(putI n).length)∧Kb g w w':=by
 have hcs:=hS.at
 have hc0:=hcs.1
 have hc1:=hcs.2.1
 have hfz:=hcs.2.2
 have HS:=Lib.hid hS
 clear hS hcs
 have ll:=HS.out.sl.le
 have hpl:=HS.out.le
 obtain ⟨r,hr⟩:∃r,(putI n).length=r+1:=⟨(putI n).length-1,by have:=(putI_len n).1;omega⟩
 have hr9:r≤9:=by have:=(putI_len n).2;omega
 have hpq:p+(r+1)≤L.length:=by have h:=congrArg List.length hL.out;rw [List.length_drop,List.length_append,hr] at h;have:=HS.out.le;omega
 obtain ⟨bs,os,x0,rfl, -, -, -⟩:=HS.out.sl.at_by (j:=p) (by omega)
 have hcap:L.length≤c:=HS.out.sl.1
 have hcm:c≤9223372036854775807:=by have:=HS.out.sl.2.1;unfold maxLen at this;exact this
 have hne:¬c=p:=by omega
 have hda:dA (some ⟨bs,os,none⟩) c p=some ⟨bs,os+p,none⟩:=by unfold dA;rw [if_neg hne];simp [Addr.add]
 have hsd:=HS.out.sl.dropB (i:=p) (by omega)
 rw [hda] at hsd
 have hPj:Hid (∀j x,j≤r→(L.drop p)[j]? =some x→(putI n)[j]? =some x):=by
  intro j x hj hx
  rw [hL.out,List.getElem?_append_left (by omega)] at hx;exact hx
 obtain ⟨b1,o1,x,e1,hcx,hx,hxi⟩:=hsd.at_by (j:=r) (by rw [List.length_drop];omega)
 obtain ⟨rfl,rfl⟩:bs=b1∧os+p=o1:=by simpa using e1
 have hxl:=putI_last hn (b:=x) (by rw [hr];exact hPj.out r x (Nat.le_refl _) hx.out)
 rw [hr] at hxl
 have HC:Hid (∀w0:World,Sl (fun k=>k=g) w0 (some ⟨bs,os+p,none⟩) (c-p) (L.drop p)→Calls Tryz.prog 165 #[.slice (some ⟨bs,os+p,none⟩) (L.length-p) (c-p)] w0 fun e w'=>e= .returned (.int .i64 (r:Int))∧w'=w0):=by
  intro w0 h0
  have h:=last_ok hn (L:=L.drop p) (R:=R) hL h0
  rw [List.length_drop,hr,Nat.add_sub_cancel] at h
  exact h
 have HD:=Lib.hid hsd
 have HR:=Lib.hid hr
 have HXL:=Lib.hid hxl
 have hcond:Hid ((r=9∧¬1<x.n∧¬x.n=0)∨(¬r=9∧0<r∧¬x.n=0)∨(¬r=9∧r=0)):=by
  unfold Hid
  have h1:=hxl.1;have h2:=hxl.2
  by_cases h9:r=9
  ·exact .inl ⟨h9,by have:=h2 (by omega);omega,by have:=h1 (by omega);omega⟩
  by_cases h0:0<r
  ·exact .inr (.inl ⟨h9,h0,by have:=h1 (by omega);omega⟩)
  exact .inr (.inr ⟨h9,by omega⟩)
 clear hsd hr hxl e1 hda hpl
 go_enter Tryz.func117,Tryz.ntmps117
 go_wp2
 refine wp_quiet_fast (by kernel_rfl) (by kernel_rfl) ?_
 repeat (first|go_big_quiet_step (fail)|quiet_step (fail))
 refine wpQuiet_nil ?_
 intro _ hw'
 obtain ⟨nq,hw''⟩:=hw'
 subst hw''
 go_wp2_with fail
 refine (HC.out _ (HD.out.drewN nq)).mono ?_
 rintro e w1 ⟨rfl,rfl⟩
 have hcx1:(w.drewN nq).cell? ⟨bs,os+p+r,none⟩=some (.int .u8 x.n):=hcx
 clear HC
 obtain ⟨Q,hQ⟩:∃Q:Nat,Q=r+1:=⟨_,rfl⟩
 have HQ:=Lib.hid hQ
 have HLn:Hid ((putI n).length=Q):=by unfold Hid;rw [HR.out,hQ]
 have HPQ:Hid (p+Q≤L.length):=by unfold Hid;omega
 clear hQ
 have hcon:=hcond.out
 clear hcond
 rcases hcon with ⟨h9,hA,hB⟩|⟨h9,h0,hB⟩|⟨h9,h0⟩
 rotate_left 2
 focus
  have i0:r=0:=h0
  subst i0
  clear h9
  go_wp2
 rotate_left 1
 focus
  subst h9
  have hB2:(x.n==0)=false:=by simp [hB]
  go_wp2
 rotate_left 1
 focus
  have i9:¬(r:Int)=9:=by omega
  have i0:0<(r:Int):=by omega
  have hB2:(x.n==0)=false:=by simp [hB]
  go_wp2
 all_goals
  go_loop [5,6] (fun u i=>∃(j U:Nat) (z:Int),j≤Q∧i= .int .i64 z∧Hid (z=(j:Int)-1)∧u= .int .u64 (U:Int)∧Hid (U=valU ((putI n).drop j))) (fun _ i=>(intOf i+1).toNat)
  case atStart=>exact ⟨Q,0,_,Nat.le_refl _,rfl,Lib.hid (by have:=HQ.out;omega),rfl,Lib.hid (by rw [List.drop_of_length_le (by rw [HLn.out];exact Nat.le_refl _)];rfl)⟩
  case round=>
   obtain ⟨j,U,z,hj,rfl,hz,rfl,hU⟩:=hrel
   by_cases hj0:0<j
   ·obtain ⟨j1,rfl⟩:∃j1,j=j1+1:=⟨j-1,by omega⟩
    obtain rfl:z=(j1:Int):=by have:=hz.out;omega
    obtain ⟨b2,o2,y,e2,hcy,hy,hyi⟩:=HD.out.at_by (j:=j1) (by rw [List.length_drop];have:=HPQ.out;omega)
    obtain ⟨rfl,rfl⟩:bs=b2∧os+p=o2:=by simpa using e2
    have hjl:j1<L.length-p:=by have:=HPQ.out;omega
    have hput:=hPj.out j1 y (by have:=HQ.out;omega) hy.out
    have hst:=Lib.hid (putI_step hn hput)
    clear hput
    have hy0:=hyi.out.1
    have hy1:=hyi.out.2
    have hor:Hid (bits .or .u64 (IntKind.u64.wrap ((U:Int)*128)) (IntKind.u64.wrap (bits .and .u8 y.n 127))=((valU ((putI n).drop j1):Nat):Int)):=by
     have h1:=hst.out.1;have h2:=hst.out.2
     rw [←hU.out] at h1 h2
     unfold Hid;rw [or_step h2 hy0 hy1,h1]
    go_wp2
    go_round
    case rel=>exact ⟨j1,_,(j1:Int)-1,by omega,by go_num,Lib.hid rfl,congrArg (Value.int .u64) hor.out,Lib.hid rfl⟩
    case measure=>simp [intOf]
   have hj00:Hid (j=0):=by unfold Hid;omega
   have hzn:¬(0:Int)≤z:=by have:=hz.out;omega
   have hUz:Hid (U=zz n):=by unfold Hid;rw [hU.out,hj00.out,List.drop_zero,putI_val hn]
   have hU64:U<18446744073709551616:=by rw [hUz.out];exact zz_lt hn
   have HU64:=Lib.hid hU64
   clear hU64
   by_cases hodd:U%2=1
   ·have hand:=and1_64 HU64.out
    rw [hodd] at hand
    have HV:Hid (wrap64 (bits .xor .u64 IntKind.u64.max ((U:Int)/2))=n):=by unfold Hid;rw [hUz.out] at hodd ⊢;exact back_odd hn hodd
    go_wp2
    go_ret
    refine ⟨by rw [HV.out];rfl,?_,kb_set (kb_of (below_drewN _ _ _)) rfl _⟩
    rw [HLn.out]
    exact (HS.out.kb (below_drewN _ _ nq)).set HPQ.out (by have:=HQ.out;omega)
   have hand:=and1_64 HU64.out
   rw [show U%2=0 by omega] at hand
   have HV:Hid (wrap64 ((U:Int)/2)=n):=by unfold Hid;rw [hUz.out] at hodd ⊢;exact back_even hn hodd
   go_wp2
   go_ret
   refine ⟨by rw [HV.out];rfl,?_,kb_set (kb_of (below_drewN _ _ _)) rfl _⟩
   rw [HLn.out]
   exact (HS.out.kb (below_drewN _ _ nq)).set HPQ.out (by have:=HQ.out;omega)
theorem number_torn {L:List By} (hS:Src w g a c L 0) (hall:Hid (∀x∈L,128≤x.n)) (hl:L.length<10):
    Calls Tryz.prog 117 #[.pointer (some ⟨g,0,none⟩)] w fun e w'=>e= .panicked [{v:= .iface 44 (.int .i64 4),recovered:=false}]∧Below w.heap.size w w':=by
 have hcs:=hS.at
 have hc0:=hcs.1
 have hc1:=hcs.2.1
 have hfz:=hcs.2.2
 have HS:=Lib.hid hS
 clear hS hcs
 have ll:=HS.out.sl.le
 have hcap:L.length≤c:=HS.out.sl.1
 have hcm:c≤9223372036854775807:=by have:=HS.out.sl.2.1;unfold maxLen at this;exact this
 have HC:Hid (∀w0:World,Below w.heap.size w w0→Calls Tryz.prog 165 #[.slice a L.length c] w0 fun e w'=>e= .panicked [{v:= .iface 44 (.int .i64 4),recovered:=false}]∧w'=w0):=
  fun w0 h0=>last_torn (HS.out.sl.below h0) hall hl
 go_enter Tryz.func117,Tryz.ntmps117
 go_wp2
 refine wp_quiet_fast (by kernel_rfl) (by kernel_rfl) ?_
 repeat (first|go_big_quiet_step (fail)|quiet_step (fail))
 refine wpQuiet_nil ?_
 intro _ hw'
 obtain ⟨nq,hw''⟩:=hw'
 subst hw''
 go_wp2_with fail
 refine (HC.out _ (below_drewN _ _ _)).mono ?_
 rintro e w1 ⟨rfl,rfl⟩
 go_wp2
 exact ⟨rfl,rfl,below_drewN _ _ _⟩
theorem length_ok {n:Nat} (hn:(n:Int)≤9223372036854775807) {L R:List By} {p:Nat} (hS:Src w g a c L p) (hL:Hid (L.drop p=putI n++R)):
    Calls Tryz.prog 168 #[.pointer (some ⟨g,0,none⟩)] w fun e w'=>e= .returned (.int .i64 n)∧Src w' g a c L (p+(putI n).length)∧Kb g w w':=by
 have HC:=Lib.hid (number_ok (n:=(n:Int)) (by unfold i64;omega) hS hL)
 clear hS
 go_enter Tryz.func168,Tryz.ntmps168
 go_wp2_with fail
 refine (HC.out).mono ?_
 rintro e w1 ⟨rfl,hS1,hK1⟩
 go_wp2
 go_ret
 exact ⟨rfl,hS1,hK1⟩
end
end Go.Proofs.YtlmfbjiejodalaaGreatDoor
