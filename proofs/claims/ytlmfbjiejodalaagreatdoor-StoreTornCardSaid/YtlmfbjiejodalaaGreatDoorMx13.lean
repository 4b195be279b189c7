/- Several texts, one behind the other. Conditions: as each of them says. -/
import Derived.Test.YtlmfbjiejodalaaGreatDoorMx9
import Derived.Laws.BitsAllLaws
import Derived.Laws.Bits128
set_option maxRecDepth 100000
set_option maxHeartbeats 32000000
namespace Go.Proofs.YtlmfbjiejodalaaGreatDoor
open Go.RowKit
theorem putU_small (f:Nat) {u:Nat} (h:u<128):putU f u=[⟨(u:Int)⟩]:=by
 cases f with
 |zero=>rfl
 |succ f=>unfold putU;rw [if_pos h]
theorem putU_big (f:Nat) {u:Nat} (h:¬u<128):putU (f+1) u=⟨((u%128+128:Nat):Int)⟩::putU f (u/128):=by
 conv=>lhs;unfold putU
 rw [if_neg h]
def PutR (n:Int) (f U:Nat) (L:List By):Prop:=putI n=L++putU f U∧U<128 ^ (f+1)∧L.length+f=9
theorem putR_start {n:Int} (hn:i64 n):PutR n 9 (zz n) []:=⟨rfl,putI_lt hn,rfl⟩
theorem putR_step {n:Int} {f U:Nat} {L:List By} (h:PutR n f U L) (hU:¬U<128):∃f',PutR n f' (U/128) (L++[⟨((U%128+128:Nat):Int)⟩]):=by
 obtain ⟨h1,h2,h3⟩:=h
 cases f with
 |zero=>simp at h2;omega
 |succ f=>
  refine ⟨f,?_,?_,?_⟩
  ·rw [h1,putU_big f hU];simp
  ·rw [Nat.pow_succ] at h2;exact Nat.div_lt_of_lt_mul (by rw [Nat.mul_comm];exact h2)
  simp;omega
theorem putR_end {n:Int} {f U:Nat} {L:List By} (h:PutR n f U L) (hU:U<128):putI n=L++[⟨(U:Int)⟩]:=by rw [h.1,putU_small f hU]
theorem nat_compl {b:Nat} (hb:b<18446744073709551616):(18446744073709551615 ^^^ b:Nat)=18446744073709551615-b:=by
 have h:(BitVec.allOnes 64 ^^^ BitVec.ofNat 64 b)= ~~~(BitVec.ofNat 64 b):=BitVec.allOnes_xor
 have h2:=congrArg BitVec.toNat h
 rw [BitVec.toNat_xor,BitVec.toNat_not,BitVec.toNat_ofNat,BitVec.toNat_allOnes,Nat.mod_eq_of_lt (by simpa using hb)] at h2
 simpa using h2
theorem zz_pos {n:Int} (hn:i64 n) (h:¬n<0):IntKind.u64.wrap (IntKind.u64.wrap n*2)=(zz n:Int):=by
 unfold i64 at hn
 rw [IntKind.wrap_u64,IntKind.wrap_u64,zz_even h];omega
theorem zz_neg {n:Int} (hn:i64 n) (h:n<0):bits .xor .u64 IntKind.u64.max (IntKind.u64.wrap (IntKind.u64.wrap n*2))=(zz n:Int):=by
 have hz:=zz_odd h
 have hl:=zz_lt hn
 unfold i64 at hn
 have e:IntKind.u64.wrap (IntKind.u64.wrap n*2)=((18446744073709551615-zz n:Nat):Int):=by
  rw [IntKind.wrap_u64,IntKind.wrap_u64];omega
 rw [e]
 have k:=u64_xor_nat 18446744073709551615 (18446744073709551615-zz n) (by decide) (by omega)
 rw [nat_compl (by omega)] at k
 have e2:18446744073709551615-(18446744073709551615-zz n)=zz n:=by omega
 rw [e2] at k
 exact k
theorem low_byte {U:Nat} (hU:U<18446744073709551616):bits .or .u8 (bits .and .u64 (U:Int) 127%256) 128=(U:Int)%128+128:=by
 have k:=u64_and_nat U 127 hU (by decide)
 have e:U&&&127=U%128:=Nat.and_two_pow_sub_one_eq_mod U 7
 rw [e] at k
 rw [show (127:Int)=((127:Nat):Int) from rfl,k,show ((U%128:Nat):Int)%256=((U%128:Nat):Int) by omega,u8_or128_right _ (by omega) (by omega)]
 omega
section
variable {w:World}
theorem putint_any {n:Int} (hn:i64 n):
    Calls Tryz.prog 55 #[.int .i64 n] w fun e w'=>∃(a':Option Addr) (c':Nat) (l':List By),e= .returned (.slice a' l'.length c')∧Hid (l'=putI n)∧Ow w.heap.size (fun k=>w.heap.size≤k) w' 5 (.slice a' l'.length c') l'∧Below w.heap.size w w':=by
 have HZ:Hid (zz n<18446744073709551616):=zz_lt hn
 have HR:Hid (PutR n 9 (zz n) []):=putR_start hn
 by_cases hneg:n<0
 all_goals
  have hE:=zz_neg hn
  have hE2:=zz_pos hn
  go_enter Tryz.func55,Tryz.ntmps55
  go_wp2
  go_loopw [3,4] (fun u v wr=>∃(f U:Nat) (a':Option Addr) (c':Nat) (L:List By),Hid (U<18446744073709551616)∧u= .int .u64 (U:Int)∧v= .slice a' L.length c'∧Hid (PutR n f U L)∧Ow w.heap.size (fun k=>w.heap.size≤k) wr 5 (.slice a' L.length c') L∧Below w.heap.size w wr) (fun u _ _=>(intOf u).toNat)
  case atStart=>exact ⟨9,zz n,none,0,[],HZ,by first|rfl|(rw [hE hneg];rfl)|(rw [hE2 (by omega)];rfl),rfl,HR,Ow.nil,Below.refl _ _⟩
  case round=>
   obtain ⟨f,U,a2,c2,L,hU,rfl,rfl,hR,hO,hB⟩:=hrel
   obtain ⟨wo,rfl⟩:∃wo:World,wo=wr:=⟨_,rfl⟩
   have hz:=hB.size
   have hLn:Hid (L.length≤9):=by unfold Hid;have:=hR.out.2.2;omega
   have hLl:L.length<1000:=by have:=hLn.out;omega
   by_cases hlt:U<128
   ·have h0:¬(128:Int)≤U:=by omega
    have hb:IntKind.u8.wrap (U:Int)=(U:Int):=by rw [IntKind.wrap_u8];omega
    have hF:=putR_end hR.out hlt
    have HF:=Lib.hid hF
    clear hF hE hE2
    go_wp2_with (at_builtin;refine wpList_push_by (B:=w.heap.size) (l:=L) (y:=⟨(U:Int)⟩) rfl rfl Tryz.underlying49 info_byte rfl rfl (hO.alloc _) (by simp [go_sem]) ⟨by simp,by simp;omega⟩ (by omega) (by simp;omega) ?_)
    intro a3 c3 K3 w3 hK3 hO3 hb3
    go_wp2
    go_ret
    exact ⟨a3,c3,K3,rfl,Lib.hid (by rw [hK3.out,HF.out]),hO3,hB.trans (((Below.refl w.heap.size wo).alloc hz _).trans hb3)⟩
   have h0:(128:Int)≤U:=by omega
   have hb:=low_byte hU.out
   obtain ⟨f',hR'⟩:=putR_step hR.out hlt
   have HR':=Lib.hid hR'
   clear hR' hE hE2
   go_wp2_with (at_builtin;refine wpList_push_by (B:=w.heap.size) (l:=L) (y:=⟨(U:Int)%128+128⟩) rfl rfl Tryz.underlying49 info_byte rfl rfl (hO.alloc _) (by simp [go_sem]) ⟨by simp;omega,by simp;omega⟩ (by omega) (by simp;omega) ?_)
   intro a3 c3 K3 w3 hK3 hO3 hb3
   have hB3:=hB.trans (((Below.refl w.heap.size wo).alloc hz (.cells #[.int .u8 ((U:Int)%128+128)] 5)).trans hb3)
   have HR3:Hid (PutR n f' (U/128) K3):=by unfold Hid;rw [hK3.out];simpa using HR'.out
   have HU3:Hid (U/128<18446744073709551616):=by unfold Hid;have:=hU.out;omega
   clear hO hB hK3 hb3 hR HR' hU
   go_wp2
   go_roundw
   case rel=>
    exact ⟨f',U/128,a3,c3,K3,HU3,by simp,rfl,HR3,hO3,hB3⟩
   case measure=>simp [intOf];omega
end
theorem putI_len10 (n:Int):(putI n).length≤10:=(putI_len n).2
theorem ints_len (l:List Int):(l.map putI).flatten.length≤10*l.length:=by
 induction l with
 |nil=>simp
 |cons x l ih=>simp only [List.map_cons,List.flatten_cons,List.length_append,List.length_cons];have:=putI_len10 x;omega
theorem encL_len (l:List Int):(encL l).length≤10*(l.length+1):=by
 unfold encL;rw [List.length_append];have:=putI_len10 l.length;have:=ints_len l;omega
theorem words_len (l:List (List Int)):(l.map encL).flatten.length≤10*(l.flatten.length+l.length):=by
 induction l with
 |nil=>simp
 |cons x l ih=>simp only [List.map_cons,List.flatten_cons,List.length_append,List.length_cons];have:=encL_len x;omega
theorem map_snocB {α:Type} {l:List α} {k:Nat} {x:α} (f:α→List By) (h:l[k]? =some x):((l.take (k+1)).map f).flatten=((l.take k).map f).flatten++f x:=by
 rw [List.take_add_one,h];simp
theorem flat_row {l:List (List Int)} {k:Nat} {x:List Int} (h:l[k]? =some x):x.length≤l.flatten.length:=by
 induction l generalizing k with
 |nil=>simp at h
 |cons y l ih=>
  simp only [List.flatten_cons,List.length_append]
  cases k with
  |zero=>simp at h;subst h;omega
  |succ k=>have:=ih (by simpa using h);omega
theorem flat_take (l:List (List Int)) (k:Nat):(l.take k).flatten.length≤l.flatten.length:=by
 conv=>rhs;rw [←List.take_append_drop k l]
 rw [List.flatten_append,List.length_append];omega
theorem Ow.anyBy {B:Nat} {M M':Nat→Prop} {w:World} {T:TypeId} {v:Value} {l:List By} (h:Ow B M w T v l):Ow B M' w T v l:=h
theorem Ow.slBy {B:Nat} {M:Nat→Prop} {w:World} {T:TypeId} {a:Option Addr} {c:Nat} {l:List By} (h:Ow B M w T (.slice a l.length c) l):Sl (fun _=>False) w a c l:=
 Ow.toSl (M:=fun _=>False) (Ow.anyBy (M:=M) h) fun _ _ e=>e
section
variable {w:World} {M:Nat→Prop} {a:Option Addr} {c:Nat}
theorem putints_any {l:List Int} (hs:Sl M w a c l) (hn:l.length<1000000000):
    Calls Tryz.prog 57 #[.slice a l.length c] w fun e w'=>∃(a':Option Addr) (c':Nat) (l':List By),e= .returned (.slice a' l'.length c')∧Hid (l'=encL l)∧Ow w.heap.size (fun k=>w.heap.size≤k) w' 5 (.slice a' l'.length c') l'∧Below w.heap.size w w':=by
 have ll:=hs.le
 have hni:i64 (l.length:Int):=by unfold i64;omega
 have HC:=Lib.hid (putint_any (w:=w) hni)
 have HS:=Lib.hid hs
 clear hs hni
 go_enter Tryz.func57,Tryz.ntmps57
 go_wp2_with fail
 refine (HC.out).mono ?_
 rintro e w1 ⟨a1,c1,l1,rfl,hl1,hO1,hb1⟩
 have hz1:=hb1.size
 clear HC
 go_wp2
 go_loopw [3,11] (fun v i wr=>∃(k:Nat) (a':Option Addr) (c':Nat) (L:List By),k≤l.length∧i= .int .i64 k∧v= .slice a' L.length c'∧Hid (L=putI l.length++((l.take k).map putI).flatten)∧Ow w.heap.size (fun k=>w.heap.size≤k) wr 5 (.slice a' L.length c') L∧Below w.heap.size w wr) (fun _ i _=>l.length-(intOf i).toNat)
 case atStart=>exact ⟨0,a1,c1,l1,by omega,rfl,rfl,Lib.hid (by rw [hl1.out];simp),hO1,hb1⟩
 case round=>
  clear hO1 hb1 hz1
  obtain ⟨k,a2,c2,L,hk,rfl,rfl,hL,hO,hB⟩:=hrel
  obtain ⟨wo,rfl⟩:∃wo:World,wo=wr:=⟨_,rfl⟩
  have hz:=hB.size
  by_cases hlt:k<l.length
  ·obtain ⟨bs,os,x,rfl,hcx,hx,hxi⟩:=(HS.out.below hB).at_int hlt
   have HC:=Lib.hid (putint_any (w:=wo) hxi.out)
   have hLl:Hid (L.length≤10*(k+1)):=by
    unfold Hid;rw [hL.out,List.length_append]
    have:=putI_len10 l.length;have:=ints_len (l.take k);rw [List.length_take] at this;omega
   go_wp2_with fail
   refine (HC.out).mono ?_
   rintro e w3 ⟨a3,c3,l3,rfl,hl3,hO3,hb3⟩
   have hp3:0<l3.length:=by rw [hl3.out];have:=(putI_len x).1;omega
   have hq3:Hid (l3.length≤10):=by unfold Hid;rw [hl3.out];exact putI_len10 x
   obtain ⟨g3,rfl,hg3, -⟩:=ow_some hO3 hp3
   have hs3:=hO3.slBy
   have hO4:=hO.below hb3
   have hB3:=hB.trans (hb3.mono hz)
   have hz3:=hB3.size
   clear HC hO hb3 hO3
   go_wp2_with (at_builtin;refine wpList_app_by (B:=w.heap.size) (M:=fun _=>False) (l0:=L) (l1:=l3) rfl rfl Tryz.underlying49 info_byte rfl rfl hO4 hs3 (by have:=hLl.out;have:=hq3.out;omega) hz3 ?_)
   intro a5 c5 L5 w5 hL5 hO5 hb5
   have hB5:=hB3.trans hb5
   have hLn:Hid (L5=putI l.length++((l.take (k+1)).map putI).flatten):=by unfold Hid;rw [hL5.out,hL.out,hl3.out,map_snocB putI hx.out,List.append_assoc]
   clear hs3 hO4 hb5 hL5 hL hB3 hB
   go_wp2
   go_roundw
   case rel=>exact ⟨k+1,a5,c5,L5,by omega,by go_num,rfl,hLn,hO5,hB5⟩
   case measure=>simp [intOf];omega
  have hF:Hid (L=encL l):=by unfold Hid;rw [hL.out,List.take_of_length_le (by omega)];rfl
  go_wp2
  go_ret
  exact ⟨a2,c2,L,rfl,hF,hO,hB⟩
theorem putwords_any {l:List (List Int)} (hs:Sl M w a c l) (hn:l.length+l.flatten.length<1000000000):
    Calls Tryz.prog 56 #[.slice a l.length c] w fun e w'=>∃(a':Option Addr) (c':Nat) (l':List By),e= .returned (.slice a' l'.length c')∧Hid (l'=encW l)∧Ow w.heap.size (fun k=>w.heap.size≤k) w' 5 (.slice a' l'.length c') l'∧Below w.heap.size w w':=by
 have ll:=hs.le
 have hni:i64 (l.length:Int):=by unfold i64;omega
 have HC:=Lib.hid (putint_any (w:=w) hni)
 have HS:=Lib.hid hs
 clear hs hni
 go_enter Tryz.func56,Tryz.ntmps56
 go_wp2_with fail
 refine (HC.out).mono ?_
 rintro e w1 ⟨a1,c1,l1,rfl,hl1,hO1,hb1⟩
 have hz1:=hb1.size
 clear HC
 go_wp2
 go_loopw [3,11] (fun v i wr=>∃(k:Nat) (a':Option Addr) (c':Nat) (L:List By),k≤l.length∧i= .int .i64 k∧v= .slice a' L.length c'∧Hid (L=putI l.length++((l.take k).map encL).flatten)∧Ow w.heap.size (fun k=>w.heap.size≤k) wr 5 (.slice a' L.length c') L∧Below w.heap.size w wr) (fun _ i _=>l.length-(intOf i).toNat)
 case atStart=>exact ⟨0,a1,c1,l1,by omega,rfl,rfl,Lib.hid (by rw [hl1.out];simp),hO1,hb1⟩
 case round=>
  clear hO1 hb1 hz1
  obtain ⟨k,a2,c2,L,hk,rfl,rfl,hL,hO,hB⟩:=hrel
  obtain ⟨wo,rfl⟩:∃wo:World,wo=wr:=⟨_,rfl⟩
  have hz:=hB.size
  by_cases hlt:k<l.length
  ·obtain ⟨bs,os,ax,x,cx,rfl,hcx,hx,hxS⟩:=(HS.out.below hB).at_row hlt
   have hxl:x.length≤l.flatten.length:=flat_row hx.out
   have HC:=Lib.hid (putints_any (w:=wo) hxS (by omega))
   have hfk:=flat_take l k
   have hLl:Hid (L.length≤10*(l.flatten.length+l.length+1)):=by
    unfold Hid;rw [hL.out,List.length_append]
    have:=putI_len10 l.length;have:=words_len (l.take k);rw [List.length_take] at this;omega
   clear hfk
   go_wp2_with fail
   refine (HC.out).mono ?_
   rintro e w3 ⟨a3,c3,l3,rfl,hl3,hO3,hb3⟩
   have hp3:0<l3.length:=by rw [hl3.out];have:=(putI_len x.length).1;unfold encL;rw [List.length_append];omega
   have hq3:Hid (l3.length≤10*(x.length+1)):=by unfold Hid;rw [hl3.out];exact encL_len x
   obtain ⟨g3,rfl,hg3, -⟩:=ow_some hO3 hp3
   have hs3:=hO3.slBy
   have hO4:=hO.below hb3
   have hB3:=hB.trans (hb3.mono hz)
   have hz3:=hB3.size
   clear HC hO hb3 hO3
   go_wp2_with (at_builtin;refine wpList_app_by (B:=w.heap.size) (M:=fun _=>False) (l0:=L) (l1:=l3) rfl rfl Tryz.underlying49 info_byte rfl rfl hO4 hs3 (by have:=hLl.out;have:=hq3.out;omega) hz3 ?_)
   intro a5 c5 L5 w5 hL5 hO5 hb5
   have hB5:=hB3.trans hb5
   have hLn:Hid (L5=putI l.length++((l.take (k+1)).map encL).flatten):=by unfold Hid;rw [hL5.out,hL.out,hl3.out,map_snocB encL hx.out,List.append_assoc]
   clear hs3 hO4 hb5 hL5 hL hB3 hB
   go_wp2
   go_roundw
   case rel=>exact ⟨k+1,a5,c5,L5,by omega,by go_num,rfl,hLn,hO5,hB5⟩
   case measure=>simp [intOf];omega
  have hF:Hid (L=encW l):=by unfold Hid;rw [hL.out,List.take_of_length_le (by omega)];rfl
  go_wp2
  go_ret
  exact ⟨a2,c2,L,rfl,hF,hO,hB⟩
end
end Go.Proofs.YtlmfbjiejodalaaGreatDoor
