/- Several texts, one behind the other. Conditions: as each of them says. -/
import Derived.Test.YtlmfbjiejodalaaGreatDoorMx13
import Derived.Lib.SliceRun
set_option maxRecDepth 100000
set_option maxHeartbeats 32000000
namespace Go.Proofs.YtlmfbjiejodalaaGreatDoor
open Go.RowKit
def crS (r:Nat):Nat:=if r%2=1 then (r/2) ^^^ 3988292384 else r/2
def crI:Nat→Nat→Nat
 |0,r=>r
 |j+1,r=>crS (crI j r)
def crB (r:Nat) (b:By):Nat:=crI 8 (r ^^^ b.n.toNat)
def crL (l:List By):Nat:=l.foldl crB 4294967295
def crc (l:List By):Nat:=crL l ^^^ 4294967295
theorem xor32 {a b:Nat} (ha:a<4294967296) (hb:b<4294967296):a ^^^ b<4294967296:=Nat.xor_lt_two_pow (n:=32) ha hb
theorem crL_snoc {l:List By} {k:Nat} {b:By} (h:l[k]? =some b):crL (l.take (k+1))=crB (crL (l.take k)) b:=by
 unfold crL;rw [List.take_add_one,h,List.foldl_append];rfl
theorem and1_32 {Q:Nat} (h:Q<4294967296):bits .and .u32 (Q:Int) 1=((Q%2:Nat):Int):=by
 have k:=u32_and_nat Q 1 h (by decide)
 rw [show Q&&&1=Q%2 from Nat.and_two_pow_sub_one_eq_mod Q 1] at k
 exact k
section
variable {w:World} {M:Nat→Prop} {a:Option Addr} {c:Nat}
theorem sum_any {l:List By} (hs:Sl M w a c l):
    Calls Tryz.prog 105 #[.slice a l.length c] w fun e w'=>e= .returned (.int .i64 (crc l:Int))∧crc l<4294967296∧w'=w:=by
 have ll:=hs.le
 have HS:=Lib.hid hs
 clear hs
 go_enter Tryz.func105,Tryz.ntmps105
 go_wp2
 go_loop [3,9] (fun r i=>∃(k R:Nat),k≤l.length∧i= .int .i64 k∧r= .int .u32 (R:Int)∧Hid (R<4294967296)∧Hid (R=crL (l.take k))) (fun _ i=>l.length-(intOf i).toNat)
 case atStart=>exact ⟨0,4294967295,by omega,rfl,rfl,Lib.hid (by decide),Lib.hid rfl⟩
 case round=>
  obtain ⟨k,R,hk,rfl,rfl,hR,hRl⟩:=hrel
  by_cases hlt:k<l.length
  ·obtain ⟨bs,os,x,rfl,hcx,hx,hxi⟩:=HS.out.at_by hlt
   have hx0:=hxi.out.1
   have hx1:=hxi.out.2
   have hxe:Hid (bits .xor .u32 (R:Int) x.n=((R ^^^ x.n.toNat:Nat):Int)):=by
    have e:x.n=((x.n.toNat:Nat):Int):=by omega
    have k:=u32_xor_nat R x.n.toNat hR.out (by omega)
    rw [←e] at k
    exact k
   have hx2:Hid (R ^^^ x.n.toNat<4294967296):=xor32 hR.out (by omega)
   go_wp2
   go_loop [3,17] (fun r i=>∃(j Q:Nat),j≤8∧i= .int .i64 j∧r= .int .u32 (Q:Int)∧Hid (Q<4294967296)∧Hid (Q=crI j (R ^^^ x.n.toNat))) (fun _ i=>8-(intOf i).toNat)
   case atStart=>
    exact ⟨0,R ^^^ x.n.toNat,by omega,rfl,congrArg (Value.int .u32) hxe.out,hx2,Lib.hid rfl⟩
   case round=>
    obtain ⟨j,Q,hj,rfl,rfl,hQ,hQl⟩:=hrel
    by_cases hj8:j<8
    ·by_cases hodd:Q%2=1
     ·have hand:=and1_32 hQ.out
      rw [hodd] at hand
      obtain ⟨Z,hZ⟩:∃Z,Z=Q/2 ^^^ 3988292384:=⟨_,rfl⟩
      have hxo:bits .xor .u32 ((Q:Int)/2) 3988292384=(Z:Int):=by rw [hZ];exact u32_xor_nat (Q/2) 3988292384 (by have:=hQ.out;omega) (by decide)
      have hQn:Hid (Z=crI (j+1) (R ^^^ x.n.toNat)):=by unfold Hid;rw [hZ,crI,←hQl.out];unfold crS;rw [if_pos hodd]
      have hQ2:Hid (Z<4294967296):=by unfold Hid;rw [hZ];exact xor32 (by have:=hQ.out;omega) (by decide)
      have HZ:=Lib.hid hZ
      clear hZ
      go_wp2
      go_round
      case rel=>exact ⟨j+1,Z,by omega,by go_num,rfl,hQ2,hQn⟩
      case measure=>simp [intOf];omega
     have hand:=and1_32 hQ.out
     rw [show Q%2=0 by omega] at hand
     have hQn:Hid (Q/2=crI (j+1) (R ^^^ x.n.toNat)):=by unfold Hid;rw [crI,←hQl.out];unfold crS;rw [if_neg hodd]
     have hQ2:Hid (Q/2<4294967296):=by have:=hQ.out;unfold Hid;omega
     go_wp2
     go_round
     case rel=>exact ⟨j+1,Q/2,by omega,by go_num,by simp,hQ2,hQn⟩
     case measure=>simp [intOf];omega
    have hj9:Hid (j=8):=by unfold Hid;omega
    have hRn:Hid (Q=crL (l.take (k+1))):=by unfold Hid;rw [crL_snoc hx.out,←hRl.out,hQl.out,hj9.out];rfl
    go_wp2
    go_round
    case rel=>exact ⟨k+1,Q,by omega,by go_num,rfl,hQ,hRn⟩
    case measure=>simp [intOf];omega
  have hRn:Hid (R=crL l):=by unfold Hid;rw [hRl.out,List.take_of_length_le (by omega)]
  have hxo:bits .xor .u32 (R:Int) 4294967295=(crc l:Int):=by
   have:=u32_xor_nat R 4294967295 hR.out (by decide)
   unfold crc;rw [←hRn.out];exact this
  have hlt2:crc l<4294967296:=by unfold crc;rw [←hRn.out];exact xor32 hR.out (by decide)
  go_wp2
  go_ret
  exact ⟨rfl,rfl⟩
def crS4 (l:List By):List By:=[⟨(crc l:Int)/16777216⟩,⟨(crc l:Int)/65536%256⟩,⟨(crc l:Int)/256%256⟩,⟨(crc l:Int)%256⟩]
theorem sealed_any {l:List By} (hs:Sl M w a c l):
    Calls Tryz.prog 58 #[.slice a l.length c] w fun e w'=>∃g,e= .returned (.slice (some ⟨g,0,none⟩) 4 4)∧Sl (fun _=>False) w' (some ⟨g,0,none⟩) 4 (crS4 l)∧Below w.heap.size w w':=by
 have HC:=Lib.hid (sum_any hs)
 have ll:=hs.le
 clear hs
 go_enter Tryz.func58,Tryz.ntmps58
 go_wp2_with fail
 refine (HC.out).mono ?_
 rintro e w1 ⟨rfl,hlt,rfl⟩
 clear HC
 go_wp2
 go_ret
 refine ⟨w1.heap.size,rfl,Sl.litB (xs:=crS4 l) (heap_alloc_new w1 _) rfl (fun e=>e) ?_ rfl (by unfold maxLen;decide),(Below.refl _ _).alloc (Nat.le_refl _) _⟩
 intro x hx
 have:=hlt
 simp [crS4] at hx
 rcases hx with rfl|rfl|rfl|rfl<;>simp<;>omega
theorem cloneB_any {l:List By} (hs:Sl M w a c l) (hn:l.length<100000000000):
    Calls Tryz.prog 43 #[.slice a l.length c] w fun e w'=>∃(a':Option Addr) (c':Nat) (l':List By),e= .returned (.slice a' l'.length c')∧Hid (l'=l)∧Ow w.heap.size (fun k=>w.heap.size≤k) w' 5 (.slice a' l'.length c') l'∧Below w.heap.size w w':=by
 have he:=fun (w:World) (a:Option Addr) (n c:Nat)=>Lib.run_eql_slice_nil (P:=Tryz.prog) w 49 5 a n c 0 0 Tryz.underlying49
 have ll:=hs.le
 have HS:=Lib.hid hs
 have HN:=Lib.hid hn
 clear hs hn
 cases a with
 |none=>
  have h0:l=[]:=by
   cases l with
   |nil=>rfl
   |cons x l=>obtain ⟨_,_,_,h,_⟩:=HS.out.at_by (j:=0) (by simp);simp at h
  subst h0
  clear HN ll
  go_enter Tryz.func43,Tryz.ntmps43
  go_wp2
  go_ret
  exact ⟨none,0,[],rfl,rfl,Ow.nil,Below.refl _ _⟩
 |some ad=>
  go_enter Tryz.func43,Tryz.ntmps43
  go_wp2_with (at_builtin;refine wpList_app_by (B:=w.heap.size) (M:=M) (l0:=[]) (l1:=l) rfl rfl Tryz.underlying49 info_byte rfl rfl (Ow.zero (Nat.le_refl _)) (HS.out.alloc _) (by have:=HN.out;simp;omega) (by simp) ?_)
  intro a5 c5 L5 w5 hL5 hO5 hb5
  go_wp2
  go_ret
  exact ⟨a5,c5,L5,rfl,hL5,hO5,((Below.refl _ _).alloc (Nat.le_refl _) _).trans hb5⟩
theorem putI_nn (n:Int):0<(putI n).length:=(putI_len n).1
theorem Ow.oneB {B:Nat} {M:Nat→Prop} {T:TypeId} {k:Int} (hk:0≤k∧k<256) (hB:B≤w.heap.size):Ow B M (w.alloc (.cells #[.int .u8 k] T)) T (.slice (some ⟨w.heap.size,0,none⟩) 1 1) [(⟨k⟩:By)]:=by
 refine ⟨[.int .u8 k],World.ownsRow_lit w #[.int .u8 k] 1 hB (by unfold maxLen;decide) rfl,fun j x hj=> ?_⟩
 obtain ⟨rfl,rfl⟩:j=0∧x=⟨k⟩:=by
  rcases j with _|j
  ·simpa using hj.symm
  simp at hj
 exact ⟨rfl,hk⟩
theorem crS4_len (l:List By):(crS4 l).length=4:=rfl
theorem seal_any {l:List By} {k:Int} (hs:Sl M w a c l) (hk:0<k∧k<255) (hn:l.length<10000000000) (h0:0<l.length):
    Calls Tryz.prog 26 #[.int .i64 k,.slice a l.length c] w fun e w'=>∃(a':Option Addr) (c':Nat) (l':List By),e= .returned (.slice a' l'.length c')∧Hid (l'=sealP crS4 k l)∧Ow w.heap.size (fun k=>w.heap.size≤k) w' 5 (.slice a' l'.length c') l'∧Below w.heap.size w w':=by
 have ll:=hs.le
 have hk1:=hk.1
 have hk2:=hk.2
 have HN:=Lib.hid hn
 have hni:i64 (l.length:Int):=by unfold i64;omega
 have HC:=Lib.hid (fun (w0:World)=>putint_any (w:=w0) hni)
 have HL0:=Lib.hid h0
 obtain ⟨bs,os, -,rfl, -, -, -⟩:=hs.at_by h0
 have HS:=Lib.hid hs
 clear hs hni hn hk h0
 go_enter Tryz.func26,Tryz.ntmps26
 go_wp2_with fail
 refine ((HC.out) _).mono ?_
 rintro e w1 ⟨a1,c1,l1,rfl,hl1,hO1,hb1⟩
 have hz1:=hb1.size
 have hp1:0<l1.length:=by rw [hl1.out];exact putI_nn _
 obtain ⟨g1,rfl, -, -⟩:=ow_some hO1 hp1
 have hs1:=hO1.slBy
 have hB1:=((Below.refl w.heap.size w).alloc (Nat.le_refl _) (.cells #[.int .u8 k] 5)).trans (hb1.mono (by simp))
 have hO0:Ow w.heap.size (fun k=>w.heap.size≤k) w1 5 (.slice (some ⟨w.heap.size,0,none⟩) 1 1) [(⟨k⟩:By)]:=(Ow.oneB (w:=w) ⟨by omega,by omega⟩ (Nat.le_refl _)).below hb1
 have hzw:=hB1.size
 have hq1:Hid (l1.length≤10):=by unfold Hid;rw [hl1.out];exact putI_len10 _
 clear HC hb1 hO1 hp1
 go_wp2_with (at_builtin;refine wpList_app_by (B:=w.heap.size) (M:=fun _=>False) (l0:=[(⟨k⟩:By)]) (l1:=l1) rfl rfl Tryz.underlying49 info_byte rfl rfl hO0 hs1 (by have:=hq1.out;simp;omega) hzw ?_)
 intro a2 c2 L2 w2 hL2 hO2 hb2
 have hB2:=hB1.trans hb2
 have hz2:=hB2.size
 have hq2:Hid (L2.length≤11):=by unfold Hid;rw [hL2.out];have:=hq1.out;simp;omega
 have hs2:=HS.out.below hB2
 clear hs1 hO0 hb2 hB1
 go_wp2_with (at_builtin;refine wpList_app_by (B:=w.heap.size) (M:=M) (l0:=L2) (l1:=l) rfl rfl Tryz.underlying49 info_byte rfl rfl hO2 hs2 (by have:=hq2.out;have:=HN.out;omega) hz2 ?_)
 intro a3 c3 L3 w3 hL3 hO3 hb3
 have hB3:=hB2.trans hb3
 have hz3:=hB3.size
 have hl3:Hid (L3=bodyP k l):=by unfold Hid bodyP;rw [hL3.out,hL2.out,hl1.out];simp
 have hq3:Hid (L3.length≤11+l.length):=by unfold Hid;rw [hL3.out,List.length_append];have:=hq2.out;omega
 have hs3:=hO3.slBy
 have HC:=Lib.hid (sealed_any hs3)
 clear hs2 hO2 hb3 hB2 hs3
 go_wp2_with fail
 refine (HC.out).mono ?_
 rintro e w4 ⟨g4,rfl,hs4,hb4⟩
 have hO4:=hO3.below hb4
 have hB4:=hB3.trans (hb4.mono hz3)
 have hz4:=hB4.size
 clear HC hO3 hb4 hB3
 go_wp2_with (at_builtin;refine wpList_app_by (B:=w.heap.size) (M:=fun _=>False) (l0:=L3) (l1:=crS4 L3) rfl rfl Tryz.underlying49 info_byte rfl rfl hO4 hs4 (by have:=hq3.out;have:=HN.out;rw [crS4_len];omega) hz4 ?_)
 intro a5 c5 L5 w5 hL5 hO5 hb5
 go_wp2
 go_ret
 exact ⟨a5,c5,L5,rfl,Lib.hid (by rw [hL5.out,hl3.out];rfl),hO5,hB4.trans hb5⟩
end
end Go.Proofs.YtlmfbjiejodalaaGreatDoor
