/- Several texts, one behind the other. Conditions: as each of them says. -/
import Derived.Test.YtjmbphjgiodioaaGreatDoorMv11
import Derived.Lib.SliceRun
import Derived.Laws.BitsAllLaws
import Derived.Laws.Bits128
import Derived.Deep.Cut
set_option maxRecDepth 100000
set_option maxHeartbeats 32000000
namespace Go.Proofs.YtjmbphjgiodioaaGreatDoor
open Go.RowKit
section
variable {B:Nat} {w:World} {a:Option Addr} {c:Nat}
theorem pow36 (w:World):Calls Tryz.prog 474 #[.int .i64 36] w fun e w'=>e= .returned (.bool false)∧w'=w:=by
 have hb:bits .and .i64 36 35=32:=by kernel_rfl
 go_enter Tryz.func474,Tryz.ntmps474
 go_wp2
 go_ret
 exact ⟨rfl,rfl⟩
def d36:ByteArray:={data:= #[48,49,50,51,52,53,54,55,56,57,97,98,99,100,101,102,103,104,105,106,107,108,109,110,111,112,113,114,115,116,117,118,119,120,121,122]}
theorem d36_at:∀k:Fin 36,(d36.data[k.val]?.map fun b=>(b.toNat:Int))=some (dg k.val):=by decide+kernel
theorem idx36 {w:World} {z:Int} {k:Nat} (hz:z=(k:Int)) (hk:k<36):(Instr.index 9 (.string {data:= #[48,49,50,51,52,53,54,55,56,57,97,98,99,100,101,102,103,104,105,106,107,108,109,110,111,112,113,114,115,116,117,118,119,120,121,122]}) (.int .u64 z)).run Tryz.prog w= .ok (.int .u8 (dg k)) w:=by
 show (Instr.index 9 (.string d36) (.int .u64 z)).run Tryz.prog w= .ok (.int .u8 (dg k)) w
 subst hz
 have hs:d36.size=36:=by decide+kernel
 rw [run_index_string w 9 d36 .u64 _ Tryz.underlying9,dif_pos ⟨by omega,by rw [hs];omega⟩]
 have h:=d36_at ⟨k,hk⟩
 have hk2:k<d36.data.size:=by show k<d36.size;omega
 simp only [Array.getElem?_eq_getElem hk2,Option.map_some,Option.some.injEq] at h
 have e:((k:Int)).toNat=k:=by omega
 simp only [e]
 rw [←h]
 rfl
theorem wpList_idx {w:World} {o:Oper} {a:Act} {ops:Array Oper} {rest:List Oper} {Q:Exit→Act→World→Prop} {t:TypeId} {S:ByteArray} {xo:Operand} {y v:Value} (hg:o.guard=none) (hop:o.op= .index t (.const (.string S)) xo)
    (hx:a.eval xo=y) (hrun:(Instr.index t (.string S) y).run Tryz.prog w= .ok v w) (h:wpList Tryz.prog ops Q rest (a.put o.dst v) w):wpList Tryz.prog ops Q (o::rest) a w:=by
 refine wpList_plain hg fun K' hK'=> ?_
 have h2:a.eval (.const (.string S))= .string S:=rfl
 unfold Oper.wp
 simp [execOp,hop,hx,h2,hrun,Result.andThen]
 exact hK' _ _ h
theorem slice65 (w:World) (g:Nat) {q:Nat} (hq:q≤64):(Instr.sliceAt 529 (.pointer (some ⟨g,0,none⟩)) (some (.int .i64 (q:Int))) none none).run Tryz.prog w= .ok (.slice (some ⟨g,q,none⟩) (65-q) (65-q)) w:=by
 have ha:Tryz.prog.arrayLen 529=65:=by kernel_rfl
 have hu:Tryz.prog.underlying 529=some (.array (Tryz.prog.arrayLen 529) (Tryz.prog.elem 529)):=by kernel_rfl
 have h:=run_sliceAt_array_l (P:=Tryz.prog) w 529 ⟨g,0,none⟩ hu .i64 (q:Int) (by omega) (by rw [ha];omega)
 have hs:(sizeOf (Tryz.prog.elem 529)).run Tryz.prog w= .ok 1 w:=by kernel_rfl
 rw [h,hs,ha]
 have e:¬(65:Nat)=q:=by omega
 have e2:((q:Int)).toNat=q:=by omega
 simp only [Result.andThen,slicedAt,e2,if_neg e,Nat.mul_one]
 rw [show (⟨g,0,none⟩:Addr).add q=⟨g,q,none⟩ by unfold Addr.add;split<;>simp_all]
def Av (w:World) (g i:Nat) (R:List By):Prop:=∃vs,w.heap[g]? =some (.cells vs 529 (0,0))∧vs.size=65∧R.length+i=65∧∀j x,R[j]? =some x→vs[i+j]? =some (.int .u8 x.n)
theorem av_sl {w:World} {g i:Nat} {R:List By} {M:Nat→Prop} (h:Av w g i R) (hb:∀b∈R,0≤b.n∧b.n<256) (hM:¬M g):Sl M w (some ⟨g,i,none⟩) (65-i) R:=by
 obtain ⟨vs,h1,h2,h3,h4⟩:=h
 refine ⟨by omega,by unfold maxLen;omega,fun j x hj=>⟨g,i,[.int .u8 x.n],rfl,(Array.getElem?_eq_some_iff.1 h1).1,hM,⟨rfl,hb x (List.mem_of_getElem? hj)⟩,fun k u hk=> ?_⟩⟩
 obtain ⟨rfl,rfl⟩:k=0∧u= .int .u8 x.n:=by
  rcases k with _|k
  ·simpa using hk.symm
  simp at hk
 rw [cell_of_row _ _ _ _ _ _ h1]
 have e:i+j*GR.sz By+0=i+j:=by simp [GR.sz]
 rw [e];exact h4 j x hj
theorem av_set {w:World} {g q:Nat} {R:List By} {d:Int} (h:Av w g (q+1) R):Av (w.setCell ⟨g,q,none⟩ (.int .u8 d)) g q (⟨d⟩::R):=by
 obtain ⟨vs,h1,h2,h3,h4⟩:=h
 refine ⟨_,heap_setCell_same _ _ _ _ _ _ h1,by simpa using h2,by simp;omega,fun j x hj=> ?_⟩
 rcases j with _|j
 ·simp at hj;subst hj
  rw [Array.getElem?_setIfInBounds];simp;omega
 simp at hj
 have h5:=h4 j x hj
 rw [Array.getElem?_setIfInBounds,if_neg (by omega),show q+(j+1)=q+1+j by omega];exact h5
theorem t36_step {u x:Nat} {R:List By} (h:t36 u=t36 x++R∧x*36 ^ R.length≤u) (hx:36≤x):t36 u=t36 (x/36)++((⟨dg (x%36)⟩:By)::R)∧x/36*36 ^ ((⟨dg (x%36)⟩:By)::R).length≤u:=by
 refine ⟨by rw [h.1,t36_up (by omega)];simp,?_⟩
 rw [List.length_cons,Nat.pow_succ,Nat.mul_comm (36 ^ R.length) 36,←Nat.mul_assoc]
 exact Nat.le_trans (Nat.mul_le_mul_right _ (by omega)) h.2
theorem pw_le {x n u:Nat} (h:x*36 ^ n≤u) (hx:36≤x) (hu:(u:Int)<18446744073709551616):n≤11:=by
 by_cases e:n≤11
 ·exact e
 have h1:36 ^ 12≤36 ^ n:=Nat.pow_le_pow_right (by omega) (by omega)
 have h2:36*36 ^ n≤x*36 ^ n:=Nat.mul_le_mul_right _ hx
 have h3:(36:Nat) ^ 12=4738381338321616896:=by decide
 omega
theorem fbits_any {u:Nat} (hu:(u:Int)<18446744073709551616) {l:List By} (hO:Ow B (fun k=>B≤k) w 5 (.slice a l.length c) l) (hB:B≤w.heap.size) (hn:Hid (l.length<100000)):
    Calls Tryz.prog 450 #[.slice a l.length c,.int .u64 u,.int .i64 36,.bool false,.bool true] w fun e w'=>∃(a':Option Addr) (c':Nat) (l':List By),e= .returned (.tuple #[.slice a' l'.length c',.string ⟨#[]⟩])∧Hid (l'=l++t36 u)∧Ow B (fun k=>B≤k) w' 5 (.slice a' l'.length c') l'∧Below B w w':=by
 have HO:=Lib.hid hO
 have HU:=Lib.hid hu
 have HL:Hid (∀k,(Value.slice a l.length c).ownBlock=some k→k<w.heap.size):=fun k hk=>(hO.lt k hk).2
 clear hO hu
 go_enter Tryz.func450,Tryz.ntmps450
 go_upto_region 4 with (fail)
 obtain ⟨w1,hw1⟩:∃w1,w1=w.alloc (.cells Tryz.zeroCells529 529):=⟨_,rfl⟩
 have hB1:Below B w w1:=by rw [hw1];exact (Below.refl _ _).alloc hB _
 have hz1:w1.heap.size=w.heap.size+1:=by rw [hw1];simp
 have hA1:Hid (Av w1 w.heap.size 65 []):=⟨_,by rw [hw1];exact heap_alloc_new _ _,by kernel_rfl,rfl,fun j x h=>by simp at h⟩
 have hO1:=Lib.hid ((HO.out.below (by rw [hw1];exact (Below.refl w.heap.size w).alloc (Nat.le_refl _) _):Ow B (fun k=>B≤k) w1 5 (.slice a l.length c) l))
 have hP0:Hid (t36 u=t36 u++[]∧u*36 ^ ([]:List By).length≤u):=⟨by simp,by simp⟩
 have hne0:Hid (1≤([]:List By).length→u≠0):=fun h=>by simp at h
 rw [←hw1]
 clear hw1 HO
 go_wp2_with fail
 refine (pow36 _).mono ?_
 rintro e w2 ⟨rfl,hw2⟩
 obtain rfl:w1=w2:=hw2.symm
 go_wp2
 go_loopw [1,13] (fun s1 s13 wr=>∃(x i:Nat) (R:List By),s1= .int .u64 x∧s13= .int .i64 i∧Hid (t36 u=t36 x++R∧x*36 ^ R.length≤u)∧i≤65∧Hid (x≤u)∧Hid (1≤R.length→x≠0)∧Hid (Av wr w.heap.size i R)∧Below B w wr∧Hid (Ow B (fun k=>B≤k) wr 5 (.slice a l.length c) l)) (fun s1 _ _=>(intOf s1).toNat)
 case atStart=>exact ⟨u,65,[],rfl,rfl,hP0,by omega,Nat.le_refl _,hne0,hA1,hB1,hO1⟩
 case round=>
  clear hB1 hz1 hA1 hO1 hP0 hne0
  obtain ⟨x,i,R,rfl,rfl,hP,hi,hxu,hne,hA,hBw,hOw⟩:=hrel
  obtain ⟨wo,rfl⟩:∃wo:World,wo=wr:=⟨_,rfl⟩
  have hxu2:=hxu.out
  by_cases hx:36≤x
  ·have hx36:(36:Int)≤(x:Int):=by omega
   have hRl:R.length≤11:=pw_le hP.out.2 hx HU.out
   obtain ⟨vs,hvs,hvz,hRi,hvr⟩:=hA.out
   obtain ⟨q,rfl⟩:∃q,i=q+1:=⟨i-1,by omega⟩
   have hwq:IntKind.u64.wrap ((x:Int)/36)=(x:Int)/36:=by
    have:=HU.out
    unfold IntKind.wrap;simp [IntKind.signed,IntKind.bits];omega
   have hwm:IntKind.u64.wrap ((x:Int)/36*36)=(x:Int)/36*36:=by
    have:=HU.out
    unfold IntKind.wrap;simp [IntKind.signed,IntKind.bits];omega
   have hws:IntKind.u64.wrap ((x:Int)-(x:Int)/36*36)=(x:Int)-(x:Int)/36*36:=by
    have:=HU.out
    unfold IntKind.wrap;simp [IntKind.signed,IntKind.bits];omega
   have hcq:∃v0,wo.cell? ⟨w.heap.size,q,none⟩=some v0:=by
    have h9:q<vs.size:=by omega
    exact ⟨vs[q],by rw [cell_of_row _ _ _ _ _ _ hvs];exact Array.getElem?_eq_getElem h9⟩
   obtain ⟨v0,hcq⟩:=hcq
   have HV:Hid (wo.heap[w.heap.size]? =some (.cells vs 529 (0,0))∧vs.size=65∧R.length+(q+1)=65∧∀j x,R[j]? =some x→vs[q+1+j]? =some (.int .u8 x.n)):=⟨hvs,hvz,hRi,hvr⟩
   clear hvs hvz hvr hxu2 hRi
   have hq65:(q:Int)<65:=by omega
   have hfz:wo.frozen? ⟨w.heap.size,q,none⟩=false:=frozen_of_row _ _ _ _ _ HV.out.1
   have hA2:Hid (Av (wo.setCell ⟨w.heap.size,q,none⟩ (.int .u8 (dg (x%36)))) w.heap.size q (⟨dg (x%36)⟩::R)):=av_set ⟨vs,HV.out⟩
   have hO2:Hid (Ow B (fun k=>B≤k) (wo.setCell ⟨w.heap.size,q,none⟩ (.int .u8 (dg (x%36)))) 5 (.slice a l.length c) l):=hOw.out.setOther (p:=⟨w.heap.size,q,none⟩) hB (fun k hk=>by have:=HL.out k hk;show k≠w.heap.size;omega) _
   have hB2:Below B w (wo.setCell ⟨w.heap.size,q,none⟩ (.int .u8 (dg (x%36)))):=hBw.setCell (p:=⟨w.heap.size,q,none⟩) hB _
   have hP2:=Lib.hid (t36_step hP.out hx)
   have hxu3:Hid (x/36≤u):=by have:=hxu.out;unfold Hid;omega
   have hne2:Hid (1≤((⟨dg (x%36)⟩:By)::R).length→x/36≠0):=fun _=>by omega
   have hxd:Hid ((x:Int)/36=((x/36:Nat):Int)):=by unfold Hid;omega
   clear hA hOw hBw hP hxu
   go_upto_region 21 with (fail)
   go_wp2_with (refine wpList_idx (y:= .int .u64 ((x:Int)-(x:Int)/36*36)) rfl rfl rfl (idx36 (k:=x%36) (by omega) (by omega)) ?_)
   go_wp2
   go_roundw
   case rel=>exact ⟨x/36,q,_,by rw [hxd.out],rfl,hP2,by omega,hxu3,hne2,hA2,hB2,hO2⟩
   case measure=>simp [intOf];omega
  have hx36:¬(36:Int)≤(x:Int):=by omega
  have hRl:R.length≤12:=by
   by_cases e:R.length≤12
   ·exact e
   have h1:36 ^ 13≤36 ^ R.length:=Nat.pow_le_pow_right (by omega) (by omega)
   have h3:(36:Nat) ^ 13=170581728179578208256:=by decide
   have h4:=hP.out.2
   have h5:=HU.out
   by_cases e0:x=0
   ·exact absurd e0 (hne.out (by omega))
   have h6:1*36 ^ R.length≤x*36 ^ R.length:=Nat.mul_le_mul_right _ (by omega)
   omega
  obtain ⟨vs,hvs,hvz,hRi,hvr⟩:=hA.out
  obtain ⟨q,rfl⟩:∃q,i=q+1:=⟨i-1,by omega⟩
  have hcq:∃v0,wo.cell? ⟨w.heap.size,q,none⟩=some v0:=by
   have h9:q<vs.size:=by omega
   exact ⟨vs[q],by rw [cell_of_row _ _ _ _ _ _ hvs];exact Array.getElem?_eq_getElem h9⟩
  obtain ⟨v0,hcq⟩:=hcq
  have HV:Hid (wo.heap[w.heap.size]? =some (.cells vs 529 (0,0))∧vs.size=65∧R.length+(q+1)=65∧∀j x,R[j]? =some x→vs[q+1+j]? =some (.int .u8 x.n)):=⟨hvs,hvz,hRi,hvr⟩
  clear hvs hvz hvr hxu2
  have hq65:(q:Int)<65:=by omega
  have hfz:wo.frozen? ⟨w.heap.size,q,none⟩=false:=frozen_of_row _ _ _ _ _ HV.out.1
  obtain ⟨R2,hR2⟩:∃R2,R2=(⟨dg x⟩:By)::R:=⟨_,rfl⟩
  have hA2:Hid (Av (wo.setCell ⟨w.heap.size,q,none⟩ (.int .u8 (dg x))) w.heap.size q R2):=by rw [hR2];exact av_set ⟨vs,HV.out⟩
  have hO2:Hid (Ow B (fun k=>B≤k) (wo.setCell ⟨w.heap.size,q,none⟩ (.int .u8 (dg x))) 5 (.slice a l.length c) l):=hOw.out.setOther (p:=⟨w.heap.size,q,none⟩) hB (fun k hk=>by have:=HL.out k hk;show k≠w.heap.size;omega) _
  have hB2:Below B w (wo.setCell ⟨w.heap.size,q,none⟩ (.int .u8 (dg x))):=hBw.setCell (p:=⟨w.heap.size,q,none⟩) hB _
  have hP2:Hid (t36 u=R2):=by unfold Hid;rw [hP.out.1,t36_low (by omega),hR2];rfl
  have hlq:R2.length=65-q:=by rw [hR2];simp;omega
  have hS2:Hid (Sl (fun _=>False) (wo.setCell ⟨w.heap.size,q,none⟩ (.int .u8 (dg x))) (some ⟨w.heap.size,q,none⟩) (65-q) R2):=av_sl hA2.out (fun b hb=>by rw [←hP2.out] at hb;have:=t36_mem u b hb;omega) id
  have hq3:Hid (R2.length≤14):=by unfold Hid;rw [hR2];simp;omega
  have hsa:∀w',(Instr.sliceAt 529 (.pointer (some ⟨w.heap.size,0,none⟩)) (some (.int .i64 (q:Int))) none none).run Tryz.prog w'= .ok (.slice (some ⟨w.heap.size,q,none⟩) R2.length (65-q)) w':=fun w'=>by rw [hlq];exact slice65 w' w.heap.size (by omega)
  have hzs:w.heap.size+1≤wo.heap.size:=by have:=(Array.getElem?_eq_some_iff.1 HV.out.1).1;omega
  have hzz:B≤(wo.setCell ⟨w.heap.size,q,none⟩ (.int .u8 (dg x))).heap.size:=by have:=hB2.size;omega
  clear hA hOw hBw hP hxu hRi hR2 hlq hzs
  go_wp2_with (first|refine wpList_idx (y:= .int .u64 (x:Int)) rfl rfl rfl (idx36 (k:=x) (by omega) (by omega)) ?_|(at_builtin;refine wpList_app_by (B:=B) (M:=fun _=>False) (l0:=l) (l1:=R2) rfl rfl Tryz.underlying269 info_byte rfl rfl hO2.out hS2.out (by have:=hq3.out;have:=hn.out;omega) hzz ?_))
  intro a2 c2 L2 w2 hL2 hO3 hb2
  have hBf:=hB2.trans hb2
  have hF:Hid (L2=l++t36 u):=by unfold Hid;rw [hL2.out,hP2.out]
  clear hL2 hb2
  go_wp2
  go_ret2
  exact ⟨a2,c2,L2,rfl,hF,hO3,hBf⟩
theorem auint_any {u:Nat} (hu:Hid ((u:Int)<18446744073709551616)) {l:List By} (hO:Ow B (fun k=>B≤k) w 5 (.slice a l.length c) l) (hB:B≤w.heap.size) (hn:Hid (l.length<100000)):
    Calls Tryz.prog 394 #[.slice a l.length c,.int .u64 u,.int .i64 36] w fun e w'=>∃(a':Option Addr) (c':Nat) (l':List By),e= .returned (.slice a' l'.length c')∧Hid (l'=l++t36 u)∧Ow B (fun k=>B≤k) w' 5 (.slice a' l'.length c') l'∧Below B w w':=by
 have HC:=Lib.hid (fbits_any hu.out hO hB hn)
 clear hO
 go_enter Tryz.func394,Tryz.ntmps394
 go_wp2_with fail
 refine (HC.out).mono ?_
 rintro e w1 ⟨a1,c1,l1,rfl,hl1,hO1,hb1⟩
 clear HC
 go_wp2
 go_ret
 exact ⟨a1,c1,l1,rfl,hl1,hO1,hb1⟩
theorem aint_any {x:Int} (hx:Hid (i64 x)) {l:List By} (hO:Ow B (fun k=>B≤k) w 5 (.slice a l.length c) l) (hB:B≤w.heap.size) (hn:Hid (l.length<90000)):
    Calls Tryz.prog 298 #[.slice a l.length c,.int .i64 x,.int .i64 36] w fun e w'=>∃(a':Option Addr) (c':Nat) (l':List By),e= .returned (.slice a' l'.length c')∧Hid (l'=l++k36 x)∧Ow B (fun k=>B≤k) w' 5 (.slice a' l'.length c') l'∧Below B w w':=by
 by_cases h0:x<0
 ·obtain ⟨z,hz⟩:∃z,IntKind.u64.wrap x=z:=⟨_,rfl⟩
  have hnz:IntKind.u64.wrap (-z)=(((-x).toNat:Nat):Int):=by
   have h1:=hx.out
   unfold i64 at h1
   rw [←hz]
   unfold IntKind.wrap;simp [IntKind.signed,IntKind.bits];omega
  obtain ⟨u,hu⟩:∃u,(-x).toNat=u:=⟨_,rfl⟩
  rw [hu] at hnz
  have hu2:Hid ((u:Int)<18446744073709551616):=by
   have h1:=hx.out
   unfold i64 at h1
   unfold Hid;omega
  have hk:Hid (k36 x=⟨45⟩::t36 u):=by unfold Hid k36;rw [if_pos h0,hu]
  have HO:=Lib.hid hO
  have HN:=Lib.hid hn
  clear hO hx hu hn
  go_enter Tryz.func298,Tryz.ntmps298
  go_wp2_with (at_builtin;refine wpList_push_by (B:=B) (l:=l) (y:=⟨45⟩) rfl rfl Tryz.underlying269 info_byte rfl rfl (HO.out.below ((Below.refl w.heap.size w).alloc (Nat.le_refl _) _)) (by simp [go_sem]) (by decide) (by have:=HN.out.out;omega) (by simp;omega) ?_)
  intro a1 c1 l1 w1 hl1 hO1 hb1
  have hB1:Below B w w1:=((Below.refl B w).alloc hB _).trans hb1
  have hz1:=hB1.size
  have HC:=Lib.hid (auint_any hu2 hO1 (by omega) (by unfold Hid;rw [hl1.out];have:=HN.out.out;simp;omega))
  clear hO1 hb1
  go_wp2_with fail
  refine (HC.out).mono ?_
  rintro e w2 ⟨a2,c2,l2,rfl,hl2,hO2,hb2⟩
  have hF:Hid (l2=l++k36 x):=by unfold Hid;rw [hl2.out,hl1.out,hk.out];simp
  have hB2:=hB1.trans hb2
  clear HC hl2 hl1 hb2
  go_wp2
  go_ret
  exact ⟨a2,c2,l2,rfl,hF,hO2,hB2⟩
 obtain ⟨u,rfl⟩:=Int.eq_ofNat_of_zero_le (show 0≤x by omega)
 have hw:IntKind.u64.wrap (u:Int)=(u:Int):=by
  have h1:=hx.out
  unfold i64 at h1
  unfold IntKind.wrap;simp [IntKind.signed,IntKind.bits];omega
 have hu2:Hid ((u:Int)<18446744073709551616):=by
  have h1:=hx.out
  unfold i64 at h1
  unfold Hid;omega
 have hk:Hid (k36 (u:Int)=t36 u):=by unfold Hid k36;rw [if_neg h0];simp
 have HC:=Lib.hid (auint_any hu2 hO hB (by unfold Hid;have:=hn.out;omega))
 clear hO hx
 go_enter Tryz.func298,Tryz.ntmps298
 go_wp2_with fail
 refine (HC.out).mono ?_
 rintro e w2 ⟨a2,c2,l2,rfl,hl2,hO2,hb2⟩
 have hF:Hid (l2=l++k36 (u:Int)):=by unfold Hid;rw [hl2.out,hk.out]
 clear HC hl2
 go_wp2
 go_ret
 exact ⟨a2,c2,l2,rfl,hF,hO2,hb2⟩
theorem pint_any {x:Int} (hx:Hid (i64 x)) {l:List By} (hO:Ow B (fun k=>B≤k) w 5 (.slice a l.length c) l) (hB:B≤w.heap.size) (hn:Hid (l.length<90000)):
    Calls Tryz.prog 192 #[.slice a l.length c,.int .i64 x,.int .i64 36] w fun e w'=>∃(a':Option Addr) (c':Nat) (l':List By),e= .returned (.slice a' l'.length c')∧Hid (l'=l++k36 x)∧Ow B (fun k=>B≤k) w' 5 (.slice a' l'.length c') l'∧Below B w w':=by
 have HC:=Lib.hid (aint_any hx hO hB hn)
 clear hO
 go_enter Tryz.func192,Tryz.ntmps192
 go_wp2_with fail
 refine (HC.out).mono ?_
 rintro e w1 ⟨a1,c1,l1,rfl,hl1,hO1,hb1⟩
 clear HC
 go_wp2
 go_ret
 exact ⟨a1,c1,l1,rfl,hl1,hO1,hb1⟩
end
end Go.Proofs.YtjmbphjgiodioaaGreatDoor
