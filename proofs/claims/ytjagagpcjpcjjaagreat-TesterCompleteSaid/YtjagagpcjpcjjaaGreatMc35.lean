/- Several texts, one behind the other. Conditions: as each of them says. -/
import Derived.Test.YtjagagpcjpcjjaaGreatMc26
import Derived.Test.YtjagagpcjpcjjaaGreatMc25
import Derived.Test.YtjagagpcjpcjjaaGreatMc15
import Derived.Test.YtjagagpcjpcjjaaGreatMc7
import Derived.Test.YtjagagpcjpcjjaaGreatMc4
import Derived.Test.YtjagagpcjpcjjaaGreatMc3
import Derived.Test.YtjagagpcjpcjjaaGreatMc2
import Derived.Test.YtjagagpcjpcjjaaGreatMc1
import Derived.Laws.MakeOwn
set_option maxRecDepth 100000
set_option maxHeartbeats 32000000
namespace Go.Proofs.YtjagagpcjpcjjaaGreat
open Go.RowKit
def Mach.minErr (m:Mach):Int:=if m.err≠0 then m.err else if m.minimal=false then 1 else 0
theorem Mach.minErr_e {m:Mach} (h:m.err≠0):m.minErr=m.err:=by unfold minErr;rw [if_pos h]
theorem Mach.minErr_n {m:Mach} (h:m.err=0) (h2:m.minimal=false):m.minErr=1:=by unfold minErr;rw [if_neg (by simp [h]),if_pos h2]
theorem Mach.minErr_0 {m:Mach} (h:m.err=0) (h2:m.minimal=true):m.minErr=0:=by unfold minErr;rw [if_neg (by simp [h]),if_neg (by simp [h2])]
theorem Mach.minErr_ok {m:Mach} (h:m.minErr=0):m.err=0∧m.minimal=true:=by
 by_cases e:m.err=0
 ·cases h2:m.minimal with
  |true=>exact ⟨e,rfl⟩
  |false=>rw [minErr_n e h2] at h;simp at h
 rw [minErr_e e] at h;exact absurd h e
def allS (n:Nat):List Int:=(List.range n).map (fun k:Nat=>(k:Int))
theorem allS_len (n:Nat):(allS n).length=n:=by simp [allS]
theorem allS_get {n k:Nat} (h:k<n):(allS n)[k]? =some (k:Int):=by unfold allS;rw [List.getElem?_map,List.getElem?_range h];rfl
theorem allS_step {n j:Nat} (h:j<n):((allS j)++List.replicate (n-j) 0).set j (j:Int)=allS (j+1)++List.replicate (n-(j+1)) 0:=by
 rw [List.set_append_right _ _ (by rw [allS_len];exact Nat.le_refl _),allS_len,Nat.sub_self]
 obtain ⟨q,hq⟩:∃q,n-j=q+1:=⟨n-j-1,by omega⟩
 rw [hq,show n-(j+1)=q by omega,List.replicate_succ]
 simp [allS,List.range_succ]
section
variable {M:Nat→Prop} {w:World} {an ao:Option Addr} {cn co:Nat} {m:Mach}
theorem dcheck_any (hm:Ma M w an cn ao co m):
    Calls Tryz.prog 131 #[maV m an cn ao co] w fun e w'=>e= .returned (.int .i64 m.minErr)∧Below w.heap.size w w':=by
 have hB0:=(Below.refl w.heap.size w).alloc (Nat.le_refl _) (maO m an cn ao co)
 have hx0:C4 (w.alloc (maO m an cn ao co)) w.heap.size an cn ao co m:=c4_new w
 have hz0:w.heap.size+1≤(w.alloc (maO m an cn ao co)).heap.size:=by simp
 have HM:=Lib.hid hm
 have HC:=Lib.hid (valid_any (HM.out.below hB0))
 clear hm
 by_cases he:m.err=0
 rotate_left
 ·have heb:(m.err !=0)=true:=by simp [he]
  have hF:Hid (m.err=m.minErr):=(Mach.minErr_e he).symm
  clear he
  go_enter Tryz.func131,Tryz.ntmps131
  go_wp2_with fail
  generalize w.alloc (maO m an cn ao co)=w0 at*
  refine (HC.out).mono ?_
  rintro e w1 ⟨rfl,hb1⟩
  have hB1:=hB0.trans (hb1.mono (by omega))
  go_wp2
  go_ret
  exact ⟨ret_i hF.out,hB1⟩
 have heb:(m.err !=0)=false:=by simp [he]
 have HE:=Lib.hid he
 clear he
 go_enter Tryz.func131,Tryz.ntmps131
 go_wp2_with fail
 generalize w.alloc (maO m an cn ao co)=w0 at*
 refine (HC.out).mono ?_
 rintro e w1 ⟨rfl,hb1⟩
 have hB1:=hB0.trans (hb1.mono (by omega))
 have hx1:=hx0.below hb1 (by omega)
 have hz1:w.heap.size+1≤w1.heap.size:=by have:=hb1.size;omega
 have HC:=Lib.hid (minimal_any (HM.out.below hB1))
 clear hB0 hx0 hz0 hb1
 go_wp2_with fail
 refine (HC.out).mono ?_
 rintro e w2 ⟨v,rfl,hv,hb2⟩
 have hB2:=hB1.trans (hb2.mono (by omega))
 clear HC hb2 hB1
 cases v with
 |true=>
  have hF:Hid ((0:Int)=m.minErr):=(Mach.minErr_0 HE.out hv.out.symm).symm
  go_wp2
  go_ret
  exact ⟨ret_i hF.out,hB2⟩
 |false=>
  have hF:Hid ((1:Int)=m.minErr):=(Mach.minErr_n HE.out hv.out.symm).symm
  go_wp2
  go_ret
  exact ⟨ret_i hF.out,hB2⟩
theorem dstates_any (hm:Ma M w an cn ao co m) (hn:m.next.length<1000000000):
    Calls Tryz.prog 133 #[maV m an cn ao co] w fun e w'=>∃(a':Option Addr) (c':Nat) (L:List Int),e= .returned (.slice a' L.length c')∧Hid (L=allS m.next.length)∧
     Sl (fun k=>k<w.heap.size) w' a' c' L∧Below w.heap.size w w':=by
 have hB0:=(Below.refl w.heap.size w).alloc (Nat.le_refl _) (maO m an cn ao co)
 have hx0:C4 (w.alloc (maO m an cn ao co)) w.heap.size an cn ao co m:=c4_new w
 have hz0:w.heap.size+1≤(w.alloc (maO m an cn ao co)).heap.size:=by simp
 have l1:=hm.next.le
 clear hm
 go_enter Tryz.func133,Tryz.ntmps133
 go_wp2_with (at_make;refine wpList_mk_i (B:=w.heap.size+1) (n:=m.next.length) rfl rfl Tryz.underlying49 info_int rfl (by omega) (by simp) ?_)
 intro g c l w2 hl hO hb2 hg
 have hln:l.length=m.next.length:=by rw [hl.out];simp
 rw [hln] at hO ⊢
 have hl0:Hid (l=allS 0++List.replicate (m.next.length-0) 0):=by unfold Hid;rw [hl.out];simp [allS]
 have hB2:=hB0.trans (hb2.mono (by omega))
 clear hln hl hb2 hx0 hB0
 go_wp2
 go_loopw [11] (fun i wr=>∃(j:Nat) (L:List Int),j≤m.next.length∧i= .int .i64 j∧Hid (L=allS j++List.replicate (m.next.length-j) 0)∧Ow (w.heap.size+1) (fun k=>w.heap.size+1≤k) wr 3 (.slice (some ⟨g,0,none⟩) m.next.length c) L∧Below w.heap.size w wr) (fun i _=>m.next.length-(intOf i).toNat)
 case atStart=>exact ⟨0,l,by omega,rfl,hl0,hO,hB2⟩
 case round=>
  clear hl0 hO hB2
  obtain ⟨j,L,hj,rfl,hL,hO,hB⟩:=hrel
  obtain ⟨w3,rfl⟩:∃w3:World,w3=wr:=⟨_,rfl⟩
  have hLl:m.next.length=L.length:=by rw [hL.out,List.length_append,allS_len,List.length_replicate];omega
  by_cases hlt:j<m.next.length
  ·obtain ⟨g',z,hgg,hcz,hfz, -, -⟩:=hO.at_int' hLl (show j<L.length by omega)
   obtain rfl:g'=g:=by simpa using hgg.symm
   have hO4:=Lib.hid (hO.set_int hLl (by omega) j (show i64 (j:Int) by unfold i64;omega))
   have hB4:=Lib.hid (hB.setCell (p:=⟨g',j,none⟩) (by show w.heap.size≤g';omega) (.int .i64 j))
   have hL4:Hid (L.set j (j:Int)=allS (j+1)++List.replicate (m.next.length-(j+1)) 0):=by unfold Hid;rw [hL.out];exact allS_step hlt
   clear hO hB hL hLl hgg
   go_wp2
   go_roundw
   case rel=>exact ⟨j+1,L.set j (j:Int),by omega,by go_num,hL4,hO4.out,hB4.out⟩
   case measure=>simp [intOf];omega
  have hF:Hid (L=allS m.next.length):=by unfold Hid;rw [hL.out,show j=m.next.length by omega];simp
  rw [hLl] at hO
  have hS:=hO.fresh (n:=w.heap.size) (by omega)
  have HLl:=Lib.hid hLl
  clear hO hL hLl
  go_wp2
  go_ret
  exact ⟨some ⟨g,0,none⟩,c,L,ret_sl HLl.out,hF,hS,hB⟩
end
section
variable {P:Program} {α:Type} [GR α] {w:World} {ops:Array Oper} {rest:List Oper} {o:Oper} {a:Act} {Q:Exit→Act→World→Prop}
theorem wpList_mk0 (hg:o.guard=none) (x y:Operand) (t:TypeId) (hop:o.op= .makeSlice t x y) (e:TypeId) (z:Value) (bytes:Nat) (ht:P.underlying t=some (.slice e))
    (hi:(P.info? e).map (fun i=>(i.zero,i.size,i.bytes))=some (some z,GR.sz α,bytes)) (B:Nat) (M:Nat→Prop)
    (n:Nat) (hx:a.eval x= .int .i64 0) (hy:a.eval y= .int .i64 n) (hn:bytes*n≤281474976710656) (hn2:n≤maxLen) (hB:B≤w.heap.size)
    (h:∀w',Ow B M w' e (.slice (some ⟨w.heap.size,0,none⟩) 0 n) ([]:List α)→Below w.heap.size w w'→
     wpList P ops Q rest (a.put o.dst (.slice (some ⟨w.heap.size,0,none⟩) 0 n)) w'):wpList P ops Q (o::rest) a w:=by
 refine wpList_plain hg fun K hK=> ?_
 obtain ⟨i,hi1,hi2,hi3,hi4⟩:=info_parts hi
 obtain ⟨w',hr,ho,hgr⟩:=run_make_own (P:=P) w B t e i z (GR.sz α) ht hi1 hi2 hi3 .i64 .i64 n (by rw [hi4];exact hn) hn2 hB
 unfold Oper.wp
 simp only [execOp,hop,hx,hy,hr,Sem.run_bind,Result.andThen_ok,Sem.run_pure,Oper.upon]
 exact hK _ _ (h w' ⟨[],ho,fun j x hj=>by simp at hj⟩ ((Below.refl _ _).grown hgr (Nat.le_refl _) (fun k hk=>by cases hk)))
end
namespace Mach
variable (m:Mach)
def mrg (a:Nat) (s t:Int):Bool:=decide (m.ot s.toNat a=m.ot t.toNat a)&&decide (m.nx s.toNat a=m.nx t.toNat a)
def noMrg (a:Nat) (l:List Int) (s:Int):Bool:=l.all fun t=> !m.mrg a s t
def safeTo (a:Nat) (l:List Int):Nat→Bool
 |0=>true
 |k+1=>safeTo a l k&&m.noMrg a (l.take k) (l.getD k 0)
def eqTo (a:Nat) (l:List Int) (k:Nat):Bool:=(l.take k).all fun s=>decide (m.ot s.toNat a=m.ot (l.getD 0 0).toNat a)
def nxtTo (a:Nat) (l:List Int) (k:Nat):List Int:=(l.take k).map fun s=>m.nx s.toNat a
def aft (a:Nat) (l:List Int):List Int×Bool×Bool:=if m.safeTo a l l.length=true then (m.nxtTo a l l.length,true,m.eqTo a l l.length) else ([],false,false)
variable {m}
theorem safe_stop {a:Nat} {l:List Int} {k n:Nat} (hk:k≤n) (h:m.safeTo a l k=false):m.safeTo a l n=false:=by
 induction n with
 | zero => obtain rfl : k = 0 := by omega
           exact h
 |succ n ih=>
  by_cases e:k=n+1
  ·rw [←e];exact h
  simp only [safeTo];rw [ih (by omega)];rfl
theorem noMrg_hit {a:Nat} {l:List Int} {s t:Int} {j:Nat} (h:l[j]? =some t) (hm:m.mrg a s t=true):m.noMrg a l s=false:=by
 unfold noMrg
 rw [List.all_eq_false]
 exact ⟨t,List.mem_of_getElem? h,by simp [hm]⟩
theorem noMrg_step {a:Nat} {l:List Int} {s t:Int} {j:Nat} (h:l[j]? =some t) (hm:m.mrg a s t=false) (hj:m.noMrg a (l.take j) s=true):m.noMrg a (l.take (j+1)) s=true:=by
 unfold noMrg at hj ⊢
 rw [List.take_add_one,h]
 simp only [List.all_append,hj,Bool.true_and]
 simp [hm]
theorem nxtTo_step {a:Nat} {l:List Int} {k:Nat} {s:Int} (h:l[k]? =some s):m.nxtTo a l (k+1)=m.nxtTo a l k++[m.nx s.toNat a]:=by
 unfold nxtTo;rw [List.take_add_one,h];simp
theorem eqTo_step {a:Nat} {l:List Int} {k:Nat} {s:Int} (h:l[k]? =some s):m.eqTo a l (k+1)=(m.eqTo a l k&&decide (m.ot s.toNat a=m.ot (l.getD 0 0).toNat a)):=by
 unfold eqTo;rw [List.take_add_one,h];simp [List.all_append]
end Mach
section
variable {M M':Nat→Prop} {w:World} {an ao b:Option Addr} {cn co d:Nat} {m:Mach} {l:List Int}
theorem after_any (hm:Ma M w an cn ao co m) (hs:Sl M' w b d l) (ok:Hid m.Ok) (hl:Hid (∀s∈l,0≤s∧s<m.next.length)) (hll:l.length<1000000000) (x:Nat) (hx:x<m.inputs.toNat):
    Calls Tryz.prog 215 #[maV m an cn ao co,.slice b l.length d,.int .i64 x] w fun e w'=>∃(a':Option Addr) (c':Nat) (L:List Int) (p q:Bool),e= .returned (.tuple #[.slice a' L.length c',.bool p,.bool q])∧Hid (m.aft x l=(L,p,q))∧
     Sl (fun k=>k<w.heap.size) w' a' c' L∧Below w.heap.size w w':=by
 obtain ⟨bn,on,bo,oo,rfl,rfl⟩:=hm.addr ok.out
 have hB0:=(Below.refl w.heap.size w).alloc (Nat.le_refl _) (maO m (some ⟨bn,on,none⟩) cn (some ⟨bo,oo,none⟩) co)
 have hx0:C4 (w.alloc (maO m (some ⟨bn,on,none⟩) cn (some ⟨bo,oo,none⟩) co)) w.heap.size (some ⟨bn,on,none⟩) cn (some ⟨bo,oo,none⟩) co m:=c4_new w
 have hz0:w.heap.size+1≤(w.alloc (maO m (some ⟨bn,on,none⟩) cn (some ⟨bo,oo,none⟩) co)).heap.size:=by simp
 have n1:=ok.out.n1
 have lo:=ok.out.lo
 have i1:=ok.out.i1
 have l1:=hm.next.le
 have l2:=hm.out.le
 have HM:=Lib.hid hm
 have HS:=Lib.hid (hs.anti (M':=fun _=>False) fun _ _ h=>h.elim)
 have HLO:=Lib.hid lo
 clear hm hs lo
 go_enter Tryz.func215,Tryz.ntmps215
 go_wp2_with (at_make;refine wpList_mk0 (α:=Int) rfl _ _ _ rfl _ _ _ Tryz.underlying49 info_int (w.heap.size+1) (fun k=>w.heap.size+1≤k) l.length rfl rfl (by omega) (by unfold maxLen;omega) hz0 ?_)
 intro w1 hO1 hb1
 have hB1:=hB0.trans (hb1.mono (by omega))
 have hx1:=hx0.below hb1 (by omega)
 have hz1:w.heap.size+1≤w1.heap.size:=by have:=hb1.size;simp at this;omega
 clear hB0 hx0 hb1
 go_wp2
 go_loopw [9,10,20] (fun v t i wr=>∃(k:Nat) (a':Option Addr) (c':Nat) (K:List Int) (q:Bool),k≤l.length∧i= .int .i64 k∧v= .slice a' K.length c'∧t= .bool q∧Hid (K=m.nxtTo x l k∧q=m.eqTo x l k∧m.safeTo x l k=true)∧
  Ow (w.heap.size+1) (fun k=>w.heap.size+1≤k) wr 3 (.slice a' K.length c') K∧C4 wr w.heap.size (some ⟨bn,on,none⟩) cn (some ⟨bo,oo,none⟩) co m∧w.heap.size+1≤wr.heap.size∧Below w.heap.size w wr) (fun _ _ i _=>l.length-(intOf i).toNat)
 case atStart=>exact ⟨0,_,_,[],true,by omega,rfl,rfl,rfl,⟨rfl,rfl,rfl⟩,hO1,hx1,hz1,hB1⟩
 case round=>
  clear hO1 hx1 hz1 hB1
  obtain ⟨k,a2,c2',K,q,hk,rfl,rfl,rfl,hK,hO,hC,hz,hB⟩:=hrel
  obtain ⟨w2,rfl⟩:∃w2:World,w2=wr:=⟨_,rfl⟩
  by_cases hlt:k<l.length
  ·obtain ⟨bs,os,s0,rfl,hcs,hs0, -⟩:=(HS.out.below hB).at_int hlt
   have hsr:=hl.out s0 (List.mem_of_getElem? hs0.out)
   obtain ⟨s,rfl⟩:=Int.eq_ofNat_of_zero_le hsr.1
   have hsn:s<m.next.length:=by omega
   have hM0:Hid (m.noMrg x (l.take 0) (s:Int)=true):=by unfold Hid;simp [Mach.noMrg]
   have hcap:k≤d:=by have:=HS.out.1;omega
   clear hsr
   go_wp2
   go_loopw [29] (fun u wr=>∃j:Nat,j≤k∧u= .int .i64 j∧Hid (m.noMrg x (l.take j) (s:Int)=true)∧
    Ow (w.heap.size+1) (fun k=>w.heap.size+1≤k) wr 3 (.slice a2 K.length c2') K∧C4 wr w.heap.size (some ⟨bn,on,none⟩) cn (some ⟨bo,oo,none⟩) co m∧w.heap.size+1≤wr.heap.size∧Below w.heap.size w wr) (fun u _=>k-(intOf u).toNat)
   case atStart=>exact ⟨0,by omega,rfl,hM0,hO,hC,hz,hB⟩
   case round=>
    clear hM0 hO hC hz hB hcs
    obtain ⟨j,hj,rfl,hN,hO,hC,hz,hB⟩:=hrel
    obtain ⟨w3,rfl⟩:∃w3:World,w3=wr:=⟨_,rfl⟩
    by_cases hjk:j<k
    ·obtain ⟨bt,ot,t0,hht,hct,ht0, -⟩:=(HS.out.below hB).at_int (show j<l.length by omega)
     obtain ⟨rfl,rfl⟩:bt=bs∧ot=os:=by simp at hht;exact ⟨hht.1.symm,hht.2.symm⟩
     have htr:=hl.out t0 (List.mem_of_getElem? ht0.out)
     obtain ⟨t,rfl⟩:=Int.eq_ofNat_of_zero_le htr.1
     have htn:t<m.next.length:=by omega
     have htj:Hid ((l.take k)[j]? =some (t:Int)):=by unfold Hid;rw [List.getElem?_take,if_pos hjk];exact ht0.out
     have htl:t<m.out.length:=by rw [HLO.out];exact htn
     have hsl:s<m.out.length:=by rw [HLO.out];exact hsn
     clear htr hht
     obtain ⟨b1,o1,c1,q1,b2,o2,c2,q2,sn,sy,e1,e2,e3,e4,e5,e6,e7,e8,e9,e10,e11,e12,e13⟩:=(HM.out.below hB).atS ok.out hsn hx
     obtain ⟨b3,o3,c3,q3,b4,o4,c4,q4,tn,ty,f1,f2,f3,f4,f5,f6,f7,f8,f9,f10,f11,f12,f13⟩:=(HM.out.below hB).atS ok.out htn hx
     have hmr:Hid (m.mrg x (s:Int) (t:Int)=(decide (sy=ty)&&decide ((sn:Int)=(tn:Int)))):=by
      unfold Hid Mach.mrg;rw [Int.toNat_natCast,Int.toNat_natCast,e8.out,e9.out,f8.out,f9.out]
     by_cases hy:sy=ty
     ·have hyb:(sy==ty)=true:=by simp [hy]
      by_cases hn:sn=tn
      ·have hnb:((sn:Int)==(tn:Int))=true:=by simp [hn]
       have hF:Hid (m.aft x l=([],false,false)):=by
        have h1:m.noMrg x (l.take k) (s:Int)=false:=Mach.noMrg_hit htj.out (by rw [hmr.out];simp [hy,hn])
        have h2:m.safeTo x l (k+1)=false:=by
         simp only [Mach.safeTo]
         rw [List.getD_eq_getElem?_getD,hs0.out]
         simp [h1]
        unfold Hid Mach.aft
        rw [Mach.safe_stop (show k+1≤l.length by omega) h2];rfl
       clear hy hn hmr
       go_wp2
       refine wp_quiet_fast (by kernel_rfl) (by kernel_rfl) ?_
       repeat (first|go_big_quiet_step (fail)|quiet_step (fail))
       refine wpQuiet_nil ?_
       intro _ hw'
       obtain ⟨nq,hw''⟩:=hw'
       subst hw''
       go_wp2
       go_ret3
       exact ⟨none,0,[],false,false,rfl,hF.out,Sl.nil _ _ _ (by unfold maxLen;omega),bl_drewN hB _⟩
      have hnb:((sn:Int)==(tn:Int))=false:=by simp;omega
      have hN2:=Lib.hid (Mach.noMrg_step (l:=l.take k) htj.out (by rw [hmr.out];simp;omega) (by rw [List.take_take,Nat.min_eq_left (by omega)];exact hN.out))
      have hN2:Hid (m.noMrg x (l.take (j+1)) (s:Int)=true):=by have:=hN2.out;rwa [List.take_take,Nat.min_eq_left (by omega)] at this
      clear hy hn hmr
      go_wp2
      refine wp_quiet_fast (by kernel_rfl) (by kernel_rfl) ?_
      repeat (first|go_big_quiet_step (fail)|quiet_step (fail))
      refine wpQuiet_nil ?_
      intro _ hw'
      obtain ⟨nq,hw''⟩:=hw'
      subst hw''
      go_wp2
      go_roundw
      case rel=>exact ⟨j+1,by omega,by go_num,hN2,hO.drewN _,hC.below (below_drewN (w.heap.size+1) _ _) (by omega),by simpa using hz,bl_drewN hB _⟩
      case measure=>simp [intOf];omega
     have hyb:(sy==ty)=false:=by simp [hy]
     have hN2:=Lib.hid (Mach.noMrg_step (l:=l.take k) htj.out (by rw [hmr.out];simp [hy]) (by rw [List.take_take,Nat.min_eq_left (by omega)];exact hN.out))
     have hN2:Hid (m.noMrg x (l.take (j+1)) (s:Int)=true):=by have:=hN2.out;rwa [List.take_take,Nat.min_eq_left (by omega)] at this
     clear hy hmr
     go_wp2
     refine wp_quiet_fast (by kernel_rfl) (by kernel_rfl) ?_
     repeat (first|go_big_quiet_step (fail)|quiet_step (fail))
     refine wpQuiet_nil ?_
     intro _ hw'
     obtain ⟨nq,hw''⟩:=hw'
     subst hw''
     go_wp2
     go_roundw
     case rel=>exact ⟨j+1,by omega,by go_num,hN2,hO.drewN _,hC.below (below_drewN (w.heap.size+1) _ _) (by omega),by simpa using hz,bl_drewN hB _⟩
     case measure=>simp [intOf];omega
    have hjk2:j=k:=by omega
    have hSf:Hid (m.safeTo x l (k+1)=true):=by
     unfold Hid
     simp only [Mach.safeTo]
     rw [List.getD_eq_getElem?_getD,hs0.out,hK.out.2.2]
     have:=hN.out
     rw [hjk2] at this
     simpa using this
    obtain ⟨bt,ot,t0,hht,hct,ht0, -⟩:=(HS.out.below hB).at_int (show 0<l.length by omega)
    obtain ⟨rfl,rfl⟩:bt=bs∧ot=os:=by simp at hht;exact ⟨hht.1.symm,hht.2.symm⟩
    have htr:=hl.out t0 (List.mem_of_getElem? ht0.out)
    obtain ⟨t,rfl⟩:=Int.eq_ofNat_of_zero_le htr.1
    have htn:t<m.next.length:=by omega
    have htl:t<m.out.length:=by rw [HLO.out];exact htn
    have hsl:s<m.out.length:=by rw [HLO.out];exact hsn
    have hKl:K.length≤k:=by rw [hK.out.1];simp [Mach.nxtTo];omega
    have hll0:0<l.length:=by omega
    have hct:w3.cell? ⟨bt,ot,none⟩=some (.int .i64 ((t:Nat):Int)):=hct
    clear htr hht hN hjk2
    obtain ⟨b1,o1,c1,q1,b2,o2,c2,q2,sn,sy,e1,e2,e3,e4,e5,e6,e7,e8,e9,e10,e11,e12,e13⟩:=(HM.out.below hB).atS ok.out hsn hx
    obtain ⟨b3,o3,c3,q3,b4,o4,c4,q4,tn,ty,f1,f2,f3,f4,f5,f6,f7,f8,f9,f10,f11,f12,f13⟩:=(HM.out.below hB).atS ok.out htn hx
    have hQ0:Hid (m.eqTo x l (k+1)=(q&&decide (sy=ty))):=by
     unfold Hid
     rw [Mach.eqTo_step hs0.out,hK.out.2.1,List.getD_eq_getElem?_getD,ht0.out]
     simp only [Option.getD_some,Int.toNat_natCast,e9.out,f9.out]
    cases q with
    |false=>
     have hQ:Hid (false=m.eqTo x l (k+1)):=by unfold Hid;rw [hQ0.out];rfl
     clear hQ0
     go_wp2
     refine wp_quiet_fast (by kernel_rfl) (by kernel_rfl) ?_
     repeat (first|go_big_quiet_step (fail)|quiet_step (fail))
     refine wpQuiet_nil ?_
     intro _ hw'
     obtain ⟨nq,hw''⟩:=hw'
     subst hw''
     go_wp2_with (at_builtin;refine wpList_push_i (B:=w.heap.size+1) (l:=K) (y:=(sn:Int)) rfl rfl Tryz.underlying49 info_int rfl rfl ((hO.drewN _).alloc _) (box1 _ _ _ rfl) (by unfold i64;omega) (by omega) (by simp;omega) ?_)
     intro a6 c6 K6 w6 hK6 hO6 hb6
     have hb7:=((below_drewN (w.heap.size+1) w3 nq).alloc (by simpa using hz) (.cells #[.int .i64 ((sn:Nat):Int)] 3)).trans hb6
     have hC6:=hC.below hb7 (by omega)
     have hB6:=hB.trans (hb7.mono (by omega))
     have hz6:w.heap.size+1≤w6.heap.size:=Nat.le_trans hz hb7.size
     have hK6:Hid (K6=m.nxtTo x l (k+1)∧false=m.eqTo x l (k+1)∧m.safeTo x l (k+1)=true):=⟨by rw [hK6.out,hK.out.1,Mach.nxtTo_step hs0.out,Int.toNat_natCast,e8.out],hQ.out,hSf.out⟩
     clear hO hb6 hb7 hC hB hQ
     go_wp2
     go_roundw
     case rel=>exact ⟨k+1,a6,c6,K6,false,by omega,by go_num,rfl,rfl,hK6,hO6,hC6,hz6,hB6⟩
     case measure=>simp [intOf];omega
    |true=>
     by_cases hy:sy=ty
     ·have hyb:(sy==ty)=true:=by simp [hy]
      have hQ:Hid (true=m.eqTo x l (k+1)):=by unfold Hid;rw [hQ0.out];simp [hy]
      clear hQ0 hy
      go_wp2
      refine wp_quiet_fast (by kernel_rfl) (by kernel_rfl) ?_
      repeat (first|go_big_quiet_step (fail)|quiet_step (fail))
      refine wpQuiet_nil ?_
      intro _ hw'
      obtain ⟨nq,hw''⟩:=hw'
      subst hw''
      go_wp2_with (at_builtin;refine wpList_push_i (B:=w.heap.size+1) (l:=K) (y:=(sn:Int)) rfl rfl Tryz.underlying49 info_int rfl rfl ((hO.drewN _).alloc _) (box1 _ _ _ rfl) (by unfold i64;omega) (by omega) (by simp;omega) ?_)
      intro a6 c6 K6 w6 hK6 hO6 hb6
      have hb7:=((below_drewN (w.heap.size+1) w3 nq).alloc (by simpa using hz) (.cells #[.int .i64 ((sn:Nat):Int)] 3)).trans hb6
      have hC6:=hC.below hb7 (by omega)
      have hB6:=hB.trans (hb7.mono (by omega))
      have hz6:w.heap.size+1≤w6.heap.size:=Nat.le_trans hz hb7.size
      have hK6:Hid (K6=m.nxtTo x l (k+1)∧true=m.eqTo x l (k+1)∧m.safeTo x l (k+1)=true):=⟨by rw [hK6.out,hK.out.1,Mach.nxtTo_step hs0.out,Int.toNat_natCast,e8.out],hQ.out,hSf.out⟩
      clear hO hb6 hb7 hC hB hQ
      go_wp2
      go_roundw
      case rel=>exact ⟨k+1,a6,c6,K6,true,by omega,by go_num,rfl,rfl,hK6,hO6,hC6,hz6,hB6⟩
      case measure=>simp [intOf];omega
     have hyb:(sy==ty)=false:=by simp [hy]
     have hQ:Hid (false=m.eqTo x l (k+1)):=by unfold Hid;rw [hQ0.out];simp [hy]
     clear hQ0 hy
     go_wp2
     refine wp_quiet_fast (by kernel_rfl) (by kernel_rfl) ?_
     repeat (first|go_big_quiet_step (fail)|quiet_step (fail))
     refine wpQuiet_nil ?_
     intro _ hw'
     obtain ⟨nq,hw''⟩:=hw'
     subst hw''
     go_wp2_with (at_builtin;refine wpList_push_i (B:=w.heap.size+1) (l:=K) (y:=(sn:Int)) rfl rfl Tryz.underlying49 info_int rfl rfl ((hO.drewN _).alloc _) (box1 _ _ _ rfl) (by unfold i64;omega) (by omega) (by simp;omega) ?_)
     intro a6 c6 K6 w6 hK6 hO6 hb6
     have hb7:=((below_drewN (w.heap.size+1) w3 nq).alloc (by simpa using hz) (.cells #[.int .i64 ((sn:Nat):Int)] 3)).trans hb6
     have hC6:=hC.below hb7 (by omega)
     have hB6:=hB.trans (hb7.mono (by omega))
     have hz6:w.heap.size+1≤w6.heap.size:=Nat.le_trans hz hb7.size
     have hK6:Hid (K6=m.nxtTo x l (k+1)∧false=m.eqTo x l (k+1)∧m.safeTo x l (k+1)=true):=⟨by rw [hK6.out,hK.out.1,Mach.nxtTo_step hs0.out,Int.toNat_natCast,e8.out],hQ.out,hSf.out⟩
     clear hO hb6 hb7 hC hB hQ
     go_wp2
     go_roundw
     case rel=>exact ⟨k+1,a6,c6,K6,false,by omega,by go_num,rfl,rfl,hK6,hO6,hC6,hz6,hB6⟩
     case measure=>simp [intOf];omega
  have hF : Hid (m.aft x l = (K, true, q)) := by
   have h:=hK.out
   rw [show k=l.length by omega] at h
   unfold Hid Mach.aft
   rw [if_pos h.2.2,←h.1,←h.2.1]
  have hSl:=hO.fresh (n:=w.heap.size) (by omega)
  clear hO hC
  go_wp2
  go_ret3
  exact ⟨a2,c2',K,true,q,rfl,hF.out,hSl,hB⟩
end
section
variable {M M':Nat→Prop} {w:World} {an ao a:Option Addr} {cn co c:Nat} {m:Mach}
theorem outsS_any {l:List Int} (hm:Ma M w an cn ao co m) (hw:Sl M' w a c l) (ok:Hid m.Ok) (s:Nat) (hs:s<m.next.length) (hok:Hid (m.okS l)) (hll:l.length≤1000000):
    Calls Tryz.prog 176 #[maV m an cn ao co,.int .i64 s,.slice a l.length c] w fun e w'=>∃(a':Option Addr) (c':Nat) (l':List Int),e= .returned (.slice a' l'.length c')∧Hid (l'=m.outsW (s:Int) l)∧Sl (fun k=>k<w.heap.size) w' a' c' l'∧Below w.heap.size w w':=by
 have hB0:=(Below.refl w.heap.size w).alloc (Nat.le_refl _) (maO m an cn ao co)
 have hx0:C4 (w.alloc (maO m an cn ao co)) w.heap.size an cn ao co m:=c4_new w
 have hz0:(w.alloc (maO m an cn ao co)).heap.size=w.heap.size+1:=by simp
 have l1:=hm.next.le
 have l2:=hm.out.le
 obtain ⟨bn,on,bo,oo,rfl,rfl⟩:=hm.addr ok.out
 have hM0:=hm.below hB0
 have hW0:=hw.below hB0
 clear hm hw
 go_enter Tryz.func176,Tryz.ntmps176
 go_upto_region 1 with (fail)
 generalize w.alloc (maO m (some ⟨bn,on,none⟩) cn (some ⟨bo,oo,none⟩) co)=w0 at*
 have HS:Hid (∀w',Below w0.heap.size w0 w'→C4 w' w.heap.size (some ⟨bn,on,none⟩) cn (some ⟨bo,oo,none⟩) co m∧Ma M w' (some ⟨bn,on,none⟩) cn (some ⟨bo,oo,none⟩) co m∧Sl M' w' a c l∧Below w.heap.size w w'):=fun w' h=>
  ⟨hx0.below h (by omega),hM0.below h,hW0.below h,hB0.trans (h.mono (by omega))⟩
 have hzw:w.heap.size+1≤w0.heap.size:=by omega
 clear hx0 hM0 hW0 hB0 hz0
 go_wp2_with (at_make;refine wpList_mk0 (α:=Int) rfl _ _ _ rfl _ _ _ Tryz.underlying49 info_int w0.heap.size (fun k=>w0.heap.size≤k) l.length rfl rfl (by omega) (by unfold maxLen;omega) (Nat.le_refl _) ?_)
 intro w1 hO1 hb1
 have hO10:Ow w0.heap.size (fun k=>w0.heap.size≤k) w1 3 (.slice (some ⟨w0.heap.size,0,none⟩) ([]:List Int).length l.length) ([]:List Int):=hO1
 have hl0:Hid (([]:List Int)=m.outsW (s:Int) (l.take 0)):=rfl
 have he0:Hid (m.endW (s:Int) (l.take 0)=((s:Nat):Int)):=rfl
 clear hO1
 go_wp2
 go_loopw [1,7,15] (fun st v i wr=>∃(k sn:Nat) (a':Option Addr) (c':Nat) (l':List Int),k≤l.length∧sn<m.next.length∧i= .int .i64 k∧st= .int .i64 sn∧v= .slice a' l'.length c'∧Hid (m.endW (s:Int) (l.take k)=((sn:Nat):Int))∧Hid (l'=m.outsW (s:Int) (l.take k))∧
  Ow w0.heap.size (fun k=>w0.heap.size≤k) wr 3 (.slice a' l'.length c') l'∧Below w0.heap.size w0 wr) (fun _ _ i _=>l.length-(intOf i).toNat)
 case atStart=>exact ⟨0,s,_,_,[],by omega,hs,rfl,rfl,rfl,he0,hl0,hO10,hb1⟩
 case round=>
  clear hO10 hb1 hl0 he0
  obtain ⟨k,sn,a2,c2,K,hk,hsn,rfl,rfl,rfl,hE,hL,hO,hB⟩:=hrel
  obtain ⟨wo,rfl⟩:∃wo:World,wo=wr:=⟨_,rfl⟩
  have hSo:=HS.out _ hB
  have hzo:=hB.size
  have hKl:Hid (K.length=k):=by unfold Hid;rw [hL.out,Mach.outsW_len,List.length_take];omega
  by_cases hlt:k<l.length
  ·obtain ⟨bl,ol,x0,rfl,hxc,hx, -⟩:=hSo.2.2.1.at_int hlt
   have hxr:=Lib.hid (hok.out x0 (List.mem_of_getElem? hx.out))
   obtain ⟨x,rfl⟩:=Int.eq_ofNat_of_zero_le hxr.out.1
   have hxn:x<m.inputs.toNat:=by have:=hxr.out.2;omega
   obtain ⟨b1,o1,c1,q1,b2,o2,c2',q2,nx,y,e1,e2,e3,e4,hnx,hy0,hy1,hnx2,hot2,hx1,hx2,hq1,hq2⟩:=hSo.2.1.atS ok.out hsn hxn
   obtain ⟨-, -,d2,d3⟩:=hSo.1
   have hso:sn<m.out.length:=by have:=ok.out.lo;omega
   have hE2:Hid (m.endW (s:Int) (l.take (k+1))=((nx:Nat):Int)):=by
    unfold Hid
    rw [Mach.take_step hx.out,Mach.endW_snoc,hE.out]
    simpa using hnx2.out
   have hL2:Hid (m.outsW (s:Int) (l.take (k+1))=K++[y]):=by
    unfold Hid
    rw [Mach.take_step hx.out,Mach.outsW_snoc,hE.out,←hL.out]
    simpa using hot2.out
   have hO2:=hO
   have hba:=(Below.refl wo.heap.size wo).alloc (Nat.le_refl _) (.cells #[.int .i64 y] 3)
   clear hSo hO hxr
   go_wp2_with (at_builtin;refine wpList_push_i (B:=w0.heap.size) (l:=K) (y:=y) rfl rfl Tryz.underlying49 info_int rfl rfl (hO2.alloc _) (by simp [go_sem]) (by unfold i64;omega) (by rw [hKl.out];omega) (by simp;omega) ?_)
   intro a5 c5 l5 w5 hl5 hO5 hb5
   have hB5:=(hB.alloc hzo (.cells #[.int .i64 y] 3)).trans hb5
   have hS5:=HS.out _ hB5
   obtain ⟨b1',o1',c1',q1',b2,o2,c2',q2,nx',y',f1, -,f3, -, -, -, -,hnx3, -,hx1', -,hq1', -⟩:=hS5.2.1.atS ok.out hsn hxn
   obtain rfl:nx=nx':=by have h1:=hnx2.out;have h2:=hnx3.out;omega
   have hL5:Hid (l5=m.outsW (s:Int) (l.take (k+1))):=by unfold Hid;rw [hl5.out,hL2.out]
   obtain ⟨-, -,g2, -⟩:=hS5.1
   clear hS5 e1 e2 e3 e4 d2 d3 hO2 hB hba hb5 hl5 hx1 hq1 hxc
   go_wp2
   go_roundw
   case rel=>exact ⟨k+1,nx,a5,c5,l5,by omega,hnx,by go_num,rfl,rfl,hE2,hL5,hO5,hB5⟩
   case measure=>simp [intOf];omega
  have hLf:Hid (K=m.outsW (s:Int) l):=by unfold Hid;rw [hL.out,List.take_of_length_le (by omega)]
  have hSf:=(hO.anyM (M':=fun k=>k<w.heap.size)).toSl fun k hk hlt=>by have:=(hO.lt k hk).1;omega
  have hBf:=hSo.2.2.2
  clear hSo
  go_wp2
  go_ret
  exact ⟨a2,c2,K,rfl,hLf,hSf,hBf⟩
end
def apW (m:Mach) (s t:Nat) (l:List Int):Bool:=decide (m.outsW (s:Int) l≠m.outsW (t:Int) l)
structure Bx3 (w:World) (b0 b1 b2:Nat) (an:Option Addr) (cn:Nat) (ao:Option Addr) (co:Nat) (m:Mach) (s t:Nat):Prop where
 h0:C4 w b0 an cn ao co m
 h1:w.cell? ⟨b1,0,none⟩=some (.int .i64 s)
 h2:w.cell? ⟨b2,0,none⟩=some (.int .i64 t)
theorem Bx3.below {w w':World} {b0 b1 b2 cn co s t:Nat} {an ao:Option Addr} {m:Mach} (h:Bx3 w b0 b1 b2 an cn ao co m s t) (hb:Below w.heap.size w w'):Bx3 w' b0 b1 b2 an cn ao co m s t:=
 ⟨h.h0.below hb (lt_of_cell h.h0.1),(hb.cell (p:=⟨b1,0,none⟩) (lt_of_cell h.h1)).trans h.h1,(hb.cell (p:=⟨b2,0,none⟩) (lt_of_cell h.h2)).trans h.h2⟩
section
variable {M M':Nat→Prop} {w:World} {an ao a:Option Addr} {cn co c b0 b1 b2 s t:Nat} {m:Mach}
theorem sepC_any {l:List Int} (hm:Ma M w an cn ao co m) (hw:Sl M' w a c l) (hx:Bx3 w b0 b1 b2 an cn ao co m s t) (ok:Hid m.Ok) (hs:s<m.next.length) (ht:t<m.next.length) (hok:Hid (m.okS l)) (hll:l.length≤1000000) {v:Bool} (hv:apW m s t l=v):
    Calls Tryz.prog 174 #[.slice a l.length c,.pointer (some ⟨b0,0,none⟩),.pointer (some ⟨b1,0,none⟩),.pointer (some ⟨b2,0,none⟩)] w fun e w'=>e= .returned (.bool v)∧Below w.heap.size w w':=by
 have HS:Hid (∀w',Below w.heap.size w w'→(C4 w' b0 an cn ao co m∧w'.cell? ⟨b1,0,none⟩=some (.int .i64 s)∧w'.cell? ⟨b2,0,none⟩=some (.int .i64 t))∧Ma M w' an cn ao co m∧Sl M' w' a c l):=fun w' h=>
  ⟨⟨(hx.below h).h0,(hx.below h).h1,(hx.below h).h2⟩,hm.below h,hw.below h⟩
 have HV:=Lib.hid hv
 have l1:=hm.next.le
 have l2:=hm.out.le
 have l3:=hw.le
 clear hm hw hx hv
 go_enter Tryz.func174,Tryz.ntmps174
 go_upto_region 1 with (fail)
 refine wp_region_L (fun w'=>C4 w' b0 an cn ao co m∧w'.cell? ⟨b1,0,none⟩=some (.int .i64 s)∧w'.cell? ⟨b2,0,none⟩=some (.int .i64 t)) [0,1,2,4,5,6,9,10] (by kernel_rfl) ?_
 have hB1:=(Below.refl w.heap.size w).drew
 have hS1:=(HS.out _ hB1).1
 generalize w.drew=w1 at*
 have HO:=Lib.hid (outsS_any (HS.out _ hB1).2.1 (HS.out _ hB1).2.2 ok s hs hok hll)
 refine skL_on [0,1,2,4,5,6] ?_
 repeat (refine skL_take (v:= ?_) rfl ?_ ?_;rotate_left;(focus (intro w' hSw;(try dsimp only at hSw);go_simp;try with_reducible rfl));try simp only [Act.put,List.setIfInBounds_toArray,List.set_cons_zero,List.set_cons_succ])
 refine skL_off ?_
 refine wpAnyL_one (i:=3) (by kernel_rfl) rfl rfl (fun K hK=> ?_)
 go_simp
 refine (HO.out).mono ?_
 rintro e w2 ⟨a2,c2,l2',rfl,hl2,hs2,hb2⟩
 have hB2:=hB1.trans (hb2.mono hB1.size)
 have hS2:=(HS.out _ hB2).1
 have HL2:=Lib.hid (hs2.anti (M':=fun _=>False) fun _ _ h=>h.elim)
 have hll2:=hs2.le
 refine hK _ _ (fun _=>hS2) ?_
 clear hK K HO hS1 hs2 hb2 hB1
 have HO:=Lib.hid (outsS_any (HS.out _ hB2).2.1 (HS.out _ hB2).2.2 ok t ht hok hll)
 refine wpAnyL_one (i:=7) (by kernel_rfl) rfl rfl (fun K hK=> ?_)
 go_simp
 refine (HO.out).mono ?_
 rintro e w3 ⟨a3,c3,l3',rfl,hl3,hs3,hb3⟩
 have hB3:=hB2.trans (hb3.mono hB2.size)
 have hS3:=(HS.out _ hB3).1
 have HL3:=Lib.hid (hs3.anti (M':=fun _=>False) fun _ _ h=>h.elim)
 have HL23:=Lib.hid (HL2.out.below hb3)
 have hll3:=hs3.le
 have HE0:=sequal_any HL23.out HL3.out
 have hev:decide (l2'=l3')= !v:=by
  rw [hl2.out,hl3.out,←HV.out]
  unfold apW
  by_cases e:m.outsW (s:Int) l=m.outsW (t:Int) l<;>simp [e]
 rw [hev] at HE0
 have HE:=Lib.hid HE0
 refine hK _ _ (fun _=>hS3) ?_
 clear hK K HO hS2 hs3 hb3 hB2 HE0 hev
 refine wpAnyL_one (i:=8) (by kernel_rfl) rfl rfl (fun K hK=> ?_)
 go_simp
 refine (HE.out).mono ?_
 rintro e w4 ⟨rfl,n4,rfl⟩
 have hB4:=bl_drewN hB3 n4
 have hS4:=(HS.out _ hB4).1
 refine hK _ _ (fun _=>hS4) ?_
 clear hK K HE hS3 hB3
 generalize w3.drewN n4=w4 at*
 refine skL_on [9,10] ?_
 repeat (refine skL_take (v:= ?_) rfl ?_ ?_;rotate_left;(focus (intro w' hSw;(try dsimp only at hSw);go_simp;try with_reducible rfl));try simp only [Act.put,List.setIfInBounds_toArray,List.set_cons_zero,List.set_cons_succ])
 refine skL_off ?_
 refine wpAnyL_done (by kernel_rfl) ?_ _
 clear hS4
 go_wp2
 go_ret
 exact ⟨by simp,hB4⟩
theorem some_any {L:List (List Int)} (hm:Ma M w an cn ao co m) (hL:Sl M' w a c L) (hx:Bx3 w b0 b1 b2 an cn ao co m s t) (ok:Hid m.Ok) (hs:s<m.next.length) (ht:t<m.next.length) (hok:Hid (∀l∈L,m.okS l∧l.length≤1000000)) {v:Bool} (hv:L.any (apW m s t)=v):
    Calls Tryz.prog 173 #[.slice a L.length c,.func (.func 174) #[] #[.pointer (some ⟨b0,0,none⟩),.pointer (some ⟨b1,0,none⟩),.pointer (some ⟨b2,0,none⟩)]] w fun e w'=>e= .returned (.bool v)∧Below w.heap.size w w':=by
 have HS:Hid (∀w',Below w.heap.size w w'→Bx3 w' b0 b1 b2 an cn ao co m s t∧Ma M w' an cn ao co m∧Sl M' w' a c L):=fun w' h=>⟨hx.below h,hm.below h,hL.below h⟩
 have HV:=Lib.hid hv
 have l3:=hL.le
 have hT0:Hid ((L.take 0).any (apW m s t)=false):=rfl
 have hBz:=Below.refl w.heap.size w
 clear hm hL hx hv
 go_enter Tryz.func173,Tryz.ntmps173
 go_wp2
 go_loopw [9] (fun i wr=>∃k:Nat,k≤L.length∧i= .int .i64 k∧Hid ((L.take k).any (apW m s t)=false)∧Below w.heap.size w wr) (fun i _=>L.length-(intOf i).toNat)
 case atStart=>exact ⟨0,by omega,rfl,hT0,hBz⟩
 case round=>
  clear hT0 hBz
  obtain ⟨k,hk,rfl,hT,hB⟩:=hrel
  obtain ⟨wo,rfl⟩:∃wo:World,wo=wr:=⟨_,rfl⟩
  have hzo:=hB.size
  by_cases hlt:k<L.length
  ·obtain ⟨bL,oL,ax,x,cx,rfl,hxc,hx,hxs⟩:=(HS.out _ hB).2.2.at_row hlt
   have hxo:=Lib.hid (hok.out x (List.mem_of_getElem? hx.out))
   have hxsl:=hxs.le
   cases hq:apW m s t x with
   |true=>
    have HC:=Lib.hid (sepC_any (HS.out _ hB).2.1 hxs (HS.out _ hB).1 ok hs ht (Lib.hid hxo.out.1) hxo.out.2 hq)
    have hvt:v=true:=by rw [←HV.out];exact List.any_eq_true.2 ⟨x,List.mem_of_getElem? hx.out,hq⟩
    subst hvt
    clear hxs hq
    go_wp2_with fail
    refine (HC.out).mono ?_
    rintro e w2 ⟨rfl,hb2⟩
    have hB2:=hB.trans (hb2.mono hzo)
    go_wp2
    go_ret
    exact ⟨rfl,hB2⟩
   |false=>
    have HC:=Lib.hid (sepC_any (HS.out _ hB).2.1 hxs (HS.out _ hB).1 ok hs ht (Lib.hid hxo.out.1) hxo.out.2 hq)
    have hT2:Hid ((L.take (k+1)).any (apW m s t)=false):=by unfold Hid;rw [List.take_add_one,hx.out,List.any_append,hT.out];simp [hq]
    clear hxs hq
    go_wp2_with fail
    refine (HC.out).mono ?_
    rintro e w2 ⟨rfl,hb2⟩
    have hB2:=hB.trans (hb2.mono hzo)
    clear HC hb2 hB hxc
    go_wp2
    go_roundw
    case rel=>exact ⟨k+1,by omega,by go_num,hT2,hB2⟩
    case measure=>simp [intOf];omega
  have hvf:v=false:=by rw [←HV.out];have h:=hT.out;rwa [List.take_of_length_le (by omega)] at h
  subst hvf
  go_wp2
  go_ret
  exact ⟨rfl,hB⟩
theorem separated_any {L:List (List Int)} (hm:Ma M w an cn ao co m) (hL:Sl M' w a c L) (ok:Hid m.Ok) (hs:s<m.next.length) (ht:t<m.next.length) (hok:Hid (∀l∈L,m.okS l∧l.length≤1000000)) {v:Bool} (hv:L.any (apW m s t)=v):
    Calls Tryz.prog 127 #[maV m an cn ao co,.slice a L.length c,.int .i64 s,.int .i64 t] w fun e w'=>e= .returned (.bool v)∧Below w.heap.size w w':=by
 have hB0:=(((Below.refl w.heap.size w).alloc (Nat.le_refl _) (maO m an cn ao co)).alloc (by simp) (.cells #[.int .i64 s] 3)).alloc (by simp;omega) (.cells #[.int .i64 t] 3)
 have hx:Bx3 (((w.alloc (maO m an cn ao co)).alloc (.cells #[.int .i64 s] 3)).alloc (.cells #[.int .i64 t] 3)) w.heap.size (w.heap.size+1) (w.heap.size+1+1) an cn ao co m s t:=by
  have e1:(w.alloc (maO m an cn ao co)).heap.size=w.heap.size+1:=by simp
  have e2:((w.alloc (maO m an cn ao co)).alloc (.cells #[.int .i64 s] 3)).heap.size=w.heap.size+1+1:=by simp
  have g1:=heap_alloc_new (w.alloc (maO m an cn ao co)) (.cells #[.int .i64 (s:Int)] 3)
  have g2:=heap_alloc_new ((w.alloc (maO m an cn ao co)).alloc (.cells #[.int .i64 (s:Int)] 3)) (.cells #[.int .i64 (t:Int)] 3)
  rw [e1] at g1
  rw [e2] at g2
  have b1:Below (w.heap.size+1) (w.alloc (maO m an cn ao co)) ((w.alloc (maO m an cn ao co)).alloc (.cells #[.int .i64 (s:Int)] 3)):=(Below.refl _ _).alloc (by rw [e1];exact Nat.le_refl _) _
  have b2:Below (w.heap.size+1+1) ((w.alloc (maO m an cn ao co)).alloc (.cells #[.int .i64 (s:Int)] 3)) (((w.alloc (maO m an cn ao co)).alloc (.cells #[.int .i64 (s:Int)] 3)).alloc (.cells #[.int .i64 (t:Int)] 3)):=(Below.refl _ _).alloc (by rw [e2];exact Nat.le_refl _) _
  exact ⟨((c4_new w).below b1 (by omega)).below b2 (by omega),(b2.cell (p:=⟨w.heap.size+1,0,none⟩) (show w.heap.size+1<w.heap.size+1+1 by omega)).trans (cell_of_row _ _ _ _ _ _ g1),cell_of_row _ _ _ _ _ _ g2⟩
 have HC:=Lib.hid (some_any (hm.below hB0) (hL.below hB0) hx ok hs ht hok hv)
 have hmf:∀(fn:Fn) (first cap:Array Value) (w:World),(Instr.makeFunc fn first cap).run Tryz.prog w= .ok (.func fn first cap) w:=fun _ _ _ _=>rfl
 have l1:=hm.next.le
 have l2:=hm.out.le
 have l3:=hL.le
 clear hm hL hx hv
 go_enter Tryz.func127,Tryz.ntmps127
 go_wp2_with fail
 refine (HC.out).mono ?_
 rintro e w2 ⟨rfl,hb2⟩
 have hB2:=hB0.trans (hb2.mono hB0.size)
 go_wp2
 go_ret
 exact ⟨rfl,hB2⟩
end
end Go.Proofs.YtjagagpcjpcjjaaGreat
