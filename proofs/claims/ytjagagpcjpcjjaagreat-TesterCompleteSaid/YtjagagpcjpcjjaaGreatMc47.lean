/- Several texts, one behind the other. Conditions: as each of them says. -/
import Derived.Test.YtjagagpcjpcjjaaGreatMc46
import Derived.Test.YtjagagpcjpcjjaaGreatMc45
import Derived.Test.YtjagagpcjpcjjaaGreatMc41
import Derived.Test.YtjagagpcjpcjjaaGreatMc30
import Derived.Test.YtjagagpcjpcjjaaGreatMc26
import Derived.Test.YtjagagpcjpcjjaaGreatMc25
import Derived.Test.YtjagagpcjpcjjaaGreatMc23
import Derived.Test.YtjagagpcjpcjjaaGreatMc19
import Derived.Test.YtjagagpcjpcjjaaGreatMc15
import Derived.Test.YtjagagpcjpcjjaaGreatMc12
import Derived.Test.YtjagagpcjpcjjaaGreatMc9
import Derived.Test.YtjagagpcjpcjjaaGreatMc7
import Derived.Test.YtjagagpcjpcjjaaGreatMc4
import Derived.Test.YtjagagpcjpcjjaaGreatMc3
set_option maxRecDepth 100000
set_option maxHeartbeats 32000000
namespace Go.Proofs.YtjagagpcjpcjjaaGreat
open Go.RowKit
theorem dif_some {xs ys:List Int} {k:Nat} (h:comW xs ys=k) (hx:k<xs.length) (hy:k<ys.length):difN xs ys=some k:=by
 unfold difN;rw [h,if_pos (by omega)]
theorem dif_none {xs ys:List Int} {k:Nat} (h:comW xs ys=k) (hk:xs.length≤k∨ys.length≤k):difN xs ys=none:=by
 unfold difN;rw [h,if_neg (by omega)]
section
variable {M M':Nat→Prop} {w:World} {a b:Option Addr} {c d:Nat}
theorem differ_any {xs ys:List Int} (h1:Sl M w a c xs) (h2:Sl M' w b d ys):
    Calls Tryz.prog 103 #[.slice a xs.length c,.slice b ys.length d] w fun e w'=>e= .returned (.tuple #[.int .i64 (((difN xs ys).getD 0:Nat):Int),.bool (difN xs ys).isSome])∧Hid (∃n,w'=w.drewN n):=by
 have hl1:=h1.le
 have hl2:=h2.le
 have hC0:Hid (comW xs ys=0+comW (xs.drop 0) (ys.drop 0)):=by unfold Hid;simp
 have hD0:Hid (∃n,w=w.drewN n):=⟨0,rfl⟩
 by_cases hm:xs.length≤ys.length
 ·have hmin:min ((xs.length:Nat):Int) ((ys.length:Nat):Int)=((xs.length:Nat):Int):=by omega
  go_enter Tryz.func103,Tryz.ntmps103
  go_wp2
  go_loopw [12] (fun i wr=>∃k:Nat,k≤xs.length∧k≤ys.length∧i= .int .i64 k∧Hid (comW xs ys=k+comW (xs.drop k) (ys.drop k))∧Hid (∃n,wr=w.drewN n)) (fun i _=>xs.length-(intOf i).toNat)
  case atStart=>exact ⟨0,by omega,by omega,rfl,hC0,hD0⟩
  case round=>
   clear hC0 hD0
   obtain ⟨k,hkx,hky,rfl,hC,hD⟩:=hrel
   obtain ⟨w1,rfl⟩:∃w1:World,w1=wr:=⟨_,rfl⟩
   by_cases hk:k<xs.length
   ·have hx:k<xs.length:=by omega
    have hy:k<ys.length:=by omega
    obtain ⟨b1,o1,x,rfl,hxc,hxk, -⟩:=(sl_drw hD h1).at_int hx
    obtain ⟨b2,o2,y,rfl,hyc,hyk, -⟩:=(sl_drw hD h2).at_int hy
    by_cases hxy:x=y
    ·have hb:(x !=y)=false:=by simp [hxy]
     have hC2:Hid (comW xs ys=(k+1)+comW (xs.drop (k+1)) (ys.drop (k+1))):=comW_step hC.out hxk.out (by rw [hxy];exact hyk.out)
     clear hxy
     go_wp2
     refine wp_quiet_fast (by kernel_rfl) (by kernel_rfl) ?_
     repeat (first|go_big_quiet_step (fail)|quiet_step (fail))
     refine wpQuiet_nil ?_
     intro _ hw'
     obtain ⟨nq,hw''⟩:=hw'
     subst hw''
     go_wp2
     go_roundw
     case rel=>exact ⟨k+1,by omega,by omega,by go_num,hC2,drw_add hD _⟩
     case measure=>simp [intOf];omega
    have hb:(x !=y)=true:=by simp [hxy]
    have HF:Hid (difN xs ys=some k):=dif_some (comW_stop hC.out hxk.out hyk.out hxy) hx hy
    clear hxy
    go_wp2
    refine wp_quiet_fast (by kernel_rfl) (by kernel_rfl) ?_
    repeat (first|go_big_quiet_step (fail)|quiet_step (fail))
    refine wpQuiet_nil ?_
    intro _ hw'
    obtain ⟨nq,hw''⟩:=hw'
    subst hw''
    go_wp2
    go_ret2
    exact ⟨by rw [HF.out];rfl,drw_add hD _⟩
   have HF:Hid (difN xs ys=none):=dif_none (comW_end hC.out (by omega)) (by omega)
   go_wp2
   all_goals
    first
     |(exfalso;omega)
     |(go_ret2;exact ⟨by rw [HF.out];rfl,hD⟩)
 have hmin:min ((xs.length:Nat):Int) ((ys.length:Nat):Int)=((ys.length:Nat):Int):=by omega
 go_enter Tryz.func103,Tryz.ntmps103
 go_wp2
 go_loopw [12] (fun i wr=>∃k:Nat,k≤xs.length∧k≤ys.length∧i= .int .i64 k∧Hid (comW xs ys=k+comW (xs.drop k) (ys.drop k))∧Hid (∃n,wr=w.drewN n)) (fun i _=>ys.length-(intOf i).toNat)
 case atStart=>exact ⟨0,by omega,by omega,rfl,hC0,hD0⟩
 case round=>
  clear hC0 hD0
  obtain ⟨k,hkx,hky,rfl,hC,hD⟩:=hrel
  obtain ⟨w1,rfl⟩:∃w1:World,w1=wr:=⟨_,rfl⟩
  by_cases hk:k<ys.length
  ·have hx:k<xs.length:=by omega
   have hy:k<ys.length:=by omega
   obtain ⟨b1,o1,x,rfl,hxc,hxk, -⟩:=(sl_drw hD h1).at_int hx
   obtain ⟨b2,o2,y,rfl,hyc,hyk, -⟩:=(sl_drw hD h2).at_int hy
   by_cases hxy:x=y
   ·have hb:(x !=y)=false:=by simp [hxy]
    have hC2:Hid (comW xs ys=(k+1)+comW (xs.drop (k+1)) (ys.drop (k+1))):=comW_step hC.out hxk.out (by rw [hxy];exact hyk.out)
    clear hxy
    go_wp2
    refine wp_quiet_fast (by kernel_rfl) (by kernel_rfl) ?_
    repeat (first|go_big_quiet_step (fail)|quiet_step (fail))
    refine wpQuiet_nil ?_
    intro _ hw'
    obtain ⟨nq,hw''⟩:=hw'
    subst hw''
    go_wp2
    go_roundw
    case rel=>exact ⟨k+1,by omega,by omega,by go_num,hC2,drw_add hD _⟩
    case measure=>simp [intOf];omega
   have hb:(x !=y)=true:=by simp [hxy]
   have HF:Hid (difN xs ys=some k):=dif_some (comW_stop hC.out hxk.out hyk.out hxy) hx hy
   clear hxy
   go_wp2
   refine wp_quiet_fast (by kernel_rfl) (by kernel_rfl) ?_
   repeat (first|go_big_quiet_step (fail)|quiet_step (fail))
   refine wpQuiet_nil ?_
   intro _ hw'
   obtain ⟨nq,hw''⟩:=hw'
   subst hw''
   go_wp2
   go_ret2
   exact ⟨by rw [HF.out];rfl,drw_add hD _⟩
  have HF:Hid (difN xs ys=none):=dif_none (comW_end hC.out (by omega)) (by omega)
  go_wp2
  all_goals
   first
    |(exfalso;omega)
    |(go_ret2;exact ⟨by rw [HF.out];rfl,hD⟩)
theorem minf_any {l:List (List Int)} (h:Sl M w a c l) (h0:0<l.length):
    Calls Tryz.prog 160 #[.slice a l.length c,.func (.func 88) #[] #[]] w fun e w'=>∃(a':Option Addr) (c':Nat) (x:List Int),e= .returned (.slice a' x.length c')∧Hid (lstW l=some x)∧Sl M w' a' c' x∧Below w.heap.size w w':=by
 have hll:=h.le
 have HS:=Lib.hid h
 obtain ⟨b0,o0,a0,x0,c0,rfl,hc0,hx0,hs0⟩:=h.at_row h0
 have hlt1:¬((l.length:Int)<1):=by omega
 rw [Nat.add_zero] at hc0
 have hW0:Hid (lstW (l.take 1)=some x0):=by
  unfold Hid
  have e:l.take 1=[]++[x0]:=by rw [List.take_add_one,hx0.out];rfl
  rw [e,lstW_snoc];rfl
 have hB0:=Below.refl w.heap.size w
 have HS0:=Lib.hid hs0
 clear h hs0
 go_enter Tryz.func160,Tryz.ntmps160
 go_wp2
 go_loopw [5,6] (fun v i wr=>∃(k:Nat) (a':Option Addr) (c':Nat) (x:List Int),k≤l.length∧i= .int .i64 k∧v= .slice a' x.length c'∧Hid (lstW (l.take k)=some x)∧Sl M wr a' c' x∧Below w.heap.size w wr) (fun _ i _=>l.length-(intOf i).toNat)
 case atStart=>exact ⟨1,a0,c0,x0,by omega,rfl,rfl,hW0,HS0.out,hB0⟩
 case round=>
  clear hW0 hB0
  obtain ⟨k,a1,c1,x,hk,rfl,rfl,hW,hs,hB⟩:=hrel
  obtain ⟨w1,rfl⟩:∃w1:World,w1=wr:=⟨_,rfl⟩
  have hzo:=hB.size
  by_cases hlt:k<l.length
  ·obtain ⟨b2,o2,a2,y,c2,he2,hc2,hy,hs2⟩:=(HS.out.below hB).at_row hlt
   have HC:=Lib.hid (cmpF_cmp M M w1 a2 a1 c2 c1 y x hs2 hs)
   have hstep:Hid (lstW (l.take (k+1))=some (if cmpW y x<0 then y else x)):=by
    unfold Hid
    rw [List.take_add_one,hy.out]
    show lstW (l.take k++[y])=_
    rw [lstW_snoc,hW.out];rfl
   have hyl:=hs2.le
   have hxl:=hs.le
   simp only [Option.some.injEq,Addr.mk.injEq,and_true] at he2
   obtain ⟨rfl,rfl⟩:=he2
   by_cases hlt2:cmpW y x<0
   ·have hst:Hid (lstW (l.take (k+1))=some y):=by unfold Hid;rw [hstep.out,if_pos hlt2]
    obtain ⟨z,hz⟩:∃z,z=cmpW y x:=⟨_,rfl⟩
    rw [←hz] at hlt2 HC
    have HS1:=Lib.hid hs2
    clear hs hs2 hstep hz
    go_wp2_with fail
    refine (HC.out).mono ?_
    rintro e w2 ⟨rfl,q,os,hw2⟩
    have hb2:=CmpF.below hw2
    have hB2:=hB.trans (hb2.mono hzo)
    have hc22:=(hb2.cell (p:=⟨b0,o0+k,none⟩) (lt_of_cell hc2)).trans hc2
    have hsy:=HS1.out.below hb2
    clear HC hw2 hb2 hB hc2
    go_wp2
    go_roundw
    case rel=>exact ⟨k+1,a2,c2,y,by omega,by go_num,rfl,hst,hsy,hB2⟩
    case measure=>simp [intOf];omega
   have hst:Hid (lstW (l.take (k+1))=some x):=by unfold Hid;rw [hstep.out,if_neg hlt2]
   obtain ⟨z,hz⟩:∃z,z=cmpW y x:=⟨_,rfl⟩
   rw [←hz] at hlt2 HC
   have HS1:=Lib.hid hs
   clear hs hs2 hstep hz
   go_wp2_with fail
   refine (HC.out).mono ?_
   rintro e w2 ⟨rfl,q,os,hw2⟩
   have hb2:=CmpF.below hw2
   have hB2:=hB.trans (hb2.mono hzo)
   have hsx:=HS1.out.below hb2
   clear HC hw2 hb2 hB hc2
   go_wp2
   go_roundw
   case rel=>exact ⟨k+1,a1,c1,x,by omega,by go_num,rfl,hst,hsx,hB2⟩
   case measure=>simp [intOf];omega
  have hF:Hid (lstW l=some x):=by unfold Hid;rw [←hW.out,List.take_of_length_le (by omega)]
  go_wp2
  go_ret
  exact ⟨a1,c1,x,rfl,hF,hs,hB⟩
theorem least_any {l:List (List Int)} (h:Sl M w a c l):
    Calls Tryz.prog 104 #[.slice a l.length c,.func (.func 88) #[] #[]] w fun e w'=>∃(a':Option Addr) (c':Nat) (x:List Int) (f:Bool),e= .returned (.tuple #[.slice a' x.length c',.bool f])∧Hid (x=(lstW l).getD []∧f=(lstW l).isSome)∧Sl M w' a' c' x∧Below w.heap.size w w':=by
 have hll:=h.le
 by_cases h0:l.length=0
 ·have hb:(((l.length:Nat):Int)==0)=true:=by rw [h0];rfl
  have hF:Hid (([]:List Int)=(lstW l).getD []∧false=(lstW l).isSome):=by unfold Hid;rw [List.length_eq_zero_iff.1 h0];exact ⟨rfl,rfl⟩
  go_enter Tryz.func104,Tryz.ntmps104
  go_wp2
  go_ret2
  exact ⟨none,0,[],false,rfl,hF,Sl.nil _ _ _ (by unfold maxLen;omega),Below.refl _ _⟩
 have hb:(((l.length:Nat):Int)==0)=false:=by simp;exact fun e=>h0 (by rw [e];rfl)
 have HC:=Lib.hid (minf_any h (by omega))
 clear h h0
 go_enter Tryz.func104,Tryz.ntmps104
 go_wp2_with fail
 refine (HC.out).mono ?_
 rintro e w1 ⟨a1,c1,x,rfl,hx,hs,hb1⟩
 have hF:Hid (x=(lstW l).getD []∧true=(lstW l).isSome):=by unfold Hid;rw [hx.out];exact ⟨rfl,rfl⟩
 go_wp2
 go_ret2
 exact ⟨a1,c1,x,true,rfl,hF,hs,hb1⟩
end
def Ob.good (o:Ob):Prop:=o.traces.length≤10000∧∀t∈o.traces,wErr t.inn o.inputs=0∧t.out.length=t.inn.length
theorem dif_lt {xs ys:List Int} {k:Nat} (h:difN xs ys=some k):k<xs.length∧k<ys.length∧comW xs ys=k:=by
 unfold difN at h
 split at h
 ·rename_i h1
  simp only [Option.some.injEq] at h
  omega
 simp at h
theorem Os.fresh {M:Nat→Prop} {w:World} {a:Option Addr} {c:Nat} {o:Ob} (h:Os M w a c o):Os (fun k=>w.heap.size≤k) w a c o:=h.ext (Ext.sub_only fun k hk hm=>by omega)
def RfR (h:Hy) (o:Ob) (w:World) (e:Ending) (w':World):Prop:=∃(a1:Option Addr) (c1:Nat) (x:List Int) (f:Bool) (er:Int),e= .returned (.tuple #[.slice a1 x.length c1,.bool f,.int .i64 er])∧Hid (rfW h o=(x,f,er))∧Sl (fun k=>k<w.heap.size) w' a1 c1 x∧Below w.heap.size w w'
section
variable {M M':Nat→Prop} {w:World} {an ao ac a:Option Addr} {cn co cc c:Nat} {h:Hy} {o:Ob}
theorem rf_start (hh:Hp M w an cn ao co ac cc h) (ho:Os M' w a c o):
    H5 ((w.alloc (hyO h an cn ao co ac cc)).alloc (obO o a c)) w.heap.size an cn ao co ac cc h∧O2 ((w.alloc (hyO h an cn ao co ac cc)).alloc (obO o a c)) (w.heap.size+1) a c o∧Ma M ((w.alloc (hyO h an cn ao co ac cc)).alloc (obO o a c)) an cn ao co h.m∧
    Os (fun k=>w.heap.size+2≤k) ((w.alloc (hyO h an cn ao co ac cc)).alloc (obO o a c)) a c o∧Below w.heap.size w ((w.alloc (hyO h an cn ao co ac cc)).alloc (obO o a c))∧((w.alloc (hyO h an cn ao co ac cc)).alloc (obO o a c)).heap.size=w.heap.size+2:=by
 have e1:(w.alloc (hyO h an cn ao co ac cc)).heap.size=w.heap.size+1:=by simp
 have b1:=(Below.refl w.heap.size w).alloc (Nat.le_refl _) (hyO h an cn ao co ac cc)
 have b2:Below (w.heap.size+1) (w.alloc (hyO h an cn ao co ac cc)) ((w.alloc (hyO h an cn ao co ac cc)).alloc (obO o a c)):=(Below.refl _ _).alloc (by rw [e1];exact Nat.le_refl _) _
 have b3:=b1.trans (b2.mono (by omega))
 have h2:=o2_new (o:=o) (a:=a) (c:=c) (w.alloc (hyO h an cn ao co ac cc))
 rw [e1] at h2
 have e2:((w.alloc (hyO h an cn ao co ac cc)).alloc (obO o a c)).heap.size=w.heap.size+2:=by simp
 have h3:=(ho.below b3).fresh
 rw [e2] at h3
 exact ⟨(h5_new w).below b2 (by omega),h2,(hh.below b3).m,h3,b3,e2⟩
theorem refuted_any (hh:Hp M w an cn ao co ac cc h) (ho:Os M' w a c o) (ok:Hid h.m.Ok) (hg:Hid o.good):
    Calls Tryz.prog 50 #[hyV h an cn ao co ac cc,obV o a c] w (RfR h o w):=by
 obtain ⟨hx0,hy0,hm0,ho0,hB0,hz0⟩:=rf_start hh ho
 have l1:=hh.m.next.le
 have l2:=hh.m.out.le
 have l3:=hh.acc.le
 have l4:=ho.traces.le
 clear hh ho
 go_enter Tryz.func50,Tryz.ntmps50
 go_upto_region 1 with (fail)
 generalize (w.alloc (hyO h an cn ao co ac cc)).alloc (obO o a c)=w0 at*
 rw [←hz0] at ho0
 have HS:Hid (∀w',Below w0.heap.size w0 w'→H5 w' w.heap.size an cn ao co ac cc h∧O2 w' (w.heap.size+1) a c o∧Ma M w' an cn ao co h.m∧Os (fun k=>w0.heap.size≤k) w' a c o∧Below w.heap.size w w'):=fun w' hb=>
  ⟨hx0.below hb (by omega),hy0.below hb (by omega),hm0.below hb,ho0.below hb,hB0.trans (hb.mono (by omega))⟩
 have hb0:=Below.refl w0.heap.size w0
 have hzw:w.heap.size+2≤w0.heap.size:=by omega
 clear hx0 hy0 hm0 ho0 hB0 hz0
 by_cases hin:h.m.inputs=o.inputs
 ·have hinb:(h.m.inputs !=o.inputs)=false:=by simp [hin]
  have HF:Hid (rfW h o=((h.m.refW o.traces).getD [],(h.m.refW o.traces).isSome,0)):=by unfold Hid rfW;rw [if_neg (by simp [hin])]
  have hgt:Hid (∀t∈o.traces,wErr t.inn h.m.inputs=0∧t.out.length=t.inn.length):=by unfold Hid;rw [hin];exact hg.out.2
  have hgn:Hid (o.traces.length≤10000):=hg.out.1
  have HST:=Lib.hid (start_ok ok.out)
  have hsr:Hid (0≤h.m.start∧h.m.start<h.m.next.length):=⟨ok.out.s0,ok.out.s1⟩
  clear hin
  obtain ⟨⟨⟨d0,d1,d2,d3⟩,d4⟩,⟨o0,o1⟩, -⟩:=HS.out _ hb0
  have hK0:Hid (([]:List (List Int))=h.m.refL (o.traces.take 0)):=rfl
  have hO0:Ow (α:=List Int) w0.heap.size (fun k=>w0.heap.size≤k) w0 49 (.slice none 0 0) []:=Ow.nil
  go_wp2
  go_loopw [7,25] (fun v i wr=>∃(k:Nat) (a':Option Addr) (c':Nat) (K:List (List Int)),k≤o.traces.length∧i= .int .i64 k∧v= .slice a' K.length c'∧Hid (K=h.m.refL (o.traces.take k))∧Ow w0.heap.size (fun k=>w0.heap.size≤k) wr 49 (.slice a' K.length c') K∧Below w0.heap.size w0 wr) (fun _ i _=>o.traces.length-(intOf i).toNat)
  case atStart=>exact ⟨0,none,0,[],by omega,rfl,rfl,hK0,hO0,hb0⟩
  case round=>
   clear hK0 hO0 hb0 d0 d1 d2 d3 d4 o0 o1
   obtain ⟨k,a',c',K,hk,rfl,rfl,hK,hO,hB⟩:=hrel
   obtain ⟨w1,rfl⟩:∃w1:World,w1=wr:=⟨_,rfl⟩
   have hz1:=hB.size
   have hKl:Hid (K.length≤o.traces.length):=by
    unfold Hid;rw [hK.out];unfold Mach.refL
    exact Nat.le_trans (List.length_filterMap_le _ _) (by rw [List.length_take];omega)
   by_cases hlt:k<o.traces.length
   ·obtain ⟨bT,oT,a1,c1,a2,c2,t,he1,hc1,hc2,ht,hs1,hs2⟩:=(HS.out _ hB).2.2.2.1.traces.at_tr hlt
    have htg:=Lib.hid (hgt.out t (List.mem_of_getElem? ht.out))
    have hstep:=Lib.hid (Mach.refL_step (m:=h.m) ht.out)
    have htl:=hs1.le
    have htc:=hs1.1
    have htl2:=hs2.le
    have HT1:Hid (∀w',Below w1.heap.size w1 w'→Sl (fun k=>w0.heap.size≤k) w' a1 c1 t.inn∧Sl (fun k=>w0.heap.size≤k) w' a2 c2 t.out):=fun w' hb=>⟨hs1.below hb,hs2.below hb⟩
    subst he1
    obtain ⟨⟨⟨d0,d1,d2,d3⟩,d4⟩,⟨o0,o1⟩, -⟩:=HS.out _ hB
    clear hs1 hs2
    go_upto_region 7 with (fail)
    have hba:=(Below.refl w1.heap.size w1).alloc (Nat.le_refl _) (trO t a1 c1 a2 c2)
    have hX2:T2 (w1.alloc (trO t a1 c1 a2 c2)) w1.heap.size a1 c1 a2 c2 t:=t2_new w1
    have hB2:=hB.trans (hba.mono hz1)
    have hz2:w1.heap.size<(w1.alloc (trO t a1 c1 a2 c2)).heap.size:=by simp
    have hO2:=Ow.below hO hba
    obtain ⟨f1,f2, -⟩:=Mach.frErr_0 HST.out htg.out.1
    have hfo:Hid (h.m.frOut h.m.start t.inn=h.m.outsW h.m.start t.inn):=f2
    have hT2:=HT1.out _ hba
    have HR0:=mrun_any (HS.out _ hB2).2.2.1 hT2.1
    rw [f1] at HR0
    have HR:=Lib.hid HR0
    clear d0 d1 d2 d3 d4 o0 o1 hB hO hc1 hc2 f1 f2 HR0 hT2
    generalize w1.alloc (trO t a1 c1 a2 c2)=w2 at*
    obtain ⟨⟨⟨d0,d1,d2,d3⟩,d4⟩, -⟩:=HS.out _ hB2
    obtain ⟨x0,x1⟩:=hX2
    go_wp2_with fail
    refine (HR.out).mono ?_
    rintro e w3 ⟨a3,c3,q,rfl,hq,hqs,hb3⟩
    have hb13:=hba.trans (hb3.mono (by omega))
    have hB3:=hB2.trans (hb3.mono hB2.size)
    have hO3:=Ow.below hO2 hb3
    have hX3:T2 w3 w1.heap.size a1 c1 a2 c2 t:=T2.below ⟨x0,x1⟩ hb3 hz2
    have hqe:Hid (q=h.m.outsW h.m.start t.inn):=by unfold Hid;rw [hq.out,hfo.out]
    have hT3:=HT1.out _ hb13
    have hrd:Hid (h.m.refT t=(difN q t.out).map fun i=>t.inn.take (i+1)):=by unfold Hid;rw [hqe.out];exact Mach.refT_dif
    have HD0:=differ_any hqs hT3.2
    have hql:=hqs.le
    clear d0 d1 d2 d3 d4 x0 x1 HR hba hb3 hB2 hO2 hz2 hq hT3 hqs
    obtain ⟨x0,x1⟩:=hX3
    cases hdf:difN q t.out with
    |none=>
     rw [hdf] at HD0
     have HD:=Lib.hid HD0
     have hKn:Hid (K=h.m.refL (o.traces.take (k+1))):=by unfold Hid;rw [hstep.out,hrd.out,hdf];simpa using hK.out
     clear HD0 hdf
     go_wp2_with fail
     refine (HD.out).mono ?_
     rintro e w4 ⟨rfl,hd4⟩
     have hb4:=blw hd4 w3.heap.size
     have hB4:=hB3.trans (hb4.mono hB3.size)
     have hO4:=Ow.below hO3 hb4
     clear HD hd4 hb4 hO3 x0 x1
     go_wp2
     go_roundw
     case rel=>exact ⟨k+1,a',c',K,by omega,by go_num,rfl,hKn,hO4,hB4⟩
     case measure=>simp [intOf];omega
    |some i=>
     rw [hdf] at HD0
     have HD:Hid (Calls Tryz.prog 103 #[.slice a3 q.length c3,.slice a2 t.out.length c2] w3 fun e w'=>e= .returned (.tuple #[.int .i64 ((i:Nat):Int),.bool true])∧Hid (∃n,w'=w3.drewN n)):=HD0
     have hil:=(dif_lt hdf).2.1
     have hil2:i+1≤t.inn.length:=by rw [htg.out.2] at hil;omega
     have hKn:Hid (K++[t.inn.take (i+1)]=h.m.refL (o.traces.take (k+1))):=by unfold Hid;rw [hstep.out,hrd.out,hdf,hK.out];rfl
     clear HD0 hdf hil
     go_wp2_with fail
     refine (HD.out).mono ?_
     rintro e w4 ⟨rfl,hd4⟩
     have hb4:=blw hd4 w3.heap.size
     have hb14:=hb13.trans (hb4.mono (by have:=hb13.size;omega))
     have hB4:=hB3.trans (hb4.mono hB3.size)
     have hO4:=Ow.below hO3 hb4
     obtain ⟨x0,x1⟩:=T2.below ⟨x0,x1⟩ hb4 (lt_of_cell x0)
     have hrow:Hid (Sl (fun k=>w0.heap.size≤k) w4 a1 c1 (t.inn.take (i+1))):=(HT1.out _ hb14).1.taken hil2
     have hrl:Hid ((t.inn.take (i+1)).length=i+1):=by unfold Hid;rw [List.length_take];omega
     have hMo:∀k,(Value.slice a' K.length c').ownBlock=some k→w0.heap.size≤k:=fun k hk=>(hO4.lt k hk).1
     have hK12:K.length<1000000000000:=by have:=hKl.out;have:=hgn.out;omega
     have hz4:=hB4.size
     clear HD hd4 hb4 hO3
     go_wp2_with (at_builtin;refine wpList_push_row (B:=w0.heap.size) (r:=t.inn.take (i+1)) (ar:=a1) (cr:=c1) rfl rfl Tryz.underlying22 info_ints rfl rfl (hO4.alloc _) hMo (by rw [hrl.out];simp [go_sem]) (hrow.out.alloc _) hK12 (by simp;omega) ?_)
     intro a9 c9 K9 w9 hK9 hO9 hbk hgr
     have hB9:=(hB4.alloc hz4 (.cells #[.slice a1 (i+1) c1] 49)).grown hgr (by simp;omega) (fun k hk=>(hO4.lt k hk).1)
     have hKe:Hid (K9=h.m.refL (o.traces.take (k+1))):=by unfold Hid;rw [hK9.out,hKn.out]
     have hOe:=hO9.subM (M':=fun k=>w0.heap.size≤k) fun k _ hm=> .inl hm
     clear hbk hgr hK9 hO4 hB4 hO9 x0 x1 hMo hK12 hz4
     go_wp2
     go_roundw
     case rel=>exact ⟨k+1,a9,c9,K9,by omega,by go_num,rfl,hKe,hOe,hB9⟩
     case measure=>simp [intOf];omega
   have hKf:Hid (K=h.m.refL o.traces):=by unfold Hid;rw [hK.out,List.take_of_length_le (by omega)]
   have hKs:Sl (fun _=>False) w1 a' c' K:=(hO.subM (M':=fun _=>False) fun _ _ h=>h.elim).toSl fun _ _ h=>h
   have HL:=Lib.hid (least_any hKs)
   have hll:=hKs.le
   obtain ⟨⟨⟨d0,d1,d2,d3⟩,d4⟩,⟨o0,o1⟩, -⟩:=HS.out _ hB
   clear hO hKs
   go_wp2_with fail
   refine (HL.out).mono ?_
   rintro e w3 ⟨a3,c3,x,f,rfl,hx,hxs,hb3⟩
   have hB3:=hB.trans (hb3.mono hz1)
   have hFx:Hid (rfW h o=(x,f,0)):=by unfold Hid;rw [HF.out];unfold Mach.refW;rw [←hKf.out,←hx.out.1,←hx.out.2]
   have hxl:Hid (x.length<1000000000000):=by
    unfold Hid
    rw [hx.out.1]
    by_cases hke:K=[]
    ·rw [hke];simp [lstW_nil]
    obtain ⟨y,hy1,hy2⟩:=lstW_some hke
    rw [hy1]
    rw [hKf.out] at hy2
    unfold Mach.refL at hy2
    obtain ⟨t,ht,hy3⟩:=List.mem_filterMap.1 hy2
    unfold Mach.refT at hy3
    split at hy3
    ·simp only [Option.some.injEq] at hy3
     have:=(endW_ok (hgt.out t ht).1).2
     rw [←hy3]
     show (List.take _ _).length<_
     rw [List.length_take];omega
    simp at hy3
   have HCl:=Lib.hid (clone_any hxs hxl.out)
   have hxl2:=hxs.le
   clear HL hb3 hB d0 d1 d2 d3 d4 o0 o1 hxs
   go_wp2_with fail
   refine (HCl.out).mono ?_
   rintro e w4 ⟨a4,c4,y,rfl,hy,hys,hb4⟩
   have hBf:=(HS.out _ (hB3.trans (hb4.mono hB3.size))).2.2.2.2
   have hFy:Hid (rfW h o=(y,f,0)):=by unfold Hid;rw [hFx.out,hy.out]
   have hzf:=hB3.size
   have hSf:=hys.anti (M':=fun k=>k<w.heap.size) fun k _ hm=>by show k<_;omega
   clear HCl hb4 hys
   go_wp2
   exact bodyPost_ret (v:= .tuple #[.slice a4 y.length c4,.bool f,.int .i64 0]) (by simp [results,Tryz.results50,go_sem]) rfl ⟨a4,c4,y,f,0,rfl,hFy,hSf,hBf⟩
 have hinb:(h.m.inputs !=o.inputs)=true:=by simp [hin]
 have HF:Hid (rfW h o=([],false,15)):=by unfold Hid rfW;rw [if_pos hin]
 obtain ⟨⟨⟨d0,d1,d2,d3⟩,d4⟩,⟨o0,o1⟩, -, -,hBf⟩:=HS.out _ hb0
 clear hin
 go_wp2
 exact bodyPost_ret (v:= .tuple #[.slice none 0 0,.bool false,.int .i64 15]) (by simp [results,Tryz.results50,go_sem]) rfl ⟨none,0,[],false,15,rfl,HF,Sl.nil _ _ _ (by unfold maxLen;omega),hBf⟩
end
def NxR (h:Hy) (o:Ob) (l:List (List Int)) (w:World) (e:Ending) (w':World):Prop:=∃(aL:Option Addr) (cL:Nat) (L:List (List Int)) (aX:Option Addr) (cX:Nat) (x:List Int) (dn:Bool) (er:Int),e= .returned (.tuple #[.slice aL L.length cL,.slice aX x.length cX,.bool dn,.int .i64 er])∧Hid (tnW h o l=(L,x,dn,er))∧
 Sl (fun k=>k<w.heap.size) w' aL cL L∧Sl (fun k=>k<w.heap.size) w' aX cX x∧Below w.heap.size w w'
def openW (o:Ob) (l:List (List Int)):List (List Int):=l.filter fun v=> !o.known v
theorem openW_step {o:Ob} {l:List (List Int)} {k:Nat} {v:List Int} (h:l[k]? =some v):openW o (l.take (k+1))=openW o (l.take k)++(if o.known v=true then [] else [v]):=by
 unfold openW
 rw [List.take_add_one,h,List.filter_append]
 congr 1
 cases hv:o.known v<;>simp [hv]
theorem Ob.good_lens {o:Ob} (h:o.good):o.lens:=fun t ht=>by
 have h1:=h.2 t ht
 have h2:=(endW_ok (m:=⟨o.inputs,0,[],[]⟩) h1.1).2
 omega
section
variable {M M' M'':Nat→Prop} {w:World} {an ao ac a b:Option Addr} {cn co cc c d:Nat} {h:Hy} {o:Ob} {l:List (List Int)}
theorem tnext_any (hh:Hp M w an cn ao co ac cc h) (ho:Os M' w a c o) (hl:Sl M'' w b d l) (ok:Hid h.m.Ok) (hg:Hid o.good) (hsm:Hid (Small9 l)):
    Calls Tryz.prog 20 #[hyV h an cn ao co ac cc,obV o a c,.slice b l.length d] w (NxR h o l w):=by
 obtain ⟨hx0,hy0,hm0,ho0,hB0,hz0⟩:=rf_start hh ho
 have hh0:=hh.below hB0
 have hl0:Sl (fun k=>w.heap.size+2≤k) ((w.alloc (hyO h an cn ao co ac cc)).alloc (obO o a c)) b d l:=by have h:=(hl.below hB0).ext (M':=fun k=>((w.alloc (hyO h an cn ao co ac cc)).alloc (obO o a c)).heap.size≤k) (Ext.sub_only fun k hk hm=>by omega);rw [hz0] at h;exact h
 have l1:=hh.m.next.le
 have l2:=hh.m.out.le
 have l3:=hh.acc.le
 have l4:=ho.traces.le
 have l5:=hl.le
 clear hh ho hl
 go_enter Tryz.func20,Tryz.ntmps20
 go_upto_region 1 with (fail)
 generalize (w.alloc (hyO h an cn ao co ac cc)).alloc (obO o a c)=w0 at*
 rw [←hz0] at ho0 hl0
 have HS:Hid (∀w',Below w0.heap.size w0 w'→H5 w' w.heap.size an cn ao co ac cc h∧O2 w' (w.heap.size+1) a c o∧Hp M w' an cn ao co ac cc h∧Os (fun k=>w0.heap.size≤k) w' a c o∧Sl (fun k=>w0.heap.size≤k) w' b d l∧Below w.heap.size w w'):=fun w' hb=>
  ⟨hx0.below hb (by omega),hy0.below hb (by omega),hh0.below hb,ho0.below hb,hl0.below hb,hB0.trans (hb.mono (by omega))⟩
 have hb0:=Below.refl w0.heap.size w0
 have hzw:w.heap.size+2≤w0.heap.size:=by omega
 have hlens:Hid o.lens:=Ob.good_lens hg.out
 clear hx0 hy0 hm0 ho0 hB0 hz0 hh0 hl0
 have HRf:=Lib.hid (refuted_any (HS.out _ hb0).2.2.1 (HS.out _ hb0).2.2.2.1 ok hg)
 obtain ⟨⟨⟨d0,d1,d2,d3⟩,d4⟩,⟨o0,o1⟩, -⟩:=HS.out _ hb0
 go_wp2_with fail
 refine (HRf.out).mono ?_
 rintro e w1 ⟨a1,c1,x,f,er,rfl,hx,hxs,hb1⟩
 have hz1:=hb1.size
 clear HRf d0 d1 d2 d3 d4 o0 o1 hb0
 have hX1:=Lib.hid (hxs.anti (M':=fun k=>k<w.heap.size) fun k _ hm=>by show k<_;omega)
 have hxl:=hxs.le
 clear hxs
 by_cases her:er=0
 ·have herb:(er !=0)=false:=by simp [her]
  subst her
  cases f with
  |true=>
   have hF:Hid (tnW h o l=([],x,false,0)):=by unfold Hid tnW;rw [hx.out];rfl
   have hBf:=(HS.out _ hb1).2.2.2.2.2
   go_wp2
   exact bodyPost_ret (v:= .tuple #[.slice none 0 0,.slice a1 x.length c1,.bool false,.int .i64 0]) (by simp [results,Tryz.results20,go_sem]) rfl ⟨none,0,[],a1,c1,x,false,0,rfl,hF,Sl.nil _ _ _ (by unfold maxLen;omega),hX1.out,hBf⟩
  |false=>
   have hF:Hid (tnW h o l=(maxW (openW o l),[],decide ((maxW (openW o l)).length=0),0)):=by unfold Hid tnW;rw [hx.out];rfl
   have hK0:Hid (([]:List (List Int))=openW o (l.take 0)):=rfl
   have hO0:Ow (α:=List Int) w0.heap.size (fun k=>w0.heap.size≤k) w1 49 (.slice none 0 0) []:=Ow.nil
   have hzz:=hb1.size
   clear hx hX1 hxl
   go_wp2
   go_loopw [13,34] (fun v i wr=>∃(k:Nat) (a':Option Addr) (c':Nat) (K:List (List Int)),k≤l.length∧i= .int .i64 k∧v= .slice a' K.length c'∧Hid (K=openW o (l.take k))∧Ow w0.heap.size (fun k=>w0.heap.size≤k) wr 49 (.slice a' K.length c') K∧Below w0.heap.size w0 wr) (fun _ i _=>l.length-(intOf i).toNat)
   case atStart=>exact ⟨0,none,0,[],by omega,rfl,rfl,hK0,hO0,hb1⟩
   case round=>
    clear hK0 hO0 hb1 hz1
    obtain ⟨k,a',c',K,hk,rfl,rfl,hK,hO,hB⟩:=hrel
    obtain ⟨w2,rfl⟩:∃w2:World,w2=wr:=⟨_,rfl⟩
    have hz2:=hB.size
    have hKl:Hid (K.length≤l.length):=by
     unfold Hid;rw [hK.out];unfold openW
     exact Nat.le_trans (List.length_filter_le _ _) (by rw [List.length_take];omega)
    by_cases hlt:k<l.length
    ·have hSo:=HS.out _ hB
     obtain ⟨bL,oL,ax,v,cx,he1,hvc,hv,hvs⟩:=hSo.2.2.2.2.1.at_row hlt
     have hvl:=hvs.le
     have HA0:=ans_any hSo.2.2.2.1 hvs hlens
     have hstep:=openW_step (o:=o) hv.out
     have HVs:=Lib.hid hvs
     subst he1
     cases hkn:o.known v with
     |true=>
      rw [hkn] at HA0
      have HA:=Lib.hid HA0
      obtain ⟨-,⟨o0,o1⟩, -⟩:=hSo
      clear HA0 hvs
      go_wp2_with fail
      refine (HA.out).mono ?_
      rintro e w3 ⟨a3,c3,y,rfl, -,hys,hb3⟩
      have hyl:=hys.le
      have hB3:=hB.trans (hb3.mono hz2)
      have hO3:=Ow.below hO hb3
      have hvc3:=(hb3.cell (p:=⟨bL,oL+k,none⟩) (lt_of_cell hvc)).trans hvc
      clear HA hys hB hO o0 o1 hvc
      have hKn:Hid (K=openW o (l.take (k+1))):=by unfold Hid;rw [hstep,hK.out,hkn,if_pos rfl,List.append_nil]
      clear hb3 hK hstep hkn HVs
      go_wp2
      go_roundw
      case rel=>exact ⟨k+1,a',c',K,by omega,by go_num,rfl,hKn,hO3,hB3⟩
      case measure=>simp [intOf];omega
     |false=>
      rw [hkn] at HA0
      have HA:=Lib.hid HA0
      obtain ⟨-,⟨o0,o1⟩, -⟩:=hSo
      clear HA0 hvs
      go_wp2_with fail
      refine (HA.out).mono ?_
      rintro e w3 ⟨a3,c3,y,rfl, -,hys,hb3⟩
      have hyl:=hys.le
      have hB3:=hB.trans (hb3.mono hz2)
      have hO3:=Ow.below hO hb3
      have hvc3:=(hb3.cell (p:=⟨bL,oL+k,none⟩) (lt_of_cell hvc)).trans hvc
      clear HA hys hB hO o0 o1 hvc
      have hKn:Hid (K++[v]=openW o (l.take (k+1))):=by unfold Hid;rw [hstep,hK.out,hkn,if_neg (by simp)]
      have hMo:∀k,(Value.slice a' K.length c').ownBlock=some k→w0.heap.size≤k:=fun k hk=>(hO3.lt k hk).1
      have hK12:K.length<1000000000000:=by have:=hKl.out;have:=hsm.out.1;omega
      have hvs3:=HVs.out.below hb3
      have hz3:=hB3.size
      clear hb3 hK hstep hkn HVs
      go_wp2_with (at_builtin;refine wpList_push_row (B:=w0.heap.size) (r:=v) (ar:=ax) (cr:=cx) rfl rfl Tryz.underlying22 info_ints rfl rfl (hO3.alloc _) hMo (by simp [go_sem]) (hvs3.alloc _) hK12 (by simp;omega) ?_)
      intro a9 c9 K9 w9 hK9 hO9 hbk hgr
      have hB9:=(hB3.alloc hz3 (.cells #[.slice ax v.length cx] 49)).grown hgr (by simp;omega) (fun k hk=>(hO3.lt k hk).1)
      have hKe:Hid (K9=openW o (l.take (k+1))):=by unfold Hid;rw [hK9.out,hKn.out]
      have hOe:=hO9.subM (M':=fun k=>w0.heap.size≤k) fun k _ hm=> .inl hm
      clear hbk hgr hK9 hO3 hB3 hO9 hMo hK12 hz3 hvs3
      go_wp2
      go_roundw
      case rel=>exact ⟨k+1,a9,c9,K9,by omega,by go_num,rfl,hKe,hOe,hB9⟩
      case measure=>simp [intOf];omega
    have hKf:Hid (K=openW o l):=by unfold Hid;rw [hK.out,List.take_of_length_le (by omega)]
    have hKs:Sl (fun _=>False) w2 a' c' K:=(hO.subM (M':=fun _=>False) fun _ _ h=>h.elim).toSl fun _ _ h=>h
    have hsK:Hid (Small9 K):=by
     have h9:=hsm.out
     refine ⟨by have:=hKl.out;have:=h9.1;omega,fun r hr=> ?_⟩
     rw [hKf.out] at hr
     exact h9.2 r (List.mem_filter.1 hr).1
    have HMx:=Lib.hid (max_any hKs hsK)
    have hll:=hKs.le
    obtain ⟨⟨⟨d0,d1,d2,d3⟩,d4⟩,⟨o0,o1⟩, -⟩:=HS.out _ hB
    clear hO hKs
    go_wp2_with fail
    refine (HMx.out).mono ?_
    rintro e w4 ⟨a4,c4,L,rfl,hL,hLs,hb4⟩
    have hBf:=(HS.out _ (hB.trans (hb4.mono hz2))).2.2.2.2.2
    have hSf:=hLs.anti (M':=fun k=>k<w.heap.size) fun k _ hm=>by show k<_;omega
    have hLl:=hLs.le
    have hFf:Hid (tnW h o l=(L,[],decide (L.length=0),0)):=by unfold Hid;rw [hF.out,hL.out,hKf.out]
    clear HMx hb4 hLs d0 d1 d2 d3 d4 o0 o1
    by_cases hL0:L.length=0
    ·have hL0b:(((L.length:Nat):Int)==0)=true:=by rw [hL0];rfl
     have hFg:Hid (tnW h o l=(L,[],true,0)):=by unfold Hid;rw [hFf.out,decide_eq_true hL0]
     clear hL0
     go_wp2
     exact bodyPost_ret (v:= .tuple #[.slice a4 L.length c4,.slice none 0 0,.bool true,.int .i64 0]) (by simp [results,Tryz.results20,go_sem]) rfl ⟨a4,c4,L,none,0,[],true,0,rfl,hFg,hSf,Sl.nil _ _ _ (by unfold maxLen;omega),hBf⟩
    have hL0b:(((L.length:Nat):Int)==0)=false:=by simp;exact fun e=>hL0 (by rw [e];rfl)
    have hFg:Hid (tnW h o l=(L,[],false,0)):=by unfold Hid;rw [hFf.out,decide_eq_false hL0]
    clear hL0
    go_wp2
    exact bodyPost_ret (v:= .tuple #[.slice a4 L.length c4,.slice none 0 0,.bool false,.int .i64 0]) (by simp [results,Tryz.results20,go_sem]) rfl ⟨a4,c4,L,none,0,[],false,0,rfl,hFg,hSf,Sl.nil _ _ _ (by unfold maxLen;omega),hBf⟩
 have herb:(er !=0)=true:=by simp [her]
 have hx0:Hid (x=[]∧f=false∧tnW h o l=([],[],false,er)):=by
  have h1:=hx.out
  have h2:tnW h o l=([],[],false,er):=by unfold tnW;rw [h1,if_pos (by simpa using her)]
  unfold rfW at h1
  split at h1
  ·simp only [Prod.mk.injEq] at h1
   exact ⟨h1.1.symm,h1.2.1.symm,h2⟩
  simp only [Prod.mk.injEq] at h1
  exact absurd h1.2.2.symm her
 obtain ⟨rfl,rfl,hF0⟩:=hx0.out
 have hF:=Lib.hid hF0
 have hBf:=(HS.out _ hb1).2.2.2.2.2
 clear her hF0 hx0 hx
 go_wp2
 exact bodyPost_ret (v:= .tuple #[.slice none 0 0,.slice none 0 0,.bool false,.int .i64 er]) (by simp [results,Tryz.results20,go_sem]) rfl ⟨none,0,[],none,0,[],false,er,rfl,hF,Sl.nil _ _ _ (by unfold maxLen;omega),Sl.nil _ _ _ (by unfold maxLen;omega),hBf⟩
end
end Go.Proofs.YtjagagpcjpcjjaaGreat
namespace Go.Proofs.YtjagagpcjpcjjaaGreat
def gateM:Mach:=⟨2,0,[[1,0],[1,0]],[[1,0],[1,2]]⟩
theorem gateM_err:gateM.err=0:=by decide
theorem gateM_mof:gateM.minOf=gateM:=by decide
theorem gateM_upt:uptW gateM.inputs (0+1)=([[],[0],[1]],0):=by decide
theorem gateM_cov:gateM.covW.map Pc.word=[[],[0]]:=by decide
theorem gateM_ch:gateM.chW=[[1]]:=by decide
theorem gateM_ws:gateM.wsW 0=([[1,1],[0,0,1],[0,1,1]],0):=by
 unfold Mach.wsW
 rw [if_neg (by simp [gateM_err]),if_neg (by omega),gateM_upt,if_neg (by simp),gateM_mof,gateM_ch,gateM_cov]
 decide
theorem gateM_tw:gateM.twW ⟨1,0,0,0,0⟩=([[1,1],[0,0,1],[0,1,1]],0):=by
 unfold Mach.twW
 rw [if_neg (by simp [gateM_err]),if_neg (by decide),if_pos rfl]
 exact gateM_ws
theorem gate_nx:tnW ⟨gateM,[[],[0]]⟩ ⟨2,[⟨[1,1],[0,0]⟩]⟩ [[1,1],[0,0,1],[0,1,1]]=([[0,0,1],[0,1,1]],[],false,0):=by decide
theorem gate_no:Stg.err ⟨0,0,0,0,0⟩=2:=by decide
end Go.Proofs.YtjagagpcjpcjjaaGreat
namespace Go.Proofs.YtjagagpcjpcjjaaGreat
open Go.RowKit
abbrev gate0 (w:World):World:=w.alloc (.cells #[.int .i64 2,.int .i64 0,.slice (some ⟨w.heap.size+1+1+1,0,none⟩) 2 2,.slice (some ⟨w.heap.size+1+1+1+1+1+1,0,none⟩) 2 2] 24)
theorem gate0_sz (w:World):(gate0 w).heap.size=w.heap.size+1:=by simp [gate0]
theorem gateW (w:World):Ma (fun k=>k<w.heap.size) (qG (gate0 w)) (some ⟨w.heap.size+1+1+1,0,none⟩) 2 (some ⟨w.heap.size+1+1+1+1+1+1,0,none⟩) 2 gateM∧Below w.heap.size w (qG (gate0 w))∧
    C4 (qG (gate0 w)) w.heap.size (some ⟨w.heap.size+1+1+1,0,none⟩) 2 (some ⟨w.heap.size+1+1+1+1+1+1,0,none⟩) 2 gateM:=by
 obtain ⟨⟨h1,h2⟩,h3⟩:=qG_sl (gate0 w)
 have hsz:=gate0_sz w
 have hb:Below w.heap.size w (gate0 w):=(Below.refl _ _).alloc (Nat.le_refl _) _
 have h4:C4 (gate0 w) w.heap.size (some ⟨w.heap.size+1+1+1,0,none⟩) 2 (some ⟨w.heap.size+1+1+1+1+1+1,0,none⟩) 2 gateM:=c4_new (an:=some ⟨w.heap.size+1+1+1,0,none⟩) (cn:=2) (ao:=some ⟨w.heap.size+1+1+1+1+1+1,0,none⟩) (co:=2) (m:=gateM) w
 have e2:Below (gate0 w).heap.size (gate0 w) (qG (gate0 w)):=h3
 have h5:=h4.below e2 (by rw [hsz];omega)
 have h6:=hb.trans (e2.mono (by rw [hsz];omega))
 rw [hsz] at h1 h2
 exact ⟨⟨by unfold i64 gateM;decide,by unfold i64 gateM;decide,h1.anti (fun k _ hk=>by show k<_;omega),h2.anti (fun k _ hk=>by show k<_;omega)⟩,h6,h5⟩
theorem gate34_any {w:World}:Calls Tryz.prog 32 #[] w fun e w'=>∃(p q:Option Addr),e= .returned (.agg #[.int .i64 2,.int .i64 0,.slice p 2 2,.slice q 2 2])∧Ma (fun k=>k<w.heap.size) w' p 2 q 2 gateM∧Below w.heap.size w w':=by
 obtain ⟨h1,h2,h3⟩:=gateW w
 go_enter Tryz.func32,Tryz.ntmps32
 go_wp2
 obtain ⟨W,hW⟩:∃W,W=qG (gate0 w):=⟨_,rfl⟩
 have hW2:=hW
 unfold qG gate0 at hW2
 simp only [gate0_sz] at hW2
 rw [←hW] at h1 h2 h3
 rw [←hW2]
 have d0:W.cell? ⟨w.heap.size,0,none⟩=some (.int .i64 2):=h3.1
 have d1:W.cell? ⟨w.heap.size,1,none⟩=some (.int .i64 0):=h3.2.1
 have d2:W.cell? ⟨w.heap.size,2,none⟩=some (.slice (some ⟨w.heap.size+1+1+1,0,none⟩) 2 2):=h3.2.2.1
 have d3:W.cell? ⟨w.heap.size,3,none⟩=some (.slice (some ⟨w.heap.size+1+1+1+1+1+1,0,none⟩) 2 2):=h3.2.2.2
 exact bodyPost_ret (v:= .agg #[.int .i64 2,.int .i64 0,.slice (some ⟨w.heap.size+1+1+1,0,none⟩) 2 2,.slice (some ⟨w.heap.size+1+1+1+1+1+1,0,none⟩) 2 2]) (by simp [results,Tryz.results32,go_sem,d0,d1,d2,d3]) rfl ⟨_,_,rfl,h1,h2⟩
abbrev exB (w:World) (p q:Option Addr):World:=(qH w).alloc (.cells #[.int .i64 2,.int .i64 0,.slice p 2 2,.slice q 2 2,.slice (some ⟨w.heap.size+1,0,none⟩) 2 2] 40)
abbrev exC (w:World) (p q:Option Addr):World:=(qO (exB w p q)).alloc (.cells #[.int .i64 2,.slice (some ⟨w.heap.size+1+1+1+1+1,0,none⟩) 1 1] 43)
theorem exB_sz (w:World) (p q:Option Addr):(exB w p q).heap.size=w.heap.size+1+1+1:=by simp [exB,qH]
theorem exW (w:World) (p q:Option Addr):Sl (fun k=>k<w.heap.size) (exC w p q) (some ⟨w.heap.size+1,0,none⟩) 2 ([[],[0]]:List (List Int))∧Sl (fun k=>k<w.heap.size) (exC w p q) (some ⟨w.heap.size+1+1+1+1+1,0,none⟩) 1 ([⟨[1,1],[0,0]⟩]:List Tr)∧Below w.heap.size w (exC w p q):=by
 obtain ⟨h1,b1⟩:=qH_sl w
 have b2:Below (qH w).heap.size (qH w) (exB w p q):=(Below.refl _ _).alloc (Nat.le_refl _) _
 obtain ⟨h2,b3⟩:=qO_sl (exB w p q)
 have b4:Below (qO (exB w p q)).heap.size (qO (exB w p q)) (exC w p q):=(Below.refl _ _).alloc (Nat.le_refl _) _
 have b5:=b3.trans (b4.mono b3.size)
 have b6:=b2.trans (b5.mono b2.size)
 have hsz:=exB_sz w p q
 have h3:=h2.below b4
 have h4:=h3.anti (M':=fun k=>k<w.heap.size) fun k _ hk=>by show k<_;rw [hsz];omega
 rw [hsz] at h4
 exact ⟨h1.below b6,h4,b1.trans (b6.mono b1.size)⟩
section
variable {M M' M'':Nat→Prop} {w:World} {p q:Option Addr}
theorem gate_nxt {A O:Addr} {aL:Option Addr} {cL:Nat} {L:List (List Int)} (hm:Ma M w p 2 q 2 gateM) (ha:Sl M w (some A) 2 ([[],[0]]:List (List Int))) (ho:Sl M' w (some O) 1 ([⟨[1,1],[0,0]⟩]:List Tr)) (hl:Sl M'' w aL cL L) (hL:Hid (L=[[1,1],[0,0,1],[0,1,1]])):
    Calls Tryz.prog 20 #[.agg #[.int .i64 2,.int .i64 0,.slice p 2 2,.slice q 2 2,.slice (some A) 2 2],.agg #[.int .i64 2,.slice (some O) 1 1],.slice aL L.length cL] w fun e w'=>∃(aN:Option Addr) (cN:Nat) (N:List (List Int)) (aX:Option Addr) (cX:Nat),e= .returned (.tuple #[.slice aN N.length cN,.slice aX 0 cX,.bool false,.int .i64 0])∧Hid (N=[[0,0,1],[0,1,1]])∧Sl (fun k=>k<w.heap.size) w' aN cN N∧Below w.heap.size w w':=by
 have hh:Hp M w p 2 q 2 (some A) 2 (⟨gateM,[[],[0]]⟩:Hy):=⟨hm,ha⟩
 have hob:Os M' w (some O) 1 (⟨2,[⟨[1,1],[0,0]⟩]⟩:Ob):=⟨by show i64 2;unfold i64;decide,ho⟩
 have ok:Hid (⟨gateM,[[],[0]]⟩:Hy).m.Ok:=Mach.ok_of_err gateM gateM_err
 have hg:Hid (⟨2,[⟨[1,1],[0,0]⟩]⟩:Ob).good:=⟨by decide,fun t ht=>by
  have ht:t=⟨[1,1],[0,0]⟩:=by simpa using ht
  subst ht
  exact ⟨by decide,rfl⟩⟩
 have hs:Hid (Small9 L):=by
  unfold Hid;rw [hL.out]
  exact ⟨by decide,fun r hr=>by simp at hr;rcases hr with rfl|rfl|rfl<;>decide⟩
 refine (tnext_any hh hob hl ok hg hs).mono ?_
 rintro e w' ⟨aN,cN,N,aX,cX,x,dn,er,h1,h2,h3,h4,h5⟩
 have h:=h2.out
 rw [hL.out,gate_nx] at h
 simp only [Prod.mk.injEq] at h
 obtain ⟨e1,e2,e3,e4⟩:=h
 exact ⟨aN,cN,N,aX,cX,by rw [h1,←e3,←e4,←e2];rfl,e1.symm,h3,h5⟩
theorem valid_no:Calls Tryz.prog 7 #[.agg #[.int .i64 0,.int .i64 0,.int .u64 0,.int .i64 0,.int .i64 0]] w fun e w'=>e= .returned (.int .i64 2)∧Below w.heap.size w w':=
 (svalid_any (w:=w) ⟨0,0,0,0,0⟩).mono fun e w' h=>⟨by rw [h.1,gate_no],h.2⟩
theorem lists_t {a b:Option Addr} {c d:Nat} {xs ys:List (List Int)} (h1:Sl M w a c xs) (h2:Sl M' w b d ys) (h:xs=ys):Calls Tryz.prog 14 #[.slice a xs.length c,.slice b ys.length d] w fun e w'=>e= .returned (.bool true)∧∃n,w'=w.drewN n:=by
 have h3:=lists_any (h1.anti (M':=fun _=>False) fun _ _ h=>h.elim) (h2.anti (M':=fun _=>False) fun _ _ h=>h.elim)
 rw [decide_eq_true h] at h3
 exact h3
theorem gate_tw (hm:Ma M w p 2 q 2 gateM):Calls Tryz.prog 12 #[.agg #[.int .i64 2,.int .i64 0,.slice p 2 2,.slice q 2 2],.agg #[.int .i64 1,.int .i64 0,.int .u64 0,.int .i64 0,.int .i64 0]] w fun e w'=>∃(a:Option Addr) (c:Nat) (L:List (List Int)),e= .returned (.tuple #[.slice a L.length c,.int .i64 0])∧Hid (L=[[1,1],[0,0,1],[0,1,1]])∧Sl (fun k=>k<w.heap.size) w' a c L∧Below w.heap.size w w':=
 (twords1_any hm ⟨1,0,0,0,0⟩ (Lib.hid rfl)).mono fun e w' ⟨a,c,L,e1,h1,h2,h3,h4⟩=>by
  have h:=h2.out
  rw [gateM_tw] at h
  simp only [Prod.mk.injEq] at h
  exact ⟨a,c,L,by rw [h1,←h.2],h.1.symm,h3,h4⟩
end
theorem awake34_any {w:World}:Calls Tryz.prog 11 #[] w fun e w'=>e= .returned (.bool true)∧Below w.heap.size w w':=by
 go_enter Tryz.func11,Tryz.ntmps11
 go_wp2_with fail
 refine gate34_any.mono ?_
 rintro e w1 ⟨p,q,rfl,hm1,hb1⟩
 have HT:=Lib.hid (gate_tw hm1)
 go_wp2_with fail
 refine (HT.out).mono ?_
 rintro e w2 ⟨aL,cL,L,rfl,hL,hLs,hb2⟩
 have hB2:=hb1.trans (hb2.mono hb1.size)
 have HL:=Lib.hid (hLs.anti (M':=fun _=>False) fun _ _ h=>h.elim)
 have hLl:=hLs.le
 clear HT hm1 hb1 hb2 hLs
 go_wp2_with fail
 refine gate34_any.mono ?_
 rintro e w3 ⟨p3,q3,rfl,hm3,hb3⟩
 have hB3:=hB2.trans (hb3.mono hB2.size)
 have HL3:=Lib.hid (HL.out.below hb3)
 obtain ⟨hA,hO,hbC⟩:=exW w3 p3 q3
 have HN:=Lib.hid (gate_nxt (hm3.below hbC) (hA.anti (M':=fun k=>k<w2.heap.size) fun k _ hk=>by have:=hb3.size;show k<_;omega) hO (HL3.out.below hbC) hL)
 have HL4:=Lib.hid (HL3.out.below hbC)
 have hB4:=hB3.trans (hbC.mono hB3.size)
 clear hB2 hb3 HL HL3 hB3 hA hO hbC hm3
 go_wp2_with fail
 obtain ⟨w4,hw4⟩:∃W,W=exC w3 p3 q3:=⟨_,rfl⟩
 have hw5:=hw4
 unfold exC qO at hw5
 simp only [exB_sz] at hw5
 unfold exB qH at hw5
 rw [←hw5]
 rw [←hw4] at HN HL4 hB4
 clear hw4 hw5
 refine (HN.out).mono ?_
 rintro e w5 ⟨aN,cN,N,aX,cX,rfl,hN,hNs,hb5⟩
 have hB5:=hB4.trans (hb5.mono hB4.size)
 have HL5:=Lib.hid (HL4.out.below hb5)
 have HN5:=Lib.hid (hNs.anti (M':=fun _=>False) fun _ _ h=>h.elim)
 have hNl:=hNs.le
 clear HN HL4 hB4 hb5 hNs
 obtain ⟨hq,hbq⟩:=qL_sl w5
 have HA:=Lib.hid (lists_t (HL5.out.below hbq) hq hL.out)
 have hB6:=hB5.trans (hbq.mono hB5.size)
 have HN6:=Lib.hid (HN5.out.below hbq)
 clear HL5 HN5 hB5 hbq hq
 go_wp2_with fail
 refine (HA.out).mono ?_
 rintro e w6 ⟨rfl,n6,hw6⟩
 obtain ⟨w7,hw7⟩:∃W,W=qL w5:=⟨_,rfl⟩
 rw [←hw7] at hw6 hB6 HN6
 subst hw6
 have hB8:=bl_drewN hB6 n6
 have HN8:=Lib.hid (HN6.out.drewN n6)
 clear HA hB6 HN6 hw7
 generalize w7.drewN n6=w8 at*
 obtain ⟨hq,hbq⟩:=qN_sl w8
 have HA:=Lib.hid (lists_t (HN8.out.below hbq) hq hN.out)
 have hB9:=hB8.trans (hbq.mono hB8.size)
 clear HN8 hB8 hbq hq
 go_wp2_with fail
 refine (HA.out).mono ?_
 rintro e w9 ⟨rfl,n9,hw9⟩
 obtain ⟨w10,hw10⟩:∃W,W=qN w8:=⟨_,rfl⟩
 rw [←hw10] at hw9 hB9
 subst hw9
 have hB10:=bl_drewN hB9 n9
 clear HA hB9 hw10
 generalize w10.drewN n9=w11 at*
 have HV:=Lib.hid (valid_no (w:=w11))
 go_wp2_with fail
 refine (HV.out).mono ?_
 rintro e w12 ⟨rfl,hb12⟩
 have hBf:=hB10.trans (hb12.mono hB10.size)
 go_wp2
 go_ret
 exact ⟨rfl,hBf⟩
def sm34 (m:Mach) (s:Stg):Bool:=decide (m.next.length≤7∧m.inputs≤4∧s.extra≤2∧s.count≤100∧s.len≤100)
section
variable {M:Nat→Prop} {w:World} {an ao ac a:Option Addr} {cn co cc c:Nat} {m:Mach} {h:Hy} {o:Ob}
theorem sm34_any (hm:Ma M w an cn ao co m) (s:Stg):Calls Tryz.prog 9 #[maV m an cn ao co,stV s] w fun e w'=>e= .returned (.bool (sm34 m s))∧Below w.heap.size w w':=by
 have hB0:=((Below.refl w.heap.size w).alloc (Nat.le_refl _) (maO m an cn ao co)).alloc (by simp) (stO s)
 have l1:=hm.next.le
 have l2:=hm.out.le
 clear hm
 by_cases h1:¬m.next.length≤7
 ·have h1b:decide ((m.next.length:Int)≤7)=false:=by simp;omega
  have HV:Hid (sm34 m s=false):=by unfold Hid sm34;rw [decide_eq_false (by omega)]
  go_enter Tryz.func9,Tryz.ntmps9
  go_wp2
  go_ret
  exact ⟨by rw [HV.out];rfl,hB0⟩
 have h1b:decide ((m.next.length:Int)≤7)=true:=by simp;omega
 by_cases h2:¬m.inputs≤4
 ·have h2b:decide ((m.inputs:Int)≤4)=false:=by simp;omega
  have HV:Hid (sm34 m s=false):=by unfold Hid sm34;rw [decide_eq_false (by omega)]
  go_enter Tryz.func9,Tryz.ntmps9
  go_wp2
  go_ret
  exact ⟨by rw [HV.out];rfl,hB0⟩
 have h2b:decide ((m.inputs:Int)≤4)=true:=by simp;omega
 by_cases h3:¬s.extra≤2
 ·have h3b:decide ((s.extra:Int)≤2)=false:=by simp;omega
  have HV:Hid (sm34 m s=false):=by unfold Hid sm34;rw [decide_eq_false (by omega)]
  go_enter Tryz.func9,Tryz.ntmps9
  go_wp2
  go_ret
  exact ⟨by rw [HV.out];rfl,hB0⟩
 have h3b:decide ((s.extra:Int)≤2)=true:=by simp;omega
 by_cases h4:¬s.count≤100
 ·have h4b:decide ((s.count:Int)≤100)=false:=by simp;omega
  have HV:Hid (sm34 m s=false):=by unfold Hid sm34;rw [decide_eq_false (by omega)]
  go_enter Tryz.func9,Tryz.ntmps9
  go_wp2
  go_ret
  exact ⟨by rw [HV.out];rfl,hB0⟩
 have h4b:decide ((s.count:Int)≤100)=true:=by simp;omega
 by_cases h5:¬s.len≤100
 ·have h5b:decide ((s.len:Int)≤100)=false:=by simp;omega
  have HV:Hid (sm34 m s=false):=by unfold Hid sm34;rw [decide_eq_false (by omega)]
  go_enter Tryz.func9,Tryz.ntmps9
  go_wp2
  go_ret
  exact ⟨by rw [HV.out];rfl,hB0⟩
 have h5b:decide ((s.len:Int)≤100)=true:=by simp;omega
 have HV:Hid (sm34 m s=true):=by unfold Hid sm34;rw [decide_eq_true (by omega)]
 go_enter Tryz.func9,Tryz.ntmps9
 go_wp2
 go_ret
 exact ⟨by rw [HV.out];rfl,hB0⟩
end
end Go.Proofs.YtjagagpcjpcjjaaGreat
namespace Go.Proofs.YtjagagpcjpcjjaaGreat
theorem Mach.sids_small {m:Mach} (hn:m.next.length<1000):∀r∈m.sids,Sm6 r:=fun r hr=>by
 unfold Mach.sids at hr
 obtain ⟨i, -,rfl⟩:=List.mem_map.1 hr
 have h:Sm6 ((if False then [[]] else [])++m.idO (i:Int) (allS m.next.length)):=small_id (W:=[]) (by simp) (by rw [allS_len];exact hn) hn
 rw [if_neg id,List.nil_append] at h
 exact ⟨Nat.lt_of_le_of_lt (srt_len _) h.1,fun y hy=>h.2 y ((srt_mem tot_cmp).1 hy)⟩
end Go.Proofs.YtjagagpcjpcjjaaGreat
namespace Go.Proofs.YtjagagpcjpcjjaaGreat
open Go.RowKit
theorem tailW_pos {m:Mach} {ids:List (List (List Int))} {w:List Int}:0<(tailW m ids w).length:=by
 unfold tailW
 split
 ·simp
 rename_i h;exact List.length_pos_iff.2 h
section
variable {M:Nat→Prop} {w:World} {a:Option Addr} {c:Nat}
theorem most_any {l:List (List (List Int))} (hs:Sl M w a c l):
    Calls Tryz.prog 78 #[.slice a l.length c] w fun e w'=>e= .returned (.int .i64 (grW l))∧w'=w:=by
 have hll:=hs.le
 go_enter Tryz.func78,Tryz.ntmps78
 go_wp2
 go_loop [3,8] (fun v i=>∃k n:Nat,k≤l.length∧i= .int .i64 k∧v= .int .i64 n∧Hid (n=grW (l.take k))∧n≤9223372036854775807) (fun _ i=>l.length-(intOf i).toNat)
 case atStart=>exact ⟨0,1,by omega,rfl,rfl,rfl,by omega⟩
 case round=>
  obtain ⟨k,n,hk,rfl,rfl,hn,hnl⟩:=hrel
  by_cases hlt:k<l.length
  ·obtain ⟨b1,o1,ax,x,cx,rfl,hcx,hx,hsx⟩:=hs.at_row hlt
   have hxl:=hsx.le
   have hn2:Hid (max n x.length=grW (l.take (k+1))):=by unfold Hid;rw [grW_succ hx.out,hn.out]
   by_cases hm:n≤x.length
   ·have hn3:Hid (x.length=grW (l.take (k+1))):=by rw [Nat.max_eq_right hm] at hn2;exact hn2
    have hm2:max (n:Int) (x.length:Int)=(x.length:Int):=by omega
    go_wp2
    go_round
    case rel=>exact ⟨k+1,x.length,by omega,by go_num,by go_num,hn3,hxl⟩
    case measure=>simp [intOf];omega
   have hn3:Hid (n=grW (l.take (k+1))):=by rw [Nat.max_eq_left (by omega)] at hn2;exact hn2
   have hm2:max (n:Int) (x.length:Int)=(n:Int):=by omega
   go_wp2
   go_round
   case rel=>exact ⟨k+1,n,by omega,by go_num,by go_num,hn3,hnl⟩
   case measure=>simp [intOf];omega
  have hn3 : Hid (n = grW l) := by
   have:=hn.out
   rw [List.take_of_length_le (by omega)] at this
   exact this
  go_wp2
  go_ret
  exact ⟨ret_i (by rw [hn3.out]),rfl⟩
end
section
variable {M:Nat→Prop} {w:World} {an ao:Option Addr} {cn co:Nat} {m:Mach}
theorem hsuite_any (hm:Ma M w an cn ao co m) (extra:Int):
    Calls Tryz.prog 35 #[maV m an cn ao co,.int .i64 extra] w fun e w'=>∃(a:Option Addr) (c:Nat) (L:List (List Int)) (e1:Int),e= .returned (.tuple #[.slice a L.length c,.int .i64 e1])∧Hid (m.hsW extra=(L,e1))∧Sl (fun k=>k<w.heap.size) w' a c L∧Below w.heap.size w w':=by
 have hB0:=(Below.refl w.heap.size w).alloc (Nat.le_refl _) (maO m an cn ao co)
 have hx0:C4 (w.alloc (maO m an cn ao co)) w.heap.size an cn ao co m:=c4_new w
 have hz0:w.heap.size<(w.alloc (maO m an cn ao co)).heap.size:=by simp
 have HM:=Lib.hid hm
 have HV:=Lib.hid (valid_any (hm.below hB0))
 have l1:=hm.next.le
 have l2:=hm.out.le
 clear hm
 go_enter Tryz.func35,Tryz.ntmps35
 go_wp2_with fail
 generalize w.alloc (maO m an cn ao co)=w0 at*
 refine (HV.out).mono ?_
 rintro e w1 ⟨rfl,hb1⟩
 have hx1:=hx0.below hb1 hz0
 have hB1:=hB0.trans (hb1.mono (by omega))
 have hz1:w.heap.size<w1.heap.size:=by have:=hb1.size;omega
 clear hx0 hB0 hz0 hb1 HV
 by_cases he:m.err=0
 ·have he':(m.err !=0)=false:=by simp [he]
  have HE:=Lib.hid he
  have ok:Hid m.Ok:=Mach.ok_of_err m HE.out
  clear he
  by_cases hex:extra<0∨3<extra
  ·have hR:Hid (m.hsW extra=([],2)):=by unfold Hid Mach.hsW;rw [if_neg (by simp [HE.out]),if_pos hex]
   by_cases h1:extra<0
   ·clear hex
    go_wp2
    exact bodyPost_ret (v:= .tuple #[.slice none 0 0,.int .i64 2]) (by simp [results,Tryz.results35,go_sem]) rfl ⟨none,0,[],2,rfl,hR,Sl.nil _ _ _ (by unfold maxLen;omega),hB1⟩
   have h2:3<extra:=hex.elim (fun e=>absurd e h1) id
   clear hex
   go_wp2
   exact bodyPost_ret (v:= .tuple #[.slice none 0 0,.int .i64 2]) (by simp [results,Tryz.results35,go_sem]) rfl ⟨none,0,[],2,rfl,hR,Sl.nil _ _ _ (by unfold maxLen;omega),hB1⟩
  have h1:decide (extra<0)=false:=decide_eq_false (fun e=>hex (.inl e))
  have h2:decide (3<extra)=false:=decide_eq_false (fun e=>hex (.inr e))
  have HX:=Lib.hid hex
  have hwr:IntKind.i64.wrap (extra+1)=extra+1:=IntWalk.i64_in _ (by omega)
  have ht0:=min_any (HM.out.below hB1)
  rw [HE.out] at ht0
  have HMi:=Lib.hid ht0
  obtain ⟨d0,d1,d2,d3⟩:=hx1
  clear hex ht0
  go_wp2_with fail
  refine (HMi.out).mono ?_
  rintro e w3 ⟨an',cn',ao',co',t,rfl,ht,hTm,hb3⟩
  have htm:Hid (t=m.minF):=by unfold Hid;rw [ht.out,Mach.minOf_eq HE.out]
  have okt:Hid t.Ok:=by rw [htm.out];exact Mach.minF_ok ok.out
  have hme:Hid (t.minErr=0):=by unfold Hid;rw [htm.out];exact (Mach.minF_min ok.out).1
  have htn:Hid (t.next.length<1000):=by have:=okt.out.n1;unfold Hid;omega
  have hti:Hid (t.inputs=m.inputs):=by unfold Hid;rw [htm.out];rfl
  have HTm:=Lib.hid (hTm.ext (M':=fun k=>k<w.heap.size) (Ext.sub_only (fun k _ e=>by omega)))
  have hB3:=hB1.trans (hb3.mono (by omega))
  have hz3:w.heap.size<w3.heap.size:=by have:=hb3.size;omega
  have lt1:=hTm.next.le
  have lt2:=hTm.out.le
  clear d0 d1 d2 d3 hB1 hz1 HMi hTm hb3
  go_upto_region 9 with (fail)
  have hba:=(Below.refl w3.heap.size w3).alloc (Nat.le_refl _) (maO t an' cn' ao' co')
  have hc4:C4 (w3.alloc (maO t an' cn' ao' co')) w3.heap.size an' cn' ao' co' t:=c4_new w3
  have hB4:=hB3.trans (hba.mono (by omega))
  have HT4:=Lib.hid (HTm.out.below hba)
  have hz4:w3.heap.size<(w3.alloc (maO t an' cn' ao' co')).heap.size:=by simp
  clear hba hB3 HTm
  generalize w3.alloc (maO t an' cn' ao' co')=w4 at*
  have hte:=Lib.hid (Mach.minErr_ok hme.out).1
  have HCv:=Lib.hid (cover_any HT4.out hte)
  obtain ⟨d0,d1,d2,d3⟩:=hc4
  go_wp2_with fail
  refine (HCv.out).mono ?_
  rintro e w5 ⟨aA,cA,A,rfl,hA,hAs,hb5⟩
  have hc5:C4 w5 w3.heap.size an' cn' ao' co' t:=C4.below ⟨d0,d1,d2,d3⟩ hb5 hz4
  have hB5:=hB4.trans (hb5.mono (by omega))
  have HT5:=Lib.hid (HT4.out.below hb5)
  have HAs5:=Lib.hid (hAs.anti (M':=fun k=>k<w.heap.size) (fun k _ e=>by omega))
  have hz5:w3.heap.size<w5.heap.size:=by have:=hb5.size;omega
  clear d0 d1 d2 d3 hB4 HT4 hz4 hb5 HCv hAs
  have HUp:=Lib.hid (upto_any (w:=w5) t.inputs (extra+1))
  go_wp2_with fail
  refine (HUp.out).mono ?_
  rintro e w6 ⟨aX,cX,X,e2,rfl,hX0,hXs,hb6⟩
  have hX:Hid (uptW m.inputs (extra+1)=(X,e2)):=by unfold Hid;rw [←hti.out];exact hX0.out
  have hc6:=hc5.below hb6 hz5
  have hB6:=hB5.trans (hb6.mono (by omega))
  have HT6:=Lib.hid (HT5.out.below hb6)
  have HAs6:=Lib.hid (HAs5.out.below hb6)
  have HXs6:=Lib.hid (hXs.anti (M':=fun k=>k<w.heap.size) (fun k _ e=>by omega))
  have hz6:w3.heap.size<w6.heap.size:=by have:=hb6.size;omega
  clear hc5 hB5 HT5 HAs5 hz5 hb6 HUp hXs hX0
  by_cases he2:e2=0
  ·have he2b:(e2 !=0)=false:=by simp [he2]
   have HE2:=Lib.hid he2
   clear he2
   have HId:=Lib.hid (sident_any HT6.out hme htn)
   obtain ⟨d0,d1,d2,d3⟩:=hc6
   go_wp2_with fail
   refine (HId.out).mono ?_
   rintro e w8 ⟨aI,cI,I,rfl,hI,hIs,hb8⟩
   have hc8:C4 w8 w3.heap.size an' cn' ao' co' t:=C4.below ⟨d0,d1,d2,d3⟩ hb8 hz6
   have hB8:=hB6.trans (hb8.mono (by omega))
   have HT8:=Lib.hid (HT6.out.below hb8)
   have HXs8:=Lib.hid (HXs6.out.below hb8)
   have HAs8:=Lib.hid (HAs6.out.below hb8)
   have HIs8:=Lib.hid (hIs.anti (M':=fun k=>k<w.heap.size) (fun k _ e=>by omega))
   have hz8:w3.heap.size<w8.heap.size:=by have:=hb8.size;omega
   have hIsm:Hid (∀r∈I,Sm6 r):=by unfold Hid;rw [hI.out];exact Mach.sids_small htn.out
   have hIl:Hid (I.length=t.next.length):=by unfold Hid;rw [hI.out];unfold Mach.sids;simp
   clear d0 d1 d2 d3 hB6 HT6 HXs6 HAs6 hz6 hb8 HId hIs
   have hAl:Hid (A.length≤1000∧∀p∈A,t.okS p∧p.length≤1000):=by
    have hn1:=okt.out.n1
    unfold Hid;rw [hA.out]
    refine ⟨?_,fun p hp=> ?_⟩
    ·rw [List.length_map]
     have h1:=t.cov_len t.next.length
     have h2:=Mach.bfs_le okt.out t.next.length
     unfold Mach.covW
     omega
    obtain ⟨q,hq,rfl⟩:=List.mem_map.1 hp
    have h1:=Mach.cov_all okt.out t.next.length q hq
    exact ⟨h1.2.2.1,by have:=h1.2.2.2.1;omega⟩
   have hXl:Hid (X.length≤10001∧∀x∈X,InW m.inputs (extra+1).toNat x):=by
    have h:=uptW_in m.inputs (extra+1)
    rw [hX.out] at h
    exact ⟨h.2,h.1⟩
   have hGl:Hid (grW I≤10000):=grW_le (by omega) (fun r hr=>by have:=(hIsm.out r hr).1;omega)
   skip
   have HGr:=Lib.hid (most_any HIs8.out)
   obtain ⟨G,hG⟩:∃G,Hid (G=grW I):=⟨_,rfl⟩
   rw [←hG.out] at hGl
   have hG0:Hid ((grW I:Int)=(G:Int)):=by unfold Hid;rw [hG.out]
   have hA1:=hAl.out.1
   have hX1:=hXl.out.1
   have hG1:=hGl.out
   have hAX:A.length*X.length≤1000*10001:=Nat.mul_le_mul hA1 hX1
   have hAXG:A.length*X.length*G≤1000*10001*10000:=Nat.mul_le_mul hAX hG1
   obtain ⟨P1,hP1⟩:∃P1,P1=A.length*X.length:=⟨_,rfl⟩
   obtain ⟨P2,hP2⟩:∃P2,P2=P1*G:=⟨_,rfl⟩
   have hw1:IntKind.i64.wrap ((A.length:Int)*(X.length:Int))=(P1:Int):=by
    rw [show ((A.length:Int)*(X.length:Int))=((P1:Nat):Int) by rw [hP1];simp]
    exact IntWalk.i64_in _ (by omega)
   have hw2:IntKind.i64.wrap ((P1:Int)*(G:Int))=(P2:Int):=by
    rw [show ((P1:Int)*(G:Int))=((P2:Nat):Int) by rw [hP2];simp]
    rw [←hP1] at hAXG
    rw [←hP2] at hAXG
    exact IntWalk.i64_in _ (by omega)
   have HGr0:=most_any HIs8.out
   rw [hG0.out] at HGr0
   have HGr2:=Lib.hid HGr0
   have hP3:Hid (P2=A.length*X.length*grW I):=by unfold Hid;rw [hP2,hP1,hG.out]
   have hR0:Hid (m.hsW extra=if 10000<P2 then ([],11) else (maxW (suOut t I A X),0)):=by
    unfold Hid Mach.hsW
    rw [if_neg (by simp [HE.out]),if_neg HX.out,hX.out,if_neg (by simp [HE2.out]),←ht.out,←hI.out,←hA.out,hP3.out]
   clear HGr0 HGr hP1 hP2 hAX hAXG
   by_cases hbig:10000<P2
   ·have hR:Hid (m.hsW extra=([],11)):=by unfold Hid;rw [hR0.out,if_pos hbig]
    go_wp2_with fail
    refine (HGr2.out).mono ?_
    rintro e w9 ⟨rfl,rfl⟩
    go_wp2
    exact bodyPost_ret (v:= .tuple #[.slice none 0 0,.int .i64 11]) (by simp [results,Tryz.results35,go_sem]) rfl ⟨none,0,[],11,rfl,hR,Sl.nil _ _ _ (by unfold maxLen;omega),hB8⟩
   have hGb:Hid (0<A.length→0<X.length→G≤10000):=fun _ _=>hG1
   have hR1:Hid (m.hsW extra=(maxW (suOut t I A X),0)):=by unfold Hid;rw [hR0.out,if_neg hbig]
   go_wp2_with fail
   refine (HGr2.out).mono ?_
   rintro e w9 ⟨rfl,rfl⟩
   clear HGr2 hR0
   have HS:Hid (∀w',Below w9.heap.size w9 w'→C4 w' w3.heap.size an' cn' ao' co' t∧Ma (fun k=>k<w.heap.size) w' an' cn' ao' co' t∧Sl (fun k=>k<w.heap.size) w' aI cI I∧Sl (fun k=>k<w.heap.size) w' aA cA A∧Sl (fun k=>k<w.heap.size) w' aX cX X∧Below w.heap.size w w'):=fun w' h=>
    ⟨hc8.below h (by omega),HT8.out.below h,HIs8.out.below h,HAs8.out.below h,HXs8.out.below h,hB8.trans (h.mono (by omega))⟩
   have hO0:Ox (α:=List Int) w9.heap.size w9.heap.size w9 49 (.slice none 0 0) []:=Ox.nil
   have hBz:=Below.refl w9.heap.size w9
   have hwz:w.heap.size≤w9.heap.size:=by omega
   have hIm:Hid (∀r∈I,Small9 r):=fun r hr=>⟨by have:=(hIsm.out r hr).1;omega,fun y hy=>by have:=(hIsm.out r hr).2 y hy;omega⟩
   have hti:Hid (t.inputs=m.inputs):=by unfold Hid;rw [htm.out];rfl
   clear hc8 hB8
   go_wp2_with fail
   go_loopw [77,12] (fun i v wr=>∃(k1:Nat) (a':Option Addr) (c':Nat) (K:List (List Int)),k1≤A.length∧i= .int .i64 k1∧v= .slice a' K.length c'∧Hid (K=(A.take k1).flatMap (sf t I X))∧Hid (K.length≤k1*200000000)∧
    Ox w9.heap.size w9.heap.size wr 49 (.slice a' K.length c') K∧Below w9.heap.size w9 wr) (fun i _ _=>A.length-(intOf i).toNat)
   case atStart=>exact ⟨0,none,0,[],by omega,rfl,rfl,by simp [Hid],by simp [Hid],hO0,hBz⟩
   case round=>
    clear hO0 hBz
    obtain ⟨k1,a1,c1,K1,hk1,rfl,rfl,hK1,hK1l,hO,hB⟩:=hrel
    obtain ⟨wo,rfl⟩:∃wo:World,wo=wr:=⟨_,rfl⟩
    by_cases hlt:k1<A.length
    ·obtain ⟨bA,oA,ap,p,cp,rfl,hpc,hp,hps⟩:=HAs8.out.at_row hlt
     have hpcw:=(hB.cell (p:=⟨bA,oA+k1,none⟩) (lt_of_cell hpc)).trans hpc
     have HP:=Lib.hid hps
     have hpA:=hAl.out.2 p (List.mem_of_getElem? hp.out)
     have hpl:=hpA.2
     have hpo:=Lib.hid hpA.1
     have hK2:Hid (K1=(A.take k1).flatMap (sf t I X)++(X.take 0).flatMap (sg t I p)):=by unfold Hid;rw [hK1.out];simp
     have hK2l:Hid (K1.length≤k1*200000000+0*10000):=Nat.le_trans hK1l.out (Nat.le_add_right _ _)
     have HO:=Lib.hid hO
     have HBo:=Lib.hid hB
     clear hps hpA hO hB hpc
     go_wp2_with fail
     go_loopw [83,12] (fun i v wr=>∃(k2:Nat) (a':Option Addr) (c':Nat) (K:List (List Int)),k2≤X.length∧i= .int .i64 k2∧v= .slice a' K.length c'∧Hid (K=(A.take k1).flatMap (sf t I X)++(X.take k2).flatMap (sg t I p))∧Hid (K.length≤k1*200000000+k2*10000)∧
      Ox w9.heap.size w9.heap.size wr 49 (.slice a' K.length c') K∧Below w9.heap.size w9 wr) (fun i _ _=>X.length-(intOf i).toNat)
     case atStart=>exact ⟨0,a1,c1,K1,by omega,rfl,rfl,hK2,hK2l,HO.out,HBo.out⟩
     case round=>
      clear hK2 hK2l HO HBo hpcw
      obtain ⟨k2,a2,c2,K2,hk2,rfl,rfl,hK2,hK2l,hO,hB⟩:=hrel
      obtain ⟨wi,rfl⟩:∃wi:World,wi=wr:=⟨_,rfl⟩
      by_cases hlt2:k2<X.length
      ·obtain ⟨bX,oX,ax,x,cx,rfl,hxc,hx,hxs⟩:=HXs8.out.at_row hlt2
       have hxcw:=(hB.cell (p:=⟨bX,oX+k2,none⟩) (lt_of_cell hxc)).trans hxc
       have hxX:=hXl.out.2 x (List.mem_of_getElem? hx.out)
       have hxl:=hxX.2
       have hwe:Hid (wErr (p++x) t.inputs=0):=sui_err okt.out hpo.out hpl (N:=(extra+1).toNat) (by have:=HX.out;omega) (by rw [hti.out];exact hxX)
       have hxl4:x.length≤4:=by have:=HX.out;omega
       have hr:=rows2 (T:=49) (HP.out.below hB) (hxs.below hB) (n:=p.length) rfl (m:=x.length) rfl
       have HJ:=Lib.hid (join_any hr (by rw [flat2];simp;omega))
       have hba:=(Below.refl wi.heap.size wi).alloc (Nat.le_refl _) (.cells #[.slice ap p.length cp,.slice ax x.length cx] 49)
       have hO3:=Ox.later hO hba
       have hB3:=hB.trans (hba.mono hB.size)
       have hz3:=hB3.size
       clear hr hxs hO hB hba hxc hxX
       go_wp2_with fail
       generalize hgg:wi.alloc (.cells #[.slice ap p.length cp,.slice ax x.length cx] 49)=wa at*
       clear hgg
       refine (HJ.out).mono ?_
       rintro e wb ⟨aw,cw,W,rfl,hW,hWs,hbb⟩
       have hO4:=Ox.later hO3 hbb
       have hB4:=hB3.trans (hbb.mono hz3)
       have hz4:=hB4.size
       have hWe:Hid (W=p++x):=by unfold Hid;rw [hW.out,flat2]
       have hWs4:=Lib.hid (hWs.anti (M':=fun k=>(Value.slice a2 K2.length c2).ownBlock=some k) (fun k _ hm=>(hO3.lt k hm).2))
       have hSb:=HS.out _ hB4
       have hcb:=hSb.1
       have hwe2:Hid (wErr W t.inputs=0):=by rw [hWe.out];exact hwe
       have HTl:=Lib.hid (tails_any hSb.2.1 hSb.2.2.1 hWs4.out okt hwe2 hIl hIm)
       clear HJ hbb hWs hO3 hB3 hW hxcw hSb hwe hwe2
       go_wp2_with fail
       refine (HTl.out).mono ?_
       rintro e wc ⟨at1,ct1,TL,rfl,hTL,hTs,hbc⟩
       have hO5:=Ox.later hO4 hbc
       have hB5:=hB4.trans (hbc.mono hz4)
       have hWs5:=Lib.hid (hWs4.out.below hbc)
       have hTs5:=Lib.hid (hTs.anti (M':=fun k=>(Value.slice a2 K2.length c2).ownBlock=some k) (fun k _ hm=>(hO4.lt k hm).2))
       have hTl:Hid (TL.length<10000∧∀v∈TL,v.length≤1000000):=by rw [hTL.out];exact (tailW_in hIsm.out).2
       have hTl1:=hTl.out.1
       have hWl:Hid (W.length≤1000+4):=by unfold Hid;rw [hWe.out,List.length_append];omega
       have hgs:Hid (sg t I p x=TL.map fun v=>W++v):=by unfold Hid sg;rw [hTL.out,hWe.out]
       have hTL0:Hid (0<TL.length):=by unfold Hid;rw [hTL.out];exact tailW_pos
       have HBh:=Lib.hid (behind_any hWs5.out hTs5.out (Lib.hid ⟨by omega,fun v hv=>by have:=hTl.out.2 v hv;omega⟩) (by have:=hWl.out;omega))
       have hz5:=hB5.size
       clear HTl hbc hTs hO4 hB4 hWs4 hcb
       go_wp2_with fail
       refine (HBh.out).mono ?_
       rintro e wd ⟨aL,cL,L,rfl,hL,hLs,hbd⟩
       have hO6:=Ox.later hO5 hbd
       have hB6:=hB5.trans (hbd.mono hz5)
       have hLl:Hid (L.length=TL.length):=by unfold Hid;rw [hL.out];simp
       have hLp:0<L.length:=by rw [hLl.out];exact hTL0.out
       have hLle:L.length<10000:=by rw [hLl.out];exact hTl1
       have hLs6:Sl (fun k=>(Value.slice a2 K2.length c2).ownBlock=some k∨k<w9.heap.size) wd aL cL L:=hLs.anti fun k _ hm=>by
        rcases hm with hm|hm
        ·exact (hO5.lt k hm).2
        omega
       obtain ⟨bL,oL, -, -, -,rfl, -, -, -⟩:=hLs6.at_row hLp
       have hK12:K2.length+L.length<1000000000000:=by
        have e1:k1*200000000≤1000*200000000:=Nat.mul_le_mul_right _ (by omega)
        have e2:k2*10000≤10001*10000:=Nat.mul_le_mul_right _ (by omega)
        have:=hK2l.out
        omega
       have hz6:=hB6.size
       clear HBh hO5 hB5 hbd hLs hWs5 hTs5 hLp
       go_wp2_with (at_builtin;refine wpList_app_x (n0:=w9.heap.size) (B:=w9.heap.size) rfl rfl Tryz.underlying22 info_ints rfl rfl hO6 hLs6 hK12 (by omega) ?_)
       intro a5 c5 K5 w5' hK5 hO5 hgr
       have hB5:=hB6.grown hgr (by omega) (fun k hk=>(hO6.lt k hk).1)
       have hKn:Hid (K5=(A.take k1).flatMap (sf t I X)++(X.take (k2+1)).flatMap (sg t I p)):=by
        unfold Hid;rw [hK5.out,hK2.out,fm_step hx.out,hgs.out,hL.out,List.append_assoc]
       have hKnl:Hid (K5.length≤k1*200000000+(k2+1)*10000):=by
        unfold Hid;rw [hK5.out,List.length_append]
        have:=hK2l.out
        rw [Nat.succ_mul,←Nat.add_assoc]
        omega
       clear hK5 hgr hO6 hB6 hLs6 hK12 hLle
       go_wp2
       go_roundw
       case rel=>exact ⟨k2+1,a5,c5,K5,by omega,by go_num,rfl,hKn,hKnl,hO5,hB5⟩
       case measure=>simp [intOf];omega
      have hKn : Hid (K2 = (A.take (k1 + 1)).flatMap (sf t I X)) := by
       unfold Hid;rw [hK2.out,fm_step hp.out,List.take_of_length_le (l:=X) (i:=k2) (by omega)];rfl
      have hKnl:Hid (K2.length≤(k1+1)*200000000):=by unfold Hid;have:=hK2l.out;omega
      go_wp2
      go_roundw
      case rel=>exact ⟨k1+1,a2,c2,K2,by omega,by go_num,rfl,hKn,hKnl,hO,hB⟩
      case measure=>simp [intOf];omega
    have hKf:Hid (K1=suOut t I A X):=by unfold Hid;rw [hK1.out,List.take_of_length_le (by omega)];rfl
    have hsm:Hid (Small9 K1):=by
     refine ⟨?_,fun r hr=> ?_⟩
     ·have h:=suOut_len (t:=t) (A:=A) (X:=X) hIsm.out
      rw [hKf.out]
      rw [←hP3.out] at h
      omega
     rw [hKf.out] at hr
     have h:=suOut_mem hIsm.out hr (fun p hp=>(hAl.out.2 p hp).2) (fun x hx=>(hXl.out.2 x hx).2)
     have:=HX.out
     omega
    have hKs:=(hO.toSl (Nat.le_refl _))
    have HMx:=Lib.hid (max_any hKs hsm)
    have hBf:=(HS.out _ hB).2.2.2.2.2
    clear hO hB hKs
    go_wp2_with fail
    refine (HMx.out).mono ?_
    rintro e wf ⟨aM,cM,LM,rfl,hLM,hLMs,hbf⟩
    have hBf2:=hBf.trans (hbf.mono hBf.size)
    have hR:Hid (m.hsW extra=(LM,0)):=by unfold Hid;rw [hR1.out,hLM.out,hKf.out]
    have hLMw:=hLMs.anti (M':=fun k=>k<w.heap.size) (fun k _ e=>by have:=hBf.size;omega)
    go_wp2
    exact bodyPost_ret (v:= .tuple #[.slice aM LM.length cM,.int .i64 0]) (by simp [results,Tryz.results35,go_sem]) rfl ⟨aM,cM,LM,0,rfl,hR,hLMw,hBf2⟩
  have he2b:(e2 !=0)=true:=by simp [he2]
  have hR:Hid (m.hsW extra=([],e2)):=by unfold Hid Mach.hsW;rw [if_neg (by simp [HE.out]),if_neg HX.out,hX.out,if_pos he2]
  clear he2
  go_wp2
  exact bodyPost_ret (v:= .tuple #[.slice none 0 0,.int .i64 e2]) (by simp [results,Tryz.results35,go_sem]) rfl ⟨none,0,[],e2,rfl,hR,Sl.nil _ _ _ (by unfold maxLen;omega),hB6⟩
 have he':(m.err !=0)=true:=by simp [he]
 have hR:Hid (m.hsW extra=([],m.err)):=by unfold Hid Mach.hsW;rw [if_pos he]
 clear he
 go_wp2
 exact bodyPost_ret (v:= .tuple #[.slice none 0 0,.int .i64 m.err]) (by simp [results,Tryz.results35,go_sem]) rfl ⟨none,0,[],m.err,rfl,hR,Sl.nil _ _ _ (by unfold maxLen;omega),hB1⟩
end
section
variable {M:Nat→Prop} {w:World} {an ao:Option Addr} {cn co:Nat} {m:Mach}
end
section
variable {M:Nat→Prop} {w:World} {an ao:Option Addr} {cn co:Nat} {m:Mach}
end
section
variable {M:Nat→Prop} {w:World} {an ao:Option Addr} {cn co:Nat} {m:Mach}
end
section
variable {M:Nat→Prop} {w:World} {an ao:Option Addr} {cn co:Nat} {m:Mach}
end
end Go.Proofs.YtjagagpcjpcjjaaGreat
