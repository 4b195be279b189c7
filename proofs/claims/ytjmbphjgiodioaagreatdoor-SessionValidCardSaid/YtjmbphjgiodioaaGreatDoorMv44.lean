/- Several texts, one behind the other. Conditions: as each of them says. -/
import Derived.Test.YtjmbphjgiodioaaGreatDoorMv43
import Derived.Test.YtjmbphjgiodioaaGreatDoorMv32
import Derived.Test.YtjmbphjgiodioaaGreatDoorMv31
import Derived.Test.YtjmbphjgiodioaaGreatDoorMv27
import Derived.Test.YtjmbphjgiodioaaGreatDoorMv22
set_option maxRecDepth 100000
set_option maxHeartbeats 32000000
namespace Go.Proofs.YtjmbphjgiodioaaGreatDoor
open Go.RowKit
theorem keyN_ok {l:List Int} (h:∀x∈l,i64 x) (hn:l.length<5000):KOk (keyN l):=by
 refine ⟨fun y hy=> ?_,?_⟩
 ·obtain ⟨b,hb,rfl⟩:=List.mem_map.1 hy
  exact keyL_mem l b hb
 have h1:=keyL_len l (fun x hx=>by have:=h x hx;unfold i64 at this;omega)
 unfold keyN;rw [List.length_map];omega
section
variable {M:Nat→Prop} {w:World} {a:Option Addr} {c:Nat}
theorem tkey_any {l:List Int} (hs:Sl M w a c l) (hi:Hid (∀x∈l,i64 x)) (hn:Hid (l.length<5000)):
    Calls Tryz.prog 120 #[.slice a l.length c] w fun e w'=>e= .returned (.string (keyB (keyN l)))∧Below w.heap.size w w':=by
 have hll:=hs.le
 have HS:=Lib.hid hs
 have hK0:Hid (([]:List By)=keyL (l.take 0)):=rfl
 have hO0:Ow w.heap.size (fun k=>w.heap.size≤k) w 5 (.slice none 0 0) ([]:List By):=Ow.nil
 have hb0:=Below.refl w.heap.size w
 clear hs
 go_enter Tryz.func120,Tryz.ntmps120
 go_wp2
 go_loopw [3,8] (fun v i wr=>∃(k:Nat) (a':Option Addr) (c':Nat) (K:List By),k≤l.length∧i= .int .i64 k∧v= .slice a' K.length c'∧Hid (K=keyL (l.take k))∧Ow w.heap.size (fun k=>w.heap.size≤k) wr 5 (.slice a' K.length c') K∧Below w.heap.size w wr) (fun _ i _=>l.length-(intOf i).toNat)
 case atStart=>exact ⟨0,none,0,[],by omega,rfl,rfl,hK0,hO0,hb0⟩
 case round=>
  clear hO0 hK0 hb0
  obtain ⟨k,a2,c2,K,hk,rfl,rfl,hK,hO,hB⟩:=hrel
  obtain ⟨wo,rfl⟩:∃wo:World,wo=wr:=⟨_,rfl⟩
  have hz:=hB.size
  have hKl:Hid (K.length≤75000):=by
   have h1:=keyL_len (l.take k) (fun x hx=>by have:=hi.out x (List.mem_of_mem_take hx);unfold i64 at this;omega)
   rw [←hK.out,List.length_take] at h1
   have:=hn.out
   unfold Hid;omega
  by_cases hlt:k<l.length
  ·obtain ⟨bs,os,x,rfl,hcx,hx, -⟩:=(HS.out.below hB).at_int hlt
   have hxi:Hid (i64 x):=hi.out x (List.mem_of_getElem? hx.out)
   have HC:=Lib.hid (pint_any hxi hO hz (by unfold Hid;have:=hKl.out;omega))
   clear hO
   go_wp2_with fail
   refine (HC.out).mono ?_
   rintro e w1 ⟨a3,c3,K3,rfl,hK3,hO3,hb3⟩
   have hB3:=hB.trans hb3
   have hz3:=hB3.size
   have hl3:Hid (K3.length≤75014):=by
    unfold Hid;rw [hK3.out,List.length_append]
    have h1:=hxi.out
    unfold i64 at h1
    have:=k36_len (x:=x) (by omega)
    have:=hKl.out
    omega
   clear HC hb3 hB
   go_wp2_with (at_builtin;refine wpList_push_by (B:=w.heap.size) (l:=K3) (y:=⟨32⟩) rfl rfl Tryz.underlying269 info_byte rfl rfl (hO3.below ((Below.refl w1.heap.size w1).alloc (Nat.le_refl _) _)) (by simp [go_sem]) (by decide) (by have:=hl3.out;omega) (by simp;omega) ?_)
   intro a4 c4 K4 w4 hK4 hO4 hb4
   have hB4:=hB3.trans (((Below.refl w.heap.size w1).alloc hz3 _).trans hb4)
   have hKn:Hid (K4=keyL (l.take (k+1))):=by unfold Hid;rw [hK4.out,hK3.out,hK.out,List.take_add_one,hx.out,Option.toList,keyL_snoc]
   clear hO3 hB3 hK3 hK4 hb4 hK
   go_wp2
   go_roundw
   case rel=>exact ⟨k+1,a4,c4,K4,by omega,by go_num,rfl,hKn,hO4,hB4⟩
   case measure=>simp [intOf];omega
  have hKm:Hid (K.map By.n=keyN l):=by unfold Hid keyN;rw [hK.out,List.take_of_length_le (by omega)]
  have hF:Hid (strOfNums (keyN l)=keyB (keyN l)):=rfl
  by_cases h0:0<K.length
  ·obtain ⟨g,rfl, -⟩:=hO.at_by h0
   have HO:=Lib.hid hO
   have kc:=run_convert_bytes_arg (P:=Tryz.prog) wo 269 5 Tryz.underlying269 Tryz.underlying5 g 0 K.length c2 (K.map By.n) (by simp) (fun i hi=>by
    obtain ⟨g',hg',hc⟩:=HO.out.at_by hi
    obtain rfl:g=g':=by simpa using hg'
    exact hc) 9 Tryz.underlying9
   rw [hKm.out,hF.out] at kc
   clear hO
   go_wp2
   go_ret
   exact ⟨rfl,hB⟩
  have hKe:K=[]:=List.eq_nil_of_length_eq_zero (by omega)
  have hKz:K.length=0:=by omega
  have hF2:Hid (keyB (keyN l)=ByteArray.empty):=by unfold Hid;rw [←hKm.out,hKe];rfl
  have hsh:a2=none∨∃g,a2=some ⟨g,0,none⟩:=by
   obtain ⟨xs,⟨_,h2⟩,_⟩:=hO
   rcases h2 with ⟨hv,_⟩|⟨g,cap,cur,hv,_⟩
   ·simp only [Value.slice.injEq] at hv;exact .inl hv.1
   simp only [Value.slice.injEq] at hv;exact .inr ⟨g,hv.1⟩
  clear hKe
  rcases hsh with rfl|⟨g,rfl⟩
  ·have kc:=run_convert_bytes_nil (P:=Tryz.prog) wo 269 5 Tryz.underlying269 Tryz.underlying5 0 c2 9 Tryz.underlying9
   rw [←hF2.out] at kc
   clear hO
   go_wp2
   go_ret
   exact ⟨rfl,hB⟩
  have kc:=run_convert_bytes_arg (P:=Tryz.prog) wo 269 5 Tryz.underlying269 Tryz.underlying5 g 0 0 c2 [] rfl (fun i hi=>absurd hi (Nat.not_lt_zero _)) 9 Tryz.underlying9
  have e0:strOfNums []=keyB (keyN l):=by rw [hF2.out];rfl
  rw [e0] at kc
  clear hO e0
  go_wp2
  go_ret
  exact ⟨rfl,hB⟩
end
theorem ksPut {w:World} {b n:Nat} {L:List (List Int)} (hown:KS w b n L) (hn:n<1000000000000) (x:List Int) (hok:KOk x):
    ∃w',(Instr.mapUpdate 185 (.map (some b)) (.string (keyB x)) (.bool true)).run Tryz.prog w= .ok () w'∧KS w' b (n+1) (L++[x])∧w.grownBy w' (some b):=by
 obtain ⟨D,h1,h3⟩:=hown
 have K:=Maps.string_keyed (P:=Tryz.prog) Tryz.underlying9
 have htidy:=h1.tidy K
 obtain ⟨w',hrun,r1,r2⟩:=h1.update K Tryz.underlying185 (by unfold maxLen;omega) (keyB_key hok) (plainElem_bool Tryz.underlying4 true)
 refine ⟨w',hrun,⟨_,r1,fun y hy=> ?_⟩,r2⟩
 by_cases e:y=x
 ·subst e
  rw [Maps.atKey_put_same htidy.isMap (K.key (keyB_key hok))]
  simp
 have hne : (Lit.string (keyB y).data.toList) ≠ .string (keyB x).data.toList := by
  intro e2
  refine e (keyB_inj hy hok ?_)
  simp only [Lit.string.injEq] at e2
  exact ByteArray.ext (Array.ext' e2)
 rw [Maps.atKey_put_other hne,h3 y hy]
 simp [e]
theorem ksLook {w:World} {b n:Nat} {L:List (List Int)} (hown:KS w b n L) (x:List Int) (hok:KOk x):
    (Instr.lookup 185 (.map (some b)) (.string (keyB x)) false).run Tryz.prog w= .ok (.bool (decide (x∈L))) w:=by
 obtain ⟨D,h1,h3⟩:=hown
 obtain ⟨v,ps,hrun,hv⟩:=h1.lookup (Maps.string_keyed Tryz.underlying9) Tryz.underlying185 zero_bool (plainElem_bool Tryz.underlying4 false) (keyB_key hok)
 rw [h3 x hok] at hv
 have hvb:v= .bool (decide (x∈L)):=by
  obtain ⟨y,rfl,hy⟩:=plainElem_bool_inv Tryz.underlying4 hv
  simp at hy
  rw [hy.1]
 rw [hrun,hvb]
theorem chkP_is {M:Nat→Prop} {w:World} {a:Option Addr} {c:Nat} {l:List Int} (h:Sl M w a c l) {n v:Int} (hv:wErr l n=v):Calls Tryz.prog 62 #[.slice a l.length c,.int .i64 n] w fun e w'=>e= .returned (.int .i64 v)∧Below w.heap.size w w':=
 (wcheck_any h n).mono fun e w' k=>⟨by rw [k.1,hv],k.2⟩
theorem keyN_mem {x:List Int} {l:List (List Int)}:keyN x∈l.map keyN↔x∈l:=by
 rw [List.mem_map]
 exact ⟨fun ⟨y,h1,h2⟩=>keyN_inj h2▸h1,fun h=>⟨x,h,rfl⟩⟩
section
variable {M:Nat→Prop} {w:World} {a b:Option Addr} {c d:Nat} {t:Tab}
theorem tvalid_any (hT:Tm M w a c b d t) (hsm:Hid (∀x∈t.pre,x.length≤1100)) {er:Int} (her:t.err=er):
    Calls Tryz.prog 73 #[tmV t a c b d] w fun e w'=>e= .returned (.int .i64 er)∧Below w.heap.size w w':=by
 have hB0:=(Below.refl w.heap.size w).alloc (Nat.le_refl _) (tmO t a c b d)
 have hx0:X3 (w.alloc (tmO t a c b d)) w.heap.size t a c b d:=x3_new w t a c b d
 have hz0:w.heap.size<(w.alloc (tmO t a c b d)).heap.size:=by simp
 have hll:=hT.pre.le
 have hl2:=hT.suf.le
 have HT:=Lib.hid (hT.below hB0)
 have HE:=Lib.hid her
 have hmm:= @run_makeMap Tryz.prog
 clear hT her
 go_enter Tryz.func73,Tryz.ntmps73
 go_upto_region 1 with (fail)
 generalize w.alloc (tmO t a c b d)=w0 at*
 have HS0:Hid (∀w',Below w0.heap.size w0 w'→X3 w' w.heap.size t a c b d∧Tm (fun _=>False) w' a c b d t∧Below w.heap.size w w'):=fun w' hb=>⟨hx0.below hb hz0,⟨HT.out.inputs,flz (HT.out.below hb).pre,flz (HT.out.below hb).suf⟩,hB0.trans (hb.mono (by omega))⟩
 obtain ⟨x0,x1,x2⟩:=hx0
 obtain ⟨np,hnp⟩:∃n,t.pre.length=n:=⟨_,rfl⟩
 obtain ⟨ns,hns⟩:∃n,t.suf.length=n:=⟨_,rfl⟩
 have HNP:=Lib.hid hnp
 have HNS:=Lib.hid hns
 rw [hnp] at x1 hll
 rw [hns] at x2 hl2
 refine wp_quiet_fast (by kernel_rfl) (by kernel_rfl) ?_
 repeat (first|go_big_quiet_step (fail)|quiet_step (fail))
 refine wpQuiet_nil ?_
 intro _ hw'
 obtain ⟨nq,hw''⟩:=hw'
 subst hw''
 obtain ⟨w1,hw1⟩:∃w1,w1=w0.drewN nq:=⟨_,rfl⟩
 have hb01:Below w0.heap.size w0 w1:=by rw [hw1];exact below_drewN _ _ _
 have hz1:w.heap.size<w1.heap.size:=by rw [hw1];exact hz0
 have hz01:w1.heap.size=w0.heap.size:=by rw [hw1];rfl
 rw [←hw1]
 clear hw1 x0 x1 x2 HT hz0 hB0
 have HS:Hid (∀w',Below w1.heap.size w1 w'→(w'.cell? ⟨w.heap.size,0,none⟩=some (.int .i64 t.inputs)∧w'.cell? ⟨w.heap.size,1,none⟩=some (.slice a np c)∧w'.cell? ⟨w.heap.size,2,none⟩=some (.slice b ns d))∧Tm (fun _=>False) w' a c b d t∧Below w.heap.size w w'):=fun w' hb=>by
  have h9:=HS0.out w' (hb01.trans (hb.mono (by omega)))
  rw [←hnp,←hns];exact h9
 clear hnp hns HS0 hb01 hz01
 obtain ⟨⟨x0,x1,x2⟩, -,hBw⟩:=HS.out _ (Below.refl _ _)
 by_cases h1:t.inputs<1
 ·have hr:=HE.out.symm.trans (Tab.err_2 (fun h=>by have:=h.1;omega))
  subst hr
  go_wp2
  go_ret
  exact ⟨rfl,hBw⟩
 by_cases h2:64<t.inputs
 ·have hr:=HE.out.symm.trans (Tab.err_2 (fun h=>by have:=h.2;omega))
  subst hr
  go_wp2
  go_ret
  exact ⟨rfl,hBw⟩
 have hIB:Hid t.inB:=⟨by omega,by omega⟩
 cases np with
 |zero=>
  have hr:=HE.out.symm.trans (Tab.err_19 hIB.out HNP.out)
  subst hr
  go_wp2
  go_ret
  exact ⟨rfl,hBw⟩
 |succ np=>
 have h0:Hid (¬t.pre.length=0):=by unfold Hid;rw [HNP.out];omega
 by_cases h3:10000<np+1
 ·have hr:=HE.out.symm.trans (Tab.err_11 hIB.out h0.out (fun h=>by have:=h.1;rw [HNP.out] at this;omega))
  have h3d:(10000:Int)<(np:Int)+1:=by omega
  subst hr
  go_wp2
  go_ret
  exact ⟨rfl,hBw⟩
 have h3d:¬(10000:Int)<(np:Int)+1:=by omega
 by_cases h4:10000<ns
 ·have hr:=HE.out.symm.trans (Tab.err_11 hIB.out h0.out (fun h=>by have:=h.2.1;rw [HNS.out] at this;omega))
  have h4d:(10000:Int)<(ns:Int):=by omega
  subst hr
  go_wp2
  go_ret
  exact ⟨rfl,hBw⟩
 have h4d:¬(10000:Int)<(ns:Int):=by omega
 obtain ⟨A,hA⟩:∃A:Int,((np:Int)+1)*(t.inputs+1)=A:=⟨_,rfl⟩
 obtain ⟨Z,hZ⟩:∃Z:Int,A*(ns:Int)=Z:=⟨_,rfl⟩
 have hfb:=fit_b (p:=np+1) (s:=ns) (i:=t.inputs) (by omega) (by omega) (by omega) (by omega)
 have hZe:Hid ((t.pre.length:Int)*(t.inputs+1)*t.suf.length=Z):=by unfold Hid;rw [HNP.out,HNS.out,←hZ,←hA];rfl
 rw [show (((np+1:Nat):Int))=(np:Int)+1 from rfl,hA,hZ] at hfb
 have hw1:IntKind.i64.wrap (t.inputs+1)=t.inputs+1:=IntWalk.i64_in _ (by omega)
 have hw2:IntKind.i64.wrap A=A:=IntWalk.i64_in _ (by omega)
 have hw3:IntKind.i64.wrap Z=Z:=IntWalk.i64_in _ (by omega)
 by_cases h5:160000<Z
 ·have hr:=HE.out.symm.trans (Tab.err_11 hIB.out h0.out (fun h=>by have:=h.2.2;rw [hZe.out] at this;omega))
  subst hr
  clear hfb
  go_wp2
  go_ret
  exact ⟨rfl,hBw⟩
 have hHd:Hid t.hd:=⟨hIB.out,h0.out,by rw [HNP.out];omega,by rw [HNS.out];omega,by rw [hZe.out];omega⟩
 have hK2:Hid (KS (w1.alloc (.map #[] 0)) w1.heap.size 0 ((t.pre.take 0).map keyN)):=KS.made w1
 have hb2:=(Below.refl w1.heap.size w1).alloc (Nat.le_refl _) (.map #[] 0)
 have hz2:w1.heap.size<(w1.alloc (.map #[] 0)).heap.size:=by simp
 have hnp1:np+1≤10000:=by omega
 have hns1:ns≤10000:=by omega
 have hi1:1≤t.inputs:=by omega
 have hi2:t.inputs≤64:=by omega
 clear hfb h3 h4 hBw
 go_wp2
 go_loopw [53] (fun i wr=>∃k:Nat,k≤np+1∧i= .int .i64 k∧Hid (KS wr w1.heap.size k ((t.pre.take k).map keyN))∧Below w1.heap.size w1 wr∧w1.heap.size<wr.heap.size) (fun i _=>np+1-(intOf i).toNat)
 case atStart=>exact ⟨0,by omega,rfl,hK2,hb2,hz2⟩
 case round=>
  clear hK2 hb2 hz2 x0 x1 x2
  obtain ⟨k,hk,rfl,hK,hB,hz⟩:=hrel
  obtain ⟨wo,rfl⟩:∃wo:World,wo=wr:=⟨_,rfl⟩
  by_cases hlt:k<np+1
  ·obtain ⟨b1,o1,ax,y,cx,rfl,hcx,hy,hsy⟩:=(HS.out _ hB).2.1.pre.at_row (show k<t.pre.length by rw [HNP.out];exact hlt)
   have hyl:=hsy.le
   have hyi:Hid (∀x∈y,i64 x):=hsy.i64
   have hyn:Hid (y.length<5000):=by have:=hsm.out y (List.mem_of_getElem? hy.out);unfold Hid;omega
   have HC:=Lib.hid (tkey_any hsy hyi hyn)
   clear hsy
   go_wp2_with fail
   refine (HC.out).mono ?_
   rintro e w2 ⟨rfl,hb2⟩
   have hz2:=hb2.size
   obtain ⟨w3,hrun3,hK3,hg3⟩:=ksPut (hK.out.kept (hb2.block _ hz)) (by omega) (keyN y) (keyN_ok hyi.out hyn.out)
   have hb3:=(Below.refl w1.heap.size w2).grown hg3 (by omega) (fun k hk=>by cases hk;exact Nat.le_refl _)
   have hB3:=(hB.trans (hb2.mono hB.size)).trans hb3
   have hz3:w1.heap.size<w3.heap.size:=by have:=hb3.size;omega
   have hK3':Hid (KS w3 w1.heap.size (k+1) ((t.pre.take (k+1)).map keyN)):=by unfold Hid;rw [List.take_add_one,hy.out,Option.toList,List.map_append];exact hK3
   clear hK3 hg3 hb3 hK hB hz HC hb2 hcx
   go_wp2
   go_roundw
   case rel=>exact ⟨k+1,by omega,by go_num,hK3',hB3,hz3⟩
   case measure=>simp [intOf];omega
  obtain ⟨⟨x0,x1,x2⟩, -, -⟩:=HS.out _ hB
  have hKF:Hid (KS wo w1.heap.size k (t.pre.map keyN)):=by have h9:=hK.out;rw [List.take_of_length_le (by rw [HNP.out];omega)] at h9;exact h9
  have hF0:Hid (fstE t.pfErr 0=0):=rfl
  clear hK
  go_wp2
  go_loopw [64] (fun i wr=>∃q:Nat,q≤np+1∧i= .int .i64 q∧Hid (fstE t.pfErr q=0)∧Hid (KS wr w1.heap.size k (t.pre.map keyN))∧Below w1.heap.size w1 wr∧w1.heap.size<wr.heap.size) (fun i _=>np+1-(intOf i).toNat)
  case atStart=>exact ⟨0,by omega,rfl,hF0,hKF,hB,hz⟩
  case round=>
   clear hKF hF0 hB hz x0 x1 x2 hlt
   obtain ⟨q,hq,rfl,hF,hK,hB,hz⟩:=hrel
   obtain ⟨wp,rfl⟩:∃wp:World,wp=wr:=⟨_,rfl⟩
   obtain ⟨⟨x0,x1,x2⟩,hTm,hBw⟩:=HS.out _ hB
   by_cases hlt:q<np+1
   ·have hlt2:q<t.pre.length:=by rw [HNP.out];exact hlt
    obtain ⟨b1,o1,ax,y,cx,rfl,hcx,hy,hsy⟩:=hTm.pre.at_row hlt2
    have hyl:=hsy.le
    have hycap:=hsy.1
    have hyi:Hid (∀x∈y,i64 x):=hsy.i64
    have hyn:Hid (y.length<5000):=by have:=hsm.out y (List.mem_of_getElem? hy.out);unfold Hid;omega
    obtain ⟨we,hwe⟩:∃v,wErr y t.inputs=v:=⟨_,rfl⟩
    have HC:=Lib.hid (chkP_is hsy hwe)
    have HW:=Lib.hid hwe
    have HY:=Lib.hid hsy
    obtain ⟨n,hn⟩:∃n,y.length=n:=⟨_,rfl⟩
    have HN:=Lib.hid hn
    have HX:Hid (∀w',Below wp.heap.size wp w'→((w'.cell? ⟨w.heap.size,0,none⟩=some (.int .i64 t.inputs)∧w'.cell? ⟨w.heap.size,1,none⟩=some (.slice (some ⟨b1,o1,none⟩) (np+1) c)∧w'.cell? ⟨w.heap.size,2,none⟩=some (.slice b ns d))∧w'.cell? ⟨b1,o1+q,none⟩=some (.slice ax n cx))∧Sl (fun _=>False) w' (some ⟨b1,o1,none⟩) c t.pre∧Below w.heap.size w w'∧Below w1.heap.size w1 w'∧Hid (KS w' w1.heap.size k (t.pre.map keyN))∧w1.heap.size<w'.heap.size):=fun w' hb=>by
     have h9:=HS.out _ (hB.trans (hb.mono hB.size))
     exact ⟨⟨h9.1,(hb.cell (p:=⟨b1,o1+q,none⟩) (lt_of_cell hcx)).trans (hcx.trans (by rw [hn]))⟩,h9.2.1.pre,h9.2.2,hB.trans (hb.mono hB.size),hK.out.kept (hb.block _ hz),Nat.lt_of_lt_of_le hz hb.size⟩
    rw [hn] at hcx HC hyl hycap
    clear hwe hsy hn hTm
    go_wp2_with fail
    refine (HC.out).mono ?_
    rintro e w2 ⟨rfl,hb2⟩
    have hBB:Below wp.heap.size wp w2:=hb2
    clear HC hBw x0 x1 x2 hcx hB hK hz hb2
    obtain ⟨⟨⟨x0,x1,x2⟩,hcx⟩,hsl,hBw,hB,hK,hz⟩:=HX.out _ hBB
    by_cases hw0:we=0
    rotate_left
    ·have hwb:(we !=0)=true:=by simp [hw0]
     have hr:=HE.out.symm.trans (Tab.err_p hHd.out (fst_hit hlt2 hF.out (Tab.pf_w hy.out HW.out hw0) hw0) hw0)
     clear hw0
     subst hr
     go_wp2
     go_ret
     exact ⟨rfl,hBw⟩
    have hwb:(we !=0)=false:=by simp [hw0]
    have HW0:Hid (wErr y t.inputs=0):=HW.out.trans hw0
    clear hw0 HW
    cases q with
    |zero=>
     cases n with
     |zero=>
      have hF2:Hid (fstE t.pfErr (0+1)=0):=fst_next hF.out ((Tab.pf_0 hy.out HW0.out).trans (if_pos (List.length_eq_zero_iff.1 HN.out)))
      clear hF hsl
      go_wp2_with fail
      refine (asc_zero _ _ _ _).mono ?_
      rintro e w3 ⟨rfl,hb3⟩
      have hBB3:=hBB.trans (hb3.mono hBB.size)
      clear hBw x0 x1 x2 hcx hB hK hz hb3 hBB
      obtain ⟨⟨⟨x0,x1,x2⟩,hcx⟩, -, -,hB,hK,hz⟩:=HX.out _ hBB3
      clear hBB3
      go_wp2
      go_roundw
      case rel=>exact ⟨1,by omega,by go_num,hF2,hK,hB,hz⟩
      case measure=>simp [intOf]
     |succ m=>
      have hr:=HE.out.symm.trans (Tab.err_p hHd.out (fst_hit hlt2 hF.out ((Tab.pf_0 hy.out HW0.out).trans (if_neg (fun e=>by have:=HN.out;rw [e] at this;simp at this))) (by decide)) (by decide))
      subst hr
      go_wp2
      go_ret
      exact ⟨rfl,hBw⟩
    |succ p=>
     obtain ⟨b2,o2,au,u,cu,he,hcu,hu,hsu⟩:=hsl.at_row (show p<t.pre.length by omega)
     simp only [Option.some.injEq,Addr.mk.injEq,and_true] at he
     obtain ⟨rfl,rfl⟩:=he
     have hwq:IntKind.i64.wrap (p:Int)=(p:Int):=IntWalk.i64_in _ (by omega)
     have hq0:(0:Int)<(p:Int)+1:=by omega
     have hq1:((p:Int)+1==0)=false:=by simp;omega
     have hql:p<np+1:=by omega
     obtain ⟨z,hz9⟩:∃z,cmpW u y=z:=⟨_,rfl⟩
     have HC0:=asc_succ hsl hu hy hlt2 hz9
     rw [HNP.out] at HC0
     have HC:=Lib.hid HC0
     have HZ:=Lib.hid hz9
     clear hsu hz9 HC0 hcu hsl
     go_wp2_with fail
     refine (HC.out).mono ?_
     rintro e w3 ⟨rfl,hb3⟩
     have hBB3:=hBB.trans (hb3.mono hBB.size)
     clear HC hBw x0 x1 x2 hcx hB hK hz hb3 hBB
     obtain ⟨⟨⟨x0,x1,x2⟩,hcx⟩, -,hBw,hB,hK,hz⟩:=HX.out _ hBB3
     by_cases hzn:0≤z
     ·have hzd:decide (z<0)=false:=decide_eq_false (by omega)
      have hr:=HE.out.symm.trans (Tab.err_p hHd.out (fst_hit hlt2 hF.out (Tab.pf_c hu.out hy.out HW0.out (by rw [HZ.out];exact hzn)) (by decide)) (by decide))
      subst hr
      go_wp2
      go_ret
      exact ⟨rfl,hBw⟩
     have hzd:decide (z<0)=true:=decide_eq_true (by omega)
     have HP:=Lib.hid (Tab.pf_d hu.out hy.out HW0.out (by rw [HZ.out];exact hzn))
     clear hzn
     cases n with
     |zero=>
      have hF2:Hid (fstE t.pfErr (p+1+1)=0):=fst_next hF.out (HP.out.trans (if_neg (fun e=>e.1 (List.length_eq_zero_iff.1 HN.out))))
      clear hF
      go_wp2
      go_roundw
      case rel=>exact ⟨p+1+1,by omega,by go_num,hF2,hK,hB,hz⟩
      case measure=>simp [intOf];omega
     |succ m=>
      have hne:Hid (y≠[]):=fun e=>by have:=HN.out;rw [e] at this;simp at this
      have hdl:Hid (y.dropLast=y.take m):=by unfold Hid;rw [List.dropLast_eq_take,HN.out];rfl
      obtain ⟨v,hv⟩:∃v:Bool,decide (y.take m∈t.pre)=v:=⟨_,rfl⟩
      have hwm:IntKind.i64.wrap (m:Int)=(m:Int):=IntWalk.i64_in _ (by omega)
      have hmc:m≤cx:=by omega
      have hti:∀x∈y.take m,i64 x:=fun x hx=>hyi.out x (List.mem_of_mem_take hx)
      have htn:(y.take m).length<5000:=by rw [List.length_take];have:=hyn.out;omega
      have HC0:=tkey_any ((HY.out.below hBB3).taken (n:=m) (by rw [HN.out];omega)) (Lib.hid hti) (Lib.hid htn)
      rw [List.length_take,HN.out,Nat.min_eq_left (by omega)] at HC0
      have HC:=Lib.hid HC0
      have HV:=Lib.hid hv
      have hko:=Lib.hid (keyN_ok hti htn)
      clear HC0 hti htn hv
      go_wp2_with fail
      refine (HC.out).mono ?_
      rintro e w4 ⟨rfl,hb4⟩
      have hBB4:=hBB3.trans (hb4.mono hBB3.size)
      clear HC hBw x0 x1 x2 hcx hB hK hz hb4 hBB3
      obtain ⟨⟨⟨x0,x1,x2⟩,hcx⟩, -,hBw,hB,hK,hz⟩:=HX.out _ hBB4
      have hlk:=ksLook hK.out (keyN (y.take m)) hko.out
      rw [show decide (keyN (y.take m)∈t.pre.map keyN)=v by rw [←HV.out];exact decide_eq_decide.2 keyN_mem] at hlk
      clear hko
      cases v with
      |true=>
       have hF2:Hid (fstE t.pfErr (p+1+1)=0):=fst_next hF.out (HP.out.trans (if_neg (fun e=>e.2 (by rw [hdl.out];exact of_decide_eq_true HV.out))))
       clear hF
       go_wp2
       go_roundw
       case rel=>exact ⟨p+1+1,by omega,by go_num,hF2,hK,hB,hz⟩
       case measure=>simp [intOf];omega
      |false=>
       have hr:=HE.out.symm.trans (Tab.err_p hHd.out (fst_hit hlt2 hF.out (HP.out.trans (if_pos ⟨hne.out,by rw [hdl.out];exact of_decide_eq_false HV.out⟩)) (by decide)) (by decide))
       subst hr
       go_wp2
       go_ret
       exact ⟨rfl,hBw⟩
   have hFF:Hid (fstE t.pfErr t.pre.length=0):=by rw [show t.pre.length=q by rw [HNP.out];omega];exact hF
   have hG0:Hid (fstE t.sfErr 0=0):=rfl
   clear hF hK hz
   go_wp2
   go_loopw [108] (fun i wr=>∃q:Nat,q≤ns∧i= .int .i64 q∧Hid (fstE t.sfErr q=0)∧Below w1.heap.size w1 wr) (fun i _=>ns-(intOf i).toNat)
   case atStart=>exact ⟨0,by omega,rfl,hG0,hB⟩
   case round=>
    clear hG0 hB x0 x1 x2 hlt hBw hTm
    obtain ⟨q,hq,rfl,hF,hB⟩:=hrel
    obtain ⟨wp,rfl⟩:∃wp:World,wp=wr:=⟨_,rfl⟩
    obtain ⟨⟨x0,x1,x2⟩,hTm,hBw⟩:=HS.out _ hB
    by_cases hlt:q<ns
    ·have hlt2:q<t.suf.length:=by rw [HNS.out];exact hlt
     obtain ⟨b1,o1,ax,y,cx,rfl,hcx,hy,hsy⟩:=hTm.suf.at_row hlt2
     have hyl:=hsy.le
     obtain ⟨we,hwe⟩:∃v,wErr y t.inputs=v:=⟨_,rfl⟩
     have HC:=Lib.hid (chkP_is hsy hwe)
     have HW:=Lib.hid hwe
     obtain ⟨n,hn⟩:∃n,y.length=n:=⟨_,rfl⟩
     have HN:=Lib.hid hn
     have HX:Hid (∀w',Below wp.heap.size wp w'→(w'.cell? ⟨w.heap.size,0,none⟩=some (.int .i64 t.inputs)∧w'.cell? ⟨w.heap.size,1,none⟩=some (.slice a (np+1) c)∧w'.cell? ⟨w.heap.size,2,none⟩=some (.slice (some ⟨b1,o1,none⟩) ns d))∧Sl (fun _=>False) w' (some ⟨b1,o1,none⟩) d t.suf∧Below w.heap.size w w'∧Below w1.heap.size w1 w'):=fun w' hb=>by
      have h9:=HS.out _ (hB.trans (hb.mono hB.size))
      exact ⟨h9.1,h9.2.1.suf,h9.2.2,hB.trans (hb.mono hB.size)⟩
     rw [hn] at hcx HC hyl
     clear hwe hsy hn hTm
     go_wp2_with fail
     refine (HC.out).mono ?_
     rintro e w2 ⟨rfl,hb2⟩
     have hBB:Below wp.heap.size wp w2:=hb2
     clear HC hBw x0 x1 x2 hcx hB hb2
     obtain ⟨⟨x0,x1,x2⟩,hsl,hBw,hB⟩:=HX.out _ hBB
     by_cases hw0:we=0
     rotate_left
     ·have hwb:(we !=0)=true:=by simp [hw0]
      have hr:=HE.out.symm.trans (Tab.err_s hHd.out hFF.out (fst_hit hlt2 hF.out (Tab.sf_w hy.out HW.out hw0) hw0) hw0)
      clear hw0
      subst hr
      go_wp2
      go_ret
      exact ⟨rfl,hBw⟩
     have hwb:(we !=0)=false:=by simp [hw0]
     have HW0:Hid (wErr y t.inputs=0):=HW.out.trans hw0
     clear hw0 HW
     cases n with
     |zero=>
      have hr:=HE.out.symm.trans (Tab.err_s hHd.out hFF.out (fst_hit hlt2 hF.out (Tab.sf_e hy.out HW0.out (List.length_eq_zero_iff.1 HN.out)) (by decide)) (by decide))
      subst hr
      go_wp2
      go_ret
      exact ⟨rfl,hBw⟩
     |succ m=>
     have hne:Hid (y≠[]):=fun e=>by have:=HN.out;rw [e] at this;simp at this
     cases q with
     |zero=>
      have hF2:Hid (fstE t.sfErr (0+1)=0):=fst_next hF.out (Tab.sf_0 hy.out HW0.out hne.out)
      clear hF hsl
      go_wp2_with fail
      refine (asc_zero _ _ _ _).mono ?_
      rintro e w3 ⟨rfl,hb3⟩
      have hBB3:=hBB.trans (hb3.mono hBB.size)
      clear hBw x0 x1 x2 hB hb3 hBB
      obtain ⟨⟨x0,x1,x2⟩, -, -,hB⟩:=HX.out _ hBB3
      clear hBB3
      go_wp2
      go_roundw
      case rel=>exact ⟨1,by omega,by go_num,hF2,hB⟩
      case measure=>simp [intOf];omega
     |succ p=>
      obtain ⟨b2,o2,au,u,cu,he,hcu,hu,hsu⟩:=hsl.at_row (show p<t.suf.length by omega)
      simp only [Option.some.injEq,Addr.mk.injEq,and_true] at he
      obtain ⟨rfl,rfl⟩:=he
      have hwq:IntKind.i64.wrap (p:Int)=(p:Int):=IntWalk.i64_in _ (by omega)
      obtain ⟨z,hz9⟩:∃z,cmpW u y=z:=⟨_,rfl⟩
      have HC0:=asc_succ hsl hu hy hlt2 hz9
      rw [HNS.out] at HC0
      have HC:=Lib.hid HC0
      have HZ:=Lib.hid hz9
      clear hsu hz9 HC0 hcu hsl
      go_wp2_with fail
      refine (HC.out).mono ?_
      rintro e w3 ⟨rfl,hb3⟩
      have hBB3:=hBB.trans (hb3.mono hBB.size)
      clear HC hBw x0 x1 x2 hB hb3 hBB
      obtain ⟨⟨x0,x1,x2⟩, -,hBw,hB⟩:=HX.out _ hBB3
      by_cases hzn:0≤z
      ·have hzd:decide (z<0)=false:=decide_eq_false (by omega)
       have hr:=HE.out.symm.trans (Tab.err_s hHd.out hFF.out (fst_hit hlt2 hF.out ((Tab.sf_c hu.out hy.out HW0.out hne.out).trans (if_pos (by rw [HZ.out];exact hzn))) (by decide)) (by decide))
       subst hr
       go_wp2
       go_ret
       exact ⟨rfl,hBw⟩
      have hzd:decide (z<0)=true:=decide_eq_true (by omega)
      have hF2:Hid (fstE t.sfErr (p+1+1)=0):=fst_next hF.out ((Tab.sf_c hu.out hy.out HW0.out hne.out).trans (if_neg (by rw [HZ.out];exact hzn)))
      clear hF hzn
      go_wp2
      go_roundw
      case rel=>exact ⟨p+1+1,by omega,by go_num,hF2,hB⟩
      case measure=>simp [intOf];omega
    have hGG:Hid (fstE t.sfErr t.suf.length=0):=by rw [show t.suf.length=q by rw [HNS.out];omega];exact hF
    obtain ⟨ni,hni⟩:∃ni:Nat,t.inputs=(ni:Int)+1:=⟨(t.inputs-1).toNat,by omega⟩
    have HNI:=Lib.hid hni
    rw [hni] at x0 hi2
    clear hF hni
    by_cases hsn:ns<ni+1
    ·have hr:=HE.out.symm.trans (Tab.err_1 hHd.out hFF.out hGG.out (fun h=>by have:=(Tab.of_single hGG.out (n:=ni+1) (by rw [HNI.out];rfl) (by omega) h).1;rw [HNS.out] at this;omega))
     have hsd:(ns:Int)<(ni:Int)+1:=by omega
     subst hr
     go_wp2
     go_ret
     exact ⟨rfl,hBw⟩
    have hsd:¬(ns:Int)<(ni:Int)+1:=by omega
    obtain ⟨b1,o1,ax,y,cx,rfl,hcx,hy,hsy⟩:=hTm.suf.at_row (show ni<t.suf.length by rw [HNS.out];omega)
    have hyl:=hsy.le
    have hnl:(ni:Int)<(ns:Int):=by omega
    have hwn:IntKind.i64.wrap (ni:Int)=(ni:Int):=IntWalk.i64_in _ (by omega)
    have hyg:Hid (t.suf.getD (ni+1-1) []=y):=gd_of hy.out
    by_cases hy1:1<y.length
    ·have hr:=HE.out.symm.trans (Tab.err_1 hHd.out hFF.out hGG.out (fun h=>by have:=(Tab.of_single hGG.out (n:=ni+1) (by rw [HNI.out];rfl) (by omega) h).2;rw [hyg.out] at this;omega))
     have hyd:(1:Int)<(y.length:Int):=by omega
     clear hsy
     subst hr
     go_wp2
     go_ret
     exact ⟨rfl,hBw⟩
    have hyd:¬(1:Int)<(y.length:Int):=by omega
    have hss:Hid t.single:=Tab.single_of hGG.out (n:=ni+1) (by rw [HNI.out];rfl) (by rw [HNS.out];omega) (by rw [hyg.out];omega)
    have HR:=Lib.hid (HE.out.symm.trans (Tab.err_e hHd.out hFF.out hGG.out hss.out))
    obtain ⟨m1,hm1⟩:∃m,lng t.pre=m:=⟨_,rfl⟩
    obtain ⟨m2,hm2⟩:∃m,lng t.suf=m:=⟨_,rfl⟩
    have hm1b:m1≤1024:=by rw [←hm1];exact Tab.lng_1024 (Tab.pre_len hFF.out)
    have hm2b:m2≤1024:=by rw [←hm2];exact Tab.lng_1024 (Tab.suf_len hGG.out)
    have HC5:Hid (∀q,Calls Tryz.prog 122 #[.slice a (np+1) c] (wp.drewN q) fun e w''=>e= .returned (.int .i64 (m1:Int))∧w''=wp.drewN q):=fun q=>by
     have h9:=lng_any (hTm.pre.drewN q) hm1
     rw [HNP.out] at h9;exact h9
    have HC6:Hid (∀q,Calls Tryz.prog 122 #[.slice (some ⟨b1,o1,none⟩) ns d] (wp.drewN q) fun e w''=>e= .returned (.int .i64 (m2:Int))∧w''=wp.drewN q):=fun q=>by
     have h9:=lng_any (hTm.suf.drewN q) hm2
     rw [HNS.out] at h9;exact h9
    rw [hm1,hm2] at HR
    have hws:IntKind.i64.wrap ((m1:Int)+(m2:Int))=(m1:Int)+(m2:Int):=IntWalk.i64_in _ (by omega)
    clear hm1 hm2 hTm hsy
    go_wp2
    refine wp_quiet_fast (by kernel_rfl) (by kernel_rfl) ?_
    repeat (first|go_big_quiet_step ((go_at_call 122;first|with_reducible exact Calls.quiet_of_same (HC5.out _)|with_reducible exact Calls.quiet_of_same (HC6.out _)))|quiet_step ((go_at_call 122;first|with_reducible exact Calls.quiet_of_same (HC5.out _)|with_reducible exact Calls.quiet_of_same (HC6.out _))))
    refine wpQuiet_nil ?_
    intro _ hw'
    obtain ⟨nq,hw''⟩:=hw'
    subst hw''
    have hBf:=bl_drewN hBw nq
    by_cases h6:1023<m1+m2
    ·have hr:=HR.out.trans (if_pos h6)
     have h6d:(1023:Int)<(m1:Int)+(m2:Int):=by omega
     subst hr
     go_wp2
     go_ret
     exact ⟨rfl,hBf⟩
    have hr:=HR.out.trans (if_neg h6)
    have h6d:¬(1023:Int)<(m1:Int)+(m2:Int):=by omega
    subst hr
    go_wp2
    go_ret
    exact ⟨rfl,hBf⟩
end
end Go.Proofs.YtjmbphjgiodioaaGreatDoor
