/- Several texts, one behind the other. Conditions: as each of them says. -/
import Derived.Test.YtknhegdepbmmlaaGreatMt36
import Derived.Test.YtknhegdepbmmlaaGreatMt34
import Derived.Test.YtknhegdepbmmlaaGreatMt26
import Derived.Test.YtknhegdepbmmlaaGreatMt23
import Derived.Test.YtknhegdepbmmlaaGreatMt22
import Derived.Test.YtknhegdepbmmlaaGreatMt15
import Derived.Test.YtknhegdepbmmlaaGreatMt4
set_option maxRecDepth 100000
set_option maxHeartbeats 32000000
namespace Go.Proofs.YtknhegdepbmmlaaGreat
open Go.RowKit
theorem ret_i31 {x y:Int} (h:x=y):Ending.returned (.int .i64 x)= .returned (.int .i64 y):=by rw [h]
section
variable {M MT:Nat→Prop} {w:World} {an ao aT:Option Addr} {cn co cT:Nat} {m:Mach} {T:List Nd}
theorem check11_any (hm:Ma M w an cn ao co m):
    Calls Tryz.prog 20 #[maV m an cn ao co] w fun e w'=>e= .returned (.int .i64 m.minErr)∧Below w.heap.size w w':=by
 have hB0:=(Below.refl w.heap.size w).alloc (Nat.le_refl _) (maO m an cn ao co)
 have hx0:C4 (w.alloc (maO m an cn ao co)) w.heap.size an cn ao co m:=c4_new w
 have hz0:w.heap.size+1≤(w.alloc (maO m an cn ao co)).heap.size:=by simp
 have HM:=Lib.hid hm
 have HC:=Lib.hid (valid6_any (HM.out.below hB0))
 clear hm
 by_cases he:m.err=0
 rotate_left
 ·have heb:(m.err !=0)=true:=by simp [he]
  have hF:Hid (m.err=m.minErr):=(Mach.minErr_e he).symm
  clear he
  go_enter Tryz.func20,Tryz.ntmps20
  go_wp2_with fail
  generalize w.alloc (maO m an cn ao co)=w0 at*
  refine (HC.out).mono ?_
  rintro e w1 ⟨rfl,hb1⟩
  have hB1:=hB0.trans (hb1.mono (by omega))
  go_wp2
  go_ret
  exact ⟨ret_i31 hF.out,hB1⟩
 have heb:(m.err !=0)=false:=by simp [he]
 have HE:=Lib.hid he
 clear he
 go_enter Tryz.func20,Tryz.ntmps20
 go_wp2_with fail
 generalize w.alloc (maO m an cn ao co)=w0 at*
 refine (HC.out).mono ?_
 rintro e w1 ⟨rfl,hb1⟩
 have hB1:=hB0.trans (hb1.mono (by omega))
 have hx1:=hx0.below hb1 (by omega)
 have hz1:w.heap.size+1≤w1.heap.size:=by have:=hb1.size;omega
 have HC:=Lib.hid (minimalR_any (HM.out.below hB1))
 clear hB0 hx0 hz0 hb1
 go_wp2_with fail
 refine (HC.out).mono ?_
 rintro e w2 ⟨v,rfl,hv,hb2⟩
 have hB2:=hB1.trans (hb2.mono (by omega))
 clear HC hb2 hB1
 cases v with
 |true=>
  have hF:Hid ((0:Int)=m.minErr):=(Mach.minErr_0 HE.out hv.out.symm).symm
  go_wp2
  go_ret
  exact ⟨ret_i31 hF.out,hB2⟩
 |false=>
  have hF:Hid ((1:Int)=m.minErr):=(Mach.minErr_n HE.out hv.out.symm).symm
  go_wp2
  go_ret
  exact ⟨ret_i31 hF.out,hB2⟩
theorem check12_any (hm:Ma M w an cn ao co m) (hT:Sl MT w aT cT T) (hn:Hid (m.next.length<1000)) (hTn:Hid (T.length<1000000000)):
    Calls Tryz.prog 37 #[maV m an cn ao co,.agg #[.slice aT T.length cT]] w fun e w'=>e= .returned (.int .i64 (m.adsChk T))∧Below w.heap.size w w':=by
 have hB0:=(Below.refl w.heap.size w).alloc (Nat.le_refl _) (maO m an cn ao co)
 have hx0:C4 (w.alloc (maO m an cn ao co)) w.heap.size an cn ao co m:=c4_new w
 have hB1:=hB0.alloc (by simp) (.cells #[.slice aT T.length cT] 27)
 have hx1:=hx0.below ((Below.refl (w.heap.size+1) (w.alloc (maO m an cn ao co))).alloc (by simp) (.cells #[.slice aT T.length cT] 27)) (by omega)
 have ht1:((w.alloc (maO m an cn ao co)).alloc (.cells #[.slice aT T.length cT] 27)).cell? ⟨w.heap.size+1,0,none⟩=some (.slice aT T.length cT):=by simp
 have hz1:((w.alloc (maO m an cn ao co)).alloc (.cells #[.slice aT T.length cT] 27)).heap.size=w.heap.size+2:=by simp
 have l1:=hm.next.le
 have l2:=hm.out.le
 have l5:=hT.le
 have HM:=Lib.hid hm
 have HT:=Lib.hid hT
 have HCk:=Lib.hid (check11_any (hm.below hB1))
 clear hm hT hB0 hx0
 go_enter Tryz.func37,Tryz.ntmps37
 go_upto_region 1 with (fail)
 generalize (w.alloc (maO m an cn ao co)).alloc (.cells #[.slice aT T.length cT] 27)=w1 at*
 go_wp2_with fail
 refine (HCk.out).mono ?_
 rintro e w2 ⟨rfl,hb2⟩
 have hx2:=hx1.below hb2 (by omega)
 have hB2:=hB1.trans (hb2.mono (by omega))
 have ht2:=(hb2.cell (p:=⟨w.heap.size+1,0,none⟩) (by show w.heap.size+1<_;omega)).trans ht1
 have hz2:w.heap.size+2≤w2.heap.size:=by have:=hb2.size;omega
 clear hx1 hB1 hb2 hz1 HCk ht1
 by_cases he:m.minErr=0
 ·have he':(m.minErr !=0)=false:=by simp [he]
  have HE:=Lib.hid he
  have ok:Hid m.Ok:=Mach.ok_of_err m (Mach.minErr_ok HE.out).1
  clear he
  have HSt:=Lib.hid (states12_any (w:=w2) m.next.length (by have:=hn.out;omega))
  go_wp2_with fail
  refine (HSt.out).mono ?_
  rintro e w3 ⟨a3,c3,I3,rfl,hI3,hs3,hb3⟩
  have hx3:=hx2.below hb3 (by omega)
  have hB3:=hB2.trans (hb3.mono (by omega))
  have ht3:=(hb3.cell (p:=⟨w.heap.size+1,0,none⟩) (by show w.heap.size+1<_;omega)).trans ht2
  have hz3:w.heap.size+2≤w3.heap.size:=by have:=hb3.size;omega
  clear hx2 hB2 ht2 hz2 hb3 HSt
  go_upto_region 5 with (fail)
  by_cases hbig:4096<T.length
  ·have hR:Hid ((1:Int)=m.adsChk T):=by unfold Hid Mach.adsChk;rw [if_neg (by simp [HE.out]),if_pos hbig]
   have hbb:(((T.length:Nat):Int)>4096):=by omega
   have hbb2:decide (4096<(T.length:Int))=true:=decide_eq_true (by omega)
   refine wp_region_L (fun w'=>C4 w' w.heap.size an cn ao co m∧w'.cell? ⟨w.heap.size+1,0,none⟩=some (.slice aT T.length cT)) [0,1,2,3,4,5,6,7,8,9,10,11,12,13,14] (by kernel_rfl) ?_
   have hbd:=(Below.refl w3.heap.size w3).drew
   have hB4:=hB3.trans (hbd.mono (by omega))
   have hS4:=And.intro (hx3.below hbd (by omega)) ((hbd.cell (p:=⟨w.heap.size+1,0,none⟩) (by show w.heap.size+1<_;omega)).trans ht3)
   clear hx3 hB3 ht3 hbd hz3
   generalize w3.drew=w4 at*
   refine skL_on [0,1,2,3,4] ?_
   repeat (refine skL_take (v:= ?_) rfl ?_ ?_;rotate_left;(focus (intro w' hSw;(try dsimp only at hSw);go_simp;try with_reducible rfl));try simp only [Act.put,List.setIfInBounds_toArray,List.set_cons_zero,List.set_cons_succ])
   refine skL_off ?_
   refine wpAnyL_take (i:=5) (v:=undef) rfl (by kernel_rfl) (by kernel_rfl) (by kernel_rfl) (by kernel_rfl) (fun _ _ _ h=>h) (Or.inr ⟨by rfl,rfl⟩) (by assumption) ?_
   try simp only [Act.put,List.setIfInBounds_toArray,List.set_cons_zero,List.set_cons_succ]
   refine wpAnyL_take (i:=6) (v:=undef) rfl (by kernel_rfl) (by kernel_rfl) (by kernel_rfl) (by kernel_rfl) (fun _ _ _ h=>h) (Or.inr ⟨by rfl,rfl⟩) (by assumption) ?_
   try simp only [Act.put,List.setIfInBounds_toArray,List.set_cons_zero,List.set_cons_succ]
   refine wpAnyL_take (i:=7) (v:=undef) rfl (by kernel_rfl) (by kernel_rfl) (by kernel_rfl) (by kernel_rfl) (fun _ _ _ h=>h) (Or.inr ⟨by rfl,rfl⟩) (by assumption) ?_
   try simp only [Act.put,List.setIfInBounds_toArray,List.set_cons_zero,List.set_cons_succ]
   refine wpAnyL_take (i:=8) (v:=undef) rfl (by kernel_rfl) (by kernel_rfl) (by kernel_rfl) (by kernel_rfl) (fun _ _ _ h=>h) (Or.inr ⟨by rfl,rfl⟩) (by assumption) ?_
   try simp only [Act.put,List.setIfInBounds_toArray,List.set_cons_zero,List.set_cons_succ]
   refine wpAnyL_take (i:=10) (v:=undef) rfl (by kernel_rfl) (by kernel_rfl) (by kernel_rfl) (by kernel_rfl) (fun _ _ _ h=>h) (Or.inr ⟨by rfl,rfl⟩) (by assumption) ?_
   try simp only [Act.put,List.setIfInBounds_toArray,List.set_cons_zero,List.set_cons_succ]
   refine wpAnyL_take (i:=11) (v:=undef) rfl (by kernel_rfl) (by kernel_rfl) (by kernel_rfl) (by kernel_rfl) (fun _ _ _ h=>h) (Or.inr ⟨by rfl,rfl⟩) (by assumption) ?_
   try simp only [Act.put,List.setIfInBounds_toArray,List.set_cons_zero,List.set_cons_succ]
   refine wpAnyL_take (i:=12) (v:=undef) rfl (by kernel_rfl) (by kernel_rfl) (by kernel_rfl) (by kernel_rfl) (fun _ _ _ h=>h) (Or.inr ⟨by rfl,rfl⟩) (by assumption) ?_
   try simp only [Act.put,List.setIfInBounds_toArray,List.set_cons_zero,List.set_cons_succ]
   refine wpAnyL_skip (i:=9) (by kernel_rfl) rfl rfl (by assumption) ?_
   try simp only [Act.put,List.setIfInBounds_toArray,List.set_cons_zero,List.set_cons_succ]
   refine wpAnyL_skip (i:=13) (by kernel_rfl) rfl rfl (by assumption) ?_
   try simp only [Act.put,List.setIfInBounds_toArray,List.set_cons_zero,List.set_cons_succ]
   refine skL_on [14] ?_
   repeat (refine skL_take (v:= ?_) rfl ?_ ?_;rotate_left;(focus (intro w' hSw;(try dsimp only at hSw);go_simp;try with_reducible rfl));try simp only [Act.put,List.setIfInBounds_toArray,List.set_cons_zero,List.set_cons_succ])
   refine skL_off ?_
   refine wpAnyL_done (by kernel_rfl) ?_ _
   clear hS4
   go_wp2
   go_ret
   exact ⟨ret_i31 hR.out,hB4⟩
  have hbig2:=Lib.hid hbig
  have hbb:¬(((T.length:Nat):Int)>4096):=by omega
  have hbb2:decide (4096<(T.length:Int))=false:=decide_eq_false (by omega)
  refine wp_region_L (fun w'=>C4 w' w.heap.size an cn ao co m∧w'.cell? ⟨w.heap.size+1,0,none⟩=some (.slice aT T.length cT)) [0,1,2,3,4,5,6,7,8,10,11,12,13,14] (by kernel_rfl) ?_
  have hbd:=(Below.refl w3.heap.size w3).drew
  have hB4:=hB3.trans (hbd.mono (by omega))
  have hS4:=And.intro (hx3.below hbd (by omega)) ((hbd.cell (p:=⟨w.heap.size+1,0,none⟩) (by show w.heap.size+1<_;omega)).trans ht3)
  have hz4:w.heap.size+2≤w3.drew.heap.size:=hz3
  have hs4:=Lib.hid (hs3.below hbd)
  clear hx3 hB3 ht3 hbd hz3
  generalize w3.drew=w4 at*
  have hgok:Hid (GOk m.next.length ⟨I3,I3⟩):=allS_ok ok.out hI3.out hI3.out
  have HRi:=Lib.hid (right12_any (T.length+1) (at':=0) (g:=⟨I3,I3⟩) (HM.out.below hB4) (HT.out.below hB4) hs4.out hs4.out ok hgok (by show Hid (I3.length<1000);unfold Hid;rw [hI3.out,allS_len];exact hn.out) hTn (Lib.hid (Nat.zero_le _)) (Lib.hid (by omega)))
  have hgr:Hid (∀r,m.right T (T.length+1) 0 ⟨I3,I3⟩=r→m.right T (T.length+1) 0 ⟨allS m.next.length,allS m.next.length⟩=r):=fun r h=>by rw [←h,hI3.out]
  refine skL_on [0,1,2,3,4,5,6,7,8,10,11,12] ?_
  repeat (refine skL_take (v:= ?_) rfl ?_ ?_;rotate_left;(focus (intro w' hSw;(try dsimp only at hSw);go_simp;try with_reducible rfl));try simp only [Act.put,List.setIfInBounds_toArray,List.set_cons_zero,List.set_cons_succ])
  refine skL_off ?_
  refine wpAnyL_one (i:=9) (by kernel_rfl) rfl rfl (fun K hK=> ?_)
  go_simp
  refine (HRi.out).mono ?_
  rintro e w5 ⟨r,rfl,hr,hb5⟩
  have hB5:=hB4.trans (hb5.mono (by omega))
  have hS5:=And.intro (hS4.1.below hb5 (by omega)) ((hb5.cell (p:=⟨w.heap.size+1,0,none⟩) (by show w.heap.size+1<_;omega)).trans hS4.2)
  refine hK _ _ (fun _=>hS5) ?_
  clear hK K hB4 hS4 hz4 hs4 HRi hb5
  by_cases hrT:r=(T.length:Int)
  ·have hR : Hid ((0 : Int) = m.adsChk T) := by
     unfold Hid Mach.adsChk
     rw [if_neg (by simp [HE.out]),if_neg hbig2.out]
     rcases hr.out with ⟨n,h1,h2⟩|⟨h1,h2⟩
     ·rw [hgr.out _ h1,if_pos (by rw [show n=T.length by omega])]
     omega
   have hrb:(r !=(T.length:Int))=false:=by simp [hrT]
   clear hrT hr
   refine skL_on [13,14] ?_
   repeat (refine skL_take (v:= ?_) rfl ?_ ?_;rotate_left;(focus (intro w' hSw;(try dsimp only at hSw);go_simp;try with_reducible rfl));try simp only [Act.put,List.setIfInBounds_toArray,List.set_cons_zero,List.set_cons_succ])
   refine skL_off ?_
   refine wpAnyL_done (by kernel_rfl) ?_ _
   clear hS5
   go_wp2
   go_ret
   exact ⟨ret_i31 hR.out,hB5⟩
  have hR : Hid ((1 : Int) = m.adsChk T) := by
   unfold Hid Mach.adsChk
   rw [if_neg (by simp [HE.out]),if_neg hbig2.out]
   rcases hr.out with ⟨n,h1,h2⟩|⟨h1,h2⟩
   ·rw [hgr.out _ h1,if_neg (by simp;omega)]
   rw [if_neg]
   intro e
   rw [←hI3.out] at e
   rw [e] at h1
   simp at h1
  have hrb:(r !=(T.length:Int))=true:=by simp [hrT]
  clear hrT hr
  refine skL_on [13,14] ?_
  repeat (refine skL_take (v:= ?_) rfl ?_ ?_;rotate_left;(focus (intro w' hSw;(try dsimp only at hSw);go_simp;try with_reducible rfl));try simp only [Act.put,List.setIfInBounds_toArray,List.set_cons_zero,List.set_cons_succ])
  refine skL_off ?_
  refine wpAnyL_done (by kernel_rfl) ?_ _
  clear hS5
  go_wp2
  go_ret
  exact ⟨ret_i31 hR.out,hB5⟩
 have he':(m.minErr !=0)=true:=by simp [he]
 have hR:Hid (m.minErr=m.adsChk T):=by unfold Hid Mach.adsChk;rw [if_pos he]
 clear he
 go_wp2
 go_ret
 exact ⟨ret_i31 hR.out,hB2⟩
theorem wi_uniq {a:Nat} {c:Int} {x:Nd} (h:m.Wi T a c) (hx:T[a]? =some x) (h0:0≤x.inp) {i j:Nat} {p q:Kd} (hi:x.kids[i]? =some p) (hj:x.kids[j]? =some q) (e:p.out=q.out):i=j:=by
 obtain ⟨f,g,e',hr,hc,hg,hgi⟩:=h
 obtain ⟨h1,h2,f',h3⟩:=Mach.right_parts hr hx h0
 have hout:∀(j:Nat) (kj:Kd),x.kids[j]? =some kj→∃oj,(m.outsI x.inp.toNat g.cur)[j]? =some oj∧kj.out=oj:=fun j kj hj=>by
  have hjl:=some_lt hj
  obtain ⟨oj,hoj⟩:∃oj,(m.outsI x.inp.toNat g.cur)[j]? =some oj:=⟨_,List.getElem?_eq_getElem (by rw [←Mach.gParts_len,h2];exact hjl)⟩
  have:=h3 j ((oj,m.grp x.inp.toNat g.ini g.cur oj),kj) (List.getElem?_zip_eq_some.2 ⟨Mach.gParts_at hoj,hj⟩)
  exact ⟨oj,hoj,this.1⟩
 obtain ⟨o1,h4,h5⟩:=hout i p hi
 obtain ⟨o2,h6,h7⟩:=hout j q hj
 have hA:IAsc (m.outsI x.inp.toNat g.cur):=iset_asc _
 have a1:=iasc_count hA h4
 have a2:=iasc_count hA h6
 rw [←h5,e,h7] at a1
 omega
theorem word12_any (hm:Ma M w an cn ao co m) (hT:Sl MT w aT cT T) (hn:Hid (m.next.length<1000)) (hc:Hid (m.adsChk T=0)) (s:Nat) (hs:s<m.next.length):
    Calls Tryz.prog 38 #[maV m an cn ao co,.agg #[.slice aT T.length cT],.int .i64 s] w fun e w'=>∃(a:Option Addr) (c:Nat) (W:List Int) (l:Nat),e= .returned (.tuple #[.slice a W.length c,.int .i64 l,.int .i64 0])∧Hid (m.adsW T s=(W,l))∧Hid (W.length≤l∧l<T.length∧∃c,m.Wi T l c)∧Sl (fun k=>k<w.heap.size) w' a c W∧Below w.heap.size w w':=by
 have ok:Hid m.Ok:=Mach.ok_of_err m (Mach.minErr_ok (Mach.adsChk_0 hc.out).1).1
 have hT4:=Lib.hid (Mach.adsChk_0 hc.out).2.1
 have hTl:=hT4.out
 have hw0:=Lib.hid (Mach.wi_0 ok.out hc.out hs)
 have hB0:=(Below.refl w.heap.size w).alloc (Nat.le_refl _) (maO m an cn ao co)
 have hx0:C4 (w.alloc (maO m an cn ao co)) w.heap.size an cn ao co m:=c4_new w
 have hB1:=hB0.alloc (by simp) (.cells #[.slice aT T.length cT] 27)
 have hx1:=hx0.below ((Below.refl (w.heap.size+1) (w.alloc (maO m an cn ao co))).alloc (by simp) (.cells #[.slice aT T.length cT] 27)) (by omega)
 have ht1:((w.alloc (maO m an cn ao co)).alloc (.cells #[.slice aT T.length cT] 27)).cell? ⟨w.heap.size+1,0,none⟩=some (.slice aT T.length cT):=by simp
 have hz1:((w.alloc (maO m an cn ao co)).alloc (.cells #[.slice aT T.length cT] 27)).heap.size=w.heap.size+2:=by simp
 have n1:=ok.out.n1
 have l1:=hm.next.le
 have l2:=hm.out.le
 have l5:=hT.le
 have HM:=Lib.hid hm
 have HT:=Lib.hid hT
 have HCk0:=check12_any (hm.below hB1) (hT.below hB1) hn (Lib.hid (by omega))
 rw [hc.out] at HCk0
 have HCk:=Lib.hid HCk0
 have hW0:Hid (m.adsW T s=m.wordGo T T.length 0 s []):=rfl
 clear hm hT hB0 hx0 HCk0
 go_enter Tryz.func38,Tryz.ntmps38
 go_upto_region 1 with (fail)
 generalize (w.alloc (maO m an cn ao co)).alloc (.cells #[.slice aT T.length cT] 27)=w1 at*
 go_wp2_with fail
 refine (HCk.out).mono ?_
 rintro e w2 ⟨rfl,hb2⟩
 have hx2:=hx1.below hb2 (by omega)
 have hB2:=hB1.trans (hb2.mono (by omega))
 have ht2:=(hb2.cell (p:=⟨w.heap.size+1,0,none⟩) (by show w.heap.size+1<_;omega)).trans ht1
 have hz2:w.heap.size+2≤w2.heap.size:=by have:=hb2.size;omega
 clear hx1 hB1 hb2 hz1 HCk ht1
 have HS:Hid (∀w',Below w2.heap.size w2 w'→C4 w' w.heap.size an cn ao co m∧w'.cell? ⟨w.heap.size+1,0,none⟩=some (.slice aT T.length cT)):=fun w' h=>
  ⟨hx2.below h (by omega),(h.cell (p:=⟨w.heap.size+1,0,none⟩) (by show w.heap.size+1<_;omega)).trans ht2⟩
 have hs0:decide ((s:Int)<0)=false:=decide_eq_false (by omega)
 have hs1:decide (m.next.length≤s)=false:=decide_eq_false (by omega)
 have hba:=Below.refl w2.heap.size w2
 go_wp2_with fail
 go_loopw [2,10,11] (fun u v i wr=>∃(at' c fu:Nat) (a':Option Addr) (c':Nat) (W:List Int),u= .int .i64 c∧i= .int .i64 at'∧v= .slice a' W.length c'∧Hid (m.adsW T s=m.wordGo T fu at' c W)∧Hid (m.Wi T at' c)∧Hid (T.length≤at'+fu)∧Hid (W.length≤at')∧
  Ow w2.heap.size (fun k=>w2.heap.size≤k) wr 3 (.slice a' W.length c') W∧Below w2.heap.size w2 wr) (fun _ _ i _=>T.length-(intOf i).toNat)
 case atStart=>exact ⟨0,s,T.length,none,0,[],rfl,rfl,rfl,hW0,hw0,by unfold Hid;omega,by simp [Hid],Ow.nil,hba⟩
 case round=>
  clear hW0 hw0 hba
  obtain ⟨at',c,fu,a',c',W,rfl,rfl,rfl,hWg,hWi,hfu,hWl,hO,hB⟩:=hrel
  obtain ⟨wo,rfl⟩:∃wo:World,wo=wr:=⟨_,rfl⟩
  have hwl:=Lib.hid (Mach.wi_lt hWi.out)
  have hatl:=hwl.out.1
  have hcl:c<m.next.length:=by have:=hwl.out.2.2;omega
  have hSo:=HS.out _ hB
  have hto:=hSo.2
  have hm3:=hSo.1.2.2.2
  have hBo:=hB2.trans (hB.mono (by omega))
  obtain ⟨bT,oT,a1,c1,a2,c2,x,rfl,hx0,hx1,hx2',hxe,hxs,hxk,hxi⟩:=HT.out.at_nd hatl
  have HX1:Hid (∀w',Below w.heap.size w w'→w'.cell? ⟨bT,oT+at'*3+1,none⟩=some (.int .i64 x.inp)):=fun w' h=>(h.cell (p:=⟨bT,oT+at'*3+1,none⟩) (lt_of_cell hx1)).trans hx1
  have HX2:Hid (∀w',Below w.heap.size w w'→w'.cell? ⟨bT,oT+at'*3+2,none⟩=some (.slice a2 x.kids.length c2)):=fun w' h=>(h.cell (p:=⟨bT,oT+at'*3+2,none⟩) (lt_of_cell hx2')).trans hx2'
  clear hxs hx0 hx1 hx2'
  have hx1:=HX1.out _ hBo
  have HXK:=Lib.hid hxk
  have hxkl:=hxk.le
  clear hxk hSo
  by_cases h0:x.inp≥0
  ·obtain ⟨xn,hxn⟩:=Int.eq_ofNat_of_zero_le h0
   obtain ⟨hxi1,k,kd,n',hkd,hko,hkb,hkt,han,hnT,hWn⟩:=Mach.wi_step ok.out hWi.out hxe.out h0
   have hun:Hid (∀(j:Nat) (q:Kd),x.kids[j]? =some q→q.out=kd.out→j=k):=fun j q hq e=>wi_uniq hWi.out hxe.out h0 hq hkd e
   have hxin:xn<m.inputs.toNat:=by omega
   rw [hxn] at hx1 hko hkb hWn
   have h0x:(xn:Int)≥0:=by omega
   have hkl:=some_lt hkd
   have hko2:=Lib.hid hko
   have hkd2:=Lib.hid hkd
   have hkb2:=Lib.hid hkb
   have hkt2:=Lib.hid hkt
   have hWn2:=Lib.hid hWn
   have hxn2:=Lib.hid hxn
   obtain ⟨bn,on,bo,oo,rfl,rfl⟩:=(HM.out.addr ok.out)
   clear hko hkd hkb hkt hWn hxn h0 hxi1
   obtain ⟨b1,o1,d1,r1,b2,o2,d2,r2,nn,y,hn1,hn2,hn3,hn4,hn5,hy0,hy1,hnx,hot,hr1,hr2,hr3,hr4⟩:=HM.out.atS ok.out hcl hxin
   have HN:Hid (∀w',Below w.heap.size w w'→(w'.cell? ⟨bo,oo+c,none⟩=some (.slice (some ⟨b2,o2,none⟩) r2 d2)∧w'.cell? ⟨b2,o2+xn,none⟩=some (.int .i64 y))∧w'.cell? ⟨bn,on+c,none⟩=some (.slice (some ⟨b1,o1,none⟩) r1 d1)∧w'.cell? ⟨b1,o1+xn,none⟩=some (.int .i64 nn)):=fun w' h=>
    ⟨⟨(h.cell (p:=⟨bo,oo+c,none⟩) (lt_of_cell hn2)).trans hn2,(h.cell (p:=⟨b2,o2+xn,none⟩) (lt_of_cell hn4)).trans hn4⟩,(h.cell (p:=⟨bn,on+c,none⟩) (lt_of_cell hn1)).trans hn1,(h.cell (p:=⟨b1,o1+xn,none⟩) (lt_of_cell hn3)).trans hn3⟩
   clear hn1 hn2 hn3 hn4
   obtain ⟨⟨hq1,hq2⟩, -, -⟩:=HN.out _ hBo
   have hso:c<m.out.length:=by rw [ok.out.lo];exact hcl
   have hWl2:=hWl.out
   have hxn64:Hid (i64 (xn:Int)):=by have h:=hxi.out;rw [hxn2.out] at h;exact h
   have hz2o:=hB.size
   go_wp2_with (at_builtin;refine wpList_push_i (B:=w2.heap.size) (l:=W) (y:=(xn:Int)) rfl rfl Tryz.underlying45 info_int rfl rfl (hO.alloc _) (by simp [go_sem]) hxn64.out (by omega) (by simp;omega) ?_)
   intro a6 c6 W6 w6 hW6 hO6 hb6
   have hB6:=(hB.alloc hz2o (.cells #[.int .i64 (xn:Int)] 3)).trans hb6
   have hBw6:=hB2.trans (hB6.mono (by omega))
   have hS6:=HS.out _ hB6
   have ht6:=hS6.2
   have hm2:=hS6.1.2.2.1
   obtain ⟨-,hq3,hq4⟩:=HN.out _ hBw6
   have hk6:=HX2.out _ hBw6
   have hHK:=Lib.hid (HXK.out.below hBw6)
   have hWl6:Hid (W6.length=W.length+1):=by unfold Hid;rw [hW6.out];simp
   clear hO hB hBo hto hm3 hx1 hq1 hq2 hb6 hS6 hz2o
   obtain ⟨fu',hfe⟩:∃fu',fu=fu'+1:=⟨fu-1,by have:=hfu.out;omega⟩
   have hot':Hid (m.ot c xn=y):=hot
   have hnx':Hid (m.nx c xn=(nn:Int)):=hnx
   have hWg2:Hid (m.adsW T s=m.wordGo T fu' n' nn W6):=by
    unfold Hid
    rw [hWg.out,hfe,Mach.wordGo_on hxe.out (by rw [hxn2.out];exact Int.natCast_nonneg _) (Mach.kidOf_at hkd2.out (by rw [hko2.out,hxn2.out]) (by rw [hxn2.out];exact hkb2.out)),hkt2.out,hxn2.out,hW6.out]
    show m.wordGo T fu' n' (m.nx c xn) _=_
    rw [hnx'.out]
   have hWi2:Hid (m.Wi T n' nn):=by
    have h:=hWn2.out
    rw [show m.nx ((c:Int)).toNat ((xn:Int)).toNat=(nn:Int) from hnx'.out] at h
    exact h
   have hfu3:Hid (T.length≤n'+fu'):=by unfold Hid;have:=hfu.out;omega
   have hWl3:Hid (W6.length≤n'):=by unfold Hid;rw [hWl6.out];have:=hWl.out;omega
   have hkoy:Hid (kd.out=y):=by unfold Hid;rw [hko2.out,←hot'.out];rfl
   clear hfe hnx hot
   have hE0:Hid (at'=if k<0 then n' else at'):=by unfold Hid;rw [if_neg (by omega)]
   go_wp2_with fail
   go_loop [11,15] (fun u i=>∃j v:Nat,j≤x.kids.length∧i= .int .i64 j∧u= .int .i64 v∧Hid (v=if k<j then n' else at')) (fun _ i=>x.kids.length-(intOf i).toNat)
   case atStart=>exact ⟨0,at',by omega,rfl,rfl,hE0⟩
   case round=>
    clear hE0
    obtain ⟨j,v,hj,rfl,rfl,hv⟩:=hrel
    by_cases hjl:j<x.kids.length
    ·obtain ⟨bk,okk,q,rfl,hkc0,hkc1,hqe, -⟩:=hHK.out.at_kd hjl
     by_cases hqo:q.out=y
     ·have hqb:(q.out==y)=true:=by simp [hqo]
      have hjk:j=k:=hun.out j q hqe.out (by rw [hqo,hkoy.out])
      have hqt:q.to=(n':Int):=by
       have h:=hqe.out
       rw [hjk,hkd2.out] at h
       obtain rfl:=Option.some.inj h
       exact hkt2.out
      rw [hqt] at hkc1
      have hv2:Hid (n'=if k<j+1 then n' else at'):=by unfold Hid;rw [if_pos (by omega)]
      clear hqo hjk hqt
      go_wp2
      go_round
      case rel=>exact ⟨j+1,n',by omega,by go_num,rfl,hv2⟩
      case measure=>simp [intOf];omega
     have hqb:(q.out==y)=false:=by simp [hqo]
     have hjk:j≠k:=fun e=>hqo (by
      have h:=hqe.out
      rw [e,hkd2.out] at h
      obtain rfl:=Option.some.inj h
      exact hkoy.out)
     have hv2:Hid (v=if k<j+1 then n' else at'):=by
      unfold Hid;rw [hv.out]
      by_cases e:k<j
      ·rw [if_pos e,if_pos (by omega)]
      rw [if_neg e,if_neg (by omega)]
     clear hqo hjk
     go_wp2
     go_round
     case rel=>exact ⟨j+1,v,by omega,by go_num,rfl,hv2⟩
     case measure=>simp [intOf];omega
    have hvn:v=n':=by have h:=hv.out;rw [if_pos (by omega)] at h;exact h
    subst hvn
    go_wp2
    go_roundw
    case rel=>exact ⟨v,nn,fu',a6,c6,W6,rfl,rfl,rfl,hWg2,hWi2,hfu3,hWl3,hO6,hB6⟩
    case measure=>simp [intOf];omega
  have hF:Hid (m.adsW T s=(W,at')):=by unfold Hid;rw [hWg.out];exact Mach.wordGo_stop hxe.out (by omega)
  have hfr:=hO.fresh (n:=w.heap.size) (by omega)
  go_wp2
  exact bodyPost_ret (v:= .tuple #[.slice a' W.length c',.int .i64 at',.int .i64 0]) (by simp [results,Tryz.results38,go_sem]) rfl ⟨a',c',W,at',rfl,hF,Lib.hid ⟨hWl.out,hatl,_,hWi.out⟩,hfr,hBo⟩
end
theorem complB_no {L:List Nd} {k:Nat} {nd:Nd} (h:L[k]? =some nd) (h1:nd.inp= -1) (h2:nd.st.length≠1):complB L=false:=by
 unfold complB
 rw [Bool.and_eq_false_iff]
 exact .inl (List.all_eq_false.2 ⟨nd,List.mem_of_getElem? h,by simp [h1,h2]⟩)
theorem complB_end {L:List Nd} (h:∀(j:Nat) (nd:Nd),j<L.length→L[j]? =some nd→nd.inp≠ -1∨nd.st.length=1):complB L=decide (0<L.length):=by
 unfold complB
 have:L.all (fun x=>decide (x.inp≠ -1∨x.st.length=1))=true:=List.all_eq_true.2 fun x hx=>by
  obtain ⟨j,hj,rfl⟩:=List.getElem_of_mem hx
  exact decide_eq_true (h j _ hj (List.getElem?_eq_getElem hj))
 rw [this,Bool.true_and]
section
variable {M:Nat→Prop} {w:World} {a:Option Addr} {c:Nat} {L:List Nd}
theorem complete12_any (hs:Sl M w a c L) (hn:Hid (L.length<1000000)):
    Calls Tryz.prog 89 #[.agg #[.slice a L.length c]] w fun e w'=>e= .returned (.bool (complB L))∧Below w.heap.size w w':=by
 have hB0:=(Below.refl w.heap.size w).alloc (Nat.le_refl _) (.cells #[.slice a L.length c] 27)
 have ht0:(w.alloc (.cells #[.slice a L.length c] 27)).cell? ⟨w.heap.size,0,none⟩=some (.slice a L.length c):=by simp
 have hz0:w.heap.size<(w.alloc (.cells #[.slice a L.length c] 27)).heap.size:=by simp
 have hn1:=hn.out
 have HS:=Lib.hid hs
 have hle:=hs.le
 clear hs
 go_enter Tryz.func89,Tryz.ntmps89
 go_upto_region 1 with (fail)
 generalize w.alloc (.cells #[.slice a L.length c] 27)=w0 at*
 have HT:Hid (∀w',Below w0.heap.size w0 w'→w'.cell? ⟨w.heap.size,0,none⟩=some (.slice a L.length c)):=fun w' h=>(h.cell (p:=⟨w.heap.size,0,none⟩) hz0).trans ht0
 have hR0:Hid (∀(j:Nat) (nd:Nd),j<0→L[j]? =some nd→nd.inp≠ -1∨nd.st.length=1):=fun j nd h=>by omega
 have hBl0:=Below.refl w0.heap.size w0
 clear ht0
 go_wp2
 go_loopw [3] (fun i wr=>∃k:Nat,k≤L.length∧i= .int .i64 k∧Hid (∀(j:Nat) (nd:Nd),j<k→L[j]? =some nd→nd.inp≠ -1∨nd.st.length=1)∧Below w0.heap.size w0 wr) (fun i _=>L.length-(intOf i).toNat)
 case atStart=>exact ⟨0,by omega,rfl,hR0,hBl0⟩
 case round=>
  clear hR0 hBl0
  obtain ⟨k,hk,rfl,hR,hBl⟩:=hrel
  obtain ⟨wo,rfl⟩:∃wo:World,wo=wr:=⟨_,rfl⟩
  have hBo:=hB0.trans (hBl.mono (by omega))
  have ht:=HT.out _ hBl
  by_cases hlt:k<L.length
  ·obtain ⟨b,off,a1,c1,a2,c2,q,rfl,h1,h2,h3,hq,hqs, -, -⟩:=(HS.out.below hBo).at_nd hlt
   have hqsl:=hqs.le
   clear hqs
   by_cases hin:q.inp= -1
   ·have hin2:(q.inp== -1)=true:=by simp [hin]
    by_cases hst:q.st.length=1
    ·have hst2:(((q.st.length:Nat):Int) !=1)=false:=by simp [hst]
     have hR2:Hid (∀(j:Nat) (nd:Nd),j<k+1→L[j]? =some nd→nd.inp≠ -1∨nd.st.length=1):=fun j nd hj hnd=>by
      by_cases e:j=k
      ·subst e;rw [hq.out] at hnd;obtain rfl:=Option.some.inj hnd;exact .inr hst
      exact hR.out j nd (by omega) hnd
     clear hin hst
     go_wp2
     go_roundw
     case rel=>exact ⟨k+1,by omega,by go_num,hR2,hBl⟩
     case measure=>simp [intOf];omega
    have hst2:(((q.st.length:Nat):Int) !=1)=true:=by simp;omega
    have hC:Hid (complB L=false):=complB_no hq.out hin hst
    clear hin hst
    go_wp2
    go_ret
    exact ⟨by rw [hC.out];rfl,hBo⟩
   have hin2:(q.inp== -1)=false:=by simp [hin]
   have hR2:Hid (∀(j:Nat) (nd:Nd),j<k+1→L[j]? =some nd→nd.inp≠ -1∨nd.st.length=1):=fun j nd hj hnd=>by
    by_cases e:j=k
    ·subst e;rw [hq.out] at hnd;obtain rfl:=Option.some.inj hnd;exact .inl hin
    exact hR.out j nd (by omega) hnd
   clear hin
   go_wp2
   go_roundw
   case rel=>exact ⟨k+1,by omega,by go_num,hR2,hBl⟩
   case measure=>simp [intOf];omega
  have hC:Hid (complB L=decide (0<L.length)):=complB_end fun j nd hj=>hR.out j nd (by omega)
  by_cases h0:0<L.length
  ·have h0i:((L.length:Nat):Int)>0:=by omega
   have h0d:decide (0<L.length)=true:=decide_eq_true h0
   have hC2:Hid (complB L=true):=by unfold Hid;rw [hC.out,h0d]
   go_wp2
   go_ret
   exact ⟨by rw [hC2.out];rfl,hBo⟩
  have h0i:¬((L.length:Nat):Int)>0:=by omega
  have h0d:decide (0<L.length)=false:=decide_eq_false h0
  have hC2:Hid (complB L=false):=by unfold Hid;rw [hC.out,h0d]
  go_wp2
  go_ret
  exact ⟨by rw [hC2.out];rfl,hBo⟩
end
section
variable {M:Nat→Prop} {w:World} {an ao:Option Addr} {cn co:Nat} {m:Mach}
theorem build12_any (hm:Ma M w an cn ao co m) (hn:Hid (m.next.length<1000)):
    Calls Tryz.prog 48 #[maV m an cn ao co] w fun e w'=>∃(a:Option Addr) (c:Nat) (L:List Nd) (y:Bool) (e1:Int),e= .returned (.tuple #[.agg #[.slice a L.length c],.bool y,.int .i64 e1])∧
     Hid (m.adsB=(L,y,e1))∧Sl (fun k=>k<w.heap.size) w' a c L∧Below w.heap.size w w':=by
 have hB0:=(Below.refl w.heap.size w).alloc (Nat.le_refl _) (maO m an cn ao co)
 have hx0:C4 (w.alloc (maO m an cn ao co)) w.heap.size an cn ao co m:=c4_new w
 have hB1:=hB0.alloc (by simp) (.cells #[.slice none 0 0] 27)
 have hx1:=hx0.below ((Below.refl (w.heap.size+1) (w.alloc (maO m an cn ao co))).alloc (by simp) (.cells #[.slice none 0 0] 27)) (by omega)
 have hr1:Hid (((w.alloc (maO m an cn ao co)).alloc (.cells #[.slice none 0 0] 27)).heap[w.heap.size+1]? =some (.cells #[.slice none 0 0] 27 (0,0))):=by
  have:=heap_alloc_new (w.alloc (maO m an cn ao co)) (.cells #[.slice none 0 0] 27)
  unfold Hid
  simpa using this
 have hz1:((w.alloc (maO m an cn ao co)).alloc (.cells #[.slice none 0 0] 27)).heap.size=w.heap.size+2:=by simp
 have HM:=Lib.hid hm
 have hnl:=hm.next.le
 have HCk:=Lib.hid (check11_any (hm.below hB1))
 clear hm hB0 hx0
 go_enter Tryz.func48,Tryz.ntmps48
 go_upto_region 1 with (fail)
 generalize (w.alloc (maO m an cn ao co)).alloc (.cells #[.slice none 0 0] 27)=w1 at*
 go_upto_region 2 with (refine (HCk.out).mono ?_;rintro e w2 ⟨rfl,hb2⟩)
 have hx2:=hx1.below hb2 (by omega)
 have hB2:=hB1.trans (hb2.mono (by omega))
 have hr2:Hid (w2.heap[w.heap.size+1]? =some (.cells #[.slice none 0 0] 27 (0,0))):=(hb2.block _ (by omega)).trans hr1.out
 have hz2:w.heap.size+2≤w2.heap.size:=by have:=hb2.size;omega
 clear hx1 hB1 hr1 hb2 hz1 HCk
 have hc2:=cell_of_heap hr2.out
 have hf2:=frozen_of_heap hr2.out
 by_cases he:m.minErr=0
 ·have he':(m.minErr !=0)=false:=by simp [he]
  have HE:=Lib.hid he
  have ok:Hid m.Ok:=Mach.ok_of_err m (Mach.minErr_ok HE.out).1
  have n0:=ok.out.n0
  clear he
  have HSt:=Lib.hid (states12_any (w:=w2) m.next.length (by have:=hn.out;omega))
  obtain ⟨d0,d1,d2,d3⟩:=hx2
  go_wp2_with fail
  refine (HSt.out).mono ?_
  rintro e w5 ⟨a5,c5,I5,rfl,hI5,hI5s,hb5⟩
  have hx5:C4 w5 w.heap.size an cn ao co m:=C4.below ⟨d0,d1,d2,d3⟩ hb5 (by omega)
  have hB5:=hB2.trans (hb5.mono (by omega))
  have hr5:Hid (w5.heap[w.heap.size+1]? =some (.cells #[.slice none 0 0] 27 (0,0))):=(hb5.block _ (by omega)).trans hr2.out
  have hz5:w2.heap.size≤w5.heap.size:=hb5.size
  have hI5l:Hid (I5.length=m.next.length):=by unfold Hid;rw [hI5.out,allS_len]
  have hgok:Hid (GOk m.next.length ⟨I5,I5⟩):=⟨rfl,by show 0<List.length I5;rw [hI5l.out];exact ok.out.n0,fun s hs=>by
   have hs:s∈I5:=hs
   rw [hI5.out] at hs
   unfold allS at hs
   obtain ⟨k,hk,rfl⟩:=List.mem_map.1 hs
   have:=List.mem_range.1 hk
   omega⟩
  have hgr:Hid (m.grow 4097 [] ⟨I5,I5⟩ []=m.adsL):=by unfold Hid Mach.adsL;rw [hI5.out]
  have hMw:Ma (fun _=>False) w5 an cn ao co m:=HM.out.ext ⟨hB5.size,fun k hk _=>hB5.block k hk,fun k hk h=>h.elim⟩
  have HGr0:=grow12_any 4097 (g:=⟨I5,I5⟩) (u:=[]) (L:=[]) (aL:=none) (cL:=0) (au:=none) (cu:=0) (n0:=w.heap.size+2) (W:=fun _=>False) (w:=w5) (Nn.nil (by omega)) hMw (hI5s.anti fun k _ hm=>hm.elim (fun e=>e.elim) (fun e=>by omega)) (hI5s.anti fun k _ hm=>hm.elim) (Sl.nil (α:=Int) _ _ none (c:=0) (by unfold maxLen;omega)) ok hgok (by show Hid (List.length I5<1000);unfold Hid;rw [hI5l.out];exact hn.out) (fun y hy=>by simp at hy) (by simp [Hid]) (by simp [Hid])
  rw [hgr.out] at HGr0
  have HGr:=Lib.hid HGr0
  obtain ⟨d0,d1,d2,d3⟩:=hx5
  clear HGr0 hgr hgok hMw hI5s hc2 hf2 hr2 hB2 hb5 HSt
  go_wp2_with fail
  refine (HGr.out).mono ?_
  rintro e w7 ⟨W7,aL,cL,L,rfl,hN7,hR7, -,hE7,hb7⟩
  have hB7:=hB5.trans (hb7.mono (by omega))
  have hr7:Hid (w7.heap[w.heap.size+1]? =some (.cells #[.slice none 0 0] 27 (0,0))):=(hb7.block _ (by omega)).trans hr5.out
  have hz7:w.heap.size+2≤w7.heap.size:=hN7.old
  have hc7:=cell_of_heap hr7.out
  have hf7:=frozen_of_heap hr7.out
  have hLs:Hid (Sl (fun k=>k<w.heap.size+2) w7 aL cL L):=hN7.sl
  clear hB5 hr5 hz5 hI5 hI5l HGr hE7 hb7 hN7
  by_cases hfull:4096<L.length
  ·have hR : Hid (m.adsB = ([], false, 11)) := by
     unfold Hid Mach.adsB;rw [if_neg (by simp [HE.out]),if_pos]
     exact hR7.out.elim (fun e=>by rw [←e.1];exact hfull) (fun e=>e.2)
   have hfi:((L.length:Nat):Int)>4096:=by omega
   have hfd:decide (4096<((L.length:Nat):Int))=true:=decide_eq_true hfi
   go_wp2
   have hc3:=World.cell?_setCell_same w7 ⟨w.heap.size+1,0,none⟩ (.slice none 0 0) hc7
   have hBf:=hB7.setCell (p:=⟨w.heap.size+1,0,none⟩) (by simp) (.slice none 0 0)
   generalize w7.setCell ⟨w.heap.size+1,0,none⟩ (.slice none 0 0)=wf at*
   exact bodyPost_ret (v:= .tuple #[.agg #[.slice none 0 0],.bool false,.int .i64 11]) (by simp [results,Tryz.results48,go_sem,hc3]) rfl ⟨none,0,[],false,11,rfl,hR,Sl.nil _ _ _ (by unfold maxLen;omega),hBf⟩
  have hLe:Hid (L=m.adsL):=hR7.out.elim (fun e=>e.1) (fun e=>absurd e.1 hfull)
  have hR:Hid (m.adsB=(L,complB L,0)):=by unfold Hid Mach.adsB;rw [if_neg (by simp [HE.out]),←hLe.out,if_neg hfull]
  have hfi:¬((L.length:Nat):Int)>4096:=by omega
  have hfd:decide (4096<((L.length:Nat):Int))=false:=decide_eq_false hfi
  go_upto_region 9 with (fail)
  have hba:=(Below.refl w7.heap.size w7).alloc (Nat.le_refl _) (.cells #[.slice aL L.length cL] 27)
  have hB8:=hB7.trans (hba.mono (by omega))
  have hr8:Hid ((w7.alloc (.cells #[.slice aL L.length cL] 27)).heap[w.heap.size+1]? =some (.cells #[.slice none 0 0] 27 (0,0))):=(hba.block _ (by omega)).trans hr7.out
  have ht8:Hid ((w7.alloc (.cells #[.slice aL L.length cL] 27)).heap[w7.heap.size]? =some (.cells #[.slice aL L.length cL] 27 (0,0))):=heap_alloc_new _ _
  have hL8:Hid (Sl (fun k=>k<w.heap.size+2) (w7.alloc (.cells #[.slice aL L.length cL] 27)) aL cL L):=hLs.out.below hba
  have hs8:w7.heap.size<(w7.alloc (.cells #[.slice aL L.length cL] 27)).heap.size:=by simp
  clear hba hB7 hr7 hLs hc7 hf7
  generalize w7.alloc (.cells #[.slice aL L.length cL] 27)=w8 at*
  refine wp_region_T (fun w'=>w'.cell? ⟨w7.heap.size,0,none⟩=some (.slice aL L.length cL)) [0,1,4,5] (by kernel_rfl) ?_
  have hbd:=(Below.refl w8.heap.size w8).drew
  have hB9:=hB8.trans (hbd.mono (by omega))
  have hr9:Hid (w8.drew.heap[w.heap.size+1]? =some (.cells #[.slice none 0 0] 27 (0,0))):=hr8.out
  have ht9:Hid (w8.drew.heap[w7.heap.size]? =some (.cells #[.slice aL L.length cL] 27 (0,0))):=ht8.out
  have hL9:Hid (Sl (fun k=>k<w.heap.size+2) w8.drew aL cL L):=hL8.out.below hbd
  have hs9:w7.heap.size<w8.drew.heap.size:=hs8
  clear hbd hB8 hr8 ht8 hL8 hs8
  generalize w8.drew=w9 at*
  have hS9:=cell_of_heap ht9.out
  have HCo:=Lib.hid (complete12_any hL9.out (Lib.hid (by omega)))
  refine skT_on [0,1] ?_
  repeat (refine skT_take (v:= ?_) rfl ?_ ?_;rotate_left;(focus (intro w' hSw;(try dsimp only at hSw);go_simp;try with_reducible rfl));try simp only [Act.put,List.setIfInBounds_toArray,List.set_cons_zero,List.set_cons_succ])
  refine skT_off ?_
  refine wpAnyT_one (i:=2) (by kernel_rfl) rfl rfl (fun K hK=> ?_)
  go_simp
  refine (HCo.out).mono ?_
  rintro e w10 ⟨rfl,hb10⟩
  have hB10:=hB9.trans (hb10.mono (by omega))
  have hr10:Hid (w10.heap[w.heap.size+1]? =some (.cells #[.slice none 0 0] 27 (0,0))):=(hb10.block _ (by omega)).trans hr9.out
  have ht10:Hid (w10.heap[w7.heap.size]? =some (.cells #[.slice aL L.length cL] 27 (0,0))):=(hb10.block _ hs9).trans ht9.out
  have hL10:=Lib.hid (hL9.out.below hb10)
  have hS10:=cell_of_heap ht10.out
  refine hK _ _ (fun _=>hS10) ?_
  clear hK K HCo hB9 hr9 ht9 hL9 hs9 hS9 hb10
  have hc10:=cell_of_heap hr10.out
  have hf10:=frozen_of_heap hr10.out
  refine wpAnyT_one (i:=3) (by kernel_rfl) rfl rfl (fun K hK=> ?_)
  go_simp
  have hS11:=(World.cell?_setCell_other w10 ⟨w.heap.size+1,0,none⟩ ⟨w7.heap.size,0,none⟩ (.slice aL L.length cL) (fun e=>by have:=(Addr.mk.inj e).1;omega)).trans hS10
  refine hK _ _ (fun _=>hS11) ?_
  clear hK K
  have hc11:=World.cell?_setCell_same w10 ⟨w.heap.size+1,0,none⟩ (.slice aL L.length cL) hc10
  have hB11:=hB10.setCell (p:=⟨w.heap.size+1,0,none⟩) (by simp) (.slice aL L.length cL)
  have hL11:Sl (fun k=>k<w.heap.size) (w10.setCell ⟨w.heap.size+1,0,none⟩ (.slice aL L.length cL)) aL cL L:=(hL10.out.ext (Ext.setCell w10 (p:=⟨w.heap.size+1,0,none⟩) (by show w.heap.size+1<w.heap.size+2;omega) (.slice aL L.length cL))).anti (fun k _ hk=>by omega)
  generalize w10.setCell ⟨w.heap.size+1,0,none⟩ (.slice aL L.length cL)=wf at*
  refine skT_on [4,5] ?_
  repeat (refine skT_take (v:= ?_) rfl ?_ ?_;rotate_left;(focus (intro w' hSw;(try dsimp only at hSw);go_simp;try with_reducible rfl));try simp only [Act.put,List.setIfInBounds_toArray,List.set_cons_zero,List.set_cons_succ])
  refine skT_off ?_
  refine wpAnyT_done (by kernel_rfl) ?_ _
  go_wp2
  exact bodyPost_ret (v:= .tuple #[.agg #[.slice aL L.length cL],.bool (complB L),.int .i64 0]) (by simp [results,Tryz.results48,go_sem,hc11]) rfl ⟨aL,cL,L,complB L,0,rfl,hR,hL11,hB11⟩
 have he':(m.minErr !=0)=true:=by simp [he]
 have hR:Hid (m.adsB=([],false,m.minErr)):=by unfold Hid Mach.adsB;rw [if_pos he]
 clear he
 go_wp2
 have hc3:=World.cell?_setCell_same w2 ⟨w.heap.size+1,0,none⟩ (.slice none 0 0) hc2
 have hBf:=hB2.setCell (p:=⟨w.heap.size+1,0,none⟩) (by simp) (.slice none 0 0)
 generalize w2.setCell ⟨w.heap.size+1,0,none⟩ (.slice none 0 0)=wf at*
 exact bodyPost_ret (v:= .tuple #[.agg #[.slice none 0 0],.bool false,.int .i64 m.minErr]) (by simp [results,Tryz.results48,go_sem,hc3]) rfl ⟨none,0,[],false,m.minErr,rfl,hR,Sl.nil _ _ _ (by unfold maxLen;omega),hBf⟩
end
def Mach.partsW (m:Mach) (extra:Int):Mach×List (List Int)×List (List Int)×Int:=
 if m.err≠0 then (Mach.nothing,[],[],m.err) else
 if extra<0∨3<extra then (Mach.nothing,[],[],2) else
 if (uptW m.inputs (extra+1)).2≠0 then (Mach.nothing,[],[],(uptW m.inputs (extra+1)).2) else
 (m.minOf,m.minOf.covW.map Pc.word,(uptW m.inputs (extra+1)).1,0)
def PartsR (m:Mach) (extra:Int) (w:World) (e:Ending) (w':World):Prop:=∃(an:Option Addr) (cn:Nat) (ao:Option Addr) (co:Nat) (t:Mach) (aA:Option Addr) (cA:Nat) (A:List (List Int)) (aX:Option Addr) (cX:Nat) (X:List (List Int)) (e1:Int),
 e= .returned (.tuple #[maV t an cn ao co,.slice aA A.length cA,.slice aX X.length cX,.int .i64 e1])∧Hid (m.partsW extra=(t,A,X,e1))∧Ma (fun k=>k<w.heap.size) w' an cn ao co t∧Sl (fun k=>k<w.heap.size) w' aA cA A∧Sl (fun k=>k<w.heap.size) w' aX cX X∧Below w.heap.size w w'
theorem parts_no {m:Mach} {extra e1:Int} {w w':World} (h:m.partsW extra=(Mach.nothing,[],[],e1)) (hb:Below w.heap.size w w'):PartsR m extra w (.returned (.tuple #[.agg #[.int .i64 0,.int .i64 0,.slice none 0 0,.slice none 0 0],.slice none 0 0,.slice none 0 0,.int .i64 e1])) w':=
 ⟨none,0,none,0,Mach.nothing,none,0,[],none,0,[],e1,rfl,h,nothing_ma _ _,Sl.nil _ _ _ (by unfold maxLen;omega),Sl.nil _ _ _ (by unfold maxLen;omega),hb⟩
section
variable {M:Nat→Prop} {w:World} {an ao:Option Addr} {cn co:Nat} {m:Mach}
theorem parts29_any (hm:Ma M w an cn ao co m) (extra:Int):
    Calls Tryz.prog 47 #[maV m an cn ao co,.int .i64 extra] w (PartsR m extra w):=by
 have hB0:=(Below.refl w.heap.size w).alloc (Nat.le_refl _) (maO m an cn ao co)
 have hx0:C4 (w.alloc (maO m an cn ao co)) w.heap.size an cn ao co m:=c4_new w
 have hB1:=hB0.alloc (by simp) (.cells #[.int .i64 0,.int .i64 0,.slice none 0 0,.slice none 0 0] 24)
 have hx1:=hx0.below ((Below.refl (w.heap.size+1) (w.alloc (maO m an cn ao co))).alloc (by simp) (.cells #[.int .i64 0,.int .i64 0,.slice none 0 0,.slice none 0 0] 24)) (by omega)
 have hr1:Hid (((w.alloc (maO m an cn ao co)).alloc (.cells #[.int .i64 0,.int .i64 0,.slice none 0 0,.slice none 0 0] 24)).heap[w.heap.size+1]? =some (.cells #[.int .i64 0,.int .i64 0,.slice none 0 0,.slice none 0 0] 24 (0,0))):=by
  have:=heap_alloc_new (w.alloc (maO m an cn ao co)) (.cells #[.int .i64 0,.int .i64 0,.slice none 0 0,.slice none 0 0] 24)
  unfold Hid
  simpa using this
 have hz1:((w.alloc (maO m an cn ao co)).alloc (.cells #[.int .i64 0,.int .i64 0,.slice none 0 0,.slice none 0 0] 24)).heap.size=w.heap.size+2:=by simp
 have HM:=Lib.hid hm
 have l1:=hm.next.le
 have l2:=hm.out.le
 have HMi:=Lib.hid (minR_any (hm.below hB1))
 clear hm hB0 hx0
 go_enter Tryz.func47,Tryz.ntmps47
 go_upto_region 1 with (fail)
 generalize (w.alloc (maO m an cn ao co)).alloc (.cells #[.int .i64 0,.int .i64 0,.slice none 0 0,.slice none 0 0] 24)=w1 at*
 obtain ⟨d0,d1,d2,d3⟩:=hx1
 go_wp2_with fail
 refine (HMi.out).mono ?_
 rintro e w2 ⟨an',cn',ao',co',t,rfl,ht,hTm,hb2⟩
 have hx2:C4 w2 w.heap.size an cn ao co m:=C4.below ⟨d0,d1,d2,d3⟩ hb2 (by omega)
 have hr2:Hid (w2.heap[w.heap.size+1]? =some (.cells #[.int .i64 0,.int .i64 0,.slice none 0 0,.slice none 0 0] 24 (0,0))):=(hb2.block _ (by omega)).trans hr1.out
 have hB2:=hB1.trans (hb2.mono (by omega))
 have hz2:w.heap.size+2≤w2.heap.size:=by have:=hb2.size;omega
 have hTm2:=Lib.hid (hTm.ext (M':=fun k=>k<w.heap.size+2) (Ext.sub_only fun k _ e=>by omega))
 clear d0 d1 d2 d3 hr1 hB1 hb2 hTm HMi
 go_upto_region 2 with (fail)
 have hba:=(Below.refl w2.heap.size w2).alloc (Nat.le_refl _) (maO t an' cn' ao' co')
 have hc3:C4 (w2.alloc (maO t an' cn' ao' co')) w2.heap.size an' cn' ao' co' t:=c4_new w2
 have hx3:=hx2.below hba (by omega)
 have hr3:Hid ((w2.alloc (maO t an' cn' ao' co')).heap[w.heap.size+1]? =some (.cells #[.int .i64 0,.int .i64 0,.slice none 0 0,.slice none 0 0] 24 (0,0))):=(hba.block _ (by omega)).trans hr2.out
 have hB3:=hB2.trans (hba.mono (by omega))
 have hTm3:=Lib.hid (hTm2.out.below hba)
 have hz3:w2.heap.size<(w2.alloc (maO t an' cn' ao' co')).heap.size:=by simp
 clear hx2 hr2 hB2 hba hTm2
 generalize w2.alloc (maO t an' cn' ao' co')=w3 at*
 have HNo:Hid (∀(w':World),w'.heap[w.heap.size+1]? =some (.cells #[.int .i64 0,.int .i64 0,.slice none 0 0,.slice none 0 0] 24 (0,0))→Below w.heap.size w w'→
     (∀o,w'.frozen? ⟨w.heap.size+1,o,none⟩=false)∧Below w.heap.size w ((((w'.setCell ⟨w.heap.size+1,0,none⟩ (.int .i64 0)).setCell ⟨w.heap.size+1,1,none⟩ (.int .i64 0)).setCell ⟨w.heap.size+1,2,none⟩ (.slice none 0 0)).setCell ⟨w.heap.size+1,3,none⟩ (.slice none 0 0))∧
     ((((w'.setCell ⟨w.heap.size+1,0,none⟩ (.int .i64 0)).setCell ⟨w.heap.size+1,1,none⟩ (.int .i64 0)).setCell ⟨w.heap.size+1,2,none⟩ (.slice none 0 0)).setCell ⟨w.heap.size+1,3,none⟩ (.slice none 0 0)).heap[w.heap.size+1]? =some (.cells #[.int .i64 0,.int .i64 0,.slice none 0 0,.slice none 0 0] 24 (0,0))):=fun w' h hb=>
  ⟨fun o=>frozen_of_row _ _ _ _ _ h,Below.setCell (Below.setCell (Below.setCell (Below.setCell hb (by simp) _) (by simp) _) (by simp) _) (by simp) _,set4 h⟩
 by_cases he:m.err=0
 ·have he':(m.err !=0)=false:=by simp [he]
  have HE:=Lib.hid he
  have ok:Hid m.Ok:=Mach.ok_of_err m HE.out
  clear he
  by_cases hex:extra<0∨3<extra
  ·have hR:Hid (m.partsW extra=(Mach.nothing,[],[],2)):=by unfold Hid Mach.partsW;rw [if_neg (by simp [HE.out]),if_pos hex]
   obtain ⟨k0,k1,k2,k3⟩:=cells4 hr3.out
   obtain ⟨kf,hBf,hrf⟩:=HNo.out _ hr3.out hB3
   have hrf:=Lib.hid hrf
   by_cases h1:extra<0
   ·clear hex
    go_wp2
    obtain ⟨q0,q1,q2,q3⟩:=cells4 hrf.out
    generalize ((((w3.setCell ⟨w.heap.size+1,0,none⟩ (.int .i64 0)).setCell ⟨w.heap.size+1,1,none⟩ (.int .i64 0)).setCell ⟨w.heap.size+1,2,none⟩ (.slice none 0 0)).setCell ⟨w.heap.size+1,3,none⟩ (.slice none 0 0))=wf at*
    exact bodyPost_ret (v:= .tuple #[.agg #[.int .i64 0,.int .i64 0,.slice none 0 0,.slice none 0 0],.slice none 0 0,.slice none 0 0,.int .i64 2]) (by simp [results,Tryz.results47,go_sem,q0,q1,q2,q3]) rfl (parts_no hR.out hBf)
   have h2:3<extra:=hex.elim (fun e=>absurd e h1) id
   have h1d:decide (extra<0)=false:=decide_eq_false h1
   have h2d:decide (3<extra)=true:=decide_eq_true h2
   clear hex
   go_wp2
   obtain ⟨q0,q1,q2,q3⟩:=cells4 hrf.out
   generalize ((((w3.setCell ⟨w.heap.size+1,0,none⟩ (.int .i64 0)).setCell ⟨w.heap.size+1,1,none⟩ (.int .i64 0)).setCell ⟨w.heap.size+1,2,none⟩ (.slice none 0 0)).setCell ⟨w.heap.size+1,3,none⟩ (.slice none 0 0))=wf at*
   exact bodyPost_ret (v:= .tuple #[.agg #[.int .i64 0,.int .i64 0,.slice none 0 0,.slice none 0 0],.slice none 0 0,.slice none 0 0,.int .i64 2]) (by simp [results,Tryz.results47,go_sem,q0,q1,q2,q3]) rfl (parts_no hR.out hBf)
  have h1:decide (extra<0)=false:=decide_eq_false (fun e=>hex (.inl e))
  have h2:decide (3<extra)=false:=decide_eq_false (fun e=>hex (.inr e))
  have HX:=Lib.hid hex
  have hwr:IntKind.i64.wrap (extra+1)=extra+1:=IntWalk.i64_in _ (by omega)
  have HUp:=Lib.hid (uptoR_any (w:=w3) m.inputs (extra+1))
  have hx10:=hx3.1
  clear hex
  go_wp2_with fail
  refine (HUp.out).mono ?_
  rintro e w4 ⟨aX,cX,X,e2,rfl,hX,hXs,hb4⟩
  have hB4:=hB3.trans (hb4.mono (by omega))
  have hr4:Hid (w4.heap[w.heap.size+1]? =some (.cells #[.int .i64 0,.int .i64 0,.slice none 0 0,.slice none 0 0] 24 (0,0))):=(hb4.block _ (by omega)).trans hr3.out
  have hc4:=hc3.below hb4 hz3
  have hTm4:=Lib.hid (hTm3.out.below hb4)
  have HXs:=Lib.hid (hXs.anti (M':=fun k=>k<w.heap.size+2) (fun k _ e=>by omega))
  have hz4:w2.heap.size<w4.heap.size:=by have:=hb4.size;omega
  clear hx3 hr3 hB3 hc3 hTm3 hb4 HUp hXs hx10 hz3
  by_cases he2:e2=0
  ·have he2b:(e2 !=0)=false:=by simp [he2]
   have hte:Hid (t.err=0):=by
    unfold Hid;rw [ht.out,Mach.minOf_eq HE.out];exact Mach.err_of_ok _ (Mach.minF_ok ok.out)
   have HE2:=Lib.hid he2
   clear he2
   have HCv:=Lib.hid (coverR_any hTm4.out hte)
   obtain ⟨d0,d1,d2,d3⟩:=hc4
   go_wp2_with fail
   refine (HCv.out).mono ?_
   rintro e w5 ⟨aA,cA,A,rfl,hA,hAs,hb5⟩
   have hB5:=hB4.trans (hb5.mono (by omega))
   have hr5:Hid (w5.heap[w.heap.size+1]? =some (.cells #[.int .i64 0,.int .i64 0,.slice none 0 0,.slice none 0 0] 24 (0,0))):=(hb5.block _ (by omega)).trans hr4.out
   have hc5:C4 w5 w2.heap.size an' cn' ao' co' t:=C4.below ⟨d0,d1,d2,d3⟩ hb5 hz4
   have hTm5:=Lib.hid (hTm4.out.below hb5)
   have HXs5:=Lib.hid (HXs.out.below hb5)
   have HAs5:=Lib.hid (hAs.anti (M':=fun k=>k<w.heap.size+2) (fun k _ e=>by omega))
   have hR:Hid (m.partsW extra=(t,A,X,0)):=by
    unfold Hid Mach.partsW
    rw [if_neg (by simp [HE.out]),if_neg HX.out,hX.out,if_neg (by simp [HE2.out]),←ht.out,←hA.out]
   clear d0 d1 d2 d3 hB4 hr4 hTm4 HXs hAs hb5 HCv
   obtain ⟨k0,k1,k2,k3⟩:=cells4 hr5.out
   have kf:∀o,w5.frozen? ⟨w.heap.size+1,o,none⟩=false:=fun o=>frozen_of_row _ _ _ _ _ hr5.out
   obtain ⟨d0,d1,d2,d3⟩:=hc5
   have hex:Ext (fun k=>k<w.heap.size+2) (fun k=>k<w.heap.size+2) w5 ((((w5.setCell ⟨w.heap.size+1,0,none⟩ (.int .i64 t.inputs)).setCell ⟨w.heap.size+1,1,none⟩ (.int .i64 t.start)).setCell ⟨w.heap.size+1,2,none⟩ (.slice an' t.next.length cn')).setCell ⟨w.heap.size+1,3,none⟩ (.slice ao' t.out.length co')):=
    (((Ext.setCell _ (by show w.heap.size+1<_;omega) _).trans (Ext.setCell _ (by show w.heap.size+1<_;omega) _)).trans (Ext.setCell _ (by show w.heap.size+1<_;omega) _)).trans (Ext.setCell _ (by show w.heap.size+1<_;omega) _)
   have hBf:Below w.heap.size w ((((w5.setCell ⟨w.heap.size+1,0,none⟩ (.int .i64 t.inputs)).setCell ⟨w.heap.size+1,1,none⟩ (.int .i64 t.start)).setCell ⟨w.heap.size+1,2,none⟩ (.slice an' t.next.length cn')).setCell ⟨w.heap.size+1,3,none⟩ (.slice ao' t.out.length co')):=
    Below.setCell (Below.setCell (Below.setCell (Below.setCell hB5 (by simp) _) (by simp) _) (by simp) _) (by simp) _
   have hrf:=Lib.hid (set4 (y0:= .int .i64 t.inputs) (y1:= .int .i64 t.start) (y2:= .slice an' t.next.length cn') (y3:= .slice ao' t.out.length co') hr5.out)
   go_wp2
   obtain ⟨q0,q1,q2,q3⟩:=cells4 hrf.out
   have hT6:=Lib.hid ((hTm5.out.ext hex).ext (M':=fun k=>k<w.heap.size) (Ext.sub_only fun k _ e=>by omega))
   have hX6:=Lib.hid ((HXs5.out.ext hex).anti (M':=fun k=>k<w.heap.size) fun k _ e=>by omega)
   have hA6:=Lib.hid ((HAs5.out.ext hex).anti (M':=fun k=>k<w.heap.size) fun k _ e=>by omega)
   clear hrf hex
   generalize ((((w5.setCell ⟨w.heap.size+1,0,none⟩ (.int .i64 t.inputs)).setCell ⟨w.heap.size+1,1,none⟩ (.int .i64 t.start)).setCell ⟨w.heap.size+1,2,none⟩ (.slice an' t.next.length cn')).setCell ⟨w.heap.size+1,3,none⟩ (.slice ao' t.out.length co'))=wf at*
   exact bodyPost_ret (v:= .tuple #[maV t an' cn' ao' co',.slice aA A.length cA,.slice aX X.length cX,.int .i64 0]) (by simp [results,Tryz.results47,go_sem,q0,q1,q2,q3]) rfl ⟨an',cn',ao',co',t,aA,cA,A,aX,cX,X,0,rfl,hR,hT6.out,hA6.out,hX6.out,hBf⟩
  have he2b:(e2 !=0)=true:=by simp [he2]
  have hR:Hid (m.partsW extra=(Mach.nothing,[],[],e2)):=by unfold Hid Mach.partsW;rw [if_neg (by simp [HE.out]),if_neg HX.out,hX.out,if_pos he2]
  clear he2
  obtain ⟨k0,k1,k2,k3⟩:=cells4 hr4.out
  obtain ⟨kf,hBf,hrf⟩:=HNo.out _ hr4.out hB4
  have hrf:=Lib.hid hrf
  go_wp2
  obtain ⟨q0,q1,q2,q3⟩:=cells4 hrf.out
  generalize ((((w4.setCell ⟨w.heap.size+1,0,none⟩ (.int .i64 0)).setCell ⟨w.heap.size+1,1,none⟩ (.int .i64 0)).setCell ⟨w.heap.size+1,2,none⟩ (.slice none 0 0)).setCell ⟨w.heap.size+1,3,none⟩ (.slice none 0 0))=wf at*
  exact bodyPost_ret (v:= .tuple #[.agg #[.int .i64 0,.int .i64 0,.slice none 0 0,.slice none 0 0],.slice none 0 0,.slice none 0 0,.int .i64 e2]) (by simp [results,Tryz.results47,go_sem,q0,q1,q2,q3]) rfl (parts_no hR.out hBf)
 have he':(m.err !=0)=true:=by simp [he]
 have hR:Hid (m.partsW extra=(Mach.nothing,[],[],m.err)):=by unfold Hid Mach.partsW;rw [if_pos he]
 clear he
 obtain ⟨k0,k1,k2,k3⟩:=cells4 hr3.out
 obtain ⟨kf,hBf,hrf⟩:=HNo.out _ hr3.out hB3
 have hrf:=Lib.hid hrf
 go_wp2
 obtain ⟨q0,q1,q2,q3⟩:=cells4 hrf.out
 generalize ((((w3.setCell ⟨w.heap.size+1,0,none⟩ (.int .i64 0)).setCell ⟨w.heap.size+1,1,none⟩ (.int .i64 0)).setCell ⟨w.heap.size+1,2,none⟩ (.slice none 0 0)).setCell ⟨w.heap.size+1,3,none⟩ (.slice none 0 0))=wf at*
 exact bodyPost_ret (v:= .tuple #[.agg #[.int .i64 0,.int .i64 0,.slice none 0 0,.slice none 0 0],.slice none 0 0,.slice none 0 0,.int .i64 m.err]) (by simp [results,Tryz.results47,go_sem,q0,q1,q2,q3]) rfl (parts_no hR.out hBf)
end
theorem Sm6.small {l:List (List Int)} (h:Sm6 l):Small9 l:=⟨by have:=h.1;omega,fun r hr=>by have:=h.2 r hr;omega⟩
theorem Mach.ids_at {m:Mach} {T:List Nd} {s:Nat} (h:s<m.next.length):(m.ids T)[s]? =some (srt cmpW (m.idW T (s:Int))):=by
 unfold ids;rw [List.getElem?_map,List.getElem?_range h];rfl
theorem Mach.ids_len {m:Mach} {T:List Nd}:(m.ids T).length=m.next.length:=by unfold ids;simp
section
variable {M MT:Nat→Prop} {w:World} {an ao aT:Option Addr} {cn co cT:Nat} {m:Mach} {T:List Nd}
theorem identify31_any (hm:Ma M w an cn ao co m) (hT:Sl MT w aT cT T) (hn:Hid (m.next.length<1000)) (hTn:Hid (T.length<1000000000)):
    Calls Tryz.prog 13 #[maV m an cn ao co,.agg #[.slice aT T.length cT]] w fun e w'=>∃(a:Option Addr) (c:Nat) (L:List (List (List Int))) (e1:Int),e= .returned (.tuple #[.slice a L.length c,.int .i64 e1])∧Hid (m.idE T=(L,e1))∧Sl (fun k=>k<w.heap.size) w' a c L∧Below w.heap.size w w':=by
 have hB0:=(Below.refl w.heap.size w).alloc (Nat.le_refl _) (maO m an cn ao co)
 have hx0:C4 (w.alloc (maO m an cn ao co)) w.heap.size an cn ao co m:=c4_new w
 have hB1:=hB0.alloc (by simp) (.cells #[.slice aT T.length cT] 27)
 have hx1:=hx0.below ((Below.refl (w.heap.size+1) (w.alloc (maO m an cn ao co))).alloc (by simp) (.cells #[.slice aT T.length cT] 27)) (by omega)
 have ht1:((w.alloc (maO m an cn ao co)).alloc (.cells #[.slice aT T.length cT] 27)).cell? ⟨w.heap.size+1,0,none⟩=some (.slice aT T.length cT):=by simp
 have hz1:((w.alloc (maO m an cn ao co)).alloc (.cells #[.slice aT T.length cT] 27)).heap.size=w.heap.size+2:=by simp
 have l1:=hm.next.le
 have l2:=hm.out.le
 have l5:=hT.le
 have HM:=Lib.hid hm
 have HT:=Lib.hid hT
 have HCk:=Lib.hid (check12_any (hm.below hB1) (hT.below hB1) hn hTn)
 clear hm hT hB0 hx0
 go_enter Tryz.func13,Tryz.ntmps13
 go_upto_region 1 with (fail)
 generalize (w.alloc (maO m an cn ao co)).alloc (.cells #[.slice aT T.length cT] 27)=w1 at*
 go_wp2_with fail
 refine (HCk.out).mono ?_
 rintro e w2 ⟨rfl,hb2⟩
 have hx2:=hx1.below hb2 (by omega)
 have hB2:=hB1.trans (hb2.mono (by omega))
 have ht2:=(hb2.cell (p:=⟨w.heap.size+1,0,none⟩) (by show w.heap.size+1<_;omega)).trans ht1
 have hz2:w.heap.size+2≤w2.heap.size:=by have:=hb2.size;omega
 clear hx1 hB1 hb2 hz1 HCk ht1
 by_cases he:m.adsChk T=0
 ·have he':(m.adsChk T !=0)=false:=by simp [he]
  have HE:=Lib.hid he
  have ok:Hid m.Ok:=Mach.ok_of_err m (Mach.minErr_ok (Mach.adsChk_0 HE.out).1).1
  have n1:=ok.out.n1
  clear he
  have HS:Hid (∀w',Below w2.heap.size w2 w'→(C4 w' w.heap.size an cn ao co m∧w'.cell? ⟨w.heap.size+1,0,none⟩=some (.slice aT T.length cT))∧Below w.heap.size w w'):=fun w' h=>
   ⟨⟨hx2.below h (by omega),(h.cell (p:=⟨w.heap.size+1,0,none⟩) (by show w.heap.size+1<_;omega)).trans ht2⟩,hB2.trans (h.mono (by omega))⟩
  have hba:=Below.refl w2.heap.size w2
  have hO0:Ox (α:=List (List Int)) w2.heap.size w2.heap.size w2 22 (.slice none 0 0) []:=Ox.nil
  clear hx2 hB2 ht2
  go_wp2_with fail
  go_loopw [7,8] (fun v i wr=>∃(s:Nat) (a':Option Addr) (c':Nat) (K:List (List (List Int))),s≤m.next.length∧i= .int .i64 s∧v= .slice a' K.length c'∧Hid (K=(m.ids T).take s)∧Ox w2.heap.size w2.heap.size wr 22 (.slice a' K.length c') K∧Below w2.heap.size w2 wr) (fun _ i _=>m.next.length-(intOf i).toNat)
  case atStart=>exact ⟨0,none,0,[],by omega,rfl,rfl,rfl,hO0,hba⟩
  case round=>
   clear hO0 hba
   obtain ⟨s,a',c',K,hsn,rfl,rfl,hK,hO,hB⟩:=hrel
   obtain ⟨wo,rfl⟩:∃wo:World,wo=wr:=⟨_,rfl⟩
   have hSo:=HS.out _ hB
   have hto:=hSo.1.2
   have hm0:=hSo.1.1
   have hm02:=hm0.2.2.1
   have hzo:=hB.size
   have hKl:Hid (K.length=s):=by unfold Hid;rw [hK.out,List.length_take,Mach.ids_len];omega
   by_cases hlt:s<m.next.length
   ·have hs1000:s<1000:=by have:=hn.out;omega
    have HWd:=Lib.hid (word12_any (HM.out.below hSo.2) (HT.out.below hSo.2) hn HE s hlt)
    clear hSo
    go_wp2_with fail
    refine (HWd.out).mono ?_
    rintro e w3 ⟨aW,cW,W,l,rfl,hW,hWl,hWs,hb3⟩
    have hB3:=hB.trans (hb3.mono hzo)
    have hS3:=HS.out _ hB3
    have ht3:=hS3.1.2
    have hll:=hWl.out.2.1
    have hWll:=hWl.out.1
    have hT4:=(Mach.adsChk_0 HE.out).2.1
    obtain ⟨bT,oT,a1,c1,a2,c2,x,rfl,hq0, -, -,hxe,hxs, -, -⟩:=HT.out.at_nd hll
    have hq3:=(hS3.2.cell (p:=⟨bT,oT+l*3,none⟩) (lt_of_cell hq0)).trans hq0
    have HX:=Lib.hid hxs
    have hxsl:=hxs.le
    have hnode:=Lib.hid (Mach.wi_node hWl.out.2.2.choose_spec hxe.out)
    have hxn:=hnode.out.2
    have hWsl:=hWs.le
    obtain ⟨P,hP⟩:∃P:List (List Int),Hid (P=if 0<W.length∨x.st.length=1 then [W] else []):=⟨_,rfl⟩
    have hid:Hid (m.idW T (s:Int)=P++m.idO s x.st):=by unfold Hid;rw [hP.out];exact Mach.idW_eq hW.out hxe.out
    have hsm:Hid (Sm6 (P++m.idO s x.st)):=by unfold Hid;rw [hP.out];exact small_id (by omega) (by have:=hn.out;omega) hn.out
    have hPl:Hid (P.length≤1):=by unfold Hid;rw [hP.out];split<;>simp
    have HO:=Lib.hid hO
    have HKe:=Lib.hid hK.out
    have HWs:=Lib.hid hWs
    clear hq0 hxs hO hS3 hto hm0 hm02 HWd hWs hWl hK
    have hcase:(0<W.length∧Hid (P=[W]))∨(¬0<W.length∧Hid (P=[W])∧((x.st.length:Int)==1)=true)∨(¬0<W.length∧Hid (P=[])∧((x.st.length:Int)==1)=false):=by
     by_cases h1:0<W.length
     ·exact .inl ⟨h1,by unfold Hid;rw [hP.out,if_pos (.inl h1)]⟩
     by_cases h2:x.st.length=1
     ·exact .inr (.inl ⟨h1,by unfold Hid;rw [hP.out,if_pos (.inr h2)],by simp [h2]⟩)
     exact .inr (.inr ⟨h1,by unfold Hid;rw [hP.out,if_neg (by omega)],by simp;omega⟩)
    have hzw3:=hb3.size
    have hWn:Sl (fun k=>(Value.slice none 0 0).ownBlock=some k∨k<wo.heap.size) w3 aW cW W:=HWs.out.anti fun k _ hm=>by
     rcases hm with hm|hm
     ·simp [Value.ownBlock] at hm
     exact hm
    have hOn:Ox (α:=List Int) wo.heap.size wo.heap.size w3 45 (.slice none 0 0) []:=Ox.nil
    have hlast:Hid (∀K2:List (List Int),K2=P++m.idO s x.st→(m.ids T)[s]? =some (srt cmpW K2)):=fun K2 h=>by rw [Mach.ids_at hlt,hid.out,h]
    rcases hcase with ⟨hw0,hPe⟩|⟨hw0,hPe,hw1⟩|⟨hw0,hPe,hw1⟩
    all_goals
     have hw00:=hw0
     (first
      | (go_wp2_with (at_builtin; refine wpList_push_x (n0 := wo.heap.size) (B := wo.heap.size) (v := .slice none 0 0) (rows := []) (r := W) (ar := aW) (cr := cW) rfl rfl Tryz.underlying22 info_ints rfl rfl (hOn.alloc _) (by simp [go_sem]) (hWn.alloc _) (by simp) (by simp; omega) ?_)
         intro a4 c4 K4 w4 hK4 hO4 hbk hgr
         have hB4:=(hb3.alloc hzw3 (.cells #[.slice aW W.length cW] 45)).grown hgr (by simp;omega) (fun k hk=>by simp [Value.ownBlock] at hk)
         have hKP:Hid (K4=P++m.idO s (x.st.take 0)):=by unfold Hid;rw [hK4.out,hPe.out];simp [Mach.idO]
         clear hbk hgr hK4)
      | (go_wp2_with fail
         have hB4:=hb3
         have hO4:=hOn
         have hKP:Hid (([]:List (List Int))=P++m.idO s (x.st.take 0)):=by unfold Hid;rw [hPe.out];simp [Mach.idO]))
     clear hWn hOn hw0 hw00 hPe
     try clear hw1
     go_wp2_with fail
     go_loopw [13,14] (fun v i wr=>∃(j:Nat) (a5:Option Addr) (c5:Nat) (K5:List (List Int)),j≤x.st.length∧i= .int .i64 j∧v= .slice a5 K5.length c5∧Hid (K5=P++m.idO s (x.st.take j))∧Ox wo.heap.size wo.heap.size wr 45 (.slice a5 K5.length c5) K5∧Below wo.heap.size wo wr) (fun _ i _=>x.st.length-(intOf i).toNat)
     case atStart=>first|exact ⟨0,a4,c4,K4,by omega,rfl,rfl,hKP,hO4,hB4⟩|exact ⟨0,none,0,[],by omega,rfl,rfl,hKP,hO4,hB4⟩
     case round=>
      clear hKP hO4 hB4 ht3 hq3
      obtain ⟨j,a5,c5,K5,hj,rfl,rfl,hK5,hO5,hB5⟩:=hrel
      obtain ⟨wi,rfl⟩:∃wi:World,wi=wr:=⟨_,rfl⟩
      have hB25:=hB.trans (hB5.mono hzo)
      have hS5:=HS.out _ hB25
      have hK5l:Hid (K5.length<10000):=by
       have h1:=hPl.out
       have h2:=Mach.idO_len (m:=m) (s:=(s:Int)) (o:=x.st.take j)
       have h3:=hn.out
       unfold Hid;rw [hK5.out,List.length_append];rw [List.length_take] at h2;omega
      have hzi:=hB5.size
      by_cases hjl:j<x.st.length
      ·obtain ⟨bs,os,y,hbe,hyc,hy,hy64⟩:=(HX.out.below hS5.2).at_int hjl
       have hyr:=hnode.out.1 y (List.mem_of_getElem? hy.out)
       obtain ⟨yn,rfl⟩:=Int.eq_ofNat_of_zero_le hyr.1
       subst hbe
       by_cases hys:yn=s
       ·have hyb:(((yn:Nat):Int) !=(s:Int))=false:=by simp [hys]
        have hK6:Hid (K5=P++m.idO s (x.st.take (j+1))):=by unfold Hid;rw [hK5.out,Mach.idO_step hy.out,if_pos (by omega),List.append_nil]
        clear hys hyr
        go_wp2
        go_roundw
        case rel=>exact ⟨j+1,a5,c5,K5,by omega,by go_num,rfl,hK6,hO5,hB5⟩
        case measure=>simp [intOf];omega
       have hyb:(((yn:Nat):Int) !=(s:Int))=true:=by simp;omega
       have hK6:Hid (P++m.idO s (x.st.take (j+1))=K5++[m.sepW s yn]):=by unfold Hid;rw [hK5.out,Mach.idO_step hy.out,if_neg (by omega),List.append_assoc]
       have hyr2:=Lib.hid hyr.2
       have hez:=Lib.hid (st_zero (m:=m) (Mach.minErr_ok (Mach.adsChk_0 HE.out).1).1 (s:=(s:Int)) (x:=(yn:Int)) (by omega) hyr)
       clear hys hyr hK5
       go_upto_region 17 with (fail)
       refine wp_region_L (fun w'=>C4 w' w.heap.size an cn ao co m∧w'.cell? ⟨bs,os+j,none⟩=some (.int .i64 (yn:Int))) [0,1,2,3,4,5,7,8,9,10,11,12,13] (by kernel_rfl) ?_
       have hdr:=(Below.refl wi.heap.size wi).drew
       have hB6:=hB5.trans (hdr.mono hzi)
       have hB26:=hB25.trans (hdr.mono hB25.size)
       have hS6:=And.intro (HS.out _ hB26).1.1 (show wi.drew.cell? ⟨bs,os+j,none⟩=some (.int .i64 (yn:Int)) from hyc)
       have hO6:=Ox.later hO5 hdr
       have hSt0:=statesR_any (HM.out.below (HS.out _ hB26).2) (s:Int) (yn:Int) (by unfold i64;omega) (by have:=hyr2.out;unfold i64;omega)
       rw [hez.out] at hSt0
       have HSt:=Lib.hid hSt0
       clear hSt0 hS5 hB5 hB25 hO5 hdr hzi hyc hez
       generalize wi.drew=w6 at*
       have hz6:=hB6.size
       refine skL_on [0,1,2,3,4,5] ?_
       repeat (refine skL_take (v:= ?_) rfl ?_ ?_;rotate_left;(focus (intro w' hSw;(try dsimp only at hSw);go_simp;try with_reducible rfl));try simp only [Act.put,List.setIfInBounds_toArray,List.set_cons_zero,List.set_cons_succ])
       refine skL_off ?_
       refine wpAnyL_one (i:=6) (by kernel_rfl) rfl rfl (fun K hK=> ?_)
       go_simp
       refine (HSt.out).mono ?_
       rintro e w7 ⟨ad,cd,V,fv,rfl,hV,hVs,hb7⟩
       have hB7:=hB6.trans (hb7.mono hz6)
       have hB27:=hB26.trans (hb7.mono hB26.size)
       have hS7:=And.intro (HS.out _ hB27).1.1 ((hb7.cell (p:=⟨bs,os+j,none⟩) (lt_of_cell hS6.2)).trans hS6.2)
       have hO7:=Ox.later hO6 hb7
       have hVe:Hid (V=m.sepW s yn):=hV.out.1
       refine hK _ _ (fun _=>hS7) ?_
       clear hK K HSt hV hB26 hB27 hS6
       refine skL_on [7,8,9,10,11,12,13] ?_
       repeat (refine skL_take (v:= ?_) rfl ?_ ?_;rotate_left;(focus (intro w' hSw;(try dsimp only at hSw);go_simp;try with_reducible rfl));try simp only [Act.put,List.setIfInBounds_toArray,List.set_cons_zero,List.set_cons_succ])
       refine skL_off ?_
       refine wpAnyL_done (by kernel_rfl) ?_ _
       have hV7:Sl (fun k=>(Value.slice a5 K5.length c5).ownBlock=some k∨k<wo.heap.size) w7 ad cd V:=hVs.anti fun k _ hm=>by
        rcases hm with hm|hm
        ·exact (hO6.lt k hm).2
        omega
       have hz7:=hB7.size
       have hVl:=hV7.le
       clear hS7 hVs hO6 hb7 hB6 hz6
       go_wp2_with (at_builtin;refine wpList_push_x (n0:=wo.heap.size) (B:=wo.heap.size) (r:=V) (ar:=ad) (cr:=cd) rfl rfl Tryz.underlying22 info_ints rfl rfl (hO7.alloc _) (by simp [go_sem]) (hV7.alloc _) (by have:=hK5l.out;omega) (by simp;omega) ?_)
       intro a8 c8 K8 w8 hK8 hO8 hbk hgr
       have hB8:=(hB7.alloc hz7 (.cells #[.slice ad V.length cd] 45)).grown hgr (by simp;omega) (fun k hk=>(hO7.lt k hk).1)
       have hK9:Hid (K8=P++m.idO s (x.st.take (j+1))):=by unfold Hid;rw [hK8.out,hK6.out,hVe.out]
       clear hbk hgr hK8 hO7 hB7 hV7 hz7
       go_wp2
       go_roundw
       case rel=>exact ⟨j+1,a8,c8,K8,by omega,by go_num,rfl,hK9,hO8,hB8⟩
       case measure=>simp [intOf];omega
      have hK6:Hid (K5=P++m.idO s x.st):=by unfold Hid;rw [hK5.out,List.take_of_length_le (by omega)]
      have HSr:=Lib.hid (sortedR_any (hO5.toSl (Nat.le_refl _)) (Lib.hid (Sm6.small (by rw [hK6.out];exact hsm.out))))
      have hidn:=hlast.out _ hK6.out
      have hidn:=Lib.hid hidn
      go_wp2_with fail
      refine (HSr.out).mono ?_
      rintro e w8 ⟨a8,c8,L8,rfl,hL8,hS8,hb8⟩
      have hB8:=hB25.trans (hb8.mono hB25.size)
      have hO8:=Ox.later (Ox.later HO.out hB5) hb8
      have hS8':Sl (fun k=>(Value.slice a' K.length c').ownBlock=some k∨k<w2.heap.size) w8 a8 c8 L8:=hS8.anti fun k _ hm=>by
       rcases hm with hm|hm
       ·have:=(HO.out.lt k hm).2;omega
       omega
      have hL8l:=hS8'.le
      have hz8:=hB8.size
      clear HSr hB5 hB25 hS5 hO5 hS8 hb8 hK5 hK5l hzi
      go_wp2_with (at_builtin;refine wpList_push_x (n0:=w2.heap.size) (B:=w2.heap.size) (r:=L8) (ar:=a8) (cr:=c8) rfl rfl Tryz.underlying31 info_rows3 rfl rfl (hO8.alloc _) (by simp [go_sem]) (hS8'.alloc _) (by rw [hKl.out];omega) (by simp;omega) ?_)
      intro a9 c9 K9 w9 hK9 hO9 hbk hgr
      have hB9:=(hB8.alloc hz8 (.cells #[.slice a8 L8.length c8] 22)).grown hgr (by simp;omega) (fun k hk=>(hO8.lt k hk).1)
      have hKn:Hid (K9=(m.ids T).take (s+1)):=by unfold Hid;rw [hK9.out,HKe.out,List.take_add_one,hidn.out,hL8.out];rfl
      clear hbk hgr hK9 hO8 hB8 hS8' hz8
      go_wp2
      go_roundw
      case rel=>exact ⟨s+1,a9,c9,K9,by omega,by go_num,rfl,hKn,hO9,hB9⟩
      case measure=>simp [intOf];omega
   have hF:Hid (m.idE T=(K,0)):=by unfold Hid Mach.idE;rw [if_neg (by simp [HE.out]),hK.out,List.take_of_length_le (by rw [Mach.ids_len];omega)]
   have hSl:=(hO.toSl (Nat.le_refl _)).anti (M':=fun k=>k<w.heap.size) fun k _ hm=>by show k<_;omega
   have hBf:=hSo.2
   go_wp2
   go_ret2
   exact ⟨a',c',K,0,rfl,hF,hSl,hBf⟩
 have he':(m.adsChk T !=0)=true:=by simp [he]
 have hF:Hid (m.idE T=([],m.adsChk T)):=by unfold Hid Mach.idE;rw [if_pos he]
 clear he
 go_wp2
 go_ret2
 exact ⟨none,0,[],_,rfl,hF,Sl.nil _ _ _ (by unfold maxLen;omega),hB2⟩
end
namespace Mach
variable {m:Mach}
theorem wordGo_wi {T:List Nd} (ok:m.Ok):∀(f a:Nat) (c:Int) (w:List Int),m.Wi T a c→T.length≤a+f→w.length≤a→(m.wordGo T f a c w).1.length≤(m.wordGo T f a c w).2∧(m.wordGo T f a c w).2<T.length∧∃c',m.Wi T (m.wordGo T f a c w).2 c'
 |0,a,c,w,h,hf,hw=>by have:=(wi_lt h).1;omega
 |f+1,a,c,w,h,hf,hw=>by
  have hl:=(wi_lt h).1
  have hx:T[a]? =some T[a]:=List.getElem?_eq_getElem hl
  by_cases h0:T[a].inp<0
  ·rw [wordGo_stop hx h0];exact ⟨hw,hl,c,h⟩
  obtain ⟨-,k,kd,n',h1,h2,h3,h4,h5,h6,h7⟩:=wi_step ok h hx (by omega)
  rw [wordGo_on hx (by omega) (kidOf_at h1 h2 h3),h4,Int.toNat_natCast]
  exact wordGo_wi ok f n' _ _ h7 (by omega) (by rw [List.length_append];simp;omega)
theorem idE_small {T:List Nd} (hn:m.next.length<1000):∀r∈(m.idE T).1,Sm6 r:=by
 unfold idE
 split
 ·intro r hr;simp at hr
 rename_i h
 have h:m.adsChk T=0:=Classical.byContradiction h
 have ok:m.Ok:=Mach.ok_of_err m (Mach.minErr_ok (Mach.adsChk_0 h).1).1
 intro r hr
 unfold ids at hr
 obtain ⟨s,hs,rfl⟩:=List.mem_map.1 hr
 obtain ⟨h1,h2,c',h3⟩:=wordGo_wi ok T.length 0 (s:Int) [] (wi_0 ok h (List.mem_range.1 hs)) (by omega) (by simp)
 have hx:T[(m.adsW T s).2]? =some T[(m.adsW T s).2]:=List.getElem?_eq_getElem h2
 have hT:=(Mach.adsChk_0 h).2.1
 have hq:Sm6 (m.idW T (s:Int)):=by
  rw [idW_eq (W:=(m.adsW T s).1) (l:=(m.adsW T s).2) rfl hx]
  exact small_id (Nat.le_trans h1 (by have:(m.adsW T s).2<T.length:=h2;omega)) (by have:=(wi_node h3 hx).2;omega) hn
 exact ⟨Nat.lt_of_le_of_lt (srt_len _) hq.1,fun y hy=>hq.2 y ((srt_mem tot_cmp).1 hy)⟩
theorem idE_ok {n:Mach} (h:n.adsB.2.2=0):(n.idE n.adsB.1).2=0:=by
 unfold idE
 rw [if_neg (by simp [adsB_chk h])]
end Mach
section
variable {M:Nat→Prop} {w:World} {an ao:Option Addr} {cn co:Nat} {m:Mach}
theorem suite31_any (hm:Ma M w an cn ao co m) (extra:Int):
    Calls Tryz.prog 16 #[maV m an cn ao co,.int .i64 extra] w fun e w'=>∃(a:Option Addr) (c:Nat) (L:List (List Int)) (e1:Int),e= .returned (.tuple #[.slice a L.length c,.int .i64 e1])∧Hid (m.suW extra=(L,e1))∧Sl (fun k=>k<w.heap.size) w' a c L∧Below w.heap.size w w':=by
 have hB0:=(Below.refl w.heap.size w).alloc (Nat.le_refl _) (maO m an cn ao co)
 have hx0:C4 (w.alloc (maO m an cn ao co)) w.heap.size an cn ao co m:=c4_new w
 have HM:=Lib.hid hm
 have l1:=hm.next.le
 have l2:=hm.out.le
 have HPt:=Lib.hid (parts29_any (hm.below hB0) extra)
 clear hm
 go_enter Tryz.func16,Tryz.ntmps16
 go_upto_region 1 with (fail)
 generalize w.alloc (maO m an cn ao co)=w0 at*
 have hz0:w.heap.size<w0.heap.size:=lt_of_cell hx0.1
 obtain ⟨d0,d1,d2,d3⟩:=hx0
 go_wp2_with fail
 refine (HPt.out).mono ?_
 rintro e w1 ⟨an',cn',ao',co',t,aA,cA,A,aX,cX,X,e1,rfl,hP,hTm,hAs,hXs,hb1⟩
 have hB1:=hB0.trans (hb1.mono (by omega))
 have hTm1:=Lib.hid (hTm.ext (M':=fun k=>k<w.heap.size) (Ext.sub_only fun k _ e=>by omega))
 have hA1:=Lib.hid (hAs.anti (M':=fun k=>k<w.heap.size) fun k _ e=>by omega)
 have hX1:=Lib.hid (hXs.anti (M':=fun k=>k<w.heap.size) fun k _ e=>by omega)
 have hz1:w.heap.size<w1.heap.size:=by have:=hb1.size;omega
 clear d0 d1 d2 d3 hB0 hb1 hTm hAs hXs HPt
 go_upto_region 2 with (fail)
 have hba:=(Below.refl w1.heap.size w1).alloc (Nat.le_refl _) (maO t an' cn' ao' co')
 have hc2:C4 (w1.alloc (maO t an' cn' ao' co')) w1.heap.size an' cn' ao' co' t:=c4_new w1
 have hB2:=hB1.trans (hba.mono (by omega))
 have hTm2:=Lib.hid (hTm1.out.below hba)
 have hA2:=Lib.hid (hA1.out.below hba)
 have hX2:=Lib.hid (hX1.out.below hba)
 have hz2:w1.heap.size<(w1.alloc (maO t an' cn' ao' co')).heap.size:=by simp
 clear hB1 hTm1 hA1 hX1 hba
 generalize w1.alloc (maO t an' cn' ao' co')=w2 at*
 by_cases he:e1=0
 ·have he':(e1 !=0)=false:=by simp [he]
  have hall:Hid (m.err=0∧¬(extra<0∨3<extra)∧(uptW m.inputs (extra+1)).2=0∧t=m.minOf∧A=m.minOf.covW.map Pc.word∧X=(uptW m.inputs (extra+1)).1):=by
   have h:=hP.out
   rw [he] at h
   unfold Mach.partsW at h
   by_cases h1:m.err=0
   ·rw [if_neg (by simp [h1])] at h
    by_cases h2:extra<0∨3<extra
    ·rw [if_pos h2] at h;simp at h
    rw [if_neg h2] at h
    by_cases h3:(uptW m.inputs (extra+1)).2=0
    ·rw [if_neg (by simp [h3])] at h
     simp only [Prod.mk.injEq,and_true] at h
     exact ⟨h1,h2,h3,h.1.symm,h.2.1.symm,h.2.2.symm⟩
    rw [if_pos h3] at h
    simp only [Prod.mk.injEq] at h
    exact absurd h.2.2.2 h3
   rw [if_pos h1] at h
   simp only [Prod.mk.injEq] at h
   exact absurd h.2.2.2 h1
  clear he hP
  have HE:=Lib.hid hall.out.1
  have ok:Hid m.Ok:=Mach.ok_of_err m HE.out
  have ht:=Lib.hid hall.out.2.2.2.1
  have hA:=Lib.hid hall.out.2.2.2.2.1
  have hX:=Lib.hid hall.out.2.2.2.2.2
  have hti:Hid (t.inputs=m.inputs):=by unfold Hid;rw [ht.out,Mach.minOf_eq HE.out];rfl
  have okt:Hid t.Ok:=by rw [ht.out,Mach.minOf_eq HE.out];exact Mach.minF_ok ok.out
  have htn:Hid (t.next.length<1000):=by have:=okt.out.n1;unfold Hid;omega
  have hAl:Hid (A.length≤1000∧∀p∈A,t.okS p∧p.length≤1000):=by
   have hn1:=okt.out.n1
   unfold Hid;rw [hA.out,←ht.out]
   refine ⟨?_,fun p hp=> ?_⟩
   ·rw [List.length_map]
    have h1:=t.cov_len t.next.length
    have h2:=Mach.bfs_le okt.out t.next.length
    unfold Mach.covW
    omega
   obtain ⟨q,hq,rfl⟩:=List.mem_map.1 hp
   have h1:=Mach.cov_all okt.out t.next.length q hq
   exact ⟨h1.2.2.1,by have:=h1.2.2.2.1;omega⟩
  have hXl:Hid (X.length≤10001∧∀x∈X,InW t.inputs 4 x):=by
   have h:=uptW_in m.inputs (extra+1)
   have h2:=hall.out.2.1
   unfold Hid;rw [hX.out,hti.out]
   exact ⟨h.2,fun x hx=>⟨(h.1 x hx).1,by have:=(h.1 x hx).2;omega⟩⟩
  have hsu:Hid (m.suW extra=if t.adsB.2.2≠0 then ([],t.adsB.2.2) else if (t.idE t.adsB.1).2≠0 then ([],(t.idE t.adsB.1).2) else madeW t (t.idE t.adsB.1).1 A X):=by
   unfold Hid Mach.suW madeW
   rw [if_neg (by simp [HE.out]),if_neg hall.out.2.1,if_neg (by simp [hall.out.2.2.1]),←ht.out,hA.out,←ht.out,hX.out]
  have HBu:=Lib.hid (build12_any hTm2.out htn)
  have lt1:=hTm2.out.next.le
  have lt2:=hTm2.out.out.le
  obtain ⟨d0,d1,d2,d3⟩:=hc2
  clear hall ht hA hX
  go_wp2_with fail
  refine (HBu.out).mono ?_
  rintro e w3 ⟨aL,cL,L,y3,e3,rfl,hL,hLs,hb3⟩
  have hc3:C4 w3 w1.heap.size an' cn' ao' co' t:=C4.below ⟨d0,d1,d2,d3⟩ hb3 hz2
  have hB3:=hB2.trans (hb3.mono (by omega))
  have hTm3:=Lib.hid (hTm2.out.below hb3)
  have hA3:=Lib.hid (hA2.out.below hb3)
  have hX3:=Lib.hid (hX2.out.below hb3)
  have hL3:=Lib.hid (hLs.anti (M':=fun k=>k<w.heap.size) fun k _ e=>by omega)
  have hz3:w1.heap.size<w3.heap.size:=by have:=hb3.size;omega
  have hLl:Hid (L.length≤4097):=by have h:=t.adsB_len;rw [hL.out] at h;exact h
  clear d0 d1 d2 d3 hB2 hTm2 hA2 hX2 hb3 hLs HBu
  go_upto_region 5 with (fail)
  have hba:=(Below.refl w3.heap.size w3).alloc (Nat.le_refl _) (.cells #[.slice aL L.length cL] 27)
  have ha4:(w3.alloc (.cells #[.slice aL L.length cL] 27)).cell? ⟨w3.heap.size,0,none⟩=some (.slice aL L.length cL):=by simp
  have hc4:=hc3.below hba hz3
  have hB4:=hB3.trans (hba.mono (by omega))
  have hTm4:=Lib.hid (hTm3.out.below hba)
  have hA4:=Lib.hid (hA3.out.below hba)
  have hX4:=Lib.hid (hX3.out.below hba)
  have hL4:=Lib.hid (hL3.out.below hba)
  have hz4:w3.heap.size<(w3.alloc (.cells #[.slice aL L.length cL] 27)).heap.size:=by simp
  clear hc3 hB3 hTm3 hA3 hX3 hL3 hba
  generalize w3.alloc (.cells #[.slice aL L.length cL] 27)=w4 at*
  by_cases he3:e3=0
  ·have he3b:(e3 !=0)=false:=by simp [he3]
   have hbz:Hid (t.adsB.2.2=0):=by unfold Hid;rw [hL.out];exact he3
   have hR0:Hid (m.suW extra=madeW t (t.idE L).1 A X):=by
    have h:=Mach.idE_ok hbz.out
    unfold Hid;rw [hsu.out,if_neg (by simp [hbz.out]),if_neg (by simp [h]),hL.out]
   have hI0:Hid ((t.idE L).2=0):=by have h:=Mach.idE_ok hbz.out;rw [hL.out] at h;exact h
   clear he3
   have HId:=Lib.hid (identify31_any hTm4.out hL4.out htn (Lib.hid (by have:=hLl.out;omega)))
   obtain ⟨d0,d1,d2,d3⟩:=hc4
   go_wp2_with fail
   refine (HId.out).mono ?_
   rintro e w5 ⟨aI,cI,I,e4,rfl,hI,hIs,hb5⟩
   have hc5:C4 w5 w1.heap.size an' cn' ao' co' t:=C4.below ⟨d0,d1,d2,d3⟩ hb5 (by omega)
   have hB5:=hB4.trans (hb5.mono (by omega))
   have hTm5:=Lib.hid (hTm4.out.below hb5)
   have hA5:=Lib.hid (hA4.out.below hb5)
   have hX5:=Lib.hid (hX4.out.below hb5)
   have hI5:=Lib.hid (hIs.anti (M':=fun k=>k<w.heap.size) fun k _ e=>by omega)
   have hIl:Hid (I.length=t.next.length):=by have h:=Mach.idE_0 (n:=t) (T:=L) hI0.out;rw [hI.out] at h;exact h
   have hIm:Hid (∀r∈I,Sm6 r):=by have h:=Mach.idE_small (m:=t) (T:=L) htn.out;rw [hI.out] at h;exact h
   have HMd:=Lib.hid (made30_any hTm5.out hA5.out hX5.out hI5.out okt hIl hIm hAl hXl)
   have hR1:Hid (m.suW extra=madeW t I A X):=by unfold Hid;rw [hR0.out,hI.out]
   obtain ⟨d0,d1,d2,d3⟩:=hc5
   have hz5:w.heap.size≤w5.heap.size:=hB5.size
   clear hB4 hTm4 hA4 hX4 hL4 hb5 hIs HId ha4 hR0 hsu
   go_wp2_with fail
   refine (HMd.out).mono ?_
   rintro e w6 ⟨aM,cM,K,e5,rfl,hK,hKs,hb6⟩
   have hBf:=hB5.trans (hb6.mono hz5)
   have hR:Hid (m.suW extra=(K,e5)):=by unfold Hid;rw [hR1.out,hK.out]
   have hKw:=Lib.hid (hKs.anti (M':=fun k=>k<w.heap.size) fun k _ e=>by omega)
   go_wp2
   exact bodyPost_ret (v:= .tuple #[.slice aM K.length cM,.int .i64 e5]) (by simp [results,Tryz.results16,go_sem]) rfl ⟨aM,cM,K,e5,rfl,hR,hKw.out,hBf⟩
  have he3b:(e3 !=0)=true:=by simp [he3]
  have hR:Hid (m.suW extra=([],e3)):=by unfold Hid;rw [hsu.out,hL.out,if_pos he3]
  clear he3
  go_wp2
  exact bodyPost_ret (v:= .tuple #[.slice none 0 0,.int .i64 e3]) (by simp [results,Tryz.results16,go_sem]) rfl ⟨none,0,[],e3,rfl,hR,Sl.nil _ _ _ (by unfold maxLen;omega),hB4⟩
 have he':(e1 !=0)=true:=by simp [he]
 have hR:Hid (m.suW extra=([],e1)):=by
  have h:=hP.out
  unfold Mach.partsW at h
  unfold Hid Mach.suW
  by_cases h1:m.err=0
  ·rw [if_neg (by simp [h1])] at h ⊢
   by_cases h2:extra<0∨3<extra
   ·rw [if_pos h2] at h ⊢
    simp only [Prod.mk.injEq] at h
    rw [h.2.2.2]
   rw [if_neg h2] at h ⊢
   by_cases h3:(uptW m.inputs (extra+1)).2=0
   ·rw [if_neg (by simp [h3])] at h
    simp only [Prod.mk.injEq] at h
    exact absurd h.2.2.2.symm he
   rw [if_pos h3] at h ⊢
   simp only [Prod.mk.injEq] at h
   rw [h.2.2.2]
  rw [if_pos h1] at h ⊢
  simp only [Prod.mk.injEq] at h
  rw [h.2.2.2]
 clear he
 go_wp2
 exact bodyPost_ret (v:= .tuple #[.slice none 0 0,.int .i64 e1]) (by simp [results,Tryz.results16,go_sem]) rfl ⟨none,0,[],e1,rfl,hR,Sl.nil _ _ _ (by unfold maxLen;omega),hB2⟩
end
section
variable {M MT:Nat→Prop} {w:World} {an ao aT:Option Addr} {cn co cT:Nat} {m:Mach} {T:List Nd}
theorem small11_v (hm:Ma M w an cn ao co m) {v:Bool} (h:m.small11=v):
    Calls Tryz.prog 9 #[maV m an cn ao co] w fun e w'=>e= .returned (.bool v)∧Below w.heap.size w w':=by rw [←h];exact small11_any hm
end
section
variable {M:Nat→Prop} {w:World} {an ao:Option Addr} {cn co:Nat} {m:Mach}
theorem suitesLaw_any (hm:Ma M w an cn ao co m) (extra:Int) (hx64:i64 extra):Calls Tryz.prog 4 #[maV m an cn ao co,.int .i64 extra] w fun e w'=>e= .returned (.bool true)∧Below w.heap.size w w':=by
 have hB0:=(Below.refl w.heap.size w).alloc (Nat.le_refl _) (maO m an cn ao co)
 have hx0:C4 (w.alloc (maO m an cn ao co)) w.heap.size an cn ao co m:=c4_new w
 have l1:=hm.next.le
 have l2:=hm.out.le
 have HM:=Lib.hid hm
 have HX64:=Lib.hid hx64
 clear hm hx64
 have hcase:m.small11=false∨(m.small11=true∧2<extra∧extra≤3)∨(m.small11=true∧2<extra∧¬extra≤3)∨(m.small11=true∧¬2<extra):=by
  cases m.small11
  ·exact .inl rfl
  by_cases h1:2<extra
  ·by_cases h2:extra≤3
   ·exact .inr (.inl ⟨rfl,h1,h2⟩)
   exact .inr (.inr (.inl ⟨rfl,h1,h2⟩))
  exact .inr (.inr (.inr ⟨rfl,h1⟩))
 have HSm:Hid (∀v,m.small11=v→Calls Tryz.prog 9 #[maV m an cn ao co] (w.alloc (maO m an cn ao co)) fun e w'=>e= .returned (.bool v)∧Below (w.alloc (maO m an cn ao co)).heap.size (w.alloc (maO m an cn ao co)) w'):=fun v h=>small11_v (HM.out.below hB0) h
 have hz0:w.heap.size<(w.alloc (maO m an cn ao co)).heap.size:=by simp
 go_enter Tryz.func4,Tryz.ntmps4
 go_upto_region 1 with (fail)
 generalize w.alloc (maO m an cn ao co)=w1 at*
 rcases hcase with hs|⟨hs,h1,h2⟩|⟨hs,h1,h2⟩|⟨hs,h1⟩
 ·have HS:=Lib.hid (HSm.out _ hs)
  clear hs HSm
  obtain ⟨d0,d1,d2,d3⟩:=hx0
  go_wp2_with fail
  refine (HS.out).mono ?_
  rintro e w2 ⟨rfl,hb2⟩
  have hB2:=hB0.trans (hb2.mono (by omega))
  clear d0 d1 d2 d3
  go_wp2_with fail
  refine (ex31_any (w:=w2)).mono ?_
  rintro e w3 ⟨rfl,hb3⟩
  have hB3:=hB2.trans (hb3.mono hB2.size)
  go_wp2
  go_ret
  exact ⟨rfl,hB3⟩
 ·have HS:=Lib.hid (HSm.out _ hs)
  have h1d:decide (2<extra)=true:=decide_eq_true h1
  have h2d:decide (extra≤3)=true:=decide_eq_true h2
  clear hs HSm
  obtain ⟨d0,d1,d2,d3⟩:=hx0
  go_wp2_with fail
  refine (HS.out).mono ?_
  rintro e w2 ⟨rfl,hb2⟩
  have hB2:=hB0.trans (hb2.mono (by omega))
  clear d0 d1 d2 d3
  go_wp2_with fail
  refine (ex31_any (w:=w2)).mono ?_
  rintro e w3 ⟨rfl,hb3⟩
  have hB3:=hB2.trans (hb3.mono hB2.size)
  go_wp2
  go_ret
  exact ⟨rfl,hB3⟩
 focus
  have HS:=Lib.hid (HSm.out _ hs)
  have h1d:decide (2<extra)=true:=decide_eq_true h1
  have h2d:decide (extra≤3)=false:=decide_eq_false h2
  clear hs HSm
  obtain ⟨d0,d1,d2,d3⟩:=hx0
  go_wp2_with fail
  refine (HS.out).mono ?_
  rintro e w2 ⟨rfl,hb2⟩
  have hB2:=hB0.trans (hb2.mono (by omega))
  have hx2:C4 w2 w.heap.size an cn ao co m:=C4.below ⟨d0,d1,d2,d3⟩ hb2 hz0
  clear d0 d1 d2 d3 hB0 hb2 HS
  go_upto_region 3 with (fail)
  clear h1 h2 h1d h2d
 rotate_left 1
 focus
  have HS:=Lib.hid (HSm.out _ hs)
  have h1d:decide (2<extra)=false:=decide_eq_false h1
  clear hs HSm
  obtain ⟨d0,d1,d2,d3⟩:=hx0
  go_wp2_with fail
  refine (HS.out).mono ?_
  rintro e w2 ⟨rfl,hb2⟩
  have hB2:=hB0.trans (hb2.mono (by omega))
  have hx2:C4 w2 w.heap.size an cn ao co m:=C4.below ⟨d0,d1,d2,d3⟩ hb2 hz0
  clear d0 d1 d2 d3 hB0 hb2 HS
  go_upto_region 3 with (fail)
  clear h1 h1d
 all_goals
  have hz2:w.heap.size<w2.heap.size:=lt_of_cell hx2.1
  have HSu:=Lib.hid (suite_any (HM.out.below hB2) extra)
  obtain ⟨d0,d1,d2,d3⟩:=hx2
  go_wp2_with fail
  refine (HSu.out).mono ?_
  rintro e w4 ⟨a4,c4,L4,e4,rfl,hE4,hS4,hb4⟩
  have hx4:C4 w4 w.heap.size an cn ao co m:=C4.below ⟨d0,d1,d2,d3⟩ hb4 hz2
  have hB4:=hB2.trans (hb4.mono (by omega))
  have hz4:w.heap.size<w4.heap.size:=lt_of_cell hx4.1
  have HS4:=Lib.hid hS4
  have HSu2:=Lib.hid (suite31_any (HM.out.below hB4) extra)
  clear d0 d1 d2 d3 hB2 hb4 HSu hS4
  obtain ⟨d0,d1,d2,d3⟩:=hx4
  go_wp2_with fail
  refine (HSu2.out).mono ?_
  rintro e w5 ⟨a5,c5,L5,e5,rfl,hE5,hS5,hb5⟩
  have hB5:=hB4.trans (hb5.mono (by omega))
  have hLe:Hid (L4=L5∧e4=e5):=by have h:=hE4.out;rw [hE5.out] at h;unfold Hid;simp at h;exact ⟨h.1.symm,h.2.symm⟩
  obtain ⟨hL,he⟩:=hLe.out
  have HSs:=same10 ((HS4.out.below hb5).anti (M':=fun _=>False) fun _ _ h=>h.elim) (hS5.anti (M':=fun _=>False) fun _ _ h=>h.elim)
  rw [decide_eq_true hL] at HSs
  have HSs:=Lib.hid HSs
  have heb:(e4==e5)=true:=by simp [he]
  have hl4:=HS4.out.le
  have hl5:=hS5.le
  clear HSu2 hb5 hB4 hLe hL he hS5 hE4 hE5 HS4 d0 d1 d2 d3
  go_wp2_with fail
  refine (HSs.out).mono ?_
  rintro e w6 ⟨rfl,n6,rfl⟩
  have hB6:=bl_drewN hB5 n6
  generalize w5.drewN n6=w6 at*
  clear HSs hB5
  go_wp2_with fail
  refine (ex31_any (w:=w6)).mono ?_
  rintro e w7 ⟨rfl,hb7⟩
  have hB7:=hB6.trans (hb7.mono hB6.size)
  go_wp2
  go_ret
  exact ⟨rfl,hB7⟩
end
end Go.Proofs.YtknhegdepbmmlaaGreat
