/- Several texts, one behind the other. Conditions: as each of them says. -/
import Derived.Test.YtjagagpcjpcjjaaGreatMc47
import Derived.Test.YtjagagpcjpcjjaaGreatMc37
import Derived.Test.YtjagagpcjpcjjaaGreatMc19
import Derived.Test.YtjagagpcjpcjjaaGreatMc17
import Derived.Test.YtjagagpcjpcjjaaGreatMc15
import Derived.Test.YtjagagpcjpcjjaaGreatMc10
import Derived.Test.YtjagagpcjpcjjaaGreatMc9
import Derived.Test.YtjagagpcjpcjjaaGreatMc7
import Derived.Test.YtjagagpcjpcjjaaGreatMc3
import Derived.Deep.Cut
import Derived.WalkSpells
set_option maxRecDepth 100000
set_option maxHeartbeats 32000000
namespace Go.Proofs.YtjagagpcjpcjjaaGreat
open Go.RowKit
def difT (s t:Tr):Int:=if comW (s.out.take (comW s.inn t.inn)) (t.out.take (comW s.inn t.inn))<comW s.inn t.inn then (comW (s.out.take (comW s.inn t.inn)) (t.out.take (comW s.inn t.inn)):Nat) else -1
def SomeB (e:Ending):Prop:=∃v,e= .returned (.bool v)
def PrE (er:Int) (t:Tr):Prop:=er=0→t.out.length=t.inn.length
section
variable {M M1 M2 M3:Nat→Prop} {w:World} {a1 a2 b1 b2:Option Addr} {c1 c2 d1 d2:Nat}
theorem fls {α:Type} [GR α] {M:Nat→Prop} {w:World} {a:Option Addr} {c:Nat} {l:List α} (h:Sl M w a c l):Sl (fun _=>False) w a c l:=h.anti fun _ _ h=>h.elim
theorem odif_any {s t:Tr} (h1:Sl M w a1 c1 s.inn) (h2:Sl M1 w a2 c2 s.out) (h3:Sl M2 w b1 d1 t.inn) (h4:Sl M3 w b2 d2 t.out) (e1:s.out.length=s.inn.length) (e2:t.out.length=t.inn.length):
    Calls Tryz.prog 64 #[trV s a1 c1 a2 c2,trV t b1 d1 b2 d2] w fun e w'=>e= .returned (.int .i64 (difT s t))∧Below w.heap.size w w':=by
 have z1:(w.alloc (trO s a1 c1 a2 c2)).heap.size=w.heap.size+1:=by simp
 have hB0:Below w.heap.size w ((w.alloc (trO s a1 c1 a2 c2)).alloc (trO t b1 d1 b2 d2)):=((Below.refl _ _).alloc (Nat.le_refl _) _).alloc (by simp) _
 have hx0:T2 ((w.alloc (trO s a1 c1 a2 c2)).alloc (trO t b1 d1 b2 d2)) w.heap.size a1 c1 a2 c2 s:=(t2_new w).below (B:=w.heap.size+1) ((Below.refl _ _).alloc (by rw [z1];exact Nat.le_refl _) _) (by omega)
 have hy0:T2 ((w.alloc (trO s a1 c1 a2 c2)).alloc (trO t b1 d1 b2 d2)) (w.heap.size+1) b1 d1 b2 d2 t:=by
  have h:=t2_new (t:=t) (a:=b1) (c:=d1) (a':=b2) (c':=d2) (w.alloc (trO s a1 c1 a2 c2))
  rw [z1] at h;exact h
 have hz0:w.heap.size+2≤((w.alloc (trO s a1 c1 a2 c2)).alloc (trO t b1 d1 b2 d2)).heap.size:=by simp
 have l1:=h1.le
 have l2:=h2.le
 have l3:=h3.le
 have l4:=h4.le
 have l2c:=h2.1
 have l4c:=h4.1
 have H1:=Lib.hid (fls (h1.below hB0))
 have H2:=Lib.hid (fls (h2.below hB0))
 have H3:=Lib.hid (fls (h3.below hB0))
 have H4:=Lib.hid (fls (h4.below hB0))
 have hcl:=comW_le s.inn t.inn
 obtain ⟨n,hn⟩:∃n,n=comW s.inn t.inn:=⟨_,rfl⟩
 rw [←hn] at hcl
 have hns:n≤s.out.length:=by omega
 have hnt:n≤t.out.length:=by omega
 have HN:=Lib.hid hn
 have hm3:¬s.out.length<n:=by omega
 have hm5:n≤c2:=by omega
 have hm6:n≤d2:=by omega
 have hm4:¬((t.out.length:Nat):Int)<((n:Nat):Int):=by omega
 have hm1:min ((n:Nat):Int) ((s.out.length:Nat):Int)=(n:Int):=by omega
 have hm2:min ((n:Nat):Int) ((t.out.length:Nat):Int)=(n:Int):=by omega
 have HF:Hid (difT s t=if comW (s.out.take n) (t.out.take n)<n then ((comW (s.out.take n) (t.out.take n):Nat):Int) else -1):=by unfold Hid difT;rw [←hn]
 obtain ⟨i,hi⟩:∃i,i=comW (s.out.take n) (t.out.take n):=⟨_,rfl⟩
 rw [←hi] at HF
 have HI:=Lib.hid hi
 clear h1 h2 h3 h4 e1 e2 z1 hcl hn hi
 go_enter Tryz.func64,Tryz.ntmps64
 go_upto_region 1 with (fail)
 generalize (w.alloc (trO s a1 c1 a2 c2)).alloc (trO t b1 d1 b2 d2)=w0 at*
 have HS:Hid (∀w',Below w0.heap.size w0 w'→(T2 w' w.heap.size a1 c1 a2 c2 s∧T2 w' (w.heap.size+1) b1 d1 b2 d2 t)∧Below w.heap.size w w'∧Sl (fun _=>False) w' a1 c1 s.inn∧Sl (fun _=>False) w' b1 d1 t.inn∧Sl (fun _=>False) w' a2 c2 s.out∧Sl (fun _=>False) w' b2 d2 t.out):=fun w' hb=>
  ⟨⟨hx0.below hb (by omega),hy0.below hb (by omega)⟩,hB0.trans (hb.mono (by omega)),H1.out.below hb,H3.out.below hb,H2.out.below hb,H4.out.below hb⟩
 clear hx0 hy0 hB0 hz0 H1 H2 H3 H4
 refine wp_region_L (fun w'=>T2 w' w.heap.size a1 c1 a2 c2 s∧T2 w' (w.heap.size+1) b1 d1 b2 d2 t) [0,1,2,3,5,6,7,8,9,10,11,12] (by kernel_rfl) ?_
 have hb1:=(Below.refl w0.heap.size w0).drew
 have hS1:=(HS.out _ hb1).1
 have HC0:=com_any (HS.out _ hb1).2.2.1 (HS.out _ hb1).2.2.2.1
 rw [←HN.out] at HC0
 have HC:=Lib.hid HC0
 generalize w0.drew=w1 at*
 clear HC0
 refine skL_on [0,1,2,3,5,6,7,8,9,10] ?_
 repeat (refine skL_take (v:= ?_) rfl ?_ ?_;rotate_left;(focus (intro w' hSw;(try dsimp only at hSw);go_simp;try with_reducible rfl));try simp only [Act.put,List.setIfInBounds_toArray,List.set_cons_zero,List.set_cons_succ])
 refine skL_off ?_
 refine wpAnyL_one (i:=4) (by kernel_rfl) rfl rfl (fun K hK=> ?_)
 go_simp
 refine (HC.out).mono ?_
 rintro e w2 ⟨rfl,hd2⟩
 have hb2:=hb1.trans ((blw hd2 w1.heap.size).mono hb1.size)
 have hS2:=(HS.out _ hb2).1
 refine hK _ _ (fun _=>hS2) ?_
 clear hK K HC hS1 hd2 hb1
 refine wpAnyL_one (i:=11) (by kernel_rfl) rfl rfl (fun K hK=> ?_)
 go_simp
 refine hK _ _ (fun _=>hS2) ?_
 clear hK K
 refine skL_on [12] ?_
 repeat (refine skL_take (v:= ?_) rfl ?_ ?_;rotate_left;(focus (intro w' hSw;(try dsimp only at hSw);go_simp;try with_reducible rfl));try simp only [Act.put,List.setIfInBounds_toArray,List.set_cons_zero,List.set_cons_succ])
 refine skL_off ?_
 refine wpAnyL_done (by kernel_rfl) ?_ _
 clear hS2
 go_upto_region 2 with (fail)
 refine wp_region_L (fun w'=>T2 w' w.heap.size a1 c1 a2 c2 s∧T2 w' (w.heap.size+1) b1 d1 b2 d2 t) [0,1,2,3,4,5,6,7,9] (by kernel_rfl) ?_
 have hb3:=hb2.trans (((Below.refl w2.heap.size w2).drew).mono hb2.size)
 have hS3:=(HS.out _ hb3).1
 have HC0:=com_any ((HS.out _ hb3).2.2.2.2.1.taken hns) ((HS.out _ hb3).2.2.2.2.2.taken hnt)
 rw [←HI.out,List.length_take,List.length_take,Nat.min_eq_left hns,Nat.min_eq_left hnt] at HC0
 have HC:=Lib.hid HC0
 generalize w2.drew=w3 at*
 clear HC0 hb2
 refine skL_on [0,1,2,3,4,5,6,7] ?_
 repeat (refine skL_take (v:= ?_) rfl ?_ ?_;rotate_left;(focus (intro w' hSw;(try dsimp only at hSw);go_simp;try with_reducible rfl));try simp only [Act.put,List.setIfInBounds_toArray,List.set_cons_zero,List.set_cons_succ])
 refine skL_off ?_
 refine wpAnyL_one (i:=8) (by kernel_rfl) rfl rfl (fun K hK=> ?_)
 go_simp
 refine (HC.out).mono ?_
 rintro e w4 ⟨rfl,hd4⟩
 have hb4:=hb3.trans ((blw hd4 w3.heap.size).mono hb3.size)
 have hS4:=(HS.out _ hb4).1
 have hBf:=(HS.out _ hb4).2.1
 refine hK _ _ (fun _=>hS4) ?_
 clear hK K HC hS3 hd4 hb3
 refine skL_on [9] ?_
 repeat (refine skL_take (v:= ?_) rfl ?_ ?_;rotate_left;(focus (intro w' hSw;(try dsimp only at hSw);go_simp;try with_reducible rfl));try simp only [Act.put,List.setIfInBounds_toArray,List.set_cons_zero,List.set_cons_succ])
 refine skL_off ?_
 refine wpAnyL_done (by kernel_rfl) ?_ _
 clear hS4
 by_cases hlt:i<n
 ·have hv:Hid (difT s t=(i:Int)):=by unfold Hid;rw [HF.out,if_pos hlt]
  go_wp2
  go_ret
  exact ⟨by rw [hv.out];rfl,hBf⟩
 have hv:Hid (difT s t= -1):=by unfold Hid;rw [HF.out,if_neg hlt]
 go_wp2
 go_ret
 exact ⟨by rw [hv.out];rfl,hBf⟩
theorem order_any {s t:Tr} (h1:Sl M w a1 c1 s.inn) (h2:Sl M1 w b1 d1 t.inn):
    Calls Tryz.prog 58 #[trV s a1 c1 a2 c2,trV t b1 d1 b2 d2] w fun e w'=>e= .returned (.int .i64 (cmpW s.inn t.inn))∧Below w.heap.size w w':=by
 have hb:Below w.heap.size w ((w.alloc (trO s a1 c1 a2 c2)).alloc (trO t b1 d1 b2 d2)):=((Below.refl _ _).alloc (Nat.le_refl _) _).alloc (by simp) _
 have HC:=Lib.hid (cmpF_cmp _ _ _ _ _ _ _ _ _ (h1.below hb) (h2.below hb))
 have l1:=h1.le
 have l2:=h2.le
 clear h1 h2
 go_enter Tryz.func58,Tryz.ntmps58
 go_wp2_with fail
 generalize (w.alloc (trO s a1 c1 a2 c2)).alloc (trO t b1 d1 b2 d2)=w1 at*
 refine (HC.out).mono ?_
 rintro e w2 ⟨rfl,q,os,hw2⟩
 have hB:=hb.trans ((CmpF.below hw2).mono hb.size)
 clear hw2
 go_wp2
 go_ret
 exact ⟨rfl,hB⟩
theorem prop1_any (x:Int):Calls Tryz.prog 113 #[.int .i64 x] w fun e w'=>SomeB e∧w'=w:=by
 by_cases h1:x<0
 ·go_enter Tryz.func113,Tryz.ntmps113
  go_wp2
  go_ret
  exact ⟨⟨true,rfl⟩,rfl⟩
 by_cases h2:1048576<x
 ·go_enter Tryz.func113,Tryz.ntmps113
  go_wp2
  go_ret
  exact ⟨⟨true,rfl⟩,rfl⟩
 go_enter Tryz.func113,Tryz.ntmps113
 go_wp2
 go_ret
 exact ⟨⟨false,rfl⟩,rfl⟩
theorem idxP_any {l:List Int} (hs:Sl M w a1 c1 l):
    Calls Tryz.prog 162 #[.slice a1 l.length c1,.func (Fn.func 113) #[] #[]] w fun e w'=>(∃v:Int,e= .returned (.int .i64 v))∧w'=w:=by
 have hll:=hs.le
 go_enter Tryz.func162,Tryz.ntmps162
 go_wp2
 go_loopw [8] (fun i wr=>∃j:Nat,j≤l.length∧i= .int .i64 j∧Hid (wr=w)) (fun i _=>l.length-(intOf i).toNat)
 case atStart=>exact ⟨0,by omega,rfl,rfl⟩
 case round=>
  obtain ⟨j,hj,rfl,hw⟩:=hrel
  have hw:=hw.out
  subst hw
  by_cases hlt:j<l.length
  ·obtain ⟨b0,o0,x,rfl,hxc,hx, -⟩:=hs.at_int hlt
   have HC:=Lib.hid (prop1_any (w:=wr) x)
   go_wp2_with fail
   refine (HC.out).mono ?_
   rintro e w2 ⟨⟨v,rfl⟩,hw2⟩
   obtain rfl:wr=w2:=hw2.symm
   cases v with
   |true=>
    go_wp2
    go_ret
    exact ⟨⟨_,rfl⟩,rfl⟩
   |false=>
    have hww:Hid (wr=wr):=rfl
    go_wp2
    go_roundw
    case rel=>exact ⟨j+1,by omega,by go_num,hww⟩
    case measure=>simp [intOf];omega
  go_wp2
  go_ret
  exact ⟨⟨_,rfl⟩,rfl⟩
theorem conP_any {l:List Int} (hs:Sl M w a1 c1 l):
    Calls Tryz.prog 111 #[.slice a1 l.length c1,.func (Fn.func 113) #[] #[]] w fun e w'=>SomeB e∧w'=w:=by
 have hll:=hs.le
 have HC:=Lib.hid (idxP_any hs)
 go_enter Tryz.func111,Tryz.ntmps111
 go_wp2_with fail
 refine (HC.out).mono ?_
 rintro e w2 ⟨⟨v,rfl⟩,hw2⟩
 obtain rfl:w=w2:=hw2.symm
 go_wp2
 go_ret
 exact ⟨⟨_,rfl⟩,rfl⟩
theorem proper_any {t:Tr} (h1:Sl M w a1 c1 t.inn) (h2:Sl M1 w a2 c2 t.out) (n:Int):
    Calls Tryz.prog 57 #[trV t a1 c1 a2 c2,.int .i64 n] w fun e w'=>∃er:Int,e= .returned (.int .i64 er)∧PrE er t∧Below w.heap.size w w':=by
 have hB0:=(Below.refl w.heap.size w).alloc (Nat.le_refl _) (trO t a1 c1 a2 c2)
 have hx0:T2 (w.alloc (trO t a1 c1 a2 c2)) w.heap.size a1 c1 a2 c2 t:=t2_new w
 have hz0:w.heap.size<(w.alloc (trO t a1 c1 a2 c2)).heap.size:=by simp
 have HC0:=wcheck_any (h1.below hB0) n
 obtain ⟨we,hwe⟩:∃v,v=wErr t.inn n:=⟨_,rfl⟩
 rw [←hwe] at HC0
 have HC:=Lib.hid HC0
 have H2:=Lib.hid (h2.below hB0)
 have l1:=h1.le
 have l2:=h2.le
 clear h1 h2 HC0 hwe
 go_enter Tryz.func57,Tryz.ntmps57
 go_upto_region 1 with (fail)
 generalize w.alloc (trO t a1 c1 a2 c2)=w0 at*
 obtain ⟨x0,x1⟩:=hx0
 go_wp2_with fail
 refine (HC.out).mono ?_
 rintro e w1 ⟨rfl,hb1⟩
 have hB1:=hB0.trans (hb1.mono hB0.size)
 obtain ⟨x0,x1⟩:=T2.below ⟨x0,x1⟩ hb1 hz0
 have H3:=H2.out.below hb1
 clear HC hB0 hb1 hz0
 by_cases hw0:we=0
 ·have hwb:(we !=0)=false:=by simp [hw0]
  by_cases hl:t.out.length=t.inn.length
  ·have hlb:(((t.out.length:Nat):Int) !=((t.inn.length:Nat):Int))=false:=by simp [hl]
   have HL:=Lib.hid hl
   have HC:=Lib.hid (conP_any H3)
   clear hl hw0 H3
   go_wp2_with fail
   refine (HC.out).mono ?_
   rintro e w2 ⟨⟨v,rfl⟩,hw2⟩
   obtain rfl:w1=w2:=hw2.symm
   cases v with
   |true=>
    have hr:PrE 2 t:=fun _=>HL.out
    go_wp2
    go_ret
    exact ⟨2,rfl,hr,hB1⟩
   |false=>
    have hr:PrE 0 t:=fun _=>HL.out
    go_wp2
    go_ret
    exact ⟨0,rfl,hr,hB1⟩
  have hlb:(((t.out.length:Nat):Int) !=((t.inn.length:Nat):Int))=true:=by simp;omega
  have hr:PrE 1 t:=fun h=>by omega
  clear hl hw0
  go_wp2
  go_ret
  exact ⟨1,rfl,hr,hB1⟩
 have hwb:(we !=0)=true:=by simp [hw0]
 have hr:PrE we t:=fun h=>absurd h hw0
 clear hw0
 go_wp2
 go_ret
 exact ⟨we,rfl,hr,hB1⟩
end
section
variable {M M' M'':Nat→Prop} {w:World} {a b b':Option Addr} {c d d':Nat} {t:Tr}
theorem adT_is {u t:Tr} {b1 b2:Option Addr} {c1 c2 g:Nat} (h1:Sl M w b1 c1 u.inn) (h2:Sl M' w b d t.inn) (hc:w.cell? ⟨g,0,none⟩=some (.slice b t.inn.length d)) {v:Bool} (h:hasP t.inn u.inn=v):
    Calls Tryz.prog 168 #[trV u b1 c1 b2 c2,.pointer (some ⟨g,0,none⟩)] w fun e w'=>e= .returned (.bool v)∧Below w.heap.size w w':=by
 have hl2:=h2.le
 have hlt:=lt_of_cell hc
 have hc2:=((Below.refl w.heap.size w).alloc (Nat.le_refl _) (trO u b1 c1 b2 c2)).cell (p:=⟨g,0,none⟩) hlt
 rw [hc] at hc2
 have HC:=Lib.hid (hasp_is (h2.alloc (trO u b1 c1 b2 c2)) (h1.alloc (trO u b1 c1 b2 c2)) h)
 have hB0:=(Below.refl w.heap.size w).alloc (Nat.le_refl _) (trO u b1 c1 b2 c2)
 clear h1 h2 hc h hlt
 go_enter Tryz.func168,Tryz.ntmps168
 go_wp2_with fail
 refine (HC.out).mono ?_
 rintro e w2 ⟨rfl,hb2⟩
 have hB:=hB0.trans (hb2.mono (by simp))
 go_wp2
 go_ret
 exact ⟨rfl,hB⟩
theorem idxA_no {l:List Tr} {g:Nat} (hs:Sl M w a c l) (hw:Sl M' w b d t.inn) (hc:w.cell? ⟨g,0,none⟩=some (.slice b t.inn.length d)) (hn:Hid (∀y∈l,hasP t.inn y.inn=false)):
    Calls Tryz.prog 65 #[.slice a l.length c,.func (Fn.func 168) #[] #[.pointer (some ⟨g,0,none⟩)]] w fun e w'=>e= .returned (.int .i64 (-1))∧Below w.heap.size w w':=by
 have hll:=hs.le
 have hlt0:=lt_of_cell hc
 have HS:=Lib.hid hs
 have HW:=Lib.hid hw
 have hB0:=Below.refl w.heap.size w
 clear hs hw
 go_enter Tryz.func65,Tryz.ntmps65
 go_wp2
 go_loopw [8] (fun i wr=>∃j:Nat,j≤l.length∧i= .int .i64 j∧Below w.heap.size w wr) (fun i _=>l.length-(intOf i).toNat)
 case atStart=>exact ⟨0,by omega,rfl,hB0⟩
 case round=>
  clear hB0
  obtain ⟨j,hj,rfl,hB⟩:=hrel
  obtain ⟨w1,rfl⟩:∃w1:World,w1=wr:=⟨_,rfl⟩
  by_cases hlt:j<l.length
  ·obtain ⟨b1,o1,a1,c1,a2,c2,t',rfl,hc1,hc2,ht,hs1,hs2⟩:=(HS.out.below hB).at_tr hlt
   have hcw:=(hB.cell (p:=⟨g,0,none⟩) hlt0).trans hc
   have HC:=Lib.hid (adT_is (b2:=a2) (c2:=c2) hs1 (HW.out.below hB) hcw (hn.out t' (List.mem_of_getElem? ht.out)))
   clear hs1 hs2 hcw
   go_wp2_with fail
   refine (HC.out).mono ?_
   rintro e w2 ⟨rfl,hb2⟩
   have hB2:=hB.trans (hb2.mono (by have:=hB.size;omega))
   go_wp2
   go_roundw
   case rel=>exact ⟨j+1,by omega,by go_num,hB2⟩
   case measure=>simp [intOf];omega
  go_wp2
  go_ret
  exact ⟨rfl,hB⟩
theorem del_none {l:List Tr} {g:Nat} (hs:Sl M w a c l) (hw:Sl M' w b d t.inn) (hc:w.cell? ⟨g,0,none⟩=some (.slice b t.inn.length d)) (hn:Hid (∀y∈l,hasP t.inn y.inn=false)):
    Calls Tryz.prog 167 #[.slice a l.length c,.func (Fn.func 168) #[] #[.pointer (some ⟨g,0,none⟩)]] w fun e w'=>e= .returned (.slice a l.length c)∧Below w.heap.size w w':=by
 have HC:=Lib.hid (idxA_no hs hw hc hn)
 clear hs hw hc
 go_enter Tryz.func167,Tryz.ntmps167
 go_wp2_with fail
 refine (HC.out).mono ?_
 rintro e w2 ⟨rfl,hb2⟩
 go_wp2
 go_ret
 exact ⟨rfl,hb2⟩
theorem bsrch_end {l:List Tr} (hs:Sl M w a c l) (h1:Sl M' w b d t.inn) (hn:l.length≤10000) (hlt:Hid (∀y∈l,cmpW y.inn t.inn<0)):
    Calls Tryz.prog 169 #[.slice a l.length c,trV t b d b' d',.func (Fn.func 58) #[] #[]] w fun e w'=>e= .returned (.tuple #[.int .i64 l.length,.bool false])∧Below w.heap.size w w':=by
 have HS:=Lib.hid hs
 have H1:=Lib.hid h1
 have hll:=h1.le
 have hB0:=(Below.refl w.heap.size w).alloc (Nat.le_refl _) (trO t b d b' d')
 have hx0:T2 (w.alloc (trO t b d b' d')) w.heap.size b d b' d' t:=t2_new w
 have hz0:w.heap.size<(w.alloc (trO t b d b' d')).heap.size:=by simp
 clear hs h1
 go_enter Tryz.func169,Tryz.ntmps169
 go_wp2
 go_loopw [9,10] (fun x y wr=>∃lo:Nat,lo≤l.length∧x= .int .i64 lo∧y= .int .i64 l.length∧T2 wr w.heap.size b d b' d' t∧Below w.heap.size w wr∧w.heap.size<wr.heap.size) (fun x _ _=>l.length-(intOf x).toNat)
 case atStart=>exact ⟨0,by omega,rfl,rfl,hx0,hB0,hz0⟩
 case round=>
  clear hx0 hB0 hz0
  obtain ⟨lo,hlo,rfl,rfl,hx,hB,hz⟩:=hrel
  obtain ⟨w1,rfl⟩:∃w1:World,w1=wr:=⟨_,rfl⟩
  by_cases hlt2:lo<l.length
  ·have hj:(lo+l.length)/2<l.length:=by omega
   obtain ⟨b1,o1,a1,c1,a2,c2,u,rfl,hc1,hc2,hu,hs1,hs2⟩:=(HS.out.below hB).at_tr hj
   have HS1:=Lib.hid hs1
   have hul:=hs1.le
   have hul2:=hs2.le
   have hS0:T2 w1 w.heap.size b d b' d' t∧(w1.cell? ⟨b1,o1+(lo+l.length)/2*2,none⟩=some (.slice a1 u.inn.length c1)∧w1.cell? ⟨b1,o1+(lo+l.length)/2*2+1,none⟩=some (.slice a2 u.out.length c2)):=⟨hx,hc1,hc2⟩
   clear hc1 hc2 hs1 hs2
   go_upto_region 5 with (fail)
   rw [show ((lo:Int)+(l.length:Int))/2=(((lo+l.length)/2:Nat):Int) by omega]
   have hlh:lo≤(lo+l.length)/2:=by omega
   generalize (lo+l.length)/2=h at*
   refine wp_region_L (fun w'=>T2 w' w.heap.size b d b' d' t∧(w'.cell? ⟨b1,o1+h*2,none⟩=some (.slice a1 u.inn.length c1)∧w'.cell? ⟨b1,o1+h*2+1,none⟩=some (.slice a2 u.out.length c2))) [0,1,2,3,4,5,7] (by kernel_rfl) ?_
   have hbd:=(Below.refl w1.heap.size w1).drew
   have hS1:T2 w1.drew w.heap.size b d b' d' t∧(w1.drew.cell? ⟨b1,o1+h*2,none⟩=some (.slice a1 u.inn.length c1)∧w1.drew.cell? ⟨b1,o1+h*2+1,none⟩=some (.slice a2 u.out.length c2)):=⟨hx.below hbd (by omega),hS0.2⟩
   have hB1:=hB.trans (hbd.mono (by omega))
   have hz1:w.heap.size<w1.drew.heap.size:=hz
   have HC0:=order_any (a2:=a2) (c2:=c2) (b2:=b') (d2:=d') (HS1.out.below hbd) (H1.out.below hB1)
   have hneg:=hlt.out u (List.mem_of_getElem? hu.out)
   obtain ⟨z,hzz⟩:∃z,z=cmpW u.inn t.inn:=⟨_,rfl⟩
   rw [←hzz] at HC0 hneg
   have HC:=Lib.hid HC0
   clear hS0 hbd hB hx hz HC0 hzz HS1
   generalize w1.drew=w3 at*
   refine skL_on [0,1,2,3,4,5] ?_
   repeat (refine skL_take (v:= ?_) rfl ?_ ?_;rotate_left;(focus (intro w' hSw;(try dsimp only at hSw);go_simp;try with_reducible rfl));try simp only [Act.put,List.setIfInBounds_toArray,List.set_cons_zero,List.set_cons_succ])
   refine skL_off ?_
   refine wpAnyL_one (i:=6) (by kernel_rfl) rfl rfl (fun K hK=> ?_)
   go_simp
   refine (HC.out).mono ?_
   rintro e w4 ⟨rfl,hb4⟩
   have hB4:=hB1.trans (hb4.mono (by omega))
   have hz4:w.heap.size<w4.heap.size:=by have:=hb4.size;omega
   have hS4:T2 w4 w.heap.size b d b' d' t∧(w4.cell? ⟨b1,o1+h*2,none⟩=some (.slice a1 u.inn.length c1)∧w4.cell? ⟨b1,o1+h*2+1,none⟩=some (.slice a2 u.out.length c2)):=⟨hS1.1.below hb4 (by omega),(hb4.cell (p:=⟨b1,o1+h*2,none⟩) (lt_of_cell hS1.2.1)).trans hS1.2.1,(hb4.cell (p:=⟨b1,o1+h*2+1,none⟩) (lt_of_cell hS1.2.2)).trans hS1.2.2⟩
   refine hK _ _ (fun _=>hS4) ?_
   clear hK K HC hS1 hB1 hz1 hb4
   refine wpAnyL_one (i:=7) (by kernel_rfl) rfl rfl (fun K hK=> ?_)
   go_simp
   refine hK _ _ (fun _=>hS4) ?_
   clear hK K
   refine wpAnyL_done (by kernel_rfl) ?_ _
   have hx4:=hS4.1
   clear hS4
   go_wp2
   go_roundw
   case rel=>exact ⟨h+1,by omega,by go_num,rfl,hx4,hB4,hz4⟩
   case measure=>simp [intOf];omega
  obtain rfl:lo=l.length:=by omega
  have hS0:=hx
  go_upto_region 8 with (fail)
  refine wp_region_L (fun w'=>True) [0,1,2,3,4,5,6,7,8,9,10,11,12,13,14,15] (by kernel_rfl) ?_
  have hB1:=hB.drew
  clear hS0 hx hB
  generalize w1.drew=w2 at*
  have hS:True:=trivial
  refine skL_on [0,1,2,3,4] ?_
  repeat (refine skL_take (v:= ?_) rfl ?_ ?_;rotate_left;(focus (intro w' hSw;(try dsimp only at hSw);go_simp;try with_reducible rfl));try simp only [Act.put,List.setIfInBounds_toArray,List.set_cons_zero,List.set_cons_succ])
  refine skL_off ?_
  refine wpAnyL_take (i:=5) (v:=undef) rfl (by kernel_rfl) (by kernel_rfl) (by kernel_rfl) (by kernel_rfl) (fun _ _ _ h=>h) (Or.inr ⟨by rfl,rfl⟩) (by assumption) ?_
  try simp only [Act.put,List.setIfInBounds_toArray,List.set_cons_zero,List.set_cons_succ]
  refine wpAnyL_take (i:=6) (v:=undef) rfl (by kernel_rfl) (by kernel_rfl) (by kernel_rfl) (by kernel_rfl) (fun _ _ _ h=>h) (Or.inr ⟨by rfl,rfl⟩) (by assumption) ?_
  try simp only [Act.put,List.setIfInBounds_toArray,List.set_cons_zero,List.set_cons_succ]
  refine wpAnyL_take (i:=7) (v:=undef) rfl (by kernel_rfl) (by kernel_rfl) (by kernel_rfl) (by kernel_rfl) (fun _ _ _ h=>h) (Or.inr ⟨by rfl,rfl⟩) (by assumption) ?_
  try simp only [Act.put,List.setIfInBounds_toArray,List.set_cons_zero,List.set_cons_succ]
  refine wpAnyL_take (i:=8) (v:=undef) rfl (by kernel_rfl) (by kernel_rfl) (by kernel_rfl) (by kernel_rfl) (fun _ _ _ h=>h) (Or.inr ⟨by rfl,rfl⟩) (by assumption) ?_
  try simp only [Act.put,List.setIfInBounds_toArray,List.set_cons_zero,List.set_cons_succ]
  refine wpAnyL_take (i:=9) (v:=undef) rfl (by kernel_rfl) (by kernel_rfl) (by kernel_rfl) (by kernel_rfl) (fun _ _ _ h=>h) (Or.inr ⟨by rfl,rfl⟩) (by assumption) ?_
  try simp only [Act.put,List.setIfInBounds_toArray,List.set_cons_zero,List.set_cons_succ]
  refine wpAnyL_skip (i:=10) (by kernel_rfl) rfl rfl (by assumption) ?_
  try simp only [Act.put,List.setIfInBounds_toArray,List.set_cons_zero,List.set_cons_succ]
  refine wpAnyL_skip (i:=11) (by kernel_rfl) rfl rfl (by assumption) ?_
  try simp only [Act.put,List.setIfInBounds_toArray,List.set_cons_zero,List.set_cons_succ]
  refine wpAnyL_take (i:=12) (v:=undef) rfl (by kernel_rfl) (by kernel_rfl) (by kernel_rfl) (by kernel_rfl) (fun _ _ _ h=>h) (Or.inr ⟨by rfl,rfl⟩) (by assumption) ?_
  try simp only [Act.put,List.setIfInBounds_toArray,List.set_cons_zero,List.set_cons_succ]
  refine skL_on [13,14,15] ?_
  repeat (refine skL_take (v:= ?_) rfl ?_ ?_;rotate_left;(focus (intro w' hSw;(try dsimp only at hSw);go_simp;try with_reducible rfl));try simp only [Act.put,List.setIfInBounds_toArray,List.set_cons_zero,List.set_cons_succ])
  refine skL_off ?_
  refine wpAnyL_done (by kernel_rfl) ?_ _
  go_wp2
  go_ret2
  exact ⟨rfl,hB1⟩
end
section
variable {w w1 w2:World} {r:Option Nat}
theorem gb_trans (h:w.grownBy w1 r) (k:w1.grownBy w2 r):w.grownBy w2 r:=⟨k.os.trans h.os,k.tape.trans h.tape,k.output.trans h.output,Nat.le_trans h.size k.size,fun i hi hn=>(k.block i (Nat.lt_of_lt_of_le hi h.size) hn).trans (h.block i hi hn)⟩
end
section
variable {M M' M'':Nat→Prop} {w:World} {a b b' a1 a2:Option Addr} {c d d' c1 c2 g N B gv cv:Nat} {t q:Tr} {l:List Tr}
theorem ins_end (hQ:Qt N B w 73 (.slice (some ⟨g,0,none⟩) l.length c) l) (hn0:w.cell? ⟨gv,0,none⟩=some (.slice a1 q.inn.length c1)) (hn1:w.cell? ⟨gv,1,none⟩=some (.slice a2 q.out.length c2))
    (hy1:Sl (mayT N (.slice (some ⟨g,0,none⟩) l.length c)) w a1 c1 q.inn) (hy2:Sl (mayT N (.slice (some ⟨g,0,none⟩) l.length c)) w a2 c2 q.out) (hn:l.length≤10000) (hB:B≤w.heap.size):
    Calls Tryz.prog 170 #[.slice (some ⟨g,0,none⟩) l.length c,.int .i64 l.length,.slice (some ⟨gv,0,none⟩) 1 cv] w fun e w'=>∃(g' c':Nat) (l':List Tr),e= .returned (.slice (some ⟨g',0,none⟩) l'.length c')∧Hid (l'=l++[q])∧
     Qt N B w' 73 (.slice (some ⟨g',0,none⟩) l'.length c') l'∧w.grownBy w' (some g):=by
 obtain ⟨a0,c0,he0,hlc,hcm⟩:=Ow.shape hQ
 simp only [Value.slice.injEq] at he0
 obtain ⟨-, -,rfl⟩:=he0
 unfold maxLen at hcm
 go_enter Tryz.func170,Tryz.ntmps170
 go_wp2_with (at_builtin;refine wpList_push_tr (N:=N) (B:=B) (v:= .slice (some ⟨g,0,none⟩) l.length c) (l:=l) (q:=q) (g:=gv) (c:=cv) rfl rfl Tryz.underlying41 info_trace rfl rfl (by simp [go_sem]) hQ hn0 hn1 hy1 hy2 (by omega) hB ?_)
 all_goals
  intro a9 c9 l9 w9 hl9 hQ9 hk9 hg9
  obtain ⟨g9,rfl, -, -⟩:=ow_some hQ9 (by rw [hl9.out];simp)
  go_wp2
  go_ret
  exact ⟨g9,c9,l9,rfl,hl9,hQ9,hg9⟩
def AddE (t:Tr) (L L':List Tr):Prop:=(L'=L∧(t.inn=[]∨∃u∈L,hasP u.inn t.inn=true))∨L'=L++[t]
def InT (t:Tr) (L:List Tr) (f:Bool):Prop:=f=true→∃u∈L,hasP u.inn t.inn=true
def AddB (t:Tr) (L:List Tr) (N B:Nat) (w':World) (a':Option Addr) (c':Nat) (L':List Tr) (er:Int):Prop:=er=0→AddE t L L'∧∃g',a'=some ⟨g',0,none⟩∧Qt N B w' 73 (.slice (some ⟨g',0,none⟩) L'.length c') L'
theorem inT_up {t:Tr} {L:List Tr} {k:Nat} {f:Bool} (h:InT t (L.take k) f):InT t (L.take (k+1)) f:=fun hf=>by
 obtain ⟨u,hu,hp⟩:=h hf
 exact ⟨u,by rw [List.take_add_one];exact List.mem_append_left _ hu,hp⟩
theorem inT_new {t u:Tr} {L:List Tr} {k:Nat} (hu:L[k]? =some u):InT t (L.take (k+1)) (hasP u.inn t.inn):=fun hf=>⟨u,by rw [List.take_add_one,hu];simp,hf⟩
theorem addB_no {t:Tr} {L L':List Tr} {N B:Nat} {w':World} {a':Option Addr} {c':Nat} {er:Int} (h:er≠0):Hid (AddB t L N B w' a' c' L' er):=fun e=>absurd e h
def AddR (t:Tr) (L:List Tr) (N B g:Nat) (w:World) (e:Ending) (w':World):Prop:=∃(a':Option Addr) (c':Nat) (L':List Tr) (er:Int),e= .returned (.tuple #[.slice a' L'.length c',.int .i64 er])∧Hid (AddB t L N B w' a' c' L' er)∧w.grownBy w' (some g)
theorem oadd_any (hQ:Qt N B w 73 (.slice (some ⟨g,0,none⟩) l.length c) l) (hNB:N≤B) (hB:B≤w.heap.size) (h1:Sl M w b d t.inn) (h2:Sl M' w b' d' t.out) (hn:l.length≤10000)
    (hlen:Hid (∀u∈l,u.out.length=u.inn.length)) (htl:Hid (t.out.length=t.inn.length∧t.inn.length<100000000000)) (hD:Hid (∀y∈l,hasP t.inn y.inn=false)) (hC:Hid (∀y∈l,cmpW y.inn t.inn<0)):
    Calls Tryz.prog 121 #[.slice (some ⟨g,0,none⟩) l.length c,trV t b d b' d'] w (AddR t l N B g w):=by
 have hB0:=(Below.refl w.heap.size w).alloc (Nat.le_refl _) (trO t b d b' d')
 have hx0:T2 (w.alloc (trO t b d b' d')) w.heap.size b d b' d' t:=t2_new w
 have hz0:w.heap.size<(w.alloc (trO t b d b' d')).heap.size:=by simp
 have HQ:=Lib.hid hQ
 have HS:=Lib.hid (hQ.sl hNB)
 have H1:=Lib.hid h1
 have H2:=Lib.hid h2
 have l1:=h1.le
 have l2:=h2.le
 have hI0:Hid (InT t (l.take 0) false):=fun h=>by cases h
 clear hQ h1 h2
 go_enter Tryz.func121,Tryz.ntmps121
 go_wp2
 go_loopw [6,13] (fun v i wr=>∃(k:Nat) (f:Bool),k≤l.length∧v= .bool f∧i= .int .i64 k∧Hid (InT t (l.take k) f)∧T2 wr w.heap.size b d b' d' t∧Below w.heap.size w wr∧w.heap.size<wr.heap.size) (fun _ i _=>l.length-(intOf i).toNat)
 case atStart=>exact ⟨0,false,by omega,rfl,rfl,hI0,hx0,hB0,hz0⟩
 case round=>
  clear hx0 hB0 hz0 hI0
  obtain ⟨k,f,hk,rfl,rfl,hI,hx,hBw,hz⟩:=hrel
  obtain ⟨w2,rfl⟩:∃w2:World,w2=wr:=⟨_,rfl⟩
  by_cases hlt:k<l.length
  ·obtain ⟨b1,o1,e1,f1,e2,f2,u,hgg,hc1,hc2,hu,hs1,hs2⟩:=(HS.out.below hBw).at_tr hlt
   simp only [Option.some.injEq,Addr.mk.injEq] at hgg
   obtain ⟨rfl,rfl, -⟩:=hgg
   simp only [Nat.zero_add] at hc1 hc2
   have hba:=(Below.refl w2.heap.size w2).alloc (Nat.le_refl _) (trO u e1 f1 e2 f2)
   have hu3:T2 (w2.alloc (trO u e1 f1 e2 f2)) w2.heap.size e1 f1 e2 f2 u:=t2_new w2
   have hx3:=hx.below hba (by omega)
   have hB3:=hBw.trans (hba.mono (by omega))
   have hz3:(w2.alloc (trO u e1 f1 e2 f2)).heap.size=w2.heap.size+1:=by simp
   have hul:=hs1.le
   have hul2:=hs2.le
   have HU:=Lib.hid (hs1.below hba)
   have HD0:=odif_any (HU.out) (hs2.below hba) (H1.out.below hB3) (H2.out.below hB3) (hlen.out u (List.mem_of_getElem? hu.out)) htl.out.1
   obtain ⟨z,hzz⟩:∃z,z=difT u t:=⟨_,rfl⟩
   rw [←hzz] at HD0
   have HD:=Lib.hid HD0
   clear hs1 hs2 hba HD0 hzz
   go_wp2_with fail
   clear hc1 hc2 hx hBw
   generalize w2.alloc (trO u e1 f1 e2 f2)=w3 at*
   refine (HD.out).mono ?_
   rintro e w4 ⟨rfl,hb4⟩
   have hu4:=hu3.below hb4 (by omega)
   have hx4:=hx3.below hb4 (by omega)
   have hB4:=hB3.trans (hb4.mono (by omega))
   have hz4:w2.heap.size<w4.heap.size:=by have:=hb4.size;omega
   have HU4:=Lib.hid (HU.out.below hb4)
   clear hu3 hx3 hB3 hz3 HD hb4 HU
   by_cases hzn:z<0
   rotate_left
   ·have hzb:(0:Int)≤z:=by omega
    go_wp2
    go_ret2
    exact ⟨none,0,[],13,rfl,addB_no (by decide),gb_bel (gb_refl _) hB4⟩
   have hzb:¬(0:Int)≤z:=by omega
   cases f with
   |true=>
    have hI2:Hid (InT t (l.take (k+1)) true):=inT_up hI.out
    clear hI hu4 HU4 hu
    go_wp2
    go_roundw
    case rel=>exact ⟨k+1,true,by omega,rfl,by go_num,hI2,hx4,hB4,by omega⟩
    case measure=>simp [intOf];omega
   |false=>
    have HP0:=hasp_is HU4.out (H1.out.below hB4) (v:=hasP u.inn t.inn) rfl
    have hI2:Hid (InT t (l.take (k+1)) (hasP u.inn t.inn)):=inT_new hu.out
    obtain ⟨y,hy⟩:∃y,y=hasP u.inn t.inn:=⟨_,rfl⟩
    rw [←hy] at HP0 hI2
    have HP:=Lib.hid HP0
    clear HP0 hy hI hu
    go_wp2_with fail
    refine (HP.out).mono ?_
    rintro e w5 ⟨rfl,hb5⟩
    have hx5:=hx4.below hb5 (by omega)
    have hB5:=hB4.trans (hb5.mono (by omega))
    have hz5:w.heap.size<w5.heap.size:=by have:=hb5.size;omega
    clear hx4 hB4 HP hb5 hu4 HU4
    go_wp2
    go_roundw
    case rel=>exact ⟨k+1,y,by omega,rfl,by go_num,hI2,hx5,hB5,hz5⟩
    case measure=>simp [intOf];omega
  have hI2 : Hid (InT t l f) := by
   have h:=hI.out
   rw [List.take_of_length_le (by omega)] at h
   exact h
  clear hI
  cases f with
  |true=>
   have hF:Hid (AddB t l N B w2 (some ⟨g,0,none⟩) c l 0):=fun _=>⟨.inl ⟨rfl,.inr (hI2.out rfl)⟩,g,rfl,HQ.out.later hBw⟩
   go_wp2
   go_ret2
   exact ⟨some ⟨g,0,none⟩,c,l,0,rfl,hF,gb_bel (gb_refl _) hBw⟩
  |false=>
   by_cases ht0:t.inn.length=0
   ·have ht0b:(((t.inn.length:Nat):Int)==0)=true:=by simp [ht0]
    have hF:Hid (AddB t l N B w2 (some ⟨g,0,none⟩) c l 0):=fun _=>⟨.inl ⟨rfl,.inl (List.length_eq_zero_iff.1 ht0)⟩,g,rfl,HQ.out.later hBw⟩
    clear ht0
    go_wp2
    go_ret2
    exact ⟨some ⟨g,0,none⟩,c,l,0,rfl,hF,gb_bel (gb_refl _) hBw⟩
   have ht0b:(((t.inn.length:Nat):Int)==0)=false:=by simp only [beq_eq_false_iff_ne,ne_eq];omega
   have HX:=Lib.hid (del_none (HS.out.below hBw) (H1.out.below hBw) hx.1 hD)
   clear ht0 hI2
   go_wp2_with fail
   refine (HX.out).mono ?_
   rintro e w3 ⟨rfl,hb3⟩
   have hx3:=hx.below hb3 (by omega)
   have hB3:=hBw.trans (hb3.mono (by omega))
   have hz3:w.heap.size<w3.heap.size:=by have:=hb3.size;omega
   clear hx hBw hz hb3 HX
   by_cases hl4:l.length=10000
   ·have hl4b:(((l.length:Nat):Int)==10000)=true:=by simp;omega
    clear hl4
    go_wp2
    go_ret2
    exact ⟨none,0,[],11,rfl,addB_no (by decide),gb_bel (gb_refl _) hB3⟩
   have hl4b:(((l.length:Nat):Int)==10000)=false:=by simp;omega
   clear hl4
   have HX:=Lib.hid (bsrch_end (b':=b') (d':=d') (HS.out.below hB3) (H1.out.below hB3) hn hC)
   go_wp2_with fail
   refine (HX.out).mono ?_
   rintro e w4 ⟨rfl,hb4⟩
   have hx4:=hx3.below hb4 (by omega)
   have hB4:=hB3.trans (hb4.mono (by omega))
   have hz4:w.heap.size<w4.heap.size:=by have:=hb4.size;omega
   clear hx3 hB3 hz3 hb4 HX
   have HX:=Lib.hid (ocopied_any (H1.out.below hB4) (H2.out.below hB4) htl.out.2 (by have:=htl.out;omega))
   go_wp2_with fail
   refine (HX.out).mono ?_
   rintro e w5 ⟨a5,c5,l5,a6,c6,l6,rfl,hl5,hs5,hs6,hb5⟩
   have hB5:=hB4.trans (hb5.mono (by omega))
   have hz5:w.heap.size<w5.heap.size:=by have:=hb5.size;omega
   have hgl:=(HQ.out.lt g rfl).2
   have hy1:Sl (mayT N (.slice (some ⟨g,0,none⟩) l.length c)) w5 a5 c5 l5:=hs5.anti fun i _ hi=>by
    rcases hi with hi|hi
    ·obtain rfl:g=i:=by simpa [Value.ownBlock] using hi
     show g<_;omega
    show i<_;omega
   have hy2:Sl (mayT N (.slice (some ⟨g,0,none⟩) l.length c)) w5 a6 c6 l6:=hs6.anti fun i _ hi=>by
    rcases hi with hi|hi
    ·obtain rfl:g=i:=by simpa [Value.ownBlock] using hi
     show g<_;omega
    show i<_;omega
   have hba:=(Below.refl w5.heap.size w5).alloc (Nat.le_refl _) (.cells #[.slice a5 l5.length c5,.slice a6 l6.length c6] 73)
   have hB6:=hB5.trans (hba.mono (by omega))
   have HX:=Lib.hid (ins_end (q:=⟨l5,l6⟩) (gv:=w5.heap.size) (cv:=1) (HQ.out.later hB6) (by simp) (by simp) (hy1.below hba) (hy2.below hba) hn (by simp;omega))
   clear hx4 hB4 hz4 hb5 hs5 hs6 hy1 hy2 hba hB5
   go_wp2_with fail
   refine (HX.out).mono ?_
   rintro e w7 ⟨g7,c7,l7,rfl,hl7,hQ7,hg7⟩
   have hF:Hid (AddB t l N B w7 (some ⟨g7,0,none⟩) c7 l7 0):=fun _=>⟨.inr (by rw [hl7.out,hl5.out]),g7,rfl,hQ7⟩
   have hG:=gb_trans (gb_bel (gb_refl (some g)) hB6) hg7
   clear HX hB6 hg7 hQ7
   go_wp2
   go_ret2
   exact ⟨some ⟨g7,0,none⟩,c7,l7,0,rfl,hF,hG⟩
end
def Mach.trW (m:Mach) (l:List Int):Tr:=⟨l,m.outsW m.start l⟩
def TrcE (m:Mach) (rows:List (List Int)) (L:List Tr) (er:Int):Prop:=er=0→m.err=0∧L=rows.map m.trW∧rows.length≤10000∧∀x∈rows,wErr x m.inputs=0
section
variable {M M':Nat→Prop} {w:World} {an ao a:Option Addr} {cn co c:Nat} {m:Mach} {rows:List (List Int)}
theorem map_snoc {k:Nat} {r:List Int} {f:List Int→Tr} (h:rows[k]? =some r):(rows.take (k+1)).map f=(rows.take k).map f++[f r]:=by
 rw [List.take_add_one,h];simp
theorem trcE_no {L:List Tr} {er:Int} (h:er≠0):Hid (TrcE m rows L er):=fun e=>absurd e h
def TrcR (m:Mach) (rows:List (List Int)) (w:World) (e:Ending) (w':World):Prop:=∃(a':Option Addr) (c':Nat) (L:List Tr) (er:Int),e= .returned (.tuple #[.slice a' L.length c',.int .i64 er])∧Hid (TrcE m rows L er)∧
 Sl (fun k=>k<w.heap.size) w' a' c' L∧Below w.heap.size w w'
theorem traces_any (hm:Ma M w an cn ao co m) (hw:Sl M' w a c rows):
    Calls Tryz.prog 70 #[maV m an cn ao co,.slice a rows.length c] w (TrcR m rows w):=by
 have hll:=hw.le
 have HM:=Lib.hid hm
 have HW:=Lib.hid hw
 have hx0:=c4_new (m:=m) (an:=an) (cn:=cn) (ao:=ao) (co:=co) w
 have hB0:=(Below.refl w.heap.size w).alloc (Nat.le_refl _) (maO m an cn ao co)
 have hz0:w.heap.size+1≤(w.alloc (maO m an cn ao co)).heap.size:=by simp
 have HC:=Lib.hid (valid_any (HM.out.below hB0))
 have hnil:Sl (fun k=>k<w.heap.size) w none 0 ([]:List Tr):=Sl.nil _ _ _ (by unfold maxLen;omega)
 clear hm hw
 by_cases hme:m.err=0
 rotate_left
 ·have hmb:(m.err !=0)=true:=by simp [hme]
  go_enter Tryz.func70,Tryz.ntmps70
  go_wp2_with fail
  generalize w.alloc (maO m an cn ao co)=w0 at*
  refine (HC.out).mono ?_
  rintro e w1 ⟨rfl,hb1⟩
  have hB1:=hB0.trans (hb1.mono (by omega))
  clear hx0 hB0 hb1 HC
  go_wp2
  go_ret2
  exact ⟨none,0,[],m.err,rfl,trcE_no hme,Sl.nil _ _ _ (by unfold maxLen;omega),hB1⟩
 have hmb:(m.err !=0)=false:=by simp [hme]
 have HE:=Lib.hid hme
 clear hme
 by_cases hn:rows.length≤10000
 rotate_left
 ·have hlim:decide ((10000:Int)<((rows.length:Nat):Int))=true:=by simp;omega
  go_enter Tryz.func70,Tryz.ntmps70
  go_wp2_with fail
  generalize w.alloc (maO m an cn ao co)=w0 at*
  refine (HC.out).mono ?_
  rintro e w1 ⟨rfl,hb1⟩
  have hB1:=hB0.trans (hb1.mono (by omega))
  clear hx0 hB0 hb1 HC
  go_wp2
  go_ret2
  exact ⟨none,0,[],11,rfl,trcE_no (by decide),Sl.nil _ _ _ (by unfold maxLen;omega),hB1⟩
 have hlim:decide ((10000:Int)<((rows.length:Nat):Int))=false:=by simp;omega
 have ok:=Lib.hid (m.ok_of_err HE.out)
 have hst:Hid (0≤m.start∧m.start<m.next.length):=⟨ok.out.s0,ok.out.s1⟩
 go_enter Tryz.func70,Tryz.ntmps70
 go_wp2_with fail
 generalize w.alloc (maO m an cn ao co)=w0 at*
 refine (HC.out).mono ?_
 rintro e w1 ⟨rfl,hb1⟩
 have hB1:=hB0.trans (hb1.mono (by omega))
 have hx1:=hx0.below hb1 (by omega)
 have hz1:w.heap.size+1≤w1.heap.size:=by have:=hb1.size;omega
 have hw0:Hid (∀x∈rows.take 0,wErr x m.inputs=0):=fun x hx=>by simp at hx
 clear hx0 hB0 hb1 hz0 HC
 go_wp2
 go_loopw [7,22] (fun v i wr=>∃(k:Nat) (a':Option Addr) (c':Nat) (L:List Tr),k≤rows.length∧i= .int .i64 k∧v= .slice a' L.length c'∧Hid (L=(rows.take k).map m.trW)∧Hid (∀x∈rows.take k,wErr x m.inputs=0)∧
  Qt (w.heap.size+1) (w.heap.size+1) wr 73 (.slice a' L.length c') L∧C4 wr w.heap.size an cn ao co m∧Below w.heap.size w wr∧w.heap.size+1≤wr.heap.size) (fun _ i _=>rows.length-(intOf i).toNat)
 case atStart=>exact ⟨0,none,0,[],by omega,rfl,rfl,rfl,hw0,Ow.nil,hx1,hB1,hz1⟩
 case round=>
  clear hx1 hB1 hz1 hw0
  obtain ⟨k,a3,c3,L,hk,rfl,rfl,hL,hWe,hQ,hx,hB,hz⟩:=hrel
  obtain ⟨w2,rfl⟩:∃w2:World,w2=wr:=⟨_,rfl⟩
  by_cases hlt:k<rows.length
  ·obtain ⟨b1,o1,a1,r,c1,rfl,hc1,hX,hs1⟩:=(HW.out.below hB).at_row hlt
   have hrl:=hs1.le
   have HR:=Lib.hid hs1
   have HC:=Lib.hid (wcheck_any hs1 m.inputs)
   have hLk:=Lib.hid (show L.length=k by rw [hL.out];simp;omega)
   have hL1:L.length≤10000:=by rw [hLk.out];omega
   have hcc:∀w',Below w2.heap.size w2 w'→w'.cell? ⟨b1,o1+k,none⟩=some (.slice a1 r.length c1):=fun w' hb'=>(hb'.cell (p:=⟨b1,o1+k,none⟩) (lt_of_cell hc1)).trans hc1
   have HCC:=Lib.hid hcc
   clear hs1 hcc
   go_wp2_with fail
   refine (HC.out).mono ?_
   rintro e w4 ⟨rfl,hb4⟩
   have hx4:=hx.below hb4 (by omega)
   have hQ4:=hQ.later hb4
   have hB4:=hB.trans (hb4.mono (by omega))
   have hz4:w.heap.size+1≤w4.heap.size:=by have:=hb4.size;omega
   have hR4:=Lib.hid (HR.out.below hb4)
   clear hx hQ hB hz HC hb4 HR hc1 HCC
   by_cases hwe:wErr r m.inputs=0
   rotate_left
   ·have hwb:(wErr r m.inputs !=0)=true:=by simp [hwe]
    go_wp2
    go_ret2
    exact ⟨none,0,[],wErr r m.inputs,rfl,trcE_no hwe,Sl.nil _ _ _ (by unfold maxLen;omega),hB4⟩
   have hwb:(wErr r m.inputs !=0)=false:=by simp [hwe]
   obtain ⟨hok,hl2⟩:=Mach.okS_of hwe
   have hWk:Hid (∀x∈rows.take (k+1),wErr x m.inputs=0):=fun x hx=>by
    rw [List.take_add_one,hX.out] at hx
    rcases List.mem_append.1 hx with hx|hx
    ·exact hWe.out x hx
    simp at hx;rw [hx];exact hwe
   have hB5:=hB4.alloc (by omega) (.cells #[.int .i64 m.inputs,.int .i64 m.start,.slice an m.next.length cn,.slice ao m.out.length co,.int .i64 m.start] 150)
   have hba:=(Below.refl w4.heap.size w4).alloc (Nat.le_refl _) (.cells #[.int .i64 m.inputs,.int .i64 m.start,.slice an m.next.length cn,.slice ao m.out.length co,.int .i64 m.start] 150)
   have h5:R5 (w4.alloc (.cells #[.int .i64 m.inputs,.int .i64 m.start,.slice an m.next.length cn,.slice ao m.out.length co,.int .i64 m.start] 150)) w4.heap.size an cn ao co m m.start:=by
    refine ⟨⟨?_,?_,?_,?_⟩,?_,?_⟩<;>simp
   have hR5:=Lib.hid (hR4.out.below hba)
   have hz5:(w4.alloc (.cells #[.int .i64 m.inputs,.int .i64 m.start,.slice an m.next.length cn,.slice ao m.out.length co,.int .i64 m.start] 150)).heap.size=w4.heap.size+1:=by simp
   have HQ4:=Lib.hid hQ4
   clear hwe hWe hQ4
   go_wp2_with fail
   generalize w4.alloc (.cells #[.int .i64 m.inputs,.int .i64 m.start,.slice an m.next.length cn,.slice ao m.out.length co,.int .i64 m.start] 150)=w5 at*
   refine (clone_any hR5.out (by omega)).mono ?_
   rintro e w6 ⟨a6,c6,l6,rfl,hl6,hs6,hb6⟩
   have hz6:w4.heap.size+1≤w6.heap.size:=by have:=hb6.size;omega
   have hb46:=hba.trans (hb6.mono (by omega))
   have h56:=h5.below hb6 (by omega)
   have HR:=Lib.hid (runK_any (b:=w4.heap.size) (w:=w6) (by omega)
    (fun w' hb=>HM.out.below (hB4.trans (((hb46.grown hb (by omega) (fun k hk=>by simp only [Option.some.injEq] at hk;omega))).mono (by omega)))) (fun w' hb=>hR4.out.below (hb46.grown hb (by omega) (fun k hk=>by simp only [Option.some.injEq] at hk;omega))) ok.out h56 hst.out hok hl2)
   clear h5 hR5 hb6 h56 hok
   go_wp2_with fail
   refine (HR.out).mono ?_
   rintro e w7 ⟨a7,c7,l7,rfl,hl7,hs7,hb7, -⟩
   have hz7:w4.heap.size+1≤w7.heap.size:=by have:=hb7.size;omega
   have hs67:Sl (fun k=>k<w5.heap.size) w7 a6 c6 l6:=hs6.ext ⟨hb7.size,fun k hk hM=>hb7.block k hk (fun e=>by simp only [Option.some.injEq] at e;exact hM (by show k<_;omega)),fun _ _ h=>h⟩
   have hb47:=hb46.grown hb7 (by omega) (fun k hk=>by simp only [Option.some.injEq] at hk;omega)
   have hB7:=hB4.trans (hb47.mono (by omega))
   have hx7:=hx4.below hb47 (by omega)
   have hQ7:=HQ4.out.later hb47
   have hy1:Sl (mayT (w.heap.size+1) (.slice a3 L.length c3)) w7 a6 c6 l6:=hs67.anti fun i _ hi=>by
    rcases hi with hi|hi
    ·have:=(HQ4.out.lt i hi).2;show i<_;omega
    show i<_;omega
   have hy2:Sl (mayT (w.heap.size+1) (.slice a3 L.length c3)) w7 a7 c7 l7:=hs7.anti fun i _ hi=>by
    rcases hi with hi|hi
    ·have:=(HQ4.out.lt i hi).2;show i<_;omega
    show i<_;omega
   have HQ7:=Lib.hid hQ7
   clear hx4 hs6 hs7 hs67 hb7 hz5 hz6 hb46 hb47 HR hQ7 HQ4
   have hbb:=(Below.refl w7.heap.size w7).alloc (Nat.le_refl _) (.cells #[.slice a6 l6.length c6,.slice a7 l7.length c7] 73)
   go_wp2_with (at_builtin;refine wpList_push_tr (N:=w.heap.size+1) (B:=w.heap.size+1) (v:= .slice a3 L.length c3) (l:=L) (q:=⟨l6,l7⟩) (g:=w7.heap.size) (c:=1) rfl rfl Tryz.underlying41 info_trace rfl rfl (by simp [go_sem]) (HQ7.out.later hbb) (by simp) (by simp) (hy1.below hbb) (hy2.below hbb) (by omega) (by simp;omega) ?_)
   intro a9 c9 l9 w9 hl9 hQ9 hk9 hg9
   have hb9:=(Below.refl (w.heap.size+1) (w7.alloc (.cells #[.slice a6 l6.length c6,.slice a7 l7.length c7] 73))).grown hg9 (by simp;omega) (fun i hi=>(HQ7.out.lt i hi).1)
   have hb99:=(hbb.mono (show w.heap.size+1≤w7.heap.size by omega)).trans hb9
   have hx9:=hx7.below hb99 (by omega)
   have hB9:=hB7.trans (hb99.mono (by omega))
   have hz9:w.heap.size+1≤w9.heap.size:=by have:=hb99.size;omega
   have hF9:Hid (l9=(rows.take (k+1)).map m.trW):=by unfold Hid;rw [hl9.out,map_snoc hX.out,hL.out,hl6.out,hl7.out];rfl
   clear hx7 hB7 hz7 hbb hk9 hg9 hb9 hb99 hl9 hl6 hl7 hL hy1 hy2 HQ7
   go_wp2
   go_roundw
   case rel=>exact ⟨k+1,a9,c9,l9,by omega,by go_num,rfl,hF9,hWk,hQ9,hx9,hB9,hz9⟩
   case measure=>simp [intOf];omega
  have hF:Hid (TrcE m rows L 0):=fun _=>⟨HE.out,by rw [hL.out,List.take_of_length_le (by omega)],hn,fun x hx=>hWe.out x (by rw [List.take_of_length_le (by omega)];exact hx)⟩
  have hs:=(hQ.sl (Nat.le_refl _)).anti (M':=fun k=>k<w.heap.size) fun k _ hk=>by omega
  clear hL
  go_wp2
  go_ret2
  exact ⟨a3,c3,L,0,rfl,hF,hs,hB⟩
end
def AllE (l L:List Tr):Prop:=(∀t∈L,t∈l)∧(∀t∈l,t.inn=[]∨∃u∈L,hasP u.inn t.inn=true)∧L.length≤l.length
def AllB (er:Int) (l L:List Tr):Prop:=er=0→AllE l L
def BehT (u t:Tr):Prop:=cmpW u.inn t.inn<0∧hasP t.inn u.inn=false
theorem hasP_self (a:List Int):hasP a a=true:=by unfold hasP;exact decide_eq_true (comW_prefix.2 (List.prefix_refl _))
theorem allE_nil {l:List Tr}:AllE (l.take 0) []:=⟨fun t ht=>by simp at ht,fun t ht=>by simp at ht,by simp⟩
theorem allE_step {l L L':List Tr} {k:Nat} {t:Tr} (h:AllE (l.take k) L) (hk:l[k]? =some t) (ha:AddE t L L'):AllE (l.take (k+1)) L':=by
 have hm:∀x,x∈l.take (k+1)↔x∈l.take k∨x=t:=fun x=>by rw [List.take_add_one,hk];simp
 have hl:(l.take (k+1)).length=(l.take k).length+1:=by rw [List.take_add_one,hk];simp
 have h3:=h.2.2
 rcases ha with ⟨rfl,h1⟩|rfl
 ·refine ⟨fun x hx=>(hm x).2 (.inl (h.1 x hx)),fun x hx=> ?_,by omega⟩
  rcases (hm x).1 hx with hx|rfl
  ·exact h.2.1 x hx
  exact h1
 refine ⟨fun x hx=>(hm x).2 ?_,fun x hx=> ?_,by rw [List.length_append];simp only [List.length_cons,List.length_nil];omega⟩
 ·rcases List.mem_append.1 hx with hx|hx
  ·exact .inl (h.1 x hx)
  exact .inr (by simpa using hx)
 rcases (hm x).1 hx with hx|rfl
 ·rcases h.2.1 x hx with h0|⟨u,hu,hp⟩
  ·exact .inl h0
  exact .inr ⟨u,List.mem_append_left _ hu,hp⟩
 exact .inr ⟨x,by simp,hasP_self _⟩
theorem pw_at {α:Type} {R:α→α→Prop} {l:List α} (h:l.Pairwise R) {k:Nat} {t u:α} (hk:l[k]? =some t) (hu:u∈l.take k):R u t:=by
 rw [List.pairwise_iff_getElem] at h
 obtain ⟨i,hi,rfl⟩:=List.getElem_of_mem hu
 have hkl:k<l.length:=by
  by_cases e:k<l.length
  ·exact e
  rw [List.getElem?_eq_none (by omega)] at hk;cases hk
 rw [List.getElem?_eq_getElem hkl,Option.some.injEq] at hk
 rw [List.length_take] at hi
 have:=h i k (by omega) hkl (by omega)
 rw [hk] at this
 rw [List.getElem_take]
 exact this
section
variable {M M':Nat→Prop} {w:World} {a b an ao:Option Addr} {c d cn co:Nat} {l:List Tr} {m:Mach} {rows:List (List Int)}
def AllR (n:Int) (l:List Tr) (w:World) (e:Ending) (w':World):Prop:=∃(a':Option Addr) (c':Nat) (L:List Tr) (er:Int),e= .returned (.tuple #[.agg #[.int .i64 n,.slice a' L.length c'],.int .i64 er])∧Hid (AllB er l L)∧
 Sl (fun k=>k<w.heap.size) w' a' c' L∧Below w.heap.size w w'
theorem all_no {l L:List Tr} {er:Int} (h:er≠0):Hid (AllB er l L):=fun e=>absurd e h
theorem oall_any {n:Int} (hl:Sl M w b d l) (hlen:Hid (∀t∈l,t.out.length=t.inn.length∧t.inn.length<100000000000)) (hp:Hid (l.Pairwise BehT)) (hn:l.length≤10000):
    Calls Tryz.prog 71 #[.agg #[.int .i64 n,.slice none 0 0],.slice b l.length d] w (AllR n l w):=by
 have hB0:=((Below.refl w.heap.size w).alloc (Nat.le_refl _) (.cells #[.int .i64 n,.slice none 0 0] 43)).alloc (by simp) (.cells #[.int .i64 0,.slice none 0 0] 43)
 have hz0:((w.alloc (.cells #[.int .i64 n,.slice none 0 0] 43)).alloc (.cells #[.int .i64 0,.slice none 0 0] 43)).heap.size=w.heap.size+2:=by simp
 have hx0:Hid (((w.alloc (.cells #[.int .i64 n,.slice none 0 0] 43)).alloc (.cells #[.int .i64 0,.slice none 0 0] 43)).heap[w.heap.size]? =some (.cells #[.int .i64 n,.slice none 0 0] 43 (0,0))):=by
  have h:=heap_alloc_new w (.cells #[.int .i64 n,.slice none 0 0] 43)
  exact (((Below.refl _ _).alloc (Nat.le_refl _) _).block w.heap.size (by simp)).trans h
 have hy0:Hid (((w.alloc (.cells #[.int .i64 n,.slice none 0 0] 43)).alloc (.cells #[.int .i64 0,.slice none 0 0] 43)).heap[w.heap.size+1]? =some (.cells #[.int .i64 0,.slice none 0 0] 43 (0,0))):=by
  have h:=heap_alloc_new (w.alloc (.cells #[.int .i64 n,.slice none 0 0] 43)) (.cells #[.int .i64 0,.slice none 0 0] 43)
  simpa [Hid] using h
 have HS:=Lib.hid hl
 have l1:=hl.le
 clear hl
 have HO:=Lib.hid (owned_nil (mayT (w.heap.size+2) (.slice (some ⟨w.heap.size+2,0,none⟩) 0 1)) ((w.alloc (.cells #[.int .i64 n,.slice none 0 0] 43)).alloc (.cells #[.int .i64 0,.slice none 0 0] 43)))
 go_enter Tryz.func71,Tryz.ntmps71
 go_upto_region 1 with (fail)
 generalize (w.alloc (.cells #[.int .i64 n,.slice none 0 0] 43)).alloc (.cells #[.int .i64 0,.slice none 0 0] 43)=w0 at*
 obtain ⟨⟨k0,k1⟩, -⟩:=cells2 hx0.out
 go_wp2_with fail
 refine (HO.out).mono ?_
 rintro e w1 ⟨rfl,hO,hb1⟩
 rw [hz0] at hO ⊢
 have hB1:=hB0.trans (hb1.mono (by omega))
 have hz1:w.heap.size+2≤w1.heap.size:=by have:=hb1.size;omega
 have hx1:=Lib.hid ((hb1.block w.heap.size (by omega)).trans hx0.out)
 have hy1:=Lib.hid ((hb1.block (w.heap.size+1) (by omega)).trans hy0.out)
 have hE0:Hid (AllE (l.take 0) []):=allE_nil
 clear k0 k1 HO hb1 hB0 hz0 hx0 hy0
 go_wp2
 go_loopw [6,17] (fun v i wr=>∃(k g c':Nat) (L:List Tr),k≤l.length∧i= .int .i64 k∧v= .slice (some ⟨g,0,none⟩) L.length c'∧Hid (AllE (l.take k) L)∧L.length≤k∧Qt (w.heap.size+2) (w.heap.size+2) wr 73 (.slice (some ⟨g,0,none⟩) L.length c') L∧
  Hid (wr.heap[w.heap.size]? =some (.cells #[.int .i64 n,.slice none 0 0] 43 (0,0)))∧Hid (wr.heap[w.heap.size+1]? =some (.cells #[.int .i64 0,.slice none 0 0] 43 (0,0)))∧Below w.heap.size w wr∧w.heap.size+2≤wr.heap.size) (fun _ i _=>l.length-(intOf i).toNat)
 case atStart=>exact ⟨0,w.heap.size+2,1,[],by omega,rfl,rfl,hE0,by simp,hO,hx1,hy1,hB1,hz1⟩
 case round=>
  clear hx1 hy1 hB1 hz1 hE0 hO
  obtain ⟨k,g,c',L,hk,rfl,rfl,hE,hLk,hQ,hx,hy,hB,hz⟩:=hrel
  obtain ⟨w2,rfl⟩:∃w2:World,w2=wr:=⟨_,rfl⟩
  by_cases hlt:k<l.length
  ·obtain ⟨b1,o1,e1,f1,e2,f2,t,rfl,hc1,hc2,ht,hs1,hs2⟩:=(HS.out.below hB).at_tr hlt
   have hba:=(Below.refl w2.heap.size w2).alloc (Nat.le_refl _) (trO t e1 f1 e2 f2)
   have ht3:T2 (w2.alloc (trO t e1 f1 e2 f2)) w2.heap.size e1 f1 e2 f2 t:=t2_new w2
   have hB3:=hB.trans (hba.mono (by omega))
   have hz3:(w2.alloc (trO t e1 f1 e2 f2)).heap.size=w2.heap.size+1:=by simp
   have hx3:=Lib.hid ((hba.block w.heap.size (by omega)).trans hx.out)
   have hy3:=Lib.hid ((hba.block (w.heap.size+1) (by omega)).trans hy.out)
   have hQ3:=Lib.hid (Qt.later hQ hba)
   have hul:=hs1.le
   have hul2:=hs2.le
   have H1:=Lib.hid (hs1.below hba)
   have H2:=Lib.hid (hs2.below hba)
   obtain ⟨⟨k0,k1⟩, -⟩:=cells2 hx3.out
   have HD:=Lib.hid (proper_any H1.out H2.out n)
   clear hs1 hs2 hba hB hx hy hQ
   go_wp2_with fail
   clear hc1 hc2 k0 k1
   generalize w2.alloc (trO t e1 f1 e2 f2)=w3 at*
   refine (HD.out).mono ?_
   rintro e w4 ⟨ep,rfl, -,hb4⟩
   have ht4:=ht3.below hb4 (by omega)
   have hB4:=hB3.trans (hb4.mono (by omega))
   have hz4:w2.heap.size<w4.heap.size:=by have:=hb4.size;omega
   have hx4:=Lib.hid ((hb4.block w.heap.size (by omega)).trans hx3.out)
   have hy4:=Lib.hid ((hb4.block (w.heap.size+1) (by omega)).trans hy3.out)
   have hQ4:=Lib.hid (Qt.later hQ3.out hb4)
   have H14:=Lib.hid (H1.out.below hb4)
   have H24:=Lib.hid (H2.out.below hb4)
   clear ht3 hB3 hz3 hx3 hy3 hQ3 H1 H2 HD hb4
   by_cases hep:ep=0
   rotate_left
   ·have hepb:(ep !=0)=true:=by simp [hep]
    obtain ⟨⟨k0,k1⟩, -⟩:=cells2 hx4.out
    obtain ⟨⟨k2,k3⟩,k4⟩:=cells2 hy4.out
    have HR:=Lib.hid (set2 (y0:= .int .i64 n) (y1:= .slice none 0 0) hy4.out)
    have HBn:=Lib.hid (bel_st2 (g:=w.heap.size+1) (y0:= .int .i64 n) (y1:= .slice none 0 0) hB4 (by omega))
    obtain ⟨⟨q0,q1⟩, -⟩:=cells2 HR.out
    go_wp2
    exact bodyPost_ret (v:= .tuple #[.agg #[.int .i64 n,.slice none 0 0],.int .i64 ep]) (by simp [results,Tryz.results71,go_sem,q0,q1]) rfl ⟨none,0,[],ep,rfl,all_no hep,Sl.nil _ _ _ (by unfold maxLen;omega),HBn.out⟩
   have hepb:(ep !=0)=false:=by simp [hep]
   clear hep
   have hmem:∀u∈L,u∈l.take k:=hE.out.1
   have HA:=Lib.hid (oadd_any hQ4.out (Nat.le_refl _) (by omega) H14.out H24.out (by omega) (fun u hu=>(hlen.out u (List.mem_of_mem_take (hmem u hu))).1) (hlen.out t (List.mem_of_getElem? ht.out))
    (fun u hu=>(pw_at hp.out ht.out (hmem u hu)).2) (fun u hu=>(pw_at hp.out ht.out (hmem u hu)).1))
   have hgl:=Lib.hid ((hQ4.out.lt g rfl))
   clear hmem
   go_wp2_with fail
   refine (HA.out).mono ?_
   rintro e w5 ⟨a5,c5,L5,er,rfl,hA,hg5⟩
   have hb5:Below (w.heap.size+2) w4 w5:=(Below.refl _ _).grown hg5 (by omega) (fun i hi=>by simp only [Option.some.injEq] at hi;rw [←hi];exact hgl.out.1)
   have hB5:=hB4.trans (hb5.mono (by omega))
   have hz5:w.heap.size+2≤w5.heap.size:=by have:=hb5.size;omega
   have hx5:=Lib.hid ((hb5.block w.heap.size (by omega)).trans hx4.out)
   have hy5:=Lib.hid ((hb5.block (w.heap.size+1) (by omega)).trans hy4.out)
   clear ht4 hB4 hz4 hx4 hy4 hQ4 H14 H24 HA hb5 hg5 hgl
   by_cases her:er=0
   rotate_left
   ·have herb:(er !=0)=true:=by simp [her]
    obtain ⟨⟨k0,k1⟩, -⟩:=cells2 hx5.out
    obtain ⟨⟨k2,k3⟩,k4⟩:=cells2 hy5.out
    have HR:=Lib.hid (set2 (y0:= .int .i64 n) (y1:= .slice none 0 0) hy5.out)
    have HBn:=Lib.hid (bel_st2 (g:=w.heap.size+1) (y0:= .int .i64 n) (y1:= .slice none 0 0) hB5 (by omega))
    obtain ⟨⟨q0,q1⟩, -⟩:=cells2 HR.out
    go_wp2
    exact bodyPost_ret (v:= .tuple #[.agg #[.int .i64 n,.slice none 0 0],.int .i64 er]) (by simp [results,Tryz.results71,go_sem,q0,q1]) rfl ⟨none,0,[],er,rfl,all_no her,Sl.nil _ _ _ (by unfold maxLen;omega),HBn.out⟩
   subst her
   obtain ⟨hAE,g5,rfl,hQ5⟩:=hA.out rfl
   have hE5:Hid (AllE (l.take (k+1)) L5):=allE_step hE.out ht.out hAE
   have hL5:L5.length≤k+1:=by
    rcases hAE with ⟨rfl, -⟩|rfl
    ·omega
    simp;omega
   clear hAE hA hE ht
   go_wp2
   go_roundw
   case rel=>exact ⟨k+1,g5,c5,L5,by omega,by go_num,rfl,hE5,hL5,hQ5,hx5,hy5,hB5,hz5⟩
   case measure=>simp [intOf];omega
  have hF : Hid (AllB 0 l L) := fun _ => by
   have h:=hE.out
   rw [List.take_of_length_le (by omega)] at h
   exact h
  have hs:=hQ.sl (Nat.le_refl _)
  obtain ⟨⟨k0,k1⟩, -⟩:=cells2 hx.out
  obtain ⟨⟨k2,k3⟩,k4⟩:=cells2 hy.out
  have HR:=Lib.hid (set2 (y0:= .int .i64 n) (y1:= .slice (some ⟨g,0,none⟩) L.length c') hy.out)
  have HBn:=Lib.hid (bel_st2 (g:=w.heap.size+1) (y0:= .int .i64 n) (y1:= .slice (some ⟨g,0,none⟩) L.length c') hB (by omega))
  have HSn:=Lib.hid (hs.st2 (g:=w.heap.size+1) (n:=w.heap.size) (y0:= .int .i64 n) (y1:= .slice (some ⟨g,0,none⟩) L.length c') (by omega) (by omega))
  obtain ⟨⟨q0,q1⟩, -⟩:=cells2 HR.out
  clear hE hs
  go_wp2
  exact bodyPost_ret (v:= .tuple #[.agg #[.int .i64 n,.slice (some ⟨g,0,none⟩) L.length c'],.int .i64 0]) (by simp [results,Tryz.results71,go_sem,q0,q1]) rfl ⟨some ⟨g,0,none⟩,c',L,0,rfl,hF,HSn.out,HBn.out⟩
def OfE (m:Mach) (rows:List (List Int)) (o:Ob) (er:Int):Prop:=er=0→m.err=0∧o.inputs=m.inputs∧rows.length≤10000∧(∀x∈rows,wErr x m.inputs=0)∧AllE (rows.map m.trW) o.traces
def OfR (m:Mach) (rows:List (List Int)) (w:World) (e:Ending) (w':World):Prop:=∃(a':Option Addr) (c':Nat) (o:Ob) (er:Int),e= .returned (.tuple #[obV o a' c',.int .i64 er])∧Hid (OfE m rows o er)∧
 Os (fun k=>k<w.heap.size) w' a' c' o∧Below w.heap.size w w'
theorem ofE_no {o:Ob} {er:Int} (h:er≠0):Hid (OfE m rows o er):=fun e=>absurd e h
def BehW (x y:List Int):Prop:=cmpW x y<0∧hasP y x=false
theorem oof_any (hm:Ma M w an cn ao co m) (hi:i64 m.inputs) (hw:Sl M' w a c rows) (hp:Hid (rows.Pairwise BehW)):
    Calls Tryz.prog 28 #[maV m an cn ao co,.slice a rows.length c] w (OfR m rows w):=by
 have hll:=hw.le
 have hx0:=c4_new (m:=m) (an:=an) (cn:=cn) (ao:=ao) (co:=co) w
 have hB0:=((Below.refl w.heap.size w).alloc (Nat.le_refl _) (maO m an cn ao co)).alloc (by simp) (.cells #[.int .i64 0,.slice none 0 0] 43)
 have hz0:((w.alloc (maO m an cn ao co)).alloc (.cells #[.int .i64 0,.slice none 0 0] 43)).heap.size=w.heap.size+2:=by simp
 have hx1:C4 ((w.alloc (maO m an cn ao co)).alloc (.cells #[.int .i64 0,.slice none 0 0] 43)) w.heap.size an cn ao co m:=hx0.below ((Below.refl _ _).alloc (Nat.le_refl _) _) (by simp)
 have hy0:Hid (((w.alloc (maO m an cn ao co)).alloc (.cells #[.int .i64 0,.slice none 0 0] 43)).heap[w.heap.size+1]? =some (.cells #[.int .i64 0,.slice none 0 0] 43 (0,0))):=by
  have h:=heap_alloc_new (w.alloc (maO m an cn ao co)) (.cells #[.int .i64 0,.slice none 0 0] 43)
  simpa [Hid] using h
 have HT:=Lib.hid (traces_any (hm.below hB0) (hw.below hB0))
 clear hm hw hx0
 go_enter Tryz.func28,Tryz.ntmps28
 go_wp2_with fail
 generalize (w.alloc (maO m an cn ao co)).alloc (.cells #[.int .i64 0,.slice none 0 0] 43)=w0 at*
 refine (HT.out).mono ?_
 rintro e w1 ⟨a1,c1,L,er,rfl,hT,hs,hb1⟩
 have hB1:=hB0.trans (hb1.mono (by omega))
 have hz1:w.heap.size+2≤w1.heap.size:=by have:=hb1.size;omega
 have hx2:=hx1.below hb1 (by omega)
 have hy1:=Lib.hid ((hb1.block (w.heap.size+1) (by omega)).trans hy0.out)
 have hLl:=hs.le
 have HS:=Lib.hid hs
 clear hx1 hB0 hb1 hz0 hy0 HT hs
 by_cases her:er=0
 rotate_left
 ·have herb:(er !=0)=true:=by simp [her]
  obtain ⟨⟨k2,k3⟩,k4⟩:=cells2 hy1.out
  have HR:=Lib.hid (set2 (y0:= .int .i64 0) (y1:= .slice none 0 0) hy1.out)
  have HBn:=Lib.hid (bel_st2 (g:=w.heap.size+1) (y0:= .int .i64 0) (y1:= .slice none 0 0) hB1 (by omega))
  obtain ⟨⟨q0,q1⟩, -⟩:=cells2 HR.out
  go_wp2
  exact bodyPost_ret (v:= .tuple #[.agg #[.int .i64 0,.slice none 0 0],.int .i64 er]) (by simp [results,Tryz.results28,go_sem,q0,q1]) rfl ⟨none,0,⟨0,[]⟩,er,rfl,ofE_no her,⟨by show i64 0;unfold i64;omega,Sl.nil _ _ _ (by unfold maxLen;omega)⟩,HBn.out⟩
 subst her
 obtain ⟨hme,hL,hr4,hwe⟩:=hT.out rfl
 have HL:=Lib.hid hL
 have HWE:=Lib.hid hwe
 have HME:=Lib.hid hme
 have hlen:Hid (∀t∈L,t.out.length=t.inn.length∧t.inn.length<100000000000):=fun t ht=>by
  rw [HL.out] at ht
  obtain ⟨x,hx,rfl⟩:=List.mem_map.1 ht
  have:=(Mach.okS_of (m:=m) (HWE.out x hx)).2
  refine ⟨?_,by show x.length<_;omega⟩
  show (m.outsW m.start x).length=x.length
  rw [Mach.outsW_len]
 have hpw:Hid (L.Pairwise BehT):=by unfold Hid;rw [HL.out,List.pairwise_map];exact hp.out
 have hL4:L.length≤10000:=by rw [HL.out,List.length_map];exact hr4
 have HA:=Lib.hid (oall_any (n:=m.inputs) HS.out hlen hpw hL4)
 clear hme hL hwe hT hlen hpw
 go_wp2_with fail
 refine (HA.out).mono ?_
 rintro e w2 ⟨a2,c2,L2,er,rfl,hA,hs2,hb2⟩
 have hB2:=hB1.trans (hb2.mono (by omega))
 have hz2:w.heap.size+2≤w2.heap.size:=by have:=hb2.size;omega
 have hy2:=Lib.hid ((hb2.block (w.heap.size+1) (by omega)).trans hy1.out)
 have HS2:=Lib.hid (hs2.anti (M':=fun k=>k<w.heap.size+2) (fun k _ hk=>by show k<_;omega))
 have hl2:=hs2.le
 clear HA hx2 hB1 hz1 hy1 hb2 hs2
 by_cases her:er=0
 rotate_left
 ·have herb:(er !=0)=true:=by simp [her]
  have hba:=(Below.refl w2.heap.size w2).alloc (Nat.le_refl _) (.cells #[.int .i64 m.inputs,.slice a2 L2.length c2] 43)
  have hy3:=Lib.hid ((hba.block (w.heap.size+1) (by omega)).trans hy2.out)
  have hB3:=hB2.trans (hba.mono (by omega))
  have hz3:(w2.alloc (.cells #[.int .i64 m.inputs,.slice a2 L2.length c2] 43)).heap.size=w2.heap.size+1:=by simp
  obtain ⟨⟨k2,k3⟩,k4⟩:=cells2 hy3.out
  have HR:=Lib.hid (set2 (y0:= .int .i64 0) (y1:= .slice none 0 0) hy3.out)
  have HBn:=Lib.hid (bel_st2 (g:=w.heap.size+1) (y0:= .int .i64 0) (y1:= .slice none 0 0) hB3 (by omega))
  obtain ⟨⟨q0,q1⟩, -⟩:=cells2 HR.out
  clear hba
  go_wp2
  exact bodyPost_ret (v:= .tuple #[.agg #[.int .i64 0,.slice none 0 0],.int .i64 er]) (by simp [results,Tryz.results28,go_sem,q0,q1]) rfl ⟨none,0,⟨0,[]⟩,er,rfl,ofE_no her,⟨by show i64 0;unfold i64;omega,Sl.nil _ _ _ (by unfold maxLen;omega)⟩,HBn.out⟩
 subst her
 have hba:=(Below.refl w2.heap.size w2).alloc (Nat.le_refl _) (.cells #[.int .i64 m.inputs,.slice a2 L2.length c2] 43)
 have hy3:=Lib.hid ((hba.block (w.heap.size+1) (by omega)).trans hy2.out)
 have hB3:=hB2.trans (hba.mono (by omega))
 have hz3:(w2.alloc (.cells #[.int .i64 m.inputs,.slice a2 L2.length c2] 43)).heap.size=w2.heap.size+1:=by simp
 have hF:Hid (OfE m rows ⟨m.inputs,L2⟩ 0):=fun _=>⟨HME.out,rfl,hr4,HWE.out,by rw [←HL.out];exact hA.out rfl⟩
 obtain ⟨⟨k2,k3⟩,k4⟩:=cells2 hy3.out
 have HR:=Lib.hid (set2 (y0:= .int .i64 m.inputs) (y1:= .slice a2 L2.length c2) hy3.out)
 have HBn:=Lib.hid (bel_st2 (g:=w.heap.size+1) (y0:= .int .i64 m.inputs) (y1:= .slice a2 L2.length c2) hB3 (by omega))
 have HSn:=Lib.hid ((HS2.out.below hba).st2 (g:=w.heap.size+1) (n:=w.heap.size) (y0:= .int .i64 m.inputs) (y1:= .slice a2 L2.length c2) (by omega) (by omega))
 obtain ⟨⟨q0,q1⟩, -⟩:=cells2 HR.out
 clear hba
 go_wp2
 exact bodyPost_ret (v:= .tuple #[.agg #[.int .i64 m.inputs,.slice a2 L2.length c2],.int .i64 0]) (by simp [results,Tryz.results28,go_sem,q0,q1]) rfl ⟨a2,c2,⟨m.inputs,L2⟩,0,rfl,hF,⟨hi,HSn.out⟩,HBn.out⟩
end
end Go.Proofs.YtjagagpcjpcjjaaGreat
namespace Go.Proofs.YtjagagpcjpcjjaaGreat
open Go.RowKit Go.Shelf
theorem comT_take {a b:List Int}:∀{n:Nat},n≤comW a b→a.take n=b.take n:=fun {n} h=>by
 induction a generalizing b n with
 | nil => have : n = 0 := by rw [comW_nil_l] at h; omega
          subst this;simp
 |cons x a ih=>
  cases b with
  | nil => have : n = 0 := by rw [comW_nil_r] at h; omega
           subst this;simp
  |cons y b=>
   by_cases e:x=y
   ·subst e
    cases n with
    |zero=>simp
    |succ n=>rw [comW_same] at h;simp [ih (b:=b) (n:=n) (by omega)]
   rw [comW_diff e] at h
   have:n=0:=by omega
   subst this;simp
section
variable {M:Nat→Prop} {w:World} {a:Option Addr} {c:Nat} {l:List Tr}
end
section
variable {M:Nat→Prop} {w:World} {a:Option Addr} {c:Nat} {l:List Tr}
end
section
variable {M M1 M2 M3:Nat→Prop} {w:World} {a a1 a2 b1 b2:Option Addr} {c c1 c2 d1 d2 g:Nat} {t u:Tr} {l:List Tr}
end
section
variable {M:Nat→Prop} {w:World} {a:Option Addr} {c:Nat} {o:Ob}
end
end Go.Proofs.YtjagagpcjpcjjaaGreat
namespace Go.Proofs.YtjagagpcjpcjjaaGreat
section
variable {h:Hy} {o:Ob}
theorem outs_tk (m:Mach) (l:List Int) (n:Nat) (s:Int):m.outsW s (l.take n)=(m.outsW s l).take n:=by
 have h1:m.outsW s (l.take n++l.drop n)=m.outsW s (l.take n)++m.outsW (m.endW s (l.take n)) (l.drop n):=Mach.outsW_app _ _ _ _
 rw [List.take_append_drop] at h1
 have h2:(m.outsW s (l.take n)).length=min n l.length:=by rw [Mach.outsW_len,List.length_take]
 generalize m.outsW s l=L at h1
 generalize hb:m.outsW (m.endW s (l.take n)) (l.drop n)=B at h1
 have h3:B.length=l.length-n:=by rw [←hb,Mach.outsW_len,List.length_drop]
 generalize m.outsW s (l.take n)=A at h1 h2 ⊢
 rw [h1]
 by_cases hn:n≤l.length
 ·rw [List.take_append_of_le_length (by omega),List.take_of_length_le (by omega)]
 rw [List.length_eq_zero_iff.1 (show B.length=0 by omega),List.append_nil,List.take_of_length_le (by omega)]
theorem hasP_pre {l p:List Int}:hasP l p=true↔p<+:l:=by
 unfold hasP
 rw [decide_eq_true_iff]
 exact comW_prefix
end
end Go.Proofs.YtjagagpcjpcjjaaGreat
