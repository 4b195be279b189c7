/- Several texts, one behind the other. Conditions: as each of them says. -/
import Derived.Test.YtjagagpcjpcjjaaGreatMt43
import Derived.Test.YtjagagpcjpcjjaaGreatMt17
import Derived.Test.YtjagagpcjpcjjaaGreatMt15
import Derived.Test.YtjagagpcjpcjjaaGreatMt9
import Derived.Test.YtjagagpcjpcjjaaGreatMt8
import Derived.Test.YtjagagpcjpcjjaaGreatMt6
import Derived.Test.YtjagagpcjpcjjaaGreatMt3
import Derived.WalkSpells
set_option maxRecDepth 100000
set_option maxHeartbeats 32000000
namespace Go.Proofs.YtjagagpcjpcjjaaGreat
open Go.RowKit
def difT (s t:Tr):Int:=if comW (s.out.take (comW s.inn t.inn)) (t.out.take (comW s.inn t.inn))<comW s.inn t.inn then (comW (s.out.take (comW s.inn t.inn)) (t.out.take (comW s.inn t.inn)):Nat) else -1
def SomeB (e:Ending):Prop:=∃v,e= .returned (.bool v)
def PrE (er:Int) (t:Tr):Prop:=er=0→t.out.length=t.inn.length
section
variable {M M1 M2 M3:Nat→Prop} {w:World} {a1 a2 b1 b2:Option Addr} {c1 c2 d1 d2:Nat}
theorem fls {α:Type} [GR α] {M:Nat→Prop} {w:World} {a:Option Addr} {c:Nat} {l:List α} (h:Sl M w a c l):Sl (fun _=>False) w a c l:=h.anti fun _ _ h=>h.elim
theorem odif_any {s t:Tr} (h1:Sl M w a1 c1 s.inn) (h2:Sl M1 w a2 c2 s.out) (h3:Sl M2 w b1 d1 t.inn) (h4:Sl M3 w b2 d2 t.out) (e1:s.out.length=s.inn.length) (e2:t.out.length=t.inn.length):
    Calls Tryz.prog 64 #[trV s a1 c1 a2 c2,trV t b1 d1 b2 d2] w fun e w'=>e= .returned (.int .i64 (difT s t))∧Below w.heap.size w w':=by
 have z1:(w.alloc (trO s a1 c1 a2 c2)).heap.size=w.heap.size+1:=by simp
 have hB0:Below w.heap.size w ((w.alloc (trO s a1 c1 a2 c2)).alloc (trO t b1 d1 b2 d2)):=((Below.refl _ _).alloc (Nat.le_refl _) _).alloc (by simp) _
 have hx0:T2 ((w.alloc (trO s a1 c1 a2 c2)).alloc (trO t b1 d1 b2 d2)) w.heap.size a1 c1 a2 c2 s:=(t2_new w).below (B:=w.heap.size+1) ((Below.refl _ _).alloc (by rw [z1];exact Nat.le_refl _) _) (by omega)
 have hy0:T2 ((w.alloc (trO s a1 c1 a2 c2)).alloc (trO t b1 d1 b2 d2)) (w.heap.size+1) b1 d1 b2 d2 t:=by
  have h:=t2_new (t:=t) (a:=b1) (c:=d1) (a':=b2) (c':=d2) (w.alloc (trO s a1 c1 a2 c2))
  rw [z1] at h;exact h
 have hz0:w.heap.size+2≤((w.alloc (trO s a1 c1 a2 c2)).alloc (trO t b1 d1 b2 d2)).heap.size:=by simp
 have l1:=h1.le
 have l2:=h2.le
 have l3:=h3.le
 have l4:=h4.le
 have l2c:=h2.1
 have l4c:=h4.1
 have H1:=Lib.hid (fls (h1.below hB0))
 have H2:=Lib.hid (fls (h2.below hB0))
 have H3:=Lib.hid (fls (h3.below hB0))
 have H4:=Lib.hid (fls (h4.below hB0))
 have hcl:=comW_le s.inn t.inn
 obtain ⟨n,hn⟩:∃n,n=comW s.inn t.inn:=⟨_,rfl⟩
 rw [←hn] at hcl
 have hns:n≤s.out.length:=by omega
 have hnt:n≤t.out.length:=by omega
 have HN:=Lib.hid hn
 have hm3:¬s.out.length<n:=by omega
 have hm5:n≤c2:=by omega
 have hm6:n≤d2:=by omega
 have hm4:¬((t.out.length:Nat):Int)<((n:Nat):Int):=by omega
 have hm1:min ((n:Nat):Int) ((s.out.length:Nat):Int)=(n:Int):=by omega
 have hm2:min ((n:Nat):Int) ((t.out.length:Nat):Int)=(n:Int):=by omega
 have HF:Hid (difT s t=if comW (s.out.take n) (t.out.take n)<n then ((comW (s.out.take n) (t.out.take n):Nat):Int) else -1):=by unfold Hid difT;rw [←hn]
 obtain ⟨i,hi⟩:∃i,i=comW (s.out.take n) (t.out.take n):=⟨_,rfl⟩
 rw [←hi] at HF
 have HI:=Lib.hid hi
 clear h1 h2 h3 h4 e1 e2 z1 hcl hn hi
 go_enter Tryz.func64,Tryz.ntmps64
 go_upto_region 1 with (fail)
 generalize (w.alloc (trO s a1 c1 a2 c2)).alloc (trO t b1 d1 b2 d2)=w0 at*
 have HS:Hid (∀w',Below w0.heap.size w0 w'→(T2 w' w.heap.size a1 c1 a2 c2 s∧T2 w' (w.heap.size+1) b1 d1 b2 d2 t)∧Below w.heap.size w w'∧Sl (fun _=>False) w' a1 c1 s.inn∧Sl (fun _=>False) w' b1 d1 t.inn∧Sl (fun _=>False) w' a2 c2 s.out∧Sl (fun _=>False) w' b2 d2 t.out):=fun w' hb=>
  ⟨⟨hx0.below hb (by omega),hy0.below hb (by omega)⟩,hB0.trans (hb.mono (by omega)),H1.out.below hb,H3.out.below hb,H2.out.below hb,H4.out.below hb⟩
 clear hx0 hy0 hB0 hz0 H1 H2 H3 H4
 refine wp_region_L (fun w'=>T2 w' w.heap.size a1 c1 a2 c2 s∧T2 w' (w.heap.size+1) b1 d1 b2 d2 t) [0,1,2,3,5,6,7,8,9,10,11,12] (by kernel_rfl) ?_
 have hb1:=(Below.refl w0.heap.size w0).drew
 have hS1:=(HS.out _ hb1).1
 have HC0:=com_any (HS.out _ hb1).2.2.1 (HS.out _ hb1).2.2.2.1
 rw [←HN.out] at HC0
 have HC:=Lib.hid HC0
 generalize w0.drew=w1 at*
 clear HC0
 refine skL_on [0,1,2,3,5,6,7,8,9,10] ?_
 repeat (refine skL_take (v:= ?_) rfl ?_ ?_;rotate_left;(focus (intro w' hSw;(try dsimp only at hSw);go_simp;try with_reducible rfl));try simp only [Act.put,List.setIfInBounds_toArray,List.set_cons_zero,List.set_cons_succ])
 refine skL_off ?_
 refine wpAnyL_one (i:=4) (by kernel_rfl) rfl rfl (fun K hK=> ?_)
 go_simp
 refine (HC.out).mono ?_
 rintro e w2 ⟨rfl,hd2⟩
 have hb2:=hb1.trans ((blw hd2 w1.heap.size).mono hb1.size)
 have hS2:=(HS.out _ hb2).1
 refine hK _ _ (fun _=>hS2) ?_
 clear hK K HC hS1 hd2 hb1
 refine wpAnyL_one (i:=11) (by kernel_rfl) rfl rfl (fun K hK=> ?_)
 go_simp
 refine hK _ _ (fun _=>hS2) ?_
 clear hK K
 refine skL_on [12] ?_
 repeat (refine skL_take (v:= ?_) rfl ?_ ?_;rotate_left;(focus (intro w' hSw;(try dsimp only at hSw);go_simp;try with_reducible rfl));try simp only [Act.put,List.setIfInBounds_toArray,List.set_cons_zero,List.set_cons_succ])
 refine skL_off ?_
 refine wpAnyL_done (by kernel_rfl) ?_ _
 clear hS2
 go_upto_region 2 with (fail)
 refine wp_region_L (fun w'=>T2 w' w.heap.size a1 c1 a2 c2 s∧T2 w' (w.heap.size+1) b1 d1 b2 d2 t) [0,1,2,3,4,5,6,7,9] (by kernel_rfl) ?_
 have hb3:=hb2.trans (((Below.refl w2.heap.size w2).drew).mono hb2.size)
 have hS3:=(HS.out _ hb3).1
 have HC0:=com_any ((HS.out _ hb3).2.2.2.2.1.taken hns) ((HS.out _ hb3).2.2.2.2.2.taken hnt)
 rw [←HI.out,List.length_take,List.length_take,Nat.min_eq_left hns,Nat.min_eq_left hnt] at HC0
 have HC:=Lib.hid HC0
 generalize w2.drew=w3 at*
 clear HC0 hb2
 refine skL_on [0,1,2,3,4,5,6,7] ?_
 repeat (refine skL_take (v:= ?_) rfl ?_ ?_;rotate_left;(focus (intro w' hSw;(try dsimp only at hSw);go_simp;try with_reducible rfl));try simp only [Act.put,List.setIfInBounds_toArray,List.set_cons_zero,List.set_cons_succ])
 refine skL_off ?_
 refine wpAnyL_one (i:=8) (by kernel_rfl) rfl rfl (fun K hK=> ?_)
 go_simp
 refine (HC.out).mono ?_
 rintro e w4 ⟨rfl,hd4⟩
 have hb4:=hb3.trans ((blw hd4 w3.heap.size).mono hb3.size)
 have hS4:=(HS.out _ hb4).1
 have hBf:=(HS.out _ hb4).2.1
 refine hK _ _ (fun _=>hS4) ?_
 clear hK K HC hS3 hd4 hb3
 refine skL_on [9] ?_
 repeat (refine skL_take (v:= ?_) rfl ?_ ?_;rotate_left;(focus (intro w' hSw;(try dsimp only at hSw);go_simp;try with_reducible rfl));try simp only [Act.put,List.setIfInBounds_toArray,List.set_cons_zero,List.set_cons_succ])
 refine skL_off ?_
 refine wpAnyL_done (by kernel_rfl) ?_ _
 clear hS4
 by_cases hlt:i<n
 ·have hv:Hid (difT s t=(i:Int)):=by unfold Hid;rw [HF.out,if_pos hlt]
  go_wp2
  go_ret
  exact ⟨by rw [hv.out];rfl,hBf⟩
 have hv:Hid (difT s t= -1):=by unfold Hid;rw [HF.out,if_neg hlt]
 go_wp2
 go_ret
 exact ⟨by rw [hv.out];rfl,hBf⟩
theorem order_any {s t:Tr} (h1:Sl M w a1 c1 s.inn) (h2:Sl M1 w b1 d1 t.inn):
    Calls Tryz.prog 58 #[trV s a1 c1 a2 c2,trV t b1 d1 b2 d2] w fun e w'=>e= .returned (.int .i64 (cmpW s.inn t.inn))∧Below w.heap.size w w':=by
 have hb:Below w.heap.size w ((w.alloc (trO s a1 c1 a2 c2)).alloc (trO t b1 d1 b2 d2)):=((Below.refl _ _).alloc (Nat.le_refl _) _).alloc (by simp) _
 have HC:=Lib.hid (cmpF_cmp _ _ _ _ _ _ _ _ _ (h1.below hb) (h2.below hb))
 have l1:=h1.le
 have l2:=h2.le
 clear h1 h2
 go_enter Tryz.func58,Tryz.ntmps58
 go_wp2_with fail
 generalize (w.alloc (trO s a1 c1 a2 c2)).alloc (trO t b1 d1 b2 d2)=w1 at*
 refine (HC.out).mono ?_
 rintro e w2 ⟨rfl,q,os,hw2⟩
 have hB:=hb.trans ((CmpF.below hw2).mono hb.size)
 clear hw2
 go_wp2
 go_ret
 exact ⟨rfl,hB⟩
theorem prop1_any (x:Int):Calls Tryz.prog 113 #[.int .i64 x] w fun e w'=>SomeB e∧w'=w:=by
 by_cases h1:x<0
 ·go_enter Tryz.func113,Tryz.ntmps113
  go_wp2
  go_ret
  exact ⟨⟨true,rfl⟩,rfl⟩
 by_cases h2:1048576<x
 ·go_enter Tryz.func113,Tryz.ntmps113
  go_wp2
  go_ret
  exact ⟨⟨true,rfl⟩,rfl⟩
 go_enter Tryz.func113,Tryz.ntmps113
 go_wp2
 go_ret
 exact ⟨⟨false,rfl⟩,rfl⟩
theorem idxP_any {l:List Int} (hs:Sl M w a1 c1 l):
    Calls Tryz.prog 162 #[.slice a1 l.length c1,.func (Fn.func 113) #[] #[]] w fun e w'=>(∃v:Int,e= .returned (.int .i64 v))∧w'=w:=by
 have hll:=hs.le
 go_enter Tryz.func162,Tryz.ntmps162
 go_wp2
 go_loopw [8] (fun i wr=>∃j:Nat,j≤l.length∧i= .int .i64 j∧Hid (wr=w)) (fun i _=>l.length-(intOf i).toNat)
 case atStart=>exact ⟨0,by omega,rfl,rfl⟩
 case round=>
  obtain ⟨j,hj,rfl,hw⟩:=hrel
  have hw:=hw.out
  subst hw
  by_cases hlt:j<l.length
  ·obtain ⟨b0,o0,x,rfl,hxc,hx, -⟩:=hs.at_int hlt
   have HC:=Lib.hid (prop1_any (w:=wr) x)
   go_wp2_with fail
   refine (HC.out).mono ?_
   rintro e w2 ⟨⟨v,rfl⟩,hw2⟩
   obtain rfl:wr=w2:=hw2.symm
   cases v with
   |true=>
    go_wp2
    go_ret
    exact ⟨⟨_,rfl⟩,rfl⟩
   |false=>
    have hww:Hid (wr=wr):=rfl
    go_wp2
    go_roundw
    case rel=>exact ⟨j+1,by omega,by go_num,hww⟩
    case measure=>simp [intOf];omega
  go_wp2
  go_ret
  exact ⟨⟨_,rfl⟩,rfl⟩
theorem conP_any {l:List Int} (hs:Sl M w a1 c1 l):
    Calls Tryz.prog 111 #[.slice a1 l.length c1,.func (Fn.func 113) #[] #[]] w fun e w'=>SomeB e∧w'=w:=by
 have hll:=hs.le
 have HC:=Lib.hid (idxP_any hs)
 go_enter Tryz.func111,Tryz.ntmps111
 go_wp2_with fail
 refine (HC.out).mono ?_
 rintro e w2 ⟨⟨v,rfl⟩,hw2⟩
 obtain rfl:w=w2:=hw2.symm
 go_wp2
 go_ret
 exact ⟨⟨_,rfl⟩,rfl⟩
theorem proper_any {t:Tr} (h1:Sl M w a1 c1 t.inn) (h2:Sl M1 w a2 c2 t.out) (n:Int):
    Calls Tryz.prog 57 #[trV t a1 c1 a2 c2,.int .i64 n] w fun e w'=>∃er:Int,e= .returned (.int .i64 er)∧PrE er t∧Below w.heap.size w w':=by
 have hB0:=(Below.refl w.heap.size w).alloc (Nat.le_refl _) (trO t a1 c1 a2 c2)
 have hx0:T2 (w.alloc (trO t a1 c1 a2 c2)) w.heap.size a1 c1 a2 c2 t:=t2_new w
 have hz0:w.heap.size<(w.alloc (trO t a1 c1 a2 c2)).heap.size:=by simp
 have HC0:=wcheck_any (h1.below hB0) n
 obtain ⟨we,hwe⟩:∃v,v=wErr t.inn n:=⟨_,rfl⟩
 rw [←hwe] at HC0
 have HC:=Lib.hid HC0
 have H2:=Lib.hid (h2.below hB0)
 have l1:=h1.le
 have l2:=h2.le
 clear h1 h2 HC0 hwe
 go_enter Tryz.func57,Tryz.ntmps57
 go_upto_region 1 with (fail)
 generalize w.alloc (trO t a1 c1 a2 c2)=w0 at*
 obtain ⟨x0,x1⟩:=hx0
 go_wp2_with fail
 refine (HC.out).mono ?_
 rintro e w1 ⟨rfl,hb1⟩
 have hB1:=hB0.trans (hb1.mono hB0.size)
 obtain ⟨x0,x1⟩:=T2.below ⟨x0,x1⟩ hb1 hz0
 have H3:=H2.out.below hb1
 clear HC hB0 hb1 hz0
 by_cases hw0:we=0
 ·have hwb:(we !=0)=false:=by simp [hw0]
  by_cases hl:t.out.length=t.inn.length
  ·have hlb:(((t.out.length:Nat):Int) !=((t.inn.length:Nat):Int))=false:=by simp [hl]
   have HL:=Lib.hid hl
   have HC:=Lib.hid (conP_any H3)
   clear hl hw0 H3
   go_wp2_with fail
   refine (HC.out).mono ?_
   rintro e w2 ⟨⟨v,rfl⟩,hw2⟩
   obtain rfl:w1=w2:=hw2.symm
   cases v with
   |true=>
    have hr:PrE 2 t:=fun _=>HL.out
    go_wp2
    go_ret
    exact ⟨2,rfl,hr,hB1⟩
   |false=>
    have hr:PrE 0 t:=fun _=>HL.out
    go_wp2
    go_ret
    exact ⟨0,rfl,hr,hB1⟩
  have hlb:(((t.out.length:Nat):Int) !=((t.inn.length:Nat):Int))=true:=by simp;omega
  have hr:PrE 1 t:=fun h=>by omega
  clear hl hw0
  go_wp2
  go_ret
  exact ⟨1,rfl,hr,hB1⟩
 have hwb:(we !=0)=true:=by simp [hw0]
 have hr:PrE we t:=fun h=>absurd h hw0
 clear hw0
 go_wp2
 go_ret
 exact ⟨we,rfl,hr,hB1⟩
end
end Go.Proofs.YtjagagpcjpcjjaaGreat
namespace Go.Proofs.YtjagagpcjpcjjaaGreat
open Go.RowKit Go.Shelf
def agrT (s t:Tr):Prop:=∀k,k<comW s.inn t.inn→s.out[k]? =t.out[k]?
theorem comT_take {a b:List Int}:∀{n:Nat},n≤comW a b→a.take n=b.take n:=fun {n} h=>by
 induction a generalizing b n with
 | nil => have : n = 0 := by rw [comW_nil_l] at h; omega
          subst this;simp
 |cons x a ih=>
  cases b with
  | nil => have : n = 0 := by rw [comW_nil_r] at h; omega
           subst this;simp
  |cons y b=>
   by_cases e:x=y
   ·subst e
    cases n with
    |zero=>simp
    |succ n=>rw [comW_same] at h;simp [ih (b:=b) (n:=n) (by omega)]
   rw [comW_diff e] at h
   have:n=0:=by omega
   subst this;simp
theorem comW_ge {a b:List Int}:∀{n:Nat},n≤a.length→n≤b.length→a.take n=b.take n→n≤comW a b:=fun {n} h1 h2 h=>by
 induction a generalizing b n with
 |nil=>simp at h1;omega
 |cons x a ih=>
  cases b with
  |nil=>simp at h2;omega
  |cons y b=>
   cases n with
   |zero=>omega
   |succ n=>
    simp at h
    obtain ⟨rfl,h⟩:=h
    rw [comW_same]
    have:=ih (b:=b) (n:=n) (by simpa using h1) (by simpa using h2) h
    omega
theorem difT_agr {s t:Tr} (h1:s.out.length=s.inn.length) (h2:t.out.length=t.inn.length):difT s t<0↔agrT s t:=by
 have hl:=comW_le s.inn t.inn
 unfold difT agrT
 generalize comW s.inn t.inn=n at*
 constructor
 ·intro h k hk
  split at h
  ·omega
  rename_i hn
  have e:=comT_take (a:=s.out.take n) (b:=t.out.take n) (n:=n) (by omega)
  rw [List.take_take,List.take_take,Nat.min_self] at e
  have e1:(s.out.take n)[k]? =(t.out.take n)[k]? :=by rw [e]
  rwa [List.getElem?_take,List.getElem?_take,if_pos hk,if_pos hk] at e1
 intro h
 have e:s.out.take n=t.out.take n:=by
  apply List.ext_getElem?
  intro k
  rw [List.getElem?_take,List.getElem?_take]
  split
  ·rename_i hk;exact h k hk
  rfl
 have:=comW_ge (a:=s.out.take n) (b:=t.out.take n) (n:=n) (by rw [List.length_take];omega) (by rw [List.length_take];omega) (by rw [e])
 rw [if_neg (by omega)]
 omega
theorem agrT_symm {s t:Tr} (h:agrT s t):agrT t s:=fun k hk=>(h k (by
 have hl:=comW_le t.inn s.inn
 have:=comW_ge (a:=s.inn) (b:=t.inn) (n:=comW t.inn s.inn) (by omega) (by omega) (comT_take (Nat.le_refl _)).symm
 omega)).symm
theorem lex_com {a b c:List Int} (h1:lexW a b≤0) (h2:lexW b c≤0):comW a c≤comW a b∧comW a c≤comW b c:=by
 induction a generalizing b c with
 |nil=>rw [comW_nil_l];omega
 |cons x a ih=>
  cases c with
  |nil=>rw [comW_nil_r];omega
  |cons z c=>
   by_cases e:x=z
   ·subst e
    cases b with
    |nil=>exact absurd h1 (by simp [lexW])
    |cons y b=>
     have hxy:x=y:=by
      simp only [lexW] at h1 h2
      by_cases e1:x=y
      ·exact e1
      unfold sgn at h1 h2
      split at h1<;>split at h2<;>omega
     subst hxy
     simp only [lexW] at h1 h2
     have:=ih (b:=b) (c:=c) (by simpa using h1) (by simpa using h2)
     rw [comW_same,comW_same,comW_same]
     omega
   rw [comW_diff e];omega
theorem agrT_trans {s t u:Tr} (h1:lexW s.inn t.inn≤0) (h2:lexW t.inn u.inn≤0) (a1:agrT s t) (a2:agrT t u):agrT s u:=fun k hk=>by
 have:=lex_com h1 h2
 rw [a1 k (by omega),a2 k (by omega)]
theorem agr_all {L:List Tr} (hs:L.Pairwise fun a b=>lexW a.inn b.inn≤0) (hc:∀k,(h:k+1<L.length)→agrT (L[k]'(by omega)) L[k+1]):L.Pairwise agrT:=by
 induction L with
 |nil=>exact List.Pairwise.nil
 |cons x L ih=>
  have hs':=List.pairwise_cons.1 hs
  have ih':=ih hs'.2 fun k h=>hc (k+1) (by simp;omega)
  refine List.pairwise_cons.2 ⟨fun y hy=> ?_,ih'⟩
  cases L with
  |nil=>simp at hy
  |cons z L=>
   have hxz:agrT x z:=hc 0 (by simp)
   rcases List.mem_cons.1 hy with rfl|hy
   ·exact hxz
   exact agrT_trans (hs'.1 z (by simp)) ((List.pairwise_cons.1 hs'.2).1 y hy) hxz ((List.pairwise_cons.1 ih').1 y hy)
theorem info_tr:(Tryz.prog.info? 73).map (fun i=>(i.zero,i.size,i.bytes))=some (some (.agg #[.slice none 0 0,.slice none 0 0]),2,48):=by kernel_rfl
theorem adT_flat (b off n:Nat):(⟨b,off,none⟩:Addr).add n=⟨b,off+n,none⟩:=by
 unfold Addr.add
 split
 ·rename_i h;subst h;rfl
 rfl
section
variable {M:Nat→Prop} {w:World} {a:Option Addr} {c:Nat} {l:List Tr}
theorem cloneT_any (h:Sl M w a c l) (hl:l.length<100000000000):
    Calls Tryz.prog 114 #[.slice a l.length c] w fun e w'=>∃a' c',e= .returned (.slice a' l.length c')∧Ow w.heap.size (fun k=>w.heap.size≤k) w' 73 (.slice a' l.length c') l∧Below w.heap.size w w':=by
 have he:=fun (w:World) (a:Option Addr) (n c:Nat)=>Lib.run_eql_slice_nil (P:=Tryz.prog) w 41 73 a n c 0 0 Tryz.underlying41
 cases a with
 |none=>
  have h0:l=[]:=by
   cases l with
   |nil=>rfl
   |cons x l=>obtain ⟨_,_,_,_,_,_,_,ha,_⟩:=h.at_tr (j:=0) (by simp);cases ha
  subst h0
  go_enter Tryz.func114,Tryz.ntmps114
  go_wp2
  go_ret
  exact ⟨none,0,rfl,Ow.nil,Below.refl _ _⟩
 |some ad=>
  have hs:=(fresh_M h).alloc (.cells #[] 73)
  obtain ⟨W,hW⟩:∃W,W=w.alloc (.cells #[] 73):=⟨_,rfl⟩
  have hB0:Below w.heap.size w W:=by rw [hW];exact (Below.refl _ _).alloc (Nat.le_refl _) _
  have hz0:w.heap.size≤W.heap.size:=hB0.size
  have hze:W.ownsRow w.heap.size 73 2 (.slice (some ⟨w.heap.size,0,none⟩) 0 0) 0 []:=by rw [hW];exact World.ownsRow_made w #[] 0 (Nat.le_refl _) (Nat.zero_le _) (by simp)
  rw [←hW] at hs
  have hcell:∀(j:Nat) (t:Tr),l[j]? =some t→∃a1 c1 a2 c2,W.cell? (ad.add (j*2))=some (.slice a1 t.inn.length c1)∧W.cell? (ad.add (j*2+1))=some (.slice a2 t.out.length c2)∧Sl (fun k=>w.heap.size≤k) W a1 c1 t.inn∧Sl (fun k=>w.heap.size≤k) W a2 c2 t.out:=by
   intro j t hj
   have hjl:j<l.length:=by
    by_cases e:j<l.length
    ·exact e
    rw [List.getElem?_eq_none (by omega)] at hj;simp at hj
   obtain ⟨b,off,a1,c1,a2,c2,t',had,k1,k2,ht',s1,s2⟩:=hs.at_tr hjl
   have had':ad=⟨b,off,none⟩:=by simpa using had
   have hz':t=t':=by have:=ht'.out;rw [hj] at this;simpa using this
   subst hz'
   refine ⟨a1,c1,a2,c2,?_,?_,s1,s2⟩
   ·rw [had',adT_flat];exact k1
   rw [had',adT_flat];exact k2
  obtain ⟨news,hne⟩:∃news,news=(List.range (l.length*2)).map fun j=>(W.cell? (ad.add j)).getD (.int .i64 0):=⟨_,rfl⟩
  have hnl:news.length=l.length*2:=by rw [hne];simp
  have hnj:∀j,j<l.length*2→∃x n c,news[j]? =some (.slice x n c)∧W.cell? (ad.add j)=some (.slice x n c):=by
   intro j hj
   have hj2:j/2<l.length:=by omega
   obtain ⟨a1,c1,a2,c2,k1,k2, -, -⟩:=hcell (j/2) _ (List.getElem?_eq_getElem hj2)
   rcases Nat.mod_two_eq_zero_or_one j with e|e
   ·have e2:j/2*2=j:=by omega
    rw [e2] at k1
    exact ⟨_,_,_,by rw [hne,List.getElem?_map,List.getElem?_range hj];simp [k1],k1⟩
   have e2:j/2*2+1=j:=by omega
   rw [e2] at k2
   exact ⟨_,_,_,by rw [hne,List.getElem?_map,List.getElem?_range hj];simp [k2],k2⟩
  have hn2:∀j u,news[j]? =some u→W.cell? (ad.add j)=some u:=fun j u hj=>by
   have hjl:j<l.length*2:=by
    by_cases e:j<l.length*2
    ·exact e
    rw [List.getElem?_eq_none (by omega)] at hj;simp at hj
   obtain ⟨x,n,c',e1,e2⟩:=hnj j hjl
   rw [e1] at hj;simp at hj;rw [e2,hj]
  have hn1:∀u∈news,u.oneCell'=true:=fun u hu=>by
   obtain ⟨j,hj,hu⟩:=List.getElem_of_mem hu
   obtain ⟨x,n,c',e1, -⟩:=hnj j (by omega)
   rw [List.getElem?_eq_getElem hj,hu] at e1
   simp at e1;rw [e1];rfl
  obtain ⟨i,hi1,hi2,hi3,hi4⟩:=info_parts info_tr
  have HH:=Lib.hid hcell
  have HN:=Lib.hid hnj
  have hlm:0+l.length≤maxLen:=by unfold maxLen;omega
  have hlb:(0+l.length)*48≤140737488355328:=by omega
  have HW:=Lib.hid hW
  have HNE:=Lib.hid hne
  clear h hs hcell hnj hne
  go_enter Tryz.func114,Tryz.ntmps114
  go_wp2_with (at_builtin;refine wpList_append_own _ rfl _ _ _ rfl w.heap.size 73 i (.agg #[.slice none 0 0,.slice none 0 0]) 2 48 Tryz.underlying41 hi1 hi2 hi3 hi4 rfl (by decide) (.slice (some ⟨w.heap.size,0,none⟩) 0 0) 0 [] rfl (by rw [←hW];exact hze) ad l.length c news rfl hnl (by rw [←hW];exact hn2) hn1 hlm hlb (by rw [←hW];exact hz0) ?_)
  intro v' w' ho hgr hiff
  rw [←hW] at hgr
  have hfin:Ow w.heap.size (fun k=>w.heap.size≤k) w' 73 v' l:=by
   refine ⟨news,by simpa [GR.sz] using ho,fun j y hj=> ?_⟩
   have hjl:j<l.length:=by
    by_cases e:j<l.length
    ·exact e
    rw [List.getElem?_eq_none (by omega)] at hj;simp at hj
   obtain ⟨a1,c1,a2,c2,k1,k2,s1,s2⟩:=HH.out j y hj
   have hE:Ext (fun k=>w.heap.size≤k) (fun k=>w.heap.size≤k) W w':=⟨hgr.size,fun k hk hm=>hgr.block k hk fun e=>hm (by simp [Value.ownBlock] at e;omega),fun k hk hm=>hm⟩
   have e1:(news.drop (j*GR.sz Tr)).take (GR.sz Tr)=[.slice a1 y.inn.length c1,.slice a2 y.out.length c2]:=by
    apply List.ext_getElem?
    intro q
    simp only [GR.sz]
    rcases q with _|_|q
    ·rw [List.getElem?_take,if_pos (by omega),List.getElem?_drop,HNE.out,List.getElem?_map,List.getElem?_range (by omega)]
     simp [k1]
    ·rw [List.getElem?_take,if_pos (by omega),List.getElem?_drop,HNE.out,List.getElem?_map,List.getElem?_range (by omega)]
     simp [k2]
    rw [List.getElem?_take,if_neg (by omega)];rfl
   rw [e1]
   exact ⟨a1,c1,a2,c2,rfl,s1.ext hE,s2.ext hE⟩
  have hBf:Below w.heap.size w w':=hB0.grown hgr hz0 (fun k hk=>by simp [Value.ownBlock] at hk;omega)
  obtain ⟨a',c',hv,_,_⟩:=hfin.shape
  subst hv
  clear hgr ho hiff
  go_wp2
  go_ret
  exact ⟨a',c',rfl,hfin,hBf⟩
end
theorem sortT_nil (p:Option Addr) (cap:Nat) (fv:Value) (w:World):Calls Tryz.prog 115 #[.slice p 0 cap,fv] w fun e w'=>e= .returned (.tuple #[])∧w'=w:=by
 have h:=AnyF.slices_SortFunc_none (P:=Tryz.prog) (ρ:=Tryz.sortTr_ren) {Tryz.sortTr with} p cap fv w
 exact h
def FitB (l:List Tr) (v:Bool):Prop:=v=true→l.Pairwise agrT
def FitR (l:List Tr) (w:World) (e:Ending) (w':World):Prop:=∃v,e= .returned (.bool v)∧Hid (FitB l v)∧Below w.heap.size w w'
section
variable {M:Nat→Prop} {w:World} {a:Option Addr} {c:Nat} {l:List Tr}
theorem fits_any (h:Sl M w a c l) (hg:Hid (∀t∈l,t.out.length=t.inn.length)) (hl:l.length≤10000):
    Calls Tryz.prog 59 #[.slice a l.length c] w (FitR l w):=by
 have hll:=h.le
 have HC:=Lib.hid (cloneT_any h (by omega))
 clear h
 by_cases h0:l.length=0
 ·have hr:Hid (FitB l true):=fun _=>by rw [List.length_eq_zero_iff.1 h0];exact List.Pairwise.nil
  have hl0:=List.length_eq_zero_iff.1 h0
  subst hl0
  clear h0 hl hll hg
  go_enter Tryz.func59,Tryz.ntmps59
  go_wp2_with fail
  refine (HC.out).mono ?_
  rintro e w1 ⟨a1,c1,rfl, -,hb1⟩
  have HSo:=Lib.hid (sortT_nil a1 c1 (.func (.func 116) #[] #[]) w1)
  go_wp2_with fail
  refine (HSo.out).mono ?_
  rintro e w2 ⟨rfl,hw2⟩
  obtain rfl:w1=w2:=hw2.symm
  go_wp2
  go_loopw [3] (fun i wr=>i= .int .i64 1∧Below w.heap.size w wr) (fun _ _=>0)
  case atStart=>exact ⟨rfl,hb1⟩
  case round=>
   clear hb1
   obtain ⟨rfl,hB⟩:=hrel
   go_wp2
   go_ret
   exact ⟨true,rfl,hr,hB⟩
 go_enter Tryz.func59,Tryz.ntmps59
 go_wp2_with fail
 refine (HC.out).mono ?_
 rintro e w1 ⟨a1,c1,rfl,hO,hb1⟩
 have hg1:∃g,a1=some ⟨g,0,none⟩∧w.heap.size≤g:=by
  obtain ⟨xs,h1, -⟩:=hO
  rcases h1.2 with ⟨hv, -⟩|⟨g,cap,cur,hv,hb, -⟩
  ·have h9:=(Value.slice.inj hv).2.1;omega
  simp only [Value.slice.injEq] at hv
  exact ⟨g,hv.1,hb⟩
 obtain ⟨g,rfl,hgw⟩:=hg1
 have HSo:=Lib.hid (sort_trs hO (show w.heap.size≤g from hgw) hgw (by omega))
 clear hO HC
 go_wp2_with fail
 refine (HSo.out).mono ?_
 rintro e w2 ⟨rfl,L,hL,hLs,hLl,hb2⟩
 have hB2:=hb1.trans hb2
 have HL:=Lib.hid hLs
 have hLl2:=hLl.out
 rw [←hLl2]
 have hLg:Hid (∀t∈L,t.out.length=t.inn.length):=fun t ht=>hg.out t (hL.out.1.mem_iff.1 ht)
 have hPL:Hid (∀v,(v=true→L.Pairwise agrT)→FitB l v):=fun v hv h=>by
  have h1:=hv h
  exact (hL.out.1.pairwise_iff (fun {x y} h=>agrT_symm h)).1 h1
 have hA0:Hid (∀j,(h:j+1<L.length)→j+1<0+1→agrT (L[j]'(by omega)) L[j+1]):=fun j _ h=>by omega
 have hb2':=Below.refl w2.heap.size w2
 have hLn:0<L.length:=by omega
 clear HSo hLs hb1 hb2
 go_wp2
 go_loopw [3] (fun i wr=>∃q:Nat,q+1≤L.length∧i= .int .i64 ((q+1:Nat):Int)∧Hid (∀j,(h:j+1<L.length)→j+1<q+1→agrT (L[j]'(by omega)) L[j+1])∧Below w2.heap.size w2 wr) (fun i _=>L.length-(intOf i).toNat)
 case atStart=>exact ⟨0,by omega,by go_num,hA0,hb2'⟩
 case round=>
  clear hA0 hb2'
  obtain ⟨q,hq,rfl,hA,hB⟩:=hrel
  obtain ⟨w3,rfl⟩:∃w3:World,w3=wr:=⟨_,rfl⟩
  have hz3:=hB.size
  have hBf:=hB2.trans (hB.mono hB2.size)
  by_cases hlt:q+1<L.length
  ·obtain ⟨b1,o1,x1,y1,x2,y2,s,he1,k1,k2,hs,s1,s2⟩:=(HL.out.below hB).at_tr (show q<L.length by omega)
   obtain ⟨b2,o2,u1,v1,u2,v2,t,he2,k3,k4,ht,t1,t2⟩:=(HL.out.below hB).at_tr hlt
   simp only [Option.some.injEq,Addr.mk.injEq,and_true] at he1 he2
   obtain ⟨rfl,rfl⟩:=he1
   obtain ⟨rfl,rfl⟩:=he2
   rw [Nat.zero_add] at k1 k3
   rw [Nat.zero_add] at k2 k4
   have hsg:=Lib.hid (hLg.out s (List.mem_of_getElem? hs.out))
   have htg:=Lib.hid (hLg.out t (List.mem_of_getElem? ht.out))
   have hq0:(0:Int)≤(q:Int)+1:=by omega
   have hwq:IntKind.i64.wrap (q:Int)=(q:Int):=IntWalk.i64_in _ (by omega)
   have hql:q<l.length:=by omega
   have z1:=s1.le
   have z2:=s2.le
   have z3:=t1.le
   have z4:=t2.le
   have HT : Hid (∀ w', Below w3.heap.size w3 w' → ((w'.cell? ⟨g, q * 2, none⟩ = some (.slice x1 s.inn.length y1) ∧ w'.cell? ⟨g, q * 2 + 1, none⟩ = some (.slice x2 s.out.length y2)) ∧ (w'.cell? ⟨g, (q + 1) * 2, none⟩ = some (.slice u1 t.inn.length v1) ∧ w'.cell? ⟨g, (q + 1) * 2 + 1, none⟩ = some (.slice u2 t.out.length v2))) ∧
       Sl (fun _=>False) w' x1 y1 s.inn∧Sl (fun _=>False) w' x2 y2 s.out∧Sl (fun _=>False) w' u1 v1 t.inn∧Sl (fun _=>False) w' u2 v2 t.out):=fun w' hb=>
    ⟨⟨⟨(hb.cell (p:=⟨g,q*2,none⟩) (lt_of_cell k1)).trans k1,(hb.cell (p:=⟨g,q*2+1,none⟩) (lt_of_cell k2)).trans k2⟩,(hb.cell (p:=⟨g,(q+1)*2,none⟩) (lt_of_cell k3)).trans k3,(hb.cell (p:=⟨g,(q+1)*2+1,none⟩) (lt_of_cell k4)).trans k4⟩,s1.below hb,s2.below hb,t1.below hb,t2.below hb⟩
   clear s1 s2 t1 t2 k1 k2 k3 k4
   cases hp:hasP t.inn s.inn with
   |true=>
    have hr:Hid (FitB l false):=hPL.out false (fun h=>by cases h)
    go_upto_region 6 with (fail)
    refine wp_region_L (fun w'=>(w'.cell? ⟨g,q*2,none⟩=some (.slice x1 s.inn.length y1)∧w'.cell? ⟨g,q*2+1,none⟩=some (.slice x2 s.out.length y2))∧(w'.cell? ⟨g,(q+1)*2,none⟩=some (.slice u1 t.inn.length v1)∧w'.cell? ⟨g,(q+1)*2+1,none⟩=some (.slice u2 t.out.length v2))) [0,1,2,3,4,5,6,7,8,9,10,12,13,14,15,16,17,18,19,20,21,22,23,24] (by kernel_rfl) ?_
    have hbd:=(Below.refl w3.heap.size w3).drew
    have hS1:=(HT.out _ hbd).1
    have HH:=Lib.hid (hasp_is (HT.out _ hbd).2.2.2.1 (HT.out _ hbd).2.1 hp)
    have hB4:=hBf.trans (hbd.mono hBf.size)
    generalize w3.drew=w4 at*
    clear hbd hp
    refine skL_on [0,1,2,3,4,5,6,7,8,9,10] ?_
    repeat (refine skL_take (v:= ?_) rfl ?_ ?_;rotate_left;(focus (intro w' hSw;(try dsimp only at hSw);go_simp;try with_reducible rfl));try simp only [Act.put,List.setIfInBounds_toArray,List.set_cons_zero,List.set_cons_succ])
    refine skL_off ?_
    refine wpAnyL_one (i:=11) (by kernel_rfl) rfl rfl (fun K hK=> ?_)
    go_simp
    refine (HH.out).mono ?_
    rintro e w5 ⟨rfl,hb5⟩
    have hB5:=hB4.trans (hb5.mono hB4.size)
    have hS5:(w5.cell? ⟨g,q*2,none⟩=some (.slice x1 s.inn.length y1)∧w5.cell? ⟨g,q*2+1,none⟩=some (.slice x2 s.out.length y2))∧(w5.cell? ⟨g,(q+1)*2,none⟩=some (.slice u1 t.inn.length v1)∧w5.cell? ⟨g,(q+1)*2+1,none⟩=some (.slice u2 t.out.length v2)):=
     ⟨⟨(hb5.cell (p:=⟨g,q*2,none⟩) (lt_of_cell hS1.1.1)).trans hS1.1.1,(hb5.cell (p:=⟨g,q*2+1,none⟩) (lt_of_cell hS1.1.2)).trans hS1.1.2⟩,(hb5.cell (p:=⟨g,(q+1)*2,none⟩) (lt_of_cell hS1.2.1)).trans hS1.2.1,(hb5.cell (p:=⟨g,(q+1)*2+1,none⟩) (lt_of_cell hS1.2.2)).trans hS1.2.2⟩
    refine hK _ _ (fun _=>hS5) ?_
    clear hK K HH hS1 hb5 hB4
    refine skL_on [12] ?_
    repeat (refine skL_take (v:= ?_) rfl ?_ ?_;rotate_left;(focus (intro w' hSw;(try dsimp only at hSw);go_simp;try with_reducible rfl));try simp only [Act.put,List.setIfInBounds_toArray,List.set_cons_zero,List.set_cons_succ])
    refine skL_off ?_
    refine wpAnyL_take (i:=13) (v:=undef) rfl (by kernel_rfl) (by kernel_rfl) (by kernel_rfl) (by kernel_rfl) (fun _ _ _ h=>h) (Or.inr ⟨by rfl,rfl⟩) (by assumption) ?_
    try simp only [Act.put,List.setIfInBounds_toArray,List.set_cons_zero,List.set_cons_succ]
    refine wpAnyL_take (i:=14) (v:=undef) rfl (by kernel_rfl) (by kernel_rfl) (by kernel_rfl) (by kernel_rfl) (fun _ _ _ h=>h) (Or.inr ⟨by rfl,rfl⟩) (by assumption) ?_
    try simp only [Act.put,List.setIfInBounds_toArray,List.set_cons_zero,List.set_cons_succ]
    refine wpAnyL_take (i:=15) (v:=undef) rfl (by kernel_rfl) (by kernel_rfl) (by kernel_rfl) (by kernel_rfl) (fun _ _ _ h=>h) (Or.inr ⟨by rfl,rfl⟩) (by assumption) ?_
    try simp only [Act.put,List.setIfInBounds_toArray,List.set_cons_zero,List.set_cons_succ]
    refine wpAnyL_take (i:=16) (v:=undef) rfl (by kernel_rfl) (by kernel_rfl) (by kernel_rfl) (by kernel_rfl) (fun _ _ _ h=>h) (Or.inr ⟨by rfl,rfl⟩) (by assumption) ?_
    try simp only [Act.put,List.setIfInBounds_toArray,List.set_cons_zero,List.set_cons_succ]
    refine wpAnyL_take (i:=17) (v:=undef) rfl (by kernel_rfl) (by kernel_rfl) (by kernel_rfl) (by kernel_rfl) (fun _ _ _ h=>h) (Or.inr ⟨by rfl,rfl⟩) (by assumption) ?_
    try simp only [Act.put,List.setIfInBounds_toArray,List.set_cons_zero,List.set_cons_succ]
    refine wpAnyL_take (i:=18) (v:=undef) rfl (by kernel_rfl) (by kernel_rfl) (by kernel_rfl) (by kernel_rfl) (fun _ _ _ h=>h) (Or.inr ⟨by rfl,rfl⟩) (by assumption) ?_
    try simp only [Act.put,List.setIfInBounds_toArray,List.set_cons_zero,List.set_cons_succ]
    refine wpAnyL_skip (i:=19) (by kernel_rfl) rfl rfl (by assumption) ?_
    try simp only [Act.put,List.setIfInBounds_toArray,List.set_cons_zero,List.set_cons_succ]
    refine wpAnyL_skip (i:=20) (by kernel_rfl) rfl rfl (by assumption) ?_
    try simp only [Act.put,List.setIfInBounds_toArray,List.set_cons_zero,List.set_cons_succ]
    refine wpAnyL_skip (i:=21) (by kernel_rfl) rfl rfl (by assumption) ?_
    try simp only [Act.put,List.setIfInBounds_toArray,List.set_cons_zero,List.set_cons_succ]
    refine wpAnyL_skip (i:=22) (by kernel_rfl) rfl rfl (by assumption) ?_
    try simp only [Act.put,List.setIfInBounds_toArray,List.set_cons_zero,List.set_cons_succ]
    refine wpAnyL_skip (i:=23) (by kernel_rfl) rfl rfl (by assumption) ?_
    try simp only [Act.put,List.setIfInBounds_toArray,List.set_cons_zero,List.set_cons_succ]
    refine skL_on [24] ?_
    repeat (refine skL_take (v:= ?_) rfl ?_ ?_;rotate_left;(focus (intro w' hSw;(try dsimp only at hSw);go_simp;try with_reducible rfl));try simp only [Act.put,List.setIfInBounds_toArray,List.set_cons_zero,List.set_cons_succ])
    refine skL_off ?_
    refine wpAnyL_done (by kernel_rfl) ?_ _
    clear hS5
    go_wp2
    go_ret
    exact ⟨false,rfl,hr,hB5⟩
   |false=>
    have hdf:=Lib.hid (difT_agr hsg.out htg.out)
    have hagr:Hid (difT s t<0→∀j,(h:j+1<L.length)→j+1<(q+1)+1→agrT (L[j]'(by omega)) L[j+1]):=fun hd j h hj=>by
     by_cases e:j=q
     ·subst e
      have e1:=hs.out
      have e2:=ht.out
      rw [List.getElem?_eq_getElem (by omega)] at e1 e2
      simp only [Option.some.injEq] at e1 e2
      rw [e1,e2]
      exact hdf.out.1 hd
     exact hA.out j h (by omega)
    obtain ⟨z,hz⟩:∃z,z=difT s t:=⟨_,rfl⟩
    rw [←hz] at hagr
    go_upto_region 6 with (fail)
    refine wp_region_L (fun w'=>(w'.cell? ⟨g,q*2,none⟩=some (.slice x1 s.inn.length y1)∧w'.cell? ⟨g,q*2+1,none⟩=some (.slice x2 s.out.length y2))∧(w'.cell? ⟨g,(q+1)*2,none⟩=some (.slice u1 t.inn.length v1)∧w'.cell? ⟨g,(q+1)*2+1,none⟩=some (.slice u2 t.out.length v2))) [0,1,2,3,4,5,6,7,8,9,10,12,13,14,15,16,17,18,19,20,21,23,24] (by kernel_rfl) ?_
    have hbd:=(Below.refl w3.heap.size w3).drew
    have hS1:=(HT.out _ hbd).1
    have HH:=Lib.hid (hasp_is (HT.out _ hbd).2.2.2.1 (HT.out _ hbd).2.1 hp)
    have hB4:=hbd
    generalize w3.drew=w4 at*
    clear hbd hp
    refine skL_on [0,1,2,3,4,5,6,7,8,9,10] ?_
    repeat (refine skL_take (v:= ?_) rfl ?_ ?_;rotate_left;(focus (intro w' hSw;(try dsimp only at hSw);go_simp;try with_reducible rfl));try simp only [Act.put,List.setIfInBounds_toArray,List.set_cons_zero,List.set_cons_succ])
    refine skL_off ?_
    refine wpAnyL_one (i:=11) (by kernel_rfl) rfl rfl (fun K hK=> ?_)
    go_simp
    refine (HH.out).mono ?_
    rintro e w5 ⟨rfl,hb5⟩
    have hB5:=hB4.trans (hb5.mono hB4.size)
    have hS5:=(HT.out _ hB5).1
    have HD0:=odif_any (HT.out _ hB5).2.1 (HT.out _ hB5).2.2.1 (HT.out _ hB5).2.2.2.1 (HT.out _ hB5).2.2.2.2 hsg.out htg.out
    rw [←hz] at HD0
    have HD:=Lib.hid HD0
    refine hK _ _ (fun _=>hS5) ?_
    clear hK K HH hS1 hb5 hB4 HD0 hz
    refine skL_on [12,13,14,15,16,17,18,19,20,21] ?_
    repeat (refine skL_take (v:= ?_) rfl ?_ ?_;rotate_left;(focus (intro w' hSw;(try dsimp only at hSw);go_simp;try with_reducible rfl));try simp only [Act.put,List.setIfInBounds_toArray,List.set_cons_zero,List.set_cons_succ])
    refine skL_off ?_
    refine wpAnyL_one (i:=22) (by kernel_rfl) rfl rfl (fun K hK=> ?_)
    go_simp
    refine (HD.out).mono ?_
    rintro e w6 ⟨rfl,hb6⟩
    have hB6:=hB5.trans (hb6.mono hB5.size)
    have hS6:=(HT.out _ hB6).1
    refine hK _ _ (fun _=>hS6) ?_
    clear hK K HD hS5 hb6 hB5
    refine skL_on [23,24] ?_
    repeat (refine skL_take (v:= ?_) rfl ?_ ?_;rotate_left;(focus (intro w' hSw;(try dsimp only at hSw);go_simp;try with_reducible rfl));try simp only [Act.put,List.setIfInBounds_toArray,List.set_cons_zero,List.set_cons_succ])
    refine skL_off ?_
    refine wpAnyL_done (by kernel_rfl) ?_ _
    clear hS6
    have hB7:=hBf.trans (hB6.mono hBf.size)
    by_cases hzn:0≤z
    ·have hr:Hid (FitB l false):=hPL.out false (fun h=>by cases h)
     have hzd:decide (0≤z)=true:=decide_eq_true hzn
     go_wp2
     go_ret
     exact ⟨false,rfl,hr,hB7⟩
    have hzd:decide (0≤z)=false:=decide_eq_false hzn
    have hA2:=Lib.hid (hagr.out (by omega))
    have hB8:=hB.trans (hB6.mono hB.size)
    go_wp2
    go_roundw
    case rel=>exact ⟨q+1,by omega,by go_num,hA2,hB8⟩
    case measure=>simp [intOf];omega
  have hr:Hid (FitB l true):=hPL.out true fun _=>agr_all hL.out.2 fun k h=>hA.out k h (by omega)
  go_wp2
  go_ret
  exact ⟨true,rfl,hr,hBf⟩
end
def NoneP (l:List Tr) (P:Tr→Bool):Prop:=∀u∈l,P u=false
def AnyR (l:List Tr) (P:Tr→Bool) (w:World) (e:Ending) (w':World):Prop:=∃v,e= .returned (.bool v)∧Hid (v=false→∀u∈l,P u=false)∧Below w.heap.size w w'
def IdxR (l:List Tr) (P:Tr→Bool) (w:World) (e:Ending) (w':World):Prop:=∃r:Int,e= .returned (.int .i64 r)∧Hid (r<0→∀u∈l,P u=false)∧Below w.heap.size w w'
section
variable {M M1 M2 M3:Nat→Prop} {w:World} {a a1 a2 b1 b2:Option Addr} {c c1 c2 d1 d2 g:Nat} {t u:Tr} {l:List Tr}
theorem v1_any (h1:Sl M w a1 c1 u.inn) (_h2:Sl M3 w a2 c2 u.out) (hT:T2 w g b1 d1 b2 d2 t) (s1:Sl M1 w b1 d1 t.inn) (_s2:Sl M2 w b2 d2 t.out) (_hu:Hid (u.out.length=u.inn.length)) (_ht:Hid (t.out.length=t.inn.length)) {v:Bool} (hv:hasP u.inn t.inn=v):
    Calls Tryz.prog 61 #[trV u a1 c1 a2 c2,.pointer (some ⟨g,0,none⟩)] w fun e w'=>e= .returned (.bool v)∧Below w.heap.size w w':=by
 have hB0:=(Below.refl w.heap.size w).alloc (Nat.le_refl _) (trO u a1 c1 a2 c2)
 have hT1:=hT.below hB0 (lt_of_cell hT.1)
 have HC:=Lib.hid (hasp_is (h1.below hB0) (s1.below hB0) hv)
 have l1:=h1.le
 have l2:=s1.le
 clear h1 s1 hT hv _h2 _s2
 obtain ⟨x0,x1⟩:=hT1
 go_enter Tryz.func61,Tryz.ntmps61
 go_wp2_with fail
 refine (HC.out).mono ?_
 rintro e w1 ⟨rfl,hb1⟩
 have hB1:=hB0.trans (hb1.mono hB0.size)
 go_wp2
 go_ret
 exact ⟨rfl,hB1⟩
theorem v2_any (h1:Sl M w a1 c1 u.inn) (h2:Sl M3 w a2 c2 u.out) (hT:T2 w g b1 d1 b2 d2 t) (s1:Sl M1 w b1 d1 t.inn) (s2:Sl M2 w b2 d2 t.out) (hu:Hid (u.out.length=u.inn.length)) (ht:Hid (t.out.length=t.inn.length)) {v:Bool} (hv:decide (0≤difT t u)=v):
    Calls Tryz.prog 63 #[trV u a1 c1 a2 c2,.pointer (some ⟨g,0,none⟩)] w fun e w'=>e= .returned (.bool v)∧Below w.heap.size w w':=by
 have hB0:=(Below.refl w.heap.size w).alloc (Nat.le_refl _) (trO u a1 c1 a2 c2)
 have hT1:=hT.below hB0 (lt_of_cell hT.1)
 have HC0:=odif_any (s1.below hB0) (s2.below hB0) (h1.below hB0) (h2.below hB0) ht.out hu.out
 obtain ⟨z,hz⟩:∃z,z=difT t u:=⟨_,rfl⟩
 rw [←hz] at HC0 hv
 have HC:=Lib.hid HC0
 have l1:=h1.le
 have l2:=s1.le
 have l3:=h2.le
 have l4:=s2.le
 clear h1 s1 hT h2 s2 HC0 hz
 obtain ⟨x0,x1⟩:=hT1
 go_enter Tryz.func63,Tryz.ntmps63
 go_wp2_with fail
 refine (HC.out).mono ?_
 rintro e w1 ⟨rfl,hb1⟩
 have hB1:=hB0.trans (hb1.mono hB0.size)
 go_wp2
 go_ret
 exact ⟨by rw [←hv];rfl,hB1⟩
theorem idxv1 (hs:Sl M w a c l) (hT:T2 w g b1 d1 b2 d2 t) (s1:Sl M1 w b1 d1 t.inn) (s2:Sl M2 w b2 d2 t.out) (hg:Hid (∀u∈l,u.out.length=u.inn.length)) (ht:Hid (t.out.length=t.inn.length)) (hl:l.length≤10000):
    Calls Tryz.prog 65 #[.slice a l.length c,.func (Fn.func 61) #[] #[.pointer (some ⟨g,0,none⟩)]] w (IdxR l (fun u=>hasP u.inn t.inn) w):=by
 have hll:=hs.le
 have HS:=Lib.hid hs
 have HT:Hid (∀w',Below w.heap.size w w'→T2 w' g b1 d1 b2 d2 t∧Sl M1 w' b1 d1 t.inn∧Sl M2 w' b2 d2 t.out):=fun w' hb=>⟨hT.below hb (lt_of_cell hT.1),s1.below hb,s2.below hb⟩
 have hB0:=Below.refl w.heap.size w
 have hN0:Hid (∀u∈l.take 0,(hasP u.inn t.inn)=false):=fun y hy=>by simp at hy
 clear hs hT s1 s2
 go_enter Tryz.func65,Tryz.ntmps65
 go_wp2
 go_loopw [8] (fun i wr=>∃j:Nat,j≤l.length∧i= .int .i64 j∧Hid (∀u∈l.take j,(hasP u.inn t.inn)=false)∧Below w.heap.size w wr) (fun i _=>l.length-(intOf i).toNat)
 case atStart=>exact ⟨0,by omega,rfl,hN0,hB0⟩
 case round=>
  clear hB0 hN0
  obtain ⟨j,hj,rfl,hN,hB⟩:=hrel
  obtain ⟨w1,rfl⟩:∃w1:World,w1=wr:=⟨_,rfl⟩
  by_cases hlt:j<l.length
  ·obtain ⟨bL,oL,q1,r1,q2,r2,x,rfl,hc1,hc2,hx,hx1,hx2⟩:=(HS.out.below hB).at_tr hlt
   have hxg:=Lib.hid (hg.out x (List.mem_of_getElem? hx.out))
   have HTw:=HT.out _ hB
   obtain ⟨v,hv⟩:∃v:Bool,(hasP x.inn t.inn)=v:=⟨_,rfl⟩
   have HC:=Lib.hid (v1_any hx1 hx2 HTw.1 HTw.2.1 HTw.2.2 hxg ht hv)
   have l1:=hx1.le
   have l2:=hx2.le
   have HV:=Lib.hid hv
   clear hx1 hx2 HTw hv
   go_wp2_with fail
   refine (HC.out).mono ?_
   rintro e w2 ⟨rfl,hb2⟩
   have hB2:=hB.trans (hb2.mono hB.size)
   cases v with
   |true=>
    have hr:Hid (((j:Nat):Int)<0→∀u∈l,(hasP u.inn t.inn)=false):=fun h=>by omega
    go_wp2
    go_ret
    exact ⟨_,rfl,hr,hB2⟩
   |false=>
    have hN2:Hid (∀u∈l.take (j+1),(hasP u.inn t.inn)=false):=fun y hy=>by
     rw [List.take_add_one,hx.out] at hy
     rcases List.mem_append.1 hy with hy|hy
     ·exact hN.out y hy
     have:y=x:=by simpa using hy
     subst this;exact HV.out
    clear HC hb2 hc1 hc2
    go_wp2
    go_roundw
    case rel=>exact ⟨j+1,by omega,by go_num,hN2,hB2⟩
    case measure=>simp [intOf];omega
  have hr:Hid ((-1:Int)<0→∀u∈l,(hasP u.inn t.inn)=false):=fun _ y hy=>hN.out y (by rw [List.take_of_length_le (by omega)];exact hy)
  go_wp2
  go_ret
  exact ⟨_,rfl,hr,hB⟩
theorem conv1 (hs:Sl M w a c l) (hT:T2 w g b1 d1 b2 d2 t) (s1:Sl M1 w b1 d1 t.inn) (s2:Sl M2 w b2 d2 t.out) (hg:Hid (∀u∈l,u.out.length=u.inn.length)) (ht:Hid (t.out.length=t.inn.length)) (hl:l.length≤10000):
    Calls Tryz.prog 60 #[.slice a l.length c,.func (Fn.func 61) #[] #[.pointer (some ⟨g,0,none⟩)]] w (AnyR l (fun u=>hasP u.inn t.inn) w):=by
 have hll:=hs.le
 have HC:=Lib.hid (idxv1 hs hT s1 s2 hg ht hl)
 clear hs hT s1 s2
 go_enter Tryz.func60,Tryz.ntmps60
 go_wp2_with fail
 refine (HC.out).mono ?_
 rintro e w1 ⟨r,rfl,hr,hb1⟩
 by_cases h0:0≤r
 ·have h0d:decide (0≤r)=true:=decide_eq_true h0
  have hR:Hid (true=false→∀u∈l,(hasP u.inn t.inn)=false):=fun h=>by cases h
  go_wp2
  go_ret
  exact ⟨true,rfl,hR,hb1⟩
 have h0d:decide (0≤r)=false:=decide_eq_false h0
 have hR:NoneP l (fun u=>hasP u.inn t.inn):=hr.out (by omega)
 go_wp2
 go_ret
 exact ⟨false,rfl,fun _=>hR,hb1⟩
theorem idxv2 (hs:Sl M w a c l) (hT:T2 w g b1 d1 b2 d2 t) (s1:Sl M1 w b1 d1 t.inn) (s2:Sl M2 w b2 d2 t.out) (hg:Hid (∀u∈l,u.out.length=u.inn.length)) (ht:Hid (t.out.length=t.inn.length)) (hl:l.length≤10000):
    Calls Tryz.prog 65 #[.slice a l.length c,.func (Fn.func 63) #[] #[.pointer (some ⟨g,0,none⟩)]] w (IdxR l (fun u=>decide (0≤difT t u)) w):=by
 have hll:=hs.le
 have HS:=Lib.hid hs
 have HT:Hid (∀w',Below w.heap.size w w'→T2 w' g b1 d1 b2 d2 t∧Sl M1 w' b1 d1 t.inn∧Sl M2 w' b2 d2 t.out):=fun w' hb=>⟨hT.below hb (lt_of_cell hT.1),s1.below hb,s2.below hb⟩
 have hB0:=Below.refl w.heap.size w
 have hN0:Hid (∀u∈l.take 0,(decide (0≤difT t u))=false):=fun y hy=>by simp at hy
 clear hs hT s1 s2
 go_enter Tryz.func65,Tryz.ntmps65
 go_wp2
 go_loopw [8] (fun i wr=>∃j:Nat,j≤l.length∧i= .int .i64 j∧Hid (∀u∈l.take j,(decide (0≤difT t u))=false)∧Below w.heap.size w wr) (fun i _=>l.length-(intOf i).toNat)
 case atStart=>exact ⟨0,by omega,rfl,hN0,hB0⟩
 case round=>
  clear hB0 hN0
  obtain ⟨j,hj,rfl,hN,hB⟩:=hrel
  obtain ⟨w1,rfl⟩:∃w1:World,w1=wr:=⟨_,rfl⟩
  by_cases hlt:j<l.length
  ·obtain ⟨bL,oL,q1,r1,q2,r2,x,rfl,hc1,hc2,hx,hx1,hx2⟩:=(HS.out.below hB).at_tr hlt
   have hxg:=Lib.hid (hg.out x (List.mem_of_getElem? hx.out))
   have HTw:=HT.out _ hB
   obtain ⟨v,hv⟩:∃v:Bool,(decide (0≤difT t x))=v:=⟨_,rfl⟩
   have HC:=Lib.hid (v2_any hx1 hx2 HTw.1 HTw.2.1 HTw.2.2 hxg ht hv)
   have l1:=hx1.le
   have l2:=hx2.le
   have HV:=Lib.hid hv
   clear hx1 hx2 HTw hv
   go_wp2_with fail
   refine (HC.out).mono ?_
   rintro e w2 ⟨rfl,hb2⟩
   have hB2:=hB.trans (hb2.mono hB.size)
   cases v with
   |true=>
    have hr:Hid (((j:Nat):Int)<0→∀u∈l,(decide (0≤difT t u))=false):=fun h=>by omega
    go_wp2
    go_ret
    exact ⟨_,rfl,hr,hB2⟩
   |false=>
    have hN2:Hid (∀u∈l.take (j+1),(decide (0≤difT t u))=false):=fun y hy=>by
     rw [List.take_add_one,hx.out] at hy
     rcases List.mem_append.1 hy with hy|hy
     ·exact hN.out y hy
     have:y=x:=by simpa using hy
     subst this;exact HV.out
    clear HC hb2 hc1 hc2
    go_wp2
    go_roundw
    case rel=>exact ⟨j+1,by omega,by go_num,hN2,hB2⟩
    case measure=>simp [intOf];omega
  have hr:Hid ((-1:Int)<0→∀u∈l,(decide (0≤difT t u))=false):=fun _ y hy=>hN.out y (by rw [List.take_of_length_le (by omega)];exact hy)
  go_wp2
  go_ret
  exact ⟨_,rfl,hr,hB⟩
theorem conv2 (hs:Sl M w a c l) (hT:T2 w g b1 d1 b2 d2 t) (s1:Sl M1 w b1 d1 t.inn) (s2:Sl M2 w b2 d2 t.out) (hg:Hid (∀u∈l,u.out.length=u.inn.length)) (ht:Hid (t.out.length=t.inn.length)) (hl:l.length≤10000):
    Calls Tryz.prog 60 #[.slice a l.length c,.func (Fn.func 63) #[] #[.pointer (some ⟨g,0,none⟩)]] w (AnyR l (fun u=>decide (0≤difT t u)) w):=by
 have hll:=hs.le
 have HC:=Lib.hid (idxv2 hs hT s1 s2 hg ht hl)
 clear hs hT s1 s2
 go_enter Tryz.func60,Tryz.ntmps60
 go_wp2_with fail
 refine (HC.out).mono ?_
 rintro e w1 ⟨r,rfl,hr,hb1⟩
 by_cases h0:0≤r
 ·have h0d:decide (0≤r)=true:=decide_eq_true h0
  have hR:Hid (true=false→∀u∈l,(decide (0≤difT t u))=false):=fun h=>by cases h
  go_wp2
  go_ret
  exact ⟨true,rfl,hR,hb1⟩
 have h0d:decide (0≤r)=false:=decide_eq_false h0
 have hR:NoneP l (fun u=>decide (0≤difT t u)):=hr.out (by omega)
 go_wp2
 go_ret
 exact ⟨false,rfl,fun _=>hR,hb1⟩
end
def VlE (o:Ob) (er:Int):Prop:=er=0→o.good∧o.traces.Pairwise agrT
def VlR (o:Ob) (w:World) (e:Ending) (w':World):Prop:=∃er:Int,e= .returned (.int .i64 er)∧Hid (VlE o er)∧Below w.heap.size w w'
theorem vlE_no {o:Ob} {er:Int} (h:er≠0):Hid (VlE o er):=fun e=>absurd e h
def dA2 (a:Option Addr) (c i:Nat):Option Addr:=if c=i then a else a.map (·.add (i*2))
theorem Sl.dropT {M:Nat→Prop} {w:World} {a:Option Addr} {c:Nat} {l:List Tr} (h:Sl M w a c l) {i:Nat} (hi:i≤l.length):Sl M w (dA2 a c i) (c-i) (l.drop i):=by
 refine ⟨by have:=h.1;rw [List.length_drop];omega,by have:=h.2.1;omega,fun j x hj=> ?_⟩
 have hj2:l[i+j]? =some x:=by rw [List.getElem?_drop] at hj;exact hj
 have hjl:i+j<l.length:=by
  by_cases e:i+j<l.length
  ·exact e
  rw [List.getElem?_eq_none (by omega)] at hj2;simp at hj2
 obtain ⟨b,off,cs,ha,hb,hm,hr,hc⟩:=h.2.2 (i+j) x hj2
 refine ⟨b,off+i*2,cs,?_,hb,hm,hr,fun k u hk=> ?_⟩
 ·have:=h.1
  unfold dA2
  rw [if_neg (by omega),ha,Option.map_some,adT_flat]
 have:=hc k u hk
 have e:off+i*2+j*GR.sz Tr+k=off+(i+j)*GR.sz Tr+k:=by simp only [GR.sz];omega
 rw [e];exact this
section
variable {M:Nat→Prop} {w:World} {a:Option Addr} {c:Nat} {o:Ob}
theorem ovalid_any (ho:Os M w a c o):Calls Tryz.prog 24 #[obV o a c] w (VlR o w):=by
 have hB0:=(Below.refl w.heap.size w).alloc (Nat.le_refl _) (obO o a c)
 have hx0:O2 (w.alloc (obO o a c)) w.heap.size a c o:=o2_new w
 have hz0:w.heap.size<(w.alloc (obO o a c)).heap.size:=by simp
 have hol:=ho.traces.le
 have HO:=Lib.hid (ho.below hB0)
 clear ho
 go_enter Tryz.func24,Tryz.ntmps24
 go_upto_region 1 with (fail)
 generalize w.alloc (obO o a c)=w0 at*
 have HS:Hid (∀w',Below w0.heap.size w0 w'→O2 w' w.heap.size a c o∧Os M w' a c o∧Below w.heap.size w w'):=fun w' hb=>⟨hx0.below hb hz0,HO.out.below hb,hB0.trans (hb.mono (by omega))⟩
 have hb0:=Below.refl w0.heap.size w0
 have hxz:=hx0
 obtain ⟨o0,o1⟩:=hxz
 clear hx0 HO
 by_cases h1:o.inputs<1
 ·have hr:Hid (VlE o 2):=vlE_no (by omega)
  go_wp2
  go_ret
  exact ⟨2,rfl,hr,hB0⟩
 by_cases h2:64<o.inputs
 ·have hr:Hid (VlE o 2):=vlE_no (by omega)
  go_wp2
  go_ret
  exact ⟨2,rfl,hr,hB0⟩
 by_cases h3:10000<o.traces.length
 ·have hr:Hid (VlE o 11):=vlE_no (by omega)
  have h3d:decide ((10000:Int)<o.traces.length)=true:=decide_eq_true (by omega)
  go_wp2
  go_ret
  exact ⟨11,rfl,hr,hB0⟩
 have h3d:decide ((10000:Int)<o.traces.length)=false:=decide_eq_false (by omega)
 have hG0:Hid (∀t∈o.traces.take 0,wErr t.inn o.inputs=0∧t.out.length=t.inn.length):=fun t ht=>by simp at ht
 have hn:=Lib.hid h3
 go_wp2
 go_loopw [25] (fun i wr=>∃k:Nat,k≤o.traces.length∧i= .int .i64 k∧Hid (∀t∈o.traces.take k,wErr t.inn o.inputs=0∧t.out.length=t.inn.length)∧Below w0.heap.size w0 wr) (fun i _=>o.traces.length-(intOf i).toNat)
 case atStart=>exact ⟨0,by omega,rfl,hG0,hb0⟩
 case round=>
  clear hG0 hb0 o0 o1
  obtain ⟨k,hk,rfl,hG,hB⟩:=hrel
  obtain ⟨w1,rfl⟩:∃w1:World,w1=wr:=⟨_,rfl⟩
  have hz1:=hB.size
  obtain ⟨⟨o0,o1⟩,hos,hBw⟩:=HS.out _ hB
  by_cases hlt:k<o.traces.length
  ·obtain ⟨bT,oT,a1,c1,a2,c2,t,he1,hc1,hc2,ht,hs1,hs2⟩:=hos.traces.at_tr hlt
   have htl:=hs1.le
   have htl2:=hs2.le
   have HT1:Hid (∀w',Below w1.heap.size w1 w'→Sl M w' a1 c1 t.inn∧Sl M w' a2 c2 t.out):=fun w' hb=>⟨hs1.below hb,hs2.below hb⟩
   subst he1
   clear hs1 hs2 hos
   go_upto_region 8 with (fail)
   have hba:=(Below.refl w1.heap.size w1).alloc (Nat.le_refl _) (trO t a1 c1 a2 c2)
   have hX2:T2 (w1.alloc (trO t a1 c1 a2 c2)) w1.heap.size a1 c1 a2 c2 t:=t2_new w1
   have hB2:=hB.trans (hba.mono hz1)
   have hz2:w1.heap.size<(w1.alloc (trO t a1 c1 a2 c2)).heap.size:=by simp
   have HC:=Lib.hid (wcheck_any (HT1.out _ hba).1 o.inputs)
   clear o0 o1 hc1 hc2 hB
   generalize w1.alloc (trO t a1 c1 a2 c2)=w2 at*
   obtain ⟨o0,o1⟩:=(HS.out _ hB2).1
   obtain ⟨x0,x1⟩:=hX2
   obtain ⟨we,hwe⟩:∃v,v=wErr t.inn o.inputs:=⟨_,rfl⟩
   rw [←hwe] at HC
   go_wp2_with fail
   refine (HC.out).mono ?_
   rintro e w3 ⟨rfl,hb3⟩
   have hb13:=hba.trans (hb3.mono (by omega))
   have hB3:=hB2.trans (hb3.mono hB2.size)
   obtain ⟨x0,x1⟩:=T2.below ⟨x0,x1⟩ hb3 hz2
   clear HC o0 o1 hb3 hB2 hz2 hba hBw
   obtain ⟨⟨o0,o1⟩, -,hBw⟩:=HS.out _ hB3
   by_cases hw0:we=0
   rotate_left
   ·have hwb:(we !=0)=true:=by simp [hw0]
    have hr:Hid (VlE o we):=vlE_no hw0
    clear hw0 hwe
    go_wp2
    go_ret
    exact ⟨we,rfl,hr,hBw⟩
   have hwb:(we !=0)=false:=by simp [hw0]
   have HW0:Hid (wErr t.inn o.inputs=0):=by unfold Hid;rw [←hwe];exact hw0
   clear hw0 hwe
   by_cases hl0:t.inn.length=0
   ·have hlb:(((t.inn.length:Nat):Int)==0)=true:=by rw [hl0];rfl
    have hr:Hid (VlE o 19):=vlE_no (by omega)
    clear hl0
    go_wp2
    go_ret
    exact ⟨19,rfl,hr,hBw⟩
   have hlb:(((t.inn.length:Nat):Int)==0)=false:=by simp;exact fun e=>hl0 (by rw [e];rfl)
   have HP:=Lib.hid (proper_any (HT1.out _ hb13).1 (HT1.out _ hb13).2 o.inputs)
   clear hl0
   go_wp2_with fail
   refine (HP.out).mono ?_
   rintro e w4 ⟨pe,rfl,hpe,hb4⟩
   have hb14:=hb13.trans (hb4.mono (by have:=hb13.size;omega))
   have hB4:=hB3.trans (hb4.mono hB3.size)
   obtain ⟨x0,x1⟩:=T2.below ⟨x0,x1⟩ hb4 (lt_of_cell x0)
   clear HP o0 o1 hb4 hB3 hb13 hBw
   obtain ⟨⟨o0,o1⟩, -,hBw⟩:=HS.out _ hB4
   by_cases hp0:pe=0
   rotate_left
   ·have hpb:(pe !=0)=true:=by simp [hp0]
    have hr:Hid (VlE o pe):=vlE_no hp0
    clear hp0
    go_wp2
    go_ret
    exact ⟨pe,rfl,hr,hBw⟩
   have hpb:(pe !=0)=false:=by simp [hp0]
   have HL:Hid (t.out.length=t.inn.length):=hpe hp0
   have hG2:Hid (∀t∈o.traces.take (k+1),wErr t.inn o.inputs=0∧t.out.length=t.inn.length):=fun y hy=>by
    rw [List.take_add_one,ht.out] at hy
    rcases List.mem_append.1 hy with hy|hy
    ·exact hG.out y hy
    have:y=t:=by simpa using hy
    subst this;exact ⟨HW0.out,HL.out⟩
   clear hp0 hpe hG
   cases k with
   |zero=>
    go_upto_region 16 with (fail)
    refine wp_region_L (fun w'=>O2 w' w.heap.size (some ⟨bT,oT,none⟩) c o∧T2 w' w1.heap.size a1 c1 a2 c2 t) [0,1,2,3,4,5,6,7,8,9,10,11,12] (by kernel_rfl) ?_
    have hbd:=(Below.refl w4.heap.size w4).drew
    have hB5:=hB4.trans (hbd.mono hB4.size)
    have hS5:O2 w4.drew w.heap.size (some ⟨bT,oT,none⟩) c o∧T2 w4.drew w1.heap.size a1 c1 a2 c2 t:=⟨⟨o0,o1⟩,x0,x1⟩
    generalize w4.drew=w5 at*
    clear o0 o1 x0 x1 hbd hB4 hBw
    refine skL_on [0,1,2] ?_
    repeat (refine skL_take (v:= ?_) rfl ?_ ?_;rotate_left;(focus (intro w' hSw;(try dsimp only at hSw);go_simp;try with_reducible rfl));try simp only [Act.put,List.setIfInBounds_toArray,List.set_cons_zero,List.set_cons_succ])
    refine skL_off ?_
    refine wpAnyL_take (i:=3) (v:=undef) rfl (by kernel_rfl) (by kernel_rfl) (by kernel_rfl) (by kernel_rfl) (fun _ _ _ h=>h) (Or.inr ⟨by rfl,rfl⟩) (by assumption) ?_
    try simp only [Act.put,List.setIfInBounds_toArray,List.set_cons_zero,List.set_cons_succ]
    refine wpAnyL_take (i:=4) (v:=undef) rfl (by kernel_rfl) (by kernel_rfl) (by kernel_rfl) (by kernel_rfl) (fun _ _ _ h=>h) (Or.inr ⟨by rfl,rfl⟩) (by assumption) ?_
    try simp only [Act.put,List.setIfInBounds_toArray,List.set_cons_zero,List.set_cons_succ]
    refine wpAnyL_take (i:=5) (v:=undef) rfl (by kernel_rfl) (by kernel_rfl) (by kernel_rfl) (by kernel_rfl) (fun _ _ _ h=>h) (Or.inr ⟨by rfl,rfl⟩) (by assumption) ?_
    try simp only [Act.put,List.setIfInBounds_toArray,List.set_cons_zero,List.set_cons_succ]
    refine wpAnyL_take (i:=6) (v:=undef) rfl (by kernel_rfl) (by kernel_rfl) (by kernel_rfl) (by kernel_rfl) (fun _ _ _ h=>h) (Or.inr ⟨by rfl,rfl⟩) (by assumption) ?_
    try simp only [Act.put,List.setIfInBounds_toArray,List.set_cons_zero,List.set_cons_succ]
    refine wpAnyL_take (i:=7) (v:=undef) rfl (by kernel_rfl) (by kernel_rfl) (by kernel_rfl) (by kernel_rfl) (fun _ _ _ h=>h) (Or.inr ⟨by rfl,rfl⟩) (by assumption) ?_
    try simp only [Act.put,List.setIfInBounds_toArray,List.set_cons_zero,List.set_cons_succ]
    refine wpAnyL_take (i:=8) (v:=undef) rfl (by kernel_rfl) (by kernel_rfl) (by kernel_rfl) (by kernel_rfl) (fun _ _ _ h=>h) (Or.inr ⟨by rfl,rfl⟩) (by assumption) ?_
    try simp only [Act.put,List.setIfInBounds_toArray,List.set_cons_zero,List.set_cons_succ]
    refine wpAnyL_skip (i:=9) (by kernel_rfl) rfl rfl (by assumption) ?_
    try simp only [Act.put,List.setIfInBounds_toArray,List.set_cons_zero,List.set_cons_succ]
    refine wpAnyL_skip (i:=10) (by kernel_rfl) rfl rfl (by assumption) ?_
    try simp only [Act.put,List.setIfInBounds_toArray,List.set_cons_zero,List.set_cons_succ]
    refine wpAnyL_skip (i:=11) (by kernel_rfl) rfl rfl (by assumption) ?_
    try simp only [Act.put,List.setIfInBounds_toArray,List.set_cons_zero,List.set_cons_succ]
    refine skL_on [12] ?_
    repeat (refine skL_take (v:= ?_) rfl ?_ ?_;rotate_left;(focus (intro w' hSw;(try dsimp only at hSw);go_simp;try with_reducible rfl));try simp only [Act.put,List.setIfInBounds_toArray,List.set_cons_zero,List.set_cons_succ])
    refine skL_off ?_
    refine wpAnyL_done (by kernel_rfl) ?_ _
    clear hS5
    go_wp2
    go_roundw
    case rel=>exact ⟨1,by omega,by go_num,hG2,hB5⟩
    case measure=>simp [intOf];omega
   |succ q=>
    obtain ⟨bU,oU,u1,v1,u2,v2,s,he2,k1,k2,hs,t1,t2⟩:=(HS.out _ hB4).2.1.traces.at_tr (show q<o.traces.length by omega)
    simp only [Option.some.injEq,Addr.mk.injEq,and_true] at he2
    obtain ⟨rfl,rfl⟩:=he2
    have hwq:IntKind.i64.wrap (q:Int)=(q:Int):=IntWalk.i64_in _ (by omega)
    have hq0:(0:Int)<(q:Int)+1:=by omega
    have hql:q<o.traces.length:=by omega
    have z1:=t1.le
    have z2:=t2.le
    have HOr:Hid (∀w',Below w4.heap.size w4 w'→Calls Tryz.prog 58 #[trV s u1 v1 u2 v2,trV t a1 c1 a2 c2] w' fun e w''=>e= .returned (.int .i64 (cmpW s.inn t.inn))∧Below w'.heap.size w' w''):=fun w' hb=>order_any (t1.below hb) ((HT1.out _ (hb14.trans (hb.mono (by have:=hb14.size;omega)))).1)
    obtain ⟨z,hz⟩:∃z,z=cmpW s.inn t.inn:=⟨_,rfl⟩
    rw [←hz] at HOr
    clear t1 t2 hz
    go_upto_region 16 with (fail)
    refine wp_region_L (fun w'=>(O2 w' w.heap.size (some ⟨bT,oT,none⟩) c o∧T2 w' w1.heap.size a1 c1 a2 c2 t)∧(w'.cell? ⟨bT,oT+q*2,none⟩=some (.slice u1 s.inn.length v1)∧w'.cell? ⟨bT,oT+q*2+1,none⟩=some (.slice u2 s.out.length v2))) [0,1,2,3,4,5,6,7,8,9,11,12] (by kernel_rfl) ?_
    have hbd:=(Below.refl w4.heap.size w4).drew
    have hB5:=hB4.trans (hbd.mono hB4.size)
    have HOr5:=Lib.hid (HOr.out _ hbd)
    have hS5:(O2 w4.drew w.heap.size (some ⟨bT,oT,none⟩) c o∧T2 w4.drew w1.heap.size a1 c1 a2 c2 t)∧(w4.drew.cell? ⟨bT,oT+q*2,none⟩=some (.slice u1 s.inn.length v1)∧w4.drew.cell? ⟨bT,oT+q*2+1,none⟩=some (.slice u2 s.out.length v2)):=⟨⟨⟨o0,o1⟩,x0,x1⟩,k1,k2⟩
    generalize w4.drew=w5 at*
    clear o0 o1 x0 x1 hbd hB4 hBw k1 k2
    refine skL_on [0,1,2,3,4,5,6,7,8,9] ?_
    repeat (refine skL_take (v:= ?_) rfl ?_ ?_;rotate_left;(focus (intro w' hSw;(try dsimp only at hSw);go_simp;try with_reducible rfl));try simp only [Act.put,List.setIfInBounds_toArray,List.set_cons_zero,List.set_cons_succ])
    refine skL_off ?_
    refine wpAnyL_one (i:=10) (by kernel_rfl) rfl rfl (fun K hK=> ?_)
    go_simp
    refine (HOr5.out).mono ?_
    rintro e w6 ⟨rfl,hb6⟩
    have hB6:=hB5.trans (hb6.mono hB5.size)
    have hS6:(O2 w6 w.heap.size (some ⟨bT,oT,none⟩) c o∧T2 w6 w1.heap.size a1 c1 a2 c2 t)∧(w6.cell? ⟨bT,oT+q*2,none⟩=some (.slice u1 s.inn.length v1)∧w6.cell? ⟨bT,oT+q*2+1,none⟩=some (.slice u2 s.out.length v2)):=
     ⟨⟨(HS.out _ hB6).1,T2.below hS5.1.2 hb6 (lt_of_cell hS5.1.2.1)⟩,(hb6.cell (p:=⟨bT,oT+q*2,none⟩) (lt_of_cell hS5.2.1)).trans hS5.2.1,(hb6.cell (p:=⟨bT,oT+q*2+1,none⟩) (lt_of_cell hS5.2.2)).trans hS5.2.2⟩
    refine hK _ _ (fun _=>hS6) ?_
    clear hK K HOr5 hS5 hb6 hB5 HOr
    refine skL_on [11,12] ?_
    repeat (refine skL_take (v:= ?_) rfl ?_ ?_;rotate_left;(focus (intro w' hSw;(try dsimp only at hSw);go_simp;try with_reducible rfl));try simp only [Act.put,List.setIfInBounds_toArray,List.set_cons_zero,List.set_cons_succ])
    refine skL_off ?_
    refine wpAnyL_done (by kernel_rfl) ?_ _
    clear hS6
    by_cases hzn:0≤z
    ·have hzd:decide (0≤z)=true:=decide_eq_true hzn
     have hr:Hid (VlE o 10):=vlE_no (by omega)
     have hBf:=(HS.out _ hB6).2.2
     go_wp2
     go_ret
     exact ⟨10,rfl,hr,hBf⟩
    have hzd:decide (0≤z)=false:=decide_eq_false hzn
    go_wp2
    go_roundw
    case rel=>exact ⟨q+1+1,by omega,by go_num,hG2,hB6⟩
    case measure=>simp [intOf];omega
  have hgd:Hid o.good:=⟨by have:=hn.out;omega,fun t ht=>hG.out t (by rw [List.take_of_length_le (by omega)];exact ht)⟩
  have hgl:Hid (∀t∈o.traces,t.out.length=t.inn.length):=fun t ht=>(hgd.out.2 t ht).2
  have HF:=Lib.hid (fits_any hos.traces hgl (by omega))
  clear hG hos
  go_wp2_with fail
  refine (HF.out).mono ?_
  rintro e w2 ⟨v,rfl,hv,hb2⟩
  have hB2:=hB.trans (hb2.mono hz1)
  clear HF hb2 hB o0 o1 hBw
  obtain ⟨⟨o0,o1⟩, -,hBw⟩:=HS.out _ hB2
  cases v with
  |true=>
   have hr:Hid (VlE o 0):=fun _=>⟨hgd.out,hv.out rfl⟩
   go_wp2
   go_ret
   exact ⟨0,rfl,hr,hBw⟩
  |false=>
   have hN0:Hid (∀i,i<0→∀u∈o.traces.drop (i+1),∀t,o.traces[i]? =some t→decide (0≤difT t u)=false):=fun i hi=>by omega
   clear hv
   go_wp2
   go_loopw [69] (fun i wr=>∃k:Nat,k≤o.traces.length∧i= .int .i64 k∧Hid (∀i,i<k→∀u∈o.traces.drop (i+1),∀t,o.traces[i]? =some t→decide (0≤difT t u)=false)∧Below w0.heap.size w0 wr) (fun i _=>o.traces.length-(intOf i).toNat)
   case atStart=>exact ⟨0,by omega,rfl,hN0,hB2⟩
   case round=>
    clear hN0 hB2 o0 o1 hBw
    obtain ⟨k,hk,rfl,hN,hB⟩:=hrel
    obtain ⟨w1,rfl⟩:∃w1:World,w1=wr:=⟨_,rfl⟩
    have hz1:=hB.size
    obtain ⟨⟨o0,o1⟩,hos,hBw⟩:=HS.out _ hB
    by_cases hlt:k<o.traces.length
    ·obtain ⟨bT,oT,a1,c1,a2,c2,t,he1,hc1,hc2,ht,hs1,hs2⟩:=hos.traces.at_tr hlt
     have htl:=hs1.le
     have htl2:=hs2.le
     have htg:=Lib.hid (hgl.out t (List.mem_of_getElem? ht.out))
     have hcap:=hos.traces.1
     have HT1:Hid (∀w',Below w1.heap.size w1 w'→Sl M w' a1 c1 t.inn∧Sl M w' a2 c2 t.out):=fun w' hb=>⟨hs1.below hb,hs2.below hb⟩
     subst he1
     have hmf:∀(fn:Fn) (first cap:Array Value) (w:World),(Instr.makeFunc fn first cap).run Tryz.prog w= .ok (.func fn first cap) w:=fun _ _ _ _=>rfl
     have hk1:k+1≤o.traces.length:=hlt
     have hk2:k+1≤c:=by omega
     clear hs1 hs2 hos
     go_upto_region 24 with (fail)
     have hba:=(Below.refl w1.heap.size w1).alloc (Nat.le_refl _) (trO t a1 c1 a2 c2)
     have hX2:T2 (w1.alloc (trO t a1 c1 a2 c2)) w1.heap.size a1 c1 a2 c2 t:=t2_new w1
     have hB2:=hB.trans (hba.mono hz1)
     have hz2:w1.heap.size<(w1.alloc (trO t a1 c1 a2 c2)).heap.size:=by simp
     clear o0 o1 hc1 hc2 hB hBw
     generalize w1.alloc (trO t a1 c1 a2 c2)=w2 at*
     by_cases hck:c=k+1
     ·subst hck
      obtain ⟨⟨o0,o1⟩,hos, -⟩:=HS.out _ hB2
      have hD:Hid (∀w',Below w2.heap.size w2 w'→Sl M w' (some ⟨bT,oT,none⟩) 0 (o.traces.drop (k+1))):=fun w' hb=>by
       have h9:=((HS.out _ (hB2.trans (hb.mono hB2.size))).2.1.traces.dropT hk1)
       unfold dA2 at h9
       rw [if_pos rfl,Nat.sub_self] at h9
       exact h9
      have hdl:Hid (∀u∈o.traces.drop (k+1),u.out.length=u.inn.length):=fun u hu=>hgl.out u (List.mem_of_mem_drop hu)
      have hdn:(o.traces.drop (k+1)).length≤10000:=by rw [List.length_drop];omega
      have HT2:=HT1.out _ hba
      have HC0:=conv1 (hD.out _ (Below.refl _ _)) hX2 HT2.1 HT2.2 hdl htg hdn
      rw [List.length_drop,show o.traces.length-(k+1)=0 by omega] at HC0
      have HC:=Lib.hid HC0
      obtain ⟨x0,x1⟩:=hX2
      clear HC0 hos HT2 hdn
      go_wp2_with fail
      refine (HC.out).mono ?_
      rintro e w3 ⟨v,rfl, -,hb3⟩
      have hB3:=hB2.trans (hb3.mono hB2.size)
      have hX3:T2 w3 w1.heap.size a1 c1 a2 c2 t:=T2.below ⟨x0,x1⟩ hb3 hz2
      clear HC o0 o1 x0 x1
      obtain ⟨⟨o0,o1⟩, -,hBw⟩:=HS.out _ hB3
      cases v with
      |true=>
       have hr:Hid (VlE o 7):=vlE_no (by omega)
       go_wp2
       go_ret
       exact ⟨7,rfl,hr,hBw⟩
      |false=>
       have hb13:=hba.trans (hb3.mono (by omega))
       have HT3:=HT1.out _ hb13
       have hdn:(o.traces.drop (k+1)).length≤10000:=by rw [List.length_drop];omega
       have HC0:=conv2 (hD.out _ hb3) hX3 HT3.1 HT3.2 hdl htg hdn
       rw [List.length_drop,show o.traces.length-(k+1)=0 by omega] at HC0
       have HC:=Lib.hid HC0
       obtain ⟨x0,x1⟩:=hX3
       clear HC0 HT3 hb3 hB2 hz2 hdn
       go_wp2_with fail
       refine (HC.out).mono ?_
       rintro e w4 ⟨v,rfl,hv,hb4⟩
       have hB4:=hB3.trans (hb4.mono hB3.size)
       clear HC o0 o1 x0 x1 hBw
       obtain ⟨⟨o0,o1⟩, -,hBw⟩:=HS.out _ hB4
       cases v with
       |true=>
        have hr:Hid (VlE o 13):=vlE_no (by omega)
        go_wp2
        go_ret
        exact ⟨13,rfl,hr,hBw⟩
       |false=>
        have hN2:Hid (∀i,i<k+1→∀u∈o.traces.drop (i+1),∀t,o.traces[i]? =some t→decide (0≤difT t u)=false):=fun i hi u hu t' ht'=>by
         by_cases e:i=k
         ·subst e
          have e1:t'=t:=by have h9:=ht.out;rw [ht'] at h9;simpa using h9
          rw [e1]
          exact hv.out rfl u hu
         exact hN.out i (by omega) u hu t' ht'
        clear hv hN hD hdl hb4 hB3
        go_wp2
        go_roundw
        case rel=>exact ⟨k+1,by omega,by go_num,hN2,hB4⟩
        case measure=>simp [intOf];omega
     obtain ⟨⟨o0,o1⟩,hos, -⟩:=HS.out _ hB2
     have hD:Hid (∀w',Below w2.heap.size w2 w'→Sl M w' (some ⟨bT,oT+(k+1)*2,none⟩) (c-(k+1)) (o.traces.drop (k+1))):=fun w' hb=>by
      have h9:=((HS.out _ (hB2.trans (hb.mono hB2.size))).2.1.traces.dropT hk1)
      unfold dA2 at h9
      rw [if_neg hck,Option.map_some,adT_flat] at h9
      exact h9
     have hdl:Hid (∀u∈o.traces.drop (k+1),u.out.length=u.inn.length):=fun u hu=>hgl.out u (List.mem_of_mem_drop hu)
     have hdn:(o.traces.drop (k+1)).length≤10000:=by rw [List.length_drop];omega
     have HT2:=HT1.out _ hba
     have HC0:=conv1 (hD.out _ (Below.refl _ _)) hX2 HT2.1 HT2.2 hdl htg hdn
     rw [List.length_drop] at HC0
     have HC:=Lib.hid HC0
     obtain ⟨x0,x1⟩:=hX2
     clear HC0 hos HT2 hdn
     go_wp2_with fail
     refine (HC.out).mono ?_
     rintro e w3 ⟨v,rfl, -,hb3⟩
     have hB3:=hB2.trans (hb3.mono hB2.size)
     have hX3:T2 w3 w1.heap.size a1 c1 a2 c2 t:=T2.below ⟨x0,x1⟩ hb3 hz2
     clear HC o0 o1 x0 x1
     obtain ⟨⟨o0,o1⟩, -,hBw⟩:=HS.out _ hB3
     cases v with
     |true=>
      have hr:Hid (VlE o 7):=vlE_no (by omega)
      go_wp2
      go_ret
      exact ⟨7,rfl,hr,hBw⟩
     |false=>
      have hb13:=hba.trans (hb3.mono (by omega))
      have HT3:=HT1.out _ hb13
      have hdn:(o.traces.drop (k+1)).length≤10000:=by rw [List.length_drop];omega
      have HC0:=conv2 (hD.out _ hb3) hX3 HT3.1 HT3.2 hdl htg hdn
      rw [List.length_drop] at HC0
      have HC:=Lib.hid HC0
      obtain ⟨x0,x1⟩:=hX3
      clear HC0 HT3 hb3 hB2 hz2 hdn
      go_wp2_with fail
      refine (HC.out).mono ?_
      rintro e w4 ⟨v,rfl,hv,hb4⟩
      have hB4:=hB3.trans (hb4.mono hB3.size)
      clear HC o0 o1 x0 x1 hBw
      obtain ⟨⟨o0,o1⟩, -,hBw⟩:=HS.out _ hB4
      cases v with
      |true=>
       have hr:Hid (VlE o 13):=vlE_no (by omega)
       go_wp2
       go_ret
       exact ⟨13,rfl,hr,hBw⟩
      |false=>
       have hN2:Hid (∀i,i<k+1→∀u∈o.traces.drop (i+1),∀t,o.traces[i]? =some t→decide (0≤difT t u)=false):=fun i hi u hu t' ht'=>by
        by_cases e:i=k
        ·subst e
         have e1:t'=t:=by have h9:=ht.out;rw [ht'] at h9;simpa using h9
         rw [e1]
         exact hv.out rfl u hu
        exact hN.out i (by omega) u hu t' ht'
       clear hv hN hD hdl hb4 hB3
       go_wp2
       go_roundw
       case rel=>exact ⟨k+1,by omega,by go_num,hN2,hB4⟩
       case measure=>simp [intOf];omega
    have hr : Hid (VlE o 0) := fun _ => ⟨hgd.out, by
     rw [List.pairwise_iff_getElem]
     intro i j hi hj hij
     have h9:=hN.out i (by omega) o.traces[j] (by
      rw [List.mem_iff_getElem?]
      exact ⟨j-(i+1),by rw [List.getElem?_drop,show i+1+(j-(i+1))=j by omega];exact List.getElem?_eq_getElem hj⟩) o.traces[i] (List.getElem?_eq_getElem hi)
     exact (difT_agr (hgl.out _ (List.getElem_mem hi)) (hgl.out _ (List.getElem_mem hj))).1 (by have:=of_decide_eq_false h9;omega)⟩
    go_wp2
    go_ret
    exact ⟨0,rfl,hr,hBw⟩
end
end Go.Proofs.YtjagagpcjpcjjaaGreat
namespace Go.Proofs.YtjagagpcjpcjjaaGreat
section
variable {h:Hy} {o:Ob}
theorem outs_tk (m:Mach) (l:List Int) (n:Nat) (s:Int):m.outsW s (l.take n)=(m.outsW s l).take n:=by
 have h1:m.outsW s (l.take n++l.drop n)=m.outsW s (l.take n)++m.outsW (m.endW s (l.take n)) (l.drop n):=Mach.outsW_app _ _ _ _
 rw [List.take_append_drop] at h1
 have h2:(m.outsW s (l.take n)).length=min n l.length:=by rw [Mach.outsW_len,List.length_take]
 generalize m.outsW s l=L at h1
 generalize hb:m.outsW (m.endW s (l.take n)) (l.drop n)=B at h1
 have h3:B.length=l.length-n:=by rw [←hb,Mach.outsW_len,List.length_drop]
 generalize m.outsW s (l.take n)=A at h1 h2 ⊢
 rw [h1]
 by_cases hn:n≤l.length
 ·rw [List.take_append_of_le_length (by omega),List.take_of_length_le (by omega)]
 rw [List.length_eq_zero_iff.1 (show B.length=0 by omega),List.append_nil,List.take_of_length_le (by omega)]
theorem werr_tk {x:List Int} {i:Int} (h0:wErr x i=0) (n:Nat):wErr (x.take n) i=0:=by
 unfold wErr at h0 ⊢
 split at h0
 ·omega
 rename_i h1
 split at h0
 ·omega
 rename_i h2
 split at h0
 ·omega
 rename_i h3
 rw [if_neg h1,if_neg (by rw [List.length_take];omega),if_neg fun ⟨a,ha,hb⟩=>h3 ⟨a,List.mem_of_mem_take ha,hb⟩]
theorem hasP_pre {l p:List Int}:hasP l p=true↔p<+:l:=by
 unfold hasP
 rw [decide_eq_true_iff]
 exact comW_prefix
theorem ans_of (_hg:o.good) (hp:o.traces.Pairwise agrT) {t:Tr} (ht:t∈o.traces) {x:List Int} (hx:x<+:t.inn):o.known x=true∧o.ans x=t.out.take x.length:=by
 by_cases h0:x=[]
 ·have:=o.ans_nil h0
  exact ⟨this.2,by rw [this.1,h0];rfl⟩
 rcases find_cases o x with hn|⟨k,t',ht',hp',hn⟩
 ·exact absurd (hasP_pre.2 hx) (by rw [hn t ht];decide)
 obtain ⟨e1,e2⟩:=Ob.ans_some h0 ht' hp' hn
 refine ⟨e2,?_⟩
 rw [e1]
 have hm':=List.mem_of_getElem? ht'
 by_cases e:t'=t
 ·rw [e]
 have hag:agrT t' t:=by
  obtain ⟨i,hi,hie⟩:=List.getElem_of_mem hm'
  obtain ⟨j,hj,hje⟩:=List.getElem_of_mem ht
  have hij:i≠j:=fun hh=>e (by subst hh;rw [←hie,←hje])
  rw [List.pairwise_iff_getElem] at hp
  rcases Nat.lt_or_gt_of_ne hij with hlt|hlt
  ·have:=hp i j hi hj hlt;rwa [hie,hje] at this
  have:=hp j i hj hi hlt;rw [hie,hje] at this;exact agrT_symm this
 obtain ⟨y,hy⟩:=hasP_pre.1 hp'
 obtain ⟨z,hz⟩:=hx
 have hc:x.length≤comW t'.inn t.inn:=comW_ge (by rw [←hy];simp) (by rw [←hz];simp) (by rw [←hy,←hz];simp)
 apply List.ext_getElem?
 intro i
 rw [List.getElem?_take,List.getElem?_take]
 split
 ·exact hag i (by omega)
 rfl
theorem ref_bad (hin:h.m.inputs=o.inputs) (hg:o.good) (hp:o.traces.Pairwise agrT) {x:List Int} {er:Int} (hx:rfW h o=(x,true,er)):
    o.known x=true∧wErr x h.m.inputs=0∧o.ans x≠h.m.outsW h.m.start x:=by
 unfold rfW at hx
 rw [if_neg (by simp [hin])] at hx
 simp only [Prod.mk.injEq] at hx
 obtain ⟨h1,h2, -⟩:=hx
 cases hr:h.m.refW o.traces with
 |none=>rw [hr] at h2;simp at h2
 |some y=>
  rw [hr] at h1
  have h1:y=x:=h1
  subst h1
  have hm:y∈h.m.refL o.traces:=by
   unfold Mach.refW at hr
   have hne:h.m.refL o.traces≠[]:=fun e=>by rw [e] at hr;simp [lstW_nil] at hr
   obtain ⟨z,hz,hz2⟩:=lstW_some hne
   rw [hr] at hz
   simp only [Option.some.injEq] at hz
   rw [hz];exact hz2
  unfold Mach.refL at hm
  obtain ⟨t,ht,hy⟩:=List.mem_filterMap.1 hm
  rw [Mach.refT_dif] at hy
  cases hd:difN (h.m.outsW h.m.start t.inn) t.out with
  |none=>rw [hd] at hy;simp at hy
  |some i=>
   rw [hd] at hy
   simp only [Option.map_some,Option.some.injEq] at hy
   obtain ⟨k1,k2,k3⟩:=dif_lt hd
   obtain ⟨g1,g2⟩:=hg.2 t ht
   rw [Mach.outsW_len] at k1
   have hpre:y<+:t.inn:=by rw [←hy];exact List.take_prefix _ _
   obtain ⟨a1,a2⟩:=ans_of hg hp ht hpre
   refine ⟨a1,by rw [←hy,hin];exact werr_tk g1 _,?_⟩
   rw [a2,←hy,outs_tk,List.length_take,Nat.min_eq_left (by omega)]
   intro e
   have e1:(t.out.take (i+1))[i]? =((h.m.outsW h.m.start t.inn).take (i+1))[i]? :=by rw [e]
   rw [List.getElem?_take,List.getElem?_take,if_pos (by omega),if_pos (by omega)] at e1
   have hl1:i<(h.m.outsW h.m.start t.inn).length:=by rw [Mach.outsW_len];exact k1
   have f1:(h.m.outsW h.m.start t.inn)[i]? =some ((h.m.outsW h.m.start t.inn)[i]):=List.getElem?_eq_getElem hl1
   have f2:t.out[i]? =some (t.out[i]):=List.getElem?_eq_getElem k2
   have:=comW_ne (a:=h.m.outsW h.m.start t.inn) (b:=t.out) (x:=(h.m.outsW h.m.start t.inn)[i]) (y:=t.out[i]) (by rw [k3];exact f1) (by rw [k3];exact f2)
   rw [f1,f2] at e1
   simp only [Option.some.injEq] at e1
   exact this e1.symm
theorem pass_all (hin:h.m.inputs=o.inputs) (hi:1≤h.m.inputs∧h.m.inputs≤64) (hg:o.good) (hp:o.traces.Pairwise agrT) {er:Int} {x:List Int} (hx:rfW h o=(x,false,er)) {v:List Int} (hv:o.known v=true):
    wErr v h.m.inputs=0∧o.ans v=h.m.outsW h.m.start v:=by
 unfold rfW at hx
 rw [if_neg (by simp [hin])] at hx
 simp only [Prod.mk.injEq] at hx
 obtain ⟨-,h2, -⟩:=hx
 have hnone:h.m.refW o.traces=none:=by
  cases hr:h.m.refW o.traces with
  |none=>rfl
  |some y=>rw [hr] at h2;simp at h2
 have hnil:=lstW_none hnone
 by_cases h0:v=[]
 ·rw [(o.ans_nil h0).1,h0]
  exact ⟨wErr_0 (by omega) (by simp) (by simp),rfl⟩
 rcases find_cases o v with hn|⟨k,t,ht,hp',hn⟩
 ·rw [(Ob.ans_none h0 hn).2] at hv;cases hv
 have hm:=List.mem_of_getElem? ht
 have hpre:=hasP_pre.1 hp'
 obtain ⟨z,hz⟩:=hpre
 have hvt:v=t.inn.take v.length:=by rw [←hz];simp
 obtain ⟨g1,g2⟩:=hg.2 t hm
 have hrt:h.m.refT t=none:=by
  have:=(List.filterMap_eq_nil_iff.1 hnil) t hm
  exact this
 rw [Mach.refT_dif] at hrt
 have hd:difN (h.m.outsW h.m.start t.inn) t.out=none:=by
  cases hd:difN (h.m.outsW h.m.start t.inn) t.out with
  |none=>rfl
  |some i=>rw [hd] at hrt;simp at hrt
 have hl:=comW_le (h.m.outsW h.m.start t.inn) t.out
 have hle:=Mach.outsW_len (m:=h.m) t.inn h.m.start
 have hc:t.inn.length≤comW (h.m.outsW h.m.start t.inn) t.out:=by
  unfold difN at hd
  split at hd
  ·simp at hd
  omega
 have he:=comT_take hc
 rw [List.take_of_length_le (by omega),List.take_of_length_le (by omega)] at he
 obtain ⟨-,a2⟩:=ans_of hg hp hm ⟨z,hz⟩
 refine ⟨by rw [hvt,hin];exact werr_tk g1 _,?_⟩
 rw [a2,←he]
 conv=>rhs;rw [hvt]
 rw [outs_tk]
theorem known_all {l:List (List Int)} (h0:(maxW (openW o l)).length=0):∀v∈l,o.known v=true:=fun v hv=>by
 cases hk:o.known v with
 |true=>rfl
 |false=>
  have hm:v∈openW o l:=by unfold openW;exact List.mem_filter.2 ⟨hv,by simp [hk]⟩
  obtain ⟨w,hw, -⟩:=maxW_above hm
  rw [List.length_eq_zero_iff.1 h0] at hw
  simp at hw
end
end Go.Proofs.YtjagagpcjpcjjaaGreat
namespace Go.Proofs.YtjagagpcjpcjjaaGreat
open Go.RowKit
section
variable {h:Hy} {o:Ob} {l L:List (List Int)} {x:List Int} {dn:Bool} {er:Int}
def AnsQ (h:Hy) (o:Ob) (v:List Int):Prop:=o.known v=true∧wErr v h.m.inputs=0∧o.ans v=h.m.outsW h.m.start v
def pasA (h:Hy) (o:Ob) (x:List Int):Prop:=o.known x=true∧wErr x h.m.inputs=0∧o.ans x≠h.m.outsW h.m.start x
theorem pas_cases (hin:h.m.inputs=o.inputs) (hi:1≤h.m.inputs∧h.m.inputs≤64) (hg:o.good) (hp:o.traces.Pairwise agrT) (hx:tnW h o l=(L,x,dn,er)):
    (L=[]∧dn=false∧er=0∧Hid (pasA h o x))∨(L=[]∧x=[]∧dn=true∧er=0∧Hid (∀v∈l,AnsQ h o v))∨(Hid (0<L.length)∧x=[]∧dn=false∧er=0):=by
 have h3:(rfW h o).2.2=0:=by unfold rfW;rw [if_neg (by simp [hin])]
 unfold tnW at hx
 rw [if_neg (by simp [h3])] at hx
 by_cases h2:(rfW h o).2.1=true
 ·rw [if_pos h2] at hx
  simp only [Prod.mk.injEq] at hx
  obtain ⟨rfl,rfl,rfl,rfl⟩:=hx
  exact .inl ⟨rfl,rfl,rfl,ref_bad hin hg hp (x:=(rfW h o).1) (er:=0) (Prod.ext rfl (Prod.ext h2 h3))⟩
 rw [if_neg h2] at hx
 have h2:(rfW h o).2.1=false:=by simpa using h2
 simp only [Prod.mk.injEq] at hx
 obtain ⟨rfl,rfl,rfl,rfl⟩:=hx
 by_cases h0:(maxW (l.filter fun v=> !o.known v)).length=0
 ·refine .inr (.inl ⟨List.length_eq_zero_iff.1 h0,rfl,by simp [h0],rfl,fun v hv=> ?_⟩)
  have hk:=known_all (o:=o) (l:=l) h0 v hv
  exact ⟨hk,pass_all hin hi hg hp (x:=(rfW h o).1) (er:=0) (Prod.ext rfl (Prod.ext h2 h3)) hk⟩
 exact .inr (.inr ⟨by show 0<_;omega,rfl,by simp [h0],rfl⟩)
end
section
variable {M M' M'':Nat→Prop} {w:World} {an ao ac a b:Option Addr} {cn co cc c d:Nat} {h:Hy} {o:Ob} {l:List (List Int)}
theorem passLaw34_any (hh:Hp M w an cn ao co ac cc h) (ho:Os M' w a c o) (hl:Sl M'' w b d l):Calls Tryz.prog 5 #[hyV h an cn ao co ac cc,obV o a c,.slice b l.length d] w fun e w'=>e= .returned (.bool true)∧Below w.heap.size w w':=by
 obtain ⟨hx0,hy0,hm0,ho0,hB0,hz0⟩:=rf_start hh ho
 have hh0:=hh.below hB0
 have hl0:=hl.below hB0
 have l1:=hh.m.next.le
 have l2:=hh.m.out.le
 have l3:=hh.acc.le
 have l4:=ho.traces.le
 have l5:=hl.le
 clear hh ho hl
 go_enter Tryz.func5,Tryz.ntmps5
 go_upto_region 1 with (fail)
 generalize (w.alloc (hyO h an cn ao co ac cc)).alloc (obO o a c)=w0 at*
 have HS:Hid (∀w',Below w0.heap.size w0 w'→H5 w' w.heap.size an cn ao co ac cc h∧O2 w' (w.heap.size+1) a c o∧Hp M w' an cn ao co ac cc h∧Os (fun k=>w.heap.size+2≤k) w' a c o∧Sl M'' w' b d l∧Below w.heap.size w w'):=fun w' hb=>
  ⟨hx0.below hb (by omega),hy0.below hb (by omega),hh0.below hb,ho0.below hb,hl0.below hb,hB0.trans (hb.mono (by omega))⟩
 have hb0:=Below.refl w0.heap.size w0
 clear hx0 hy0 hm0 ho0 hB0 hz0 hh0 hl0
 have HG0:=gr22_any (HS.out _ hb0).2.2.1
 obtain ⟨v1,hv1⟩:∃v,v=gr22 h:=⟨_,rfl⟩
 rw [←hv1] at HG0
 have HG:=Lib.hid HG0
 obtain ⟨⟨⟨d0,d1,d2,d3⟩,d4⟩, -⟩:=HS.out _ hb0
 clear HG0 hv1
 go_wp2_with fail
 refine (HG.out).mono ?_
 rintro e w1 ⟨rfl,hb1⟩
 have hb1:=hb0.trans (hb1.mono hb0.size)
 clear HG d0 d1 d2 d3 d4 hb0
 cases v1 with
 |true=>
  go_wp2_with fail
  refine (awake34_any (w:=w1)).mono ?_
  rintro e w9 ⟨rfl,hb9⟩
  have hBf:=(HS.out _ (hb1.trans (hb9.mono hb1.size))).2.2.2.2.2
  go_wp2
  go_ret
  exact ⟨rfl,hBf⟩
 |false=>
 have HG0:=gr16_any (HS.out _ hb1).2.2.2.1
 obtain ⟨v2,hv2⟩:∃v,v=gr16 o:=⟨_,rfl⟩
 rw [←hv2] at HG0
 have HG:=Lib.hid HG0
 obtain ⟨-,⟨o0,o1⟩, -⟩:=HS.out _ hb1
 clear HG0 hv2
 go_wp2_with fail
 refine (HG.out).mono ?_
 rintro e w2 ⟨rfl,hb2⟩
 have hb2:=hb1.trans (hb2.mono hb1.size)
 clear HG o0 o1 hb1
 cases v2 with
 |true=>
  go_wp2_with fail
  refine (awake34_any (w:=w2)).mono ?_
  rintro e w9 ⟨rfl,hb9⟩
  have hBf:=(HS.out _ (hb2.trans (hb9.mono hb2.size))).2.2.2.2.2
  go_wp2
  go_ret
  exact ⟨rfl,hBf⟩
 |false=>
 have HG0:=lg06_any (HS.out _ hb2).2.2.2.2.1
 obtain ⟨v3,hv3⟩:∃v,v=lg06 l:=⟨_,rfl⟩
 rw [←hv3] at HG0
 have HG:=Lib.hid HG0
 have HV3:=Lib.hid hv3
 clear HG0 hv3
 go_wp2_with fail
 refine (HG.out).mono ?_
 rintro e w3 ⟨rfl,hw3⟩
 obtain rfl:w2=w3:=hw3.symm
 clear HG
 cases v3 with
 |true=>
  go_wp2_with fail
  refine (awake34_any (w:=w2)).mono ?_
  rintro e w9 ⟨rfl,hb9⟩
  have hBf:=(HS.out _ (hb2.trans (hb9.mono hb2.size))).2.2.2.2.2
  go_wp2
  go_ret
  exact ⟨rfl,hBf⟩
 |false=>
 have hsm:Hid (Small9 l):=by
  have h1:=lg06_no HV3.out.symm
  exact ⟨by omega,fun r hr=>by have:=h1.2 r hr;omega⟩
 have HG:=Lib.hid (hvalid_any (HS.out _ hb2).2.2.1)
 obtain ⟨⟨⟨d0,d1,d2,d3⟩,d4⟩, -⟩:=HS.out _ hb2
 by_cases hhe:h.err=0
 rotate_left
 ·have hheb:(h.err !=0)=true:=by simp [hhe]
  go_wp2_with fail
  refine (HG.out).mono ?_
  rintro e w4 ⟨rfl,hb4⟩
  have hb4:=hb2.trans (hb4.mono hb2.size)
  clear HG d0 d1 d2 d3 d4 hb2
  go_wp2_with fail
  refine (awake34_any (w:=w4)).mono ?_
  rintro e w9 ⟨rfl,hb9⟩
  have hBf:=(HS.out _ (hb4.trans (hb9.mono hb4.size))).2.2.2.2.2
  go_wp2
  go_ret
  exact ⟨rfl,hBf⟩
 have hheb:(h.err !=0)=false:=by simp [hhe]
 have hHe:=Lib.hid hhe
 clear hhe
 go_wp2_with fail
 refine (HG.out).mono ?_
 rintro e w4 ⟨rfl,hb4⟩
 have hb4:=hb2.trans (hb4.mono hb2.size)
 clear HG d0 d1 d2 d3 d4 hb2
 have HG:=Lib.hid (ovalid_any (HS.out _ hb4).2.2.2.1)
 obtain ⟨-,⟨o0,o1⟩, -⟩:=HS.out _ hb4
 go_wp2_with fail
 refine (HG.out).mono ?_
 rintro e w5 ⟨eo,rfl,hVl,hb5⟩
 have hb5:=hb4.trans (hb5.mono hb4.size)
 clear HG o0 o1 hb4
 by_cases hoe:eo=0
 rotate_left
 ·have hoeb:(eo !=0)=true:=by simp [hoe]
  go_wp2_with fail
  refine (awake34_any (w:=w5)).mono ?_
  rintro e w9 ⟨rfl,hb9⟩
  have hBf:=(HS.out _ (hb5.trans (hb9.mono hb5.size))).2.2.2.2.2
  go_wp2
  go_ret
  exact ⟨rfl,hBf⟩
 subst hoe
 have hg:Hid o.good:=(hVl.out rfl).1
 have hpw:Hid (o.traces.Pairwise agrT):=(hVl.out rfl).2
 have ok:Hid h.m.Ok:=(Hy.ok_of hHe.out).m
 obtain ⟨⟨⟨d0,d1,d2,d3⟩,d4⟩,⟨o0,o1⟩, -⟩:=HS.out _ hb5
 by_cases hin:h.m.inputs=o.inputs
 rotate_left
 ·have hinb:(h.m.inputs !=o.inputs)=true:=by simp [hin]
  go_wp2_with fail
  refine (awake34_any (w:=w5)).mono ?_
  rintro e w9 ⟨rfl,hb9⟩
  have hBf:=(HS.out _ (hb5.trans (hb9.mono hb5.size))).2.2.2.2.2
  go_wp2
  go_ret
  exact ⟨rfl,hBf⟩
 have hinb:(h.m.inputs !=o.inputs)=false:=by simp [hin]
 have hIn:=Lib.hid hin
 clear hin hVl
 have HT:=Lib.hid (tnext_any (HS.out _ hb5).2.2.1 (HS.out _ hb5).2.2.2.1 (HS.out _ hb5).2.2.2.2.1 ok hg hsm)
 have hlens:Hid o.lens:=Ob.good_lens hg.out
 go_wp2_with fail
 refine (HT.out).mono ?_
 rintro e u1 ⟨aL,cL,L,aX,cX,x,dn,er,rfl,hR1,hsL,hsX,hu1⟩
 have hu1:=hb5.trans (hu1.mono hb5.size)
 have hSX:=Lib.hid (hsX.anti (M':=fun _=>False) fun _ _ h=>h.elim)
 have q1:=hsL.le
 have q2:=hsX.le
 clear HT d0 d1 d2 d3 d4 o0 o1 hsL hsX hb5
 have HC:=pas_cases hIn.out ⟨ok.out.i0,ok.out.i1⟩ hg.out hpw.out hR1.out
 clear hR1
 rcases HC with ⟨rfl,rfl,rfl,hA⟩|⟨rfl,rfl,rfl,rfl,hA⟩|⟨hLp,rfl,rfl,rfl⟩
 rotate_left
 ·have HM0:=HS.out _ hu1
  go_wp2
  go_loopw [15] (fun i wr=>∃k:Nat,k≤l.length∧i= .int .i64 k∧Below w0.heap.size w0 wr) (fun i _=>l.length-(intOf i).toNat)
  case atStart=>exact ⟨0,by omega,rfl,hu1⟩
  case round=>
   clear hu1 HM0 hSX
   obtain ⟨k,hk,rfl,hB⟩:=hrel
   obtain ⟨w2,rfl⟩:∃w2:World,w2=wr:=⟨_,rfl⟩
   have hz2:=hB.size
   by_cases hlt:k<l.length
   ·have hSo:=HS.out _ hB
    obtain ⟨bL,oL,ax,v,cx,he1,hvc,hv,hvs⟩:=hSo.2.2.2.2.1.at_row hlt
    have hvl:=hvs.le
    have hq:Hid (AnsQ h o v):=hA.out v (List.mem_of_getElem? hv.out)
    have HAk:Hid (∀w',Below w2.heap.size w2 w'→Calls Tryz.prog 25 #[obV o a c,.slice ax v.length cx] w' fun e w''=>∃(a':Option Addr) (c':Nat) (l':List Int),e= .returned (.tuple #[.slice a' l'.length c',.bool true])∧Hid (l'=o.ans v)∧Sl (fun k=>k<w'.heap.size) w'' a' c' l'∧Below w'.heap.size w' w''):=fun w' hb=>by
     have h1:=ans_any (hSo.2.2.2.1.below hb) (hvs.below hb) hlens
     rw [hq.out.1] at h1
     exact h1
    have HRk:Hid (∀w',Below w2.heap.size w2 w'→Calls Tryz.prog 26 #[maV h.m an cn ao co,.slice ax v.length cx] w' fun e w''=>∃(a':Option Addr) (c':Nat) (l':List Int),e= .returned (.tuple #[.slice a' l'.length c',.int .i64 0])∧Hid (l'=o.ans v)∧Sl (fun k=>k<w'.heap.size) w'' a' c' l'∧Below w'.heap.size w' w''):=fun w' hb=>by
     have h1:=mrun_any (hSo.2.2.1.m.below hb) (hvs.below hb)
     rw [(Mach.run_0 ok.out hq.out.2.1).1,(Mach.run_0 ok.out hq.out.2.1).2,←hq.out.2.2] at h1
     exact h1
    have hS0:=And.intro hSo.2.1 hvc
    subst he1
    clear hvs hSo hvc hv hq hA
    go_upto_region 13 with (fail)
    refine wp_region_L (fun w'=>O2 w' (w.heap.size+1) a c o∧w'.cell? ⟨bL,oL+k,none⟩=some (.slice ax v.length cx)) [0,1,2,3,4,6,7,8,9,10] (by kernel_rfl) ?_
    have hbd:=(Below.refl w2.heap.size w2).drew
    have hS1:O2 w2.drew (w.heap.size+1) a c o∧w2.drew.cell? ⟨bL,oL+k,none⟩=some (.slice ax v.length cx):=hS0
    have HA:=Lib.hid (HAk.out _ hbd)
    have HRk1:Hid (∀w',Below w2.drew.heap.size w2.drew w'→_):=fun w' hb=>HRk.out w' (hbd.trans (hb.mono hbd.size))
    have hB1:=hB.trans (hbd.mono hB.size)
    clear hS0 hbd hB HAk HRk hz2
    generalize w2.drew=w3 at*
    refine skL_on [0,1,2,3,4] ?_
    repeat (refine skL_take (v:= ?_) rfl ?_ ?_;rotate_left;(focus (intro w' hSw;(try dsimp only at hSw);go_simp;try with_reducible rfl));try simp only [Act.put,List.setIfInBounds_toArray,List.set_cons_zero,List.set_cons_succ])
    refine skL_off ?_
    refine wpAnyL_one (i:=5) (by kernel_rfl) rfl rfl (fun K hK=> ?_)
    go_simp
    refine (HA.out).mono ?_
    rintro e w4 ⟨a3,c3,y,rfl,hy,hys,hb4⟩
    have hyl:=hys.le
    have hB4:=hB1.trans (hb4.mono hB1.size)
    have hS4:O2 w4 (w.heap.size+1) a c o∧w4.cell? ⟨bL,oL+k,none⟩=some (.slice ax v.length cx):=And.intro (HS.out _ hB4).2.1 ((hb4.cell (p:=⟨bL,oL+k,none⟩) (lt_of_cell hS1.2)).trans hS1.2)
    refine hK _ _ (fun _=>hS4) ?_
    have hSY:=Lib.hid (hys.anti (M':=fun _=>False) fun _ _ h=>h.elim)
    have HR4:Hid (∀w',Below w4.heap.size w4 w'→_):=fun w' hb=>HRk1.out w' (hb4.trans (hb.mono hb4.size))
    clear hK K HA hS1 hys hB1 HRk1 hb4
    refine skL_on [6,7,8,9,10] ?_
    repeat (refine skL_take (v:= ?_) rfl ?_ ?_;rotate_left;(focus (intro w' hSw;(try dsimp only at hSw);go_simp;try with_reducible rfl));try simp only [Act.put,List.setIfInBounds_toArray,List.set_cons_zero,List.set_cons_succ])
    refine skL_off ?_
    refine wpAnyL_done (by kernel_rfl) ?_ _
    have hS0:=And.intro (HS.out _ hB4).1 hS4.2
    clear hS4
    go_upto_region 14 with (fail)
    refine wp_region_L (fun w'=>H5 w' w.heap.size an cn ao co ac cc h∧w'.cell? ⟨bL,oL+k,none⟩=some (.slice ax v.length cx)) [0,1,2,3,4,5,7,8,9,10,11] (by kernel_rfl) ?_
    have hbd:=(Below.refl w4.heap.size w4).drew
    have hS1:H5 w4.drew w.heap.size an cn ao co ac cc h∧w4.drew.cell? ⟨bL,oL+k,none⟩=some (.slice ax v.length cx):=hS0
    have HR:=Lib.hid (HR4.out _ hbd)
    have hB5:=hB4.trans (hbd.mono hB4.size)
    have hSY5:=Lib.hid (hSY.out.below hbd)
    clear hS0 hbd hB4 HR4 hSY
    generalize w4.drew=w5 at*
    refine skL_on [0,1,2,3,4,5] ?_
    repeat (refine skL_take (v:= ?_) rfl ?_ ?_;rotate_left;(focus (intro w' hSw;(try dsimp only at hSw);go_simp;try with_reducible rfl));try simp only [Act.put,List.setIfInBounds_toArray,List.set_cons_zero,List.set_cons_succ])
    refine skL_off ?_
    refine wpAnyL_one (i:=6) (by kernel_rfl) rfl rfl (fun K hK=> ?_)
    go_simp
    refine (HR.out).mono ?_
    rintro e w6 ⟨a6,c6,z,rfl,hz,hzs,hb6⟩
    have hzl:=hzs.le
    have hB6:=hB5.trans (hb6.mono hB5.size)
    have hS6:H5 w6 w.heap.size an cn ao co ac cc h∧w6.cell? ⟨bL,oL+k,none⟩=some (.slice ax v.length cx):=And.intro (HS.out _ hB6).1 ((hb6.cell (p:=⟨bL,oL+k,none⟩) (lt_of_cell hS1.2)).trans hS1.2)
    refine hK _ _ (fun _=>hS6) ?_
    have hSY6:=Lib.hid (hSY5.out.below hb6)
    have hSZ:=Lib.hid (hzs.anti (M':=fun _=>False) fun _ _ h=>h.elim)
    clear hK K HR hS1 hzs hB5 hb6 hSY5
    refine skL_on [7,8,9,10,11] ?_
    repeat (refine skL_take (v:= ?_) rfl ?_ ?_;rotate_left;(focus (intro w' hSw;(try dsimp only at hSw);go_simp;try with_reducible rfl));try simp only [Act.put,List.setIfInBounds_toArray,List.set_cons_zero,List.set_cons_succ])
    refine skL_off ?_
    refine wpAnyL_done (by kernel_rfl) ?_ _
    clear hS6
    have HI0:=ints_any hSY6.out hSZ.out
    rw [decide_eq_true (show y=z by rw [hy.out,hz.out])] at HI0
    have HI:=Lib.hid HI0
    clear HI0 hy hz
    go_wp2_with fail
    refine (HI.out).mono ?_
    rintro e w7 ⟨rfl,n7,rfl⟩
    have hB7:=bl_drewN hB6 n7
    generalize w6.drewN n7=w7 at*
    clear HI hB6
    go_wp2
    go_roundw
    case rel=>exact ⟨k+1,by omega,by go_num,hB7⟩
    case measure=>simp [intOf];omega
   go_wp2_with fail
   refine (awake34_any (w:=w2)).mono ?_
   rintro e w9 ⟨rfl,hb9⟩
   have hBf:=(HS.out _ (hB.trans (hb9.mono hB.size))).2.2.2.2.2
   go_wp2
   go_ret
   exact ⟨rfl,hBf⟩
 ·have hLp':(0:Int)<(L.length:Int):=by have:=hLp.out;omega
  have HA:=Lib.hid (ans_any (HS.out _ hu1).2.2.2.1 hSX.out hlens)
  obtain ⟨-,⟨o0,o1⟩, -⟩:=HS.out _ hu1
  go_wp2_with fail
  refine (HA.out).mono ?_
  rintro e u2 ⟨a2,c2,y,rfl, -,hys,hu2⟩
  have hSX2:=Lib.hid (hSX.out.below hu2)
  have hu2:=hu1.trans (hu2.mono hu1.size)
  have q3:=hys.le
  clear HA o0 o1 hys hu1
  have HR:=Lib.hid (mrun_any (HS.out _ hu2).2.2.1.m hSX2.out)
  obtain ⟨⟨⟨d0,d1,d2,d3⟩,d4⟩, -⟩:=HS.out _ hu2
  go_wp2_with fail
  refine (HR.out).mono ?_
  rintro e w3 ⟨a3,c3,z,rfl, -,hzs,hb3⟩
  have hb3:=hu2.trans (hb3.mono hu2.size)
  have q4:=hzs.le
  clear HR d0 d1 d2 d3 d4 hzs hu2
  go_wp2_with fail
  refine (awake34_any (w:=w3)).mono ?_
  rintro e w9 ⟨rfl,hb9⟩
  have hBf:=(HS.out _ (hb3.trans (hb9.mono hb3.size))).2.2.2.2.2
  go_wp2
  go_ret
  exact ⟨rfl,hBf⟩
 have HA0:=ans_any (HS.out _ hu1).2.2.2.1 hSX.out hlens
 rw [hA.out.1] at HA0
 have HA:=Lib.hid HA0
 obtain ⟨-,⟨o0,o1⟩, -⟩:=HS.out _ hu1
 clear HA0
 go_wp2_with fail
 refine (HA.out).mono ?_
 rintro e u2 ⟨a2,c2,y,rfl,hy,hys,hu2⟩
 have hSX2:=Lib.hid (hSX.out.below hu2)
 have hu2:=hu1.trans (hu2.mono hu1.size)
 have hSY:=Lib.hid (hys.anti (M':=fun _=>False) fun _ _ h=>h.elim)
 have q3:=hys.le
 clear HA o0 o1 hys hu1
 have HR0:=mrun_any (HS.out _ hu2).2.2.1.m hSX2.out
 rw [(Mach.run_0 ok.out hA.out.2.1).1] at HR0
 have HR:=Lib.hid HR0
 obtain ⟨⟨⟨d0,d1,d2,d3⟩,d4⟩, -⟩:=HS.out _ hu2
 clear HR0
 go_wp2_with fail
 refine (HR.out).mono ?_
 rintro e u3 ⟨a3,c3,z,rfl,hz,hzs,hb3⟩
 have hSY3:=Lib.hid (hSY.out.below hb3)
 have hu3:=hu2.trans (hb3.mono hu2.size)
 have hSZ:=Lib.hid (hzs.anti (M':=fun _=>False) fun _ _ h=>h.elim)
 have q4:=hzs.le
 clear HR d0 d1 d2 d3 d4 hzs hb3 hu2 hSY
 have HI0:=ints_any hSY3.out hSZ.out
 have hyz:Hid (y≠z):=by unfold Hid;rw [hy.out,hz.out,(Mach.run_0 ok.out hA.out.2.1).2];exact hA.out.2.2
 rw [decide_eq_false hyz.out] at HI0
 have HI:=Lib.hid HI0
 clear HI0
 go_wp2_with fail
 refine (HI.out).mono ?_
 rintro e w4 ⟨rfl,n4,rfl⟩
 have hb4:=bl_drewN hu3 n4
 generalize u3.drewN n4=w4 at*
 clear HI hu3
 go_wp2_with fail
 refine (awake34_any (w:=w4)).mono ?_
 rintro e w9 ⟨rfl,hb9⟩
 have hBf:=(HS.out _ (hb4.trans (hb9.mono hb4.size))).2.2.2.2.2
 go_wp2
 go_ret
 exact ⟨rfl,hBf⟩
end
end Go.Proofs.YtjagagpcjpcjjaaGreat
