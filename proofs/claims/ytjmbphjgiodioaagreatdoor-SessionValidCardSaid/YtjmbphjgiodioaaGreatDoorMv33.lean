/- Several texts, one behind the other. Conditions: as each of them says. -/
import Derived.Test.YtjmbphjgiodioaaGreatDoorMv29
import Derived.Test.YtjmbphjgiodioaaGreatDoorMv19
import Derived.Test.YtjmbphjgiodioaaGreatDoorMv7
import Derived.Test.YtjmbphjgiodioaaGreatDoorMv2
import Derived.IntWalk
set_option maxRecDepth 100000
set_option maxHeartbeats 32000000
namespace Go.Proofs.YtjmbphjgiodioaaGreatDoor
open Go.RowKit
def LoW (l:List (List Int)) (w:List Int) (p:Nat):Prop:=∀(i:Nat) v,i<p→l[i]? =some v→cmpW v w<0
def HiW (l:List (List Int)) (w:List Int) (p:Nat):Prop:=∀(i:Nat) v,p≤i→l[i]? =some v→¬cmpW v w<0
def PlW (l:List (List Int)) (w:List Int) (p:Nat):Prop:=p≤l.length∧LoW l w p∧HiW l w p
theorem ins_at:∀{l:List (List Int)} {w:List Int} {p:Nat},PlW l w p→(l[p]? =some w→ins cmpW w l=l)∧(l[p]?≠some w→ins cmpW w l=l.take p++w::l.drop p)
 |[],w,p,h=>by
  have hp:p=0:=by have:=h.1;simp at this;exact this
  subst hp
  simp [ins]
 |v::l,w,0,h=>by
  have hn:=h.2.2 0 v (Nat.le_refl _) rfl
  unfold ins
  rw [if_neg hn]
  constructor
  ·intro e
   obtain rfl:v=w:=by simpa using e
   rw [if_pos (cmp_same v)]
  intro e
  rw [if_neg (fun h0=>e (by rw [cmp_zero h0];rfl))]
  rfl
 |v::l,w,p+1,h=>by
  have hl:=h.2.1 0 v (by omega) rfl
  have ih:=ins_at (l:=l) (w:=w) (p:=p) ⟨by have:=h.1;simp at this;omega,fun i x hi hx=>h.2.1 (i+1) x (by omega) (by simpa using hx),fun i x hi hx=>h.2.2 (i+1) x (by omega) (by simpa using hx)⟩
  unfold ins
  rw [if_pos hl]
  constructor
  ·intro e;rw [ih.1 (by simpa using e)]
  intro e;rw [ih.2 (by simpa using e)];rfl
theorem pl_low {l:List (List Int)} {w:List Int} {k:Nat} {v:List Int} (h:Asc cmpW l) (hk:l[k]? =some v) (hc:cmpW v w<0):LoW l w (k+1):=by
 intro i x hi hx
 by_cases e:i=k
 ·subst e;rw [hk] at hx;have ex:v=x:=by simpa using hx
  rw [←ex]
  exact hc
 have hkl : k < l.length := by
  by_cases e:k<l.length
  ·exact e
  rw [List.getElem?_eq_none (by omega)] at hk;simp at hk
 have:=List.pairwise_iff_getElem.1 h i k (by omega) hkl (by omega)
 rw [List.getElem?_eq_getElem (by omega)] at hx hk
 have ex:l[i]=x:=by simpa using hx
 have ev:l[k]=v:=by simpa using hk
 rw [ex,ev] at this
 exact tot_cmp.lt_trans this hc
theorem pl_high {l:List (List Int)} {w:List Int} {k:Nat} {v:List Int} (h:Asc cmpW l) (hk:l[k]? =some v) (hc:¬cmpW v w<0):HiW l w k:=by
 intro i x hi hx hx2
 by_cases e:i=k
 ·subst e;rw [hk] at hx;have ex:v=x:=by simpa using hx
  rw [←ex] at hx2
  exact hc hx2
 have hil : i < l.length := by
  by_cases e:i<l.length
  ·exact e
  rw [List.getElem?_eq_none (by omega)] at hx;simp at hx
 have:=List.pairwise_iff_getElem.1 h k i (by omega) hil (by omega)
 rw [List.getElem?_eq_getElem (by omega)] at hx hk
 have ex:l[i]=x:=by simpa using hx
 have ev:l[k]=v:=by simpa using hk
 rw [ex,ev] at this
 exact hc (tot_cmp.lt_trans this hx2)
section
variable {M M':Nat→Prop} {w:World} {a b:Option Addr} {c d:Nat} {l:List (List Int)} {x:List Int}
theorem placeR_any (hs:Sl M w a c l) (hx:Sl M' w b d x) (hA:Hid (Asc cmpW l)) (hl:l.length<1000000000):
    Calls Tryz.prog 300 #[.slice a l.length c,.slice b x.length d] w fun e w'=>∃p:Nat,e= .returned (.int .i64 p)∧Hid (PlW l x p)∧Hid (∃n,w'=w.drewN n):=by
 have HS:=Lib.hid (hs.anti (M':=fun _=>False) fun _ _ h=>h.elim)
 have HX:=Lib.hid (hx.anti (M':=fun _=>False) fun _ _ h=>h.elim)
 have hD0:Hid (∃n,w=w.drewN n):=⟨0,rfl⟩
 clear hs hx
 go_enter Tryz.func300,Tryz.ntmps300
 go_wp2
 go_loopw [5,6] (fun u v wr=>∃lo hi:Nat,lo≤hi∧hi≤l.length∧u= .int .i64 lo∧v= .int .i64 hi∧Hid (LoW l x lo)∧Hid (HiW l x hi)∧Hid (∃n,wr=w.drewN n)) (fun u v _=>(intOf v).toNat-(intOf u).toNat)
 case atStart=>exact ⟨0,l.length,by omega,by omega,rfl,rfl,fun i v hi=>by omega,fun i v hi hv=>by rw [List.getElem?_eq_none hi] at hv;simp at hv,hD0⟩
 case round=>
  clear hD0
  obtain ⟨lo,hi,hlh,hhl,rfl,rfl,hL,hH,hD⟩:=hrel
  obtain ⟨w1,rfl⟩:∃w1:World,w1=wr:=⟨_,rfl⟩
  by_cases hlt:lo<hi
  ·have hq:((lo:Int)+(hi:Int)).tdiv 2=(((lo+hi)/2:Nat):Int):=by rw [Int.tdiv_eq_ediv_of_nonneg (by omega)];omega
   obtain ⟨k,hk⟩:∃k,k=(lo+hi)/2:=⟨_,rfl⟩
   have hk1:lo≤k:=by omega
   have hk2:k<hi:=by omega
   have hkl:k<l.length:=by omega
   rw [←hk] at hq
   have hb1:=blw3 hD w.heap.size
   obtain ⟨b1,o1,ay,y,cy,rfl,hcy,hy,hsy⟩:=(HS.out.below hb1).at_row hkl
   have HC:=Lib.hid (cmpR_any hsy ((HX.out.below hb1).anti (M':=fun _=>False) fun _ _ h=>h))
   clear hk hsy hb1
   by_cases hc:cmpW y x<0
   ·have hL2:=Lib.hid (pl_low hA.out hy.out hc)
    go_wp2_with fail
    refine (HC.out).mono ?_
    rintro e w2 ⟨rfl,hD2⟩
    have hD3:Hid (∃n,w2=w.drewN n):=by
     obtain ⟨n1,rfl⟩:=hD.out
     obtain ⟨n2,rfl⟩:=hD2.out
     exact ⟨_,World.drewN_drewN _ _ _⟩
    clear HC hD hD2 hcy
    go_wp2
    go_roundw
    case rel=>exact ⟨k+1,hi,by omega,hhl,by go_num,rfl,hL2,hH,hD3⟩
    case measure=>simp [intOf];omega
   have hH2:=Lib.hid (pl_high hA.out hy.out hc)
   go_wp2_with fail
   refine (HC.out).mono ?_
   rintro e w2 ⟨rfl,hD2⟩
   have hD3:Hid (∃n,w2=w.drewN n):=by
    obtain ⟨n1,rfl⟩:=hD.out
    obtain ⟨n2,rfl⟩:=hD2.out
    exact ⟨_,World.drewN_drewN _ _ _⟩
   clear HC hD hD2 hcy
   go_wp2
   go_roundw
   case rel=>exact ⟨lo,k,by omega,by omega,rfl,rfl,hL,hH2,hD3⟩
   case measure=>simp [intOf];omega
  have hF:Hid (PlW l x lo):=⟨by omega,hL.out,fun i v hi=>hH.out i v (by omega)⟩
  go_wp2
  go_ret
  exact ⟨lo,rfl,hF,hD⟩
end
structure ShW (l R:List (List Int)) (i:Nat):Prop where
 len:R.length=l.length+1
 low:∀j,j≤i→R[j]? =(l++[[]])[j]?
 high:∀j,i<j→j≤l.length→R[j]? =l[j-1]?
theorem ShW.start {l:List (List Int)}:ShW l (l++[[]]) l.length:=⟨by simp,fun _ _=>rfl,fun j h1 h2=>by omega⟩
theorem ShW.step {l R:List (List Int)} {i:Nat} {r:List Int} (h:ShW l R i) (hi:0<i) (hil:i≤l.length) (hr:R[i-1]? =some r):ShW l (R.set i r) (i-1):=by
 refine ⟨by simpa using h.len,fun j hj=> ?_,fun j h1 h2=> ?_⟩
 ·rw [List.getElem?_set_ne (by omega)];exact h.low j (by omega)
 by_cases e:i=j
 ·subst e
  rw [List.getElem?_set_self (by have:=h.len;omega),←hr,h.low _ (by omega),List.getElem?_append_left (by omega)]
 rw [List.getElem?_set_ne e];exact h.high j (by omega) h2
theorem ShW.done {l R:List (List Int)} {p:Nat} (h:ShW l R p) (hp:p≤l.length) (x:List Int):R.set p x=l.take p++x::l.drop p:=by
 apply List.ext_getElem?
 intro j
 have hl:=h.len
 by_cases e:p=j
 ·subst e
  rw [List.getElem?_set_self (by omega),List.getElem?_append_right (by rw [List.length_take];omega),List.length_take,Nat.min_eq_left hp,Nat.sub_self]
  rfl
 rw [List.getElem?_set_ne e]
 by_cases hj:j<p
 ·rw [h.low j (by omega),List.getElem?_append_left (by omega),List.getElem?_append_left (by rw [List.length_take];omega),List.getElem?_take,if_pos hj]
 rw [List.getElem?_append_right (by rw [List.length_take];omega),List.length_take,Nat.min_eq_left hp]
 obtain ⟨q,hq⟩:∃q,j-p=q+1:=⟨j-p-1,by omega⟩
 rw [hq,List.getElem?_cons_succ,List.getElem?_drop]
 by_cases hjl:j≤l.length
 ·rw [h.high j (by omega) hjl];congr 1;omega
 rw [List.getElem?_eq_none (by omega),List.getElem?_eq_none (by omega)]
section
variable {M':Nat→Prop} {w:World} {n0 B:Nat} {a b:Option Addr} {c d:Nat} {l:List (List Int)} {x:List Int}
theorem withR_any (hO:Ox n0 B w 94 (.slice a l.length c) l) (hx:Sl (fun k=>n0≤k) w b d x) (hA:Hid (Asc cmpW l)) (hl:l.length<1000000000) (hxl:x.length<1000000000) (hB:B≤w.heap.size) (hn0:n0≤B):
    Calls Tryz.prog 198 #[.slice a l.length c,.slice b x.length d] w fun e w'=>∃(a':Option Addr) (c':Nat) (L:List (List Int)),e= .returned (.slice a' L.length c')∧Hid (L=ins cmpW x l)∧
     Ox n0 B w' 94 (.slice a' L.length c') L∧Below B w w':=by
 have hSl:=(hO.subM (M':=fun _=>False) fun _ _ h=>h.elim).toSl fun _ _ h=>h
 have HC:=Lib.hid (placeR_any hSl hx hA hl)
 clear hSl
 go_enter Tryz.func198,Tryz.ntmps198
 go_wp2_with fail
 refine (HC.out).mono ?_
 rintro e w1 ⟨p,rfl,hP,hD⟩
 have hbd:=blw3 hD w.heap.size
 have hO1:=Ox.later hO hbd
 have hx1:=hx.below hbd
 have hB1:=hbd.mono hB
 have hz1:B≤w1.heap.size:=Nat.le_trans hB hbd.size
 have hpl:=hP.out.1
 have hIn:=Lib.hid (ins_at hP.out)
 clear HC hO hx hD hbd
 have hcase:(p<l.length∧l[p]? =some x)∨(p<l.length∧l[p]?≠some x)∨¬p<l.length:=by
  by_cases h1:p<l.length
  ·by_cases h2:l[p]? =some x
   ·exact .inl ⟨h1,h2⟩
   exact .inr (.inl ⟨h1,h2⟩)
  exact .inr (.inr h1)
 rcases hcase with ⟨h1,h2⟩|hcase
 ·have hF:Hid (l=ins cmpW x l):=(hIn.out.1 h2).symm
  obtain ⟨g,rfl, -, -⟩:=ow_some hO1 (by omega)
  obtain ⟨ay,y,cy,hcy, -,hy,hsy⟩:=hO1.at_row rfl h1
  have hyx:y=x:=by have:=hy.out;rw [h2] at this;simpa using this.symm
  have HC:=same1_any (hsy.anti (M':=fun _=>False) fun _ _ h=>h.elim) (hx1.anti (M':=fun _=>False) fun _ _ h=>h.elim)
  rw [decide_eq_true hyx] at HC
  have HC:=Lib.hid HC
  clear h2 hyx hsy hx1
  go_wp2_with fail
  refine (HC.out).mono ?_
  rintro e w2 ⟨rfl,hD2⟩
  have hb2:=blw3 hD2 w1.heap.size
  have hO2:=Ox.later hO1 hb2
  have hB2:=hB1.trans (hb2.mono hz1)
  clear hO1 hb2 hD2
  go_wp2
  go_ret
  exact ⟨_,c,l,rfl,hF,hO2,hB2⟩
 -- the word is new
 have hF:Hid (ins cmpW x l=l.take p++x::l.drop p):=by
  refine hIn.out.2 ?_
  rcases hcase with h|h
  ·exact h.2
  rw [List.getElem?_eq_none (by omega)];simp
 rcases hcase with ⟨h1,h2⟩|h1
 ·obtain ⟨g0,rfl, -, -⟩:=ow_some hO1 (by omega)
  obtain ⟨ay,y,cy,hcy, -,hy,hsy⟩:=hO1.at_row rfl h1
  have hyx:¬y=x:=by intro e;rw [←e] at h2;exact h2 hy.out
  have HC:=same1_any (hsy.anti (M':=fun _=>False) fun _ _ h=>h.elim) (hx1.anti (M':=fun _=>False) fun _ _ h=>h.elim)
  rw [decide_eq_false hyx] at HC
  have HC:=Lib.hid HC
  clear h2 hyx hsy
  go_wp2_with fail
  refine (HC.out).mono ?_
  rintro e w2 ⟨rfl,hD2⟩
  have hb2:=blw3 hD2 w1.heap.size
  have hO2:=Ox.later hO1 hb2
  have hx2:=hx1.below hb2
  have hB2:=hB1.trans (hb2.mono hz1)
  have hz2:B≤w2.heap.size:=Nat.le_trans hz1 hb2.size
  clear hO1 hb2 hD2 hx1 hB1 hz1 hcy HC
  go_wp2_with (at_builtin;refine wpList_push_x (n0:=n0) (B:=B) (β:=Int) (r:=[]) (ar:=none) (cr:=0) rfl rfl Tryz.underlying27 info_ints rfl rfl (hO2.alloc _) (by simp [go_sem]) (Sl.nil _ _ _ (by unfold maxLen;omega)) (by omega) (by simp;omega) ?_)
  intro a3 c3 R0 w3 hR0 hO3 hbk hgr
  have hB3:=(hB2.alloc hz2 (.cells #[.slice none 0 0] 94)).grown hgr (by simp;omega) (fun k hk=>(hO2.lt k hk).1)
  have hx3:=(hx2.alloc (.cells #[.slice none 0 0] 94)).ext (Ext.grownBy hgr fun k hk=>Nat.le_trans hn0 (hO2.lt k hk).1)
  have hz3:=hB3.size
  have hRl:R0.length=l.length+1:=by rw [hR0.out];simp
  obtain ⟨g,rfl,hg,hgl⟩:=ow_some hO3 (by omega)
  have hlenb:((R0.length:Nat):Int)-1=((l.length:Nat):Int):=by omega
  have hS0:Hid (ShW l R0 l.length):=by unfold Hid;rw [hR0.out];exact ShW.start
  have HRL:=Lib.hid hRl
  have hR0n:Hid (Value.slice (some ⟨g,0,none⟩) R0.length c3=Value.slice (some ⟨g,0,none⟩) (l.length+1) c3):=by unfold Hid;rw [hRl]
  rw [hR0n.out] at hO3 ⊢
  clear hO2 hB2 hx2 hbk hgr hR0 hRl hlenb hR0n
  go_wp2
  go_loopw [6] (fun v wr=>∃(i:Nat) (R:List (List Int)),p≤i∧i≤l.length∧v= .int .i64 i∧Hid (ShW l R i)∧Ox n0 B wr 94 (.slice (some ⟨g,0,none⟩) (l.length+1) c3) R∧Sl (fun k=>n0≤k) wr b d x∧Below B w wr∧B≤wr.heap.size) (fun v _=>(intOf v).toNat)
  case atStart=>exact ⟨l.length,R0,by omega,by omega,by go_num,hS0,hO3,hx3,hB3,by omega⟩
  case round=>
   clear hS0 hO3 hx3 hB3 hz3
   obtain ⟨i,R,hpi,hil,rfl,hS,hO,hx,hB,hz⟩:=hrel
   obtain ⟨w4,rfl⟩:∃w4:World,w4=wr:=⟨_,rfl⟩
   have hRl:l.length+1=R.length:=hS.out.len.symm
   by_cases hlt:p<i
   ·obtain ⟨ar,r,cr,hcr, -,hr,hsr⟩:=hO.at_row hRl (show i-1<R.length by omega)
    obtain ⟨az,z,cz,hcz,hfz, -, -⟩:=hO.at_row hRl (show i<R.length by omega)
    have hi1:((i:Int)-1)=((i-1:Nat):Int):=by omega
    have hiw:IntKind.i64.wrap ((i-1:Nat):Int)=((i-1:Nat):Int):=IntWalk.i64_in _ (by omega)
    have hil2:i-1<l.length+1:=by omega
    have hil3:i<l.length+1:=by omega
    have hS2:=Lib.hid (hS.out.step (by omega) hil hr.out)
    have hO5:=Lib.hid (hO.set_row hRl (.inl rfl) i hsr)
    have hx5:=Lib.hid (hx.ext (Ext.setCell w4 (p:=⟨g,i,none⟩) (show n0≤g by omega) (.slice ar r.length cr)))
    have hB5:=Lib.hid (hB.setCell (p:=⟨g,i,none⟩) hg (.slice ar r.length cr))
    have hz5:Hid (B≤(w4.setCell ⟨g,i,none⟩ (.slice ar r.length cr)).heap.size):=by unfold Hid;simpa using hz
    clear hO hx hB hz hS hsr hRl
    go_wp2
    go_roundw
    case rel=>exact ⟨i-1,R.set i r,by omega,by omega,by go_num,hS2,hO5.out,hx5.out,hB5.out,hz5.out⟩
    case measure=>simp [intOf];omega
   have hip:i=p:=by omega
   have HRl:=Lib.hid hRl
   have hOd:=hO
   have hS2:=hS.out
   rw [hip] at hS2
   have hDn:=Lib.hid (hS2.done (by omega) x)
   have hpl1:p<l.length+1:=by omega
   clear hip hS2 hRl hS
   go_wp2_with (at_builtin;refine wpList_app_any (B:=w4.heap.size) (l0:=[]) (l1:=x) rfl rfl Tryz.underlying94 info_int rfl rfl (Ow.zero (Nat.le_refl _)) (hx.alloc _) (by simp;omega) (by simp) ?_)
   intro a6 c6 x6 w6 hx6 hO6 hb6
   have hb7:=((Below.refl w4.heap.size w4).alloc (Nat.le_refl _) (.cells #[] 3)).trans hb6
   have hO7:=Ox.later hO hb7
   have hB7:=hB.trans (hb7.mono hz)
   have hz7:B≤w6.heap.size:=Nat.le_trans hz hb7.size
   have hgl7:g<w4.heap.size:=(hO.lt g rfl).2
   obtain ⟨az,z,cz,hcz,hfz, -, -⟩:=hO7.at_row HRl.out (show p<R.length by have:=HRl.out;omega)
   have hsx:=(hO6.fresh (n:=w4.heap.size) (Nat.le_refl _)).anti (M':=fun k=>(Value.slice (some ⟨g,0,none⟩) (l.length+1) c3).ownBlock=some k∨k<n0) fun k _ hm=>by
    rcases hm with hm|hm
    ·simp [Value.ownBlock] at hm;omega
    omega
   have hO8:=hO7.set_row HRl.out (.inl rfl) p hsx
   have hE:Hid (R.set p x6=ins cmpW x l):=by unfold Hid;rw [hF.out,show x6=x from by simpa using hx6.out];exact hDn.out
   have hEl:Hid ((R.set p x6).length=l.length+1):=by unfold Hid;rw [List.length_set];exact HRl.out.symm
   have hO8:Hid (Ox n0 B (w6.setCell ⟨g,p,none⟩ (.slice a6 x6.length c6)) 94 (.slice (some ⟨g,0,none⟩) (R.set p x6).length c3) (R.set p x6)):=by unfold Hid;rw [hEl.out];exact hO8
   have hB8:=Lib.hid (hB7.setCell (p:=⟨g,p,none⟩) hg (.slice a6 x6.length c6))
   clear hO hx hB hz hb6 hb7 hO7 hB7 hO6 hsx hOd hx6
   go_wp2
   go_ret
   exact ⟨some ⟨g,0,none⟩,c3,R.set p x6,ret_sl hEl.out.symm,hE,hO8.out,hB8.out⟩
 skip
 go_wp2_with (at_builtin;refine wpList_push_x (n0:=n0) (B:=B) (β:=Int) (r:=[]) (ar:=none) (cr:=0) rfl rfl Tryz.underlying27 info_ints rfl rfl (hO1.alloc _) (by simp [go_sem]) (Sl.nil _ _ _ (by unfold maxLen;omega)) (by omega) (by simp;omega) ?_)
 intro a3 c3 R0 w3 hR0 hO3 hbk hgr
 have hB3:=(hB1.alloc hz1 (.cells #[.slice none 0 0] 94)).grown hgr (by simp;omega) (fun k hk=>(hO1.lt k hk).1)
 have hx3:=(hx1.alloc (.cells #[.slice none 0 0] 94)).ext (Ext.grownBy hgr fun k hk=>Nat.le_trans hn0 (hO1.lt k hk).1)
 have hz3:=hB3.size
 have hRl:R0.length=l.length+1:=by rw [hR0.out];simp
 obtain ⟨g,rfl,hg,hgl⟩:=ow_some hO3 (by omega)
 have hlenb:((R0.length:Nat):Int)-1=((l.length:Nat):Int):=by omega
 have hS0:Hid (ShW l R0 l.length):=by unfold Hid;rw [hR0.out];exact ShW.start
 have HRL:=Lib.hid hRl
 have hR0n:Hid (Value.slice (some ⟨g,0,none⟩) R0.length c3=Value.slice (some ⟨g,0,none⟩) (l.length+1) c3):=by unfold Hid;rw [hRl]
 rw [hR0n.out] at hO3 ⊢
 clear hO1 hB1 hx1 hbk hgr hR0 hRl hlenb hR0n
 go_wp2
 go_loopw [6] (fun v wr=>∃(i:Nat) (R:List (List Int)),p≤i∧i≤l.length∧v= .int .i64 i∧Hid (ShW l R i)∧Ox n0 B wr 94 (.slice (some ⟨g,0,none⟩) (l.length+1) c3) R∧Sl (fun k=>n0≤k) wr b d x∧Below B w wr∧B≤wr.heap.size) (fun v _=>(intOf v).toNat)
 case atStart=>exact ⟨l.length,R0,by omega,by omega,by go_num,hS0,hO3,hx3,hB3,by omega⟩
 case round=>
  clear hS0 hO3 hx3 hB3 hz3
  obtain ⟨i,R,hpi,hil,rfl,hS,hO,hx,hB,hz⟩:=hrel
  obtain ⟨w4,rfl⟩:∃w4:World,w4=wr:=⟨_,rfl⟩
  have hRl:l.length+1=R.length:=hS.out.len.symm
  by_cases hlt:p<i
  ·omega
  have hip:i=p:=by omega
  have HRl:=Lib.hid hRl
  have hOd:=hO
  have hS2:=hS.out
  rw [hip] at hS2
  have hDn:=Lib.hid (hS2.done (by omega) x)
  have hpl1:p<l.length+1:=by omega
  clear hip hS2 hRl hS
  go_wp2_with (at_builtin;refine wpList_app_any (B:=w4.heap.size) (l0:=[]) (l1:=x) rfl rfl Tryz.underlying94 info_int rfl rfl (Ow.zero (Nat.le_refl _)) (hx.alloc _) (by simp;omega) (by simp) ?_)
  intro a6 c6 x6 w6 hx6 hO6 hb6
  have hb7:=((Below.refl w4.heap.size w4).alloc (Nat.le_refl _) (.cells #[] 3)).trans hb6
  have hO7:=Ox.later hO hb7
  have hB7:=hB.trans (hb7.mono hz)
  have hz7:B≤w6.heap.size:=Nat.le_trans hz hb7.size
  have hgl7:g<w4.heap.size:=(hO.lt g rfl).2
  obtain ⟨az,z,cz,hcz,hfz, -, -⟩:=hO7.at_row HRl.out (show p<R.length by have:=HRl.out;omega)
  have hsx:=(hO6.fresh (n:=w4.heap.size) (Nat.le_refl _)).anti (M':=fun k=>(Value.slice (some ⟨g,0,none⟩) (l.length+1) c3).ownBlock=some k∨k<n0) fun k _ hm=>by
   rcases hm with hm|hm
   ·simp [Value.ownBlock] at hm;omega
   omega
  have hO8:=hO7.set_row HRl.out (.inl rfl) p hsx
  have hE:Hid (R.set p x6=ins cmpW x l):=by unfold Hid;rw [hF.out,show x6=x from by simpa using hx6.out];exact hDn.out
  have hEl:Hid ((R.set p x6).length=l.length+1):=by unfold Hid;rw [List.length_set];exact HRl.out.symm
  have hO8:Hid (Ox n0 B (w6.setCell ⟨g,p,none⟩ (.slice a6 x6.length c6)) 94 (.slice (some ⟨g,0,none⟩) (R.set p x6).length c3) (R.set p x6)):=by unfold Hid;rw [hEl.out];exact hO8
  have hB8:=Lib.hid (hB7.setCell (p:=⟨g,p,none⟩) hg (.slice a6 x6.length c6))
  clear hO hx hB hz hb6 hb7 hO7 hB7 hO6 hsx hOd hx6
  go_wp2
  go_ret
  exact ⟨some ⟨g,0,none⟩,c3,R.set p x6,ret_sl hEl.out.symm,hE,hO8.out,hB8.out⟩
end
section
variable {M M':Nat→Prop} {w w':World} {a b:Option Addr} {c d:Nat} {l l2:List (List Int)}
theorem sl_B {α:Type} [GR α] {B:Nat} {l:List α} (h:Sl (fun k=>B≤k) w a c l) (hb:Below B w w'):Sl (fun k=>B≤k) w' a c l:=h.ext ⟨hb.size,fun k _ hm=>hb.block k (by omega),fun _ _ h=>h⟩
theorem sortedR_any (hs:Sl M w a c l) (hl:Hid (Small9 l)):
    Calls Tryz.prog 134 #[.slice a l.length c] w fun e w'=>∃(a':Option Addr) (c':Nat) (L:List (List Int)),e= .returned (.slice a' L.length c')∧Hid (L=srt cmpW l)∧
     Sl (fun k=>k<w.heap.size) w' a' c' L∧Below w.heap.size w w':=by
 have hll:=hl.out.1
 have HS:=Lib.hid (fresh_M hs)
 have hO0:Ox (α:=List Int) w.heap.size w.heap.size w 94 (.slice none 0 0) []:=Ox.nil
 have hB0:=Below.refl w.heap.size w
 clear hs
 go_enter Tryz.func134,Tryz.ntmps134
 go_wp2
 go_loopw [3,4] (fun v i wr=>∃(k:Nat) (a':Option Addr) (c':Nat) (K:List (List Int)),k≤l.length∧i= .int .i64 k∧v= .slice a' K.length c'∧Hid (K=srt cmpW (l.take k))∧
  Ox w.heap.size w.heap.size wr 94 (.slice a' K.length c') K∧Below w.heap.size w wr) (fun _ i _=>l.length-(intOf i).toNat)
 case atStart=>exact ⟨0,none,0,[],by omega,rfl,rfl,by unfold Hid;simp [srt],hO0,hB0⟩
 case round=>
  clear hO0 hB0
  obtain ⟨k,a2,c2,K,hk,rfl,rfl,hK,hO,hB⟩:=hrel
  obtain ⟨w2,rfl⟩:∃w2:World,w2=wr:=⟨_,rfl⟩
  have hz:=hB.size
  by_cases hlt:k<l.length
  ·obtain ⟨b1,o1,ax,x,cx,rfl,hcx,hx,hsx⟩:=(sl_B HS.out hB).at_row hlt
   have hxl:=hl.out.2 x (List.mem_of_getElem? hx.out)
   have hKl:K.length<1000000000:=by have h1:=srt_len (cf:=cmpW) (l.take k);rw [hK.out];rw [List.length_take] at h1;omega
   have hA:Hid (Asc cmpW K):=by unfold Hid;rw [hK.out];exact srt_asc tot_cmp _
   have hKn:Hid (srt cmpW (l.take (k+1))=ins cmpW x K):=by unfold Hid;rw [srt_succ hx.out,hK.out]
   have HC:=Lib.hid (withR_any hO hsx hA hKl hxl hz (Nat.le_refl _))
   clear hO hsx
   go_wp2_with fail
   refine (HC.out).mono ?_
   rintro e w3 ⟨a3,c3,K3,rfl,hK3,hO3,hb3⟩
   have hB3:=hB.trans hb3
   have hKn:Hid (K3=srt cmpW (l.take (k+1))):=by unfold Hid;rw [hK3.out,hKn.out]
   clear HC hB hb3 hK3
   go_wp2
   go_roundw
   case rel=>exact ⟨k+1,a3,c3,K3,by omega,by go_num,rfl,hKn,hO3,hB3⟩
   case measure=>simp [intOf];omega
  have hKn:Hid (K=srt cmpW l):=by unfold Hid;rw [hK.out,List.take_of_length_le (by omega)]
  have hSl:=hO.toSl (Nat.le_refl _)
  go_wp2
  go_ret
  exact ⟨a2,c2,K,rfl,hKn,hSl,hB⟩
end
end Go.Proofs.YtjmbphjgiodioaaGreatDoor
