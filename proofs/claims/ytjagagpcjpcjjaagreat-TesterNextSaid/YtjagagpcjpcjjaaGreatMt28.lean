/- Several texts, one behind the other. Conditions: as each of them says. -/
import Derived.Test.YtjagagpcjpcjjaaGreatMt23
import Derived.Test.YtjagagpcjpcjjaaGreatMt20
import Derived.Test.YtjagagpcjpcjjaaGreatMt16
import Derived.Test.YtjagagpcjpcjjaaGreatMt13
import Derived.Test.YtjagagpcjpcjjaaGreatMt6
import Derived.Test.YtjagagpcjpcjjaaGreatMt2
import Derived.IntWalk
set_option maxRecDepth 100000
set_option maxHeartbeats 32000000
namespace Go.Proofs.YtjagagpcjpcjjaaGreat
open Go.RowKit
section
variable {M M':Nat→Prop} {w:World} {a b:Option Addr} {c d:Nat} {l:List (List Int)} {u:List Int}
def grW (l:List (List (List Int))):Nat:=l.foldl (fun n r=>max n r.length) 1
end
def tailW (m:Mach) (ids:List (List (List Int))) (w:List Int):List (List Int):=if ids.getD (m.endW m.start w).toNat []=[] then [[]] else ids.getD (m.endW m.start w).toNat []
section
variable {M M' M'':Nat→Prop} {w:World} {an ao a b:Option Addr} {cn co c d:Nat} {m:Mach} {ids:List (List (List Int))} {l:List Int}
end
def LoW (l:List (List Int)) (w:List Int) (p:Nat):Prop:=∀(i:Nat) v,i<p→l[i]? =some v→cmpW v w<0
def HiW (l:List (List Int)) (w:List Int) (p:Nat):Prop:=∀(i:Nat) v,p≤i→l[i]? =some v→¬cmpW v w<0
def PlW (l:List (List Int)) (w:List Int) (p:Nat):Prop:=p≤l.length∧LoW l w p∧HiW l w p
theorem ins_at:∀{l:List (List Int)} {w:List Int} {p:Nat},PlW l w p→(l[p]? =some w→ins cmpW w l=l)∧(l[p]?≠some w→ins cmpW w l=l.take p++w::l.drop p)
 |[],w,p,h=>by
  have hp:p=0:=by have:=h.1;simp at this;exact this
  subst hp
  simp [ins]
 |v::l,w,0,h=>by
  have hn:=h.2.2 0 v (Nat.le_refl _) rfl
  unfold ins
  rw [if_neg hn]
  constructor
  ·intro e
   obtain rfl:v=w:=by simpa using e
   rw [if_pos (cmp_same v)]
  intro e
  rw [if_neg (fun h0=>e (by rw [cmp_zero h0];rfl))]
  rfl
 |v::l,w,p+1,h=>by
  have hl:=h.2.1 0 v (by omega) rfl
  have ih:=ins_at (l:=l) (w:=w) (p:=p) ⟨by have:=h.1;simp at this;omega,fun i x hi hx=>h.2.1 (i+1) x (by omega) (by simpa using hx),fun i x hi hx=>h.2.2 (i+1) x (by omega) (by simpa using hx)⟩
  unfold ins
  rw [if_pos hl]
  constructor
  ·intro e;rw [ih.1 (by simpa using e)]
  intro e;rw [ih.2 (by simpa using e)];rfl
theorem pl_low {l:List (List Int)} {w:List Int} {k:Nat} {v:List Int} (h:Asc cmpW l) (hk:l[k]? =some v) (hc:cmpW v w<0):LoW l w (k+1):=by
 intro i x hi hx
 by_cases e:i=k
 ·subst e;rw [hk] at hx;have ex:v=x:=by simpa using hx
  rw [←ex]
  exact hc
 have hkl : k < l.length := by
  by_cases e:k<l.length
  ·exact e
  rw [List.getElem?_eq_none (by omega)] at hk;simp at hk
 have:=List.pairwise_iff_getElem.1 h i k (by omega) hkl (by omega)
 rw [List.getElem?_eq_getElem (by omega)] at hx hk
 have ex:l[i]=x:=by simpa using hx
 have ev:l[k]=v:=by simpa using hk
 rw [ex,ev] at this
 exact tot_cmp.lt_trans this hc
theorem pl_high {l:List (List Int)} {w:List Int} {k:Nat} {v:List Int} (h:Asc cmpW l) (hk:l[k]? =some v) (hc:¬cmpW v w<0):HiW l w k:=by
 intro i x hi hx hx2
 by_cases e:i=k
 ·subst e;rw [hk] at hx;have ex:v=x:=by simpa using hx
  rw [←ex] at hx2
  exact hc hx2
 have hil : i < l.length := by
  by_cases e:i<l.length
  ·exact e
  rw [List.getElem?_eq_none (by omega)] at hx;simp at hx
 have:=List.pairwise_iff_getElem.1 h k i (by omega) hil (by omega)
 rw [List.getElem?_eq_getElem (by omega)] at hx hk
 have ex:l[i]=x:=by simpa using hx
 have ev:l[k]=v:=by simpa using hk
 rw [ex,ev] at this
 exact hc (tot_cmp.lt_trans this hx2)
section
variable {M M':Nat→Prop} {w:World} {a b:Option Addr} {c d:Nat} {l:List (List Int)} {x:List Int}
theorem placeR_any (hs:Sl M w a c l) (hx:Sl M' w b d x) (hA:Hid (Asc cmpW l)) (hl:l.length<1000000000):
    Calls Tryz.prog 158 #[.slice a l.length c,.slice b x.length d] w fun e w'=>∃p:Nat,e= .returned (.int .i64 p)∧Hid (PlW l x p)∧Hid (∃n,w'=w.drewN n):=by
 have HS:=Lib.hid (hs.anti (M':=fun _=>False) fun _ _ h=>h.elim)
 have HX:=Lib.hid (hx.anti (M':=fun _=>False) fun _ _ h=>h.elim)
 have hD0:Hid (∃n,w=w.drewN n):=⟨0,rfl⟩
 clear hs hx
 go_enter Tryz.func158,Tryz.ntmps158
 go_wp2
 go_loopw [5,6] (fun u v wr=>∃lo hi:Nat,lo≤hi∧hi≤l.length∧u= .int .i64 lo∧v= .int .i64 hi∧Hid (LoW l x lo)∧Hid (HiW l x hi)∧Hid (∃n,wr=w.drewN n)) (fun u v _=>(intOf v).toNat-(intOf u).toNat)
 case atStart=>exact ⟨0,l.length,by omega,by omega,rfl,rfl,fun i v hi=>by omega,fun i v hi hv=>by rw [List.getElem?_eq_none hi] at hv;simp at hv,hD0⟩
 case round=>
  clear hD0
  obtain ⟨lo,hi,hlh,hhl,rfl,rfl,hL,hH,hD⟩:=hrel
  obtain ⟨w1,rfl⟩:∃w1:World,w1=wr:=⟨_,rfl⟩
  by_cases hlt:lo<hi
  ·have hq:((lo:Int)+(hi:Int)).tdiv 2=(((lo+hi)/2:Nat):Int):=by rw [Int.tdiv_eq_ediv_of_nonneg (by omega)];omega
   obtain ⟨k,hk⟩:∃k,k=(lo+hi)/2:=⟨_,rfl⟩
   have hk1:lo≤k:=by omega
   have hk2:k<hi:=by omega
   have hkl:k<l.length:=by omega
   rw [←hk] at hq
   have hb1:=blw3 hD w.heap.size
   obtain ⟨b1,o1,ay,y,cy,rfl,hcy,hy,hsy⟩:=(HS.out.below hb1).at_row hkl
   have HC:=Lib.hid (cmpR_any hsy ((HX.out.below hb1).anti (M':=fun _=>False) fun _ _ h=>h))
   clear hk hsy hb1
   by_cases hc:cmpW y x<0
   ·have hL2:=Lib.hid (pl_low hA.out hy.out hc)
    go_wp2_with fail
    refine (HC.out).mono ?_
    rintro e w2 ⟨rfl,hD2⟩
    have hD3:Hid (∃n,w2=w.drewN n):=by
     obtain ⟨n1,rfl⟩:=hD.out
     obtain ⟨n2,rfl⟩:=hD2.out
     exact ⟨_,World.drewN_drewN _ _ _⟩
    clear HC hD hD2 hcy
    go_wp2
    go_roundw
    case rel=>exact ⟨k+1,hi,by omega,hhl,by go_num,rfl,hL2,hH,hD3⟩
    case measure=>simp [intOf];omega
   have hH2:=Lib.hid (pl_high hA.out hy.out hc)
   go_wp2_with fail
   refine (HC.out).mono ?_
   rintro e w2 ⟨rfl,hD2⟩
   have hD3:Hid (∃n,w2=w.drewN n):=by
    obtain ⟨n1,rfl⟩:=hD.out
    obtain ⟨n2,rfl⟩:=hD2.out
    exact ⟨_,World.drewN_drewN _ _ _⟩
   clear HC hD hD2 hcy
   go_wp2
   go_roundw
   case rel=>exact ⟨lo,k,by omega,by omega,rfl,rfl,hL,hH2,hD3⟩
   case measure=>simp [intOf];omega
  have hF:Hid (PlW l x lo):=⟨by omega,hL.out,fun i v hi=>hH.out i v (by omega)⟩
  go_wp2
  go_ret
  exact ⟨lo,rfl,hF,hD⟩
end
structure ShW (l R:List (List Int)) (i:Nat):Prop where
 len:R.length=l.length+1
 low:∀j,j≤i→R[j]? =(l++[[]])[j]?
 high:∀j,i<j→j≤l.length→R[j]? =l[j-1]?
theorem ShW.start {l:List (List Int)}:ShW l (l++[[]]) l.length:=⟨by simp,fun _ _=>rfl,fun j h1 h2=>by omega⟩
theorem ShW.step {l R:List (List Int)} {i:Nat} {r:List Int} (h:ShW l R i) (hi:0<i) (hil:i≤l.length) (hr:R[i-1]? =some r):ShW l (R.set i r) (i-1):=by
 refine ⟨by simpa using h.len,fun j hj=> ?_,fun j h1 h2=> ?_⟩
 ·rw [List.getElem?_set_ne (by omega)];exact h.low j (by omega)
 by_cases e:i=j
 ·subst e
  rw [List.getElem?_set_self (by have:=h.len;omega),←hr,h.low _ (by omega),List.getElem?_append_left (by omega)]
 rw [List.getElem?_set_ne e];exact h.high j (by omega) h2
theorem ShW.done {l R:List (List Int)} {p:Nat} (h:ShW l R p) (hp:p≤l.length) (x:List Int):R.set p x=l.take p++x::l.drop p:=by
 apply List.ext_getElem?
 intro j
 have hl:=h.len
 by_cases e:p=j
 ·subst e
  rw [List.getElem?_set_self (by omega),List.getElem?_append_right (by rw [List.length_take];omega),List.length_take,Nat.min_eq_left hp,Nat.sub_self]
  rfl
 rw [List.getElem?_set_ne e]
 by_cases hj:j<p
 ·rw [h.low j (by omega),List.getElem?_append_left (by omega),List.getElem?_append_left (by rw [List.length_take];omega),List.getElem?_take,if_pos hj]
 rw [List.getElem?_append_right (by rw [List.length_take];omega),List.length_take,Nat.min_eq_left hp]
 obtain ⟨q,hq⟩:∃q,j-p=q+1:=⟨j-p-1,by omega⟩
 rw [hq,List.getElem?_cons_succ,List.getElem?_drop]
 by_cases hjl:j≤l.length
 ·rw [h.high j (by omega) hjl];congr 1;omega
 rw [List.getElem?_eq_none (by omega),List.getElem?_eq_none (by omega)]
section
variable {M':Nat→Prop} {w:World} {n0 B:Nat} {a b:Option Addr} {c d:Nat} {l:List (List Int)} {x:List Int}
theorem withR_any (hO:Ox n0 B w 49 (.slice a l.length c) l) (hx:Sl (fun k=>n0≤k) w b d x) (hA:Hid (Asc cmpW l)) (hl:l.length<1000000000) (hxl:x.length<1000000000) (hB:B≤w.heap.size) (hn0:n0≤B):
    Calls Tryz.prog 98 #[.slice a l.length c,.slice b x.length d] w fun e w'=>∃(a':Option Addr) (c':Nat) (L:List (List Int)),e= .returned (.slice a' L.length c')∧Hid (L=ins cmpW x l)∧
     Ox n0 B w' 49 (.slice a' L.length c') L∧Below B w w':=by
 have hSl:=(hO.subM (M':=fun _=>False) fun _ _ h=>h.elim).toSl fun _ _ h=>h
 have HC:=Lib.hid (placeR_any hSl hx hA hl)
 clear hSl
 go_enter Tryz.func98,Tryz.ntmps98
 go_wp2_with fail
 refine (HC.out).mono ?_
 rintro e w1 ⟨p,rfl,hP,hD⟩
 have hbd:=blw3 hD w.heap.size
 have hO1:=Ox.later hO hbd
 have hx1:=hx.below hbd
 have hB1:=hbd.mono hB
 have hz1:B≤w1.heap.size:=Nat.le_trans hB hbd.size
 have hpl:=hP.out.1
 have hIn:=Lib.hid (ins_at hP.out)
 clear HC hO hx hD hbd
 have hcase:(p<l.length∧l[p]? =some x)∨(p<l.length∧l[p]?≠some x)∨¬p<l.length:=by
  by_cases h1:p<l.length
  ·by_cases h2:l[p]? =some x
   ·exact .inl ⟨h1,h2⟩
   exact .inr (.inl ⟨h1,h2⟩)
  exact .inr (.inr h1)
 rcases hcase with ⟨h1,h2⟩|hcase
 ·have hF:Hid (l=ins cmpW x l):=(hIn.out.1 h2).symm
  obtain ⟨g,rfl, -, -⟩:=ow_some hO1 (by omega)
  obtain ⟨ay,y,cy,hcy, -,hy,hsy⟩:=hO1.at_row rfl h1
  have hyx:y=x:=by have:=hy.out;rw [h2] at this;simpa using this.symm
  have HC:=same1_any (hsy.anti (M':=fun _=>False) fun _ _ h=>h.elim) (hx1.anti (M':=fun _=>False) fun _ _ h=>h.elim)
  rw [decide_eq_true hyx] at HC
  have HC:=Lib.hid HC
  clear h2 hyx hsy hx1
  go_wp2_with fail
  refine (HC.out).mono ?_
  rintro e w2 ⟨rfl,hD2⟩
  have hb2:=blw3 hD2 w1.heap.size
  have hO2:=Ox.later hO1 hb2
  have hB2:=hB1.trans (hb2.mono hz1)
  clear hO1 hb2 hD2
  go_wp2
  go_ret
  exact ⟨_,c,l,rfl,hF,hO2,hB2⟩
 -- the word is new
 have hF:Hid (ins cmpW x l=l.take p++x::l.drop p):=by
  refine hIn.out.2 ?_
  rcases hcase with h|h
  ·exact h.2
  rw [List.getElem?_eq_none (by omega)];simp
 rcases hcase with ⟨h1,h2⟩|h1
 ·obtain ⟨g0,rfl, -, -⟩:=ow_some hO1 (by omega)
  obtain ⟨ay,y,cy,hcy, -,hy,hsy⟩:=hO1.at_row rfl h1
  have hyx:¬y=x:=by intro e;rw [←e] at h2;exact h2 hy.out
  have HC:=same1_any (hsy.anti (M':=fun _=>False) fun _ _ h=>h.elim) (hx1.anti (M':=fun _=>False) fun _ _ h=>h.elim)
  rw [decide_eq_false hyx] at HC
  have HC:=Lib.hid HC
  clear h2 hyx hsy
  go_wp2_with fail
  refine (HC.out).mono ?_
  rintro e w2 ⟨rfl,hD2⟩
  have hb2:=blw3 hD2 w1.heap.size
  have hO2:=Ox.later hO1 hb2
  have hx2:=hx1.below hb2
  have hB2:=hB1.trans (hb2.mono hz1)
  have hz2:B≤w2.heap.size:=Nat.le_trans hz1 hb2.size
  clear hO1 hb2 hD2 hx1 hB1 hz1 hcy HC
  go_wp2_with (at_builtin;refine wpList_push_x (n0:=n0) (B:=B) (β:=Int) (r:=[]) (ar:=none) (cr:=0) rfl rfl Tryz.underlying22 info_ints rfl rfl (hO2.alloc _) (by simp [go_sem]) (Sl.nil _ _ _ (by unfold maxLen;omega)) (by omega) (by simp;omega) ?_)
  intro a3 c3 R0 w3 hR0 hO3 hbk hgr
  have hB3:=(hB2.alloc hz2 (.cells #[.slice none 0 0] 49)).grown hgr (by simp;omega) (fun k hk=>(hO2.lt k hk).1)
  have hx3:=(hx2.alloc (.cells #[.slice none 0 0] 49)).ext (Ext.grownBy hgr fun k hk=>Nat.le_trans hn0 (hO2.lt k hk).1)
  have hz3:=hB3.size
  have hRl:R0.length=l.length+1:=by rw [hR0.out];simp
  obtain ⟨g,rfl,hg,hgl⟩:=ow_some hO3 (by omega)
  have hlenb:((R0.length:Nat):Int)-1=((l.length:Nat):Int):=by omega
  have hS0:Hid (ShW l R0 l.length):=by unfold Hid;rw [hR0.out];exact ShW.start
  have HRL:=Lib.hid hRl
  have hR0n:Hid (Value.slice (some ⟨g,0,none⟩) R0.length c3=Value.slice (some ⟨g,0,none⟩) (l.length+1) c3):=by unfold Hid;rw [hRl]
  rw [hR0n.out] at hO3 ⊢
  clear hO2 hB2 hx2 hbk hgr hR0 hRl hlenb hR0n
  go_wp2
  go_loopw [6] (fun v wr=>∃(i:Nat) (R:List (List Int)),p≤i∧i≤l.length∧v= .int .i64 i∧Hid (ShW l R i)∧Ox n0 B wr 49 (.slice (some ⟨g,0,none⟩) (l.length+1) c3) R∧Sl (fun k=>n0≤k) wr b d x∧Below B w wr∧B≤wr.heap.size) (fun v _=>(intOf v).toNat)
  case atStart=>exact ⟨l.length,R0,by omega,by omega,by go_num,hS0,hO3,hx3,hB3,by omega⟩
  case round=>
   clear hS0 hO3 hx3 hB3 hz3
   obtain ⟨i,R,hpi,hil,rfl,hS,hO,hx,hB,hz⟩:=hrel
   obtain ⟨w4,rfl⟩:∃w4:World,w4=wr:=⟨_,rfl⟩
   have hRl:l.length+1=R.length:=hS.out.len.symm
   by_cases hlt:p<i
   ·obtain ⟨ar,r,cr,hcr, -,hr,hsr⟩:=hO.at_row hRl (show i-1<R.length by omega)
    obtain ⟨az,z,cz,hcz,hfz, -, -⟩:=hO.at_row hRl (show i<R.length by omega)
    have hi1:((i:Int)-1)=((i-1:Nat):Int):=by omega
    have hiw:IntKind.i64.wrap ((i-1:Nat):Int)=((i-1:Nat):Int):=IntWalk.i64_in _ (by omega)
    have hil2:i-1<l.length+1:=by omega
    have hil3:i<l.length+1:=by omega
    have hS2:=Lib.hid (hS.out.step (by omega) hil hr.out)
    have hO5:=Lib.hid (hO.set_row hRl (.inl rfl) i hsr)
    have hx5:=Lib.hid (hx.ext (Ext.setCell w4 (p:=⟨g,i,none⟩) (show n0≤g by omega) (.slice ar r.length cr)))
    have hB5:=Lib.hid (hB.setCell (p:=⟨g,i,none⟩) hg (.slice ar r.length cr))
    have hz5:Hid (B≤(w4.setCell ⟨g,i,none⟩ (.slice ar r.length cr)).heap.size):=by unfold Hid;simpa using hz
    clear hO hx hB hz hS hsr hRl
    go_wp2
    go_roundw
    case rel=>exact ⟨i-1,R.set i r,by omega,by omega,by go_num,hS2,hO5.out,hx5.out,hB5.out,hz5.out⟩
    case measure=>simp [intOf];omega
   have hip:i=p:=by omega
   have HRl:=Lib.hid hRl
   have hOd:=hO
   have hS2:=hS.out
   rw [hip] at hS2
   have hDn:=Lib.hid (hS2.done (by omega) x)
   have hpl1:p<l.length+1:=by omega
   clear hip hS2 hRl hS
   go_wp2_with (at_builtin;refine wpList_app_any (B:=w4.heap.size) (l0:=[]) (l1:=x) rfl rfl Tryz.underlying49 info_int rfl rfl (Ow.zero (Nat.le_refl _)) (hx.alloc _) (by simp;omega) (by simp) ?_)
   intro a6 c6 x6 w6 hx6 hO6 hb6
   have hb7:=((Below.refl w4.heap.size w4).alloc (Nat.le_refl _) (.cells #[] 3)).trans hb6
   have hO7:=Ox.later hO hb7
   have hB7:=hB.trans (hb7.mono hz)
   have hz7:B≤w6.heap.size:=Nat.le_trans hz hb7.size
   have hgl7:g<w4.heap.size:=(hO.lt g rfl).2
   obtain ⟨az,z,cz,hcz,hfz, -, -⟩:=hO7.at_row HRl.out (show p<R.length by have:=HRl.out;omega)
   have hsx:=(hO6.fresh (n:=w4.heap.size) (Nat.le_refl _)).anti (M':=fun k=>(Value.slice (some ⟨g,0,none⟩) (l.length+1) c3).ownBlock=some k∨k<n0) fun k _ hm=>by
    rcases hm with hm|hm
    ·simp [Value.ownBlock] at hm;omega
    omega
   have hO8:=hO7.set_row HRl.out (.inl rfl) p hsx
   have hE:Hid (R.set p x6=ins cmpW x l):=by unfold Hid;rw [hF.out,show x6=x from by simpa using hx6.out];exact hDn.out
   have hEl:Hid ((R.set p x6).length=l.length+1):=by unfold Hid;rw [List.length_set];exact HRl.out.symm
   have hO8:Hid (Ox n0 B (w6.setCell ⟨g,p,none⟩ (.slice a6 x6.length c6)) 49 (.slice (some ⟨g,0,none⟩) (R.set p x6).length c3) (R.set p x6)):=by unfold Hid;rw [hEl.out];exact hO8
   have hB8:=Lib.hid (hB7.setCell (p:=⟨g,p,none⟩) hg (.slice a6 x6.length c6))
   clear hO hx hB hz hb6 hb7 hO7 hB7 hO6 hsx hOd hx6
   go_wp2
   go_ret
   exact ⟨some ⟨g,0,none⟩,c3,R.set p x6,ret_sl hEl.out.symm,hE,hO8.out,hB8.out⟩
 skip
 go_wp2_with (at_builtin;refine wpList_push_x (n0:=n0) (B:=B) (β:=Int) (r:=[]) (ar:=none) (cr:=0) rfl rfl Tryz.underlying22 info_ints rfl rfl (hO1.alloc _) (by simp [go_sem]) (Sl.nil _ _ _ (by unfold maxLen;omega)) (by omega) (by simp;omega) ?_)
 intro a3 c3 R0 w3 hR0 hO3 hbk hgr
 have hB3:=(hB1.alloc hz1 (.cells #[.slice none 0 0] 49)).grown hgr (by simp;omega) (fun k hk=>(hO1.lt k hk).1)
 have hx3:=(hx1.alloc (.cells #[.slice none 0 0] 49)).ext (Ext.grownBy hgr fun k hk=>Nat.le_trans hn0 (hO1.lt k hk).1)
 have hz3:=hB3.size
 have hRl:R0.length=l.length+1:=by rw [hR0.out];simp
 obtain ⟨g,rfl,hg,hgl⟩:=ow_some hO3 (by omega)
 have hlenb:((R0.length:Nat):Int)-1=((l.length:Nat):Int):=by omega
 have hS0:Hid (ShW l R0 l.length):=by unfold Hid;rw [hR0.out];exact ShW.start
 have HRL:=Lib.hid hRl
 have hR0n:Hid (Value.slice (some ⟨g,0,none⟩) R0.length c3=Value.slice (some ⟨g,0,none⟩) (l.length+1) c3):=by unfold Hid;rw [hRl]
 rw [hR0n.out] at hO3 ⊢
 clear hO1 hB1 hx1 hbk hgr hR0 hRl hlenb hR0n
 go_wp2
 go_loopw [6] (fun v wr=>∃(i:Nat) (R:List (List Int)),p≤i∧i≤l.length∧v= .int .i64 i∧Hid (ShW l R i)∧Ox n0 B wr 49 (.slice (some ⟨g,0,none⟩) (l.length+1) c3) R∧Sl (fun k=>n0≤k) wr b d x∧Below B w wr∧B≤wr.heap.size) (fun v _=>(intOf v).toNat)
 case atStart=>exact ⟨l.length,R0,by omega,by omega,by go_num,hS0,hO3,hx3,hB3,by omega⟩
 case round=>
  clear hS0 hO3 hx3 hB3 hz3
  obtain ⟨i,R,hpi,hil,rfl,hS,hO,hx,hB,hz⟩:=hrel
  obtain ⟨w4,rfl⟩:∃w4:World,w4=wr:=⟨_,rfl⟩
  have hRl:l.length+1=R.length:=hS.out.len.symm
  by_cases hlt:p<i
  ·omega
  have hip:i=p:=by omega
  have HRl:=Lib.hid hRl
  have hOd:=hO
  have hS2:=hS.out
  rw [hip] at hS2
  have hDn:=Lib.hid (hS2.done (by omega) x)
  have hpl1:p<l.length+1:=by omega
  clear hip hS2 hRl hS
  go_wp2_with (at_builtin;refine wpList_app_any (B:=w4.heap.size) (l0:=[]) (l1:=x) rfl rfl Tryz.underlying49 info_int rfl rfl (Ow.zero (Nat.le_refl _)) (hx.alloc _) (by simp;omega) (by simp) ?_)
  intro a6 c6 x6 w6 hx6 hO6 hb6
  have hb7:=((Below.refl w4.heap.size w4).alloc (Nat.le_refl _) (.cells #[] 3)).trans hb6
  have hO7:=Ox.later hO hb7
  have hB7:=hB.trans (hb7.mono hz)
  have hz7:B≤w6.heap.size:=Nat.le_trans hz hb7.size
  have hgl7:g<w4.heap.size:=(hO.lt g rfl).2
  obtain ⟨az,z,cz,hcz,hfz, -, -⟩:=hO7.at_row HRl.out (show p<R.length by have:=HRl.out;omega)
  have hsx:=(hO6.fresh (n:=w4.heap.size) (Nat.le_refl _)).anti (M':=fun k=>(Value.slice (some ⟨g,0,none⟩) (l.length+1) c3).ownBlock=some k∨k<n0) fun k _ hm=>by
   rcases hm with hm|hm
   ·simp [Value.ownBlock] at hm;omega
   omega
  have hO8:=hO7.set_row HRl.out (.inl rfl) p hsx
  have hE:Hid (R.set p x6=ins cmpW x l):=by unfold Hid;rw [hF.out,show x6=x from by simpa using hx6.out];exact hDn.out
  have hEl:Hid ((R.set p x6).length=l.length+1):=by unfold Hid;rw [List.length_set];exact HRl.out.symm
  have hO8:Hid (Ox n0 B (w6.setCell ⟨g,p,none⟩ (.slice a6 x6.length c6)) 49 (.slice (some ⟨g,0,none⟩) (R.set p x6).length c3) (R.set p x6)):=by unfold Hid;rw [hEl.out];exact hO8
  have hB8:=Lib.hid (hB7.setCell (p:=⟨g,p,none⟩) hg (.slice a6 x6.length c6))
  clear hO hx hB hz hb6 hb7 hO7 hB7 hO6 hsx hOd hx6
  go_wp2
  go_ret
  exact ⟨some ⟨g,0,none⟩,c3,R.set p x6,ret_sl hEl.out.symm,hE,hO8.out,hB8.out⟩
end
def topTo (L:List (List Int)) (i k:Nat):Bool:= !(List.range k).any fun j=>decide (i<j)&&(!decide ((L.getD j []).length=(L.getD i []).length)&&decide (comW (L.getD j []) (L.getD i [])=(L.getD i []).length))
def keepR (L:List (List Int)) (k:Nat):List (List Int):=((List.range k).filter fun i=>topTo L i L.length).map (fun i=>L.getD i [])
theorem topTo_low {L:List (List Int)} {i k:Nat} (h:k≤i+1):topTo L i k=true:=by
 unfold topTo
 rw [Bool.not_eq_true',List.any_eq_false]
 intro j hj
 rw [List.mem_range] at hj
 simp;omega
theorem topTo_succ {L:List (List Int)} {i k:Nat} (h:i<k):topTo L i (k+1)=(topTo L i k&& !(!decide ((L.getD k []).length=(L.getD i []).length)&&decide (comW (L.getD k []) (L.getD i [])=(L.getD i []).length))):=by
 unfold topTo
 rw [List.range_succ,List.any_append,Bool.not_or]
 simp [h]
theorem keepR_succ (L:List (List Int)) (k:Nat):keepR L (k+1)=if topTo L k L.length=true then keepR L k++[L.getD k []] else keepR L k:=by
 unfold keepR
 rw [List.range_succ,List.filter_append]
 by_cases h:topTo L k L.length=true
 ·rw [if_pos h];simp [h]
 rw [if_neg h];simp [h]
theorem keepR_len (L:List (List Int)) (k:Nat):(keepR L k).length≤k:=by
 unfold keepR
 rw [List.length_map]
 have:=List.length_filter_le (fun i=>topTo L i L.length) (List.range k)
 simpa using this
theorem topTo_iff {L:List (List Int)} (h:Asc cmpW L) {i:Nat} (hi:i<L.length):topTo L i L.length=topW L L[i]:=by
 have hp:=List.pairwise_iff_getElem.1 h
 have gi:∀j (hj:j<L.length),L.getD j []=L[j]:=fun j hj=>by rw [List.getD_eq_getElem?_getD,List.getElem?_eq_getElem hj];rfl
 rw [Bool.eq_iff_iff,topW_iff]
 unfold topTo
 rw [Bool.not_eq_true',List.any_eq_false]
 constructor
 ·intro hk v hv hne hpre
  obtain ⟨j,hj,rfl⟩:=List.getElem_of_mem hv
  have hlen:=hpre.length_le
  have hll:L[j].length≠L[i].length:=fun e=>hne (hpre.eq_of_length e.symm).symm
  have hij:i<j:=by
   by_cases e:j<i
   ·have h1:=hp j i hj hi e
    rw [cmp_swap,cmp_short (by omega)] at h1
    omega
   by_cases e2:i=j
   ·subst e2;exact absurd rfl hne
   omega
  have:=hk j (List.mem_range.2 hj)
  rw [gi j hj,gi i hi] at this
  exact this (by simp [hij,hll,comW_prefix.2 hpre])
 intro hk j hj
 rw [List.mem_range] at hj
 rw [gi j hj,gi i hi]
 simp only [Bool.and_eq_true,decide_eq_true_eq,Bool.not_eq_true',decide_eq_false_iff_not,not_and]
 intro hij hll hc
 exact hk L[j] (List.getElem_mem hj) (fun e=>hll (by rw [e])) (comW_prefix.1 hc)
theorem max_ref (l:List (List Int)):keepR (srt cmpW l) (srt cmpW l).length=maxW l:=by
 have hA:=srt_asc tot_cmp l
 unfold maxW
 refine asc_unique tot_cmp ?_ (srt_asc tot_cmp _) fun x=> ?_
 ·have hr : (List.range (srt cmpW l).length).map (fun i => (srt cmpW l).getD i []) = srt cmpW l := by
    apply List.ext_getElem?
    intro j
    rw [List.getElem?_map]
    by_cases hj:j<(srt cmpW l).length
    ·rw [List.getElem?_range hj,List.getElem?_eq_getElem hj]
     simp [hj]
    rw [List.getElem?_eq_none (by simp;omega),List.getElem?_eq_none (by omega)];rfl
  have hs:(keepR (srt cmpW l) (srt cmpW l).length).Sublist (srt cmpW l):=by
   have h1:((List.range (srt cmpW l).length).filter fun i=>topTo (srt cmpW l) i (srt cmpW l).length).Sublist (List.range (srt cmpW l).length):=List.filter_sublist
   have:=h1.map (fun i=>(srt cmpW l).getD i [])
   rw [hr] at this
   exact this
  exact List.Pairwise.sublist hs hA
 rw [srt_mem tot_cmp,List.mem_filter]
 unfold keepR
 rw [List.mem_map]
 constructor
 ·rintro ⟨i,hi,rfl⟩
  rw [List.mem_filter,List.mem_range] at hi
  have gi:(srt cmpW l).getD i []=(srt cmpW l)[i]:=by rw [List.getD_eq_getElem?_getD,List.getElem?_eq_getElem hi.1];rfl
  rw [gi]
  have hm:=List.getElem_mem hi.1
  refine ⟨(srt_mem tot_cmp).1 hm,?_⟩
  rw [topTo_iff hA hi.1] at hi
  exact topW_iff.2 fun v hv=>topW_iff.1 hi.2 v ((srt_mem tot_cmp).2 hv)
 rintro ⟨hx,ht⟩
 obtain ⟨i,hi,rfl⟩:=List.getElem_of_mem ((srt_mem tot_cmp).2 hx)
 have gi:(srt cmpW l).getD i []=(srt cmpW l)[i]:=by rw [List.getD_eq_getElem?_getD,List.getElem?_eq_getElem hi];rfl
 refine ⟨i,List.mem_filter.2 ⟨List.mem_range.2 hi,?_⟩,gi⟩
 rw [topTo_iff hA hi]
 exact topW_iff.2 fun v hv=>topW_iff.1 ht v ((srt_mem tot_cmp).1 hv)
section
variable {M M':Nat→Prop} {w w':World} {a b:Option Addr} {c d:Nat} {l l2:List (List Int)}
theorem sl_B {α:Type} [GR α] {B:Nat} {l:List α} (h:Sl (fun k=>B≤k) w a c l) (hb:Below B w w'):Sl (fun k=>B≤k) w' a c l:=h.ext ⟨hb.size,fun k _ hm=>hb.block k (by omega),fun _ _ h=>h⟩
theorem sortedR_any (hs:Sl M w a c l) (hl:Hid (Small9 l)):
    Calls Tryz.prog 43 #[.slice a l.length c] w fun e w'=>∃(a':Option Addr) (c':Nat) (L:List (List Int)),e= .returned (.slice a' L.length c')∧Hid (L=srt cmpW l)∧
     Sl (fun k=>k<w.heap.size) w' a' c' L∧Below w.heap.size w w':=by
 have hll:=hl.out.1
 have HS:=Lib.hid (fresh_M hs)
 have hO0:Ox (α:=List Int) w.heap.size w.heap.size w 49 (.slice none 0 0) []:=Ox.nil
 have hB0:=Below.refl w.heap.size w
 clear hs
 go_enter Tryz.func43,Tryz.ntmps43
 go_wp2
 go_loopw [3,4] (fun v i wr=>∃(k:Nat) (a':Option Addr) (c':Nat) (K:List (List Int)),k≤l.length∧i= .int .i64 k∧v= .slice a' K.length c'∧Hid (K=srt cmpW (l.take k))∧
  Ox w.heap.size w.heap.size wr 49 (.slice a' K.length c') K∧Below w.heap.size w wr) (fun _ i _=>l.length-(intOf i).toNat)
 case atStart=>exact ⟨0,none,0,[],by omega,rfl,rfl,by unfold Hid;simp [srt],hO0,hB0⟩
 case round=>
  clear hO0 hB0
  obtain ⟨k,a2,c2,K,hk,rfl,rfl,hK,hO,hB⟩:=hrel
  obtain ⟨w2,rfl⟩:∃w2:World,w2=wr:=⟨_,rfl⟩
  have hz:=hB.size
  by_cases hlt:k<l.length
  ·obtain ⟨b1,o1,ax,x,cx,rfl,hcx,hx,hsx⟩:=(sl_B HS.out hB).at_row hlt
   have hxl:=hl.out.2 x (List.mem_of_getElem? hx.out)
   have hKl:K.length<1000000000:=by have h1:=srt_len (cf:=cmpW) (l.take k);rw [hK.out];rw [List.length_take] at h1;omega
   have hA:Hid (Asc cmpW K):=by unfold Hid;rw [hK.out];exact srt_asc tot_cmp _
   have hKn:Hid (srt cmpW (l.take (k+1))=ins cmpW x K):=by unfold Hid;rw [srt_succ hx.out,hK.out]
   have HC:=Lib.hid (withR_any hO hsx hA hKl hxl hz (Nat.le_refl _))
   clear hO hsx
   go_wp2_with fail
   refine (HC.out).mono ?_
   rintro e w3 ⟨a3,c3,K3,rfl,hK3,hO3,hb3⟩
   have hB3:=hB.trans hb3
   have hKn:Hid (K3=srt cmpW (l.take (k+1))):=by unfold Hid;rw [hK3.out,hKn.out]
   clear HC hB hb3 hK3
   go_wp2
   go_roundw
   case rel=>exact ⟨k+1,a3,c3,K3,by omega,by go_num,rfl,hKn,hO3,hB3⟩
   case measure=>simp [intOf];omega
  have hKn:Hid (K=srt cmpW l):=by unfold Hid;rw [hK.out,List.take_of_length_le (by omega)]
  have hSl:=hO.toSl (Nat.le_refl _)
  go_wp2
  go_ret
  exact ⟨a2,c2,K,rfl,hKn,hSl,hB⟩
theorem hpR_v {xs ys:List Int} (h1:Sl M w a c xs) (h2:Sl M w b d ys) {v:Bool} (h:decide (comW xs ys=ys.length)=v):
    Calls Tryz.prog 101 #[.slice a xs.length c,.slice b ys.length d] w fun e w'=>e= .returned (.bool v)∧∃n,w'=w.drewN n:=
 (haspR_any h1 h2).mono fun _ _ ⟨h3,h4⟩=>⟨by rw [h3,h],h4.out⟩
theorem maxR_any (hs:Sl M w a c l) (hl:Hid (Small9 l)):
    Calls Tryz.prog 54 #[.slice a l.length c] w fun e w'=>∃(a':Option Addr) (c':Nat) (L:List (List Int)),e= .returned (.slice a' L.length c')∧Hid (L=maxW l)∧
     Sl (fun k=>k<w.heap.size) w' a' c' L∧Below w.heap.size w w':=by
 have HC:=Lib.hid (sortedR_any hs hl)
 clear hs
 go_enter Tryz.func54,Tryz.ntmps54
 go_wp2_with fail
 refine (HC.out).mono ?_
 rintro e w1 ⟨a1,c1,L,rfl,hL,hs1,hb1⟩
 have hz1:=hb1.size
 have hLlen:L.length<1000000000:=by have h1:=srt_len (cf:=cmpW) l;have h2:=hl.out.1;rw [hL.out];omega
 have HS:Hid (Sl (fun k=>w1.heap.size≤k∨k<w.heap.size) w1 a1 c1 L):=hs1.ext (Ext.sub_only fun k hk hm=>by rcases hm with hm|hm;omega;exact hm)
 have hO0:Ox (α:=List Int) w.heap.size w1.heap.size w1 49 (.slice none 0 0) []:=Ox.nil
 have hB0:=Below.refl w1.heap.size w1
 clear HC hs1
 go_wp2
 go_loopw [4,5] (fun v i wr=>∃(k:Nat) (a':Option Addr) (c':Nat) (K:List (List Int)),k≤L.length∧i= .int .i64 k∧v= .slice a' K.length c'∧Hid (K=keepR L k)∧
  Ox w.heap.size w1.heap.size wr 49 (.slice a' K.length c') K∧Below w1.heap.size w1 wr) (fun _ i _=>L.length-(intOf i).toNat)
 case atStart=>exact ⟨0,none,0,[],by omega,rfl,rfl,rfl,hO0,hB0⟩
 case round=>
  clear hO0 hB0
  obtain ⟨i,a2,c2,K,hi,rfl,rfl,hK,hO,hB⟩:=hrel
  obtain ⟨w2,rfl⟩:∃w2:World,w2=wr:=⟨_,rfl⟩
  have hKlen:K.length≤i:=by rw [hK.out];exact keepR_len L i
  by_cases hlt:i<L.length
  ·obtain ⟨b1,o1, -, -, -,rfl, -, -, -⟩:=(HS.out.below hB).at_row hlt
   have hT0:Hid (true=topTo L i (i+1)):=(topTo_low (Nat.le_refl _)).symm
   go_wp2
   go_loopw [6,7] (fun v u wr=>∃(k:Nat) (t:Bool),i<k∧k≤L.length∧u= .int .i64 k∧v= .bool t∧Hid (t=topTo L i k)∧
    Ox w.heap.size w1.heap.size wr 49 (.slice a2 K.length c2) K∧Below w1.heap.size w1 wr) (fun _ u _=>L.length-(intOf u).toNat)
   case atStart=>exact ⟨i+1,true,by omega,by omega,by go_num,rfl,hT0,hO,hB⟩
   case round=>
    clear hO hB hT0
    obtain ⟨k,t,hik,hk,rfl,rfl,hT,hO,hB⟩:=hrel
    obtain ⟨w3,rfl⟩:∃w3:World,w3=wr:=⟨_,rfl⟩
    by_cases hlk:k<L.length
    ·obtain ⟨b2,o2,ay,y,cy,hh,hcy,hy,hsy⟩:=((HS.out.below hB).anti (M':=fun _=>False) fun _ _ h=>h.elim).at_row hlk
     obtain ⟨b3,o3,ax,x,cx,hh3,hcx,hx,hsx⟩:=((HS.out.below hB).anti (M':=fun _=>False) fun _ _ h=>h.elim).at_row hlt
     obtain ⟨rfl,rfl⟩:b2=b1∧o2=o1:=by simp at hh;exact ⟨hh.1.symm,hh.2.symm⟩
     obtain ⟨rfl,rfl⟩:b3=b2∧o3=o2:=by simp at hh3;exact ⟨hh3.1.symm,hh3.2.symm⟩
     have hgy:Hid (L.getD k []=y):=by unfold Hid;rw [List.getD_eq_getElem?_getD,hy.out];rfl
     have hgx:Hid (L.getD i []=x):=by unfold Hid;rw [List.getD_eq_getElem?_getD,hx.out];rfl
     have hyl:=hsy.le
     have hxl:=hsx.le
     clear hh hh3
     cases t with
     |false=>
      have hT2:Hid (false=topTo L i (k+1)):=by unfold Hid;rw [topTo_succ (by omega),←hT.out,hgy.out,hgx.out];simp
      go_wp2
      refine wp_quiet_fast (by kernel_rfl) (by kernel_rfl) ?_
      repeat (first|go_big_quiet_step (fail)|quiet_step (fail))
      refine wpQuiet_nil ?_
      intro _ hw'
      obtain ⟨nq,hw''⟩:=hw'
      subst hw''
      go_wp2
      go_roundw
      case rel=>exact ⟨k+1,false,by omega,by omega,by go_num,rfl,hT2,hO.drewN _,bl_drewN hB _⟩
      case measure=>simp [intOf];omega
     |true=>
      by_cases hle:y.length=x.length
      ·have hd:(((y.length:Nat):Int)==((x.length:Nat):Int))=true:=by simp [hle]
       have hf:=hle
       clear hle
       have hT2:Hid (true=topTo L i (k+1)):=by unfold Hid;rw [topTo_succ (by omega),←hT.out,hgy.out,hgx.out];simp [hf]
       clear hf
       go_wp2
       refine wp_quiet_fast (by kernel_rfl) (by kernel_rfl) ?_
       repeat (first|go_big_quiet_step (fail)|quiet_step (fail))
       refine wpQuiet_nil ?_
       intro _ hw'
       obtain ⟨nq,hw''⟩:=hw'
       subst hw''
       go_wp2
       go_roundw
       case rel=>exact ⟨k+1,true,by omega,by omega,by go_num,rfl,hT2,hO.drewN _,bl_drewN hB _⟩
       case measure=>simp [intOf];omega
      have hd:(((y.length:Nat):Int)==((x.length:Nat):Int))=false:=by simp;omega
      cases hv:decide (comW y x=x.length) with
      |true=>
       have hf:=And.intro hle (of_decide_eq_true hv)
       clear hle
       have hT2:Hid (false=topTo L i (k+1)):=by unfold Hid;rw [topTo_succ (by omega),←hT.out,hgy.out,hgx.out];simp [hf]
       clear hf
       go_wp2
       refine wp_quiet_fast (by kernel_rfl) (by kernel_rfl) ?_
       repeat (first|go_big_quiet_step ((go_at_call 101;exact Calls.quiet_of (hpR_v (hsy.drewN _) (hsx.drewN _) hv)))|quiet_step ((go_at_call 101;exact Calls.quiet_of (hpR_v (hsy.drewN _) (hsx.drewN _) hv))))
       refine wpQuiet_nil ?_
       intro _ hw'
       obtain ⟨nq,hw''⟩:=hw'
       subst hw''
       go_wp2
       go_roundw
       case rel=>exact ⟨k+1,false,by omega,by omega,by go_num,rfl,hT2,hO.drewN _,bl_drewN hB _⟩
       case measure=>simp [intOf];omega
      |false=>
       have hf:=And.intro hle (of_decide_eq_false hv)
       clear hle
       have hT2:Hid (true=topTo L i (k+1)):=by unfold Hid;rw [topTo_succ (by omega),←hT.out,hgy.out,hgx.out];simp [hf]
       clear hf
       go_wp2
       refine wp_quiet_fast (by kernel_rfl) (by kernel_rfl) ?_
       repeat (first|go_big_quiet_step ((go_at_call 101;exact Calls.quiet_of (hpR_v (hsy.drewN _) (hsx.drewN _) hv)))|quiet_step ((go_at_call 101;exact Calls.quiet_of (hpR_v (hsy.drewN _) (hsx.drewN _) hv))))
       refine wpQuiet_nil ?_
       intro _ hw'
       obtain ⟨nq,hw''⟩:=hw'
       subst hw''
       go_wp2
       go_roundw
       case rel=>exact ⟨k+1,true,by omega,by omega,by go_num,rfl,hT2,hO.drewN _,bl_drewN hB _⟩
       case measure=>simp [intOf];omega
    have hTL:Hid (t=topTo L i L.length):=by unfold Hid;rw [hT.out,show k=L.length by omega]
    obtain ⟨b3,o3,ax,x,cx,hh3,hcx,hx,hsx'⟩:=(HS.out.below hB).at_row hlt
    obtain ⟨rfl,rfl⟩:b3=b1∧o3=o1:=by simp at hh3;exact ⟨hh3.1.symm,hh3.2.symm⟩
    have hgx:Hid (L.getD i []=x):=by unfold Hid;rw [List.getD_eq_getElem?_getD,hx.out];rfl
    have hsx:=hsx'.anti (M':=fun k=>(Value.slice a2 K.length c2).ownBlock=some k∨k<w.heap.size) fun k _ hm=>by
     rcases hm with hm|hm
     ·exact .inl (hO.lt k hm).1
     exact .inr hm
    have hz3:=hB.size
    have hK12:K.length<1000000000000:=by omega
    clear hh3 hsx' hT
    cases t with
    |false=>
     have hKn:Hid (K=keepR L (i+1)):=by unfold Hid;rw [keepR_succ,if_neg (by rw [←hTL.out];decide),hK.out]
     clear hTL
     go_wp2
     go_roundw
     case rel=>exact ⟨i+1,a2,c2,K,by omega,by go_num,rfl,hKn,hO,hB⟩
     case measure=>simp [intOf];omega
    |true=>
     have hKn:Hid (keepR L (i+1)=K++[x]):=by unfold Hid;rw [keepR_succ,if_pos (by rw [←hTL.out]),hK.out,hgx.out]
     clear hTL
     go_wp2_with (at_builtin;refine wpList_push_x (n0:=w.heap.size) (B:=w1.heap.size) (r:=x) (ar:=ax) (cr:=cx) rfl rfl Tryz.underlying22 info_ints rfl rfl (hO.alloc _) (by simp [go_sem]) (hsx.alloc _) hK12 (by simp;omega) ?_)
     intro a4 c4 K4 w4 hK4 hO4 hbk hgr
     have hB4:=(hB.alloc hz3 (.cells #[.slice ax x.length cx] 49)).grown hgr (by simp;omega) (fun k hk=>(hO.lt k hk).1)
     have hKn:Hid (K4=keepR L (i+1)):=by unfold Hid;rw [hK4.out,hKn.out]
     clear hK4 hbk hgr hO hB
     go_wp2
     go_roundw
     case rel=>exact ⟨i+1,a4,c4,K4,by omega,by go_num,rfl,hKn,hO4,hB4⟩
     case measure=>simp [intOf];omega
  have hE:Hid (K=maxW l):=by unfold Hid;rw [hK.out,show i=L.length by omega,hL.out];exact max_ref l
  have hSl:=hO.toSl hz1
  have hBf:=hb1.trans (hB.mono hz1)
  clear hO hB
  go_wp2
  go_ret
  exact ⟨a2,c2,K,rfl,hE,hSl,hBf⟩
end
end Go.Proofs.YtjagagpcjpcjjaaGreat
