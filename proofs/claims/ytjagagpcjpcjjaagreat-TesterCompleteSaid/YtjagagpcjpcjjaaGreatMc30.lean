/- Several texts, one behind the other. Conditions: as each of them says. -/
import Derived.Test.YtjagagpcjpcjjaaGreatMc26
import Derived.Test.YtjagagpcjpcjjaaGreatMc23
import Derived.Test.YtjagagpcjpcjjaaGreatMc19
import Derived.Test.YtjagagpcjpcjjaaGreatMc15
import Derived.Test.YtjagagpcjpcjjaaGreatMc7
import Derived.Test.YtjagagpcjpcjjaaGreatMc2
import Derived.IntWalk
set_option maxRecDepth 100000
set_option maxHeartbeats 32000000
namespace Go.Proofs.YtjagagpcjpcjjaaGreat
open Go.RowKit
theorem map_step {α β:Type} {f:α→β} {l:List α} {k:Nat} {x:α} (h:l[k]? =some x):(l.take (k+1)).map f=(l.take k).map f++[f x]:=by
 rw [List.take_add_one,h];simp
section
variable {M M':Nat→Prop} {w:World} {a b:Option Addr} {c d:Nat} {l:List (List Int)} {u:List Int}
theorem behind_any (hu:Sl M w a c u) (hs:Sl M' w b d l) (hl:Hid (Small9 l)) (hul:u.length<1000000000):
    Calls Tryz.prog 81 #[.slice a u.length c,.slice b l.length d] w fun e w'=>∃(a':Option Addr) (c':Nat) (L:List (List Int)),e= .returned (.slice a' L.length c')∧Hid (L=l.map (fun v=>u++v))∧
     Sl (fun k=>k<w.heap.size) w' a' c' L∧Below w.heap.size w w':=by
 have hll:=hl.out.1
 have hul2:=hu.le
 have HU:=Lib.hid (hu.anti (M':=fun _=>False) fun _ _ h=>h.elim)
 have HS:=Lib.hid (hs.anti (M':=fun _=>False) fun _ _ h=>h.elim)
 have hO0:Ox (α:=List Int) w.heap.size w.heap.size w 49 (.slice none 0 0) []:=Ox.nil
 have hB0:=Below.refl w.heap.size w
 clear hu hs
 go_enter Tryz.func81,Tryz.ntmps81
 go_wp2
 go_loopw [5,10] (fun v i wr=>∃(k:Nat) (a':Option Addr) (c':Nat) (K:List (List Int)),k≤l.length∧i= .int .i64 k∧v= .slice a' K.length c'∧Hid (K=(l.take k).map (fun v=>u++v))∧
  Ox w.heap.size w.heap.size wr 49 (.slice a' K.length c') K∧Below w.heap.size w wr) (fun _ i _=>l.length-(intOf i).toNat)
 case atStart=>exact ⟨0,none,0,[],by omega,rfl,rfl,by unfold Hid;simp,hO0,hB0⟩
 case round=>
  clear hO0 hB0
  obtain ⟨k,a2,c2,K,hk,rfl,rfl,hK,hO,hB⟩:=hrel
  obtain ⟨w2,rfl⟩:∃w2:World,w2=wr:=⟨_,rfl⟩
  have hz:=hB.size
  by_cases hlt:k<l.length
  ·obtain ⟨b1,o1,ax,x,cx,rfl,hcx,hx,hsx⟩:=(HS.out.below hB).at_row hlt
   have hxl:=hl.out.2 x (List.mem_of_getElem? hx.out)
   have hKl:Hid (K.length=k):=by unfold Hid;rw [hK.out];simp;omega
   have hK12:K.length<1000000000000:=by rw [hKl.out];omega
   have hKn:Hid ((l.take (k+1)).map (fun v=>u++v)=K++[u++x]):=by unfold Hid;rw [map_step hx.out,hK.out]
   have hr:=rows2 (T:=49) (HU.out.below hB) hsx rfl (m:=x.length) rfl
   have HC:=Lib.hid (join_any hr (by rw [flat2];simp;omega))
   have hba:=(Below.refl w2.heap.size w2).alloc (Nat.le_refl _) (.cells #[.slice a u.length c,.slice ax x.length cx] 49)
   have hO3:=Ox.later hO hba
   have hB3:=hB.trans (hba.mono hz)
   have hz3:=hB3.size
   clear hr hsx hO hB hba
   go_wp2_with fail
   clear hcx
   generalize hgg:w2.alloc (.cells #[.slice a u.length c,.slice ax x.length cx] 49)=w3 at*
   clear hgg
   refine (HC.out).mono ?_
   rintro e w4 ⟨a4,c4,x4,rfl,hx4,hs4,hb4⟩
   have hO4:=Ox.later hO3 hb4
   have hB4:=hB3.trans (hb4.mono hz3)
   have hz4:=hB4.size
   have hS4:=hs4.anti (M':=fun k=>(Value.slice a2 K.length c2).ownBlock=some k∨k<w.heap.size) fun k _ hm=>by
    rcases hm with hm|hm
    ·exact (hO3.lt k hm).2
    omega
   have hKn:Hid ((l.take (k+1)).map (fun v=>u++v)=K++[x4]):=by unfold Hid;rw [hKn.out,hx4.out,flat2]
   clear HC hb4 hs4 hO3 hB3 hx4
   go_wp2_with (at_builtin;refine wpList_push_x (n0:=w.heap.size) (B:=w.heap.size) (r:=x4) (ar:=a4) (cr:=c4) rfl rfl Tryz.underlying22 info_ints rfl rfl (hO4.alloc _) (by simp [go_sem]) (hS4.alloc _) hK12 (by simp;omega) ?_)
   intro a5 c5 K5 w5 hK5 hO5 hbk hgr
   have hB5:=(hB4.alloc hz4 (.cells #[.slice a4 x4.length c4] 49)).grown hgr (by simp;omega) (fun k hk=>(hO4.lt k hk).1)
   have hKn:Hid (K5=(l.take (k+1)).map (fun v=>u++v)):=by unfold Hid;rw [hK5.out,hKn.out]
   clear hK5 hbk hgr hO4 hB4 hS4
   go_wp2
   go_roundw
   case rel=>exact ⟨k+1,a5,c5,K5,by omega,by go_num,rfl,hKn,hO5,hB5⟩
   case measure=>simp [intOf];omega
  have hKn:Hid (K=l.map (fun v=>u++v)):=by unfold Hid;rw [hK.out,List.take_of_length_le (by omega)]
  have hSl:=hO.toSl (Nat.le_refl _)
  go_wp2
  go_ret
  exact ⟨a2,c2,K,rfl,hKn,hSl,hB⟩
def grW (l:List (List (List Int))):Nat:=l.foldl (fun n r=>max n r.length) 1
theorem grW_succ {l:List (List (List Int))} {k:Nat} {r:List (List Int)} (h:l[k]? =some r):grW (l.take (k+1))=max (grW (l.take k)) r.length:=by
 unfold grW
 rw [List.take_add_one,h,List.foldl_append];rfl
theorem greatest_any {l:List (List (List Int))} (hs:Sl M w a c l):
    Calls Tryz.prog 84 #[.slice a l.length c] w fun e w'=>e= .returned (.int .i64 (grW l))∧w'=w:=by
 have hll:=hs.le
 go_enter Tryz.func84,Tryz.ntmps84
 go_wp2
 go_loop [3,8] (fun v i=>∃k n:Nat,k≤l.length∧i= .int .i64 k∧v= .int .i64 n∧Hid (n=grW (l.take k))∧n≤9223372036854775807) (fun _ i=>l.length-(intOf i).toNat)
 case atStart=>exact ⟨0,1,by omega,rfl,rfl,rfl,by omega⟩
 case round=>
  obtain ⟨k,n,hk,rfl,rfl,hn,hnl⟩:=hrel
  by_cases hlt:k<l.length
  ·obtain ⟨b1,o1,ax,x,cx,rfl,hcx,hx,hsx⟩:=hs.at_row hlt
   have hxl:=hsx.le
   have hn2:Hid (max n x.length=grW (l.take (k+1))):=by unfold Hid;rw [grW_succ hx.out,hn.out]
   by_cases hm:n≤x.length
   ·have hn3:Hid (x.length=grW (l.take (k+1))):=by rw [Nat.max_eq_right hm] at hn2;exact hn2
    have hm2:max (n:Int) (x.length:Int)=(x.length:Int):=by omega
    go_wp2
    go_round
    case rel=>exact ⟨k+1,x.length,by omega,by go_num,by go_num,hn3,hxl⟩
    case measure=>simp [intOf];omega
   have hn3:Hid (n=grW (l.take (k+1))):=by rw [Nat.max_eq_left (by omega)] at hn2;exact hn2
   have hm2:max (n:Int) (x.length:Int)=(n:Int):=by omega
   go_wp2
   go_round
   case rel=>exact ⟨k+1,n,by omega,by go_num,by go_num,hn3,hnl⟩
   case measure=>simp [intOf];omega
  have hn3 : Hid (n = grW l) := by
   have:=hn.out
   rw [List.take_of_length_le (by omega)] at this
   exact this
  go_wp2
  go_ret
  exact ⟨ret_i (by rw [hn3.out]),rfl⟩
end
def tailW (m:Mach) (ids:List (List (List Int))) (w:List Int):List (List Int):=if ids.getD (m.endW m.start w).toNat []=[] then [[]] else ids.getD (m.endW m.start w).toNat []
section
variable {M M' M'':Nat→Prop} {w:World} {an ao a b:Option Addr} {cn co c d:Nat} {m:Mach} {ids:List (List (List Int))} {l:List Int}
theorem tails_any (hm:Ma M w an cn ao co m) (hi:Sl M' w a c ids) (hw:Sl M'' w b d l) (ok:Hid m.Ok) (hwe:Hid (wErr l m.inputs=0)) (hil:Hid (ids.length=m.next.length)) (hsm:Hid (∀r∈ids,Small9 r)):
    Calls Tryz.prog 80 #[maV m an cn ao co,.slice a ids.length c,.slice b l.length d] w fun e w'=>∃(a':Option Addr) (c':Nat) (L:List (List Int)),e= .returned (.tuple #[.slice a' L.length c',.int .i64 0])∧Hid (L=tailW m ids l)∧
     Sl (fun k=>k<w.heap.size) w' a' c' L∧Below w.heap.size w w':=by
 have hB0:=(Below.refl w.heap.size w).alloc (Nat.le_refl _) (maO m an cn ao co)
 have hx0:C4 (w.alloc (maO m an cn ao co)) w.heap.size an cn ao co m:=c4_new w
 have hz0:w.heap.size+1≤(w.alloc (maO m an cn ao co)).heap.size:=by simp
 have l1:=hm.next.le
 have l2:=hi.le
 have n1:=ok.out.n1
 have HM:=Lib.hid hm
 have HI:=Lib.hid (hi.anti (M':=fun _=>False) fun _ _ h=>h.elim)
 have HW:=Lib.hid hw
 have hfr:=Mach.frErr_0 (start_ok ok.out) hwe.out
 have hen:=Mach.endW_range ok.out l m.start ok.out.s0 ok.out.s1 (Mach.okS_of hwe.out).1
 obtain ⟨s,hs⟩:=Int.eq_ofNat_of_zero_le hen.1
 have hsn:s<ids.length:=by rw [hil.out];omega
 have HC:=from_any (HM.out.below hB0) (HW.out.below hB0) m.start
 rw [hfr.1,hfr.2.2,hs] at HC
 have HC:=Lib.hid HC
 have HSE:=Lib.hid hs
 have hne:(((ids.length:Nat):Int) !=((m.next.length:Nat):Int))=false:=by simp [hil.out]
 clear hm hi hw hfr hen hs
 go_enter Tryz.func80,Tryz.ntmps80
 go_wp2_with fail
 generalize w.alloc (maO m an cn ao co)=w0 at*
 refine (HC.out).mono ?_
 rintro e w1 ⟨a1,c1,q1,rfl, -, -,hb1⟩
 have hB1:=hB0.trans (hb1.mono (by omega))
 have hx1:=hx0.below hb1 (by omega)
 have hz1:w.heap.size+1≤w1.heap.size:=by have:=hb1.size;omega
 obtain ⟨b2,o2,a2,r,c2,rfl,hc2,hr,hs2⟩:=(HI.out.below hB1).at_row hsn
 have hgr:Hid (ids.getD (m.endW m.start l).toNat []=r):=by unfold Hid;rw [HSE.out,Int.toNat_natCast,List.getD_eq_getElem?_getD,hr.out];rfl
 have hsr:=hsm.out r (List.mem_of_getElem? hr.out)
 have hrl:=hs2.le
 clear HC hB0 hx0 hz0 hb1
 by_cases h0:r=[]
 ·have hr0:((r.length:Nat):Int)=0:=by simp [h0]
  have hF:Hid ([([]:List Int)]=tailW m ids l):=by unfold Hid tailW;rw [hgr.out,if_pos h0]
  clear h0 hsr hs2
  go_wp2
  have hS2:Hid (Sl (fun k=>k<w.heap.size) (w1.alloc (.cells #[.slice none 0 0] 49)) (some ⟨w1.heap.size,0,none⟩) 1 [([]:List Int)]):=by
   refine Sl.litr (heap_alloc_new _ _) (by show ¬w1.heap.size<w.heap.size;omega) rfl (by unfold maxLen;omega) fun j x hj=> ?_
   match j,hj with
   |0,hj=>simp at hj;subst hj;exact ⟨none,0,rfl,Sl.nil _ _ _ (by unfold maxLen;omega)⟩
  have hB2:=hB1.alloc (by omega) (.cells #[.slice none 0 0] 49)
  go_ret2
  exact ⟨some ⟨w1.heap.size,0,none⟩,1,[[]],rfl,hF,hS2.out,hB2⟩
 have hr0:0<r.length:=List.length_pos_iff.2 h0
 have hF:Hid (r=tailW m ids l):=by unfold Hid tailW;rw [hgr.out,if_neg h0]
 have HC:=Lib.hid (behind_any (Sl.nil (α:=Int) (fun _=>False) w1 none (c:=0) (by unfold maxLen;omega)) hs2 (Lib.hid hsr) (by simp))
 clear h0 hsr hs2
 go_wp2_with fail
 refine (HC.out).mono ?_
 rintro e w2 ⟨a3,c3,L,rfl,hL,hs3,hb2⟩
 have hB2:=hB1.trans (hb2.mono (by omega))
 have hF2:Hid (L=tailW m ids l):=by unfold Hid;rw [hL.out,←hF.out];simp
 have hs4:=hs3.anti (M':=fun k=>k<w.heap.size) fun k _ hk=>by omega
 clear hL hs3 hb2 HC
 go_wp2
 go_ret2
 exact ⟨a3,c3,L,rfl,hF2,hs4,hB2⟩
end
section
variable {M M':Nat→Prop} {w:World} {a b:Option Addr} {c d:Nat} {l:List (List Int)} {x:List Int}
end
structure ShW (l R:List (List Int)) (i:Nat):Prop where
 len:R.length=l.length+1
 low:∀j,j≤i→R[j]? =(l++[[]])[j]?
 high:∀j,i<j→j≤l.length→R[j]? =l[j-1]?
theorem ShW.start {l:List (List Int)}:ShW l (l++[[]]) l.length:=⟨by simp,fun _ _=>rfl,fun j h1 h2=>by omega⟩
theorem ShW.step {l R:List (List Int)} {i:Nat} {r:List Int} (h:ShW l R i) (hi:0<i) (hil:i≤l.length) (hr:R[i-1]? =some r):ShW l (R.set i r) (i-1):=by
 refine ⟨by simpa using h.len,fun j hj=> ?_,fun j h1 h2=> ?_⟩
 ·rw [List.getElem?_set_ne (by omega)];exact h.low j (by omega)
 by_cases e:i=j
 ·subst e
  rw [List.getElem?_set_self (by have:=h.len;omega),←hr,h.low _ (by omega),List.getElem?_append_left (by omega)]
 rw [List.getElem?_set_ne e];exact h.high j (by omega) h2
theorem ShW.done {l R:List (List Int)} {p:Nat} (h:ShW l R p) (hp:p≤l.length) (x:List Int):R.set p x=l.take p++x::l.drop p:=by
 apply List.ext_getElem?
 intro j
 have hl:=h.len
 by_cases e:p=j
 ·subst e
  rw [List.getElem?_set_self (by omega),List.getElem?_append_right (by rw [List.length_take];omega),List.length_take,Nat.min_eq_left hp,Nat.sub_self]
  rfl
 rw [List.getElem?_set_ne e]
 by_cases hj:j<p
 ·rw [h.low j (by omega),List.getElem?_append_left (by omega),List.getElem?_append_left (by rw [List.length_take];omega),List.getElem?_take,if_pos hj]
 rw [List.getElem?_append_right (by rw [List.length_take];omega),List.length_take,Nat.min_eq_left hp]
 obtain ⟨q,hq⟩:∃q,j-p=q+1:=⟨j-p-1,by omega⟩
 rw [hq,List.getElem?_cons_succ,List.getElem?_drop]
 by_cases hjl:j≤l.length
 ·rw [h.high j (by omega) hjl];congr 1;omega
 rw [List.getElem?_eq_none (by omega),List.getElem?_eq_none (by omega)]
section
variable {M':Nat→Prop} {w:World} {n0 B:Nat} {a b:Option Addr} {c d:Nat} {l:List (List Int)} {x:List Int}
end
section
variable {M M':Nat→Prop} {w w':World} {a b:Option Addr} {c d:Nat} {l l2:List (List Int)}
end
end Go.Proofs.YtjagagpcjpcjjaaGreat
