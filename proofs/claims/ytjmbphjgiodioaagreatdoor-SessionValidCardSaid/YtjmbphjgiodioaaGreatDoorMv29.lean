/- Several texts, one behind the other. Conditions: as each of them says. -/
import Derived.Test.YtjmbphjgiodioaaGreatDoorMv26
import Derived.Test.YtjmbphjgiodioaaGreatDoorMv10
import Derived.Test.YtjmbphjgiodioaaGreatDoorMv9
import Derived.Test.YtjmbphjgiodioaaGreatDoorMv7
import Derived.IntWalk
set_option maxRecDepth 100000
set_option maxHeartbeats 32000000
namespace Go.Proofs.YtjmbphjgiodioaaGreatDoor
open Go.RowKit Go.Sort
structure Mv (L R:List (List Int)) (k p:Nat):Prop where
 len:R.length=L.length
 done:R.take k=cpc (L.take p)
 kl:k=(cpc (L.take p)).length
 rest:∀i,p≤i+1→R[i]? =L[i]?
theorem cpc_le (l:List (List Int)):(cpc l).length≤l.length:=by
 cases l with
 |nil=>simp [cpc]
 |cons v l=>have:=cpt_le v l;simp [cpc];exact this
theorem Mv.start {L:List (List Int)} {k:Nat} {x:List Int} (h0:0<k) (hd:Dist L k) (hx:L[k]? =some x) (hy:L[k-1]? =some x):Mv L L k (k+1):=by
 have hkl:k<L.length:=by
  by_cases e:k<L.length
  ·exact e
  rw [List.getElem?_eq_none (by omega)] at hx;simp at hx
 have e:cpc (L.take (k+1))=L.take k:=by rw [cpc_step h0 hx hy,if_pos rfl];exact hd
 exact ⟨rfl,e.symm,by rw [e,List.length_take];omega,fun _ _=>rfl⟩
theorem Mv.lt {L R:List (List Int)} {k p:Nat} (h:Mv L R k p) (hp:p≤L.length):k≤p:=by
 have:=cpc_le (L.take p)
 rw [List.length_take] at this
 have:=h.kl
 omega
theorem Mv.same {L R:List (List Int)} {k p:Nat} {x:List Int} (h:Mv L R k p) (h0:0<p) (hx:L[p]? =some x) (hy:L[p-1]? =some x):Mv L R k (p+1):=by
 have e:cpc (L.take (p+1))=cpc (L.take p):=by rw [cpc_step h0 hx hy,if_pos rfl]
 exact ⟨h.len,by rw [e];exact h.done,by rw [e];exact h.kl,fun i hi=>h.rest i (by omega)⟩
theorem Mv.diff {L R:List (List Int)} {k p:Nat} {x y:List Int} (h:Mv L R k p) (h0:0<p) (hk:k<p) (hx:L[p]? =some x) (hy:L[p-1]? =some y) (hxy:x≠y):Mv L (R.set k x) (k+1) (p+1):=by
 have hpl:p<L.length:=by
  by_cases e:p<L.length
  ·exact e
  rw [List.getElem?_eq_none (by omega)] at hx;simp at hx
 have e:cpc (L.take (p+1))=cpc (L.take p)++[x]:=by rw [cpc_step h0 hx hy,if_neg hxy]
 have hl:=h.len
 refine ⟨by simpa using h.len,?_,by rw [e,List.length_append,←h.kl];rfl,fun i hi=> ?_⟩
 ·rw [e,←h.done,List.take_add_one,List.take_set_of_le (Nat.le_refl _),List.getElem?_set_self (by omega)]
  rfl
 rw [List.getElem?_set_ne (by omega)]
 exact h.rest i (by omega)
theorem ret_sl {a:Option Addr} {n m c:Nat} (h:n=m):Ending.returned (.slice a n c)= .returned (.slice a m c):=by rw [h]
theorem bel_cells {B g:Nat} {w:World} (hg:B≤g):∀(vs:List Value) (k:Nat) (w1:World),Below B w w1→Below B w (w1.setCells g k vs)
 |[],_,_,h=>h
 |v::vs,k,_,h=>bel_cells hg vs (k+1) _ (h.setCell (p:=⟨g,k,none⟩) hg v)
section
variable {w:World} {B g c bo:Nat} {L:List (List Int)}
theorem compC_any (hO:Ow B (fun k=>k=g) w 94 (.slice (some ⟨g,0,none⟩) L.length c) L) (hg:B≤g) (hb:w.cell? ⟨bo,0,none⟩=some (.func (.func 108) #[] #[])) (hbo:bo<B) (hn:L.length<1000000000000) (hBw:B≤w.heap.size):
    Calls Tryz.prog 296 #[.slice (some ⟨g,0,none⟩) L.length c,.func (.func 297) #[] #[.pointer (some ⟨bo,0,none⟩)]] w fun e w'=>∃R:List (List Int),e= .returned (.slice (some ⟨g,0,none⟩) R.length c)∧Hid (R=cpc L)∧
     Ow B (fun k=>k=g) w' 94 (.slice (some ⟨g,0,none⟩) R.length c) R∧Below B w w':=by
 have hcap:L.length≤c∧c≤9223372036854775807:=by
  obtain ⟨a',c',hv,h1,h2⟩:=hO.shape
  simp only [Value.slice.injEq,true_and] at hv
  obtain ⟨_,rfl⟩:=hv
  exact ⟨h1,by unfold maxLen at h2;exact h2⟩
 have hcapN:=hcap.1
 have hcapM:=hcap.2
 have HB:Hid (∀w',Below B w w'→w'.cell? ⟨bo,0,none⟩=some (.func (.func 108) #[] #[])):=fun w' h=>(h.cell (p:=⟨bo,0,none⟩) hbo).trans hb
 have hB0:=Below.refl B w
 clear hcap hb
 by_cases h2:L.length<2
 ·have HF:=Lib.hid (short_cpc h2)
  go_enter Tryz.func296,Tryz.ntmps296
  go_wp2
  go_ret
  exact ⟨L,rfl,HF.out,hO,hB0⟩
 go_enter Tryz.func296,Tryz.ntmps296
 go_wp2
 go_loopw [5] (fun i wr=>∃k:Nat,1≤k∧k≤L.length∧i= .int .i64 k∧Hid (Dist L k)∧Ow B (fun k=>k=g) wr 94 (.slice (some ⟨g,0,none⟩) L.length c) L∧Below B w wr∧B≤wr.heap.size) (fun i _=>L.length-(intOf i).toNat)
 case atStart=>exact ⟨1,by omega,by omega,rfl,dist_one,hO,hB0,hBw⟩
 case round=>
  clear hO hB0 hBw
  obtain ⟨k,hk1,hk,rfl,hD,hO,hB,hBw⟩:=hrel
  obtain ⟨w1,rfl⟩:∃w1:World,w1=wr:=⟨_,rfl⟩
  by_cases hlt:k<L.length
  ·obtain ⟨ax,x,cx,hcx, -,hx,hsx⟩:=(hO.drew).at_row rfl hlt
   obtain ⟨ay,y,cy,hcy, -,hy,hsy⟩:=(hO.drew).at_row rfl (show k-1<L.length by omega)
   have hk1':((k:Int)-1)=((k-1:Nat):Int):=by omega
   have hkw:IntKind.i64.wrap ((k-1:Nat):Int)=((k-1:Nat):Int):=IntWalk.i64_in _ (by omega)
   have hkl:k-1<L.length:=by omega
   have HC:=ordC_any hsx hsy (HB.out _ hB.drew)
   have hbd:=(Below.refl w1.heap.size w1).drew
   have hOd:=hO.drew
   have hBd:=hB.drew
   have hBwd:B≤w1.drew.heap.size:=hBw
   by_cases hxy:x=y
   ·rw [decide_eq_true hxy] at HC
    have HC:=Lib.hid HC
    have hM0:=Lib.hid (Mv.start (by omega) hD.out hx.out (by rw [hy.out,hxy]))
    clear hO hB hBw hsx hsy hbd hxy
    go_wp2
    refine wp_region_L (fun w'=>w'.cell? ⟨g,k,none⟩=some (.slice ax x.length cx)∧w'.cell? ⟨g,k-1,none⟩=some (.slice ay y.length cy)) [0,1,2,3,4,5,6,7,8,9] (by kernel_rfl) ?_
    have hSd:=And.intro hcx hcy
    clear hcx hcy
    generalize hgg:w1.drew=w2 at*
    clear hgg
    refine skL_on [0,1,2,3,4,5,6,7,8,9] ?_
    repeat (refine skL_take (v:= ?_) rfl ?_ ?_;rotate_left;(focus (intro w' hSw;(try dsimp only at hSw);go_simp;try with_reducible rfl));try simp only [Act.put,List.setIfInBounds_toArray,List.set_cons_zero,List.set_cons_succ])
    refine skL_off ?_
    refine wpAnyL_one (i:=10) (by kernel_rfl) rfl rfl (fun K hK=> ?_)
    go_simp
    refine (HC.out).mono ?_
    rintro e w3 ⟨rfl,hb3⟩
    have hgl:g<w2.heap.size:=(hOd.lt g rfl).2
    have hS3:=And.intro ((hb3.cell (p:=⟨g,k,none⟩) hgl).trans hSd.1) ((hb3.cell (p:=⟨g,k-1,none⟩) hgl).trans hSd.2)
    have hO3:=hOd.below hb3
    have hB3:=hBd.trans (hb3.mono hBwd)
    have hBw3:B≤w3.heap.size:=Nat.le_trans hBwd hb3.size
    refine hK _ _ (fun _=>hS3) ?_
    clear hK K hS3 hSd hb3 hOd hBd hBwd HC
    refine wpAnyL_done (by kernel_rfl) ?_ _
    have hck:¬c=k:=by omega
    have hkk0:k<k+1:=by omega
    go_wp2
    go_loopw [5,7] (fun v u wr=>∃(kk k2:Nat) (R:List (List Int)),1≤k2∧k2≤L.length-k∧kk<k+k2∧v= .int .i64 kk∧u= .int .i64 k2∧Hid (Mv L R kk (k+k2))∧Ow B (fun k=>k=g) wr 94 (.slice (some ⟨g,0,none⟩) L.length c) R∧Below B w wr∧B≤wr.heap.size) (fun _ u _=>L.length-(intOf u).toNat)
    case atStart=>exact ⟨k,1,L,by omega,by omega,hkk0,rfl,rfl,hM0,hO3,hB3,hBw3⟩
    case round=>
     clear hO3 hB3 hBw3 hM0 hkk0
     obtain ⟨kk,k2,R,hk21,hk2,hkk,rfl,rfl,hMv,hO,hB,hBw⟩:=hrel
     obtain ⟨w4,rfl⟩:∃w4:World,w4=wr:=⟨_,rfl⟩
     have hRL:L.length=R.length:=hMv.out.len.symm
     have HRL:=Lib.hid hRL
     by_cases hlt2:k2<L.length-k
     ·have hlt3:(k2:Int)<((L.length-k:Nat):Int):=by omega
      obtain ⟨ax,x,cx,hcx, -,hx,hsx⟩:=(hO.drew).at_row hRL (show k+k2<R.length by omega)
      obtain ⟨ay,y,cy,hcy, -,hy,hsy⟩:=(hO.drew).at_row hRL (show k+(k2-1)<R.length by omega)
      have hxL:Hid (L[k+k2]? =some x):=by unfold Hid;rw [←hMv.out.rest _ (by omega)];exact hx.out
      have hyL:Hid (L[k+k2-1]? =some y):=by unfold Hid;rw [←hMv.out.rest _ (by omega),show k+k2-1=k+(k2-1) by omega];exact hy.out
      have hk1':((k2:Int)-1)=((k2-1:Nat):Int):=by omega
      have hkw:IntKind.i64.wrap ((k2-1:Nat):Int)=((k2-1:Nat):Int):=IntWalk.i64_in _ (by omega)
      have hkl2:k2-1<L.length-k:=by omega
      have HC:=ordC_any hsx hsy (HB.out _ hB.drew)
      have hbd:=(Below.refl w4.heap.size w4).drew
      have hOd:=hO.drew
      have hBd:=hB.drew
      have hBwd:B≤w4.drew.heap.size:=hBw
      by_cases hxy:x=y
      ·rw [decide_eq_true hxy] at HC
       have HC:=Lib.hid HC
       have hM2:Hid (Mv L R kk (k+(k2+1))):=hMv.out.same (by omega) hxL.out (by rw [hyL.out,hxy])
       clear hO hB hBw hsx hsy hbd hxy hRL
       go_wp2
       refine wp_region_L (fun w'=>w'.cell? ⟨g,k+k2,none⟩=some (.slice ax x.length cx)∧w'.cell? ⟨g,k+(k2-1),none⟩=some (.slice ay y.length cy)) [0,1,2,3,4,5,6,7,8,9,11] (by kernel_rfl) ?_
       have hSd:=And.intro hcx hcy
       clear hcx hcy
       generalize hgg:w4.drew=w5 at*
       clear hgg
       refine skL_on [0,1,2,3,4,5,6,7,8,9] ?_
       repeat (refine skL_take (v:= ?_) rfl ?_ ?_;rotate_left;(focus (intro w' hSw;(try dsimp only at hSw);go_simp;try with_reducible rfl));try simp only [Act.put,List.setIfInBounds_toArray,List.set_cons_zero,List.set_cons_succ])
       refine skL_off ?_
       refine wpAnyL_one (i:=10) (by kernel_rfl) rfl rfl (fun K hK=> ?_)
       go_simp
       refine (HC.out).mono ?_
       rintro e w6 ⟨rfl,hb6⟩
       have hgl:g<w5.heap.size:=(hOd.lt g rfl).2
       have hS6:=And.intro ((hb6.cell (p:=⟨g,k+k2,none⟩) hgl).trans hSd.1) ((hb6.cell (p:=⟨g,k+(k2-1),none⟩) hgl).trans hSd.2)
       have hO6:=hOd.below hb6
       have hB6:=hBd.trans (hb6.mono hBwd)
       have hBw6:B≤w6.heap.size:=Nat.le_trans hBwd hb6.size
       refine hK _ _ (fun _=>hS6) ?_
       clear hK K hSd hb6 hOd hBd hBwd HC
       refine skL_on [11] ?_
       repeat (refine skL_take (v:= ?_) rfl ?_ ?_;rotate_left;(focus (intro w' hSw;(try dsimp only at hSw);go_simp;try with_reducible rfl));try simp only [Act.put,List.setIfInBounds_toArray,List.set_cons_zero,List.set_cons_succ])
       refine skL_off ?_
       clear hS6
       refine wpAnyL_done (by kernel_rfl) ?_ _
       go_wp2
       go_roundw
       case rel=>exact ⟨kk,k2+1,R,by omega,by omega,by omega,rfl,by go_num,hM2,hO6,hB6,hBw6⟩
       case measure=>simp [intOf];omega
      rw [decide_eq_false hxy] at HC
      have HC:=Lib.hid HC
      have hM2:Hid (Mv L (R.set kk x) (kk+1) (k+(k2+1))):=hMv.out.diff (by omega) hkk hxL.out hyL.out hxy
      have HSX:=Lib.hid hsx
      clear hO hB hBw hsx hsy hbd hxy hRL
      go_wp2
      refine wp_region_L (fun w'=>w'.cell? ⟨g,k+k2,none⟩=some (.slice ax x.length cx)∧w'.cell? ⟨g,k+(k2-1),none⟩=some (.slice ay y.length cy)) [0,1,2,3,4,5,6,7,8,9,11] (by kernel_rfl) ?_
      have hSd:=And.intro hcx hcy
      clear hcx hcy
      generalize hgg:w4.drew=w5 at*
      clear hgg
      refine skL_on [0,1,2,3,4,5,6,7,8,9] ?_
      repeat (refine skL_take (v:= ?_) rfl ?_ ?_;rotate_left;(focus (intro w' hSw;(try dsimp only at hSw);go_simp;try with_reducible rfl));try simp only [Act.put,List.setIfInBounds_toArray,List.set_cons_zero,List.set_cons_succ])
      refine skL_off ?_
      refine wpAnyL_one (i:=10) (by kernel_rfl) rfl rfl (fun K hK=> ?_)
      go_simp
      refine (HC.out).mono ?_
      rintro e w6 ⟨rfl,hb6⟩
      have hgl:g<w5.heap.size:=(hOd.lt g rfl).2
      have hS6:=And.intro ((hb6.cell (p:=⟨g,k+k2,none⟩) hgl).trans hSd.1) ((hb6.cell (p:=⟨g,k+(k2-1),none⟩) hgl).trans hSd.2)
      have hO6:=hOd.below hb6
      have hB6:=hBd.trans (hb6.mono hBwd)
      have hBw6:B≤w6.heap.size:=Nat.le_trans hBwd hb6.size
      have HSX:=Lib.hid (HSX.out.below hb6)
      refine hK _ _ (fun _=>hS6) ?_
      clear hK K hSd hb6 hOd hBd hBwd HC
      refine skL_on [11] ?_
      repeat (refine skL_take (v:= ?_) rfl ?_ ?_;rotate_left;(focus (intro w' hSw;(try dsimp only at hSw);go_simp;try with_reducible rfl));try simp only [Act.put,List.setIfInBounds_toArray,List.set_cons_zero,List.set_cons_succ])
      refine skL_off ?_
      obtain ⟨hcx6, -⟩:=hS6
      obtain ⟨az,z,cz,hcz,hfz, -, -⟩:=hO6.at_row HRL.out (show kk<R.length by have:=HRL.out;omega)
      have hO7:=Lib.hid (hO6.set_row HRL.out rfl kk HSX.out)
      have hB7:=Lib.hid (hB6.setCell (p:=⟨g,kk,none⟩) hg (.slice ax x.length cx))
      have hBw7:Hid (B≤(w6.setCell ⟨g,kk,none⟩ (.slice ax x.length cx)).heap.size):=by unfold Hid;simpa using hBw6
      have hkl3:kk<L.length:=by omega
      clear hO6 hB6 hBw6 HSX
      refine wpAnyL_done (by kernel_rfl) ?_ _
      go_wp2
      go_roundw
      case rel=>exact ⟨kk+1,k2+1,R.set kk x,by omega,by omega,by omega,by go_num,by go_num,hM2,hO7.out,hB7.out,hBw7.out⟩
      case measure=>simp [intOf];omega
     have hlt3:¬(k2:Int)<((L.length-k:Nat):Int):=by omega
     have hckk:¬c=kk:=by omega
     have hkkn:kk<L.length:=by omega
     have hcl:∀ty,(Builtin.clear_ #[27] ty #[.slice (some ⟨g,kk,none⟩) (L.length-kk) (c-kk)]).run Tryz.prog w4= .ok (.tuple #[]) (w4.setCells g kk (List.replicate (L.length-kk) (.slice none 0 0))):=
      fun ty=>Lib.run_clear_slice w4 _ _ ty _ Tryz.underlying27 Tryz.zeroValue94 rfl rfl g kk _ _ (by omega) (fun j hj=>by obtain ⟨az,z,cz,hcz,hfz, -, -⟩:=hO.at_row hRL (show kk+j<R.length by omega);rw [hcz];rfl) (fun j hj=>by obtain ⟨az,z,cz,hcz,hfz, -, -⟩:=hO.at_row hRL (show kk+j<R.length by omega);exact hfz)
     have hM3:Hid (R.take kk=cpc L∧(R.take kk).length=kk):=by
      have e:=hMv.out.done
      rw [show k+k2=L.length by omega,List.take_length] at e
      exact ⟨e,by rw [List.length_take];omega⟩
     obtain ⟨R',e1,e2,hO8⟩:=Ow.clear (M:=fun k=>k=g) rfl (L.length-kk) kk R w4 hO hRL (by omega)
     have hR'k:(R'.take kk).length=kk:=by rw [List.length_take];omega
     have hO9:=Lib.hid (hO8.take e1.symm (show kk≤L.length by omega))
     have hE9:Hid (R'.take kk=cpc L):=by unfold Hid;rw [e2];exact hM3.out.1
     have hB9:Hid (Below B w (w4.setCells g kk (List.replicate (L.length-kk) (.slice none 0 0)))):=bel_cells hg _ _ _ hB
     have HR':=Lib.hid hR'k
     clear hO hB hBw hMv hM3 hO8 e1 e2 hR'k hRL HRL
     go_wp2
     go_ret
     refine ⟨R'.take kk,ret_sl HR'.out.symm,hE9,?_,hB9.out⟩
     rw [HR'.out];exact hO9.out
   rw [decide_eq_false hxy] at HC
   have HC:=Lib.hid HC
   have hD2:=Lib.hid (dist_succ (by omega) hx.out hy.out hD.out hxy)
   clear hO hB hBw hsx hsy hbd hxy
   go_wp2
   refine wp_region_L (fun w'=>w'.cell? ⟨g,k,none⟩=some (.slice ax x.length cx)∧w'.cell? ⟨g,k-1,none⟩=some (.slice ay y.length cy)) [0,1,2,3,4,5,6,7,8,9] (by kernel_rfl) ?_
   have hSd:=And.intro hcx hcy
   clear hcx hcy
   generalize hgg:w1.drew=w2 at*
   clear hgg
   refine skL_on [0,1,2,3,4,5,6,7,8,9] ?_
   repeat (refine skL_take (v:= ?_) rfl ?_ ?_;rotate_left;(focus (intro w' hSw;(try dsimp only at hSw);go_simp;try with_reducible rfl));try simp only [Act.put,List.setIfInBounds_toArray,List.set_cons_zero,List.set_cons_succ])
   refine skL_off ?_
   refine wpAnyL_one (i:=10) (by kernel_rfl) rfl rfl (fun K hK=> ?_)
   go_simp
   refine (HC.out).mono ?_
   rintro e w3 ⟨rfl,hb3⟩
   have hgl:g<w2.heap.size:=(hOd.lt g rfl).2
   have hS3:=And.intro ((hb3.cell (p:=⟨g,k,none⟩) hgl).trans hSd.1) ((hb3.cell (p:=⟨g,k-1,none⟩) hgl).trans hSd.2)
   have hO3:=hOd.below hb3
   have hB3:=hBd.trans (hb3.mono hBwd)
   have hBw3:B≤w3.heap.size:=Nat.le_trans hBwd hb3.size
   refine hK _ _ (fun _=>hS3) ?_
   clear hK K hS3 hSd hb3 hOd hBd hBwd HC
   refine wpAnyL_done (by kernel_rfl) ?_ _
   go_wp2
   go_roundw
   case rel=>exact ⟨k+1,by omega,by omega,by go_num,hD2,hO3,hB3,hBw3⟩
   case measure=>simp [intOf];omega
  have HF:=Lib.hid (dist_all hlt hD.out)
  go_wp2
  go_ret
  exact ⟨L,rfl,HF.out,hO,hB⟩
end
end Go.Proofs.YtjmbphjgiodioaaGreatDoor
namespace Go.Proofs.YtjmbphjgiodioaaGreatDoor
open Go.RowKit Go.Sort Go.Shelf
def Fr (w:World) (n0 g j:Nat) (R:List (List Int)):Prop:=∀i r,i<j→R[i]? =some r→∃a c,w.cell? ⟨g,i,none⟩=some (.slice a r.length c)∧Sl (fun k=>k<n0∨k=g) w a c r
section
variable {w w':World} {B n0 g j n c:Nat} {R:List (List Int)} {T:TypeId}
theorem Fr.below (h:Fr w n0 g j R) (hb:Below w.heap.size w w') (hg:g<w.heap.size):Fr w' n0 g j R:=by
 intro i r hi hr
 obtain ⟨a,c,h1,h2⟩:=h i r hi hr
 exact ⟨a,c,(hb.cell (p:=⟨g,i,none⟩) hg).trans h1,h2.below hb⟩
theorem Fr.step (h:Fr w n0 g j R) {a':Option Addr} {c':Nat} {r:List Int} (hr:R[j]? =some r) (hs:Sl (fun k=>k<n0∨k=g) w a' c' r) (hO:Ow B (fun k=>k=g) (w.setCell ⟨g,j,none⟩ (.slice a' r.length c')) T (.slice (some ⟨g,0,none⟩) R.length c) R) (hc:∃v,w.cell? ⟨g,j,none⟩=some v):
    Fr (w.setCell ⟨g,j,none⟩ (.slice a' r.length c')) n0 g (j+1) R:=by
 intro i x hi hx
 by_cases e:i=j
 ·subst e
  rw [hr] at hx
  obtain rfl:r=x:=by simpa using hx
  obtain ⟨v,hv⟩:=hc
  refine ⟨a',c',?_,hs.ext (Ext.setCell w (p:=⟨g,i,none⟩) (.inr rfl) _)⟩
  obtain ⟨a1,x1,c1,h1, -,hx1, -⟩:=hO.at_row rfl (show i<R.length by
   by_cases e:i<R.length
   ·exact e
   rw [List.getElem?_eq_none (by omega)] at hr;simp at hr)
  exact World.cell?_setCell_same _ _ _ hv
 obtain ⟨a,c,h1,h2⟩:=h i x (by omega) hx
 refine ⟨a,c,?_,h2.ext (Ext.setCell w (p:=⟨g,j,none⟩) (.inr rfl) _)⟩
 rw [World.cell?_setCell_other _ _ _ _ (fun h=>e (by simpa using (congrArg Addr.off h).symm))]
 exact h1
theorem Fr.toSl (h:Fr w n0 g R.length R) (hO:Ow B (fun k=>k=g) w T (.slice (some ⟨g,0,none⟩) R.length c) R) (hg:n0≤g):Sl (fun k=>k<n0) w (some ⟨g,0,none⟩) c R:=by
 obtain ⟨a',c',hv,h1,h2⟩:=hO.shape
 simp only [Value.slice.injEq,true_and] at hv
 obtain ⟨_,rfl⟩:=hv
 refine ⟨h1,h2,fun j x hj=> ?_⟩
 have hjl:j<R.length:=by
  by_cases e:j<R.length
  ·exact e
  rw [List.getElem?_eq_none (by omega)] at hj;simp at hj
 obtain ⟨a,c2,h3,h4⟩:=h j x hjl hj
 refine ⟨g,0,[.slice a x.length c2],rfl,(hO.lt g rfl).2,by omega,⟨a,c2,rfl,h4.anti fun k _ hk=> .inl hk⟩,fun i u hi=> ?_⟩
 match i,hi with
 |0,hi=>simp at hi;subst hi;simpa [GR.sz] using h3
end
section
variable {M:Nat→Prop} {w:World} {a:Option Addr} {c:Nat} {l:List (List Int)}
theorem sort_nil (p:Option Addr) (cap:Nat) (fv:Value) (w:World):Calls Tryz.prog 295 #[.slice p 0 cap,fv] w fun e w'=>e= .returned (.tuple #[])∧w'=w:=by
 have h:=AnyF.slices_SortFunc_none (P:=Tryz.prog) (ρ:=Tryz.sortRows_ren) {Tryz.sortRows with} p cap fv w
 exact h
theorem comp_nil (p:Option Addr) (cap:Nat) (fv:Value) (w:World):Calls Tryz.prog 296 #[.slice p 0 cap,fv] w fun e w'=>e= .returned (.slice p 0 cap)∧w'=w:=by
 go_enter Tryz.func296,Tryz.ntmps296
 go_wp2
 go_ret
 exact ⟨rfl,rfl⟩
theorem set_self {α:Type} {l:List α} {j:Nat} {x:α} (h:l[j]? =some x):l.set j x=l:=by
 apply List.ext_getElem?
 intro i
 by_cases e:j=i
 ·subst e;rw [List.getElem?_set];simp only [if_true]
  split
  ·exact h.symm
  rename_i h2;rw [List.getElem?_eq_none (by omega)] at h;simp at h
 rw [List.getElem?_set_ne e]
theorem ordrdC_any (hs:Sl M w a c l) (hn:l.length<1000000000000) (hrl:Hid (∀r∈l,r.length<1000000000000)):
    Calls Tryz.prog 191 #[.slice a l.length c,.func (.func 108) #[] #[]] w fun e w'=>∃(a':Option Addr) (c':Nat) (L:List (List Int)),e= .returned (.slice a' L.length c')∧Hid (L=srt cmpW l)∧
     Sl (fun k=>k<w.heap.size) w' a' c' L∧Below w.heap.size w w':=by
 have hB0:=(Below.refl w.heap.size w).alloc (Nat.le_refl _) (.cells #[.func (.func 108) #[] #[]] 133)
 have hb0:(w.alloc (.cells #[.func (.func 108) #[] #[]] 133)).cell? ⟨w.heap.size,0,none⟩=some (.func (.func 108) #[] #[]):=by simp
 have hz0:(w.alloc (.cells #[.func (.func 108) #[] #[]] 133)).heap.size=w.heap.size+1:=by simp
 have HZ0:=Lib.hid hz0
 have HC:=Lib.hid (cloneR_any (hs.alloc (.cells #[.func (.func 108) #[] #[]] 133)) hn)
 clear hs hz0
 by_cases h0:l=[]
 ·have HL0:Hid (([]:List (List Int))=srt cmpW l):=by unfold Hid;rw [h0];rfl
  have H0:=Lib.hid h0
  clear h0
  go_enter Tryz.func191,Tryz.ntmps191
  go_wp2_with fail
  generalize hgg:w.alloc (.cells #[.func (.func 108) #[] #[]] 133)=w0 at*
  clear hgg
  refine (HC.out).mono ?_
  rintro e w1 ⟨a1,c1,l1,rfl,hl1,hO1,hb1⟩
  have hB1:=hB0.trans (hb1.mono (by have:=HZ0.out;omega))
  obtain rfl:l1=[]:=by rw [hl1.out,H0.out]
  have hc1:Hid (Sl (fun k=>k<w.heap.size) w1 a1 c1 ([]:List (List Int))):=by
   obtain ⟨a',c',hv,_,h2⟩:=hO1.shape
   simp only [Value.slice.injEq,true_and] at hv
   obtain ⟨_,rfl⟩:=hv
   exact Sl.nil _ _ _ h2
  have hb2:=(hb1.cell (p:=⟨w.heap.size,0,none⟩) (by have:=HZ0.out;show w.heap.size<_;omega)).trans hb0
  clear hb0 hb1 hO1 hl1 HC
  go_wp2_with (first|(go_at_call 295;refine (sort_nil _ _ _ _).mono ?_;rintro e w2 ⟨rfl,hw2⟩;obtain rfl:w1=w2:=hw2.symm)|(go_at_call 296;refine (comp_nil _ _ _ _).mono ?_;rintro e w2 ⟨rfl,hw2⟩;obtain rfl:w1=w2:=hw2.symm))
  refine wp_loop_rounds 1 ?_
  rw [rounds_succ]
  go_wp2
  go_ret
  exact ⟨a1,c1,[],rfl,HL0,hc1.out,hB1⟩
 go_enter Tryz.func191,Tryz.ntmps191
 go_wp2_with fail
 generalize hgg:w.alloc (.cells #[.func (.func 108) #[] #[]] 133)=w0 at*
 clear hgg
 refine (HC.out).mono ?_
 rintro e w1 ⟨a1,c1,l1,rfl,hl1,hO1,hb1⟩
 have hB1:=hb1
 have hsz1:=hb1.size
 have hb2:=(hb1.cell (p:=⟨w.heap.size,0,none⟩) (by have:=HZ0.out;show w.heap.size<_;omega)).trans hb0
 obtain ⟨g,rfl,hg,hg1⟩:=ow_some hO1 (List.length_pos_iff.2 (by rw [hl1.out];exact h0))
 have HS:=Lib.hid (sort_rows (cf:=cmpW) (hO1) hg hg (by rw [hl1.out];exact hn) cmpF_cmp tot_cmp (enters_of Tryz.func108 (by kernel_rfl) rfl))
 clear h0 hb0 hb1 HC
 go_wp2_with fail
 refine (HS.out).mono ?_
 rintro e w2 ⟨rfl,L2,hL2,hO2,hb2'⟩
 have hLl:L2.length=l.length:=by rw [hL2.out.1.length_eq,hl1.out]
 have hB2:=hB1.trans hb2'
 have hb3:=(hb2'.cell (p:=⟨w.heap.size,0,none⟩) (by have:=HZ0.out;show w.heap.size<_;omega)).trans hb2
 have hsz2:=hb2'.size
 have e12:l1.length=L2.length:=by rw [hLl,hl1.out]
 have HK:=Lib.hid (compC_any hO2 hg hb3 (by have:=HZ0.out;omega) (by omega) (by omega))
 have hE2:Hid (cpc L2=srt cmpW l):=cpc_srt tot_cmp (by rw [←hl1.out];exact hL2.out.1) hL2.out.2
 rw [e12]
 clear HS hb2 hb2' hb3 hO1 hO2 hl1 hB1 e12 hLl
 go_wp2_with fail
 refine (HK.out).mono ?_
 rintro e w3 ⟨R,rfl,hR,hO3,hb3⟩
 have hB3:=hB2.trans hb3
 have hsz3:=hb3.size
 have hRR:Hid (R=srt cmpW l):=by unfold Hid;rw [hR.out,hE2.out]
 have hRl:=hO3.le
 have hRm:Hid (∀r∈R,r.length<1000000000000):=fun r hr=>hrl.out r ((srt_mem tot_cmp).1 (by rw [←hRR.out];exact hr))
 have hBw3:w0.heap.size≤w3.heap.size:=by omega
 have hF0:Hid (Fr w3 w.heap.size g 0 R):=fun i r hi=>by omega
 clear HK hR hE2 hB2 hb3 hL2
 go_wp2
 go_loopw [18] (fun i wr=>∃j:Nat,j≤R.length∧i= .int .i64 j∧Ow w0.heap.size (fun k=>k=g) wr 94 (.slice (some ⟨g,0,none⟩) R.length c1) R∧Hid (Fr wr w.heap.size g j R)∧Below w0.heap.size w0 wr∧w0.heap.size≤wr.heap.size) (fun i _=>R.length-(intOf i).toNat)
 case atStart=>exact ⟨0,by omega,rfl,hO3,hF0,hB3,hBw3⟩
 case round=>
  clear hO3 hF0 hB3 hBw3
  obtain ⟨j,hj,rfl,hO,hF,hB,hBw⟩:=hrel
  obtain ⟨w4,rfl⟩:∃w4:World,w4=wr:=⟨_,rfl⟩
  by_cases hlt:j<R.length
  ·obtain ⟨ax,x,cx,hcx, -,hx,hsx⟩:=hO.at_row rfl hlt
   have HC:=Lib.hid (clone_any hsx (hRm.out x (List.mem_of_getElem? hx.out)))
   clear hsx
   go_wp2_with fail
   refine (HC.out).mono ?_
   rintro e w5 ⟨a5,c5,l5,rfl,hl5,hs5,hb5⟩
   have hO5:=hO.below hb5
   have hgl:g<w4.heap.size:=(hO.lt g rfl).2
   have hF5:=Lib.hid (hF.out.below hb5 hgl)
   have hB5:=hB.trans (hb5.mono hBw)
   have hBw5:w0.heap.size≤w5.heap.size:=Nat.le_trans hBw hb5.size
   obtain ⟨ay,y,cy,hcy,hfy, -, -⟩:=hO5.at_row rfl hlt
   have e5:Hid (R.set j l5=R):=set_self (by rw [hl5.out];exact hx.out)
   have hO6:=hO5.set_row (r:=l5) rfl rfl j (hs5.anti fun k _ hk=>by rw [hk];exact hgl)
   rw [e5.out] at hO6
   have hF6:=Lib.hid (Fr.step (r:=l5) hF5.out (by rw [hl5.out];exact hx.out) (hs5.anti fun k _ hk=>by have:=HZ0.out;omega) hO6 ⟨_,hcy⟩)
   have hO6:=Lib.hid hO6
   have hB6:=Lib.hid (hB5.setCell (p:=⟨g,j,none⟩) hg (.slice a5 l5.length c5))
   have hBw6:Hid (w0.heap.size≤(w5.setCell ⟨g,j,none⟩ (.slice a5 l5.length c5)).heap.size):=by unfold Hid;simpa using hBw5
   clear hO hF hB hBw hs5 hO5 hF5 hB5 hBw5 hb5 HC e5 hcx
   go_wp2
   go_roundw
   case rel=>exact ⟨j+1,by omega,by go_num,hO6.out,hF6,hB6.out,hBw6.out⟩
   case measure=>simp [intOf];omega
  have hjR:j=R.length:=by omega
  have hSl:Hid (Sl (fun k=>k<w.heap.size) w4 (some ⟨g,0,none⟩) c1 R):=Fr.toSl (by rw [←hjR];exact hF.out) hO (by have:=HZ0.out;omega)
  have hBf:=hB0.trans (hB.mono (by have:=HZ0.out;omega))
  clear hO hF hjR
  go_wp2
  go_ret
  exact ⟨some ⟨g,0,none⟩,c1,R,rfl,hRR,hSl.out,hBf⟩
theorem sorted_any (hs:Sl M w a c l) (hn:l.length<1000000000000) (hrl:Hid (∀r∈l,r.length<1000000000000)):
    Calls Tryz.prog 119 #[.slice a l.length c] w fun e w'=>∃(a':Option Addr) (c':Nat) (L:List (List Int)),e= .returned (.slice a' L.length c')∧Hid (L=srt cmpW l)∧
     Sl (fun k=>k<w.heap.size) w' a' c' L∧Below w.heap.size w w':=by
 have HC:=Lib.hid (ordrdC_any hs hn hrl)
 clear hs
 go_enter Tryz.func119,Tryz.ntmps119
 go_wp2_with fail
 refine (HC.out).mono ?_
 rintro e w1 ⟨a1,c1,L,rfl,hL,hs1,hb1⟩
 go_wp2
 go_ret
 exact ⟨a1,c1,L,rfl,hL,hs1,hb1⟩
end
end Go.Proofs.YtjmbphjgiodioaaGreatDoor
namespace Go.Proofs.YtjmbphjgiodioaaGreatDoor
open Go.RowKit
theorem blw3 {w w':World} (h:Hid (∃n,w'=w.drewN n)) (B:Nat):Below B w w':=by
 obtain ⟨n,rfl⟩:=h.out;exact below_drewN _ _ _
def Small9 (l:List (List Int)):Prop:=l.length<1000000000∧∀r∈l,r.length<1000000000
section
variable {M M':Nat→Prop} {w:World} {a b:Option Addr} {c d:Nat} {l l2:List (List Int)}
end
end Go.Proofs.YtjmbphjgiodioaaGreatDoor
