/- Several texts, one behind the other. Conditions: as each of them says. -/
import Derived.Test.YtlmfbjiejodalaaGreatDoorMx17
import Derived.Test.YtlmfbjiejodalaaGreatDoorMx9
import Derived.Test.YtlmfbjiejodalaaGreatDoorMx7
import Derived.Test.YtlmfbjiejodalaaGreatDoorMx3
set_option maxRecDepth 100000
set_option maxHeartbeats 32000000
namespace Go.Proofs.YtlmfbjiejodalaaGreatDoor
open Go.RowKit
section
variable {P:Program} {w:World} {o:Oper} {a:Act} {ops:Array Oper} {rest:List Oper} {Q:Exit→Act→World→Prop}
theorem wp_app_byG {K:Act→World→Prop} {l0 l1:List By} {s x:Operand} {t e:TypeId} {B:Nat} {M:Nat→Prop} {v:Value} {ad:Addr} {c:Nat} (hop:o.op= .call {callee:= .builtin .append,args:= #[s,x],argTypes:= #[t,t]})
    (ht:P.underlying t=some (.slice e)) (hi:(P.info? e).map (fun i=>(i.zero,i.size,i.bytes))=some (some (.int .u8 0),1,1))
    (hs:a.eval s=v) (hx:a.eval x= .slice (some ad) l1.length c) (hown:Ow B (fun k=>B≤k) w e v l0) (hsrc:Sl M w (some ad) c l1)
    (hlen:l0.length+l1.length<1000000000000) (hB:B≤w.heap.size)
    (h:∀(a':Option Addr) (c':Nat) (l':List By) (w':World),Hid (l'=l0++l1)→Ow B (fun k=>B≤k) w' e (.slice a' l'.length c') l'→Hid (∀k,(Value.slice a' l'.length c').ownBlock=some k→(v.ownBlock=some k∨k=w.heap.size)∧k<w'.heap.size)→w.grownBy w' v.ownBlock→
     K (a.put o.dst (.slice a' l'.length c')) w'):o.wp P a w K Q:=by
 obtain ⟨i,hi1,hi2,hi3,hi4⟩:=info_parts hi
 obtain ⟨xs,hr,hrep⟩:=hown
 have hnl:(l1.map byV).length=l1.length*1:=by simp
 have hnews:∀j u,(l1.map byV)[j]? =some u→w.cell? (ad.add j)=some u:=by
  intro j u hj
  rw [List.getElem?_map] at hj
  obtain ⟨y,hy,rfl⟩:=Option.map_eq_some_iff.1 hj
  have hjl:j<l1.length:=by
   by_cases e:j<l1.length
   ·exact e
   rw [List.getElem?_eq_none (by omega)] at hy;simp at hy
  obtain ⟨b,off,z,had,hc,hz,_⟩:=hsrc.at_by hjl
  have had':ad=⟨b,off,none⟩:=by simpa using had
  have hz':y=z:=by have:=hz.out;rw [hy] at this;simpa using this
  rw [had',hz',Addr.add]
  split
  ·rename_i h0;subst h0;simpa using hc
  exact hc
 have h1:∀u∈l1.map byV,u.oneCell'=true:=by
  intro u hu
  obtain ⟨y,_,rfl⟩:=List.mem_map.1 hu
  rfl
 obtain ⟨v',w',hrun,ho,hgr,_⟩:=run_append_own (P:=P) w B t o.type e i (.int .u8 0) 1 1 ht hi1 hi2 hi3 hi4 rfl (by decide) v l0.length xs hr ad l1.length c (l1.map byV) hnl hnews h1 (by unfold maxLen;omega) (by omega) hB
 have hblk:=append_block ht hi1 hi2 hi3 hi4 hr hnl hnews h1 (by unfold maxLen;omega) (by omega) hrun
 have hl0:xs.length=l0.length:=by have:=hr.1;simpa [GR.sz] using this
 have hpush:Ow B (fun k=>B≤k) w' e v' (l0++l1):=by
  refine ⟨xs++l1.map byV,by simpa [GR.sz] using ho,fun j y hj=> ?_⟩
  by_cases hlt:j<l0.length
  ·rw [List.getElem?_append_left hlt] at hj
   have:=hrep j y hj
   simp only [GR.sz,Nat.mul_one] at this ⊢
   rw [List.drop_append_of_le_length (by omega),List.take_append_of_le_length (by simp;omega)]
   exact this
  rw [List.getElem?_append_right (by omega)] at hj
  have hjl:j-l0.length<l1.length:=by
   by_cases e:j-l0.length<l1.length
   ·exact e
   rw [List.getElem?_eq_none (by omega)] at hj;simp at hj
  obtain ⟨b,off,z,_,_,hz,hzi⟩:=hsrc.at_by hjl
  have hz':y=z:=by have:=hz.out;rw [hj] at this;simpa using this
  subst hz'
  simp only [GR.sz,Nat.mul_one]
  have e1:((xs++l1.map byV).drop j).take 1=[byV y]:=by
   apply List.ext_getElem?
   intro q
   rcases q with _|q
   ·rw [List.getElem?_take,if_pos (by omega),List.getElem?_drop,List.getElem?_append_right (by omega),List.getElem?_map,hl0,Nat.add_zero,hj]
    rfl
   rw [List.getElem?_take,if_neg (by omega)];rfl
  rw [e1]
  exact ⟨rfl,hzi.out⟩
 obtain ⟨a',c',hv,_,_⟩:=hpush.shape
 have hb2:∀k,v'.ownBlock=some k→(v.ownBlock=some k∨k=w.heap.size)∧k<w'.heap.size:=by
  intro k hk
  refine ⟨?_,(hpush.lt k hk).2⟩
  rcases hblk with e|e
  ·exact .inl (e▸hk)
  exact .inr (by rw [e] at hk;simpa using hk.symm)
 rw [hv] at hpush hb2
 unfold Oper.wp execOp
 simp only [hop,resolve,invoke,builtin,Sem.run_bind,Sem.run_pure,Result.andThen_ok,List.map_toArray,List.map_cons,List.map_nil,hs,hx,hrun]
 show K (a.put o.dst v') w'
 rw [hv]
 exact h a' c' _ w' rfl hpush hb2 hgr
end
structure Kp (g:Nat) (v:Value) (w w':World):Prop where
 os:w'.os=w.os
 tape:w'.tape=w.tape
 output:w'.output=w.output
 size:w.heap.size≤w'.heap.size
 block:∀k,k<w.heap.size→k≠g→v.ownBlock≠some k→w'.heap[k]? =w.heap[k]?
abbrev Nw (w:World) (v v':Value):Prop:=∀k,v'.ownBlock=some k→v.ownBlock=some k∨w.heap.size≤k
section
variable {w w1 w2:World} {g:Nat} {v v1 v2:Value}
theorem kp_refl (g:Nat) (v:Value) (w:World):Kp g v w w:=⟨rfl,rfl,rfl,Nat.le_refl _,fun _ _ _ _=>rfl⟩
theorem kp_bel (h:Kp g v w w1) (hb:Below w1.heap.size w1 w2):Kp g v w w2:=⟨hb.1.trans h.os,hb.2.trans h.tape,hb.3.trans h.output,Nat.le_trans h.size hb.size,fun k hk h1 h2=>(hb.block k (by have:=h.size;omega)).trans (h.block k hk h1 h2)⟩
theorem kp_gb (h:Kp g v w w1) (hn:Nw w v v1) (hg:w1.grownBy w2 v1.ownBlock):Kp g v w w2:=
 ⟨hg.os.trans h.os,hg.tape.trans h.tape,hg.output.trans h.output,Nat.le_trans h.size hg.size,fun k hk h1 h2=>(hg.block k (by have:=h.size;omega) (fun e=>(hn k e.symm).elim (fun e2=>h2 e2) (fun e2=>by omega))).trans (h.block k hk h1 h2)⟩
theorem kp_set {p:Addr} (h:Kp g v w w1) (hp:p.block=g) (u:Value):Kp g v w (w1.setCell p u):=
 ⟨h.os,h.tape,h.output,by have:=h.size;simpa using this,fun k hk h1 h2=>(Below.heap_setCell _ _ _ _ (by rw [hp];exact h1)).trans (h.block k hk h1 h2)⟩
theorem kp_trans (h:Kp g v w w1) (hn:Nw w v v1) (k:Kp g v1 w1 w2):Kp g v w w2:=
 ⟨k.os.trans h.os,k.tape.trans h.tape,k.output.trans h.output,Nat.le_trans h.size k.size,fun i hi h1 h2=>(k.block i (by have:=h.size;omega) h1 (fun e=>(hn i e).elim (fun e2=>h2 e2) (fun e2=>by omega))).trans (h.block i hi h1 h2)⟩
theorem nw_trans (h:w.heap.size≤w1.heap.size) (a:Nw w v v1) (b:Nw w1 v1 v2):Nw w v v2:=fun k hk=>(b k hk).elim (fun e=>a k e) (fun e=> .inr (by omega))
theorem kp_below {B:Nat} (h:Kp g v w w1) (hg:B≤g) (hv:∀k,v.ownBlock=some k→B≤k) (hB:B≤w.heap.size):Below B w w1:=
 ⟨h.os,h.tape,h.output,h.size,fun k hk=>h.block k (by omega) (by omega) (fun e=>by have:=hv k e;omega)⟩
theorem kp_ext (h:Kp g v w w1):Ext (fun k=>k=g∨v.ownBlock=some k) (fun k=>k=g∨v.ownBlock=some k) w w1:=
 ⟨h.size,fun k hk hn=>h.block k hk (fun e=>hn (.inl e)) (fun e=>hn (.inr e)),fun _ _ e=>e⟩
theorem kp_ext2 (h:Kp g v w w1) (hn:Nw w v v1):Ext (fun k=>k=g∨v.ownBlock=some k) (fun k=>k=g∨v1.ownBlock=some k) w w1:=
 ⟨h.size,fun k hk hn=>h.block k hk (fun e=>hn (.inl e)) (fun e=>hn (.inr e)),fun k hk e=>e.elim .inl (fun e=>(hn k e).elim .inr (fun e=>by omega))⟩
structure Wr (B:Nat) (w:World) (g:Nat) (v:Value) (K:List By):Prop where
 cell:w.heap[g]? =some (.cells #[v] 78 (0,0))
 own:Ow B (fun k=>B≤k) w 5 v K
 ne:∀k,v.ownBlock=some k→k≠g
 base:B≤g
theorem Wr.lt {B:Nat} {K:List By} (h:Wr B w g v K):g<w.heap.size:=(Array.getElem?_eq_some_iff.1 h.cell).1
theorem Wr.below {B:Nat} {K:List By} (h:Wr B w g v K) (hb:Below w.heap.size w w1):Wr B w1 g v K:=
 ⟨(hb.block g h.lt).trans h.cell,h.own.below hb,h.ne,h.base⟩
theorem Wr.at {B:Nat} {K:List By} (h:Wr B w g v K):w.cell? ⟨g,0,none⟩=some v∧w.frozen? ⟨g,0,none⟩=false:=by
 constructor
 ·rw [cell_of_row _ _ _ _ _ _ h.cell];rfl
 unfold World.frozen?;rw [h.cell];rfl
end
theorem enc_nn:(∀n,0<(putI n).length)∧(∀l,0<(encL l).length)∧(∀l,0<(encW l).length):=
 ⟨putI_nn,fun l=>by unfold encL;rw [List.length_append];have:=putI_nn l.length;omega,fun l=>by unfold encW;rw [List.length_append];have:=putI_nn l.length;omega⟩
theorem sum_leW {α:Type} (f:α→List By) {l:List α} {k:Nat} {x:α} (h:l[k]? =some x):((l.take k).map f).flatten.length+(f x).length≤(l.map f).flatten.length:=by
 have e:((l.take (k+1)).map f).flatten.length≤(l.map f).flatten.length:=by
  conv=>rhs;rw [←List.take_append_drop (k+1) l]
  rw [List.map_append,List.flatten_append,List.length_append];omega
 rw [map_snocB f h,List.length_append] at e
 exact e
section
variable {w:World} {a:Option Addr} {c g B:Nat} {v:Value} {C:List By}
theorem Wr.app {w1:World} {v':Value} {L L':List By} (h:Wr B w g v L) (hg:w.grownBy w1 v.ownBlock) (ho:Ow B (fun k=>B≤k) w1 5 v' L') (hn:∀k,v'.ownBlock=some k→(v.ownBlock=some k∨k=w.heap.size)∧k<w1.heap.size):
    Wr B (w1.setCell ⟨g,0,none⟩ v') g v' L':=by
 have hc:w1.heap[g]? =some (.cells #[v] 78 (0,0)):=(hg.block g h.lt (fun e=>h.ne g e.symm rfl)).trans h.cell
 have hne:∀k,v'.ownBlock=some k→k≠g:=fun k hk=>(hn k hk).1.elim (fun e=>h.ne k e) (fun e=>by have:=h.lt;omega)
 refine ⟨?_,ho.setOther (p:=⟨g,0,none⟩) h.base hne v',hne,h.base⟩
 unfold World.setCell
 show (w1.heap.modify g _)[g]? =_
 rw [Array.getElem?_modify,if_pos rfl,hc]
 rfl
theorem nw_app {w0 w1:World} {v0 v1 v2:Value} (h:Nw w0 v0 v1) (hs:w0.heap.size≤w.heap.size) (hn:∀k,v2.ownBlock=some k→(v1.ownBlock=some k∨k=w.heap.size)∧k<w1.heap.size):Nw w0 v0 v2:=
 fun k hk=>(hn k hk).1.elim (fun e=>h k e) (fun e=> .inr (by omega))
theorem wints_any {l:List (Int)} (hW:Wr B w g v C) (hs:Sl (fun k=>k=g∨v.ownBlock=some k) w a c l) (hn:Hid (C.length+(l.map putI).flatten.length<100000000000)):
    Calls Tryz.prog 22 #[.pointer (some ⟨g,0,none⟩),.slice a l.length c] w fun e w'=>∃v',e= .returned (.tuple #[])∧Wr B w' g v' (C++(l.map putI).flatten)∧Kp g v w w'∧Hid (Nw w v v'):=by
 have ll:=hs.le
 have HS:=Lib.hid hs
 have HW:=Lib.hid hW
 clear hs hW
 go_enter Tryz.func22,Tryz.ntmps22
 go_wp2
 go_loopw [8] (fun i wr=>∃(k:Nat) (v1:Value) (L:List By),k≤l.length∧i= .int .i64 k∧Hid (L=C++((l.take k).map putI).flatten)∧Hid (Wr B wr g v1 L)∧Kp g v w wr∧Hid (Nw w v v1)) (fun i _=>l.length-(intOf i).toNat)
 case atStart=>exact ⟨0,v,C,by omega,rfl,Lib.hid (by simp),HW,kp_refl _ _ _,Lib.hid (fun k hk=> .inl hk)⟩
 case round=>
  obtain ⟨k,v1,L,hk,rfl,hL,hW1,hK1,hN1⟩:=hrel
  obtain ⟨wo,rfl⟩:∃wo:World,wo=wr:=⟨_,rfl⟩
  by_cases hlt:k<l.length
  ·obtain ⟨bs,os,x,rfl,hcx,hx,hxi⟩:=(HS.out.ext (kp_ext hK1)).at_int hlt
   have hzo:=hK1.size
   obtain ⟨a1,c1,hv1, -, -⟩:=(hW1.out).own.shape
   subst hv1
   have hcg:=(hW1.out).at.1
   have hfz:=(hW1.out).at.2
   have hgl:=(hW1.out).lt
   have hLl:Hid (L.length+(putI x).length<100000000000):=by unfold Hid;rw [hL.out,List.length_append];have:=sum_leW putI hx.out;have:=hn.out;omega
   go_wp2
   refine wp_region_T (fun w'=>w'.cell? ⟨g,0,none⟩=some (.slice a1 L.length c1)∧w'.frozen? ⟨g,0,none⟩=false) [0,1,2,3,4,5,8,9] (by kernel_rfl) ?_
   have hbd:Below wo.heap.size wo wo.drew:=(Below.refl _ _).drew
   have HW2:=Lib.hid ((hW1.out).below hbd)
   have hS2:=(HW2.out).at
   have hK2:=kp_bel hK1 hbd
   have hzd:wo.drew.heap.size=wo.heap.size:=rfl
   have hgd:g<wo.drew.heap.size:=hgl
   clear hW1 hcg hfz hK1 hcx hbd hzd hzo hgl
   generalize wo.drew=w2 at*
   have HC:=Lib.hid (putint_any (w:=w2) hxi.out)
   refine skT_on [0,1,2,3,4,5] ?_
   repeat (refine skT_take (v:= ?_) rfl ?_ ?_;rotate_left;(focus (intro w' hSw;(try dsimp only at hSw);go_simp;try with_reducible rfl));try simp only [Act.put,List.setIfInBounds_toArray,List.set_cons_zero,List.set_cons_succ])
   refine skT_off ?_
   refine wpAnyT_one (i:=6) (by kernel_rfl) rfl rfl (fun K hK=> ?_)
   go_simp
   refine (HC.out).mono ?_
   rintro e w3 ⟨a3,c3,l3,rfl,hl3,hO3,hb3⟩
   have hp3:0<l3.length:=by rw [hl3.out];exact enc_nn.1 _
   obtain ⟨g3,rfl, -, -⟩:=ow_some hO3 hp3
   have hs3:=hO3.slBy
   have HW3:=Lib.hid ((HW2.out).below hb3)
   have hS3:=(HW3.out).at
   have hK3:=kp_bel hK2 hb3
   have hz3:=hb3.size
   refine hK _ _ (fun _=>hS3) ?_
   clear hK K HC HW2 hS2 hK2 hb3 hO3
   refine wpAnyT_one (i:=7) (by kernel_rfl) rfl rfl (fun K hK=> ?_)
   refine wp_app_byG (v:= .slice a1 L.length c1) (B:=B) (M:=fun _=>False) (l0:=L) (l1:=l3) rfl Tryz.underlying49 info_byte rfl rfl (HW3.out).own hs3 (by rw [hl3.out];have:=hLl.out;omega) (by have:=(HW3.out).base;have:=(HW3.out).lt;omega) ?_
   intro a5 c5 L5 w5 hL5 hO5 hn5 hg5
   have hc5:w5.heap[g]? =some (.cells #[.slice a1 L.length c1] 78 (0,0)):=(hg5.block g ((HW3.out).lt) (fun e=>(HW3.out).ne g e.symm rfl)).trans (HW3.out).cell
   have hS5:w5.cell? ⟨g,0,none⟩=some (.slice a1 L.length c1)∧w5.frozen? ⟨g,0,none⟩=false:=⟨by rw [cell_of_row _ _ _ _ _ _ hc5];rfl,by unfold World.frozen?;rw [hc5];rfl⟩
   have HW5:=Lib.hid ((HW3.out).app hg5 hO5 hn5.out)
   have hK5:=kp_set (kp_gb hK3 hN1.out hg5) (p:=⟨g,0,none⟩) rfl (.slice a5 L5.length c5)
   have hN5:=Lib.hid (nw_app hN1.out hK3.size hn5.out)
   have hLn:Hid (L5=C++((l.take (k+1)).map putI).flatten):=by unfold Hid;rw [hL5.out,hL.out,hl3.out,map_snocB putI hx.out,List.append_assoc]
   refine hK _ _ (fun _=>hS5) ?_
   clear hK K hS3 hK3 HW3 hs3 hO5 hn5 hg5 hL5 hL hc5 hN1 hLl hz3 hp3 hl3
   refine skT_on [8,9] ?_
   repeat (refine skT_take (v:= ?_) rfl ?_ ?_;rotate_left;(focus (intro w' hSw;(try dsimp only at hSw);go_simp;try with_reducible rfl));try simp only [Act.put,List.setIfInBounds_toArray,List.set_cons_zero,List.set_cons_succ])
   refine skT_off ?_
   refine wpAnyT_late (i:=10) (by kernel_rfl) (by kernel_rfl) rfl rfl (fun K hK=> ?_)
   go_simp
   refine hK _ _ ?_
   clear hK K
   refine wpAnyT_done (by kernel_rfl) ?_ _
   clear hS5
   go_wp2
   go_roundw
   case rel=>exact ⟨k+1,.slice a5 L5.length c5,L5,by omega,by go_num,hLn,HW5,hK5,hN5⟩
   case measure=>simp [intOf];omega
  have hF:Hid (Wr B wo g v1 (C++(l.map putI).flatten)):=by have h:=hW1.out;rw [hL.out,List.take_of_length_le (by omega)] at h;exact h
  go_wp2
  go_end0
  exact ⟨v1,rfl,hF.out,hK1,hN1⟩
theorem wlists_any {l:List (List Int)} (hW:Wr B w g v C) (hs:Sl (fun k=>k=g∨v.ownBlock=some k) w a c l) (hsm:Hid (∀x∈l,x.length<1000000000))(hn:Hid (C.length+(l.map encL).flatten.length<100000000000)):
    Calls Tryz.prog 25 #[.pointer (some ⟨g,0,none⟩),.slice a l.length c] w fun e w'=>∃v',e= .returned (.tuple #[])∧Wr B w' g v' (C++(l.map encL).flatten)∧Kp g v w w'∧Hid (Nw w v v'):=by
 have ll:=hs.le
 have HS:=Lib.hid hs
 have HW:=Lib.hid hW
 clear hs hW
 go_enter Tryz.func25,Tryz.ntmps25
 go_wp2
 go_loopw [8] (fun i wr=>∃(k:Nat) (v1:Value) (L:List By),k≤l.length∧i= .int .i64 k∧Hid (L=C++((l.take k).map encL).flatten)∧Hid (Wr B wr g v1 L)∧Kp g v w wr∧Hid (Nw w v v1)) (fun i _=>l.length-(intOf i).toNat)
 case atStart=>exact ⟨0,v,C,by omega,rfl,Lib.hid (by simp),HW,kp_refl _ _ _,Lib.hid (fun k hk=> .inl hk)⟩
 case round=>
  obtain ⟨k,v1,L,hk,rfl,hL,hW1,hK1,hN1⟩:=hrel
  obtain ⟨wo,rfl⟩:∃wo:World,wo=wr:=⟨_,rfl⟩
  by_cases hlt:k<l.length
  ·obtain ⟨bs,os,ax,x,cx,rfl,hcx,hx,hxi⟩:=(HS.out.ext (kp_ext hK1)).at_row hlt
   have hzo:=hK1.size
   obtain ⟨a1,c1,hv1, -, -⟩:=(hW1.out).own.shape
   subst hv1
   have hcg:=(hW1.out).at.1
   have hfz:=(hW1.out).at.2
   have hgl:=(hW1.out).lt
   have hLl:Hid (L.length+(encL x).length<100000000000):=by unfold Hid;rw [hL.out,List.length_append];have:=sum_leW encL hx.out;have:=hn.out;omega
   go_wp2
   refine wp_region_T (fun w'=>w'.cell? ⟨g,0,none⟩=some (.slice a1 L.length c1)∧w'.frozen? ⟨g,0,none⟩=false) [0,1,2,3,4,5,8,9] (by kernel_rfl) ?_
   have hbd:Below wo.heap.size wo wo.drew:=(Below.refl _ _).drew
   have HW2:=Lib.hid ((hW1.out).below hbd)
   have hS2:=(HW2.out).at
   have hK2:=kp_bel hK1 hbd
   have hzd:wo.drew.heap.size=wo.heap.size:=rfl
   have hgd:g<wo.drew.heap.size:=hgl
   have hxi2:=hxi.drew
   clear hW1 hcg hfz hK1 hcx hbd hzd hzo hgl
   generalize wo.drew=w2 at*
   have HC:=Lib.hid (putints_any (w:=w2) hxi2 (hsm.out x (List.mem_of_getElem? hx.out)))
   refine skT_on [0,1,2,3,4,5] ?_
   repeat (refine skT_take (v:= ?_) rfl ?_ ?_;rotate_left;(focus (intro w' hSw;(try dsimp only at hSw);go_simp;try with_reducible rfl));try simp only [Act.put,List.setIfInBounds_toArray,List.set_cons_zero,List.set_cons_succ])
   refine skT_off ?_
   refine wpAnyT_one (i:=6) (by kernel_rfl) rfl rfl (fun K hK=> ?_)
   go_simp
   refine (HC.out).mono ?_
   rintro e w3 ⟨a3,c3,l3,rfl,hl3,hO3,hb3⟩
   have hp3:0<l3.length:=by rw [hl3.out];exact enc_nn.2.1 _
   obtain ⟨g3,rfl, -, -⟩:=ow_some hO3 hp3
   have hs3:=hO3.slBy
   have HW3:=Lib.hid ((HW2.out).below hb3)
   have hS3:=(HW3.out).at
   have hK3:=kp_bel hK2 hb3
   have hz3:=hb3.size
   refine hK _ _ (fun _=>hS3) ?_
   clear hK K HC HW2 hS2 hK2 hb3 hO3
   refine wpAnyT_one (i:=7) (by kernel_rfl) rfl rfl (fun K hK=> ?_)
   refine wp_app_byG (v:= .slice a1 L.length c1) (B:=B) (M:=fun _=>False) (l0:=L) (l1:=l3) rfl Tryz.underlying49 info_byte rfl rfl (HW3.out).own hs3 (by rw [hl3.out];have:=hLl.out;omega) (by have:=(HW3.out).base;have:=(HW3.out).lt;omega) ?_
   intro a5 c5 L5 w5 hL5 hO5 hn5 hg5
   have hc5:w5.heap[g]? =some (.cells #[.slice a1 L.length c1] 78 (0,0)):=(hg5.block g ((HW3.out).lt) (fun e=>(HW3.out).ne g e.symm rfl)).trans (HW3.out).cell
   have hS5:w5.cell? ⟨g,0,none⟩=some (.slice a1 L.length c1)∧w5.frozen? ⟨g,0,none⟩=false:=⟨by rw [cell_of_row _ _ _ _ _ _ hc5];rfl,by unfold World.frozen?;rw [hc5];rfl⟩
   have HW5:=Lib.hid ((HW3.out).app hg5 hO5 hn5.out)
   have hK5:=kp_set (kp_gb hK3 hN1.out hg5) (p:=⟨g,0,none⟩) rfl (.slice a5 L5.length c5)
   have hN5:=Lib.hid (nw_app hN1.out hK3.size hn5.out)
   have hLn:Hid (L5=C++((l.take (k+1)).map encL).flatten):=by unfold Hid;rw [hL5.out,hL.out,hl3.out,map_snocB encL hx.out,List.append_assoc]
   refine hK _ _ (fun _=>hS5) ?_
   clear hK K hS3 hK3 HW3 hs3 hO5 hn5 hg5 hL5 hL hc5 hN1 hLl hz3 hp3 hl3
   refine skT_on [8,9] ?_
   repeat (refine skT_take (v:= ?_) rfl ?_ ?_;rotate_left;(focus (intro w' hSw;(try dsimp only at hSw);go_simp;try with_reducible rfl));try simp only [Act.put,List.setIfInBounds_toArray,List.set_cons_zero,List.set_cons_succ])
   refine skT_off ?_
   refine wpAnyT_late (i:=10) (by kernel_rfl) (by kernel_rfl) rfl rfl (fun K hK=> ?_)
   go_simp
   refine hK _ _ ?_
   clear hK K
   refine wpAnyT_done (by kernel_rfl) ?_ _
   clear hS5
   go_wp2
   go_roundw
   case rel=>exact ⟨k+1,.slice a5 L5.length c5,L5,by omega,by go_num,hLn,HW5,hK5,hN5⟩
   case measure=>simp [intOf];omega
  have hF:Hid (Wr B wo g v1 (C++(l.map encL).flatten)):=by have h:=hW1.out;rw [hL.out,List.take_of_length_le (by omega)] at h;exact h
  go_wp2
  go_end0
  exact ⟨v1,rfl,hF.out,hK1,hN1⟩
theorem wwords_any {l:List (List (List Int))} (hW:Wr B w g v C) (hs:Sl (fun k=>k=g∨v.ownBlock=some k) w a c l) (hsm:Hid (∀x∈l,x.length+x.flatten.length<1000000000))(hn:Hid (C.length+(l.map encW).flatten.length<100000000000)):
    Calls Tryz.prog 24 #[.pointer (some ⟨g,0,none⟩),.slice a l.length c] w fun e w'=>∃v',e= .returned (.tuple #[])∧Wr B w' g v' (C++(l.map encW).flatten)∧Kp g v w w'∧Hid (Nw w v v'):=by
 have ll:=hs.le
 have HS:=Lib.hid hs
 have HW:=Lib.hid hW
 clear hs hW
 go_enter Tryz.func24,Tryz.ntmps24
 go_wp2
 go_loopw [8] (fun i wr=>∃(k:Nat) (v1:Value) (L:List By),k≤l.length∧i= .int .i64 k∧Hid (L=C++((l.take k).map encW).flatten)∧Hid (Wr B wr g v1 L)∧Kp g v w wr∧Hid (Nw w v v1)) (fun i _=>l.length-(intOf i).toNat)
 case atStart=>exact ⟨0,v,C,by omega,rfl,Lib.hid (by simp),HW,kp_refl _ _ _,Lib.hid (fun k hk=> .inl hk)⟩
 case round=>
  obtain ⟨k,v1,L,hk,rfl,hL,hW1,hK1,hN1⟩:=hrel
  obtain ⟨wo,rfl⟩:∃wo:World,wo=wr:=⟨_,rfl⟩
  by_cases hlt:k<l.length
  ·obtain ⟨bs,os,ax,x,cx,rfl,hcx,hx,hxi⟩:=(HS.out.ext (kp_ext hK1)).at_row hlt
   have hzo:=hK1.size
   obtain ⟨a1,c1,hv1, -, -⟩:=(hW1.out).own.shape
   subst hv1
   have hcg:=(hW1.out).at.1
   have hfz:=(hW1.out).at.2
   have hgl:=(hW1.out).lt
   have hLl:Hid (L.length+(encW x).length<100000000000):=by unfold Hid;rw [hL.out,List.length_append];have:=sum_leW encW hx.out;have:=hn.out;omega
   go_wp2
   refine wp_region_T (fun w'=>w'.cell? ⟨g,0,none⟩=some (.slice a1 L.length c1)∧w'.frozen? ⟨g,0,none⟩=false) [0,1,2,3,4,5,8,9] (by kernel_rfl) ?_
   have hbd:Below wo.heap.size wo wo.drew:=(Below.refl _ _).drew
   have HW2:=Lib.hid ((hW1.out).below hbd)
   have hS2:=(HW2.out).at
   have hK2:=kp_bel hK1 hbd
   have hzd:wo.drew.heap.size=wo.heap.size:=rfl
   have hgd:g<wo.drew.heap.size:=hgl
   have hxi2:=hxi.drew
   clear hW1 hcg hfz hK1 hcx hbd hzd hzo hgl
   generalize wo.drew=w2 at*
   have HC:=Lib.hid (putwords_any (w:=w2) hxi2 (hsm.out x (List.mem_of_getElem? hx.out)))
   refine skT_on [0,1,2,3,4,5] ?_
   repeat (refine skT_take (v:= ?_) rfl ?_ ?_;rotate_left;(focus (intro w' hSw;(try dsimp only at hSw);go_simp;try with_reducible rfl));try simp only [Act.put,List.setIfInBounds_toArray,List.set_cons_zero,List.set_cons_succ])
   refine skT_off ?_
   refine wpAnyT_one (i:=6) (by kernel_rfl) rfl rfl (fun K hK=> ?_)
   go_simp
   refine (HC.out).mono ?_
   rintro e w3 ⟨a3,c3,l3,rfl,hl3,hO3,hb3⟩
   have hp3:0<l3.length:=by rw [hl3.out];exact enc_nn.2.2 _
   obtain ⟨g3,rfl, -, -⟩:=ow_some hO3 hp3
   have hs3:=hO3.slBy
   have HW3:=Lib.hid ((HW2.out).below hb3)
   have hS3:=(HW3.out).at
   have hK3:=kp_bel hK2 hb3
   have hz3:=hb3.size
   refine hK _ _ (fun _=>hS3) ?_
   clear hK K HC HW2 hS2 hK2 hb3 hO3
   refine wpAnyT_one (i:=7) (by kernel_rfl) rfl rfl (fun K hK=> ?_)
   refine wp_app_byG (v:= .slice a1 L.length c1) (B:=B) (M:=fun _=>False) (l0:=L) (l1:=l3) rfl Tryz.underlying49 info_byte rfl rfl (HW3.out).own hs3 (by rw [hl3.out];have:=hLl.out;omega) (by have:=(HW3.out).base;have:=(HW3.out).lt;omega) ?_
   intro a5 c5 L5 w5 hL5 hO5 hn5 hg5
   have hc5:w5.heap[g]? =some (.cells #[.slice a1 L.length c1] 78 (0,0)):=(hg5.block g ((HW3.out).lt) (fun e=>(HW3.out).ne g e.symm rfl)).trans (HW3.out).cell
   have hS5:w5.cell? ⟨g,0,none⟩=some (.slice a1 L.length c1)∧w5.frozen? ⟨g,0,none⟩=false:=⟨by rw [cell_of_row _ _ _ _ _ _ hc5];rfl,by unfold World.frozen?;rw [hc5];rfl⟩
   have HW5:=Lib.hid ((HW3.out).app hg5 hO5 hn5.out)
   have hK5:=kp_set (kp_gb hK3 hN1.out hg5) (p:=⟨g,0,none⟩) rfl (.slice a5 L5.length c5)
   have hN5:=Lib.hid (nw_app hN1.out hK3.size hn5.out)
   have hLn:Hid (L5=C++((l.take (k+1)).map encW).flatten):=by unfold Hid;rw [hL5.out,hL.out,hl3.out,map_snocB encW hx.out,List.append_assoc]
   refine hK _ _ (fun _=>hS5) ?_
   clear hK K hS3 hK3 HW3 hs3 hO5 hn5 hg5 hL5 hL hc5 hN1 hLl hz3 hp3 hl3
   refine skT_on [8,9] ?_
   repeat (refine skT_take (v:= ?_) rfl ?_ ?_;rotate_left;(focus (intro w' hSw;(try dsimp only at hSw);go_simp;try with_reducible rfl));try simp only [Act.put,List.setIfInBounds_toArray,List.set_cons_zero,List.set_cons_succ])
   refine skT_off ?_
   refine wpAnyT_late (i:=10) (by kernel_rfl) (by kernel_rfl) rfl rfl (fun K hK=> ?_)
   go_simp
   refine hK _ _ ?_
   clear hK K
   refine wpAnyT_done (by kernel_rfl) ?_ _
   clear hS5
   go_wp2
   go_roundw
   case rel=>exact ⟨k+1,.slice a5 L5.length c5,L5,by omega,by go_num,hLn,HW5,hK5,hN5⟩
   case measure=>simp [intOf];omega
  have hF:Hid (Wr B wo g v1 (C++(l.map encW).flatten)):=by have h:=hW1.out;rw [hL.out,List.take_of_length_le (by omega)] at h;exact h
  go_wp2
  go_end0
  exact ⟨v1,rfl,hF.out,hK1,hN1⟩
end
theorem encTs_len {l:List Tr} {k:Nat} {x:Tr} (h:l[k]? =some x):(putI l.length++((l.take k).map encT).flatten).length+(encT x).length≤(encTs l).length:=by
 have:=sum_leW encT h
 unfold encTs;simp only [List.length_append];omega
section
variable {w:World} {a:Option Addr} {c g B:Nat} {v:Value} {C:List By}
theorem wr_new {w:World} {L:List By} (h:Wr B w g v L) {k:Nat} (hk:w.heap.size≤k):¬(k=g∨v.ownBlock=some k):=fun e=>e.elim (fun e=>by have:=h.lt;omega) (fun e=>by have:=(h.own.lt k e).2;omega)
theorem wtraces_any {l:List Tr} (hW:Wr B w g v C) (hs:Sl (fun k=>k=g∨v.ownBlock=some k) w a c l) (hsm:Hid (∀t∈l,t.inn.length<1000000000∧t.out.length<1000000000)) (hn:Hid (C.length+(encTs l).length<100000000000)):
    Calls Tryz.prog 23 #[.pointer (some ⟨g,0,none⟩),.slice a l.length c] w fun e w'=>∃v',e= .returned (.tuple #[])∧Wr B w' g v' (C++encTs l)∧Kp g v w w'∧Hid (Nw w v v'):=by
 have ll:=hs.le
 have HS:=Lib.hid hs
 have HW:=Lib.hid hW
 clear hs hW
 have hbw:=(Below.refl w.heap.size w).alloc (Nat.le_refl _) (.cells #[.int .i64 l.length] 3)
 have HW1:=Lib.hid ((HW.out).below hbw)
 have hni:i64 (l.length:Int):=by unfold i64;omega
 have hs1:Sl (fun k=>k=g∨v.ownBlock=some k) (w.alloc (.cells #[.int .i64 l.length] 3)) (some ⟨w.heap.size,0,none⟩) 1 [(l.length:Int)]:=
  Sl.lit (heap_alloc_new w _) rfl (wr_new HW.out (Nat.le_refl _)) (fun x hx=>by simp at hx;subst hx;exact hni) rfl (by unfold maxLen;decide)
 have HC:=Lib.hid (wints_any (l:=[(l.length:Int)]) HW1.out hs1 (Lib.hid (by have h:=hn.out;unfold encTs at h;rw [List.length_append] at h;simp;omega)))
 have HB0:=Lib.hid hbw
 clear hs1 hni hbw HW1
 go_enter Tryz.func23,Tryz.ntmps23
 go_wp2_with fail
 refine (HC.out).mono ?_
 rintro e w1 ⟨v1,rfl,hW1,hK1,hN1⟩
 have HW1:=Lib.hid hW1
 have hKa:=kp_trans (kp_bel (kp_refl g v w) HB0.out) (fun k hk=> .inl hk) hK1
 have hNa:Hid (Nw w v v1):=Lib.hid (nw_trans HB0.out.size (fun k hk=> .inl hk) hN1.out)
 clear HC hW1 hK1 hN1 HB0
 go_wp2
 go_loopw [13] (fun i wr=>∃(k:Nat) (v2:Value) (L:List By),k≤l.length∧i= .int .i64 k∧Hid (L=C++(putI l.length++((l.take k).map encT).flatten))∧Hid (Wr B wr g v2 L)∧Kp g v w wr∧Hid (Nw w v v2)) (fun i _=>l.length-(intOf i).toNat)
 case atStart=>exact ⟨0,v1,_,by omega,rfl,Lib.hid (by simp),HW1,hKa,hNa⟩
 case round=>
  clear HW1 hKa hNa
  obtain ⟨k,v2,L,hk,rfl,hL,hW2,hK2,hN2⟩:=hrel
  obtain ⟨wo,rfl⟩:∃wo:World,wo=wr:=⟨_,rfl⟩
  by_cases hlt:k<l.length
  ·obtain ⟨bs,os,ai,ci,ax,cx,t,rfl,hc0,hc1,ht,hsi,hsx⟩:=(HS.out.ext (kp_ext2 hK2 hN2.out)).at_tr hlt
   have hsz:=hK2.size
   obtain ⟨w4,hw4⟩:∃w4,w4=(wo.alloc (.cells #[.slice ai t.inn.length ci,.slice ax t.out.length cx] 72)).alloc (.cells #[.slice ai t.inn.length ci,.slice ax t.out.length cx] 62):=⟨_,rfl⟩
   have hb4:Below wo.heap.size wo w4:=by rw [hw4];exact ((Below.refl _ _).alloc (Nat.le_refl _) _).alloc (by simp) _
   have HW4:=Lib.hid ((hW2.out).below hb4)
   have hh4:w4.heap[wo.heap.size+1]? =some (.cells #[.slice ai t.inn.length ci,.slice ax t.out.length cx] 62 (0,0)):=by rw [hw4];simpa using heap_alloc_new (wo.alloc (.cells #[.slice ai t.inn.length ci,.slice ax t.out.length cx] 72)) (.cells #[.slice ai t.inn.length ci,.slice ax t.out.length cx] 62)
   have hs4:Sl (fun k=>k=g∨v2.ownBlock=some k) w4 (some ⟨wo.heap.size+1,0,none⟩) 2 [t.inn,t.out]:=by
    refine Sl.litr hh4 (wr_new hW2.out (by omega)) rfl (by unfold maxLen;decide) fun j r hj=> ?_
    match j,hj with
    |0,hj=>simp at hj;subst hj;exact ⟨ai,ci,rfl,hsi.below hb4⟩
    |1,hj=>simp at hj;subst hj;exact ⟨ax,cx,rfl,hsx.below hb4⟩
   have htm:=hsm.out t (List.mem_of_getElem? ht.out)
   have hLl:Hid (L.length+(encT t).length<100000000000):=by unfold Hid;rw [hL.out,List.length_append];have:=encTs_len ht.out;have:=hn.out;omega
   have HC:=Lib.hid (wlists_any (l:=[t.inn,t.out]) HW4.out hs4 (Lib.hid (by simp;exact htm)) (Lib.hid (by have h:=hLl.out;unfold encT at h;rw [List.length_append] at h;simp;omega)))
   rw [hw4] at HC
   have HB4:=Lib.hid hb4
   have HE4:=Lib.hid hw4
   clear hb4 HW4 hh4 hs4 htm hw4
   go_wp2_with fail
   refine (HC.out).mono ?_
   rintro e w5 ⟨v5,rfl,hW5,hK5,hN5⟩
   rw [←HE4.out] at hK5 hN5
   have HW5:Hid (Wr B w5 g v5 (C++(putI l.length++((l.take (k+1)).map encT).flatten))):=by
    unfold Hid
    rw [map_snocB encT ht.out]
    have e:C++(putI l.length++(((l.take k).map encT).flatten++encT t))=L++([t.inn,t.out].map encL).flatten:=by rw [hL.out];simp [encT]
    rw [e];exact hW5
   have hKn:=kp_trans (kp_bel hK2 HB4.out) hN2.out hK5
   have hNn:=Lib.hid (nw_trans (Nat.le_trans hsz HB4.out.size) hN2.out hN5.out)
   clear HC hW5 hK5 hN5 HB4 HE4 hW2 hK2 hN2 hLl hL
   go_wp2
   go_roundw
   case rel=>exact ⟨k+1,v5,_,by omega,by go_num,Lib.hid rfl,HW5,hKn,hNn⟩
   case measure=>simp [intOf];omega
  have hF:Hid (Wr B wo g v2 (C++encTs l)):=by have h:=hW2.out;rw [hL.out,List.take_of_length_le (by omega)] at h;exact h
  go_wp2
  go_end0
  exact ⟨v2,rfl,hF.out,hK2,hN2⟩
end
theorem Ow.lower {α:Type} [GR α] {B B':Nat} {M:Nat→Prop} {w:World} {T:TypeId} {v:Value} {l:List α} (h:Ow B M w T v l) (hB:B'≤B):Ow B' M w T v l:=by
 obtain ⟨xs,h1,h2⟩:=h
 refine ⟨xs,⟨h1.1,h1.2.imp id ?_⟩,h2⟩
 rintro ⟨g,cap,cur,e,hb,r⟩
 exact ⟨g,cap,cur,e,Nat.le_trans hB hb,r⟩
theorem encTs_pos (l:List Tr):0<(encTs l).length:=by unfold encTs;rw [List.length_append];have:=putI_nn l.length;omega
theorem frameP_len2 (l:List Tr):(frameP crS4 l).length≤(encTs l).length+15:=by
 unfold frameP sealP bodyP
 have:=putI_len10 (encTs l).length
 simp only [List.length_append,List.length_cons,crS4_len];omega
theorem cell_lt {w:World} {p:Addr} {v:Value} (h:w.cell? p=some v):p.block<w.heap.size:=by
 by_cases e:p.block<w.heap.size
 ·exact e
 unfold World.cell? at h
 rw [Array.getElem?_eq_none (by omega)] at h;simp at h
section
variable {w:World} {M M':Nat→Prop} {a aj:Option Addr} {c cj:Nat}
theorem append_any {J:List By} {l:List Tr} (hj:Sl M w aj cj J) (hs:Sl M' w a c l) (hsm:Hid (∀t∈l,t.inn.length<1000000000∧t.out.length<1000000000)) (hn:Hid (J.length+(encTs l).length<1000000000)):
    Calls Tryz.prog 14 #[.slice aj J.length cj,.slice a l.length c] w fun e w'=>∃(a':Option Addr) (c':Nat) (l':List By),e= .returned (.slice a' l'.length c')∧Hid (l'=J++frameP crS4 l)∧Ow w.heap.size (fun k=>w.heap.size≤k) w' 5 (.slice a' l'.length c') l'∧Below w.heap.size w w':=by
 have ll:=hs.le
 have lj:=hj.le
 have hb1:=(Below.refl w.heap.size w).alloc (Nat.le_refl _) (.cells #[.slice none 0 0] 78)
 have HW1:Hid (Wr w.heap.size (w.alloc (.cells #[.slice none 0 0] 78)) w.heap.size (.slice none 0 0) []):=⟨heap_alloc_new w _,Ow.nil,fun k hk=>by simp [Value.ownBlock] at hk,Nat.le_refl _⟩
 have hs1:Sl (fun k=>k=w.heap.size∨(Value.slice none 0 0).ownBlock=some k) (w.alloc (.cells #[.slice none 0 0] 78)) a c l:=
  hs.ext ⟨hb1.size,fun k hk _=>hb1.block k hk,fun k hk e=>e.elim (fun e=>by omega) (fun e=>by simp [Value.ownBlock] at e)⟩
 have HC:=Lib.hid (wtraces_any HW1.out hs1 hsm (Lib.hid (by have:=hn.out;simp;omega)))
 have HJ:=Lib.hid hj
 have HB1:=Lib.hid hb1
 clear hj hs hs1 HW1 hb1
 go_enter Tryz.func14,Tryz.ntmps14
 go_wp2_with fail
 refine (HC.out).mono ?_
 rintro e w2 ⟨v2,rfl,hW2,hK2,hN2⟩
 have hB2:Below w.heap.size w w2:=HB1.out.trans (kp_below hK2 (Nat.le_refl _) (fun k hk=>by simp [Value.ownBlock] at hk) HB1.out.size)
 rw [List.nil_append] at hW2
 obtain ⟨L,hL⟩:∃L,L=encTs l:=⟨_,rfl⟩
 rw [←hL] at hW2
 have hLp:0<L.length:=by rw [hL];exact encTs_pos l
 have hLn:Hid (J.length+L.length<1000000000):=by rw [hL];exact hn
 have HL:=Lib.hid hL
 obtain ⟨a2,c2,hv2, -, -⟩:=hW2.own.shape
 subst hv2
 have hS2:=hW2.at.1
 have hsL:=hW2.own.slBy
 clear HC HB1 hW2 hK2 hN2 hL hn
 go_wp2
 refine wp_region_T (fun w'=>w'.cell? ⟨w.heap.size,0,none⟩=some (.slice a2 L.length c2)) [0,2,3,4,5,8] (by kernel_rfl) ?_
 have hBd:=hB2.drew
 have hSd:w2.drew.cell? ⟨w.heap.size,0,none⟩=some (.slice a2 L.length c2):=hS2
 have hsd:=hsL.drew
 have hgd:w.heap.size<w2.drew.heap.size:=cell_lt hSd
 clear hB2 hS2 hsL
 generalize w2.drew=w3 at*
 have HC:=Lib.hid (cloneB_any ((HJ.out).below hBd) (by have:=hLn.out;omega))
 refine skT_on [0,2,3,4,5] ?_
 repeat (refine skT_take (v:= ?_) rfl ?_ ?_;rotate_left;(focus (intro w' hSw;(try dsimp only at hSw);go_simp;try with_reducible rfl));try simp only [Act.put,List.setIfInBounds_toArray,List.set_cons_zero,List.set_cons_succ])
 refine skT_off ?_
 refine wpAnyT_one (i:=1) (by kernel_rfl) rfl rfl (fun K hK=> ?_)
 go_simp
 refine (HC.out).mono ?_
 rintro e w4 ⟨a4,c4,l4,rfl,hl4,hO4,hb4⟩
 have hS4:=(hb4.cell (p:=⟨w.heap.size,0,none⟩) hgd).trans hSd
 have hs4:=hsd.below hb4
 have hB4:=hBd.trans (hb4.mono (by omega))
 have hz4:=hb4.size
 have hl4n:Hid (l4.length=J.length):=by unfold Hid;rw [hl4.out]
 refine hK _ _ (fun _=>hS4) ?_
 clear hK K HC hSd hsd hb4
 have HC:=Lib.hid (seal_any (k:=2) hs4 (by decide) (by have:=hLn.out;omega) hLp)
 refine wpAnyT_one (i:=6) (by kernel_rfl) rfl rfl (fun K hK=> ?_)
 go_simp
 refine (HC.out).mono ?_
 rintro e w5 ⟨a5,c5,l5,rfl,hl5,hO5,hb5⟩
 have hS5:=(hb5.cell (p:=⟨w.heap.size,0,none⟩) (by simp;omega)).trans hS4
 have hO4':=hO4.below hb5
 have hB5:=hB4.trans (hb5.mono (by omega))
 have hz5:=hb5.size
 have hl5e:Hid (l5=frameP crS4 l):=by unfold Hid frameP;rw [hl5.out,HL.out]
 have hl5n:Hid (l5.length≤L.length+15):=by unfold Hid;rw [hl5e.out,HL.out];exact frameP_len2 l
 have hp5:0<l5.length:=by rw [hl5e.out];have:=frameP_len (S:=crS4) l;omega
 obtain ⟨g5,rfl, -, -⟩:=ow_some hO5 hp5
 have hs5:=hO5.slBy
 refine hK _ _ (fun _=>hS5) ?_
 clear hK K HC hS4 hs4 hO4 hO5 hb5
 refine wpAnyT_one (i:=7) (by kernel_rfl) rfl rfl (fun K hK=> ?_)
 refine wp_app_by (v:= .slice a4 l4.length c4) (B:=w3.heap.size) (M:=fun _=>False) (l0:=l4) (l1:=l5) rfl Tryz.underlying49 info_byte rfl rfl hO4' hs5 (by have:=hl4n.out;have:=hl5n.out;have:=hLn.out;omega) (by omega) ?_
 intro a6 c6 L6 w6 hL6 hO6 hb6
 have hS6:=(hb6.cell (p:=⟨w.heap.size,0,none⟩) (by simp;omega)).trans hS5
 have hO6':=hO6.lower (B':=w.heap.size) (by omega)
 have hB6:=hB5.trans (hb6.mono (by omega))
 have hF:Hid (L6=J++frameP crS4 l):=by unfold Hid;rw [hL6.out,hl4.out,hl5e.out]
 refine hK _ _ (fun _=>hS6) ?_
 clear hK K hO4' hs5 hb6 hO6 hL6 hl4 hl5 hl5e
 refine skT_on [8] ?_
 repeat (refine skT_take (v:= ?_) rfl ?_ ?_;rotate_left;(focus (intro w' hSw;(try dsimp only at hSw);go_simp;try with_reducible rfl));try simp only [Act.put,List.setIfInBounds_toArray,List.set_cons_zero,List.set_cons_succ])
 refine skT_off ?_
 refine wpAnyT_done (by kernel_rfl) ?_ _
 clear hS5 hS6
 go_wp2
 go_ret
 exact ⟨a6,c6,L6,rfl,hF,hO6',hB6⟩
end
end Go.Proofs.YtlmfbjiejodalaaGreatDoor
