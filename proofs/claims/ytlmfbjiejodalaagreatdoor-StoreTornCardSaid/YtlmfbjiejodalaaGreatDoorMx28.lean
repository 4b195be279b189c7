/- Several texts, one behind the other. Conditions: as each of them says. -/
import Derived.Test.YtlmfbjiejodalaaGreatDoorMx26
import Derived.Test.YtlmfbjiejodalaaGreatDoorMx18
import Derived.Test.YtlmfbjiejodalaaGreatDoorMx7
import Derived.Test.YtlmfbjiejodalaaGreatDoorMx4
import Derived.Deep.Cut
set_option maxRecDepth 100000
set_option maxHeartbeats 32000000
namespace Go.Proofs.YtlmfbjiejodalaaGreatDoor
open Go.RowKit
section
variable {w:World} {M:Nat→Prop} {a1 a2:Option Addr} {c1 c2:Nat}
theorem Sl.none {α:Type} [GR α] {l:List α} (h:Sl M w a1 c1 l):Sl (fun _=>False) w a1 c1 l:=h.ext ⟨Nat.le_refl _,fun _ _ _=>rfl,fun _ _ e=>e.elim⟩
theorem sameTr_yes {xs ys:List Tr} (h1:Sl M w a1 c1 xs) (h2:Sl M w a2 c2 ys) (h:Hid (xs=ys)):
    Calls Tryz.prog 45 #[.slice a1 xs.length c1,.slice a2 ys.length c2] w fun e w'=>e= .returned (.bool true)∧∃n,w'=w.drewN n:=by
 have hx:=h1.le
 have hy:=h2.le
 have hl':((xs.length:Int) !=(ys.length:Int))=false:=by simp [h.out]
 go_enter Tryz.func45,Tryz.ntmps45
 go_wp2
 go_loopw [5] (fun i wr=>∃k:Nat,k≤xs.length∧i= .int .i64 k∧Hid (∃n,wr=w.drewN n)) (fun i _=>xs.length-(intOf i).toNat)
 case atStart=>exact ⟨0,Nat.zero_le _,rfl,⟨0,rfl⟩⟩
 case round=>
  obtain ⟨k,hk,rfl,hW⟩:=hrel
  have h1r:=sl_dr hW h1
  have h2r:=sl_dr hW h2
  by_cases hlt:k<xs.length
  ·have hlt2:k<ys.length:=h.out▸hlt
   obtain ⟨b,o,p1,d1,p2,d2,t,rfl,e1,e2,ht,s1,s2⟩:=h1r.at_tr hlt
   obtain ⟨b',o',p1',d1',p2',d2',t',rfl,e1',e2',ht',s1',s2'⟩:=h2r.at_tr hlt2
   have htt:Hid (t=t'):=by have:=ht.out;rw [h.out,ht'.out] at this;exact (Option.some.inj this).symm
   clear h1r h2r ht ht'
   go_wp2
   refine wp_quiet_fast (by kernel_rfl) (by kernel_rfl) ?_
   repeat (first|go_big_quiet_step ((go_at_call 20;first|exact Calls.quiet_of (ints_yes (s1.drewN _) (s1'.drewN _) (by rw [htt.out]))|exact Calls.quiet_of (ints_yes (s2.drewN _) (s2'.drewN _) (by rw [htt.out]))))|quiet_step ((go_at_call 20;first|exact Calls.quiet_of (ints_yes (s1.drewN _) (s1'.drewN _) (by rw [htt.out]))|exact Calls.quiet_of (ints_yes (s2.drewN _) (s2'.drewN _) (by rw [htt.out])))))
   refine wpQuiet_nil ?_
   intro _ hw'
   obtain ⟨nq,hw''⟩:=hw'
   subst hw''
   go_wp2
   go_roundw
   case rel=>exact ⟨k+1,by omega,by go_num,dr_add hW _⟩
   case measure=>simp [intOf];omega
  go_wp2
  go_ret
  exact ⟨rfl,hW.out⟩
theorem same53_yes {xs ys:List (List Tr)} (h1:Sl M w a1 c1 xs) (h2:Sl M w a2 c2 ys) (h:Hid (xs=ys)):
    Calls Tryz.prog 16 #[.slice a1 xs.length c1,.slice a2 ys.length c2] w fun e w'=>e= .returned (.bool true)∧∃n,w'=w.drewN n:=by
 have hx:=h1.le
 have hy:=h2.le
 have hl':((xs.length:Int) !=(ys.length:Int))=false:=by simp [h.out]
 go_enter Tryz.func16,Tryz.ntmps16
 go_wp2
 go_loopw [5] (fun i wr=>∃k:Nat,k≤xs.length∧i= .int .i64 k∧Hid (∃n,wr=w.drewN n)) (fun i _=>xs.length-(intOf i).toNat)
 case atStart=>exact ⟨0,Nat.zero_le _,rfl,⟨0,rfl⟩⟩
 case round=>
  obtain ⟨k,hk,rfl,hW⟩:=hrel
  have h1r:=sl_dr hW h1
  have h2r:=sl_dr hW h2
  by_cases hlt:k<xs.length
  ·have hlt2:k<ys.length:=h.out▸hlt
   obtain ⟨b,o,p1,t,d1,rfl,e1,ht,s1⟩:=h1r.at_row hlt
   obtain ⟨b',o',p1',t',d1',rfl,e1',ht',s1'⟩:=h2r.at_row hlt2
   have htt:Hid (t=t'):=by have:=ht.out;rw [h.out,ht'.out] at this;exact (Option.some.inj this).symm
   clear h1r h2r ht ht'
   go_wp2
   refine wp_quiet_fast (by kernel_rfl) (by kernel_rfl) ?_
   repeat (first|go_big_quiet_step ((go_at_call 45;exact Calls.quiet_of (sameTr_yes (s1.drewN _) (s1'.drewN _) htt)))|quiet_step ((go_at_call 45;exact Calls.quiet_of (sameTr_yes (s1.drewN _) (s1'.drewN _) htt))))
   refine wpQuiet_nil ?_
   intro _ hw'
   obtain ⟨nq,hw''⟩:=hw'
   subst hw''
   go_wp2
   go_roundw
   case rel=>exact ⟨k+1,by omega,by go_num,dr_add hW _⟩
   case measure=>simp [intOf];omega
  go_wp2
  go_ret
  exact ⟨rfl,hW.out⟩
end
theorem flat_leT {α β:Type} (f:α→List β) (n:Nat):∀l:List α,(∀x∈l,(f x).length≤n)→((l.map f).flatten).length≤n*l.length
 |[],_=>by simp
 |x::l,h=>by
  have h1:=h x (by simp)
  have h2:=flat_leT f n l (fun y hy=>h y (by simp [hy]))
  simp only [List.map_cons,List.flatten_cons,List.length_append,List.length_cons,Nat.mul_succ];omega
theorem encL_le (l:List Int):(encL l).length≤10+10*l.length:=by
 have h1:=putI_len10 l.length
 have h2:=flat_leT putI 10 l (fun x _=>putI_len10 x)
 unfold encL;simp only [List.length_append];omega
theorem encT_le (t:Tr):(encT t).length≤20+10*t.inn.length+10*t.out.length:=by
 have h1:=encL_le t.inn
 have h2:=encL_le t.out
 unfold encT;simp only [List.length_append];omega
theorem gr16_nl {l:List Tr} (h:gr16 ⟨0,l⟩=false):l.length≤60∧∀t∈l,t.inn.length≤100∧t.out.length≤100:=by
 unfold gr16 at h
 simp only [Bool.or_eq_false_iff,decide_eq_false_iff_not,List.any_eq_false,decide_eq_true_eq] at h
 refine ⟨by omega,fun t ht=> ?_⟩
 have:=h.2 t ht
 omega
theorem encTs_le {l:List Tr} (h:gr16 ⟨0,l⟩=false):(encTs l).length≤200000:=by
 obtain ⟨h1,h2⟩:=gr16_nl h
 have h3:=flat_leT encT 2020 l (fun t ht=>by have:=encT_le t;have:=h2 t ht;omega)
 have h4:=putI_len10 l.length
 have h5:2020*l.length≤2020*60:=Nat.mul_le_mul_left _ h1
 unfold encTs;simp only [List.length_append];omega
theorem jrn_le {ls:List (List Tr)} (h:∀l∈ls,gr16 ⟨0,l⟩=false):(jrn crS4 ls).length≤200015*ls.length:=
 flat_leT (frameP crS4) 200015 ls fun l hl=>by have:=frameP_len2 l;have:=encTs_le (h l hl);omega
section
variable {w:World} {M:Nat→Prop} {a:Option Addr} {c:Nat}
theorem Sl.ints {l:List Int} (h:Sl M w a c l):∀x∈l,i64 x:=by
 intro x hx
 obtain ⟨j,hj,rfl⟩:=List.mem_iff_getElem.1 hx
 obtain ⟨b,off,y, -, -,hy,hi⟩:=h.at_int hj
 have:=hy.out
 rw [List.getElem?_eq_getElem hj] at this
 rw [Option.some.inj this];exact hi.out
theorem Sl.trI {l:List Tr} (h:Sl M w a c l) (hg:gr16 ⟨0,l⟩=false):TrI l:=by
 intro t ht
 obtain ⟨h1,h2⟩:=gr16_nl hg
 have h3:=h2 t ht
 obtain ⟨j,hj,rfl⟩:=List.mem_iff_getElem.1 ht
 obtain ⟨b,o,p1,d1,p2,d2,t', -, -, -,e,s1,s2⟩:=h.at_tr hj
 have:=e.out
 rw [List.getElem?_eq_getElem hj] at this
 rw [Option.some.inj this] at h3 ⊢
 exact ⟨⟨s1.ints,by omega⟩,⟨s2.ints,by omega⟩⟩
theorem Sl.lsI {ls:List (List Tr)} (h:Sl M w a c ls) (hg:∀l∈ls,gr16 ⟨0,l⟩=false):LsI ls:=by
 intro l hl
 have hgl:=hg l hl
 obtain ⟨j,hj,rfl⟩:=List.mem_iff_getElem.1 hl
 obtain ⟨b,o,p1,t',d1, -, -,e,s⟩:=h.at_row hj
 have:=e.out
 rw [List.getElem?_eq_getElem hj] at this
 rw [Option.some.inj this] at hgl ⊢
 exact ⟨s.trI hgl,by have:=(gr16_nl hgl).1;omega,by have:=encTs_le hgl;omega⟩
end
section
variable {P:Program} {w:World} {o:Oper} {a:Act} {ops:Array Oper} {rest:List Oper} {Q:Exit→Act→World→Prop}
theorem wpList_push_ig {l:List Int} {s x:Operand} {t e:TypeId} {B:Nat} {v:Value} {g:Nat} {c:Nat} {y:Int} (hg:o.guard=none) (hop:o.op= .call {callee:= .builtin .append,args:= #[s,x],argTypes:= #[t,t]})
    (ht:P.underlying t=some (.slice e)) (hi:(P.info? e).map (fun i=>(i.zero,i.size,i.bytes))=some (some (.int .i64 0),1,8))
    (hs:a.eval s=v) (hx:a.eval x= .slice (some ⟨g,0,none⟩) 1 c) (hown:Ow B (fun k=>B≤k) w e v l) (hnew:w.cell? ⟨g,0,none⟩=some (.int .i64 y)) (hy:i64 y)
    (hlen:l.length<1000000000000) (hB:B≤w.heap.size)
    (h:∀(a':Option Addr) (c':Nat) (l':List Int) (w':World),Hid (l'=l++[y])→Ow B (fun k=>B≤k) w' e (.slice a' l'.length c') l'→Hid (w.grownBy w' v.ownBlock)→
     wpList P ops Q rest (a.put o.dst (.slice a' l'.length c')) w'):wpList P ops Q (o::rest) a w:=by
 refine wpList_push hg s x t hop e (.int .i64 0) 1 8 ht hi rfl (by decide) B (fun k=>B≤k) v l hs rfl hown (fun k hk=>(hown.lt k hk).1) ⟨g,0,none⟩ c [.int .i64 y] y hx ⟨rfl,hy⟩ ?_ ?_ (by omega) (by unfold maxLen;omega) hB ?_
 ·intro j u hj
  match j,hj with
  |0,hj=>simp at hj;subst hj;simpa [Addr.add] using hnew
 ·intro u hu;simp at hu;subst hu;rfl
 intro a' c' l' w' h1 h2 h3
 exact h a' c' l' w' h1 h2 h3
end
section
variable {w:World} {M:Nat→Prop} {a:Option Addr} {c:Nat}
theorem tornLaw53 (HA:Hid (∀w,Calls Tryz.prog 7 #[] w fun e w'=>e= .returned (.bool true)∧Below w.heap.size w w')) {ls:List (List Tr)} (hs:Sl (fun _=>False) w a c ls) {x:Int} (hx:0≤x∧x<65536):
    Calls Tryz.prog 5 #[.slice a ls.length c,.int .u16 x] w fun e w'=>e= .returned (.bool true)∧Below w.heap.size w w':=by
 have ll:=hs.le
 have hcap:ls.length≤c:=hs.1
 have hcm:c≤9223372036854775807:=by have:=hs.2.1;unfold maxLen at this;exact this
 by_cases h12:12<ls.length
 ·have h12b:decide ((12:Int)<ls.length)=true:=by simp;omega
  go_enter Tryz.func5,Tryz.ntmps5
  go_wp2_with fail
  refine (HA.out w).mono ?_
  rintro e w1 ⟨rfl,hb1⟩
  go_wp2
  go_ret
  exact ⟨rfl,hb1⟩
 have h12b:decide ((12:Int)<ls.length)=false:=by simp;omega
 have HS:=Lib.hid hs
 clear hs
 go_enter Tryz.func5,Tryz.ntmps5
 go_wp2
 go_loopw [5,6,7] (fun v5 v6 v7 wr=>∃(k:Nat) (a':Option Addr) (c':Nat) (J:List By) (ae:Option Addr) (ce:Nat) (E:List Int),k≤ls.length∧v5= .slice a' J.length c'∧v6= .slice ae E.length ce∧v7= .int .i64 k∧Hid (J=jrn crS4 (ls.take k)∧E=(List.range k).map (fun i=>(endP crS4 ls (i+1):Int))∧∀l∈ls.take k,gr16 ⟨0,l⟩=false)∧Hid (Sl (fun _=>False) wr a' c' J)∧Hid (Ow w.heap.size (fun i=>w.heap.size≤i) wr 3 (.slice ae E.length ce) E)∧Below w.heap.size w wr) (fun _ _ n _=>ls.length-(intOf n).toNat)
 case atStart=>exact ⟨0,none,0,[],none,0,[],Nat.zero_le _,rfl,rfl,rfl,Lib.hid ⟨rfl,rfl,by simp⟩,Lib.hid (Sl.nil _ _ _ (by unfold maxLen;omega)),Lib.hid Ow.nil,Below.refl _ _⟩
 case round=>
  obtain ⟨k,a2,c2,J,ae,ce,E,hk,rfl,rfl,rfl,hJE,hJ,hE,hB⟩:=hrel
  obtain ⟨wo,rfl⟩:∃wo:World,wo=wr:=⟨_,rfl⟩
  have hzo:=hB.size
  by_cases hlt:k<ls.length
  ·obtain ⟨b0,o0,p1,l,d1,rfl,e1,hl,s1⟩:=(HS.out.below hB).at_row hlt
   have hG:=gr16_any (o:=⟨0,l⟩) ⟨by unfold i64;simp,s1⟩
   have HS1:=Lib.hid s1
   clear s1
   cases hgr:gr16 ⟨0,l⟩ with
   |true=>
    rw [hgr] at hG
    have HG:=Lib.hid hG
    clear hG hgr
    go_wp2_with fail
    refine (HG.out).mono ?_
    rintro e w1 ⟨rfl,hb1⟩
    go_wp2_with fail
    refine (HA.out w1).mono ?_
    rintro e w2 ⟨rfl,hb2⟩
    go_wp2
    go_ret
    exact ⟨rfl,(hB.trans (hb1.mono hzo)).trans (hb2.mono (Nat.le_trans hzo hb1.size))⟩
   |false=>
    rw [hgr] at hG
    have HG:=Lib.hid hG
    have HR:=Lib.hid hgr
    have hle:=jrn_le (ls:=ls.take k) hJE.out.2.2
    have hJl : Hid (J.length ≤ 2400180) := by unfold Hid; rw [hJE.out.1]; rw [List.length_take] at hle; have : min k ls.length ≤ 12 := by omega
                                              have:=Nat.mul_le_mul_left 200015 this;omega
    have hel:=encTs_le hgr
    have hsm:Hid (∀t∈l,t.inn.length<1000000000∧t.out.length<1000000000):=fun t ht=>by have:=(gr16_nl hgr).2 t ht;omega
    have hn:Hid (J.length+(encTs l).length<1000000000):=by have:=hJl.out;unfold Hid;omega
    have hto:Hid (ls.take (k+1)=ls.take k++[l]):=by unfold Hid;rw [List.take_add_one,hl.out];rfl
    have hen:Hid (endP crS4 ls (k+1)=(jrn crS4 (ls.take k)++frameP crS4 l).length):=by unfold Hid endP;rw [jrn_take hl.out]
    clear hG hgr hle hel
    go_wp2_with fail
    refine (HG.out).mono ?_
    rintro e w1 ⟨rfl,hb1⟩
    have e2:=(hb1.cell (p:=⟨b0,o0+k,none⟩) (cell_lt e1)).trans e1
    have HC:=Lib.hid (append_any (hJ.out.below hb1) (HS1.out.below hb1) hsm hn)
    have hB1:=hB.trans (hb1.mono hzo)
    have hz1:=hb1.size
    have HE1:=Lib.hid (hE.out.upto hb1 (fun i hi=>(hE.out.lt i hi).2))
    clear hb1 e1 HG hE hB hJ HS1
    go_wp2_with fail
    refine (HC.out).mono ?_
    rintro e w2 ⟨a3,c3,J3,rfl,hJ3,hO3,hb2⟩
    have hB2:=hB1.trans (hb2.mono (Nat.le_trans hzo hz1))
    have hz2:=hb2.size
    have HE2:=Lib.hid (HE1.out.upto hb2 (fun i hi=>(HE1.out.lt i hi).2))
    have HJ2:Hid (Sl (fun i=>(Value.slice ae E.length ce).ownBlock=some i) w2 a3 c3 J3):=hO3.slB (fun i e=> .inl (HE1.out.lt i e).2)
    have hJ3l:J3.length<1000000000000:=by rw [hJ3.out,List.length_append];have:=frameP_len2 l;have:=hn.out;omega
    have hbb:=(Below.refl w2.heap.size w2).alloc (Nat.le_refl _) (.cells #[.int .i64 (J3.length:Nat)] 3)
    have hEl:Hid (E.length=k):=by unfold Hid;rw [hJE.out.2.1];simp
    clear HC hO3 hb2 HE1 hB1 e2
    go_wp2_with (at_builtin;refine wpList_push_ig (B:=w.heap.size) (v:= .slice ae E.length ce) (l:=E) (g:=w2.heap.size) (c:=1) (y:=(J3.length:Nat)) rfl rfl Tryz.underlying62 info_int rfl (by simp [go_sem]) (HE2.out.upto hbb (fun i hi=>(HE2.out.lt i hi).2)) (by simp) (by unfold i64;omega) (by have:=hEl.out;omega) (by simp;omega) ?_)
    intro a9 c9 E9 w9 hE9 hO9 hg9
    have hJJ:Hid (J3=jrn crS4 (ls.take (k+1))∧E9=(List.range (k+1)).map (fun i=>(endP crS4 ls (i+1):Int))∧∀l∈ls.take (k+1),gr16 ⟨0,l⟩=false):=by
     refine ⟨?_,?_,?_⟩
     ·rw [hJ3.out,jrn_take hl.out,hJE.out.1]
     ·rw [hE9.out,List.range_succ,List.map_append,←hJE.out.2.1,hJ3.out,hJE.out.1,List.map_cons,List.map_nil,hen.out]
     rw [hto.out];intro q hq
     rcases List.mem_append.1 hq with hq|hq
     ·exact hJE.out.2.2 q hq
     rw [List.mem_singleton.1 hq];exact HR.out
    have hB9:Below w.heap.size w w9:=hB2.trans ((hbb.mono (by omega)).trans ((Below.refl _ _).grown hg9.out (by simp;omega) (fun i hi=>(HE2.out.lt i hi).1)))
    have HJ9:Hid (Sl (fun _=>False) w9 a3 c3 J3):=(HJ2.out.below hbb).ext ⟨hg9.out.size,fun i hi hn=>hg9.out.block i hi (fun e=>hn e.symm),fun _ _ e=>e.elim⟩
    have HE9:=Lib.hid hO9
    clear hB2 hg9 hO9 HJ2 HE2 hE9 hJ3 hbb hen hto hEl
    go_wp2
    go_roundw
    case rel=>exact ⟨k+1,a3,c3,J3,a9,c9,E9,by omega,rfl,rfl,by go_num,hJJ,HJ9,HE9,hB9⟩
    case measure=>simp [intOf];omega
  have htk:ls.take k=ls:=List.take_of_length_le (by omega)
  have hkl:k=ls.length:=by omega
  rw [htk] at hJE
  have hJle:=jrn_le hJE.out.2.2
  rw [←hJE.out.1] at hJle
  have hJl:J.length≤2400180:=by omega
  have hI:=Lib.hid (HS.out.lsI hJE.out.2.2)
  have hEl:E.length=ls.length:=by rw [hJE.out.2.1];simp [hkl]
  obtain ⟨p,hp,hpl⟩:∃p:Nat,x.tmod ((J.length:Int)+1)=(p:Int)∧p≤J.length:=by
   refine ⟨(x.tmod ((J.length:Int)+1)).toNat,?_,?_⟩
   ·rw [Int.tmod_eq_emod_of_nonneg hx.1];have:=Int.emod_nonneg x (show ((J.length:Int)+1)≠0 by omega);omega
   rw [Int.tmod_eq_emod_of_nonneg hx.1];have:=Int.emod_lt_of_pos x (show 0<((J.length:Int)+1) by omega);omega
  have hEj:∀j,j<ls.length→Hid (E[j]? =some (endP crS4 ls (j+1):Int)):=by
   intro j hj;unfold Hid;rw [hJE.out.2.1,List.getElem?_map,List.getElem?_range (by omega)];rfl
  have HEL:=Lib.hid hEl
  have HPL:=Lib.hid hpl
  have HJ2:=Lib.hid (hJ.out.taken hpl)
  have HKL:=Lib.hid hkl
  clear htk hJle hEl hkl
  go_wp2
  go_loop [9,10,11] (fun v9 v10 v11=>∃(j m q:Nat),j≤E.length∧v9= .int .i64 m∧v10= .int .i64 q∧v11= .int .i64 j∧m≤j∧Hid (m=min j (wholeP crS4 ls p)∧q=endP crS4 ls m)) (fun _ _ n=>E.length-(intOf n).toNat)
  case atStart=>exact ⟨0,0,0,Nat.zero_le _,rfl,rfl,rfl,Nat.le_refl _,Lib.hid ⟨by simp,by simp [endP,jrn]⟩⟩
  case round=>
   obtain ⟨j,m,q,hj,rfl,rfl,rfl,hmj,hmq⟩:=hrel
   have hEle:=hE.out.le
   by_cases hjt:j<E.length
   ·obtain ⟨g,y,rfl,hy1,hy2,hy3,hy4⟩:=hE.out.at_int hjt
    obtain ⟨u,hu⟩:∃u,u=endP crS4 ls (j+1):=⟨_,rfl⟩
    have hyu:y=(u:Int):=by
     have h1:=hy3.out
     rw [(hEj j (by rw [←HEL.out];exact hjt)).out,←hu] at h1
     exact (Option.some.inj h1).symm
    subst hyu
    have hwi:=whole_iff (S:=crS4) (ls:=ls) (p:=p) (show j<ls.length by rw [←HEL.out];exact hjt)
    rw [←hu] at hwi
    by_cases hle:u≤p
    ·have hmq2:Hid (j+1=min (j+1) (wholeP crS4 ls p)∧u=endP crS4 ls (j+1)):=⟨by have:=hwi.1 hle;omega,hu⟩
     clear hwi hu hy3
     go_wp2
     go_round
     case rel=>exact ⟨j+1,j+1,u,by omega,by go_num,rfl,by go_num,Nat.le_refl _,hmq2⟩
     case measure=>simp [intOf];omega
    have hmq2:Hid (m=min (j+1) (wholeP crS4 ls p)∧q=endP crS4 ls m):=⟨by have:=fun h=>hle (hwi.2 h);have:=hmq.out.1;omega,hmq.out.2⟩
    clear hwi hu hy3
    go_wp2
    go_round
    case rel=>exact ⟨j+1,m,q,by omega,rfl,rfl,by go_num,by omega,hmq2⟩
    case measure=>simp [intOf];omega
   have hmW : m = wholeP crS4 ls p := by
    have h1:=wholeP_le (S:=crS4) (ls:=ls) p
    have h2:=HEL.out
    rw [hmq.out.1];omega
   have hml:m≤ls.length:=by rw [hmW];exact wholeP_le p
   have hmc:m≤c:=Nat.le_trans hml hcap
   have hpc:p≤c2:=Nat.le_trans hpl hJ.out.1
   have hc:=read_any hI (p:=p) (Lib.hid (by rw [←hJE.out.1];exact hpl)) (Lib.hid (by omega)) HJ2.out (Lib.hid (by rw [hJE.out.1]))
   rw [List.length_take,Nat.min_eq_left hpl,←hmW,←hmq.out.2] at hc
   obtain ⟨r,hr⟩:∃r,r=rdE ls p:=⟨_,rfl⟩
   rw [←hr] at hc
   have hrc:(r=0∧q=p)∨(r=4∧¬q=p):=by
    rw [hr];unfold rdE;rw [←hmW,←hmq.out.2]
    by_cases h:q=p
    ·exact .inl ⟨by rw [if_pos h],h⟩
    exact .inr ⟨by rw [if_neg h],h⟩
   have HC:=Lib.hid hc
   have HRC:=Lib.hid hrc
   have hqq:((q:Int) !=(q:Int))=false:=by simp
   have hzo2:=hB.size
   clear hc hr hrc hmW
   go_wp2_with fail
   refine (HC.out).mono ?_
   rintro e w1 ⟨a1,c1,o,rfl,ho,hO1,hb1⟩
   have hlm:=(HS.out.below (hB.trans (hb1.mono hzo2))).taken hml
   have hc2:=same53_yes (Sl.none (Ox.toSl hO1 (Nat.le_refl _))) hlm ho
   rw [List.length_take,Nat.min_eq_left hml] at hc2
   have HC2:=Lib.hid hc2
   have hB1:=hB.trans (hb1.mono hzo2)
   clear HC hO1 hb1 hlm hc2 ho
   go_wp2_with fail
   refine (HC2.out).mono ?_
   rintro e w2 ⟨rfl,n,rfl⟩
   clear HC2
   rcases HRC.out with ⟨rfl,rfl⟩|⟨rfl,hqp⟩
   ·have hqe:((q:Int)==(q:Int))=true:=by simp
    go_wp2_with fail
    refine (HA.out _).mono ?_
    rintro e w3 ⟨rfl,hb3⟩
    go_wp2
    go_ret
    exact ⟨rfl,hB1.trans (((below_drewN _ _ n)).trans (hb3.mono (by simp;exact hB1.size)))⟩
   have hqe:((q:Int)==(p:Int))=false:=by simp;omega
   go_wp2_with fail
   refine (HA.out _).mono ?_
   rintro e w3 ⟨rfl,hb3⟩
   go_wp2
   go_ret
   exact ⟨rfl,hB1.trans (((below_drewN _ _ n)).trans (hb3.mono (by simp;exact hB1.size)))⟩
end
end Go.Proofs.YtlmfbjiejodalaaGreatDoor
