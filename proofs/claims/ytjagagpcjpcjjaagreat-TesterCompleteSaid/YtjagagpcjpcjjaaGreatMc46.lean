/- Several texts, one behind the other. Conditions: as each of them says. -/
import Derived.Test.YtjagagpcjpcjjaaGreatMc45
import Derived.Test.YtjagagpcjpcjjaaGreatMc43
import Derived.Test.YtjagagpcjpcjjaaGreatMc40
import Derived.Test.YtjagagpcjpcjjaaGreatMc39
import Derived.Test.YtjagagpcjpcjjaaGreatMc36
import Derived.Test.YtjagagpcjpcjjaaGreatMc35
import Derived.Test.YtjagagpcjpcjjaaGreatMc31
import Derived.Test.YtjagagpcjpcjjaaGreatMc30
import Derived.Test.YtjagagpcjpcjjaaGreatMc29
import Derived.Test.YtjagagpcjpcjjaaGreatMc28
import Derived.Test.YtjagagpcjpcjjaaGreatMc26
import Derived.Test.YtjagagpcjpcjjaaGreatMc23
import Derived.Test.YtjagagpcjpcjjaaGreatMc21
import Derived.Test.YtjagagpcjpcjjaaGreatMc19
import Derived.Test.YtjagagpcjpcjjaaGreatMc10
import Derived.Test.YtjagagpcjpcjjaaGreatMc4
import Derived.Test.YtjagagpcjpcjjaaGreatMc1
set_option maxRecDepth 100000
set_option maxHeartbeats 32000000
namespace Go.Proofs.YtjagagpcjpcjjaaGreat
open Go.RowKit
section
variable {M MT:Nat→Prop} {w:World} {an ao aT:Option Addr} {cn co cT:Nat} {m:Mach} {T:List Nd}
end
section
variable {M:Nat→Prop} {w:World} {a:Option Addr} {c:Nat} {L:List Nd}
end
section
variable {M:Nat→Prop} {w:World} {an ao:Option Addr} {cn co:Nat} {m:Mach}
end
section
variable {M:Nat→Prop} {w:World} {an ao:Option Addr} {cn co:Nat} {m:Mach}
end
section
variable {M MT:Nat→Prop} {w:World} {an ao aT:Option Addr} {cn co cT:Nat} {m:Mach} {T:List Nd}
end
namespace Mach
variable {m:Mach}
theorem wordGo_wi {T:List Nd} (ok:m.Ok):∀(f a:Nat) (c:Int) (w:List Int),m.Wi T a c→T.length≤a+f→w.length≤a→(m.wordGo T f a c w).1.length≤(m.wordGo T f a c w).2∧(m.wordGo T f a c w).2<T.length∧∃c',m.Wi T (m.wordGo T f a c w).2 c'
 |0,a,c,w,h,hf,hw=>by have:=(wi_lt h).1;omega
 |f+1,a,c,w,h,hf,hw=>by
  have hl:=(wi_lt h).1
  have hx:T[a]? =some T[a]:=List.getElem?_eq_getElem hl
  by_cases h0:T[a].inp<0
  ·rw [wordGo_stop hx h0];exact ⟨hw,hl,c,h⟩
  obtain ⟨-,k,kd,n',h1,h2,h3,h4,h5,h6,h7⟩:=wi_step ok h hx (by omega)
  rw [wordGo_on hx (by omega) (kidOf_at h1 h2 h3),h4,Int.toNat_natCast]
  exact wordGo_wi ok f n' _ _ h7 (by omega) (by rw [List.length_append];simp;omega)
theorem idE_ok {n:Mach} (h:n.adsB.2.2=0):(n.idE n.adsB.1).2=0:=by
 unfold idE
 rw [if_neg (by simp [adsB_chk h])]
end Mach
section
variable {M:Nat→Prop} {w:World} {an ao:Option Addr} {cn co:Nat} {m:Mach}
end
end Go.Proofs.YtjagagpcjpcjjaaGreat
namespace Go.Proofs.YtjagagpcjpcjjaaGreat
namespace Mach
variable {m:Mach}
theorem all_in {l:List Int} {n:Nat} (hd:l.Nodup) (hr:∀x∈l,0≤x∧x<n) (hl:l.length=n) {s:Int} (h0:0≤s) (h1:s<n):s∈l:=by
 by_cases e:s∈l
 ·exact e
 have h := nodup_le n (s :: l) (List.nodup_cons.2 ⟨e, hd⟩) (fun x hx => by
  rcases List.mem_cons.1 hx with rfl|hx
  ·exact ⟨h0,h1⟩
  exact hr x hx)
 rw [List.length_cons] at h;omega
theorem wordGo_ok {T:List Nd} (ok:m.Ok):∀(f a:Nat) (c:Int) (w:List Int),m.Wi T a c→m.okS w→m.okS (m.wordGo T f a c w).1
 |0,a,c,w,h,hw=>hw
 |f+1,a,c,w,h,hw=>by
  have hl:=(wi_lt h).1
  have hx:T[a]? =some T[a]:=List.getElem?_eq_getElem hl
  by_cases h0:T[a].inp<0
  ·rw [wordGo_stop hx h0];exact hw
  obtain ⟨hi,k,kd,n',h1,h2,h3,h4,h5,h6,h7⟩:=wi_step ok h hx (by omega)
  rw [wordGo_on hx (by omega) (kidOf_at h1 h2 h3),h4,Int.toNat_natCast]
  refine wordGo_ok ok f n' _ _ h7 fun y hy=> ?_
  rcases List.mem_append.1 hy with hy|hy
  ·exact hw y hy
  rw [List.mem_singleton.1 hy];omega
theorem sepW_ok (n8:m.next.length≤8) (s x:Int):m.okS (m.sepW s x)∧(m.sepW s x).length≤505:=by
 unfold sepW
 cases h:stW m s x with
 |none=>exact ⟨fun y hy=>by simp at hy,by simp⟩
 |some w=>
  show m.okS w∧w.length≤505
  unfold stW at h
  split at h
  ·have h1:=first_len h
   have h2:m.next.length*m.next.length≤8*8:=Nat.mul_le_mul n8 n8
   exact ⟨(first_some h).1.1,by omega⟩
  simp at h
theorem ids_ok {T:List Nd} (n8:m.next.length≤8) (h:m.adsChk T=0) (hT:T.length≤505):∀r∈(m.idE T).1,∀v∈r,m.okS v∧v.length≤505:=by
 have ok:m.Ok:=Mach.ok_of_err m (Mach.minErr_ok (Mach.adsChk_0 h).1).1
 unfold idE
 rw [if_neg (by simp [h])]
 intro r hr v hv
 unfold ids at hr
 obtain ⟨s,hs,rfl⟩:=List.mem_map.1 hr
 rw [srt_mem tot_cmp] at hv
 unfold idW at hv
 have hw0:=wi_0 ok h (List.mem_range.1 hs)
 rcases List.mem_append.1 hv with hv|hv
 ·unfold idA at hv
  split at hv
  ·rw [List.mem_singleton.1 hv]
   obtain ⟨h1,h2, -⟩:=wordGo_wi ok T.length 0 (s:Int) [] hw0 (by omega) (by simp)
   exact ⟨wordGo_ok ok T.length 0 (s:Int) [] hw0 (fun y hy=>by simp at hy),by show (m.wordGo T T.length 0 (s:Int) []).1.length≤505;omega⟩
  simp at hv
 obtain ⟨x, -,rfl⟩:=List.mem_map.1 hv
 exact sepW_ok n8 _ _
theorem minF_min (ok:m.Ok):m.minF.minErr=0∧m.minF.minOf=m.minF∧m.minF.err=0∧m.minF.next.length≤m.next.length:=by
 have okt:=minF_ok ok
 have he:=Mach.err_of_ok _ okt
 have h1:m.minF.minOf=m.minF:=by rw [Mach.minOf_eq he,minF_minF ok]
 have h2:m.minF.minimal=true:=by
  unfold minimal
  have:=minF_reach ok
  simp [he,this,h1]
 exact ⟨Mach.minErr_0 he h2,h1,he,by rw [minF_len];exact Nat.le_trans (firsts_le ok) (reach_le ok)⟩
theorem suW_8 (ok:m.Ok) (n8:m.next.length≤8) {extra:Int} (h0:0≤extra) (h3:extra≤3):
    m.suW extra=if (uptW m.inputs (extra+1)).2≠0 then ([],(uptW m.inputs (extra+1)).2) else
     if 10000<(m.minF.covW.map Pc.word).length*(uptW m.inputs (extra+1)).1.length*grW (m.minF.idE m.minF.adsL).1 then ([],11) else
     (maxW (suOut m.minF (m.minF.idE m.minF.adsL).1 (m.minF.covW.map Pc.word) (uptW m.inputs (extra+1)).1),0):=by
 have he:=Mach.err_of_ok _ ok
 obtain ⟨g1,g2,g3,g4⟩:=minF_min ok
 obtain ⟨b1,b2⟩:=adsB_8 g1 (by omega)
 have b3:=idE_ok (n:=m.minF) (by rw [b1])
 unfold suW
 rw [Mach.minOf_eq he,b1,if_neg (by simp [he]),if_neg (by omega)]
 rw [b1] at b3
 congr 1
 rw [if_neg (by simp),if_neg (by simpa using b3)]
theorem suW_0 (ok:m.Ok) (n8:m.next.length≤8) {extra:Int} (h0:0≤extra) (h3:extra≤3) (h:(m.suW extra).2=0):
    (uptW m.inputs (extra+1)).2=0∧(m.suW extra).1=maxW (suOut m.minF (m.minF.idE m.minF.adsL).1 (m.minF.covW.map Pc.word) (uptW m.inputs (extra+1)).1):=by
 rw [suW_8 ok n8 h0 h3] at h ⊢
 split at h
 ·rename_i e;exact absurd h e
 rename_i e
 rw [if_neg e]
 split at h
 ·simp at h
 rename_i e2
 rw [if_neg e2]
 exact ⟨Classical.byContradiction e,rfl⟩
theorem tailW_ne {ids:List (List (List Int))} {w:List Int}:∃v,v∈tailW m ids w:=by
 unfold tailW
 split
 ·exact ⟨[],by simp⟩
 rename_i h
 obtain ⟨v,hv⟩:=List.exists_mem_of_ne_nil _ h
 exact ⟨v,hv⟩
theorem tailW_at {ids:List (List (List Int))} {w v:List Int} (h:v∈tailW m ids w):v=[]∨∃r∈ids,v∈r:=by
 unfold tailW at h
 split at h
 ·exact .inl (List.mem_singleton.1 h)
 rename_i hne
 refine .inr ⟨_,?_,h⟩
 rw [List.getD_eq_getElem?_getD] at hne ⊢
 cases e:ids[(m.endW m.start w).toNat]? with
 |none=>rw [e] at hne;exact absurd rfl hne
 |some r=>exact List.mem_of_getElem? e
theorem suW_words (ok:m.Ok) (n8:m.next.length≤8) {extra:Int} (h0:0≤extra) (h3:extra≤3) (h:(m.suW extra).2=0):∀w∈(m.suW extra).1,wErr w m.inputs=0:=by
 obtain ⟨g1,g2,g3,g4⟩:=minF_min ok
 obtain ⟨b1,b2⟩:=adsB_8 g1 (by omega)
 have b3:=adsB_chk (n:=m.minF) (by rw [b1])
 rw [b1] at b3
 have okt:=minF_ok ok
 intro w hw
 rw [(suW_0 ok n8 h0 h3 h).2] at hw
 have hw:=maxW_mem hw
 unfold suOut at hw
 obtain ⟨p,hp,hw⟩:=List.mem_flatMap.1 hw
 unfold sf at hw
 obtain ⟨x,hx,hw⟩:=List.mem_flatMap.1 hw
 unfold sg at hw
 obtain ⟨v,hv,rfl⟩:=List.mem_map.1 hw
 obtain ⟨q,hq,rfl⟩:=List.mem_map.1 hp
 obtain ⟨-, -,q1,q2, -⟩:=cov_all okt m.minF.next.length q hq
 have hxi:=(uptW_in m.inputs (extra+1)).1 x hx
 have hv2:m.minF.okS v∧v.length≤505:=by
  rcases tailW_at hv with rfl|⟨r,hr,hvr⟩
  ·exact ⟨fun y hy=>by simp at hy,by simp⟩
  exact ids_ok (by omega) b3 b2 r hr v hvr
 have hin:m.minF.inputs=m.inputs:=rfl
 refine wErr_of (by have:=ok.i0;omega) (by have:=ok.i1;omega) (by simp only [List.length_append];have:=hxi.2;have:=hv2.2;omega) (fun y hy=> ?_)
 rcases List.mem_append.1 hy with hy|hy
 ·rcases List.mem_append.1 hy with hy|hy
  ·have:=q1 y hy;omega
  exact hxi.1 y hy
 have:=hv2.1 y hy;omega
end Mach
theorem visitC_sub (c:Int→Int):∀(r l:List Int),∃s,visitC c l r=l++s∧s.Sublist r
 |[],l=>⟨[],by simp [visitC],List.Sublist.refl _⟩
 |t::r,l=>by
  unfold visitC
  split
  ·obtain ⟨s,h1,h2⟩:=visitC_sub c r l
   exact ⟨s,h1,h2.cons _⟩
  obtain ⟨s,h1,h2⟩:=visitC_sub c r (l++[t])
  exact ⟨t::s,by rw [h1];simp,h2.cons_cons _⟩
theorem nodup_map_inj {l:List Int} {c:Int→Int} (h:(l.map c).Nodup) {x y:Int} (hx:x∈l) (hy:y∈l) (e:c x=c y):x=y:=by
 induction l with
 |nil=>simp at hx
 |cons z l ih=>
  rw [List.map_cons,List.nodup_cons] at h
  rcases List.mem_cons.1 hx with e1|h1
  ·rcases List.mem_cons.1 hy with e2|h2
   ·rw [e1,e2]
   exact absurd (by rw [←e1,e];exact List.mem_map_of_mem h2) h.1
  rcases List.mem_cons.1 hy with e2|h2
  ·exact absurd (by rw [←e2,←e];exact List.mem_map_of_mem h1) h.1
  exact ih h.2 h1 h2
theorem zip_mem_map {α β:Type} (f:α→β) (g:α→Int):∀(l:List α) (p:α),p∈l→(f p,g p)∈(l.map f).zip (l.map g)
 |x::l,p,h=>by
  rw [List.map_cons,List.map_cons,List.zip_cons_cons]
  rcases List.mem_cons.1 h with rfl|h
  ·exact List.mem_cons_self
  exact List.mem_cons_of_mem _ (zip_mem_map f g l p h)
theorem comW_pre:∀{p a b:List Int},p<+:a→p<+:b→p.length≤comW a b
 |[],a,b,_,_=>Nat.zero_le _
 |x::p,a,b,h1,h2=>by
  obtain ⟨s,rfl⟩:=h1
  obtain ⟨t,rfl⟩:=h2
  have:=comW_pre (p:=p) (a:=p++s) (b:=p++t) ⟨s,rfl⟩ ⟨t,rfl⟩
  simp only [List.cons_append,comW,if_true,List.length_cons]
  omega
theorem comW_self:∀a:List Int,comW a a=a.length
 |[]=>rfl
 |x::a=>by simp [comW,comW_self a]
theorem comW_take:∀(a b:List Int),a.take (comW a b)=b.take (comW a b)
 |[],b=>by rw [comW_nil_l];rfl
 |_::_,[]=>by rw [comW_nil_r];rfl
 |x::a,y::b=>by
  by_cases e:x=y
  ·subst e;rw [comW_same,List.take_succ_cons,List.take_succ_cons,comW_take a b]
  rw [comW_diff e];rfl
namespace Mach
variable {m:Mach}
theorem min_cl (ok:m.Ok) (h:m.minimal=true) {s t:Int} (hs:0≤s∧s<m.next.length) (ht:0≤t∧t<m.next.length) (e:m.cl s=m.cl t):s=t:=by
 unfold minimal at h
 obtain ⟨h0,h1,h2⟩:=of_decide_eq_true h
 rw [minOf_eq h0,minF_len,←h1] at h2
 obtain ⟨r,h3,h4⟩:=visitC_sub m.cl m.reach []
 have h5:r=m.reach:=h4.eq_of_length (by
  have:(firsts m.cl m.reach).length=r.length:=by unfold firsts;rw [h3];rfl
  omega)
 have h6:=visitC_nodup m.cl m.reach [] (by simp)
 rw [h3,h5,List.nil_append] at h6
 obtain ⟨g1,g2, -⟩:=bfs_props ok m.next.length
 have hin:∀{x:Int},0≤x∧x<m.next.length→x∈m.reach:=fun hx=>all_in g1 g2 h1 hx.1 hx.2
 exact nodup_map_inj h6 (hin hs) (hin ht) e
theorem sepW_some (ok:m.Ok) (h:m.minimal=true) {s t:Int} (hs:0≤s∧s<m.next.length) (ht:0≤t∧t<m.next.length) (hne:s≠t):firstW m m s t=some (m.sepW s t)∧m.okS (m.sepW s t)∧m.outsW s (m.sepW s t)≠m.outsW t (m.sepW s t):=by
 have he:Go.Proofs.YtjagagpcjpcjjaaGreat.stErr m s t=0:=by
  rcases st_cases (Mach.err_of_ok _ ok) s t with h|h|h|h|h
  all_goals first|omega|exact h.2.2.2.2
 have h1:stW m s t=firstW m m s t:=by unfold stW;rw [if_pos he]
 unfold sepW
 rw [h1]
 cases e:firstW m m s t with
 |none=>exact absurd (min_cl ok h hs ht ((sim_iff ok hs.1 hs.2 ht.1 ht.2).2 ((first_iff ok ok rfl hs ht).1 e))) hne
 |some w=>exact ⟨rfl,(first_some e).1.1,(first_some e).1.2⟩
theorem sepW_swap (ok:m.Ok) {s t:Int} (hs:0≤s∧s<m.next.length) (ht:0≤t∧t<m.next.length):m.sepW s t=m.sepW t s:=by
 have he:∀{s t:Int},0≤s∧s<m.next.length→0≤t∧t<m.next.length→stW m s t=firstW m m s t:=fun {s t} hs ht=>by
  unfold stW
  rw [if_pos]
  rcases st_cases (Mach.err_of_ok _ ok) s t with h|h|h|h|h
  all_goals first|omega|exact h.2.2.2.2
 unfold sepW
 rw [he hs ht,he ht hs,first_swap ok ok rfl ht hs]
def WiP (m:Mach) (T:List Nd) (a:Nat) (s c:Int):Prop:=∃f g e,m.right T f a g=(e,true)∧(s,c)∈g.ini.zip g.cur∧GOk m.next.length g∧((∀s∈g.ini,0≤s∧s<(m.next.length:Int))∧g.cur.length≤m.next.length)
theorem WiP.wi {T:List Nd} {a:Nat} {s c:Int} (h:m.WiP T a s c):m.Wi T a c:=by
 obtain ⟨f,g,e,h1,h2,h3,h4⟩:=h
 exact ⟨f,g,e,h1,(List.of_mem_zip h2).2,h3,h4⟩
theorem wip_step {T:List Nd} {a:Nat} {s c:Int} {x:Nd} (ok:m.Ok) (h:m.WiP T a s c) (hx:T[a]? =some x) (h0:0≤x.inp):
    x.inp<m.inputs∧∃(kd:Kd) (n':Nat),kidOf x.kids (m.ot c.toNat x.inp.toNat)=some kd∧kd.to=(n':Int)∧a<n'∧m.WiP T n' s (m.nx c.toNat x.inp.toNat):=by
 obtain ⟨f,g,e,hr,hsc,hg,hgi⟩:=h
 have hc:=(List.of_mem_zip hsc).2
 obtain ⟨h1,h2,f',h3⟩:=right_parts hr hx h0
 refine ⟨h1,?_⟩
 have ho:m.ot c.toNat x.inp.toNat∈m.outsI x.inp.toNat g.cur:=by
  unfold outsI;rw [iset_mem];exact List.mem_map_of_mem (f:=fun s=>m.ot s.toNat x.inp.toNat) hc
 obtain ⟨k,hk⟩:=List.mem_iff_getElem?.1 ho
 have hP:=gParts_at hk
 have hkl:k<x.kids.length:=by rw [←h2];exact some_lt hP
 have hout:∀(j:Nat) (kj:Kd),x.kids[j]? =some kj→∃oj,(m.outsI x.inp.toNat g.cur)[j]? =some oj∧kj.out=oj:=fun j kj hj=>by
  have hjl:=some_lt hj
  obtain ⟨oj,hoj⟩:∃oj,(m.outsI x.inp.toNat g.cur)[j]? =some oj:=⟨_,List.getElem?_eq_getElem (by rw [←gParts_len,h2];exact hjl)⟩
  have:=h3 j ((oj,m.grp x.inp.toNat g.ini g.cur oj),kj) (List.getElem?_zip_eq_some.2 ⟨gParts_at hoj,hj⟩)
  exact ⟨oj,hoj,this.1⟩
 obtain ⟨h4,n',h5,h6,e',h7⟩:=h3 k ((m.ot c.toNat x.inp.toNat,m.grp x.inp.toNat g.ini g.cur (m.ot c.toNat x.inp.toNat)),x.kids[k]) (List.getElem?_zip_eq_some.2 ⟨hP,List.getElem?_eq_getElem hkl⟩)
 refine ⟨x.kids[k],n',kidOf_at (List.getElem?_eq_getElem hkl) h4 fun j kj hj hkj e2=> ?_,h6,by omega,f',_,e',h7,?_,grp_ok ok (by omega) hg ho,fun s hs=> ?_,Nat.le_trans grp_le hgi.2⟩
 ·obtain ⟨oj,h8,h9⟩:=hout j kj hkj
  have hA:IAsc (m.outsI x.inp.toNat g.cur):=iset_asc _
  have a1:=iasc_count hA hk
  have a2:=iasc_count hA h8
  rw [←h9,e2] at a2
  omega
 ·show (s,m.nx c.toNat x.inp.toNat)∈(m.gpI x.inp.toNat g.ini g.cur (m.ot c.toNat x.inp.toNat)).zip (m.gpC x.inp.toNat g.ini g.cur (m.ot c.toNat x.inp.toNat))
  exact zip_mem_map Prod.fst (fun p:Int×Int=>m.nx p.2.toNat x.inp.toNat) _ (s,c) (List.mem_filter.2 ⟨hsc,by simp⟩)
 obtain ⟨p,hp,rfl⟩:=List.mem_map.1 (show s∈m.gpI x.inp.toNat g.ini g.cur (m.ot c.toNat x.inp.toNat) from hs)
 exact hgi.1 p.1 (List.of_mem_zip (List.mem_filter.1 hp).1).1
theorem wip_node {T:List Nd} {a:Nat} {s c:Int} {x:Nd} (h:m.WiP T a s c) (hx:T[a]? =some x):s∈x.st:=by
 obtain ⟨f,g,e,hr,hc,hg,hgi⟩:=h
 cases f with
 |zero=>simp [right] at hr
 |succ f=>
  have e:x.st=g.ini:=Classical.byContradiction fun e=>by rw [right_no hx (.inl e)] at hr;simp at hr
  rw [e]
  exact (List.of_mem_zip hc).1
theorem wip_0 {T:List Nd} (h:m.adsChk T=0) {s:Nat} (hs:s<m.next.length):m.WiP T 0 (s:Int) (s:Int)∧∃x,T[0]? =some x∧x.st=allS m.next.length:=by
 have h1:=(adsChk_0 h).2.2
 have ok:m.Ok:=Mach.ok_of_err m (Mach.minErr_ok (Mach.adsChk_0 h).1).1
 have hal:∀y∈allS m.next.length,0≤y∧y<(m.next.length:Int):=fun y hy=>by
  unfold allS at hy
  obtain ⟨k,hk,rfl⟩:=List.mem_map.1 hy
  have:=List.mem_range.1 hk;omega
 obtain ⟨f,e,hr⟩:∃f e,m.right T f 0 ⟨allS m.next.length,allS m.next.length⟩=(e,true):=⟨_,_,h1⟩
 have h0:=right_bd _ _ _ _ hr
 refine ⟨⟨f,_,e,hr,List.mem_of_getElem? (i:=s) (List.getElem?_zip_eq_some.2 ⟨allS_get hs,allS_get hs⟩),⟨rfl,by rw [allS_len];exact ok.n0,hal⟩,hal,by rw [allS_len];exact Nat.le_refl _⟩,T[0]'(by omega),List.getElem?_eq_getElem (by omega),?_⟩
 cases f with
 |zero=>simp [right] at hr
 |succ f=>
  exact Classical.byContradiction fun e=>by rw [right_no (List.getElem?_eq_getElem (by omega:0<T.length)) (.inl e)] at hr;simp at hr
theorem wordGo_pre {T:List Nd} (ok:m.Ok):∀(f a:Nat) (c:Int) (w:List Int),m.Wi T a c→w<+:(m.wordGo T f a c w).1
 |0,a,c,w,h=>List.prefix_refl _
 |f+1,a,c,w,h=>by
  have hl:=(wi_lt h).1
  have hx:T[a]? =some T[a]:=List.getElem?_eq_getElem hl
  by_cases h0:T[a].inp<0
  ·rw [wordGo_stop hx h0];exact List.prefix_refl _
  obtain ⟨hi,k,kd,n',h1,h2,h3,h4,h5,h6,h7⟩:=wi_step ok h hx (by omega)
  rw [wordGo_on hx (by omega) (kidOf_at h1 h2 h3),h4,Int.toNat_natCast]
  exact (List.prefix_append w [T[a].inp]).trans (wordGo_pre ok f n' _ _ h7)
theorem harm_go {T:List Nd} (ok:m.Ok):∀(f a:Nat) (s c t d:Int) (w:List Int),m.WiP T a s c→m.WiP T a t d→
    m.wordGo T f a c w=m.wordGo T f a d w∨∃p,(w++p)<+:(m.wordGo T f a c w).1∧(w++p)<+:(m.wordGo T f a d w).1∧m.outsW c p≠m.outsW d p
 |0,a,s,c,t,d,w,h,k=> .inl rfl
 |f+1,a,s,c,t,d,w,h,k=>by
  have hl:=(wi_lt h.wi).1
  have hx:T[a]? =some T[a]:=List.getElem?_eq_getElem hl
  by_cases h0:T[a].inp<0
  ·rw [wordGo_stop hx h0,wordGo_stop hx h0];exact .inl rfl
  obtain ⟨hi,kd,n,h1,h2,h3,h4⟩:=wip_step ok h hx (by omega)
  obtain ⟨-,ke,q,k1,k2,k3,k4⟩:=wip_step ok k hx (by omega)
  rw [wordGo_on hx (by omega) h1,wordGo_on hx (by omega) k1,h2,k2,Int.toNat_natCast,Int.toNat_natCast]
  by_cases e:m.ot c.toNat T[a].inp.toNat=m.ot d.toNat T[a].inp.toNat
  ·rw [e] at h1
   obtain rfl:ke=kd:=by rw [h1] at k1;exact (Option.some.inj k1).symm
   obtain rfl:n=q:=by omega
   rcases harm_go ok f n s _ t _ (w++[T[a].inp]) h4 k4 with g|⟨p,g1,g2,g3⟩
   ·exact .inl g
   refine .inr ⟨T[a].inp::p,by simpa using g1,by simpa using g2,fun e2=>g3 ?_⟩
   simp only [outsW] at e2
   exact (List.cons.inj e2).2
  refine .inr ⟨[T[a].inp],wordGo_pre ok _ _ _ _ h4.wi,wordGo_pre ok _ _ _ _ k4.wi,fun e2=>e ?_⟩
  simp only [outsW] at e2
  exact (List.cons.inj e2).1
theorem wip_inp {T:List Nd} {a:Nat} {s c:Int} {x:Nd} (h:m.WiP T a s c) (hx:T[a]? =some x) (h0:x.inp<0):x.inp= -1:=by
 obtain ⟨f,g,e,hr,hc,hg,hgi⟩:=h
 cases f with
 |zero=>simp [right] at hr
 |succ f=>
  by_cases h1:x.inp= -1
  ·exact h1
  rw [right_out hx h1 (.inl h0)] at hr;simp at hr
theorem leaf_go {T:List Nd} (ok:m.Ok):∀(f a:Nat) (s c:Int) (w:List Int),m.WiP T a s c→T.length≤a+f→∃x,T[(m.wordGo T f a c w).2]? =some x∧x.inp= -1∧s∈x.st
 |0,a,s,c,w,h,hf=>by have:=(wi_lt h.wi).1;omega
 |f+1,a,s,c,w,h,hf=>by
  have hl:=(wi_lt h.wi).1
  have hx:T[a]? =some T[a]:=List.getElem?_eq_getElem hl
  by_cases h0:T[a].inp<0
  ·rw [wordGo_stop hx h0];exact ⟨_,hx,wip_inp h hx h0,wip_node h hx⟩
  obtain ⟨hi,kd,n,h1,h2,h3,h4⟩:=wip_step ok h hx (by omega)
  rw [wordGo_on hx (by omega) h1,h2,Int.toNat_natCast]
  exact leaf_go ok f n s _ _ h4 (by omega)
def Harm (m:Mach) (s t:Int) (a b:List Int):Prop:=m.outsW s (a.take (comW a b))≠m.outsW t (a.take (comW a b))
theorem outsW_take (w:List Int):∀(s:Int) (n:Nat),m.outsW s (w.take n)=(m.outsW s w).take n:=by
 induction w with
 |nil=>intro s n;simp [outsW]
 |cons x w ih=>
  intro s n
  cases n with
  |zero=>simp [outsW]
  |succ n=>simp [outsW,ih]
theorem harm_of {s t:Int} {a b p:List Int} (h1:p<+:a) (h2:p<+:b) (h3:m.outsW s p≠m.outsW t p):m.Harm s t a b:=by
 intro e
 have h4:=comW_pre h1 h2
 have h5:p=(a.take (comW a b)).take p.length:=by
  rw [List.take_take,Nat.min_eq_left h4];exact List.prefix_iff_eq_take.1 h1
 have h6:∀u,m.outsW u p=(m.outsW u (a.take (comW a b))).take p.length:=fun u=>by rw [←outsW_take,←h5]
 exact h3 (by rw [h6 s,h6 t,e])
theorem idO_mem {s x:Int} {o:List Int} (hx:x∈o) (hne:x≠s):m.sepW s x∈m.idO s o:=by
 unfold idO;exact List.mem_map.2 ⟨x,List.mem_filter.2 ⟨hx,by simpa using hne⟩,rfl⟩
theorem nodeSt_of {T:List Nd} {l:Nat} {x:Nd} (h:T[l]? =some x):nodeSt T l=x.st:=by unfold nodeSt;rw [h]
theorem harmony {T:List Nd} (ok:m.Ok) (hm:m.minimal=true) (h:m.adsChk T=0) {s t:Nat} (hs:s<m.next.length) (ht:t<m.next.length) (hne:s≠t):
    ∃a∈m.idW T (s:Int),∃b∈m.idW T (t:Int),m.Harm (s:Int) (t:Int) a b:=by
 have h1:=(wip_0 h hs).1
 have h2:=(wip_0 h ht).1
 rcases harm_go ok T.length 0 _ _ _ _ [] h1 h2 with g|⟨p,g1,g2,g3⟩
 ·obtain ⟨x,e1,e2,e3⟩:=leaf_go ok T.length 0 _ _ [] h1 (by omega)
  obtain ⟨y,d1,d2,d3⟩:=leaf_go ok T.length 0 _ _ [] h2 (by omega)
  obtain rfl:x=y:=by rw [g,d1] at e1;exact (Option.some.inj e1).symm
  have hsw:=sepW_some ok hm (s:=(s:Int)) (t:=(t:Int)) (by omega) (by omega) (by omega)
  refine ⟨m.sepW s t,?_,m.sepW s t,?_,?_⟩
  ·unfold idW
   refine List.mem_append.2 (.inr (idO_mem ?_ (by omega)))
   unfold adsW;rw [nodeSt_of e1];exact d3
  ·unfold idW
   rw [sepW_swap ok (by omega) (by omega)]
   refine List.mem_append.2 (.inr (idO_mem ?_ (by omega)))
   unfold adsW;rw [nodeSt_of d1];exact e3
  unfold Harm;rw [comW_self,List.take_length];exact hsw.2.2
 have hp : 0 < p.length := by
  cases p with
  |nil=>exact absurd rfl g3
  |cons _ _=>simp
 rw [List.nil_append] at g1 g2
 refine ⟨(m.adsW T s).1,?_,(m.adsW T t).1,?_,harm_of g1 g2 g3⟩
 ·unfold idW idA
  have:=g1.length_le
  rw [if_pos (.inl (by unfold adsW;omega))];simp
 unfold idW idA
 have:=g2.length_le
 rw [if_pos (.inl (by unfold adsW;omega))];simp
theorem harmonyI {T:List Nd} (ok:m.Ok) (hm:m.minimal=true) (h:m.adsChk T=0) {s t:Nat} (hs:s<m.next.length) (ht:t<m.next.length) (hne:s≠t) {A B:List (List Int)} (hA:(m.idE T).1[s]? =some A) (hB:(m.idE T).1[t]? =some B):
    ∃a∈A,∃b∈B,m.Harm (s:Int) (t:Int) a b:=by
 have hi:∀{k:Nat} {C:List (List Int)},k<m.next.length→(m.idE T).1[k]? =some C→C=srt cmpW (m.idW T (k:Int)):=fun {k C} hk hC=>by
  unfold idE at hC
  rw [if_neg (by simp [h])] at hC
  unfold ids at hC
  simp only [List.getElem?_map,List.getElem?_range hk] at hC
  exact (Option.some.inj hC).symm
 obtain ⟨a,ha,b,hb,g⟩:=harmony ok hm h hs ht hne
 exact ⟨a,by rw [hi hs hA,srt_mem tot_cmp];exact ha,b,by rw [hi ht hB,srt_mem tot_cmp];exact hb,g⟩
end Mach
theorem le_of_sub:∀{l l':List Int},l.Nodup→(∀x∈l,x∈l')→l.length≤l'.length
 |[],_,_,_=>Nat.zero_le _
 |x::l,l',hd,hs=>by
  rw [List.nodup_cons] at hd
  have h1:=hs x (by simp)
  have h2:=le_of_sub (l:=l) (l':=l'.erase x) hd.2 fun y hy=>(List.mem_erase_of_ne (fun e:y=x=>hd.1 (e▸hy))).2 (hs y (by simp [hy]))
  rw [List.length_erase_of_mem h1] at h2
  have:=List.length_pos_of_mem h1
  rw [List.length_cons];omega
theorem filter_le {α:Type} {p q:α→Bool}:∀{l:List α},(∀x∈l,p x=true→q x=true)→(l.filter p).length≤(l.filter q).length∧((l.filter p).length=(l.filter q).length→∀x∈l,q x=true→p x=true)
 |[],_=>⟨Nat.le_refl _,fun _ x hx=>by simp at hx⟩
 |y::l,h=>by
  obtain ⟨h1,h2⟩:=filter_le (p:=p) (q:=q) (l:=l) fun x hx=>h x (by simp [hx])
  have h3:=h y (by simp)
  cases hp:p y with
  |true=>
   rw [List.filter_cons_of_pos hp,List.filter_cons_of_pos (h3 hp)]
   refine ⟨by simpa using h1,fun e x hx hq=> ?_⟩
   rcases List.mem_cons.1 hx with rfl|hx
   ·exact hp
   exact h2 (by simpa using e) x hx hq
  |false=>
   rw [List.filter_cons_of_neg (by simp [hp])]
   cases hq:q y with
   |true=>
    rw [List.filter_cons_of_pos hq,List.length_cons]
    exact ⟨by omega,fun e=>by omega⟩
   |false=>
    rw [List.filter_cons_of_neg (by simp [hq])]
    refine ⟨h1,fun e x hx hqx=> ?_⟩
    rcases List.mem_cons.1 hx with rfl|hx
    ·rw [hq] at hqx;simp at hqx
    exact h2 e x hx hqx
theorem grows_stop {α:Type} {l:List α} {A:Nat→α→Bool} (hm:∀j x,x∈l→A j x=true→A (j+1) x=true) (hst:∀j,(∀x∈l,A (j+1) x=true→A j x=true)→∀x∈l,A (j+2) x=true→A (j+1) x=true) {n k:Nat} (h0:n≤(l.filter (A 0)).length) (hl:l.length≤n+k):
    ∀x∈l,A (k+1) x=true→A k x=true:=by
 refine Classical.byContradiction fun hn=> ?_
 have h1:∀j,j≤k→¬∀x∈l,A (j+1) x=true→A j x=true:=by
  intro j hj hs
  have h2:∀i,∀x∈l,A (j+i+1) x=true→A (j+i) x=true:=by
   intro i
   induction i with
   |zero=>exact hs
   |succ i ih=>exact hst (j+i) ih
  have h3:=h2 (k-j)
  rw [show j+(k-j)=k by omega] at h3
  exact hn h3
 have h2:∀j,j≤k+1→n+j≤(l.filter (A j)).length:=by
  intro j
  induction j with
  |zero=>intro _;exact h0
  |succ j ih=>
   intro hj
   have h3:=ih (by omega)
   obtain ⟨h4,h5⟩:=filter_le (p:=A j) (q:=A (j+1)) (l:=l) (hm j)
   by_cases e:(l.filter (A j)).length=(l.filter (A (j+1))).length
   ·exact absurd (h5 e) (h1 j (by omega))
   omega
 have h3:=h2 (k+1) (Nat.le_refl _)
 have h4:=List.length_filter_le (A (k+1)) l
 omega
namespace Mach
variable {n i:Mach}
theorem end_reach (ok:i.Ok):∀(w:List Int) (s:Int),s∈i.reach→i.okS w→i.endW s w∈i.reach
 |[],s,hs,_=>hs
 |y::w,s,hs,hw=>by
  obtain ⟨⟨y0,y1⟩,hw2⟩:=okS_cons hw
  have hr:=(reach_props ok).2.1 _ hs
  exact end_reach ok w _ (reach_closed ok hs (nx_mem ok (by omega) (by omega))) hw2
theorem cov_head:∀k,(n.cov k)[0]? =some ⟨n.start,[]⟩
 |0=>rfl
 |k+1=>by
  have ih:=cov_head k
  unfold cov
  split
  ·obtain ⟨s,hs⟩:=covRow_prefix (n.cov k) ((n.cov k).getD k ⟨0,[]⟩).word (n.next.getD ((n.cov k).getD k ⟨0,[]⟩).s.toNat []) (n.next.getD ((n.cov k).getD k ⟨0,[]⟩).s.toNat []).length
   rw [hs,List.getElem?_append_left (some_lt ih)];exact ih
  exact ih
def Acx (n:Mach) (j:Nat) (u:List Int):Prop:=∃p∈n.covW.map Pc.word,∃x,n.okS x∧x.length≤j∧u=p++x
theorem acx_ok (ok:n.Ok) {j:Nat} {u:List Int} (h:n.Acx j u):n.okS u:=by
 obtain ⟨p,hp,x,hx, -,rfl⟩:=h
 obtain ⟨q,hq,rfl⟩:=List.mem_map.1 hp
 obtain ⟨-, -,q1, -, -⟩:=cov_all ok n.next.length q hq
 intro y hy
 rcases List.mem_append.1 hy with hy|hy
 ·exact q1 y hy
 exact hx y hy
theorem acx_step {j:Nat} {u:List Int} {y:Int} (h:n.Acx j u) (h0:0≤y∧y<n.inputs):n.Acx (j+1) (u++[y]):=by
 obtain ⟨p,hp,x,hx,hl,rfl⟩:=h
 refine ⟨p,hp,x++[y],fun z hz=> ?_,by simp;omega,by simp⟩
 rcases List.mem_append.1 hz with hz|hz
 ·exact hx z hz
 rw [List.mem_singleton.1 hz];exact h0
theorem acx_up {j k:Nat} {u:List Int} (h:n.Acx j u) (hk:j≤k):n.Acx k u:=by
 obtain ⟨p,hp,x,hx,hl,rfl⟩:=h
 exact ⟨p,hp,x,hx,by omega,rfl⟩
theorem acx_nil:n.Acx 0 []:=⟨[],List.mem_map.2 ⟨_,List.mem_of_getElem? (cov_head _),rfl⟩,[],fun y hy=>by simp at hy,by simp,rfl⟩
theorem acx_pop {j:Nat} {u:List Int} (h:n.Acx (j+1) u):n.Acx j u∨∃v y,n.Acx j v∧(0≤y∧y<n.inputs)∧u=v++[y]:=by
 obtain ⟨p,hp,x,hx,hl,rfl⟩:=h
 by_cases e:x=[]
 ·exact .inl ⟨p,hp,[],fun y hy=>by simp at hy,by simp,by rw [e]⟩
 obtain ⟨v,y,rfl⟩:∃v y,x=v++[y]:=⟨x.dropLast,x.getLast e,(List.dropLast_concat_getLast e).symm⟩
 refine .inr ⟨p++v,y,⟨p,hp,v,fun z hz=>hx z (by simp [hz]),by simp at hl;omega,rfl⟩,hx y (by simp),by simp⟩
theorem end_ok {m:Mach} (ok:m.Ok) {u:List Int} (h:m.okS u):0≤m.endW m.start u∧m.endW m.start u<m.next.length:=endW_range ok u _ ok.s0 ok.s1 h
def HarmI (n:Mach) (ids:List (List (List Int))):Prop:=∀s t:Nat,s<n.next.length→t<n.next.length→s≠t→∃a∈ids.getD s [],∃b∈ids.getD t [],n.Harm (s:Int) (t:Int) a b
section
variable {ids:List (List (List Int))} {X:List (List Int)} {k:Nat}
theorem passes_sim (on:n.Ok) (oi:i.Ok) (hin:n.inputs=i.inputs) (hrn:n.reach.length=n.next.length) (hh:n.HarmI ids) (hX:∀x,n.okS x→x.length≤k+1→x∈X)
    (hp:∀w∈suOut n ids (n.covW.map Pc.word) X,n.outsW n.start w=i.outsW i.start w) (hr:i.reach.length≤n.next.length+k):Sim n i n.start i.start:=by
 have hsw:∀{u:List Int},n.okS u→i.okS u:=fun h=>okS_swap hin.symm h
 -- all words behind
 have h1:∀u,n.Acx (k+1) u→∀v∈tailW n ids u,n.outsW n.start (u++v)=i.outsW i.start (u++v):=by
  rintro u ⟨p,hpp,x,hx,hl,rfl⟩ v hv
  refine hp _ ?_
  unfold suOut
  refine List.mem_flatMap.2 ⟨p,hpp,?_⟩
  unfold sf
  refine List.mem_flatMap.2 ⟨x,hX x hx hl,?_⟩
  unfold sg
  exact List.mem_map.2 ⟨v,hv,rfl⟩
 have h2:∀u,n.Acx (k+1) u→n.outsW n.start u=i.outsW i.start u:=fun u hu=>by
  obtain ⟨v,hv⟩:=tailW_ne (m:=n) (ids:=ids) (w:=u)
  have h:=h1 u hu v hv
  rw [outsW_app,outsW_app] at h
  exact (List.append_inj h (by rw [outsW_len,outsW_len])).1
 have h3:∀u,n.Acx (k+1) u→∀v∈ids.getD (n.endW n.start u).toNat [],n.outsW (n.endW n.start u) v=i.outsW (i.endW i.start u) v:=fun u hu v hv=>by
  have h:=h1 u hu v (by
   unfold tailW
   split
   ·rename_i e;rw [e] at hv;simp at hv
   exact hv)
  rw [outsW_app,outsW_app] at h
  exact (List.append_inj h (by rw [outsW_len,outsW_len])).2
 -- different states of the one are different states of the other
 have h4:∀u v,n.Acx (k+1) u→n.Acx (k+1) v→i.endW i.start u=i.endW i.start v→n.endW n.start u=n.endW n.start v:=fun u v hu hv he=>by
  refine Classical.byContradiction fun hne=> ?_
  have r1:=end_ok on (acx_ok on hu)
  have r2:=end_ok on (acx_ok on hv)
  obtain ⟨a,ha,b,hb,hH⟩:=hh (n.endW n.start u).toNat (n.endW n.start v).toNat (by omega) (by omega) (by omega)
  have g1:=h3 u hu a ha
  have g2:=h3 v hv b hb
  have e1:(((n.endW n.start u).toNat:Nat):Int)=n.endW n.start u:=by omega
  have e2:(((n.endW n.start v).toNat:Nat):Int)=n.endW n.start v:=by omega
  rw [e1,e2] at hH
  apply hH
  have hab:a.take (comW a b)=b.take (comW a b):=comW_take a b
  rw [outsW_take,g1,he,hab,outsW_take,g2,←outsW_take,←outsW_take,hab]
 -- the states that are reached behind the access words
 classical
 have hAst:∀j,∀x∈i.reach,decide (∃u,n.Acx j u∧i.endW i.start u=x)=true→decide (∃u,n.Acx (j+1) u∧i.endW i.start u=x)=true:=fun j x _ h=>by
  obtain ⟨u,hu,he⟩:=of_decide_eq_true h
  exact decide_eq_true ⟨u,acx_up hu (by omega),he⟩
 have hst:=grows_stop (l:=i.reach) (A:=fun j x=>decide (∃u,n.Acx j u∧i.endW i.start u=x)) hAst (fun j hj x hx h=>by
  obtain ⟨u,hu,rfl⟩:=of_decide_eq_true h
  rcases acx_pop hu with hu|⟨v,y,hv,hy,rfl⟩
  ·exact decide_eq_true ⟨u,hu,rfl⟩
  ·have hiv:=hsw (acx_ok on hv)
   obtain ⟨v',hv',e⟩:=of_decide_eq_true (hj (i.endW i.start v) (end_reach oi v _ (start_mem oi) hiv) (decide_eq_true ⟨v,hv,rfl⟩))
   exact decide_eq_true ⟨v'++[y],acx_step hv' hy,by rw [endW_snoc,endW_snoc,e]⟩) (n:=n.next.length) (k:=k) (by
  refine Nat.le_trans ?_ (le_of_sub (l:=(n.covW.map Pc.word).map fun p=>i.endW i.start p) ?_ fun x hx=> ?_)
  ·rw [List.length_map,List.length_map];unfold covW;rw [cov_len];exact Nat.le_of_eq hrn.symm
  ·have hnd:(n.covW.map Pc.s).Nodup:=by unfold covW;rw [cov_states];exact (bfs_props on _).1
   have hgen:∀L:List Pc,(∀q∈L,q∈n.covW)→(L.map Pc.s).Nodup→((L.map Pc.word).map fun p=>i.endW i.start p).Nodup:=by
    intro L
    induction L with
    |nil=>intro _ _;simp
    |cons q L ih=>
     intro hs hd
     rw [List.map_cons,List.nodup_cons] at hd
     rw [List.map_cons,List.map_cons,List.nodup_cons]
     refine ⟨fun hm=> ?_,ih (fun r hr=>hs r (by simp [hr])) hd.2⟩
     rw [List.map_map] at hm
     obtain ⟨r,hr,he⟩:=List.mem_map.1 hm
     have hc:∀{q:Pc},q∈n.covW→n.Acx (k+1) q.word∧n.endW n.start q.word=q.s:=fun {q} hq=>
      ⟨⟨q.word,List.mem_map_of_mem hq,[],fun y hy=>by simp at hy,by simp,by simp⟩,(cov_all on n.next.length q hq).2.2.2.2⟩
     have c1:=hc (hs r (by simp [hr]))
     have c2:=hc (hs q (by simp))
     have:=h4 r.word q.word c1.1 c2.1 he
     rw [c1.2,c2.2] at this
     exact hd.1 (this▸List.mem_map_of_mem hr)
   exact hgen n.covW (fun q hq=>hq) hnd
  obtain ⟨p,hpp,rfl⟩:=List.mem_map.1 hx
  have ha:n.Acx 0 p:=⟨p,hpp,[],fun y hy=>by simp at hy,by simp,by simp⟩
  exact List.mem_filter.2 ⟨end_reach oi p _ (start_mem oi) (hsw (acx_ok on ha)),decide_eq_true ⟨p,ha,rfl⟩⟩) hr
 have h5:∀u,n.Acx (k+1) u→∃v,n.Acx k v∧i.endW i.start v=i.endW i.start u∧n.endW n.start v=n.endW n.start u:=fun u hu=>by
  obtain ⟨v,hv,he⟩:=of_decide_eq_true (hst (i.endW i.start u) (end_reach oi u _ (start_mem oi) (hsw (acx_ok on hu))) (decide_eq_true ⟨u,hu,rfl⟩))
  exact ⟨v,hv,he,h4 v u (acx_up hv (by omega)) hu he⟩
 have h6:∀(c:Nat) (w:List Int),w.length=c→n.okS w→n.outsW n.start w=i.outsW i.start w∧∃u,n.Acx k u∧i.endW i.start u=i.endW i.start w∧n.endW n.start u=n.endW n.start w:=by
  intro c
  induction c with
  |zero=>
   intro w hl hw
   obtain rfl:w=[]:=List.eq_nil_of_length_eq_zero hl
   exact ⟨rfl,[],acx_up acx_nil (by omega),rfl,rfl⟩
  |succ c ih=>
   intro w hl hw
   obtain ⟨v,y,rfl⟩:∃v y,w=v++[y]:=⟨w.dropLast,w.getLast (by intro e;rw [e] at hl;simp at hl),(List.dropLast_concat_getLast _).symm⟩
   obtain ⟨hv,hy⟩:=okS_app hw
   have hy1:=hy y (by simp)
   obtain ⟨g1,u,g2,g3,g4⟩:=ih v (by simpa using hl) hv
   have g5:=acx_step g2 hy1
   have g6:=h2 _ g5
   rw [outsW_snoc,outsW_snoc] at g6
   have g7:=(List.append_inj g6 (by rw [outsW_len,outsW_len])).2
   rw [g3,g4] at g7
   obtain ⟨u',k1,k2,k3⟩:=h5 _ g5
   refine ⟨by rw [outsW_snoc,outsW_snoc,g1,g7],u',k1,?_,?_⟩
   ·rw [k2,endW_snoc,endW_snoc,g3]
   rw [k3,endW_snoc,endW_snoc,g4]
 intro w hw
 exact (h6 w.length w rfl hw).1
end
theorem suW_complete {m:Mach} (ok:m.Ok) (oi:i.Ok) (hin:m.inputs=i.inputs) (n8:m.next.length≤8) {extra:Int} (h0:0≤extra) (h3:extra≤3) (h:(m.suW extra).2=0)
    (hp:∀w∈(m.suW extra).1,m.outsW m.start w=i.outsW i.start w) (hr:(i.reach.length:Int)≤(m.minF.next.length:Int)+extra):Sim m i m.start i.start:=by
 obtain ⟨g1,g2,g3,g4⟩:=minF_min ok
 obtain ⟨b1,b2⟩:=adsB_8 g1 (by omega)
 have b3:=adsB_chk (n:=m.minF) (by rw [b1])
 rw [b1] at b3
 have okt:=minF_ok ok
 obtain ⟨u0,u1⟩:=suW_0 ok n8 h0 h3 h
 have hmm:=minF_start ok
 have hwords:=suW_words ok n8 h0 h3 h
 have hsim:Sim m.minF i m.minF.start i.start:=by
  refine passes_sim (k:=extra.toNat) (ids:=(m.minF.idE m.minF.adsL).1) (X:=(uptW m.inputs (extra+1)).1) okt oi hin (minF_reach ok) (fun s t hs ht hne=> ?_) (fun x hx hl=> ?_) (fun w hw=> ?_) (by omega)
  ·have hlen : (m.minF.idE m.minF.adsL).1.length = m.minF.next.length := by
     unfold idE;rw [if_neg (by simp [b3])];unfold ids;simp
   obtain ⟨A,hA⟩:∃A,(m.minF.idE m.minF.adsL).1[s]? =some A:=⟨_,List.getElem?_eq_getElem (by omega)⟩
   obtain ⟨B,hB⟩:∃B,(m.minF.idE m.minF.adsL).1[t]? =some B:=⟨_,List.getElem?_eq_getElem (by omega)⟩
   rw [getD_of_some hA,getD_of_some hB]
   exact harmonyI okt (minErr_ok g1).2 b3 hs ht hne hA hB
  ·exact uptW_all (by omega) u0 x (fun y hy=>hx y hy) (by omega)
  obtain ⟨v,hv,z,rfl⟩:=maxW_above hw
  rw [←u1] at hv
  have e1:=hp _ hv
  have e2:=hmm (w++z) ((okS_of (hwords _ hv)).1)
  rw [e2,outsW_app,outsW_app] at e1
  exact (List.append_inj e1 (by rw [outsW_len,outsW_len])).1
 exact Sim.trans (a:=m) (b:=m.minF) (rfl:m.inputs=m.minF.inputs) hmm hsim
end Mach
namespace Mach
variable {m:Mach}
def sids (m:Mach):List (List (List Int)):=(List.range m.next.length).map fun s:Nat=>srt cmpW (m.idO (s:Int) (allS m.next.length))
def PairD (s t i j:Nat):Prop:=i≠j∧(min i j<s∨(min i j=s∧max i j<t))
structure SepF (m:Mach) (s t:Nat) (F:Nat→List (List Int)):Prop where
 mem:∀i,i<m.next.length→∀x,x∈F i↔∃j:Nat,j<m.next.length∧PairD s t i j∧x=m.sepW (i:Int) (j:Int)
 len:∀i,(F i).length≤s*m.next.length+t
theorem sepF_0 {t:Nat} (h:t≤1):m.SepF 0 t (fun _=>[]):=⟨fun i _ x=>⟨fun h=>by simp at h,fun ⟨j,_,⟨h1,h2⟩,_⟩=>by omega⟩,fun i=>by simp⟩
theorem sepF_step (ok:m.Ok) {s t:Nat} {F:Nat→List (List Int)} (h:m.SepF s t F) (hst:s<t) (ht:t<m.next.length):
    m.SepF s (t+1) (fun j=>if j=t then (if j=s then F s++[m.sepW (s:Int) (t:Int)] else F j)++[m.sepW (s:Int) (t:Int)] else if j=s then F s++[m.sepW (s:Int) (t:Int)] else F j):=by
 have hsw:m.sepW (s:Int) (t:Int)=m.sepW (t:Int) (s:Int):=sepW_swap ok (by omega) (by omega)
 refine ⟨fun i hi x=> ?_,fun i=> ?_⟩
 ·by_cases e:i=t
  ·subst e
   rw [if_pos rfl,if_neg (by omega),List.mem_append,List.mem_singleton,h.mem i hi]
   constructor
   ·rintro (⟨j,h1,h2,h3⟩|rfl)
    ·exact ⟨j,h1,⟨h2.1,by have:=h2.2;omega⟩,h3⟩
    exact ⟨s,by omega,⟨by omega,by omega⟩,hsw⟩
   rintro ⟨j,h1,⟨h2,h2'⟩,h3⟩
   by_cases e:j=s
   ·subst e;exact .inr (h3.trans hsw.symm)
   exact .inl ⟨j,h1,⟨h2,by omega⟩,h3⟩
  rw [if_neg e]
  by_cases e2:i=s
  ·subst e2
   rw [if_pos rfl,List.mem_append,List.mem_singleton,h.mem i hi]
   constructor
   ·rintro (⟨j,h1,h2,h3⟩|rfl)
    ·exact ⟨j,h1,⟨h2.1,by have:=h2.2;omega⟩,h3⟩
    exact ⟨t,ht,⟨by omega,by omega⟩,rfl⟩
   rintro ⟨j,h1,⟨h2,h2'⟩,h3⟩
   by_cases e:j=t
   ·subst e;exact .inr h3
   exact .inl ⟨j,h1,⟨h2,by omega⟩,h3⟩
  rw [if_neg e2,h.mem i hi]
  constructor
  ·rintro ⟨j,h1,h2,h3⟩
   exact ⟨j,h1,⟨h2.1,by have:=h2.2;omega⟩,h3⟩
  rintro ⟨j,h1,⟨h2,h2'⟩,h3⟩
  exact ⟨j,h1,⟨h2,by omega⟩,h3⟩
 have h1:=h.len i
 have h2:=h.len s
 split
 ·rename_i e
  rw [if_neg (by omega),List.length_append,List.length_singleton];omega
 split
 ·rename_i e
  subst e
  rw [List.length_append,List.length_singleton];omega
 omega
theorem sepF_next {s:Nat} {F:Nat→List (List Int)} (h:m.SepF s m.next.length F):m.SepF (s+1) (s+2) F:=by
 refine ⟨fun i hi x=> ?_,fun i=>by have:=h.len i;rw [Nat.succ_mul];omega⟩
 rw [h.mem i hi]
 constructor
 ·rintro ⟨j,h1,⟨h2,h2'⟩,h3⟩
  exact ⟨j,h1,⟨h2,by omega⟩,h3⟩
 rintro ⟨j,h1,⟨h2,h2'⟩,h3⟩
 exact ⟨j,h1,⟨h2,by omega⟩,h3⟩
theorem allS_mem {n:Nat} {x:Int}:x∈allS n↔∃k:Nat,k<n∧x=(k:Int):=by
 unfold allS
 rw [List.mem_map]
 constructor
 ·rintro ⟨k,hk,rfl⟩;exact ⟨k,List.mem_range.1 hk,rfl⟩
 rintro ⟨k,hk,rfl⟩;exact ⟨k,List.mem_range.2 hk,rfl⟩
theorem srt_congr {l l':List (List Int)} (h:∀x,x∈l↔x∈l'):srt cmpW l=srt cmpW l':=
 srt_of tot_cmp (srt_asc tot_cmp l') fun x=>by rw [srt_mem tot_cmp,h x]
theorem sepF_srt {s t:Nat} {F:Nat→List (List Int)} (h:m.SepF s t F) (hs:m.next.length≤s) {i:Nat} (hi:i<m.next.length):srt cmpW (F i)=srt cmpW (m.idO (i:Int) (allS m.next.length)):=by
 refine srt_congr fun x=> ?_
 rw [h.mem i hi]
 unfold idO
 rw [List.mem_map]
 constructor
 ·rintro ⟨j,h1,⟨h2,h2'⟩,rfl⟩
  exact ⟨(j:Int),List.mem_filter.2 ⟨allS_mem.2 ⟨j,h1,rfl⟩,by simp;omega⟩,rfl⟩
 rintro ⟨y,hy,rfl⟩
 obtain ⟨h1,h2⟩:=List.mem_filter.1 hy
 obtain ⟨j,hj,rfl⟩:=allS_mem.1 h1
 have h3:(j:Int)≠(i:Int):=by simpa using h2
 exact ⟨j,hj,⟨by omega,by omega⟩,rfl⟩
theorem sids_get {i:Nat} (hi:i<m.next.length):m.sids[i]? =some (srt cmpW (m.idO (i:Int) (allS m.next.length))):=by
 unfold sids;rw [List.getElem?_map,List.getElem?_range hi];rfl
end Mach
theorem fm_congr {α β:Type} {f g:α→List β}:∀{l:List α},(∀x∈l,f x=g x)→l.flatMap f=l.flatMap g
 |[],_=>rfl
 |x::l,h=>by rw [List.flatMap_cons,List.flatMap_cons,h x (by simp),fm_congr (l:=l) fun y hy=>h y (by simp [hy])]
namespace Mach
variable {m n i:Mach}
def apB (m:Mach) (s t:Int) (w:List Int):Bool:=decide (m.outsW s w≠m.outsW t w)
def chStep (m:Mach) (s t:Nat) (C:List (List Int)):List (List Int):=if C.any (m.apB (s:Int) (t:Int))=true then C else C++[m.sepW (s:Int) (t:Int)]
def chT (m:Mach) (s:Nat) (C:List (List Int)):Nat→List (List Int)
 |0=>C
 |k+1=>m.chStep s (s+1+k) (chT m s C k)
def chS (m:Mach):Nat→List (List Int)
 |0=>[]
 |s+1=>m.chT s (chS m s) (m.next.length-(s+1))
def chW (m:Mach):List (List Int):=srt cmpW (m.chS m.next.length)
theorem chStep_sub (s t:Nat) (C:List (List Int)):∀w∈C,w∈m.chStep s t C:=fun w hw=>by
 unfold chStep
 split
 ·exact hw
 exact List.mem_append_left _ hw
theorem chT_sub (s:Nat) (C:List (List Int)):∀k j,∀w∈m.chT s C k,w∈m.chT s C (k+j)
 |_,0,_,hw=>hw
 |k,j+1,w,hw=>chStep_sub _ _ _ w (chT_sub s C k j w hw)
theorem chS_sub:∀s j,∀w∈m.chS s,w∈m.chS (s+j)
 |_,0,_,hw=>hw
 |s,j+1,w,hw=>by
  have h1:=chS_sub s j w hw
  have h2:=chT_sub (m:=m) (s+j) (m.chS (s+j)) 0 (m.next.length-(s+j+1)) w h1
  rw [Nat.zero_add] at h2
  exact h2
theorem chStep_sep (ok:m.Ok) (hm:m.minimal=true) {s t:Nat} (hs:s<m.next.length) (ht:t<m.next.length) (hne:s≠t) (C:List (List Int)):∃w∈m.chStep s t C,m.outsW (s:Int) w≠m.outsW (t:Int) w:=by
 unfold chStep
 split
 ·rename_i h
  obtain ⟨w,hw,h2⟩:=List.any_eq_true.1 h
  exact ⟨w,hw,of_decide_eq_true h2⟩
 exact ⟨m.sepW s t,by simp,(sepW_some ok hm (s:=(s:Int)) (t:=(t:Int)) (by omega) (by omega) (by omega)).2.2⟩
theorem chW_sep (ok:m.Ok) (hm:m.minimal=true) {s t:Nat} (hst:s<t) (ht:t<m.next.length):∃w∈m.chW,m.outsW (s:Int) w≠m.outsW (t:Int) w:=by
 obtain ⟨w,hw,h⟩:=chStep_sep ok hm (s:=s) (t:=s+1+(t-s-1)) (by omega) (by omega) (by omega) (m.chT s (m.chS s) (t-s-1))
 have h1:w∈m.chT s (m.chS s) (t-s-1+1):=hw
 have h2:=chT_sub s (m.chS s) (t-s-1+1) (m.next.length-(s+1)-(t-s-1+1)) w h1
 rw [show t-s-1+1+(m.next.length-(s+1)-(t-s-1+1))=m.next.length-(s+1) by omega] at h2
 have h3:w∈m.chS (s+1):=h2
 have h4:=chS_sub (s+1) (m.next.length-(s+1)) w h3
 rw [show s+1+(m.next.length-(s+1))=m.next.length by omega] at h4
 refine ⟨w,(srt_mem tot_cmp).2 h4,?_⟩
 rw [show s+1+(t-s-1)=t by omega] at h
 exact h
theorem chStep_mem {s t:Nat} {C:List (List Int)} {w:List Int} (h:w∈m.chStep s t C):w∈C∨w=m.sepW (s:Int) (t:Int):=by
 unfold chStep at h
 split at h
 ·exact .inl h
 rcases List.mem_append.1 h with h|h
 ·exact .inl h
 exact .inr (List.mem_singleton.1 h)
theorem chT_mem {s:Nat} {C:List (List Int)}:∀k,∀w∈m.chT s C k,w∈C∨∃a b:Int,w=m.sepW a b
 |0,_,h=> .inl h
 |k+1,w,h=>by
  rcases chStep_mem h with h|h
  ·exact chT_mem k w h
  exact .inr ⟨_,_,h⟩
theorem chS_mem:∀s,∀w∈m.chS s,∃a b:Int,w=m.sepW a b
 |0,w,h=>by simp [chS] at h
 |s+1,w,h=>by
  rcases chT_mem _ w h with h|h
  ·exact chS_mem s w h
  exact h
theorem chW_mem {w:List Int} (h:w∈m.chW):∃a b:Int,w=m.sepW a b:=chS_mem _ w ((srt_mem tot_cmp).1 h)
theorem chT_len {s:Nat} {C:List (List Int)}:∀k,(m.chT s C k).length≤C.length+k
 |0=>Nat.le_refl _
 |k+1=>by
  have h:=chT_len (s:=s) (C:=C) k
  unfold chT chStep
  split
  ·omega
  rw [List.length_append,List.length_singleton];omega
theorem chS_len:∀s,(m.chS s).length≤s*m.next.length
 |0=>by simp [chS]
 |s+1=>by
  have h1:=chS_len s
  have h2:=chT_len (m:=m) (s:=s) (C:=m.chS s) (m.next.length-(s+1))
  rw [Nat.succ_mul]
  show (m.chT s (m.chS s) (m.next.length-(s+1))).length≤_
  omega
theorem chW_len:m.chW.length≤m.next.length*m.next.length:=Nat.le_trans (srt_len _) (chS_len _)
def prodW (A X C:List (List Int)):List (List Int):=A.flatMap fun p=>X.flatMap fun x=>C.map fun t=>(p++x)++t
def noNil (C:List (List Int)):List (List Int):=if C=[] then [[]] else C
theorem prodW_su {A X C:List (List Int)} (n:Mach) (hA:∀p∈A,∀x∈X,0≤n.endW n.start (p++x)∧n.endW n.start (p++x)<n.next.length):prodW A X (noNil C)=suOut n (List.replicate n.next.length C) A X:=by
 unfold prodW suOut
 refine fm_congr fun p hp=> ?_
 unfold sf
 refine fm_congr fun x hx=> ?_
 unfold sg
 congr 1
 unfold tailW noNil
 have h:=hA p hp x hx
 have e:(List.replicate n.next.length C).getD (n.endW n.start (p++x)).toNat []=C:=by
  rw [List.getD_eq_getElem?_getD,List.getElem?_replicate,if_pos (by omega)];rfl
 rw [e]
theorem harmI_ch (ok:n.Ok) (hm:n.minimal=true):n.HarmI (List.replicate n.next.length n.chW):=by
 have key:∀s t:Nat,s<t→t<n.next.length→∃w∈n.chW,n.outsW (s:Int) w≠n.outsW (t:Int) w:=fun s t h1 h2=>chW_sep ok hm h1 h2
 intro s t hs ht hne
 have e:∀k,k<n.next.length→(List.replicate n.next.length n.chW).getD k []=n.chW:=fun k hk=>by
  rw [List.getD_eq_getElem?_getD,List.getElem?_replicate,if_pos hk];rfl
 rw [e s hs,e t ht]
 have hc:∀w∈n.chW,n.outsW (s:Int) w≠n.outsW (t:Int) w→∃a∈n.chW,∃b∈n.chW,n.Harm (s:Int) (t:Int) a b:=fun w hw h=>⟨w,hw,w,hw,by unfold Harm;rw [comW_self,List.take_length];exact h⟩
 by_cases h:s<t
 ·obtain ⟨w,hw,h2⟩:=key s t h ht
  exact hc w hw h2
 obtain ⟨w,hw,h2⟩:=key t s (by omega) hs
 exact hc w hw (Ne.symm h2)
theorem harmI_sids (ok:n.Ok) (hm:n.minimal=true):n.HarmI n.sids:=by
 intro s t hs ht hne
 rw [getD_of_some (sids_get hs),getD_of_some (sids_get ht)]
 refine ⟨n.sepW s t,(srt_mem tot_cmp).2 (idO_mem (allS_mem.2 ⟨t,ht,rfl⟩) (by omega)),n.sepW s t,(srt_mem tot_cmp).2 ?_,?_⟩
 ·rw [sepW_swap ok (by omega) (by omega)]
  exact idO_mem (allS_mem.2 ⟨s,hs,rfl⟩) (by omega)
 unfold Harm;rw [comW_self,List.take_length]
 exact (sepW_some ok hm (s:=(s:Int)) (t:=(t:Int)) (by omega) (by omega) (by omega)).2.2
def wsW (m:Mach) (extra:Int):List (List Int)×Int:=
 if m.err≠0 then ([],m.err) else
 if extra<0∨3<extra then ([],2) else
 if (uptW m.inputs (extra+1)).2≠0 then ([],(uptW m.inputs (extra+1)).2) else
 if 10000<(m.minOf.covW.map Pc.word).length*(uptW m.inputs (extra+1)).1.length*(noNil m.minOf.chW).length then ([],11) else
 (maxW (prodW (m.minOf.covW.map Pc.word) (uptW m.inputs (extra+1)).1 (noNil m.minOf.chW)),0)
def hsW (m:Mach) (extra:Int):List (List Int)×Int:=
 if m.err≠0 then ([],m.err) else
 if extra<0∨3<extra then ([],2) else
 if (uptW m.inputs (extra+1)).2≠0 then ([],(uptW m.inputs (extra+1)).2) else
 if 10000<(m.minOf.covW.map Pc.word).length*(uptW m.inputs (extra+1)).1.length*grW m.minOf.sids then ([],11) else
 (maxW (suOut m.minOf m.minOf.sids (m.minOf.covW.map Pc.word) (uptW m.inputs (extra+1)).1),0)
end Mach
def lstS (b:Option (List Int)) (x:List Int):Option (List Int):=
 match b with
 |none=>some x
 |some b=>some (if cmpW x b<0 then x else b)
def lstW (l:List (List Int)):Option (List Int):=l.foldl lstS none
theorem lstW_snoc (l:List (List Int)) (x:List Int):lstW (l++[x])=lstS (lstW l) x:=by unfold lstW;rw [List.foldl_append];rfl
theorem lstW_nil:lstW []=none:=rfl
theorem foldl_some:∀(l:List (List Int)) (b:List Int),∃x,l.foldl lstS (some b)=some x∧(x=b∨x∈l)
 |[],b=>⟨b,rfl,.inl rfl⟩
 |y::l,b=>by
  rw [List.foldl_cons]
  show ∃x,l.foldl lstS (some (if cmpW y b<0 then y else b))=some x∧_
  obtain ⟨x,h1,h2⟩:=foldl_some l (if cmpW y b<0 then y else b)
  refine ⟨x,h1,?_⟩
  rcases h2 with h2|h2
  ·split at h2
   ·exact .inr (by rw [h2];exact List.mem_cons_self ..)
   exact .inl h2
  exact .inr (List.mem_cons_of_mem _ h2)
theorem lstW_some {l:List (List Int)} (h:l≠[]):∃x,lstW l=some x∧x∈l:=by
 cases l with
 |nil=>exact absurd rfl h
 |cons y l=>
  obtain ⟨x,h1,h2⟩:=foldl_some l y
  refine ⟨x,h1,?_⟩
  rcases h2 with rfl|h2
  ·exact List.mem_cons_self ..
  exact List.mem_cons_of_mem _ h2
theorem lstW_none {l:List (List Int)} (h:lstW l=none):l=[]:=Classical.byContradiction fun e=>by
 obtain ⟨x,h1,_⟩:=lstW_some e
 rw [h1] at h;simp at h
def Mach.refT (m:Mach) (t:Tr):Option (List Int):=
 if comW (m.outsW m.start t.inn) t.out<min t.inn.length t.out.length then some (t.inn.take (comW (m.outsW m.start t.inn) t.out+1)) else none
def Mach.refL (m:Mach) (T:List Tr):List (List Int):=T.filterMap m.refT
def Mach.refW (m:Mach) (T:List Tr):Option (List Int):=lstW (m.refL T)
theorem Mach.refL_step {m:Mach} {T:List Tr} {k:Nat} {t:Tr} (h:T[k]? =some t):m.refL (T.take (k+1))=m.refL (T.take k)++(m.refT t).toList:=by
 unfold Mach.refL
 rw [List.take_add_one,h,List.filterMap_append]
 congr 1
def difN (a b:List Int):Option Nat:=if comW a b<min a.length b.length then some (comW a b) else none
theorem Mach.refT_dif {m:Mach} {t:Tr}:m.refT t=(difN (m.outsW m.start t.inn) t.out).map fun i=>t.inn.take (i+1):=by
 unfold Mach.refT difN
 rw [Mach.outsW_len]
 split<;>rfl
def rfW (h:Hy) (o:Ob):List Int×Bool×Int:=
 if h.m.inputs≠o.inputs then ([],false,15) else ((h.m.refW o.traces).getD [],(h.m.refW o.traces).isSome,0)
def tnW (h:Hy) (o:Ob) (l:List (List Int)):List (List Int)×List Int×Bool×Int:=
 if (rfW h o).2.2≠0 then ([],[],false,(rfW h o).2.2) else
 if (rfW h o).2.1=true then ([],(rfW h o).1,false,0) else
 (maxW (l.filter fun v=> !o.known v),[],decide ((maxW (l.filter fun v=> !o.known v)).length=0),0)
structure Stg where
 kind:Int
 extra:Int
 seed:Nat
 count:Int
 len:Int
namespace Stg
def err (s:Stg):Int:=
 if s.kind<1∨4<s.kind then 2 else
 if s.kind=4 then (if s.extra≠0 then 1 else if s.count<0∨10000<s.count∨s.len<0∨1024<s.len then 2 else 0) else
 if s.extra<0∨3<s.extra then 2 else if s.seed≠0∨s.count≠0∨s.len≠0 then 1 else 0
end Stg
def rsW (seed:Nat) (inputs count len:Int):List (List Int)×Int:=
 if inputs<1∨64<inputs∨count<0∨10000<count∨len<0∨1024<len then ([],2) else (rsF inputs.toNat len.toNat count.toNat seed [],0)
def Mach.twW (m:Mach) (s:Stg):List (List Int)×Int:=
 if m.err≠0 then ([],m.err) else if s.err≠0 then ([],s.err) else
 if s.kind=1 then m.wsW s.extra else if s.kind=2 then m.hsW s.extra else if s.kind=3 then m.suW s.extra else
 (srt cmpW (rsW s.seed m.inputs s.count s.len).1,(rsW s.seed m.inputs s.count s.len).2)
end Go.Proofs.YtjagagpcjpcjjaaGreat
namespace Go.Proofs.YtjagagpcjpcjjaaGreat
open Go.RowKit
abbrev stV (s:Stg):Value:= .agg #[.int .i64 s.kind,.int .i64 s.extra,.int .u64 (s.seed:Int),.int .i64 s.count,.int .i64 s.len]
abbrev stO (s:Stg):Obj:= .cells #[.int .i64 s.kind,.int .i64 s.extra,.int .u64 (s.seed:Int),.int .i64 s.count,.int .i64 s.len] 27
abbrev S5 (w:World) (b:Nat) (s:Stg):Prop:=w.cell? ⟨b,0,none⟩=some (.int .i64 s.kind)∧w.cell? ⟨b,1,none⟩=some (.int .i64 s.extra)∧w.cell? ⟨b,2,none⟩=some (.int .u64 (s.seed:Int))∧w.cell? ⟨b,3,none⟩=some (.int .i64 s.count)∧w.cell? ⟨b,4,none⟩=some (.int .i64 s.len)
theorem s5_new (w:World) (s:Stg):S5 (w.alloc (stO s)) w.heap.size s:=by refine ⟨?_,?_,?_,?_,?_⟩<;>simp
theorem S5.below {B b:Nat} {w w':World} {s:Stg} (h:S5 w b s) (hb:Below B w w') (hlt:b<B):S5 w' b s:=
 ⟨(hb.cell (p:=⟨b,0,none⟩) hlt).trans h.1,(hb.cell (p:=⟨b,1,none⟩) hlt).trans h.2.1,(hb.cell (p:=⟨b,2,none⟩) hlt).trans h.2.2.1,(hb.cell (p:=⟨b,3,none⟩) hlt).trans h.2.2.2.1,(hb.cell (p:=⟨b,4,none⟩) hlt).trans h.2.2.2.2⟩
section
variable {w:World}
theorem svalid_any (s:Stg):Calls Tryz.prog 7 #[stV s] w fun e w'=>e= .returned (.int .i64 s.err)∧Below w.heap.size w w':=by
 have hB0:=(Below.refl w.heap.size w).alloc (Nat.le_refl _) (stO s)
 obtain ⟨k,e,sd,c,l⟩:=s
 by_cases k1:k=1
 ·subst k1
  by_cases h1:e<0
  ·have h1b:decide (e<0)=true:=by simp [h1]
   have HF:Hid (Stg.err ⟨1,e,sd,c,l⟩=2):=by unfold Hid Stg.err;dsimp only;repeat (first|rfl|omega|(rw [if_pos (by omega)])|(rw [if_neg (by omega)]))
   clear h1
   go_enter Tryz.func7,Tryz.ntmps7
   go_wp2
   go_ret
   exact ⟨by rw [HF.out];rfl,hB0⟩
  have h1b:decide (e<0)=false:=by simp;omega
  by_cases h2:3<e
  ·have h2b:decide (3<e)=true:=by simp [h2]
   have HF:Hid (Stg.err ⟨1,e,sd,c,l⟩=2):=by unfold Hid Stg.err;dsimp only;repeat (first|rfl|omega|(rw [if_pos (by omega)])|(rw [if_neg (by omega)]))
   clear h1 h2
   go_enter Tryz.func7,Tryz.ntmps7
   go_wp2
   go_ret
   exact ⟨by rw [HF.out];rfl,hB0⟩
  have h2b:decide (3<e)=false:=by simp;omega
  by_cases h3:sd≠0
  ·have h3b:((sd:Int) !=0)=true:=by simp [h3]
   have HF:Hid (Stg.err ⟨1,e,sd,c,l⟩=1):=by unfold Hid Stg.err;dsimp only;repeat (first|rfl|omega|(rw [if_pos (by omega)])|(rw [if_neg (by omega)]))
   clear h1 h2 h3
   go_enter Tryz.func7,Tryz.ntmps7
   go_wp2
   go_ret
   exact ⟨by rw [HF.out];rfl,hB0⟩
  have h3b:((sd:Int) !=0)=false:=by simp;omega
  by_cases h4:c≠0
  ·have h4b:(c !=0)=true:=by simp [h4]
   have HF:Hid (Stg.err ⟨1,e,sd,c,l⟩=1):=by unfold Hid Stg.err;dsimp only;repeat (first|rfl|omega|(rw [if_pos (by omega)])|(rw [if_neg (by omega)]))
   clear h1 h2 h3 h4
   go_enter Tryz.func7,Tryz.ntmps7
   go_wp2
   go_ret
   exact ⟨by rw [HF.out];rfl,hB0⟩
  have h4b:(c !=0)=false:=by simp;omega
  by_cases h5:l≠0
  ·have h5b:(l !=0)=true:=by simp [h5]
   have HF:Hid (Stg.err ⟨1,e,sd,c,l⟩=1):=by unfold Hid Stg.err;dsimp only;repeat (first|rfl|omega|(rw [if_pos (by omega)])|(rw [if_neg (by omega)]))
   clear h1 h2 h3 h4 h5
   go_enter Tryz.func7,Tryz.ntmps7
   go_wp2
   go_ret
   exact ⟨by rw [HF.out];rfl,hB0⟩
  have h5b:(l !=0)=false:=by simp;omega
  have HF:Hid (Stg.err ⟨1,e,sd,c,l⟩=0):=by unfold Hid Stg.err;dsimp only;repeat (first|rfl|omega|(rw [if_pos (by omega)])|(rw [if_neg (by omega)]))
  clear h1 h2 h3 h4 h5
  go_enter Tryz.func7,Tryz.ntmps7
  go_wp2
  go_ret
  exact ⟨by rw [HF.out];rfl,hB0⟩
 have k1b:(k==1)=false:=by simp [k1]
 by_cases k2:k=2
 ·subst k2
  by_cases h1:e<0
  ·have h1b:decide (e<0)=true:=by simp [h1]
   have HF:Hid (Stg.err ⟨2,e,sd,c,l⟩=2):=by unfold Hid Stg.err;dsimp only;repeat (first|rfl|omega|(rw [if_pos (by omega)])|(rw [if_neg (by omega)]))
   clear h1
   go_enter Tryz.func7,Tryz.ntmps7
   go_wp2
   go_ret
   exact ⟨by rw [HF.out];rfl,hB0⟩
  have h1b:decide (e<0)=false:=by simp;omega
  by_cases h2:3<e
  ·have h2b:decide (3<e)=true:=by simp [h2]
   have HF:Hid (Stg.err ⟨2,e,sd,c,l⟩=2):=by unfold Hid Stg.err;dsimp only;repeat (first|rfl|omega|(rw [if_pos (by omega)])|(rw [if_neg (by omega)]))
   clear h1 h2
   go_enter Tryz.func7,Tryz.ntmps7
   go_wp2
   go_ret
   exact ⟨by rw [HF.out];rfl,hB0⟩
  have h2b:decide (3<e)=false:=by simp;omega
  by_cases h3:sd≠0
  ·have h3b:((sd:Int) !=0)=true:=by simp [h3]
   have HF:Hid (Stg.err ⟨2,e,sd,c,l⟩=1):=by unfold Hid Stg.err;dsimp only;repeat (first|rfl|omega|(rw [if_pos (by omega)])|(rw [if_neg (by omega)]))
   clear h1 h2 h3
   go_enter Tryz.func7,Tryz.ntmps7
   go_wp2
   go_ret
   exact ⟨by rw [HF.out];rfl,hB0⟩
  have h3b:((sd:Int) !=0)=false:=by simp;omega
  by_cases h4:c≠0
  ·have h4b:(c !=0)=true:=by simp [h4]
   have HF:Hid (Stg.err ⟨2,e,sd,c,l⟩=1):=by unfold Hid Stg.err;dsimp only;repeat (first|rfl|omega|(rw [if_pos (by omega)])|(rw [if_neg (by omega)]))
   clear h1 h2 h3 h4
   go_enter Tryz.func7,Tryz.ntmps7
   go_wp2
   go_ret
   exact ⟨by rw [HF.out];rfl,hB0⟩
  have h4b:(c !=0)=false:=by simp;omega
  by_cases h5:l≠0
  ·have h5b:(l !=0)=true:=by simp [h5]
   have HF:Hid (Stg.err ⟨2,e,sd,c,l⟩=1):=by unfold Hid Stg.err;dsimp only;repeat (first|rfl|omega|(rw [if_pos (by omega)])|(rw [if_neg (by omega)]))
   clear h1 h2 h3 h4 h5
   go_enter Tryz.func7,Tryz.ntmps7
   go_wp2
   go_ret
   exact ⟨by rw [HF.out];rfl,hB0⟩
  have h5b:(l !=0)=false:=by simp;omega
  have HF:Hid (Stg.err ⟨2,e,sd,c,l⟩=0):=by unfold Hid Stg.err;dsimp only;repeat (first|rfl|omega|(rw [if_pos (by omega)])|(rw [if_neg (by omega)]))
  clear h1 h2 h3 h4 h5
  go_enter Tryz.func7,Tryz.ntmps7
  go_wp2
  go_ret
  exact ⟨by rw [HF.out];rfl,hB0⟩
 have k2b:(k==2)=false:=by simp [k2]
 by_cases k3:k=3
 ·subst k3
  by_cases h1:e<0
  ·have h1b:decide (e<0)=true:=by simp [h1]
   have HF:Hid (Stg.err ⟨3,e,sd,c,l⟩=2):=by unfold Hid Stg.err;dsimp only;repeat (first|rfl|omega|(rw [if_pos (by omega)])|(rw [if_neg (by omega)]))
   clear h1
   go_enter Tryz.func7,Tryz.ntmps7
   go_wp2
   go_ret
   exact ⟨by rw [HF.out];rfl,hB0⟩
  have h1b:decide (e<0)=false:=by simp;omega
  by_cases h2:3<e
  ·have h2b:decide (3<e)=true:=by simp [h2]
   have HF:Hid (Stg.err ⟨3,e,sd,c,l⟩=2):=by unfold Hid Stg.err;dsimp only;repeat (first|rfl|omega|(rw [if_pos (by omega)])|(rw [if_neg (by omega)]))
   clear h1 h2
   go_enter Tryz.func7,Tryz.ntmps7
   go_wp2
   go_ret
   exact ⟨by rw [HF.out];rfl,hB0⟩
  have h2b:decide (3<e)=false:=by simp;omega
  by_cases h3:sd≠0
  ·have h3b:((sd:Int) !=0)=true:=by simp [h3]
   have HF:Hid (Stg.err ⟨3,e,sd,c,l⟩=1):=by unfold Hid Stg.err;dsimp only;repeat (first|rfl|omega|(rw [if_pos (by omega)])|(rw [if_neg (by omega)]))
   clear h1 h2 h3
   go_enter Tryz.func7,Tryz.ntmps7
   go_wp2
   go_ret
   exact ⟨by rw [HF.out];rfl,hB0⟩
  have h3b:((sd:Int) !=0)=false:=by simp;omega
  by_cases h4:c≠0
  ·have h4b:(c !=0)=true:=by simp [h4]
   have HF:Hid (Stg.err ⟨3,e,sd,c,l⟩=1):=by unfold Hid Stg.err;dsimp only;repeat (first|rfl|omega|(rw [if_pos (by omega)])|(rw [if_neg (by omega)]))
   clear h1 h2 h3 h4
   go_enter Tryz.func7,Tryz.ntmps7
   go_wp2
   go_ret
   exact ⟨by rw [HF.out];rfl,hB0⟩
  have h4b:(c !=0)=false:=by simp;omega
  by_cases h5:l≠0
  ·have h5b:(l !=0)=true:=by simp [h5]
   have HF:Hid (Stg.err ⟨3,e,sd,c,l⟩=1):=by unfold Hid Stg.err;dsimp only;repeat (first|rfl|omega|(rw [if_pos (by omega)])|(rw [if_neg (by omega)]))
   clear h1 h2 h3 h4 h5
   go_enter Tryz.func7,Tryz.ntmps7
   go_wp2
   go_ret
   exact ⟨by rw [HF.out];rfl,hB0⟩
  have h5b:(l !=0)=false:=by simp;omega
  have HF:Hid (Stg.err ⟨3,e,sd,c,l⟩=0):=by unfold Hid Stg.err;dsimp only;repeat (first|rfl|omega|(rw [if_pos (by omega)])|(rw [if_neg (by omega)]))
  clear h1 h2 h3 h4 h5
  go_enter Tryz.func7,Tryz.ntmps7
  go_wp2
  go_ret
  exact ⟨by rw [HF.out];rfl,hB0⟩
 have k3b:(k==3)=false:=by simp [k3]
 by_cases k4:k=4
 ·subst k4
  by_cases h1:e≠0
  ·have h1b:(e !=0)=true:=by simp [h1]
   have HF:Hid (Stg.err ⟨4,e,sd,c,l⟩=1):=by unfold Hid Stg.err;dsimp only;repeat (first|rfl|omega|(rw [if_pos (by omega)])|(rw [if_neg (by omega)]))
   clear h1
   go_enter Tryz.func7,Tryz.ntmps7
   go_wp2
   go_ret
   exact ⟨by rw [HF.out];rfl,hB0⟩
  have h1b:(e !=0)=false:=by simp;omega
  by_cases h2:c<0
  ·have h2b:decide (c<0)=true:=by simp [h2]
   have HF:Hid (Stg.err ⟨4,e,sd,c,l⟩=2):=by unfold Hid Stg.err;dsimp only;repeat (first|rfl|omega|(rw [if_pos (by omega)])|(rw [if_neg (by omega)]))
   clear h1 h2
   go_enter Tryz.func7,Tryz.ntmps7
   go_wp2
   go_ret
   exact ⟨by rw [HF.out];rfl,hB0⟩
  have h2b:decide (c<0)=false:=by simp;omega
  by_cases h3:10000<c
  ·have h3b:decide (10000<c)=true:=by simp [h3]
   have HF:Hid (Stg.err ⟨4,e,sd,c,l⟩=2):=by unfold Hid Stg.err;dsimp only;repeat (first|rfl|omega|(rw [if_pos (by omega)])|(rw [if_neg (by omega)]))
   clear h1 h2 h3
   go_enter Tryz.func7,Tryz.ntmps7
   go_wp2
   go_ret
   exact ⟨by rw [HF.out];rfl,hB0⟩
  have h3b:decide (10000<c)=false:=by simp;omega
  by_cases h4:l<0
  ·have h4b:decide (l<0)=true:=by simp [h4]
   have HF:Hid (Stg.err ⟨4,e,sd,c,l⟩=2):=by unfold Hid Stg.err;dsimp only;repeat (first|rfl|omega|(rw [if_pos (by omega)])|(rw [if_neg (by omega)]))
   clear h1 h2 h3 h4
   go_enter Tryz.func7,Tryz.ntmps7
   go_wp2
   go_ret
   exact ⟨by rw [HF.out];rfl,hB0⟩
  have h4b:decide (l<0)=false:=by simp;omega
  by_cases h5:1024<l
  ·have h5b:decide (1024<l)=true:=by simp [h5]
   have HF:Hid (Stg.err ⟨4,e,sd,c,l⟩=2):=by unfold Hid Stg.err;dsimp only;repeat (first|rfl|omega|(rw [if_pos (by omega)])|(rw [if_neg (by omega)]))
   clear h1 h2 h3 h4 h5
   go_enter Tryz.func7,Tryz.ntmps7
   go_wp2
   go_ret
   exact ⟨by rw [HF.out];rfl,hB0⟩
  have h5b:decide (1024<l)=false:=by simp;omega
  have HF:Hid (Stg.err ⟨4,e,sd,c,l⟩=0):=by unfold Hid Stg.err;dsimp only;repeat (first|rfl|omega|(rw [if_pos (by omega)])|(rw [if_neg (by omega)]))
  clear h1 h2 h3 h4 h5
  go_enter Tryz.func7,Tryz.ntmps7
  go_wp2
  go_ret
  exact ⟨by rw [HF.out];rfl,hB0⟩
 have k4b:(k==4)=false:=by simp [k4]
 by_cases k5:k<1
 ·have k5b:decide (k<1)=true:=by simp [k5]
  have HF:Hid (Stg.err ⟨k,e,sd,c,l⟩=2):=by unfold Hid Stg.err;dsimp only;repeat (first|rfl|omega|(rw [if_pos (by omega)])|(rw [if_neg (by omega)]))
  clear k1 k2 k3 k4 k5
  go_enter Tryz.func7,Tryz.ntmps7
  go_wp2
  go_ret
  exact ⟨by rw [HF.out];rfl,hB0⟩
 have k5b:decide (k<1)=false:=by simp;omega
 have k6b:decide (4<k)=true:=by simp;omega
 have HF:Hid (Stg.err ⟨k,e,sd,c,l⟩=2):=by unfold Hid Stg.err;dsimp only;repeat (first|rfl|omega|(rw [if_pos (by omega)])|(rw [if_neg (by omega)]))
 clear k1 k2 k3 k4 k5
 go_enter Tryz.func7,Tryz.ntmps7
 go_wp2
 go_ret
 exact ⟨by rw [HF.out];rfl,hB0⟩
end
section
variable {M:Nat→Prop} {w:World} {an ao:Option Addr} {cn co:Nat} {m:Mach}
theorem sepchk_any (hm:Ma M w an cn ao co m) (hme:Hid (m.minErr=0)):
    Calls Tryz.prog 126 #[maV m an cn ao co] w fun e w'=>e= .returned (.int .i64 0)∧Below w.heap.size w w':=by
 have hB0:=(Below.refl w.heap.size w).alloc (Nat.le_refl _) (maO m an cn ao co)
 have hx0:C4 (w.alloc (maO m an cn ao co)) w.heap.size an cn ao co m:=c4_new w
 have hz0:w.heap.size+1≤(w.alloc (maO m an cn ao co)).heap.size:=by simp
 have l1:=hm.next.le
 have l2:=hm.out.le
 have HM:=Lib.hid hm
 have HV0:=valid_any (hm.below hB0)
 rw [(Mach.minErr_ok hme.out).1] at HV0
 have HV:=Lib.hid HV0
 clear hm HV0
 go_enter Tryz.func126,Tryz.ntmps126
 go_upto_region 1 with (fail)
 generalize w.alloc (maO m an cn ao co)=w0 at*
 obtain ⟨d0,d1,d2,d3⟩:=hx0
 go_wp2_with fail
 refine (HV.out).mono ?_
 rintro e w1 ⟨rfl,hb1⟩
 have hx1:C4 w1 w.heap.size an cn ao co m:=C4.below ⟨d0,d1,d2,d3⟩ hb1 (by omega)
 have hB1:=hB0.trans (hb1.mono (by omega))
 have HMi:=Lib.hid (minimal_any (HM.out.below hB1))
 clear d0 d1 d2 d3 hB0 hb1 HV
 obtain ⟨d0,d1,d2,d3⟩:=hx1
 go_wp2_with fail
 refine (HMi.out).mono ?_
 rintro e w2 ⟨b,rfl,hb,hb2⟩
 have hbt:b=true:=hb.out.trans (Mach.minErr_ok hme.out).2
 subst hbt
 have hB2:=hB1.trans (hb2.mono hB1.size)
 clear d0 d1 d2 d3 hB1 hb2 HMi
 go_wp2
 go_ret
 exact ⟨rfl,hB2⟩
theorem ansW_sep {s t:Int} {l:List Int} {f:Bool} (h:ansW (stW m s t) l f):l=m.sepW s t:=h.1
theorem stErr_0 (ok:m.Ok) {s t:Int} (hs:0≤s∧s<m.next.length) (ht:0≤t∧t<m.next.length):stErr m s t=0:=by
 rcases st_cases (Mach.err_of_ok _ ok) s t with h|h|h|h|h
 all_goals first|omega|exact h.2.2.2.2
theorem nn_le {s t n:Nat} (hs:s≤n) (ht:t≤n) (hn:n<1000):s*n+t<1002000:=by
 have h1:s*n≤1000*1000:=Nat.mul_le_mul (by omega) (by omega)
 omega
theorem sident_any (hm:Ma M w an cn ao co m) (hme:Hid (m.minErr=0)) (hn:Hid (m.next.length<1000)):
    Calls Tryz.prog 77 #[maV m an cn ao co] w fun e w'=>∃(a:Option Addr) (c:Nat) (L:List (List (List Int))),e= .returned (.tuple #[.slice a L.length c,.int .i64 0])∧Hid (L=m.sids)∧Sl (fun k=>k<w.heap.size) w' a c L∧Below w.heap.size w w':=by
 have hB0:=(Below.refl w.heap.size w).alloc (Nat.le_refl _) (maO m an cn ao co)
 have hx0:C4 (w.alloc (maO m an cn ao co)) w.heap.size an cn ao co m:=c4_new w
 have hz0:w.heap.size+1≤(w.alloc (maO m an cn ao co)).heap.size:=by simp
 have ok:Hid m.Ok:=Mach.ok_of_err m (Mach.minErr_ok hme.out).1
 have hnl:=hn.out
 have HM:=Lib.hid hm
 have HC:=Lib.hid (sepchk_any (hm.below hB0) hme)
 clear hm
 go_enter Tryz.func77,Tryz.ntmps77
 go_upto_region 1 with (fail)
 generalize w.alloc (maO m an cn ao co)=w0 at*
 obtain ⟨d0,d1,d2,d3⟩:=hx0
 go_wp2_with fail
 refine (HC.out).mono ?_
 rintro e w1 ⟨rfl,hb1⟩
 have hx1:C4 w1 w.heap.size an cn ao co m:=C4.below ⟨d0,d1,d2,d3⟩ hb1 (by omega)
 have hB1:=hB0.trans (hb1.mono (by omega))
 have hz1:w.heap.size+1≤w1.heap.size:=by have:=hb1.size;omega
 clear d0 d1 d2 d3 hB0 hb1 HC hz0
 have HS1:Hid (∀w',Below w1.heap.size w1 w'→C4 w' w.heap.size an cn ao co m∧Ma M w' an cn ao co m∧Below w.heap.size w w'):=fun w' h=>
  ⟨hx1.below h (by omega),HM.out.below (hB1.trans (h.mono (by omega))),hB1.trans (h.mono (by omega))⟩
 have hx12:=hx1.2.2.1
 have hFam:Hid (FamR w1.heap.size (fun k=>k=w1.heap.size) (w1.alloc (.cells (madeCells #[.slice none 0 0] m.next.length) 22)) w1.heap.size m.next.length (fun _=>[])):=FamR.made
 have hba:=(Below.refl w1.heap.size w1).alloc (Nat.le_refl _) (.cells (madeCells #[.slice none 0 0] m.next.length) 22)
 have hx22:=(HS1.out _ hba).1.2.2.1
 have hF0:Hid (m.SepF 0 1 (fun _=>[])):=Mach.sepF_0 (by omega)
 go_wp2_with (at_make;refine wpList_mk_exact rfl _ _ _ rfl 22 (.slice none 0 0) 24 Tryz.underlying110 info_rowsF rfl m.next.length rfl rfl (by omega) (by unfold maxLen;omega) ?_)
 clear hx1 hx12 hB1
 generalize w1.alloc (.cells (madeCells #[.slice none 0 0] m.next.length) 22)=w2 at*
 clear hz1
 go_wp2
 go_loopw [26] (fun v wr=>∃(s:Nat) (W:Nat→Prop) (F:Nat→List (List Int)),s≤m.next.length∧v= .int .i64 s∧Hid (FamR w1.heap.size W wr w1.heap.size m.next.length F)∧Hid (m.SepF s (s+1) F)∧Below w1.heap.size w1 wr) (fun v _=>m.next.length-(intOf v).toNat)
 case atStart=>exact ⟨0,_,_,by omega,rfl,hFam,hF0,hba⟩
 case round=>
  clear hFam hba hF0 hx22
  obtain ⟨s,W,F,hs,rfl,hFam,hF,hB⟩:=hrel
  obtain ⟨wo,rfl⟩:∃wo:World,wo=wr:=⟨_,rfl⟩
  by_cases hlt:s<m.next.length
  ·go_wp2
   go_loopw [7] (fun v wr=>∃(t:Nat) (W:Nat→Prop) (F:Nat→List (List Int)),s+1≤t∧t≤m.next.length∧v= .int .i64 t∧Hid (FamR w1.heap.size W wr w1.heap.size m.next.length F)∧Hid (m.SepF s t F)∧Below w1.heap.size w1 wr) (fun v _=>m.next.length-(intOf v).toNat)
   case atStart=>exact ⟨s+1,W,F,by omega,by omega,by go_num,hFam,hF,hB⟩
   case round=>
    clear hFam hF hB
    obtain ⟨t,W,F,hst,ht,rfl,hFam,hF,hB⟩:=hrel
    obtain ⟨wo,rfl⟩:∃wo:World,wo=wr:=⟨_,rfl⟩
    have hSo:=HS1.out _ hB
    have hzo:=hB.size
    by_cases htn:t<m.next.length
    ·have hsr:Hid ((0:Int)≤s∧(s:Int)<m.next.length∧(0:Int)≤t∧(t:Int)<m.next.length):=by unfold Hid;omega
     have HSt0:=states_any hSo.2.1 (s:Int) (t:Int) (by unfold i64;omega) (by unfold i64;omega)
     rw [stErr_0 ok.out ⟨hsr.out.1,hsr.out.2.1⟩ ⟨hsr.out.2.2.1,hsr.out.2.2.2⟩] at HSt0
     have HSt:=Lib.hid HSt0
     obtain ⟨d0,d1,d2,d3⟩:=hSo.1
     clear HSt0 hSo
     go_wp2_with fail
     refine (HSt.out).mono ?_
     rintro e w3 ⟨ad,cd,l,f,rfl,hl,hsl,hb3⟩
     have hle:Hid (l=m.sepW (s:Int) (t:Int)):=ansW_sep hl.out
     have hB3:=hB.trans (hb3.mono hzo)
     have hz3:=hB3.size
     have hFam3:=Lib.hid (hFam.out.below hb3)
     have hlW:Hid (Sl (fun k=>k<wo.heap.size) w3 ad cd l):=hsl
     have hll:=hsl.le
     have hlow:Hid (∀k,W k→k<wo.heap.size):=fun k hk=>(hFam.out.lo k hk).2
     have hgWs:Hid (W w1.heap.size):=hFam.out.gW
     obtain ⟨a0,c0,hc0, -, -, -⟩:=hFam3.out.cell s hlt
     have hlen:Hid ((F s).length<1010000∧(F t).length<1010000):=by
      have h1:=hF.out.len s
      have h2:=hF.out.len t
      have h3:=nn_le (s:=s) (t:=t) (n:=m.next.length) (by omega) (by omega) hn.out
      exact ⟨by omega,by omega⟩
     have hls:=hlen.out.1
     have hlt2:=hlen.out.2
     clear hl hsl hB hFam hb3 HSt d0 d1 d2 d3
     have hF4:=Lib.hid (hFam3.out.below ((Below.refl w3.heap.size w3).alloc (Nat.le_refl _) (.cells #[.slice ad l.length cd] 49)))
     have hc4:(w3.alloc (.cells #[.slice ad l.length cd] 49)).cell? ⟨w1.heap.size,s,none⟩=some (.slice a0 (F s).length c0):=(((Below.refl w3.heap.size w3).alloc (Nat.le_refl _) _).cell (p:=⟨w1.heap.size,s,none⟩) (lt_of_cell hc0)).trans hc0
     have hl4:=(hlW.out.alloc (.cells #[.slice ad l.length cd] 49)).anti (M':=fun k=>W k∨k<w1.heap.size) fun k _ hm=>by
      rcases hm with hm|hm
      ·exact hlow.out k hm
      show k<_;omega
     have HL4:=Lib.hid hl4
     clear hl4
     go_wp2_with (at_builtin;refine wpList_push_f (F:=F) (i:=s) (r:=l) rfl rfl Tryz.underlying22 info_ints rfl rfl hF4 hlt hc4 (by simp [go_sem]) HL4.out (by omega) (by simp;omega) ?_)
     intro a5 c5 n5 w5 hn5 hFam5 hcc5 hff5 hb5 hu5
     have hB4:=hB3.alloc hz3 (.cells #[.slice ad l.length cd] 49)
     have hB5:=hB4.trans hb5
     have hB6:=hB5.setCell (p:=⟨w1.heap.size,s,none⟩) (Nat.le_refl _) (.slice a5 n5 c5)
     have hz6:=hB6.size
     have hz5:w1.heap.size≤w5.heap.size:=hB5.size
     obtain ⟨F6,hF6⟩:∃F6,F6=(fun j=>if j=s then F s++[l] else F j):=⟨_,rfl⟩
     rw [←hF6] at hFam5
     obtain ⟨W6,hW6⟩:∃W6:Nat→Prop,W6=(fun k=>W k∨(k=w3.heap.size+1∧k<w5.heap.size)):=⟨_,rfl⟩
     rw [←hW6] at hFam5
     have hgo:w1.heap.size<wo.heap.size:=hlow.out _ hgWs.out
     have hlW6:Hid (Sl (fun k=>W6 k∨k<w1.heap.size) (w5.setCell ⟨w1.heap.size,s,none⟩ (.slice a5 n5 c5)) ad cd l):=by
      have hsa:(w3.alloc (.cells #[.slice ad l.length cd] 49)).heap.size=w3.heap.size+1:=by simp
      refine (hlW.out.alloc (.cells #[.slice ad l.length cd] 49)).ext ⟨by have:=hb5.size;simpa [World.setCell] using this,fun k hk hm=> ?_,fun k hk hm=> ?_⟩
      ·rw [hsa] at hk
       rw [Below.heap_setCell _ _ _ _ (fun e=>hm (by simp at e;omega)),hu5.out k hk (fun e=>hm (hlow.out k e))]
      rw [hW6] at hm
      rw [hsa] at hk
      rcases hm with (hm|hm)|hm
      ·exact hlow.out k hm
      ·omega
      show k<_;omega
     have hF6t:Hid (F6 t=F t):=by unfold Hid;rw [hF6];exact if_neg (by omega)
     have hlen6:Hid ((F6 t).length<1010000):=by unfold Hid;rw [hF6t.out];exact hlt2
     obtain ⟨a7,c7,hc7, -, -, -⟩:=hFam5.out.cell t htn
     have hB7w:=(Below.refl (w5.setCell ⟨w1.heap.size,s,none⟩ (.slice a5 n5 c5)).heap.size (w5.setCell ⟨w1.heap.size,s,none⟩ (.slice a5 n5 c5))).alloc (Nat.le_refl _) (.cells #[.slice ad l.length cd] 49)
     have hF7:=Lib.hid (hFam5.out.below hB7w)
     have hc7a:((w5.setCell ⟨w1.heap.size,s,none⟩ (.slice a5 n5 c5)).alloc (.cells #[.slice ad l.length cd] 49)).cell? ⟨w1.heap.size,t,none⟩=some (.slice a7 (F6 t).length c7):=(hB7w.cell (p:=⟨w1.heap.size,t,none⟩) (lt_of_cell hc7)).trans hc7
     have HL7:=Lib.hid (hlW6.out.alloc (.cells #[.slice ad l.length cd] 49))
     have HF6:=Lib.hid hF6
     clear hFam5 hlW6 hW6 hu5 hFam3 hF4 HL4 hlow hgo hB3 hB4 hB5 hb5 hF6
     go_wp2_with (at_builtin;(refine wpList_push_f (F:=F6) (i:=t) (r:=l) rfl rfl Tryz.underlying22 info_ints rfl rfl hF7 htn hc7a (by simp [go_sem]) HL7.out (by have:=hlen6.out;omega) (by simp;omega) ?_))
     intro a8 c8 n8 w8 hn8 hFam8 hcc8 hff8 hb8 hu8
     have hB8:=((hB6.alloc hz6 (.cells #[.slice ad l.length cd] 49)).trans hb8).setCell (p:=⟨w1.heap.size,t,none⟩) (Nat.le_refl _) (.slice a8 n8 c8)
     have hF8:Hid (m.SepF s (t+1) (fun j=>if j=t then F6 t++[l] else F6 j)):=by
      have h1:=Mach.sepF_step ok.out hF.out (by omega) htn
      rw [←hle.out] at h1
      have h2:(fun j=>if j=t then F6 t++[l] else F6 j)=(fun j=>if j=t then (if j=s then F s++[l] else F j)++[l] else if j=s then F s++[l] else F j):=by
       funext j
       rw [HF6.out]
       by_cases e:j=t
       ·subst e;simp only [if_true]
       simp only [if_neg e]
      unfold Hid
      rw [h2]
      exact h1
     clear HF6 hF7 HL7 hB7w hB6 hu8 hb8 hF
     go_wp2
     go_roundw
     case rel=>exact ⟨t+1,_,_,by omega,by omega,by go_num,hFam8,hF8,hB8⟩
     case measure=>simp [intOf];omega
    have hF2 : Hid (m.SepF (s + 1) (s + 1 + 1) F) := by
     have h:=hF.out
     rw [show t=m.next.length by omega] at h
     exact Mach.sepF_next h
    have hd2:=hSo.1.2.2.1
    clear hSo
    go_wp2
    go_roundw
    case rel=>exact ⟨s+1,W,F,by omega,by go_num,hFam,hF2,hB⟩
    case measure=>simp [intOf];omega
  have hsn:Hid (m.next.length≤s):=by unfold Hid;omega
  have hzo:=hB.size
  have hBw:=(HS1.out _ hB).2.2
  have hwo:=hBw.size
  go_wp2_with (at_make;refine wpList_mk0 (α:=List (List Int)) rfl _ _ _ rfl _ _ _ Tryz.underlying110 info_rowsF wo.heap.size (fun k=>(Value.slice (some ⟨wo.heap.size,0,none⟩) 0 m.next.length).ownBlock=some k∨k<wo.heap.size) m.next.length rfl rfl (by omega) (by unfold maxLen;omega) (Nat.le_refl _) ?_)
  intro w3 hO3 hb3
  have hO30:Ox wo.heap.size wo.heap.size w3 22 (.slice (some ⟨wo.heap.size,0,none⟩) ([]:List (List (List Int))).length m.next.length) ([]:List (List (List Int))):=hO3
  have hK0:Hid (([]:List (List (List Int)))=m.sids.take 0):=rfl
  clear hO3 hwo
  go_wp2
  go_loopw [75,11] (fun i v wr=>∃(k:Nat) (a':Option Addr) (c':Nat) (K:List (List (List Int))),k≤m.next.length∧i= .int .i64 k∧v= .slice a' K.length c'∧Hid (K=m.sids.take k)∧Ox wo.heap.size wo.heap.size wr 22 (.slice a' K.length c') K∧Below wo.heap.size wo wr) (fun i _ _=>m.next.length-(intOf i).toNat)
  case atStart=>exact ⟨0,_,_,[],by omega,rfl,rfl,hK0,hO30,hb3⟩
  case round=>
   clear hO30 hb3 hK0
   obtain ⟨k,a',c',K,hk,rfl,rfl,hK,hO,hB3⟩:=hrel
   obtain ⟨w3,rfl⟩:∃w3:World,w3=wr:=⟨_,rfl⟩
   have hz3:=hB3.size
   have hsl:Hid (m.sids.length=m.next.length):=by unfold Hid Mach.sids;simp
   have hKl:Hid (K.length=k):=by unfold Hid;rw [hK.out,List.length_take,hsl.out];omega
   by_cases hkn:k<m.next.length
   ·obtain ⟨a0,c0,hc0,hs0⟩:=(hFam.out.below hB3).toSl hkn
    have hlen:Hid ((F k).length<1010000):=by
     have h1:=hF.out.len k
     have h3:=nn_le (s:=s) (t:=0) (n:=m.next.length) (by omega) (by omega) hn.out
     unfold Hid
     omega
    have HSr:=Lib.hid (sorted_any hs0 (by have:=hlen.out;omega) (Lib.hid fun r hr=>by
     obtain ⟨j, -, -,rfl⟩:=(hF.out.mem k hkn r).1 hr
     have:=Mach.sepW_len hn.out (k:Int) (j:Int);omega))
    have hll:=hs0.le
    clear hs0
    go_wp2_with fail
    refine (HSr.out).mono ?_
    rintro e w8 ⟨a8,c8,L8,rfl,hL8,hS8,hb8⟩
    have hB8:=hB3.trans (hb8.mono hz3)
    have hO8:=Ox.later hO hb8
    have hS8':Sl (fun k=>(Value.slice a' K.length c').ownBlock=some k∨k<wo.heap.size) w8 a8 c8 L8:=hS8.anti fun k _ hm=>by
     rcases hm with hm|hm
     ·exact (hO.lt k hm).2
     show k<_;omega
    have hL8l:=hS8'.le
    have hz8:=hB8.size
    clear HSr hB3 hS8 hb8 hO
    go_wp2_with (at_builtin;refine wpList_push_x (n0:=wo.heap.size) (B:=wo.heap.size) (r:=L8) (ar:=a8) (cr:=c8) rfl rfl Tryz.underlying110 info_rowsF rfl rfl (hO8.alloc _) (by simp [go_sem]) (hS8'.alloc _) (by rw [hKl.out];omega) (by simp;omega) ?_)
    intro a9 c9 K9 w9 hK9 hO9 hbk hgr
    have hB9:=(hB8.alloc hz8 (.cells #[.slice a8 L8.length c8] 22)).grown hgr (by simp;omega) (fun k hk=>(hO8.lt k hk).1)
    have hKn:Hid (K9=m.sids.take (k+1)):=by unfold Hid;rw [hK9.out,hK.out,List.take_add_one,Mach.sids_get hkn,hL8.out,Mach.sepF_srt hF.out hsn.out hkn];rfl
    clear hbk hgr hK9 hO8 hB8 hS8' hz8
    go_wp2
    go_roundw
    case rel=>exact ⟨k+1,a9,c9,K9,by omega,by go_num,rfl,hKn,hO9,hB9⟩
    case measure=>simp [intOf];omega
   have hKf:Hid (K=m.sids):=by unfold Hid;rw [hK.out,List.take_of_length_le (by rw [hsl.out];omega)]
   have hSf:=(hO.toSl (Nat.le_refl _)).anti (M':=fun k=>k<w.heap.size) fun k _ hm=>by have:=hBw.size;show k<_;omega
   have hBf:=hBw.trans (hB3.mono hBw.size)
   go_wp2
   go_ret2
   exact ⟨a',c',K,rfl,hKf,hSf,hBf⟩
end
end Go.Proofs.YtjagagpcjpcjjaaGreat
namespace Go.Proofs.YtjagagpcjpcjjaaGreat
namespace Mach
variable {m n i:Mach}
theorem suOut_okS (ok:n.Ok) {ids:List (List (List Int))} (hi:∀r∈ids,∀v∈r,n.okS v) {k:Int}:∀w∈suOut n ids (n.covW.map Pc.word) (uptW n.inputs k).1,n.okS w:=by
 intro w hw
 unfold suOut at hw
 obtain ⟨p,hp,hw⟩:=List.mem_flatMap.1 hw
 unfold sf at hw
 obtain ⟨x,hx,hw⟩:=List.mem_flatMap.1 hw
 unfold sg at hw
 obtain ⟨v,hv,rfl⟩:=List.mem_map.1 hw
 obtain ⟨q,hq,rfl⟩:=List.mem_map.1 hp
 obtain ⟨-, -,q1, -, -⟩:=cov_all ok n.next.length q hq
 have hxi:=(uptW_in n.inputs k).1 x hx
 intro y hy
 rcases List.mem_append.1 hy with hy|hy
 ·rcases List.mem_append.1 hy with hy|hy
  ·exact q1 y hy
  exact hxi.1 y hy
 rcases tailW_at hv with rfl|⟨r,hr,hvr⟩
 ·simp at hy
 exact hi r hr v hvr y hy
theorem sim_of_max (ok:m.Ok) (oi:i.Ok) (hin:m.inputs=i.inputs) {extra:Int} (h0:0≤extra) (h3:extra≤3) {ids:List (List (List Int))} (hh:m.minF.HarmI ids) (hi:∀r∈ids,∀v∈r,m.minF.okS v) (u0:(uptW m.inputs (extra+1)).2=0)
    (hp:∀w∈maxW (suOut m.minF ids (m.minF.covW.map Pc.word) (uptW m.inputs (extra+1)).1),m.outsW m.start w=i.outsW i.start w) (hr:(i.reach.length:Int)≤(m.minF.next.length:Int)+extra):Sim m i m.start i.start:=by
 have okt:=minF_ok ok
 have hmm:=minF_start ok
 have hsim:Sim m.minF i m.minF.start i.start:=by
  refine passes_sim (k:=extra.toNat) (ids:=ids) (X:=(uptW m.inputs (extra+1)).1) okt oi hin (minF_reach ok) hh (fun x hx hl=> ?_) (fun w hw=> ?_) (by omega)
  ·exact uptW_all (by omega) u0 x (fun y hy=>hx y hy) (by omega)
  obtain ⟨v,hv,z,rfl⟩:=maxW_above hw
  have e1:=hp _ hv
  have hok:m.okS (w++z):=fun y hy=>suOut_okS (n:=m.minF) okt hi (k:=extra+1) _ (maxW_mem hv) y hy
  have e2:=hmm (w++z) hok
  rw [e2,outsW_app,outsW_app] at e1
  exact (List.append_inj e1 (by rw [outsW_len,outsW_len])).1
 exact Sim.trans (a:=m) (b:=m.minF) (rfl:m.inputs=m.minF.inputs) hmm hsim
theorem minF_minimal (ok:m.Ok):m.minF.minimal=true:=(minErr_ok (minF_min ok).1).2
theorem sepW_okS (n:Mach) (s t:Int):n.okS (n.sepW s t):=by
 unfold sepW
 cases h:stW n s t with
 |none=>exact fun y hy=>by simp at hy
 |some w=>
  unfold stW at h
  split at h
  ·exact (first_some h).1.1
  simp at h
theorem chW_okS:∀v∈n.chW,n.okS v:=fun v hv=>by
 obtain ⟨a,b,rfl⟩:=chW_mem hv
 exact sepW_okS n a b
theorem sids_okS:∀r∈n.sids,∀v∈r,n.okS v:=fun r hr v hv=>by
 unfold sids at hr
 obtain ⟨s, -,rfl⟩:=List.mem_map.1 hr
 rw [srt_mem tot_cmp] at hv
 unfold idO at hv
 obtain ⟨x, -,rfl⟩:=List.mem_map.1 hv
 exact sepW_okS n _ _
theorem wsW_0 (ok:m.Ok) {extra:Int} (h:(m.wsW extra).2=0):(0≤extra∧extra≤3)∧(uptW m.inputs (extra+1)).2=0∧(m.wsW extra).1=maxW (suOut m.minF (List.replicate m.minF.next.length m.minF.chW) (m.minF.covW.map Pc.word) (uptW m.inputs (extra+1)).1):=by
 have he:=Mach.err_of_ok _ ok
 have hmo:m.minOf=m.minF:=Mach.minOf_eq he
 unfold wsW at h ⊢
 rw [if_neg (by simp [he])] at h ⊢
 by_cases h1:extra<0∨3<extra
 ·rw [if_pos h1] at h;simp at h
 rw [if_neg h1] at h ⊢
 by_cases h2:(uptW m.inputs (extra+1)).2≠0
 ·rw [if_pos h2] at h;exact absurd h h2
 rw [if_neg h2] at h ⊢
 rw [hmo] at h ⊢
 split at h
 ·simp at h
 rename_i h3
 rw [if_neg h3]
 refine ⟨by omega,Classical.byContradiction h2,?_⟩
 show maxW (prodW _ _ (noNil m.minF.chW))=_
 have okt:=minF_ok ok
 rw [prodW_su m.minF fun p hp x hx=> ?_]
 obtain ⟨q,hq,rfl⟩:=List.mem_map.1 hp
 obtain ⟨-, -,q1, -, -⟩:=cov_all okt m.minF.next.length q hq
 have hxi:=(uptW_in m.inputs (extra+1)).1 x hx
 exact end_ok okt fun y hy=>by
  rcases List.mem_append.1 hy with hy|hy
  ·exact q1 y hy
  exact hxi.1 y hy
theorem hsW_0 (ok:m.Ok) {extra:Int} (h:(m.hsW extra).2=0):(0≤extra∧extra≤3)∧(uptW m.inputs (extra+1)).2=0∧(m.hsW extra).1=maxW (suOut m.minF m.minF.sids (m.minF.covW.map Pc.word) (uptW m.inputs (extra+1)).1):=by
 have he:=Mach.err_of_ok _ ok
 have hmo:m.minOf=m.minF:=Mach.minOf_eq he
 unfold hsW at h ⊢
 rw [if_neg (by simp [he])] at h ⊢
 by_cases h1:extra<0∨3<extra
 ·rw [if_pos h1] at h;simp at h
 rw [if_neg h1] at h ⊢
 by_cases h2:(uptW m.inputs (extra+1)).2≠0
 ·rw [if_pos h2] at h;exact absurd h h2
 rw [if_neg h2] at h ⊢
 rw [hmo] at h ⊢
 split at h
 ·simp at h
 rename_i h3
 rw [if_neg h3]
 exact ⟨by omega,Classical.byContradiction h2,rfl⟩
theorem wsW_complete (ok:m.Ok) (oi:i.Ok) (hin:m.inputs=i.inputs) {extra:Int} (h:(m.wsW extra).2=0) (hp:∀w∈(m.wsW extra).1,m.outsW m.start w=i.outsW i.start w) (hr:(i.reach.length:Int)≤(m.minF.next.length:Int)+extra):Sim m i m.start i.start:=by
 obtain ⟨h1,u0,e⟩:=wsW_0 ok h
 refine sim_of_max ok oi hin h1.1 h1.2 (harmI_ch (minF_ok ok) (minF_minimal ok)) (fun r hr v hv=> ?_) u0 (by rw [←e];exact hp) hr
 rw [List.eq_of_mem_replicate hr] at hv
 exact chW_okS v hv
theorem hsW_complete (ok:m.Ok) (oi:i.Ok) (hin:m.inputs=i.inputs) {extra:Int} (h:(m.hsW extra).2=0) (hp:∀w∈(m.hsW extra).1,m.outsW m.start w=i.outsW i.start w) (hr:(i.reach.length:Int)≤(m.minF.next.length:Int)+extra):Sim m i m.start i.start:=by
 obtain ⟨h1,u0,e⟩:=hsW_0 ok h
 exact sim_of_max ok oi hin h1.1 h1.2 (harmI_sids (minF_ok ok) (minF_minimal ok)) sids_okS u0 (by rw [←e];exact hp) hr
end Mach
end Go.Proofs.YtjagagpcjpcjjaaGreat
namespace Go.Proofs.YtjagagpcjpcjjaaGreat
open Go.RowKit
namespace Mach
variable {m:Mach}
theorem chT_words (hn:m.next.length<1000) {s k:Nat}:∀w∈m.chT s (m.chS s) k,m.okS w∧w.length≤1000000:=fun w hw=>by
 have h:∃a b:Int,w=m.sepW a b:=by
  rcases chT_mem k w hw with h|h
  ·exact chS_mem s w h
  exact h
 obtain ⟨a,b,rfl⟩:=h
 exact ⟨sepW_okS m a b,sepW_len hn a b⟩
theorem chS_words (hn:m.next.length<1000) {s:Nat}:∀w∈m.chS s,m.okS w∧w.length≤1000000:=fun w hw=>chT_words hn (s:=s) (k:=0) w hw
theorem chT_bound (hn:m.next.length<1000) {s k:Nat} (hs:s≤m.next.length) (hk:k≤m.next.length):(m.chT s (m.chS s) k).length<1100000:=by
 have h1:=chT_len (m:=m) (s:=s) (C:=m.chS s) k
 have h2:=chS_len (m:=m) s
 have h3:s*m.next.length≤1000*1000:=Nat.mul_le_mul (by omega) (by omega)
 omega
end Mach
section
variable {M:Nat→Prop} {w:World} {an ao:Option Addr} {cn co:Nat} {m:Mach}
theorem charset_any (hm:Ma M w an cn ao co m) (hme:Hid (m.minErr=0)) (hn:Hid (m.next.length<1000)):
    Calls Tryz.prog 75 #[maV m an cn ao co] w fun e w'=>∃(a:Option Addr) (c:Nat) (L:List (List Int)),e= .returned (.tuple #[.slice a L.length c,.int .i64 0])∧Hid (L=m.chW)∧Sl (fun k=>k<w.heap.size) w' a c L∧Below w.heap.size w w':=by
 have hB0:=(Below.refl w.heap.size w).alloc (Nat.le_refl _) (maO m an cn ao co)
 have hx0:C4 (w.alloc (maO m an cn ao co)) w.heap.size an cn ao co m:=c4_new w
 have hz0:w.heap.size+1≤(w.alloc (maO m an cn ao co)).heap.size:=by simp
 have ok:Hid m.Ok:=Mach.ok_of_err m (Mach.minErr_ok hme.out).1
 have hnl:=hn.out
 have HM:=Lib.hid hm
 have HC:=Lib.hid (sepchk_any (hm.below hB0) hme)
 clear hm
 go_enter Tryz.func75,Tryz.ntmps75
 go_upto_region 1 with (fail)
 generalize w.alloc (maO m an cn ao co)=w0 at*
 obtain ⟨d0,d1,d2,d3⟩:=hx0
 go_wp2_with fail
 refine (HC.out).mono ?_
 rintro e w1 ⟨rfl,hb1⟩
 have hx1:C4 w1 w.heap.size an cn ao co m:=C4.below ⟨d0,d1,d2,d3⟩ hb1 (by omega)
 have hB1:=hB0.trans (hb1.mono (by omega))
 have hz1:w.heap.size+1≤w1.heap.size:=by have:=hb1.size;omega
 clear d0 d1 d2 d3 hB0 hb1 HC hz0
 have HS1:Hid (∀w',Below w1.heap.size w1 w'→C4 w' w.heap.size an cn ao co m∧Ma M w' an cn ao co m∧Below w.heap.size w w'):=fun w' h=>
  ⟨hx1.below h (by omega),HM.out.below (hB1.trans (h.mono (by omega))),hB1.trans (h.mono (by omega))⟩
 have hx12:=hx1.2.2.1
 have hO0:Ox (α:=List Int) w1.heap.size w1.heap.size w1 49 (.slice none 0 0) []:=Ox.nil
 have hK0:Hid (([]:List (List Int))=m.chS 0):=rfl
 have hBz:=Below.refl w1.heap.size w1
 clear hx1 hB1
 go_wp2
 go_loopw [5,19] (fun v i wr=>∃(s:Nat) (a':Option Addr) (c':Nat) (K:List (List Int)),s≤m.next.length∧i= .int .i64 s∧v= .slice a' K.length c'∧Hid (K=m.chS s)∧Ox w1.heap.size w1.heap.size wr 49 (.slice a' K.length c') K∧Below w1.heap.size w1 wr) (fun _ i _=>m.next.length-(intOf i).toNat)
 case atStart=>exact ⟨0,none,0,[],by omega,rfl,rfl,hK0,hO0,hBz⟩
 case round=>
  clear hO0 hK0 hBz hx12
  obtain ⟨s,a',c',K,hs,rfl,rfl,hK,hO,hB⟩:=hrel
  obtain ⟨wo,rfl⟩:∃wo:World,wo=wr:=⟨_,rfl⟩
  by_cases hlt:s<m.next.length
  ·have hT0:Hid (K=m.chT s (m.chS s) 0):=hK
   go_wp2
   go_loopw [5,7] (fun v i wr=>∃(k:Nat) (a':Option Addr) (c':Nat) (K:List (List Int)),s+1+k≤m.next.length∧i= .int .i64 ((s+1+k:Nat):Int)∧v= .slice a' K.length c'∧Hid (K=m.chT s (m.chS s) k)∧Ox w1.heap.size w1.heap.size wr 49 (.slice a' K.length c') K∧Below w1.heap.size w1 wr) (fun _ i _=>m.next.length-(intOf i).toNat)
   case atStart=>exact ⟨0,a',c',K,by omega,by go_num,rfl,hT0,hO,hB⟩
   case round=>
    clear hT0 hK hO hB
    obtain ⟨k,a',c',K,hk,rfl,rfl,hK,hO,hB⟩:=hrel
    obtain ⟨wo,rfl⟩:∃wo:World,wo=wr:=⟨_,rfl⟩
    have hSo:=HS1.out _ hB
    have hzo:=hB.size
    by_cases htn:s+1+k<m.next.length
    ·obtain ⟨t,ht⟩:∃t,t=s+1+k:=⟨_,rfl⟩
     rw [←ht] at htn ⊢
     have HT:=Lib.hid ht
     have hKw:Hid (∀l∈K,m.okS l∧l.length≤1000000):=by unfold Hid;rw [hK.out];exact Mach.chT_words hn.out
     have hKl:Hid (K.length<1100000):=by unfold Hid;rw [hK.out];exact Mach.chT_bound hn.out hs (by omega)
     have hKll:=hKl.out
     have hstep:Hid (m.chT s (m.chS s) (k+1)=if K.any (apW m s t)=true then K else K++[m.sepW (s:Int) (t:Int)]):=by
      unfold Hid
      rw [hK.out,HT.out]
      rfl
     have hKs:=hO.toSl (Nat.le_refl _)
     obtain ⟨d0,d1,d2,d3⟩:=hSo.1
     clear ht
     cases hq:K.any (apW m s t) with
     |true=>
      have HSe:=Lib.hid (separated_any (s:=s) (t:=t) hSo.2.1 hKs ok hlt htn hKw hq)
      have hK2:Hid (K=m.chT s (m.chS s) (k+1)):=by unfold Hid;rw [hstep.out,hq,if_pos rfl]
      have htk:(t:Int)+1=((s+1+(k+1):Nat):Int):=by have:=HT.out;omega
      clear hSo hq hKs
      go_wp2_with fail
      refine (HSe.out).mono ?_
      rintro e w3 ⟨rfl,hb3⟩
      have hB3:=hB.trans (hb3.mono hzo)
      have hO3:=Ox.later hO hb3
      clear HSe hb3 hB hO d0 d1 d2 d3
      go_wp2
      go_roundw
      case rel=>exact ⟨k+1,a',c',K,by have:=HT.out;omega,by rw [←htk];go_num,rfl,hK2,hO3,hB3⟩
      case measure=>simp [intOf];omega
     |false=>
      have HSe:=Lib.hid (separated_any (s:=s) (t:=t) hSo.2.1 hKs ok hlt htn hKw hq)
      have hK2:Hid (K++[m.sepW (s:Int) (t:Int)]=m.chT s (m.chS s) (k+1)):=by unfold Hid;rw [hstep.out,hq,if_neg (by simp)]
      have htk:(t:Int)+1=((s+1+(k+1):Nat):Int):=by have:=HT.out;omega
      clear hSo hq hKs
      go_wp2_with fail
      refine (HSe.out).mono ?_
      rintro e w3 ⟨rfl,hb3⟩
      have hB3:=hB.trans (hb3.mono hzo)
      have hO3:=Ox.later hO hb3
      have hS3:=HS1.out _ hB3
      have HSt0:=states_any hS3.2.1 (s:Int) (t:Int) (by unfold i64;omega) (by unfold i64;omega)
      rw [stErr_0 ok.out (s:=(s:Int)) (t:=(t:Int)) (by omega) (by omega)] at HSt0
      have HSt:=Lib.hid HSt0
      clear HSe hb3 hB hO d0 d1 d2 d3 HSt0
      obtain ⟨d0,d1,d2,d3⟩:=hS3.1
      clear hS3
      go_wp2_with fail
      refine (HSt.out).mono ?_
      rintro e w4 ⟨ad,cd,l,f,rfl,hl,hsl,hb4⟩
      have hle:Hid (l=m.sepW (s:Int) (t:Int)):=ansW_sep hl.out
      have hB4:=hB3.trans (hb4.mono hB3.size)
      have hO4:=Ox.later hO3 hb4
      have hS4':Sl (fun k=>(Value.slice a' K.length c').ownBlock=some k∨k<w1.heap.size) w4 ad cd l:=hsl.anti fun k _ hm=>by
       rcases hm with hm|hm
       ·exact (hO3.lt k hm).2
       have:=hB3.size;show k<_;omega
      have hll:=hsl.le
      have hz4:=hB4.size
      clear HSt hB3 hO3 hsl hb4 d0 d1 d2 d3 hl
      go_wp2_with (at_builtin;refine wpList_push_x (n0:=w1.heap.size) (B:=w1.heap.size) (r:=l) (ar:=ad) (cr:=cd) rfl rfl Tryz.underlying22 info_ints rfl rfl (hO4.alloc _) (by simp [go_sem]) (hS4'.alloc _) (by omega) (by simp;omega) ?_)
      intro a9 c9 K9 w9 hK9 hO9 hbk hgr
      have hB9:=(hB4.alloc hz4 (.cells #[.slice ad l.length cd] 49)).grown hgr (by simp;omega) (fun k hk=>(hO4.lt k hk).1)
      have hKn:Hid (K9=m.chT s (m.chS s) (k+1)):=by unfold Hid;rw [hK9.out,hle.out,hK2.out]
      clear hbk hgr hK9 hO4 hB4 hS4' hz4
      go_wp2
      go_roundw
      case rel=>exact ⟨k+1,a9,c9,K9,by have:=HT.out;omega,by rw [←htk];go_num,rfl,hKn,hO9,hB9⟩
      case measure=>simp [intOf];omega
    have hKn : Hid (K = m.chS (s + 1)) := by
     unfold Hid
     rw [hK.out,show k=m.next.length-(s+1) by omega]
     rfl
    have hd2:=hSo.1.2.2.1
    clear hSo
    go_wp2
    go_roundw
    case rel=>exact ⟨s+1,a',c',K,by omega,by go_num,rfl,hKn,hO,hB⟩
    case measure=>simp [intOf];omega
  have hKf:Hid (K=m.chS m.next.length):=by unfold Hid;rw [hK.out,show s=m.next.length by omega]
  have hKl:Hid (K.length<1100000):=by unfold Hid;rw [hK.out];exact Mach.chT_bound (k:=0) hn.out hs (by omega)
  have HSr:=Lib.hid (sorted_any (hO.toSl (Nat.le_refl _)) (by have:=hKl.out;omega) (Lib.hid fun r hr=>by
   rw [hK.out] at hr
   have:=(Mach.chS_words hn.out r hr).2;omega))
  have hBo:=(HS1.out _ hB).2.2
  have hzo:=hBo.size
  have hll:=(hO.toSl (Nat.le_refl _)).le
  go_wp2_with fail
  refine (HSr.out).mono ?_
  rintro e w8 ⟨a8,c8,L8,rfl,hL8,hS8,hb8⟩
  have hLf:Hid (L8=m.chW):=by unfold Hid Mach.chW;rw [hL8.out,hKf.out]
  have hSf:=hS8.anti (M':=fun k=>k<w.heap.size) fun k _ hm=>by show k<_;omega
  have hBf:=hBo.trans (hb8.mono hzo)
  clear HSr hS8 hb8
  go_wp2
  go_ret2
  exact ⟨a8,c8,L8,rfl,hLf,hSf,hBf⟩
end
end Go.Proofs.YtjagagpcjpcjjaaGreat
namespace Go.Proofs.YtjagagpcjpcjjaaGreat
open Go.RowKit Go.Shelf
attribute [local go_sem] Oper.semAt_some
private theorem sum_const' {α:Type} (c:Nat):∀l:List α,(l.map fun _=>c).sum=l.length*c
 |[]=>by simp
 |_::l=>by rw [List.map_cons,List.sum_cons,sum_const' c l,List.length_cons,Nat.succ_mul];omega
section
variable {M:Nat→Prop} {w:World} {an ao:Option Addr} {cn co:Nat} {m:Mach}
theorem wsuite_any (hm:Ma M w an cn ao co m) (extra:Int):
    Calls Tryz.prog 34 #[maV m an cn ao co,.int .i64 extra] w fun e w'=>∃(a:Option Addr) (c:Nat) (L:List (List Int)) (e1:Int),e= .returned (.tuple #[.slice a L.length c,.int .i64 e1])∧Hid (m.wsW extra=(L,e1))∧Sl (fun k=>k<w.heap.size) w' a c L∧Below w.heap.size w w':=by
 refine (callsIn_wide (n:=6)).1 ?_
 have hB0:=(Below.refl w.heap.size w).alloc (Nat.le_refl _) (maO m an cn ao co)
 have hx0:C4 (w.alloc (maO m an cn ao co)) w.heap.size an cn ao co m:=c4_new w
 have hz0:w.heap.size<(w.alloc (maO m an cn ao co)).heap.size:=by simp
 have HM:=Lib.hid hm
 have HV:=Lib.hid (valid_any (hm.below hB0))
 have l1:=hm.next.le
 have l2:=hm.out.le
 clear hm
 refine callsIn_of_wp_marks Tryz.func34 rfl trivial ?_ rfl
 simp only [Tryz.ntmps34,List.size_toArray,List.length_cons,List.length_nil,Nat.reduceAdd,Nat.reduceSub,Array.replicate_succ,Array.replicate_zero,List.push_toArray,List.append_toArray,List.nil_append,List.cons_append]
 obtain ⟨d0,d1,d2,d3⟩:=hx0
 gi_wp2_with fail
 generalize w.alloc (maO m an cn ao co)=w0 at*
 refine ⟨trivial,(callsIn_wide.2 HV.out).mono ?_⟩
 rintro e w1 ⟨rfl,hb1⟩
 have hx1:C4 w1 w.heap.size an cn ao co m:=C4.below ⟨d0,d1,d2,d3⟩ hb1 hz0
 have hB1:=hB0.trans (hb1.mono (by omega))
 have hz1:w.heap.size<w1.heap.size:=by have:=hb1.size;omega
 clear d0 d1 d2 d3 hB0 hz0 hb1 HV
 by_cases he:m.err=0
 ·have he':(m.err !=0)=false:=by simp [he]
  have HE:=Lib.hid he
  have ok:Hid m.Ok:=Mach.ok_of_err m HE.out
  clear he
  by_cases hex:extra<0∨3<extra
  ·have hR:Hid (m.wsW extra=([],2)):=by unfold Hid Mach.wsW;rw [if_neg (by simp [HE.out]),if_pos hex]
   by_cases h1:extra<0
   ·clear hex
    gi_wp2
    exact ⟨.tuple #[.slice none 0 0,.int .i64 2],by simp [results,Tryz.results34,go_sem],none,0,[],2,rfl,hR,Sl.nil _ _ _ (by unfold maxLen;omega),hB1⟩
   have h2:3<extra:=hex.elim (fun e=>absurd e h1) id
   clear hex
   gi_wp2
   exact ⟨.tuple #[.slice none 0 0,.int .i64 2],by simp [results,Tryz.results34,go_sem],none,0,[],2,rfl,hR,Sl.nil _ _ _ (by unfold maxLen;omega),hB1⟩
  have h1:decide (extra<0)=false:=decide_eq_false (fun e=>hex (.inl e))
  have h2:decide (3<extra)=false:=decide_eq_false (fun e=>hex (.inr e))
  have HX:=Lib.hid hex
  have hwr:IntKind.i64.wrap (extra+1)=extra+1:=IntWalk.i64_in _ (by omega)
  have ht0:=min_any (HM.out.below hB1)
  rw [HE.out] at ht0
  have HMi:=Lib.hid ht0
  obtain ⟨d0,d1,d2,d3⟩:=hx1
  clear hex ht0
  gi_wp2_with fail
  refine ⟨trivial,(callsIn_wide.2 HMi.out).mono ?_⟩
  rintro e w3 ⟨an',cn',ao',co',t,rfl,ht,hTm,hb3⟩
  have htm:Hid (t=m.minF):=by unfold Hid;rw [ht.out,Mach.minOf_eq HE.out]
  have okt:Hid t.Ok:=by rw [htm.out];exact Mach.minF_ok ok.out
  have hme:Hid (t.minErr=0):=by unfold Hid;rw [htm.out];exact (Mach.minF_min ok.out).1
  have htn:Hid (t.next.length<1000):=by have:=okt.out.n1;unfold Hid;omega
  have hti:Hid (t.inputs=m.inputs):=by unfold Hid;rw [htm.out];rfl
  have HTm:=Lib.hid (hTm.ext (M':=fun k=>k<w.heap.size) (Ext.sub_only (fun k _ e=>by omega)))
  have hB3:=hB1.trans (hb3.mono (by omega))
  have hz3:w.heap.size<w3.heap.size:=by have:=hb3.size;omega
  have lt1:=hTm.next.le
  have lt2:=hTm.out.le
  clear d0 d1 d2 d3 hB1 hz1 HMi hTm hb3
  have hba:=(Below.refl w3.heap.size w3).alloc (Nat.le_refl _) (maO t an' cn' ao' co')
  have hc4:C4 (w3.alloc (maO t an' cn' ao' co')) w3.heap.size an' cn' ao' co' t:=c4_new w3
  have hB4:=hB3.trans (hba.mono (by omega))
  have HT4:=Lib.hid (HTm.out.below hba)
  have hz4:w3.heap.size<(w3.alloc (maO t an' cn' ao' co')).heap.size:=by simp
  have HCv:=Lib.hid (cover_any HT4.out (Mach.minErr_ok hme.out).1)
  clear hba hB3 HTm
  obtain ⟨d0,d1,d2,d3⟩:=hc4
  gi_wp2_with fail
  generalize w3.alloc (maO t an' cn' ao' co')=w4 at*
  refine ⟨trivial,(callsIn_wide.2 HCv.out).mono ?_⟩
  rintro e w5 ⟨aA,cA,A,rfl,hA,hAs,hb5⟩
  have hc5:C4 w5 w3.heap.size an' cn' ao' co' t:=C4.below ⟨d0,d1,d2,d3⟩ hb5 (by omega)
  have hB5:=hB4.trans (hb5.mono (by omega))
  have HT5:=Lib.hid (HT4.out.below hb5)
  have HA5:=Lib.hid (hAs.anti (M':=fun k=>k<w.heap.size) (fun k _ e=>by omega))
  have hz5:w3.heap.size<w5.heap.size:=by have:=hb5.size;omega
  have lA:=hAs.le
  have hAl:Hid (A.length≤1000∧∀p∈A,t.okS p∧p.length≤1000):=by
   have hn1:=okt.out.n1
   unfold Hid;rw [hA.out]
   refine ⟨?_,fun p hp=> ?_⟩
   ·rw [List.length_map]
    have h1:=t.cov_len t.next.length
    have h2:=Mach.bfs_le okt.out t.next.length
    unfold Mach.covW
    omega
   obtain ⟨q,hq,rfl⟩:=List.mem_map.1 hp
   have h1:=Mach.cov_all okt.out t.next.length q hq
   exact ⟨h1.2.2.1,by have:=h1.2.2.2.1;omega⟩
  clear d0 d1 d2 d3 hB4 hz4 HCv HT4 hAs hb5
  have HUp:=Lib.hid (upto_any (w:=w5) t.inputs (extra+1))
  obtain ⟨d0,d1,d2,d3⟩:=hc5
  gi_wp2_with fail
  refine ⟨trivial,(callsIn_wide.2 HUp.out).mono ?_⟩
  rintro e w6 ⟨aX,cX,X,e6,rfl,hX,hXs,hb6⟩
  have hc6:C4 w6 w3.heap.size an' cn' ao' co' t:=C4.below ⟨d0,d1,d2,d3⟩ hb6 (by omega)
  have hB6:=hB5.trans (hb6.mono (by omega))
  have HT6:=Lib.hid (HT5.out.below hb6)
  have HA6:=Lib.hid (HA5.out.below hb6)
  have HX6:=Lib.hid (hXs.anti (M':=fun k=>k<w.heap.size) (fun k _ e=>by omega))
  have hz6:w3.heap.size<w6.heap.size:=by have:=hb6.size;omega
  have lX:=hXs.le
  have hXe:Hid (uptW m.inputs (extra+1)=(X,e6)):=by unfold Hid;rw [←hti.out];exact hX.out
  have hXl:Hid (X.length≤10001∧∀x∈X,InW m.inputs (extra+1).toNat x):=by
   have h:=uptW_in m.inputs (extra+1)
   rw [hXe.out] at h
   exact ⟨h.2,h.1⟩
  clear d0 d1 d2 d3 hB5 hz5 HUp HT5 HA5 hXs hb6
  by_cases he6:e6=0
  ·have he6b:(e6 !=0)=false:=by simp [he6]
   have HE6:=Lib.hid he6
   clear he6
   have HCh:=Lib.hid (charset_any HT6.out hme htn)
   obtain ⟨d0,d1,d2,d3⟩:=hc6
   gi_wp2_with fail
   refine ⟨trivial,(callsIn_wide.2 HCh.out).mono ?_⟩
   rintro e w7 ⟨aC,cC,C,rfl,hC,hCs,hb7⟩
   have hB7:=hB6.trans (hb7.mono (by omega))
   have HA7:=Lib.hid (HA6.out.below hb7)
   have HX7:=Lib.hid (HX6.out.below hb7)
   have HC7:=Lib.hid (hCs.anti (M':=fun k=>k<w.heap.size) (fun k _ e=>by omega))
   have hz7:w.heap.size<w7.heap.size:=by have:=hb7.size;omega
   have lC:=hCs.le
   clear d0 d1 d2 d3 hB6 hz6 HCh HT6 HA6 HX6 hCs hb7
   have hCm:Hid (C.length<1000000∧∀v∈C,v.length≤1000000):=by
    unfold Hid;rw [hC.out]
    refine ⟨?_,fun v hv=> ?_⟩
    ·have h1:=Mach.chW_len (m:=t)
     have h2:t.next.length*t.next.length≤999*999:=Nat.mul_le_mul (by have:=htn.out;omega) (by have:=htn.out;omega)
     omega
    obtain ⟨x,y,rfl⟩:=Mach.chW_mem hv
    exact Mach.sepW_len htn.out x y
   have hA1:=hAl.out.1
   have hX1:=hXl.out.1
   have hC1:=hCm.out.1
   have hAX:A.length*X.length≤1000*10001:=Nat.mul_le_mul hA1 hX1
   obtain ⟨P,hP⟩:∃P,P=A.length*X.length:=⟨_,rfl⟩
   rw [←hP] at hAX
   have hw1:IntKind.i64.wrap ((A.length:Int)*(X.length:Int))=(P:Int):=by
    rw [←Int.natCast_mul,←hP];exact IntWalk.i64_in _ (by omega)
   have HP:=Lib.hid hP
   clear hP
   by_cases hC0:C.length=0
   ·have hcb:(((C.length:Nat):Int)==0)=true:=by rw [hC0];rfl
    have hw0:IntKind.i64.wrap (P:Int)=(P:Int):=IntWalk.i64_in _ (by omega)
    obtain ⟨D0,hD0⟩:∃D0:List (List Int),D0=[[]]:=⟨_,rfl⟩
    have hnn:Hid (Mach.noNil t.chW=D0):=by unfold Hid Mach.noNil;rw [←hC.out,if_pos (List.length_eq_zero_iff.1 hC0),hD0]
    have hDl:Hid (D0.length=1):=by unfold Hid;rw [hD0];rfl
    have hDm:Hid (D0.length<1000000∧∀v∈D0,v.length≤1000000):=by unfold Hid;rw [hD0];simp
    have HN:Hid (P=A.length*X.length*D0.length):=by unfold Hid;rw [HP.out,hDl.out,Nat.mul_one]
    have hbW:Below w7.heap.size w7 (w7.alloc (.cells #[.slice none 0 0] 49)):=(Below.refl _ _).alloc (by simp) _
    have HA8:=Lib.hid (HA7.out.below hbW)
    have HX8:=Lib.hid (HX7.out.below hbW)
    have HC8:Hid (Sl (fun k=>k<w.heap.size) (w7.alloc (.cells #[.slice none 0 0] 49)) (some ⟨w7.heap.size,0,none⟩) 1 D0):=⟨by rw [hD0];exact Nat.le_refl _,by unfold maxLen;omega,fun j x h=>by
     rw [hD0] at h
     rcases j with _|j
     ·simp at h;subst h
      exact ⟨w7.heap.size,0,[.slice none 0 0],rfl,by simp,by omega,⟨none,0,rfl,Sl.nil _ _ _ (by unfold maxLen;omega)⟩,fun i u hi=>by
       rcases i with _|i
       ·cases hi;exact (Boxed.new w7 _ _).cell
       simp at hi⟩
     simp at h⟩
    clear hbW hD0
    have hsu:Hid (m.wsW extra=if 10000<P then ([],11) else (maxW (Mach.prodW A X D0),0)):=by
     unfold Hid Mach.wsW
     rw [if_neg (by simp [HE.out]),if_neg HX.out,hXe.out,if_neg (by simp [HE6.out]),←ht.out,←hA.out,hnn.out,←HN.out]
    by_cases hbig:10000<P
    ·have hbd:decide (10000<(P:Int))=true:=decide_eq_true (by omega)
     have hR:Hid (m.wsW extra=([],11)):=by unfold Hid;rw [hsu.out,if_pos hbig]
     clear hbig
     gi_wp2
     exact ⟨.tuple #[.slice none 0 0,.int .i64 11],by simp [results,Tryz.results34,go_sem],none,0,[],_,rfl,hR,Sl.nil _ _ _ (by unfold maxLen;omega),(hB7.alloc (by omega) _)⟩
    have hbd:decide (10000<(P:Int))=false:=decide_eq_false (by omega)
    have hR:Hid (m.wsW extra=(maxW (Mach.prodW A X D0),0)):=by unfold Hid;rw [hsu.out,if_neg hbig]
    have hNs:P≤10000:=by omega
    clear hbig
    gi_wp2_with fail
    refine ⟨trivial,(callsIn_wide.2 prods_any).mono ?_⟩
    rintro e w9 ⟨rfl,hw9⟩
    have z8:((w7.alloc (.cells #[.slice none 0 0] 49)).alloc (.cells #[.slice none 0 0] 22)).heap.size=(w7.heap.size+1)+1:=by simp
    have bAll:=(((Boxed.new (w7.alloc (.cells #[.slice none 0 0] 49)) 22 (.slice none 0 0)).alloc (.cells #[.slice aA A.length cA] 22)).alloc (.cells #[.slice aX X.length cX] 22)).alloc (.cells #[.slice (some ⟨w7.heap.size,0,none⟩) 1 1] 22)
    have bA:=((Boxed.new ((w7.alloc (.cells #[.slice none 0 0] 49)).alloc (.cells #[.slice none 0 0] 22)) 22 (.slice aA A.length cA)).alloc (.cells #[.slice aX X.length cX] 22)).alloc (.cells #[.slice (some ⟨w7.heap.size,0,none⟩) 1 1] 22)
    have bX:=(Boxed.new (((w7.alloc (.cells #[.slice none 0 0] 49)).alloc (.cells #[.slice none 0 0] 22)).alloc (.cells #[.slice aA A.length cA] 22)) 22 (.slice aX X.length cX)).alloc (.cells #[.slice (some ⟨w7.heap.size,0,none⟩) 1 1] 22)
    have bC:=Boxed.new ((((w7.alloc (.cells #[.slice none 0 0] 49)).alloc (.cells #[.slice none 0 0] 22)).alloc (.cells #[.slice aA A.length cA] 22)).alloc (.cells #[.slice aX X.length cX] 22)) 22 (.slice (some ⟨w7.heap.size,0,none⟩) 1 1)
    have hb9:Below (w7.heap.size+1) (w7.alloc (.cells #[.slice none 0 0] 49)) (((((w7.alloc (.cells #[.slice none 0 0] 49)).alloc (.cells #[.slice none 0 0] 22)).alloc (.cells #[.slice aA A.length cA] 22)).alloc (.cells #[.slice aX X.length cX] 22)).alloc (.cells #[.slice (some ⟨w7.heap.size,0,none⟩) 1 1] 22)):=((((Below.refl _ _).alloc (by simp) _).alloc (by simp) _).alloc (by simp) _).alloc (by simp) _
    have z9:(((((w7.alloc (.cells #[.slice none 0 0] 49)).alloc (.cells #[.slice none 0 0] 22)).alloc (.cells #[.slice aA A.length cA] 22)).alloc (.cells #[.slice aX X.length cX] 22)).alloc (.cells #[.slice (some ⟨w7.heap.size,0,none⟩) 1 1] 22)).heap.size=(w7.heap.size+1)+4:=by simp
    simp only [World.size_alloc] at bAll bA bX bC
    rw [←hw9] at bAll bA bX bC hb9 z9
    clear hw9
    have Z9:=Lib.hid z9
    have hz9:(w7.heap.size+1)+4≤w9.heap.size:=by omega
    have hz9b:w9.heap.size≤(w7.heap.size+1)+4:=by omega
    clear z9 z8
    have hB9:=(hB7.alloc (by omega) _).trans (hb9.mono (by omega))
    have hA9:=(HA8.out.anti (M':=fun k=>k=(w7.heap.size+1)) fun k hk e=>absurd e (by rw [World.size_alloc] at hk;omega)).below (hb9.mono (by simp))
    have hX9:=(HX8.out.anti (M':=fun k=>k=(w7.heap.size+1)) fun k hk e=>absurd e (by rw [World.size_alloc] at hk;omega)).below (hb9.mono (by simp))
    have hC9:=(HC8.out.anti (M':=fun k=>k=(w7.heap.size+1)) fun k hk e=>absurd e (by rw [World.size_alloc] at hk;omega)).below (hb9.mono (by simp))
    have HA9:=Lib.hid hA9
    have HX9:=Lib.hid hX9
    have HC9:=Lib.hid hC9
    have HbA:=Lib.hid bA
    have HbX:=Lib.hid bX
    have HbC:=Lib.hid bC
    have sA:Hid (Sm7 A):=⟨by omega,fun r hr=>by have:=(hAl.out.2 r hr).2;omega⟩
    have sX:Hid (Sm7 X):=⟨by omega,fun r hr=>by have:=(hXl.out.2 r hr).2;have:=HX.out;omega⟩
    have sC:Hid (Sm7 D0):=hDm
    have htot:Hid ((A.flatMap (pMid X D0)).length≤10000):=by
     have h1:(A.flatMap (pMid X D0)).length=A.length*(X.length*D0.length):=by
      have hp:∀p,(pMid X D0 p).length=X.length*D0.length:=fun p=>by
       unfold pMid
       rw [List.length_flatMap]
       rw [show (X.map fun x=>(pIn D0 p x).length)=X.map fun _=>D0.length from List.map_congr_left fun x _=>by unfold pIn;simp]
       exact sum_const' _ _
      rw [List.length_flatMap,show (A.map fun p=>(pMid X D0 p).length)=A.map fun _=>X.length*D0.length from List.map_congr_left fun p _=>hp p]
      exact sum_const' _ _
     have h2:=HN.out
     unfold Hid
     rw [h1,←Nat.mul_assoc,←h2]
     omega
    have hsm:Hid (Small9 (A.flatMap (pMid X D0))):=by
     refine ⟨by have:=htot.out;omega,fun r hr=> ?_⟩
     obtain ⟨p,hp,hr⟩:=List.mem_flatMap.1 hr
     unfold pMid at hr
     obtain ⟨x,hx,hr⟩:=List.mem_flatMap.1 hr
     unfold pIn at hr
     obtain ⟨v,hv,rfl⟩:=List.mem_map.1 hr
     have h1:=(hAl.out.2 p hp).2
     have h2:=sX.out.2 x hx
     have h3:=hDm.out.2 v hv
     simp only [List.length_append]
     omega
    clear hA9 hX9 hC9 bA bX bC hb9 HA8 HX8 HC8
    gi_wp2_with fail
    refine wpIn_range_Q ((w7.heap.size+1)) 13 rfl (by omega) (gf:=129) (lb:= #[.pointer (some ⟨(w7.heap.size+1)+1,0,none⟩),.pointer (some ⟨(w7.heap.size+1)+1+1,0,none⟩),.pointer (some ⟨(w7.heap.size+1)+1+1+1,0,none⟩)]) rfl trivial (enters_of Tryz.func129 (by kernel_rfl) rfl)
     (fun K W=>∃a c,Boxed W (w7.heap.size+1) 22 (.slice a K.length c)∧Ox w9.heap.size w9.heap.size W 49 (.slice a K.length c) K∧Below w.heap.size w W)
     ?own (xs:=A.flatMap (pMid X D0)) ?seq ?start ?assign ?body ?done
    case own=>
     rintro s W W' row ⟨a,c,h1,h2,h3⟩ hg hr
     exact ⟨a,c,boxed_own (β:=Unit) (w7.heap.size+1) 22 (fun _=> .slice a s.length c) () W W' row h1 hg (fun r e=>(hr r e).2),Ow.turn h2 hg (fun r e=>(hr r e).2),ownFrom_below (β:=Unit) (n₀:=w.heap.size) (B:=w9.heap.size) (w₀:=w) (Nat.le_refl _) (by omega) () W W' row h3 hg hr⟩
    case seq=>
     intro l J' W hW hJ' hY h0'
     exact prods1_in (n:=5) (by omega) l (w7.heap.size+1) ((w7.heap.size+1)+1) ((w7.heap.size+1)+1+1) ((w7.heap.size+1)+1+1+1) J' w9 W (Kep.of_below hW (Nat.le_refl _)) hJ' hY HbA.out.cell HbX.out.cell (by rw [hDl.out];exact HbC.out.cell) (by omega) (by omega) (by omega) HA9.out HX9.out HC9.out rfl rfl rfl sA sX sC h0'
    case start=>exact ⟨none,0,bAll,Ox.nil,hB9⟩
    case assign=>
     intro l v W K hK
     gi_wp2
     exact hK
    case body=>
     rintro l K x ax cx W0 W1 hl ⟨a,c,b0,hO,hB⟩ hgo hz01 hzw hs hpx
     have b1:=hgo (fun _ W=>Boxed W (w7.heap.size+1) 22 (.slice a K.length c)) ((boxed_own _ _ _).from _) b0
     have hO1:Ox w9.heap.size w9.heap.size W1 49 (.slice a K.length c) K:=hgo (fun _ W=>Ox w9.heap.size w9.heap.size W 49 (.slice a K.length c) K) (fun s A B row h hg hr=>Ow.turn h hg fun r e=>(hr r e).2) hO
     have hB1:=hgo (fun _ W=>Below w.heap.size w W) (ownFrom_below (Nat.le_refl _) (by omega)) hB
     have hs1:Sl (fun k=>(Value.slice a K.length c).ownBlock=some k∨k<w9.heap.size) W1 ax cx x:=hs.anti fun k _ hm=>by
      rcases hm with hm|hm
      ·exact (hO.lt k hm).2
      show k<_;omega
     have hKl:K.length<10000:=by have:=hpx.length_le;have:=htot.out;rw [List.length_append,List.length_singleton] at*;omega
     have c1:=b1.cell
     have f1:=b1.frozen
     have hz1:w9.heap.size≤W1.heap.size:=by omega
     have hxle:=hs1.le
     simp only [List.setIfInBounds_toArray,List.set_cons_zero,List.set_cons_succ]
     gi_wp2_with (gi_at_builtin;refine wpListIn_push_x (n0:=w9.heap.size) (B:=w9.heap.size) (r:=x) (ar:=ax) (cr:=cx) rfl rfl Tryz.underlying22 info_ints rfl rfl (hO1.alloc _) (by simp [go_sem]) (hs1.alloc _) (by omega) (by simp;omega) ?_;intro a5 c5 l5 w5 hl5 hO5 hbk hgr;have b5:=(b1.alloc (.cells #[.slice ax x.length cx] 49)).kept hgr (fun e=>by have:=(hO1.lt _ e.symm).1;omega);have c5':=b5.cell;have f5:=b5.frozen)
     have hko:=((KeepsOthers.alloc W1 (.cells #[.slice ax x.length cx] 49)).trans (KeepsOthers.of_grownBy hgr (fun j o e ho=>by
      obtain ⟨cur,hc⟩:=Ow.cells (hO1.alloc (.cells #[.slice ax x.length cx] 49)) e
      rw [hc] at ho;cases ho;rfl))).trans (KeepsOthers.setCell w5 ⟨(w7.heap.size+1),0,none⟩ (.slice a5 l5.length c5))
     refine ⟨hko.from _,⟨hko.1,fun k hk hb=> ?_⟩,?_⟩
     ·rw [Below.heap_setCell _ _ _ _ (fun e=>hb e),hgr.block k (by simp;omega) (fun e=>by have:=(hO1.lt k e.symm).1;omega),Below.heap_alloc _ _ _ (by omega)]
     rw [←hl5.out]
     exact ⟨a5,c5,b5.set _,Ow.setOther hO5 (p:=⟨(w7.heap.size+1),0,none⟩) (Or.inr (show (w7.heap.size+1)<w9.heap.size by omega)) (fun k hk=>by have:=(hO5.lt k hk).1;show k≠(w7.heap.size+1);omega) _,
      ((hB1.alloc (by omega) _).grown hgr (by simp;omega) (fun k hk=>by have:=(hO1.lt k hk).1;omega)).setCell (p:=⟨(w7.heap.size+1),0,none⟩) (by show w.heap.size≤(w7.heap.size+1);omega) _⟩
    case done=>
     rintro D W hD ⟨a,c,bW,hO,hB⟩ hK
     obtain ⟨F,hF⟩:∃F,F=A.flatMap (pMid X D0):=⟨_,rfl⟩
     rw [←hF] at bW hO hsm
     have HF:=Lib.hid hF
     clear hF
     have cW:=bW.cell
     have hsl:=hO.toSl (Nat.le_refl _)
     have hll:=hsl.le
     have hzW:w9.heap.size≤W.heap.size:=by have:=(Array.getElem?_eq_some_iff.1 hK).1;omega
     have HMx:=Lib.hid (max_any hsl hsm)
     clear hsl hO
     gi_wp2_with fail
     refine ⟨trivial,(callsIn_wide.2 HMx.out).mono ?_⟩
     rintro e w11 ⟨a11,c11,L11,rfl,hL11,hS11,hb11⟩
     have hDl:=(Array.getElem?_eq_some_iff.1 hK).1
     have hK2:w11.heap[D]? =some (.deferred (some [])):=(hb11.block _ hDl).trans hK
     gi_wp2
     refine ⟨by simp,.inl ⟨_,_,rfl,run_takeDeferred hK2,?_⟩⟩
     refine ⟨.tuple #[.slice a11 L11.length c11,.int .i64 0],by simp [results,Tryz.results34,go_sem],a11,c11,L11,0,rfl,?_,?_,?_⟩
     ·unfold Hid;rw [hR.out,hL11.out,HF.out];rfl
     ·exact (hS11.ext (M':=fun k=>k<W.heap.size) ⟨by simp,fun k hk hm=>World.putObj_heap_other (fun e=>hm (by rw [e];exact hDl)),fun _ _ h=>h⟩).anti fun k _ hm=>by have:=hB.size;show k<_;omega
     exact (hB.trans (hb11.mono hB.size)).trans (belowK_b (w:=w) (Nat.le_refl _) w11 D _ _ (by omega) hK2 rfl rfl)
   have hcb:(((C.length:Nat):Int)==0)=false:=by rw [beq_eq_false_iff_ne];omega
   obtain ⟨N,hN⟩:∃N,N=P*C.length:=⟨_,rfl⟩
   have hNb:N≤10001000*1000000:=by rw [hN];exact Nat.mul_le_mul (by omega) (by omega)
   have hw2:IntKind.i64.wrap ((P:Int)*(C.length:Int))=(N:Int):=by
    rw [←Int.natCast_mul,←hN];exact IntWalk.i64_in _ (by omega)
   have HN:Hid (N=A.length*X.length*C.length):=by unfold Hid;rw [hN,HP.out]
   clear hN
   have hnn:Hid (Mach.noNil t.chW=C):=by unfold Hid Mach.noNil;rw [←hC.out,if_neg (fun e=>hC0 (by rw [e];rfl))]
   have hsu:Hid (m.wsW extra=if 10000<N then ([],11) else (maxW (Mach.prodW A X C),0)):=by
    unfold Hid Mach.wsW
    rw [if_neg (by simp [HE.out]),if_neg HX.out,hXe.out,if_neg (by simp [HE6.out]),←ht.out,←hA.out,hnn.out,←HN.out]
   by_cases hbig:10000<N
   ·have hbd:decide (10000<(N:Int))=true:=decide_eq_true (by omega)
    have hR:Hid (m.wsW extra=([],11)):=by unfold Hid;rw [hsu.out,if_pos hbig]
    clear hbig
    gi_wp2
    exact ⟨.tuple #[.slice none 0 0,.int .i64 11],by simp [results,Tryz.results34,go_sem],none,0,[],_,rfl,hR,Sl.nil _ _ _ (by unfold maxLen;omega),hB7⟩
   have hbd:decide (10000<(N:Int))=false:=decide_eq_false (by omega)
   have hR:Hid (m.wsW extra=(maxW (Mach.prodW A X C),0)):=by unfold Hid;rw [hsu.out,if_neg hbig]
   have hNs:N≤10000:=by omega
   clear hbig
   gi_wp2_with fail
   refine ⟨trivial,(callsIn_wide.2 prods_any).mono ?_⟩
   rintro e w9 ⟨rfl,hw9⟩
   have z8:(w7.alloc (.cells #[.slice none 0 0] 22)).heap.size=w7.heap.size+1:=by simp
   have bAll:=(((Boxed.new w7 22 (.slice none 0 0)).alloc (.cells #[.slice aA A.length cA] 22)).alloc (.cells #[.slice aX X.length cX] 22)).alloc (.cells #[.slice aC C.length cC] 22)
   have bA:=((Boxed.new (w7.alloc (.cells #[.slice none 0 0] 22)) 22 (.slice aA A.length cA)).alloc (.cells #[.slice aX X.length cX] 22)).alloc (.cells #[.slice aC C.length cC] 22)
   have bX:=(Boxed.new ((w7.alloc (.cells #[.slice none 0 0] 22)).alloc (.cells #[.slice aA A.length cA] 22)) 22 (.slice aX X.length cX)).alloc (.cells #[.slice aC C.length cC] 22)
   have bC:=Boxed.new (((w7.alloc (.cells #[.slice none 0 0] 22)).alloc (.cells #[.slice aA A.length cA] 22)).alloc (.cells #[.slice aX X.length cX] 22)) 22 (.slice aC C.length cC)
   have hb9:Below w7.heap.size w7 ((((w7.alloc (.cells #[.slice none 0 0] 22)).alloc (.cells #[.slice aA A.length cA] 22)).alloc (.cells #[.slice aX X.length cX] 22)).alloc (.cells #[.slice aC C.length cC] 22)):=((((Below.refl _ _).alloc (Nat.le_refl _) _).alloc (by simp) _).alloc (by simp;omega) _).alloc (by simp;omega) _
   have z9:((((w7.alloc (.cells #[.slice none 0 0] 22)).alloc (.cells #[.slice aA A.length cA] 22)).alloc (.cells #[.slice aX X.length cX] 22)).alloc (.cells #[.slice aC C.length cC] 22)).heap.size=w7.heap.size+4:=by simp
   simp only [World.size_alloc] at bA bX bC
   rw [←hw9] at bAll bA bX bC hb9 z9
   clear hw9
   have Z9:=Lib.hid z9
   have hz9:w7.heap.size+4≤w9.heap.size:=by omega
   have hz9b:w9.heap.size≤w7.heap.size+4:=by omega
   clear z9 z8
   have hB9:=hB7.trans (hb9.mono (by omega))
   have hA9:=(HA7.out.anti (M':=fun k=>k=w7.heap.size) fun k hk e=>absurd e (by omega)).below hb9
   have hX9:=(HX7.out.anti (M':=fun k=>k=w7.heap.size) fun k hk e=>absurd e (by omega)).below hb9
   have hC9:=(HC7.out.anti (M':=fun k=>k=w7.heap.size) fun k hk e=>absurd e (by omega)).below hb9
   have HA9:=Lib.hid hA9
   have HX9:=Lib.hid hX9
   have HC9:=Lib.hid hC9
   have HbA:=Lib.hid bA
   have HbX:=Lib.hid bX
   have HbC:=Lib.hid bC
   have sA:Hid (Sm7 A):=⟨by omega,fun r hr=>by have:=(hAl.out.2 r hr).2;omega⟩
   have sX:Hid (Sm7 X):=⟨by omega,fun r hr=>by have:=(hXl.out.2 r hr).2;have:=HX.out;omega⟩
   have sC:Hid (Sm7 C):=hCm
   have htot:Hid ((A.flatMap (pMid X C)).length≤10000):=by
    have h1:(A.flatMap (pMid X C)).length=A.length*(X.length*C.length):=by
     have hp:∀p,(pMid X C p).length=X.length*C.length:=fun p=>by
      unfold pMid
      rw [List.length_flatMap]
      rw [show (X.map fun x=>(pIn C p x).length)=X.map fun _=>C.length from List.map_congr_left fun x _=>by unfold pIn;simp]
      exact sum_const' _ _
     rw [List.length_flatMap,show (A.map fun p=>(pMid X C p).length)=A.map fun _=>X.length*C.length from List.map_congr_left fun p _=>hp p]
     exact sum_const' _ _
    have h2:=HN.out
    unfold Hid
    rw [h1,←Nat.mul_assoc,←h2]
    omega
   have hsm:Hid (Small9 (A.flatMap (pMid X C))):=by
    refine ⟨by have:=htot.out;omega,fun r hr=> ?_⟩
    obtain ⟨p,hp,hr⟩:=List.mem_flatMap.1 hr
    unfold pMid at hr
    obtain ⟨x,hx,hr⟩:=List.mem_flatMap.1 hr
    unfold pIn at hr
    obtain ⟨v,hv,rfl⟩:=List.mem_map.1 hr
    have h1:=(hAl.out.2 p hp).2
    have h2:=sX.out.2 x hx
    have h3:=hCm.out.2 v hv
    simp only [List.length_append]
    omega
   clear hA9 hX9 hC9 bA bX bC hb9 HA7 HX7 HC7
   gi_wp2_with fail
   refine wpIn_range_Q (w7.heap.size) 13 rfl (by omega) (gf:=129) (lb:= #[.pointer (some ⟨w7.heap.size+1,0,none⟩),.pointer (some ⟨w7.heap.size+1+1,0,none⟩),.pointer (some ⟨w7.heap.size+1+1+1,0,none⟩)]) rfl trivial (enters_of Tryz.func129 (by kernel_rfl) rfl)
    (fun K W=>∃a c,Boxed W w7.heap.size 22 (.slice a K.length c)∧Ox w9.heap.size w9.heap.size W 49 (.slice a K.length c) K∧Below w.heap.size w W)
    ?own (xs:=A.flatMap (pMid X C)) ?seq ?start ?assign ?body ?done
   case own=>
    rintro s W W' row ⟨a,c,h1,h2,h3⟩ hg hr
    exact ⟨a,c,boxed_own (β:=Unit) w7.heap.size 22 (fun _=> .slice a s.length c) () W W' row h1 hg (fun r e=>(hr r e).2),Ow.turn h2 hg (fun r e=>(hr r e).2),ownFrom_below (β:=Unit) (n₀:=w.heap.size) (B:=w9.heap.size) (w₀:=w) (Nat.le_refl _) (by omega) () W W' row h3 hg hr⟩
   case seq=>
    intro l J' W hW hJ' hY h0'
    exact prods1_in (n:=5) (by omega) l w7.heap.size (w7.heap.size+1) (w7.heap.size+1+1) (w7.heap.size+1+1+1) J' w9 W (Kep.of_below hW (Nat.le_refl _)) hJ' hY HbA.out.cell HbX.out.cell HbC.out.cell (by omega) (by omega) (by omega) HA9.out HX9.out HC9.out rfl rfl rfl sA sX sC h0'
   case start=>exact ⟨none,0,bAll,Ox.nil,hB9⟩
   case assign=>
    intro l v W K hK
    gi_wp2
    exact hK
   case body=>
    rintro l K x ax cx W0 W1 hl ⟨a,c,b0,hO,hB⟩ hgo hz01 hzw hs hpx
    have b1:=hgo (fun _ W=>Boxed W w7.heap.size 22 (.slice a K.length c)) ((boxed_own _ _ _).from _) b0
    have hO1:Ox w9.heap.size w9.heap.size W1 49 (.slice a K.length c) K:=hgo (fun _ W=>Ox w9.heap.size w9.heap.size W 49 (.slice a K.length c) K) (fun s A B row h hg hr=>Ow.turn h hg fun r e=>(hr r e).2) hO
    have hB1:=hgo (fun _ W=>Below w.heap.size w W) (ownFrom_below (Nat.le_refl _) (by omega)) hB
    have hs1:Sl (fun k=>(Value.slice a K.length c).ownBlock=some k∨k<w9.heap.size) W1 ax cx x:=hs.anti fun k _ hm=>by
     rcases hm with hm|hm
     ·exact (hO.lt k hm).2
     show k<_;omega
    have hKl:K.length<10000:=by have:=hpx.length_le;have:=htot.out;rw [List.length_append,List.length_singleton] at*;omega
    have c1:=b1.cell
    have f1:=b1.frozen
    have hz1:w9.heap.size≤W1.heap.size:=by omega
    have hxle:=hs1.le
    simp only [List.setIfInBounds_toArray,List.set_cons_zero,List.set_cons_succ]
    gi_wp2_with (gi_at_builtin;refine wpListIn_push_x (n0:=w9.heap.size) (B:=w9.heap.size) (r:=x) (ar:=ax) (cr:=cx) rfl rfl Tryz.underlying22 info_ints rfl rfl (hO1.alloc _) (by simp [go_sem]) (hs1.alloc _) (by omega) (by simp;omega) ?_;intro a5 c5 l5 w5 hl5 hO5 hbk hgr;have b5:=(b1.alloc (.cells #[.slice ax x.length cx] 49)).kept hgr (fun e=>by have:=(hO1.lt _ e.symm).1;omega);have c5':=b5.cell;have f5:=b5.frozen)
    have hko:=((KeepsOthers.alloc W1 (.cells #[.slice ax x.length cx] 49)).trans (KeepsOthers.of_grownBy hgr (fun j o e ho=>by
     obtain ⟨cur,hc⟩:=Ow.cells (hO1.alloc (.cells #[.slice ax x.length cx] 49)) e
     rw [hc] at ho;cases ho;rfl))).trans (KeepsOthers.setCell w5 ⟨w7.heap.size,0,none⟩ (.slice a5 l5.length c5))
    refine ⟨hko.from _,⟨hko.1,fun k hk hb=> ?_⟩,?_⟩
    ·rw [Below.heap_setCell _ _ _ _ (fun e=>hb e),hgr.block k (by simp;omega) (fun e=>by have:=(hO1.lt k e.symm).1;omega),Below.heap_alloc _ _ _ (by omega)]
    rw [←hl5.out]
    exact ⟨a5,c5,b5.set _,Ow.setOther hO5 (p:=⟨w7.heap.size,0,none⟩) (Or.inr (show w7.heap.size<w9.heap.size by omega)) (fun k hk=>by have:=(hO5.lt k hk).1;show k≠w7.heap.size;omega) _,
     ((hB1.alloc (by omega) _).grown hgr (by simp;omega) (fun k hk=>by have:=(hO1.lt k hk).1;omega)).setCell (p:=⟨w7.heap.size,0,none⟩) (by show w.heap.size≤w7.heap.size;omega) _⟩
   case done=>
    rintro D W hD ⟨a,c,bW,hO,hB⟩ hK
    obtain ⟨F,hF⟩:∃F,F=A.flatMap (pMid X C):=⟨_,rfl⟩
    rw [←hF] at bW hO hsm
    have HF:=Lib.hid hF
    clear hF
    have cW:=bW.cell
    have hsl:=hO.toSl (Nat.le_refl _)
    have hll:=hsl.le
    have hzW:w9.heap.size≤W.heap.size:=by have:=(Array.getElem?_eq_some_iff.1 hK).1;omega
    have HMx:=Lib.hid (max_any hsl hsm)
    clear hsl hO
    gi_wp2_with fail
    refine ⟨trivial,(callsIn_wide.2 HMx.out).mono ?_⟩
    rintro e w11 ⟨a11,c11,L11,rfl,hL11,hS11,hb11⟩
    have hDl:=(Array.getElem?_eq_some_iff.1 hK).1
    have hK2:w11.heap[D]? =some (.deferred (some [])):=(hb11.block _ hDl).trans hK
    gi_wp2
    refine ⟨by simp,.inl ⟨_,_,rfl,run_takeDeferred hK2,?_⟩⟩
    refine ⟨.tuple #[.slice a11 L11.length c11,.int .i64 0],by simp [results,Tryz.results34,go_sem],a11,c11,L11,0,rfl,?_,?_,?_⟩
    ·unfold Hid;rw [hR.out,hL11.out,HF.out];rfl
    ·exact (hS11.ext (M':=fun k=>k<W.heap.size) ⟨by simp,fun k hk hm=>World.putObj_heap_other (fun e=>hm (by rw [e];exact hDl)),fun _ _ h=>h⟩).anti fun k _ hm=>by have:=hB.size;show k<_;omega
    exact (hB.trans (hb11.mono hB.size)).trans (belowK_b (w:=w) (Nat.le_refl _) w11 D _ _ (by omega) hK2 rfl rfl)
  have he6b:(e6 !=0)=true:=by simp [he6]
  have hR:Hid (m.wsW extra=([],e6)):=by
   unfold Hid Mach.wsW
   rw [if_neg (by simp [HE.out]),if_neg HX.out,hXe.out,if_pos he6]
  clear he6
  gi_wp2
  exact ⟨.tuple #[.slice none 0 0,.int .i64 e6],by simp [results,Tryz.results34,go_sem],none,0,[],_,rfl,hR,Sl.nil _ _ _ (by unfold maxLen;omega),hB6⟩
 have he':(m.err !=0)=true:=by simp [he]
 have hR:Hid (m.wsW extra=([],m.err)):=by unfold Hid Mach.wsW;rw [if_pos he]
 clear he
 gi_wp2
 exact ⟨.tuple #[.slice none 0 0,.int .i64 m.err],by simp [results,Tryz.results34,go_sem],none,0,[],_,rfl,hR,Sl.nil _ _ _ (by unfold maxLen;omega),hB1⟩
end
end Go.Proofs.YtjagagpcjpcjjaaGreat
namespace Go.Proofs.YtjagagpcjpcjjaaGreat
open Go.RowKit
def TwR (m:Mach) (s:Stg) (w:World) (e:Ending) (w':World):Prop:=∃(a:Option Addr) (c:Nat) (L:List (List Int)) (e1:Int),e= .returned (.tuple #[.slice a L.length c,.int .i64 e1])∧Hid (m.twW s=(L,e1))∧Sl (fun k=>k<w.heap.size) w' a c L∧Below w.heap.size w w'
section
variable {M:Nat→Prop} {w:World} {an ao:Option Addr} {cn co:Nat} {m:Mach}
theorem twords1_any (hm:Ma M w an cn ao co m) (s:Stg) (hk:Hid (s.kind=1)):Calls Tryz.prog 12 #[maV m an cn ao co,stV s] w (TwR m s w):=by
 have hB0:=((Below.refl w.heap.size w).alloc (Nat.le_refl _) (maO m an cn ao co)).alloc (by simp) (stO s)
 have g1:(w.alloc (maO m an cn ao co)).heap.size=w.heap.size+1:=by simp
 have hx0:C4 ((w.alloc (maO m an cn ao co)).alloc (stO s)) w.heap.size an cn ao co m:=(c4_new w).below (B:=w.heap.size+1) ((Below.refl _ _).alloc (by rw [g1];exact Nat.le_refl _) _) (by omega)
 have hs0:S5 ((w.alloc (maO m an cn ao co)).alloc (stO s)) (w.heap.size+1) s:=by
  have h:=s5_new (w.alloc (maO m an cn ao co)) s
  rw [g1] at h
  exact h
 have hz0:w.heap.size+2≤((w.alloc (maO m an cn ao co)).alloc (stO s)).heap.size:=by simp
 have l1:=hm.next.le
 have l2:=hm.out.le
 have HM:=Lib.hid (hm.below hB0)
 clear hm g1
 go_enter Tryz.func12,Tryz.ntmps12
 go_upto_region 1 with (fail)
 generalize (w.alloc (maO m an cn ao co)).alloc (stO s)=w0 at*
 have HS:Hid (∀w',Below w0.heap.size w0 w'→C4 w' w.heap.size an cn ao co m∧S5 w' (w.heap.size+1) s∧Ma M w' an cn ao co m∧Below w.heap.size w w'∧w.heap.size+2≤w'.heap.size):=fun w' h=>
  ⟨hx0.below h (by omega),hs0.below h (by omega),HM.out.below h,hB0.trans (h.mono (by omega)),by have:=h.size;omega⟩
 have hb0:=Below.refl w0.heap.size w0
 clear hx0 hs0 hB0 hz0
 have HV:=Lib.hid (valid_any (HS.out _ hb0).2.2.1)
 have hc:=(HS.out _ hb0).1
 obtain ⟨d0,d1,d2,d3⟩:=hc
 go_wp2_with fail
 refine (HV.out).mono ?_
 rintro e w1 ⟨rfl,hb1⟩
 clear d0 d1 d2 d3 HV hb0
 by_cases he:m.err=0
 ·have he':(m.err !=0)=false:=by simp [he]
  have HE:=Lib.hid he
  have ok:Hid m.Ok:=Mach.ok_of_err m HE.out
  clear he
  have HSv:=Lib.hid (svalid_any (w:=w1) s)
  obtain ⟨s0,s1,s2,s3,s4⟩:=(HS.out _ hb1).2.1
  go_wp2_with fail
  refine (HSv.out).mono ?_
  rintro e w2 ⟨rfl,hb2⟩
  have hb2:=hb1.trans (hb2.mono hb1.size)
  clear s0 s1 s2 s3 s4 HSv hb1
  by_cases hse:s.err=0
  ·have hse':(s.err !=0)=false:=by simp [hse]
   have hk:=hk.out
   have HSE:=Lib.hid hse
   clear hse
   have HS2:=HS.out _ hb2
   obtain ⟨d0,d1,d2,d3⟩:=HS2.1
   obtain ⟨s0,s1,s2,s3,s4⟩:=HS2.2.1
   have HR:Hid (∀L e1,m.wsW s.extra=(L,e1)→m.twW s=(L,e1)):=fun L e1 h=>by unfold Mach.twW;rw [if_neg (by simp [HE.out]),if_neg (by simp [HSE.out]),if_pos hk,h]
   have HC:=Lib.hid (wsuite_any HS2.2.2.1 s.extra)
   have hzz:=HS2.2.2.2.2
   have hBz:=HS2.2.2.2.1
   clear HS2
   rw [hk] at s0
   clear hk
   go_wp2_with fail
   refine (HC.out).mono ?_
   rintro e w3 ⟨a3,c3,L,e1,rfl,hL,hS3,hb3⟩
   have hBf:=hBz.trans (hb3.mono (by omega))
   have hSf:=hS3.anti (M':=fun k=>k<w.heap.size) fun k _ hm=>by show k<_;omega
   have hR:=Lib.hid (HR.out _ _ hL.out)
   clear HC d0 d1 d2 d3 s0 s1 s2 s3 s4 hb3
   go_wp2
   go_ret2
   exact ⟨a3,c3,L,e1,rfl,hR,hSf,hBf⟩
  have hse':(s.err !=0)=true:=by simp [hse]
  have HR:Hid (m.twW s=([],s.err)):=by unfold Hid Mach.twW;rw [if_neg (by simp [HE.out]),if_pos hse]
  have hBf:=(HS.out _ hb2).2.2.2.1
  clear hse
  go_wp2
  go_ret2
  exact ⟨none,0,[],s.err,rfl,HR,Sl.nil _ _ _ (by unfold maxLen;omega),hBf⟩
 have he':(m.err !=0)=true:=by simp [he]
 have HR:Hid (m.twW s=([],m.err)):=by unfold Hid Mach.twW;rw [if_pos he]
 have hBf:=(HS.out _ hb1).2.2.2.1
 clear he
 go_wp2
 go_ret2
 exact ⟨none,0,[],m.err,rfl,HR,Sl.nil _ _ _ (by unfold maxLen;omega),hBf⟩
end
end Go.Proofs.YtjagagpcjpcjjaaGreat
