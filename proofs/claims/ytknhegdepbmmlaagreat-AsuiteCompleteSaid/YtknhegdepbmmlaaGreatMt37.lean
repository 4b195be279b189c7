/- Several texts, one behind the other. Conditions: as each of them says. -/
import Derived.Test.YtknhegdepbmmlaaGreatMt36
import Derived.Test.YtknhegdepbmmlaaGreatMt34
import Derived.Test.YtknhegdepbmmlaaGreatMt28
import Derived.Test.YtknhegdepbmmlaaGreatMt26
import Derived.Test.YtknhegdepbmmlaaGreatMt23
import Derived.Test.YtknhegdepbmmlaaGreatMt22
import Derived.Test.YtknhegdepbmmlaaGreatMt16
import Derived.Test.YtknhegdepbmmlaaGreatMt15
import Derived.Test.YtknhegdepbmmlaaGreatMt13
import Derived.Test.YtknhegdepbmmlaaGreatMt8
import Derived.Test.YtknhegdepbmmlaaGreatMt6
import Derived.Test.YtknhegdepbmmlaaGreatMt4
import Derived.Test.YtknhegdepbmmlaaGreatMt3
set_option maxRecDepth 100000
set_option maxHeartbeats 32000000
namespace Go.Proofs.YtknhegdepbmmlaaGreat
open Go.RowKit
section
variable {M MT:Nat→Prop} {w:World} {an ao aT:Option Addr} {cn co cT:Nat} {m:Mach} {T:List Nd}
end
section
variable {M:Nat→Prop} {w:World} {a:Option Addr} {c:Nat} {L:List Nd}
end
section
variable {M:Nat→Prop} {w:World} {an ao:Option Addr} {cn co:Nat} {m:Mach}
end
def Mach.partsW (m:Mach) (extra:Int):Mach×List (List Int)×List (List Int)×Int:=
 if m.err≠0 then (Mach.nothing,[],[],m.err) else
 if extra<0∨3<extra then (Mach.nothing,[],[],2) else
 if (uptW m.inputs (extra+1)).2≠0 then (Mach.nothing,[],[],(uptW m.inputs (extra+1)).2) else
 (m.minOf,m.minOf.covW.map Pc.word,(uptW m.inputs (extra+1)).1,0)
def PartsR (m:Mach) (extra:Int) (w:World) (e:Ending) (w':World):Prop:=∃(an:Option Addr) (cn:Nat) (ao:Option Addr) (co:Nat) (t:Mach) (aA:Option Addr) (cA:Nat) (A:List (List Int)) (aX:Option Addr) (cX:Nat) (X:List (List Int)) (e1:Int),
 e= .returned (.tuple #[maV t an cn ao co,.slice aA A.length cA,.slice aX X.length cX,.int .i64 e1])∧Hid (m.partsW extra=(t,A,X,e1))∧Ma (fun k=>k<w.heap.size) w' an cn ao co t∧Sl (fun k=>k<w.heap.size) w' aA cA A∧Sl (fun k=>k<w.heap.size) w' aX cX X∧Below w.heap.size w w'
section
variable {M:Nat→Prop} {w:World} {an ao:Option Addr} {cn co:Nat} {m:Mach}
end
section
variable {M MT:Nat→Prop} {w:World} {an ao aT:Option Addr} {cn co cT:Nat} {m:Mach} {T:List Nd}
end
namespace Mach
variable {m:Mach}
theorem wordGo_wi {T:List Nd} (ok:m.Ok):∀(f a:Nat) (c:Int) (w:List Int),m.Wi T a c→T.length≤a+f→w.length≤a→(m.wordGo T f a c w).1.length≤(m.wordGo T f a c w).2∧(m.wordGo T f a c w).2<T.length∧∃c',m.Wi T (m.wordGo T f a c w).2 c'
 |0,a,c,w,h,hf,hw=>by have:=(wi_lt h).1;omega
 |f+1,a,c,w,h,hf,hw=>by
  have hl:=(wi_lt h).1
  have hx:T[a]? =some T[a]:=List.getElem?_eq_getElem hl
  by_cases h0:T[a].inp<0
  ·rw [wordGo_stop hx h0];exact ⟨hw,hl,c,h⟩
  obtain ⟨-,k,kd,n',h1,h2,h3,h4,h5,h6,h7⟩:=wi_step ok h hx (by omega)
  rw [wordGo_on hx (by omega) (kidOf_at h1 h2 h3),h4,Int.toNat_natCast]
  exact wordGo_wi ok f n' _ _ h7 (by omega) (by rw [List.length_append];simp;omega)
theorem idE_ok {n:Mach} (h:n.adsB.2.2=0):(n.idE n.adsB.1).2=0:=by
 unfold idE
 rw [if_neg (by simp [adsB_chk h])]
end Mach
section
variable {M:Nat→Prop} {w:World} {an ao:Option Addr} {cn co:Nat} {m:Mach}
end
end Go.Proofs.YtknhegdepbmmlaaGreat
namespace Go.Proofs.YtknhegdepbmmlaaGreat
namespace Mach
variable {m:Mach}
theorem all_in {l:List Int} {n:Nat} (hd:l.Nodup) (hr:∀x∈l,0≤x∧x<n) (hl:l.length=n) {s:Int} (h0:0≤s) (h1:s<n):s∈l:=by
 by_cases e:s∈l
 ·exact e
 have h := nodup_le n (s :: l) (List.nodup_cons.2 ⟨e, hd⟩) (fun x hx => by
  rcases List.mem_cons.1 hx with rfl|hx
  ·exact ⟨h0,h1⟩
  exact hr x hx)
 rw [List.length_cons] at h;omega
theorem wordGo_ok {T:List Nd} (ok:m.Ok):∀(f a:Nat) (c:Int) (w:List Int),m.Wi T a c→m.okS w→m.okS (m.wordGo T f a c w).1
 |0,a,c,w,h,hw=>hw
 |f+1,a,c,w,h,hw=>by
  have hl:=(wi_lt h).1
  have hx:T[a]? =some T[a]:=List.getElem?_eq_getElem hl
  by_cases h0:T[a].inp<0
  ·rw [wordGo_stop hx h0];exact hw
  obtain ⟨hi,k,kd,n',h1,h2,h3,h4,h5,h6,h7⟩:=wi_step ok h hx (by omega)
  rw [wordGo_on hx (by omega) (kidOf_at h1 h2 h3),h4,Int.toNat_natCast]
  refine wordGo_ok ok f n' _ _ h7 fun y hy=> ?_
  rcases List.mem_append.1 hy with hy|hy
  ·exact hw y hy
  rw [List.mem_singleton.1 hy];omega
theorem sepW_ok (n8:m.next.length≤8) (s x:Int):m.okS (m.sepW s x)∧(m.sepW s x).length≤505:=by
 unfold sepW
 cases h:stW m s x with
 |none=>exact ⟨fun y hy=>by simp at hy,by simp⟩
 |some w=>
  show m.okS w∧w.length≤505
  unfold stW at h
  split at h
  ·have h1:=first_len h
   have h2:m.next.length*m.next.length≤8*8:=Nat.mul_le_mul n8 n8
   exact ⟨(first_some h).1.1,by omega⟩
  simp at h
theorem ids_ok {T:List Nd} (n8:m.next.length≤8) (h:m.adsChk T=0) (hT:T.length≤505):∀r∈(m.idE T).1,∀v∈r,m.okS v∧v.length≤505:=by
 have ok:m.Ok:=Mach.ok_of_err m (Mach.minErr_ok (Mach.adsChk_0 h).1).1
 unfold idE
 rw [if_neg (by simp [h])]
 intro r hr v hv
 unfold ids at hr
 obtain ⟨s,hs,rfl⟩:=List.mem_map.1 hr
 rw [srt_mem tot_cmp] at hv
 unfold idW at hv
 have hw0:=wi_0 ok h (List.mem_range.1 hs)
 rcases List.mem_append.1 hv with hv|hv
 ·unfold idA at hv
  split at hv
  ·rw [List.mem_singleton.1 hv]
   obtain ⟨h1,h2, -⟩:=wordGo_wi ok T.length 0 (s:Int) [] hw0 (by omega) (by simp)
   exact ⟨wordGo_ok ok T.length 0 (s:Int) [] hw0 (fun y hy=>by simp at hy),by show (m.wordGo T T.length 0 (s:Int) []).1.length≤505;omega⟩
  simp at hv
 obtain ⟨x, -,rfl⟩:=List.mem_map.1 hv
 exact sepW_ok n8 _ _
theorem minF_min (ok:m.Ok):m.minF.minErr=0∧m.minF.minOf=m.minF∧m.minF.err=0∧m.minF.next.length≤m.next.length:=by
 have okt:=minF_ok ok
 have he:=Mach.err_of_ok _ okt
 have h1:m.minF.minOf=m.minF:=by rw [Mach.minOf_eq he,minF_minF ok]
 have h2:m.minF.minimal=true:=by
  unfold minimal
  have:=minF_reach ok
  simp [he,this,h1]
 exact ⟨Mach.minErr_0 he h2,h1,he,by rw [minF_len];exact Nat.le_trans (firsts_le ok) (reach_le ok)⟩
theorem suW_8 (ok:m.Ok) (n8:m.next.length≤8) {extra:Int} (h0:0≤extra) (h3:extra≤3):
    m.suW extra=if (uptW m.inputs (extra+1)).2≠0 then ([],(uptW m.inputs (extra+1)).2) else
     if 10000<(m.minF.covW.map Pc.word).length*(uptW m.inputs (extra+1)).1.length*grW (m.minF.idE m.minF.adsL).1 then ([],11) else
     (maxW (suOut m.minF (m.minF.idE m.minF.adsL).1 (m.minF.covW.map Pc.word) (uptW m.inputs (extra+1)).1),0):=by
 have he:=Mach.err_of_ok _ ok
 obtain ⟨g1,g2,g3,g4⟩:=minF_min ok
 obtain ⟨b1,b2⟩:=adsB_8 g1 (by omega)
 have b3:=idE_ok (n:=m.minF) (by rw [b1])
 unfold suW
 rw [Mach.minOf_eq he,b1,if_neg (by simp [he]),if_neg (by omega)]
 rw [b1] at b3
 congr 1
 rw [if_neg (by simp),if_neg (by simpa using b3)]
theorem suW_err (ok:m.Ok) (n8:m.next.length≤8) {extra:Int} (h0:0≤extra) (h3:extra≤3):(m.suW extra).2=0∨(m.suW extra).2=11:=by
 rw [suW_8 ok n8 h0 h3]
 have hu:=uptW_err (n:=m.inputs) (N:=extra+1) (by have:=ok.i0;omega) (by have:=ok.i1;omega) (by omega) (by omega)
 split
 ·exact hu
 split
 ·exact .inr rfl
 exact .inl rfl
theorem suW_0 (ok:m.Ok) (n8:m.next.length≤8) {extra:Int} (h0:0≤extra) (h3:extra≤3) (h:(m.suW extra).2=0):
    (uptW m.inputs (extra+1)).2=0∧(m.suW extra).1=maxW (suOut m.minF (m.minF.idE m.minF.adsL).1 (m.minF.covW.map Pc.word) (uptW m.inputs (extra+1)).1):=by
 rw [suW_8 ok n8 h0 h3] at h ⊢
 split at h
 ·rename_i e;exact absurd h e
 rename_i e
 rw [if_neg e]
 split at h
 ·simp at h
 rename_i e2
 rw [if_neg e2]
 exact ⟨Classical.byContradiction e,rfl⟩
theorem tailW_ne {ids:List (List (List Int))} {w:List Int}:∃v,v∈tailW m ids w:=by
 unfold tailW
 split
 ·exact ⟨[],by simp⟩
 rename_i h
 obtain ⟨v,hv⟩:=List.exists_mem_of_ne_nil _ h
 exact ⟨v,hv⟩
theorem tailW_at {ids:List (List (List Int))} {w v:List Int} (h:v∈tailW m ids w):v=[]∨∃r∈ids,v∈r:=by
 unfold tailW at h
 split at h
 ·exact .inl (List.mem_singleton.1 h)
 rename_i hne
 refine .inr ⟨_,?_,h⟩
 rw [List.getD_eq_getElem?_getD] at hne ⊢
 cases e:ids[(m.endW m.start w).toNat]? with
 |none=>rw [e] at hne;exact absurd rfl hne
 |some r=>exact List.mem_of_getElem? e
theorem suW_words (ok:m.Ok) (n8:m.next.length≤8) {extra:Int} (h0:0≤extra) (h3:extra≤3) (h:(m.suW extra).2=0):∀w∈(m.suW extra).1,wErr w m.inputs=0:=by
 obtain ⟨g1,g2,g3,g4⟩:=minF_min ok
 obtain ⟨b1,b2⟩:=adsB_8 g1 (by omega)
 have b3:=adsB_chk (n:=m.minF) (by rw [b1])
 rw [b1] at b3
 have okt:=minF_ok ok
 intro w hw
 rw [(suW_0 ok n8 h0 h3 h).2] at hw
 have hw:=maxW_mem hw
 unfold suOut at hw
 obtain ⟨p,hp,hw⟩:=List.mem_flatMap.1 hw
 unfold sf at hw
 obtain ⟨x,hx,hw⟩:=List.mem_flatMap.1 hw
 unfold sg at hw
 obtain ⟨v,hv,rfl⟩:=List.mem_map.1 hw
 obtain ⟨q,hq,rfl⟩:=List.mem_map.1 hp
 obtain ⟨-, -,q1,q2, -⟩:=cov_all okt m.minF.next.length q hq
 have hxi:=(uptW_in m.inputs (extra+1)).1 x hx
 have hv2:m.minF.okS v∧v.length≤505:=by
  rcases tailW_at hv with rfl|⟨r,hr,hvr⟩
  ·exact ⟨fun y hy=>by simp at hy,by simp⟩
  exact ids_ok (by omega) b3 b2 r hr v hvr
 have hin:m.minF.inputs=m.inputs:=rfl
 refine wErr_of (by have:=ok.i0;omega) (by have:=ok.i1;omega) (by simp only [List.length_append];have:=hxi.2;have:=hv2.2;omega) (fun y hy=> ?_)
 rcases List.mem_append.1 hy with hy|hy
 ·rcases List.mem_append.1 hy with hy|hy
  ·have:=q1 y hy;omega
  exact hxi.1 y hy
 have:=hv2.1 y hy;omega
end Mach
theorem visitC_sub (c:Int→Int):∀(r l:List Int),∃s,visitC c l r=l++s∧s.Sublist r
 |[],l=>⟨[],by simp [visitC],List.Sublist.refl _⟩
 |t::r,l=>by
  unfold visitC
  split
  ·obtain ⟨s,h1,h2⟩:=visitC_sub c r l
   exact ⟨s,h1,h2.cons _⟩
  obtain ⟨s,h1,h2⟩:=visitC_sub c r (l++[t])
  exact ⟨t::s,by rw [h1];simp,h2.cons_cons _⟩
theorem nodup_map_inj {l:List Int} {c:Int→Int} (h:(l.map c).Nodup) {x y:Int} (hx:x∈l) (hy:y∈l) (e:c x=c y):x=y:=by
 induction l with
 |nil=>simp at hx
 |cons z l ih=>
  rw [List.map_cons,List.nodup_cons] at h
  rcases List.mem_cons.1 hx with e1|h1
  ·rcases List.mem_cons.1 hy with e2|h2
   ·rw [e1,e2]
   exact absurd (by rw [←e1,e];exact List.mem_map_of_mem h2) h.1
  rcases List.mem_cons.1 hy with e2|h2
  ·exact absurd (by rw [←e2,←e];exact List.mem_map_of_mem h1) h.1
  exact ih h.2 h1 h2
theorem zip_mem_map {α β:Type} (f:α→β) (g:α→Int):∀(l:List α) (p:α),p∈l→(f p,g p)∈(l.map f).zip (l.map g)
 |x::l,p,h=>by
  rw [List.map_cons,List.map_cons,List.zip_cons_cons]
  rcases List.mem_cons.1 h with rfl|h
  ·exact List.mem_cons_self
  exact List.mem_cons_of_mem _ (zip_mem_map f g l p h)
theorem comW_pre:∀{p a b:List Int},p<+:a→p<+:b→p.length≤comW a b
 |[],a,b,_,_=>Nat.zero_le _
 |x::p,a,b,h1,h2=>by
  obtain ⟨s,rfl⟩:=h1
  obtain ⟨t,rfl⟩:=h2
  have:=comW_pre (p:=p) (a:=p++s) (b:=p++t) ⟨s,rfl⟩ ⟨t,rfl⟩
  simp only [List.cons_append,comW,if_true,List.length_cons]
  omega
theorem comW_self:∀a:List Int,comW a a=a.length
 |[]=>rfl
 |x::a=>by simp [comW,comW_self a]
theorem comW_take:∀(a b:List Int),a.take (comW a b)=b.take (comW a b)
 |[],b=>by rw [comW_nil_l];rfl
 |_::_,[]=>by rw [comW_nil_r];rfl
 |x::a,y::b=>by
  by_cases e:x=y
  ·subst e;rw [comW_same,List.take_succ_cons,List.take_succ_cons,comW_take a b]
  rw [comW_diff e];rfl
namespace Mach
variable {m:Mach}
theorem min_cl (ok:m.Ok) (h:m.minimal=true) {s t:Int} (hs:0≤s∧s<m.next.length) (ht:0≤t∧t<m.next.length) (e:m.cl s=m.cl t):s=t:=by
 unfold minimal at h
 obtain ⟨h0,h1,h2⟩:=of_decide_eq_true h
 rw [minOf_eq h0,minF_len,←h1] at h2
 obtain ⟨r,h3,h4⟩:=visitC_sub m.cl m.reach []
 have h5:r=m.reach:=h4.eq_of_length (by
  have:(firsts m.cl m.reach).length=r.length:=by unfold firsts;rw [h3];rfl
  omega)
 have h6:=visitC_nodup m.cl m.reach [] (by simp)
 rw [h3,h5,List.nil_append] at h6
 obtain ⟨g1,g2, -⟩:=bfs_props ok m.next.length
 have hin:∀{x:Int},0≤x∧x<m.next.length→x∈m.reach:=fun hx=>all_in g1 g2 h1 hx.1 hx.2
 exact nodup_map_inj h6 (hin hs) (hin ht) e
theorem sepW_some (ok:m.Ok) (h:m.minimal=true) {s t:Int} (hs:0≤s∧s<m.next.length) (ht:0≤t∧t<m.next.length) (hne:s≠t):firstW m m s t=some (m.sepW s t)∧m.okS (m.sepW s t)∧m.outsW s (m.sepW s t)≠m.outsW t (m.sepW s t):=by
 have he:Go.Proofs.YtknhegdepbmmlaaGreat.stErr m s t=0:=by
  rcases st_cases (Mach.err_of_ok _ ok) s t with h|h|h|h|h
  all_goals first|omega|exact h.2.2.2.2
 have h1:stW m s t=firstW m m s t:=by unfold stW;rw [if_pos he]
 unfold sepW
 rw [h1]
 cases e:firstW m m s t with
 |none=>exact absurd (min_cl ok h hs ht ((sim_iff ok hs.1 hs.2 ht.1 ht.2).2 ((first_iff ok ok rfl hs ht).1 e))) hne
 |some w=>exact ⟨rfl,(first_some e).1.1,(first_some e).1.2⟩
theorem sepW_swap (ok:m.Ok) {s t:Int} (hs:0≤s∧s<m.next.length) (ht:0≤t∧t<m.next.length):m.sepW s t=m.sepW t s:=by
 have he:∀{s t:Int},0≤s∧s<m.next.length→0≤t∧t<m.next.length→stW m s t=firstW m m s t:=fun {s t} hs ht=>by
  unfold stW
  rw [if_pos]
  rcases st_cases (Mach.err_of_ok _ ok) s t with h|h|h|h|h
  all_goals first|omega|exact h.2.2.2.2
 unfold sepW
 rw [he hs ht,he ht hs,first_swap ok ok rfl ht hs]
def WiP (m:Mach) (T:List Nd) (a:Nat) (s c:Int):Prop:=∃f g e,m.right T f a g=(e,true)∧(s,c)∈g.ini.zip g.cur∧GOk m.next.length g∧((∀s∈g.ini,0≤s∧s<(m.next.length:Int))∧g.cur.length≤m.next.length)
theorem WiP.wi {T:List Nd} {a:Nat} {s c:Int} (h:m.WiP T a s c):m.Wi T a c:=by
 obtain ⟨f,g,e,h1,h2,h3,h4⟩:=h
 exact ⟨f,g,e,h1,(List.of_mem_zip h2).2,h3,h4⟩
theorem wip_step {T:List Nd} {a:Nat} {s c:Int} {x:Nd} (ok:m.Ok) (h:m.WiP T a s c) (hx:T[a]? =some x) (h0:0≤x.inp):
    x.inp<m.inputs∧∃(kd:Kd) (n':Nat),kidOf x.kids (m.ot c.toNat x.inp.toNat)=some kd∧kd.to=(n':Int)∧a<n'∧m.WiP T n' s (m.nx c.toNat x.inp.toNat):=by
 obtain ⟨f,g,e,hr,hsc,hg,hgi⟩:=h
 have hc:=(List.of_mem_zip hsc).2
 obtain ⟨h1,h2,f',h3⟩:=right_parts hr hx h0
 refine ⟨h1,?_⟩
 have ho:m.ot c.toNat x.inp.toNat∈m.outsI x.inp.toNat g.cur:=by
  unfold outsI;rw [iset_mem];exact List.mem_map_of_mem (f:=fun s=>m.ot s.toNat x.inp.toNat) hc
 obtain ⟨k,hk⟩:=List.mem_iff_getElem?.1 ho
 have hP:=gParts_at hk
 have hkl:k<x.kids.length:=by rw [←h2];exact some_lt hP
 have hout:∀(j:Nat) (kj:Kd),x.kids[j]? =some kj→∃oj,(m.outsI x.inp.toNat g.cur)[j]? =some oj∧kj.out=oj:=fun j kj hj=>by
  have hjl:=some_lt hj
  obtain ⟨oj,hoj⟩:∃oj,(m.outsI x.inp.toNat g.cur)[j]? =some oj:=⟨_,List.getElem?_eq_getElem (by rw [←gParts_len,h2];exact hjl)⟩
  have:=h3 j ((oj,m.grp x.inp.toNat g.ini g.cur oj),kj) (List.getElem?_zip_eq_some.2 ⟨gParts_at hoj,hj⟩)
  exact ⟨oj,hoj,this.1⟩
 obtain ⟨h4,n',h5,h6,e',h7⟩:=h3 k ((m.ot c.toNat x.inp.toNat,m.grp x.inp.toNat g.ini g.cur (m.ot c.toNat x.inp.toNat)),x.kids[k]) (List.getElem?_zip_eq_some.2 ⟨hP,List.getElem?_eq_getElem hkl⟩)
 refine ⟨x.kids[k],n',kidOf_at (List.getElem?_eq_getElem hkl) h4 fun j kj hj hkj e2=> ?_,h6,by omega,f',_,e',h7,?_,grp_ok ok (by omega) hg ho,fun s hs=> ?_,Nat.le_trans grp_le hgi.2⟩
 ·obtain ⟨oj,h8,h9⟩:=hout j kj hkj
  have hA:IAsc (m.outsI x.inp.toNat g.cur):=iset_asc _
  have a1:=iasc_count hA hk
  have a2:=iasc_count hA h8
  rw [←h9,e2] at a2
  omega
 ·show (s,m.nx c.toNat x.inp.toNat)∈(m.gpI x.inp.toNat g.ini g.cur (m.ot c.toNat x.inp.toNat)).zip (m.gpC x.inp.toNat g.ini g.cur (m.ot c.toNat x.inp.toNat))
  exact zip_mem_map Prod.fst (fun p:Int×Int=>m.nx p.2.toNat x.inp.toNat) _ (s,c) (List.mem_filter.2 ⟨hsc,by simp⟩)
 obtain ⟨p,hp,rfl⟩:=List.mem_map.1 (show s∈m.gpI x.inp.toNat g.ini g.cur (m.ot c.toNat x.inp.toNat) from hs)
 exact hgi.1 p.1 (List.of_mem_zip (List.mem_filter.1 hp).1).1
theorem wip_node {T:List Nd} {a:Nat} {s c:Int} {x:Nd} (h:m.WiP T a s c) (hx:T[a]? =some x):s∈x.st:=by
 obtain ⟨f,g,e,hr,hc,hg,hgi⟩:=h
 cases f with
 |zero=>simp [right] at hr
 |succ f=>
  have e:x.st=g.ini:=Classical.byContradiction fun e=>by rw [right_no hx (.inl e)] at hr;simp at hr
  rw [e]
  exact (List.of_mem_zip hc).1
theorem wip_0 {T:List Nd} (h:m.adsChk T=0) {s:Nat} (hs:s<m.next.length):m.WiP T 0 (s:Int) (s:Int)∧∃x,T[0]? =some x∧x.st=allS m.next.length:=by
 have h1:=(adsChk_0 h).2.2
 have ok:m.Ok:=Mach.ok_of_err m (Mach.minErr_ok (Mach.adsChk_0 h).1).1
 have hal:∀y∈allS m.next.length,0≤y∧y<(m.next.length:Int):=fun y hy=>by
  unfold allS at hy
  obtain ⟨k,hk,rfl⟩:=List.mem_map.1 hy
  have:=List.mem_range.1 hk;omega
 obtain ⟨f,e,hr⟩:∃f e,m.right T f 0 ⟨allS m.next.length,allS m.next.length⟩=(e,true):=⟨_,_,h1⟩
 have h0:=right_bd _ _ _ _ hr
 refine ⟨⟨f,_,e,hr,List.mem_of_getElem? (i:=s) (List.getElem?_zip_eq_some.2 ⟨allS_get hs,allS_get hs⟩),⟨rfl,by rw [allS_len];exact ok.n0,hal⟩,hal,by rw [allS_len];exact Nat.le_refl _⟩,T[0]'(by omega),List.getElem?_eq_getElem (by omega),?_⟩
 cases f with
 |zero=>simp [right] at hr
 |succ f=>
  exact Classical.byContradiction fun e=>by rw [right_no (List.getElem?_eq_getElem (by omega:0<T.length)) (.inl e)] at hr;simp at hr
theorem wordGo_pre {T:List Nd} (ok:m.Ok):∀(f a:Nat) (c:Int) (w:List Int),m.Wi T a c→w<+:(m.wordGo T f a c w).1
 |0,a,c,w,h=>List.prefix_refl _
 |f+1,a,c,w,h=>by
  have hl:=(wi_lt h).1
  have hx:T[a]? =some T[a]:=List.getElem?_eq_getElem hl
  by_cases h0:T[a].inp<0
  ·rw [wordGo_stop hx h0];exact List.prefix_refl _
  obtain ⟨hi,k,kd,n',h1,h2,h3,h4,h5,h6,h7⟩:=wi_step ok h hx (by omega)
  rw [wordGo_on hx (by omega) (kidOf_at h1 h2 h3),h4,Int.toNat_natCast]
  exact (List.prefix_append w [T[a].inp]).trans (wordGo_pre ok f n' _ _ h7)
theorem harm_go {T:List Nd} (ok:m.Ok):∀(f a:Nat) (s c t d:Int) (w:List Int),m.WiP T a s c→m.WiP T a t d→
    m.wordGo T f a c w=m.wordGo T f a d w∨∃p,(w++p)<+:(m.wordGo T f a c w).1∧(w++p)<+:(m.wordGo T f a d w).1∧m.outsW c p≠m.outsW d p
 |0,a,s,c,t,d,w,h,k=> .inl rfl
 |f+1,a,s,c,t,d,w,h,k=>by
  have hl:=(wi_lt h.wi).1
  have hx:T[a]? =some T[a]:=List.getElem?_eq_getElem hl
  by_cases h0:T[a].inp<0
  ·rw [wordGo_stop hx h0,wordGo_stop hx h0];exact .inl rfl
  obtain ⟨hi,kd,n,h1,h2,h3,h4⟩:=wip_step ok h hx (by omega)
  obtain ⟨-,ke,q,k1,k2,k3,k4⟩:=wip_step ok k hx (by omega)
  rw [wordGo_on hx (by omega) h1,wordGo_on hx (by omega) k1,h2,k2,Int.toNat_natCast,Int.toNat_natCast]
  by_cases e:m.ot c.toNat T[a].inp.toNat=m.ot d.toNat T[a].inp.toNat
  ·rw [e] at h1
   obtain rfl:ke=kd:=by rw [h1] at k1;exact (Option.some.inj k1).symm
   obtain rfl:n=q:=by omega
   rcases harm_go ok f n s _ t _ (w++[T[a].inp]) h4 k4 with g|⟨p,g1,g2,g3⟩
   ·exact .inl g
   refine .inr ⟨T[a].inp::p,by simpa using g1,by simpa using g2,fun e2=>g3 ?_⟩
   simp only [outsW] at e2
   exact (List.cons.inj e2).2
  refine .inr ⟨[T[a].inp],wordGo_pre ok _ _ _ _ h4.wi,wordGo_pre ok _ _ _ _ k4.wi,fun e2=>e ?_⟩
  simp only [outsW] at e2
  exact (List.cons.inj e2).1
theorem wip_inp {T:List Nd} {a:Nat} {s c:Int} {x:Nd} (h:m.WiP T a s c) (hx:T[a]? =some x) (h0:x.inp<0):x.inp= -1:=by
 obtain ⟨f,g,e,hr,hc,hg,hgi⟩:=h
 cases f with
 |zero=>simp [right] at hr
 |succ f=>
  by_cases h1:x.inp= -1
  ·exact h1
  rw [right_out hx h1 (.inl h0)] at hr;simp at hr
theorem leaf_go {T:List Nd} (ok:m.Ok):∀(f a:Nat) (s c:Int) (w:List Int),m.WiP T a s c→T.length≤a+f→∃x,T[(m.wordGo T f a c w).2]? =some x∧x.inp= -1∧s∈x.st
 |0,a,s,c,w,h,hf=>by have:=(wi_lt h.wi).1;omega
 |f+1,a,s,c,w,h,hf=>by
  have hl:=(wi_lt h.wi).1
  have hx:T[a]? =some T[a]:=List.getElem?_eq_getElem hl
  by_cases h0:T[a].inp<0
  ·rw [wordGo_stop hx h0];exact ⟨_,hx,wip_inp h hx h0,wip_node h hx⟩
  obtain ⟨hi,kd,n,h1,h2,h3,h4⟩:=wip_step ok h hx (by omega)
  rw [wordGo_on hx (by omega) h1,h2,Int.toNat_natCast]
  exact leaf_go ok f n s _ _ h4 (by omega)
def Harm (m:Mach) (s t:Int) (a b:List Int):Prop:=m.outsW s (a.take (comW a b))≠m.outsW t (a.take (comW a b))
theorem outsW_take (w:List Int):∀(s:Int) (n:Nat),m.outsW s (w.take n)=(m.outsW s w).take n:=by
 induction w with
 |nil=>intro s n;simp [outsW]
 |cons x w ih=>
  intro s n
  cases n with
  |zero=>simp [outsW]
  |succ n=>simp [outsW,ih]
theorem harm_of {s t:Int} {a b p:List Int} (h1:p<+:a) (h2:p<+:b) (h3:m.outsW s p≠m.outsW t p):m.Harm s t a b:=by
 intro e
 have h4:=comW_pre h1 h2
 have h5:p=(a.take (comW a b)).take p.length:=by
  rw [List.take_take,Nat.min_eq_left h4];exact List.prefix_iff_eq_take.1 h1
 have h6:∀u,m.outsW u p=(m.outsW u (a.take (comW a b))).take p.length:=fun u=>by rw [←outsW_take,←h5]
 exact h3 (by rw [h6 s,h6 t,e])
theorem idO_mem {s x:Int} {o:List Int} (hx:x∈o) (hne:x≠s):m.sepW s x∈m.idO s o:=by
 unfold idO;exact List.mem_map.2 ⟨x,List.mem_filter.2 ⟨hx,by simpa using hne⟩,rfl⟩
theorem nodeSt_of {T:List Nd} {l:Nat} {x:Nd} (h:T[l]? =some x):nodeSt T l=x.st:=by unfold nodeSt;rw [h]
theorem harmony {T:List Nd} (ok:m.Ok) (hm:m.minimal=true) (h:m.adsChk T=0) {s t:Nat} (hs:s<m.next.length) (ht:t<m.next.length) (hne:s≠t):
    ∃a∈m.idW T (s:Int),∃b∈m.idW T (t:Int),m.Harm (s:Int) (t:Int) a b:=by
 have h1:=(wip_0 h hs).1
 have h2:=(wip_0 h ht).1
 rcases harm_go ok T.length 0 _ _ _ _ [] h1 h2 with g|⟨p,g1,g2,g3⟩
 ·obtain ⟨x,e1,e2,e3⟩:=leaf_go ok T.length 0 _ _ [] h1 (by omega)
  obtain ⟨y,d1,d2,d3⟩:=leaf_go ok T.length 0 _ _ [] h2 (by omega)
  obtain rfl:x=y:=by rw [g,d1] at e1;exact (Option.some.inj e1).symm
  have hsw:=sepW_some ok hm (s:=(s:Int)) (t:=(t:Int)) (by omega) (by omega) (by omega)
  refine ⟨m.sepW s t,?_,m.sepW s t,?_,?_⟩
  ·unfold idW
   refine List.mem_append.2 (.inr (idO_mem ?_ (by omega)))
   unfold adsW;rw [nodeSt_of e1];exact d3
  ·unfold idW
   rw [sepW_swap ok (by omega) (by omega)]
   refine List.mem_append.2 (.inr (idO_mem ?_ (by omega)))
   unfold adsW;rw [nodeSt_of d1];exact e3
  unfold Harm;rw [comW_self,List.take_length];exact hsw.2.2
 have hp : 0 < p.length := by
  cases p with
  |nil=>exact absurd rfl g3
  |cons _ _=>simp
 rw [List.nil_append] at g1 g2
 refine ⟨(m.adsW T s).1,?_,(m.adsW T t).1,?_,harm_of g1 g2 g3⟩
 ·unfold idW idA
  have:=g1.length_le
  rw [if_pos (.inl (by unfold adsW;omega))];simp
 unfold idW idA
 have:=g2.length_le
 rw [if_pos (.inl (by unfold adsW;omega))];simp
theorem harmonyI {T:List Nd} (ok:m.Ok) (hm:m.minimal=true) (h:m.adsChk T=0) {s t:Nat} (hs:s<m.next.length) (ht:t<m.next.length) (hne:s≠t) {A B:List (List Int)} (hA:(m.idE T).1[s]? =some A) (hB:(m.idE T).1[t]? =some B):
    ∃a∈A,∃b∈B,m.Harm (s:Int) (t:Int) a b:=by
 have hi:∀{k:Nat} {C:List (List Int)},k<m.next.length→(m.idE T).1[k]? =some C→C=srt cmpW (m.idW T (k:Int)):=fun {k C} hk hC=>by
  unfold idE at hC
  rw [if_neg (by simp [h])] at hC
  unfold ids at hC
  simp only [List.getElem?_map,List.getElem?_range hk] at hC
  exact (Option.some.inj hC).symm
 obtain ⟨a,ha,b,hb,g⟩:=harmony ok hm h hs ht hne
 exact ⟨a,by rw [hi hs hA,srt_mem tot_cmp];exact ha,b,by rw [hi ht hB,srt_mem tot_cmp];exact hb,g⟩
end Mach
end Go.Proofs.YtknhegdepbmmlaaGreat
namespace Go.Proofs.YtknhegdepbmmlaaGreat
open Go.RowKit
theorem Mach.run_0 {m:Mach} (ok:m.Ok) {w:List Int} (e:wErr w m.inputs=0):m.frErr m.start w=0∧m.frOut m.start w=m.outsW m.start w:=by
 have h:=Mach.err_of_ok _ ok
 have hst:m.stErr m.start=0:=by
  have:=ok.s0
  have:=ok.s1
  unfold Mach.stErr
  rw [if_neg (by simp [h]),if_neg (by omega)]
 obtain ⟨h1,h2, -⟩:=Mach.frErr_0 hst e
 exact ⟨h1,h2⟩
theorem comW_lt {a b:List Int} (hl:a.length=b.length) (h:a≠b):comW a b<a.length:=by
 have h1:=(comW_le a b).1
 by_cases e:comW a b=b.length
 ·exact absurd ((comW_prefix.1 e).eq_of_length hl.symm).symm h
 omega
theorem take_sl {M:Nat→Prop} {w:World} {a:Option Addr} {c:Nat} {l:List Int} (h:Sl M w a c l) (n:Nat) (hn:n≤l.length):Sl M w a c (l.take n)∧(l.take n).length=n:=by
 refine ⟨⟨by have:=h.1;rw [List.length_take];omega,h.2.1,fun j x hj=>h.2.2 j x ?_⟩,by rw [List.length_take];omega⟩
 rw [List.getElem?_take] at hj
 split at hj
 ·exact hj
 simp at hj
section
variable {M Mi ML:Nat→Prop} {w:World} {an ao bn bo aL:Option Addr} {cn co dn dd cL:Nat} {m i:Mach} {L:List (List Int)}
def PassR (m i:Mach) (L:List (List Int)) (v:Bool):Prop:=v=true↔∀x∈L,m.outsW m.start x=i.outsW i.start x
theorem passes_any (hm:Ma M w an cn ao co m) (hi:Ma Mi w bn dn bo dd i) (hL:Sl ML w aL cL L) (om:Hid m.Ok) (oi:Hid i.Ok) (hin:Hid (m.inputs=i.inputs)) (hw:Hid (∀x∈L,wErr x m.inputs=0)):
    Calls Tryz.prog 29 #[maV m an cn ao co,maV i bn dn bo dd,.slice aL L.length cL] w fun e w'=>∃(a:Option Addr) (c:Nat) (l:List Int) (v:Bool),e= .returned (.tuple #[.slice a l.length c,.bool v,.int .i64 0])∧Hid (PassR m i L v)∧Below w.heap.size w w':=by
 have h0:Below w.heap.size w ((w.alloc (maO m an cn ao co)).alloc (maO i bn dn bo dd)):=((Below.refl _ _).alloc (Nat.le_refl _) _).alloc (by simp) _
 have hCa:C4 ((w.alloc (maO m an cn ao co)).alloc (maO i bn dn bo dd)) w.heap.size an cn ao co m:=(c4_new w).below (B:=w.heap.size+1) ((Below.refl _ _).alloc (by simp) _) (by omega)
 have hCb:C4 ((w.alloc (maO m an cn ao co)).alloc (maO i bn dn bo dd)) (w.heap.size+1) bn dn bo dd i:=by simpa using c4_new (m:=i) (an:=bn) (cn:=dn) (ao:=bo) (co:=dd) (w.alloc (maO m an cn ao co))
 have hz0:((w.alloc (maO m an cn ao co)).alloc (maO i bn dn bo dd)).heap.size=w.heap.size+2:=by simp
 have HM:=Lib.hid (hm.ext (M':=fun _=>False) (Ext.sub_only fun _ _ h=>h.elim))
 have HI:=Lib.hid (hi.ext (M':=fun _=>False) (Ext.sub_only fun _ _ h=>h.elim))
 have HL:=Lib.hid (hL.anti (M':=fun _=>False) fun _ _ h=>h.elim)
 have l1:=hm.next.le
 have l2:=hm.out.le
 have l3:=hi.next.le
 have l4:=hi.out.le
 have l5:=hL.le
 have hinb:(m.inputs !=i.inputs)=false:=by simp [hin.out]
 have HV0:=valid_any (hm.below h0)
 rw [Mach.err_of_ok _ om.out] at HV0
 have HV:=Lib.hid HV0
 clear hm hi hL HV0
 go_enter Tryz.func29,Tryz.ntmps29
 go_upto_region 1 with (fail)
 generalize (w.alloc (maO m an cn ao co)).alloc (maO i bn dn bo dd)=w0 at*
 obtain ⟨d0,d1,d2,d3⟩:=hCa
 obtain ⟨j0,j1,j2,j3⟩:=hCb
 go_wp2_with fail
 refine (HV.out).mono ?_
 rintro e w1 ⟨rfl,hb1⟩
 have hx1:C4 w1 w.heap.size an cn ao co m:=C4.below ⟨d0,d1,d2,d3⟩ hb1 (by omega)
 have hy1:C4 w1 (w.heap.size+1) bn dn bo dd i:=C4.below ⟨j0,j1,j2,j3⟩ hb1 (by omega)
 have hB1:=h0.trans (hb1.mono (by omega))
 have hz1:w.heap.size+2≤w1.heap.size:=by have:=hb1.size;omega
 have HV0:=valid_any (HI.out.below hB1)
 rw [Mach.err_of_ok _ oi.out] at HV0
 have HV2:=Lib.hid HV0
 clear d0 d1 d2 d3 j0 j1 j2 j3 h0 hb1 HV HV0 hz0
 obtain ⟨d0,d1,d2,d3⟩:=hx1
 obtain ⟨j0,j1,j2,j3⟩:=hy1
 go_wp2_with fail
 refine (HV2.out).mono ?_
 rintro e w2 ⟨rfl,hb2⟩
 have hx2:C4 w2 w.heap.size an cn ao co m:=C4.below ⟨d0,d1,d2,d3⟩ hb2 (by omega)
 have hy2:C4 w2 (w.heap.size+1) bn dn bo dd i:=C4.below ⟨j0,j1,j2,j3⟩ hb2 (by omega)
 have hB2:=hB1.trans (hb2.mono (by omega))
 have hz2:w.heap.size+2≤w2.heap.size:=by have:=hb2.size;omega
 clear d0 d1 d2 d3 j0 j1 j2 j3 hB1 hb2 HV2 hz1
 have HS:Hid (∀w',Below w2.heap.size w2 w'→(C4 w' w.heap.size an cn ao co m∧C4 w' (w.heap.size+1) bn dn bo dd i)∧Sl (fun _=>False) w' aL cL L∧Ma (fun _=>False) w' an cn ao co m∧Ma (fun _=>False) w' bn dn bo dd i∧Below w.heap.size w w'):=fun w' h=>
  ⟨⟨hx2.below h (by omega),hy2.below h (by omega)⟩,HL.out.below (hB2.trans (h.mono (by omega))),HM.out.below (hB2.trans (h.mono (by omega))),HI.out.below (hB2.trans (h.mono (by omega))),hB2.trans (h.mono (by omega))⟩
 have hBz:=Below.refl w2.heap.size w2
 obtain ⟨d0,d1,d2,d3⟩:=hx2
 obtain ⟨j0,j1,j2,j3⟩:=hy2
 clear hB2
 go_wp2_with fail
 clear d0 d1 d2 d3 j0 j1 j2 j3
 go_loopw [37] (fun j wr=>∃k:Nat,k≤L.length∧j= .int .i64 k∧Below w2.heap.size w2 wr) (fun j _=>L.length-(intOf j).toNat)
 case atStart=>exact ⟨0,by omega,rfl,hBz⟩
 case round=>
  clear hBz
  obtain ⟨k,hk,rfl,hB⟩:=hrel
  obtain ⟨wo,rfl⟩:∃wo:World,wo=wr:=⟨_,rfl⟩
  have hSo:=HS.out _ hB
  have hzo:=hB.size
  by_cases hlt:k<L.length
  ·have hin1:=hSo.1.1.1
   obtain ⟨bL,oL,ax,x,cx,rfl,hxc,hx,hxs⟩:=hSo.2.1.at_row hlt
   have hxe:=Lib.hid (hw.out x (List.mem_of_getElem? hx.out))
   have HC0:=wcheck_any hxs m.inputs
   rw [hxe.out] at HC0
   have HC:=Lib.hid HC0
   have hxsl:=hxs.le
   clear HC0 hSo hxs
   go_wp2_with fail
   refine (HC.out).mono ?_
   rintro e w3 ⟨rfl,hb3⟩
   have hB3:=hB.trans (hb3.mono hzo)
   clear HC hb3 hB hin1 hxc
   go_wp2
   go_roundw
   case rel=>exact ⟨k+1,by omega,by go_num,hB3⟩
   case measure=>simp [intOf];omega
  clear hSo
  have hT0:Hid (∀x∈L.take 0,m.outsW m.start x=i.outsW i.start x):=fun x hx=>by simp at hx
  go_wp2
  go_loopw [51] (fun j wr=>∃k:Nat,k≤L.length∧j= .int .i64 k∧Hid (∀x∈L.take k,m.outsW m.start x=i.outsW i.start x)∧Below w2.heap.size w2 wr) (fun j _=>L.length-(intOf j).toNat)
  case atStart=>exact ⟨0,by omega,rfl,hT0,hB⟩
  case round=>
   clear hB hzo hT0 hlt hk
   obtain ⟨k,hk,rfl,hT,hB⟩:=hrel
   obtain ⟨wo,rfl⟩:∃wo:World,wo=wr:=⟨_,rfl⟩
   have hSo:=HS.out _ hB
   have hzo:=hB.size
   by_cases hlt:k<L.length
   ·obtain ⟨bL,oL,ax,x,cx,rfl,hxc1,hx,hxs1⟩:=(HS.out _ (Below.refl w2.heap.size w2)).2.1.at_row hlt
    have HX:=Lib.hid hxs1
    have hxc:=(hB.cell (p:=⟨bL,oL+k,none⟩) (lt_of_cell hxc1)).trans hxc1
    have hxe:=Lib.hid (hw.out x (List.mem_of_getElem? hx.out))
    have hxl:=Lib.hid (Mach.okS_of hxe.out).2
    have hxsl:=hxs1.le
    clear hxc1 hxs1
    have hR1:=Mach.run_0 om.out hxe.out
    have hR2:=Mach.run_0 oi.out (hin.out▸hxe.out)
    have HC0:=mrun_any hSo.2.2.1 (HX.out.below hB)
    rw [hR1.1] at HC0
    have HC:=Lib.hid HC0
    have HF1:=Lib.hid hR1.2
    have HF2:=Lib.hid hR2
    obtain ⟨⟨⟨d0,d1,d2,d3⟩, -⟩, -⟩:=hSo
    clear HC0 hR1 hR2
    go_wp2_with fail
    refine (HC.out).mono ?_
    rintro e w3 ⟨a3,c3,l3',rfl,hl3,hs3,hb3⟩
    have hB3:=hB.trans (hb3.mono hzo)
    have hz3:=hB3.size
    have hS3:=HS.out _ hB3
    have HC0:=mrun_any hS3.2.2.2.1 (HX.out.below hB3)
    rw [HF2.out.1] at HC0
    have HC2:=Lib.hid HC0
    have HS3:=Lib.hid (hs3.anti (M':=fun _=>False) fun _ _ h=>h.elim)
    have hll3:=hs3.le
    obtain ⟨⟨-,⟨j0,j1,j2,j3⟩⟩, -⟩:=hS3
    clear HC0 HC hb3 hs3 d0 d1 d2 d3 hB hxc
    go_wp2_with fail
    refine (HC2.out).mono ?_
    rintro e w4 ⟨a4,c4,l4',rfl,hl4,hs4,hb4⟩
    have hB4:=hB3.trans (hb4.mono hz3)
    have hz4:=hB4.size
    have HS4:=Lib.hid (HS3.out.below hb4)
    have hll4:=hs4.le
    have HC3:=Lib.hid (com_any HS4.out (hs4.anti (M':=fun _=>False) fun _ _ h=>h.elim))
    have hE:Hid (l3'=m.outsW m.start x∧l4'=i.outsW i.start x):=⟨hl3.out.trans HF1.out,hl4.out.trans HF2.out.2⟩
    have hEl:Hid (l3'.length=x.length∧l4'.length=x.length):=by unfold Hid;rw [hE.out.1,hE.out.2,Mach.outsW_len,Mach.outsW_len];exact ⟨rfl,rfl⟩
    clear HC2 hb4 hs4 j0 j1 j2 j3 hB3 HS3 hl3 hl4
    go_wp2_with fail
    refine (HC3.out).mono ?_
    rintro e w5 ⟨rfl,hn5⟩
    obtain ⟨n5,rfl⟩:=hn5.out
    clear hn5
    have hB5:=bl_drewN hB4 n5
    generalize w4.drewN n5=w5 at*
    clear HC3 hB4 HS4
    obtain ⟨q,hqn⟩:∃q,q=comW l3' l4':=⟨_,rfl⟩
    rw [←hqn]
    have HQ:=Lib.hid hqn
    clear hqn
    by_cases hq:l3'=l4'
    ·have hqx:q=x.length:=by rw [HQ.out,hq,comW_self,←hq];exact hEl.out.1
     have hcd:decide ((q:Int)<(x.length:Int))=false:=by rw [hqx];simp
     have hcd2:¬((q:Int)<(x.length:Int)):=by rw [hqx];omega
     have hT1:Hid (∀x∈L.take (k+1),m.outsW m.start x=i.outsW i.start x):=by
      have h1:=hE.out
      intro y hy
      rw [List.take_add_one,hx.out] at hy
      rcases List.mem_append.1 hy with hy|hy
      ·exact hT.out y hy
      simp at hy
      rw [hy,←h1.1,←h1.2,hq]
     clear hq hqx
     go_wp2
     go_roundw
     case rel=>exact ⟨k+1,by omega,by go_num,hT1,hB5⟩
     case measure=>simp [intOf];omega
    have hlc:=Lib.hid (comW_lt (by have:=hEl.out;omega) hq)
    have hcx:q<x.length:=by have:=hlc.out;have:=hEl.out.1;have:=HQ.out;omega
    have hcd:decide ((q:Int)<(x.length:Int))=true:=by simp;omega
    have hNo:Hid (PassR m i L false):=by
     unfold Hid PassR
     refine ⟨fun h=>by simp at h,fun h=> ?_⟩
     have h1:=h x (List.mem_of_getElem? hx.out)
     exact absurd (by rw [hE.out.1,hE.out.2];exact h1) hq
    have hx5:=HX.out.below hB5
    have htk:=take_sl hx5 (q+1) (by omega)
    have hcap:=hx5.1
    have hwq:IntKind.i64.wrap ((q:Int)+1)=(q:Int)+1:=IntWalk.i64_in _ (by have:=hxl.out;omega)
    have hro:=rows1 (T:=45) htk.1 htk.2.symm
    have HJ:=Lib.hid (join_any hro (by have:=htk.2;have:=hxl.out;simp;omega))
    have hba:=(Below.refl w5.heap.size w5).alloc (Nat.le_refl _) (.cells #[.slice ax (q+1) cx] 45)
    have hB6:=hB5.trans (hba.mono hB5.size)
    clear hq hx5 htk hro hba hB5
    go_wp2_with fail
    refine (HJ.out).mono ?_
    rintro e w7 ⟨a7,c7,l7,rfl, -, -,hb7⟩
    have hB7:=(HS.out _ (hB6.trans (hb7.mono hB6.size))).2.2.2.2
    clear HJ hb7 hB6
    go_wp2
    exact bodyPost_ret (v:= .tuple #[.slice a7 l7.length c7,.bool false,.int .i64 0]) (by simp [results,Tryz.results29,go_sem]) rfl ⟨a7,c7,l7,false,rfl,hNo,hB7⟩
   have hYes:Hid (PassR m i L true):=⟨fun _ x hx=>hT.out x (by rw [List.take_of_length_le (by omega)];exact hx),fun _=>rfl⟩
   have hBf:=hSo.2.2.2.2
   clear hSo
   go_wp2
   exact bodyPost_ret (v:= .tuple #[.slice none 0 0,.bool true,.int .i64 0]) (by simp [results,Tryz.results29,go_sem]) rfl ⟨none,0,[],true,rfl,hYes,hBf⟩
end
end Go.Proofs.YtknhegdepbmmlaaGreat
namespace Go.Proofs.YtknhegdepbmmlaaGreat
theorem le_of_sub:∀{l l':List Int},l.Nodup→(∀x∈l,x∈l')→l.length≤l'.length
 |[],_,_,_=>Nat.zero_le _
 |x::l,l',hd,hs=>by
  rw [List.nodup_cons] at hd
  have h1:=hs x (by simp)
  have h2:=le_of_sub (l:=l) (l':=l'.erase x) hd.2 fun y hy=>(List.mem_erase_of_ne (fun e:y=x=>hd.1 (e▸hy))).2 (hs y (by simp [hy]))
  rw [List.length_erase_of_mem h1] at h2
  have:=List.length_pos_of_mem h1
  rw [List.length_cons];omega
theorem filter_le {α:Type} {p q:α→Bool}:∀{l:List α},(∀x∈l,p x=true→q x=true)→(l.filter p).length≤(l.filter q).length∧((l.filter p).length=(l.filter q).length→∀x∈l,q x=true→p x=true)
 |[],_=>⟨Nat.le_refl _,fun _ x hx=>by simp at hx⟩
 |y::l,h=>by
  obtain ⟨h1,h2⟩:=filter_le (p:=p) (q:=q) (l:=l) fun x hx=>h x (by simp [hx])
  have h3:=h y (by simp)
  cases hp:p y with
  |true=>
   rw [List.filter_cons_of_pos hp,List.filter_cons_of_pos (h3 hp)]
   refine ⟨by simpa using h1,fun e x hx hq=> ?_⟩
   rcases List.mem_cons.1 hx with rfl|hx
   ·exact hp
   exact h2 (by simpa using e) x hx hq
  |false=>
   rw [List.filter_cons_of_neg (by simp [hp])]
   cases hq:q y with
   |true=>
    rw [List.filter_cons_of_pos hq,List.length_cons]
    exact ⟨by omega,fun e=>by omega⟩
   |false=>
    rw [List.filter_cons_of_neg (by simp [hq])]
    refine ⟨h1,fun e x hx hqx=> ?_⟩
    rcases List.mem_cons.1 hx with rfl|hx
    ·rw [hq] at hqx;simp at hqx
    exact h2 e x hx hqx
theorem grows_stop {α:Type} {l:List α} {A:Nat→α→Bool} (hm:∀j x,x∈l→A j x=true→A (j+1) x=true) (hst:∀j,(∀x∈l,A (j+1) x=true→A j x=true)→∀x∈l,A (j+2) x=true→A (j+1) x=true) {n k:Nat} (h0:n≤(l.filter (A 0)).length) (hl:l.length≤n+k):
    ∀x∈l,A (k+1) x=true→A k x=true:=by
 refine Classical.byContradiction fun hn=> ?_
 have h1:∀j,j≤k→¬∀x∈l,A (j+1) x=true→A j x=true:=by
  intro j hj hs
  have h2:∀i,∀x∈l,A (j+i+1) x=true→A (j+i) x=true:=by
   intro i
   induction i with
   |zero=>exact hs
   |succ i ih=>exact hst (j+i) ih
  have h3:=h2 (k-j)
  rw [show j+(k-j)=k by omega] at h3
  exact hn h3
 have h2:∀j,j≤k+1→n+j≤(l.filter (A j)).length:=by
  intro j
  induction j with
  |zero=>intro _;exact h0
  |succ j ih=>
   intro hj
   have h3:=ih (by omega)
   obtain ⟨h4,h5⟩:=filter_le (p:=A j) (q:=A (j+1)) (l:=l) (hm j)
   by_cases e:(l.filter (A j)).length=(l.filter (A (j+1))).length
   ·exact absurd (h5 e) (h1 j (by omega))
   omega
 have h3:=h2 (k+1) (Nat.le_refl _)
 have h4:=List.length_filter_le (A (k+1)) l
 omega
namespace Mach
variable {n i:Mach}
theorem end_reach (ok:i.Ok):∀(w:List Int) (s:Int),s∈i.reach→i.okS w→i.endW s w∈i.reach
 |[],s,hs,_=>hs
 |y::w,s,hs,hw=>by
  obtain ⟨⟨y0,y1⟩,hw2⟩:=okS_cons hw
  have hr:=(reach_props ok).2.1 _ hs
  exact end_reach ok w _ (reach_closed ok hs (nx_mem ok (by omega) (by omega))) hw2
theorem cov_head:∀k,(n.cov k)[0]? =some ⟨n.start,[]⟩
 |0=>rfl
 |k+1=>by
  have ih:=cov_head k
  unfold cov
  split
  ·obtain ⟨s,hs⟩:=covRow_prefix (n.cov k) ((n.cov k).getD k ⟨0,[]⟩).word (n.next.getD ((n.cov k).getD k ⟨0,[]⟩).s.toNat []) (n.next.getD ((n.cov k).getD k ⟨0,[]⟩).s.toNat []).length
   rw [hs,List.getElem?_append_left (some_lt ih)];exact ih
  exact ih
def Acx (n:Mach) (j:Nat) (u:List Int):Prop:=∃p∈n.covW.map Pc.word,∃x,n.okS x∧x.length≤j∧u=p++x
theorem acx_ok (ok:n.Ok) {j:Nat} {u:List Int} (h:n.Acx j u):n.okS u:=by
 obtain ⟨p,hp,x,hx, -,rfl⟩:=h
 obtain ⟨q,hq,rfl⟩:=List.mem_map.1 hp
 obtain ⟨-, -,q1, -, -⟩:=cov_all ok n.next.length q hq
 intro y hy
 rcases List.mem_append.1 hy with hy|hy
 ·exact q1 y hy
 exact hx y hy
theorem acx_step {j:Nat} {u:List Int} {y:Int} (h:n.Acx j u) (h0:0≤y∧y<n.inputs):n.Acx (j+1) (u++[y]):=by
 obtain ⟨p,hp,x,hx,hl,rfl⟩:=h
 refine ⟨p,hp,x++[y],fun z hz=> ?_,by simp;omega,by simp⟩
 rcases List.mem_append.1 hz with hz|hz
 ·exact hx z hz
 rw [List.mem_singleton.1 hz];exact h0
theorem acx_up {j k:Nat} {u:List Int} (h:n.Acx j u) (hk:j≤k):n.Acx k u:=by
 obtain ⟨p,hp,x,hx,hl,rfl⟩:=h
 exact ⟨p,hp,x,hx,by omega,rfl⟩
theorem acx_nil:n.Acx 0 []:=⟨[],List.mem_map.2 ⟨_,List.mem_of_getElem? (cov_head _),rfl⟩,[],fun y hy=>by simp at hy,by simp,rfl⟩
theorem acx_pop {j:Nat} {u:List Int} (h:n.Acx (j+1) u):n.Acx j u∨∃v y,n.Acx j v∧(0≤y∧y<n.inputs)∧u=v++[y]:=by
 obtain ⟨p,hp,x,hx,hl,rfl⟩:=h
 by_cases e:x=[]
 ·exact .inl ⟨p,hp,[],fun y hy=>by simp at hy,by simp,by rw [e]⟩
 obtain ⟨v,y,rfl⟩:∃v y,x=v++[y]:=⟨x.dropLast,x.getLast e,(List.dropLast_concat_getLast e).symm⟩
 refine .inr ⟨p++v,y,⟨p,hp,v,fun z hz=>hx z (by simp [hz]),by simp at hl;omega,rfl⟩,hx y (by simp),by simp⟩
theorem end_ok {m:Mach} (ok:m.Ok) {u:List Int} (h:m.okS u):0≤m.endW m.start u∧m.endW m.start u<m.next.length:=endW_range ok u _ ok.s0 ok.s1 h
def HarmI (n:Mach) (ids:List (List (List Int))):Prop:=∀s t:Nat,s<n.next.length→t<n.next.length→s≠t→∃a∈ids.getD s [],∃b∈ids.getD t [],n.Harm (s:Int) (t:Int) a b
section
variable {ids:List (List (List Int))} {X:List (List Int)} {k:Nat}
theorem passes_sim (on:n.Ok) (oi:i.Ok) (hin:n.inputs=i.inputs) (hrn:n.reach.length=n.next.length) (hh:n.HarmI ids) (hX:∀x,n.okS x→x.length≤k+1→x∈X)
    (hp:∀w∈suOut n ids (n.covW.map Pc.word) X,n.outsW n.start w=i.outsW i.start w) (hr:i.reach.length≤n.next.length+k):Sim n i n.start i.start:=by
 have hsw:∀{u:List Int},n.okS u→i.okS u:=fun h=>okS_swap hin.symm h
 -- all words behind
 have h1:∀u,n.Acx (k+1) u→∀v∈tailW n ids u,n.outsW n.start (u++v)=i.outsW i.start (u++v):=by
  rintro u ⟨p,hpp,x,hx,hl,rfl⟩ v hv
  refine hp _ ?_
  unfold suOut
  refine List.mem_flatMap.2 ⟨p,hpp,?_⟩
  unfold sf
  refine List.mem_flatMap.2 ⟨x,hX x hx hl,?_⟩
  unfold sg
  exact List.mem_map.2 ⟨v,hv,rfl⟩
 have h2:∀u,n.Acx (k+1) u→n.outsW n.start u=i.outsW i.start u:=fun u hu=>by
  obtain ⟨v,hv⟩:=tailW_ne (m:=n) (ids:=ids) (w:=u)
  have h:=h1 u hu v hv
  rw [outsW_app,outsW_app] at h
  exact (List.append_inj h (by rw [outsW_len,outsW_len])).1
 have h3:∀u,n.Acx (k+1) u→∀v∈ids.getD (n.endW n.start u).toNat [],n.outsW (n.endW n.start u) v=i.outsW (i.endW i.start u) v:=fun u hu v hv=>by
  have h:=h1 u hu v (by
   unfold tailW
   split
   ·rename_i e;rw [e] at hv;simp at hv
   exact hv)
  rw [outsW_app,outsW_app] at h
  exact (List.append_inj h (by rw [outsW_len,outsW_len])).2
 -- different states of the one are different states of the other
 have h4:∀u v,n.Acx (k+1) u→n.Acx (k+1) v→i.endW i.start u=i.endW i.start v→n.endW n.start u=n.endW n.start v:=fun u v hu hv he=>by
  refine Classical.byContradiction fun hne=> ?_
  have r1:=end_ok on (acx_ok on hu)
  have r2:=end_ok on (acx_ok on hv)
  obtain ⟨a,ha,b,hb,hH⟩:=hh (n.endW n.start u).toNat (n.endW n.start v).toNat (by omega) (by omega) (by omega)
  have g1:=h3 u hu a ha
  have g2:=h3 v hv b hb
  have e1:(((n.endW n.start u).toNat:Nat):Int)=n.endW n.start u:=by omega
  have e2:(((n.endW n.start v).toNat:Nat):Int)=n.endW n.start v:=by omega
  rw [e1,e2] at hH
  apply hH
  have hab:a.take (comW a b)=b.take (comW a b):=comW_take a b
  rw [outsW_take,g1,he,hab,outsW_take,g2,←outsW_take,←outsW_take,hab]
 -- the states that are reached behind the access words
 classical
 have hAst:∀j,∀x∈i.reach,decide (∃u,n.Acx j u∧i.endW i.start u=x)=true→decide (∃u,n.Acx (j+1) u∧i.endW i.start u=x)=true:=fun j x _ h=>by
  obtain ⟨u,hu,he⟩:=of_decide_eq_true h
  exact decide_eq_true ⟨u,acx_up hu (by omega),he⟩
 have hst:=grows_stop (l:=i.reach) (A:=fun j x=>decide (∃u,n.Acx j u∧i.endW i.start u=x)) hAst (fun j hj x hx h=>by
  obtain ⟨u,hu,rfl⟩:=of_decide_eq_true h
  rcases acx_pop hu with hu|⟨v,y,hv,hy,rfl⟩
  ·exact decide_eq_true ⟨u,hu,rfl⟩
  ·have hiv:=hsw (acx_ok on hv)
   obtain ⟨v',hv',e⟩:=of_decide_eq_true (hj (i.endW i.start v) (end_reach oi v _ (start_mem oi) hiv) (decide_eq_true ⟨v,hv,rfl⟩))
   exact decide_eq_true ⟨v'++[y],acx_step hv' hy,by rw [endW_snoc,endW_snoc,e]⟩) (n:=n.next.length) (k:=k) (by
  refine Nat.le_trans ?_ (le_of_sub (l:=(n.covW.map Pc.word).map fun p=>i.endW i.start p) ?_ fun x hx=> ?_)
  ·rw [List.length_map,List.length_map];unfold covW;rw [cov_len];exact Nat.le_of_eq hrn.symm
  ·have hnd:(n.covW.map Pc.s).Nodup:=by unfold covW;rw [cov_states];exact (bfs_props on _).1
   have hgen:∀L:List Pc,(∀q∈L,q∈n.covW)→(L.map Pc.s).Nodup→((L.map Pc.word).map fun p=>i.endW i.start p).Nodup:=by
    intro L
    induction L with
    |nil=>intro _ _;simp
    |cons q L ih=>
     intro hs hd
     rw [List.map_cons,List.nodup_cons] at hd
     rw [List.map_cons,List.map_cons,List.nodup_cons]
     refine ⟨fun hm=> ?_,ih (fun r hr=>hs r (by simp [hr])) hd.2⟩
     rw [List.map_map] at hm
     obtain ⟨r,hr,he⟩:=List.mem_map.1 hm
     have hc:∀{q:Pc},q∈n.covW→n.Acx (k+1) q.word∧n.endW n.start q.word=q.s:=fun {q} hq=>
      ⟨⟨q.word,List.mem_map_of_mem hq,[],fun y hy=>by simp at hy,by simp,by simp⟩,(cov_all on n.next.length q hq).2.2.2.2⟩
     have c1:=hc (hs r (by simp [hr]))
     have c2:=hc (hs q (by simp))
     have:=h4 r.word q.word c1.1 c2.1 he
     rw [c1.2,c2.2] at this
     exact hd.1 (this▸List.mem_map_of_mem hr)
   exact hgen n.covW (fun q hq=>hq) hnd
  obtain ⟨p,hpp,rfl⟩:=List.mem_map.1 hx
  have ha:n.Acx 0 p:=⟨p,hpp,[],fun y hy=>by simp at hy,by simp,by simp⟩
  exact List.mem_filter.2 ⟨end_reach oi p _ (start_mem oi) (hsw (acx_ok on ha)),decide_eq_true ⟨p,ha,rfl⟩⟩) hr
 have h5:∀u,n.Acx (k+1) u→∃v,n.Acx k v∧i.endW i.start v=i.endW i.start u∧n.endW n.start v=n.endW n.start u:=fun u hu=>by
  obtain ⟨v,hv,he⟩:=of_decide_eq_true (hst (i.endW i.start u) (end_reach oi u _ (start_mem oi) (hsw (acx_ok on hu))) (decide_eq_true ⟨u,hu,rfl⟩))
  exact ⟨v,hv,he,h4 v u (acx_up hv (by omega)) hu he⟩
 have h6:∀(c:Nat) (w:List Int),w.length=c→n.okS w→n.outsW n.start w=i.outsW i.start w∧∃u,n.Acx k u∧i.endW i.start u=i.endW i.start w∧n.endW n.start u=n.endW n.start w:=by
  intro c
  induction c with
  |zero=>
   intro w hl hw
   obtain rfl:w=[]:=List.eq_nil_of_length_eq_zero hl
   exact ⟨rfl,[],acx_up acx_nil (by omega),rfl,rfl⟩
  |succ c ih=>
   intro w hl hw
   obtain ⟨v,y,rfl⟩:∃v y,w=v++[y]:=⟨w.dropLast,w.getLast (by intro e;rw [e] at hl;simp at hl),(List.dropLast_concat_getLast _).symm⟩
   obtain ⟨hv,hy⟩:=okS_app hw
   have hy1:=hy y (by simp)
   obtain ⟨g1,u,g2,g3,g4⟩:=ih v (by simpa using hl) hv
   have g5:=acx_step g2 hy1
   have g6:=h2 _ g5
   rw [outsW_snoc,outsW_snoc] at g6
   have g7:=(List.append_inj g6 (by rw [outsW_len,outsW_len])).2
   rw [g3,g4] at g7
   obtain ⟨u',k1,k2,k3⟩:=h5 _ g5
   refine ⟨by rw [outsW_snoc,outsW_snoc,g1,g7],u',k1,?_,?_⟩
   ·rw [k2,endW_snoc,endW_snoc,g3]
   rw [k3,endW_snoc,endW_snoc,g4]
 intro w hw
 exact (h6 w.length w rfl hw).1
end
theorem suW_complete {m:Mach} (ok:m.Ok) (oi:i.Ok) (hin:m.inputs=i.inputs) (n8:m.next.length≤8) {extra:Int} (h0:0≤extra) (h3:extra≤3) (h:(m.suW extra).2=0)
    (hp:∀w∈(m.suW extra).1,m.outsW m.start w=i.outsW i.start w) (hr:(i.reach.length:Int)≤(m.minF.next.length:Int)+extra):Sim m i m.start i.start:=by
 obtain ⟨g1,g2,g3,g4⟩:=minF_min ok
 obtain ⟨b1,b2⟩:=adsB_8 g1 (by omega)
 have b3:=adsB_chk (n:=m.minF) (by rw [b1])
 rw [b1] at b3
 have okt:=minF_ok ok
 obtain ⟨u0,u1⟩:=suW_0 ok n8 h0 h3 h
 have hmm:=minF_start ok
 have hwords:=suW_words ok n8 h0 h3 h
 have hsim:Sim m.minF i m.minF.start i.start:=by
  refine passes_sim (k:=extra.toNat) (ids:=(m.minF.idE m.minF.adsL).1) (X:=(uptW m.inputs (extra+1)).1) okt oi hin (minF_reach ok) (fun s t hs ht hne=> ?_) (fun x hx hl=> ?_) (fun w hw=> ?_) (by omega)
  ·have hlen : (m.minF.idE m.minF.adsL).1.length = m.minF.next.length := by
     unfold idE;rw [if_neg (by simp [b3])];unfold ids;simp
   obtain ⟨A,hA⟩:∃A,(m.minF.idE m.minF.adsL).1[s]? =some A:=⟨_,List.getElem?_eq_getElem (by omega)⟩
   obtain ⟨B,hB⟩:∃B,(m.minF.idE m.minF.adsL).1[t]? =some B:=⟨_,List.getElem?_eq_getElem (by omega)⟩
   rw [getD_of_some hA,getD_of_some hB]
   exact harmonyI okt (minErr_ok g1).2 b3 hs ht hne hA hB
  ·exact uptW_all (by omega) u0 x (fun y hy=>hx y hy) (by omega)
  obtain ⟨v,hv,z,rfl⟩:=maxW_above hw
  rw [←u1] at hv
  have e1:=hp _ hv
  have e2:=hmm (w++z) ((okS_of (hwords _ hv)).1)
  rw [e2,outsW_app,outsW_app] at e1
  exact (List.append_inj e1 (by rw [outsW_len,outsW_len])).1
 exact Sim.trans (a:=m) (b:=m.minF) (rfl:m.inputs=m.minF.inputs) hmm hsim
end Mach
end Go.Proofs.YtknhegdepbmmlaaGreat
namespace Go.Proofs.YtknhegdepbmmlaaGreat
open Go.RowKit
section
variable {M MT:Nat→Prop} {w:World} {an ao aT:Option Addr} {cn co cT:Nat} {m:Mach} {T:List Nd}
theorem small11_v (hm:Ma M w an cn ao co m) {v:Bool} (h:m.small11=v):
    Calls Tryz.prog 9 #[maV m an cn ao co] w fun e w'=>e= .returned (.bool v)∧Below w.heap.size w w':=by rw [←h];exact small11_any hm
end
theorem dist_sim31 {a b:Mach} (hc:chk a b=0):distW a b=none↔Mach.Sim a b a.start b.start:=by
 obtain ⟨ea,eb,hi⟩:=chk_zero hc
 have oa:=a.ok_of_err ea
 have ob:=b.ok_of_err eb
 unfold distW
 rw [if_pos hc]
 exact first_iff oa ob hi ⟨oa.s0,oa.s1⟩ ⟨ob.s0,ob.s1⟩
theorem suW_nil {m:Mach} (ok:m.Ok) (n8:m.next.length≤8) {extra:Int} (h0:0≤extra) (h3:extra≤3) (h:(m.suW extra).2=11):(m.suW extra).1=[]:=by
 rw [Mach.suW_8 ok n8 h0 h3] at h ⊢
 split
 ·rfl
 rename_i e1
 rw [if_neg e1] at h
 split
 ·rfl
 rename_i e2
 rw [if_neg e2] at h
 simp at h
section
variable {M Mi:Nat→Prop} {w:World} {an ao bn bo:Option Addr} {cn co dn dd:Nat} {m i:Mach}
theorem completeLaw_any (hm:Ma M w an cn ao co m) (hi:Ma Mi w bn dn bo dd i) (extra:Int) (hx8:0≤extra∧extra<256):Calls Tryz.prog 8 #[maV m an cn ao co,maV i bn dn bo dd,.int .u8 extra] w fun e w'=>e= .returned (.bool true)∧Below w.heap.size w w':=by
 have h0:Below w.heap.size w ((w.alloc (maO m an cn ao co)).alloc (maO i bn dn bo dd)):=((Below.refl _ _).alloc (Nat.le_refl _) _).alloc (by simp) _
 have hCa:C4 ((w.alloc (maO m an cn ao co)).alloc (maO i bn dn bo dd)) w.heap.size an cn ao co m:=(c4_new w).below (B:=w.heap.size+1) ((Below.refl _ _).alloc (by simp) _) (by omega)
 have hCb:C4 ((w.alloc (maO m an cn ao co)).alloc (maO i bn dn bo dd)) (w.heap.size+1) bn dn bo dd i:=by simpa using c4_new (m:=i) (an:=bn) (cn:=dn) (ao:=bo) (co:=dd) (w.alloc (maO m an cn ao co))
 have hz0:((w.alloc (maO m an cn ao co)).alloc (maO i bn dn bo dd)).heap.size=w.heap.size+2:=by simp
 have l1:=hm.next.le
 have l2:=hm.out.le
 have l3:=hi.next.le
 have l4:=hi.out.le
 have hxa:=hx8.1
 have hxb:=hx8.2
 have hM0:=(hm.below h0).ext (M':=fun _=>False) (Ext.sub_only fun _ _ h=>h.elim)
 have hI0:=(hi.below h0).ext (M':=fun _=>False) (Ext.sub_only fun _ _ h=>h.elim)
 clear hm hi hx8
 have hcase:m.small11=false∨(m.small11=true∧i.small11=false)∨(m.small11=true∧i.small11=true∧2<extra)∨(m.small11=true∧i.small11=true∧¬2<extra∧chk m i≠0)∨(m.small11=true∧i.small11=true∧¬2<extra∧chk m i=0):=by
  cases m.small11
  ·exact .inl rfl
  cases i.small11
  ·exact .inr (.inl ⟨rfl,rfl⟩)
  by_cases h1:2<extra
  ·exact .inr (.inr (.inl ⟨rfl,rfl,h1⟩))
  by_cases h2:chk m i=0
  ·exact .inr (.inr (.inr (.inr ⟨rfl,rfl,h1,h2⟩)))
  exact .inr (.inr (.inr (.inl ⟨rfl,rfl,h1,h2⟩)))
 go_enter Tryz.func8,Tryz.ntmps8
 go_upto_region 1 with (fail)
 generalize (w.alloc (maO m an cn ao co)).alloc (maO i bn dn bo dd)=w0 at*
 have HS:Hid (∀w',Below w0.heap.size w0 w'→(C4 w' w.heap.size an cn ao co m∧C4 w' (w.heap.size+1) bn dn bo dd i)∧Ma (fun _=>False) w' an cn ao co m∧Ma (fun _=>False) w' bn dn bo dd i∧Below w.heap.size w w'):=fun w' h=>
  ⟨⟨hCa.below h (by omega),hCb.below h (by omega)⟩,hM0.below h,hI0.below h,h0.trans (h.mono (by omega))⟩
 have hBz:=Below.refl w0.heap.size w0
 have HSm:Hid (∀v,m.small11=v→Calls Tryz.prog 9 #[maV m an cn ao co] w0 fun e w'=>e= .returned (.bool v)∧Below w0.heap.size w0 w'):=fun v h=>small11_v hM0 h
 have hS0:=HS.out _ hBz
 clear hCa hCb hM0 hI0 h0
 obtain ⟨⟨⟨d0,d1,d2,d3⟩,⟨j0,j1,j2,j3⟩⟩, -⟩:=hS0
 rcases hcase with hs|⟨hs,hs2⟩|⟨hs,hs2,h1⟩|⟨hs,hs2,h1,h2⟩|⟨hs,hs2,h1,h2⟩
 ·have HSv:=Lib.hid (HSm.out _ hs)
  clear hs HSm
  go_wp2_with fail
  refine (HSv.out).mono ?_
  rintro e w1 ⟨rfl,hb1⟩
  have hB1:=(HS.out _ (hBz.trans hb1)).2.2.2
  clear d0 d1 d2 d3 j0 j1 j2 j3
  go_wp2_with fail
  refine (ex31_any (w:=w1)).mono ?_
  rintro e w3 ⟨rfl,hb3⟩
  have hB3:=hB1.trans (hb3.mono hB1.size)
  go_wp2
  go_ret
  exact ⟨rfl,hB3⟩
 ·have HSv:=Lib.hid (HSm.out _ hs)
  clear hs HSm
  go_wp2_with fail
  refine (HSv.out).mono ?_
  rintro e w1 ⟨rfl,hb1⟩
  have hB1:=hBz.trans hb1
  have hS1:=HS.out _ hB1
  have HSv2:=Lib.hid (small11_v hS1.2.2.1 hs2)
  clear d0 d1 d2 d3 j0 j1 j2 j3 hs2
  obtain ⟨⟨⟨d0,d1,d2,d3⟩,⟨j0,j1,j2,j3⟩⟩, -⟩:=hS1
  go_wp2_with fail
  refine (HSv2.out).mono ?_
  rintro e w2 ⟨rfl,hb2⟩
  have hB2:=(HS.out _ (hB1.trans (hb2.mono hB1.size))).2.2.2
  clear d0 d1 d2 d3 j0 j1 j2 j3
  go_wp2_with fail
  refine (ex31_any (w:=w2)).mono ?_
  rintro e w3 ⟨rfl,hb3⟩
  have hB3:=hB2.trans (hb3.mono hB2.size)
  go_wp2
  go_ret
  exact ⟨rfl,hB3⟩
 ·have HSv:=Lib.hid (HSm.out _ hs)
  have h1d:decide (2<extra)=true:=decide_eq_true h1
  clear hs HSm h1
  go_wp2_with fail
  refine (HSv.out).mono ?_
  rintro e w1 ⟨rfl,hb1⟩
  have hB1:=hBz.trans hb1
  have hS1:=HS.out _ hB1
  have HSv2:=Lib.hid (small11_v hS1.2.2.1 hs2)
  clear d0 d1 d2 d3 j0 j1 j2 j3 hs2
  obtain ⟨⟨⟨d0,d1,d2,d3⟩,⟨j0,j1,j2,j3⟩⟩, -⟩:=hS1
  go_wp2_with fail
  refine (HSv2.out).mono ?_
  rintro e w2 ⟨rfl,hb2⟩
  have hB2:=(HS.out _ (hB1.trans (hb2.mono hB1.size))).2.2.2
  clear d0 d1 d2 d3 j0 j1 j2 j3
  go_wp2_with fail
  refine (ex31_any (w:=w2)).mono ?_
  rintro e w3 ⟨rfl,hb3⟩
  have hB3:=hB2.trans (hb3.mono hB2.size)
  go_wp2
  go_ret
  exact ⟨rfl,hB3⟩
 ·have HSv:=Lib.hid (HSm.out _ hs)
  have h1d:decide (2<extra)=false:=decide_eq_false h1
  have h2d:(chk m i !=0)=true:=by simp [h2]
  clear hs HSm h1 h2
  go_wp2_with fail
  refine (HSv.out).mono ?_
  rintro e w1 ⟨rfl,hb1⟩
  have hB1:=hBz.trans hb1
  have hS1:=HS.out _ hB1
  have HSv2:=Lib.hid (small11_v hS1.2.2.1 hs2)
  clear d0 d1 d2 d3 j0 j1 j2 j3 hs2
  obtain ⟨⟨⟨d0,d1,d2,d3⟩,⟨j0,j1,j2,j3⟩⟩, -⟩:=hS1
  go_wp2_with fail
  refine (HSv2.out).mono ?_
  rintro e w2 ⟨rfl,hb2⟩
  have hB2:=hB1.trans (hb2.mono hB1.size)
  have hS2:=HS.out _ hB2
  have HCk:=Lib.hid (checkR_any hS2.2.1 hS2.2.2.1)
  clear d0 d1 d2 d3 j0 j1 j2 j3 HSv2
  obtain ⟨⟨⟨d0,d1,d2,d3⟩,⟨j0,j1,j2,j3⟩⟩, -⟩:=hS2
  go_wp2_with fail
  refine (HCk.out).mono ?_
  rintro e w3 ⟨rfl,hb3⟩
  have hB3:=(HS.out _ (hB2.trans (hb3.mono hB2.size))).2.2.2
  clear d0 d1 d2 d3 j0 j1 j2 j3
  go_wp2_with fail
  refine (ex31_any (w:=w3)).mono ?_
  rintro e w4 ⟨rfl,hb4⟩
  have hB4:=hB3.trans (hb4.mono hB3.size)
  go_wp2
  go_ret
  exact ⟨rfl,hB4⟩
 have HSv:=Lib.hid (HSm.out _ hs)
 have h1d:decide (2<extra)=false:=decide_eq_false h1
 have h2d:(chk m i !=0)=false:=by simp [h2]
 have hz3:=chk_zero h2
 have om:Hid m.Ok:=m.ok_of_err hz3.1
 have oi:Hid i.Ok:=i.ok_of_err hz3.2.1
 have hin:Hid (m.inputs=i.inputs):=hz3.2.2
 have hck:Hid (chk m i=0):=h2
 have n8:=Lib.hid (Mach.small11_t hs).1
 have i8:=Lib.hid (Mach.small11_t hs2).1
 have hex:extra≤2:=by omega
 clear hs HSm h1 h2 hz3
 go_wp2_with fail
 refine (HSv.out).mono ?_
 rintro e w1 ⟨rfl,hb1⟩
 have hB1:=hBz.trans hb1
 have hS1:=HS.out _ hB1
 have HSv2:=Lib.hid (small11_v hS1.2.2.1 hs2)
 clear d0 d1 d2 d3 j0 j1 j2 j3 hs2 HSv
 obtain ⟨⟨⟨d0,d1,d2,d3⟩,⟨j0,j1,j2,j3⟩⟩, -⟩:=hS1
 go_wp2_with fail
 refine (HSv2.out).mono ?_
 rintro e w2 ⟨rfl,hb2⟩
 have hB2:=hB1.trans (hb2.mono hB1.size)
 have hS2:=HS.out _ hB2
 have HCk:=Lib.hid (checkR_any hS2.2.1 hS2.2.2.1)
 clear d0 d1 d2 d3 j0 j1 j2 j3 HSv2
 obtain ⟨⟨⟨d0,d1,d2,d3⟩,⟨j0,j1,j2,j3⟩⟩, -⟩:=hS2
 go_wp2_with fail
 refine (HCk.out).mono ?_
 rintro e w3 ⟨rfl,hb3⟩
 have hB3:=hB2.trans (hb3.mono hB2.size)
 have hS3:=HS.out _ hB3
 have HSu:=Lib.hid (suite_any hS3.2.1 extra)
 clear d0 d1 d2 d3 j0 j1 j2 j3 HCk hB2 hb3 hB1 hb1 hb2 hBz
 obtain ⟨⟨⟨d0,d1,d2,d3⟩,⟨j0,j1,j2,j3⟩⟩, -⟩:=hS3
 go_wp2_with fail
 refine (HSu.out).mono ?_
 rintro e w4 ⟨a4,c4,L4,e4,rfl,hE4,hS4,hb4⟩
 have hB4:=hB3.trans (hb4.mono hB3.size)
 have hz4:=hB4.size
 have HS4:=Lib.hid (hS4.anti (M':=fun _=>False) fun _ _ h=>h.elim)
 have hl4:=hS4.le
 have hE2:Hid ((m.suW extra).1=L4∧(m.suW extra).2=e4):=by unfold Hid;rw [hE4.out];exact ⟨rfl,rfl⟩
 have he01:e4=0∨e4=11:=by rw [←hE2.out.2];exact Mach.suW_err om.out n8.out hxa (by omega)
 clear d0 d1 d2 d3 j0 j1 j2 j3 HSu hb4 hS4 hB3
 rcases he01 with rfl|rfl
 ·have hS:=HS.out _ hB4
  have ht0:=min_any hS.2.1
  rw [Mach.err_of_ok _ om.out] at ht0
  have HMi:=Lib.hid ht0
  obtain ⟨⟨⟨d0,d1,d2,d3⟩,⟨j0,j1,j2,j3⟩⟩, -⟩:=hS
  clear ht0
  go_wp2_with fail
  refine (HMi.out).mono ?_
  rintro e w5 ⟨an5,cn5,ao5,co5,t,rfl,ht,hMt,hb5⟩
  have hB5:=hB4.trans (hb5.mono hz4)
  have hz5:=hB5.size
  have htE:Hid (t=m.minF):=by unfold Hid;rw [ht.out,Mach.minOf_eq (Mach.err_of_ok _ om.out)]
  have HS5:=Lib.hid (HS4.out.below hb5)
  have lt1:=hMt.next.le
  have lt2:=hMt.out.le
  clear d0 d1 d2 d3 j0 j1 j2 j3 hB4 hz4 HMi hMt hb5 HS4
  go_upto_region 7 with (fail)
  have hba:=(Below.refl w5.heap.size w5).alloc (Nat.le_refl _) (maO t an5 cn5 ao5 co5)
  have hc6:C4 (w5.alloc (maO t an5 cn5 ao5 co5)) w5.heap.size an5 cn5 ao5 co5 t:=c4_new w5
  have hB6:=hB5.trans (hba.mono hz5)
  have HS6:=Lib.hid (HS5.out.below hba)
  have hz6:w5.heap.size<(w5.alloc (maO t an5 cn5 ao5 co5)).heap.size:=by simp
  have HTc:Hid (∀w',Below (w5.alloc (maO t an5 cn5 ao5 co5)).heap.size (w5.alloc (maO t an5 cn5 ao5 co5)) w'→w'.cell? ⟨w5.heap.size,2,none⟩=some (.slice an5 t.next.length cn5)):=fun w' h=>(C4.below hc6 h hz6).2.2.1
  clear hba hB5 HS5 hc6
  generalize w5.alloc (maO t an5 cn5 ao5 co5)=w6 at*
  have hBt:=Below.refl w6.heap.size w6
  have hww:Hid (∀x∈L4,wErr x m.inputs=0):=by
   have h1:=Mach.suW_words om.out n8.out hxa (by omega) hE2.out.2
   rw [hE2.out.1] at h1
   exact h1
  have hS6:=HS.out _ hB6
  have HPa:=Lib.hid (passes_any hS6.2.1 hS6.2.2.1 HS6.out om oi hin hww)
  obtain ⟨⟨⟨d0,d1,d2,d3⟩,⟨j0,j1,j2,j3⟩⟩, -⟩:=hS6
  have hz60:=hB6.size
  go_wp2_with fail
  refine (HPa.out).mono ?_
  rintro e w7 ⟨a7,c7,l7,v,rfl,hv,hb7⟩
  have hB7:=hB6.trans (hb7.mono hz60)
  have hBt7:=hBt.trans hb7
  have hS7:=HS.out _ hB7
  have HE0:=eqm_any hS7.2.1 hS7.2.2.1
  rw [hck.out] at HE0
  have HEq:=Lib.hid HE0
  clear d0 d1 d2 d3 j0 j1 j2 j3 HPa hb7 hB6 hBt HE0 HS6
  obtain ⟨⟨⟨d0,d1,d2,d3⟩,⟨j0,j1,j2,j3⟩⟩, -⟩:=hS7
  have hz7:=hB7.size
  go_wp2_with fail
  refine (HEq.out).mono ?_
  rintro e w8 ⟨f,rfl,hf,hb8⟩
  have hB8:=hB7.trans (hb8.mono hz7)
  have hBt8:=hBt7.trans (hb8.mono hBt7.size)
  clear d0 d1 d2 d3 j0 j1 j2 j3 HEq hb8 hB7 hBt7
  have hfs:Hid (f=true↔Mach.Sim m i m.start i.start):=by
   have h1:=dist_sim31 hck.out
   unfold Hid
   rw [hf.out,decide_eq_true_iff,←h1]
   exact ⟨fun h=>h.2,fun h=>⟨by simp,h⟩⟩
  have hfv:Hid (f=true→v=true):=fun h=>hv.out.2 fun x hx=>(hfs.out.1 h) x (Mach.okS_of (hww.out x hx)).1
  have hz8:=hB8.size
  cases f with
  |true=>
   have hvt:v=true:=hfv.out rfl
   subst hvt
   go_upto_region 11 with (fail)
   refine wp_region_L (fun w'=>C4 w' (w.heap.size+1) bn dn bo dd i∧w'.cell? ⟨w5.heap.size,2,none⟩=some (.slice an5 t.next.length cn5)) [0,1,2,3,4,5,6,7,8,9,10,11,12,13,14,15,16,17,19,20] (by kernel_rfl) ?_
   have hbd:=(Below.refl w8.heap.size w8).drew
   have hB9:=hB8.trans (hbd.mono hz8)
   have hBt9:=hBt8.trans (hbd.mono hBt8.size)
   have hS9:=And.intro (HS.out _ hB9).1.2 (HTc.out _ hBt9)
   clear hbd hB8 hBt8
   generalize w8.drew=w9 at*
   refine skL_on [0,1] ?_
   repeat (refine skL_take (v:= ?_) rfl ?_ ?_;rotate_left;(focus (intro w' hSw;(try dsimp only at hSw);go_simp;try with_reducible rfl));try simp only [Act.put,List.setIfInBounds_toArray,List.set_cons_zero,List.set_cons_succ])
   refine skL_off ?_
   refine wpAnyL_skip (i:=2) (by kernel_rfl) rfl rfl (by assumption) ?_
   try simp only [Act.put,List.setIfInBounds_toArray,List.set_cons_zero,List.set_cons_succ]
   refine wpAnyL_skip (i:=3) (by kernel_rfl) rfl rfl (by assumption) ?_
   try simp only [Act.put,List.setIfInBounds_toArray,List.set_cons_zero,List.set_cons_succ]
   refine skL_on [4,5] ?_
   repeat (refine skL_take (v:= ?_) rfl ?_ ?_;rotate_left;(focus (intro w' hSw;(try dsimp only at hSw);go_simp;try with_reducible rfl));try simp only [Act.put,List.setIfInBounds_toArray,List.set_cons_zero,List.set_cons_succ])
   refine skL_off ?_
   refine wpAnyL_take (i:=6) (v:=undef) rfl (by kernel_rfl) (by kernel_rfl) (by kernel_rfl) (by kernel_rfl) (fun _ _ _ h=>h) (Or.inr ⟨by rfl,rfl⟩) (by assumption) ?_
   try simp only [Act.put,List.setIfInBounds_toArray,List.set_cons_zero,List.set_cons_succ]
   refine wpAnyL_take (i:=9) (v:=undef) rfl (by kernel_rfl) (by kernel_rfl) (by kernel_rfl) (by kernel_rfl) (fun _ _ _ h=>h) (Or.inr ⟨by rfl,rfl⟩) (by assumption) ?_
   try simp only [Act.put,List.setIfInBounds_toArray,List.set_cons_zero,List.set_cons_succ]
   refine wpAnyL_take (i:=10) (v:=undef) rfl (by kernel_rfl) (by kernel_rfl) (by kernel_rfl) (by kernel_rfl) (fun _ _ _ h=>h) (Or.inr ⟨by rfl,rfl⟩) (by assumption) ?_
   try simp only [Act.put,List.setIfInBounds_toArray,List.set_cons_zero,List.set_cons_succ]
   refine wpAnyL_take (i:=11) (v:=undef) rfl (by kernel_rfl) (by kernel_rfl) (by kernel_rfl) (by kernel_rfl) (fun _ _ _ h=>h) (Or.inr ⟨by rfl,rfl⟩) (by assumption) ?_
   try simp only [Act.put,List.setIfInBounds_toArray,List.set_cons_zero,List.set_cons_succ]
   refine wpAnyL_take (i:=12) (v:=undef) rfl (by kernel_rfl) (by kernel_rfl) (by kernel_rfl) (by kernel_rfl) (fun _ _ _ h=>h) (Or.inr ⟨by rfl,rfl⟩) (by assumption) ?_
   try simp only [Act.put,List.setIfInBounds_toArray,List.set_cons_zero,List.set_cons_succ]
   refine wpAnyL_take (i:=13) (v:=undef) rfl (by kernel_rfl) (by kernel_rfl) (by kernel_rfl) (by kernel_rfl) (fun _ _ _ h=>h) (Or.inr ⟨by rfl,rfl⟩) (by assumption) ?_
   try simp only [Act.put,List.setIfInBounds_toArray,List.set_cons_zero,List.set_cons_succ]
   refine wpAnyL_take (i:=14) (v:=undef) rfl (by kernel_rfl) (by kernel_rfl) (by kernel_rfl) (by kernel_rfl) (fun _ _ _ h=>h) (Or.inr ⟨by rfl,rfl⟩) (by assumption) ?_
   try simp only [Act.put,List.setIfInBounds_toArray,List.set_cons_zero,List.set_cons_succ]
   refine wpAnyL_skip (i:=7) (by kernel_rfl) rfl rfl (by assumption) ?_
   try simp only [Act.put,List.setIfInBounds_toArray,List.set_cons_zero,List.set_cons_succ]
   refine wpAnyL_skip (i:=8) (by kernel_rfl) rfl rfl (by assumption) ?_
   try simp only [Act.put,List.setIfInBounds_toArray,List.set_cons_zero,List.set_cons_succ]
   refine wpAnyL_skip (i:=15) (by kernel_rfl) rfl rfl (by assumption) ?_
   try simp only [Act.put,List.setIfInBounds_toArray,List.set_cons_zero,List.set_cons_succ]
   refine skL_on [16,17] ?_
   repeat (refine skL_take (v:= ?_) rfl ?_ ?_;rotate_left;(focus (intro w' hSw;(try dsimp only at hSw);go_simp;try with_reducible rfl));try simp only [Act.put,List.setIfInBounds_toArray,List.set_cons_zero,List.set_cons_succ])
   refine skL_off ?_
   refine wpAnyL_one (i:=18) (by kernel_rfl) rfl rfl (fun K hK=> ?_)
   go_simp
   refine (ex31_any (w:=w9)).mono ?_
   rintro e w10 ⟨rfl,hb10⟩
   have hB10:=hB9.trans (hb10.mono hB9.size)
   have hBt10:=hBt9.trans (hb10.mono hBt9.size)
   have hS10:=And.intro (HS.out _ hB10).1.2 (HTc.out _ hBt10)
   refine hK _ _ (fun _=>hS10) ?_
   clear hK K hS9
   refine skL_on [19,20] ?_
   repeat (refine skL_take (v:= ?_) rfl ?_ ?_;rotate_left;(focus (intro w' hSw;(try dsimp only at hSw);go_simp;try with_reducible rfl));try simp only [Act.put,List.setIfInBounds_toArray,List.set_cons_zero,List.set_cons_succ])
   refine skL_off ?_
   refine wpAnyL_done (by kernel_rfl) ?_ _
   have hBf:=(HS.out _ hB10).2.2.2
   go_wp2
   go_ret
   exact ⟨rfl,hBf⟩
  |false=>
   cases v with
   |false=>
    go_upto_region 11 with (fail)
    refine wp_region_L (fun w'=>C4 w' (w.heap.size+1) bn dn bo dd i∧w'.cell? ⟨w5.heap.size,2,none⟩=some (.slice an5 t.next.length cn5)) [0,1,2,3,4,5,6,7,8,9,10,11,12,13,14,15,16,17,19,20] (by kernel_rfl) ?_
    have hbd:=(Below.refl w8.heap.size w8).drew
    have hB9:=hB8.trans (hbd.mono hz8)
    have hBt9:=hBt8.trans (hbd.mono hBt8.size)
    have hS9:=And.intro (HS.out _ hB9).1.2 (HTc.out _ hBt9)
    clear hbd hB8 hBt8
    generalize w8.drew=w9 at*
    refine skL_on [0,1,2,3,4,5] ?_
    repeat (refine skL_take (v:= ?_) rfl ?_ ?_;rotate_left;(focus (intro w' hSw;(try dsimp only at hSw);go_simp;try with_reducible rfl));try simp only [Act.put,List.setIfInBounds_toArray,List.set_cons_zero,List.set_cons_succ])
    refine skL_off ?_
    refine wpAnyL_take (i:=6) (v:=undef) rfl (by kernel_rfl) (by kernel_rfl) (by kernel_rfl) (by kernel_rfl) (fun _ _ _ h=>h) (Or.inr ⟨by rfl,rfl⟩) (by assumption) ?_
    try simp only [Act.put,List.setIfInBounds_toArray,List.set_cons_zero,List.set_cons_succ]
    refine wpAnyL_take (i:=9) (v:=undef) rfl (by kernel_rfl) (by kernel_rfl) (by kernel_rfl) (by kernel_rfl) (fun _ _ _ h=>h) (Or.inr ⟨by rfl,rfl⟩) (by assumption) ?_
    try simp only [Act.put,List.setIfInBounds_toArray,List.set_cons_zero,List.set_cons_succ]
    refine wpAnyL_take (i:=10) (v:=undef) rfl (by kernel_rfl) (by kernel_rfl) (by kernel_rfl) (by kernel_rfl) (fun _ _ _ h=>h) (Or.inr ⟨by rfl,rfl⟩) (by assumption) ?_
    try simp only [Act.put,List.setIfInBounds_toArray,List.set_cons_zero,List.set_cons_succ]
    refine wpAnyL_take (i:=11) (v:=undef) rfl (by kernel_rfl) (by kernel_rfl) (by kernel_rfl) (by kernel_rfl) (fun _ _ _ h=>h) (Or.inr ⟨by rfl,rfl⟩) (by assumption) ?_
    try simp only [Act.put,List.setIfInBounds_toArray,List.set_cons_zero,List.set_cons_succ]
    refine wpAnyL_take (i:=12) (v:=undef) rfl (by kernel_rfl) (by kernel_rfl) (by kernel_rfl) (by kernel_rfl) (fun _ _ _ h=>h) (Or.inr ⟨by rfl,rfl⟩) (by assumption) ?_
    try simp only [Act.put,List.setIfInBounds_toArray,List.set_cons_zero,List.set_cons_succ]
    refine wpAnyL_take (i:=13) (v:=undef) rfl (by kernel_rfl) (by kernel_rfl) (by kernel_rfl) (by kernel_rfl) (fun _ _ _ h=>h) (Or.inr ⟨by rfl,rfl⟩) (by assumption) ?_
    try simp only [Act.put,List.setIfInBounds_toArray,List.set_cons_zero,List.set_cons_succ]
    refine wpAnyL_take (i:=14) (v:=undef) rfl (by kernel_rfl) (by kernel_rfl) (by kernel_rfl) (by kernel_rfl) (fun _ _ _ h=>h) (Or.inr ⟨by rfl,rfl⟩) (by assumption) ?_
    try simp only [Act.put,List.setIfInBounds_toArray,List.set_cons_zero,List.set_cons_succ]
    refine wpAnyL_skip (i:=7) (by kernel_rfl) rfl rfl (by assumption) ?_
    try simp only [Act.put,List.setIfInBounds_toArray,List.set_cons_zero,List.set_cons_succ]
    refine wpAnyL_skip (i:=8) (by kernel_rfl) rfl rfl (by assumption) ?_
    try simp only [Act.put,List.setIfInBounds_toArray,List.set_cons_zero,List.set_cons_succ]
    refine wpAnyL_skip (i:=15) (by kernel_rfl) rfl rfl (by assumption) ?_
    try simp only [Act.put,List.setIfInBounds_toArray,List.set_cons_zero,List.set_cons_succ]
    refine skL_on [16,17] ?_
    repeat (refine skL_take (v:= ?_) rfl ?_ ?_;rotate_left;(focus (intro w' hSw;(try dsimp only at hSw);go_simp;try with_reducible rfl));try simp only [Act.put,List.setIfInBounds_toArray,List.set_cons_zero,List.set_cons_succ])
    refine skL_off ?_
    refine wpAnyL_one (i:=18) (by kernel_rfl) rfl rfl (fun K hK=> ?_)
    go_simp
    refine (ex31_any (w:=w9)).mono ?_
    rintro e w10 ⟨rfl,hb10⟩
    have hB10:=hB9.trans (hb10.mono hB9.size)
    have hBt10:=hBt9.trans (hb10.mono hBt9.size)
    have hS10:=And.intro (HS.out _ hB10).1.2 (HTc.out _ hBt10)
    refine hK _ _ (fun _=>hS10) ?_
    clear hK K hS9
    refine skL_on [19,20] ?_
    repeat (refine skL_take (v:= ?_) rfl ?_ ?_;rotate_left;(focus (intro w' hSw;(try dsimp only at hSw);go_simp;try with_reducible rfl));try simp only [Act.put,List.setIfInBounds_toArray,List.set_cons_zero,List.set_cons_succ])
    refine skL_off ?_
    refine wpAnyL_done (by kernel_rfl) ?_ _
    have hBf:=(HS.out _ hB10).2.2.2
    go_wp2
    go_ret
    exact ⟨rfl,hBf⟩
   |true=>
    have hgt:Hid ((t.next.length:Int)+extra<(i.reach.length:Int)):=by
     refine Classical.byContradiction fun hn=> ?_
     have h1:=Mach.suW_complete om.out oi.out hin.out n8.out hxa (by omega) hE2.out.2 (by rw [hE2.out.1];exact hv.out.1 rfl) (by rw [←htE.out];unfold Hid at hn;omega)
     have h2:=hfs.out.2 h1
     simp at h2
    have hgd:decide ((t.next.length:Int)+extra<(i.reach.length:Int))=true:=decide_eq_true hgt.out
    have hwx:IntKind.i64.wrap extra=extra:=IntWalk.i64_in _ (by omega)
    have hwr:IntKind.i64.wrap ((t.next.length:Int)+extra)=(t.next.length:Int)+extra:=IntWalk.i64_in _ (by have:=(Mach.minF_min om.out).2.2.2;rw [←htE.out] at this;have:=n8.out;omega)
    go_upto_region 11 with (fail)
    refine wp_region_L (fun w'=>C4 w' (w.heap.size+1) bn dn bo dd i∧w'.cell? ⟨w5.heap.size,2,none⟩=some (.slice an5 t.next.length cn5)) [0,1,2,3,4,5,6,8,9,10,11,12,13,14,15,16,17,19,20] (by kernel_rfl) ?_
    have hbd:=(Below.refl w8.heap.size w8).drew
    have hB9:=hB8.trans (hbd.mono hz8)
    have hBt9:=hBt8.trans (hbd.mono hBt8.size)
    have hS9:=And.intro (HS.out _ hB9).1.2 (HTc.out _ hBt9)
    clear hbd hB8 hBt8
    generalize w8.drew=w9 at*
    have HR:=Lib.hid (reach_any (HS.out _ hB9).2.2.1)
    refine skL_on [0,1,2,3,4,5,6,9,10,11,12,13,14] ?_
    repeat (refine skL_take (v:= ?_) rfl ?_ ?_;rotate_left;(focus (intro w' hSw;(try dsimp only at hSw);go_simp;try with_reducible rfl));try simp only [Act.put,List.setIfInBounds_toArray,List.set_cons_zero,List.set_cons_succ])
    refine skL_off ?_
    refine wpAnyL_one (i:=7) (by kernel_rfl) rfl rfl (fun K hK=> ?_)
    go_simp
    refine (HR.out).mono ?_
    rintro e w10 ⟨aR,cR,R,rfl,hR,hRs,hb10⟩
    have hB10:=hB9.trans (hb10.mono hB9.size)
    have hBt10:=hBt9.trans (hb10.mono hBt9.size)
    have hS10:=And.intro (HS.out _ hB10).1.2 (HTc.out _ hBt10)
    have hRe:Hid (R.length=i.reach.length):=by unfold Hid;rw [hR.out];unfold Mach.reachOf;rw [if_pos (Mach.err_of_ok _ oi.out)]
    have hRl:=hRs.le
    rw [←hRe.out] at hgd
    refine hK _ _ (fun _=>hS10) ?_
    clear hK K hS9 hRs hb10
    refine skL_on [8,15,16,17] ?_
    repeat (refine skL_take (v:= ?_) rfl ?_ ?_;rotate_left;(focus (intro w' hSw;(try dsimp only at hSw);go_simp;try with_reducible rfl));try simp only [Act.put,List.setIfInBounds_toArray,List.set_cons_zero,List.set_cons_succ])
    refine skL_off ?_
    refine wpAnyL_one (i:=18) (by kernel_rfl) rfl rfl (fun K hK=> ?_)
    go_simp
    refine (ex31_any (w:=w10)).mono ?_
    rintro e w11 ⟨rfl,hb11⟩
    have hB11:=hB10.trans (hb11.mono hB10.size)
    have hBt11:=hBt10.trans (hb11.mono hBt10.size)
    have hS11:=And.intro (HS.out _ hB11).1.2 (HTc.out _ hBt11)
    refine hK _ _ (fun _=>hS11) ?_
    clear hK K hS10
    refine skL_on [19,20] ?_
    repeat (refine skL_take (v:= ?_) rfl ?_ ?_;rotate_left;(focus (intro w' hSw;(try dsimp only at hSw);go_simp;try with_reducible rfl));try simp only [Act.put,List.setIfInBounds_toArray,List.set_cons_zero,List.set_cons_succ])
    refine skL_off ?_
    refine wpAnyL_done (by kernel_rfl) ?_ _
    have hBf:=(HS.out _ hB11).2.2.2
    go_wp2
    go_ret
    exact ⟨rfl,hBf⟩
 have hnil:=Lib.hid (suW_nil om.out n8.out hxa (by omega) hE2.out.2)
 have hl0:L4.length=0:=by rw [←hE2.out.1,hnil.out];rfl
 have HL0:(((L4.length:Nat):Int)==0)=true:=by simp [hl0]
 have hBf:=(HS.out _ hB4).2.2.2
 clear hl0
 go_wp2_with fail
 refine (ex31_any (w:=w4)).mono ?_
 rintro e w5 ⟨rfl,hb5⟩
 have hB5:=hBf.trans (hb5.mono hBf.size)
 go_wp2
 go_ret
 exact ⟨rfl,hB5⟩
end
end Go.Proofs.YtknhegdepbmmlaaGreat
