/- Several texts, one behind the other. Conditions: as each of them says. -/
import Derived.Test.YtknhegdepbmmlaaGreatMt36
import Derived.Test.YtknhegdepbmmlaaGreatMt34
import Derived.Test.YtknhegdepbmmlaaGreatMt32
import Derived.Test.YtknhegdepbmmlaaGreatMt28
import Derived.Test.YtknhegdepbmmlaaGreatMt27
import Derived.Test.YtknhegdepbmmlaaGreatMt26
import Derived.Test.YtknhegdepbmmlaaGreatMt24
import Derived.Test.YtknhegdepbmmlaaGreatMt23
import Derived.Test.YtknhegdepbmmlaaGreatMt22
import Derived.Test.YtknhegdepbmmlaaGreatMt21
import Derived.Test.YtknhegdepbmmlaaGreatMt16
import Derived.Test.YtknhegdepbmmlaaGreatMt15
import Derived.Test.YtknhegdepbmmlaaGreatMt13
import Derived.Test.YtknhegdepbmmlaaGreatMt8
import Derived.Test.YtknhegdepbmmlaaGreatMt6
import Derived.Test.YtknhegdepbmmlaaGreatMt4
import Derived.Test.YtknhegdepbmmlaaGreatMt3
import Derived.Deep.Cut
set_option maxRecDepth 100000
set_option maxHeartbeats 32000000
namespace Go.Proofs.YtknhegdepbmmlaaGreat
open Go.RowKit
theorem ret_i31 {x y:Int} (h:x=y):Ending.returned (.int .i64 x)= .returned (.int .i64 y):=by rw [h]
section
variable {M MT:Nat→Prop} {w:World} {an ao aT:Option Addr} {cn co cT:Nat} {m:Mach} {T:List Nd}
theorem check11_any (hm:Ma M w an cn ao co m):
    Calls Tryz.prog 20 #[maV m an cn ao co] w fun e w'=>e= .returned (.int .i64 m.minErr)∧Below w.heap.size w w':=by
 have hB0:=(Below.refl w.heap.size w).alloc (Nat.le_refl _) (maO m an cn ao co)
 have hx0:C4 (w.alloc (maO m an cn ao co)) w.heap.size an cn ao co m:=c4_new w
 have hz0:w.heap.size+1≤(w.alloc (maO m an cn ao co)).heap.size:=by simp
 have HM:=Lib.hid hm
 have HC:=Lib.hid (valid6_any (HM.out.below hB0))
 clear hm
 by_cases he:m.err=0
 rotate_left
 ·have heb:(m.err !=0)=true:=by simp [he]
  have hF:Hid (m.err=m.minErr):=(Mach.minErr_e he).symm
  clear he
  go_enter Tryz.func20,Tryz.ntmps20
  go_wp2_with fail
  generalize w.alloc (maO m an cn ao co)=w0 at*
  refine (HC.out).mono ?_
  rintro e w1 ⟨rfl,hb1⟩
  have hB1:=hB0.trans (hb1.mono (by omega))
  go_wp2
  go_ret
  exact ⟨ret_i31 hF.out,hB1⟩
 have heb:(m.err !=0)=false:=by simp [he]
 have HE:=Lib.hid he
 clear he
 go_enter Tryz.func20,Tryz.ntmps20
 go_wp2_with fail
 generalize w.alloc (maO m an cn ao co)=w0 at*
 refine (HC.out).mono ?_
 rintro e w1 ⟨rfl,hb1⟩
 have hB1:=hB0.trans (hb1.mono (by omega))
 have hx1:=hx0.below hb1 (by omega)
 have hz1:w.heap.size+1≤w1.heap.size:=by have:=hb1.size;omega
 have HC:=Lib.hid (minimalR_any (HM.out.below hB1))
 clear hB0 hx0 hz0 hb1
 go_wp2_with fail
 refine (HC.out).mono ?_
 rintro e w2 ⟨v,rfl,hv,hb2⟩
 have hB2:=hB1.trans (hb2.mono (by omega))
 clear HC hb2 hB1
 cases v with
 |true=>
  have hF:Hid ((0:Int)=m.minErr):=(Mach.minErr_0 HE.out hv.out.symm).symm
  go_wp2
  go_ret
  exact ⟨ret_i31 hF.out,hB2⟩
 |false=>
  have hF:Hid ((1:Int)=m.minErr):=(Mach.minErr_n HE.out hv.out.symm).symm
  go_wp2
  go_ret
  exact ⟨ret_i31 hF.out,hB2⟩
end
section
variable {M:Nat→Prop} {w:World} {a:Option Addr} {c:Nat} {L:List Nd}
end
section
variable {M:Nat→Prop} {w:World} {an ao:Option Addr} {cn co:Nat} {m:Mach}
end
def Mach.partsW (m:Mach) (extra:Int):Mach×List (List Int)×List (List Int)×Int:=
 if m.err≠0 then (Mach.nothing,[],[],m.err) else
 if extra<0∨3<extra then (Mach.nothing,[],[],2) else
 if (uptW m.inputs (extra+1)).2≠0 then (Mach.nothing,[],[],(uptW m.inputs (extra+1)).2) else
 (m.minOf,m.minOf.covW.map Pc.word,(uptW m.inputs (extra+1)).1,0)
def PartsR (m:Mach) (extra:Int) (w:World) (e:Ending) (w':World):Prop:=∃(an:Option Addr) (cn:Nat) (ao:Option Addr) (co:Nat) (t:Mach) (aA:Option Addr) (cA:Nat) (A:List (List Int)) (aX:Option Addr) (cX:Nat) (X:List (List Int)) (e1:Int),
 e= .returned (.tuple #[maV t an cn ao co,.slice aA A.length cA,.slice aX X.length cX,.int .i64 e1])∧Hid (m.partsW extra=(t,A,X,e1))∧Ma (fun k=>k<w.heap.size) w' an cn ao co t∧Sl (fun k=>k<w.heap.size) w' aA cA A∧Sl (fun k=>k<w.heap.size) w' aX cX X∧Below w.heap.size w w'
section
variable {M:Nat→Prop} {w:World} {an ao:Option Addr} {cn co:Nat} {m:Mach}
end
section
variable {M MT:Nat→Prop} {w:World} {an ao aT:Option Addr} {cn co cT:Nat} {m:Mach} {T:List Nd}
end
namespace Mach
variable {m:Mach}
theorem wordGo_wi {T:List Nd} (ok:m.Ok):∀(f a:Nat) (c:Int) (w:List Int),m.Wi T a c→T.length≤a+f→w.length≤a→(m.wordGo T f a c w).1.length≤(m.wordGo T f a c w).2∧(m.wordGo T f a c w).2<T.length∧∃c',m.Wi T (m.wordGo T f a c w).2 c'
 |0,a,c,w,h,hf,hw=>by have:=(wi_lt h).1;omega
 |f+1,a,c,w,h,hf,hw=>by
  have hl:=(wi_lt h).1
  have hx:T[a]? =some T[a]:=List.getElem?_eq_getElem hl
  by_cases h0:T[a].inp<0
  ·rw [wordGo_stop hx h0];exact ⟨hw,hl,c,h⟩
  obtain ⟨-,k,kd,n',h1,h2,h3,h4,h5,h6,h7⟩:=wi_step ok h hx (by omega)
  rw [wordGo_on hx (by omega) (kidOf_at h1 h2 h3),h4,Int.toNat_natCast]
  exact wordGo_wi ok f n' _ _ h7 (by omega) (by rw [List.length_append];simp;omega)
end Mach
section
variable {M:Nat→Prop} {w:World} {an ao:Option Addr} {cn co:Nat} {m:Mach}
end
end Go.Proofs.YtknhegdepbmmlaaGreat
namespace Go.Proofs.YtknhegdepbmmlaaGreat
namespace Mach
variable {m:Mach}
theorem all_in {l:List Int} {n:Nat} (hd:l.Nodup) (hr:∀x∈l,0≤x∧x<n) (hl:l.length=n) {s:Int} (h0:0≤s) (h1:s<n):s∈l:=by
 by_cases e:s∈l
 ·exact e
 have h := nodup_le n (s :: l) (List.nodup_cons.2 ⟨e, hd⟩) (fun x hx => by
  rcases List.mem_cons.1 hx with rfl|hx
  ·exact ⟨h0,h1⟩
  exact hr x hx)
 rw [List.length_cons] at h;omega
theorem wordGo_ok {T:List Nd} (ok:m.Ok):∀(f a:Nat) (c:Int) (w:List Int),m.Wi T a c→m.okS w→m.okS (m.wordGo T f a c w).1
 |0,a,c,w,h,hw=>hw
 |f+1,a,c,w,h,hw=>by
  have hl:=(wi_lt h).1
  have hx:T[a]? =some T[a]:=List.getElem?_eq_getElem hl
  by_cases h0:T[a].inp<0
  ·rw [wordGo_stop hx h0];exact hw
  obtain ⟨hi,k,kd,n',h1,h2,h3,h4,h5,h6,h7⟩:=wi_step ok h hx (by omega)
  rw [wordGo_on hx (by omega) (kidOf_at h1 h2 h3),h4,Int.toNat_natCast]
  refine wordGo_ok ok f n' _ _ h7 fun y hy=> ?_
  rcases List.mem_append.1 hy with hy|hy
  ·exact hw y hy
  rw [List.mem_singleton.1 hy];omega
theorem sepW_ok (n8:m.next.length≤8) (s x:Int):m.okS (m.sepW s x)∧(m.sepW s x).length≤505:=by
 unfold sepW
 cases h:stW m s x with
 |none=>exact ⟨fun y hy=>by simp at hy,by simp⟩
 |some w=>
  show m.okS w∧w.length≤505
  unfold stW at h
  split at h
  ·have h1:=first_len h
   have h2:m.next.length*m.next.length≤8*8:=Nat.mul_le_mul n8 n8
   exact ⟨(first_some h).1.1,by omega⟩
  simp at h
theorem ids_ok {T:List Nd} (n8:m.next.length≤8) (h:m.adsChk T=0) (hT:T.length≤505):∀r∈(m.idE T).1,∀v∈r,m.okS v∧v.length≤505:=by
 have ok:m.Ok:=Mach.ok_of_err m (Mach.minErr_ok (Mach.adsChk_0 h).1).1
 unfold idE
 rw [if_neg (by simp [h])]
 intro r hr v hv
 unfold ids at hr
 obtain ⟨s,hs,rfl⟩:=List.mem_map.1 hr
 rw [srt_mem tot_cmp] at hv
 unfold idW at hv
 have hw0:=wi_0 ok h (List.mem_range.1 hs)
 rcases List.mem_append.1 hv with hv|hv
 ·unfold idA at hv
  split at hv
  ·rw [List.mem_singleton.1 hv]
   obtain ⟨h1,h2, -⟩:=wordGo_wi ok T.length 0 (s:Int) [] hw0 (by omega) (by simp)
   exact ⟨wordGo_ok ok T.length 0 (s:Int) [] hw0 (fun y hy=>by simp at hy),by show (m.wordGo T T.length 0 (s:Int) []).1.length≤505;omega⟩
  simp at hv
 obtain ⟨x, -,rfl⟩:=List.mem_map.1 hv
 exact sepW_ok n8 _ _
end Mach
theorem visitC_sub (c:Int→Int):∀(r l:List Int),∃s,visitC c l r=l++s∧s.Sublist r
 |[],l=>⟨[],by simp [visitC],List.Sublist.refl _⟩
 |t::r,l=>by
  unfold visitC
  split
  ·obtain ⟨s,h1,h2⟩:=visitC_sub c r l
   exact ⟨s,h1,h2.cons _⟩
  obtain ⟨s,h1,h2⟩:=visitC_sub c r (l++[t])
  exact ⟨t::s,by rw [h1];simp,h2.cons_cons _⟩
theorem nodup_map_inj {l:List Int} {c:Int→Int} (h:(l.map c).Nodup) {x y:Int} (hx:x∈l) (hy:y∈l) (e:c x=c y):x=y:=by
 induction l with
 |nil=>simp at hx
 |cons z l ih=>
  rw [List.map_cons,List.nodup_cons] at h
  rcases List.mem_cons.1 hx with e1|h1
  ·rcases List.mem_cons.1 hy with e2|h2
   ·rw [e1,e2]
   exact absurd (by rw [←e1,e];exact List.mem_map_of_mem h2) h.1
  rcases List.mem_cons.1 hy with e2|h2
  ·exact absurd (by rw [←e2,←e];exact List.mem_map_of_mem h1) h.1
  exact ih h.2 h1 h2
theorem zip_mem_map {α β:Type} (f:α→β) (g:α→Int):∀(l:List α) (p:α),p∈l→(f p,g p)∈(l.map f).zip (l.map g)
 |x::l,p,h=>by
  rw [List.map_cons,List.map_cons,List.zip_cons_cons]
  rcases List.mem_cons.1 h with rfl|h
  ·exact List.mem_cons_self
  exact List.mem_cons_of_mem _ (zip_mem_map f g l p h)
theorem comW_pre:∀{p a b:List Int},p<+:a→p<+:b→p.length≤comW a b
 |[],a,b,_,_=>Nat.zero_le _
 |x::p,a,b,h1,h2=>by
  obtain ⟨s,rfl⟩:=h1
  obtain ⟨t,rfl⟩:=h2
  have:=comW_pre (p:=p) (a:=p++s) (b:=p++t) ⟨s,rfl⟩ ⟨t,rfl⟩
  simp only [List.cons_append,comW,if_true,List.length_cons]
  omega
theorem comW_self:∀a:List Int,comW a a=a.length
 |[]=>rfl
 |x::a=>by simp [comW,comW_self a]
namespace Mach
variable {m:Mach}
theorem min_cl (ok:m.Ok) (h:m.minimal=true) {s t:Int} (hs:0≤s∧s<m.next.length) (ht:0≤t∧t<m.next.length) (e:m.cl s=m.cl t):s=t:=by
 unfold minimal at h
 obtain ⟨h0,h1,h2⟩:=of_decide_eq_true h
 rw [minOf_eq h0,minF_len,←h1] at h2
 obtain ⟨r,h3,h4⟩:=visitC_sub m.cl m.reach []
 have h5:r=m.reach:=h4.eq_of_length (by
  have:(firsts m.cl m.reach).length=r.length:=by unfold firsts;rw [h3];rfl
  omega)
 have h6:=visitC_nodup m.cl m.reach [] (by simp)
 rw [h3,h5,List.nil_append] at h6
 obtain ⟨g1,g2, -⟩:=bfs_props ok m.next.length
 have hin:∀{x:Int},0≤x∧x<m.next.length→x∈m.reach:=fun hx=>all_in g1 g2 h1 hx.1 hx.2
 exact nodup_map_inj h6 (hin hs) (hin ht) e
theorem sepW_some (ok:m.Ok) (h:m.minimal=true) {s t:Int} (hs:0≤s∧s<m.next.length) (ht:0≤t∧t<m.next.length) (hne:s≠t):firstW m m s t=some (m.sepW s t)∧m.okS (m.sepW s t)∧m.outsW s (m.sepW s t)≠m.outsW t (m.sepW s t):=by
 have he:Go.Proofs.YtknhegdepbmmlaaGreat.stErr m s t=0:=by
  rcases st_cases (Mach.err_of_ok _ ok) s t with h|h|h|h|h
  all_goals first|omega|exact h.2.2.2.2
 have h1:stW m s t=firstW m m s t:=by unfold stW;rw [if_pos he]
 unfold sepW
 rw [h1]
 cases e:firstW m m s t with
 |none=>exact absurd (min_cl ok h hs ht ((sim_iff ok hs.1 hs.2 ht.1 ht.2).2 ((first_iff ok ok rfl hs ht).1 e))) hne
 |some w=>exact ⟨rfl,(first_some e).1.1,(first_some e).1.2⟩
theorem sepW_swap (ok:m.Ok) {s t:Int} (hs:0≤s∧s<m.next.length) (ht:0≤t∧t<m.next.length):m.sepW s t=m.sepW t s:=by
 have he:∀{s t:Int},0≤s∧s<m.next.length→0≤t∧t<m.next.length→stW m s t=firstW m m s t:=fun {s t} hs ht=>by
  unfold stW
  rw [if_pos]
  rcases st_cases (Mach.err_of_ok _ ok) s t with h|h|h|h|h
  all_goals first|omega|exact h.2.2.2.2
 unfold sepW
 rw [he hs ht,he ht hs,first_swap ok ok rfl ht hs]
def WiP (m:Mach) (T:List Nd) (a:Nat) (s c:Int):Prop:=∃f g e,m.right T f a g=(e,true)∧(s,c)∈g.ini.zip g.cur∧GOk m.next.length g∧((∀s∈g.ini,0≤s∧s<(m.next.length:Int))∧g.cur.length≤m.next.length)
theorem WiP.wi {T:List Nd} {a:Nat} {s c:Int} (h:m.WiP T a s c):m.Wi T a c:=by
 obtain ⟨f,g,e,h1,h2,h3,h4⟩:=h
 exact ⟨f,g,e,h1,(List.of_mem_zip h2).2,h3,h4⟩
theorem wip_step {T:List Nd} {a:Nat} {s c:Int} {x:Nd} (ok:m.Ok) (h:m.WiP T a s c) (hx:T[a]? =some x) (h0:0≤x.inp):
    x.inp<m.inputs∧∃(kd:Kd) (n':Nat),kidOf x.kids (m.ot c.toNat x.inp.toNat)=some kd∧kd.to=(n':Int)∧a<n'∧m.WiP T n' s (m.nx c.toNat x.inp.toNat):=by
 obtain ⟨f,g,e,hr,hsc,hg,hgi⟩:=h
 have hc:=(List.of_mem_zip hsc).2
 obtain ⟨h1,h2,f',h3⟩:=right_parts hr hx h0
 refine ⟨h1,?_⟩
 have ho:m.ot c.toNat x.inp.toNat∈m.outsI x.inp.toNat g.cur:=by
  unfold outsI;rw [iset_mem];exact List.mem_map_of_mem (f:=fun s=>m.ot s.toNat x.inp.toNat) hc
 obtain ⟨k,hk⟩:=List.mem_iff_getElem?.1 ho
 have hP:=gParts_at hk
 have hkl:k<x.kids.length:=by rw [←h2];exact some_lt hP
 have hout:∀(j:Nat) (kj:Kd),x.kids[j]? =some kj→∃oj,(m.outsI x.inp.toNat g.cur)[j]? =some oj∧kj.out=oj:=fun j kj hj=>by
  have hjl:=some_lt hj
  obtain ⟨oj,hoj⟩:∃oj,(m.outsI x.inp.toNat g.cur)[j]? =some oj:=⟨_,List.getElem?_eq_getElem (by rw [←gParts_len,h2];exact hjl)⟩
  have:=h3 j ((oj,m.grp x.inp.toNat g.ini g.cur oj),kj) (List.getElem?_zip_eq_some.2 ⟨gParts_at hoj,hj⟩)
  exact ⟨oj,hoj,this.1⟩
 obtain ⟨h4,n',h5,h6,e',h7⟩:=h3 k ((m.ot c.toNat x.inp.toNat,m.grp x.inp.toNat g.ini g.cur (m.ot c.toNat x.inp.toNat)),x.kids[k]) (List.getElem?_zip_eq_some.2 ⟨hP,List.getElem?_eq_getElem hkl⟩)
 refine ⟨x.kids[k],n',kidOf_at (List.getElem?_eq_getElem hkl) h4 fun j kj hj hkj e2=> ?_,h6,by omega,f',_,e',h7,?_,grp_ok ok (by omega) hg ho,fun s hs=> ?_,Nat.le_trans grp_le hgi.2⟩
 ·obtain ⟨oj,h8,h9⟩:=hout j kj hkj
  have hA:IAsc (m.outsI x.inp.toNat g.cur):=iset_asc _
  have a1:=iasc_count hA hk
  have a2:=iasc_count hA h8
  rw [←h9,e2] at a2
  omega
 ·show (s,m.nx c.toNat x.inp.toNat)∈(m.gpI x.inp.toNat g.ini g.cur (m.ot c.toNat x.inp.toNat)).zip (m.gpC x.inp.toNat g.ini g.cur (m.ot c.toNat x.inp.toNat))
  exact zip_mem_map Prod.fst (fun p:Int×Int=>m.nx p.2.toNat x.inp.toNat) _ (s,c) (List.mem_filter.2 ⟨hsc,by simp⟩)
 obtain ⟨p,hp,rfl⟩:=List.mem_map.1 (show s∈m.gpI x.inp.toNat g.ini g.cur (m.ot c.toNat x.inp.toNat) from hs)
 exact hgi.1 p.1 (List.of_mem_zip (List.mem_filter.1 hp).1).1
theorem wip_node {T:List Nd} {a:Nat} {s c:Int} {x:Nd} (h:m.WiP T a s c) (hx:T[a]? =some x):s∈x.st:=by
 obtain ⟨f,g,e,hr,hc,hg,hgi⟩:=h
 cases f with
 |zero=>simp [right] at hr
 |succ f=>
  have e:x.st=g.ini:=Classical.byContradiction fun e=>by rw [right_no hx (.inl e)] at hr;simp at hr
  rw [e]
  exact (List.of_mem_zip hc).1
theorem wip_0 {T:List Nd} (h:m.adsChk T=0) {s:Nat} (hs:s<m.next.length):m.WiP T 0 (s:Int) (s:Int)∧∃x,T[0]? =some x∧x.st=allS m.next.length:=by
 have h1:=(adsChk_0 h).2.2
 have ok:m.Ok:=Mach.ok_of_err m (Mach.minErr_ok (Mach.adsChk_0 h).1).1
 have hal:∀y∈allS m.next.length,0≤y∧y<(m.next.length:Int):=fun y hy=>by
  unfold allS at hy
  obtain ⟨k,hk,rfl⟩:=List.mem_map.1 hy
  have:=List.mem_range.1 hk;omega
 obtain ⟨f,e,hr⟩:∃f e,m.right T f 0 ⟨allS m.next.length,allS m.next.length⟩=(e,true):=⟨_,_,h1⟩
 have h0:=right_bd _ _ _ _ hr
 refine ⟨⟨f,_,e,hr,List.mem_of_getElem? (i:=s) (List.getElem?_zip_eq_some.2 ⟨allS_get hs,allS_get hs⟩),⟨rfl,by rw [allS_len];exact ok.n0,hal⟩,hal,by rw [allS_len];exact Nat.le_refl _⟩,T[0]'(by omega),List.getElem?_eq_getElem (by omega),?_⟩
 cases f with
 |zero=>simp [right] at hr
 |succ f=>
  exact Classical.byContradiction fun e=>by rw [right_no (List.getElem?_eq_getElem (by omega:0<T.length)) (.inl e)] at hr;simp at hr
theorem wordGo_pre {T:List Nd} (ok:m.Ok):∀(f a:Nat) (c:Int) (w:List Int),m.Wi T a c→w<+:(m.wordGo T f a c w).1
 |0,a,c,w,h=>List.prefix_refl _
 |f+1,a,c,w,h=>by
  have hl:=(wi_lt h).1
  have hx:T[a]? =some T[a]:=List.getElem?_eq_getElem hl
  by_cases h0:T[a].inp<0
  ·rw [wordGo_stop hx h0];exact List.prefix_refl _
  obtain ⟨hi,k,kd,n',h1,h2,h3,h4,h5,h6,h7⟩:=wi_step ok h hx (by omega)
  rw [wordGo_on hx (by omega) (kidOf_at h1 h2 h3),h4,Int.toNat_natCast]
  exact (List.prefix_append w [T[a].inp]).trans (wordGo_pre ok f n' _ _ h7)
theorem harm_go {T:List Nd} (ok:m.Ok):∀(f a:Nat) (s c t d:Int) (w:List Int),m.WiP T a s c→m.WiP T a t d→
    m.wordGo T f a c w=m.wordGo T f a d w∨∃p,(w++p)<+:(m.wordGo T f a c w).1∧(w++p)<+:(m.wordGo T f a d w).1∧m.outsW c p≠m.outsW d p
 |0,a,s,c,t,d,w,h,k=> .inl rfl
 |f+1,a,s,c,t,d,w,h,k=>by
  have hl:=(wi_lt h.wi).1
  have hx:T[a]? =some T[a]:=List.getElem?_eq_getElem hl
  by_cases h0:T[a].inp<0
  ·rw [wordGo_stop hx h0,wordGo_stop hx h0];exact .inl rfl
  obtain ⟨hi,kd,n,h1,h2,h3,h4⟩:=wip_step ok h hx (by omega)
  obtain ⟨-,ke,q,k1,k2,k3,k4⟩:=wip_step ok k hx (by omega)
  rw [wordGo_on hx (by omega) h1,wordGo_on hx (by omega) k1,h2,k2,Int.toNat_natCast,Int.toNat_natCast]
  by_cases e:m.ot c.toNat T[a].inp.toNat=m.ot d.toNat T[a].inp.toNat
  ·rw [e] at h1
   obtain rfl:ke=kd:=by rw [h1] at k1;exact (Option.some.inj k1).symm
   obtain rfl:n=q:=by omega
   rcases harm_go ok f n s _ t _ (w++[T[a].inp]) h4 k4 with g|⟨p,g1,g2,g3⟩
   ·exact .inl g
   refine .inr ⟨T[a].inp::p,by simpa using g1,by simpa using g2,fun e2=>g3 ?_⟩
   simp only [outsW] at e2
   exact (List.cons.inj e2).2
  refine .inr ⟨[T[a].inp],wordGo_pre ok _ _ _ _ h4.wi,wordGo_pre ok _ _ _ _ k4.wi,fun e2=>e ?_⟩
  simp only [outsW] at e2
  exact (List.cons.inj e2).1
theorem wip_inp {T:List Nd} {a:Nat} {s c:Int} {x:Nd} (h:m.WiP T a s c) (hx:T[a]? =some x) (h0:x.inp<0):x.inp= -1:=by
 obtain ⟨f,g,e,hr,hc,hg,hgi⟩:=h
 cases f with
 |zero=>simp [right] at hr
 |succ f=>
  by_cases h1:x.inp= -1
  ·exact h1
  rw [right_out hx h1 (.inl h0)] at hr;simp at hr
theorem complB_at {T:List Nd} {l:Nat} {x:Nd} (h:complB T=true) (hx:T[l]? =some x) (h1:x.inp= -1):x.st.length=1:=by
 unfold complB at h
 have h2:=of_decide_eq_true (List.all_eq_true.1 (Bool.and_eq_true_iff.1 h).1 x (List.mem_of_getElem? hx))
 exact h2.resolve_left fun g=>g h1
theorem leaf_go {T:List Nd} (ok:m.Ok):∀(f a:Nat) (s c:Int) (w:List Int),m.WiP T a s c→T.length≤a+f→∃x,T[(m.wordGo T f a c w).2]? =some x∧x.inp= -1∧s∈x.st
 |0,a,s,c,w,h,hf=>by have:=(wi_lt h.wi).1;omega
 |f+1,a,s,c,w,h,hf=>by
  have hl:=(wi_lt h.wi).1
  have hx:T[a]? =some T[a]:=List.getElem?_eq_getElem hl
  by_cases h0:T[a].inp<0
  ·rw [wordGo_stop hx h0];exact ⟨_,hx,wip_inp h hx h0,wip_node h hx⟩
  obtain ⟨hi,kd,n,h1,h2,h3,h4⟩:=wip_step ok h hx (by omega)
  rw [wordGo_on hx (by omega) h1,h2,Int.toNat_natCast]
  exact leaf_go ok f n s _ _ h4 (by omega)
theorem stays_go {T:List Nd} (ok:m.Ok):∀(f a:Nat) (s c:Int) (w:List Int),m.WiP T a s c→(m.wordGo T f a c w).1=w→(m.wordGo T f a c w).2=a
 |0,a,s,c,w,h,hf=>rfl
 |f+1,a,s,c,w,h,hf=>by
  have hl:=(wi_lt h.wi).1
  have hx:T[a]? =some T[a]:=List.getElem?_eq_getElem hl
  by_cases h0:T[a].inp<0
  ·rw [wordGo_stop hx h0]
  exfalso
  obtain ⟨hi,kd,n,h1,h2,h3,h4⟩:=wip_step ok h hx (by omega)
  rw [wordGo_on hx (by omega) h1,h2,Int.toNat_natCast] at hf
  have h5:=(wordGo_pre ok f n _ (w++[T[a].inp]) h4.wi).length_le
  rw [hf,List.length_append,List.length_singleton] at h5
  omega
def Harm (m:Mach) (s t:Int) (a b:List Int):Prop:=m.outsW s (a.take (comW a b))≠m.outsW t (a.take (comW a b))
theorem outsW_take (w:List Int):∀(s:Int) (n:Nat),m.outsW s (w.take n)=(m.outsW s w).take n:=by
 induction w with
 |nil=>intro s n;simp [outsW]
 |cons x w ih=>
  intro s n
  cases n with
  |zero=>simp [outsW]
  |succ n=>simp [outsW,ih]
theorem harm_of {s t:Int} {a b p:List Int} (h1:p<+:a) (h2:p<+:b) (h3:m.outsW s p≠m.outsW t p):m.Harm s t a b:=by
 intro e
 have h4:=comW_pre h1 h2
 have h5:p=(a.take (comW a b)).take p.length:=by
  rw [List.take_take,Nat.min_eq_left h4];exact List.prefix_iff_eq_take.1 h1
 have h6:∀u,m.outsW u p=(m.outsW u (a.take (comW a b))).take p.length:=fun u=>by rw [←outsW_take,←h5]
 exact h3 (by rw [h6 s,h6 t,e])
theorem idO_mem {s x:Int} {o:List Int} (hx:x∈o) (hne:x≠s):m.sepW s x∈m.idO s o:=by
 unfold idO;exact List.mem_map.2 ⟨x,List.mem_filter.2 ⟨hx,by simpa using hne⟩,rfl⟩
theorem nodeSt_of {T:List Nd} {l:Nat} {x:Nd} (h:T[l]? =some x):nodeSt T l=x.st:=by unfold nodeSt;rw [h]
theorem harmony {T:List Nd} (ok:m.Ok) (hm:m.minimal=true) (h:m.adsChk T=0) {s t:Nat} (hs:s<m.next.length) (ht:t<m.next.length) (hne:s≠t):
    ∃a∈m.idW T (s:Int),∃b∈m.idW T (t:Int),m.Harm (s:Int) (t:Int) a b:=by
 have h1:=(wip_0 h hs).1
 have h2:=(wip_0 h ht).1
 rcases harm_go ok T.length 0 _ _ _ _ [] h1 h2 with g|⟨p,g1,g2,g3⟩
 ·obtain ⟨x,e1,e2,e3⟩:=leaf_go ok T.length 0 _ _ [] h1 (by omega)
  obtain ⟨y,d1,d2,d3⟩:=leaf_go ok T.length 0 _ _ [] h2 (by omega)
  obtain rfl:x=y:=by rw [g,d1] at e1;exact (Option.some.inj e1).symm
  have hsw:=sepW_some ok hm (s:=(s:Int)) (t:=(t:Int)) (by omega) (by omega) (by omega)
  refine ⟨m.sepW s t,?_,m.sepW s t,?_,?_⟩
  ·unfold idW
   refine List.mem_append.2 (.inr (idO_mem ?_ (by omega)))
   unfold adsW;rw [nodeSt_of e1];exact d3
  ·unfold idW
   rw [sepW_swap ok (by omega) (by omega)]
   refine List.mem_append.2 (.inr (idO_mem ?_ (by omega)))
   unfold adsW;rw [nodeSt_of d1];exact e3
  unfold Harm;rw [comW_self,List.take_length];exact hsw.2.2
 have hp : 0 < p.length := by
  cases p with
  |nil=>exact absurd rfl g3
  |cons _ _=>simp
 rw [List.nil_append] at g1 g2
 refine ⟨(m.adsW T s).1,?_,(m.adsW T t).1,?_,harm_of g1 g2 g3⟩
 ·unfold idW idA
  have:=g1.length_le
  rw [if_pos (.inl (by unfold adsW;omega))];simp
 unfold idW idA
 have:=g2.length_le
 rw [if_pos (.inl (by unfold adsW;omega))];simp
theorem harmonyI {T:List Nd} (ok:m.Ok) (hm:m.minimal=true) (h:m.adsChk T=0) {s t:Nat} (hs:s<m.next.length) (ht:t<m.next.length) (hne:s≠t) {A B:List (List Int)} (hA:(m.idE T).1[s]? =some A) (hB:(m.idE T).1[t]? =some B):
    ∃a∈A,∃b∈B,m.Harm (s:Int) (t:Int) a b:=by
 have hi:∀{k:Nat} {C:List (List Int)},k<m.next.length→(m.idE T).1[k]? =some C→C=srt cmpW (m.idW T (k:Int)):=fun {k C} hk hC=>by
  unfold idE at hC
  rw [if_neg (by simp [h])] at hC
  unfold ids at hC
  simp only [List.getElem?_map,List.getElem?_range hk] at hC
  exact (Option.some.inj hC).symm
 obtain ⟨a,ha,b,hb,g⟩:=harmony ok hm h hs ht hne
 exact ⟨a,by rw [hi hs hA,srt_mem tot_cmp];exact ha,b,by rw [hi ht hB,srt_mem tot_cmp];exact hb,g⟩
theorem idW_pos {T:List Nd} (ok:m.Ok) (h:m.adsChk T=0) {s:Nat} (hs:s<m.next.length):m.idW T (s:Int)≠[]:=by
 obtain ⟨h1,x,h2,h3⟩:=wip_0 h hs
 by_cases e:(m.adsW T s).1=[]
 ·have h4:(m.adsW T s).2=0:=stays_go ok T.length 0 _ _ [] h1 e
  by_cases e2:m.next.length=1
  ·unfold idW idA
   rw [if_pos (.inr (by rw [h4,nodeSt_of h2,h3,allS_len];exact e2))]
   simp
  obtain ⟨t, ht, hne⟩ : ∃ t, t < m.next.length ∧ t ≠ s := by
   by_cases e3:s=0
   ·exact ⟨1,by omega,by omega⟩
   exact ⟨0,by omega,by omega⟩
  have h5:m.sepW s t∈m.idW T s:=by
   unfold idW
   refine List.mem_append.2 (.inr (idO_mem ?_ (by omega)))
   rw [h4,nodeSt_of h2,h3];exact List.mem_of_getElem? (allS_get ht)
  intro e4;rw [e4] at h5;simp at h5
 unfold idW idA
 rw [if_pos (.inl (by cases h:(m.adsW T s).1 with
  |nil=>exact absurd h e
  |cons _ _=>simp))]
 simp
theorem idW_one {T:List Nd} (ok:m.Ok) (h:m.adsChk T=0) (hc:complB T=true) {s:Nat} (hs:s<m.next.length):m.idW T (s:Int)=[(m.adsW T s).1]:=by
 obtain ⟨x,e1,e2,e3⟩:=leaf_go ok T.length 0 _ _ [] (wip_0 h hs).1 (by omega)
 have h1:x.st=[(s:Int)]:=by
  have h2:x.st.length=1:=complB_at hc e1 e2
  match h3:x.st,h2 with
  |[y],_=>rw [h3] at e3;rw [List.mem_singleton.1 e3]
 have h4:nodeSt T (m.adsW T s).2=[(s:Int)]:=by unfold adsW;rw [nodeSt_of e1,h1]
 unfold idW idA idO
 rw [h4,if_pos (.inr rfl)]
 simp
end Mach
end Go.Proofs.YtknhegdepbmmlaaGreat
namespace Go.Proofs.YtknhegdepbmmlaaGreat
open Go.RowKit
theorem take_sl {M:Nat→Prop} {w:World} {a:Option Addr} {c:Nat} {l:List Int} (h:Sl M w a c l) (n:Nat) (hn:n≤l.length):Sl M w a c (l.take n)∧(l.take n).length=n:=by
 refine ⟨⟨by have:=h.1;rw [List.length_take];omega,h.2.1,fun j x hj=>h.2.2 j x ?_⟩,by rw [List.length_take];omega⟩
 rw [List.getElem?_take] at hj
 split at hj
 ·exact hj
 simp at hj
section
variable {M Mi ML:Nat→Prop} {w:World} {an ao bn bo aL:Option Addr} {cn co dn dd cL:Nat} {m i:Mach} {L:List (List Int)}
def PassR (m i:Mach) (L:List (List Int)) (v:Bool):Prop:=v=true↔∀x∈L,m.outsW m.start x=i.outsW i.start x
end
theorem com_q {M M':Nat→Prop} {w:World} {a b:Option Addr} {c d:Nat} {xs ys:List Int} (h1:Sl M w a c xs) (h2:Sl M' w b d ys):
    Calls Tryz.prog 58 #[.slice a xs.length c,.slice b ys.length d] w fun e w'=>e= .returned (.int .i64 (comW xs ys))∧Hid (∃n,w'=w.drewN n):=
 com_any (h1.anti (M':=fun _=>False) fun _ _ h=>h.elim) (h2.anti (M':=fun _=>False) fun _ _ h=>h.elim)
theorem Mach.from_0 {m:Mach} (ok:m.Ok) {s:Int} (hs:0≤s∧s<m.next.length) {w:List Int} (e:wErr w m.inputs=0):m.frErr s w=0∧m.frOut s w=m.outsW s w:=by
 have h:=Mach.err_of_ok _ ok
 have hst:m.stErr s=0:=by
  unfold Mach.stErr
  rw [if_neg (by simp [h]),if_neg (by omega)]
 obtain ⟨h1,h2, -⟩:=Mach.frErr_0 hst e
 exact ⟨h1,h2⟩
theorem wErr_take {m:Mach} (ok:m.Ok) {x:List Int} (h:wErr x m.inputs=0) (n:Nat):wErr (x.take n) m.inputs=0:=by
 obtain ⟨h1,h2⟩:=Mach.okS_of h
 exact wErr_of (by have:=ok.i0;omega) (by have:=ok.i1;omega) (by rw [List.length_take];omega) (Mach.okS_take h1 n)
section
variable {M MA MB:Nat→Prop} {w:World} {an ao aA aB:Option Addr} {cn co cA cB:Nat} {m:Mach} {A B:List (List Int)}
theorem harmW_any (hm:Ma M w an cn ao co m) (hA:Sl MA w aA cA A) (hB:Sl MB w aB cB B) (ok:Hid m.Ok) (s t:Nat) (hs:s<m.next.length) (ht:t<m.next.length) (hAw:Hid (∀x∈A,wErr x m.inputs=0))
    (hH:Hid (∃x∈A,∃y∈B,m.Harm (s:Int) (t:Int) x y)):
    Calls Tryz.prog 23 #[maV m an cn ao co,.int .i64 s,.int .i64 t,.slice aA A.length cA,.slice aB B.length cB] w fun e w'=>e= .returned (.bool true)∧Below w.heap.size w w':=by
 have hB0:=(Below.refl w.heap.size w).alloc (Nat.le_refl _) (maO m an cn ao co)
 have hx0:C4 (w.alloc (maO m an cn ao co)) w.heap.size an cn ao co m:=c4_new w
 have hz0:(w.alloc (maO m an cn ao co)).heap.size=w.heap.size+1:=by simp
 have l1:=hm.next.le
 have l2:=hm.out.le
 have l3:=hA.le
 have l4:=hB.le
 have hM0:=hm.below hB0
 have hA0:=hA.below hB0
 have hBb0:=hB.below hB0
 clear hm hA hB
 go_enter Tryz.func23,Tryz.ntmps23
 go_upto_region 1 with (fail)
 generalize w.alloc (maO m an cn ao co)=w0 at*
 have HS:Hid (∀w',Below w0.heap.size w0 w'→C4 w' w.heap.size an cn ao co m∧Ma M w' an cn ao co m∧Below w.heap.size w w'):=fun w' h=>
  ⟨hx0.below h (by omega),hM0.below h,hB0.trans (h.mono (by omega))⟩
 have HA:=Lib.hid hA0
 have HB:=Lib.hid hBb0
 have hBz:=Below.refl w0.heap.size w0
 clear hM0 hA0 hBb0 hx0 hB0
 have hN0:Hid (∀x∈A.take 0,∀y∈B,¬m.Harm (s:Int) (t:Int) x y):=fun x hx=>by simp at hx
 go_wp2
 go_loopw [22] (fun i wr=>∃k:Nat,k≤A.length∧i= .int .i64 k∧Hid (∀x∈A.take k,∀y∈B,¬m.Harm (s:Int) (t:Int) x y)∧Below w0.heap.size w0 wr) (fun i _=>A.length-(intOf i).toNat)
 case atStart=>exact ⟨0,by omega,rfl,hN0,hBz⟩
 case round=>
  clear hN0 hBz
  obtain ⟨k,hk,rfl,hN,hB⟩:=hrel
  obtain ⟨wo,rfl⟩:∃wo:World,wo=wr:=⟨_,rfl⟩
  by_cases hlt:k<A.length
  ·obtain ⟨bA,oA,ax,x,cx,rfl,hxc0,hx,hxs0⟩:=HA.out.at_row hlt
   have HXc:Hid (∀w',Below w0.heap.size w0 w'→w'.cell? ⟨bA,oA+k,none⟩=some (.slice ax x.length cx)):=fun w' h=>(h.cell (p:=⟨bA,oA+k,none⟩) (lt_of_cell hxc0)).trans hxc0
   have HX:=Lib.hid hxs0
   have hxe:=Lib.hid (hAw.out x (List.mem_of_getElem? hx.out))
   have hxl:=Lib.hid (Mach.okS_of hxe.out).2
   have hxsl:=hxs0.le
   have hI0:Hid (∀y∈B.take 0,¬m.Harm (s:Int) (t:Int) x y):=fun y hy=>by simp at hy
   clear hxc0 hxs0
   go_wp2
   go_loopw [27] (fun j wr=>∃k2:Nat,k2≤B.length∧j= .int .i64 k2∧Hid (∀y∈B.take k2,¬m.Harm (s:Int) (t:Int) x y)∧Below w0.heap.size w0 wr) (fun j _=>B.length-(intOf j).toNat)
   case atStart=>exact ⟨0,by omega,rfl,hI0,hB⟩
   case round=>
    clear hI0 hB
    obtain ⟨j,hj,rfl,hI,hB⟩:=hrel
    obtain ⟨wo,rfl⟩:∃wo:World,wo=wr:=⟨_,rfl⟩
    by_cases hlt2:j<B.length
    ·obtain ⟨bB,oB,ay,y,cy,rfl,hyc0,hy,hys0⟩:=HB.out.at_row hlt2
     have HYc:Hid (∀w',Below w0.heap.size w0 w'→w'.cell? ⟨bB,oB+j,none⟩=some (.slice ay y.length cy)):=fun w' h=>(h.cell (p:=⟨bB,oB+j,none⟩) (lt_of_cell hyc0)).trans hyc0
     have HY:=Lib.hid hys0
     have hysl:=hys0.le
     clear hyc0 hys0
     go_wp2
     -- the common part
     refine wp_region_L (fun w'=>w'.cell? ⟨bA,oA+k,none⟩=some (.slice ax x.length cx)∧w'.cell? ⟨bB,oB+j,none⟩=some (.slice ay y.length cy)) [0,1,2,3,4,5,6,7,9] (by kernel_rfl) ?_
     have hbd:=(Below.refl wo.heap.size wo).drew
     have hB1:=hB.trans (hbd.mono hB.size)
     have hS1:=And.intro (HXc.out _ hB1) (HYc.out _ hB1)
     clear hbd hB
     generalize wo.drew=w1 at*
     have HC:=Lib.hid (com_q (HX.out.below hB1) (HY.out.below hB1))
     refine skL_on [0,1,2,3,4,5,6,7] ?_
     repeat (refine skL_take (v:= ?_) rfl ?_ ?_;rotate_left;(focus (intro w' hSw;(try dsimp only at hSw);go_simp;try with_reducible rfl));try simp only [Act.put,List.setIfInBounds_toArray,List.set_cons_zero,List.set_cons_succ])
     refine skL_off ?_
     refine wpAnyL_one (i:=8) (by kernel_rfl) rfl rfl (fun K hK=> ?_)
     go_simp
     refine (HC.out).mono ?_
     rintro e w2 ⟨rfl,hn2⟩
     obtain ⟨n2,rfl⟩:=hn2.out
     clear hn2
     have hB2:=bl_drewN hB1 n2
     generalize w1.drewN n2=w2 at*
     have hS2:=And.intro (HXc.out _ hB2) (HYc.out _ hB2)
     refine hK _ _ (fun _=>hS2) ?_
     clear hK K HC hS1 hB1
     refine skL_on [9] ?_
     repeat (refine skL_take (v:= ?_) rfl ?_ ?_;rotate_left;(focus (intro w' hSw;(try dsimp only at hSw);go_simp;try with_reducible rfl));try simp only [Act.put,List.setIfInBounds_toArray,List.set_cons_zero,List.set_cons_succ])
     refine skL_off ?_
     refine wpAnyL_done (by kernel_rfl) ?_ _
     clear hS2
     obtain ⟨q,hq⟩:∃q,q=comW x y:=⟨_,rfl⟩
     have hqx:q≤x.length:=by rw [hq];exact (comW_le x y).1
     have hqy:q≤y.length:=by rw [hq];exact (comW_le x y).2
     rw [←hq]
     have HQ:=Lib.hid hq
     clear hq
     have hqe:=Lib.hid (wErr_take ok.out hxe.out q)
     have hcx:=HX.out.1
     have hqc:q≤cx:=by omega
     -- the first machine's outputs
     go_upto_region 8 with (fail)
     refine wp_region_L (fun w'=>w'.cell? ⟨bA,oA+k,none⟩=some (.slice ax x.length cx)∧C4 w' w.heap.size an cn ao co m) [0,1,2,3,4,5,6,7,9,10,11,12,13,14,15] (by kernel_rfl) ?_
     have hbd:=(Below.refl w2.heap.size w2).drew
     have hB3:=hB2.trans (hbd.mono hB2.size)
     have hS3:=And.intro (HXc.out _ hB3) (HS.out _ hB3).1
     clear hbd hB2
     generalize w2.drew=w3 at*
     have htk:=take_sl (HX.out.below hB3) q hqx
     have HF0:=from_any (HS.out _ hB3).2.1 htk.1 (s:Int)
     have hfr:=Mach.from_0 ok.out (s:=(s:Int)) (by omega) hqe.out
     rw [htk.2,hfr.1] at HF0
     have HF:=Lib.hid HF0
     have HFo:=Lib.hid hfr.2
     clear HF0 htk hfr
     refine skL_on [0,1,2,3,4,5,6,7] ?_
     repeat (refine skL_take (v:= ?_) rfl ?_ ?_;rotate_left;(focus (intro w' hSw;(try dsimp only at hSw);go_simp;try with_reducible rfl));try simp only [Act.put,List.setIfInBounds_toArray,List.set_cons_zero,List.set_cons_succ])
     refine skL_off ?_
     refine wpAnyL_one (i:=8) (by kernel_rfl) rfl rfl (fun K hK=> ?_)
     go_simp
     refine (HF.out).mono ?_
     rintro e w4 ⟨a4,c4,l4',rfl,hl4,hs4,hb4⟩
     have hB4:=hB3.trans (hb4.mono hB3.size)
     have hS4:=And.intro (HXc.out _ hB4) (HS.out _ hB4).1
     have HL4:=Lib.hid (hs4.anti (M':=fun _=>False) fun _ _ h=>h.elim)
     have hll4:=hs4.le
     refine hK _ _ (fun _=>hS4) ?_
     clear hK K HF hS3 hs4 hb4 hB3
     refine skL_on [9,10,11,12,13,14,15] ?_
     repeat (refine skL_take (v:= ?_) rfl ?_ ?_;rotate_left;(focus (intro w' hSw;(try dsimp only at hSw);go_simp;try with_reducible rfl));try simp only [Act.put,List.setIfInBounds_toArray,List.set_cons_zero,List.set_cons_succ])
     refine skL_off ?_
     refine wpAnyL_done (by kernel_rfl) ?_ _
     clear hS4
     -- the second machine's outputs
     go_upto_region 9 with (fail)
     refine wp_region_L (fun w'=>w'.cell? ⟨bA,oA+k,none⟩=some (.slice ax x.length cx)∧C4 w' w.heap.size an cn ao co m) [0,1,2,3,4,5,6,7,9,10,11,12,13,14,15] (by kernel_rfl) ?_
     have hbd:=(Below.refl w4.heap.size w4).drew
     have hB5:=hB4.trans (hbd.mono hB4.size)
     have hS5:=And.intro (HXc.out _ hB5) (HS.out _ hB5).1
     have HL5:=Lib.hid (HL4.out.below hbd)
     clear hbd hB4 HL4
     generalize w4.drew=w5 at*
     have htk:=take_sl (HX.out.below hB5) q hqx
     have HF0:=from_any (HS.out _ hB5).2.1 htk.1 (t:Int)
     have hfr:=Mach.from_0 ok.out (s:=(t:Int)) (by omega) hqe.out
     rw [htk.2,hfr.1] at HF0
     have HF:=Lib.hid HF0
     have HFo2:=Lib.hid hfr.2
     clear HF0 htk hfr
     refine skL_on [0,1,2,3,4,5,6,7] ?_
     repeat (refine skL_take (v:= ?_) rfl ?_ ?_;rotate_left;(focus (intro w' hSw;(try dsimp only at hSw);go_simp;try with_reducible rfl));try simp only [Act.put,List.setIfInBounds_toArray,List.set_cons_zero,List.set_cons_succ])
     refine skL_off ?_
     refine wpAnyL_one (i:=8) (by kernel_rfl) rfl rfl (fun K hK=> ?_)
     go_simp
     refine (HF.out).mono ?_
     rintro e w6 ⟨a6,c6,l6',rfl,hl6,hs6,hb6⟩
     have hB6:=hB5.trans (hb6.mono hB5.size)
     have hS6:=And.intro (HXc.out _ hB6) (HS.out _ hB6).1
     have HL6:=Lib.hid (hs6.anti (M':=fun _=>False) fun _ _ h=>h.elim)
     have HL46:=Lib.hid (HL5.out.below hb6)
     have hll6:=hs6.le
     refine hK _ _ (fun _=>hS6) ?_
     clear hK K HF hS5 hs6 hb6 hB5 HL5
     refine skL_on [9,10,11,12,13,14,15] ?_
     repeat (refine skL_take (v:= ?_) rfl ?_ ?_;rotate_left;(focus (intro w' hSw;(try dsimp only at hSw);go_simp;try with_reducible rfl));try simp only [Act.put,List.setIfInBounds_toArray,List.set_cons_zero,List.set_cons_succ])
     refine skL_off ?_
     refine wpAnyL_done (by kernel_rfl) ?_ _
     clear hS6
     have hHm:Hid (m.Harm (s:Int) (t:Int) x y↔l4'≠l6'):=by unfold Hid Mach.Harm;rw [←HQ.out,←HFo.out,←HFo2.out,←hl4.out,←hl6.out]
     by_cases he:l4'=l6'
     ·have HI:=Lib.hid (ints_yes HL46.out HL6.out he)
      have hI2:Hid (∀y∈B.take (j+1),¬m.Harm (s:Int) (t:Int) x y):=by
       intro z hz
       rw [List.take_add_one,hy.out] at hz
       rcases List.mem_append.1 hz with hz|hz
       ·exact hI.out z hz
       simp at hz;subst hz;exact fun h=>hHm.out.1 h he
      clear he
      go_wp2_with fail
      refine (HI.out).mono ?_
      rintro e w7 ⟨rfl,n7,rfl⟩
      have hB7:=bl_drewN hB6 n7
      generalize w6.drewN n7=w7 at*
      go_wp2
      go_roundw
      case rel=>exact ⟨j+1,by omega,by go_num,hI2,hB7⟩
      case measure=>simp [intOf];omega
     have HI:=Lib.hid (ints_no HL46.out HL6.out he)
     have hBf:=(HS.out _ hB6).2.2
     clear he
     go_wp2_with fail
     refine (HI.out).mono ?_
     rintro e w7 ⟨rfl,n7,rfl⟩
     have hB7:=bl_drewN hBf n7
     generalize w6.drewN n7=w7 at*
     go_wp2
     go_ret
     exact ⟨rfl,hB7⟩
    have hN2 : Hid (∀ x ∈ A.take (k + 1), ∀ y ∈ B, ¬ m.Harm (s : Int) (t : Int) x y) := by
     intro z hz y hy
     rw [List.take_add_one,hx.out] at hz
     rcases List.mem_append.1 hz with hz|hz
     ·exact hN.out z hz y hy
     simp at hz;subst hz;exact hI.out y (by rw [List.take_of_length_le (by omega)];exact hy)
    go_wp2
    go_roundw
    case rel=>exact ⟨k+1,by omega,by go_num,hN2,hB⟩
    case measure=>simp [intOf];omega
  exfalso
  obtain ⟨x,hx,y,hy,h⟩:=hH.out
  exact hN.out x (by rw [List.take_of_length_le (by omega)];exact hx) y hy h
end
end Go.Proofs.YtknhegdepbmmlaaGreat
namespace Go.Proofs.YtknhegdepbmmlaaGreat
namespace Mach
variable {m:Mach}
def sids (m:Mach):List (List (List Int)):=(List.range m.next.length).map fun s:Nat=>srt cmpW (m.idO (s:Int) (allS m.next.length))
def PairD (s t i j:Nat):Prop:=i≠j∧(min i j<s∨(min i j=s∧max i j<t))
structure SepF (m:Mach) (s t:Nat) (F:Nat→List (List Int)):Prop where
 mem:∀i,i<m.next.length→∀x,x∈F i↔∃j:Nat,j<m.next.length∧PairD s t i j∧x=m.sepW (i:Int) (j:Int)
 len:∀i,(F i).length≤s*m.next.length+t
theorem sepF_0 {t:Nat} (h:t≤1):m.SepF 0 t (fun _=>[]):=⟨fun i _ x=>⟨fun h=>by simp at h,fun ⟨j,_,⟨h1,h2⟩,_⟩=>by omega⟩,fun i=>by simp⟩
theorem sepF_step (ok:m.Ok) {s t:Nat} {F:Nat→List (List Int)} (h:m.SepF s t F) (hst:s<t) (ht:t<m.next.length):
    m.SepF s (t+1) (fun j=>if j=t then (if j=s then F s++[m.sepW (s:Int) (t:Int)] else F j)++[m.sepW (s:Int) (t:Int)] else if j=s then F s++[m.sepW (s:Int) (t:Int)] else F j):=by
 have hsw:m.sepW (s:Int) (t:Int)=m.sepW (t:Int) (s:Int):=sepW_swap ok (by omega) (by omega)
 refine ⟨fun i hi x=> ?_,fun i=> ?_⟩
 ·by_cases e:i=t
  ·subst e
   rw [if_pos rfl,if_neg (by omega),List.mem_append,List.mem_singleton,h.mem i hi]
   constructor
   ·rintro (⟨j,h1,h2,h3⟩|rfl)
    ·exact ⟨j,h1,⟨h2.1,by have:=h2.2;omega⟩,h3⟩
    exact ⟨s,by omega,⟨by omega,by omega⟩,hsw⟩
   rintro ⟨j,h1,⟨h2,h2'⟩,h3⟩
   by_cases e:j=s
   ·subst e;exact .inr (h3.trans hsw.symm)
   exact .inl ⟨j,h1,⟨h2,by omega⟩,h3⟩
  rw [if_neg e]
  by_cases e2:i=s
  ·subst e2
   rw [if_pos rfl,List.mem_append,List.mem_singleton,h.mem i hi]
   constructor
   ·rintro (⟨j,h1,h2,h3⟩|rfl)
    ·exact ⟨j,h1,⟨h2.1,by have:=h2.2;omega⟩,h3⟩
    exact ⟨t,ht,⟨by omega,by omega⟩,rfl⟩
   rintro ⟨j,h1,⟨h2,h2'⟩,h3⟩
   by_cases e:j=t
   ·subst e;exact .inr h3
   exact .inl ⟨j,h1,⟨h2,by omega⟩,h3⟩
  rw [if_neg e2,h.mem i hi]
  constructor
  ·rintro ⟨j,h1,h2,h3⟩
   exact ⟨j,h1,⟨h2.1,by have:=h2.2;omega⟩,h3⟩
  rintro ⟨j,h1,⟨h2,h2'⟩,h3⟩
  exact ⟨j,h1,⟨h2,by omega⟩,h3⟩
 have h1:=h.len i
 have h2:=h.len s
 split
 ·rename_i e
  rw [if_neg (by omega),List.length_append,List.length_singleton];omega
 split
 ·rename_i e
  subst e
  rw [List.length_append,List.length_singleton];omega
 omega
theorem sepF_next {s:Nat} {F:Nat→List (List Int)} (h:m.SepF s m.next.length F):m.SepF (s+1) (s+2) F:=by
 refine ⟨fun i hi x=> ?_,fun i=>by have:=h.len i;rw [Nat.succ_mul];omega⟩
 rw [h.mem i hi]
 constructor
 ·rintro ⟨j,h1,⟨h2,h2'⟩,h3⟩
  exact ⟨j,h1,⟨h2,by omega⟩,h3⟩
 rintro ⟨j,h1,⟨h2,h2'⟩,h3⟩
 exact ⟨j,h1,⟨h2,by omega⟩,h3⟩
theorem allS_mem {n:Nat} {x:Int}:x∈allS n↔∃k:Nat,k<n∧x=(k:Int):=by
 unfold allS
 rw [List.mem_map]
 constructor
 ·rintro ⟨k,hk,rfl⟩;exact ⟨k,List.mem_range.1 hk,rfl⟩
 rintro ⟨k,hk,rfl⟩;exact ⟨k,List.mem_range.2 hk,rfl⟩
theorem srt_congr {l l':List (List Int)} (h:∀x,x∈l↔x∈l'):srt cmpW l=srt cmpW l':=
 srt_of tot_cmp (srt_asc tot_cmp l') fun x=>by rw [srt_mem tot_cmp,h x]
theorem sepF_srt {s t:Nat} {F:Nat→List (List Int)} (h:m.SepF s t F) (hs:m.next.length≤s) {i:Nat} (hi:i<m.next.length):srt cmpW (F i)=srt cmpW (m.idO (i:Int) (allS m.next.length)):=by
 refine srt_congr fun x=> ?_
 rw [h.mem i hi]
 unfold idO
 rw [List.mem_map]
 constructor
 ·rintro ⟨j,h1,⟨h2,h2'⟩,rfl⟩
  exact ⟨(j:Int),List.mem_filter.2 ⟨allS_mem.2 ⟨j,h1,rfl⟩,by simp;omega⟩,rfl⟩
 rintro ⟨y,hy,rfl⟩
 obtain ⟨h1,h2⟩:=List.mem_filter.1 hy
 obtain ⟨j,hj,rfl⟩:=allS_mem.1 h1
 have h3:(j:Int)≠(i:Int):=by simpa using h2
 exact ⟨j,hj,⟨by omega,by omega⟩,rfl⟩
theorem sids_get {i:Nat} (hi:i<m.next.length):m.sids[i]? =some (srt cmpW (m.idO (i:Int) (allS m.next.length))):=by
 unfold sids;rw [List.getElem?_map,List.getElem?_range hi];rfl
def leafT (m:Mach):List Nd:=[⟨allS m.next.length, -1,[]⟩]
theorem nodup_allS (n:Nat):(allS n).Nodup:=by
 unfold allS
 refine List.Pairwise.map _ (fun a b h=> ?_) List.nodup_range
 intro e;exact h (by omega)
theorem leafT_chk (h:m.minErr=0):m.adsChk m.leafT=0:=by
 have h1:m.right m.leafT (m.leafT.length+1) 0 ⟨allS m.next.length,allS m.next.length⟩=(1,true):=by
  show m.right m.leafT (1+1) 0 _=_
  rw [right_leaf (x:=⟨allS m.next.length, -1,[]⟩) rfl (fun e=>e.elim (fun e=>e rfl) (fun e=>nodup_iset (nodup_allS _) e)) rfl]
  rfl
 unfold adsChk
 rw [if_neg (by simp [h]),if_neg (by simp [leafT])]
 exact if_pos h1
theorem leafT_word (s:Int):m.adsW m.leafT s=([],0):=by
 unfold adsW
 rw [wordGo_stop (x:=⟨allS m.next.length, -1,[]⟩) rfl (by simp)]
theorem leafT_ids (h:m.minErr=0) (hn:1<m.next.length):m.idE m.leafT=(m.sids,0):=by
 unfold idE
 rw [leafT_chk h,if_neg (by simp)]
 congr 1
 unfold ids sids
 refine List.map_congr_left fun s hs=> ?_
 congr 1
 unfold idW idA
 rw [leafT_word,if_neg (by simp only [List.length_nil];show ¬(0<0∨(nodeSt m.leafT 0).length=1);rw [nodeSt_of (x:=⟨allS m.next.length, -1,[]⟩) rfl];simp only;rw [allS_len];omega),List.nil_append]
 rw [nodeSt_of (x:=⟨allS m.next.length, -1,[]⟩) rfl]
theorem leafT_one (h:m.minErr=0) (hn:m.next.length=1) {s:Nat} (hs:s<m.next.length):m.idW m.leafT (s:Int)=[[]]:=by
 have h1:=idW_one (Mach.ok_of_err m (Mach.minErr_ok h).1) (leafT_chk h) (by unfold complB leafT;simp [allS_len,hn]) hs
 rw [h1,leafT_word]
end Mach
end Go.Proofs.YtknhegdepbmmlaaGreat
namespace Go.Proofs.YtknhegdepbmmlaaGreat
open Go.RowKit
section
variable {M:Nat→Prop} {w:World} {an ao:Option Addr} {cn co:Nat} {m:Mach}
theorem sepchk_any (hm:Ma M w an cn ao co m) (hme:Hid (m.minErr=0)):
    Calls Tryz.prog 57 #[maV m an cn ao co] w fun e w'=>e= .returned (.int .i64 0)∧Below w.heap.size w w':=by
 have hB0:=(Below.refl w.heap.size w).alloc (Nat.le_refl _) (maO m an cn ao co)
 have hx0:C4 (w.alloc (maO m an cn ao co)) w.heap.size an cn ao co m:=c4_new w
 have hz0:w.heap.size+1≤(w.alloc (maO m an cn ao co)).heap.size:=by simp
 have l1:=hm.next.le
 have l2:=hm.out.le
 have HM:=Lib.hid hm
 have HV0:=valid_any (hm.below hB0)
 rw [(Mach.minErr_ok hme.out).1] at HV0
 have HV:=Lib.hid HV0
 clear hm HV0
 go_enter Tryz.func57,Tryz.ntmps57
 go_upto_region 1 with (fail)
 generalize w.alloc (maO m an cn ao co)=w0 at*
 obtain ⟨d0,d1,d2,d3⟩:=hx0
 go_wp2_with fail
 refine (HV.out).mono ?_
 rintro e w1 ⟨rfl,hb1⟩
 have hx1:C4 w1 w.heap.size an cn ao co m:=C4.below ⟨d0,d1,d2,d3⟩ hb1 (by omega)
 have hB1:=hB0.trans (hb1.mono (by omega))
 have HMi:=Lib.hid (minimal_any (HM.out.below hB1))
 clear d0 d1 d2 d3 hB0 hb1 HV
 obtain ⟨d0,d1,d2,d3⟩:=hx1
 go_wp2_with fail
 refine (HMi.out).mono ?_
 rintro e w2 ⟨b,rfl,hb,hb2⟩
 have hbt:b=true:=hb.out.trans (Mach.minErr_ok hme.out).2
 subst hbt
 have hB2:=hB1.trans (hb2.mono hB1.size)
 clear d0 d1 d2 d3 hB1 hb2 HMi
 go_wp2
 go_ret
 exact ⟨rfl,hB2⟩
theorem ansW_sep {s t:Int} {l:List Int} {f:Bool} (h:ansW (stW m s t) l f):l=m.sepW s t:=h.1
theorem stErr_0 (ok:m.Ok) {s t:Int} (hs:0≤s∧s<m.next.length) (ht:0≤t∧t<m.next.length):stErr m s t=0:=by
 rcases st_cases (Mach.err_of_ok _ ok) s t with h|h|h|h|h
 all_goals first|omega|exact h.2.2.2.2
theorem nn_le {s t n:Nat} (hs:s≤n) (ht:t≤n) (hn:n<1000):s*n+t<1002000:=by
 have h1:s*n≤1000*1000:=Nat.mul_le_mul (by omega) (by omega)
 omega
theorem sident_any (hm:Ma M w an cn ao co m) (hme:Hid (m.minErr=0)) (hn:Hid (m.next.length<1000)):
    Calls Tryz.prog 22 #[maV m an cn ao co] w fun e w'=>∃(a:Option Addr) (c:Nat) (L:List (List (List Int))),e= .returned (.tuple #[.slice a L.length c,.int .i64 0])∧Hid (L=m.sids)∧Sl (fun k=>k<w.heap.size) w' a c L∧Below w.heap.size w w':=by
 have hB0:=(Below.refl w.heap.size w).alloc (Nat.le_refl _) (maO m an cn ao co)
 have hx0:C4 (w.alloc (maO m an cn ao co)) w.heap.size an cn ao co m:=c4_new w
 have hz0:w.heap.size+1≤(w.alloc (maO m an cn ao co)).heap.size:=by simp
 have ok:Hid m.Ok:=Mach.ok_of_err m (Mach.minErr_ok hme.out).1
 have hnl:=hn.out
 have HM:=Lib.hid hm
 have HC:=Lib.hid (sepchk_any (hm.below hB0) hme)
 clear hm
 go_enter Tryz.func22,Tryz.ntmps22
 go_upto_region 1 with (fail)
 generalize w.alloc (maO m an cn ao co)=w0 at*
 obtain ⟨d0,d1,d2,d3⟩:=hx0
 go_wp2_with fail
 refine (HC.out).mono ?_
 rintro e w1 ⟨rfl,hb1⟩
 have hx1:C4 w1 w.heap.size an cn ao co m:=C4.below ⟨d0,d1,d2,d3⟩ hb1 (by omega)
 have hB1:=hB0.trans (hb1.mono (by omega))
 have hz1:w.heap.size+1≤w1.heap.size:=by have:=hb1.size;omega
 clear d0 d1 d2 d3 hB0 hb1 HC hz0
 have HS1:Hid (∀w',Below w1.heap.size w1 w'→C4 w' w.heap.size an cn ao co m∧Ma M w' an cn ao co m∧Below w.heap.size w w'):=fun w' h=>
  ⟨hx1.below h (by omega),HM.out.below (hB1.trans (h.mono (by omega))),hB1.trans (h.mono (by omega))⟩
 have hx12:=hx1.2.2.1
 have hFam:Hid (FamR w1.heap.size (fun k=>k=w1.heap.size) (w1.alloc (.cells (madeCells #[.slice none 0 0] m.next.length) 22)) w1.heap.size m.next.length (fun _=>[])):=FamR.made
 have hba:=(Below.refl w1.heap.size w1).alloc (Nat.le_refl _) (.cells (madeCells #[.slice none 0 0] m.next.length) 22)
 have hx22:=(HS1.out _ hba).1.2.2.1
 have hF0:Hid (m.SepF 0 1 (fun _=>[])):=Mach.sepF_0 (by omega)
 go_wp2_with (at_make;refine wpList_mk_exact rfl _ _ _ rfl 22 (.slice none 0 0) 24 Tryz.underlying31 info_rowsF rfl m.next.length rfl rfl (by omega) (by unfold maxLen;omega) ?_)
 clear hx1 hx12 hB1
 generalize w1.alloc (.cells (madeCells #[.slice none 0 0] m.next.length) 22)=w2 at*
 clear hz1
 go_wp2
 go_loopw [26] (fun v wr=>∃(s:Nat) (W:Nat→Prop) (F:Nat→List (List Int)),s≤m.next.length∧v= .int .i64 s∧Hid (FamR w1.heap.size W wr w1.heap.size m.next.length F)∧Hid (m.SepF s (s+1) F)∧Below w1.heap.size w1 wr) (fun v _=>m.next.length-(intOf v).toNat)
 case atStart=>exact ⟨0,_,_,by omega,rfl,hFam,hF0,hba⟩
 case round=>
  clear hFam hba hF0 hx22
  obtain ⟨s,W,F,hs,rfl,hFam,hF,hB⟩:=hrel
  obtain ⟨wo,rfl⟩:∃wo:World,wo=wr:=⟨_,rfl⟩
  by_cases hlt:s<m.next.length
  ·go_wp2
   go_loopw [7] (fun v wr=>∃(t:Nat) (W:Nat→Prop) (F:Nat→List (List Int)),s+1≤t∧t≤m.next.length∧v= .int .i64 t∧Hid (FamR w1.heap.size W wr w1.heap.size m.next.length F)∧Hid (m.SepF s t F)∧Below w1.heap.size w1 wr) (fun v _=>m.next.length-(intOf v).toNat)
   case atStart=>exact ⟨s+1,W,F,by omega,by omega,by go_num,hFam,hF,hB⟩
   case round=>
    clear hFam hF hB
    obtain ⟨t,W,F,hst,ht,rfl,hFam,hF,hB⟩:=hrel
    obtain ⟨wo,rfl⟩:∃wo:World,wo=wr:=⟨_,rfl⟩
    have hSo:=HS1.out _ hB
    have hzo:=hB.size
    by_cases htn:t<m.next.length
    ·have hsr:Hid ((0:Int)≤s∧(s:Int)<m.next.length∧(0:Int)≤t∧(t:Int)<m.next.length):=by unfold Hid;omega
     have HSt0:=states_any hSo.2.1 (s:Int) (t:Int) (by unfold i64;omega) (by unfold i64;omega)
     rw [stErr_0 ok.out ⟨hsr.out.1,hsr.out.2.1⟩ ⟨hsr.out.2.2.1,hsr.out.2.2.2⟩] at HSt0
     have HSt:=Lib.hid HSt0
     obtain ⟨d0,d1,d2,d3⟩:=hSo.1
     clear HSt0 hSo
     go_wp2_with fail
     refine (HSt.out).mono ?_
     rintro e w3 ⟨ad,cd,l,f,rfl,hl,hsl,hb3⟩
     have hle:Hid (l=m.sepW (s:Int) (t:Int)):=ansW_sep hl.out
     have hB3:=hB.trans (hb3.mono hzo)
     have hz3:=hB3.size
     have hFam3:=Lib.hid (hFam.out.below hb3)
     have hlW:Hid (Sl (fun k=>k<wo.heap.size) w3 ad cd l):=hsl
     have hll:=hsl.le
     have hlow:Hid (∀k,W k→k<wo.heap.size):=fun k hk=>(hFam.out.lo k hk).2
     have hgWs:Hid (W w1.heap.size):=hFam.out.gW
     obtain ⟨a0,c0,hc0, -, -, -⟩:=hFam3.out.cell s hlt
     have hlen:Hid ((F s).length<1010000∧(F t).length<1010000):=by
      have h1:=hF.out.len s
      have h2:=hF.out.len t
      have h3:=nn_le (s:=s) (t:=t) (n:=m.next.length) (by omega) (by omega) hn.out
      exact ⟨by omega,by omega⟩
     have hls:=hlen.out.1
     have hlt2:=hlen.out.2
     clear hl hsl hB hFam hb3 HSt d0 d1 d2 d3
     have hF4:=Lib.hid (hFam3.out.below ((Below.refl w3.heap.size w3).alloc (Nat.le_refl _) (.cells #[.slice ad l.length cd] 45)))
     have hc4:(w3.alloc (.cells #[.slice ad l.length cd] 45)).cell? ⟨w1.heap.size,s,none⟩=some (.slice a0 (F s).length c0):=(((Below.refl w3.heap.size w3).alloc (Nat.le_refl _) _).cell (p:=⟨w1.heap.size,s,none⟩) (lt_of_cell hc0)).trans hc0
     have hl4:=(hlW.out.alloc (.cells #[.slice ad l.length cd] 45)).anti (M':=fun k=>W k∨k<w1.heap.size) fun k _ hm=>by
      rcases hm with hm|hm
      ·exact hlow.out k hm
      show k<_;omega
     have HL4:=Lib.hid hl4
     clear hl4
     go_wp2_with (at_builtin;refine wpList_push_f (F:=F) (i:=s) (r:=l) rfl rfl Tryz.underlying22 info_ints rfl rfl hF4 hlt hc4 (by simp [go_sem]) HL4.out (by omega) (by simp;omega) ?_)
     intro a5 c5 n5 w5 hn5 hFam5 hcc5 hff5 hb5 hu5
     have hB4:=hB3.alloc hz3 (.cells #[.slice ad l.length cd] 45)
     have hB5:=hB4.trans hb5
     have hB6:=hB5.setCell (p:=⟨w1.heap.size,s,none⟩) (Nat.le_refl _) (.slice a5 n5 c5)
     have hz6:=hB6.size
     have hz5:w1.heap.size≤w5.heap.size:=hB5.size
     obtain ⟨F6,hF6⟩:∃F6,F6=(fun j=>if j=s then F s++[l] else F j):=⟨_,rfl⟩
     rw [←hF6] at hFam5
     obtain ⟨W6,hW6⟩:∃W6:Nat→Prop,W6=(fun k=>W k∨(k=w3.heap.size+1∧k<w5.heap.size)):=⟨_,rfl⟩
     rw [←hW6] at hFam5
     have hgo:w1.heap.size<wo.heap.size:=hlow.out _ hgWs.out
     have hlW6:Hid (Sl (fun k=>W6 k∨k<w1.heap.size) (w5.setCell ⟨w1.heap.size,s,none⟩ (.slice a5 n5 c5)) ad cd l):=by
      have hsa:(w3.alloc (.cells #[.slice ad l.length cd] 45)).heap.size=w3.heap.size+1:=by simp
      refine (hlW.out.alloc (.cells #[.slice ad l.length cd] 45)).ext ⟨by have:=hb5.size;simpa [World.setCell] using this,fun k hk hm=> ?_,fun k hk hm=> ?_⟩
      ·rw [hsa] at hk
       rw [Below.heap_setCell _ _ _ _ (fun e=>hm (by simp at e;omega)),hu5.out k hk (fun e=>hm (hlow.out k e))]
      rw [hW6] at hm
      rw [hsa] at hk
      rcases hm with (hm|hm)|hm
      ·exact hlow.out k hm
      ·omega
      show k<_;omega
     have hF6t:Hid (F6 t=F t):=by unfold Hid;rw [hF6];exact if_neg (by omega)
     have hlen6:Hid ((F6 t).length<1010000):=by unfold Hid;rw [hF6t.out];exact hlt2
     obtain ⟨a7,c7,hc7, -, -, -⟩:=hFam5.out.cell t htn
     have hB7w:=(Below.refl (w5.setCell ⟨w1.heap.size,s,none⟩ (.slice a5 n5 c5)).heap.size (w5.setCell ⟨w1.heap.size,s,none⟩ (.slice a5 n5 c5))).alloc (Nat.le_refl _) (.cells #[.slice ad l.length cd] 45)
     have hF7:=Lib.hid (hFam5.out.below hB7w)
     have hc7a:((w5.setCell ⟨w1.heap.size,s,none⟩ (.slice a5 n5 c5)).alloc (.cells #[.slice ad l.length cd] 45)).cell? ⟨w1.heap.size,t,none⟩=some (.slice a7 (F6 t).length c7):=(hB7w.cell (p:=⟨w1.heap.size,t,none⟩) (lt_of_cell hc7)).trans hc7
     have HL7:=Lib.hid (hlW6.out.alloc (.cells #[.slice ad l.length cd] 45))
     have HF6:=Lib.hid hF6
     clear hFam5 hlW6 hW6 hu5 hFam3 hF4 HL4 hlow hgo hB3 hB4 hB5 hb5 hF6
     go_wp2_with (at_builtin;(refine wpList_push_f (F:=F6) (i:=t) (r:=l) rfl rfl Tryz.underlying22 info_ints rfl rfl hF7 htn hc7a (by simp [go_sem]) HL7.out (by have:=hlen6.out;omega) (by simp;omega) ?_))
     intro a8 c8 n8 w8 hn8 hFam8 hcc8 hff8 hb8 hu8
     have hB8:=((hB6.alloc hz6 (.cells #[.slice ad l.length cd] 45)).trans hb8).setCell (p:=⟨w1.heap.size,t,none⟩) (Nat.le_refl _) (.slice a8 n8 c8)
     have hF8:Hid (m.SepF s (t+1) (fun j=>if j=t then F6 t++[l] else F6 j)):=by
      have h1:=Mach.sepF_step ok.out hF.out (by omega) htn
      rw [←hle.out] at h1
      have h2:(fun j=>if j=t then F6 t++[l] else F6 j)=(fun j=>if j=t then (if j=s then F s++[l] else F j)++[l] else if j=s then F s++[l] else F j):=by
       funext j
       rw [HF6.out]
       by_cases e:j=t
       ·subst e;simp only [if_true]
       simp only [if_neg e]
      unfold Hid
      rw [h2]
      exact h1
     clear HF6 hF7 HL7 hB7w hB6 hu8 hb8 hF
     go_wp2
     go_roundw
     case rel=>exact ⟨t+1,_,_,by omega,by omega,by go_num,hFam8,hF8,hB8⟩
     case measure=>simp [intOf];omega
    have hF2 : Hid (m.SepF (s + 1) (s + 1 + 1) F) := by
     have h:=hF.out
     rw [show t=m.next.length by omega] at h
     exact Mach.sepF_next h
    have hd2:=hSo.1.2.2.1
    clear hSo
    go_wp2
    go_roundw
    case rel=>exact ⟨s+1,W,F,by omega,by go_num,hFam,hF2,hB⟩
    case measure=>simp [intOf];omega
  have hsn:Hid (m.next.length≤s):=by unfold Hid;omega
  have hzo:=hB.size
  have hBw:=(HS1.out _ hB).2.2
  have hwo:=hBw.size
  go_wp2_with (at_make;refine wpList_mk0 (α:=List (List Int)) rfl _ _ _ rfl _ _ _ Tryz.underlying31 info_rowsF wo.heap.size (fun k=>(Value.slice (some ⟨wo.heap.size,0,none⟩) 0 m.next.length).ownBlock=some k∨k<wo.heap.size) m.next.length rfl rfl (by omega) (by unfold maxLen;omega) (Nat.le_refl _) ?_)
  intro w3 hO3 hb3
  have hO30:Ox wo.heap.size wo.heap.size w3 22 (.slice (some ⟨wo.heap.size,0,none⟩) ([]:List (List (List Int))).length m.next.length) ([]:List (List (List Int))):=hO3
  have hK0:Hid (([]:List (List (List Int)))=m.sids.take 0):=rfl
  clear hO3 hwo
  go_wp2
  go_loopw [75,11] (fun i v wr=>∃(k:Nat) (a':Option Addr) (c':Nat) (K:List (List (List Int))),k≤m.next.length∧i= .int .i64 k∧v= .slice a' K.length c'∧Hid (K=m.sids.take k)∧Ox wo.heap.size wo.heap.size wr 22 (.slice a' K.length c') K∧Below wo.heap.size wo wr) (fun i _ _=>m.next.length-(intOf i).toNat)
  case atStart=>exact ⟨0,_,_,[],by omega,rfl,rfl,hK0,hO30,hb3⟩
  case round=>
   clear hO30 hb3 hK0
   obtain ⟨k,a',c',K,hk,rfl,rfl,hK,hO,hB3⟩:=hrel
   obtain ⟨w3,rfl⟩:∃w3:World,w3=wr:=⟨_,rfl⟩
   have hz3:=hB3.size
   have hsl:Hid (m.sids.length=m.next.length):=by unfold Hid Mach.sids;simp
   have hKl:Hid (K.length=k):=by unfold Hid;rw [hK.out,List.length_take,hsl.out];omega
   by_cases hkn:k<m.next.length
   ·obtain ⟨a0,c0,hc0,hs0⟩:=(hFam.out.below hB3).toSl hkn
    have hlen:Hid ((F k).length<1010000):=by
     have h1:=hF.out.len k
     have h3:=nn_le (s:=s) (t:=0) (n:=m.next.length) (by omega) (by omega) hn.out
     unfold Hid
     omega
    have HSr:=Lib.hid (sorted_any hs0 (by have:=hlen.out;omega) (Lib.hid fun r hr=>by
     obtain ⟨j, -, -,rfl⟩:=(hF.out.mem k hkn r).1 hr
     have:=Mach.sepW_len hn.out (k:Int) (j:Int);omega))
    have hll:=hs0.le
    clear hs0
    go_wp2_with fail
    refine (HSr.out).mono ?_
    rintro e w8 ⟨a8,c8,L8,rfl,hL8,hS8,hb8⟩
    have hB8:=hB3.trans (hb8.mono hz3)
    have hO8:=Ox.later hO hb8
    have hS8':Sl (fun k=>(Value.slice a' K.length c').ownBlock=some k∨k<wo.heap.size) w8 a8 c8 L8:=hS8.anti fun k _ hm=>by
     rcases hm with hm|hm
     ·exact (hO.lt k hm).2
     show k<_;omega
    have hL8l:=hS8'.le
    have hz8:=hB8.size
    clear HSr hB3 hS8 hb8 hO
    go_wp2_with (at_builtin;refine wpList_push_x (n0:=wo.heap.size) (B:=wo.heap.size) (r:=L8) (ar:=a8) (cr:=c8) rfl rfl Tryz.underlying31 info_rowsF rfl rfl (hO8.alloc _) (by simp [go_sem]) (hS8'.alloc _) (by rw [hKl.out];omega) (by simp;omega) ?_)
    intro a9 c9 K9 w9 hK9 hO9 hbk hgr
    have hB9:=(hB8.alloc hz8 (.cells #[.slice a8 L8.length c8] 22)).grown hgr (by simp;omega) (fun k hk=>(hO8.lt k hk).1)
    have hKn:Hid (K9=m.sids.take (k+1)):=by unfold Hid;rw [hK9.out,hK.out,List.take_add_one,Mach.sids_get hkn,hL8.out,Mach.sepF_srt hF.out hsn.out hkn];rfl
    clear hbk hgr hK9 hO8 hB8 hS8' hz8
    go_wp2
    go_roundw
    case rel=>exact ⟨k+1,a9,c9,K9,by omega,by go_num,rfl,hKn,hO9,hB9⟩
    case measure=>simp [intOf];omega
   have hKf:Hid (K=m.sids):=by unfold Hid;rw [hK.out,List.take_of_length_le (by rw [hsl.out];omega)]
   have hSf:=(hO.toSl (Nat.le_refl _)).anti (M':=fun k=>k<w.heap.size) fun k _ hm=>by have:=hBw.size;show k<_;omega
   have hBf:=hBw.trans (hB3.mono hBw.size)
   go_wp2
   go_ret2
   exact ⟨a',c',K,rfl,hKf,hSf,hBf⟩
end
section
variable {M MT:Nat→Prop} {w:World} {an ao aT:Option Addr} {cn co cT:Nat} {m:Mach} {T:List Nd}
theorem small11_v (hm:Ma M w an cn ao co m) {v:Bool} (h:m.small11=v):
    Calls Tryz.prog 9 #[maV m an cn ao co] w fun e w'=>e= .returned (.bool v)∧Below w.heap.size w w':=by rw [←h];exact small11_any hm
end
def HarmT (m:Mach) (leaf:Bool) (T:List Nd) (okv:Bool):Prop:=
 m.adsChk T=0∧T.length≤505∧(okv=true→∀s:Nat,s<m.next.length→∃x,m.idW T (s:Int)=[x])∧(leaf=true→1<m.next.length→(m.idE T).1=m.sids)
theorem harmT_build {m:Mach} (h:m.minErr=0) (n8:m.next.length≤8) {L:List Nd} {y:Bool} {e:Int} (hb:m.adsB=(L,y,e)):e=0∧HarmT m false L y:=by
 obtain ⟨h1,h2⟩:=Mach.adsB_8 h n8
 have h3:=Mach.adsB_chk (n:=m) (by rw [h1])
 rw [h1] at hb h3
 simp only [Prod.mk.injEq] at hb
 obtain ⟨rfl,rfl,rfl⟩:=hb
 exact ⟨rfl,h3,h2,fun hc s hs=>⟨_,Mach.idW_one (Mach.ok_of_err m (Mach.minErr_ok h).1) h3 hc hs⟩,fun hf=>by simp at hf⟩
theorem harmT_leaf {m:Mach} (h:m.minErr=0):HarmT m true m.leafT (decide (m.next.length=1)):=
 ⟨Mach.leafT_chk h,by simp [Mach.leafT],fun hc s hs=>⟨[],Mach.leafT_one h (of_decide_eq_true hc) hs⟩,fun _ hn=>by rw [Mach.leafT_ids h hn]⟩
theorem srt_one (x:List Int):srt cmpW [x]=[x]:=srt_of tot_cmp (by simp [Asc]) fun _=>Iff.rfl
section
variable {m:Mach} {leaf okv:Bool} {T:List Nd} {L:List (List (List Int))} {x:List (List Int)} {s:Nat}
theorem HarmT.row (h:HarmT m leaf T okv) (hL:(m.idE T).1=L) (hx:L[s]? =some x):s<m.next.length∧x=srt cmpW (m.idW T (s:Int)):=by
 unfold Mach.idE at hL
 rw [if_neg (by simp [h.1])] at hL
 unfold Mach.ids at hL
 have hs:s<m.next.length:=by have:=some_lt hx;rw [←hL] at this;simpa using this
 refine ⟨hs,?_⟩
 rw [←hL] at hx
 simp only [List.getElem?_map,List.getElem?_range hs] at hx
 exact (Option.some.inj hx).symm
theorem HarmT.len (h:HarmT m leaf T okv) (hm:m.minErr=0) (hL:(m.idE T).1=L) (hx:L[s]? =some x):x.length≠0∧(okv=true→x.length=1):=by
 obtain ⟨hs,rfl⟩:=h.row hL hx
 constructor
 ·intro e
  have h1:=Mach.idW_pos (Mach.ok_of_err m (Mach.minErr_ok hm).1) h.1 hs
  obtain ⟨y,hy⟩:=List.exists_mem_of_ne_nil _ h1
  have h2:=(srt_mem tot_cmp (l:=m.idW T (s:Int)) (x:=y)).2 hy
  rw [List.eq_nil_of_length_eq_zero e] at h2
  simp at h2
 intro hc
 obtain ⟨y,hy⟩:=h.2.2.1 hc s hs
 rw [hy,srt_one];rfl
end
section
variable {M:Nat→Prop} {w:World} {an ao:Option Addr} {cn co:Nat} {m:Mach}
def HNode (w:World) (nb:Nat) (a:Option Addr) (n c:Nat):Prop:=w.heap[nb]? =some (.cells #[.slice a n c,.int .i64 (-1),.slice none 0 0] 51 (0,0))
theorem HNode.kept {w w':World} {nb:Nat} {a:Option Addr} {n c:Nat} (h:HNode w nb a n c) (hb:Below (nb+1) w w'):HNode w' nb a n c:=(hb.block _ (by omega)).trans h
theorem harmonyLaw_any (hm:Ma M w an cn ao co m) (leaf:Bool):Calls Tryz.prog 6 #[maV m an cn ao co,.bool leaf] w fun e w'=>e= .returned (.bool true)∧Below w.heap.size w w':=by
 have hB0:=(Below.refl w.heap.size w).alloc (Nat.le_refl _) (maO m an cn ao co)
 have hx0:C4 (w.alloc (maO m an cn ao co)) w.heap.size an cn ao co m:=c4_new w
 have hz0:(w.alloc (maO m an cn ao co)).heap.size=w.heap.size+1:=by simp
 have l1:=hm.next.le
 have l2:=hm.out.le
 have hM0:=hm.below hB0
 clear hm
 have hcase:m.small11=false∨(m.small11=true∧m.minErr≠0)∨(m.small11=true∧m.minErr=0):=by
  cases m.small11
  ·exact .inl rfl
  by_cases h2:m.minErr=0
  ·exact .inr (.inr ⟨rfl,h2⟩)
  exact .inr (.inl ⟨rfl,h2⟩)
 go_enter Tryz.func6,Tryz.ntmps6
 go_upto_region 1 with (fail)
 generalize w.alloc (maO m an cn ao co)=w0 at*
 have HS:Hid (∀w',Below w0.heap.size w0 w'→C4 w' w.heap.size an cn ao co m∧Ma M w' an cn ao co m∧Below w.heap.size w w'):=fun w' h=>
  ⟨hx0.below h (by omega),hM0.below h,hB0.trans (h.mono (by omega))⟩
 have hBz:=Below.refl w0.heap.size w0
 have HSm:Hid (∀v,m.small11=v→Calls Tryz.prog 9 #[maV m an cn ao co] w0 fun e w'=>e= .returned (.bool v)∧Below w0.heap.size w0 w'):=fun v h=>small11_v hM0 h
 have hS0:=HS.out _ hBz
 clear hx0 hM0 hB0
 obtain ⟨⟨d0,d1,d2,d3⟩, -⟩:=hS0
 rcases hcase with hs|⟨hs,h2⟩|⟨hs,h2⟩
 ·have HSv:=Lib.hid (HSm.out _ hs)
  clear hs HSm
  go_wp2_with fail
  refine (HSv.out).mono ?_
  rintro e w1 ⟨rfl,hb1⟩
  have hB1:=(HS.out _ (hBz.trans hb1)).2.2
  clear d0 d1 d2 d3
  go_wp2_with fail
  refine (ex31_any (w:=w1)).mono ?_
  rintro e w3 ⟨rfl,hb3⟩
  have hB3:=hB1.trans (hb3.mono hB1.size)
  go_wp2
  go_ret
  exact ⟨rfl,hB3⟩
 ·have HSv:=Lib.hid (HSm.out _ hs)
  have h2d:(m.minErr !=0)=true:=by simp [h2]
  clear hs HSm h2
  go_wp2_with fail
  refine (HSv.out).mono ?_
  rintro e w1 ⟨rfl,hb1⟩
  have hB1:=hBz.trans hb1
  have hS1:=HS.out _ hB1
  have HCk:=Lib.hid (check11_any hS1.2.1)
  clear d0 d1 d2 d3
  obtain ⟨⟨d0,d1,d2,d3⟩, -⟩:=hS1
  go_wp2_with fail
  refine (HCk.out).mono ?_
  rintro e w2 ⟨rfl,hb2⟩
  have hB2:=(HS.out _ (hB1.trans (hb2.mono hB1.size))).2.2
  clear d0 d1 d2 d3
  go_wp2_with fail
  refine (ex31_any (w:=w2)).mono ?_
  rintro e w3 ⟨rfl,hb3⟩
  have hB3:=hB2.trans (hb3.mono hB2.size)
  go_wp2
  go_ret
  exact ⟨rfl,hB3⟩
 have HSv:=Lib.hid (HSm.out _ hs)
 have h2d:(m.minErr !=0)=false:=by simp [h2]
 have hme:Hid (m.minErr=0):=h2
 have ok:Hid m.Ok:=Mach.ok_of_err m (Mach.minErr_ok h2).1
 have n8:=Lib.hid (Mach.small11_t hs).1
 have hn:Hid (m.next.length<1000):=by have:=n8.out;unfold Hid;omega
 have hn8:=n8.out
 clear hs HSm h2
 go_wp2_with fail
 refine (HSv.out).mono ?_
 rintro e w1 ⟨rfl,hb1⟩
 have hB1:=hBz.trans hb1
 have hS1:=HS.out _ hB1
 have HCk:=Lib.hid (check11_any hS1.2.1)
 clear d0 d1 d2 d3 HSv
 obtain ⟨⟨d0,d1,d2,d3⟩, -⟩:=hS1
 go_wp2_with fail
 refine (HCk.out).mono ?_
 rintro e w2 ⟨rfl,hb2⟩
 have hB2:=hB1.trans (hb2.mono hB1.size)
 have hS2:=HS.out _ hB2
 have HBu:=Lib.hid (gbuild_any hS2.2.1 hn)
 clear d0 d1 d2 d3 HCk hB1 hb1 hb2 hBz
 obtain ⟨⟨d0,d1,d2,d3⟩, -⟩:=hS2
 go_wp2_with fail
 refine (HBu.out).mono ?_
 rintro e w3 ⟨aL,cL,TL,y3,e3,rfl,hL,hLs,hb3⟩
 have hB3:=hB2.trans (hb3.mono hB2.size)
 obtain ⟨he3,hT3⟩:=harmT_build hme.out n8.out hL.out
 subst he3
 have HT3:=Lib.hid hT3
 have HLs3:=Lib.hid (hLs.anti (M':=fun _=>False) fun _ _ h=>h.elim)
 have hll3:=hLs.le
 have hz3:=hB3.size
 clear d0 d1 d2 d3 HBu hB2 hb3 hL hLs hT3
 go_upto_if 30 with (fail)
 have hba:=(Below.refl w3.heap.size w3).alloc (Nat.le_refl _) (.cells #[.slice aL TL.length cL] 27)
 have hB4:=hB3.trans (hba.mono hz3)
 have HLs4:=Lib.hid (HLs3.out.below hba)
 have ha4:(w3.alloc (.cells #[.slice aL TL.length cL] 27)).heap[w3.heap.size]? =some (.cells #[.slice aL TL.length cL] 27 (0,0)):=heap_alloc_new _ _
 have hz4:w3.heap.size<(w3.alloc (.cells #[.slice aL TL.length cL] 27)).heap.size:=by simp
 clear hba hB3 HLs3
 generalize w3.alloc (.cells #[.slice aL TL.length cL] 27)=w4 at*
 go_cut [6,8] from 30 (fun v6 v8 wc=>∃(T:List Nd) (aT:Option Addr) (cT:Nat) (okv:Bool) (x8:Value),v6= .bool okv∧v8=x8∧Hid (HarmT m leaf T okv)∧wc.cell? ⟨w3.heap.size,0,none⟩=some (.slice aT T.length cT)∧Hid (Sl (fun _=>False) wc aT cT T)∧Below w0.heap.size w0 wc)
 case first=>
  cases leaf with
  |false=>
   have hc4:w4.cell? ⟨w3.heap.size,0,none⟩=some (.slice aL TL.length cL):=cell_of_row _ _ _ _ _ _ ha4
   go_wp2
   go_meet
   case rel=>exact ⟨TL,aL,cL,y3,_,rfl,rfl,HT3,hc4,HLs4,hB4⟩
  |true=>
   have hc4:w4.cell? ⟨w3.heap.size,0,none⟩=some (.slice aL TL.length cL):=cell_of_row _ _ _ _ _ _ ha4
   have hf4:w4.frozen? ⟨w3.heap.size,0,none⟩=false:=frozen_of_row _ _ _ _ _ ha4
   have hx4:=(HS.out _ hB4).1.2.2.1
   go_upto_region 6 with (fail)
   have hsz:(w4.setCell ⟨w3.heap.size,0,none⟩ (.slice (some ⟨w4.heap.size,0,none⟩) 1 1)).heap.size=w4.heap.size:=by simp [World.setCell]
   have hN5:HNode ((w4.setCell ⟨w3.heap.size,0,none⟩ (.slice (some ⟨w4.heap.size,0,none⟩) 1 1)).alloc (.cells #[.slice none 0 0,.int .i64 (-1),.slice none 0 0] 51)) w4.heap.size none 0 0:=by
    have h:=heap_alloc_new (w4.setCell ⟨w3.heap.size,0,none⟩ (.slice (some ⟨w4.heap.size,0,none⟩) 1 1)) (.cells #[.slice none 0 0,.int .i64 (-1),.slice none 0 0] 51)
    rw [hsz] at h
    exact h
   have hT5:((w4.setCell ⟨w3.heap.size,0,none⟩ (.slice (some ⟨w4.heap.size,0,none⟩) 1 1)).alloc (.cells #[.slice none 0 0,.int .i64 (-1),.slice none 0 0] 51)).cell? ⟨w3.heap.size,0,none⟩=some (.slice (some ⟨w4.heap.size,0,none⟩) 1 1):=
    (World.cell?_of_block (a:=⟨w3.heap.size,0,none⟩) (Below.heap_alloc _ _ _ (show w3.heap.size<_ by rw [hsz];omega))).trans (World.cell?_setCell_same _ _ _ hc4)
   have hB5:=(hB4.setCell (p:=⟨w3.heap.size,0,none⟩) (by show w0.heap.size≤w3.heap.size;omega) (.slice (some ⟨w4.heap.size,0,none⟩) 1 1)).alloc (by rw [hsz];exact hB4.size) (.cells #[.slice none 0 0,.int .i64 (-1),.slice none 0 0] 51)
   have hz5:((w4.setCell ⟨w3.heap.size,0,none⟩ (.slice (some ⟨w4.heap.size,0,none⟩) 1 1)).alloc (.cells #[.slice none 0 0,.int .i64 (-1),.slice none 0 0] 51)).heap.size=w4.heap.size+1:=by simp [World.setCell]
   have hx5:=(HS.out _ hB5).1.2.2.1
   have hI0:Hid (([]:List Int)=allS 0):=rfl
   clear hc4 hf4 hx4 ha4 hsz
   generalize (w4.setCell ⟨w3.heap.size,0,none⟩ (.slice (some ⟨w4.heap.size,0,none⟩) 1 1)).alloc (.cells #[.slice none 0 0,.int .i64 (-1),.slice none 0 0] 51)=w5 at*
   have HN5:=Lib.hid hN5
   have hO5:Ow (α:=Int) (w4.heap.size+1) (fun k=>w4.heap.size+1≤k) w5 3 (.slice none 0 0) []:=Ow.nil
   clear hN5
   go_wp2
   go_loopw [37] (fun i wr=>∃(k:Nat) (a:Option Addr) (c:Nat) (I:List Int),k≤m.next.length∧i= .int .i64 k∧Hid (I=allS k)∧Hid (HNode wr w4.heap.size a I.length c)∧wr.cell? ⟨w3.heap.size,0,none⟩=some (.slice (some ⟨w4.heap.size,0,none⟩) 1 1)∧
    Ow (w4.heap.size+1) (fun k=>w4.heap.size+1≤k) wr 3 (.slice a I.length c) I∧w4.heap.size+1≤wr.heap.size∧Below w0.heap.size w0 wr) (fun i _=>m.next.length-(intOf i).toNat)
   case atStart=>exact ⟨0,none,0,[],by omega,rfl,hI0,HN5,hT5,hO5,by omega,hB5⟩
   case round=>
    clear hI0 HN5 hT5 hO5 hB5 hz5 hx5
    obtain ⟨k,a,c,I,hk,rfl,hI,hN,hT,hO,hzo,hB⟩:=hrel
    obtain ⟨wo,rfl⟩:∃wo:World,wo=wr:=⟨_,rfl⟩
    have hIl:Hid (I.length=k):=by unfold Hid;rw [hI.out,allS_len]
    by_cases hlt:k<m.next.length
    ·go_upto_region 9 with (fail)
     refine wp_region_T (fun w'=>w'.cell? ⟨w3.heap.size,0,none⟩=some (.slice (some ⟨w4.heap.size,0,none⟩) 1 1)∧w'.cell? ⟨w4.heap.size,0,none⟩=some (.slice a I.length c)) [0,1,2,3,4,5,6,7,10,11] (by kernel_rfl) ?_
     have hbd:=(Below.refl wo.heap.size wo).drew
     have hB6:=hB.trans (hbd.mono hB.size)
     have hN6:=Lib.hid (hN.out.kept (hbd.mono hzo))
     have hO6:=hO.drew
     have hz6:w4.heap.size+1≤wo.drew.heap.size:=hzo
     have hS6:=And.intro ((hbd.cell (p:=⟨w3.heap.size,0,none⟩) (show w3.heap.size<wo.heap.size by omega)).trans hT) (show wo.drew.cell? ⟨w4.heap.size,0,none⟩=some (.slice a I.length c) from cell_of_row _ _ _ _ _ _ hN6.out)
     clear hB hN hO hT hbd hzo
     generalize wo.drew=w6 at*
     refine skT_on [0,1,2,3,4,5,6,7] ?_
     repeat (refine skT_take (v:= ?_) rfl ?_ ?_;rotate_left;(focus (intro w' hSw;(try dsimp only at hSw);go_simp;try with_reducible rfl));try simp only [Act.put,List.setIfInBounds_toArray,List.set_cons_zero,List.set_cons_succ])
     refine skT_off ?_
     refine wpAnyT_one (i:=8) (by kernel_rfl) rfl rfl (fun K hK=> ?_)
     go_simp
     have hba:=(Below.refl w6.heap.size w6).alloc (Nat.le_refl _) (.cells #[.int .i64 (k:Int)] 3)
     have hN7:=Lib.hid (hN6.out.kept (hba.mono hz6))
     have hB7:=hB6.trans (hba.mono hB6.size)
     have hS7:_∧_:=And.intro ((hba.cell (p:=⟨w3.heap.size,0,none⟩) (show w3.heap.size<w6.heap.size by omega)).trans hS6.1) ((hba.cell (p:=⟨w4.heap.size,0,none⟩) (show w4.heap.size<w6.heap.size by omega)).trans hS6.2)
     refine hK _ _ (fun _=>hS7) ?_
     clear hK K
     refine wpAnyT_one (i:=9) (by kernel_rfl) rfl rfl (fun K hK=> ?_)
     refine wp_push_q (B:=w4.heap.size+1) (M:=fun k=>w4.heap.size+1≤k) (v:= .slice a I.length c) (l:=I) (y:=(k:Int)) rfl Tryz.underlying45 info_int rfl rfl (hO6.alloc _) (by simp [go_sem]) (by unfold i64;omega) (by rw [hIl.out];omega) (by simp;omega) ?_
     intro a8 c8 l8 w8 hl8 hO8 hb8
     have hz7:w4.heap.size+1≤(w6.alloc (.cells #[.int .i64 (k:Int)] 3)).heap.size:=by simp;omega
     have hN8:=Lib.hid (hN7.out.kept hb8)
     have hB8:=hB7.trans (hb8.mono (by omega))
     have hz8:w4.heap.size+1≤w8.heap.size:=by have:=hb8.size;omega
     have hS8:_∧_:=And.intro ((hb8.cell (p:=⟨w3.heap.size,0,none⟩) (show w3.heap.size<w4.heap.size+1 by omega)).trans hS7.1) ((hb8.cell (p:=⟨w4.heap.size,0,none⟩) (show w4.heap.size<w4.heap.size+1 by omega)).trans hS7.2)
     have hf8:w8.frozen? ⟨w4.heap.size,0,none⟩=false:=frozen_of_row _ _ _ _ _ hN8.out
     refine hK _ _ (fun _=>hS8) ?_
     clear hK K
     refine skT_on [10,11] ?_
     repeat (refine skT_take (v:= ?_) rfl ?_ ?_;rotate_left;(focus (intro w' hSw;(try dsimp only at hSw);go_simp;try with_reducible rfl));try simp only [Act.put,List.setIfInBounds_toArray,List.set_cons_zero,List.set_cons_succ])
     refine skT_off ?_
     have hN9:Hid (HNode (w8.setCell ⟨w4.heap.size,0,none⟩ (.slice a8 l8.length c8)) w4.heap.size a8 l8.length c8):=by
      unfold Hid HNode
      exact (heap_setCell_same _ _ _ _ _ _ hN8.out).trans (by simp)
     have hT9:(w8.setCell ⟨w4.heap.size,0,none⟩ (.slice a8 l8.length c8)).cell? ⟨w3.heap.size,0,none⟩=some (.slice (some ⟨w4.heap.size,0,none⟩) 1 1):=by
      rw [World.cell?_setCell_other _ _ _ _ (fun e=>by have:=(Addr.mk.inj e).1;omega)];exact hS8.1
     have hO9:=hO8.setOtherI (p:=⟨w4.heap.size,0,none⟩) (fun k hk=>by have:=(hO8.lt k hk).1;show k≠w4.heap.size;omega) (.slice a8 l8.length c8)
     have hB9:=hB8.setCell (p:=⟨w4.heap.size,0,none⟩) (by show w0.heap.size≤w4.heap.size;omega) (.slice a8 l8.length c8)
     have hz9:w4.heap.size+1≤(w8.setCell ⟨w4.heap.size,0,none⟩ (.slice a8 l8.length c8)).heap.size:=by simpa [World.setCell] using hz8
     refine wpAnyT_late (i:=12) (by kernel_rfl) (by kernel_rfl) rfl rfl (fun K hK=> ?_)
     go_simp
     refine hK _ _ ?_
     clear hK K hS8 hS7 hS6 hf8 hN8 hN7 hN6 hB8 hB7 hB6 hO8 hO6 hba hb8 hz8 hz7
     refine wpAnyT_done (by kernel_rfl) ?_ _
     have hI2:Hid (l8=allS (k+1)):=by unfold Hid;rw [hl8.out,hI.out];unfold allS;rw [List.range_succ,List.map_append];rfl
     go_wp2
     go_roundw
     case rel=>exact ⟨k+1,a8,c8,l8,by omega,by go_num,hI2,hN9,hT9,hO9,hz9,hB9⟩
     case measure=>simp [intOf];omega
    have hTree : Hid (Sl (fun _ => False) wo (some ⟨w4.heap.size, 0, none⟩) 1 m.leafT) := by
     have h1:I=allS m.next.length:=by rw [hI.out,show k=m.next.length by omega]
     have h2:=Sl.node1 (M:=fun _=>False) hN.out (fun h=>h) ((hO.anyM (M':=fun _=>False)).toSl fun _ _ h=>h) (by unfold i64;omega)
     rw [h1] at h2
     exact h2
    have hHT:Hid (HarmT m true m.leafT (decide (m.next.length=1))):=harmT_leaf hme.out
    have hdec:(((m.next.length:Nat):Int)==1)=decide (m.next.length=1):=by
     by_cases e:m.next.length=1
     ·simp [e]
     rw [decide_eq_false e];simp;omega
    have hxo:=(HS.out _ hB).1.2.2.1
    go_wp2
    go_meet
    case rel=>exact ⟨m.leafT,some ⟨w4.heap.size,0,none⟩,1,_,_,rfl,rfl,hHT,hT,hTree,hB⟩
 case rest=>
  obtain ⟨T,aT,cT,okv,x8,rfl,rfl,hT,hcT,hTs,hB⟩:=hcut
  obtain ⟨wb,rfl⟩:∃wb:World,wb=wc:=⟨_,rfl⟩
  clear HT3 HLs4 ha4 hB4
  have hTl:=hT.out.2.1
  have hzb:=hB.size
  have hSb:=HS.out _ hB
  have HId:=Lib.hid (identify_any hSb.2.1 hTs.out hn (Lib.hid (by omega)))
  obtain ⟨⟨d0,d1,d2,d3⟩, -⟩:=hSb
  go_wp2_with fail
  refine (HId.out).mono ?_
  rintro e w5 ⟨aI,cI,I,e5,rfl,hI,hIsm,hIs,hb5⟩
  have hB5:=hB.trans (hb5.mono hzb)
  have he5:e5=0:=by
   have h:=hI.out
   unfold Mach.idE at h
   rw [if_neg (by simp [hT.out.1])] at h
   simp only [Prod.mk.injEq] at h
   exact h.2.symm
  subst he5
  have hIe:Hid ((m.idE T).1=I):=by unfold Hid;rw [hI.out]
  have HIs:=Lib.hid (hIs.anti (M':=fun _=>False) fun _ _ h=>h.elim)
  have hIl:=hIs.le
  have hIln:Hid (I.length=m.next.length):=by
   have h:=hIe.out
   unfold Mach.idE at h
   rw [if_neg (by simp [hT.out.1])] at h
   unfold Hid;rw [←h];unfold Mach.ids;simp
  have hz5:=hB5.size
  have hS5:=HS.out _ hB5
  have HSI:=Lib.hid (sident_any hS5.2.1 hme hn)
  clear d0 d1 d2 d3 HId hb5 hIs hB hI
  obtain ⟨⟨d0,d1,d2,d3⟩, -⟩:=hS5
  go_wp2_with fail
  refine (HSI.out).mono ?_
  rintro e w6 ⟨aJ,cJ,J,rfl,hJ,hJs,hb6⟩
  have hB6:=hB5.trans (hb6.mono hz5)
  have HIs6:=Lib.hid (HIs.out.below hb6)
  have HJs6:=Lib.hid (hJs.anti (M':=fun _=>False) fun _ _ h=>h.elim)
  have hJl:=hJs.le
  have hz6:=hB6.size
  have hx6:=(HS.out _ hB6).1.2.2.1
  have hne:(((I.length:Nat):Int) !=(m.next.length:Int))=false:=by rw [hIln.out];simp
  clear d0 d1 d2 d3 HSI hb6 hJs hB5 HIs hcT
  have hlc:leaf=false∨(leaf=true∧¬1<m.next.length)∨(leaf=true∧1<m.next.length):=by
   cases leaf
   ·exact .inl rfl
   by_cases e:1<m.next.length
   ·exact .inr (.inr ⟨rfl,e⟩)
   exact .inr (.inl ⟨rfl,e⟩)
  rcases hlc with rfl|⟨rfl,hl1⟩|⟨rfl,hl1⟩
  focus
   go_upto_region 16 with (fail)
   obtain ⟨w7,hw7⟩:∃w7:World,w7=w6:=⟨_,rfl⟩
   subst hw7
   clear hx6 hne
  rotate_left 1
  focus
   have hld:decide (1<((m.next.length:Nat):Int))=false:=decide_eq_false (by omega)
   go_upto_region 16 with (fail)
   obtain ⟨w7,hw7⟩:∃w7:World,w7=w6:=⟨_,rfl⟩
   subst hw7
   clear hx6 hne hld hl1
  rotate_left 1
  focus
   have hld:decide (1<((m.next.length:Nat):Int))=true:=decide_eq_true (by omega)
   have HSe0:=sets31 HIs6.out HJs6.out
   rw [decide_eq_true (show I=J by rw [←hIe.out,hJ.out];exact hT.out.2.2.2 rfl hl1)] at HSe0
   have HSe:=Lib.hid HSe0
   clear HSe0
   go_wp2_with fail
   refine (HSe.out).mono ?_
   rintro e w7 ⟨rfl,n7,rfl⟩
   have hbd:=below_drewN w6.heap.size w6 n7
   replace hB6:=hB6.trans (hbd.mono hz6)
   replace HIs6:=Lib.hid (HIs6.out.below hbd)
   replace HJs6:=Lib.hid (HJs6.out.below hbd)
   replace hz6:w0.heap.size≤(w6.drewN n7).heap.size:=hz6
   clear hbd HSe
   generalize w6.drewN n7=w7 at*
   go_upto_region 16 with (fail)
   clear hx6 hne hld hl1
  rotate_left 1
  all_goals
   have HC:Hid (∀w',Below w7.heap.size w7 w'→(C4 w' w.heap.size an cn ao co m∧Ma M w' an cn ao co m∧Below w.heap.size w w')∧Sl (fun _=>False) w' aI cI I):=fun w' h=>⟨HS.out _ (hB6.trans (h.mono hz6)),HIs6.out.below h⟩
   have hBz:=Below.refl w7.heap.size w7
   have hIw:Hid (∀r∈I,∀v∈r,wErr v m.inputs=0):=fun r hr v hv=>by
    obtain ⟨h1,h2⟩:=Mach.ids_ok n8.out hT.out.1 hT.out.2.1 r (by rw [hIe.out];exact hr) v hv
    exact wErr_of (by have:=ok.out.i0;omega) (by have:=ok.out.i1;omega) (by omega) h1
   clear hB6 HIs6 HJs6 hz6
   go_wp2
   go_loopw [103] (fun i wr=>∃s:Nat,s≤I.length∧i= .int .i64 s∧Below w7.heap.size w7 wr) (fun i _=>I.length-(intOf i).toNat)
   case atStart=>exact ⟨0,by omega,rfl,hBz⟩
   case round=>
    clear hBz
    obtain ⟨s,hs,rfl,hB⟩:=hrel
    obtain ⟨wo,rfl⟩:∃wo:World,wo=wr:=⟨_,rfl⟩
    by_cases hlt:s<I.length
    ·obtain ⟨bI,oI,ax,x,cx,rfl,hxc0,hx,hxs0⟩:=(HC.out _ (Below.refl w7.heap.size w7)).2.at_row hlt
     have HXc:Hid (∀w',Below w7.heap.size w7 w'→w'.cell? ⟨bI,oI+s,none⟩=some (.slice ax x.length cx)):=fun w' h=>(h.cell (p:=⟨bI,oI+s,none⟩) (lt_of_cell hxc0)).trans hxc0
     have HX:=Lib.hid hxs0
     have hxl:=hT.out.len hme.out hIe.out hx.out
     have hxn0:(((x.length:Nat):Int)==0)=false:=by simp;exact fun e=>hxl.1 (by rw [e];rfl)
     have hxn1:okv=true→(((x.length:Nat):Int) !=1)=false:=fun e=>by rw [hxl.2 e];simp
     have hxc:=HXc.out _ hB
     have hsn:s<m.next.length:=by have:=hIln.out;omega
     have hxsl:=hxs0.le
     clear hxc0 hxs0 hxl
     rcases okv with _|_
     focus
      go_upto_region 21 with (fail)
      clear hxc hxn0 hxn1
     rotate_left 1
     focus
      have hxn1:=hxn1 rfl
      go_upto_region 21 with (fail)
      clear hxc hxn0 hxn1
     rotate_left 1
     all_goals
      go_wp2
      go_loopw [124] (fun i wr=>∃t:Nat,t≤s∧i= .int .i64 t∧Below w7.heap.size w7 wr) (fun i _=>s-(intOf i).toNat)
      case atStart=>exact ⟨0,by omega,rfl,hB⟩
      case round=>
       clear hB
       obtain ⟨t,ht,rfl,hB⟩:=hrel
       obtain ⟨wo,rfl⟩:∃wo:World,wo=wr:=⟨_,rfl⟩
       by_cases hlt2:t<s
       ·obtain ⟨bI2,oI2,ay,y,cy,hbe,hyc0,hy,hys0⟩:=(HC.out _ (Below.refl w7.heap.size w7)).2.at_row (show t<I.length by omega)
        obtain ⟨rfl,rfl⟩:bI=bI2∧oI=oI2:=by simpa using hbe
        have HYc:Hid (∀w',Below w7.heap.size w7 w'→w'.cell? ⟨bI,oI+t,none⟩=some (.slice ay y.length cy)):=fun w' h=>(h.cell (p:=⟨bI,oI+t,none⟩) (lt_of_cell hyc0)).trans hyc0
        have HY:=Lib.hid hys0
        have htI:t<I.length:=by omega
        have hysl:=hys0.le
        have hHa:Hid (∃a∈x,∃b∈y,m.Harm (s:Int) (t:Int) a b):=Mach.harmonyI ok.out (Mach.minErr_ok hme.out).2 hT.out.1 hsn (by omega) (by omega) (by rw [hIe.out];exact hx.out) (by rw [hIe.out];exact hy.out)
        clear hyc0 hys0 hbe
        go_upto_region 24 with (fail)
        refine wp_region_L (fun w'=>C4 w' w.heap.size an cn ao co m∧w'.cell? ⟨bI,oI+s,none⟩=some (.slice ax x.length cx)∧w'.cell? ⟨bI,oI+t,none⟩=some (.slice ay y.length cy)) [0,1,2,3,4,5,6,7,8,9,10,12] (by kernel_rfl) ?_
        have hbd:=(Below.refl wo.heap.size wo).drew
        have hB1:=hB.trans (hbd.mono hB.size)
        have hS1:=And.intro (HC.out _ hB1).1.1 (And.intro (HXc.out _ hB1) (HYc.out _ hB1))
        clear hbd hB
        generalize wo.drew=w8 at*
        have HHa:=Lib.hid (harmW_any (HC.out _ hB1).1.2.1 (HX.out.below hB1) (HY.out.below hB1) ok s t hsn (by omega) (Lib.hid fun a ha=>hIw.out x (List.mem_of_getElem? hx.out) a ha) hHa)
        refine skL_on [0,1,2,3,4,5,6,7,8,9,10] ?_
        repeat (refine skL_take (v:= ?_) rfl ?_ ?_;rotate_left;(focus (intro w' hSw;(try dsimp only at hSw);go_simp;try with_reducible rfl));try simp only [Act.put,List.setIfInBounds_toArray,List.set_cons_zero,List.set_cons_succ])
        refine skL_off ?_
        refine wpAnyL_one (i:=11) (by kernel_rfl) rfl rfl (fun K hK=> ?_)
        go_simp
        refine (HHa.out).mono ?_
        rintro e w9 ⟨rfl,hb9⟩
        have hB9:=hB1.trans (hb9.mono hB1.size)
        have hS9:=And.intro (HC.out _ hB9).1.1 (And.intro (HXc.out _ hB9) (HYc.out _ hB9))
        refine hK _ _ (fun _=>hS9) ?_
        clear hK K hS1 HHa hb9 hB1
        refine skL_on [12] ?_
        repeat (refine skL_take (v:= ?_) rfl ?_ ?_;rotate_left;(focus (intro w' hSw;(try dsimp only at hSw);go_simp;try with_reducible rfl));try simp only [Act.put,List.setIfInBounds_toArray,List.set_cons_zero,List.set_cons_succ])
        refine skL_off ?_
        refine wpAnyL_done (by kernel_rfl) ?_ _
        clear hS9
        go_wp2
        go_roundw
        case rel=>exact ⟨t+1,by omega,by go_num,hB9⟩
        case measure=>simp [intOf];omega
       go_wp2
       go_roundw
       case rel=>exact ⟨s+1,by omega,by go_num,hB⟩
       case measure=>simp [intOf];omega
    have hBf:=(HC.out _ hB).1.2.2
    go_wp2_with fail
    refine (ex31_any (w:=wo)).mono ?_
    rintro e w9 ⟨rfl,hb9⟩
    have hB9:=hBf.trans (hb9.mono hBf.size)
    go_wp2
    go_ret
    exact ⟨rfl,hB9⟩
end
end Go.Proofs.YtknhegdepbmmlaaGreat
