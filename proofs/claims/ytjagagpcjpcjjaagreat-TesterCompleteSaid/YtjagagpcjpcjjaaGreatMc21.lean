/- Several texts, one behind the other. Conditions: as each of them says. -/
import Derived.Test.YtjagagpcjpcjjaaGreatMc15
import Derived.Test.YtjagagpcjpcjjaaGreatMc13
import Derived.Test.YtjagagpcjpcjjaaGreatMc7
import Derived.Test.YtjagagpcjpcjjaaGreatMc1
set_option maxRecDepth 100000
set_option maxHeartbeats 32000000
namespace Go.Proofs.YtjagagpcjpcjjaaGreat
namespace Mach
variable {m:Mach}
theorem eqv_outs (ok:m.Ok):∀(w:List Int) (k:Nat) (s t:Int),m.eqv k s.toNat t.toNat→w.length≤k→m.okS w→m.outsW s w=m.outsW t w
 |[],_,_,_,_,_,_=>rfl
 |x::w,0,_,_,_,h,_=>by simp at h
 |x::w,k+1,s,t,he,hl,hw=>by
  obtain ⟨⟨x0,x1⟩,hw2⟩:=okS_cons hw
  obtain ⟨h1,h2⟩:=he x.toNat (by omega)
  rw [outsW,outsW,h1,eqv_outs ok w k _ _ h2 (by simpa using hl) hw2]
end Mach
namespace Mach
def Sim (a b:Mach) (s t:Int):Prop:=∀w,a.okS w→a.outsW s w=b.outsW t w
theorem okS_one {m:Mach} {x:Nat} (hx:x<m.inputs.toNat) {w:List Int} (hw:m.okS w):m.okS ((x:Int)::w):=by
 intro y hy
 rcases List.mem_cons.1 hy with rfl|h
 ·omega
 exact hw y h
theorem okS_nil (m:Mach):m.okS []:=fun _ h=>absurd h (by simp)
theorem okS_swap {a b:Mach} (hi:a.inputs=b.inputs) {w:List Int} (h:b.okS w):a.okS w:=fun x hx=>by rw [hi];exact h x hx
section
variable {a b c:Mach} {s t u:Int}
theorem Sim.step (h:Sim a b s t) {x:Nat} (hx:x<a.inputs.toNat):a.ot s.toNat x=b.ot t.toNat x∧Sim a b (a.nx s.toNat x) (b.nx t.toNat x):=by
 constructor
 ·have:=h [(x:Int)] (okS_one hx a.okS_nil)
  simpa [outsW] using this
 intro w hw
 have:=h ((x:Int)::w) (okS_one hx hw)
 simp only [outsW,Int.toNat_natCast,List.cons.injEq] at this
 exact this.2
theorem Sim.refl (a:Mach) (s:Int):Sim a a s s:=fun _ _=>rfl
theorem Sim.symm (hi:a.inputs=b.inputs) (h:Sim a b s t):Sim b a t s:=fun w hw=>(h w (okS_swap hi hw)).symm
theorem Sim.trans (hi:a.inputs=b.inputs) (h:Sim a b s t) (h2:Sim b c t u):Sim a c s u:=fun w hw=>(h w hw).trans (h2 w (okS_swap hi.symm hw))
end
variable {m:Mach}
theorem eqv_of_words:∀(k:Nat) (s t:Int),(∀w,m.okS w→w.length≤k→m.outsW s w=m.outsW t w)→m.eqv k s.toNat t.toNat
 |0,_,_,_=>trivial
 |k+1,s,t,h=>fun x hx=>by
  refine ⟨?_,?_⟩
  ·have:=h [(x:Int)] (okS_one hx m.okS_nil) (by simp)
   simpa [outsW] using this
  refine eqv_of_words k _ _ fun w hw hl=> ?_
  have:=h ((x:Int)::w) (okS_one hx hw) (by simp;omega)
  simp only [outsW,Int.toNat_natCast,List.cons.injEq] at this
  exact this.2
theorem sim_iff (ok:m.Ok) {s t:Int} (hs:0≤s) (hs':s<m.next.length) (ht:0≤t) (ht':t<m.next.length):m.cl s=m.cl t↔Sim m m s t:=by
 rw [cl_iff ok hs hs' ht ht']
 constructor
 ·intro h w hw
  refine eqv_outs ok w (max w.length m.next.length) s t ?_ (by omega) hw
  exact (eqv_rest ok (by omega) (by omega) (by omega)).2 h
 exact fun h=>eqv_of_words _ _ _ fun w hw _=>h w hw
end Mach
def Cor (R:Int→Int→Prop):List Int→List Int→Prop
 |[],[]=>True
 |x::l,y::l'=>R x y∧Cor R l l'
 |_,_=>False
section
variable {R:Int→Int→Prop}
theorem Cor.len:∀{l l':List Int},Cor R l l'→l.length=l'.length
 |[],[],_=>rfl
 |[],_::_,h=>h.elim
 |_::_,[],h=>h.elim
 |_::l,_::l',h=>by simp [Cor.len h.2]
theorem Cor.snoc:∀{l l':List Int} {x y:Int},Cor R l l'→R x y→Cor R (l++[x]) (l'++[y])
 |[],[],_,_,_,h=>⟨h,trivial⟩
 |[],_::_,_,_,h,_=>h.elim
 |_::_,[],_,_,h,_=>h.elim
 |_::_,_::_,_,_,h,h2=>⟨h.1,Cor.snoc h.2 h2⟩
theorem Cor.get:∀{l l':List Int},Cor R l l'→∀{i:Nat},i<l.length→R (l.getD i 0) (l'.getD i 0)
 |[],_,_,i,hi=>by simp at hi
 |_::_,[],h,_,_=>h.elim
 |_::_,_::_,h,0,_=>h.1
 |_::l,_::l',h,i+1,hi=>by
  have:=Cor.get h.2 (i:=i) (by simpa using hi)
  simpa using this
theorem Cor.of:∀{l l':List Int},l.length=l'.length→(∀i,i<l.length→R (l.getD i 0) (l'.getD i 0))→Cor R l l'
 |[],[],_,_=>trivial
 |[],_::_,h,_=>by simp at h
 |_::_,[],h,_=>by simp at h
 |x::l,y::l',h,h2=>⟨by simpa using h2 0 (by simp),Cor.of (by simpa using h) fun i hi=>by simpa using h2 (i+1) (by simpa using hi)⟩
theorem Cor.map {α:Type} {f g:Int→α} (h2:∀x y,R x y→f x=g y):∀{l l':List Int},Cor R l l'→l.map f=l'.map g
 |[],[],_=>rfl
 |[],_::_,h=>h.elim
 |_::_,[],h=>h.elim
 |_::_,_::_,h=>by simp [h2 _ _ h.1,Cor.map h2 h.2]
def Agree (R:Int→Int→Prop) (c d:Int→Int):Prop:=∀x y x' y',R x x'→R y y'→(c x=c y↔d x'=d y')
variable {c d:Int→Int}
theorem Cor.mem (hA:Agree R c d) {t t':Int} (ht:R t t'):∀{l l':List Int},Cor R l l'→(c t∈l.map c↔d t'∈l'.map d)
 |[],[],_=>by simp
 |[],_::_,h=>h.elim
 |_::_,[],h=>h.elim
 |x::l,y::l',h=>by
  rw [List.map_cons,List.map_cons,List.mem_cons,List.mem_cons,Cor.mem hA ht h.2,hA t x t' y ht h.1]
theorem Cor.idx (hA:Agree R c d) {t t':Int} (ht:R t t'):∀{l l':List Int},Cor R l l'→(l.map c).idxOf (c t)=(l'.map d).idxOf (d t')
 |[],[],_=>by simp
 |[],_::_,h=>h.elim
 |_::_,[],h=>h.elim
 |x::l,y::l',h=>by
  rw [List.map_cons,List.map_cons,List.idxOf_cons,List.idxOf_cons,Cor.idx hA ht h.2]
  have:=hA x t y t' h.1 ht
  by_cases e:c x=c t
  ·rw [beq_iff_eq.2 e,beq_iff_eq.2 (this.1 e)]
  rw [beq_eq_false_iff_ne.2 e,beq_eq_false_iff_ne.2 (fun e2=>e (this.2 e2))]
theorem Cor.visit (hA:Agree R c d):∀{r r' l l':List Int},Cor R r r'→Cor R l l'→Cor R (visitC c l r) (visitC d l' r')
 |[],[],_,_,_,h=>h
 |[],_::_,_,_,h,_=>h.elim
 |_::_,[],_,_,h,_=>h.elim
 |t::r,t'::r',l,l',h,h2=>by
  simp only [visitC]
  have hm:=Cor.mem hA h.1 h2
  by_cases e:c t∈l.map c
  ·rw [if_pos e,if_pos (hm.1 e)]
   exact Cor.visit hA h.2 h2
  rw [if_neg e,if_neg (fun e2=>e (hm.2 e2))]
  exact Cor.visit hA h.2 (h2.snoc h.1)
end
namespace Mach
section
variable {a b:Mach}
def RS (a b:Mach) (x y:Int):Prop:=(0≤x∧x<a.next.length)∧(0≤y∧y<b.next.length)∧Sim a b x y
theorem agree (oa:a.Ok) (ob:b.Ok) (hi:a.inputs=b.inputs):Agree (RS a b) a.cl b.cl:=by
 intro x y x' y' h h2
 rw [sim_iff oa h.1.1 h.1.2 h2.1.1 h2.1.2,sim_iff ob h.2.1.1 h.2.1.2 h2.2.1.1 h2.2.1.2]
 constructor
 ·exact fun e=>(Sim.symm hi h.2.2).trans hi.symm (e.trans rfl h2.2.2)
 exact fun e=>h.2.2.trans hi (e.trans rfl (Sim.symm hi h2.2.2))
theorem rows_cor (oa:a.Ok) (ob:b.Ok) (hi:a.inputs=b.inputs) {x y:Int} (h:RS a b x y):Cor (RS a b) (a.next.getD x.toNat []) (b.next.getD y.toNat []):=by
 have h1:=oa.rn x.toNat (by have:=h.1;omega)
 have h2:=ob.rn y.toNat (by have:=h.2.1;omega)
 refine Cor.of (by omega) fun i hil=> ?_
 have hia:i<a.inputs.toNat:=by omega
 have r1:=oa.nx x.toNat i (by have:=h.1;omega) hia
 have r2:=ob.nx y.toNat i (by have:=h.2.1;omega) (by omega)
 exact ⟨r1,r2,(h.2.2.step hia).2⟩
theorem qbfs_cor (oa:a.Ok) (ob:b.Ok) (hi:a.inputs=b.inputs) (hs:Sim a b a.start b.start):∀i,Cor (RS a b) (a.qbfs a.cl i) (b.qbfs b.cl i)
 |0=>⟨⟨⟨oa.s0,oa.s1⟩,⟨ob.s0,ob.s1⟩,hs⟩,trivial⟩
 |i+1=>by
  have ih:=qbfs_cor oa ob hi hs i
  rw [qbfs_succ,qbfs_succ,←ih.len]
  by_cases e:i<(a.qbfs a.cl i).length
  ·rw [if_pos e,if_pos e]
   exact Cor.visit (agree oa ob hi) (rows_cor oa ob hi (ih.get e)) ih
  rw [if_neg e,if_neg e];exact ih
theorem firsts_qbfs {m:Mach} (ok:m.Ok) {k:Nat} (hk:m.next.length≤k):firsts m.cl m.reach=m.qbfs m.cl k:=by
 obtain ⟨h1,h2,h3⟩:=quot_reach ok (cl_cong ok)
 rw [←h1,qbfs_stop _ h2 _ (Nat.le_trans h3 hk),←qbfs_stop _ h2 _ h3]
theorem firsts_cor (oa:a.Ok) (ob:b.Ok) (hi:a.inputs=b.inputs) (hs:Sim a b a.start b.start):Cor (RS a b) (firsts a.cl a.reach) (firsts b.cl b.reach):=by
 rw [firsts_qbfs oa (k:=max a.next.length b.next.length) (by omega),firsts_qbfs ob (k:=max a.next.length b.next.length) (by omega)]
 exact qbfs_cor oa ob hi hs _
theorem minF_cor (oa:a.Ok) (ob:b.Ok) (hi:a.inputs=b.inputs) (hs:Sim a b a.start b.start):a.minF=b.minF:=by
 have hF:=firsts_cor oa ob hi hs
 have hA:=agree oa ob hi
 unfold minF
 rw [hi]
 congr 1
 ·refine Cor.map (fun x y h=> ?_) hF
  refine Cor.map (fun u v h2=> ?_) (rows_cor oa ob hi h)
  unfold idxC
  rw [Cor.idx hA h2 hF]
 refine Cor.map (fun x y h=> ?_) hF
 have h1:=oa.ro x.toNat (by have:=h.1;omega)
 have h2:=ob.ro y.toNat (by have:=h.2.1;omega)
 refine List.ext_getElem (by omega) fun i hi1 hi2=> ?_
 have:=(h.2.2.step (x:=i) (by omega)).1
 unfold ot at this
 rw [List.getD_eq_getElem?_getD (l:=a.out.getD x.toNat []),List.getD_eq_getElem?_getD (l:=b.out.getD y.toNat []),List.getElem?_eq_getElem hi1,List.getElem?_eq_getElem hi2] at this
 exact this
end
variable {m:Mach}
theorem first_has {x:Int} (hx:x∈m.reach):m.cl x∈(firsts m.cl m.reach).map m.cl:=(firsts_mem _ _ _).2 (List.mem_map_of_mem hx)
theorem firsts_sub (_ok:m.Ok):∀x∈firsts m.cl m.reach,x∈m.reach:=by
 exact fun x hx=>visitC_all m.cl (Q:=fun x=>x∈m.reach) m.reach [] (by simp) (fun _ h=>h) x hx
theorem rep_of {x:Int} (hx:x∈m.reach):∃(i:Nat) (hi:i<(firsts m.cl m.reach).length),idxC m.cl (firsts m.cl m.reach) x=(i:Int)∧m.cl (firsts m.cl m.reach)[i]=m.cl x:=by
 have h:=first_has hx
 have hl:=List.idxOf_lt_length_of_mem h
 refine ⟨((firsts m.cl m.reach).map m.cl).idxOf (m.cl x),by simpa using hl,rfl,?_⟩
 have:=List.getElem_idxOf hl
 rw [List.getElem_map] at this
 exact this
theorem minF_len (m:Mach):m.minF.next.length=(firsts m.cl m.reach).length:=by simp [minF]
theorem minF_ot {i a:Nat} (hi:i<(firsts m.cl m.reach).length):m.minF.ot i a=m.ot ((firsts m.cl m.reach)[i]).toNat a:=by
 unfold ot minF
 simp only
 rw [getD_map (fun x:Int=>m.out.getD x.toNat []) _ _ hi]
theorem minF_nx (ok:m.Ok) {i a:Nat} (hi:i<(firsts m.cl m.reach).length) (ha:a<m.inputs.toNat):m.minF.nx i a=idxC m.cl (firsts m.cl m.reach) (m.nx ((firsts m.cl m.reach)[i]).toNat a):=by
 have hr:=(reach_props ok).2.1 _ (firsts_sub ok _ (List.getElem_mem hi))
 have hl:=ok.rn ((firsts m.cl m.reach)[i]).toNat (by omega)
 unfold nx minF
 simp only
 rw [getD_map (fun x:Int=>(m.next.getD x.toNat []).map (idxC m.cl (firsts m.cl m.reach))) _ _ hi]
 rw [List.getD_eq_getElem?_getD,List.getElem?_map,List.getD_eq_getElem?_getD (l:=m.next.getD ((firsts m.cl m.reach)[i]).toNat []),List.getElem?_eq_getElem (by omega)]
 rfl
theorem nx_mem {s a:Nat} (ok:m.Ok) (hs:s<m.next.length) (ha:a<m.inputs.toNat):m.nx s a∈m.next.getD s []:=by
 have hl:=ok.rn s hs
 unfold nx
 rw [List.getD_eq_getElem?_getD (l:=m.next.getD s []),List.getElem?_eq_getElem (by omega)]
 exact List.getElem_mem _
theorem minF_sim (ok:m.Ok):∀(w:List Int) (x:Int),x∈m.reach→m.okS w→m.outsW x w=m.minF.outsW (idxC m.cl (firsts m.cl m.reach) x) w
 |[],_,_,_=>rfl
 |y::w,x,hx,hw=>by
  obtain ⟨⟨y0,y1⟩,hw2⟩:=okS_cons hw
  obtain ⟨i,hi,e,hc⟩:=rep_of hx
  have hxr:=(reach_props ok).2.1 _ hx
  have hf:=firsts_sub ok _ (List.getElem_mem hi)
  have hfr:=(reach_props ok).2.1 _ hf
  have hya:y.toNat<m.inputs.toNat:=by omega
  have hs:=(sim_iff ok hfr.1 hfr.2 hxr.1 hxr.2).1 hc
  obtain ⟨h1,h2⟩:=hs.step hya
  have hn1:=reach_closed ok hx (nx_mem ok (by omega) hya)
  have hn2:=reach_closed ok hf (nx_mem ok (by omega) hya)
  have hr1:=(reach_props ok).2.1 _ hn1
  have hr2:=(reach_props ok).2.1 _ hn2
  have hcn:=(sim_iff ok hr2.1 hr2.2 hr1.1 hr1.2).2 h2
  unfold outsW
  rw [e]
  simp only [Int.toNat_natCast]
  rw [minF_ot hi,h1,minF_nx ok hi hya,idxC_congr m.cl hcn,minF_sim ok w _ hn1 hw2]
theorem qbfs_head (m:Mach) (c:Int→Int):∀i,(m.qbfs c i)[0]? =some m.start
 |0=>by simp [qbfs]
 |i+1=>by
  have ih:=qbfs_head m c i
  rw [qbfs_succ]
  split
  ·obtain ⟨s,hs⟩:=visitC_prefix c (m.next.getD ((m.qbfs c i).getD i 0).toNat []) (m.qbfs c i)
   rw [hs,List.getElem?_append_left]
   ·exact ih
   by_cases e:0<(m.qbfs c i).length
   ·exact e
   rw [List.getElem?_eq_none (by omega)] at ih;simp at ih
  exact ih
theorem start_mem (ok:m.Ok):m.start∈m.reach:=by
 have h:=qbfs_head m m.cl m.next.length
 rw [←firsts_qbfs ok (Nat.le_refl _)] at h
 exact firsts_sub ok _ (List.mem_of_getElem? h)
theorem start_idx (ok:m.Ok):idxC m.cl (firsts m.cl m.reach) m.start=0:=by
 have h:=qbfs_head m m.cl m.next.length
 rw [←firsts_qbfs ok (Nat.le_refl _)] at h
 unfold idxC
 cases e:firsts m.cl m.reach with
 |nil=>rw [e] at h;simp at h
 |cons x l=>
  rw [e] at h
  obtain rfl:x=m.start:=by simpa using h
  simp
theorem minF_start (ok:m.Ok):Sim m m.minF m.start m.minF.start:=by
 intro w hw
 rw [minF_sim ok w _ (start_mem ok) hw,start_idx ok]
 rfl
theorem firsts_le (_ok:m.Ok):(firsts m.cl m.reach).length≤m.reach.length:=by
 have:=visitC_len m.cl m.reach []
 unfold firsts;simpa using this
theorem firsts_pos (ok:m.Ok):0<(firsts m.cl m.reach).length:=by
 have h:=first_has (start_mem ok)
 by_cases e:0<(firsts m.cl m.reach).length
 ·exact e
 rw [List.eq_nil_of_length_eq_zero (l:=firsts m.cl m.reach) (by omega)] at h;simp at h
theorem minF_ok (ok:m.Ok):m.minF.Ok:=by
 have n1:=ok.n1
 have hl:=m.minF_len
 have hlo:m.minF.out.length=(firsts m.cl m.reach).length:=by simp [minF]
 have hle:=firsts_le ok
 have hle2:=reach_le ok
 have hp:=firsts_pos ok
 have hrep:∀i (hi:i<(firsts m.cl m.reach).length),((firsts m.cl m.reach)[i]).toNat<m.next.length:=fun i hi=>by
  have:=(reach_props ok).2.1 _ (firsts_sub ok _ (List.getElem_mem hi));omega
 refine ⟨ok.i0,ok.i1,by omega,by omega,by simp [minF],by rw [hl];simp only [minF];omega,by omega,fun s hs=> ?_,fun s hs=> ?_,fun s a hs ha=> ?_,fun s a hs ha=> ?_⟩
 ·rw [hl] at hs
  have:=ok.rn _ (hrep s hs)
  have e:m.minF.next.getD s []=(m.next.getD ((firsts m.cl m.reach)[s]).toNat []).map (idxC m.cl (firsts m.cl m.reach)):=getD_map _ _ _ hs
  rw [e,List.length_map]
  exact this
 ·rw [hl] at hs
  have:=ok.ro _ (hrep s hs)
  have e:m.minF.out.getD s []=m.out.getD ((firsts m.cl m.reach)[s]).toNat []:=getD_map (fun x:Int=>m.out.getD x.toNat []) _ _ hs
  rw [e]
  exact this
 ·rw [hl] at hs
  have ha':a<m.inputs.toNat:=ha
  rw [minF_nx ok hs ha',hl]
  have hm:=reach_closed ok (firsts_sub ok _ (List.getElem_mem hs)) (nx_mem ok (hrep s hs) ha')
  obtain ⟨i,hi,e, -⟩:=rep_of hm
  rw [e];omega
 rw [hl] at hs
 rw [minF_ot hs]
 exact ok.ot _ a (hrep s hs) ha
theorem minF_minF (ok:m.Ok):m.minF.minF=m.minF:=(minF_cor ok (minF_ok ok) rfl (minF_start ok)).symm
theorem minF_reach (ok:m.Ok):m.minF.reach.length=m.minF.next.length:=by
 have h1:=firsts_le (minF_ok ok)
 have h2:=reach_le (minF_ok ok)
 have h3:=m.minF.minF_len
 rw [minF_minF ok] at h3
 omega
end Mach
theorem lex_snoc:∀{u v:List Int} (x y:Int),u.length=v.length→lexW (u++[x]) (v++[y])=if lexW u v=0 then sgn x y else lexW u v
 |[],[],x,y,_=>by
  simp only [List.nil_append,lexW,if_true]
  split
  ·rename_i h;subst h;exact (sgn_eq rfl).symm
  rfl
 |[],_::_,_,_,h=>by simp at h
 |_::_,[],_,_,h=>by simp at h
 |p::u,q::v,x,y,h=>by
  have ih:=lex_snoc (u:=u) (v:=v) x y (by simpa using h)
  by_cases e:p=q
  ·have e1:lexW (p::u) (q::v)=lexW u v:=by show (if p=q then lexW u v else sgn p q)=_;rw [if_pos e]
   have e2:lexW (p::u++[x]) (q::v++[y])=lexW (u++[x]) (v++[y]):=by show (if p=q then lexW (u++[x]) (v++[y]) else sgn p q)=_;rw [if_pos e]
   rw [e1,e2];exact ih
  have e1:lexW (p::u) (q::v)=sgn p q:=by unfold lexW;rw [if_neg e]
  have e2:lexW (p::u++[x]) (q::v++[y])=sgn p q:=by rw [List.cons_append,List.cons_append];unfold lexW;rw [if_neg e]
  rw [e1,e2,if_neg (fun h2=>e (sgn_zero h2))]
theorem cmp_snoc (u v:List Int) (x y:Int):cmpW (u++[x]) (v++[y])=if cmpW u v=0 then sgn x y else cmpW u v:=by
 unfold cmpW
 by_cases e:u.length=v.length
 ·rw [if_pos (by simp [e]),if_pos e];exact lex_snoc x y e
 have hne:sgn (u.length:Int) (v.length:Int)≠0:=fun h=>e (by have:=sgn_zero h;omega)
 rw [if_neg (by simp [e]),if_neg e,if_neg hne]
 simp only [List.length_append,List.length_singleton]
 unfold sgn
 simp only [Int.natCast_add]
 by_cases h1:(u.length:Int)<v.length
 ·rw [if_pos h1,if_pos (by omega)]
 rw [if_neg h1,if_neg (by omega)]
 by_cases h2:(v.length:Int)<u.length
 ·rw [if_pos h2,if_pos (by omega)]
 rw [if_neg h2,if_neg (by omega)]
theorem snoc_lt {u v:List Int} {x y:Int} (h:cmpW u v<0∨(u=v∧x<y)):cmpW (u++[x]) (v++[y])<0:=by
 rw [cmp_snoc]
 rcases h with h|⟨rfl,h⟩
 ·rw [if_neg (by omega)];exact h
 rw [if_pos (cmp_same u),sgn_lt h];decide
theorem lt_snoc {u v:List Int} {x y:Int} (h:cmpW (u++[x]) (v++[y])<0):cmpW u v<0∨(u=v∧x<y):=by
 rw [cmp_snoc] at h
 split at h
 ·rename_i e
  exact .inr ⟨cmp_zero e,sgn_neg.1 h⟩
 exact .inl h
theorem le_snoc {u v:List Int} {x:Int} (h:cmpW u v≤0):cmpW (u++[x]) (v++[x])≤0:=by
 rw [cmp_snoc]
 split
 ·rw [sgn_eq rfl];decide
 exact h
theorem cmp_lt_of {u v w:List Int} (h:cmpW u v≤0) (h2:cmpW v w<0):cmpW u w<0:=by
 have h3:=cmp_trans (a:=u) (b:=v) (c:=w) h (by omega)
 by_cases e:cmpW u v<0
 ·exact h3.2 e
 have e0:cmpW u v=0:=by omega
 rw [cmp_zero e0];exact h2
structure Inv (a b:Mach) (s t:Int) (i x:Nat) (l:List Pl):Prop where
 head:l[0]? =some ⟨s,t,[]⟩
 good:∀q∈l,a.okS q.word∧a.endW s q.word=q.s∧b.endW t q.word=q.t∧a.outsW s q.word=b.outsW t q.word
 sorted:∀(j k:Nat) (p q:Pl),j<k→l[j]? =some p→l[k]? =some q→cmpW p.word q.word<0
 par:∀q∈l,q.word=[]∨∃(k y:Nat) (p:Pl),(k<i∨(k=i∧y<x))∧l[k]? =some p∧q.word=p.word++[(y:Int)]
 done:∀(j y:Nat) (p:Pl),(j<i∨(j=i∧y<x))→y<a.inputs.toNat→l[j]? =some p→a.ot p.s.toNat y=b.ot p.t.toNat y∧∃q∈l,q.s=a.nx p.s.toNat y∧q.t=b.nx p.t.toNat y∧cmpW q.word (p.word++[(y:Int)])≤0
def Best (a b:Mach) (s t:Int) (v:List Int):Prop:=(a.okS v∧a.outsW s v≠b.outsW t v)∧∀u,a.okS u→cmpW u v<0→a.outsW s u=b.outsW t u
section
variable {a b:Mach} {s t:Int} {l:List Pl} {i x:Nat} {p:Pl}
theorem Inv.init:Inv a b s t 0 0 [⟨s,t,[]⟩]:=by
 refine ⟨rfl,fun q hq=> ?_,fun j k p q hjk hp hq=> ?_,fun q hq=> ?_,fun j y p h=>by omega⟩
 ·simp at hq;subst hq;exact ⟨a.okS_nil,rfl,rfl,rfl⟩
 ·rw [List.getElem?_eq_none (by simp;omega)] at hq;simp at hq
 simp at hq;subst hq;exact .inl rfl
theorem Inv.below (h:Inv a b s t i x l) (hp:l[i]? =some p):∀q∈l,cmpW q.word (p.word++[(x:Int)])<0:=by
 intro q hq
 rcases h.par q hq with e|⟨k,y,r,hk,hr,e⟩
 ·have h2:cmpW [] (p.word++[(x:Int)])= -1:=cmp_short (by simp)
  rw [e,h2];decide
 rw [e]
 apply snoc_lt
 rcases hk with hk|⟨rfl,hy⟩
 ·exact .inl (h.sorted k i r p hk hr hp)
 rw [hp] at hr
 obtain rfl:p=r:=by simpa using hr
 exact .inr ⟨rfl,by omega⟩
theorem Inv.words (h:Inv a b s t i x l) (F:List Int→Prop) (hF:∀u y,F (u++[y])→F u)
    (hd:∀(j:Nat) (q:Pl) (u:List Int) (y:Int),0≤y→y<a.inputs→l[j]? =some q→F (u++[y])→cmpW q.word u≤0→j<i∨(j=i∧y.toNat<x)):
    ∀(n:Nat) (u:List Int),u.length=n→a.okS u→F u→a.outsW s u=b.outsW t u∧∃q∈l,q.s=a.endW s u∧q.t=b.endW t u∧cmpW q.word u≤0
 |0,u,hn,_,_=>by
  obtain rfl:u=[]:=List.eq_nil_of_length_eq_zero hn
  exact ⟨rfl,_,List.mem_of_getElem? h.head,rfl,rfl,by rw [cmp_same];decide⟩
 |n+1,u,hn,hu,hfu=>by
  obtain ⟨v,y,rfl⟩:∃v y,u=v++[y]:=⟨u.dropLast,u.getLast (by intro e;rw [e] at hn;simp at hn),(List.dropLast_concat_getLast _).symm⟩
  obtain ⟨hv,hy⟩:=Mach.okS_app hu
  obtain ⟨y0,y1⟩:=hy y (by simp)
  obtain ⟨h1,q,hq,e1,e2,h2⟩:=Inv.words h F hF hd n v (by simpa using hn) hv (hF v y hfu)
  obtain ⟨j,hj,ej⟩:=List.getElem_of_mem hq
  have hj2:l[j]? =some q:=by rw [List.getElem?_eq_getElem hj,ej]
  obtain ⟨h3,r,hr,e3,e4,h4⟩:=h.done j y.toNat q (hd j q v y y0 y1 hj2 hfu h2) (by omega) hj2
  have ey:((y.toNat:Nat):Int)=y:=by omega
  rw [ey] at h4
  refine ⟨?_,r,hr,?_,?_,(cmp_trans h4 (le_snoc h2)).1⟩
  ·rw [Mach.outsW_snoc,Mach.outsW_snoc,h1,←e1,←e2,h3]
  ·rw [Mach.endW_snoc,←e1];exact e3
  rw [Mach.endW_snoc,←e2];exact e4
theorem Inv.best (h:Inv a b s t i x l) (hp:l[i]? =some p) (hx:x<a.inputs.toNat) (hd:a.ot p.s.toNat x≠b.ot p.t.toNat x):Best a b s t (p.word++[(x:Int)]):=by
 obtain ⟨g1,g2,g3,g4⟩:=h.good p (List.mem_of_getElem? hp)
 refine ⟨⟨fun y hy=> ?_,?_⟩,fun u hu hc=> ?_⟩
 ·rw [List.mem_append,List.mem_singleton] at hy
  rcases hy with hy|rfl
  ·exact g1 y hy
  omega
 ·rw [Mach.outsW_snoc,Mach.outsW_snoc,g2,g3,g4]
  simp only [Int.toNat_natCast]
  intro e
  exact hd (by simpa using e)
 refine (h.words (F:=fun u=>cmpW u (p.word++[(x:Int)])<0) (fun u y hy=> ?_) (fun j q u y y0 y1 hq hF hle=> ?_) u.length u rfl hu hc).1
 ·exact cmp_lt_of (by rw [cmp_short (a:=u) (b:=u++[y]) (by simp)];decide) hy
 have h5:cmpW (q.word++[y]) (p.word++[(x:Int)])<0:=cmp_lt_of (le_snoc hle) hF
 rcases lt_snoc h5 with h6|⟨h6,h7⟩
 ·by_cases e:j<i
  ·exact .inl e
  exfalso
  by_cases e2:j=i
  ·subst e2;rw [hp] at hq
   obtain rfl:p=q:=by simpa using hq
   rw [cmp_same] at h6;omega
  have h7:=h.sorted i j p q (by omega) hp hq
  have:=cmp_lt_of (by omega:cmpW q.word p.word≤0) h7
  rw [cmp_same] at this;omega
 by_cases e:j<i
 ·exact .inl e
 by_cases e2:j=i
 ·exact .inr ⟨e2,by omega⟩
 exfalso
 have h8:=h.sorted i j p q (by omega) hp hq
 rw [h6,cmp_same] at h8;omega
theorem Inv.old (h:Inv a b s t i x l) (hp:l[i]? =some p) (hd:a.ot p.s.toNat x=b.ot p.t.toNat x) (hk:known l (a.nx p.s.toNat x) (b.nx p.t.toNat x)=true):Inv a b s t i (x+1) l:=by
 refine ⟨h.head,h.good,h.sorted,fun q hq=> ?_,fun j y r hj hy hr=> ?_⟩
 ·rcases h.par q hq with e|⟨k,y,r,hk,hr,e⟩
  ·exact .inl e
  exact .inr ⟨k,y,r,by omega,hr,e⟩
 by_cases e:j=i∧y=x
 ·obtain ⟨rfl,rfl⟩:=e
  rw [hp] at hr
  obtain rfl:p=r:=by simpa using hr
  obtain ⟨q,hq,e1,e2⟩:=known_iff.1 hk
  exact ⟨hd,q,hq,e1,e2,Int.le_of_lt (h.below hp q hq)⟩
 exact h.done j y r (by omega) hy hr
theorem Inv.new (h:Inv a b s t i x l) (hp:l[i]? =some p) (hx:x<a.inputs.toNat) (hd:a.ot p.s.toNat x=b.ot p.t.toNat x):Inv a b s t i (x+1) (l++[⟨a.nx p.s.toNat x,b.nx p.t.toNat x,p.word++[(x:Int)]⟩]):=by
 obtain ⟨g1,g2,g3,g4⟩:=h.good p (List.mem_of_getElem? hp)
 have hbl:=h.below hp
 have hil:i<l.length:=by
  by_cases e:i<l.length
  ·exact e
  rw [List.getElem?_eq_none (by omega)] at hp;simp at hp
 have hold:∀{j:Nat} {r:Pl},l[j]? =some r→(l++[(⟨a.nx p.s.toNat x,b.nx p.t.toNat x,p.word++[(x:Int)]⟩:Pl)])[j]? =some r:=fun {j r} hr=>by
  have hj:j<l.length:=by
   by_cases e:j<l.length
   ·exact e
   rw [List.getElem?_eq_none (by omega)] at hr;simp at hr
  rw [List.getElem?_append_left hj];exact hr
 have hcases:∀{j:Nat} {r:Pl},(l++[(⟨a.nx p.s.toNat x,b.nx p.t.toNat x,p.word++[(x:Int)]⟩:Pl)])[j]? =some r→(j<l.length∧l[j]? =some r)∨(j=l.length∧r=⟨a.nx p.s.toNat x,b.nx p.t.toNat x,p.word++[(x:Int)]⟩):=fun {j r} hr=>by
  by_cases hj:j<l.length
  ·rw [List.getElem?_append_left hj] at hr;exact .inl ⟨hj,hr⟩
  rw [List.getElem?_append_right (by omega)] at hr
  by_cases e:j=l.length
  ·subst e;simp at hr;exact .inr ⟨rfl,hr.symm⟩
  rw [List.getElem?_eq_none (by simp;omega)] at hr;simp at hr
 refine ⟨hold h.head,fun q hq=> ?_,fun j k q r hjk hq hr=> ?_,fun q hq=> ?_,fun j y r hj hy hr=> ?_⟩
 ·rw [List.mem_append,List.mem_singleton] at hq
  rcases hq with hq|rfl
  ·exact h.good q hq
  refine ⟨fun y hy=> ?_,?_,?_,?_⟩
  ·simp only [List.mem_append,List.mem_singleton] at hy
   rcases hy with hy|rfl
   ·exact g1 y hy
   omega
  ·simp only;rw [Mach.endW_snoc,g2];simp
  ·simp only;rw [Mach.endW_snoc,g3];simp
  simp only;rw [Mach.outsW_snoc,Mach.outsW_snoc,g2,g3,g4];simp [hd]
 ·rcases hcases hq with ⟨-,hq2⟩|⟨e1, -⟩
  ·rcases hcases hr with ⟨-,hr2⟩|⟨-,rfl⟩
   ·exact h.sorted j k q r hjk hq2 hr2
   exact hbl q (List.mem_of_getElem? hq2)
  rcases hcases hr with ⟨h2, -⟩|⟨e2, -⟩<;>omega
 ·rw [List.mem_append,List.mem_singleton] at hq
  rcases hq with hq|rfl
  ·rcases h.par q hq with e|⟨k,y,r,hk,hr,e⟩
   ·exact .inl e
   exact .inr ⟨k,y,r,by omega,hold hr,e⟩
  exact .inr ⟨i,x,p,by omega,hold hp,rfl⟩
 rcases hcases hr with ⟨-,hr2⟩|⟨e1, -⟩
 ·by_cases e:j=i∧y=x
  ·obtain ⟨rfl,rfl⟩:=e
   rw [hp] at hr2
   obtain rfl:p=r:=by simpa using hr2
   exact ⟨hd,_,by rw [List.mem_append];exact .inr (List.mem_singleton.2 rfl),rfl,rfl,by rw [cmp_same];decide⟩
  obtain ⟨h1,q,hq,e1,e2,h2⟩:=h.done j y r (by omega) hy hr2
  exact ⟨h1,q,by rw [List.mem_append];exact .inl hq,e1,e2,h2⟩
 omega
theorem Inv.next (h:Inv a b s t i a.inputs.toNat l):Inv a b s t (i+1) 0 l:=by
 refine ⟨h.head,h.good,h.sorted,fun q hq=> ?_,fun j y r hj hy hr=>h.done j y r (by omega) hy hr⟩
 rcases h.par q hq with e|⟨k,y,r,hk,hr,e⟩
 ·exact .inl e
 exact .inr ⟨k,y,r,by omega,hr,e⟩
theorem Inv.rest (h:Inv a b s t i 0 l) (hl:l[i]? =none):Inv a b s t (i+1) 0 l:=by
 refine ⟨h.head,h.good,h.sorted,fun q hq=> ?_,fun j y r hj hy hr=>h.done j y r ?_ hy hr⟩
 ·rcases h.par q hq with e|⟨k,y,r,hk,hr,e⟩
  ·exact .inl e
  exact .inr ⟨k,y,r,by omega,hr,e⟩
 by_cases e:j=i
 ·subst e;rw [hl] at hr;simp at hr
 omega
theorem scan_inv (h:Inv a b s t i 0 l) (hp:l[i]? =some p):∀x,x≤a.inputs.toNat→
    (∀v,(scan a b p l x).2=some v→Best a b s t v)∧((scan a b p l x).2=none→Inv a b s t i x (scan a b p l x).1∧(scan a b p l x).1[i]? =some p)
 |0,_=>⟨fun v hv=>by simp [scan] at hv,fun _=>⟨h,hp⟩⟩
 |x+1,hx=>by
  obtain ⟨h1,h2⟩:=scan_inv h hp x (by omega)
  unfold scan
  cases e:(scan a b p l x).2 with
  |some w=>exact ⟨fun v hv=>h1 v (by rw [e];exact hv),fun h3=>by simp at h3⟩
  |none=>
   obtain ⟨h3,h4⟩:=h2 e
   simp only
   by_cases hd:a.ot p.s.toNat x=b.ot p.t.toNat x
   ·rw [if_neg (by simpa using hd)]
    by_cases hk:known (scan a b p l x).1 (a.nx p.s.toNat x) (b.nx p.t.toNat x)=true
    ·rw [if_pos hk]
     exact ⟨fun v hv=>by simp at hv,fun _=>⟨h3.old h4 hd hk,h4⟩⟩
    rw [if_neg hk]
    refine ⟨fun v hv=>by simp at hv,fun _=>⟨h3.new h4 (by omega) hd,?_⟩⟩
    simp only
    rw [List.getElem?_append_left]
    ·exact h4
    by_cases e:i<(scan a b p l x).1.length
    ·exact e
    rw [List.getElem?_eq_none (by omega)] at h4;simp at h4
   rw [if_pos hd]
   exact ⟨fun v hv=>by simp at hv;subst hv;exact h3.best h4 (by omega) hd,fun h5=>by simp at h5⟩
theorem srch_inv (a b:Mach) (s t:Int):∀i,(∀v,(srch a b s t i).2=some v→Best a b s t v)∧((srch a b s t i).2=none→Inv a b s t i 0 (srch a b s t i).1)
 |0=>⟨fun v hv=>by simp [srch] at hv,fun _=>Inv.init⟩
 |i+1=>by
  obtain ⟨h1,h2⟩:=srch_inv a b s t i
  unfold srch
  cases e:(srch a b s t i).2 with
  |some w=>exact ⟨fun v hv=>h1 v (by rw [e];exact hv),fun h3=>by simp at h3⟩
  |none=>
   have h3:=h2 e
   simp only
   cases e2:(srch a b s t i).1[i]? with
   |none=>exact ⟨fun v hv=>by simp at hv,fun _=>h3.rest e2⟩
   |some p=>
    obtain ⟨h4,h5⟩:=scan_inv h3 e2 a.inputs.toNat (Nat.le_refl _)
    exact ⟨h4,fun h6=>(h5 h6).1.next⟩
theorem first_some {v:List Int} (h:firstW a b s t=some v):Best a b s t v:=(srch_inv a b s t _).1 v h
theorem first_all (oa:a.Ok) (ob:b.Ok) (hi:a.inputs=b.inputs) (hs:0≤s∧s<a.next.length) (ht:0≤t∧t<b.next.length) (h:firstW a b s t=none):Mach.Sim a b s t:=by
 have hg:=(GoodP.srch oa ob hi hs ht (a.next.length*b.next.length)).le
 have hI:=(srch_inv a b s t (a.next.length*b.next.length)).2 h
 intro u hu
 refine (hI.words (F:=fun _=>True) (fun _ _ _=>trivial) (fun j q u y y0 y1 hq _ _=> .inl ?_) u.length u rfl hu trivial).1
 by_cases e:j<(srch a b s t (a.next.length*b.next.length)).1.length
 ·omega
 rw [List.getElem?_eq_none (by omega)] at hq;simp at hq
theorem first_iff (oa:a.Ok) (ob:b.Ok) (hi:a.inputs=b.inputs) (hs:0≤s∧s<a.next.length) (ht:0≤t∧t<b.next.length):firstW a b s t=none↔Mach.Sim a b s t:=by
 refine ⟨first_all oa ob hi hs ht,fun h=> ?_⟩
 cases e:firstW a b s t with
 |none=>rfl
 |some v=>exact absurd (h v (first_some e).1.1) (first_some e).1.2
theorem Best.unique {v w:List Int} (hi:a.inputs=b.inputs) (h:Best a b s t v) (h2:Best b a t s w):v=w:=by
 have h3:¬cmpW v w<0:=fun e=>h.1.2 (h2.2 v (Mach.okS_swap hi.symm h.1.1) e).symm
 have h4:¬cmpW w v<0:=fun e=>h2.1.2 (h.2 w (Mach.okS_swap hi h2.1.1) e).symm
 rw [cmp_swap] at h4
 exact cmp_zero (by omega)
theorem first_swap (oa:a.Ok) (ob:b.Ok) (hi:a.inputs=b.inputs) (hs:0≤s∧s<a.next.length) (ht:0≤t∧t<b.next.length):firstW b a t s=firstW a b s t:=by
 cases e:firstW a b s t with
 |none=>exact (first_iff ob oa hi.symm ht hs).2 (Mach.Sim.symm hi ((first_iff oa ob hi hs ht).1 e))
 |some v=>
  cases e2:firstW b a t s with
  |none=>
   have:=(first_iff oa ob hi hs ht).2 (Mach.Sim.symm hi.symm ((first_iff ob oa hi.symm ht hs).1 e2))
   rw [e] at this;cases this
  |some w=>rw [(first_some e).unique hi (first_some e2)]
end
end Go.Proofs.YtjagagpcjpcjjaaGreat
