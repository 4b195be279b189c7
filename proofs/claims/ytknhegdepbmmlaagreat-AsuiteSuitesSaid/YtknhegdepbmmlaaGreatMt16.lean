/- Several texts, one behind the other. Conditions: as each of them says. -/
import Derived.Test.YtknhegdepbmmlaaGreatMt13
import Derived.Test.YtknhegdepbmmlaaGreatMt11
import Derived.Test.YtknhegdepbmmlaaGreatMt1
set_option maxRecDepth 100000
set_option maxHeartbeats 32000000
namespace Go.Proofs.YtknhegdepbmmlaaGreat
namespace Mach
variable {m:Mach}
theorem eqv_outs (ok:m.Ok):∀(w:List Int) (k:Nat) (s t:Int),m.eqv k s.toNat t.toNat→w.length≤k→m.okS w→m.outsW s w=m.outsW t w
 |[],_,_,_,_,_,_=>rfl
 |x::w,0,_,_,_,h,_=>by simp at h
 |x::w,k+1,s,t,he,hl,hw=>by
  obtain ⟨⟨x0,x1⟩,hw2⟩:=okS_cons hw
  obtain ⟨h1,h2⟩:=he x.toNat (by omega)
  rw [outsW,outsW,h1,eqv_outs ok w k _ _ h2 (by simpa using hl) hw2]
end Mach
namespace Mach
def Sim (a b:Mach) (s t:Int):Prop:=∀w,a.okS w→a.outsW s w=b.outsW t w
theorem okS_one {m:Mach} {x:Nat} (hx:x<m.inputs.toNat) {w:List Int} (hw:m.okS w):m.okS ((x:Int)::w):=by
 intro y hy
 rcases List.mem_cons.1 hy with rfl|h
 ·omega
 exact hw y h
theorem okS_nil (m:Mach):m.okS []:=fun _ h=>absurd h (by simp)
theorem okS_swap {a b:Mach} (hi:a.inputs=b.inputs) {w:List Int} (h:b.okS w):a.okS w:=fun x hx=>by rw [hi];exact h x hx
section
variable {a b c:Mach} {s t u:Int}
theorem Sim.step (h:Sim a b s t) {x:Nat} (hx:x<a.inputs.toNat):a.ot s.toNat x=b.ot t.toNat x∧Sim a b (a.nx s.toNat x) (b.nx t.toNat x):=by
 constructor
 ·have:=h [(x:Int)] (okS_one hx a.okS_nil)
  simpa [outsW] using this
 intro w hw
 have:=h ((x:Int)::w) (okS_one hx hw)
 simp only [outsW,Int.toNat_natCast,List.cons.injEq] at this
 exact this.2
theorem Sim.refl (a:Mach) (s:Int):Sim a a s s:=fun _ _=>rfl
theorem Sim.symm (hi:a.inputs=b.inputs) (h:Sim a b s t):Sim b a t s:=fun w hw=>(h w (okS_swap hi hw)).symm
theorem Sim.trans (hi:a.inputs=b.inputs) (h:Sim a b s t) (h2:Sim b c t u):Sim a c s u:=fun w hw=>(h w hw).trans (h2 w (okS_swap hi.symm hw))
end
variable {m:Mach}
theorem eqv_of_words:∀(k:Nat) (s t:Int),(∀w,m.okS w→w.length≤k→m.outsW s w=m.outsW t w)→m.eqv k s.toNat t.toNat
 |0,_,_,_=>trivial
 |k+1,s,t,h=>fun x hx=>by
  refine ⟨?_,?_⟩
  ·have:=h [(x:Int)] (okS_one hx m.okS_nil) (by simp)
   simpa [outsW] using this
  refine eqv_of_words k _ _ fun w hw hl=> ?_
  have:=h ((x:Int)::w) (okS_one hx hw) (by simp;omega)
  simp only [outsW,Int.toNat_natCast,List.cons.injEq] at this
  exact this.2
theorem sim_iff (ok:m.Ok) {s t:Int} (hs:0≤s) (hs':s<m.next.length) (ht:0≤t) (ht':t<m.next.length):m.cl s=m.cl t↔Sim m m s t:=by
 rw [cl_iff ok hs hs' ht ht']
 constructor
 ·intro h w hw
  refine eqv_outs ok w (max w.length m.next.length) s t ?_ (by omega) hw
  exact (eqv_rest ok (by omega) (by omega) (by omega)).2 h
 exact fun h=>eqv_of_words _ _ _ fun w hw _=>h w hw
end Mach
def Cor (R:Int→Int→Prop):List Int→List Int→Prop
 |[],[]=>True
 |x::l,y::l'=>R x y∧Cor R l l'
 |_,_=>False
section
variable {R:Int→Int→Prop}
theorem Cor.len:∀{l l':List Int},Cor R l l'→l.length=l'.length
 |[],[],_=>rfl
 |[],_::_,h=>h.elim
 |_::_,[],h=>h.elim
 |_::l,_::l',h=>by simp [Cor.len h.2]
theorem Cor.snoc:∀{l l':List Int} {x y:Int},Cor R l l'→R x y→Cor R (l++[x]) (l'++[y])
 |[],[],_,_,_,h=>⟨h,trivial⟩
 |[],_::_,_,_,h,_=>h.elim
 |_::_,[],_,_,h,_=>h.elim
 |_::_,_::_,_,_,h,h2=>⟨h.1,Cor.snoc h.2 h2⟩
theorem Cor.get:∀{l l':List Int},Cor R l l'→∀{i:Nat},i<l.length→R (l.getD i 0) (l'.getD i 0)
 |[],_,_,i,hi=>by simp at hi
 |_::_,[],h,_,_=>h.elim
 |_::_,_::_,h,0,_=>h.1
 |_::l,_::l',h,i+1,hi=>by
  have:=Cor.get h.2 (i:=i) (by simpa using hi)
  simpa using this
theorem Cor.of:∀{l l':List Int},l.length=l'.length→(∀i,i<l.length→R (l.getD i 0) (l'.getD i 0))→Cor R l l'
 |[],[],_,_=>trivial
 |[],_::_,h,_=>by simp at h
 |_::_,[],h,_=>by simp at h
 |x::l,y::l',h,h2=>⟨by simpa using h2 0 (by simp),Cor.of (by simpa using h) fun i hi=>by simpa using h2 (i+1) (by simpa using hi)⟩
theorem Cor.map {α:Type} {f g:Int→α} (h2:∀x y,R x y→f x=g y):∀{l l':List Int},Cor R l l'→l.map f=l'.map g
 |[],[],_=>rfl
 |[],_::_,h=>h.elim
 |_::_,[],h=>h.elim
 |_::_,_::_,h=>by simp [h2 _ _ h.1,Cor.map h2 h.2]
def Agree (R:Int→Int→Prop) (c d:Int→Int):Prop:=∀x y x' y',R x x'→R y y'→(c x=c y↔d x'=d y')
variable {c d:Int→Int}
theorem Cor.mem (hA:Agree R c d) {t t':Int} (ht:R t t'):∀{l l':List Int},Cor R l l'→(c t∈l.map c↔d t'∈l'.map d)
 |[],[],_=>by simp
 |[],_::_,h=>h.elim
 |_::_,[],h=>h.elim
 |x::l,y::l',h=>by
  rw [List.map_cons,List.map_cons,List.mem_cons,List.mem_cons,Cor.mem hA ht h.2,hA t x t' y ht h.1]
theorem Cor.visit (hA:Agree R c d):∀{r r' l l':List Int},Cor R r r'→Cor R l l'→Cor R (visitC c l r) (visitC d l' r')
 |[],[],_,_,_,h=>h
 |[],_::_,_,_,h,_=>h.elim
 |_::_,[],_,_,h,_=>h.elim
 |t::r,t'::r',l,l',h,h2=>by
  simp only [visitC]
  have hm:=Cor.mem hA h.1 h2
  by_cases e:c t∈l.map c
  ·rw [if_pos e,if_pos (hm.1 e)]
   exact Cor.visit hA h.2 h2
  rw [if_neg e,if_neg (fun e2=>e (hm.2 e2))]
  exact Cor.visit hA h.2 (h2.snoc h.1)
end
namespace Mach
section
variable {a b:Mach}
def RS (a b:Mach) (x y:Int):Prop:=(0≤x∧x<a.next.length)∧(0≤y∧y<b.next.length)∧Sim a b x y
theorem agree (oa:a.Ok) (ob:b.Ok) (hi:a.inputs=b.inputs):Agree (RS a b) a.cl b.cl:=by
 intro x y x' y' h h2
 rw [sim_iff oa h.1.1 h.1.2 h2.1.1 h2.1.2,sim_iff ob h.2.1.1 h.2.1.2 h2.2.1.1 h2.2.1.2]
 constructor
 ·exact fun e=>(Sim.symm hi h.2.2).trans hi.symm (e.trans rfl h2.2.2)
 exact fun e=>h.2.2.trans hi (e.trans rfl (Sim.symm hi h2.2.2))
theorem rows_cor (oa:a.Ok) (ob:b.Ok) (hi:a.inputs=b.inputs) {x y:Int} (h:RS a b x y):Cor (RS a b) (a.next.getD x.toNat []) (b.next.getD y.toNat []):=by
 have h1:=oa.rn x.toNat (by have:=h.1;omega)
 have h2:=ob.rn y.toNat (by have:=h.2.1;omega)
 refine Cor.of (by omega) fun i hil=> ?_
 have hia:i<a.inputs.toNat:=by omega
 have r1:=oa.nx x.toNat i (by have:=h.1;omega) hia
 have r2:=ob.nx y.toNat i (by have:=h.2.1;omega) (by omega)
 exact ⟨r1,r2,(h.2.2.step hia).2⟩
theorem qbfs_cor (oa:a.Ok) (ob:b.Ok) (hi:a.inputs=b.inputs) (hs:Sim a b a.start b.start):∀i,Cor (RS a b) (a.qbfs a.cl i) (b.qbfs b.cl i)
 |0=>⟨⟨⟨oa.s0,oa.s1⟩,⟨ob.s0,ob.s1⟩,hs⟩,trivial⟩
 |i+1=>by
  have ih:=qbfs_cor oa ob hi hs i
  rw [qbfs_succ,qbfs_succ,←ih.len]
  by_cases e:i<(a.qbfs a.cl i).length
  ·rw [if_pos e,if_pos e]
   exact Cor.visit (agree oa ob hi) (rows_cor oa ob hi (ih.get e)) ih
  rw [if_neg e,if_neg e];exact ih
theorem firsts_qbfs {m:Mach} (ok:m.Ok) {k:Nat} (hk:m.next.length≤k):firsts m.cl m.reach=m.qbfs m.cl k:=by
 obtain ⟨h1,h2,h3⟩:=quot_reach ok (cl_cong ok)
 rw [←h1,qbfs_stop _ h2 _ (Nat.le_trans h3 hk),←qbfs_stop _ h2 _ h3]
end
variable {m:Mach}
theorem first_has {x:Int} (hx:x∈m.reach):m.cl x∈(firsts m.cl m.reach).map m.cl:=(firsts_mem _ _ _).2 (List.mem_map_of_mem hx)
theorem firsts_sub (_ok:m.Ok):∀x∈firsts m.cl m.reach,x∈m.reach:=by
 exact fun x hx=>visitC_all m.cl (Q:=fun x=>x∈m.reach) m.reach [] (by simp) (fun _ h=>h) x hx
theorem rep_of {x:Int} (hx:x∈m.reach):∃(i:Nat) (hi:i<(firsts m.cl m.reach).length),idxC m.cl (firsts m.cl m.reach) x=(i:Int)∧m.cl (firsts m.cl m.reach)[i]=m.cl x:=by
 have h:=first_has hx
 have hl:=List.idxOf_lt_length_of_mem h
 refine ⟨((firsts m.cl m.reach).map m.cl).idxOf (m.cl x),by simpa using hl,rfl,?_⟩
 have:=List.getElem_idxOf hl
 rw [List.getElem_map] at this
 exact this
theorem minF_len (m:Mach):m.minF.next.length=(firsts m.cl m.reach).length:=by simp [minF]
theorem minF_ot {i a:Nat} (hi:i<(firsts m.cl m.reach).length):m.minF.ot i a=m.ot ((firsts m.cl m.reach)[i]).toNat a:=by
 unfold ot minF
 simp only
 rw [getD_map (fun x:Int=>m.out.getD x.toNat []) _ _ hi]
theorem minF_nx (ok:m.Ok) {i a:Nat} (hi:i<(firsts m.cl m.reach).length) (ha:a<m.inputs.toNat):m.minF.nx i a=idxC m.cl (firsts m.cl m.reach) (m.nx ((firsts m.cl m.reach)[i]).toNat a):=by
 have hr:=(reach_props ok).2.1 _ (firsts_sub ok _ (List.getElem_mem hi))
 have hl:=ok.rn ((firsts m.cl m.reach)[i]).toNat (by omega)
 unfold nx minF
 simp only
 rw [getD_map (fun x:Int=>(m.next.getD x.toNat []).map (idxC m.cl (firsts m.cl m.reach))) _ _ hi]
 rw [List.getD_eq_getElem?_getD,List.getElem?_map,List.getD_eq_getElem?_getD (l:=m.next.getD ((firsts m.cl m.reach)[i]).toNat []),List.getElem?_eq_getElem (by omega)]
 rfl
theorem nx_mem {s a:Nat} (ok:m.Ok) (hs:s<m.next.length) (ha:a<m.inputs.toNat):m.nx s a∈m.next.getD s []:=by
 have hl:=ok.rn s hs
 unfold nx
 rw [List.getD_eq_getElem?_getD (l:=m.next.getD s []),List.getElem?_eq_getElem (by omega)]
 exact List.getElem_mem _
theorem qbfs_head (m:Mach) (c:Int→Int):∀i,(m.qbfs c i)[0]? =some m.start
 |0=>by simp [qbfs]
 |i+1=>by
  have ih:=qbfs_head m c i
  rw [qbfs_succ]
  split
  ·obtain ⟨s,hs⟩:=visitC_prefix c (m.next.getD ((m.qbfs c i).getD i 0).toNat []) (m.qbfs c i)
   rw [hs,List.getElem?_append_left]
   ·exact ih
   by_cases e:0<(m.qbfs c i).length
   ·exact e
   rw [List.getElem?_eq_none (by omega)] at ih;simp at ih
  exact ih
theorem start_mem (ok:m.Ok):m.start∈m.reach:=by
 have h:=qbfs_head m m.cl m.next.length
 rw [←firsts_qbfs ok (Nat.le_refl _)] at h
 exact firsts_sub ok _ (List.mem_of_getElem? h)
theorem firsts_le (_ok:m.Ok):(firsts m.cl m.reach).length≤m.reach.length:=by
 have:=visitC_len m.cl m.reach []
 unfold firsts;simpa using this
theorem firsts_pos (ok:m.Ok):0<(firsts m.cl m.reach).length:=by
 have h:=first_has (start_mem ok)
 by_cases e:0<(firsts m.cl m.reach).length
 ·exact e
 rw [List.eq_nil_of_length_eq_zero (l:=firsts m.cl m.reach) (by omega)] at h;simp at h
theorem minF_ok (ok:m.Ok):m.minF.Ok:=by
 have n1:=ok.n1
 have hl:=m.minF_len
 have hlo:m.minF.out.length=(firsts m.cl m.reach).length:=by simp [minF]
 have hle:=firsts_le ok
 have hle2:=reach_le ok
 have hp:=firsts_pos ok
 have hrep:∀i (hi:i<(firsts m.cl m.reach).length),((firsts m.cl m.reach)[i]).toNat<m.next.length:=fun i hi=>by
  have:=(reach_props ok).2.1 _ (firsts_sub ok _ (List.getElem_mem hi));omega
 refine ⟨ok.i0,ok.i1,by omega,by omega,by simp [minF],by rw [hl];simp only [minF];omega,by omega,fun s hs=> ?_,fun s hs=> ?_,fun s a hs ha=> ?_,fun s a hs ha=> ?_⟩
 ·rw [hl] at hs
  have:=ok.rn _ (hrep s hs)
  have e:m.minF.next.getD s []=(m.next.getD ((firsts m.cl m.reach)[s]).toNat []).map (idxC m.cl (firsts m.cl m.reach)):=getD_map _ _ _ hs
  rw [e,List.length_map]
  exact this
 ·rw [hl] at hs
  have:=ok.ro _ (hrep s hs)
  have e:m.minF.out.getD s []=m.out.getD ((firsts m.cl m.reach)[s]).toNat []:=getD_map (fun x:Int=>m.out.getD x.toNat []) _ _ hs
  rw [e]
  exact this
 ·rw [hl] at hs
  have ha':a<m.inputs.toNat:=ha
  rw [minF_nx ok hs ha',hl]
  have hm:=reach_closed ok (firsts_sub ok _ (List.getElem_mem hs)) (nx_mem ok (hrep s hs) ha')
  obtain ⟨i,hi,e, -⟩:=rep_of hm
  rw [e];omega
 rw [hl] at hs
 rw [minF_ot hs]
 exact ok.ot _ a (hrep s hs) ha
end Mach
end Go.Proofs.YtknhegdepbmmlaaGreat
