/- Lemmas, each with its own conditions. -/
import Derived.Test.YtjagagpcjpcjjaaGreatMw15
import Derived.Test.YtjagagpcjpcjjaaGreatMw13
set_option maxRecDepth 100000
set_option maxHeartbeats 32000000
namespace Go.Proofs.YtjagagpcjpcjjaaGreat
namespace g_
variable {m:g_}
theorem OU (ok:m.Ok):∀(w:List Int) (k:Nat) (s t:Int),m.eqv k s.toNat t.toNat->w.length<=k->m.nQ w->m.iY s w=m.iY t w
 |[],_,_,_,_,_,_=>rfl
 |x::w,0,_,_,_,h,_=>by simp at h
 |x::w,k+1,s,t,he,hl,hw=>by
  obtain ⟨⟨x0,x1⟩,hw2⟩:=uj hw
  obtain ⟨h1,h2⟩:=he x.toNat ah
  rw [iY,iY,h1,OU ok w k _ _ h2 (iq hl) hw2]
end g_
namespace g_
def Es (a b:g_) (s t:Int):Prop:=∀w,a.nQ w->a.iY s w=b.iY t w
theorem Et {m:g_} {x:Nat} (hx:x<m.gZ.toNat) {w:List Int} (hw:m.nQ w):m.nQ ((x:Int)::w):=by
 intro y hy;rcases gH.1 hy with rfl|h;·omega
 exact hw y h
theorem LP (m:g_):m.nQ []:=fun _ h=>absurd h aH
theorem AU {a b:g_} (hi:a.gZ=b.gZ) {w:List Int} (h:b.nQ w):a.nQ w:=fun x hx=>by rw [hi];exact h x hx
section
variable {a b c:g_} {s t u:Int}
theorem Es.step (h:Es a b s t) {x:Nat} (hx:x<a.gZ.toNat):a.ot s.toNat x=b.ot t.toNat x/\Es a b (a.nx s.toNat x) (b.nx t.toNat x):=by
 constructor;·have:=h [(x:Int)] (Et hx a.LP);simpa [iY] using this
 intro w hw;have:=h ((x:Int)::w) (Et hx hw);simp only [iY,dK,List.cons.injEq] at this;exact this.2
theorem Es.refl (a:g_) (s:Int):Es a a s s:=fun _ _=>rfl
theorem Es.symm (hi:a.gZ=b.gZ) (h:Es a b s t):Es b a t s:=fun w hw=>(h w (AU hi hw)).symm
theorem Es.trans (hi:a.gZ=b.gZ) (h:Es a b s t) (h2:Es b c t u):Es a c s u:=fun w hw=>(h w hw).trans (h2 w (AU hi.symm hw))
end
variable {m:g_}
theorem AV:∀(k:Nat) (s t:Int),(∀w,m.nQ w->w.length<=k->m.iY s w=m.iY t w)->m.eqv k s.toNat t.toNat
 |0,_,_,_=>trivial
 |k+1,s,t,h=>fun x hx=>by
  refine ⟨?_,?_⟩
  ·have:=h [(x:Int)] (Et hx m.LP) aH
   simpa [iY] using this
  refine AV k _ _ fun w hw hl=> ?_
  have:=h ((x:Int)::w) (Et hx hw) aJ
  simp only [iY,dK,List.cons.injEq] at this
  exact this.2
theorem Eu (ok:m.Ok) {s t:Int} (hs:0<=s) (hs':s<m.h_.length) (ht:0<=t) (ht':t<m.h_.length):m.cl s=m.cl t↔Es m m s t:=by
 rw [Lb ok hs hs' ht ht'];constructor;·intro h w hw;refine OU ok w (max w.length m.h_.length) s t ?_ ah hw;exact (EU ok ah ah ah).2 h
 exact fun h=>AV _ _ _ fun w hw _=>h w hw
end g_
def vQ (R:Int->Int->Prop):List Int->List Int->Prop
 |[],[]=>True
 |x::l,y::l'=>R x y/\vQ R l l'
 |_,_=>False
section
variable {R:Int->Int->Prop}
theorem vQ.len:∀{l l':List Int},vQ R l l'->l.length=l'.length
 |[],[],_=>rfl
 |[],_::_,h=>h.elim
 |_::_,[],h=>h.elim
 |_::l,_::l',h=>by simp [vQ.len h.2]
theorem vQ.snoc:∀{l l':List Int} {x y:Int},vQ R l l'->R x y->vQ R (l++[x]) (l'++[y])
 |[],[],_,_,_,h=>⟨h,trivial⟩
 |[],_::_,_,_,h,_=>h.elim
 |_::_,[],_,_,h,_=>h.elim
 |_::_,_::_,_,_,h,h2=>⟨h.1,vQ.snoc h.2 h2⟩
theorem vQ.get:∀{l l':List Int},vQ R l l'->∀{i:Nat},i<l.length->R (l.getD i 0) (l'.getD i 0)
 |[],_,_,i,hi=>by simp at hi
 |_::_,[],h,_,_=>h.elim
 |_::_,_::_,h,0,_=>h.1
 |_::l,_::l',h,i+1,hi=>by
  have:=vQ.get h.2 (i:=i) (iq hi)
  simpa using this
theorem vQ.of:∀{l l':List Int},l.length=l'.length->(∀i,i<l.length->R (l.getD i 0) (l'.getD i 0))->vQ R l l'
 |[],[],_,_=>trivial
 |[],_::_,h,_=>by simp at h
 |_::_,[],h,_=>by simp at h
 |x::l,y::l',h,h2=>⟨iq (h2 0 aH),vQ.of (iq h) fun i hi=>by simpa using h2 (i+1) (iq hi)⟩
theorem vQ.map {α:Type} {f g:Int->α} (h2:∀x y,R x y->f x=g y):∀{l l':List Int},vQ R l l'->l.map f=l'.map g
 |[],[],_=>rfl
 |[],_::_,h=>h.elim
 |_::_,[],h=>h.elim
 |_::_,_::_,h=>by simp [h2 _ _ h.1,vQ.map h2 h.2]
def Agree (R:Int->Int->Prop) (c d:Int->Int):Prop:=∀x y x' y',R x x'->R y y'->(c x=c y↔d x'=d y')
variable {c d:Int->Int}
theorem vQ.mem (hA:Agree R c d) {t t':Int} (ht:R t t'):∀{l l':List Int},vQ R l l'->(c t∈l.map c↔d t'∈l'.map d)
 |[],[],_=>by simp
 |[],_::_,h=>h.elim
 |_::_,[],h=>h.elim
 |x::l,y::l',h=>by
  rw [fQ,fQ,gH,gH,vQ.mem hA ht h.2,hA t x t' y ht h.1]
theorem vQ.idx (hA:Agree R c d) {t t':Int} (ht:R t t'):∀{l l':List Int},vQ R l l'->(l.map c).idxOf (c t)=(l'.map d).idxOf (d t')
 |[],[],_=>by simp
 |[],_::_,h=>h.elim
 |_::_,[],h=>h.elim
 |x::l,y::l',h=>by
  rw [fQ,fQ,List.idxOf_cons,List.idxOf_cons,vQ.idx hA ht h.2]
  have:=hA x t y t' h.1 ht
  by_cases e:c x=c t
  ·rw [beq_iff_eq.2 e,beq_iff_eq.2 (this.1 e)]
  rw [beq_eq_false_iff_ne.2 e,beq_eq_false_iff_ne.2 (fun e2=>e (this.2 e2))]
theorem vQ.visit (hA:Agree R c d):∀{r r' l l':List Int},vQ R r r'->vQ R l l'->vQ R (ji c l r) (ji d l' r')
 |[],[],_,_,_,h=>h
 |[],_::_,_,_,h,_=>h.elim
 |_::_,[],_,_,h,_=>h.elim
 |t::r,t'::r',l,l',h,h2=>by
  simp only [ji]
  have hm:=vQ.mem hA h.1 h2
  by_cases e:c t∈l.map c
  ·rw [bQ e,bQ (hm.1 e)]
   exact vQ.visit hA h.2 h2
  rw [bO e,bO (fun e2=>e (hm.2 e2))]
  exact vQ.visit hA h.2 (h2.snoc h.1)
end
namespace g_
section
variable {a b:g_}
def RS (a b:g_) (x y:Int):Prop:=(0<=x/\x<a.h_.length)/\(0<=y/\y<b.h_.length)/\Es a b x y
theorem agree (oa:a.Ok) (ob:b.Ok) (hi:a.gZ=b.gZ):Agree (RS a b) a.cl b.cl:=by
 intro x y x' y' h h2;rw [Eu oa h.1.1 h.1.2 h2.1.1 h2.1.2,Eu ob h.2.1.1 h.2.1.2 h2.2.1.1 h2.2.1.2];constructor;·exact fun e=>(Es.symm hi h.2.2).trans hi.symm (e.trans rfl h2.2.2)
 exact fun e=>h.2.2.trans hi (e.trans rfl (Es.symm hi h2.2.2))
theorem OV (oa:a.Ok) (ob:b.Ok) (hi:a.gZ=b.gZ) {x y:Int} (h:RS a b x y):vQ (RS a b) (a.h_.getD x.toNat []) (b.h_.getD y.toNat []):=by
 have h1:=oa.rn x.toNat (ig h.1);have h2:=ob.rn y.toNat (ig h.2.1);refine vQ.of ah fun i hil=> ?_;have hia:i<a.gZ.toNat:=ah;have r1:=oa.nx x.toNat i (ig h.1) hia;have r2:=ob.nx y.toNat i (ig h.2.1) ah;exact ⟨r1,r2,(h.2.2.step hia).2⟩
theorem OW (oa:a.Ok) (ob:b.Ok) (hi:a.gZ=b.gZ) (hs:Es a b a.start b.start):∀i,vQ (RS a b) (a.lT a.cl i) (b.lT b.cl i)
 |0=>⟨⟨⟨oa.s0,oa.s1⟩,⟨ob.s0,ob.s1⟩,hs⟩,trivial⟩
 |i+1=>by
  have ih:=OW oa ob hi hs i
  rw [qh,qh,<-ih.len]
  by_cases e:i<(a.lT a.cl i).length
  ·rw [bQ e,bQ e]
   exact vQ.visit (agree oa ob hi) (OV oa ob hi (ih.get e)) ih
  rw [bO e,bO e];exact ih
theorem tF {m:g_} (ok:m.Ok) {k:Nat} (hk:m.h_.length<=k):firsts m.cl m.reach=m.lT m.cl k:=by
 obtain ⟨h1,h2,h3⟩:=ET ok (UJ ok);rw [<-h1,yu _ h2 _ (dH h3 hk),<-yu _ h2 _ h3]
theorem Sr (oa:a.Ok) (ob:b.Ok) (hi:a.gZ=b.gZ) (hs:Es a b a.start b.start):vQ (RS a b) (firsts a.cl a.reach) (firsts b.cl b.reach):=by
 rw [tF oa (k:=max a.h_.length b.h_.length) ah,tF ob (k:=max a.h_.length b.h_.length) ah];exact OW oa ob hi hs _
theorem aaf (oa:a.Ok) (ob:b.Ok) (hi:a.gZ=b.gZ) (hs:Es a b a.start b.start):a.lF=b.lF:=by
 have hF:=Sr oa ob hi hs;have hA:=agree oa ob hi;unfold lF;rw [hi];congr 1
 ·refine vQ.map (fun x y h=> ?_) hF;refine vQ.map (fun u v h2=> ?_) (OV oa ob hi h);unfold kL;rw [vQ.idx hA h2 hF]
 refine vQ.map (fun x y h=> ?_) hF;have h1:=oa.ro x.toNat (ig h.1);have h2:=ob.ro y.toNat (ig h.2.1);refine arV ah fun i hi1 hi2=> ?_;have:=(h.2.2.step (x:=i) ah).1;unfold ot at this;rw [bS (l:=a.out.getD x.toNat []),bS (l:=b.out.getD y.toNat []),bN hi1,bN hi2] at this;exact this
end
variable {m:g_}
theorem JQ {x:Int} (hx:x∈m.reach):m.cl x∈(firsts m.cl m.reach).map m.cl:=(sD _ _ _).2 (gU hx)
theorem sH (_ok:m.Ok):∀x∈firsts m.cl m.reach,x∈m.reach:=by
 exact fun x hx=>zA m.cl (Q:=fun x=>x∈m.reach) m.reach [] aH (fun _ h=>h) x hx
theorem aag {x:Int} (hx:x∈m.reach):∃(i:Nat) (hi:i<(firsts m.cl m.reach).length),kL m.cl (firsts m.cl m.reach) x=(i:Int)/\m.cl (firsts m.cl m.reach)[i]=m.cl x:=by
 have h:=JQ hx;have hl:=ap5 h;refine ⟨((firsts m.cl m.reach).map m.cl).idxOf (m.cl x),iq hl,rfl,?_⟩;have:=arG hl;rw [arQ] at this;exact this
theorem FN (m:g_):m.lF.h_.length=(firsts m.cl m.reach).length:=by simp [lF]
theorem Vm {i a:Nat} (hi:i<(firsts m.cl m.reach).length):m.lF.ot i a=m.ot ((firsts m.cl m.reach)[i]).toNat a:=by
 unfold ot lF;simp only;rw [getD_map (fun x:Int=>m.out.getD x.toNat []) _ _ hi]
theorem Vn (ok:m.Ok) {i a:Nat} (hi:i<(firsts m.cl m.reach).length) (ha:a<m.gZ.toNat):m.lF.nx i a=kL m.cl (firsts m.cl m.reach) (m.nx ((firsts m.cl m.reach)[i]).toNat a):=by
 have hr:=(ko ok).2.1 _ (sH ok _ (dQ hi));have hl:=ok.rn ((firsts m.cl m.reach)[i]).toNat ah;unfold nx lF;simp only;rw [getD_map (fun x:Int=>(m.h_.getD x.toNat []).map (kL m.cl (firsts m.cl m.reach))) _ _ hi];rw [bS,dP,bS (l:=m.h_.getD ((firsts m.cl m.reach)[i]).toNat []),bN ah];rfl
theorem Sv {s a:Nat} (ok:m.Ok) (hs:s<m.h_.length) (ha:a<m.gZ.toNat):m.nx s a∈m.h_.getD s []:=by
 have hl:=ok.rn s hs;unfold nx;rw [bS (l:=m.h_.getD s []),bN ah];exact dQ _
theorem OX (ok:m.Ok):∀(w:List Int) (x:Int),x∈m.reach->m.nQ w->m.iY x w=m.lF.iY (kL m.cl (firsts m.cl m.reach) x) w
 |[],_,_,_=>rfl
 |y::w,x,hx,hw=>by
  obtain ⟨⟨y0,y1⟩,hw2⟩:=uj hw
  obtain ⟨i,hi,e,hc⟩:=aag hx
  have CY:=(ko ok).2.1 _ hx
  have hf:=sH ok _ (dQ hi)
  have hfr:=(ko ok).2.1 _ hf
  have hya:y.toNat<m.gZ.toNat:=ah
  have hs:=(Eu ok hfr.1 hfr.2 CY.1 CY.2).1 hc
  obtain ⟨h1,h2⟩:=hs.step hya
  have hn1:=pI ok hx (Sv ok ah hya)
  have hn2:=pI ok hf (Sv ok ah hya)
  have hr1:=(ko ok).2.1 _ hn1
  have hr2:=(ko ok).2.1 _ hn2
  have hcn:=(Eu ok hr2.1 hr2.2 hr1.1 hr1.2).2 h2
  unfold iY
  rw [e]
  simp only [dK]
  rw [Vm hi,h1,Vn ok hi hya,EW m.cl hcn,OX ok w _ hn1 hw2]
theorem Ci (m:g_) (c:Int->Int):∀i,(m.lT c i)[0]? =some m.start
 |0=>by simp [lT]
 |i+1=>by
  have ih:=Ci m c i
  rw [qh]
  split
  ·obtain ⟨s,hs⟩:=mE c (m.h_.getD ((m.lT c i).getD i 0).toNat []) (m.lT c i)
   rw [hs,dz]
   ·exact ih
   by_cases e:0<(m.lT c i).length
   ·exact e
   rw [bZ ah] at ih;simp at ih
  exact ih
theorem JR (ok:m.Ok):m.start∈m.reach:=by
 have h:=Ci m m.cl m.h_.length;rw [<-tF ok (bM _)] at h;exact sH ok _ (bV h)
theorem WW (ok:m.Ok):kL m.cl (firsts m.cl m.reach) m.start=0:=by
 have h:=Ci m m.cl m.h_.length;rw [<-tF ok (bM _)] at h;unfold kL;cases e:firsts m.cl m.reach with
 |nil=>rw [e] at h;simp at h
 |cons x l=>rw [e] at h;obtain rfl:x=m.start:=iq h;simp
theorem Sw (ok:m.Ok):Es m m.lF m.start m.lF.start:=by
 intro w hw;rw [OX ok w _ (JR ok) hw,WW ok];rfl
theorem Cj (_ok:m.Ok):(firsts m.cl m.reach).length<=m.reach.length:=by
 have:=vC m.cl m.reach [];unfold firsts;simpa using this
theorem Sy (ok:m.Ok):0<(firsts m.cl m.reach).length:=by
 have h:=JQ (JR ok);by_cases e:0<(firsts m.cl m.reach).length;·exact e
 rw [fE (l:=firsts m.cl m.reach) ah] at h;simp at h
theorem pQ (ok:m.Ok):m.lF.Ok:=by
 have n1:=ok.n1;have hl:=m.FN;have hlo:m.lF.out.length=(firsts m.cl m.reach).length:=by simp [lF]
 have hle:=Cj ok;have aik:=qE ok;have hp:=Sy ok
 have vF:∀i (hi:i<(firsts m.cl m.reach).length),((firsts m.cl m.reach)[i]).toNat<m.h_.length:=fun i hi=>by
  have:=(ko ok).2.1 _ (sH ok _ (dQ hi));omega
 refine ⟨ok.i0,ok.i1,ah,ah,by simp [lF],by rw [hl];simp only [lF];omega,ah,fun s hs=> ?_,fun s hs=> ?_,fun s a hs ha=> ?_,fun s a hs ha=> ?_⟩;·rw [hl] at hs;have:=ok.rn _ (vF s hs);have e:m.lF.h_.getD s []=(m.h_.getD ((firsts m.cl m.reach)[s]).toNat []).map (kL m.cl (firsts m.cl m.reach)):=getD_map _ _ _ hs;rw [e,dJ];exact this
 ·rw [hl] at hs;have:=ok.ro _ (vF s hs);have e:m.lF.out.getD s []=m.out.getD ((firsts m.cl m.reach)[s]).toNat []:=getD_map (fun x:Int=>m.out.getD x.toNat []) _ _ hs;rw [e];exact this
 ·rw [hl] at hs;have ha':a<m.gZ.toNat:=ha;rw [Vn ok hs ha',hl];have hm:=pI ok (sH ok _ (dQ hs)) (Sv ok (vF s hs) ha');obtain ⟨i,hi,e, -⟩:=aag hm;rw [e];omega
 rw [hl] at hs;rw [Vm hs];exact ok.ot _ a (vF s hs) ha
theorem JU (ok:m.Ok):m.lF.lF=m.lF:=(aaf ok (pQ ok) rfl (Sw ok)).symm
theorem Sz (ok:m.Ok):m.lF.reach.length=m.lF.h_.length:=by
 have h1:=Cj (pQ ok);have h2:=qE (pQ ok);have h3:=m.lF.FN;rw [JU ok] at h3;omega
end g_
theorem OY:∀{u v:List Int} (x y:Int),u.length=v.length->jc (u++[x]) (v++[y])=if jc u v=0 then tQ x y else jc u v
 |[],[],x,y,_=>by
  simp only [gJ,jc,aqj]
  split
  ·rename_i h;subst h;exact (Fv rfl).symm
  rfl
 |[],_::_,_,_,h=>by simp at h
 |_::_,[],_,_,h=>by simp at h
 |p::u,q::v,x,y,h=>by
  have ih:=OY (u:=u) (v:=v) x y (iq h)
  by_cases e:p=q
  ·have e1:jc (p::u) (q::v)=jc u v:=by show (if p=q then jc u v else tQ p q)=_;rw [bQ e]
   have e2:jc (p::u++[x]) (q::v++[y])=jc (u++[x]) (v++[y]):=by show (if p=q then jc (u++[x]) (v++[y]) else tQ p q)=_;rw [bQ e]
   rw [e1,e2];exact ih
  have e1:jc (p::u) (q::v)=tQ p q:=by unfold jc;rw [bO e]
  have e2:jc (p::u++[x]) (q::v++[y])=tQ p q:=by rw [gu,gu];unfold jc;rw [bO e]
  rw [e1,e2,bO (fun h2=>e (qJ h2))]
theorem FP (u v:List Int) (x y:Int):iM (u++[x]) (v++[y])=if iM u v=0 then tQ x y else iM u v:=by
 unfold iM;by_cases e:u.length=v.length;·rw [bQ (by simp [e]),bQ e];exact OY x y e
 have hne:tQ (u.length:Int) (v.length:Int)≠0:=fun h=>e (ig (qJ h));rw [bO (by simp [e]),bO e,bO hne];simp only [dB,eT];unfold tQ;simp only [Int.natCast_add];by_cases h1:(u.length:Int)<v.length;·rw [bQ h1,bQ ah]
 rw [bO h1,bO ah];by_cases h2:(v.length:Int)<u.length;·rw [bQ h2,bQ ah]
 rw [bO h2,bO ah]
theorem adf {u v:List Int} {x y:Int} (h:iM u v<0\/(u=v/\x<y)):iM (u++[x]) (v++[y])<0:=by
 rw [FP];rcases h with h|⟨rfl,h⟩;·rw [bO ah];exact h
 rw [bQ (pK u),zF h];decide
theorem adg {u v:List Int} {x y:Int} (h:iM (u++[x]) (v++[y])<0):iM u v<0\/(u=v/\x<y):=by
 rw [FP] at h;split at h;·rename_i e;exact .inr ⟨uG e,yA.1 h⟩
 exact .inl h
theorem Vo {u v:List Int} {x:Int} (h:iM u v<=0):iM (u++[x]) (v++[x])<=0:=by
 rw [FP];split;·rw [Fv rfl];decide
 exact h
theorem Ck {u v w:List Int} (h:iM u v<=0) (h2:iM v w<0):iM u w<0:=by
 have h3:=Cb (a:=u) (b:=v) (c:=w) h ah;by_cases e:iM u v<0;·exact h3.2 e
 have e0:iM u v=0:=ah;rw [uG e0];exact h2
structure Inv (a b:g_) (s t:Int) (i x:Nat) (l:List Pl):Prop where
 head:l[0]? =some ⟨s,t,[]⟩
 good:∀q∈l,a.nQ q.word/\a.lD s q.word=q.s/\b.lD t q.word=q.t/\a.iY s q.word=b.iY t q.word
 sorted:∀(j k:Nat) (p q:Pl),j<k->l[j]? =some p->l[k]? =some q->iM p.word q.word<0
 par:∀q∈l,q.word=[]\/∃(k y:Nat) (p:Pl),(k<i\/(k=i/\y<x))/\l[k]? =some p/\q.word=p.word++[(y:Int)]
 done:∀(j y:Nat) (p:Pl),(j<i\/(j=i/\y<x))->y<a.gZ.toNat->l[j]? =some p->a.ot p.s.toNat y=b.ot p.t.toNat y/\∃q∈l,q.s=a.nx p.s.toNat y/\q.t=b.nx p.t.toNat y/\iM q.word (p.word++[(y:Int)])<=0
def Best (a b:g_) (s t:Int) (v:List Int):Prop:=(a.nQ v/\a.iY s v≠b.iY t v)/\∀u,a.nQ u->iM u v<0->a.iY s u=b.iY t u
section
variable {a b:g_} {s t:Int} {l:List Pl} {i x:Nat} {p:Pl}
theorem Inv.init:Inv a b s t 0 0 [⟨s,t,[]⟩]:=by
 refine ⟨rfl,fun q hq=> ?_,fun j k p q hjk hp hq=> ?_,fun q hq=> ?_,fun j y p h=>by omega⟩;·simp at hq;subst hq;exact ⟨a.LP,rfl,rfl,rfl⟩
 ·rw [bZ aJ] at hq;simp at hq
 simp at hq;subst hq;exact .inl rfl
theorem Inv.below (h:Inv a b s t i x l) (hp:l[i]? =some p):∀q∈l,iM q.word (p.word++[(x:Int)])<0:=by
 intro q hq;rcases h.par q hq with e|⟨k,y,r,hk,hr,e⟩;·have h2:iM [] (p.word++[(x:Int)])= -1:=uH aH;rw [e,h2];decide
 rw [e];apply adf;rcases hk with hk|⟨rfl,hy⟩;·exact .inl (h.sorted k i r p hk hr hp)
 rw [hp] at hr;obtain rfl:p=r:=iq hr;exact .inr ⟨rfl,ah⟩
theorem Inv.words (h:Inv a b s t i x l) (F:List Int->Prop) (hF:∀u y,F (u++[y])->F u)
    (hd:∀(j:Nat) (q:Pl) (u:List Int) (y:Int),0<=y->y<a.gZ->l[j]? =some q->F (u++[y])->iM q.word u<=0->j<i\/(j=i/\y.toNat<x)):
    ∀(n:Nat) (u:List Int),u.length=n->a.nQ u->F u->a.iY s u=b.iY t u/\∃q∈l,q.s=a.lD s u/\q.t=b.lD t u/\iM q.word u<=0
 |0,u,hn,_,_=>by
  obtain rfl:u=[]:=fE hn
  exact ⟨rfl,_,bV h.head,rfl,rfl,by rw [pK];decide⟩
 |n+1,u,hn,hu,hfu=>by
  obtain ⟨v,y,rfl⟩:∃v y,u=v++[y]:=⟨u.dropLast,u.getLast (by intro e;rw [e] at hn;simp at hn),(List.dropLast_concat_getLast _).symm⟩
  obtain ⟨hv,hy⟩:=g_.acG hu
  obtain ⟨y0,y1⟩:=hy y aH
  obtain ⟨h1,q,hq,e1,e2,h2⟩:=Inv.words h F hF hd n v (iq hn) hv (hF v y hfu)
  obtain ⟨j,hj,ej⟩:=fq hq
  have hj2:l[j]? =some q:=by rw [bN hj,ej]
  obtain ⟨h3,r,hr,e3,e4,h4⟩:=h.done j y.toNat q (hd j q v y y0 y1 hj2 hfu h2) ah hj2
  have ey:((y.toNat:Nat):Int)=y:=ah
  rw [ey] at h4
  refine ⟨?_,r,hr,?_,?_,(Cb h4 (Vo h2)).1⟩
  ·rw [g_.lN,g_.lN,h1,<-e1,<-e2,h3]
  ·rw [g_.oN,<-e1];exact e3
  rw [g_.oN,<-e2];exact e4
theorem Inv.best (h:Inv a b s t i x l) (hp:l[i]? =some p) (hx:x<a.gZ.toNat) (hd:a.ot p.s.toNat x≠b.ot p.t.toNat x):Best a b s t (p.word++[(x:Int)]):=by
 obtain ⟨g1,g2,g3,g4⟩:=h.good p (bV hp);refine ⟨⟨fun y hy=> ?_,?_⟩,fun u hu hc=> ?_⟩
 ·rw [eG,dZ] at hy;rcases hy with hy|rfl;·exact g1 y hy
  omega
 ·rw [g_.lN,g_.lN,g2,g3,g4];simp only [dK];intro e;exact hd (iq e)
 refine (h.words (F:=fun u=>iM u (p.word++[(x:Int)])<0) (fun u y hy=> ?_) (fun j q u y y0 y1 hq hF hle=> ?_) u.length u rfl hu hc).1;·exact Ck (by rw [uH (a:=u) (b:=u++[y]) aH];decide) hy
 have h5:iM (q.word++[y]) (p.word++[(x:Int)])<0:=Ck (Vo hle) hF;rcases adg h5 with h6|⟨h6,h7⟩
 ·by_cases e:j<i;·exact .inl e
  exfalso;by_cases e2:j=i;·subst e2;rw [hp] at hq;obtain rfl:p=q:=iq hq;rw [pK] at h6;omega
  have h7:=h.sorted i j p q ah hp hq;have:=Ck (by omega:iM q.word p.word<=0) h7;rw [pK] at this;omega
 by_cases e:j<i;·exact .inl e
 by_cases e2:j=i;·exact .inr ⟨e2,ah⟩
 exfalso;have h8:=h.sorted i j p q ah hp hq;rw [h6,pK] at h8;omega
theorem Inv.old (h:Inv a b s t i x l) (hp:l[i]? =some p) (hd:a.ot p.s.toNat x=b.ot p.t.toNat x) (hk:known l (a.nx p.s.toNat x) (b.nx p.t.toNat x)=true):Inv a b s t i (x+1) l:=by
 refine ⟨h.head,h.good,h.sorted,fun q hq=> ?_,fun j y r hj hy hr=> ?_⟩
 ·rcases h.par q hq with e|⟨k,y,r,hk,hr,e⟩;·exact .inl e
  exact .inr ⟨k,y,r,ah,hr,e⟩
 by_cases e:j=i/\y=x;·obtain ⟨rfl,rfl⟩:=e;rw [hp] at hr;obtain rfl:p=r:=iq hr;obtain ⟨q,hq,e1,e2⟩:=BQ.1 hk;exact ⟨hd,q,hq,e1,e2,Int.le_of_lt (h.below hp q hq)⟩
 exact h.done j y r ah hy hr
theorem Inv.new (h:Inv a b s t i x l) (hp:l[i]? =some p) (hx:x<a.gZ.toNat) (hd:a.ot p.s.toNat x=b.ot p.t.toNat x):Inv a b s t i (x+1) (l++[⟨a.nx p.s.toNat x,b.nx p.t.toNat x,p.word++[(x:Int)]⟩]):=by
 obtain ⟨g1,g2,g3,g4⟩:=h.good p (bV hp);have hbl:=h.below hp;have hil:i<l.length:=by
  by_cases e:i<l.length;·exact e
  rw [bZ ah] at hp;simp at hp
 have pq:∀{j:Nat} {r:Pl},l[j]? =some r->(l++[(⟨a.nx p.s.toNat x,b.nx p.t.toNat x,p.word++[(x:Int)]⟩:Pl)])[j]? =some r:=fun {j r} hr=>by
  have hj:j<l.length:=by
   by_cases e:j<l.length
   ·exact e
   rw [bZ ah] at hr;simp at hr
  rw [dz hj];exact hr
 have LQ:∀{j:Nat} {r:Pl},(l++[(⟨a.nx p.s.toNat x,b.nx p.t.toNat x,p.word++[(x:Int)]⟩:Pl)])[j]? =some r->(j<l.length/\l[j]? =some r)\/(j=l.length/\r=⟨a.nx p.s.toNat x,b.nx p.t.toNat x,p.word++[(x:Int)]⟩):=fun {j r} hr=>by
  by_cases hj:j<l.length
  ·rw [dz hj] at hr;exact .inl ⟨hj,hr⟩
  rw [dN ah] at hr
  by_cases e:j=l.length
  ·subst e;simp at hr;exact .inr ⟨rfl,hr.symm⟩
  rw [bZ aJ] at hr;simp at hr
 refine ⟨pq h.head,fun q hq=> ?_,fun j k q r hjk hq hr=> ?_,fun q hq=> ?_,fun j y r hj hy hr=> ?_⟩
 ·rw [eG,dZ] at hq;rcases hq with hq|rfl;·exact h.good q hq
  refine ⟨fun y hy=> ?_,?_,?_,?_⟩
  ·simp only [eG,dZ] at hy;rcases hy with hy|rfl;·exact g1 y hy
   omega
  ·simp only;rw [g_.oN,g2];simp
  ·simp only;rw [g_.oN,g3];simp
  simp only;rw [g_.lN,g_.lN,g2,g3,g4];simp [hd]
 ·rcases LQ hq with ⟨-,hq2⟩|⟨e1, -⟩
  ·rcases LQ hr with ⟨-,hr2⟩|⟨-,rfl⟩;·exact h.sorted j k q r hjk hq2 hr2
   exact hbl q (bV hq2)
  rcases LQ hr with ⟨h2, -⟩|⟨e2, -⟩<;>omega
 ·rw [eG,dZ] at hq;rcases hq with hq|rfl
  ·rcases h.par q hq with e|⟨k,y,r,hk,hr,e⟩;·exact .inl e
   exact .inr ⟨k,y,r,ah,pq hr,e⟩
  exact .inr ⟨i,x,p,ah,pq hp,rfl⟩
 rcases LQ hr with ⟨-,hr2⟩|⟨e1, -⟩
 ·by_cases e:j=i/\y=x;·obtain ⟨rfl,rfl⟩:=e;rw [hp] at hr2;obtain rfl:p=r:=iq hr2;exact ⟨hd,_,by rw [eG];exact .inr (dZ.2 rfl),rfl,rfl,by rw [pK];decide⟩
  obtain ⟨h1,q,hq,e1,e2,h2⟩:=h.done j y r ah hy hr2;exact ⟨h1,q,by rw [eG];exact .inl hq,e1,e2,h2⟩
 omega
theorem Inv.h_ (h:Inv a b s t i a.gZ.toNat l):Inv a b s t (i+1) 0 l:=by
 refine ⟨h.head,h.good,h.sorted,fun q hq=> ?_,fun j y r hj hy hr=>h.done j y r ah hy hr⟩;rcases h.par q hq with e|⟨k,y,r,hk,hr,e⟩;·exact .inl e
 exact .inr ⟨k,y,r,ah,hr,e⟩
theorem Inv.rest (h:Inv a b s t i 0 l) (hl:l[i]? =none):Inv a b s t (i+1) 0 l:=by
 refine ⟨h.head,h.good,h.sorted,fun q hq=> ?_,fun j y r hj hy hr=>h.done j y r ?_ hy hr⟩
 ·rcases h.par q hq with e|⟨k,y,r,hk,hr,e⟩;·exact .inl e
  exact .inr ⟨k,y,r,ah,hr,e⟩
 by_cases e:j=i;·subst e;rw [hl] at hr;simp at hr
 omega
theorem OZ (h:Inv a b s t i 0 l) (hp:l[i]? =some p):∀x,x<=a.gZ.toNat->
    (∀v,(scan a b p l x).2=some v->Best a b s t v)/\((scan a b p l x).2=none->Inv a b s t i x (scan a b p l x).1/\(scan a b p l x).1[i]? =some p)
 |0,_=>⟨fun v hv=>by simp [scan] at hv,fun _=>⟨h,hp⟩⟩
 |x+1,hx=>by
  obtain ⟨h1,h2⟩:=OZ h hp x ah
  unfold scan
  cases e:(scan a b p l x).2 with
  |some w=>exact ⟨fun v hv=>h1 v (by rw [e];exact hv),fun h3=>by simp at h3⟩
  |none=>
   obtain ⟨h3,h4⟩:=h2 e
   simp only
   by_cases hd:a.ot p.s.toNat x=b.ot p.t.toNat x
   ·rw [bO (iq hd)]
    by_cases hk:known (scan a b p l x).1 (a.nx p.s.toNat x) (b.nx p.t.toNat x)=true
    ·rw [bQ hk]
     exact ⟨fun v hv=>by simp at hv,fun _=>⟨h3.old h4 hd hk,h4⟩⟩
    rw [bO hk]
    refine ⟨fun v hv=>by simp at hv,fun _=>⟨h3.new h4 ah hd,?_⟩⟩
    simp only
    rw [dz]
    ·exact h4
    by_cases e:i<(scan a b p l x).1.length
    ·exact e
    rw [bZ ah] at h4;simp at h4
   rw [bQ hd]
   exact ⟨fun v hv=>by simp at hv;subst hv;exact h3.best h4 ah hd,fun h5=>by simp at h5⟩
theorem FQ (a b:g_) (s t:Int):∀i,(∀v,(kY a b s t i).2=some v->Best a b s t v)/\((kY a b s t i).2=none->Inv a b s t i 0 (kY a b s t i).1)
 |0=>⟨fun v hv=>by simp [kY] at hv,fun _=>Inv.init⟩
 |i+1=>by
  obtain ⟨h1,h2⟩:=FQ a b s t i
  unfold kY
  cases e:(kY a b s t i).2 with
  |some w=>exact ⟨fun v hv=>h1 v (by rw [e];exact hv),fun h3=>by simp at h3⟩
  |none=>
   have h3:=h2 e
   simp only
   cases e2:(kY a b s t i).1[i]? with
   |none=>exact ⟨fun v hv=>by simp at hv,fun _=>h3.rest e2⟩
   |some p=>
    obtain ⟨h4,h5⟩:=OZ h3 e2 a.gZ.toNat (bM _)
    exact ⟨h4,fun h6=>(h5 h6).1.h_⟩
theorem sI {v:List Int} (h:lS a b s t=some v):Best a b s t v:=(FQ a b s t _).1 v h
theorem WX (oa:a.Ok) (ob:b.Ok) (hi:a.gZ=b.gZ) (hs:0<=s/\s<a.h_.length) (ht:0<=t/\t<b.h_.length) (h:lS a b s t=none):g_.Es a b s t:=by
 have hg:=(mM.kY oa ob hi hs ht (a.h_.length*b.h_.length)).le;have hI:=(FQ a b s t (a.h_.length*b.h_.length)).2 h;intro u hu;refine (hI.words (F:=fun _=>True) (fun _ _ _=>trivial) (fun j q u y y0 y1 hq _ _=> .inl ?_) u.length u rfl hu trivial).1;by_cases e:j<(kY a b s t (a.h_.length*b.h_.length)).1.length;·omega
 rw [bZ ah] at hq;simp at hq
theorem yE (oa:a.Ok) (ob:b.Ok) (hi:a.gZ=b.gZ) (hs:0<=s/\s<a.h_.length) (ht:0<=t/\t<b.h_.length):lS a b s t=none↔g_.Es a b s t:=by
 refine ⟨WX oa ob hi hs ht,fun h=> ?_⟩;cases e:lS a b s t with
 |none=>rfl
 |some v=>exact absurd (h v (sI e).1.1) (sI e).1.2
theorem Best.unique {v w:List Int} (hi:a.gZ=b.gZ) (h:Best a b s t v) (h2:Best b a t s w):v=w:=by
 have h3:¬iM v w<0:=fun e=>h.1.2 (h2.2 v (g_.AU hi.symm h.1.1) e).symm;have h4:¬iM w v<0:=fun e=>h2.1.2 (h.2 w (g_.AU hi h2.1.1) e).symm;rw [Fz] at h4;exact uG ah
theorem SA (oa:a.Ok) (ob:b.Ok) (hi:a.gZ=b.gZ) (hs:0<=s/\s<a.h_.length) (ht:0<=t/\t<b.h_.length):lS b a t s=lS a b s t:=by
 cases e:lS a b s t with
 |none=>exact (yE ob oa hi.symm ht hs).2 (g_.Es.symm hi ((yE oa ob hi hs ht).1 e))
 |some v=>
  cases e2:lS b a t s with
  |none=>have:=(yE oa ob hi hs ht).2 (g_.Es.symm hi.symm ((yE ob oa hi.symm ht hs).1 e2));rw [e] at this;cases this
  |some w=>rw [(sI e).unique hi (sI e2)]
end
