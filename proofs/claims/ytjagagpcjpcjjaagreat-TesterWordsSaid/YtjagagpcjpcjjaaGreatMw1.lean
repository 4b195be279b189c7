/- Lemmas, each with its own conditions. -/
import Derived.Test.YtjagagpcjpcjjaaGreatMw00
set_option maxRecDepth 100000
set_option maxHeartbeats 32000000
namespace Go.Proofs.YtjagagpcjpcjjaaGreat
structure g_ where
 gZ:Int
 start:Int
 h_:List (List Int)
 out:List (List Int)
 deriving DecidableEq
namespace g_
variable (m:g_)
def nx (s a:Nat):Int:=((m.h_.getD s []).getD a 0)
def ot (s a:Nat):Int:=((m.out.getD s []).getD a 0)
def ug (s a:Nat):Prop:=m.nx s a<0\/(m.h_.length:Int)<=m.nx s a\/m.ot s a<0\/1048576<m.ot s a
instance (s a:Nat):Decidable (m.ug s a):=by unfold ug;exact inferInstance
def u_ (s:Nat):Prop:=((m.h_.getD s []).length:Int)=m.gZ/\((m.out.getD s []).length:Int)=m.gZ
instance (s:Nat):Decidable (m.u_ s):=by unfold u_;exact inferInstance
def nI (s:Nat):Int:=if ¬m.u_ s then 1 else if ∃a,a<m.gZ.toNat/\m.ug s a then 2 else 0
def lM:Nat->Int
 |0=>0
 |k+1=>if lM k=0 then m.nI k else lM k
def err:Int:=
 if m.gZ<1\/64<m.gZ then 2
 else if m.h_.length=0 then 19
 else if 128<m.h_.length then 11
 else if m.start<0\/(m.h_.length:Int)<=m.start then 2
 else if m.out.length≠m.h_.length then 1
 else m.lM m.h_.length
theorem pE (k:Nat):m.lM (k+1)=if m.lM k=0 then m.nI k else m.lM k:=rfl
theorem rC {k n:Nat} (hk:k<=n) (h:m.lM k≠0):m.lM n=m.lM k:=by
 induction n with
 |zero=>obtain rfl:k=0:=ah;rfl
 |succ n ih=>
  by_cases e:k=n+1;·rw [e]
  have:=ih ah;rw [pE,this,bO h]
theorem KT {k n:Nat} (hk:k<n) (h:m.lM n=0):m.nI k=0:=by
 induction n with
 |zero=>omega
 |succ n ih=>
  rw [pE] at h;by_cases e:m.lM n=0
  ·rw [bQ e] at h;by_cases e2:k=n;·rw [e2];exact h
   exact ih ah e
  rw [bO e] at h;exact absurd h e
structure Ok:Prop where
 i0:1<=m.gZ
 i1:m.gZ<=64
 n0:0<m.h_.length
 n1:m.h_.length<=128
 s0:0<=m.start
 s1:m.start<m.h_.length
 lo:m.out.length=m.h_.length
 rn:∀s,s<m.h_.length->((m.h_.getD s []).length:Int)=m.gZ
 ro:∀s,s<m.h_.length->((m.out.getD s []).length:Int)=m.gZ
 nx:∀s a,s<m.h_.length->a<m.gZ.toNat->0<=m.nx s a/\m.nx s a<m.h_.length
 ot:∀s a,s<m.h_.length->a<m.gZ.toNat->0<=m.ot s a/\m.ot s a<=1048576
theorem iG (h:m.err=0):m.Ok:=by
 unfold err at h;split at h;·simp at h
 rename_i h1;split at h;·simp at h
 rename_i h2;split at h;·simp at h
 rename_i h3;split at h;·simp at h
 rename_i h4;split at h;·simp at h
 rename_i h5;have hr:∀s,s<m.h_.length->m.u_ s/\¬∃a,a<m.gZ.toNat/\m.ug s a:=by
  intro s hs;have:=m.KT hs h;unfold nI at this;split at this;·simp at this
  rename_i h6;split at this;·simp at this
  rename_i h7;exact ⟨iq h6,h7⟩
 refine ⟨ah,ah,ah,ah,ah,ah,ah,fun s hs=>(hr s hs).1.1,fun s hs=>(hr s hs).1.2,fun s a hs ha=> ?_,fun s a hs ha=> ?_⟩
 all_goals
  have hb:¬m.ug s a:=fun hb=>(hr s hs).2 ⟨a,ha,hb⟩
  unfold ug at hb
  omega
theorem oM (h:m.Ok):m.err=0:=by
 unfold err;rw [bO (by have:=h.i0;have:=h.i1;omega),bO (ig h.n0),bO (ig h.n1),bO (by have:=h.s0;have:=h.s1;omega),bO (ig h.lo)];have:∀k,k<=m.h_.length->m.lM k=0:=by
  intro k;induction k with
  |zero=>intro _;rfl
  |succ k ih=>
   intro hk;have h0:m.nI k=0:=by unfold nI;rw [bO (by simp only [Decidable.not_not];exact ⟨h.rn k ah,h.ro k ah⟩),bO];rintro ⟨a,ha,hb⟩;have h1:=h.nx k a ah ha;have h2:=h.ot k a ah ha;unfold ug at hb;omega
   rw [pE,ih ah,bQ rfl,h0]
 exact this _ (bM _)
theorem EI:(m.gZ<1/\m.err=2)\/ (1<=m.gZ/\64<m.gZ/\m.err=2)\/ (1<=m.gZ/\m.gZ<=64/\((m.h_.length:Int)==0)=true/\m.err=19)\/ (1<=m.gZ/\m.gZ<=64/\((m.h_.length:Int)==0)=false/\128<m.h_.length/\m.err=11)\/ (1<=m.gZ/\m.gZ<=64/\((m.h_.length:Int)==0)=false/\m.h_.length<=128/\m.start<0/\m.err=2)\/ (1<=m.gZ/\m.gZ<=64/\((m.h_.length:Int)==0)=false/\m.h_.length<=128/\0<=m.start/\m.h_.length<=m.start/\m.err=2)\/ (1<=m.gZ/\m.gZ<=64/\((m.h_.length:Int)==0)=false/\m.h_.length<=128/\0<=m.start/\m.start<m.h_.length/\((m.out.length:Int) !=(m.h_.length:Int))=true/\m.err=1)\/ (1<=m.gZ/\m.gZ<=64/\((m.h_.length:Int)==0)=false/\m.h_.length<=128/\0<=m.start/\m.start<m.h_.length/\((m.out.length:Int) !=(m.h_.length:Int))=false/\m.out.length=m.h_.length/\m.err=m.lM m.h_.length):=by
 by_cases h1:m.gZ<1;·exact .inl ⟨h1,by unfold err;rw [bQ ah]⟩
 refine .inr ?_;by_cases h2:64<m.gZ;·exact .inl ⟨ah,h2,by unfold err;rw [bQ ah]⟩
 refine .inr ?_;by_cases h3:m.h_.length=0;·exact .inl ⟨ah,ah,by simp [h3],by unfold err;rw [bO ah,bQ h3]⟩
 refine .inr ?_;have h3':((m.h_.length:Int)==0)=false:=beq_eq_false_iff_ne.2 ah;by_cases h4:128<m.h_.length;·exact .inl ⟨ah,ah,h3',h4,by unfold err;rw [bO ah,bO h3,bQ h4]⟩
 refine .inr ?_;by_cases h5:m.start<0;·exact .inl ⟨ah,ah,h3',ah,h5,by unfold err;rw [bO ah,bO h3,bO h4,bQ ah]⟩
 refine .inr ?_;by_cases h6:(m.h_.length:Int)<=m.start;·exact .inl ⟨ah,ah,h3',ah,ah,h6,by unfold err;rw [bO ah,bO h3,bO h4,bQ ah]⟩
 refine .inr ?_;by_cases h7:m.out.length=m.h_.length;·exact .inr ⟨ah,ah,h3',ah,ah,ah,by simp [h7],h7,by unfold err;rw [bO ah,bO h3,bO h4,bO ah,bO ah]⟩
 exact .inl ⟨ah,ah,h3',ah,ah,ah,aJ,by unfold err;rw [bO ah,bO h3,bO h4,bO ah,bQ h7]⟩
end g_
theorem iw {α:Type} {l:List α} {j:Nat} {x d:α} (h:l[j]? =some x):l.getD j d=x:=by simp [List.getD,h]
namespace g_
variable (m:g_)
def iY:Int->List Int->List Int
 |_,[]=>[]
 |s,x::w=>m.ot s.toNat x.toNat::iY (m.nx s.toNat x.toNat) w
def lD:Int->List Int->Int
 |s,[]=>s
 |s,x::w=>lD (m.nx s.toNat x.toNat) w
theorem uh:∀(w:List Int) (s:Int),(m.iY s w).length=w.length
 |[],_=>rfl
 |x::w,s=>by simp [iY,uh w]
theorem Ni:∀(w v:List Int) (s:Int),m.lD s (w++v)=m.lD (m.lD s w) v
 |[],_,_=>rfl
 |x::w,v,s=>by simp [lD,Ni w]
theorem JA:∀(w v:List Int) (s:Int),m.iY s (w++v)=m.iY s w++m.iY (m.lD s w) v
 |[],_,_=>rfl
 |x::w,v,s=>by simp [iY,lD,JA w]
theorem oN (w:List Int) (x s:Int):m.lD s (w++[x])=m.nx (m.lD s w).toNat x.toNat:=by rw [Ni];rfl
theorem lN (w:List Int) (x s:Int):m.iY s (w++[x])=m.iY s w++[m.ot (m.lD s w).toNat x.toNat]:=by rw [JA];rfl
def nQ (w:List Int):Prop:=∀x∈w,0<=x/\x<m.gZ
variable {m}
theorem uj {x:Int} {w:List Int} (h:m.nQ (x::w)):(0<=x/\x<m.gZ)/\m.nQ w:=⟨h x aH,fun y hy=>h y (by simp [hy])⟩
theorem acG {v w:List Int} (h:m.nQ (v++w)):m.nQ v/\m.nQ w:=⟨fun y hy=>h y (by simp [hy]),fun y hy=>h y (by simp [hy])⟩
theorem Nj {w:List Int} (h:m.nQ w) (k:Nat):m.nQ (w.take k):=fun y hy=>h y (aqe hy)
theorem rX (ok:m.Ok):∀(w:List Int) (s:Int),0<=s->s<m.h_.length->m.nQ w->0<=m.lD s w/\m.lD s w<m.h_.length
 |[],s,h0,h1,_=>⟨h0,h1⟩
 |x::w,s,h0,h1,h=>by
  obtain ⟨⟨x0,x1⟩,hw⟩:=uj h
  have:=ok.nx s.toNat x.toNat ah ah
  exact rX ok w _ this.1 this.2 hw
theorem rR {w:List Int} {k:Nat} {x:Int} (h:w[k]? =some x):w.take (k+1)=w.take k++[x]:=by rw [dh,h];rfl
end g_
def visit:List Int->List Int->List Int
 |l,[]=>l
 |l,t::r=>visit (if t∈l then l else l++[t]) r
theorem KU (l:List Int):∀(r r':List Int),visit l (r++r')=visit (visit l r) r':=by
 intro r;induction r generalizing l with
 |nil=>intro _;rfl
 |cons t r ih=>intro r';exact ih _ r'
theorem zx (l:List Int) (r:List Int) (t:Int):visit l (r++[t])=if t∈visit l r then visit l r else visit l r++[t]:=by
 rw [KU];rfl
theorem vg:∀(r l:List Int),∃s,visit l r=l++s
 |[],l=>⟨[],by simp [visit]⟩
 |t::r,l=>by
  obtain ⟨s,hs⟩:=vg r (if t∈l then l else l++[t])
  simp only [visit,hs]
  by_cases h:t∈l
  ·exact ⟨s,by rw [bQ h]⟩
  exact ⟨[t]++s,by rw [bO h,eH]⟩
theorem um:∀(r l:List Int) (x:Int),x∈visit l r↔x∈l\/x∈r
 |[],l,x=>by simp [visit]
 |t::r,l,x=>by
  rw [visit,um r]
  by_cases h:t∈l
  ·rw [bQ h]
   constructor
   ·rintro (h1|h1)
    ·exact .inl h1
    exact .inr (by simp [h1])
   rintro (h1|h1)
   ·exact .inl h1
   rcases gH.1 h1 with rfl|h2
   ·exact .inl h
   exact .inr h2
  rw [bO h]
  simp only [eG,gH,List.not_mem_nil,or_false]
  constructor
  ·rintro ((h1|h1)|h1)
   ·exact .inl h1
   ·exact .inr (.inl h1)
   exact .inr (.inr h1)
  rintro (h1|h1|h1)
  ·exact .inl (.inl h1)
  ·exact .inl (.inr h1)
  exact .inr h1
theorem qC:∀(r l:List Int),l.Nodup->(visit l r).Nodup
 |[],l,h=>h
 |t::r,l,h=>by
  rw [visit]
  apply qC r
  by_cases e:t∈l
  ·rw [bQ e];exact h
  rw [bO e]
  rw [arI]
  exact ⟨h,aH,fun a ha b hb=>by simp at hb;subst hb;exact fun e2=>e (e2▸ha)⟩
theorem qD:∀(n:Nat) (l:List Int),l.Nodup->(∀x∈l,0<=x/\x<n)->l.length<=n
 |0,l,_,h=>by
  cases l with
  |nil=>simp
  |cons x l=>have:=h x aH;omega
 |n+1,l,hd,h=>by
  have h1:=qD n (l.filter fun x=>decide (x≠(n:Int))) (hd.filter _) (fun x hx=>by
   have h2:=aq8.1 hx
   have h3:=h x h2.1
   have h4:x≠n:=iq h2.2
   omega)
  have h2:l.length<=(l.filter fun x=>decide (x≠(n:Int))).length+1:=by
   clear h1 h
   induction l with
   |nil=>simp
   |cons y l ih=>
    have hd':=List.nodup_cons.1 hd
    by_cases e:y=n
    ·have:l.filter (fun x=>decide (x≠(n:Int)))=l:=by
       rw [asi]
       intro a ha
       have:a≠y:=fun e2=>hd'.1 (e2▸ha)
       simpa [<-e] using this
     simp [e]
     have h5:l.filter (fun x=> !decide (x=(n:Int)))=l:=by
      rw [asi]
      intro a ha
      have:a≠y:=fun e2=>hd'.1 (e2▸ha)
      simpa [<-e] using this
     rw [h5];omega
    have:=ih hd'.2
    simp [e] at this ⊢
    omega
  omega
namespace g_
variable (m:g_)
def lq:Nat->List Int
 |0=>[m.start]
 |i+1=>if i<(lq i).length then visit (lq i) (m.h_.getD ((lq i).getD i 0).toNat []) else lq i
theorem uo (i:Nat):m.lq (i+1)=if i<(m.lq i).length then visit (m.lq i) (m.h_.getD ((m.lq i).getD i 0).toNat []) else m.lq i:=rfl
def reach:List Int:=m.lq m.h_.length
def yg:List Int:=if m.err=0 then m.reach else []
variable {m}
theorem kN (ok:m.Ok) {s:Nat} (hs:s<m.h_.length) {x:Int} (hx:x∈m.h_.getD s []):0<=x/\x<m.h_.length:=by
 obtain ⟨a,ha,rfl⟩:=fq hx;have h1:=ok.rn s hs;have h2:=ok.nx s a hs ah;unfold nx at h2;rw [bS (l:=m.h_.getD s []),bN ha] at h2;exact h2
theorem mD (ok:m.Ok):∀i,(m.lq i).Nodup/\(∀x∈m.lq i,0<=x/\x<m.h_.length)/\0<(m.lq i).length
 |0=>⟨by simp [lq],fun x hx=>by simp [lq] at hx;subst hx;exact ⟨ok.s0,ok.s1⟩,by simp [lq]⟩
 |i+1=>by
  obtain ⟨h1,h2,h3⟩:=mD ok i
  rw [uo]
  by_cases h:i<(m.lq i).length
  ·rw [bQ h]
   have hm:(m.lq i).getD i 0∈m.lq i:=by
    rw [bS,bN h]
    exact dQ h
   have h4:=h2 _ hm
   refine ⟨qC _ _ h1,fun x hx=> ?_,?_⟩
   ·rcases (um _ _ _).1 hx with h5|h5
    ·exact h2 x h5
    exact kN ok ah h5
   obtain ⟨s,hs⟩:=vg (m.h_.getD ((m.lq i).getD i 0).toNat []) (m.lq i)
   rw [hs]
   simp;omega
  rw [bO h];exact ⟨h1,h2,h3⟩
theorem og (ok:m.Ok) (i:Nat):(m.lq i).length<=m.h_.length:=qD _ _ (mD ok i).1 (mD ok i).2.1
theorem YT {i:Nat} (h:¬i<(m.lq i).length):∀j,i<=j->m.lq j=m.lq i:=by
 intro j hj;induction j with
 |zero=>obtain rfl:i=0:=ah;rfl
 |succ j ih=>
  by_cases e:i=j+1;·rw [e]
  have:=ih ah;rw [uo,this,bO ah]
theorem IW {i:Nat} (h:¬i<(m.lq i).length) (hi:i<=m.h_.length):m.reach=m.lq i:=YT h _ hi
end g_
abbrev jQ:Nat:=18446744073709551616
def sW (y:Nat):Nat:=((((y ^^^ y/1073741824)*13787848793156543929%jQ) ^^^ ((y ^^^ y/1073741824)*13787848793156543929%jQ)/134217728)*10723151780598845931%jQ) ^^^
 (((((y ^^^ y/1073741824)*13787848793156543929%jQ) ^^^ ((y ^^^ y/1073741824)*13787848793156543929%jQ)/134217728)*10723151780598845931%jQ)/2147483648)
def pX (s:Nat):Nat:=(s+11400714819323198485)%jQ
def zy (s i:Nat):Nat:=(s+i*11400714819323198485)%jQ
theorem YU {s:Nat} (h:s<jQ):zy s 0=s:=by unfold zy;rw [Nat.zero_mul,aqr];exact Nat.mod_eq_of_lt h
theorem rY (s i:Nat):pX (zy s i)=zy s (i+1):=by
 unfold pX zy;rw [Nat.mod_add_mod,aqf,ap9]
theorem YV (s i:Nat):zy s i<jQ:=gG _ (by decide)
theorem xor_zero {x y:Nat} (h:x ^^^ y=0):x=y:=Nat.eq_of_testBit_eq fun i=>by
 have h1:(x ^^^ y).testBit i=false:=by rw [h];exact Nat.zero_testBit i
 rw [Nat.testBit_xor] at h1
 simpa using h1
theorem KV {k x y:Nat} (hk:1<2 ^ k) (h:x ^^^ x/2 ^ k=y ^^^ y/2 ^ k):x=y:=by
 have h1:(x ^^^ y)=(x ^^^ y)/2 ^ k:=by
  rw [<-aq7,Nat.shiftRight_xor_distrib,aq7,aq7];have h2:(x ^^^ x/2 ^ k) ^^^ (y ^^^ y/2 ^ k)=0:=by rw [h,Nat.xor_self]
  have h3:(x ^^^ y) ^^^ (x/2 ^ k ^^^ y/2 ^ k)=0:=by
   rw [<-h2,arH,arH];congr 1
   rw [<-arH,<-arH,Nat.xor_comm y]
  exact xor_zero h3
 by_cases e:x ^^^ y=0;·exact xor_zero e
 have:=Nat.div_lt_self (Nat.pos_of_ne_zero e) hk;omega
theorem KW {c d x y:Nat} (hcd:c*d%jQ=1) (hx:x<jQ) (hy:y<jQ) (h:x*c%jQ=y*c%jQ):x=y:=by
 have e:∀z,z<jQ->z*c%jQ*d%jQ=z:=fun z hz=>by
  rw [Nat.mod_mul_mod,arj,Nat.mul_mod,hcd,gy,Nat.mod_mod]
  exact Nat.mod_eq_of_lt hz
 rw [<-e x hx,<-e y hy,h]
theorem EJ {x k:Nat} (h:x<jQ):x ^^^ x/k<jQ:=Nat.xor_lt_two_pow (n:=64) h (eO (Nat.div_le_self _ _) h)
theorem UE (y:Nat):sW y<jQ:=EJ (gG _ (by decide))
theorem YW {x y:Nat} (hx:x<jQ) (hy:y<jQ) (h:sW x=sW y):x=y:=by
 unfold sW at h;have h1:=KV (k:=31) (by decide) h;have h2:=KW (d:=3573116690164977347) (by decide) (EJ (gG _ (by decide))) (EJ (gG _ (by decide))) h1;have h3:=KV (k:=27) (by decide) h2;have h4:=KW (d:=10871156337175269513) (by decide) (EJ hx) (EJ hy) h3;exact KV (k:=30) (by decide) h4
theorem RA {s x y:Nat} (h:(s+x)%18446744073709551616=(s+y)%18446744073709551616):x%18446744073709551616=y%18446744073709551616:=ah
theorem UF {s i j:Nat} (hi:i<jQ) (hj:j<jQ) (h:zy s i=zy s j):i=j:=by
 unfold zy at h;have h1:i*11400714819323198485%jQ=j*11400714819323198485%jQ:=RA h;exact KW (d:=17428512612931826493) (by decide) hi hj h1
def nJ (s i:Nat):Nat:=sW (zy s (i+1))
def rej (k x:Nat):Bool:=decide (jQ%k≠0/\jQ-jQ%k<=x)
theorem UG {s k i:Nat} (hk:0<k) (hk2:k<1000000) (h:∀j,j<i->rej k (nJ s j)=true):i<=jQ%k:=by
 have hr:jQ%k<k:=gG _ hk;refine fG fun hn=> ?_;have h1:=qD (jQ%k) ((List.range (jQ%k+1)).map fun j=>((nJ s j:Nat):Int)-((jQ-jQ%k:Nat):Int)) ?_ ?_;·rw [dJ,List.length_range] at h1;omega
 ·refine List.Pairwise.map _ (fun a b hab=>hab) (arP (R:=fun a b=>a≠b) (fun {a b} ha hb hne=> ?_) List.nodup_range);have ha:=aqE.1 ha;have hb:=aqE.1 hb;intro e;have e2:nJ s a=nJ s b:=ah;have e3:=UF (s:=s) (by unfold jQ;omega) (by unfold jQ;omega) (YW (YV _ _) (YV _ _) e2);exact hne ah
 intro x hx;obtain ⟨j,hj,rfl⟩:=aqJ.1 hx;have hj:=aqE.1 hj;have h2:=fT (h j ah);have h3:=UE (zy s (j+1));have h4:nJ s j<jQ:=h3;omega
def Ah (k:Nat):Nat->Nat->Nat×Nat
 |0,s=>(0,s)
 |f+1,s=>if rej k (sW (pX s))=true then Ah k f (pX s) else (sW (pX s)%k,pX s)
def oO (s k:Nat):Nat×Nat:=Ah k 1000000 s
theorem YX {s k:Nat}:∀(i f:Nat),i<f->(∀j,j<i->rej k (nJ s j)=true)->rej k (nJ s i)=false->∀q,q<=i->Ah k (f-q) (zy s q)=(nJ s i%k,zy s (i+1)):=by
 intro i f hf ha hb q hq;obtain ⟨d,hd⟩:∃d,d=i-q:=⟨_,rfl⟩;induction d generalizing q with
 |zero=>
  obtain rfl:q=i:=ah;obtain ⟨g,hg⟩:∃g,f-q=g+1:=⟨f-q-1,ah⟩;rw [hg];unfold Ah;have hb':rej k (sW (pX (zy s q)))=false:=by rw [rY];exact hb
  rw [hb',bO aH,rY];rfl
 |succ d ih=>
  obtain ⟨g,hg⟩:∃g,f-q=g+1:=⟨f-q-1,ah⟩;rw [hg];unfold Ah;have hb':rej k (sW (pX (zy s q)))=true:=by rw [rY];exact ha q ah
  rw [hb',bQ rfl,rY,show g=f-(q+1) by omega];exact ih (q+1) ah ah
theorem Ai {s k i:Nat} (hs:s<jQ) (hk:0<k) (hk2:k<1000000) (ha:∀j,j<i->rej k (nJ s j)=true) (hb:rej k (nJ s i)=false):oO s k=(nJ s i%k,zy s (i+1)):=by
 have h1:=UG hk hk2 ha;have h2:jQ%k<k:=gG _ hk;have h3:=YX (k:=k) (s:=s) i 1000000 ah ha hb 0 ah;rw [YU hs,Nat.sub_zero] at h3;unfold oO;rw [h3]
def RB (k:Nat):Nat->Nat->List Int->List Int×Nat
 |0,s,w=>(w,s)
 |n+1,s,w=>RB k n (oO s k).2 (w++[((oO s k).1:Int)])
def RD (s k n:Nat):List Int×Nat:=RB k n s []
def DT (k l:Nat):Nat->Nat->List (List Int)->List (List Int)
 |0,_,L=>L
 |n+1,s,L=>DT k l n (RD s k l).2 (L++[(RD s k l).1])
def numOf (l:List Int) (x:Int):Int:=if x∈l then (l.idxOf x:Nat) else 0
theorem DU {l:List Int} {x:Int} (h:x∉l):numOf (l++[x]) x=l.length:=by
 unfold numOf;rw [bQ aH,aqv];simp [h]
theorem BN {l:List Int} {x y:Int} (hne:y≠x):numOf (l++[x]) y=numOf l y:=by
 unfold numOf;by_cases h:y∈l;·rw [bQ (by simp [h]),bQ h,aqv,bQ h]
 rw [bO (by simp [h,hne]),bO h]
namespace g_
variable (m:g_)
def ng (s:Int):List Int:=(m.h_.getD s.toNat []).map (numOf m.reach)
def trim:g_:={gZ:=m.gZ,start:=0,h_:=m.reach.map m.ng,out:=m.reach.map fun s=>m.out.getD s.toNat []}
def nothing:g_:={gZ:=0,start:=0,h_:=[],out:=[]}
def BO:g_:=if m.err=0 then m.trim else nothing
end g_
structure KX (n:Nat) (l:List Int) (num:List Int):Prop where
 len:num.length=n
 val:∀t,t<n->num[t]? =some (numOf l t)
theorem KX.init {n:Nat} {num:List Int} (h:num=List.replicate n 0):KX n [] num:=by
 subst h;exact ⟨aH,fun t ht=>by rw [ap3,bQ ht];simp [numOf]⟩
theorem KX.push {n:Nat} {l num:List Int} (h:KX n l num) {x:Nat} (hx:x<n) (hn:((x:Nat):Int)∉l):KX n (l++[(x:Int)]) (num.set x l.length):=by
 refine ⟨by rw [fB];exact h.len,fun t ht=> ?_⟩;by_cases e:t=x;·subst e;rw [fI (by rw [h.len];exact hx),DU hn]
 rw [dY ah,h.val t ht,BN ah]
theorem Nk {l:List Int} (x:Int) (hl:0<l.length):0<=numOf l x/\numOf l x<l.length:=by
 unfold numOf;by_cases h:x∈l;·rw [bQ h];have:=ap5 h;omega
 rw [bO h];omega
namespace g_
variable {m:g_}
theorem ko (ok:m.Ok):m.reach.Nodup/\(∀x∈m.reach,0<=x/\x<m.h_.length)/\0<m.reach.length:=mD ok _
theorem qE (ok:m.Ok):m.reach.length<=m.h_.length:=og ok _
theorem getD_map {α β:Type} (f:α->β) (l:List α) (d:β) {s:Nat} (hs:s<l.length):(l.map f).getD s d=f (l[s]):=by
 rw [bS,dP,bN hs];rfl
theorem KY (ok:m.Ok):m.trim.Ok:=by
 obtain ⟨-,hr,hp⟩:=ko ok;have hle:=qE ok;have hl:m.trim.h_.length=m.reach.length:=by simp [trim]
 have hlo:m.trim.out.length=m.reach.length:=by simp [trim]
 have hn:∀s (hs:s<m.reach.length),m.trim.h_.getD s []=m.ng (m.reach[s]):=fun s hs=>getD_map _ _ _ hs;have ho:∀s (hs:s<m.reach.length),m.trim.out.getD s []=m.out.getD (m.reach[s]).toNat []:=fun s hs=>getD_map (fun s:Int=>m.out.getD s.toNat []) _ _ hs;have ht:∀s (hs:s<m.reach.length),(m.reach[s]).toNat<m.h_.length:=fun s hs=>by have:=hr _ (dQ hs);omega
 have iX:∀s (hs:s<m.reach.length),(m.ng (m.reach[s])).length=m.gZ.toNat:=fun s hs=>by
  have:=ok.rn _ (ht s hs)
  unfold ng;rw [dJ];omega
 have hn1:=ok.n1;refine ⟨ok.i0,ok.i1,ah,ah,by simp [trim],by rw [hl];simp only [trim];omega,ah,fun s hs=> ?_,fun s hs=> ?_,fun s a hs ha=> ?_,fun s a hs ha=> ?_⟩;·rw [hl] at hs;rw [hn s hs,iX s hs];have:=ok.i0;show ((m.gZ.toNat:Nat):Int)=m.gZ;omega
 ·rw [hl] at hs;rw [ho s hs];exact ok.ro _ (ht s hs)
 ·rw [hl] at hs;have ha':a<m.gZ.toNat:=ha;unfold nx;rw [hn s hs,bS,bN (by rw [iX s hs];exact ha')];simp only [gV];unfold ng;rw [arQ,hl];exact Nk _ hp
 rw [hl] at hs;unfold ot;rw [ho s hs];exact ok.ot _ a (ht s hs) ha
theorem RF (h:m.err=0):m.BO.err=0:=by
 unfold BO;rw [bQ h];exact oM _ (KY (iG _ h))
end g_
theorem pF {α β:Type} (f:α->β) (l:List α) {k:Nat} {x:α} (h:l[k]? =some x):(l.take (k+1)).map f=(l.take k).map f++[f x]:=by
 rw [dh,h];simp
theorem RG {l:List Int} (hd:l.Nodup) {k:Nat} {x:Int} (h:l[k]? =some x):x∉l.take k:=by
 intro hm;obtain ⟨j,hj,he⟩:=fq hm;rw [List.getElem_take] at he;have hk:k<l.length:=by
  by_cases e:k<l.length;·exact e
  rw [bZ ah] at h;simp at h
 have h2:l[k]=x:=by rw [bN hk] at h;simpa using h
 have hj2:j<k:=by rw [dx] at hj;omega
 have:=List.nodup_iff_pairwise_ne.1 hd;exact (arO.1 this j k ah hk hj2) (by rw [he,h2])
def look (E:Nat->Nat->Bool) (l:List Int) (s:Nat):Nat->Int
 |0=> -1
 |d+1=>if E (s-(d+1)) s then l.getD (s-(d+1)) 0 else look E l s d
def canon (E:Nat->Nat->Bool):Nat->List Int×Int
 |0=>([],0)
 |k+1=>let p:=canon E k
  if look E p.1 k k<0 then (p.1++[p.2],p.2+1) else (p.1++[look E p.1 k k],p.2)
theorem jy (E:Nat->Nat->Bool):∀k,(canon E k).1.length=k
 |0=>rfl
 |k+1=>by simp only [canon];split<;>simp [jy E k]
theorem yh (E:Nat->Nat->Bool) {k:Nat} (h:look E (canon E k).1 k k<0):canon E (k+1)=((canon E k).1++[(canon E k).2],(canon E k).2+1):=by
 simp only [canon,h,aqj]
theorem yj (E:Nat->Nat->Bool) {k:Nat} (h:¬look E (canon E k).1 k k<0):canon E (k+1)=((canon E k).1++[look E (canon E k).1 k k],(canon E k).2):=by
 simp only [canon,h,aqP]
theorem rT (E:Nat->Nat->Bool) (l:List Int) (s:Nat):∀d,d<=s->(look E l s d= -1/\∀t,s-d<=t->t<s->E t s=false)\/∃t,s-d<=t/\t<s/\E t s=true/\look E l s d=l.getD t 0/\∀t',s-d<=t'->t'<t->E t' s=false
 |0,_=> .inl ⟨rfl,fun t h1 h2=>by omega⟩
 |d+1,hd=>by
  by_cases e:E (s-(d+1)) s=true
  ·refine .inr ⟨s-(d+1),bM _,ah,e,by simp only [look,e,aqj],fun t' h1 h2=>by omega⟩
  have e':E (s-(d+1)) s=false:=iq e
  have hl:look E l s (d+1)=look E l s d:=by simp only [look,e',Bool.false_eq_true,aqP]
  rcases rT E l s d ah with ⟨h1,h2⟩|⟨t,h1,h2,h3,h4,h5⟩
  ·refine .inl ⟨by rw [hl,h1],fun t ht1 ht2=> ?_⟩
   by_cases e2:t=s-(d+1)
   ·rw [e2];exact e'
   exact h2 t ah ht2
  refine .inr ⟨t,ah,h2,h3,by rw [hl,h4],fun t' ht1 ht2=> ?_⟩
  by_cases e2:t'=s-(d+1)
  ·rw [e2];exact e'
  exact h5 t' ah ht2
theorem qd (E:Nat->Nat->Bool) (k:Nat):canon E (k+1)=if look E (canon E k).1 k k<0 then ((canon E k).1++[(canon E k).2],(canon E k).2+1) else ((canon E k).1++[look E (canon E k).1 k k],(canon E k).2):=rfl
theorem kr (E:Nat->Nat->Bool):∀k,0<=(canon E k).2/\(canon E k).2<=k/\∀t,t<k->0<=(canon E k).1.getD t 0/\(canon E k).1.getD t 0<(canon E k).2
 |0=>⟨arh _,arh _,fun t h=>by omega⟩
 |k+1=>by
  obtain ⟨h0,h1,h2⟩:=kr E k
  have iX:=jy E k
  by_cases hl:look E (canon E k).1 k k<0
  ·rw [yh E hl]
   refine ⟨by simp only;omega,by simp only;omega,fun t ht=> ?_⟩
   simp only
   by_cases e:t=k
   ·subst e
    have:((canon E t).1++[(canon E t).2]).getD t 0=(canon E t).2:=by
     rw [bS,dN ah,iX];simp
    rw [this];omega
   have:((canon E k).1++[(canon E k).2]).getD t 0=(canon E k).1.getD t 0:=by
    rw [bS,dz ah,<-bS]
   rw [this]
   have:=h2 t ah
   omega
  rw [yj E hl]
  refine ⟨h0,by simp only;omega,fun t ht=> ?_⟩
  simp only
  by_cases e:t=k
  ·subst e
   have:((canon E t).1++[look E (canon E t).1 t t]).getD t 0=look E (canon E t).1 t t:=by
    rw [bS,dN ah,iX];simp
   rw [this]
   rcases rT E (canon E t).1 t t (bM _) with ⟨h3,_⟩|⟨t',_,h4,_,h5,_⟩
   ·omega
   rw [h5];exact h2 t' h4
  have:((canon E k).1++[look E (canon E k).1 k k]).getD t 0=(canon E k).1.getD t 0:=by
   rw [bS,dz ah,<-bS]
  rw [this]
  exact h2 t ah
namespace g_
variable (m:g_)
def qg (cls:List Int) (t s:Nat) (k:Nat):Prop:=cls.getD s 0=cls.getD t 0/\∀a,a<k->m.ot s a=m.ot t a/\cls.getD (m.nx s a).toNat 0=cls.getD (m.nx t a).toNat 0
instance (cls:List Int) (t s k:Nat):Decidable (m.qg cls t s k):=by unfold qg;exact inferInstance
def lH (cls:List Int) (t s:Nat):Bool:=decide (m.qg cls t s m.gZ.toNat)
def oP (cls:List Int) (t s:Nat):Bool:=decide (∀a,a<m.gZ.toNat->m.ot s a=m.ot t a/\cls.getD (m.nx s a).toNat 0=cls.getD (m.nx t a).toNat 0)
theorem Nl {cls:List Int} {t s k:Nat} (hk:k<=m.gZ.toNat) (h:¬m.qg cls t s k):m.lH cls t s=false:=by
 unfold lH;rw [aqm];intro h2;exact h ⟨h2.1,fun a ha=>h2.2 a ah⟩
theorem Np {cls:List Int} {t s k:Nat} (h:m.qg cls t s k) (h2:m.ot s k=m.ot t k) (h3:cls.getD (m.nx s k).toNat 0=cls.getD (m.nx t k).toNat 0):m.qg cls t s (k+1):=by
 refine ⟨h.1,fun a ha=> ?_⟩;by_cases e:a=k;·rw [e];exact ⟨h2,h3⟩
 exact h.2 a ah
def part:Nat->List Int
 |0=>List.replicate m.h_.length 0
 |k+1=>(canon (m.lH (part k)) m.h_.length).1
theorem rU (k:Nat):m.part (k+1)=(canon (m.lH (m.part k)) m.h_.length).1:=rfl
theorem qF (k:Nat):(m.part k).length=m.h_.length:=by
 cases k with
 |zero=>simp [part]
 |succ k=>rw [rU,jy]
def partOf (k:Int):List Int:=if m.err=0 then m.part (min k.toNat m.h_.length) else []
end g_
namespace g_
variable (m:g_)
def oh (cls:List Int) (s k:Nat):List Int:=
 (List.range 128).map fun i=>if i<64 then (if i<k then m.ot s i else 0) else (if i-64<k then cls.getD (m.nx s (i-64)).toNat 0 else 0)
def vw (cls:List Int) (s:Nat):List Int:=m.oh cls s m.gZ.toNat
theorem jT (cls:List Int) (s k:Nat):(m.oh cls s k).length=128:=by simp [oh]
theorem rZ (cls:List Int) (s k:Nat) {i:Nat} (hi:i<128):(m.oh cls s k)[i]? =some (if i<64 then (if i<k then m.ot s i else 0) else (if i-64<k then cls.getD (m.nx s (i-64)).toNat 0 else 0)):=by
 simp only [oh,dP,fO hi,aqt]
theorem Nq (cls:List Int) (s:Nat):m.oh cls s 0=List.replicate 128 0:=by
 apply eY;intro i;by_cases hi:i<128;·rw [rZ m cls s 0 hi,ap3,bQ hi,bO (arq _),bO (arq _),ite_self]
 rw [bZ (by rw [jT];omega),bZ (by rw [fC];omega)]
theorem Nr (cls:List Int) (s:Nat) {k:Nat} (hk:k<64):m.oh cls s (k+1)=((m.oh cls s k).set k (m.ot s k)).set (64+k) (cls.getD (m.nx s k).toNat 0):=by
 apply eY;intro i;by_cases hi:i<128
 ·rw [rZ m cls s (k+1) hi];by_cases e1:i=64+k;·subst e1;rw [fI (by simp [jT];omega),bO ah,bQ ah];simp
  rw [dY ah];by_cases e2:i=k;·subst e2;rw [fI (by rw [jT];omega),bQ hk,bQ ah]
  rw [dY ah,rZ m cls s k hi];congr 1
  by_cases h64:i<64
  ·rw [bQ h64,bQ h64];by_cases h:i<k;·rw [bQ h,bQ ah]
   rw [bO h,bO ah]
  rw [bO h64,bO h64];by_cases h:i-64<k;·rw [bQ h,bQ ah]
  rw [bO h,bO ah]
 rw [bZ (by rw [jT];omega),bZ (by simp [jT];omega)]
theorem Ns (cls:List Int) (s t:Nat) (h64:m.gZ<=64):m.vw cls t=m.vw cls s↔m.oP cls t s=true:=by
 unfold oP vw;rw [gX];constructor;·intro h a ha;have h1:=aqQ (fun l=>l[a]?) h;have h2:=aqQ (fun l=>l[64+a]?) h;simp only [rZ m cls _ _ (show a<128 by omega),rZ m cls _ _ (show 64+a<128 by omega),dW] at h1 h2;rw [bQ ah,bQ ha,bQ ah,bQ ha] at h1;rw [bO ah,bQ ah,bO ah,bQ ah,Nat.add_sub_cancel_left] at h2;exact ⟨h1.symm,h2.symm⟩
 intro h;unfold oh;apply fP;intro i _;by_cases h64:i<64
 ·rw [bQ h64,bQ h64];by_cases hk:i<m.gZ.toNat;·rw [bQ hk,bQ hk,(h i hk).1]
  rw [bO hk,bO hk]
 rw [bO h64,bO h64];by_cases hk:i-64<m.gZ.toNat;·rw [bQ hk,bQ hk,(h _ hk).2]
 rw [bO hk,bO hk]
end g_
structure pG (N:Nat) (g:Nat->List Int) (pW:List Int) (k:Nat) (f:List Int->Option Int):Prop where
 hit:∀t,t<k->f (g t)=some (pW.getD t 0)
 miss:∀s,s<N->(∀t,t<k->g t≠g s)->f (g s)=none
theorem pG.look {N:Nat} {g:Nat->List Int} {E:Nat->Nat->Bool} {k:Nat} {f:List Int->Option Int} (hg:∀t s,g t=g s↔E t s=true) (h:pG N g (canon E k).1 k f) (hk:k<N):(f (g k)=none/\look E (canon E k).1 k k<0)\/∃v,f (g k)=some v/\0<=v/\look E (canon E k).1 k k=v:=by
 rcases rT E (canon E k).1 k k (bM _) with ⟨h1,h2⟩|⟨t,_,h2,h3,h4,_⟩;·refine .inl ⟨h.miss k hk fun t ht he=> ?_,ah⟩;have:=h2 t ah ht;rw [(hg t k).1 he] at this;cases this
 refine .inr ⟨(canon E k).1.getD t 0,?_,((kr E k).2.2 t h2).1,h4⟩;rw [<-(hg t k).2 h3];exact h.hit t h2
theorem Aj {l:List Int} {x:Int} {t:Nat} (h:t<l.length):(l++[x]).getD t 0=l.getD t 0:=by
 rw [bS,dz h,<-bS]
theorem r_ {l:List Int} {x:Int} {t:Nat} (h:t=l.length):(l++[x]).getD t 0=x:=by
 rw [bS,dN ah,h];simp
theorem pG.old {N:Nat} {g:Nat->List Int} {pW:List Int} {k:Nat} {f:List Int->Option Int} (h:pG N g pW k f) (hl:pW.length=k) {v:Int} (hf:f (g k)=some v):pG N g (pW++[v]) (k+1) f:=by
 refine ⟨fun t ht=> ?_,fun s hN hs=>h.miss s hN fun t ht=>hs t ah⟩;by_cases e:t=k;·rw [e,r_ hl.symm,hf]
 rw [Aj ah];exact h.hit t ah
theorem pG.new {N:Nat} {g:Nat->List Int} {pW:List Int} {k:Nat} {f f':List Int->Option Int} (h:pG N g pW k f) (hl:pW.length=k) (hk:k<N) (hf:f (g k)=none) {v:Int} (h1:f' (g k)=some v) (h2:∀s,s<N->g s≠g k->f' (g s)=f (g s)):pG N g (pW++[v]) (k+1) f':=by
 refine ⟨fun t ht=> ?_,fun s hN hs=> ?_⟩
 ·by_cases e:t=k;·rw [e,r_ hl.symm,h1]
  have hne:g t≠g k:=by intro e2;have:=h.hit t ah;rw [e2,hf] at this;cases this
  rw [Aj ah,h2 t ah hne];exact h.hit t ah
 rw [h2 s hN (fun e=>hs k ah e.symm)];exact h.miss s hN fun t ht=>hs t ah
theorem EK {E E':Nat->Nat->Bool} {l:List Int} {s:Nat} (h:∀t,t<s->E t s=E' t s):∀d,d<=s->look E l s d=look E' l s d
 |0,_=>rfl
 |d+1,hd=>by simp only [look,h (s-(d+1)) ah,EK h d ah]
theorem oQ {E E':Nat->Nat->Bool}:∀n,(∀s,s<n->∀t,t<s->E t s=E' t s)->canon E n=canon E' n
 |0,_=>rfl
 |n+1,h=>by
  have ih:=oQ n (fun s hs t ht=>h s ah t ht)
  rw [qd,qd,ih,EK (h n ah) n (bM _)]
structure Eqv (n:Nat) (R:Nat->Nat->Prop):Prop where
 refl:∀s,s<n->R s s
 symm:∀s t,s<n->t<n->R s t->R t s
 trans:∀s t u,s<n->t<n->u<n->R s t->R t u->R s u
theorem qz (E:Nat->Nat->Bool) {k s:Nat} (h:s<k):(canon E (k+1)).1.getD s 0=(canon E k).1.getD s 0:=by
 have hl:=jy E k;rw [qd];split;·simp only;rw [bS,dz ah,<-bS]
 simp only;rw [bS,dz ah,<-bS]
theorem DV (E:Nat->Nat->Bool) (k:Nat):(canon E (k+1)).1.getD k 0=if look E (canon E k).1 k k<0 then (canon E k).2 else look E (canon E k).1 k k:=by
 have hl:=jy E k;rw [qd];split;·simp only;rw [bS,dN ah,hl];simp
 simp only;rw [bS,dN ah,hl];simp
theorem Ak {R:Nat->Nat->Prop} {E:Nat->Nat->Bool}:∀n,Eqv n R->(∀s,s<n->∀t,t<s->(E t s=true↔R t s))->
    ∀s t,s<n->t<n->((canon E n).1.getD s 0=(canon E n).1.getD t 0↔R s t)
 |0,_,_=>fun s t hs=>by omega
 |n+1,hR,hE=>by
  have hR':Eqv n R:=⟨fun s hs=>hR.refl s ah,fun s t hs ht=>hR.symm s t ah ah,fun s t u hs ht hu=>hR.trans s t u ah ah ah⟩
  have ih:=Ak n hR' (fun s hs t ht=>hE s ah t ht)
  have BP:=kr E n
  have key:∀t,t<n->((canon E (n+1)).1.getD n 0=(canon E n).1.getD t 0↔R n t):=by
   intro t ht
   rw [DV]
   rcases rT E (canon E n).1 n n (bM _) with ⟨h1,h2⟩|⟨t0,_,h2,h3,h4,_⟩
   ·rw [bQ ah]
    constructor
    ·intro h;have:=(BP.2.2 t ht).2;omega
    intro h
    have h5:=h2 t ah ht
    have h6:=(hE n ah t ht).2 (hR.symm _ _ ah ah h)
    rw [h5] at h6;cases h6
   have h0:=BP.2.2 t0 h2
   rw [bO ah,h4,ih t0 t h2 ht]
   have h5:=(hE n ah t0 h2).1 h3
   constructor
   ·intro h;exact hR.trans _ _ _ ah ah ah (hR.symm _ _ ah ah h5) h
   intro h;exact hR.trans _ _ _ ah ah ah h5 h
  intro s t hs ht
  by_cases e1:s=n
  ·by_cases e2:t=n
   ·subst e1;subst e2;exact ⟨fun _=>hR.refl _ ah,fun _=>rfl⟩
   subst e1;rw [qz E (show t<s by omega)];exact key t ah
  by_cases e2:t=n
  ·subst e2
   rw [qz E (show s<t by omega)]
   constructor
   ·intro h;exact hR.symm _ _ ah ah ((key s ah).1 h.symm)
   intro h;exact ((key s ah).2 (hR.symm _ _ ah ah h)).symm
  rw [qz E (show s<n by omega),qz E (show t<n by omega)]
  exact ih s t ah ah
def isFirst (E:Nat->Nat->Bool) (s:Nat):Bool:=(List.range s).all fun t=> !E t s
theorem oV (E:Nat->Nat->Bool):∀n,(canon E n).2=((List.range n).filter (isFirst E)).length
 |0=>rfl
 |n+1=>by
  have ih:=oV E n
  have BP:=kr E n
  rw [aqg,fV,dB,qd]
  rcases rT E (canon E n).1 n n (bM _) with ⟨h1,h2⟩|⟨t0,_,h2,h3,h4,_⟩
  ·rw [bQ ah]
   have:isFirst E n=true:=by
    unfold isFirst
    rw [f_]
    intro t ht
    have:=h2 t ah (iq ht)
    simp [this]
   simp [this,ih]
  have h0:=BP.2.2 t0 h2
  rw [bO ah]
  have:isFirst E n=false:=by
   unfold isFirst
   rw [aqw]
   exact ⟨t0,iq h2,by simp [h3]⟩
  simp [this,ih]
theorem CS {α:Type} {p q:α->Bool}:∀l:List α,(∀x∈l,p x=true->q x=true)->(l.filter p).length=(l.filter q).length->∀x∈l,p x=q x
 |[],_,_=>by simp
 |x::l,h,hl=>by
  have hle:∀l:List α,(∀x∈l,p x=true->q x=true)->(l.filter p).length<=(l.filter q).length:=by
   intro l h
   induction l with
   |nil=>simp
   |cons y l ih=>
    have:=ih (fun z hz=>h z (by simp [hz]))
    by_cases hp:p y=true
    ·simp [hp,h y aH hp];exact this
    by_cases hq:q y=true
    ·simp [hp,hq];omega
    simp [hp,hq];exact this
  have h1:=hle l (fun z hz=>h z (by simp [hz]))
  have hxl:(l.filter p).length=(l.filter q).length/\p x=q x:=by
   by_cases hp:p x=true
   ·have hq:=h x aH hp
    simp [hp,hq] at hl
    exact ⟨hl,by rw [hp,hq]⟩
   by_cases hq:q x=true
   ·simp [hp,hq] at hl;omega
   simp [hp,hq] at hl;exact ⟨hl,by simp [hp,hq]⟩
  intro y hy
  rcases gH.1 hy with rfl|hy
  ·exact hxl.2
  exact CS l (fun z hz=>h z (by simp [hz])) hxl.1 y hy
theorem lJ {n:Nat} {R:Nat->Nat->Prop} {E:Nat->Nat->Bool} (hE:∀s,s<n->∀t,t<s->(E t s=true↔R t s)) {s:Nat} (hs:s<n):isFirst E s=true↔∀t,t<s->¬R t s:=by
 unfold isFirst;rw [f_];constructor;·intro h t ht hr;have:=h t (iq ht);rw [(hE s hs t ht).2 hr] at this;simp at this
 intro h t ht;have ht':t<s:=iq ht;have:=h t ht';rw [<-hE s hs t ht'] at this;simpa using this
theorem Nt {n:Nat} {R:Nat->Nat->Prop} (hR:Eqv n R):∀s,s<n->∃t,t<=s/\R t s/\∀u,u<t->¬R u t:=by
 intro s;induction s using Nat.strongRecOn with
 |ind s ih=>
  intro hs;by_cases h:∃u,u<s/\R u s;·obtain ⟨u,hu,hr⟩:=h;obtain ⟨t,ht,h1,h2⟩:=ih u hu ah;exact ⟨t,ah,hR.trans _ _ _ ah ah hs h1 hr,h2⟩
  exact ⟨s,bM _,hR.refl s hs,fun u hu hr=>h ⟨u,hu,hr⟩⟩
theorem RH {n:Nat} {R R':Nat->Nat->Prop} {E E':Nat->Nat->Bool} (hR:Eqv n R) (hR':Eqv n R') (hE:∀s,s<n->∀t,t<s->(E t s=true↔R t s)) (hE':∀s,s<n->∀t,t<s->(E' t s=true↔R' t s)) (Nu:∀s t,s<n->t<n->R' s t->R s t) (hc:(canon E n).2=(canon E' n).2):∀s t,s<n->t<n->(R s t↔R' s t):=by
 have YZ:∀s,s<n->(isFirst E s=isFirst E' s):=by intro s hs;rw [oV,oV] at hc;refine CS (List.range n) ?_ ah s (iq hs);intro x hx hfx;have hx':x<n:=iq hx;rw [lJ hE' hx'];have:=(lJ hE hx').1 hfx;exact fun t ht hr=>this t ht (Nu t x ah hx' hr)
 intro s t hs ht;refine ⟨fun h=> ?_,Nu s t hs ht⟩;obtain ⟨s0,hs0,a1,a2⟩:=Nt hR' s hs;obtain ⟨t0,ht0,b1,b2⟩:=Nt hR' t ht;have f1:∀u,u<s0->¬R u s0:=(lJ hE (show s0<n by omega)).1 (by rw [YZ s0 ah];exact (lJ hE' ah).2 a2);have f2:∀u,u<t0->¬R u t0:=(lJ hE (show t0<n by omega)).1 (by rw [YZ t0 ah];exact (lJ hE' ah).2 b2);have c1:=Nu _ _ ah hs a1;have c2:=Nu _ _ ah ht b1;have c3:R s0 t0:=hR.trans _ _ _ ah hs ah c1 (hR.trans _ _ _ hs ht ah h (hR.symm _ _ ah ht c2));have e:s0=t0:=by
  rcases arJ s0 t0 with h1|h1|h1;·exact absurd c3 (f2 _ h1)
  ·exact h1
  exact absurd (hR.symm _ _ ah ah c3) (f1 _ h1)
 subst e;exact hR'.trans _ _ _ hs ah ht (hR'.symm _ _ ah hs a1) b1
namespace g_
variable (m:g_)
def eqv:Nat->Nat->Nat->Prop
 |0,_,_=>True
 |k+1,s,t=>∀a,a<m.gZ.toNat->m.ot s a=m.ot t a/\eqv k (m.nx s a).toNat (m.nx t a).toNat
theorem sj:∀k s t,m.eqv (k+1) s t->m.eqv k s t
 |0,_,_,_=>trivial
 |k+1,_,_,h=>fun a ha=>⟨(h a ha).1,sj k _ _ (h a ha).2⟩
theorem afm {k j s t:Nat} (h:m.eqv k s t) (hj:j<=k):m.eqv j s t:=by
 induction k with
 |zero=>obtain rfl:j=0:=ah;exact h
 |succ k ih=>
  by_cases e:j=k+1;·rw [e];exact h
  exact ih (m.sj k s t h) ah
theorem Nv:∀k s,m.eqv k s s
 |0,_=>trivial
 |k+1,_=>fun _ _=>⟨rfl,Nv k _⟩
theorem su:∀k s t,m.eqv k s t->m.eqv k t s
 |0,_,_,_=>trivial
 |k+1,_,_,h=>fun a ha=>⟨(h a ha).1.symm,su k _ _ (h a ha).2⟩
theorem JB:∀k s t u,m.eqv k s t->m.eqv k t u->m.eqv k s u
 |0,_,_,_,_,_=>trivial
 |k+1,_,_,_,h,h'=>fun a ha=>⟨(h a ha).1.trans (h' a ha).1,JB k _ _ _ (h a ha).2 (h' a ha).2⟩
theorem KZ (n k:Nat):Eqv n (fun t s=>m.eqv k t s):=⟨fun s _=>m.Nv k s,fun s t _ _=>m.su k s t,fun s t u _ _ _=>m.JB k s t u⟩
variable {m}
theorem ru (ok:m.Ok) {s a:Nat} (hs:s<m.h_.length) (ha:a<m.gZ.toNat):(m.nx s a).toNat<m.h_.length:=by
 have:=ok.nx s a hs ha;omega
theorem nR (ok:m.Ok):∀k s t,s<m.h_.length->t<m.h_.length->((m.part k).getD s 0=(m.part k).getD t 0↔m.eqv k s t)
 |0,s,t,hs,ht=>by simp [part,eqv,hs,ht]
 |k+1,s,t,hs,ht=>by
  rw [rU]
  refine Ak (R:=fun t s=>m.eqv (k+1) t s) _ (m.KZ _ _) ?_ s t hs ht
  intro s hs t ht
  have ih:=nR ok k
  unfold lH
  rw [gX]
  constructor
  ·intro h a ha
   refine ⟨(h.2 a ha).1.symm,?_⟩
   rw [<-ih _ _ (ru ok ah ha) (ru ok hs ha)]
   exact (h.2 a ha).2.symm
  intro h
  refine ⟨(ih _ _ hs ah).2 (m.su _ _ _ (m.sj _ _ _ h)),fun a ha=>⟨(h a ha).1.symm,?_⟩⟩
  rw [ih _ _ (ru ok hs ha) (ru ok ah ha)]
  exact m.su _ _ _ (h a ha).2
theorem uq (ok:m.Ok) (k:Nat):∀s,s<m.h_.length->∀t,t<s->(m.lH (m.part k) t s=true↔m.eqv (k+1) t s):=by
 intro s hs t ht;have ih:=nR ok k;unfold lH;rw [gX];constructor;·intro h a ha;refine ⟨(h.2 a ha).1.symm,?_⟩;rw [<-ih _ _ (ru ok ah ha) (ru ok hs ha)];exact (h.2 a ha).2.symm
 intro h;refine ⟨(ih _ _ hs ah).2 (m.su _ _ _ (m.sj _ _ _ h)),fun a ha=>⟨(h a ha).1.symm,?_⟩⟩;rw [ih _ _ (ru ok hs ha) (ru ok ah ha)];exact m.su _ _ _ (h a ha).2
theorem JC (ok:m.Ok) (k:Nat):∀s,s<m.h_.length->∀t,t<s->(m.oP (m.part k) t s=true↔m.eqv (k+1) t s):=by
 intro s hs t ht;have ih:=nR ok k;unfold oP;rw [gX];constructor;·intro h a ha;refine ⟨(h a ha).1.symm,?_⟩;rw [<-ih _ _ (ru ok ah ha) (ru ok hs ha)];exact (h a ha).2.symm
 intro h a ha;refine ⟨(h a ha).1.symm,?_⟩;rw [ih _ _ (ru ok hs ha) (ru ok ah ha)];exact m.su _ _ _ (h a ha).2
theorem EL (ok:m.Ok) {k:Nat} (h:∀s t,s<m.h_.length->t<m.h_.length->(m.eqv k s t↔m.eqv (k+1) s t)):∀j,k<=j->∀s t,s<m.h_.length->t<m.h_.length->(m.eqv k s t↔m.eqv j s t):=by
 intro j hj;induction j with
 |zero=>intro s t _ _;obtain rfl:k=0:=ah;exact Iff.rfl
 |succ j ih=>
  by_cases e:k=j+1;·intro s t _ _;rw [e]
  intro s t hs ht;have ih':=ih ah;rw [h s t hs ht];constructor;·intro h1 a ha;exact ⟨(h1 a ha).1,(ih' _ _ (ru ok hs ha) (ru ok ht ha)).1 (h1 a ha).2⟩
  intro h1 a ha;exact ⟨(h1 a ha).1,(ih' _ _ (ru ok hs ha) (ru ok ht ha)).2 (h1 a ha).2⟩
theorem UH (ok:m.Ok) {k j:Nat} (h:∀s t,s<m.h_.length->t<m.h_.length->(m.eqv k s t↔m.eqv j s t)):m.part k=m.part j:=by
 classical
 have hc:∀k,m.part k=(canon (fun t s=>decide (m.eqv k t s)) m.h_.length).1:=by
  intro k;cases k with
  |zero=>
   have:∀n,canon (fun _ _=>true) (n+1)=(List.replicate (n+1) 0,1):=by
    intro n;induction n with
    |zero=>simp [canon,look]
    |succ n ih=>
     have hl:look (fun _ _=>true) (List.replicate (n+1) 0) (n+1) (n+1)=0:=by rw [look];simp
     rw [qd,ih];simp only [hl];rw [bO ah,ars (n:=n+1)]
   obtain ⟨n,hn⟩:∃n,m.h_.length=n+1:=⟨m.h_.length-1,ig ok.n0⟩;have e2:(fun t s=>decide (m.eqv 0 t s))=(fun _ _:Nat=>true):=by funext t s;exact dw trivial
   rw [e2,part,hn,this]
  |succ k=>
   rw [rU];congr 1
   apply oQ;intro s hs t ht;have:=uq ok k s hs t ht;rw [aqh,this,gX]
 rw [hc k,hc j];congr 1
 apply oQ;intro s hs t ht;rw [aqh,gX,gX];exact h t s ah hs
end g_
namespace g_
def pp (m:g_):Nat->List Int×Int
 |0=>(List.replicate m.h_.length 0,1)
 |k+1=>canon (m.oP (pp m k).1) m.h_.length
theorem lQ (m:g_) (k:Nat):m.pp (k+1)=canon (m.oP (m.pp k).1) m.h_.length:=rfl
theorem yt (m:g_) (k:Nat):(m.pp k).1.length=m.h_.length:=by
 cases k with
 |zero=>simp [pp]
 |succ k=>rw [lQ,jy]
def Steps (m:g_) (K d:Nat):Prop:=d<=K/\(∀j,j<d->(m.pp (j+1)).2≠(m.pp j).2)/\(d=K\/(m.pp (d+1)).2=(m.pp d).2)
variable {m:g_}
theorem K_ (ok:m.Ok):∀k,(m.pp k).1=m.part k
 |0=>rfl
 |k+1=>by
  rw [lQ,rU,K_ ok k]
  congr 1
  apply oQ
  intro s hs t ht
  rw [aqh,JC ok k s hs t ht,uq ok k s hs t ht]
theorem Y_ (ok:m.Ok) (k:Nat):m.pp (k+1)=canon (m.lH (m.part k)) m.h_.length:=by
 rw [lQ,K_ ok k];apply oQ;intro s hs t ht;rw [aqh,JC ok k s hs t ht,uq ok k s hs t ht]
theorem sw (ok:m.Ok) (k:Nat):∃E:Nat->Nat->Bool,(∀s,s<m.h_.length->∀t,t<s->(E t s=true↔m.eqv k t s))/\(m.pp k).2=(canon E m.h_.length).2:=by
 cases k with
 |zero=>
  refine ⟨fun _ _=>true,fun s _ t _=>by simp [eqv],?_⟩;have:∀n,(canon (fun _ _=>true) (n+1)).2=1:=by
   intro n;rw [oV];have h1:∀n,(List.range (n+1)).filter (isFirst (fun _ _=>true))=[0]:=by
    intro n;induction n with
    |zero=>rfl
    |succ n ih=>
     rw [aqg,fV,ih];have:isFirst (fun _ _=>true) (n+1)=false:=by unfold isFirst;rw [aqw];exact ⟨0,aH,aH⟩
     simp [this]
   rw [h1];rfl
  obtain ⟨n,hn⟩:∃n,m.h_.length=n+1:=⟨m.h_.length-1,ig ok.n0⟩;rw [hn,this];rfl
 |succ k=>exact ⟨m.lH (m.part k),uq ok k,by rw [Y_ ok k]⟩
theorem yX (ok:m.Ok) {k:Nat} (h:(m.pp (k+1)).2=(m.pp k).2):∀s t,s<m.h_.length->t<m.h_.length->(m.eqv k s t↔m.eqv (k+1) s t):=by
 obtain ⟨E,hE,e1⟩:=sw ok k;obtain ⟨E',hE',e2⟩:=sw ok (k+1);exact RH (m.KZ _ _) (m.KZ _ _) hE hE' (fun s t _ _=>m.sj k s t) (by rw [<-e1,<-e2,h])
theorem IX (ok:m.Ok) {k:Nat} (h:∀s t,s<m.h_.length->t<m.h_.length->(m.eqv k s t↔m.eqv (k+1) s t)):(m.pp (k+1)).2=(m.pp k).2:=by
 obtain ⟨E,hE,e1⟩:=sw ok k;obtain ⟨E',hE',e2⟩:=sw ok (k+1);rw [e1,e2];congr 1
 apply oQ;intro s hs t ht;rw [aqh,hE s hs t ht,hE' s hs t ht];exact (h t s ah hs).symm
theorem EM (ok:m.Ok) (k:Nat):(m.pp k).2<=(m.pp (k+1)).2:=by
 obtain ⟨E,hE,e1⟩:=sw ok k;obtain ⟨E',hE',e2⟩:=sw ok (k+1);rw [e1,e2,oV,oV];have Nu:∀x∈List.range m.h_.length,isFirst E x=true->isFirst E' x=true:=by intro x hx hf;have hx':x<m.h_.length:=iq hx;rw [lJ hE' hx'];exact fun t ht hr=>(lJ hE hx').1 hf t ht (m.sj k t x hr)
 have hle:∀l:List Nat,(∀x∈l,isFirst E x=true->isFirst E' x=true)->(l.filter (isFirst E)).length<=(l.filter (isFirst E')).length:=by
  intro l h;induction l with
  |nil=>simp
  |cons y l ih=>
   have:=ih (fun z hz=>h z (by simp [hz]));by_cases hp:isFirst E y=true;·simp [hp,h y aH hp];exact this
   by_cases hq:isFirst E' y=true;·simp [hp,hq];omega
   simp [hp,hq];exact this
 have:=hle _ Nu;omega
theorem count_le (ok:m.Ok) (k:Nat):(m.pp k).2<=m.h_.length:=by
 obtain ⟨E,_,e1⟩:=sw ok k;rw [e1];exact (kr E _).2.1
theorem Steps.classes (ok:m.Ok) {K d:Nat} (h:m.Steps K d):(m.pp d).1=m.part K:=by
 rw [K_ ok d];rcases h.2.2 with e|e;·rw [e]
 exact UH ok (fun s t hs ht=>EL ok (yX ok e) K h.1 s t hs ht)
theorem Steps.grow (ok:m.Ok) {K d:Nat} (h:m.Steps K d):∀j,j<=d->(j:Int)+1<=(m.pp j).2
 |0,_=>by simp [pp]
 |j+1,hj=>by
  have ih:=Steps.grow ok h j ah
  have h1:=h.2.1 j ah
  have h2:=EM ok j
  omega
theorem Steps.rest (ok:m.Ok) {K d:Nat} (h:m.Steps K d) (hK:m.h_.length<=K+1):d<m.h_.length/\∀j,d<=j->m.part j=m.part d:=by
 have h1:=h.grow ok d (bM _);have h2:=count_le ok d;have hd:d<m.h_.length:=ah;refine ⟨hd,fun j hj=> ?_⟩;have e:(m.pp (d+1)).2=(m.pp d).2:=by
  rcases h.2.2 with e|e;·subst e;have h3:=EM ok d;have h4:=count_le ok (d+1);omega
  exact e
 exact (UH ok (fun s t hs ht=>EL ok (yX ok e) j hj s t hs ht)).symm
theorem Steps.before (ok:m.Ok) {K d:Nat} (h:m.Steps K d) {j n:Nat} (hj:j<d) (hn:d<=n):m.part j≠m.part n:=by
 intro he;refine h.2.1 j hj (IX ok fun s t hs ht=>⟨fun hr=> ?_,m.sj j s t⟩);have h1:=(nR ok j s t hs ht).2 hr;rw [he] at h1;exact m.afm ((nR ok n s t hs ht).1 h1) ah
end g_
def nS (cls:List Int):Nat->List Nat
 |0=>[]
 |k+1=>if cls.getD k 0<(nS cls k).length then nS cls k else nS cls k++[k]
theorem Nw {cls:List Int} {k:Nat} (h:cls.getD k 0<(nS cls k).length):nS cls (k+1)=nS cls k:=by simp only [nS,h,aqj]
theorem Ny {cls:List Int} {k:Nat} (h:¬cls.getD k 0<(nS cls k).length):nS cls (k+1)=nS cls k++[k]:=by simp only [nS,h,aqP]
theorem La (cls:List Int):∀k,(nS cls k).length<=k
 |0=>bM _
 |k+1=>by
  have:=La cls k
  simp only [nS];split
  ·omega
  simp;omega
namespace g_
def wY (t:g_) (cls:List Int) (s:Nat):List Int:=(t.h_.getD s []).map fun n=>cls.getD n.toNat 0
def Za (t:g_) (cls:List Int):g_:={gZ:=t.gZ,start:=0,h_:=(nS cls cls.length).map (t.wY cls),out:=(nS cls cls.length).map fun s=>t.out.getD s []}
def minOf (m:g_):g_:=if m.err=0 then m.trim.Za (m.trim.partOf 128) else nothing
end g_
structure Pl where
 s:Int
 t:Int
 word:List Int
 deriving DecidableEq
def known (l:List Pl) (s t:Int):Bool:=l.any fun q=>decide (q.s=s/\q.t=t)
theorem BQ {l:List Pl} {s t:Int}:known l s t=true↔∃q∈l,q.s=s/\q.t=t:=by simp [known]
theorem EN (l:List Pl) (q:Pl) (s t:Int):known (l++[q]) s t=(known l s t||decide (q.s=s/\q.t=t)):=by simp [known]
def scan (a b:g_) (p:Pl) (l:List Pl):Nat->List Pl×Option (List Int)
 |0=>(l,none)
 |x+1=>match (scan a b p l x).2 with
  |some w=>((scan a b p l x).1,some w)
  |none=>if a.ot p.s.toNat x≠b.ot p.t.toNat x then ((scan a b p l x).1,some (p.word++[(x:Int)]))
   else if known (scan a b p l x).1 (a.nx p.s.toNat x) (b.nx p.t.toNat x)=true then ((scan a b p l x).1,none)
   else ((scan a b p l x).1++[⟨a.nx p.s.toNat x,b.nx p.t.toNat x,p.word++[(x:Int)]⟩],none)
section
variable {a b:g_} {p:Pl} {l l':List Pl} {x:Nat} {w:List Int}
theorem JD (h:scan a b p l x=(l',none)) (hd:a.ot p.s.toNat x≠b.ot p.t.toNat x):scan a b p l (x+1)=(l',some (p.word++[(x:Int)])):=by
 unfold scan;simp only [h,bQ hd]
theorem EO (h:scan a b p l x=(l',none)) (hd:a.ot p.s.toNat x=b.ot p.t.toNat x) (hk:known l' (a.nx p.s.toNat x) (b.nx p.t.toNat x)=true):scan a b p l (x+1)=(l',none):=by
 unfold scan;simp only [h];rw [bO (iq hd),bQ hk]
theorem Nz (h:scan a b p l x=(l',none)) (hd:a.ot p.s.toNat x=b.ot p.t.toNat x) (hk:known l' (a.nx p.s.toNat x) (b.nx p.t.toNat x)=false):scan a b p l (x+1)=(l'++[⟨a.nx p.s.toNat x,b.nx p.t.toNat x,p.word++[(x:Int)]⟩],none):=by
 unfold scan;simp only [h];rw [bO (iq hd),bO (by rw [hk];decide)]
theorem Wd (h:scan a b p l x=(l',some w)):∀y,x<=y->scan a b p l y=(l',some w):=by
 intro y hy;induction y with
 |zero=>obtain rfl:x=0:=ah;exact h
 |succ y ih=>
  by_cases e:x=y+1;·rw [<-e];exact h
  have:=ih ah;unfold scan;simp only [this]
theorem vB (a b:g_) (p:Pl) (l:List Pl):∀x,∃s,(scan a b p l x).1=l++s
 |0=>⟨[],by simp [scan]⟩
 |x+1=>by
  obtain ⟨s,hs⟩:=vB a b p l x
  unfold scan
  split
  ·exact ⟨s,hs⟩
  split
  ·exact ⟨s,hs⟩
  split
  ·exact ⟨s,hs⟩
  exact ⟨s++[⟨a.nx p.s.toNat x,b.nx p.t.toNat x,p.word++[(x:Int)]⟩],by simp only [hs,eH]⟩
end
def kY (a b:g_) (s t:Int):Nat->List Pl×Option (List Int)
 |0=>([⟨s,t,[]⟩],none)
 |i+1=>match (kY a b s t i).2 with
  |some w=>((kY a b s t i).1,some w)
  |none=>match (kY a b s t i).1[i]? with
   |none=>((kY a b s t i).1,none)
   |some p=>scan a b p (kY a b s t i).1 a.gZ.toNat
def lS (a b:g_) (s t:Int):Option (List Int):=(kY a b s t (a.h_.length*b.h_.length)).2
section
variable {a b:g_} {s t:Int} {p:Pl} {l l':List Pl} {i x:Nat} {w:List Int}
theorem BR (h:kY a b s t i=(l,none)) (hp:l[i]? =some p):kY a b s t (i+1)=scan a b p l a.gZ.toNat:=by
 conv=>lhs;unfold kY
 simp only [h,hp]
theorem Wh (h:kY a b s t i=(l,some w)):∀j,i<=j->kY a b s t j=(l,some w):=by
 intro j hj;induction j with
 |zero=>obtain rfl:i=0:=ah;exact h
 |succ j ih=>
  by_cases e:i=j+1;·rw [<-e];exact h
  have:=ih ah;conv=>lhs;unfold kY
  simp only [this]
theorem Wj (h:kY a b s t i=(l,none)) (hl:l.length<=i):∀j,i<=j->kY a b s t j=(l,none):=by
 intro j hj;induction j with
 |zero=>obtain rfl:i=0:=ah;exact h
 |succ j ih=>
  by_cases e:i=j+1;·rw [<-e];exact h
  have:=ih ah;conv=>lhs;unfold kY
  simp only [this,bZ (show l.length<=j by omega)]
theorem CU (h:kY a b s t i=(l,none)) (hp:l[i]? =some p) (hs:scan a b p l x=(l',some w)) (hx:x<=a.gZ.toNat) (hi:i<a.h_.length*b.h_.length):lS a b s t=some w:=by
 have h1:=BR h hp;rw [Wd hs _ hx] at h1;unfold lS;rw [Wh h1 _ ah]
theorem EP (h:kY a b s t i=(l,none)) (hl:l.length<=i) (hi:i<=a.h_.length*b.h_.length):lS a b s t=none:=by
 unfold lS;rw [Wj h hl _ hi]
structure mM (a b:g_) (l:List Pl):Prop where
 range:∀q∈l,0<=q.s/\q.s<a.h_.length/\0<=q.t/\q.t<b.h_.length
 nodup:(l.map fun q=>(q.s*(b.h_.length:Int)+q.t:Int)).Nodup
 word:∀q∈l,q.word.length<l.length
theorem Zb {n s t s' t':Int} (h0:0<=t) (h1:t<n) (h0':0<=t') (h1':t'<n) (h:s*n+t=s'*n+t'):s=s'/\t=t':=by
 have e:(s-s')*n=t'-t:=by rw [Int.sub_mul];omega
 by_cases hs:s=s';·subst hs;exact ⟨rfl,ah⟩
 exfalso;rcases Int.lt_or_gt_of_ne hs with h2|h2
 ·have:(s'-s)*n>=1*n:=aqN ah ah;have e2:(s'-s)*n= -((s-s')*n):=by rw [<-Int.neg_mul];congr 1;omega
  omega
 have:(s-s')*n>=1*n:=aqN ah ah;omega
theorem mM.one (hs:0<=s/\s<a.h_.length) (ht:0<=t/\t<b.h_.length):mM a b [⟨s,t,[]⟩]:=
 ⟨fun q hq=>by simp at hq;subst hq;exact ⟨hs.1,hs.2,ht.1,ht.2⟩,aH,fun q hq=>by simp at hq;subst hq;simp⟩
theorem mM.push (h:mM a b l) {q:Pl} (hs:0<=q.s/\q.s<a.h_.length) (ht:0<=q.t/\q.t<b.h_.length) (hk:known l q.s q.t=false) (hw:q.word.length<=l.length):mM a b (l++[q]):=by
 refine ⟨fun r hr=> ?_,?_,fun r hr=> ?_⟩
 ·rw [eG,dZ] at hr;rcases hr with hr|rfl;·exact h.range r hr
  exact ⟨hs.1,hs.2,ht.1,ht.2⟩
 ·rw [eB,arI];refine ⟨h.nodup,aH,fun u hu v hv=> ?_⟩;simp only [fQ,ap7,dZ] at hv;subst hv;intro e;obtain ⟨r,hr,rfl⟩:=aqJ.1 hu;obtain ⟨h1,h2,h3,h4⟩:=h.range r hr;obtain ⟨e1,e2⟩:=Zb h3 h4 ht.1 ht.2 e;have:known l q.s q.t=true:=BQ.2 ⟨r,hr,e1,e2⟩;rw [hk] at this;cases this
 rw [dB,eT];rw [eG,dZ] at hr;rcases hr with hr|rfl;·have:=h.word r hr;omega
 omega
theorem mM.le (h:mM a b l):l.length<=a.h_.length*b.h_.length:=by
 have:=qD (a.h_.length*b.h_.length) _ h.nodup (fun y hy=>by
  obtain ⟨q,hq,rfl⟩:=aqJ.1 hy
  obtain ⟨h1,h2,h3,h4⟩:=h.range q hq
  have h5:q.s*b.h_.length<=(a.h_.length-1:Int)*b.h_.length:=aqN ah ah
  have h6:0<=q.s*(b.h_.length:Int):=Int.mul_nonneg h1 ah
  rw [Int.sub_mul,Int.one_mul] at h5
  refine ⟨ah,?_⟩
  rw [aqu]
  omega)
 rwa [dJ] at this
theorem mM.scan (oa:a.Ok) (ob:b.Ok) (hi:a.gZ=b.gZ) (h:mM a b l) (hp:p∈l):∀x,x<=a.gZ.toNat->mM a b (scan a b p l x).1
 |0,_=>h
 |x+1,hx=>by
  have ih:=mM.scan oa ob hi h hp x ah
  obtain ⟨r,hr⟩:=vB a b p l x
  unfold Proofs.YtjagagpcjpcjjaaGreat.scan
  split
  ·exact ih
  split
  ·exact ih
  split
  ·exact ih
  rename_i hk
  obtain ⟨h1,h2,h3,h4⟩:=h.range p hp
  have n1:=oa.nx p.s.toNat x ah ah
  have n2:=ob.nx p.t.toNat x ah ah
  refine ih.push n1 n2 (iq hk) ?_
  have:=h.word p hp
  rw [hr]
  simp only [dB,eT]
  omega
theorem mM.kY (oa:a.Ok) (ob:b.Ok) (hi:a.gZ=b.gZ) (hs:0<=s/\s<a.h_.length) (ht:0<=t/\t<b.h_.length):∀i,mM a b (kY a b s t i).1
 |0=>mM.one hs ht
 |i+1=>by
  have ih:=mM.kY oa ob hi hs ht i
  unfold Proofs.YtjagagpcjpcjjaaGreat.kY
  split
  ·exact ih
  split
  ·exact ih
  rename_i p hp
  exact ih.scan oa ob hi (bV hp) _ (bM _)
end
theorem RI {α:Type} {l:List α} {k:Nat} {x:α} [Decidable (x∈l.take (k+1))] (h:x∈l.take k):true=decide (x∈l.take (k+1)):=by
 rw [dw];rw [dh];exact eG.2 (.inl h)
theorem RJ {α:Type} {l:List α} {k:Nat} {x z:α} [Decidable (x∈l.take (k+1))] (hz:l[k]? =some z) (e:z=x):true=decide (x∈l.take (k+1)):=by
 rw [dw];rw [dh,hz];exact eG.2 (.inr (by simp [e]))
theorem ER {α:Type} {l:List α} {k:Nat} {x z:α} [Decidable (x∈l.take (k+1))] (hz:l[k]? =some z) (e:z≠x) (h:x∉l.take k):false=decide (x∈l.take (k+1)):=by
 rw [cZ];rw [dh,hz,eG];rintro (h2|h2);·exact h h2
 have h3:x=z:=iq h2;exact e h3.symm
def ji (c:Int->Int):List Int->List Int->List Int
 |l,[]=>l
 |l,t::r=>ji c (if c t∈l.map c then l else l++[t]) r
theorem tO (c:Int->Int):∀(r r' l:List Int),ji c l (r++r')=ji c (ji c l r) r'
 |[],_,_=>rfl
 |_::r,r',_=>tO c r r' _
theorem CV (c:Int->Int) (l r:List Int) (t:Int):ji c l (r++[t])=if c t∈(ji c l r).map c then ji c l r else ji c l r++[t]:=by
 rw [tO];rfl
theorem mE (c:Int->Int):∀(r l:List Int),∃s,ji c l r=l++s
 |[],l=>⟨[],by simp [ji]⟩
 |t::r,l=>by
  obtain ⟨s,hs⟩:=mE c r (if c t∈l.map c then l else l++[t])
  simp only [ji,hs]
  split
  ·exact ⟨s,rfl⟩
  exact ⟨t::s,aH⟩
theorem om (c:Int->Int):∀(r l:List Int) (y:Int),y∈(ji c l r).map c↔y∈l.map c\/y∈r.map c
 |[],l,y=>by simp [ji]
 |t::r,l,y=>by
  simp only [ji,om c r]
  split
  ·rename_i h
   rw [fQ,gH]
   constructor
   ·rintro (h1|h1)
    ·exact .inl h1
    exact .inr (.inr h1)
   rintro (h1|h1|h1)
   ·exact .inl h1
   ·exact .inl (by rw [h1];exact h)
   exact .inr h1
  rw [eB,eG,fQ,ap7,dZ,fQ,gH]
  exact or_assoc
theorem CW (c:Int->Int):∀(r l:List Int),(∀x∈r,c x∈l.map c)->ji c l r=l
 |[],_,_=>rfl
 |t::r,l,h=>by
  simp only [ji]
  rw [bQ (h t aH)]
  exact CW c r l fun x hx=>h x (by simp [hx])
theorem vC (c:Int->Int):∀(r l:List Int),(ji c l r).length<=l.length+r.length
 |[],_=>bM _
 |t::r,l=>by
  have:=vC c r (if c t∈l.map c then l else l++[t])
  simp only [ji,fD]
  split at this
  ·rename_i h;rw [bQ h];omega
  rename_i h;rw [bO h];rw [dB,eT] at this;omega
def firsts (c:Int->Int) (l:List Int):List Int:=ji c [] l
theorem qI (c:Int->Int) (l:List Int) (t:Int):firsts c (l++[t])=if c t∈(firsts c l).map c then firsts c l else firsts c l++[t]:=CV c [] l t
theorem sD (c:Int->Int) (l:List Int) (y:Int):y∈(firsts c l).map c↔y∈l.map c:=by
 unfold firsts;rw [om];simp
theorem Al (c:Int->Int):∀(r l:List Int),firsts c (visit l r)=ji c (firsts c l) r
 |[],_=>rfl
 |t::r,l=>by
  simp only [visit,ji]
  rw [Al c r]
  by_cases h:t∈l
  ·rw [bQ h,bQ ((sD c l _).2 (gU h))]
  rw [bO h,qI]
theorem yY (c:Int->Int) (l r:List Int):∃s,firsts c (l++r)=firsts c l++s:=by
 unfold firsts;rw [tO];exact mE c r _
namespace g_
variable (m:g_)
def lT (c:Int->Int):Nat->List Int
 |0=>[m.start]
 |i+1=>if i<(lT c i).length then ji c (lT c i) (m.h_.getD ((lT c i).getD i 0).toNat []) else lT c i
theorem qh (c:Int->Int) (i:Nat):m.lT c (i+1)=if i<(m.lT c i).length then ji c (m.lT c i) (m.h_.getD ((m.lT c i).getD i 0).toNat []) else m.lT c i:=rfl
variable {m}
theorem yu (c:Int->Int) {i:Nat} (h:¬i<(m.lT c i).length):∀j,i<=j->m.lT c j=m.lT c i:=by
 intro j hj;induction j with
 |zero=>obtain rfl:i=0:=ah;rfl
 |succ j ih=>
  by_cases e:i=j+1;·rw [e]
  rw [qh,ih ah,bO ah]
def afn (m:g_) (c:Int->Int):Prop:=∀s t:Int,0<=s->s<m.h_.length->0<=t->t<m.h_.length->c s=c t->∀x∈m.h_.getD s.toNat [],∃y∈m.h_.getD t.toNat [],c x=c y
theorem ES (ok:m.Ok) {c:Int->Int} (hc:m.afn c):∀i,firsts c (m.lq i)=m.lT c (firsts c ((m.lq i).take i)).length/\
    ∀x∈(m.lq i).take i,∀y∈m.h_.getD x.toNat [],c y∈(firsts c (m.lq i)).map c
 |0=>⟨by simp [lq,firsts,ji,lT],aH⟩
 |i+1=>by
  obtain ⟨h1,h2⟩:=ES ok hc i
  obtain ⟨-,hr, -⟩:=mD ok i
  by_cases hi:i<(m.lq i).length
  ·have hx:(m.lq i).getD i 0=(m.lq i)[i]:=by rw [bS,bN hi];rfl
   have hxm:(m.lq i)[i]∈m.lq i:=dQ hi
   have hb:m.lq (i+1)=visit (m.lq i) (m.h_.getD ((m.lq i)[i]).toNat []):=by rw [uo,bQ hi,hx]
   have ht:(m.lq (i+1)).take (i+1)=(m.lq i).take i++[(m.lq i)[i]]:=by
    obtain ⟨s,hs⟩:=vg (m.h_.getD ((m.lq i)[i]).toNat []) (m.lq i)
    rw [hb,hs,fU ah,dh,bN hi]
    rfl
   have hf:firsts c (m.lq (i+1))=ji c (firsts c (m.lq i)) (m.h_.getD ((m.lq i)[i]).toNat []):=by rw [hb,Al]
   have Nu:∀y,y∈(firsts c (m.lq i)).map c->y∈(firsts c (m.lq (i+1))).map c:=fun y hy=>by rw [hf,om];exact .inl hy
   refine ⟨?_,fun x hx y hy=> ?_⟩
   ·rw [ht,qI,hf]
    by_cases hin:c (m.lq i)[i]∈(firsts c ((m.lq i).take i)).map c
    ·rw [bQ hin,<-h1]
     apply CW
     intro x hx
     obtain ⟨z,hz,hzc⟩:=aqJ.1 ((sD c _ _).1 hin)
     have hzm:z∈m.lq i:=aqe hz
     obtain ⟨y,hy,hxy⟩:=hc _ z (hr _ hxm).1 (hr _ hxm).2 (hr _ hzm).1 (hr _ hzm).2 hzc.symm x hx
     rw [hxy]
     exact h2 z hz y hy
    rw [bO hin,dB,eT,qh,<-h1]
    have hp:∃s,firsts c (m.lq i)=(firsts c ((m.lq i).take i)++[(m.lq i)[i]])++s:=by
     have e:(m.lq i)=((m.lq i).take i++[(m.lq i)[i]])++(m.lq i).drop (i+1):=by
      conv=>lhs;rw [<-fJ (i+1) (m.lq i)]
      rw [dh,bN hi];rfl
     obtain ⟨s,hs⟩:=yY c ((m.lq i).take i++[(m.lq i)[i]]) ((m.lq i).drop (i+1))
     rw [<-e,qI,bO hin] at hs
     exact ⟨s,hs⟩
    obtain ⟨s,hs⟩:=hp
    have hl:(firsts c ((m.lq i).take i)).length<(firsts c (m.lq i)).length:=by rw [hs];simp
    have hg:(firsts c (m.lq i)).getD (firsts c ((m.lq i).take i)).length 0=(m.lq i)[i]:=by
     rw [hs,bS,dz aH,dN aH]
     simp
    rw [bQ hl,hg]
   rw [ht,eG,dZ] at hx
   rcases hx with hx|rfl
   ·exact Nu _ (h2 x hx y hy)
   rw [hf,om];exact .inr (gU hy)
  have hb:m.lq (i+1)=m.lq i:=by rw [uo,bO hi]
  rw [hb,bY (show (m.lq i).length<=i+1 by omega)]
  rw [bY (show (m.lq i).length<=i by omega)] at h1 h2
  exact ⟨h1,h2⟩
theorem ET (ok:m.Ok) {c:Int->Int} (hc:m.afn c):m.lT c m.h_.length=firsts c m.reach/\¬(firsts c m.reach).length<(m.lT c (firsts c m.reach).length).length/\(firsts c m.reach).length<=m.h_.length:=by
 obtain ⟨h1, -⟩:=ES ok hc m.h_.length;rw [bY (og ok _)] at h1;have hle:(firsts c m.reach).length<=m.h_.length:=by
  have h2:=vC c m.reach [];have h3:=og ok m.h_.length;unfold firsts reach at*
  simp at h2;omega
 have hst:¬(firsts c m.reach).length<(m.lT c (firsts c m.reach).length).length:=by have h1':firsts c m.reach=m.lT c (firsts c m.reach).length:=h1;rw [<-h1'];omega
 exact ⟨(yu c hst _ hle).trans h1.symm,hst,hle⟩
end g_
namespace g_
variable {m:g_}
theorem Am (m:g_):∀K,∃d,m.Steps K d
 |0=>⟨0,bM _,fun j hj=>by omega,.inl rfl⟩
 |K+1=>by
  obtain ⟨d,h1,h2,h3⟩:=Am m K
  by_cases e:(m.pp (d+1)).2=(m.pp d).2
  ·exact ⟨d,ah,h2,.inr e⟩
  rcases h3 with rfl|h3
  ·refine ⟨d+1,bM _,fun j hj=> ?_,.inl rfl⟩
   by_cases ej:j=d
   ·rw [ej];exact e
   exact h2 j ah
  exact absurd h3 e
theorem Wl (ok:m.Ok) {j:Nat} (hj:m.h_.length<=j):m.part j=m.part m.h_.length:=by
 obtain ⟨d,hd⟩:=m.Am m.h_.length;obtain ⟨h1,h2⟩:=hd.rest ok ah;rw [h2 j ah,h2 m.h_.length ah]
theorem EU (ok:m.Ok) {j s t:Nat} (hj:m.h_.length<=j) (hs:s<m.h_.length) (ht:t<m.h_.length):m.eqv j s t↔m.eqv m.h_.length s t:=by
 rw [<-nR ok _ _ _ hs ht,<-nR ok _ _ _ hs ht,Wl ok hj]
def cl (m:g_) (x:Int):Int:=(m.part m.h_.length).getD x.toNat 0
theorem Lb (ok:m.Ok) {s t:Int} (_hs:0<=s) (hs':s<m.h_.length) (_ht:0<=t) (ht':t<m.h_.length):m.cl s=m.cl t↔m.eqv m.h_.length s.toNat t.toNat:=
 nR ok _ _ _ ah ah
theorem UJ (ok:m.Ok):m.afn m.cl:=by
 intro s t hs hs' ht ht' h x hx;rw [Lb ok hs hs' ht ht',<-EU ok (Nat.le_succ _) ah ah] at h;obtain ⟨a,ha,rfl⟩:=fq hx;have hl:=ok.rn s.toNat ah;have hl':=ok.rn t.toNat ah;have ha2:a<m.gZ.toNat:=ah;have ha':a<(m.h_.getD t.toNat []).length:=ah;have e1:m.nx s.toNat a=(m.h_.getD s.toNat [])[a]:=by unfold nx;rw [bS (l:=m.h_.getD s.toNat []),bN ha];rfl
 have e2:m.nx t.toNat a=(m.h_.getD t.toNat [])[a]:=by unfold nx;rw [bS (l:=m.h_.getD t.toNat []),bN ha'];rfl
 have r1:=ok.nx s.toNat a ah ha2;have r2:=ok.nx t.toNat a ah ha2;refine ⟨_,dQ ha',?_⟩;rw [<-e1,<-e2,Lb ok r1.1 r1.2 r2.1 r2.2];exact (h a ha2).2
theorem pI (ok:m.Ok) {x y:Int} (hx:x∈m.reach) (hy:y∈m.h_.getD x.toNat []):y∈m.reach:=by
 have h:=(ES ok (c:=id) (fun s t _ _ _ _ e x hx=>⟨x,by simpa [show s=t from e] using hx,rfl⟩) m.h_.length).2;rw [bY (og ok _)] at h;have:=h x hx y hy;rw [sD] at this;simpa [reach] using this
theorem En {i a:Nat} (hi:i<m.reach.length):m.trim.ot i a=m.ot (m.reach[i]).toNat a:=by
 unfold ot trim;simp only;rw [getD_map (fun s:Int=>m.out.getD s.toNat []) _ _ hi]
theorem Eo (ok:m.Ok) {i a:Nat} (hi:i<m.reach.length) (ha:a<m.gZ.toNat):∃j,∃hj:j<m.reach.length,m.trim.nx i a=(j:Int)/\m.reach[j]=m.nx (m.reach[i]).toNat a:=by
 obtain ⟨-,hr, -⟩:=ko ok;have hx:=hr _ (dQ hi);have hl:=ok.rn (m.reach[i]).toNat ah;have ha':a<(m.h_.getD (m.reach[i]).toNat []).length:=ah;have e1:m.nx (m.reach[i]).toNat a=(m.h_.getD (m.reach[i]).toNat [])[a]:=by unfold nx;rw [bS (l:=m.h_.getD (m.reach[i]).toNat []),bN ha'];rfl
 have hm:m.nx (m.reach[i]).toNat a∈m.reach:=pI ok (dQ hi) (by rw [e1];exact dQ ha');refine ⟨m.reach.idxOf (m.nx (m.reach[i]).toNat a),ap5 hm,?_,arG _⟩;unfold nx trim;simp only;rw [getD_map m.ng _ _ hi];unfold ng;rw [bS,dP,bN ha'];simp only [aqt,gV];rw [<-e1];unfold numOf;rw [bQ hm];rfl
theorem NA (ok:m.Ok):∀k i j (hi:i<m.reach.length) (hj:j<m.reach.length),m.trim.eqv k i j↔m.eqv k (m.reach[i]).toNat (m.reach[j]).toNat
 |0,_,_,_,_=>Iff.rfl
 |k+1,i,j,hi,hj=>by
  have ih:=NA ok k
  constructor
  ·intro h a ha
   obtain ⟨h1,h2⟩:=h a ha
   obtain ⟨i',hi',e1,e1'⟩:=Eo ok hi ha
   obtain ⟨j',hj',e2,e2'⟩:=Eo ok hj ha
   rw [En hi,En hj] at h1
   rw [e1,e2,dK,dK,ih i' j' hi' hj',e1',e2'] at h2
   exact ⟨h1,h2⟩
  intro h a ha
  obtain ⟨h1,h2⟩:=h a ha
  obtain ⟨i',hi',e1,e1'⟩:=Eo ok hi ha
  obtain ⟨j',hj',e2,e2'⟩:=Eo ok hj ha
  refine ⟨by rw [En hi,En hj];exact h1,?_⟩
  rw [e1,e2,dK,dK,ih i' j' hi' hj',e1',e2']
  exact h2
theorem NC (m:g_):m.trim.h_.length=m.reach.length:=by simp [trim]
theorem RL (ok:m.Ok) {i j:Nat} (hi:i<m.reach.length) (hj:j<m.reach.length):(m.trim.part m.reach.length).getD i 0=(m.trim.part m.reach.length).getD j 0↔m.cl (m.reach[i])=m.cl (m.reach[j]):=by
 obtain ⟨-,hr, -⟩:=ko ok;have hi':=hr _ (dQ hi);have hj':=hr _ (dQ hj);have rz:=KY ok;have hl:=m.NC;have hle:=qE ok;rw [Lb ok hi'.1 hi'.2 hj'.1 hj'.2,<-NA ok _ _ _ hi hj,nR rz _ _ _ ah ah,<-hl];exact (EU rz ah ah ah).symm
end g_
def kL (c:Int->Int) (l:List Int) (x:Int):Int:=((l.map c).idxOf (c x):Nat)
theorem tq (c:Int->Int) {l s:List Int} {x:Int} (h:c x∈l.map c):kL c (l++s) x=kL c l x:=by
 unfold kL;rw [eB,aqv,bQ h]
theorem ND (c:Int->Int) {l:List Int} {x:Int} (h:c x∉l.map c):kL c (l++[x]) x=l.length:=by
 unfold kL;rw [eB,aqv,bO h];simp
theorem EW (c:Int->Int) {l:List Int} {x y:Int} (h:c x=c y):kL c l x=kL c l y:=by unfold kL;rw [h]
theorem Ao {E:Nat->Nat->Bool} {c:Int->Int} {R:List Int}:∀k,k<=R.length->(∀s,s<k->∀t,t<s->(E t s=true↔c (R.getD t 0)=c (R.getD s 0)))->
    (canon E k).2=(firsts c (R.take k)).length/\(∀j,j<k->(canon E k).1.getD j 0=kL c (firsts c (R.take k)) (R.getD j 0))/\(∀j,j<k->c (R.getD j 0)∈(firsts c (R.take k)).map c)
 |0,_,_=>⟨by simp [canon,firsts,ji],fun j hj=>by omega,fun j hj=>by omega⟩
 |k+1,hk,hE=>by
  obtain ⟨h1,h2,h3⟩:=Ao (E:=E) (c:=c) (R:=R) k ah (fun s hs t ht=>hE s ah t ht)
  have hx:R.take (k+1)=R.take k++[R.getD k 0]:=by
   rw [dh,bS,bN ah];rfl
  have BP:=kr E k
  rw [hx,qI]
  rcases rT E (canon E k).1 k k (bM _) with ⟨l1,l2⟩|⟨t, -,t2,t3,t4, -⟩
  ·have hno:c (R.getD k 0)∉(firsts c (R.take k)).map c:=by
     rw [sD]
     intro hm
     obtain ⟨z,hz,hzc⟩:=aqJ.1 hm
     obtain ⟨j,hj,rfl⟩:=fq hz
     rw [dx] at hj
     have hjk:j<k:=ah
     have e:=l2 j ah hjk
     have:E j k=true:=(hE k ah j hjk).2 (by
      rw [bS (i:=j),bN ah]
      rw [List.getElem_take] at hzc
      exact hzc)
     rw [e] at this;cases this
   rw [bO hno,yh E (by rw [l1];decide)]
   refine ⟨by simp only [dB,eT];omega,fun j hj=> ?_,fun j hj=> ?_⟩
   ·simp only
    by_cases e:j=k
    ·subst e
     rw [bS,dN (by rw [jy];omega),jy,ND c hno,h1];simp
    rw [bS,dz (by rw [jy];omega),<-bS,h2 j ah,tq c (h3 j ah)]
   rw [eB,eG]
   by_cases e:j=k
   ·subst e;exact .inr aH
   exact .inl (h3 j ah)
  have hc:c (R.getD t 0)=c (R.getD k 0):=(hE k ah t t2).1 t3
  have hin:c (R.getD k 0)∈(firsts c (R.take k)).map c:=by rw [<-hc];exact h3 t t2
  have hge:¬look E (canon E k).1 k k<0:=by rw [t4];have:=(BP.2.2 t t2).1;omega
  rw [bQ hin,yj E hge]
  refine ⟨h1,fun j hj=> ?_,fun j hj=> ?_⟩
  ·simp only
   by_cases e:j=k
   ·subst e
    rw [bS,dN (by rw [jy];omega),jy]
    simp only [aq9,arZ,gV]
    rw [t4,h2 t t2,EW c hc]
   rw [bS,dz (by rw [jy];omega),<-bS,h2 j ah]
  by_cases e:j=k
  ·subst e;exact hin
  exact h3 j ah
namespace g_
variable {m:g_}
theorem EX (ok:m.Ok) {k:Nat} (hk:0<k):∃E:Nat->Nat->Bool,(∀s,s<m.h_.length->∀t,t<s->(E t s=true↔m.eqv k t s))/\m.part k=(canon E m.h_.length).1:=by
 obtain ⟨k,rfl⟩:∃j,k=j+1:=⟨k-1,ah⟩;exact ⟨m.lH (m.part k),fun s hs t ht=>uq ok k s hs t ht,rU m k⟩
def lF (m:g_):g_:=
 {gZ:=m.gZ,start:=0,h_:=(firsts m.cl m.reach).map (fun x=>(m.h_.getD x.toNat []).map (kL m.cl (firsts m.cl m.reach))),out:=(firsts m.cl m.reach).map fun x=>m.out.getD x.toNat []}
theorem CX {cls:List Int} {c:Int->Int} {R:List Int} (hl:cls.length=R.length) (h:∀j,j<R.length->cls.getD j 0=kL c (firsts c R) (R.getD j 0)):
    ∀k,k<=R.length->(nS cls k).map (fun s=>R.getD s 0)=firsts c (R.take k)
 |0,_=>by simp [nS,firsts,ji]
 |k+1,hk=>by
  have ih:=CX hl h k ah
  have hx:R.take (k+1)=R.take k++[R.getD k 0]:=by
   rw [dh,bS,bN ah];rfl
  have iX:(nS cls k).length=(firsts c (R.take k)).length:=by rw [<-ih,dJ]
  obtain ⟨s,hs⟩:=yY c (R.take k) (R.drop k)
  rw [fJ] at hs
  have hv:=h k ah
  rw [hx,qI]
  by_cases hin:c (R.getD k 0)∈(firsts c (R.take k)).map c
  ·have hlt:cls.getD k 0<(nS cls k).length:=by
     rw [hv,hs,tq c hin,iX]
     unfold kL
     have:=ap5 hin
     rw [dJ] at this
     omega
   rw [bQ hin,Nw hlt,ih]
  have hlt:¬cls.getD k 0<(nS cls k).length:=by
   rw [hv,hs,iX]
   unfold kL
   rw [eB,aqv,bO hin,dJ]
   omega
  rw [bO hin,Ny hlt,eB,ih];rfl
theorem Lc {cls:List Int}:∀k,∀s∈nS cls k,s<k
 |0,s,h=>by simp [nS] at h
 |k+1,s,h=>by
  have ih:=Lc (cls:=cls) k
  simp only [nS] at h
  split at h
  ·exact Nat.lt_succ_of_lt (ih s h)
  rw [eG,dZ] at h
  rcases h with h|rfl
  ·exact Nat.lt_succ_of_lt (ih s h)
  exact gL _
theorem jU (h:m.err=0):m.minOf=m.lF:=by
 have ok:=m.iG h;have rz:=KY ok;have hl:=m.NC;have hle:=qE ok;have n1:=ok.n1;obtain ⟨-,hr,hp⟩:=ko ok;have ht:m.trim.err=0:=oM _ rz;have NG:m.trim.partOf 128=m.trim.part m.reach.length:=by unfold partOf;rw [bQ ht,hl,show min (128:Int).toNat m.reach.length=m.reach.length from by omega]
 obtain ⟨E,hE,hc⟩:=EX rz hp;rw [hl] at hE hc;have hg:∀j (hj:j<m.reach.length),m.reach.getD j 0=m.reach[j]:=fun j hj=>by rw [bS,bN hj];rfl
 have hEc:∀s,s<m.reach.length->∀t,t<s->(E t s=true↔m.cl (m.reach.getD t 0)=m.cl (m.reach.getD s 0)):=fun s hs t ht=>by
  rw [hE s hs t ht,hg s hs,hg t ah,<-RL ok ah hs,nR rz _ _ _ ah ah]
 obtain ⟨-,h2, -⟩:=Ao (E:=E) (c:=m.cl) (R:=m.reach) m.reach.length (bM _) hEc;rw [dV] at h2;have hcl:(m.trim.part m.reach.length).length=m.reach.length:=by rw [qF,hl]
 have hval:∀j,j<m.reach.length->(m.trim.part m.reach.length).getD j 0=kL m.cl (firsts m.cl m.reach) (m.reach.getD j 0):=fun j hj=>by rw [hc];exact h2 j hj
 have aex:=CX hcl hval m.reach.length (bM _);rw [dV] at aex;unfold minOf;rw [bQ h,NG];unfold Za lF;rw [hcl];generalize hF:kL m.cl (firsts m.cl m.reach)=f at*
 rw [<-aex,aru,aru];have yP:∀s∈nS (m.trim.part m.reach.length) m.reach.length,m.trim.wY (m.trim.part m.reach.length) s=(m.h_.getD (m.reach.getD s 0).toNat []).map f:=by
  intro s hs;have hsl:=Lc _ s hs;unfold wY;have e:m.trim.h_.getD s []=m.ng (m.reach[s]):=getD_map _ _ _ hsl;rw [e,hg s hsl];unfold ng;rw [aru];apply fP;intro x hx;have CY:x∈m.reach:=pI ok (dQ hsl) hx;have hlt:=ap5 CY;have hn:numOf m.reach x=(m.reach.idxOf x:Nat):=by unfold numOf;rw [bQ CY]
  simp only [Function.comp];rw [hn,dK,hval _ hlt,hg _ hlt,arG]
 have Wm:∀s∈nS (m.trim.part m.reach.length) m.reach.length,m.trim.out.getD s []=m.out.getD (m.reach.getD s 0).toNat []:=by intro s hs;have hsl:=Lc _ s hs;rw [hg s hsl];exact getD_map (fun s:Int=>m.out.getD s.toNat []) _ _ hsl
 rw [fP yP,fP Wm];rfl
end g_
def IY (c:Int->Int) (l:List Int) (v:Int):Int:=if v∈l.map c then ((l.map c).idxOf v:Nat) else -1
theorem Ld {c:Int->Int} {l:List Int} {x:Int} (h:c x∈l.map c):IY c l (c x)=kL c l x:=by unfold IY kL;rw [bQ h]
theorem NH {c:Int->Int} {l:List Int} {v:Int}:IY c l v<0↔v∉l.map c:=by
 unfold IY;by_cases h:v∈l.map c
 ·rw [bQ h];constructor;·intro h2;omega
  intro h2;exact absurd h h2
 rw [bO h];exact ⟨fun _=>h,fun _=>by decide⟩
structure EY (n:Nat) (c:Int->Int) (l num:List Int):Prop where
 len:num.length=n
 val:∀v,v<n->num[v]? =some (IY c l v)
theorem EY.init {n:Nat} {c:Int->Int} {num:List Int} (h:num=List.replicate n (-1)):EY n c [] num:=by
 subst h;exact ⟨aH,fun v hv=>by rw [ap3,bQ hv];simp [IY]⟩
theorem EY.push {n:Nat} {c:Int->Int} {l num:List Int} (h:EY n c l num) {x:Int} {v:Nat} (hv:v<n) (hx:c x=v) (hn:c x∉l.map c):EY n c (l++[x]) (num.set v l.length):=by
 refine ⟨by rw [fB];exact h.len,fun u hu=> ?_⟩;by_cases e:u=v;·subst e;rw [fI (by rw [h.len];exact hu),<-hx,Ld aH,ND c hn]
 rw [dY ah,h.val u hu];unfold IY;rw [eB,fQ,ap7,hx];by_cases hm:(u:Int)∈l.map c;·rw [bQ hm,bQ (by rw [eG];exact .inl hm),aqv,bQ hm]
 have hm2:(u:Int)∉l.map c++[(v:Int)]:=by
  rw [eG,dZ];intro h1;rcases h1 with h1|h1;·exact hm h1
  omega
 rw [bO hm,bO hm2]
theorem g_.EZ {m:g_} (ok:m.Ok) {x:Int} (_h0:0<=x) (h1:x<m.h_.length):0<=m.cl x/\m.cl x<m.h_.length:=by
 obtain ⟨E, -,hc⟩:=g_.EX ok ok.n0;have h:=kr E m.h_.length;have h2:=h.2.2 x.toNat ah;unfold g_.cl;rw [hc];omega
theorem zA (c:Int->Int) {Q:Int->Prop}:∀(r l:List Int),(∀x∈l,Q x)->(∀x∈r,Q x)->∀x∈ji c l r,Q x
 |[],_,hl,_=>hl
 |t::r,l,hl,hr=>by
  simp only [ji]
  refine zA c r _ ?_ fun x hx=>hr x (by simp [hx])
  split
  ·exact hl
  intro x hx
  rw [eG,dZ] at hx
  rcases hx with hx|rfl
  ·exact hl x hx
  exact hr _ aH
theorem Ap (c:Int->Int):∀(r l:List Int),(l.map c).Nodup->((ji c l r).map c).Nodup
 |[],_,h=>h
 |t::r,l,h=>by
  simp only [ji]
  refine Ap c r _ ?_
  split
  ·exact h
  rename_i hn
  rw [eB,arI]
  refine ⟨h,aH,fun a ha b hb=> ?_⟩
  simp only [fQ,ap7,dZ] at hb
  subst hb
  intro e
  exact hn (e▸ha)
structure Good (m:g_) (l:List Int):Prop where
 range:∀x∈l,0<=x/\x<m.h_.length
 nodup:(l.map m.cl).Nodup
theorem Good.le {m:g_} (ok:m.Ok) {l:List Int} (h:Good m l):l.length<=m.h_.length:=by
 have:=qD m.h_.length (l.map m.cl) h.nodup (fun y hy=>by
  obtain ⟨x,hx,rfl⟩:=aqJ.1 hy
  obtain ⟨h0,h1⟩:=h.range x hx
  exact g_.EZ ok h0 h1)
 rwa [dJ] at this
theorem Good.visit {m:g_} {l r:List Int} (h:Good m l) (hr:∀x∈r,0<=x/\x<m.h_.length):Good m (ji m.cl l r):=
 ⟨zA _ r l h.range hr,Ap _ r l h.nodup⟩
theorem Good.lT {m:g_} (ok:m.Ok):∀i,Good m (m.lT m.cl i)
 |0=>⟨fun x hx=>by simp [g_.lT] at hx;subst hx;exact ⟨ok.s0,ok.s1⟩,by simp [g_.lT]⟩
 |i+1=>by
  have ih:=Good.lT ok i
  rw [g_.qh]
  split
  ·rename_i h
   refine ih.visit fun x hx=>g_.kN ok ?_ hx
   have:=ih.range _ (dQ h)
   rw [bS,bN h,gV]
   omega
  exact ih
theorem Wn {m:g_} {ord od:List Int} {k:Nat} {x:Int} (hx:ord[k]? =some x) (hod:od=ji m.cl ord (m.h_.getD x.toNat [])) (hcl:∀z∈ord.take k,∀y∈m.h_.getD z.toNat [],m.cl y∈ord.map m.cl):(od.take (k+1)).map (fun z=>(m.h_.getD z.toNat []).map (kL m.cl od))=(ord.take k).map (fun z=>(m.h_.getD z.toNat []).map (kL m.cl ord))++[(m.h_.getD x.toNat []).map (kL m.cl od)]/\ (od.take (k+1)).map (fun z=>m.out.getD z.toNat [])=(ord.take k).map (fun z=>m.out.getD z.toNat [])++[m.out.getD x.toNat []]/\ ∀z∈od.take (k+1),∀y∈m.h_.getD z.toNat [],m.cl y∈od.map m.cl:=by
 have hk:k<ord.length:=by
  by_cases h:k<ord.length;·exact h
  rw [bZ ah] at hx;simp at hx
 obtain ⟨s,hs⟩:=mE m.cl (m.h_.getD x.toNat []) ord;have ht:od.take (k+1)=ord.take k++[x]:=by rw [hod,hs,fU ah,dh,hx];rfl
 refine ⟨?_,?_,?_⟩
 ·rw [ht,eB];congr 1
  apply fP;intro z hz;apply fP;intro y hy;rw [hod,hs];exact tq m.cl (hcl z hz y hy)
 ·rw [ht,eB];rfl
 intro z hz y hy;rw [hod,om];rw [ht,eG,dZ] at hz;rcases hz with hz|rfl;·exact .inl (hcl z hz y hy)
 exact .inr (gU hy)
theorem Zc {m:g_} (h:m.err=0) {k:Nat} (hk:¬k<(m.lT m.cl k).length) (hk2:k<=m.h_.length):m.minOf={gZ:=m.gZ,start:=0,h_:=(m.lT m.cl k).map (fun x=>(m.h_.getD x.toNat []).map (kL m.cl (m.lT m.cl k))),out:=(m.lT m.cl k).map fun x=>m.out.getD x.toNat []}:=by
 have ok:=m.iG h;obtain ⟨h1, -, -⟩:=g_.ET ok (g_.UJ ok);have h2:=g_.yu m.cl hk m.h_.length hk2;rw [g_.jU h];unfold g_.lF;rw [<-h1,h2]
theorem RN {m:g_} {ord od od2 r:List Int} {j:Nat} {t:Int} (hj:r[j]? =some t) (hod:od=ji m.cl ord (r.take j)) (ah9:od2=ji m.cl ord (r.take (j+1))):(r.take (j+1)).map (kL m.cl od2)=(r.take j).map (kL m.cl od)++[kL m.cl od2 t]/\m.cl t∈od2.map m.cl/\od2=if m.cl t∈od.map m.cl then od else od++[t]:=by
 have ht:r.take (j+1)=r.take j++[t]:=by rw [dh,hj];rfl
 have h2:od2=if m.cl t∈od.map m.cl then od else od++[t]:=by rw [ah9,ht,CV,<-hod]
 refine ⟨?_,?_,h2⟩
 ·rw [ht,eB];congr 1
  apply fP;intro y hy;have hin:m.cl y∈od.map m.cl:=by rw [hod,om];exact .inr (gU hy)
  rw [h2];split;·rfl
  exact tq m.cl hin
 rw [ah9,om,ht];exact .inr aH
