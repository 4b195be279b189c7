/- Several texts, one behind the other. Conditions: as each of them says. -/
import Derived.Test.YtjagagpcjpcjjaaGreatMc47
import Derived.Test.YtjagagpcjpcjjaaGreatMc46
import Derived.Test.YtjagagpcjpcjjaaGreatMc14
import Derived.Test.YtjagagpcjpcjjaaGreatMc7
set_option maxRecDepth 100000
set_option maxHeartbeats 32000000
namespace Go.Proofs.YtjagagpcjpcjjaaGreat
open Go.RowKit
theorem rwF_step {k n s:Nat} {W:List Int}:rwF k (n+1) s W=rwF k n (drawN s k).2 (W++[((drawN s k).1:Int)]):=rfl
theorem rwF_len {k:Nat}:∀(n s:Nat) (W:List Int),(rwF k n s W).1.length=W.length+n
 |0,_,_=>rfl
 |n+1,s,W=>by rw [rwF_step,rwF_len n];simp;omega
theorem rsF_step {k l n s:Nat} {L:List (List Int)}:rsF k l (n+1) s L=rsF k l n (rwN s k l).2 (L++[(rwN s k l).1]):=rfl
theorem rsF_len {k l:Nat}:∀(n s:Nat) (L:List (List Int)),(rsF k l n s L).length=L.length+n
 |0,_,_=>rfl
 |n+1,s,L=>by rw [rsF_step,rsF_len n];simp;omega
theorem rsF_mem {k l:Nat}:∀(n s:Nat) (L:List (List Int)),(∀r∈L,r.length=l)→∀r∈rsF k l n s L,r.length=l
 |0,_,_,h=>h
 |n+1,s,L,h=>by
  rw [rsF_step]
  refine rsF_mem n _ _ fun r hr=> ?_
  rcases List.mem_append.1 hr with hr|hr
  ·exact h r hr
  rw [List.mem_singleton.1 hr];unfold rwN;rw [rwF_len];simp
theorem rsW_small {s:Nat} {i c l:Int}:(rsW s i c l).1.length≤10000∧∀r∈(rsW s i c l).1,r.length≤1024:=by
 unfold rsW
 split
 ·simp
 rename_i h
 refine ⟨?_,fun r hr=> ?_⟩
 ·show (rsF _ _ _ _ _).length≤_
  rw [rsF_len];simp;omega
 have:=rsF_mem _ _ _ (by simp) r hr
 omega
def RwR (s k n:Nat) (w:World) (e:Ending) (w':World):Prop:=∃(a:Option Addr) (c:Nat) (L:List Int) (st:Nat),e= .returned (.tuple #[.slice a L.length c,.int .u64 ((st:Nat):Int),.int .i64 0])∧Hid (rwN s k n=(L,st))∧Hid (st<M64)∧Sl (fun k=>k<w.heap.size) w' a c L∧Below w.heap.size w w'
section
variable {w:World}
theorem rword_any {s k n:Nat} (hs:s<M64) (hk:0<k) (hk2:k≤1024) (hn:n≤1024):
    Calls Tryz.prog 86 #[.int .u64 (s:Int),.int .i64 (k:Int),.int .i64 (n:Int)] w (RwR s k n w):=by
 have HS:=Lib.hid hs
 have t1:¬((k:Int)<1):=by omega
 have t2:¬(1024<(k:Int)):=by omega
 have t3:¬((n:Int)<0):=by omega
 have t4:¬(1024<(n:Int)):=by omega
 clear hs
 go_enter Tryz.func86,Tryz.ntmps86
 go_wp2_with (at_make;refine wpList_mk_i (B:=w.heap.size) (n:=n) rfl rfl Tryz.underlying49 info_int rfl (by omega) (Nat.le_refl _) ?_)
 intro g c l w2 hl hO hb2 hg
 have hln:l.length=n:=by rw [hl.out];simp
 rw [hln] at hO ⊢
 have hl0:Hid (l=[]++List.replicate (n-0) 0):=by unfold Hid;rw [hl.out];simp
 have hW0:Hid (rwF k (n-0) s []=rwN s k n):=rfl
 have hWl0:Hid (([]:List Int).length=0):=rfl
 clear hln hl
 go_wp2
 go_loopw [0,28] (fun st i wr=>∃(j t:Nat) (W L:List Int),j≤n∧i= .int .i64 j∧st= .int .u64 (t:Int)∧Hid (t<M64)∧Hid (rwF k (n-j) t W=rwN s k n)∧Hid (W.length=j)∧Hid (L=W++List.replicate (n-j) 0)∧Ow w.heap.size (fun k=>w.heap.size≤k) wr 3 (.slice (some ⟨g,0,none⟩) n c) L∧Below w.heap.size w wr) (fun _ i _=>n-(intOf i).toNat)
 case atStart=>exact ⟨0,s,[],l,by omega,rfl,rfl,HS,hW0,hWl0,hl0,hO,hb2⟩
 case round=>
  clear hl0 hW0 hWl0 hO hb2
  obtain ⟨j,t,W,L,hj,rfl,rfl,ht,hW,hWl,hL,hO,hB⟩:=hrel
  obtain ⟨w3,rfl⟩:∃w3:World,w3=wr:=⟨_,rfl⟩
  have hLl:n=L.length:=by rw [hL.out,List.length_append,hWl.out,List.length_replicate];omega
  by_cases hlt:j<n
  ·obtain ⟨g',z,hgg,hcz,hfz, -, -⟩:=hO.at_int' hLl (show j<L.length by omega)
   obtain rfl:g'=g:=by simpa using hgg.symm
   have HC0:=below_any (w:=w3) ht.out hk (show k<1000000 by omega)
   have hx1:=drawN_lt (s:=t) hk
   have hx2:=drawN_st (k:=k) ht.out
   have hstep:rwF k (n-j) t W=rwF k (n-(j+1)) (drawN t k).2 (W++[((drawN t k).1:Int)]):=by
    rw [show n-j=(n-(j+1))+1 by omega];rfl
   rw [hstep] at hW
   obtain ⟨⟨x,t2⟩,hd⟩:∃p,p=drawN t k:=⟨_,rfl⟩
   rw [←hd] at HC0 hx1 hx2 hW
   have HC:=Lib.hid HC0
   have HX2:=Lib.hid hx2
   have hO4:=Lib.hid (hO.set_int hLl (by omega) j (show i64 ((x:Nat):Int) by unfold i64;have:x<k:=hx1;omega))
   have hB4:=Lib.hid (hB.setCell (p:=⟨g',j,none⟩) (by show w.heap.size≤g';omega) (.int .i64 (x:Int)))
   have hL4:Hid (L.set j ((x:Nat):Int)=(W++[((x:Nat):Int)])++List.replicate (n-(j+1)) 0):=by
    unfold Hid
    rw [hL.out,show n-j=(n-(j+1))+1 by omega,List.replicate_succ,←hWl.out]
    simp
   have hWl2:Hid ((W++[((x:Nat):Int)]).length=j+1):=by unfold Hid;rw [List.length_append,hWl.out];rfl
   have HW:=Lib.hid hW.out
   clear hO hB hL hLl hgg HC0 hx1 hx2 hd hstep hW
   go_wp2_with fail
   refine (HC.out).mono ?_
   rintro e w4 ⟨rfl,hw4⟩
   obtain rfl:w3=w4:=hw4.symm
   clear HC
   go_wp2
   go_roundw
   case rel=>exact ⟨j+1,t2,W++[((x:Nat):Int)],L.set j ((x:Nat):Int),by omega,by go_num,rfl,HX2,HW.out,hWl2,hL4,hO4.out,hB4.out⟩
   case measure=>simp [intOf];omega
  have hF : Hid (rwN s k n = (L, t)) := by
   unfold Hid
   rw [←hW.out,hL.out,show n-j=0 by omega];simp [rwF]
  have HLl:=Lib.hid hLl
  rw [hLl] at hO
  have hS:=hO.fresh (n:=w.heap.size) (Nat.le_refl _)
  clear hO hL hW hLl
  go_wp2
  go_ret3
  exact ⟨some ⟨g,0,none⟩,c,L,t,by rw [←HLl.out];rfl,hF,ht,hS,hB⟩
end
def wrongB (c l:Int):Bool:=decide (c<0∨10000<c∨l<0∨1024<l)
def RsR (s:Nat) (i c l:Int) (w:World) (e:Ending) (w':World):Prop:=∃(a:Option Addr) (cp:Nat) (L:List (List Int)) (er:Int),e= .returned (.tuple #[.slice a L.length cp,.int .i64 er])∧Hid (rsW s i c l=(L,er))∧Sl (fun k=>k<w.heap.size) w' a cp L∧Below w.heap.size w w'
section
variable {w:World}
theorem wrong_any (c l:Int):Calls Tryz.prog 85 #[.int .i64 c,.int .i64 l] w fun e w'=>e= .returned (.bool (wrongB c l))∧w'=w:=by
 by_cases h1:c<0
 ·have HV:Hid ((wrongB c l)=true):=by unfold Hid wrongB;rw [decide_eq_true (.inl h1)]<;>rfl
  have h1c:¬0≤c:=by omega
  go_enter Tryz.func85,Tryz.ntmps85
  go_wp2
  go_ret
  exact ⟨by rw [HV.out];rfl,rfl⟩
 have h1c:0≤c:=by omega
 by_cases h2:10000<c
 ·have HV:Hid ((wrongB c l)=true):=by unfold Hid wrongB;rw [decide_eq_true (.inr (.inl h2))]<;>rfl
  have h2c:¬c≤10000:=by omega
  go_enter Tryz.func85,Tryz.ntmps85
  go_wp2
  go_ret
  exact ⟨by rw [HV.out];rfl,rfl⟩
 have h2c:c≤10000:=by omega
 by_cases h3:l<0
 ·have HV:Hid ((wrongB c l)=true):=by unfold Hid wrongB;rw [decide_eq_true (.inr (.inr (.inl h3)))]<;>rfl
  have h3c:¬0≤l:=by omega
  go_enter Tryz.func85,Tryz.ntmps85
  go_wp2
  go_ret
  exact ⟨by rw [HV.out];rfl,rfl⟩
 have h3c:0≤l:=by omega
 by_cases h4:1024<l
 ·have HV:Hid ((wrongB c l)=true):=by unfold Hid wrongB;rw [decide_eq_true (.inr (.inr (.inr h4)))]<;>rfl
  have h4c:¬l≤1024:=by omega
  go_enter Tryz.func85,Tryz.ntmps85
  go_wp2
  go_ret
  exact ⟨by rw [HV.out];rfl,rfl⟩
 have h4c:l≤1024:=by omega
 have HV:Hid ((wrongB c l)=false):=by unfold Hid wrongB;rw [decide_eq_false (by omega)]<;>rfl
 go_enter Tryz.func85,Tryz.ntmps85
 go_wp2
 go_ret
 exact ⟨by rw [HV.out];rfl,rfl⟩
theorem rsuite_any {s:Nat} (i c l:Int) (hs:s<M64):Calls Tryz.prog 37 #[.int .u64 (s:Int),.int .i64 i,.int .i64 c,.int .i64 l] w (RsR s i c l w):=by
 by_cases h1:i<1
 ·have HV:Hid (rsW s i c l=([],2)):=by unfold Hid rsW;rw [if_pos (.inl h1)]
  go_enter Tryz.func37,Tryz.ntmps37
  go_wp2
  go_ret2
  exact ⟨none,0,[],2,rfl,HV.out,Sl.nil _ _ _ (by unfold maxLen;omega),Below.refl _ _⟩
 by_cases h2:64<i
 ·have HV:Hid (rsW s i c l=([],2)):=by unfold Hid rsW;rw [if_pos (.inr (.inl h2))]
  go_enter Tryz.func37,Tryz.ntmps37
  go_wp2
  go_ret2
  exact ⟨none,0,[],2,rfl,HV.out,Sl.nil _ _ _ (by unfold maxLen;omega),Below.refl _ _⟩
 have HWr0:=wrong_any (w:=w) c l
 by_cases h3:c<0∨10000<c∨l<0∨1024<l
 ·have HV:Hid (rsW s i c l=([],2)):=by unfold Hid rsW;rw [if_pos (.inr (.inr h3))]
  have e1:wrongB c l=true:=by unfold wrongB;rw [decide_eq_true h3]
  rw [e1] at HWr0
  have HWr:=Lib.hid HWr0
  clear HWr0 e1 h3
  go_enter Tryz.func37,Tryz.ntmps37
  go_wp2_with fail
  refine (HWr.out).mono ?_
  rintro e w1 ⟨rfl,hw1⟩
  obtain rfl:w=w1:=hw1.symm
  go_wp2
  go_ret2
  exact ⟨none,0,[],2,rfl,HV.out,Sl.nil _ _ _ (by unfold maxLen;omega),Below.refl _ _⟩
 have e1:wrongB c l=false:=by unfold wrongB;rw [decide_eq_false h3]
 rw [e1] at HWr0
 have HWr:=Lib.hid HWr0
 obtain ⟨k,rfl⟩:=Int.eq_ofNat_of_zero_le (show 0≤i by omega)
 obtain ⟨n,rfl⟩:=Int.eq_ofNat_of_zero_le (show 0≤c by omega)
 obtain ⟨len,rfl⟩:=Int.eq_ofNat_of_zero_le (show 0≤l by omega)
 have HV:Hid (rsW s (k:Int) (n:Int) (len:Int)=(rsF k len n s [],0)):=by unfold Hid rsW;rw [if_neg (by omega)];rfl
 have hk1:0<k:=by omega
 have hk2:k≤64:=by omega
 have hn:n≤10000:=by omega
 have hlen:len≤1024:=by omega
 have HS:=Lib.hid hs
 have hL0:Hid (rsF k len (n-0) s []=rsF k len n s []):=rfl
 have hb0:=Below.refl w.heap.size w
 clear HWr0 e1 h3 hs
 go_enter Tryz.func37,Tryz.ntmps37
 go_wp2_with fail
 refine (HWr.out).mono ?_
 rintro e w1 ⟨rfl,hw1⟩
 obtain rfl:w=w1:=hw1.symm
 clear HWr
 go_wp2_with (at_make;refine wpList_mk0 (α:=List Int) rfl _ _ _ rfl _ _ _ Tryz.underlying22 info_ints w.heap.size (fun k=>(Value.slice (some ⟨w.heap.size,0,none⟩) 0 n).ownBlock=some k∨k<w.heap.size) n rfl rfl (by omega) (by unfold maxLen;omega) (Nat.le_refl _) ?_)
 intro w1 hO1 hb1
 have hO0:Ox (α:=List Int) w.heap.size w.heap.size w1 49 (.slice (some ⟨w.heap.size,0,none⟩) ([]:List (List Int)).length n) ([]:List (List Int)):=hO1
 have hb0:=hb1
 have hKl0:Hid (([]:List (List Int)).length=0):=rfl
 clear hO1 hb1
 go_wp2
 go_loopw [0,10,28] (fun st v i wr=>∃(j t:Nat) (a':Option Addr) (c':Nat) (K:List (List Int)),j≤n∧i= .int .i64 j∧st= .int .u64 (t:Int)∧v= .slice a' K.length c'∧Hid (t<M64)∧Hid (rsF k len (n-j) t K=rsF k len n s [])∧Hid (K.length=j)∧Ox w.heap.size w.heap.size wr 49 (.slice a' K.length c') K∧Below w.heap.size w wr) (fun _ _ i _=>n-(intOf i).toNat)
 case atStart=>exact ⟨0,s,_,_,[],by omega,rfl,rfl,rfl,HS,hL0,hKl0,hO0,hb0⟩
 case round=>
  clear hO0 hL0 hb0
  obtain ⟨j,t,a',c',K,hj,rfl,rfl,rfl,ht,hK,hKl,hO,hB⟩:=hrel
  obtain ⟨w3,rfl⟩:∃w3:World,w3=wr:=⟨_,rfl⟩
  have hzo:=hB.size
  by_cases hlt:j<n
  ·have HC:=Lib.hid (rword_any (w:=w3) ht.out hk1 (show k≤1024 by omega) hlen)
   have hstep:Hid (∀r st,rwN t k len=(r,st)→rsF k len (n-(j+1)) st (K++[r])=rsF k len n s []):=fun r st h=>by
    rw [←hK.out,show n-j=(n-(j+1))+1 by omega,rsF_step,h]
   have hKll:K.length<1000000000000:=by have:=hKl.out;omega
   clear hK
   go_wp2_with fail
   refine (HC.out).mono ?_
   rintro e w4 ⟨ar,cr,r,st,rfl,hr,hst,hsr,hb4⟩
   have hK2:=Lib.hid (hstep.out _ _ hr.out)
   have hO4:=Ox.later hO hb4
   have hB4:=hB.trans (hb4.mono hzo)
   have hS4:Sl (fun k=>(Value.slice a' K.length c').ownBlock=some k∨k<w.heap.size) w4 ar cr r:=hsr.anti fun k _ hm=>by
    rcases hm with hm|hm
    ·exact (hO.lt k hm).2
    show k<_;omega
   have hll:=hsr.le
   have hz4:=hB4.size
   clear HC hO hsr hb4 hB hr hstep
   go_wp2_with (at_builtin;refine wpList_push_x (n0:=w.heap.size) (B:=w.heap.size) (r:=r) (ar:=ar) (cr:=cr) rfl rfl Tryz.underlying22 info_ints rfl rfl (hO4.alloc _) (by simp [go_sem]) (hS4.alloc _) hKll (by simp;omega) ?_)
   intro a9 c9 K9 w9 hK9 hO9 hbk hgr
   have hB9:=(hB4.alloc hz4 (.cells #[.slice ar r.length cr] 49)).grown hgr (by simp;omega) (fun k hk=>(hO4.lt k hk).1)
   have hKn:Hid (rsF k len (n-(j+1)) st K9=rsF k len n s []):=by unfold Hid;rw [hK9.out];exact hK2.out
   have hKnl:Hid (K9.length=j+1):=by unfold Hid;rw [hK9.out,List.length_append,hKl.out];rfl
   clear hbk hgr hK9 hO4 hB4 hS4 hz4 hK2
   go_wp2
   go_roundw
   case rel=>exact ⟨j+1,st,a9,c9,K9,by omega,by go_num,rfl,rfl,hst,hKn,hKnl,hO9,hB9⟩
   case measure=>simp [intOf];omega
  have hF : Hid (rsW s (k : Int) (n : Int) (len : Int) = (K, 0)) := by
   unfold Hid
   rw [HV.out,←hK.out,show n-j=0 by omega];rfl
  have hS:=hO.toSl (Nat.le_refl _)
  clear hO hK
  go_wp2
  go_ret2
  exact ⟨a',c',K,0,rfl,hF,hS,hB⟩
end
theorem Stg.err_0 {s:Stg} (h:s.err=0):(s.kind=1∨s.kind=2∨s.kind=3∨s.kind=4)∧(s.kind=4→0≤s.count∧s.count≤10000∧0≤s.len∧s.len≤1024):=by
 unfold Stg.err at h
 split at h
 ·omega
 split at h
 ·split at h
  ·omega
  split at h<;>omega
 omega
theorem rsW_ok {s:Nat} {i c l:Int} (hi:1≤i∧i≤64) (h:0≤c∧c≤10000∧0≤l∧l≤1024):(rsW s i c l).2=0:=by
 unfold rsW
 rw [if_neg (by omega)]
section
variable {M:Nat→Prop} {w:World} {an ao:Option Addr} {cn co:Nat} {m:Mach}
theorem twords_any (hm:Ma M w an cn ao co m) (s:Stg) (hsd:Hid (s.seed<M64)):Calls Tryz.prog 12 #[maV m an cn ao co,stV s] w (TwR m s w):=by
 have hB0:=((Below.refl w.heap.size w).alloc (Nat.le_refl _) (maO m an cn ao co)).alloc (by simp) (stO s)
 have g1:(w.alloc (maO m an cn ao co)).heap.size=w.heap.size+1:=by simp
 have hx0:C4 ((w.alloc (maO m an cn ao co)).alloc (stO s)) w.heap.size an cn ao co m:=(c4_new w).below (B:=w.heap.size+1) ((Below.refl _ _).alloc (by rw [g1];exact Nat.le_refl _) _) (by omega)
 have hs0:S5 ((w.alloc (maO m an cn ao co)).alloc (stO s)) (w.heap.size+1) s:=by
  have h:=s5_new (w.alloc (maO m an cn ao co)) s
  rw [g1] at h
  exact h
 have hz0:w.heap.size+2≤((w.alloc (maO m an cn ao co)).alloc (stO s)).heap.size:=by simp
 have l1:=hm.next.le
 have l2:=hm.out.le
 have HM:=Lib.hid (hm.below hB0)
 clear hm g1
 go_enter Tryz.func12,Tryz.ntmps12
 go_upto_region 1 with (fail)
 generalize (w.alloc (maO m an cn ao co)).alloc (stO s)=w0 at*
 have HS:Hid (∀w',Below w0.heap.size w0 w'→C4 w' w.heap.size an cn ao co m∧S5 w' (w.heap.size+1) s∧Ma M w' an cn ao co m∧Below w.heap.size w w'∧w.heap.size+2≤w'.heap.size):=fun w' h=>
  ⟨hx0.below h (by omega),hs0.below h (by omega),HM.out.below h,hB0.trans (h.mono (by omega)),by have:=h.size;omega⟩
 have hb0:=Below.refl w0.heap.size w0
 clear hx0 hs0 hB0 hz0
 have HV:=Lib.hid (valid_any (HS.out _ hb0).2.2.1)
 have hc:=(HS.out _ hb0).1
 obtain ⟨d0,d1,d2,d3⟩:=hc
 go_wp2_with fail
 refine (HV.out).mono ?_
 rintro e w1 ⟨rfl,hb1⟩
 clear d0 d1 d2 d3 HV hb0
 by_cases he:m.err=0
 ·have he':(m.err !=0)=false:=by simp [he]
  have HE:=Lib.hid he
  have ok:Hid m.Ok:=Mach.ok_of_err m HE.out
  clear he
  have HSv:=Lib.hid (svalid_any (w:=w1) s)
  obtain ⟨s0,s1,s2,s3,s4⟩:=(HS.out _ hb1).2.1
  go_wp2_with fail
  refine (HSv.out).mono ?_
  rintro e w2 ⟨rfl,hb2⟩
  have hb2:=hb1.trans (hb2.mono hb1.size)
  clear s0 s1 s2 s3 s4 HSv hb1
  by_cases hse:s.err=0
  ·have hse':(s.err !=0)=false:=by simp [hse]
   have hk:=(Stg.err_0 hse).1
   have hcl:=(Stg.err_0 hse).2
   have HSE:=Lib.hid hse
   clear hse
   have HS2:=HS.out _ hb2
   obtain ⟨d0,d1,d2,d3⟩:=HS2.1
   obtain ⟨s0,s1,s2,s3,s4⟩:=HS2.2.1
   rcases hk with hk|hk|hk|hk
   ·have HR:Hid (∀L e1,m.wsW s.extra=(L,e1)→m.twW s=(L,e1)):=fun L e1 h=>by unfold Mach.twW;rw [if_neg (by simp [HE.out]),if_neg (by simp [HSE.out]),if_pos hk,h]
    have HC:=Lib.hid (wsuite_any HS2.2.2.1 s.extra)
    have hzz:=HS2.2.2.2.2
    have hBz:=HS2.2.2.2.1
    clear hcl HS2
    rw [hk] at s0
    clear hk
    go_wp2_with fail
    refine (HC.out).mono ?_
    rintro e w3 ⟨a3,c3,L,e1,rfl,hL,hS3,hb3⟩
    have hBf:=hBz.trans (hb3.mono (by omega))
    have hSf:=hS3.anti (M':=fun k=>k<w.heap.size) fun k _ hm=>by show k<_;omega
    have hR:=Lib.hid (HR.out _ _ hL.out)
    clear HC d0 d1 d2 d3 s0 s1 s2 s3 s4 hb3
    go_wp2
    go_ret2
    exact ⟨a3,c3,L,e1,rfl,hR,hSf,hBf⟩
   ·have HR:Hid (∀L e1,m.hsW s.extra=(L,e1)→m.twW s=(L,e1)):=fun L e1 h=>by unfold Mach.twW;rw [if_neg (by simp [HE.out]),if_neg (by simp [HSE.out]),if_neg (by omega),if_pos hk,h]
    have HC:=Lib.hid (hsuite_any HS2.2.2.1 s.extra)
    have hzz:=HS2.2.2.2.2
    have hBz:=HS2.2.2.2.1
    clear hcl HS2
    rw [hk] at s0
    clear hk
    go_wp2_with fail
    refine (HC.out).mono ?_
    rintro e w3 ⟨a3,c3,L,e1,rfl,hL,hS3,hb3⟩
    have hBf:=hBz.trans (hb3.mono (by omega))
    have hSf:=hS3.anti (M':=fun k=>k<w.heap.size) fun k _ hm=>by show k<_;omega
    have hR:=Lib.hid (HR.out _ _ hL.out)
    clear HC d0 d1 d2 d3 s0 s1 s2 s3 s4 hb3
    go_wp2
    go_ret2
    exact ⟨a3,c3,L,e1,rfl,hR,hSf,hBf⟩
   ·have HR:Hid (∀L e1,m.suW s.extra=(L,e1)→m.twW s=(L,e1)):=fun L e1 h=>by unfold Mach.twW;rw [if_neg (by simp [HE.out]),if_neg (by simp [HSE.out]),if_neg (by omega),if_neg (by omega),if_pos hk,h]
    have HC:=Lib.hid (suite_any HS2.2.2.1 s.extra)
    have hzz:=HS2.2.2.2.2
    have hBz:=HS2.2.2.2.1
    clear hcl HS2
    rw [hk] at s0
    clear hk
    go_wp2_with fail
    refine (HC.out).mono ?_
    rintro e w3 ⟨a3,c3,L,e1,rfl,hL,hS3,hb3⟩
    have hBf:=hBz.trans (hb3.mono (by omega))
    have hSf:=hS3.anti (M':=fun k=>k<w.heap.size) fun k _ hm=>by show k<_;omega
    have hR:=Lib.hid (HR.out _ _ hL.out)
    clear HC d0 d1 d2 d3 s0 s1 s2 s3 s4 hb3
    go_wp2
    go_ret2
    exact ⟨a3,c3,L,e1,rfl,hR,hSf,hBf⟩
   have HR:Hid (m.twW s=(srt cmpW (rsW s.seed m.inputs s.count s.len).1,(rsW s.seed m.inputs s.count s.len).2)):=by unfold Hid Mach.twW;rw [if_neg (by simp [HE.out]),if_neg (by simp [HSE.out]),if_neg (by omega),if_neg (by omega),if_neg (by omega)]
   have HE0:Hid ((rsW s.seed m.inputs s.count s.len).2=0):=rsW_ok ⟨ok.out.i0,ok.out.i1⟩ (hcl hk)
   have HC:=Lib.hid (rsuite_any (w:=w2) (s:=s.seed) m.inputs s.count s.len hsd.out)
   have hzz:=HS2.2.2.2.2
   have hBz:=HS2.2.2.2.1
   clear hcl HS2
   rw [hk] at s0
   clear hk
   go_wp2_with fail
   refine (HC.out).mono ?_
   rintro e w3 ⟨a3,c3,L,e1,rfl,hL,hS3,hb3⟩
   have h1:=HE0.out
   rw [hL.out] at h1
   have h1:e1=0:=h1
   subst h1
   have hLs:Hid (L.length≤10000∧∀r∈L,r.length≤1024):=by
    have h:=rsW_small (s:=s.seed) (i:=m.inputs) (c:=s.count) (l:=s.len)
    rw [hL.out] at h
    exact h
   have hB3:=hBz.trans (hb3.mono (by omega))
   have hz3:=hb3.size
   have HSo:=Lib.hid (sorted_any hS3 (by have:=hLs.out.1;omega) (Lib.hid fun r hr=>by have:=hLs.out.2 r hr;omega))
   have hll:=hS3.le
   have hRf:Hid (m.twW s=(srt cmpW L,0)):=by unfold Hid;rw [HR.out,hL.out]
   clear HC d0 d1 d2 d3 s0 s1 s2 s3 s4 hb3 hS3
   go_wp2_with fail
   refine (HSo.out).mono ?_
   rintro e w4 ⟨a4,c4,L4,rfl,hL4,hS4,hb4⟩
   have hBf:=hB3.trans (hb4.mono (by omega))
   have hSf:=hS4.anti (M':=fun k=>k<w.heap.size) fun k _ hm=>by show k<_;omega
   have hRg:Hid (m.twW s=(L4,0)):=by unfold Hid;rw [hRf.out,hL4.out]
   clear HSo hb4 hS4
   go_wp2
   go_ret2
   exact ⟨a4,c4,L4,0,rfl,hRg,hSf,hBf⟩
  have hse':(s.err !=0)=true:=by simp [hse]
  have HR:Hid (m.twW s=([],s.err)):=by unfold Hid Mach.twW;rw [if_neg (by simp [HE.out]),if_pos hse]
  have hBf:=(HS.out _ hb2).2.2.2.1
  clear hse
  go_wp2
  go_ret2
  exact ⟨none,0,[],s.err,rfl,HR,Sl.nil _ _ _ (by unfold maxLen;omega),hBf⟩
 have he':(m.err !=0)=true:=by simp [he]
 have HR:Hid (m.twW s=([],m.err)):=by unfold Hid Mach.twW;rw [if_pos he]
 have hBf:=(HS.out _ hb1).2.2.2.1
 clear he
 go_wp2
 go_ret2
 exact ⟨none,0,[],m.err,rfl,HR,Sl.nil _ _ _ (by unfold maxLen;omega),hBf⟩
end
end Go.Proofs.YtjagagpcjpcjjaaGreat
