/- Several texts, one behind the other. Conditions: as each of them says. -/
import Derived.Test.YtjagagpcjpcjjaaGreatMc5
import Derived.Test.YtjagagpcjpcjjaaGreatMc3
set_option maxRecDepth 100000
set_option maxHeartbeats 32000000
namespace Go.Proofs.YtjagagpcjpcjjaaGreat
open Go.RowKit
open Classical in
noncomputable def ixN (s x:Nat):Nat:=if h:∃i,i<M64∧stN s i=x then Classical.choose h else 0
theorem ixN_st {s i:Nat} (hi:i<M64):ixN s (stN s i)=i:=by
 unfold ixN
 have h:∃j,j<M64∧stN s j=stN s i:=⟨i,hi,rfl⟩
 rw [dif_pos h]
 have h1:=Classical.choose_spec h
 exact stN_inj h1.1 hi h1.2
theorem rej_lt {s k i:Nat} (hk:0<k) (hk2:k<1000000) (h:∀j,j<i→rej k (outN s j)=true):i<1000000:=by
 have h1:=rej_few hk hk2 h
 have h2:M64%k<k:=Nat.mod_lt _ hk
 generalize M64%k=q at h1 h2
 omega
theorem drawN_lt {s k:Nat} (hk:0<k):(drawN s k).1<k:=by
 unfold drawN
 have h:∀f t,(drawF k f t).1<k:=by
  intro f
  induction f with
  |zero=>intro t;exact hk
  |succ f ih=>
   intro t
   unfold drawF
   split
   ·exact ih _
   exact Nat.mod_lt _ hk
 exact h _ _
theorem drawN_st {s k:Nat} (hs:s<M64):(drawN s k).2<M64:=by
 unfold drawN
 have h:∀f t,t<M64→(drawF k f t).2<M64:=by
  intro f
  induction f with
  |zero=>intro t ht;exact ht
  |succ f ih=>
   intro t _
   unfold drawF
   split
   ·exact ih _ (rndX_lt _)
   exact rndX_lt _
 exact h _ _ hs
theorem wrap_k {k:Nat} (hk2:k<M64):IntKind.u64.wrap (k:Int)=(k:Int):=by
 rw [IntKind.wrap_u64];simp only [M64] at hk2;omega
theorem wrap_ki {k:Nat} (hk2:k<1000000):IntKind.i64.wrap (k:Int)=(k:Int):=IntWalk.i64_in _ (by omega)
theorem wrap_neg {k:Nat} (hk:0<k) (hk2:k<M64):IntKind.u64.wrap (-(k:Int))=((M64-k:Nat):Int):=by
 rw [IntKind.wrap_u64];simp only [M64] at hk2 ⊢;omega
theorem sub_mod {k:Nat} (_hk:0<k) (hk2:k<M64):(M64-k)%k=M64%k:=by
 have h:M64=(M64-k)+k:=by omega
 rw [h,Nat.add_sub_cancel,Nat.add_mod_right]
noncomputable def mesN (s:Nat) (v:Value):Nat:=1000001-ixN s (intOf v).toNat
theorem mesN_at (s t:Nat):mesN s (.int .u64 (t:Int))=1000001-ixN s t:=by unfold mesN;simp [intOf]
theorem mes_lt {i j:Nat} (h:i<1000000) (e:j=i+1):1000001-j<1000001-i:=by omega
theorem mes_step {s i t y:Nat} (ht:t=stN s i) (hy:y=stN s (i+1)) (h:i<1000000):mesN s (.int .u64 (y:Int))<mesN s (.int .u64 (t:Int)):=by
 rw [mesN_at,mesN_at,hy,ht,ixN_st (Nat.lt_of_le_of_lt h (by decide)),ixN_st (Nat.lt_trans h (by decide))]
 exact mes_lt h rfl
def RelB (s k:Nat) (w:World) (st:Value) (wr:World):Prop:=∃(i t:Nat),st= .int .u64 (t:Int)∧Hid (t=stN s i)∧Hid (∀j,j<i→rej k (outN s j)=true)∧wr=w
theorem relB_mk {s k:Nat} {w:World} {i t:Nat} (h1:Hid (t=stN s i)) (h2:Hid (∀j,j<i→rej k (outN s j)=true)):RelB s k w (.int .u64 (t:Int)) w:=⟨i,t,rfl,h1,h2,rfl⟩
section
variable {w:World}
theorem below_any {s k:Nat} (hs:s<M64) (hk:0<k) (hk2:k<1000000):Calls Tryz.prog 137 #[.int .u64 (s:Int),.int .i64 (k:Int)] w fun e w'=>e= .returned (.tuple #[.int .i64 (((drawN s k).1:Nat):Int),.int .u64 (((drawN s k).2:Nat):Int)])∧w'=w:=by
 have HS:=Lib.hid hs
 have HK:=Lib.hid hk
 have g1:=wrap_k (k:=k) (by unfold M64;omega)
 have g2:=wrap_neg hk (by unfold M64;omega)
 have hR:Hid (M64%k<k):=Nat.mod_lt _ hk
 obtain ⟨R,hRe⟩:∃R,Hid (R=M64%k):=⟨_,rfl⟩
 have hRk:R<k:=by rw [hRe.out];exact hR.out
 have g3:Hid ((M64-k)%k=R):=by unfold Hid;rw [sub_mod hk (by unfold M64;omega),hRe.out]
 obtain ⟨Q,hQ⟩:∃Q,Q=M64-k:=⟨_,rfl⟩
 rw [←hQ] at g2 g3
 have g4:((Q:Nat):Int)%(k:Int)=((R:Nat):Int):=by rw [←g3.out];simp
 have hQM:Q<M64:=by omega
 have hk0:¬(k:Int)=0:=by omega
 have h0:Hid (∀j,j<0→rej k (outN s j)=true):=fun j hj=>by omega
 have hst0:Hid (s=stN s 0):=(stN_0 hs).symm
 clear hQ hs
 go_enter Tryz.func137,Tryz.ntmps137
 go_wp2
 simp only [g4]
 go_loopw [0] (fun st wr=>RelB s k w st wr) (fun st _=>mesN s st)
 case atStart=>exact relB_mk hst0 h0
 case round=>
  clear h0 hst0
  obtain ⟨i,t,rfl,ht,hr,hw⟩:=hrel
  obtain rfl:w=wr:=hw.symm
  have hil:=rej_lt hk hk2 hr.out
  have hxo:Hid (mixN (rndX t)=outN s i):=by unfold Hid outN;rw [ht.out,stN_succ]
  have hxs:Hid (rndX t=stN s (i+1)):=by unfold Hid;rw [ht.out,stN_succ]
  have HN0:=rnext_any (w:=w) (s:=t)
  have hxl:=mixN_lt (rndX t)
  have hyl:=rndX_lt t
  obtain ⟨x,hx⟩:∃x,x=mixN (rndX t):=⟨_,rfl⟩
  obtain ⟨y,hy⟩:∃y,y=rndX t:=⟨_,rfl⟩
  rw [←hx] at HN0 hxl hxo
  rw [←hy] at HN0 hyl hxs
  have HN:=Lib.hid HN0
  have hmk:x%k<k:=Nat.mod_lt _ hk
  obtain ⟨z,hz⟩:∃z,Hid (z=x%k):=⟨_,rfl⟩
  have g5:((x:Nat):Int)%(k:Int)=((z:Nat):Int):=by rw [hz.out];simp
  have hzk:z<k:=by rw [hz.out];exact hmk
  have g6:IntKind.i64.wrap ((z:Nat):Int)=((z:Nat):Int):=wrap_ki (by omega)
  have hrej:Hid (rej k (outN s i)=decide (R≠0∧M64-R≤x)):=by unfold Hid rej;rw [←hRe.out,←hxo.out]
  clear hx hy HN0 hmk hxl hyl
  by_cases hR0:R=0
  ·have hR0b:(((R:Nat):Int)==0)=true:=by rw [hR0];rfl
   have hf:rej k (outN s i)=false:=by rw [hrej.out];exact decide_eq_false (fun h=>h.1 hR0)
   have hF:=drawN_at HS.out hk hk2 hr.out hf
   rw [←hxo.out,←hz.out,←hxs.out] at hF
   have HF:=Lib.hid hF
   clear hf hF hR0
   go_wp2_with fail
   refine (HN.out).mono ?_
   rintro e w2 ⟨rfl,hw2⟩
   obtain rfl:w=w2:=hw2.symm
   go_wp2
   go_ret2
   exact ⟨by rw [HF.out];rfl,rfl⟩
  have hR0b:(((R:Nat):Int)==0)=false:=by simp;exact hR0
  have g7:=wrap_neg (k:=R) (by omega) (by unfold M64;omega)
  obtain ⟨Q2,hQ2⟩:∃Q2,Hid (Q2=M64-R):=⟨_,rfl⟩
  rw [←hQ2.out] at g7
  have hrej2:Hid (rej k (outN s i)=decide (Q2≤x)):=by
   unfold Hid;rw [hrej.out,hQ2.out]
   by_cases e:M64-R≤x
   ·rw [decide_eq_true e,decide_eq_true ⟨hR0,e⟩]
   rw [decide_eq_false e,decide_eq_false (fun h=>e h.2)]
  by_cases hq:Q2≤x
  ·have hr2 : Hid (∀ j, j < i + 1 → rej k (outN s j) = true) := by
     intro j hj
     by_cases e:j=i
     ·rw [e,hrej2.out];exact decide_eq_true hq
     exact hr.out j (by omega)
   have hqd:decide (((x:Nat):Int)<((Q2:Nat):Int))=false:=decide_eq_false (by omega)
   have hil2:=rej_lt hk hk2 hr2.out
   have HIL:=Lib.hid hil
   clear hil2 hil hr
   have HK2:=Lib.hid hk2
   clear hk2
   go_wp2_with fail
   refine (HN.out).mono ?_
   rintro e w2 ⟨rfl,hw2⟩
   obtain rfl:w=w2:=hw2.symm
   go_wp2
   go_roundw
   case rel=>exact relB_mk hxs hr2
   case measure=>exact mes_step ht.out hxs.out HIL.out
  have hqd:decide (((x:Nat):Int)<((Q2:Nat):Int))=true:=decide_eq_true (by omega)
  have hf:rej k (outN s i)=false:=by rw [hrej2.out];exact decide_eq_false hq
  have hF:=drawN_at HS.out hk hk2 hr.out hf
  rw [←hxo.out,←hz.out,←hxs.out] at hF
  have HF:=Lib.hid hF
  clear hf hF
  go_wp2_with fail
  refine (HN.out).mono ?_
  rintro e w2 ⟨rfl,hw2⟩
  obtain rfl:w=w2:=hw2.symm
  go_wp2
  go_ret2
  exact ⟨by rw [HF.out];rfl,rfl⟩
end
end Go.Proofs.YtjagagpcjpcjjaaGreat
