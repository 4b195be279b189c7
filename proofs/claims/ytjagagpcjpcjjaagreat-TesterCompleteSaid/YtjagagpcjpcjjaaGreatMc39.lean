/- Several texts, one behind the other. Conditions: as each of them says. -/
import Derived.Test.YtjagagpcjpcjjaaGreatMc36
import Derived.Deep.Cut
set_option maxRecDepth 100000
set_option maxHeartbeats 32000000
namespace Go.Proofs.YtjagagpcjpcjjaaGreat
open Go.RowKit
abbrev Mo (n0 n1:Nat):Nat→Prop:=fun k=>k<n0∨n1≤k
theorem Ow.other {α:Type} [GR α] {B:Nat} {M:Nat→Prop} {w w':World} {T:TypeId} {v:Value} {l:List α} {r:Option Nat} (h:Ow B M w T v l) (hg:w.grownBy w' r) (hr:∀k,r=some k→M k) (hne:∀k,v.ownBlock=some k→r=some k→False):Ow B M w' T v l:=
 h.ext (Ext.grownBy hg hr) fun k hk=>hg.block k (h.lt k hk).2 fun e=>hne k hk e.symm
theorem Sl.at_pc {M:Nat→Prop} {w:World} {a:Option Addr} {c:Nat} {l:List Pc} (h:Sl M w a c l) {j:Nat} (hj:j<l.length):
    ∃b off aw cw q,a=some ⟨b,off,none⟩∧w.cell? ⟨b,off+j*2,none⟩=some (.int .i64 q.s)∧w.cell? ⟨b,off+j*2+1,none⟩=some (.slice aw q.word.length cw)∧Hid (l[j]? =some q)∧Sl M w aw cw q.word∧Hid (i64 q.s):=by
 obtain ⟨b,off,cs,ha,_,_,⟨⟨aw,cw,rfl,h1⟩,h2⟩,hc⟩:=h.2.2 j l[j] (by simp [hj])
 exact ⟨b,off,aw,cw,l[j],ha,by simpa [GR.sz] using hc 0 _ rfl,by simpa [GR.sz] using hc 1 _ rfl,by unfold Hid;simp [hj],h1,h2⟩
section
variable {M:Nat→Prop} {w:World} {an ao:Option Addr} {cn co:Nat} {m:Mach}
theorem access_any (hm:Ma M w an cn ao co m) (he:Hid (m.err=0)):
    Calls Tryz.prog 124 #[maV m an cn ao co] w fun e w'=>∃(a b:Option Addr) (c d:Nat) (S:List Int) (L:List (List Int)),e= .returned (.tuple #[.slice a S.length c,.slice b L.length d,.int .i64 0])∧
     Hid (L=m.covW.map Pc.word)∧Sl (fun k=>k<w.heap.size) w' b d L∧Below w.heap.size w w':=by
 have hB0:=(Below.refl w.heap.size w).alloc (Nat.le_refl _) (maO m an cn ao co)
 have hx0:C4 (w.alloc (maO m an cn ao co)) w.heap.size an cn ao co m:=c4_new w
 have hz0:w.heap.size+1≤(w.alloc (maO m an cn ao co)).heap.size:=by simp
 have ok:=m.ok_of_err he.out
 have n1:=ok.n1
 have HV:=Lib.hid (valid_any (hm.below hB0))
 rw [he.out] at HV
 have HM:=Lib.hid hm
 have OK:=Lib.hid ok
 clear hm ok
 go_enter Tryz.func124,Tryz.ntmps124
 go_wp2_with fail
 generalize w.alloc (maO m an cn ao co)=w0 at*
 refine (HV.out).mono ?_
 rintro e w1 ⟨rfl,hb1⟩
 have hB1:=hB0.trans (hb1.mono (by omega))
 have hx1:=hx0.below hb1 (by omega)
 have hz1:w.heap.size+1≤w1.heap.size:=by have:=hb1.size;omega
 have HP:=Lib.hid (places_any (HM.out.below hB1) OK)
 clear HV hB0 hx0 hb1 hz0
 go_wp2_with fail
 refine (HP.out).mono ?_
 rintro e w2 ⟨a2,c2,L,rfl,hL,hS2,hb2⟩
 have hB2:=Lib.hid (hB1.trans (hb2.mono (by omega)))
 have hz2:Hid (w.heap.size≤w2.heap.size):=by unfold Hid;have:=hb2.size;omega
 have hS2:=Lib.hid (hS2.anti (M':=fun k=>k<w.heap.size∨w2.heap.size≤k) fun k hk hm=>by rcases hm with e|e<;>omega)
 have hLn:=hS2.out.le
 have hLn2:Hid (L.length≤128):=by
  unfold Hid;rw [hL.out];unfold Mach.covW;rw [Mach.cov_len];exact Nat.le_trans (Mach.bfs_le OK.out _) n1
 clear HP hB1 hx1 hz1 hb2
 go_wp2
 go_loopw [6,7,20] (fun v6 v7 i wr=>∃(k:Nat) (a b:Option Addr) (c d:Nat) (S:List Int) (W:List (List Int)),k≤L.length∧i= .int .i64 k∧v6= .slice a S.length c∧v7= .slice b W.length d∧Hid (S=(L.take k).map Pc.s)∧Hid (W=(L.take k).map Pc.word)∧
  Ow w2.heap.size (Mo w.heap.size w2.heap.size) wr 3 (.slice a S.length c) S∧Ow w2.heap.size (Mo w.heap.size w2.heap.size) wr 49 (.slice b W.length d) W∧Hid (∀k,(Value.slice a S.length c).ownBlock=some k→(Value.slice b W.length d).ownBlock=some k→False)∧
  Below w2.heap.size w2 wr) (fun _ _ i _=>L.length-(intOf i).toNat)
 case atStart=>exact ⟨0,none,none,0,0,[],[],by omega,rfl,rfl,rfl,rfl,rfl,Ow.nil,Ow.nil,fun k hk=>by simp [Value.ownBlock] at hk,Below.refl _ _⟩
 case round=>
  obtain ⟨k,a,b,c,d,S,W,hk,rfl,rfl,rfl,hS,hW,hO,hN,hne,hB⟩:=hrel
  obtain ⟨wo,rfl⟩:∃wo:World,wo=wr:=⟨_,rfl⟩
  have hzo:w2.heap.size≤wo.heap.size:=hB.size
  by_cases hlt:k<L.length
  ·have hSo:=hS2.out.below hB
   obtain ⟨bp,op,aw,cw,q,rfl,hq0,hq1,hq,hqw,hqs⟩:=hSo.at_pc hlt
   have hqwl:=hqw.le
   have hSn:Hid (S++[q.s]=(L.take (k+1)).map Pc.s):=by unfold Hid;rw [List.take_add_one,hq.out,hS.out];simp
   have hWn:Hid (W++[q.word]=(L.take (k+1)).map Pc.word):=by unfold Hid;rw [List.take_add_one,hq.out,hW.out];simp
   have hSl:Hid (S.length=k):=by unfold Hid;rw [hS.out];simp;omega
   have hWl:Hid (W.length=k):=by unfold Hid;rw [hW.out];simp;omega
   have hba:=(Below.refl wo.heap.size wo).alloc (Nat.le_refl _) (.cells #[.int .i64 q.s,.slice aw q.word.length cw] 219)
   have hcl:(wo.alloc (.cells #[.int .i64 q.s,.slice aw q.word.length cw] 219)).heap[wo.heap.size]? =_:=heap_alloc_new _ _
   have hO1:=hO.below hba
   have hN1:=hN.below hba
   have hW1:=hqw.below hba
   have hB1:=hB.trans (hba.mono hzo)
   have hzp:wo.heap.size<(wo.alloc (.cells #[.int .i64 q.s,.slice aw q.word.length cw] 219)).heap.size:=by simp
   have hcp0:(wo.alloc (.cells #[.int .i64 q.s,.slice aw q.word.length cw] 219)).cell? ⟨wo.heap.size,0,none⟩=some (.int .i64 q.s):=by simp
   have hcp1:(wo.alloc (.cells #[.int .i64 q.s,.slice aw q.word.length cw] 219)).cell? ⟨wo.heap.size,1,none⟩=some (.slice aw q.word.length cw):=by simp
   have hoo:Hid (∀k,(Value.slice a S.length c).ownBlock=some k→k<wo.heap.size):=fun k hk=>(hO.lt k hk).2
   have hnn:Hid (∀k,(Value.slice b W.length d).ownBlock=some k→k<wo.heap.size):=fun k hk=>(hN.lt k hk).2
   clear hSo hS hW hO hN hB hqw hba hcl
   go_upto_region 9 with (fail)
   generalize hgg:wo.alloc (.cells #[.int .i64 q.s,.slice aw q.word.length cw] 219)=w4 at*
   clear hgg
   go_wp2_with (at_builtin;refine wpList_push_o (B:=w2.heap.size) (M:=Mo w.heap.size w2.heap.size) (l:=S) (y:=q.s) rfl rfl Tryz.underlying49 info_int rfl rfl (hO1.alloc _) (by simp [go_sem]) hqs.out (by have:=hSl.out;have:=hLn2.out;omega) (by simp;omega) ?_)
   intro a5 c5 S5 w5 hS5 hO5 hk5 hgr5
   have hz5:w4.heap.size+1≤w5.heap.size:=by have:=hgr5.size;simpa using this
   have hN5:=(hN1.alloc (.cells #[.int .i64 q.s] 3)).other hgr5 (fun k hk=> .inr (hO1.lt k hk).1) (fun k h1 h2=>hne.out k h2 h1)
   have hW5:=(hW1.alloc (.cells #[.int .i64 q.s] 3)).ext (Ext.grownBy hgr5 (fun k hk=> .inr (hO1.lt k hk).1))
   have hB5:=(hB1.alloc hB1.size (.cells #[.int .i64 q.s] 3)).grown hgr5 (by simp;omega) (fun k hk=>(hO1.lt k hk).1)
   have hcp5:w5.cell? ⟨wo.heap.size,1,none⟩=some (.slice aw q.word.length cw):=
    (World.cell?_of_block (hgr5.block wo.heap.size (by simp;omega) (fun e=>by have:=hoo.out _ e.symm;omega))).trans ((World.cell?_of_block (a:=⟨wo.heap.size,1,none⟩) (Below.heap_alloc _ _ _ hzp)).trans hcp1)
   have hne5:Hid (∀k,(Value.slice a5 S5.length c5).ownBlock=some k→(Value.slice b W.length d).ownBlock=some k→False):=fun k h1 h2=>by
    rcases (hk5.out k h1).1 with e|e
    ·exact hne.out k e h2
    have:=hnn.out k h2;omega
   have hlt5:Hid (∀k,(Value.slice a5 S5.length c5).ownBlock=some k→k<w5.heap.size):=fun k h1=>(hk5.out k h1).2
   have hSn:Hid (S5=(L.take (k+1)).map Pc.s):=hS5.out.trans hSn.out
   clear hS5 hk5 hgr5 hO1 hN1 hW1 hB1 hcp0 hcp1 hne
   go_wp2_with (at_builtin;refine wpList_push_row (B:=w2.heap.size) (M:=Mo w.heap.size w2.heap.size) (rows:=W) (r:=q.word) (ar:=aw) (cr:=cw) rfl rfl Tryz.underlying22 info_ints rfl rfl (hN5.alloc _) (fun k hk=> .inr (hN5.lt k hk).1) (by simp [go_sem]) (hW5.alloc _) (by have:=hWl.out;have:=hLn2.out;omega) (by simp;omega) ?_)
   intro a6 b6 W6 w6 hW6 hN6 hk6 hgr6
   have hO6:=(hO5.alloc (.cells #[.slice aw q.word.length cw] 49)).other hgr6 (fun k hk=> .inr (hN5.lt k hk).1) (fun k h1 h2=>hne5.out k h1 h2)
   have hN7:=hN6.subM (M':=Mo w.heap.size w2.heap.size) fun k _ hk=> .inl hk
   have hB6:=(hB5.alloc hB5.size (.cells #[.slice aw q.word.length cw] 49)).grown hgr6 (by simp;omega) (fun k hk=>(hN5.lt k hk).1)
   have hne6:Hid (∀k,(Value.slice a5 S5.length c5).ownBlock=some k→(Value.slice a6 W6.length b6).ownBlock=some k→False):=fun k h1 h2=>by
    rcases (hk6.out k h2).1 with e|e
    ·exact hne5.out k h1 e
    have:=hlt5.out k h1;omega
   have hWn:Hid (W6=(L.take (k+1)).map Pc.word):=hW6.out.trans hWn.out
   clear hW6 hN6 hk6 hgr6 hN5 hO5 hW5 hB5 hne5 hlt5
   go_wp2
   go_roundw
   case rel=>exact ⟨k+1,a5,a6,c5,b6,S5,W6,by omega,by go_num,rfl,rfl,hSn,hWn,hO6,hN7,hne6,hB6⟩
   case measure=>simp [intOf];omega
  have hF:Hid (W=m.covW.map Pc.word):=by unfold Hid;rw [hW.out,List.take_of_length_le (by omega),hL.out]
  have hSl:=(hN.subM (M':=fun k=>k<w.heap.size) fun k _ hk=> .inl hk).toSl fun k hk=>by have:=(hN.lt k hk).1;have:=hz2.out;omega
  have hB9:=hB2.out.trans (hB.mono hz2.out)
  clear hO hN hB
  go_wp2
  go_ret3
  exact ⟨a,b,c,d,S,W,rfl,hF,hSl,hB9⟩
theorem cover_any (hm:Ma M w an cn ao co m) (he:Hid (m.err=0)):
    Calls Tryz.prog 73 #[maV m an cn ao co] w fun e w'=>∃(b:Option Addr) (d:Nat) (L:List (List Int)),e= .returned (.tuple #[.slice b L.length d,.int .i64 0])∧
     Hid (L=m.covW.map Pc.word)∧Sl (fun k=>k<w.heap.size) w' b d L∧Below w.heap.size w w':=by
 have hB0:=(Below.refl w.heap.size w).alloc (Nat.le_refl _) (maO m an cn ao co)
 have hx0:C4 (w.alloc (maO m an cn ao co)) w.heap.size an cn ao co m:=c4_new w
 have hz0:w.heap.size≤(w.alloc (maO m an cn ao co)).heap.size:=by simp
 have HC:=Lib.hid (access_any (hm.below hB0) he)
 have n1:=hm.next.le
 have n2:=hm.out.le
 clear hm
 go_enter Tryz.func73,Tryz.ntmps73
 go_wp2_with fail
 generalize w.alloc (maO m an cn ao co)=w0 at*
 refine (HC.out).mono ?_
 rintro e w1 ⟨a,b,c,d,S,L,rfl,hL,hS,hb⟩
 have hB1:=hB0.trans (hb.mono hz0)
 have hS1:=hS.anti (M':=fun k=>k<w.heap.size) fun k _ hk=>by omega
 clear hS hb HC hB0 hx0
 go_wp2
 go_ret2
 exact ⟨b,d,L,rfl,hL,hS1,hB1⟩
end
end Go.Proofs.YtjagagpcjpcjjaaGreat
