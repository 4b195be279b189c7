/- Several texts, one behind the other. Conditions: as each of them says. -/
import Derived.Test.YtlmfbjiejodalaaGreatDoorMx25
import Derived.Test.YtlmfbjiejodalaaGreatDoorMx24
import Derived.Test.YtlmfbjiejodalaaGreatDoorMx19
set_option maxRecDepth 100000
set_option maxHeartbeats 32000000
namespace Go.Proofs.YtlmfbjiejodalaaGreatDoor
open Go.RowKit
section
variable {w:World} {M M':Nat→Prop} {p q:Option Addr} {cp cq:Nat}
theorem extended0 {a:Option Addr} {c:Nat} {l:List Int} (h:Sl M w a c l) (hl:l.length<1000):
    Calls Tryz.prog 230 #[.slice a l.length c,.int .i64 0] w fun e w'=>∃(a':Option Addr) (c':Nat) (l':List Int),e= .returned (.slice a' l'.length c')∧Hid (l'=l++[0])∧Sl (fun k=>k<w.heap.size) w' a' c' l'∧Below w.heap.size w w':=by
 have hb1:=(Below.refl w.heap.size w).alloc (Nat.le_refl _) (.cells #[.int .i64 0] 3)
 have hr:=rows2 (T:=62) (sl_new h (.cells #[.int .i64 0] 3)) (ints1 (w:=w) (T:=3) (x:=0) (by unfold i64;omega)) rfl rfl
 have hz1:(w.alloc (.cells #[.int .i64 0] 3)).heap.size=w.heap.size+1:=by simp
 rw [hz1] at hr
 have hb2:=hb1.alloc (by simp) (.cells #[.slice a l.length c,.slice (some ⟨w.heap.size,0,none⟩) 1 1] 62)
 have HC:=Lib.hid (join_any hr (by simp;omega))
 clear h
 go_enter Tryz.func230,Tryz.ntmps230
 go_wp2_with fail
 refine (HC.out).mono ?_
 rintro e w1 ⟨a',c',l',rfl,hl',hs,hb⟩
 have hB:=hb2.trans (hb.mono (by simp;omega))
 have hl2:Hid (l'=l++[0]):=by unfold Hid;rw [hl'.out,flat2]
 have hs2:=hs.anti (M':=fun k=>k<w.heap.size) fun k _ hk=>by show k<_;simp;omega
 clear HC hb1 hr hb2 hl' hs hb hz1
 go_wp2
 go_ret
 exact ⟨a',c',l',rfl,hl2,hs2,hB⟩
structure Ask (N F:Nat) (w:World) (p:Option Addr) (cp:Nat) (q:Option Addr) (cq:Nat) (L:List (List Int)):Prop where
 t:w.heap[N]? =some (.cells #[.int .i64 1,.slice p 1 cp,.slice q 1 cq] 29 (0,0))
 f:w.heap[F]? =some (.cells #[.slice none 0 0] 288 (0,0))
 o:∃a c,w.heap[F+1]? =some (.cells #[.slice a L.length c] 27 (0,0))∧Ox (F+2) (F+2) w 62 (.slice a L.length c) L
 sz:F+2≤w.heap.size
 lt:N<F
theorem Ask.below {N F:Nat} {L:List (List Int)} {w':World} (h:Ask N F w p cp q cq L) (hb:Below w.heap.size w w'):Ask N F w' p cp q cq L:=by
 obtain ⟨a,c,h1,h2⟩:=h.o
 have:=h.sz
 have:=h.lt
 exact ⟨(hb.block _ (by omega)).trans h.t,(hb.block _ (by omega)).trans h.f,⟨a,c,(hb.block _ (by omega)).trans h1,h2.later hb⟩,Nat.le_trans h.sz hb.size,h.lt⟩
theorem ask1 {N F:Nat} {L:List (List Int)} {a:Option Addr} {c:Nat} {l:List Int} (hA:Ask N F w p cp q cq L) (hl:Sl M w a c l) (hq:Sl (fun k=>F≤k) w q cq ([[0]]:List (List Int))) (hll:l.length<1000) (hLl:L.length<1000):
    Calls Tryz.prog 279 #[.slice a l.length c,.pointer (some ⟨N,0,none⟩),.pointer (some ⟨F,0,none⟩),.pointer (some ⟨F+1,0,none⟩)] w fun e w'=>e= .returned (.tuple #[])∧Ask N F w' p cp q cq (L++[l++[0]])∧Below F w w':=by
 obtain ⟨b2,o2,p3,t3,d3,rfl,e3,ht3,s3⟩:=hq.at_row (show 0<([[0]]:List (List Int)).length by simp)
 obtain rfl:t3=[0]:=by have:=ht3.out;simpa using this.symm
 rw [Nat.add_zero] at e3
 have HA:=Lib.hid hA
 have HS:=Lib.hid hl
 have S3:=Lib.hid s3
 have hsz:=hA.sz
 have hNF:=hA.lt
 have t2:=(cells3 hA.t).1.2.2
 have ll:=hl.le
 clear hA hl hq ht3 s3
 go_enter Tryz.func279,Tryz.ntmps279
 go_wp2
 go_loopw [11] (fun i wr=>(i= .int .i64 0∧wr=w)∨(i= .int .i64 1∧Hid (Ask N F wr p cp (some ⟨b2,o2,none⟩) cq (L++[l++[0]])∧Below F w wr))) (fun i _=>1-(intOf i).toNat)
 case atStart=>exact .inl ⟨rfl,rfl⟩
 case round=>
  obtain ⟨wo,rfl⟩:∃wo:World,wo=wr:=⟨_,rfl⟩
  rcases hrel with ⟨rfl,rfl⟩|⟨rfl,hH⟩
  ·obtain ⟨a5,c5,hbx0,hO0⟩:=HA.out.o
   have HO0:=Lib.hid hO0
   have HX0:=Lib.hid hbx0
   have hlt5:Hid (∀k,(Value.slice a5 L.length c5).ownBlock=some k→F+2≤k∧k<wo.heap.size):=fun k hk=>hO0.lt k hk
   clear hO0 hbx0
   have hb1:=(Below.refl wo.heap.size wo).alloc (Nat.le_refl _) (.cells #[.slice a l.length c,.slice p3 1 d3] 62)
   have hr:=rows2 (T:=62) HS.out S3.out rfl (m:=1) rfl
   have HC:=Lib.hid (join_any hr (by simp;omega))
   clear hr
   go_wp2_with fail
   refine (HC.out).mono ?_
   rintro e w2 ⟨a4,c4,l4,rfl,hl4,hs4,hb4⟩
   have hb2:=hb1.trans (hb4.mono (by simp))
   have hz2:=hb2.size
   have hpos:0<l4.length:=by rw [hl4.out];simp
   have HK:=Lib.hid (knows0 a4 l4.length c4 hpos)
   have HA2:=Lib.hid (HA.out.below hb2)
   have f2:w2.cell? ⟨F,0,none⟩=some (.slice none 0 0):=by rw [cell_of_row _ _ _ _ _ _ HA2.out.f];rfl
   have HS4:=Lib.hid hs4
   clear HC hb1 hb4 hs4 t2 e3
   go_wp2_with fail
   refine (HK.out _).mono ?_
   rintro e w3 ⟨rfl,rfl⟩
   have hO:=HO0.out.later hb2
   have hbx:=(hb2.block _ (by omega)).trans HX0.out
   have f3:w3.cell? ⟨F+1,0,none⟩=some (.slice a5 L.length c5):=by rw [cell_of_row _ _ _ _ _ _ hbx];rfl
   have hnb:=(Below.refl w3.heap.size w3).alloc (Nat.le_refl _) (.cells #[.slice a4 l4.length c4] 62)
   have hO1:=hO.later hnb
   have hn1:(w3.alloc (.cells #[.slice a4 l4.length c4] 62)).cell? ⟨w3.heap.size,0,none⟩=some (.slice a4 l4.length c4):=box1 _ _ _ rfl
   have hs1:Sl (fun k=>(Value.slice a5 L.length c5).ownBlock=some k∨k<F+2) (w3.alloc (.cells #[.slice a4 l4.length c4] 62)) a4 c4 l4:=
    (HS4.out.below hnb).anti fun k _ hk=>hk.elim (fun e=>by have:=(hlt5.out k e).2;show k<_;simp;omega) (fun e=>by show k<_;simp;omega)
   have hb3:Below (F+2) wo (w3.alloc (.cells #[.slice a4 l4.length c4] 62)):=(hb2.mono (by omega)).trans (hnb.mono (by omega))
   clear HK f2 hO hnb
   go_wp2_with (at_builtin;refine wpList_push_x (n0:=F+2) (B:=F+2) (v:= .slice a5 L.length c5) (rows:=L) (r:=l4) (g:=w3.heap.size) (c:=1) (ar:=a4) (cr:=c4) rfl rfl Tryz.underlying27 info_ints rfl (by simp [go_sem]) hO1 hn1 hs1 (by omega) (by simp;omega) ?_)
   intro a9 c9 L9 w9 hL9 hO9 hk9 hg9
   have hb9:=hb3.trans ((Below.refl (F+2) _).grown hg9 (by simp;omega) (fun k hk=>(hlt5.out k hk).1))
   have x9:=(hb9.block _ (by omega)).trans HX0.out
   have f9:w9.cell? ⟨F+1,0,none⟩=some (.slice a5 L.length c5):=by rw [cell_of_row _ _ _ _ _ _ x9];rfl
   have z9:w9.frozen? ⟨F+1,0,none⟩=false:=frozen_of_row _ _ _ _ _ x9
   have hLe:L9=L++[l++[0]]:=by rw [hL9.out,hl4.out,flat2]
   have HH:Hid (Ask N F (w9.setCell ⟨F+1,0,none⟩ (.slice a9 L9.length c9)) p cp (some ⟨b2,o2,none⟩) cq (L++[l++[0]])∧Below F wo (w9.setCell ⟨F+1,0,none⟩ (.slice a9 L9.length c9))):=by
    rw [←hLe]
    have hos:Ox (F+2) (F+2) (w9.setCell ⟨F+1,0,none⟩ (.slice a9 L9.length c9)) 62 (.slice a9 L9.length c9) L9:=
     Ow.ext hO9 (Ext.setCell (M:=fun k=>(Value.slice a9 L9.length c9).ownBlock=some k∨k<F+2) _ (p:=⟨F+1,0,none⟩) (.inr (by show F+1<F+2;omega)) _) (fun k hk=>Below.heap_setCell _ _ _ _ (by have:=(hO9.lt k hk).1;show k≠F+1;omega))
    exact ⟨⟨(Below.heap_setCell _ _ _ _ (by show _≠F+1;omega)).trans ((hb9.block _ (by omega)).trans HA.out.t),(Below.heap_setCell _ _ _ _ (by simp)).trans ((hb9.block _ (by omega)).trans HA.out.f),⟨a9,c9,set0 x9 _,hos⟩,by have:=hb9.size;simp;omega,hNF⟩,(hb9.mono (by omega)).setCell (by show F≤F+1;omega) _⟩
   clear hO1 hn1 hs1 hb3 hL9 hO9 hk9 hg9 hb9 x9 hLe hbx HA2 HS4 f3
   go_wp2
   go_roundw
   case rel=>exact .inr ⟨by go_num,HH⟩
   case measure=>simp [intOf]
  go_wp2
  go_end0
  exact ⟨rfl,hH.out.1,hH.out.2⟩
end
end Go.Proofs.YtlmfbjiejodalaaGreatDoor
