/- Several texts, one behind the other. Conditions: as each of them says. -/
import Derived.Test.YtjagagpcjpcjjaaGreatMc24
import Derived.Test.YtjagagpcjpcjjaaGreatMc19
import Derived.Test.YtjagagpcjpcjjaaGreatMc7
import Derived.Test.YtjagagpcjpcjjaaGreatMc4
import Derived.Deep.Cut
set_option maxRecDepth 100000
set_option maxHeartbeats 32000000
namespace Go.Proofs.YtjagagpcjpcjjaaGreat
open Go.RowKit
def AccI (n:Nat) (W:List (List Int)):Prop:=n=W.length∧∀(i:Nat) (r:List Int),W[i]? =some r→r.length≤i
theorem accI_new (n:Nat):AccI n (List.replicate n []):=⟨by simp,fun i r h=>by
 have:=List.mem_of_getElem? h
 rw [List.mem_replicate] at this
 rw [this.2];simp⟩
theorem accI_set {n s t:Nat} {W:List (List Int)} {r:List Int} {y:Int} (h:AccI n W) (hr:W[s]? =some r) (ht:s<t):AccI n (W.set t (r++[y])):=by
 refine ⟨by rw [List.length_set];exact h.1,fun i x hi=> ?_⟩
 rw [List.getElem?_set] at hi
 split at hi
 ·rename_i e
  split at hi
  ·simp only [Option.some.injEq] at hi
   have:=h.2 s r hr
   rw [←hi,List.length_append]
   simp only [List.length_cons,List.length_nil]
   omega
  cases hi
 exact h.2 i x hi
section
variable {M:Nat→Prop} {w:World} {an ao:Option Addr} {cn co:Nat} {m:Mach}
theorem lacc_any (hm:Ma M w an cn ao co m) (ok:Hid m.Ok):Calls Tryz.prog 29 #[maV m an cn ao co] w fun e w'=>∃(a':Option Addr) (c':Nat) (L:List (List Int)),e= .returned (.slice a' L.length c')∧Sl (fun k=>k<w.heap.size) w' a' c' L∧Below w.heap.size w w':=by
 have hx0:=c4_new (m:=m) (an:=an) (cn:=cn) (ao:=ao) (co:=co) w
 have hB0:=(Below.refl w.heap.size w).alloc (Nat.le_refl _) (maO m an cn ao co)
 have hz0:w.heap.size<(w.alloc (maO m an cn ao co)).heap.size:=by simp
 have HM:=Lib.hid (hm.below hB0)
 obtain ⟨bn,on,bo,oo,rfl,rfl⟩:=hm.addr ok.out
 have n1:=ok.out.n1
 have i1:=ok.out.i1
 have i0:=ok.out.i0
 clear hm
 go_enter Tryz.func29,Tryz.ntmps29
 go_upto_region 1 with (fail)
 generalize w.alloc (maO m (some ⟨bn,on,none⟩) cn (some ⟨bo,oo,none⟩) co)=w0 at*
 have HS:Hid (∀w',Below w0.heap.size w0 w'→C4 w' w.heap.size (some ⟨bn,on,none⟩) cn (some ⟨bo,oo,none⟩) co m∧Ma M w' (some ⟨bn,on,none⟩) cn (some ⟨bo,oo,none⟩) co m∧Below w.heap.size w w'):=fun w' hb=>⟨hx0.below hb (by omega),HM.out.below hb,hB0.trans (hb.mono (by omega))⟩
 obtain ⟨d0,d1,d2,d3⟩:=hx0
 clear hB0 HM
 go_wp2_with (at_make;refine wpList_mk (B:=w0.heap.size) (M:=fun _=>True) rfl _ _ 22 rfl 49 (.slice none 0 0) 24 Tryz.underlying22 info_ints rfl (d:=([]:List Int)) rfl (fun w=>rep_slice (l:=([]:List Int)) (Sl.nil _ w none (c:=0) (by unfold maxLen;omega))) m.next.length rfl rfl (by omega) (by unfold maxLen;omega) (Nat.le_refl _) ?_)
 intro g c l w1 hl hO hg1 hg2 hb1
 have hll:l.length=m.next.length:=by rw [hl.out,List.length_replicate]
 have hI0:Hid (AccI m.next.length l):=by unfold Hid;rw [hl.out];exact accI_new _
 have hgw:g<w1.heap.size:=(hO.lt g rfl).2
 have hO1:Ow w0.heap.size (fun k=>k≤g) w1 49 (.slice (some ⟨g,0,none⟩) m.next.length c) l:=by
  have h:=hO.subM (M':=fun k=>k≤g) fun _ _ _=>trivial
  rw [hll] at h;exact h
 rw [hll]
 clear hO hl hll d0 d1 d2 d3
 have hbw:Below w0.heap.size w0 w1:=hb1
 clear hb1 hg2
 go_wp2
 go_loopw [4] (fun i wr=>∃(k:Nat) (W:List (List Int)),k≤m.next.length∧i= .int .i64 k∧Hid (AccI m.next.length W)∧Ow w0.heap.size (fun k=>k≤g) wr 49 (.slice (some ⟨g,0,none⟩) m.next.length c) W∧Below w0.heap.size w0 wr∧g<wr.heap.size) (fun i _=>m.next.length-(intOf i).toNat)
 case atStart=>exact ⟨0,l,by omega,rfl,hI0,hO1,hbw,hgw⟩
 case round=>
  clear hI0 hO1 hbw hgw
  obtain ⟨s,W,hs,rfl,hI,hO,hB,hg⟩:=hrel
  obtain ⟨w2,rfl⟩:∃w2:World,w2=wr:=⟨_,rfl⟩
  obtain ⟨d0,d1,d2,d3⟩:=(HS.out _ hB).1
  by_cases hlt:s<m.next.length
  ·go_wp2
   go_loopw [5] (fun i wr=>∃(k:Nat) (W:List (List Int)),(k:Int)≤m.inputs∧i= .int .i64 k∧Hid (AccI m.next.length W)∧Ow w0.heap.size (fun k=>k≤g) wr 49 (.slice (some ⟨g,0,none⟩) m.next.length c) W∧Below w0.heap.size w0 wr∧g<wr.heap.size) (fun i _=>m.inputs.toNat-(intOf i).toNat)
   case atStart=>exact ⟨0,W,by omega,rfl,hI,hO,hB,hg⟩
   case round=>
    clear hI hO hB hg d0 d1 d2 d3
    obtain ⟨x,W,hx,rfl,hI,hO,hB,hg⟩:=hrel
    obtain ⟨w3,rfl⟩:∃w3:World,w3=wr:=⟨_,rfl⟩
    obtain ⟨⟨d0,d1,d2,d3⟩,hMa, -⟩:=HS.out _ hB
    by_cases hxl:(x:Int)<m.inputs
    ·have hxn:x<m.inputs.toNat:=by omega
     obtain ⟨b1,o1,c1,l1,b2,o2,c2,l2,t,y,k1,k2,k3,k4,ht,hy0,hy1,hnx,hot,hl1,hl2,hl3,hl4⟩:=hMa.atS ok.out hlt hxn
     clear hMa k2 k4 hy0 hy1 hnx hot hl2 hl4
     have hWn:=hI.out.1
     obtain ⟨at1,rt,ct,e1,e2,hrt,hst⟩:=Ow.at_row hO hWn (j:=t) (by omega)
     by_cases hts:s<t
     rotate_left
     ·have htsb:decide ((s:Int)<(t:Int))=false:=by simp;omega
      clear hWn e1 e2 hst
      go_wp2
      go_roundw
      case rel=>exact ⟨x+1,W,by omega,by go_num,hI,hO,hB,hg⟩
      case measure=>simp [intOf];omega
     have htsb:decide ((s:Int)<(t:Int))=true:=by simp;omega
     by_cases hrt0:rt.length=0
     rotate_left
     ·have hrb:(((rt.length:Nat):Int)==0)=false:=by simp only [beq_eq_false_iff_ne,ne_eq];omega
      have hrl:=hst.le
      clear hWn hst hrt0 hrt
      go_wp2
      go_roundw
      case rel=>exact ⟨x+1,W,by omega,by go_num,hI,hO,hB,hg⟩
      case measure=>simp [intOf];omega
     have hrb:(((rt.length:Nat):Int)==0)=true:=by simp only [beq_iff_eq];omega
     obtain ⟨as1,rs,cs,e3,e4,hrs,hss⟩:=Ow.at_row hO hWn (j:=s) (by omega)
     have hrsl:=hI.out.2 s rs hrs.out
     have HSS:=Lib.hid hss
     have hrtl:=hst.le
     have HO:=Lib.hid hO
     clear hWn hst hss hrt0 hrt hO
     go_wp2_with (at_builtin;refine wpList_app_any (B:=w3.heap.size) (l0:=[]) (l1:=rs) rfl rfl Tryz.underlying49 info_int rfl rfl (Ow.zero (Nat.le_refl _)) (HSS.out.alloc _) (by simp;omega) (by simp) ?_)
     intro a5 c5 l5 w5 hl5 hO5 hb5
     have hba:=((Below.refl w3.heap.size w3).alloc (Nat.le_refl _) (.cells #[] 3)).trans hb5
     have hz5:=hba.size
     have h5l:Hid (l5.length≤s):=by unfold Hid;rw [hl5.out];simpa using hrsl
     have h5s:=h5l.out
     clear hb5 e3 e4 k1 k3 d0 d1 d2 d3 hrsl
     go_wp2_with (at_builtin;refine wpList_push_i (B:=w3.heap.size) (l:=l5) (y:=(x:Int)) rfl rfl Tryz.underlying49 info_int rfl rfl (hO5.alloc _) (by simp [go_sem]) (by unfold i64;omega) (by omega) (by simp;omega) ?_)
     intro a6 c6 l6 w6 hl6 hO6 hb6
     have hb36:=hba.trans (((Below.refl w3.heap.size w5).alloc hz5 (.cells #[.int .i64 (x:Int)] 3)).trans hb6)
     have hz6:=hb36.size
     have f1:=(hb36.cell (p:=⟨g,t,none⟩) hg).trans e1
     have f2:=(hb36.frozen (p:=⟨g,t,none⟩) hg).trans e2
     have hs6:Sl (fun k=>k≤g) w6 a6 c6 l6:=(hO6.fresh (n:=w3.heap.size) (Nat.le_refl _)).anti fun k _ hk=>by show k<_;omega
     have hl66:Hid (l6=rs++[(x:Int)]):=by unfold Hid;rw [hl6.out,hl5.out]
     have hI6:Hid (AccI m.next.length (W.set t l6)):=by unfold Hid;rw [hl66.out];exact accI_set hI.out hrs.out hts
     have hO7:=Ow.set_row (HO.out.below hb36) hI.out.1 (Nat.le_refl g) t hs6
     have hB6:=hB.trans (hb36.mono (by have:=hB.size;omega))
     have hB7:=hB6.setCell (p:=⟨g,t,none⟩) hg1 (.slice a6 l6.length c6)
     have hg7:g<(w6.setCell ⟨g,t,none⟩ (.slice a6 l6.length c6)).heap.size:=by simp;omega
     have h6l:=hs6.le
     clear hb36 hba hb6 hO5 hO6 hs6 e1 e2 HSS HO hB6 hl6 hl66 hl5 h5l
     go_wp2
     go_roundw
     case rel=>exact ⟨x+1,W.set t l6,by omega,by go_num,hI6,hO7,hB7,hg7⟩
     case measure=>simp [intOf];omega
    go_wp2
    go_roundw
    case rel=>exact ⟨s+1,W,by omega,by go_num,hI,hO,hB,hg⟩
    case measure=>simp [intOf];omega
  have hBf:=(HS.out _ hB).2.2
  have hsl:Hid (∃L:List (List Int),m.next.length=L.length∧Sl (fun k=>k<w.heap.size) w2 (some ⟨g,0,none⟩) c L):=by
   have hWn:=hI.out.1
   rw [hWn] at hO
   exact ⟨W,hWn,Ow.toSl (hO.subM (M':=fun k=>k<w.heap.size) fun k _ hk=>by show k≤g;omega) fun k hk=>by
    obtain rfl:g=k:=by simpa [Value.ownBlock] using hk
    show ¬g<_;omega⟩
  clear hO
  go_wp2
  obtain ⟨L,hLe,hLs⟩:=hsl.out
  rw [hLe]
  go_ret
  exact ⟨_,_,L,rfl,hLs,hBf⟩
end
end Go.Proofs.YtjagagpcjpcjjaaGreat
