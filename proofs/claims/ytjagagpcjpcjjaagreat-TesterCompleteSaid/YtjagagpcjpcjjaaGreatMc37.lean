/- Several texts, one behind the other. Conditions: as each of them says. -/
import Derived.Test.YtjagagpcjpcjjaaGreatMc35
import Derived.Test.YtjagagpcjpcjjaaGreatMc9
import Derived.Test.YtjagagpcjpcjjaaGreatMc7
import Derived.Test.YtjagagpcjpcjjaaGreatMc4
import Derived.Test.YtjagagpcjpcjjaaGreatMc3
import Derived.Test.YtjagagpcjpcjjaaGreatMc1
import Derived.Deep.Cut
set_option maxRecDepth 100000
set_option maxHeartbeats 32000000
namespace Go.Proofs.YtjagagpcjpcjjaaGreat
open Go.RowKit
section
variable {M M':Nat→Prop} {w:World} {an ao b:Option Addr} {cn co d:Nat} {m:Mach} {l:List Int}
end
section
variable {M M':Nat→Prop} {w:World} {b q:Option Addr} {d c:Nat} {l P:List Int}
end
section
variable {M M':Nat→Prop} {w:World} {an ao b:Option Addr} {cn co d:Nat} {m:Mach} {l:List Int}
end
section
variable {M M':Nat→Prop} {w:World} {a a':Option Addr} {c c':Nat} {t:Tr}
theorem ocopied_any (h1:Sl M w a c t.inn) (h2:Sl M' w a' c' t.out) (hl1:t.inn.length<100000000000) (hl2:t.out.length<100000000000):
    Calls Tryz.prog 166 #[trV t a c a' c'] w fun e w'=>∃(a1:Option Addr) (c1:Nat) (l1:List Int) (a2:Option Addr) (c2:Nat) (l2:List Int),e= .returned (.agg #[.slice a1 l1.length c1,.slice a2 l2.length c2])∧Hid ((⟨l1,l2⟩:Tr)=t)∧
     Sl (fun k=>k<w.heap.size) w' a1 c1 l1∧Sl (fun k=>k<w.heap.size) w' a2 c2 l2∧Below w.heap.size w w':=by
 have hB0:=((Below.refl w.heap.size w).alloc (Nat.le_refl _) (trO t a c a' c')).alloc (by simp) (.cells #[.slice none 0 0,.slice none 0 0] 73)
 have hx0:T2 ((w.alloc (trO t a c a' c')).alloc (.cells #[.slice none 0 0,.slice none 0 0] 73)) w.heap.size a c a' c' t:=(t2_new w).below (B:=w.heap.size+1) ((Below.refl _ _).alloc (by simp) _) (by omega)
 have hr0:((w.alloc (trO t a c a' c')).alloc (.cells #[.slice none 0 0,.slice none 0 0] 73)).heap[w.heap.size+1]? =some (.cells #[.slice none 0 0,.slice none 0 0] 73):=by
  have k:=heap_alloc_new (w.alloc (trO t a c a' c')) (.cells #[.slice none 0 0,.slice none 0 0] 73)
  simpa using k
 have hz0:w.heap.size+2≤((w.alloc (trO t a c a' c')).alloc (.cells #[.slice none 0 0,.slice none 0 0] 73)).heap.size:=by simp
 have HA:=Lib.hid h1
 have HB:=Lib.hid h2
 have l1':=h1.le
 have l2':=h2.le
 clear h1 h2
 go_enter Tryz.func166,Tryz.ntmps166
 go_upto_region 1 with (fail)
 refine wp_region_L (fun w'=>T2 w' w.heap.size a c a' c' t) [0,1,3,4,6] (by kernel_rfl) ?_
 have hbd:=(Below.refl ((w.alloc (trO t a c a' c')).alloc (.cells #[.slice none 0 0,.slice none 0 0] 73)).heap.size ((w.alloc (trO t a c a' c')).alloc (.cells #[.slice none 0 0,.slice none 0 0] 73))).drew
 have hS_u0:=hx0.below hbd (by omega)
 have hB_u0:=hB0.trans (hbd.mono (by omega))
 have hR_u0:=Lib.hid ((hbd.block (w.heap.size+1) (by omega)).trans hr0)
 have hz_u0:w.heap.size+2≤((w.alloc (trO t a c a' c')).alloc (.cells #[.slice none 0 0,.slice none 0 0] 73)).drew.heap.size:=hz0
 clear hbd hB0 hx0 hr0 hz0
 generalize ((w.alloc (trO t a c a' c')).alloc (.cells #[.slice none 0 0,.slice none 0 0] 73)).drew=u0 at*
 refine skL_on [0,1,3,4] ?_
 repeat (refine skL_take (v:= ?_) rfl ?_ ?_;rotate_left;(focus (intro w' hSw;(try dsimp only at hSw);go_simp;try with_reducible rfl));try simp only [Act.put,List.setIfInBounds_toArray,List.set_cons_zero,List.set_cons_succ])
 refine skL_off ?_
 refine wpAnyL_one (i:=2) (by kernel_rfl) rfl rfl (fun K hK=> ?_)
 go_simp
 refine (clone_any (HA.out.below hB_u0) (by omega)).mono ?_
 rintro e u1 ⟨a1,c1,l1,rfl,hl1,hs1,hbu1⟩
 have hS_u1:=hS_u0.below hbu1 (by omega)
 have hz_u1:w.heap.size+2≤u1.heap.size:=by have:=hbu1.size;omega
 have hR_u1:=Lib.hid ((hbu1.block (w.heap.size+1) (by omega)).trans hR_u0.out)
 have hB_u1:=hB_u0.trans (hbu1.mono (by omega))
 have HsA:=Lib.hid (hs1.anti (M':=fun k=>k<w.heap.size+2) (fun k _ hk=>by omega))
 refine hK _ _ (fun _=>hS_u1) ?_
 clear hK K hs1 hbu1
 try simp only [Act.put,List.setIfInBounds_toArray,List.set_cons_zero,List.set_cons_succ]
 refine wpAnyL_one (i:=5) (by kernel_rfl) rfl rfl (fun K hK=> ?_)
 go_simp
 refine (clone_any (HB.out.below hB_u1) (by omega)).mono ?_
 rintro e u2 ⟨a2,c2,l2,rfl,hl2,hs2,hbu2⟩
 have hS_u2:=hS_u1.below hbu2 (by omega)
 have hz_u2:w.heap.size+2≤u2.heap.size:=by have:=hbu2.size;omega
 have hR_u2:=Lib.hid ((hbu2.block (w.heap.size+1) (by omega)).trans hR_u1.out)
 have hB_u2:=hB_u1.trans (hbu2.mono (by omega))
 have HsB:=Lib.hid (hs2.anti (M':=fun k=>k<w.heap.size+2) (fun k _ hk=>by omega))
 have HsA:=Lib.hid (HsA.out.below hbu2)
 refine hK _ _ (fun _=>hS_u2) ?_
 clear hK K hs2 hbu2
 try simp only [Act.put,List.setIfInBounds_toArray,List.set_cons_zero,List.set_cons_succ]
 refine skL_on [6] ?_
 repeat (refine skL_take (v:= ?_) rfl ?_ ?_;rotate_left;(focus (intro w' hSw;(try dsimp only at hSw);go_simp;try with_reducible rfl));try simp only [Act.put,List.setIfInBounds_toArray,List.set_cons_zero,List.set_cons_succ])
 refine skL_off ?_
 have HsAn:=Lib.hid (HsA.out.st2 (n:=w.heap.size) (g:=w.heap.size+1) (y0:= .slice a1 l1.length c1) (y1:= .slice a2 l2.length c2) (by omega) (by omega))
 have HsBn:=Lib.hid (HsB.out.st2 (n:=w.heap.size) (g:=w.heap.size+1) (y0:= .slice a1 l1.length c1) (y1:= .slice a2 l2.length c2) (by omega) (by omega))
 have HBn:=Lib.hid (bel_st2 hB_u2 (g:=w.heap.size+1) (y0:= .slice a1 l1.length c1) (y1:= .slice a2 l2.length c2) (by omega))
 have hSn:T2 (st2 u2 (w.heap.size+1) (.slice a1 l1.length c1) (.slice a2 l2.length c2)) w.heap.size a c a' c' t:=hS_u2.below (B:=w.heap.size+1) (bel_st2 (Below.refl _ _) (g:=w.heap.size+1) (y0:= .slice a1 l1.length c1) (y1:= .slice a2 l2.length c2) (Nat.le_refl _)) (by omega)
 have HRn:=Lib.hid (set2 (y0:= .slice a1 l1.length c1) (y1:= .slice a2 l2.length c2) hR_u2.out)
 obtain ⟨⟨k0,k1⟩,kf⟩:=cells2 hR_u2.out
 refine wpAnyL_one (i:=7) (by kernel_rfl) rfl rfl (fun K hK=> ?_)
 go_simp
 refine hK _ _ (fun _=>hSn) ?_
 clear hK K k0 k1 kf
 refine wpAnyL_done (by kernel_rfl) ?_ _
 obtain ⟨⟨q0,q1⟩, -⟩:=cells2 HRn.out
 go_wp2
 exact bodyPost_ret (v:= .agg #[.slice a1 l1.length c1,.slice a2 l2.length c2]) (by simp [results,Tryz.results166,go_sem,q0,q1]) rfl ⟨a1,c1,l1,a2,c2,l2,rfl,by unfold Hid;rw [hl1.out,hl2.out],HsAn.out,HsBn.out,HBn.out⟩
theorem owned_nil (M:Nat→Prop) (w:World):Calls Tryz.prog 120 #[.slice none 0 0] w fun e w'=>e= .returned (.slice (some ⟨w.heap.size,0,none⟩) 0 1)∧Ow (α:=Tr) w.heap.size M w' 73 (.slice (some ⟨w.heap.size,0,none⟩) 0 1) []∧Below w.heap.size w w':=by
 go_enter Tryz.func120,Tryz.ntmps120
 go_wp2_with (at_make;refine wpList_mk0 (α:=Tr) rfl _ _ _ rfl 73 _ 48 Tryz.underlying41 info_trace w.heap.size M 1 rfl (by simp [go_sem]) (by decide) (by unfold maxLen;omega) (Nat.le_refl _) ?_)
 intro w1 hO hb1
 go_wp2
 go_loopw [3,12] (fun v i wr=>v= .slice (some ⟨w.heap.size,0,none⟩) 0 1∧i= .int .i64 0∧wr=w1) (fun _ _ _=>0)
 case atStart=>exact ⟨rfl,rfl,rfl⟩
 case round=>
  obtain ⟨rfl,rfl,rfl⟩:=hrel
  go_wp2
  go_ret
  exact ⟨rfl,hO,hb1⟩
end
end Go.Proofs.YtjagagpcjpcjjaaGreat
