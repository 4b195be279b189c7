/- Several texts, one behind the other. Conditions: as each of them says. -/
import Derived.Test.YtlmfbjiejodalaaGreatDoorMx27
import Derived.Test.YtlmfbjiejodalaaGreatDoorMx26
set_option maxRecDepth 100000
set_option maxHeartbeats 32000000
namespace Go.Proofs.YtlmfbjiejodalaaGreatDoor
open Go.RowKit
def pl:List Int→List By→List By
 |[],R=>R
 |n::l,R=>putI n++pl l R
theorem results_c {fn:Func} {a:Nat} {ty:TypeId} (h:fn.results= #[.cell a ty]) (tmps:Array Value) (P:Program) (w:World) {x:Addr} {v:Value} (ha:tmps.getD a undef= .pointer (some x)) (hv:(loadVar ty x).run P w= .ok v w):
    (results fn tmps).run P w= .ok v w:=by
 rw [Array.getD_eq_getD_getElem?] at ha
 simp [results,h,ha,asAddr,hv]
section
variable {w w1:World} {M:Nat→Prop} {a:Option Addr} {c g N:Nat}
theorem Rd.setO {R:List By} (h:Rd N w g a c R) {p:Addr} (hp:p.block≠g) (hN:N≤p.block) (u:Value):Rd N (w.setCell p u) g a c R:=
 ⟨(Below.heap_setCell _ _ _ _ hp.symm).trans h.cell,h.sl.ext (Ext.setCell (M:=fun k=>k=g∨N≤k) _ (.inr hN) _)⟩
theorem kb_setN (h:Kb g w w1) {p:Addr} (hp:w.heap.size≤p.block) (u:Value):Kb g w (w1.setCell p u):=
 ⟨h.os,h.tape,h.output,by have:=h.size;simpa using this,fun k hk hn=>(Below.heap_setCell _ _ _ _ (by omega)).trans (h.block k hk hn)⟩
theorem rd_setAll {b:Nat} (hb:b≠g) (hN:N≤b) {R:List By}:∀(vs:List Value) (w:World) (k:Nat),Rd N w g a c R→Rd N (w.setCells b k vs) g a c R
 |[],_,_,h=>h
 |_::vs,_,k,h=>rd_setAll hb hN vs _ (k+1) (h.setO (p:=⟨b,k,none⟩) hb hN _)
theorem kb_setAll {b:Nat} {w0:World} (hb:w0.heap.size≤b):∀(vs:List Value) (w:World) (k:Nat),Kb g w0 w→Kb g w0 (w.setCells b k vs)
 |[],_,_,h=>h
 |_::vs,_,k,h=>kb_setAll hb vs _ (k+1) (kb_setN h (p:=⟨b,k,none⟩) hb _)
theorem rconf1 {R:List By} (hS:Rd N w g a c (pl [1,1,1,3,1,0,0,0,0,0] R)) (hN0:N≤w.heap.size):
    Calls Tryz.prog 68 #[.pointer (some ⟨g,0,none⟩)] w fun e w'=>e= .returned (.agg #[.int .i64 1,.int .i64 1,.int .i64 1,.int .i64 0,.int .u64 0,.int .i64 0,.int .i64 0,.int .i64 3])∧(∃a' c',Rd N w' g a' c' R)∧Kb g w w':=by
 have hg:=hS.lt
 have hb0:=(Below.refl w.heap.size w).alloc (Nat.le_refl _) (.cells #[.int .i64 0,.int .i64 0,.int .i64 0,.int .i64 0,.int .u64 0,.int .i64 0,.int .i64 0,.int .i64 0] 26)
 have n0:(w.alloc (.cells #[.int .i64 0,.int .i64 0,.int .i64 0,.int .i64 0,.int .u64 0,.int .i64 0,.int .i64 0,.int .i64 0] 26)).heap[w.heap.size]? =some (.cells #[.int .i64 0,.int .i64 0,.int .i64 0,.int .i64 0,.int .u64 0,.int .i64 0,.int .i64 0,.int .i64 0] 26 (0,0)):=heap_alloc_new _ _
 have HC:=Lib.hid (rint_ok (n:=1) (by unfold i64;omega) (hS.below hb0) (Lib.hid rfl))
 have hK0:Kb g w (w.alloc (.cells #[.int .i64 0,.int .i64 0,.int .i64 0,.int .i64 0,.int .u64 0,.int .i64 0,.int .i64 0,.int .i64 0] 26)):=kb_of hb0
 have hsz0:w.heap.size<(w.alloc (.cells #[.int .i64 0,.int .i64 0,.int .i64 0,.int .i64 0,.int .u64 0,.int .i64 0,.int .i64 0,.int .i64 0] 26)).heap.size:=by simp
 clear hS
 have hor:bits .or .u64 0 0=0:=by kernel_rfl
 go_enter Tryz.func68,Tryz.ntmps68
 go_wp2_with fail
 refine (HC.out).mono ?_
 rintro e w1 ⟨a1,c1,rfl,hS1,hK1⟩
 have n1:=(hK1.block w.heap.size hsz0 (by simp;omega)).trans n0
 have hKw:=kb_trans hK0 hK1
 have hz1:w.heap.size<w1.heap.size:=Nat.lt_of_lt_of_le hsz0 hK1.size
 obtain ⟨C,hCe⟩:∃C,C=w1.heap.size:=⟨_,rfl⟩
 obtain ⟨x0,hx0⟩:∃x,x=w1.alloc (.cells #[.int .i64 0,.int .i64 0,.int .i64 0,.int .i64 0,.int .u64 0,.int .i64 0,.int .i64 0,.int .i64 0] 26):=⟨_,rfl⟩
 have hbx:Below w1.heap.size w1 x0:=by rw [hx0];exact (Below.refl _ _).alloc (Nat.le_refl _) _
 have hCx:x0.heap[C]? =some (.cells #[.int .i64 0,.int .i64 0,.int .i64 0,.int .i64 0,.int .u64 0,.int .i64 0,.int .i64 0,.int .i64 0] 26 (0,0)):=by rw [hx0,hCe];exact heap_alloc_new _ _
 have hNx:x0.heap[w.heap.size]? =some (.cells #[.int .i64 0,.int .i64 0,.int .i64 0,.int .i64 0,.int .u64 0,.int .i64 0,.int .i64 0,.int .i64 0] 26 (0,0)):=(hbx.block _ hz1).trans n1
 have hSx:=hS1.below hbx
 have hKx:=kb_bel hKw (hbx.mono (by omega))
 have hCw:w.heap.size<C:=by omega
 have hzx:C<x0.heap.size:=(Array.getElem?_eq_some_iff.1 hCx).1
 have HC0:=Lib.hid (rint_ok (n:=1) (by unfold i64;omega) hSx (Lib.hid rfl))
 clear HC hb0 n0 hK0 hsz0 n1 hKw hbx hS1 hK1
 go_wp2_with fail
 rw [←hCe,←hx0]
 clear hx0 hCe hz1
 refine (HC0.out).mono ?_
 rintro e y0 ⟨b0,d0,rfl,hSy,hKy⟩
 have hCy:=(hKy.block C hzx (by simp;omega)).trans hCx
 have hNy:=(hKy.block w.heap.size (by omega) (by simp;omega)).trans hNx
 have hKz:=kb_trans hKx hKy
 have hzy:C<y0.heap.size:=Nat.lt_of_lt_of_le hzx hKy.size
 clear HC0 hSx hCx hNx hKx hKy hzx
 obtain ⟨x1,hx1⟩:∃x,x=y0.setCell ⟨C,0,none⟩ (.int .i64 1):=⟨_,rfl⟩
 have hCx:x1.heap[C]? =some (.cells #[.int .i64 1,.int .i64 0,.int .i64 0,.int .i64 0,.int .u64 0,.int .i64 0,.int .i64 0,.int .i64 0] 26 (0,0)):=by rw [hx1];exact (heap_setCell_same _ _ _ _ _ _ hCy).trans rfl
 have hNx:x1.heap[w.heap.size]? =some (.cells #[.int .i64 0,.int .i64 0,.int .i64 0,.int .i64 0,.int .u64 0,.int .i64 0,.int .i64 0,.int .i64 0] 26 (0,0)):=by rw [hx1];exact (Below.heap_setCell _ _ _ _ (by show w.heap.size≠C;omega)).trans hNy
 have hSx:Rd N x1 g b0 d0 (pl [1,3,1,0,0,0,0,0] R):=by rw [hx1];exact hSy.setO (by show C≠g;omega) (by show N≤C;omega) _
 have hKx:Kb g w x1:=by rw [hx1];exact kb_setN hKz (by show w.heap.size≤C;omega) _
 have hzx:C<x1.heap.size:=by rw [hx1];simpa using hzy
 have ec:y0.cell? ⟨C,0,none⟩=some (.int .i64 0):=by rw [cell_of_row _ _ _ _ _ _ hCy];rfl
 have ez:y0.frozen? ⟨C,0,none⟩=false:=frozen_of_row _ _ _ _ _ hCy
 clear hSy hCy hNy hKz hzy
 have HC1:=Lib.hid (rint_ok (n:=1) (by unfold i64;omega) hSx (Lib.hid rfl))
 go_wp2_with fail
 rw [←hx1]
 clear hx1 ec ez
 refine (HC1.out).mono ?_
 rintro e y1 ⟨b1,d1,rfl,hSy,hKy⟩
 have hCy:=(hKy.block C hzx (by simp;omega)).trans hCx
 have hNy:=(hKy.block w.heap.size (by omega) (by simp;omega)).trans hNx
 have hKz:=kb_trans hKx hKy
 have hzy:C<y1.heap.size:=Nat.lt_of_lt_of_le hzx hKy.size
 clear HC1 hSx hCx hNx hKx hKy hzx
 obtain ⟨x2,hx2⟩:∃x,x=y1.setCell ⟨C,1,none⟩ (.int .i64 1):=⟨_,rfl⟩
 have hCx:x2.heap[C]? =some (.cells #[.int .i64 1,.int .i64 1,.int .i64 0,.int .i64 0,.int .u64 0,.int .i64 0,.int .i64 0,.int .i64 0] 26 (0,0)):=by rw [hx2];exact (heap_setCell_same _ _ _ _ _ _ hCy).trans rfl
 have hNx:x2.heap[w.heap.size]? =some (.cells #[.int .i64 0,.int .i64 0,.int .i64 0,.int .i64 0,.int .u64 0,.int .i64 0,.int .i64 0,.int .i64 0] 26 (0,0)):=by rw [hx2];exact (Below.heap_setCell _ _ _ _ (by show w.heap.size≠C;omega)).trans hNy
 have hSx:Rd N x2 g b1 d1 (pl [3,1,0,0,0,0,0] R):=by rw [hx2];exact hSy.setO (by show C≠g;omega) (by show N≤C;omega) _
 have hKx:Kb g w x2:=by rw [hx2];exact kb_setN hKz (by show w.heap.size≤C;omega) _
 have hzx:C<x2.heap.size:=by rw [hx2];simpa using hzy
 have ec:y1.cell? ⟨C,1,none⟩=some (.int .i64 0):=by rw [cell_of_row _ _ _ _ _ _ hCy];rfl
 have ez:y1.frozen? ⟨C,1,none⟩=false:=frozen_of_row _ _ _ _ _ hCy
 clear hSy hCy hNy hKz hzy
 have HC2:=Lib.hid (rint_ok (n:=3) (by unfold i64;omega) hSx (Lib.hid rfl))
 go_wp2_with fail
 rw [←hx2]
 clear hx2 ec ez
 refine (HC2.out).mono ?_
 rintro e y2 ⟨b2,d2,rfl,hSy,hKy⟩
 have hCy:=(hKy.block C hzx (by simp;omega)).trans hCx
 have hNy:=(hKy.block w.heap.size (by omega) (by simp;omega)).trans hNx
 have hKz:=kb_trans hKx hKy
 have hzy:C<y2.heap.size:=Nat.lt_of_lt_of_le hzx hKy.size
 clear HC2 hSx hCx hNx hKx hKy hzx
 obtain ⟨x3,hx3⟩:∃x,x=y2.setCell ⟨C,7,none⟩ (.int .i64 3):=⟨_,rfl⟩
 have hCx:x3.heap[C]? =some (.cells #[.int .i64 1,.int .i64 1,.int .i64 0,.int .i64 0,.int .u64 0,.int .i64 0,.int .i64 0,.int .i64 3] 26 (0,0)):=by rw [hx3];exact (heap_setCell_same _ _ _ _ _ _ hCy).trans rfl
 have hNx:x3.heap[w.heap.size]? =some (.cells #[.int .i64 0,.int .i64 0,.int .i64 0,.int .i64 0,.int .u64 0,.int .i64 0,.int .i64 0,.int .i64 0] 26 (0,0)):=by rw [hx3];exact (Below.heap_setCell _ _ _ _ (by show w.heap.size≠C;omega)).trans hNy
 have hSx:Rd N x3 g b2 d2 (pl [1,0,0,0,0,0] R):=by rw [hx3];exact hSy.setO (by show C≠g;omega) (by show N≤C;omega) _
 have hKx:Kb g w x3:=by rw [hx3];exact kb_setN hKz (by show w.heap.size≤C;omega) _
 have hzx:C<x3.heap.size:=by rw [hx3];simpa using hzy
 have ec:y2.cell? ⟨C,7,none⟩=some (.int .i64 0):=by rw [cell_of_row _ _ _ _ _ _ hCy];rfl
 have ez:y2.frozen? ⟨C,7,none⟩=false:=frozen_of_row _ _ _ _ _ hCy
 clear hSy hCy hNy hKz hzy
 have HC3:=Lib.hid (rint_ok (n:=1) (by unfold i64;omega) hSx (Lib.hid rfl))
 go_wp2_with fail
 rw [←hx3]
 clear hx3 ec ez
 refine (HC3.out).mono ?_
 rintro e y3 ⟨b3,d3,rfl,hSy,hKy⟩
 have hCy:=(hKy.block C hzx (by simp;omega)).trans hCx
 have hNy:=(hKy.block w.heap.size (by omega) (by simp;omega)).trans hNx
 have hKz:=kb_trans hKx hKy
 have hzy:C<y3.heap.size:=Nat.lt_of_lt_of_le hzx hKy.size
 clear HC3 hSx hCx hNx hKx hKy hzx
 obtain ⟨x4,hx4⟩:∃x,x=y3.setCell ⟨C,2,none⟩ (.int .i64 1):=⟨_,rfl⟩
 have hCx:x4.heap[C]? =some (.cells #[.int .i64 1,.int .i64 1,.int .i64 1,.int .i64 0,.int .u64 0,.int .i64 0,.int .i64 0,.int .i64 3] 26 (0,0)):=by rw [hx4];exact (heap_setCell_same _ _ _ _ _ _ hCy).trans rfl
 have hNx:x4.heap[w.heap.size]? =some (.cells #[.int .i64 0,.int .i64 0,.int .i64 0,.int .i64 0,.int .u64 0,.int .i64 0,.int .i64 0,.int .i64 0] 26 (0,0)):=by rw [hx4];exact (Below.heap_setCell _ _ _ _ (by show w.heap.size≠C;omega)).trans hNy
 have hSx:Rd N x4 g b3 d3 (pl [0,0,0,0,0] R):=by rw [hx4];exact hSy.setO (by show C≠g;omega) (by show N≤C;omega) _
 have hKx:Kb g w x4:=by rw [hx4];exact kb_setN hKz (by show w.heap.size≤C;omega) _
 have hzx:C<x4.heap.size:=by rw [hx4];simpa using hzy
 have ec:y3.cell? ⟨C,2,none⟩=some (.int .i64 0):=by rw [cell_of_row _ _ _ _ _ _ hCy];rfl
 have ez:y3.frozen? ⟨C,2,none⟩=false:=frozen_of_row _ _ _ _ _ hCy
 clear hSy hCy hNy hKz hzy
 have HC4:=Lib.hid (rint_ok (n:=0) (by unfold i64;omega) hSx (Lib.hid rfl))
 go_wp2_with fail
 rw [←hx4]
 clear hx4 ec ez
 refine (HC4.out).mono ?_
 rintro e y4 ⟨b4,d4,rfl,hSy,hKy⟩
 have hCy:=(hKy.block C hzx (by simp;omega)).trans hCx
 have hNy:=(hKy.block w.heap.size (by omega) (by simp;omega)).trans hNx
 have hKz:=kb_trans hKx hKy
 have hzy:C<y4.heap.size:=Nat.lt_of_lt_of_le hzx hKy.size
 clear HC4 hSx hCx hNx hKx hKy hzx
 obtain ⟨x5,hx5⟩:∃x,x=y4.setCell ⟨C,3,none⟩ (.int .i64 0):=⟨_,rfl⟩
 have hCx:x5.heap[C]? =some (.cells #[.int .i64 1,.int .i64 1,.int .i64 1,.int .i64 0,.int .u64 0,.int .i64 0,.int .i64 0,.int .i64 3] 26 (0,0)):=by rw [hx5];exact (heap_setCell_same _ _ _ _ _ _ hCy).trans rfl
 have hNx:x5.heap[w.heap.size]? =some (.cells #[.int .i64 0,.int .i64 0,.int .i64 0,.int .i64 0,.int .u64 0,.int .i64 0,.int .i64 0,.int .i64 0] 26 (0,0)):=by rw [hx5];exact (Below.heap_setCell _ _ _ _ (by show w.heap.size≠C;omega)).trans hNy
 have hSx:Rd N x5 g b4 d4 (pl [0,0,0,0] R):=by rw [hx5];exact hSy.setO (by show C≠g;omega) (by show N≤C;omega) _
 have hKx:Kb g w x5:=by rw [hx5];exact kb_setN hKz (by show w.heap.size≤C;omega) _
 have hzx:C<x5.heap.size:=by rw [hx5];simpa using hzy
 have ec:y4.cell? ⟨C,3,none⟩=some (.int .i64 0):=by rw [cell_of_row _ _ _ _ _ _ hCy];rfl
 have ez:y4.frozen? ⟨C,3,none⟩=false:=frozen_of_row _ _ _ _ _ hCy
 clear hSy hCy hNy hKz hzy
 have HC5:=Lib.hid (rwithin_ok (n:=0) (lo:=0) (hi:=4294967295) (by unfold i64;omega) (by omega) (by omega) hSx (Lib.hid rfl))
 go_wp2_with fail
 rw [←hx5]
 clear hx5 ec ez
 refine (HC5.out).mono ?_
 rintro e y5 ⟨b5,d5,rfl,hSy,hKy⟩
 have hCy:=(hKy.block C hzx (by simp;omega)).trans hCx
 have hNy:=(hKy.block w.heap.size (by omega) (by simp;omega)).trans hNx
 have hKz:=kb_trans hKx hKy
 have hzy:C<y5.heap.size:=Nat.lt_of_lt_of_le hzx hKy.size
 clear HC5 hSx hCx hNx hKx hKy hzx
 obtain ⟨x6,hx6⟩:∃x,x=y5:=⟨_,rfl⟩
 rw [←hx6] at hSy hCy hNy hKz hzy ⊢
 clear hx6
 have hSx:=hSy
 have hCx:=hCy
 have hNx:=hNy
 have hKx:=hKz
 have hzx:=hzy
 clear hSy hCy hNy hKz hzy
 have HC6:=Lib.hid (rwithin_ok (n:=0) (lo:=0) (hi:=4294967295) (by unfold i64;omega) (by omega) (by omega) hSx (Lib.hid rfl))
 go_wp2_with fail
 refine (HC6.out).mono ?_
 rintro e y6 ⟨b6,d6,rfl,hSy,hKy⟩
 have hCy:=(hKy.block C hzx (by simp;omega)).trans hCx
 have hNy:=(hKy.block w.heap.size (by omega) (by simp;omega)).trans hNx
 have hKz:=kb_trans hKx hKy
 have hzy:C<y6.heap.size:=Nat.lt_of_lt_of_le hzx hKy.size
 clear HC6 hSx hCx hNx hKx hKy hzx
 obtain ⟨x7,hx7⟩:∃x,x=y6.setCell ⟨C,4,none⟩ (.int .u64 0):=⟨_,rfl⟩
 have hCx:x7.heap[C]? =some (.cells #[.int .i64 1,.int .i64 1,.int .i64 1,.int .i64 0,.int .u64 0,.int .i64 0,.int .i64 0,.int .i64 3] 26 (0,0)):=by rw [hx7];exact (heap_setCell_same _ _ _ _ _ _ hCy).trans rfl
 have hNx:x7.heap[w.heap.size]? =some (.cells #[.int .i64 0,.int .i64 0,.int .i64 0,.int .i64 0,.int .u64 0,.int .i64 0,.int .i64 0,.int .i64 0] 26 (0,0)):=by rw [hx7];exact (Below.heap_setCell _ _ _ _ (by show w.heap.size≠C;omega)).trans hNy
 have hSx:Rd N x7 g b6 d6 (pl [0,0] R):=by rw [hx7];exact hSy.setO (by show C≠g;omega) (by show N≤C;omega) _
 have hKx:Kb g w x7:=by rw [hx7];exact kb_setN hKz (by show w.heap.size≤C;omega) _
 have hzx:C<x7.heap.size:=by rw [hx7];simpa using hzy
 have ec:y6.cell? ⟨C,4,none⟩=some (.int .u64 0):=by rw [cell_of_row _ _ _ _ _ _ hCy];rfl
 have ez:y6.frozen? ⟨C,4,none⟩=false:=frozen_of_row _ _ _ _ _ hCy
 clear hSy hCy hNy hKz hzy
 have HC7:=Lib.hid (rint_ok (n:=0) (by unfold i64;omega) hSx (Lib.hid rfl))
 go_wp2_with fail
 rw [←hx7]
 clear hx7 ec ez
 refine (HC7.out).mono ?_
 rintro e y7 ⟨b7,d7,rfl,hSy,hKy⟩
 have hCy:=(hKy.block C hzx (by simp;omega)).trans hCx
 have hNy:=(hKy.block w.heap.size (by omega) (by simp;omega)).trans hNx
 have hKz:=kb_trans hKx hKy
 have hzy:C<y7.heap.size:=Nat.lt_of_lt_of_le hzx hKy.size
 clear HC7 hSx hCx hNx hKx hKy hzx
 obtain ⟨x8,hx8⟩:∃x,x=y7.setCell ⟨C,5,none⟩ (.int .i64 0):=⟨_,rfl⟩
 have hCx:x8.heap[C]? =some (.cells #[.int .i64 1,.int .i64 1,.int .i64 1,.int .i64 0,.int .u64 0,.int .i64 0,.int .i64 0,.int .i64 3] 26 (0,0)):=by rw [hx8];exact (heap_setCell_same _ _ _ _ _ _ hCy).trans rfl
 have hNx:x8.heap[w.heap.size]? =some (.cells #[.int .i64 0,.int .i64 0,.int .i64 0,.int .i64 0,.int .u64 0,.int .i64 0,.int .i64 0,.int .i64 0] 26 (0,0)):=by rw [hx8];exact (Below.heap_setCell _ _ _ _ (by show w.heap.size≠C;omega)).trans hNy
 have hSx:Rd N x8 g b7 d7 (pl [0] R):=by rw [hx8];exact hSy.setO (by show C≠g;omega) (by show N≤C;omega) _
 have hKx:Kb g w x8:=by rw [hx8];exact kb_setN hKz (by show w.heap.size≤C;omega) _
 have hzx:C<x8.heap.size:=by rw [hx8];simpa using hzy
 have ec:y7.cell? ⟨C,5,none⟩=some (.int .i64 0):=by rw [cell_of_row _ _ _ _ _ _ hCy];rfl
 have ez:y7.frozen? ⟨C,5,none⟩=false:=frozen_of_row _ _ _ _ _ hCy
 clear hSy hCy hNy hKz hzy
 have HC8:=Lib.hid (rint_ok (n:=0) (by unfold i64;omega) hSx (Lib.hid rfl))
 go_wp2_with fail
 rw [←hx8]
 clear hx8 ec ez
 refine (HC8.out).mono ?_
 rintro e y8 ⟨b8,d8,rfl,hSy,hKy⟩
 have hCy:=(hKy.block C hzx (by simp;omega)).trans hCx
 have hNy:=(hKy.block w.heap.size (by omega) (by simp;omega)).trans hNx
 have hKz:=kb_trans hKx hKy
 have hzy:C<y8.heap.size:=Nat.lt_of_lt_of_le hzx hKy.size
 clear HC8 hSx hCx hNx hKx hKy hzx
 obtain ⟨x9,hx9⟩:∃x,x=y8.setCell ⟨C,6,none⟩ (.int .i64 0):=⟨_,rfl⟩
 have hCx:x9.heap[C]? =some (.cells #[.int .i64 1,.int .i64 1,.int .i64 1,.int .i64 0,.int .u64 0,.int .i64 0,.int .i64 0,.int .i64 3] 26 (0,0)):=by rw [hx9];exact (heap_setCell_same _ _ _ _ _ _ hCy).trans rfl
 have hNx:x9.heap[w.heap.size]? =some (.cells #[.int .i64 0,.int .i64 0,.int .i64 0,.int .i64 0,.int .u64 0,.int .i64 0,.int .i64 0,.int .i64 0] 26 (0,0)):=by rw [hx9];exact (Below.heap_setCell _ _ _ _ (by show w.heap.size≠C;omega)).trans hNy
 have hSx:Rd N x9 g b8 d8 (pl [] R):=by rw [hx9];exact hSy.setO (by show C≠g;omega) (by show N≤C;omega) _
 have hKx:Kb g w x9:=by rw [hx9];exact kb_setN hKz (by show w.heap.size≤C;omega) _
 have hzx:C<x9.heap.size:=by rw [hx9];simpa using hzy
 have ec:y8.cell? ⟨C,6,none⟩=some (.int .i64 0):=by rw [cell_of_row _ _ _ _ _ _ hCy];rfl
 have ez:y8.frozen? ⟨C,6,none⟩=false:=frozen_of_row _ _ _ _ _ hCy
 clear hSy hCy hNy hKz hzy
 have ex:∀o,x9.cell? ⟨C,o,none⟩=(#[.int .i64 1,.int .i64 1,.int .i64 1,.int .i64 0,.int .u64 0,.int .i64 0,.int .i64 0,.int .i64 3]:Array Value)[o]? :=fun o=>by rw [cell_of_row _ _ _ _ _ _ hCx]
 have hrg:x9.rangeAt C 0 [.int .i64 1,.int .i64 1,.int .i64 1,.int .i64 0,.int .u64 0,.int .i64 0,.int .i64 0,.int .i64 3]:=fun j x hx=>by
  rw [Nat.zero_add,ex,←hx]
  exact List.getElem?_toArray
 have hth : x9.there w.heap.size 0 (#[.int .i64 1, .int .i64 1, .int .i64 1, .int .i64 0, .int .u64 0, .int .i64 0, .int .i64 0, .int .i64 3] : Array Value).size := fun j hj => ⟨by
     have h8:j<8:=hj
     have hz8:(#[.int .i64 0,.int .i64 0,.int .i64 0,.int .i64 0,.int .u64 0,.int .i64 0,.int .i64 0,.int .i64 0]:Array Value).size=8:=rfl
     rw [Nat.zero_add,cell_of_row _ _ _ _ _ _ hNx,Array.getElem?_eq_getElem (by omega)];rfl,by rw [Nat.zero_add];exact frozen_of_row _ _ _ _ _ hNx⟩
 have hone:(#[.int .i64 1,.int .i64 1,.int .i64 1,.int .i64 0,.int .u64 0,.int .i64 0,.int .i64 0,.int .i64 3]:Array Value).all (·.oneCell')=true:=all_oneCell_toArray (cs:=[.int .i64 1,.int .i64 1,.int .i64 1,.int .i64 0,.int .u64 0,.int .i64 0,.int .i64 0,.int .i64 3]) (by
  intro v hv
  repeat (rcases List.mem_cons.1 hv with e|hv;(subst e;rfl))
  cases hv)
 obtain ⟨u,hu⟩:∃u,u=x9.setCells w.heap.size 0 [.int .i64 1,.int .i64 1,.int .i64 1,.int .i64 0,.int .u64 0,.int .i64 0,.int .i64 0,.int .i64 3]:=⟨_,rfl⟩
 have hur:u.heap[w.heap.size]? =some (.cells #[.int .i64 1,.int .i64 1,.int .i64 1,.int .i64 0,.int .u64 0,.int .i64 0,.int .i64 0,.int .i64 3] 26 (0,0)):=by
  rw [hu]
  exact (setAll_row _ _ _ _ hNx rfl).trans rfl
 have hRg:Rd N x9 g b8 d8 R:=hSx
 have hRu:Rd N u g b8 d8 R:=by rw [hu];exact rd_setAll (by omega) hN0 _ _ _ hRg
 have hKu:Kb g w u:=by rw [hu];exact kb_setAll (Nat.le_refl _) _ _ _ hKx
 rw [hx9] at hrg hth hu
 have HRG:=Lib.hid hrg
 have HTH:=Lib.hid hth
 have HONE:=Lib.hid hone
 clear hrg hth hone ex hNx hCx hSx hKx hRg hx9
 go_wp2_with (first|refine wpList_load_mid rfl 26 _ rfl C 0 rfl [.int .i64 1,.int .i64 1,.int .i64 1,.int .i64 0,.int .u64 0,.int .i64 0,.int .i64 0,.int .i64 3] _ HRG.out Tryz.underlying26 rfl (by kernel_rfl) ?_|refine wpList_store_mid rfl 26 _ _ rfl w.heap.size 0 #[.int .i64 1,.int .i64 1,.int .i64 1,.int .i64 0,.int .u64 0,.int .i64 0,.int .i64 0,.int .i64 3] rfl rfl HTH.out (by kernel_rfl) HONE.out ?_)
 rw [←hu]
 have hrv:u.rangeAt w.heap.size 0 [.int .i64 1,.int .i64 1,.int .i64 1,.int .i64 0,.int .u64 0,.int .i64 0,.int .i64 0,.int .i64 3]:=fun j x hx=>by
  rw [Nat.zero_add,cell_of_row _ _ _ _ _ _ hur,←hx]
  exact List.getElem?_toArray
 have hld:=run_loadVar_mid (P:=Tryz.prog) u w.heap.size 0 26 [.int .i64 1,.int .i64 1,.int .i64 1,.int .i64 0,.int .u64 0,.int .i64 0,.int .i64 0,.int .i64 3] _ hrv Tryz.underlying26 rfl (by kernel_rfl)
 exact bodyPost_ret (v:= .agg #[.int .i64 1,.int .i64 1,.int .i64 1,.int .i64 0,.int .u64 0,.int .i64 0,.int .i64 0,.int .i64 3]) (results_c Tryz.results68 _ _ _ rfl hld) rfl ⟨rfl,⟨_,_,hRu⟩,hKu⟩
end
end Go.Proofs.YtlmfbjiejodalaaGreatDoor
