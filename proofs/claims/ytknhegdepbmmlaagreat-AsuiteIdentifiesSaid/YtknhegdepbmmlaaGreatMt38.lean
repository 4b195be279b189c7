/- Several texts, one behind the other. Conditions: as each of them says. -/
import Derived.Test.YtknhegdepbmmlaaGreatMt37
import Derived.Test.YtknhegdepbmmlaaGreatMt36
import Derived.Test.YtknhegdepbmmlaaGreatMt33
import Derived.Test.YtknhegdepbmmlaaGreatMt31
import Derived.Test.YtknhegdepbmmlaaGreatMt28
import Derived.Test.YtknhegdepbmmlaaGreatMt25
import Derived.Test.YtknhegdepbmmlaaGreatMt24
import Derived.Test.YtknhegdepbmmlaaGreatMt22
import Derived.Test.YtknhegdepbmmlaaGreatMt21
import Derived.Test.YtknhegdepbmmlaaGreatMt17
import Derived.Test.YtknhegdepbmmlaaGreatMt16
import Derived.Test.YtknhegdepbmmlaaGreatMt6
import Derived.Test.YtknhegdepbmmlaaGreatMt4
import Derived.Test.YtknhegdepbmmlaaGreatMt3
set_option maxRecDepth 100000
set_option maxHeartbeats 32000000
/- distinguish.Build from the start. Condition: fewer than 1000 states. -/
namespace Go.Proofs.YtknhegdepbmmlaaGreat
open Go.RowKit
theorem Bd.new {w : World} {an ao : Option Addr} {cn co : Nat} {m : Mach} {n0 : Nat} (hn : n0 ≤ w.heap.size) : Bd n0 (fun k => k = w.heap.size) (w.alloc (.cells #[.int .i64 m.inputs, .int .i64 m.start, .slice an m.next.length cn, .slice ao m.out.length co, .slice none 0 0] 93)) w.heap.size an cn ao co m (.slice none 0 0) [] := by
 refine ⟨⟨?_, ?_, ?_, ?_⟩, ?_, ?_, NdOk.nil, rfl, fun k hk => ?_, fun k hk => Nat.le_of_eq hk.symm, hn⟩
 ·simp
 ·simp
 ·simp
 ·simp
 ·simp
 ·unfold World.frozen?; rw [heap_alloc_new]; simp
 ·subst hk; simp
/-- In plain words: the nodes, whether they are complete, the error. -/
def Mach.adsL (m : Mach) : List Nd := m.grow 4097 [] ⟨allS m.next.length, allS m.next.length⟩ []
def Mach.adsB (m : Mach) : List Nd × Bool × Int := if m.minErr ≠ 0 then ([], false, m.minErr) else if 4096 < m.adsL.length then ([], false, 11) else (m.adsL, complB m.adsL, 0)
theorem cell_of_heap {w : World} {b : Nat} {v : Value} {T : TypeId} (h : w.heap[b]? = some (.cells #[v] T (0, 0))) : w.cell? ⟨b, 0, none⟩ = some v := by simp [World.cell?, h]
theorem frozen_of_heap {w : World} {b : Nat} {v : Value} {T : TypeId} (h : w.heap[b]? = some (.cells #[v] T (0, 0))) : w.frozen? ⟨b, 0, none⟩ = false := by simp [World.frozen?, h]
section
variable {M : Nat → Prop} {w : World} {an ao : Option Addr} {cn co : Nat} {m : Mach}
theorem gbuild_any (hm : Ma M w an cn ao co m) (hn : Hid (m.next.length < 1000)) :
    Calls Tryz.prog 21 #[maV m an cn ao co] w fun e w' => ∃ (a : Option Addr) (c : Nat) (L : List Nd) (y : Bool) (e1 : Int), e = .returned (.tuple #[.agg #[.slice a L.length c], .bool y, .int .i64 e1]) ∧
     Hid (m.adsB = (L, y, e1)) ∧ Sl (fun k => k < w.heap.size) w' a c L ∧ Below w.heap.size w w' := by
 have hB0 := (Below.refl w.heap.size w).alloc (Nat.le_refl _) (maO m an cn ao co)
 have hx0 : C4 (w.alloc (maO m an cn ao co)) w.heap.size an cn ao co m := c4_new w
 have hB1 := hB0.alloc (by simp) (.cells #[.slice none 0 0] 27)
 have hx1 := hx0.below ((Below.refl (w.heap.size + 1) (w.alloc (maO m an cn ao co))).alloc (by simp) (.cells #[.slice none 0 0] 27)) (by omega)
 have hr1 : Hid (((w.alloc (maO m an cn ao co)).alloc (.cells #[.slice none 0 0] 27)).heap[w.heap.size + 1]? = some (.cells #[.slice none 0 0] 27 (0, 0))) := by
  have := heap_alloc_new (w.alloc (maO m an cn ao co)) (.cells #[.slice none 0 0] 27)
  unfold Hid
  simpa using this
 have hz1 : ((w.alloc (maO m an cn ao co)).alloc (.cells #[.slice none 0 0] 27)).heap.size = w.heap.size + 2 := by simp
 have HM := Lib.hid hm
 have HCk := Lib.hid (dcheck_any (hm.below hB1))
 clear hm hB0 hx0
 go_enter Tryz.func21, Tryz.ntmps21
 go_upto_region 1 with (fail)
 generalize (w.alloc (maO m an cn ao co)).alloc (.cells #[.slice none 0 0] 27) = w1 at *
 go_upto_region 2 with (refine (HCk.out).mono ?_; rintro e w2 ⟨rfl, hb2⟩)
 have hx2 := hx1.below hb2 (by omega)
 have hB2 := hB1.trans (hb2.mono (by omega))
 have hr2 : Hid (w2.heap[w.heap.size + 1]? = some (.cells #[.slice none 0 0] 27 (0, 0))) := (hb2.block _ (by omega)).trans hr1.out
 have hz2 : w.heap.size + 2 ≤ w2.heap.size := by have := hb2.size; omega
 clear hx1 hB1 hr1 hb2 hz1 HCk
 have hc2 := cell_of_heap hr2.out
 have hf2 := frozen_of_heap hr2.out
 by_cases he : m.minErr = 0
 ·have he' : (m.minErr != 0) = false := by simp [he]
  have HE := Lib.hid he
  have ok : Hid m.Ok := Mach.ok_of_err m (Mach.minErr_ok HE.out).1
  clear he
  go_upto_region 5 with (fail)
  have hba := (Below.refl w2.heap.size w2).alloc (Nat.le_refl _) (.cells #[.int .i64 m.inputs, .int .i64 m.start, .slice an m.next.length cn, .slice ao m.out.length co, .slice none 0 0] 93)
  have hBd3 : Bd (w.heap.size + 2) _ _ w2.heap.size an cn ao co m (.slice none 0 0) [] := Bd.new (by omega)
  have hx3 := hx2.below hba (by omega)
  have hB3 := hB2.trans (hba.mono (by omega))
  have hr3 : Hid ((w2.alloc (.cells #[.int .i64 m.inputs, .int .i64 m.start, .slice an m.next.length cn, .slice ao m.out.length co, .slice none 0 0] 93)).heap[w.heap.size + 1]? = some (.cells #[.slice none 0 0] 27 (0, 0))) := (hba.block _ (by omega)).trans hr2.out
  clear hx2 hB2 hr2 hba hc2 hf2
  generalize w2.alloc (.cells #[.int .i64 m.inputs, .int .i64 m.start, .slice an m.next.length cn, .slice ao m.out.length co, .slice none 0 0] 93) = w3 at *
  refine wp_region_T (fun w' => C4 w' w.heap.size an cn ao co m) [0, 1, 3, 5] (by kernel_rfl) ?_
  have hbd := (Below.refl w3.heap.size w3).drew
  have hBd4 := hBd3.below hbd
  have hx4 := hx3.below hbd (by have := hBd3.size; omega)
  have hB4 := hB3.trans (hbd.mono (by have := hBd3.size; omega))
  have hr4 : Hid (w3.drew.heap[w.heap.size + 1]? = some (.cells #[.slice none 0 0] 27 (0, 0))) := hr3.out
  clear hBd3 hx3 hB3 hr3 hbd
  generalize w3.drew = w4 at *
  have hz4 : w2.heap.size < w4.heap.size := hBd4.size
  have HS1 := Lib.hid (dstates_any (HM.out.below hB4) (by have := hn.out; omega))
  refine skT_on [0, 1, 3] ?_
  repeat (refine skT_take (v := ?_) rfl ?_ ?_; rotate_left; (focus (intro w' hSw; (try dsimp only at hSw); go_simp; try with_reducible rfl)); try simp only [Act.put, List.setIfInBounds_toArray, List.set_cons_zero, List.set_cons_succ])
  refine skT_off ?_
  refine wpAnyT_one (i := 2) (by kernel_rfl) rfl rfl (fun K hK => ?_)
  go_simp
  refine (HS1.out).mono ?_
  rintro e w5 ⟨a5, c5, I5, rfl, hI5, hI5s, hb5⟩
  have hBd5 := hBd4.below hb5
  have hx5 := hx4.below hb5 (by omega)
  have hB5 := hB4.trans (hb5.mono (by omega))
  have hr5 : Hid (w5.heap[w.heap.size + 1]? = some (.cells #[.slice none 0 0] 27 (0, 0))) := (hb5.block _ (by omega)).trans hr4.out
  replace hI5s := hI5s.anti (M' := fun k => k = w2.heap.size) (fun k _ hm => by omega)
  have hz5 : w2.heap.size < w5.heap.size := hBd5.size
  refine hK _ _ (fun _ => hx5) ?_
  clear hK K hBd4 hx4 hB4 hr4 hz4 hb5 HS1
  have HS2 := Lib.hid (dstates_any (HM.out.below hB5) (by have := hn.out; omega))
  refine wpAnyT_one (i := 4) (by kernel_rfl) rfl rfl (fun K hK => ?_)
  go_simp
  refine (HS2.out).mono ?_
  rintro e w6 ⟨a6, c6, I6, rfl, hI6, hI6s, hb6⟩
  have hBd6 := hBd5.below hb6
  have hx6 := hx5.below hb6 (by omega)
  have hB6 := hB5.trans (hb6.mono (by omega))
  have hr6 : Hid (w6.heap[w.heap.size + 1]? = some (.cells #[.slice none 0 0] 27 (0, 0))) := (hb6.block _ (by omega)).trans hr5.out
  have hI56s := hI5s.below hb6
  replace hI6s := hI6s.anti (M' := fun k => k = w2.heap.size) (fun k _ hm => by omega)
  have hz6 : w2.heap.size < w6.heap.size := hBd6.size
  refine hK _ _ (fun _ => hx6) ?_
  have hMw : Ma (fun k => k = w2.heap.size) w6 an cn ao co m := HM.out.ext ⟨hB6.size, fun k hk _ => hB6.block k hk, fun k hk h => by omega⟩
  clear hK K hBd5 hx5 hB5 hr5 hz5 hb6 HS2 hI5s
  have hI5l : Hid (I5.length = m.next.length) := by unfold Hid; rw [hI5.out, allS_len]
  have hI6l : Hid (I6.length = m.next.length) := by unfold Hid; rw [hI6.out, allS_len]
  have hgok : Hid (GOk m.next.length ⟨I5, I6⟩) := ⟨by rw [hI5.out, hI6.out], by show 0 < List.length I6; rw [hI6l.out]; exact ok.out.n0, fun s hs => by
   have hs : s ∈ I6 := hs
   rw [hI6.out] at hs
   unfold allS at hs
   obtain ⟨k, hk, rfl⟩ := List.mem_map.1 hs
   have := List.mem_range.1 hk
   omega⟩
  have HGr := Lib.hid (tgrow_any 4097 (u := []) hBd6 hMw hI56s hI6s (Sl.nil (α := Int) _ _ none (c := 0) (by unfold maxLen; omega)) ok hgok (by show Hid (List.length I6 < 1000); unfold Hid; rw [hI6l.out]; exact hn.out) (fun y hy => by simp at hy) (by simp [Hid]) (by simp [Hid]))
  have hgr : Hid (m.grow 4097 [] ⟨I5, I6⟩ [] = m.adsL) := by unfold Hid Mach.adsL; rw [hI5.out, hI6.out]
  refine skT_on [5] ?_
  repeat (refine skT_take (v := ?_) rfl ?_ ?_; rotate_left; (focus (intro w' hSw; (try dsimp only at hSw); go_simp; try with_reducible rfl)); try simp only [Act.put, List.setIfInBounds_toArray, List.set_cons_zero, List.set_cons_succ])
  refine skT_off ?_
  refine wpAnyT_one (i := 6) (by kernel_rfl) rfl rfl (fun K hK => ?_)
  go_simp
  refine (HGr.out).mono ?_
  rintro e w7 ⟨W7, v7, rfl, hBd7, hE7, hb7⟩
  rw [hgr.out] at hBd7
  have hB7 := hB6.trans (hb7.mono (by omega))
  have hr7 : Hid (w7.heap[w.heap.size + 1]? = some (.cells #[.slice none 0 0] 27 (0, 0))) := (hb7.block _ (by omega)).trans hr6.out
  refine hK _ _ (fun _ => hx6.below hb7 (by omega)) ?_
  clear hK K
  refine wpAnyT_done (by kernel_rfl) ?_ _
  clear hBd6 hx6 hB6 hr6 hI56s hI6s hz6 hMw hI5l hI6l hgok HGr hgr hE7 hb7 hI5 hI6
  obtain ⟨L, hL⟩ : ∃ L, Hid (L = m.adsL) := ⟨_, rfl⟩
  rw [← hL.out] at hBd7
  obtain ⟨aL, cL, rfl, hcL, hcM⟩ := hBd7.len
  have hnd7 := hBd7.nd
  have hz7 : w.heap.size + 2 ≤ w7.heap.size := by have := hBd7.size; omega
  have hc7 := cell_of_heap hr7.out
  have hf7 := frozen_of_heap hr7.out
  have hLs : Hid (Sl (fun k => k < w.heap.size + 2) w7 aL cL L) := hBd7.ok.toSl (fun k hk => by omega) (fun k hk hm => .inr hm)
  by_cases hfull : 4096 < L.length
  ·have hR : Hid (m.adsB = ([], false, 11)) := by unfold Hid Mach.adsB; rw [if_neg (by simp [HE.out]), ← hL.out, if_pos hfull]
   go_wp2
   have hc3 := World.cell?_setCell_same w7 ⟨w.heap.size + 1, 0, none⟩ (.slice none 0 0) hc7
   have hBf := hB7.setCell (p := ⟨w.heap.size + 1, 0, none⟩) (by simp) (.slice none 0 0)
   generalize w7.setCell ⟨w.heap.size + 1, 0, none⟩ (.slice none 0 0) = wf at *
   exact bodyPost_ret (v := .tuple #[.agg #[.slice none 0 0], .bool false, .int .i64 11]) (by simp [results, Tryz.results21, go_sem, hc3]) rfl ⟨none, 0, [], false, 11, rfl, hR, Sl.nil _ _ _ (by unfold maxLen; omega), hBf⟩
  ·have hR : Hid (m.adsB = (L, complB L, 0)) := by unfold Hid Mach.adsB; rw [if_neg (by simp [HE.out]), ← hL.out, if_neg hfull]
   go_upto_region 9 with (fail)
   have hba := (Below.refl w7.heap.size w7).alloc (Nat.le_refl _) (.cells #[.slice aL L.length cL] 27)
   have hB8 := hB7.trans (hba.mono (by omega))
   have hr8 : Hid ((w7.alloc (.cells #[.slice aL L.length cL] 27)).heap[w.heap.size + 1]? = some (.cells #[.slice none 0 0] 27 (0, 0))) := (hba.block _ (by omega)).trans hr7.out
   have ht8 : Hid ((w7.alloc (.cells #[.slice aL L.length cL] 27)).heap[w7.heap.size]? = some (.cells #[.slice aL L.length cL] 27 (0, 0))) := heap_alloc_new _ _
   have hL8 : Hid (Sl (fun k => k < w.heap.size + 2) (w7.alloc (.cells #[.slice aL L.length cL] 27)) aL cL L) := hLs.out.below hba
   have hs8 : w7.heap.size < (w7.alloc (.cells #[.slice aL L.length cL] 27)).heap.size := by simp
   clear hba hB7 hr7 hLs hBd7 hnd7 hc7 hf7
   generalize w7.alloc (.cells #[.slice aL L.length cL] 27) = w8 at *
   refine wp_region_T (fun w' => w'.cell? ⟨w7.heap.size, 0, none⟩ = some (.slice aL L.length cL)) [0, 1, 4, 5] (by kernel_rfl) ?_
   have hbd := (Below.refl w8.heap.size w8).drew
   have hB9 := hB8.trans (hbd.mono (by omega))
   have hr9 : Hid (w8.drew.heap[w.heap.size + 1]? = some (.cells #[.slice none 0 0] 27 (0, 0))) := hr8.out
   have ht9 : Hid (w8.drew.heap[w7.heap.size]? = some (.cells #[.slice aL L.length cL] 27 (0, 0))) := ht8.out
   have hL9 : Hid (Sl (fun k => k < w.heap.size + 2) w8.drew aL cL L) := hL8.out.below hbd
   have hs9 : w7.heap.size < w8.drew.heap.size := hs8
   clear hbd hB8 hr8 ht8 hL8 hs8
   generalize w8.drew = w9 at *
   have hS9 := cell_of_heap ht9.out
   have HCo := Lib.hid (compl_any hL9.out (Lib.hid (by omega)))
   refine skT_on [0, 1] ?_
   repeat (refine skT_take (v := ?_) rfl ?_ ?_; rotate_left; (focus (intro w' hSw; (try dsimp only at hSw); go_simp; try with_reducible rfl)); try simp only [Act.put, List.setIfInBounds_toArray, List.set_cons_zero, List.set_cons_succ])
   refine skT_off ?_
   refine wpAnyT_one (i := 2) (by kernel_rfl) rfl rfl (fun K hK => ?_)
   go_simp
   refine (HCo.out).mono ?_
   rintro e w10 ⟨rfl, hb10⟩
   have hB10 := hB9.trans (hb10.mono (by omega))
   have hr10 : Hid (w10.heap[w.heap.size + 1]? = some (.cells #[.slice none 0 0] 27 (0, 0))) := (hb10.block _ (by omega)).trans hr9.out
   have ht10 : Hid (w10.heap[w7.heap.size]? = some (.cells #[.slice aL L.length cL] 27 (0, 0))) := (hb10.block _ hs9).trans ht9.out
   have hL10 := Lib.hid (hL9.out.below hb10)
   have hS10 := cell_of_heap ht10.out
   refine hK _ _ (fun _ => hS10) ?_
   clear hK K HCo hB9 hr9 ht9 hL9 hs9 hS9 hb10
   have hc10 := cell_of_heap hr10.out
   have hf10 := frozen_of_heap hr10.out
   refine wpAnyT_one (i := 3) (by kernel_rfl) rfl rfl (fun K hK => ?_)
   go_simp
   have hS11 := (World.cell?_setCell_other w10 ⟨w.heap.size + 1, 0, none⟩ ⟨w7.heap.size, 0, none⟩ (.slice aL L.length cL) (fun e => by have := (Addr.mk.inj e).1; omega)).trans hS10
   refine hK _ _ (fun _ => hS11) ?_
   clear hK K
   have hc11 := World.cell?_setCell_same w10 ⟨w.heap.size + 1, 0, none⟩ (.slice aL L.length cL) hc10
   have hB11 := hB10.setCell (p := ⟨w.heap.size + 1, 0, none⟩) (by simp) (.slice aL L.length cL)
   have hL11 : Sl (fun k => k < w.heap.size) (w10.setCell ⟨w.heap.size + 1, 0, none⟩ (.slice aL L.length cL)) aL cL L := (hL10.out.ext (Ext.setCell w10 (p := ⟨w.heap.size + 1, 0, none⟩) (by show w.heap.size + 1 < w.heap.size + 2; omega) (.slice aL L.length cL))).anti (fun k _ hk => by omega)
   generalize w10.setCell ⟨w.heap.size + 1, 0, none⟩ (.slice aL L.length cL) = wf at *
   refine skT_on [4, 5] ?_
   repeat (refine skT_take (v := ?_) rfl ?_ ?_; rotate_left; (focus (intro w' hSw; (try dsimp only at hSw); go_simp; try with_reducible rfl)); try simp only [Act.put, List.setIfInBounds_toArray, List.set_cons_zero, List.set_cons_succ])
   refine skT_off ?_
   refine wpAnyT_done (by kernel_rfl) ?_ _
   go_wp2
   exact bodyPost_ret (v := .tuple #[.agg #[.slice aL L.length cL], .bool (complB L), .int .i64 0]) (by simp [results, Tryz.results21, go_sem, hc11]) rfl ⟨aL, cL, L, complB L, 0, rfl, hR, hL11, hB11⟩
 ·have he' : (m.minErr != 0) = true := by simp [he]
  have hR : Hid (m.adsB = ([], false, m.minErr)) := by unfold Hid Mach.adsB; rw [if_pos he]
  clear he
  go_wp2
  have hc3 := World.cell?_setCell_same w2 ⟨w.heap.size + 1, 0, none⟩ (.slice none 0 0) hc2
  have hBf := hB2.setCell (p := ⟨w.heap.size + 1, 0, none⟩) (by simp) (.slice none 0 0)
  generalize w2.setCell ⟨w.heap.size + 1, 0, none⟩ (.slice none 0 0) = wf at *
  exact bodyPost_ret (v := .tuple #[.agg #[.slice none 0 0], .bool false, .int .i64 m.minErr]) (by simp [results, Tryz.results21, go_sem, hc3]) rfl ⟨none, 0, [], false, m.minErr, rfl, hR, Sl.nil _ _ _ (by unfold maxLen; omega), hBf⟩
end
end Go.Proofs.YtknhegdepbmmlaaGreat
/- distinguish.Check from the start. Condition: fewer than 1000 states, fewer than a billion nodes. -/
namespace Go.Proofs.YtknhegdepbmmlaaGreat
open Go.RowKit
/-- In plain words. -/
def Mach.adsChk (m : Mach) (T : List Nd) : Int := if m.minErr ≠ 0 then m.minErr else if 4096 < T.length then 1 else if m.right T (T.length + 1) 0 ⟨allS m.next.length, allS m.next.length⟩ = (T.length, true) then 0 else 1
theorem allS_ok {m : Mach} (ok : m.Ok) {I J : List Int} (hI : I = allS m.next.length) (hJ : J = allS m.next.length) : GOk m.next.length ⟨I, J⟩ := by
 subst hI hJ
 refine ⟨rfl, by show 0 < (allS m.next.length).length; rw [allS_len]; exact ok.n0, fun s hs => ?_⟩
 have hs : s ∈ allS m.next.length := hs
 unfold allS at hs
 obtain ⟨k, hk, rfl⟩ := List.mem_map.1 hs
 have := List.mem_range.1 hk
 omega
section
variable {M MT : Nat → Prop} {w : World} {an ao aT : Option Addr} {cn co cT : Nat} {m : Mach} {T : List Nd}
theorem gcheck_any (hm : Ma M w an cn ao co m) (hT : Sl MT w aT cT T) (hn : Hid (m.next.length < 1000)) (hTn : Hid (T.length < 1000000000)) :
    Calls Tryz.prog 33 #[maV m an cn ao co, .agg #[.slice aT T.length cT]] w fun e w' => e = .returned (.int .i64 (m.adsChk T)) ∧ Below w.heap.size w w' := by
 have hB0 := (Below.refl w.heap.size w).alloc (Nat.le_refl _) (maO m an cn ao co)
 have hx0 : C4 (w.alloc (maO m an cn ao co)) w.heap.size an cn ao co m := c4_new w
 have hB1 := hB0.alloc (by simp) (.cells #[.slice aT T.length cT] 27)
 have hx1 := hx0.below ((Below.refl (w.heap.size + 1) (w.alloc (maO m an cn ao co))).alloc (by simp) (.cells #[.slice aT T.length cT] 27)) (by omega)
 have ht1 : ((w.alloc (maO m an cn ao co)).alloc (.cells #[.slice aT T.length cT] 27)).cell? ⟨w.heap.size + 1, 0, none⟩ = some (.slice aT T.length cT) := by simp
 have hz1 : ((w.alloc (maO m an cn ao co)).alloc (.cells #[.slice aT T.length cT] 27)).heap.size = w.heap.size + 2 := by simp
 have l5 := hT.le
 have HM := Lib.hid hm
 have HT := Lib.hid hT
 have HCk := Lib.hid (dcheck_any (hm.below hB1))
 clear hm hT hB0 hx0
 go_enter Tryz.func33, Tryz.ntmps33
 go_upto_region 1 with (fail)
 generalize (w.alloc (maO m an cn ao co)).alloc (.cells #[.slice aT T.length cT] 27) = w1 at *
 go_upto_region 2 with (refine (HCk.out).mono ?_; rintro e w2 ⟨rfl, hb2⟩)
 have hx2 := hx1.below hb2 (by omega)
 have hB2 := hB1.trans (hb2.mono (by omega))
 have ht2 := (hb2.cell (p := ⟨w.heap.size + 1, 0, none⟩) (by show w.heap.size + 1 < _; omega)).trans ht1
 have hz2 : w.heap.size + 2 ≤ w2.heap.size := by have := hb2.size; omega
 clear hx1 hB1 hb2 hz1 HCk ht1
 by_cases he : m.minErr = 0
 ·have he' : (m.minErr != 0) = false := by simp [he]
  have HE := Lib.hid he
  have ok : Hid m.Ok := Mach.ok_of_err m (Mach.minErr_ok HE.out).1
  clear he
  by_cases hbig : 4096 < T.length
  ·have hR : Hid ((1 : Int) = m.adsChk T) := by unfold Hid Mach.adsChk; rw [if_neg (by simp [HE.out]), if_pos hbig]
   go_wp2
   go_ret
   exact ⟨by rw [← hR.out]; rfl, hB2⟩
  ·have hbig2 := Lib.hid hbig
   go_upto_region 7 with (fail)
   have hba := (Below.refl w2.heap.size w2).alloc (Nat.le_refl _) (.cells #[.int .i64 m.inputs, .int .i64 m.start, .slice an m.next.length cn, .slice ao m.out.length co, .slice none 0 0] 93)
   have hc3 : C4 (w2.alloc (.cells #[.int .i64 m.inputs, .int .i64 m.start, .slice an m.next.length cn, .slice ao m.out.length co, .slice none 0 0] 93)) w2.heap.size an cn ao co m := ⟨by simp, by simp, by simp, by simp⟩
   have hx3 := hx2.below hba (by omega)
   have hB3 := hB2.trans (hba.mono (by omega))
   have ht3 := (hba.cell (p := ⟨w.heap.size + 1, 0, none⟩) (by show w.heap.size + 1 < _; omega)).trans ht2
   have hz3 : w2.heap.size < (w2.alloc (.cells #[.int .i64 m.inputs, .int .i64 m.start, .slice an m.next.length cn, .slice ao m.out.length co, .slice none 0 0] 93)).heap.size := by simp
   clear hx2 hB2 ht2 hba
   generalize w2.alloc (.cells #[.int .i64 m.inputs, .int .i64 m.start, .slice an m.next.length cn, .slice ao m.out.length co, .slice none 0 0] 93) = w3 at *
   refine wp_region_T (fun w' => C4 w' w.heap.size an cn ao co m ∧ w'.cell? ⟨w.heap.size + 1, 0, none⟩ = some (.slice aT T.length cT)) [0, 1, 2, 4, 6, 8, 9, 10, 11, 12] (by kernel_rfl) ?_
   have hbd := (Below.refl w3.heap.size w3).drew
   have hc4 := hc3.below hbd hz3
   have hB4 := hB3.trans (hbd.mono (by omega))
   have hS4 := And.intro (hx3.below hbd (by omega)) ((hbd.cell (p := ⟨w.heap.size + 1, 0, none⟩) (by show w.heap.size + 1 < _; omega)).trans ht3)
   have hz4 : w2.heap.size < w3.drew.heap.size := hz3
   clear hc3 hx3 hB3 ht3 hbd hz3
   generalize w3.drew = w4 at *
   have HS1 := Lib.hid (dstates_any (HM.out.below hB4) (by have := hn.out; omega))
   refine skT_on [0, 1, 2, 4] ?_
   repeat (refine skT_take (v := ?_) rfl ?_ ?_; rotate_left; (focus (intro w' hSw; (try dsimp only at hSw); go_simp; try with_reducible rfl)); try simp only [Act.put, List.setIfInBounds_toArray, List.set_cons_zero, List.set_cons_succ])
   refine skT_off ?_
   refine wpAnyT_one (i := 3) (by kernel_rfl) rfl rfl (fun K hK => ?_)
   go_simp
   refine (HS1.out).mono ?_
   rintro e w5 ⟨a5, c5, I5, rfl, hI5, hI5s, hb5⟩
   have hc5 := hc4.below hb5 hz4
   have hB5 := hB4.trans (hb5.mono (by omega))
   have hS5 := And.intro (hS4.1.below hb5 (by omega)) ((hb5.cell (p := ⟨w.heap.size + 1, 0, none⟩) (by show w.heap.size + 1 < _; omega)).trans hS4.2)
   have hz5 : w2.heap.size < w5.heap.size := by have := hb5.size; omega
   refine hK _ _ (fun _ => hS5) ?_
   clear hK K hc4 hB4 hS4 hz4 hb5 HS1
   have HS2 := Lib.hid (dstates_any (HM.out.below hB5) (by have := hn.out; omega))
   refine wpAnyT_one (i := 5) (by kernel_rfl) rfl rfl (fun K hK => ?_)
   go_simp
   refine (HS2.out).mono ?_
   rintro e w6 ⟨a6, c6, I6, rfl, hI6, hI6s, hb6⟩
   have hc6 := hc5.below hb6 hz5
   have hB6 := hB5.trans (hb6.mono (by omega))
   have hS6 := And.intro (hS5.1.below hb6 (by omega)) ((hb6.cell (p := ⟨w.heap.size + 1, 0, none⟩) (by show w.heap.size + 1 < _; omega)).trans hS5.2)
   have hz6 : w2.heap.size < w6.heap.size := by have := hb6.size; omega
   have hI56s := hI5s.below hb6
   refine hK _ _ (fun _ => hS6) ?_
   clear hK K hc5 hB5 hS5 hz5 hb6 HS2 hI5s
   have hgok : Hid (GOk m.next.length ⟨I5, I6⟩) := allS_ok ok.out hI5.out hI6.out
   have HRi := Lib.hid (right_any (T.length + 1) (at' := 0) (g := ⟨I5, I6⟩) hc6 hz6 (HM.out.below hB6) (HT.out.below hB6) hI56s hI6s ok hgok (by show Hid (I6.length < 1000); unfold Hid; rw [hI6.out, allS_len]; exact hn.out) hTn (Lib.hid (Nat.zero_le _)) (Lib.hid (by omega)))
   have hgr : Hid (∀ r, m.right T (T.length + 1) 0 ⟨I5, I6⟩ = r → m.right T (T.length + 1) 0 ⟨allS m.next.length, allS m.next.length⟩ = r) := fun r h => by rw [← h, hI5.out, hI6.out]
   refine skT_on [6] ?_
   repeat (refine skT_take (v := ?_) rfl ?_ ?_; rotate_left; (focus (intro w' hSw; (try dsimp only at hSw); go_simp; try with_reducible rfl)); try simp only [Act.put, List.setIfInBounds_toArray, List.set_cons_zero, List.set_cons_succ])
   refine skT_off ?_
   refine wpAnyT_one (i := 7) (by kernel_rfl) rfl rfl (fun K hK => ?_)
   go_simp
   refine (HRi.out).mono ?_
   rintro e w7 ⟨n, y, rfl, hr, hb7⟩
   have hB7 := hB6.trans (hb7.mono (by omega))
   have hS7 := And.intro (hS6.1.below hb7 (by omega)) ((hb7.cell (p := ⟨w.heap.size + 1, 0, none⟩) (by show w.heap.size + 1 < _; omega)).trans hS6.2)
   refine hK _ _ (fun _ => hS7) ?_
   have hr2 := Lib.hid (hgr.out _ hr.out)
   clear hK K hc6 hB6 hS6 hz6 hI56s hI6s HRi hr hgr hb7
   refine skT_on [8, 9, 10, 11, 12] ?_
   repeat (refine skT_take (v := ?_) rfl ?_ ?_; rotate_left; (focus (intro w' hSw; (try dsimp only at hSw); go_simp; try with_reducible rfl)); try simp only [Act.put, List.setIfInBounds_toArray, List.set_cons_zero, List.set_cons_succ])
   refine skT_off ?_
   refine wpAnyT_done (by kernel_rfl) ?_ _
   have ht7 := hS7.2
   clear hS7
   cases y with
   | false =>
    have hR : Hid ((1 : Int) = m.adsChk T) := by unfold Hid Mach.adsChk; rw [if_neg (by simp [HE.out]), if_neg hbig2.out, hr2.out, if_neg (by simp)]
    go_wp2
    go_ret
    exact ⟨by rw [← hR.out]; rfl, hB7⟩
   | true =>
    by_cases hnT : n = T.length
    ·have hR : Hid ((0 : Int) = m.adsChk T) := by unfold Hid Mach.adsChk; rw [if_neg (by simp [HE.out]), if_neg hbig2.out, hr2.out, if_pos (by rw [hnT])]
     have hnb : ((n : Int) != (T.length : Int)) = false := by simp [hnT]
     clear hnT hr2
     go_wp2
     go_ret
     exact ⟨by rw [← hR.out]; rfl, hB7⟩
    ·have hR : Hid ((1 : Int) = m.adsChk T) := by unfold Hid Mach.adsChk; rw [if_neg (by simp [HE.out]), if_neg hbig2.out, hr2.out, if_neg (by simp [hnT])]
     have hnb : ((n : Int) != (T.length : Int)) = true := by simp; omega
     clear hnT hr2
     go_wp2
     go_ret
     exact ⟨by rw [← hR.out]; rfl, hB7⟩
 ·have he' : (m.minErr != 0) = true := by simp [he]
  have hR : Hid (m.minErr = m.adsChk T) := by unfold Hid Mach.adsChk; rw [if_pos he]
  clear he
  go_wp2
  go_ret
  exact ⟨by rw [← hR.out]; rfl, hB2⟩
end
end Go.Proofs.YtknhegdepbmmlaaGreat
/- distinguish.Word from the start. Condition: the tree is right for the machine; fewer than 1000 states; a state of the machine. -/
namespace Go.Proofs.YtknhegdepbmmlaaGreat
open Go.RowKit
theorem Mach.adsChk_0 {m : Mach} {T : List Nd} (h : m.adsChk T = 0) : m.minErr = 0 ∧ T.length ≤ 4096 ∧ m.right T (T.length + 1) 0 ⟨allS m.next.length, allS m.next.length⟩ = (T.length, true) := by
 unfold adsChk at h
 split at h
 ·rename_i h1; exact absurd h h1
 ·rename_i h1
  split at h
  ·simp at h
  ·split at h
   ·rename_i h2 h3; exact ⟨Classical.byContradiction h1, by omega, h3⟩
   ·simp at h
theorem Mach.wi_0 {m : Mach} {T : List Nd} (ok : m.Ok) (h : m.adsChk T = 0) {s : Nat} (hs : s < m.next.length) : m.Wi T 0 (s : Int) :=
 ⟨_, _, _, (adsChk_0 h).2.2, List.mem_map.2 ⟨s, List.mem_range.2 hs, rfl⟩, allS_ok ok rfl rfl, (fun s hs => (allS_ok ok rfl rfl : GOk _ ⟨allS m.next.length, allS m.next.length⟩).st s hs), by show (allS m.next.length).length ≤ _; rw [allS_len]; exact Nat.le_refl _⟩
section
variable {M MT : Nat → Prop} {w : World} {an ao aT : Option Addr} {cn co cT : Nat} {m : Mach} {T : List Nd}
theorem gword_any (hm : Ma M w an cn ao co m) (hT : Sl MT w aT cT T) (hn : Hid (m.next.length < 1000)) (hc : Hid (m.adsChk T = 0)) (s : Nat) (hs : s < m.next.length) :
    Calls Tryz.prog 34 #[maV m an cn ao co, .agg #[.slice aT T.length cT], .int .i64 s] w fun e w' => ∃ (a : Option Addr) (c : Nat) (W : List Int) (l : Nat), e = .returned (.tuple #[.slice a W.length c, .int .i64 l, .int .i64 0]) ∧ Hid (m.adsW T s = (W, l)) ∧ Hid (W.length ≤ l ∧ l < T.length ∧ ∃ c, m.Wi T l c) ∧ Sl (fun k => k < w.heap.size) w' a c W ∧ Below w.heap.size w w' := by
 have ok : Hid m.Ok := Mach.ok_of_err m (Mach.minErr_ok (Mach.adsChk_0 hc.out).1).1
 have hT4 := Lib.hid (Mach.adsChk_0 hc.out).2.1
 have hTl := hT4.out
 have hw0 := Lib.hid (Mach.wi_0 ok.out hc.out hs)
 have hB0 := (Below.refl w.heap.size w).alloc (Nat.le_refl _) (maO m an cn ao co)
 have hx0 : C4 (w.alloc (maO m an cn ao co)) w.heap.size an cn ao co m := c4_new w
 have hB1 := hB0.alloc (by simp) (.cells #[.slice aT T.length cT] 27)
 have hx1 := hx0.below ((Below.refl (w.heap.size + 1) (w.alloc (maO m an cn ao co))).alloc (by simp) (.cells #[.slice aT T.length cT] 27)) (by omega)
 have ht1 : ((w.alloc (maO m an cn ao co)).alloc (.cells #[.slice aT T.length cT] 27)).cell? ⟨w.heap.size + 1, 0, none⟩ = some (.slice aT T.length cT) := by simp
 have hz1 : ((w.alloc (maO m an cn ao co)).alloc (.cells #[.slice aT T.length cT] 27)).heap.size = w.heap.size + 2 := by simp
 have n1 := ok.out.n1
 have l1 := hm.next.le
 have l2 := hm.out.le
 have l5 := hT.le
 have HM := Lib.hid hm
 have HT := Lib.hid hT
 have HCk0 := gcheck_any (hm.below hB1) (hT.below hB1) hn (Lib.hid (by omega))
 rw [hc.out] at HCk0
 have HCk := Lib.hid HCk0
 have hW0 : Hid (m.adsW T s = m.wordGo T T.length 0 s []) := rfl
 clear hm hT hB0 hx0 HCk0
 go_enter Tryz.func34, Tryz.ntmps34
 go_upto_region 1 with (fail)
 generalize (w.alloc (maO m an cn ao co)).alloc (.cells #[.slice aT T.length cT] 27) = w1 at *
 go_wp2_with fail
 refine (HCk.out).mono ?_
 rintro e w2 ⟨rfl, hb2⟩
 have hx2 := hx1.below hb2 (by omega)
 have hB2 := hB1.trans (hb2.mono (by omega))
 have ht2 := (hb2.cell (p := ⟨w.heap.size + 1, 0, none⟩) (by show w.heap.size + 1 < _; omega)).trans ht1
 have hz2 : w.heap.size + 2 ≤ w2.heap.size := by have := hb2.size; omega
 clear hx1 hB1 hb2 hz1 HCk ht1
 have HS : Hid (∀ w', Below w2.heap.size w2 w' → C4 w' w.heap.size an cn ao co m ∧ w'.cell? ⟨w.heap.size + 1, 0, none⟩ = some (.slice aT T.length cT)) := fun w' h =>
  ⟨hx2.below h (by omega), (h.cell (p := ⟨w.heap.size + 1, 0, none⟩) (by show w.heap.size + 1 < _; omega)).trans ht2⟩
 have hs0 : decide ((s : Int) < 0) = false := decide_eq_false (by omega)
 have hs1 : decide (m.next.length ≤ s) = false := decide_eq_false (by omega)
 go_upto_region 7 with (fail)
 go_wp2_with fail
 have hba := (Below.refl w2.heap.size w2).alloc (Nat.le_refl _) (.cells #[.int .i64 (s : Int)] 3)
 have hcu : (w2.alloc (.cells #[.int .i64 (s : Int)] 3)).cell? ⟨w2.heap.size, 0, none⟩ = some (.int .i64 (s : Int)) := by simp
 have hcf : (w2.alloc (.cells #[.int .i64 (s : Int)] 3)).frozen? ⟨w2.heap.size, 0, none⟩ = false := by unfold World.frozen?; rw [heap_alloc_new]; simp
 have hcz : w2.heap.size < (w2.alloc (.cells #[.int .i64 (s : Int)] 3)).heap.size := by simp
 go_loopw [10, 11] (fun v i wr => ∃ (at' c fu : Nat) (a' : Option Addr) (c' : Nat) (W : List Int), i = .int .i64 at' ∧ v = .slice a' W.length c' ∧ Hid (m.adsW T s = m.wordGo T fu at' c W) ∧ Hid (m.Wi T at' c) ∧ Hid (T.length ≤ at' + fu) ∧ Hid (W.length ≤ at') ∧
  Ow (w2.heap.size + 1) (fun k => w2.heap.size + 1 ≤ k) wr 3 (.slice a' W.length c') W ∧ wr.cell? ⟨w2.heap.size, 0, none⟩ = some (.int .i64 c) ∧ wr.frozen? ⟨w2.heap.size, 0, none⟩ = false ∧ Below w2.heap.size w2 wr ∧ w2.heap.size < wr.heap.size) (fun _ i _ => T.length - (intOf i).toNat)
 case atStart => exact ⟨0, s, T.length, none, 0, [], rfl, rfl, hW0, hw0, by unfold Hid; omega, by simp [Hid], Ow.nil, hcu, hcf, hba, hcz⟩
 case round =>
  clear hW0 hw0 hba hcu hcf hcz
  obtain ⟨at', c, fu, a', c', W, rfl, rfl, hWg, hWi, hfu, hWl, hO, hcu, hcf, hB, hz⟩ := hrel
  obtain ⟨wo, rfl⟩ : ∃ wo : World, wo = wr := ⟨_, rfl⟩
  have hwl := Lib.hid (Mach.wi_lt hWi.out)
  have hatl := hwl.out.1
  have hcl : c < m.next.length := by have := hwl.out.2.2; omega
  have hSo := HS.out _ hB
  have hto := hSo.2
  have hBo := hB2.trans (hB.mono (by omega))
  obtain ⟨bT, oT, a1, c1, a2, c2, x, rfl, hx0, hx1, hx2', hxe, hxs, hxk, hxi⟩ := HT.out.at_nd hatl
  have HX1 : Hid (∀ w', Below w.heap.size w w' → w'.cell? ⟨bT, oT + at' * 3 + 1, none⟩ = some (.int .i64 x.inp)) := fun w' h => (h.cell (p := ⟨bT, oT + at' * 3 + 1, none⟩) (lt_of_cell hx1)).trans hx1
  have HX2 : Hid (∀ w', Below w.heap.size w w' → w'.cell? ⟨bT, oT + at' * 3 + 2, none⟩ = some (.slice a2 x.kids.length c2)) := fun w' h => (h.cell (p := ⟨bT, oT + at' * 3 + 2, none⟩) (lt_of_cell hx2')).trans hx2'
  clear hxs hx0 hx1 hx2'
  have hx1 := HX1.out _ hBo
  have HXK := Lib.hid hxk
  have hxkl := hxk.le
  clear hxk
  by_cases h0 : x.inp ≥ 0
  ·obtain ⟨xn, hxn⟩ := Int.eq_ofNat_of_zero_le h0
   obtain ⟨hxi1, k, kd, n', hkd, hko, hkb, hkt, han, hnT, hWn⟩ := Mach.wi_step ok.out hWi.out hxe.out h0
   have hxin : xn < m.inputs.toNat := by omega
   rw [hxn] at hx1 hko hkb hWn
   have h0x : (xn : Int) ≥ 0 := by omega
   have hkl := some_lt hkd
   have hko2 := Lib.hid hko
   have hkd2 := Lib.hid hkd
   have hkb2 := Lib.hid hkb
   have hkt2 := Lib.hid hkt
   have hWn2 := Lib.hid hWn
   have hxn2 := Lib.hid hxn
   obtain ⟨bn, on, bo, oo, rfl, rfl⟩ := (HM.out.addr ok.out)
   clear hko hkd hkb hkt hWn hxn h0 hxi1
   obtain ⟨bk, okk, q, rfl, hkc0, hkc1, hqe, -⟩ := HXK.out.at_kd hkl
   have hqk : Hid (q = kd) := by unfold Hid; have h := hqe.out; rw [hkd2.out] at h; simpa using h.symm
   have HK1 : Hid (∀ w', Below w.heap.size w w' → w'.cell? ⟨bk, okk + k * 2 + 1, none⟩ = some (.int .i64 (n' : Int))) := fun w' h => by
    rw [(h.cell (p := ⟨bk, okk + k * 2 + 1, none⟩) (lt_of_cell hkc1)).trans hkc1, hqk.out, hkt2.out]
   obtain ⟨bn2, on2, a3, r1, c3, hbe, hn1, hr1, hS1⟩ := HM.out.next.at_row hcl
   obtain ⟨rfl, rfl⟩ : bn = bn2 ∧ on = on2 := by simpa using hbe
   have hr1n := hS1.le
   have hrl : Hid ((r1.length : Int) = m.inputs) := by have := ok.out.rn c hcl; rw [getD_of_some hr1.out] at this; exact this
   have hxl : xn < r1.length := by have := hrl.out; omega
   obtain ⟨b3, o3, t0, rfl, htc, ht0, ht64⟩ := hS1.at_int hxl
   have hnx : Hid (m.nx c xn = t0) := by unfold Hid Mach.nx; rw [getD_of_some hr1.out, getD_of_some ht0.out]
   have HN : Hid (∀ w', Below w.heap.size w w' → w'.cell? ⟨bn, on + c, none⟩ = some (.slice (some ⟨b3, o3, none⟩) r1.length c3) ∧ w'.cell? ⟨b3, o3 + xn, none⟩ = some (.int .i64 t0)) := fun w' h =>
    ⟨(h.cell (p := ⟨bn, on + c, none⟩) (lt_of_cell hn1)).trans hn1, (h.cell (p := ⟨b3, o3 + xn, none⟩) (lt_of_cell htc)).trans htc⟩
   clear hkc0 hkc1 hqe hbe hn1 hS1 htc
   go_upto_region 10 with (fail)
   have hba := (Below.refl wo.heap.size wo).alloc (Nat.le_refl _) (.cells #[.int .i64 (xn : Int)] 3)
   have hB4 := hB.trans (hba.mono (by omega))
   have hBw4 := hBo.trans (hba.mono (by have := hBo.size; omega))
   have hO4 := hO.below hba
   have hcu4 := (hba.cell (p := ⟨w2.heap.size, 0, none⟩) hz).trans hcu
   have hcf4 := (frozen_block (a := ⟨w2.heap.size, 0, none⟩) (hba.block _ hz)).trans hcf
   have ha4 : (wo.alloc (.cells #[.int .i64 (xn : Int)] 3)).cell? ⟨wo.heap.size, 0, none⟩ = some (.int .i64 (xn : Int)) := by simp
   have hz4 : wo.heap.size < (wo.alloc (.cells #[.int .i64 (xn : Int)] 3)).heap.size := by simp
   have hk4 := HX2.out _ hBw4
   have hOlo := hO.lt
   clear hba hB hBo hO hcu hcf hx1 hSo hto
   generalize wo.alloc (.cells #[.int .i64 (xn : Int)] 3) = w4 at *
   have hS4 := HS.out _ hB4
   have ht4 := hS4.2
   have HIx := Lib.hid (kidix_any hS4.1 (HM.out.below hBw4) ok c xn hcl hxin hcu4 ha4 (HXK.out.below hBw4) hkd2 (Lib.hid hko2.out) hkb2)
   go_wp2_with fail
   refine (HIx.out).mono ?_
   rintro e w5 ⟨rfl, hb5⟩
   have hB5 := hB4.trans (hb5.mono (by omega))
   have hBw5 := hBw4.trans (hb5.mono (by have := hBw4.size; omega))
   have hO5 := hO4.below hb5
   have hcu5 := (hb5.cell (p := ⟨w2.heap.size, 0, none⟩) (show w2.heap.size < w4.heap.size by omega)).trans hcu4
   have hcf5 := (frozen_block (a := ⟨w2.heap.size, 0, none⟩) (hb5.block w2.heap.size (by omega))).trans hcf4
   have ha5 := (hb5.cell (p := ⟨wo.heap.size, 0, none⟩) hz4).trans ha4
   have hz5 : wo.heap.size < w5.heap.size := by have := hb5.size; omega
   clear HIx hB4 hBw4 hO4 hcu4 hcf4 ha4 hz4 hk4 hb5 hS4 ht4
   have hWl2 := hWl.out
   have hxn64 : Hid (i64 (xn : Int)) := by have h := hxi.out; rw [hxn2.out] at h; exact h
   go_wp2_with (at_builtin; refine wpList_push_o (B := w2.heap.size + 1) (M := fun k => w2.heap.size + 1 ≤ k) (l := W) (y := (xn : Int)) rfl rfl Tryz.underlying45 info_int rfl rfl (hO5.alloc _) (by simp [go_sem]) hxn64.out (by omega) (by simp; omega) ?_)
   intro a6 c6 W6 w6 hW6 hO6 hk6 hg6
   have hba := (Below.refl w5.heap.size w5).alloc (Nat.le_refl _) (.cells #[.int .i64 (xn : Int)] 3)
   have hlo : ∀ k, (Value.slice a' W.length c').ownBlock = some k → w2.heap.size + 1 ≤ k ∧ k < wo.heap.size := hOlo
   have hb56 : Below (w2.heap.size + 1) w5 w6 := ((Below.refl (w2.heap.size + 1) w5).alloc (by omega) _).grown hg6 (by simp; omega) (fun k hk => (hlo k hk).1)
   have hB6 := hB5.trans (hb56.mono (by omega))
   have hBw6 := hBw5.trans (hb56.mono (by have := hBw5.size; omega))
   have hcu6 := (hb56.cell (p := ⟨w2.heap.size, 0, none⟩) (show w2.heap.size < w2.heap.size + 1 by omega)).trans hcu5
   have hcf6 := (frozen_block (a := ⟨w2.heap.size, 0, none⟩) (hb56.block w2.heap.size (by omega))).trans hcf5
   have hgb := hg6.block wo.heap.size (by simp; omega) (fun e => by have := (hlo _ e.symm).2; omega)
   have ha6 := (World.cell?_of_block (a := ⟨wo.heap.size, 0, none⟩) hgb).trans ((hba.cell (p := ⟨wo.heap.size, 0, none⟩) hz5).trans ha5)
   have hz6 : wo.heap.size < w6.heap.size := by have := hg6.size; simp at this; omega
   have hWl6 : Hid (W6.length = W.length + 1) := by unfold Hid; rw [hW6.out]; simp
   clear hB5 hBw5 hO5 hcu5 hcf5 ha5 hz5 hg6 hk6 hba hb56 hgb
   have hS6 := HS.out _ hB6
   have ht6 := hS6.2
   have hk6 := HX2.out _ hBw6
   have hk61 := HK1.out _ hBw6
   go_upto_region 13 with (fail)
   refine wp_region_T (fun w' => w'.cell? ⟨w.heap.size, 2, none⟩ = some (.slice (some ⟨bn, on, none⟩) m.next.length cn) ∧ w'.cell? ⟨w2.heap.size, 0, none⟩ = some (.int .i64 (c : Int)) ∧ w'.cell? ⟨wo.heap.size, 0, none⟩ = some (.int .i64 (xn : Int)) ∧ w'.cell? ⟨bn, on + c, none⟩ = some (.slice (some ⟨b3, o3, none⟩) r1.length c3) ∧ w'.cell? ⟨b3, o3 + xn, none⟩ = some (.int .i64 t0)) [0, 1, 2, 3, 4, 5, 6, 7] (by kernel_rfl) ?_
   have hdr := (Below.refl w6.heap.size w6).drew
   have hB7 := hB6.trans (hdr.mono (by omega))
   have hBw7 := hBw6.trans (hdr.mono (by have := hBw6.size; omega))
   have hO7 := hO6.below hdr
   have hcu7 : w6.drew.cell? ⟨w2.heap.size, 0, none⟩ = some (.int .i64 (c : Int)) := hcu6
   have hcf7 : w6.drew.frozen? ⟨w2.heap.size, 0, none⟩ = false := hcf6
   have hSS := And.intro (HS.out _ hB7).1.2.2.1 (And.intro hcu7 (And.intro (show w6.drew.cell? ⟨wo.heap.size, 0, none⟩ = some (.int .i64 (xn : Int)) from ha6) (HN.out _ hBw7)))
   have hz7 : wo.heap.size < w6.drew.heap.size := hz6
   clear hS6 ht6 hk6 hk61 hdr hB6 hBw6 hO6 hcu6 hcf6 ha6 hz6
   generalize w6.drew = w7 at *
   refine skT_on [0, 1, 2, 3, 4, 5, 6, 7] ?_
   repeat (refine skT_take (v := ?_) rfl ?_ ?_; rotate_left; (focus (intro w' hSw; (try dsimp only at hSw); go_simp; try with_reducible rfl)); try simp only [Act.put, List.setIfInBounds_toArray, List.set_cons_zero, List.set_cons_succ])
   refine skT_off ?_
   refine wpAnyT_late (i := 8) (by kernel_rfl) (by kernel_rfl) rfl rfl (fun K hK => ?_)
   go_simp
   refine hK _ _ ?_
   clear hK K
   refine wpAnyT_done (by kernel_rfl) ?_ _
   obtain ⟨tn, htn⟩ := Int.eq_ofNat_of_zero_le (show 0 ≤ t0 by have h := ok.out.nx c xn hcl hxin; rw [hnx.out] at h; exact h.1)
   have hcu8 := World.cell?_setCell_same w7 ⟨w2.heap.size, 0, none⟩ (.int .i64 t0) hcu7
   have hcf8 : (w7.setCell ⟨w2.heap.size, 0, none⟩ (.int .i64 t0)).frozen? ⟨w2.heap.size, 0, none⟩ = false := by rw [World.frozen?_setCell]; exact hcf7
   have hO8 := hO7.setOtherI (p := ⟨w2.heap.size, 0, none⟩) (fun k hk => by have := (hO7.lt k hk).1; show k ≠ w2.heap.size; omega) (.int .i64 t0)
   have hB8 := hB7.setCell (p := ⟨w2.heap.size, 0, none⟩) (Nat.le_refl _) (.int .i64 t0)
   have hz8 : w2.heap.size < (w7.setCell ⟨w2.heap.size, 0, none⟩ (.int .i64 t0)).heap.size := by simp [World.setCell]; omega
   clear hSS hB7 hBw7 hO7 hcu7 hcf7 hz7
   generalize w7.setCell ⟨w2.heap.size, 0, none⟩ (.int .i64 t0) = w8 at *
   have hfu2 := hfu.out
   obtain ⟨fu', hfe⟩ : ∃ fu', fu = fu' + 1 := ⟨fu - 1, by omega⟩
   have hWg2 : Hid (m.adsW T s = m.wordGo T fu' n' tn W6) := by
    unfold Hid
    rw [hWg.out, hfe, Mach.wordGo_on hxe.out (by rw [hxn2.out]; exact Int.natCast_nonneg _) (Mach.kidOf_at hkd2.out (by rw [hko2.out, hxn2.out]) (by rw [hxn2.out]; exact hkb2.out)), hkt2.out, hxn2.out, hW6.out]
    show m.wordGo T fu' n' (m.nx c xn) _ = _
    rw [hnx.out, htn]
   have hWi2 : Hid (m.Wi T n' tn) := by
    have h := hWn2.out
    rw [show m.nx ((c : Int)).toNat ((xn : Int)).toNat = t0 from hnx.out, htn] at h
    exact h
   have hfu3 : Hid (T.length ≤ n' + fu') := by unfold Hid; omega
   have hWl3 : Hid (W6.length ≤ n') := by unfold Hid; rw [hWl6.out]; have := hWl.out; omega
   rw [htn] at hcu8
   clear hfe hfu2 htn
   go_wp2
   go_roundw
   case rel => exact ⟨n', tn, fu', a6, c6, W6, rfl, rfl, hWg2, hWi2, hfu3, hWl3, hO8, hcu8, hcf8, hB8, hz8⟩
   case measure => simp [intOf]; omega
  ·have hF : Hid (m.adsW T s = (W, at')) := by unfold Hid; rw [hWg.out]; exact Mach.wordGo_stop hxe.out (by omega)
   have hfr := hO.fresh (n := w.heap.size) (by omega)
   go_wp2
   exact bodyPost_ret (v := .tuple #[.slice a' W.length c', .int .i64 at', .int .i64 0]) (by simp [results, Tryz.results34, go_sem]) rfl ⟨a', c', W, at', rfl, hF, Lib.hid ⟨hWl.out, hatl, _, hWi.out⟩, hfr, hBo⟩
end
end Go.Proofs.YtknhegdepbmmlaaGreat
/- asuite.Identify from the start. Condition: fewer than 1000 states, fewer than a billion nodes. -/
namespace Go.Proofs.YtknhegdepbmmlaaGreat
open Go.RowKit
def Mach.idE (m : Mach) (T : List Nd) : List (List (List Int)) × Int := if m.adsChk T ≠ 0 then ([], m.adsChk T) else (m.ids T, 0)
theorem fill_step {α : Type} {l : List α} {d x : α} {k n : Nat} (hl : l.length = n) (hk : l[k]? = some x) : (l.take k ++ List.replicate (n - k) d).set k x = l.take (k + 1) ++ List.replicate (n - (k + 1)) d := by
 have hkn : k < n := by rw [← hl]; exact some_lt hk
 have hlk : (l.take k).length = k := by rw [List.length_take]; omega
 rw [List.set_append_right _ _ (by omega), hlk, Nat.sub_self, List.take_add_one, hk]
 obtain ⟨j, hj⟩ : ∃ j, n - k = j + 1 := ⟨n - k - 1, by omega⟩
 rw [hj, List.replicate_succ, show n - (k + 1) = j by omega]
 simp
theorem st_zero {m : Mach} (h : m.err = 0) {s x : Int} (h1 : 0 ≤ s ∧ s < m.next.length) (h2 : 0 ≤ x ∧ x < m.next.length) : stErr m s x = 0 := by
 rcases st_cases h s x with ⟨e, _⟩ | ⟨_, e, _⟩ | ⟨_, _, e, _⟩ | ⟨_, _, _, e, _⟩ | ⟨_, _, _, _, e⟩
 ·omega
 ·omega
 ·omega
 ·omega
 ·exact e
theorem Mach.idW_eq {m : Mach} {T : List Nd} {s : Int} {W : List Int} {l : Nat} {x : Nd} (h : m.adsW T s = (W, l)) (hx : T[l]? = some x) : m.idW T s = (if 0 < W.length ∨ x.st.length = 1 then [W] else []) ++ m.idO s x.st := by
 unfold idW idA nodeSt
 rw [h]; simp only []; rw [hx]
/-- Few words, not too long. -/
def Sm6 (l : List (List Int)) : Prop := l.length < 10000 ∧ ∀ r ∈ l, r.length ≤ 1000000
theorem small_id {m : Mach} {p : Prop} [Decidable p] {W o : List Int} {s : Int} (h1 : W.length ≤ 4096) (h2 : o.length < 1000) (h3 : m.next.length < 1000) : Sm6 ((if p then [W] else []) ++ m.idO s o) := by
 constructor
 ·rw [List.length_append]
  have := Mach.idO_len (m := m) (s := s) (o := o)
  have : (if p then [W] else ([] : List (List Int))).length ≤ 1 := by split <;> simp
  omega
 ·intro r hr
  rcases List.mem_append.1 hr with e | e
  ·split at e
   ·rw [List.mem_singleton.1 e]; omega
   ·simp at e
  ·obtain ⟨x, -, rfl⟩ := List.mem_map.1 e
   have := Mach.sepW_len h3 s x
   omega
theorem info_rows3 : (Tryz.prog.info? 22).map (fun i => (i.zero, i.size, i.bytes)) = some (some (.slice none 0 0), 1, 24) := by kernel_rfl
section
variable {M MT : Nat → Prop} {w : World} {an ao aT : Option Addr} {cn co cT : Nat} {m : Mach} {T : List Nd}
theorem identify_any (hm : Ma M w an cn ao co m) (hT : Sl MT w aT cT T) (hn : Hid (m.next.length < 1000)) (hTn : Hid (T.length < 1000000000)) :
    Calls Tryz.prog 12 #[maV m an cn ao co, .agg #[.slice aT T.length cT]] w fun e w' => ∃ (a : Option Addr) (c : Nat) (L : List (List (List Int))) (e1 : Int), e = .returned (.tuple #[.slice a L.length c, .int .i64 e1]) ∧ Hid (m.idE T = (L, e1)) ∧ Hid (∀ r ∈ L, Sm6 r) ∧ Sl (fun k => k < w.heap.size) w' a c L ∧ Below w.heap.size w w' := by
 have hB0 := (Below.refl w.heap.size w).alloc (Nat.le_refl _) (maO m an cn ao co)
 have hx0 : C4 (w.alloc (maO m an cn ao co)) w.heap.size an cn ao co m := c4_new w
 have hB1 := hB0.alloc (by simp) (.cells #[.slice aT T.length cT] 27)
 have hx1 := hx0.below ((Below.refl (w.heap.size + 1) (w.alloc (maO m an cn ao co))).alloc (by simp) (.cells #[.slice aT T.length cT] 27)) (by omega)
 have ht1 : ((w.alloc (maO m an cn ao co)).alloc (.cells #[.slice aT T.length cT] 27)).cell? ⟨w.heap.size + 1, 0, none⟩ = some (.slice aT T.length cT) := by simp
 have hz1 : ((w.alloc (maO m an cn ao co)).alloc (.cells #[.slice aT T.length cT] 27)).heap.size = w.heap.size + 2 := by simp
 have l1 := hm.next.le
 have l2 := hm.out.le
 have l5 := hT.le
 have HM := Lib.hid hm
 have HT := Lib.hid hT
 have HCk := Lib.hid (gcheck_any (hm.below hB1) (hT.below hB1) hn hTn)
 clear hm hT hB0 hx0
 have hmm := @run_makeMap Tryz.prog
 go_enter Tryz.func12, Tryz.ntmps12
 go_upto_region 1 with (fail)
 generalize (w.alloc (maO m an cn ao co)).alloc (.cells #[.slice aT T.length cT] 27) = w1 at *
 go_wp2_with fail
 refine (HCk.out).mono ?_
 rintro e w2 ⟨rfl, hb2⟩
 have hx2 := hx1.below hb2 (by omega)
 have hB2 := hB1.trans (hb2.mono (by omega))
 have ht2 := (hb2.cell (p := ⟨w.heap.size + 1, 0, none⟩) (by show w.heap.size + 1 < _; omega)).trans ht1
 have hz2 : w.heap.size + 2 ≤ w2.heap.size := by have := hb2.size; omega
 clear hx1 hB1 hb2 hz1 HCk ht1
 by_cases he : m.adsChk T = 0
 ·have he' : (m.adsChk T != 0) = false := by simp [he]
  have HE := Lib.hid he
  have ok : Hid m.Ok := Mach.ok_of_err m (Mach.minErr_ok (Mach.adsChk_0 HE.out).1).1
  have n1 := ok.out.n1
  clear he
  have HS : Hid (∀ w', Below w2.heap.size w2 w' → (C4 w' w.heap.size an cn ao co m ∧ w'.cell? ⟨w.heap.size + 1, 0, none⟩ = some (.slice aT T.length cT)) ∧ Below w.heap.size w w') := fun w' h =>
   ⟨⟨hx2.below h (by omega), (h.cell (p := ⟨w.heap.size + 1, 0, none⟩) (by show w.heap.size + 1 < _; omega)).trans ht2⟩, hB2.trans (h.mono (by omega))⟩
  have hI0 : Ig (fun k => k = w2.heap.size) w2 (w2.heap.size + 1) (w2.alloc (.map #[] 0)) 0 (fun _ => .slice none 0 0) 0 (fun j => m.idW T (j : Int)) [] := Ig.made w2
  have hba := (Below.refl w2.heap.size w2).alloc (Nat.le_refl _) (.map #[] 0)
  have hx3 := hx2.below hba (by omega)
  have hx32 := hx3.2.2.1
  clear hba hx3 ht2 hx2 hB2
  have HI0 := Lib.hid hI0
  clear hI0
  go_upto_region 5 with (fail)
  go_wp2_with fail
  go_loopw [27] (fun i wr => ∃ (s n Bs : Nat) (F : Nat → Value), s ≤ m.next.length ∧ i = .int .i64 s ∧ Hid (n ≤ s * 2000) ∧ Hid (∀ j : Nat, j < s → Sm6 (m.idW T (j : Int))) ∧ Ig (fun k => k = w2.heap.size) w2 Bs wr n F s (fun j => m.idW T (j : Int)) []) (fun i _ => m.next.length - (intOf i).toNat)
  case atStart => exact ⟨0, 0, _, _, by omega, rfl, by simp [Hid], fun j hj => by omega, HI0.out⟩
  case round =>
   clear HI0 hx32
   obtain ⟨s, n, Bs, F, hsn, rfl, hnn, hsm, hIg⟩ := hrel
   obtain ⟨wo, rfl⟩ : ∃ wo : World, wo = wr := ⟨_, rfl⟩
   have hSo := HS.out _ hIg.bel
   have hto := hSo.1.2
   have hm0 := hSo.1.1
   by_cases hlt : s < m.next.length
   ·have hs1000 : s < 1000 := by have := hn.out; omega
    have HWd := Lib.hid (gword_any (HM.out.below hSo.2) (HT.out.below hSo.2) hn HE s hlt)
    clear hSo
    go_wp2_with fail
    refine (HWd.out).mono ?_
    rintro e w3 ⟨aW, cW, W, l, rfl, hW, hWl, hWs, hb3⟩
    have hI3 := hIg.below hb3
    have hWs3 := Lib.hid (hWs.anti (M' := fun k => k = w2.heap.size) (fun k _ e => by have := hIg.lt k e; omega))
    have hS3 := HS.out _ hI3.bel
    have ht3 := hS3.1.2
    have hm3 := hS3.1.1
    have hll := hWl.out.2.1
    have hWll := hWl.out.1
    have hT4 := (Mach.adsChk_0 HE.out).2.1
    obtain ⟨bT, oT, a1, c1, a2, c2, x, rfl, hq0, -, -, hxe, hxs, -, -⟩ := HT.out.at_nd hll
    have hq3 := (hS3.2.cell (p := ⟨bT, oT + l * 3, none⟩) (lt_of_cell hq0)).trans hq0
    have HX := Lib.hid hxs
    have hxsl := hxs.le
    have hnode := Lib.hid (Mach.wi_node hWl.out.2.2.choose_spec hxe.out)
    have hxn := hnode.out.2
    have HIw := Lib.hid (Mach.idW_eq hW.out hxe.out)
    clear HWd hWs hb3 hIg hxs hq0 hto hm0 hS3
    by_cases hA : 0 < W.length
    ·have hAb : decide (0 < W.length) = true := decide_eq_true hA
     have hlk := hI3.kg.look hs1000
     go_wp2_with (at_builtin; refine wpList_push_row (B := Bs) (M := fun k => k = w2.heap.size) (v := F s) (rows := []) (r := W) rfl rfl Tryz.underlying22 info_ints rfl rfl (hI3.ow.alloc _) hI3.own (by simp [go_sem]) (hWs3.out.alloc _) (by simp) (by have := hI3.bs; simp; omega) ?_)
     intro a6 c6 l6 w6 hl6 hO6 hk6 hg6
     have hba := (Below.refl w3.heap.size w3).alloc (Nat.le_refl _) (.cells #[.slice aW W.length cW] 45)
     obtain ⟨w7, M7, F7, hrun7, hI7⟩ := (hI3.below hba).app hs1000 (by have := hnn.out; omega) (by simp) hg6 hO6 hk6.out
     have HIc := Lib.hid hI7
     have hrows : Hid (l6 = if 0 < W.length ∨ x.st.length = 1 then [W] else []) := by unfold Hid; rw [hl6.out, if_pos (by first | exact .inl hA | exact .inr HC1.out)]
     have hnb : Hid (n + 1 ≤ s * 2000 + 1) := by unfold Hid; have := hnn.out; omega
     clear hI3 hlk hba hg6 hO6 hk6 hI7 hl6 hq3
     have hi0 : Hid (l6 = (if 0 < W.length ∨ x.st.length = 1 then [W] else []) ++ m.idO s (x.st.take 0)) := by unfold Hid; rw [← hrows.out]; simp [Mach.idO]
     go_wp2_with fail
     go_loopw [65] (fun i wr => ∃ (k n' : Nat) (M' : Nat → Prop) (F' : Nat → Value) (rows : List (List Int)), k ≤ x.st.length ∧ i = .int .i64 k ∧ Hid (n' ≤ s * 2000 + 1 + k) ∧ Hid (rows = (if 0 < W.length ∨ x.st.length = 1 then [W] else []) ++ m.idO s (x.st.take k)) ∧ Ig M' w2 Bs wr n' F' s (fun j => m.idW T (j : Int)) rows) (fun i _ => x.st.length - (intOf i).toNat)
     case atStart => exact ⟨0, (n+1), M7, F7, l6, by omega, rfl, hnb, hi0, HIc.out⟩
     case round =>
      clear hi0 HIc hnb hrows
      obtain ⟨k, n', M', F', rows, hk, rfl, hnb, hrows, hIg⟩ := hrel
      obtain ⟨wi, rfl⟩ : ∃ wi : World, wi = wr := ⟨_, rfl⟩
      have hSi := HS.out _ hIg.bel
      have hmi := hSi.1.1
      by_cases hkl : k < x.st.length
      ·obtain ⟨b1, o1, y, rfl, hyc, hye, -⟩ := (HX.out.below hSi.2).at_int hkl
       have hyr := hnode.out.1 y (List.mem_of_getElem? hye.out)
       obtain ⟨yn, rfl⟩ := Int.eq_ofNat_of_zero_le hyr.1
       have hyl : yn < m.next.length := by omega
       by_cases hys : yn = s
       ·have hysb : ((yn : Int) == (s : Int)) = true := by simp [hys]
        have hrow2 : Hid (rows = (if 0 < W.length ∨ x.st.length = 1 then [W] else []) ++ m.idO s (x.st.take (k + 1))) := by
         have h9 := Mach.idO_step (m := m) (s := (s : Int)) hye.out
         rw [if_pos (by rw [hys]), List.append_nil] at h9
         unfold Hid; rw [hrows.out, h9]
        have hnb2 : Hid (n' ≤ s * 2000 + 1 + (k + 1)) := by unfold Hid; have := hnb.out; omega
        clear hys
        go_wp2
        go_roundw
        case rel => exact ⟨k + 1, n', M', F', rows, by omega, by go_num, hnb2, hrow2, hIg⟩
        case measure => simp [intOf]; omega
       ·have hysb : ((yn : Int) == (s : Int)) = false := by simp; omega
        have hne : Hid (((yn : Nat) : Int) ≠ (s : Int)) := by unfold Hid; omega
        have hst0 := states_any (HM.out.below hSi.2) (s : Int) (yn : Int) (by unfold i64; omega) (by unfold i64; omega)
        rw [st_zero (Mach.minErr_ok (Mach.adsChk_0 HE.out).1).1 (s := (s : Int)) (x := (yn : Int)) (by omega) (by omega)] at hst0
        have HSt := Lib.hid hst0
        clear hst0 hys hSi
        go_wp2_with fail
        refine (HSt.out).mono ?_
        rintro e wj ⟨ad, cd, v, fl, rfl, hans, hvs, hbj⟩
        have hIj := hIg.below hbj
        have hvsj := Lib.hid (hvs.anti (M' := M') (fun k _ e => hIg.lt k e))
        have hve : Hid (v = m.sepW s yn) := hans.out.1
        have hlk := hIj.kg.look hs1000
        have hrl : Hid (rows.length < 1000000) := by
         unfold Hid; rw [hrows.out, List.length_append]
         have h1 := Mach.idO_len (m := m) (s := (s : Int)) (o := x.st.take k)
         rw [List.length_take] at h1
         have h2 : (if 0 < W.length ∨ x.st.length = 1 then [W] else ([] : List (List Int))).length ≤ 1 := by split <;> simp
         have := hn.out
         omega
        clear HSt hvs hbj hIg hans
        go_wp2_with (at_builtin; refine wpList_push_row (B := Bs) (M := M') (v := F' s) (rows := rows) (r := v) rfl rfl Tryz.underlying22 info_ints rfl rfl (hIj.ow.alloc _) hIj.own (by simp [go_sem]) (hvsj.out.alloc _) (by have := hrl.out; omega) (by have := hIj.bs; simp; omega) ?_)
        intro ak ck lk wk hlk2 hOk hkk hgk
        have hba := (Below.refl wj.heap.size wj).alloc (Nat.le_refl _) (.cells #[.slice ad v.length cd] 45)
        obtain ⟨wl, Ml, Fl, hrunl, hIl⟩ := (hIj.below hba).app hs1000 (by have := hnb.out; omega) (by simp) hgk hOk hkk.out
        have HIl := Lib.hid hIl
        have hrow2 : Hid (lk = (if 0 < W.length ∨ x.st.length = 1 then [W] else []) ++ m.idO s (x.st.take (k + 1))) := by
         have h9 := Mach.idO_step (m := m) (s := (s : Int)) hye.out
         rw [if_neg hne.out] at h9
         unfold Hid; rw [hlk2.out, hrows.out, h9, List.append_assoc, hve.out]
        have hnb2 : Hid (n' + 1 ≤ s * 2000 + 1 + (k + 1)) := by unfold Hid; have := hnb.out; omega
        clear hIj hlk hba hgk hOk hkk hIl hlk2
        go_wp2
        go_roundw
        case rel => exact ⟨k + 1, n' + 1, Ml, Fl, lk, by omega, by go_num, hnb2, hrow2, HIl.out⟩
        case measure => simp [intOf]; omega
      ·have hfin : Hid (m.idW T ((s : Nat) : Int) = rows) := by
         unfold Hid; rw [HIw.out, hrows.out, List.take_of_length_le (by omega)]
       have HIn := Lib.hid (hIg.next (R := fun j => m.idW T (j : Int)) hfin.out)
       have hnn2 : Hid (n' ≤ (s + 1) * 2000) := by unfold Hid; have := hnb.out; have := hn.out; omega
       have hsm3 : Hid (∀ j : Nat, j < s + 1 → Sm6 (m.idW T (j : Int))) := fun j hj => by
        by_cases e : j = s
        ·rw [e, HIw.out]; exact small_id (by omega) (by have := hn.out; omega) hn.out
        ·exact hsm.out j (by omega)
       clear hIg
       go_wp2
       go_roundw
       case rel => exact ⟨s + 1, n', wi.heap.size, F', by omega, by go_num, hnn2, hsm3, HIn.out⟩
       case measure => simp [intOf]; omega
    ·have hAb : decide (0 < W.length) = false := decide_eq_false hA
     by_cases hC : x.st.length = 1
     ·have hCb : ((x.st.length : Int) == 1) = true := by simp [hC]
      have hlk := hI3.kg.look hs1000
      have HC1 := Lib.hid hC
      clear hC
      go_wp2_with (at_builtin; refine wpList_push_row (B := Bs) (M := fun k => k = w2.heap.size) (v := F s) (rows := []) (r := W) rfl rfl Tryz.underlying22 info_ints rfl rfl (hI3.ow.alloc _) hI3.own (by simp [go_sem]) (hWs3.out.alloc _) (by simp) (by have := hI3.bs; simp; omega) ?_)
      intro a6 c6 l6 w6 hl6 hO6 hk6 hg6
      have hba := (Below.refl w3.heap.size w3).alloc (Nat.le_refl _) (.cells #[.slice aW W.length cW] 45)
      obtain ⟨w7, M7, F7, hrun7, hI7⟩ := (hI3.below hba).app hs1000 (by have := hnn.out; omega) (by simp) hg6 hO6 hk6.out
      have HIc := Lib.hid hI7
      have hrows : Hid (l6 = if 0 < W.length ∨ x.st.length = 1 then [W] else []) := by unfold Hid; rw [hl6.out, if_pos (by first | exact .inl hA | exact .inr HC1.out)]
      have hnb : Hid (n + 1 ≤ s * 2000 + 1) := by unfold Hid; have := hnn.out; omega
      clear hI3 hlk hba hg6 hO6 hk6 hI7 hl6 hq3
      have hi0 : Hid (l6 = (if 0 < W.length ∨ x.st.length = 1 then [W] else []) ++ m.idO s (x.st.take 0)) := by unfold Hid; rw [← hrows.out]; simp [Mach.idO]
      go_wp2_with fail
      go_loopw [65] (fun i wr => ∃ (k n' : Nat) (M' : Nat → Prop) (F' : Nat → Value) (rows : List (List Int)), k ≤ x.st.length ∧ i = .int .i64 k ∧ Hid (n' ≤ s * 2000 + 1 + k) ∧ Hid (rows = (if 0 < W.length ∨ x.st.length = 1 then [W] else []) ++ m.idO s (x.st.take k)) ∧ Ig M' w2 Bs wr n' F' s (fun j => m.idW T (j : Int)) rows) (fun i _ => x.st.length - (intOf i).toNat)
      case atStart => exact ⟨0, (n+1), M7, F7, l6, by omega, rfl, hnb, hi0, HIc.out⟩
      case round =>
       clear hi0 HIc hnb hrows
       obtain ⟨k, n', M', F', rows, hk, rfl, hnb, hrows, hIg⟩ := hrel
       obtain ⟨wi, rfl⟩ : ∃ wi : World, wi = wr := ⟨_, rfl⟩
       have hSi := HS.out _ hIg.bel
       have hmi := hSi.1.1
       by_cases hkl : k < x.st.length
       ·obtain ⟨b1, o1, y, rfl, hyc, hye, -⟩ := (HX.out.below hSi.2).at_int hkl
        have hyr := hnode.out.1 y (List.mem_of_getElem? hye.out)
        obtain ⟨yn, rfl⟩ := Int.eq_ofNat_of_zero_le hyr.1
        have hyl : yn < m.next.length := by omega
        by_cases hys : yn = s
        ·have hysb : ((yn : Int) == (s : Int)) = true := by simp [hys]
         have hrow2 : Hid (rows = (if 0 < W.length ∨ x.st.length = 1 then [W] else []) ++ m.idO s (x.st.take (k + 1))) := by
          have h9 := Mach.idO_step (m := m) (s := (s : Int)) hye.out
          rw [if_pos (by rw [hys]), List.append_nil] at h9
          unfold Hid; rw [hrows.out, h9]
         have hnb2 : Hid (n' ≤ s * 2000 + 1 + (k + 1)) := by unfold Hid; have := hnb.out; omega
         clear hys
         go_wp2
         go_roundw
         case rel => exact ⟨k + 1, n', M', F', rows, by omega, by go_num, hnb2, hrow2, hIg⟩
         case measure => simp [intOf]; omega
        ·have hysb : ((yn : Int) == (s : Int)) = false := by simp; omega
         have hne : Hid (((yn : Nat) : Int) ≠ (s : Int)) := by unfold Hid; omega
         have hst0 := states_any (HM.out.below hSi.2) (s : Int) (yn : Int) (by unfold i64; omega) (by unfold i64; omega)
         rw [st_zero (Mach.minErr_ok (Mach.adsChk_0 HE.out).1).1 (s := (s : Int)) (x := (yn : Int)) (by omega) (by omega)] at hst0
         have HSt := Lib.hid hst0
         clear hst0 hys hSi
         go_wp2_with fail
         refine (HSt.out).mono ?_
         rintro e wj ⟨ad, cd, v, fl, rfl, hans, hvs, hbj⟩
         have hIj := hIg.below hbj
         have hvsj := Lib.hid (hvs.anti (M' := M') (fun k _ e => hIg.lt k e))
         have hve : Hid (v = m.sepW s yn) := hans.out.1
         have hlk := hIj.kg.look hs1000
         have hrl : Hid (rows.length < 1000000) := by
          unfold Hid; rw [hrows.out, List.length_append]
          have h1 := Mach.idO_len (m := m) (s := (s : Int)) (o := x.st.take k)
          rw [List.length_take] at h1
          have h2 : (if 0 < W.length ∨ x.st.length = 1 then [W] else ([] : List (List Int))).length ≤ 1 := by split <;> simp
          have := hn.out
          omega
         clear HSt hvs hbj hIg hans
         go_wp2_with (at_builtin; refine wpList_push_row (B := Bs) (M := M') (v := F' s) (rows := rows) (r := v) rfl rfl Tryz.underlying22 info_ints rfl rfl (hIj.ow.alloc _) hIj.own (by simp [go_sem]) (hvsj.out.alloc _) (by have := hrl.out; omega) (by have := hIj.bs; simp; omega) ?_)
         intro ak ck lk wk hlk2 hOk hkk hgk
         have hba := (Below.refl wj.heap.size wj).alloc (Nat.le_refl _) (.cells #[.slice ad v.length cd] 45)
         obtain ⟨wl, Ml, Fl, hrunl, hIl⟩ := (hIj.below hba).app hs1000 (by have := hnb.out; omega) (by simp) hgk hOk hkk.out
         have HIl := Lib.hid hIl
         have hrow2 : Hid (lk = (if 0 < W.length ∨ x.st.length = 1 then [W] else []) ++ m.idO s (x.st.take (k + 1))) := by
          have h9 := Mach.idO_step (m := m) (s := (s : Int)) hye.out
          rw [if_neg hne.out] at h9
          unfold Hid; rw [hlk2.out, hrows.out, h9, List.append_assoc, hve.out]
         have hnb2 : Hid (n' + 1 ≤ s * 2000 + 1 + (k + 1)) := by unfold Hid; have := hnb.out; omega
         clear hIj hlk hba hgk hOk hkk hIl hlk2
         go_wp2
         go_roundw
         case rel => exact ⟨k + 1, n' + 1, Ml, Fl, lk, by omega, by go_num, hnb2, hrow2, HIl.out⟩
         case measure => simp [intOf]; omega
       ·have hfin : Hid (m.idW T ((s : Nat) : Int) = rows) := by
          unfold Hid; rw [HIw.out, hrows.out, List.take_of_length_le (by omega)]
        have HIn := Lib.hid (hIg.next (R := fun j => m.idW T (j : Int)) hfin.out)
        have hnn2 : Hid (n' ≤ (s + 1) * 2000) := by unfold Hid; have := hnb.out; have := hn.out; omega
        have hsm3 : Hid (∀ j : Nat, j < s + 1 → Sm6 (m.idW T (j : Int))) := fun j hj => by
         by_cases e : j = s
         ·rw [e, HIw.out]; exact small_id (by omega) (by have := hn.out; omega) hn.out
         ·exact hsm.out j (by omega)
        clear hIg
        go_wp2
        go_roundw
        case rel => exact ⟨s + 1, n', wi.heap.size, F', by omega, by go_num, hnn2, hsm3, HIn.out⟩
        case measure => simp [intOf]; omega
     ·have hCb : ((x.st.length : Int) == 1) = false := by simp; omega
      have HIc := Lib.hid hI3
      have hrows : Hid (([] : List (List Int)) = if 0 < W.length ∨ x.st.length = 1 then [W] else []) := by unfold Hid; rw [if_neg (by omega)]
      have hnb : Hid (n ≤ s * 2000 + 1) := by unfold Hid; have := hnn.out; omega
      clear hI3
      have hi0 : Hid (([] : List (List Int)) = (if 0 < W.length ∨ x.st.length = 1 then [W] else []) ++ m.idO s (x.st.take 0)) := by unfold Hid; rw [← hrows.out]; simp [Mach.idO]
      go_wp2_with fail
      go_loopw [65] (fun i wr => ∃ (k n' : Nat) (M' : Nat → Prop) (F' : Nat → Value) (rows : List (List Int)), k ≤ x.st.length ∧ i = .int .i64 k ∧ Hid (n' ≤ s * 2000 + 1 + k) ∧ Hid (rows = (if 0 < W.length ∨ x.st.length = 1 then [W] else []) ++ m.idO s (x.st.take k)) ∧ Ig M' w2 Bs wr n' F' s (fun j => m.idW T (j : Int)) rows) (fun i _ => x.st.length - (intOf i).toNat)
      case atStart => exact ⟨0, n, _, F, ([] : List (List Int)), by omega, rfl, hnb, hi0, HIc.out⟩
      case round =>
       clear hi0 HIc hnb hrows
       obtain ⟨k, n', M', F', rows, hk, rfl, hnb, hrows, hIg⟩ := hrel
       obtain ⟨wi, rfl⟩ : ∃ wi : World, wi = wr := ⟨_, rfl⟩
       have hSi := HS.out _ hIg.bel
       have hmi := hSi.1.1
       by_cases hkl : k < x.st.length
       ·obtain ⟨b1, o1, y, rfl, hyc, hye, -⟩ := (HX.out.below hSi.2).at_int hkl
        have hyr := hnode.out.1 y (List.mem_of_getElem? hye.out)
        obtain ⟨yn, rfl⟩ := Int.eq_ofNat_of_zero_le hyr.1
        have hyl : yn < m.next.length := by omega
        by_cases hys : yn = s
        ·have hysb : ((yn : Int) == (s : Int)) = true := by simp [hys]
         have hrow2 : Hid (rows = (if 0 < W.length ∨ x.st.length = 1 then [W] else []) ++ m.idO s (x.st.take (k + 1))) := by
          have h9 := Mach.idO_step (m := m) (s := (s : Int)) hye.out
          rw [if_pos (by rw [hys]), List.append_nil] at h9
          unfold Hid; rw [hrows.out, h9]
         have hnb2 : Hid (n' ≤ s * 2000 + 1 + (k + 1)) := by unfold Hid; have := hnb.out; omega
         clear hys
         go_wp2
         go_roundw
         case rel => exact ⟨k + 1, n', M', F', rows, by omega, by go_num, hnb2, hrow2, hIg⟩
         case measure => simp [intOf]; omega
        ·have hysb : ((yn : Int) == (s : Int)) = false := by simp; omega
         have hne : Hid (((yn : Nat) : Int) ≠ (s : Int)) := by unfold Hid; omega
         have hst0 := states_any (HM.out.below hSi.2) (s : Int) (yn : Int) (by unfold i64; omega) (by unfold i64; omega)
         rw [st_zero (Mach.minErr_ok (Mach.adsChk_0 HE.out).1).1 (s := (s : Int)) (x := (yn : Int)) (by omega) (by omega)] at hst0
         have HSt := Lib.hid hst0
         clear hst0 hys hSi
         go_wp2_with fail
         refine (HSt.out).mono ?_
         rintro e wj ⟨ad, cd, v, fl, rfl, hans, hvs, hbj⟩
         have hIj := hIg.below hbj
         have hvsj := Lib.hid (hvs.anti (M' := M') (fun k _ e => hIg.lt k e))
         have hve : Hid (v = m.sepW s yn) := hans.out.1
         have hlk := hIj.kg.look hs1000
         have hrl : Hid (rows.length < 1000000) := by
          unfold Hid; rw [hrows.out, List.length_append]
          have h1 := Mach.idO_len (m := m) (s := (s : Int)) (o := x.st.take k)
          rw [List.length_take] at h1
          have h2 : (if 0 < W.length ∨ x.st.length = 1 then [W] else ([] : List (List Int))).length ≤ 1 := by split <;> simp
          have := hn.out
          omega
         clear HSt hvs hbj hIg hans
         go_wp2_with (at_builtin; refine wpList_push_row (B := Bs) (M := M') (v := F' s) (rows := rows) (r := v) rfl rfl Tryz.underlying22 info_ints rfl rfl (hIj.ow.alloc _) hIj.own (by simp [go_sem]) (hvsj.out.alloc _) (by have := hrl.out; omega) (by have := hIj.bs; simp; omega) ?_)
         intro ak ck lk wk hlk2 hOk hkk hgk
         have hba := (Below.refl wj.heap.size wj).alloc (Nat.le_refl _) (.cells #[.slice ad v.length cd] 45)
         obtain ⟨wl, Ml, Fl, hrunl, hIl⟩ := (hIj.below hba).app hs1000 (by have := hnb.out; omega) (by simp) hgk hOk hkk.out
         have HIl := Lib.hid hIl
         have hrow2 : Hid (lk = (if 0 < W.length ∨ x.st.length = 1 then [W] else []) ++ m.idO s (x.st.take (k + 1))) := by
          have h9 := Mach.idO_step (m := m) (s := (s : Int)) hye.out
          rw [if_neg hne.out] at h9
          unfold Hid; rw [hlk2.out, hrows.out, h9, List.append_assoc, hve.out]
         have hnb2 : Hid (n' + 1 ≤ s * 2000 + 1 + (k + 1)) := by unfold Hid; have := hnb.out; omega
         clear hIj hlk hba hgk hOk hkk hIl hlk2
         go_wp2
         go_roundw
         case rel => exact ⟨k + 1, n' + 1, Ml, Fl, lk, by omega, by go_num, hnb2, hrow2, HIl.out⟩
         case measure => simp [intOf]; omega
       ·have hfin : Hid (m.idW T ((s : Nat) : Int) = rows) := by
          unfold Hid; rw [HIw.out, hrows.out, List.take_of_length_le (by omega)]
        have HIn := Lib.hid (hIg.next (R := fun j => m.idW T (j : Int)) hfin.out)
        have hnn2 : Hid (n' ≤ (s + 1) * 2000) := by unfold Hid; have := hnb.out; have := hn.out; omega
        have hsm3 : Hid (∀ j : Nat, j < s + 1 → Sm6 (m.idW T (j : Int))) := fun j hj => by
         by_cases e : j = s
         ·rw [e, HIw.out]; exact small_id (by omega) (by have := hn.out; omega) hn.out
         ·exact hsm.out j (by omega)
        clear hIg
        go_wp2
        go_roundw
        case rel => exact ⟨s + 1, n', wi.heap.size, F', by omega, by go_num, hnn2, hsm3, HIn.out⟩
        case measure => simp [intOf]; omega
   ·obtain ⟨N, hN⟩ : ∃ N, Hid (N = m.next.length) := ⟨_, rfl⟩
    have hsN : s = m.next.length := by omega
    have HOL : Hid (∀ w', Below wo.heap.size wo w' → KG w' w2.heap.size n F ∧ ∀ j, j < m.next.length → ∃ a c, F j = .slice a (m.idW T (j : Int)).length c ∧ Sl (fun k => k = w2.heap.size ∨ Bs ≤ k) w' a c (m.idW T (j : Int))) := fun w' h =>
     ⟨(hIg.below h).kg, fun j hj => (hIg.below h).old j (by omega)⟩
    have hB3 := Lib.hid hSo.2
    have hm03 := hm0.2.2.1
    have hwz := hSo.2.size
    have hsm2 : Hid (∀ j : Nat, j < m.next.length → Sm6 (m.idW T (j : Int))) := fun j hj => hsm.out j (by omega)
    have hidl : Hid ((m.ids T).length = m.next.length) := by unfold Hid Mach.ids; simp
    clear hIg hSo hsN hto hsm hnn
    go_wp2_with (at_make; refine wpList_mk (B := wo.heap.size) (M := fun _ => True) rfl _ _ 31 rfl 22 (.slice none 0 0) 24 Tryz.underlying31 info_rows3 rfl (d := ([] : List (List Int))) rfl (fun w => rep_slice (l := ([] : List (List Int))) (Sl.nil _ w none (c := 0) (by unfold maxLen; omega))) m.next.length rfl rfl (by have := hn.out; omega) (by unfold maxLen; have := hn.out; omega) (Nat.le_refl _) ?_)
    intro g c l w4 hl hO hgz hgz2 hb4
    have hln : l.length = m.next.length := by rw [hl.out]; simp
    have hO2 := hO.subM (M' := fun k => k ≤ g) (fun _ _ _ => trivial)
    rw [hln] at hO2 ⊢
    have hl0 : Hid (l = (m.ids T).take 0 ++ List.replicate (m.next.length - 0) []) := by unfold Hid; rw [hl.out]; simp
    have HO2 := Lib.hid hO2
    have hgw := (hO.lt g rfl).2
    clear hln hl hO hO2
    go_wp2_with fail
    go_loopw [99] (fun i wr => ∃ (k : Nat) (L : List (List (List Int))), k ≤ m.next.length ∧ i = .int .i64 k ∧ Hid (L = (m.ids T).take k ++ List.replicate (m.next.length - k) []) ∧ Ow wo.heap.size (fun k => k ≤ g) wr 22 (.slice (some ⟨g, 0, none⟩) m.next.length c) L ∧ Below wo.heap.size wo wr ∧ g < wr.heap.size) (fun i _ => m.next.length - (intOf i).toNat)
    case atStart => exact ⟨0, l, by omega, rfl, hl0, HO2.out, hb4, hgw⟩
    case round =>
     clear hl0 HO2 hb4 hgw hm03
     obtain ⟨k, L, hk, rfl, hL, hO, hB, hgw⟩ := hrel
     obtain ⟨wi, rfl⟩ : ∃ wi : World, wi = wr := ⟨_, rfl⟩
     have hLl : Hid (L.length = m.next.length) := by unfold Hid; rw [hL.out, List.length_append, List.length_take, List.length_replicate, hidl.out]; omega
     by_cases hkl : k < m.next.length
     ·have hk1000 : k < 1000 := by have := hn.out; omega
      obtain ⟨hKG, hOLd⟩ := HOL.out _ hB
      obtain ⟨aF, cF, hFk, hFs⟩ := hOLd k hkl
      have hlk := hKG.look hk1000
      rw [hFk] at hlk
      have hsmk := hsm2.out k hkl
      have HSo := Lib.hid (sorted_any hFs (by have := hsmk.1; omega) (Lib.hid (fun r hr => by have := hsmk.2 r hr; omega)))
      clear hKG hOLd hFk hFs
      go_wp2_with fail
      refine (HSo.out).mono ?_
      rintro e wk ⟨aL, cL, Lk, rfl, hLk, hLks, hbk⟩
      have hOk := hO.below hbk
      have hgk : g < wk.heap.size := by have := hbk.size; omega
      have hBk := hB.trans (hbk.mono hB.size)
      have hids : Hid ((m.ids T)[k]? = some Lk) := by unfold Hid Mach.ids; rw [List.getElem?_map, List.getElem?_range hkl, hLk.out]; rfl
      have hLkg := Lib.hid (hLks.anti (M' := fun k => k ≤ g) (fun k _ e => by omega))
      have hOk2 := hOk
      rw [← hLl.out] at hOk2
      obtain ⟨xs, hx1, hx2⟩ := hOk2
      have hkL : k < L.length := by have := hLl.out; omega
      have hcg := hx1.cellAt k (by simp [GR.sz]; omega)
      have hfg := hx1.frozenAt k
      obtain ⟨u0, hu0⟩ : ∃ u0, xs[k]? = some u0 := ⟨_, List.getElem?_eq_getElem (by have := hx1.1; simp [GR.sz] at this; omega)⟩
      rw [hu0] at hcg
      have hlsz := hLks.le
      clear hx1 hx2 hLks hbk hB hO HSo
      go_wp2
      have hOn : Ow wo.heap.size (fun k => k ≤ g) (wk.setCell ⟨g, k, none⟩ (.slice aL Lk.length cL)) 22 (.slice (some ⟨g, 0, none⟩) L.length c) (L.set k Lk) :=
       Ow.set (M := fun k => k ≤ g) (x := Lk) rfl (by rw [hLl.out]; exact hOk) (Nat.le_refl g) (rep_slice (hLkg.out.ext (Ext.setCell (M := fun k => k ≤ g) wk (p := ⟨g, k, none⟩) (Nat.le_refl g) _)))
      rw [hLl.out] at hOn
      have hLn : Hid (L.set k Lk = (m.ids T).take (k + 1) ++ List.replicate (m.next.length - (k + 1)) []) := by
       unfold Hid; rw [hL.out]; exact fill_step hidl.out hids.out
      have hBn := hBk.setCell (p := ⟨g, k, none⟩) hgz (.slice aL Lk.length cL)
      have hgn : g < (wk.setCell ⟨g, k, none⟩ (.slice aL Lk.length cL)).heap.size := by simpa [World.setCell] using hgk
      clear hOk hBk hcg hfg hgk
      generalize wk.setCell ⟨g, k, none⟩ (.slice aL Lk.length cL) = wn at *
      go_roundw
      case rel => exact ⟨k + 1, L.set k Lk, by omega, by go_num, hLn, hOn, hBn, hgn⟩
      case measure => simp [intOf]; omega
     ·have hLf : Hid (L = m.ids T) := by unfold Hid; rw [hL.out, List.take_of_length_le (by have := hidl.out; omega), show m.next.length - k = 0 by omega]; simp
      have hR : Hid (m.idE T = (L, 0)) := by unfold Hid Mach.idE; rw [if_neg (by simp [HE.out]), hLf.out]
      have hSm : Hid (∀ r ∈ L, Sm6 r) := fun r hr => by
       rw [hLf.out] at hr
       unfold Mach.ids at hr
       obtain ⟨j, hj, rfl⟩ := List.mem_map.1 hr
       have h1 := hsm2.out j (List.mem_range.1 hj)
       exact ⟨Nat.lt_of_le_of_lt (srt_len _) h1.1, fun y hy => h1.2 y ((srt_mem tot_cmp).1 hy)⟩
      have hO3 : Ow wo.heap.size (fun k => k ≤ g) wi 22 (.slice (some ⟨g, 0, none⟩) L.length c) L := by rw [hLl.out]; exact hO
      have hLs := Lib.hid ((hO3.subM (M' := fun k => k < w.heap.size) (fun k _ e => by omega)).toSl (fun k hk e => by have := (hO3.lt k hk).1; omega))
      have hBf := hB3.out.trans (hB.mono hwz)
      have hLl2 := hLl.out
      clear hO hO3
      go_wp2
      exact bodyPost_ret (v := .tuple #[.slice (some ⟨g, 0, none⟩) m.next.length c, .int .i64 0]) (by simp [results, Tryz.results12, go_sem]) rfl ⟨some ⟨g, 0, none⟩, c, L, 0, by rw [hLl2], hR, hSm, hLs.out, hBf⟩
 ·have he' : (m.adsChk T != 0) = true := by simp [he]
  have hR : Hid (m.idE T = ([], m.adsChk T)) := by unfold Hid Mach.idE; rw [if_pos he]
  clear he
  go_wp2
  exact bodyPost_ret (v := .tuple #[.slice none 0 0, .int .i64 (m.adsChk T)]) (by simp [results, Tryz.results12, go_sem]) rfl ⟨none, 0, [], m.adsChk T, rfl, hR, fun r hr => by simp at hr, Sl.nil _ _ _ (by unfold maxLen; omega), hB2⟩
end
end Go.Proofs.YtknhegdepbmmlaaGreat
/- asuite.Suite in plain words. No condition. -/
namespace Go.Proofs.YtknhegdepbmmlaaGreat
/-- Words over the inputs, not longer than N. -/
def InW (n : Int) (N : Nat) (w : List Int) : Prop := (∀ a ∈ w, 0 ≤ a ∧ a < n) ∧ w.length ≤ N
theorem nxW_in {n : Int} : ∀ {w ys : List Int}, (∀ a ∈ w, 0 ≤ a ∧ a < n) → nxW n w = some ys → (∀ a ∈ ys, 0 ≤ a ∧ a < n) ∧ ys.length = w.length
 | [], ys, h, e => by simp [nxW] at e
 | x :: xs, ys, h, e => by
  have hx := h x (.head _)
  unfold nxW at e
  split at e
  ·rename_i zs hz
   obtain ⟨h1, h2⟩ := nxW_in (fun a ha => h a (.tail _ ha)) hz
   simp at e; subst e
   refine ⟨fun a ha => ?_, by simp [h2]⟩
   rcases List.mem_cons.1 ha with rfl | ha
   ·exact hx
   ·exact h1 a ha
  ·split at e
   ·rename_i hlt
    simp at e; subst e
    refine ⟨fun a ha => ?_, by simp⟩
    rcases List.mem_cons.1 ha with rfl | ha
    ·omega
    ·rw [List.eq_of_mem_replicate ha]; omega
   ·simp at e
theorem nextV_in {n : Int} (hn : 1 ≤ n) {w : List Int} (h : ∀ a ∈ w, 0 ≤ a ∧ a < n) : ∀ a ∈ nextV w n, 0 ≤ a ∧ a < n := by
 unfold nextV
 split
 ·intro a ha; simp at ha
 ·split
  ·rename_i y hy
   exact (nxW_in h hy).1
  ·split
   ·intro a ha; simp at ha
   ·intro a ha; rw [List.eq_of_mem_replicate ha]; omega
theorem upt_in {n N : Int} (hn : 1 ≤ n) : ∀ (f : Nat) (out : List (List Int)) (w : List Int) (ok : Bool), (∀ x ∈ out, InW n N.toNat x) → (∀ a ∈ w, 0 ≤ a ∧ a < n) → (∀ x ∈ (upt n N f out w ok).1, InW n N.toNat x) ∧ (upt n N f out w ok).1.length ≤ out.length + f
 | 0, out, w, ok, ho, hw => ⟨ho, Nat.le_refl _⟩
 | f + 1, out, w, ok, ho, hw => by
  unfold upt
  split
  ·rename_i h1
   split
   ·exact ⟨fun x hx => by simp at hx, by simp⟩
   ·have h2 := upt_in (N := N) hn f (out ++ [w]) (nextV w n) (nextB w n) (fun x hx => by
      rcases List.mem_append.1 hx with e | e
      ·exact ho x e
      ·rw [List.mem_singleton.1 e]; exact ⟨hw, by have := h1.2; omega⟩) (nextV_in hn hw)
    refine ⟨h2.1, ?_⟩
    have := h2.2
    simp at this
    omega
  ·exact ⟨ho, by show out.length ≤ _; omega⟩
theorem uptW_in (n N : Int) : (∀ x ∈ (uptW n N).1, InW n N.toNat x) ∧ (uptW n N).1.length ≤ 10001 := by
 unfold uptW
 split
 ·exact ⟨fun x hx => by simp at hx, by simp⟩
 ·rename_i h
  have := upt_in (n := n) (N := N) (by omega) 10001 [] [] true (fun x hx => by simp at hx) (fun a ha => by simp at ha)
  simpa using this
theorem grW_mem {l : List (List (List Int))} {r : List (List Int)} (h : r ∈ l) : r.length ≤ grW l := by
 obtain ⟨k, hk⟩ := List.mem_iff_getElem?.1 h
 have h1 : ∀ j, k + 1 ≤ j → r.length ≤ grW (l.take j) := by
  intro j hj
  induction j with
  | zero => omega
  | succ j ih =>
   by_cases e : k + 1 = j + 1
   ·obtain rfl : k = j := by omega
    rw [grW_succ hk]; exact Nat.le_max_right _ _
   ·have h2 := ih (by omega)
    by_cases hj2 : j < l.length
    ·rw [grW_succ (List.getElem?_eq_getElem hj2)]
     exact Nat.le_trans h2 (Nat.le_max_left _ _)
    ·have e1 : l.take (j + 1) = l.take j := by rw [List.take_of_length_le (by omega), List.take_of_length_le (by omega)]
     rw [e1]; exact h2
 have h2 := h1 l.length (some_lt hk)
 rwa [List.take_length] at h2
theorem grW_pos (l : List (List (List Int))) : 1 ≤ grW l := by
 have : ∀ j, 1 ≤ grW (l.take j) := by
  intro j
  induction j with
  | zero => simp [grW]
  | succ j ih =>
   by_cases hj : j < l.length
   ·rw [grW_succ (List.getElem?_eq_getElem hj)]
    exact Nat.le_trans ih (Nat.le_max_left _ _)
   ·have e1 : l.take (j + 1) = l.take j := by rw [List.take_of_length_le (by omega), List.take_of_length_le (by omega)]
    rw [e1]; exact ih
 have h := this l.length
 rwa [List.take_length] at h
def sg (n : Mach) (ids : List (List (List Int))) (p x : List Int) : List (List Int) := (tailW n ids (p ++ x)).map fun t => (p ++ x) ++ t
def sf (n : Mach) (ids : List (List (List Int))) (X : List (List Int)) (p : List Int) : List (List Int) := X.flatMap fun x => sg n ids p x
def suOut (n : Mach) (ids : List (List (List Int))) (A X : List (List Int)) : List (List Int) := A.flatMap fun p => sf n ids X p
theorem fm_step {α β : Type} {l : List α} {f : α → List β} {k : Nat} {x : α} (h : l[k]? = some x) : (l.take (k + 1)).flatMap f = (l.take k).flatMap f ++ f x := by
 rw [List.take_add_one, h, List.flatMap_append]; simp
theorem tailW_in {n : Mach} {ids : List (List (List Int))} {w : List Int} (hs : ∀ r ∈ ids, Sm6 r) : (tailW n ids w).length ≤ grW ids ∧ Sm6 (tailW n ids w) := by
 unfold tailW
 split
 ·exact ⟨by simp; exact grW_pos ids, by constructor <;> simp⟩
 ·rename_i h
  cases e : ids[(n.endW n.start w).toNat]? with
  | none => exact absurd (by rw [List.getD_eq_getElem?_getD, e]; rfl) h
  | some r =>
   rw [List.getD_eq_getElem?_getD, e]
   exact ⟨grW_mem (List.mem_of_getElem? e), hs r (List.mem_of_getElem? e)⟩
namespace Mach
def suW (m : Mach) (extra : Int) : List (List Int) × Int :=
 if m.err ≠ 0 then ([], m.err) else
 if extra < 0 ∨ 3 < extra then ([], 2) else
 if (uptW m.inputs (extra + 1)).2 ≠ 0 then ([], (uptW m.inputs (extra + 1)).2) else
 if m.minOf.adsB.2.2 ≠ 0 then ([], m.minOf.adsB.2.2) else
 if (m.minOf.idE m.minOf.adsB.1).2 ≠ 0 then ([], (m.minOf.idE m.minOf.adsB.1).2) else
 if 10000 < (m.minOf.covW.map Pc.word).length * (uptW m.inputs (extra + 1)).1.length * grW (m.minOf.idE m.minOf.adsB.1).1 then ([], 11) else
 (maxW (suOut m.minOf (m.minOf.idE m.minOf.adsB.1).1 (m.minOf.covW.map Pc.word) (uptW m.inputs (extra + 1)).1), 0)
end Mach
end Go.Proofs.YtknhegdepbmmlaaGreat
/- What the example of chapter 31 computes, in plain words. No condition. -/
namespace Go.Proofs.YtknhegdepbmmlaaGreat
open Go.RowKit
theorem Mach.findW_word {m : Mach} {l w : List Int} {i : Nat} (h : m.fTo l i = .word w) (hi : i ≤ 4097) : m.findW l = (w, true) :=
 findW_of ((fTo_stop (by rw [fMax_eq]; exact hi) (by intro K e; rw [h] at e; cases e)).trans h)
def ex31T : List Nd := [⟨[0, 1, 2], 0, [⟨0, 1⟩, ⟨1, 4⟩]⟩, ⟨[0, 1], 0, [⟨0, 2⟩, ⟨1, 3⟩]⟩, ⟨[0], -1, []⟩, ⟨[1], -1, []⟩, ⟨[2], -1, []⟩]
theorem ex31_min : ex8T.minErr = 0 := by decide
theorem ex31_w1 : ex8T.findW [0, 1, 2] = ([0], true) := Mach.findW_word (i := 1) rfl (by omega)
theorem ex31_w2 : ex8T.findW [1, 2] = ([0], true) := Mach.findW_word (i := 1) rfl (by omega)
theorem ex31_p1 : ex8T.gParts 0 ⟨[0, 1, 2], [0, 1, 2]⟩ = [(0, ⟨[0, 1], [1, 2]⟩), (1, ⟨[2], [0]⟩)] := by decide
theorem ex31_p2 : ex8T.gParts 0 ⟨[0, 1], [1, 2]⟩ = [(0, ⟨[0], [2]⟩), (1, ⟨[1], [0]⟩)] := by decide
theorem ex31_leaf {f : Nat} {L : List Nd} {i c : Int} : ex8T.grow (f + 1) L ⟨[i], [c]⟩ [] = L ++ [⟨[i], -1, []⟩] := Mach.grow_leaf (by unfold Mach.gWord; rw [if_neg (by simp)])
theorem ex31_g2 {f : Nat} {L : List Nd} (hL : L.length = 1) : ex8T.grow (f + 2) L ⟨[0, 1], [1, 2]⟩ [] = L ++ [⟨[0, 1], 0, [⟨0, 2⟩, ⟨1, 3⟩]⟩, ⟨[0], -1, []⟩, ⟨[1], -1, []⟩] := by
 obtain ⟨x, rfl⟩ : ∃ x, L = [x] := by
  match L, hL with
  | [x], _ => exact ⟨x, rfl⟩
 rw [Mach.grow_on (u := []) (a := 0) (by simp) (by unfold Mach.gWord; rw [if_pos (by simp), ex31_w2])]
 show ex8T.gLoop (f + 1) 1 [] (ex8T.gParts 0 ⟨[0, 1], [1, 2]⟩) ([x] ++ [⟨[0, 1], 0, []⟩]) = _
 rw [ex31_p2]
 simp [Mach.gLoop, gKid, ex31_leaf, addKid]
theorem ex31_gr (f : Nat) : ex8T.grow (f + 2 + 1) [] ⟨[0, 1, 2], [0, 1, 2]⟩ [] = ex31T := by
 rw [Mach.grow_on (u := []) (a := 0) (by simp) (by unfold Mach.gWord; rw [if_pos (by simp), ex31_w1])]
 show ex8T.gLoop (f + 2) 0 [] (ex8T.gParts 0 ⟨[0, 1, 2], [0, 1, 2]⟩) ([] ++ [⟨[0, 1, 2], 0, []⟩]) = _
 rw [ex31_p1]
 have h1 : ex8T.grow (f + 2) [⟨[0, 1, 2], 0, []⟩] ⟨[0, 1], [1, 2]⟩ [] = _ := ex31_g2 rfl
 simp only [Mach.gLoop, List.foldl_cons, List.foldl_nil, List.nil_append, gKid, h1]
 simp [addKid, ex31_leaf, ex31T]
theorem ex31_grow : ex8T.adsL = ex31T := by
 obtain ⟨f, hf⟩ : ∃ f, 4097 = f + 2 + 1 := ⟨4094, rfl⟩
 unfold Mach.adsL
 rw [hf]
 exact ex31_gr f
theorem ex31_ads : ex8T.adsB = (ex31T, true, 0) := by
 unfold Mach.adsB
 rw [if_neg (by simp [ex31_min]), ex31_grow, if_neg (by simp [ex31T])]
 rfl
theorem ex31_id : ex8T.idE ex31T = ([[[0, 0]], [[0, 0]], [[0]]], 0) := by decide
theorem ex31_one : ex8T.idE [⟨[0, 1, 2], -1, []⟩] = ([[[0], [0, 0]], [[0], [0, 0]], [[0]]], 0) := by decide
theorem ex31_none : ex8T.idE [] = ([], 1) := by decide
theorem ex31_mof : ex8T.minOf = ex8T := by decide
theorem ex31_upt : uptW ex8T.inputs (0 + 1) = ([[], [0]], 0) := by decide
theorem ex31_cov : ex8T.covW.map Pc.word = [[], [0], [0, 0]] := by decide
theorem ex31_su : ex8T.suW 0 = ([[0, 0, 0, 0, 0]], 0) := by
 unfold Mach.suW
 rw [if_neg (by simp [ex8_errT]), if_neg (by omega), ex31_upt, if_neg (by simp), ex31_mof, ex31_ads, if_neg (by simp)]
 simp only []
 rw [ex31_id, ex31_cov]
 decide
end Go.Proofs.YtknhegdepbmmlaaGreat
/- asuite.Suite from the start. No condition. -/
namespace Go.Proofs.YtknhegdepbmmlaaGreat
open Go.RowKit
theorem grW_le {l : List (List (List Int))} {N : Nat} (hN : 1 ≤ N) (h : ∀ r ∈ l, r.length ≤ N) : grW l ≤ N := by
 have : ∀ j, grW (l.take j) ≤ N := by
  intro j
  induction j with
  | zero => simpa [grW] using hN
  | succ j ih =>
   by_cases hj : j < l.length
   ·rw [grW_succ (List.getElem?_eq_getElem hj)]
    exact Nat.max_le.2 ⟨ih, h _ (List.getElem_mem hj)⟩
   ·have e1 : l.take (j + 1) = l.take j := by rw [List.take_of_length_le (by omega), List.take_of_length_le (by omega)]
    rw [e1]; exact ih
 have h := this l.length
 rwa [List.take_length] at h
theorem Mach.adsB_len (n : Mach) : n.adsB.1.length ≤ 4097 := by
 unfold adsB
 split
 ·simp
 ·split
  ·simp
  ·show n.adsL.length ≤ 4097; omega
theorem Mach.adsB_0 {n : Mach} (h : n.adsB.2.2 = 0) : n.minErr = 0 := by
 unfold adsB at h
 split at h
 ·rename_i h1; exact absurd h h1
 ·rename_i h1; exact Classical.byContradiction h1
theorem Mach.idE_0 {n : Mach} {T : List Nd} (h : (n.idE T).2 = 0) : (n.idE T).1.length = n.next.length := by
 unfold idE at h ⊢
 split
 ·rename_i h1; rw [if_pos h1] at h; exact absurd h h1
 ·simp [ids]
theorem sui_err {t : Mach} (okt : t.Ok) {p x : List Int} (hp : t.okS p) (hpl : p.length ≤ 1000) {N : Nat} (hN : N ≤ 4) (hx : InW t.inputs N x) : wErr (p ++ x) t.inputs = 0 := by
 have h0 := okt.i0
 have h1 := okt.i1
 unfold wErr
 rw [if_neg (by omega), if_neg (by rw [List.length_append]; have := hx.2; omega), if_neg]
 rintro ⟨a, ha, hb⟩
 rcases List.mem_append.1 ha with e | e
 ·have := hp a e; omega
 ·have := hx.1 a e; omega
theorem fm_len {α β : Type} {f : α → List β} {N : Nat} : ∀ (l : List α), (∀ x ∈ l, (f x).length ≤ N) → (l.flatMap f).length ≤ l.length * N
 | [], _ => by simp
 | x :: l, h => by
  rw [List.flatMap_cons, List.length_append, List.length_cons, Nat.add_mul, Nat.one_mul]
  have := fm_len l (fun y hy => h y (.tail _ hy))
  have := h x (.head _)
  omega
theorem suOut_len {t : Mach} {I : List (List (List Int))} {A X : List (List Int)} (hs : ∀ r ∈ I, Sm6 r) : (suOut t I A X).length ≤ A.length * X.length * grW I := by
 unfold suOut
 have h := fm_len (f := sf t I X) (N := X.length * grW I) A (fun p _ => by
  unfold sf
  exact fm_len X (fun x _ => by unfold sg; rw [List.length_map]; exact (tailW_in hs).1))
 rwa [← Nat.mul_assoc] at h
theorem suOut_mem {t : Mach} {I : List (List (List Int))} {A X : List (List Int)} (hs : ∀ r ∈ I, Sm6 r) {r : List Int} (hr : r ∈ suOut t I A X) {N1 N2 : Nat} (h1 : ∀ p ∈ A, p.length ≤ N1) (h2 : ∀ x ∈ X, x.length ≤ N2) : r.length ≤ N1 + N2 + 1000000 := by
 unfold suOut at hr
 obtain ⟨p, hp, hr⟩ := List.mem_flatMap.1 hr
 unfold sf at hr
 obtain ⟨x, hx, hr⟩ := List.mem_flatMap.1 hr
 unfold sg at hr
 obtain ⟨v, hv, rfl⟩ := List.mem_map.1 hr
 have := (tailW_in (w := p ++ x) (n := t) hs).2.2 v hv
 have := h1 p hp
 have := h2 x hx
 simp only [List.length_append]
 omega
section
variable {M : Nat → Prop} {w : World} {an ao : Option Addr} {cn co : Nat} {m : Mach}
theorem suite_any (hm : Ma M w an cn ao co m) (extra : Int) :
    Calls Tryz.prog 15 #[maV m an cn ao co, .int .i64 extra] w fun e w' => ∃ (a : Option Addr) (c : Nat) (L : List (List Int)) (e1 : Int), e = .returned (.tuple #[.slice a L.length c, .int .i64 e1]) ∧ Hid (m.suW extra = (L, e1)) ∧ Sl (fun k => k < w.heap.size) w' a c L ∧ Below w.heap.size w w' := by
 have hB0 := (Below.refl w.heap.size w).alloc (Nat.le_refl _) (maO m an cn ao co)
 have hx0 : C4 (w.alloc (maO m an cn ao co)) w.heap.size an cn ao co m := c4_new w
 have hz0 : w.heap.size < (w.alloc (maO m an cn ao co)).heap.size := by simp
 have HM := Lib.hid hm
 have HV := Lib.hid (valid_any (hm.below hB0))
 have l1 := hm.next.le
 have l2 := hm.out.le
 clear hm
 go_enter Tryz.func15, Tryz.ntmps15
 go_wp2_with fail
 generalize w.alloc (maO m an cn ao co) = w0 at *
 refine (HV.out).mono ?_
 rintro e w1 ⟨rfl, hb1⟩
 have hx1 := hx0.below hb1 hz0
 have hB1 := hB0.trans (hb1.mono (by omega))
 have hz1 : w.heap.size < w1.heap.size := by have := hb1.size; omega
 clear hx0 hB0 hz0 hb1 HV
 by_cases he : m.err = 0
 ·have he' : (m.err != 0) = false := by simp [he]
  have HE := Lib.hid he
  have ok : Hid m.Ok := Mach.ok_of_err m HE.out
  clear he
  by_cases hex : extra < 0 ∨ 3 < extra
  ·have hR : Hid (m.suW extra = ([], 2)) := by unfold Hid Mach.suW; rw [if_neg (by simp [HE.out]), if_pos hex]
   by_cases h1 : extra < 0
   ·clear hex
    go_wp2
    exact bodyPost_ret (v := .tuple #[.slice none 0 0, .int .i64 2]) (by simp [results, Tryz.results15, go_sem]) rfl ⟨none, 0, [], 2, rfl, hR, Sl.nil _ _ _ (by unfold maxLen; omega), hB1⟩
   ·have h2 : 3 < extra := hex.elim (fun e => absurd e h1) id
    clear hex
    go_wp2
    exact bodyPost_ret (v := .tuple #[.slice none 0 0, .int .i64 2]) (by simp [results, Tryz.results15, go_sem]) rfl ⟨none, 0, [], 2, rfl, hR, Sl.nil _ _ _ (by unfold maxLen; omega), hB1⟩
  ·have h1 : decide (extra < 0) = false := decide_eq_false (fun e => hex (.inl e))
   have h2 : decide (3 < extra) = false := decide_eq_false (fun e => hex (.inr e))
   have HX := Lib.hid hex
   have hwr : IntKind.i64.wrap (extra + 1) = extra + 1 := IntWalk.i64_in _ (by omega)
   have HUp := Lib.hid (upto_any (w := w1) m.inputs (extra + 1))
   have hx10 := hx1.1
   clear hex
   go_wp2_with fail
   refine (HUp.out).mono ?_
   rintro e w2 ⟨aX, cX, X, e2, rfl, hX, hXs, hb2⟩
   have hx2 := hx1.below hb2 hz1
   have hB2 := hB1.trans (hb2.mono (by omega))
   have hz2 : w.heap.size < w2.heap.size := by have := hb2.size; omega
   have HXs := Lib.hid (hXs.anti (M' := fun k => k < w.heap.size) (fun k _ e => by omega))
   clear hx1 hB1 hz1 hb2 HUp hXs hx10
   by_cases he2 : e2 = 0
   ·have he2b : (e2 != 0) = false := by simp [he2]
    have HE2 := Lib.hid he2
    clear he2
    have ht0 := min_any (HM.out.below hB2)
    rw [HE.out] at ht0
    have HMi := Lib.hid ht0
    clear ht0
    go_wp2_with fail
    refine (HMi.out).mono ?_
    rintro e w3 ⟨an', cn', ao', co', t, rfl, ht, hTm, hb3⟩
    have htm : Hid (t = m.minF) := by unfold Hid; rw [ht.out, Mach.minOf_eq HE.out]
    have okt : Hid t.Ok := by rw [htm.out]; exact Mach.minF_ok ok.out
    have htn : Hid (t.next.length < 1000) := by have := okt.out.n1; unfold Hid; omega
    have HTm := Lib.hid (hTm.ext (M' := fun k => k < w.heap.size) (Ext.sub_only (fun k _ e => by omega)))
    have hB3 := hB2.trans (hb3.mono (by omega))
    have hz3 : w.heap.size < w3.heap.size := by have := hb3.size; omega
    have HXs3 := Lib.hid (HXs.out.below hb3)
    have lt1 := hTm.next.le
    have lt2 := hTm.out.le
    clear hx2 hB2 hz2 HMi hTm hb3 HXs
    go_upto_region 12 with (fail)
    have hba := (Below.refl w3.heap.size w3).alloc (Nat.le_refl _) (maO t an' cn' ao' co')
    have hc4 : C4 (w3.alloc (maO t an' cn' ao' co')) w3.heap.size an' cn' ao' co' t := c4_new w3
    have hB4 := hB3.trans (hba.mono (by omega))
    have HT4 := Lib.hid (HTm.out.below hba)
    have HXs4 := Lib.hid (HXs3.out.below hba)
    have hz4 : w3.heap.size < (w3.alloc (maO t an' cn' ao' co')).heap.size := by simp
    clear hba hB3 HTm HXs3
    generalize w3.alloc (maO t an' cn' ao' co') = w4 at *
    have HBu := Lib.hid (gbuild_any HT4.out htn)
    go_wp2_with fail
    refine (HBu.out).mono ?_
    rintro e w5 ⟨aL, cL, L, y3, e3, rfl, hL, hLs, hb5⟩
    have hc5 := hc4.below hb5 hz4
    have hB5 := hB4.trans (hb5.mono (by omega))
    have HT5 := Lib.hid (HT4.out.below hb5)
    have HXs5 := Lib.hid (HXs4.out.below hb5)
    have HLs5 := Lib.hid (hLs.anti (M' := fun k => k < w.heap.size) (fun k _ e => by omega))
    have hz5 : w3.heap.size < w5.heap.size := by have := hb5.size; omega
    have hLl : Hid (L.length ≤ 4097) := by have h := t.adsB_len; rw [hL.out] at h; exact h
    clear hc4 hB4 HT4 HXs4 hz4 hb5 HBu hLs
    by_cases he3 : e3 = 0
    ·have he3b : (e3 != 0) = false := by simp [he3]
     have HE3 := Lib.hid he3
     have hme := Lib.hid (Mach.adsB_0 (n := t) (by rw [hL.out]; exact he3))
     clear he3
     go_upto_region 15 with (fail)
     have hba := (Below.refl w5.heap.size w5).alloc (Nat.le_refl _) (.cells #[.slice aL L.length cL] 27)
     have ha6 : (w5.alloc (.cells #[.slice aL L.length cL] 27)).cell? ⟨w5.heap.size, 0, none⟩ = some (.slice aL L.length cL) := by simp
     have hc6 := hc5.below hba hz5
     have hB6 := hB5.trans (hba.mono (by omega))
     have HT6 := Lib.hid (HT5.out.below hba)
     have HXs6 := Lib.hid (HXs5.out.below hba)
     have HLs6 := Lib.hid (HLs5.out.below hba)
     have hz6 : w5.heap.size < (w5.alloc (.cells #[.slice aL L.length cL] 27)).heap.size := by simp
     clear hba hc5 hB5 HT5 HXs5 HLs5
     generalize w5.alloc (.cells #[.slice aL L.length cL] 27) = w6 at *
     have HId := Lib.hid (identify_any HT6.out HLs6.out htn (Lib.hid (by have := hLl.out; omega)))
     go_wp2_with fail
     refine (HId.out).mono ?_
     rintro e w7 ⟨aI, cI, I, e4, rfl, hI, hIsm, hIs, hb7⟩
     have hc7 := hc6.below hb7 (by omega)
     have hB7 := hB6.trans (hb7.mono (by omega))
     have HT7 := Lib.hid (HT6.out.below hb7)
     have HXs7 := Lib.hid (HXs6.out.below hb7)
     have HIs7 := Lib.hid (hIs.anti (M' := fun k => k < w.heap.size) (fun k _ e => by omega))
     have hz7 : w5.heap.size < w7.heap.size := by have := hb7.size; omega
     clear hc6 hB6 HT6 HXs6 hb7 HId hIs HLs6 ha6 hz6
     by_cases he4 : e4 = 0
     ·have he4b : (e4 != 0) = false := by simp [he4]
      have HE4 := Lib.hid he4
      have hIl : Hid (I.length = t.next.length) := by have h := Mach.idE_0 (n := t) (T := L) (by rw [hI.out]; exact he4); rw [hI.out] at h; exact h
      have hte := Lib.hid (Mach.minErr_ok hme.out).1
      clear he4
      have HCv := Lib.hid (cover_any HT7.out hte)
      go_wp2_with fail
      refine (HCv.out).mono ?_
      rintro e w8 ⟨aA, cA, A, rfl, hA, hAs, hb8⟩
      have hc8 := hc7.below hb8 (by omega)
      have hB8 := hB7.trans (hb8.mono (by omega))
      have HT8 := Lib.hid (HT7.out.below hb8)
      have HXs8 := Lib.hid (HXs7.out.below hb8)
      have HIs8 := Lib.hid (HIs7.out.below hb8)
      have HAs8 := Lib.hid (hAs.anti (M' := fun k => k < w.heap.size) (fun k _ e => by omega))
      have hz8 : w5.heap.size < w8.heap.size := by have := hb8.size; omega
      have hAl : Hid (A.length ≤ 1000 ∧ ∀ p ∈ A, t.okS p ∧ p.length ≤ 1000) := by
       have hn1 := okt.out.n1
       unfold Hid; rw [hA.out]
       refine ⟨?_, fun p hp => ?_⟩
       ·rw [List.length_map]
        have h1 := t.cov_len t.next.length
        have h2 := Mach.bfs_le okt.out t.next.length
        unfold Mach.covW
        omega
       ·obtain ⟨q, hq, rfl⟩ := List.mem_map.1 hp
        have h1 := Mach.cov_all okt.out t.next.length q hq
        exact ⟨h1.2.2.1, by have := h1.2.2.2.1; omega⟩
      have hXl : Hid (X.length ≤ 10001 ∧ ∀ x ∈ X, InW m.inputs (extra + 1).toNat x) := by
       have h := uptW_in m.inputs (extra + 1)
       rw [hX.out] at h
       exact ⟨h.2, h.1⟩
      have hGl : Hid (grW I ≤ 10000) := grW_le (by omega) (fun r hr => by have := (hIsm.out r hr).1; omega)
      clear hc7 hB7 HT7 HXs7 HIs7 hb8 HCv hAs
      have HGr := Lib.hid (greatest_any HIs8.out)
      obtain ⟨G, hG⟩ : ∃ G, Hid (G = grW I) := ⟨_, rfl⟩
      rw [← hG.out] at hGl
      have hG0 : Hid ((grW I : Int) = (G : Int)) := by unfold Hid; rw [hG.out]
      have hA1 := hAl.out.1
      have hX1 := hXl.out.1
      have hG1 := hGl.out
      have hAX : A.length * X.length ≤ 1000 * 10001 := Nat.mul_le_mul hA1 hX1
      have hAXG : A.length * X.length * G ≤ 1000 * 10001 * 10000 := Nat.mul_le_mul hAX hG1
      obtain ⟨P1, hP1⟩ : ∃ P1, P1 = A.length * X.length := ⟨_, rfl⟩
      obtain ⟨P2, hP2⟩ : ∃ P2, P2 = P1 * G := ⟨_, rfl⟩
      have hw1 : IntKind.i64.wrap ((A.length : Int) * (X.length : Int)) = (P1 : Int) := by
       rw [show ((A.length : Int) * (X.length : Int)) = ((P1 : Nat) : Int) by rw [hP1]; simp]
       exact IntWalk.i64_in _ (by omega)
      have hw2 : IntKind.i64.wrap ((P1 : Int) * (G : Int)) = (P2 : Int) := by
       rw [show ((P1 : Int) * (G : Int)) = ((P2 : Nat) : Int) by rw [hP2]; simp]
       rw [← hP1] at hAXG
       rw [← hP2] at hAXG
       exact IntWalk.i64_in _ (by omega)
      have HGr0 := greatest_any HIs8.out
      rw [hG0.out] at HGr0
      have HGr2 := Lib.hid HGr0
      have hP3 : Hid (P2 = A.length * X.length * grW I) := by unfold Hid; rw [hP2, hP1, hG.out]
      have hR0 : Hid (m.suW extra = if 10000 < P2 then ([], 11) else (maxW (suOut t I A X), 0)) := by
       unfold Hid Mach.suW
       rw [if_neg (by simp [HE.out]), if_neg HX.out, hX.out, if_neg (by simp [HE2.out]), ← ht.out, hL.out, if_neg (by simp [HE3.out]), hI.out, if_neg (by simp [HE4.out]), ← hA.out, hP3.out]
      clear HGr0 HGr hP1 hP2 hAX hAXG
      by_cases hbig : 10000 < P2
      ·have hR : Hid (m.suW extra = ([], 11)) := by unfold Hid; rw [hR0.out, if_pos hbig]
       go_wp2_with fail
       refine (HGr2.out).mono ?_
       rintro e w9 ⟨rfl, rfl⟩
       go_wp2
       exact bodyPost_ret (v := .tuple #[.slice none 0 0, .int .i64 11]) (by simp [results, Tryz.results15, go_sem]) rfl ⟨none, 0, [], 11, rfl, hR, Sl.nil _ _ _ (by unfold maxLen; omega), hB8⟩
      ·have hGb : Hid (0 < A.length → 0 < X.length → G ≤ 10000) := fun _ _ => hG1
       have hR1 : Hid (m.suW extra = (maxW (suOut t I A X), 0)) := by unfold Hid; rw [hR0.out, if_neg hbig]
       go_wp2_with fail
       refine (HGr2.out).mono ?_
       rintro e w9 ⟨rfl, rfl⟩
       clear HGr2 hR0
       have HS : Hid (∀ w', Below w9.heap.size w9 w' → C4 w' w3.heap.size an' cn' ao' co' t ∧ Ma (fun k => k < w.heap.size) w' an' cn' ao' co' t ∧ Sl (fun k => k < w.heap.size) w' aI cI I ∧ Sl (fun k => k < w.heap.size) w' aA cA A ∧ Sl (fun k => k < w.heap.size) w' aX cX X ∧ Below w.heap.size w w') := fun w' h =>
        ⟨hc8.below h (by omega), HT8.out.below h, HIs8.out.below h, HAs8.out.below h, HXs8.out.below h, hB8.trans (h.mono (by omega))⟩
       have hO0 : Ox (α := List Int) w9.heap.size w9.heap.size w9 45 (.slice none 0 0) [] := Ox.nil
       have hBz := Below.refl w9.heap.size w9
       have hwz : w.heap.size ≤ w9.heap.size := by omega
       have hIm : Hid (∀ r ∈ I, Small9 r) := fun r hr => ⟨by have := (hIsm.out r hr).1; omega, fun y hy => by have := (hIsm.out r hr).2 y hy; omega⟩
       have hti : Hid (t.inputs = m.inputs) := by unfold Hid; rw [htm.out]; rfl
       clear hc8 hB8
       go_wp2_with fail
       go_loopw [91, 14] (fun i v wr => ∃ (k1 : Nat) (a' : Option Addr) (c' : Nat) (K : List (List Int)), k1 ≤ A.length ∧ i = .int .i64 k1 ∧ v = .slice a' K.length c' ∧ Hid (K = (A.take k1).flatMap (sf t I X)) ∧ Hid (K.length ≤ k1 * 200000000) ∧
        Ox w9.heap.size w9.heap.size wr 45 (.slice a' K.length c') K ∧ Below w9.heap.size w9 wr) (fun i _ _ => A.length - (intOf i).toNat)
       case atStart => exact ⟨0, none, 0, [], by omega, rfl, rfl, by simp [Hid], by simp [Hid], hO0, hBz⟩
       case round =>
        clear hO0 hBz
        obtain ⟨k1, a1, c1, K1, hk1, rfl, rfl, hK1, hK1l, hO, hB⟩ := hrel
        obtain ⟨wo, rfl⟩ : ∃ wo : World, wo = wr := ⟨_, rfl⟩
        by_cases hlt : k1 < A.length
        ·obtain ⟨bA, oA, ap, p, cp, rfl, hpc, hp, hps⟩ := HAs8.out.at_row hlt
         have hpcw := (hB.cell (p := ⟨bA, oA + k1, none⟩) (lt_of_cell hpc)).trans hpc
         have HP := Lib.hid hps
         have hpA := hAl.out.2 p (List.mem_of_getElem? hp.out)
         have hpl := hpA.2
         have hpo := Lib.hid hpA.1
         have hK2 : Hid (K1 = (A.take k1).flatMap (sf t I X) ++ (X.take 0).flatMap (sg t I p)) := by unfold Hid; rw [hK1.out]; simp
         have hK2l : Hid (K1.length ≤ k1 * 200000000 + 0 * 10000) := Nat.le_trans hK1l.out (Nat.le_add_right _ _)
         have HO := Lib.hid hO
         have HBo := Lib.hid hB
         clear hps hpA hO hB hpc
         go_wp2_with fail
         go_loopw [97, 14] (fun i v wr => ∃ (k2 : Nat) (a' : Option Addr) (c' : Nat) (K : List (List Int)), k2 ≤ X.length ∧ i = .int .i64 k2 ∧ v = .slice a' K.length c' ∧ Hid (K = (A.take k1).flatMap (sf t I X) ++ (X.take k2).flatMap (sg t I p)) ∧ Hid (K.length ≤ k1 * 200000000 + k2 * 10000) ∧
          Ox w9.heap.size w9.heap.size wr 45 (.slice a' K.length c') K ∧ Below w9.heap.size w9 wr) (fun i _ _ => X.length - (intOf i).toNat)
         case atStart => exact ⟨0, a1, c1, K1, by omega, rfl, rfl, hK2, hK2l, HO.out, HBo.out⟩
         case round =>
          clear hK2 hK2l HO HBo hpcw
          obtain ⟨k2, a2, c2, K2, hk2, rfl, rfl, hK2, hK2l, hO, hB⟩ := hrel
          obtain ⟨wi, rfl⟩ : ∃ wi : World, wi = wr := ⟨_, rfl⟩
          by_cases hlt2 : k2 < X.length
          ·obtain ⟨bX, oX, ax, x, cx, rfl, hxc, hx, hxs⟩ := HXs8.out.at_row hlt2
           have hxcw := (hB.cell (p := ⟨bX, oX + k2, none⟩) (lt_of_cell hxc)).trans hxc
           have hxX := hXl.out.2 x (List.mem_of_getElem? hx.out)
           have hxl := hxX.2
           have hwe : Hid (wErr (p ++ x) t.inputs = 0) := sui_err okt.out hpo.out hpl (N := (extra + 1).toNat) (by have := HX.out; omega) (by rw [hti.out]; exact hxX)
           have hxl4 : x.length ≤ 4 := by have := HX.out; omega
           have hr := rows2 (T := 45) (HP.out.below hB) (hxs.below hB) (n := p.length) rfl (m := x.length) rfl
           have HJ := Lib.hid (join_any hr (by rw [flat2]; simp; omega))
           have hba := (Below.refl wi.heap.size wi).alloc (Nat.le_refl _) (.cells #[.slice ap p.length cp, .slice ax x.length cx] 45)
           have hO3 := Ox.later hO hba
           have hB3 := hB.trans (hba.mono hB.size)
           have hz3 := hB3.size
           clear hr hxs hO hB hba hxc hxX
           go_wp2_with fail
           generalize hgg : wi.alloc (.cells #[.slice ap p.length cp, .slice ax x.length cx] 45) = wa at *
           clear hgg
           refine (HJ.out).mono ?_
           rintro e wb ⟨aw, cw, W, rfl, hW, hWs, hbb⟩
           have hO4 := Ox.later hO3 hbb
           have hB4 := hB3.trans (hbb.mono hz3)
           have hz4 := hB4.size
           have hWe : Hid (W = p ++ x) := by unfold Hid; rw [hW.out, flat2]
           have hWs4 := Lib.hid (hWs.anti (M' := fun k => (Value.slice a2 K2.length c2).ownBlock = some k) (fun k _ hm => (hO3.lt k hm).2))
           have hSb := HS.out _ hB4
           have hcb := hSb.1
           have hwe2 : Hid (wErr W t.inputs = 0) := by rw [hWe.out]; exact hwe
           have HTl := Lib.hid (tails_any hSb.2.1 hSb.2.2.1 hWs4.out okt hwe2 hIl hIm)
           clear HJ hbb hWs hO3 hB3 hW hxcw hSb hwe hwe2
           go_wp2_with fail
           refine (HTl.out).mono ?_
           rintro e wc ⟨at1, ct1, TL, rfl, hTL, hTs, hbc⟩
           have hO5 := Ox.later hO4 hbc
           have hB5 := hB4.trans (hbc.mono hz4)
           have hWs5 := Lib.hid (hWs4.out.below hbc)
           have hTs5 := Lib.hid (hTs.anti (M' := fun k => (Value.slice a2 K2.length c2).ownBlock = some k) (fun k _ hm => (hO4.lt k hm).2))
           have hTl : Hid (TL.length < 10000 ∧ ∀ v ∈ TL, v.length ≤ 1000000) := by rw [hTL.out]; exact (tailW_in hIsm.out).2
           have hTl1 := hTl.out.1
           have hWl : Hid (W.length ≤ 1000 + 4) := by unfold Hid; rw [hWe.out, List.length_append]; omega
           have hgs : Hid (sg t I p x = TL.map fun v => W ++ v) := by unfold Hid sg; rw [hTL.out, hWe.out]
           have hK3 : Hid (K2 = (A.take k1).flatMap (sf t I X) ++ (X.take k2).flatMap (sg t I p) ++ ((TL.take 0).map fun v => W ++ v)) := by unfold Hid; rw [hK2.out]; simp
           have hK3l : Hid (K2.length ≤ k1 * 200000000 + k2 * 10000 + 0) := Nat.le_trans hK2l.out (Nat.le_add_right _ _)
           have HO := Lib.hid hO5
           have HBo := Lib.hid hB5
           clear HTl hbc hTs hO4 hB4 hWs4 hO5 hB5 hcb
           go_wp2_with fail
           go_loopw [117, 14] (fun i v wr => ∃ (k3 : Nat) (a' : Option Addr) (c' : Nat) (K : List (List Int)), k3 ≤ TL.length ∧ i = .int .i64 k3 ∧ v = .slice a' K.length c' ∧ Hid (K = (A.take k1).flatMap (sf t I X) ++ (X.take k2).flatMap (sg t I p) ++ ((TL.take k3).map fun v => W ++ v)) ∧ Hid (K.length ≤ k1 * 200000000 + k2 * 10000 + k3) ∧
            Ox w9.heap.size w9.heap.size wr 45 (.slice a' K.length c') K ∧ Below w9.heap.size w9 wr ∧ Sl (fun k => (Value.slice a' K.length c').ownBlock = some k) wr aw cw W ∧ Sl (fun k => (Value.slice a' K.length c').ownBlock = some k) wr at1 ct1 TL) (fun i _ _ => TL.length - (intOf i).toNat)
           case atStart => exact ⟨0, a2, c2, K2, by omega, rfl, rfl, hK3, hK3l, HO.out, HBo.out, hWs5.out, hTs5.out⟩
           case round =>
            clear hK3 hK3l HO HBo hWs5 hTs5 hK2 hK2l
            obtain ⟨k3, a3, c3, K3, hk3, rfl, rfl, hK3, hK3l, hO, hB, hWs, hTs⟩ := hrel
            obtain ⟨wd, rfl⟩ : ∃ wd : World, wd = wr := ⟨_, rfl⟩
            by_cases hlt3 : k3 < TL.length
            ·obtain ⟨bT, oT, av, v, cv, rfl, hvc, hv, hvs⟩ := hTs.at_row hlt3
             have hvl := hTl.out.2 v (List.mem_of_getElem? hv.out)
             have hWl1 := hWl.out
             have hr := rows2 (T := 45) hWs hvs (n := W.length) rfl (m := v.length) rfl
             have HJ := Lib.hid (join_any hr (by rw [flat2]; simp; omega))
             have hba := (Below.refl wd.heap.size wd).alloc (Nat.le_refl _) (.cells #[.slice aw W.length cw, .slice av v.length cv] 45)
             have hO3 := Ox.later hO hba
             have hB3 := hB.trans (hba.mono hB.size)
             have hz3 := hB3.size
             have hWs3 := hWs.below hba
             have hTs3 := hTs.below hba
             have hK12 : K3.length < 1000000000000 := by
              refine Nat.lt_of_le_of_lt hK3l.out ?_
              have e1 : k1 * 200000000 ≤ 1000 * 200000000 := Nat.mul_le_mul_right _ (by omega)
              have e2 : k2 * 10000 ≤ 10001 * 10000 := Nat.mul_le_mul_right _ (by omega)
              omega
             clear hr hvs hO hB hba hWs hTs
             go_wp2_with fail
             clear hvc
             generalize hgg : wd.alloc (.cells #[.slice aw W.length cw, .slice av v.length cv] 45) = we at *
             clear hgg
             refine (HJ.out).mono ?_
             rintro e wf ⟨a4, c4, x4, rfl, hx4, hs4, hb4⟩
             have hO4 := Ox.later hO3 hb4
             have hB4 := hB3.trans (hb4.mono hz3)
             have hz4 := hB4.size
             have hWs4 := hWs3.below hb4
             have hTs4 := hTs3.below hb4
             have hS4 := hs4.anti (M' := fun k => (Value.slice a3 K3.length c3).ownBlock = some k ∨ k < w9.heap.size) fun k _ hm => by
              rcases hm with hm | hm
              ·exact (hO3.lt k hm).2
              ·omega
             have hxe : Hid (x4 = W ++ v) := by unfold Hid; rw [hx4.out, flat2]
             have hWs5 := Lib.hid (hWs4.alloc (.cells #[.slice a4 x4.length c4] 45))
             have hTs5 := Lib.hid (hTs4.alloc (.cells #[.slice a4 x4.length c4] 45))
             clear HJ hb4 hs4 hO3 hB3 hx4 hWs3 hTs3 hWs4 hTs4
             go_wp2_with (at_builtin; refine wpList_push_x (n0 := w9.heap.size) (B := w9.heap.size) (r := x4) (ar := a4) (cr := c4) rfl rfl Tryz.underlying22 info_ints rfl rfl (hO4.alloc _) (by simp [go_sem]) (hS4.alloc _) hK12 (by simp; omega) ?_)
             intro a5 c5 K5 w5' hK5 hO5 hbk hgr
             have hB5 := (hB4.alloc hz4 (.cells #[.slice a4 x4.length c4] 45)).grown hgr (by simp; omega) (fun k hk => (hO4.lt k hk).1)
             have hex : Ext (fun k => (Value.slice a3 K3.length c3).ownBlock = some k) (fun k => (Value.slice a5 K5.length c5).ownBlock = some k) (wf.alloc (.cells #[.slice a4 x4.length c4] 45)) w5' :=
              ⟨hgr.size, fun k hk hm => hgr.block k hk (fun e => hm e.symm), fun k hk hm => by
               rcases hbk.out k hm with e | e
               ·exact e
               ·simp at hk e; omega⟩
             have hWs6 := hWs5.out.ext hex
             have hTs6 := hTs5.out.ext hex
             have hKn : Hid (K5 = (A.take k1).flatMap (sf t I X) ++ (X.take k2).flatMap (sg t I p) ++ ((TL.take (k3 + 1)).map fun v => W ++ v)) := by
              unfold Hid; rw [hK5.out, hK3.out, map_step hv.out, hxe.out, List.append_assoc]
             have hKnl : Hid (K5.length ≤ k1 * 200000000 + k2 * 10000 + (k3 + 1)) := by unfold Hid; rw [hK5.out, List.length_append, List.length_singleton, ← Nat.add_assoc (k1 * 200000000 + k2 * 10000) k3 1]; exact Nat.add_le_add_right hK3l.out 1
             clear hK5 hbk hgr hO4 hB4 hS4 hex hWs5 hTs5
             go_wp2
             go_roundw
             case rel => exact ⟨k3 + 1, a5, c5, K5, by omega, by go_num, rfl, hKn, hKnl, hO5, hB5, hWs6, hTs6⟩
             case measure => simp [intOf]; omega
            ·have hKn : Hid (K3 = (A.take k1).flatMap (sf t I X) ++ (X.take (k2 + 1)).flatMap (sg t I p)) := by
               unfold Hid; rw [hK3.out, fm_step hx.out, List.take_of_length_le (l := TL) (i := k3) (by omega), hgs.out, List.append_assoc]
             have h10 : k3 ≤ 10000 := by omega
             have hKnl : Hid (K3.length ≤ k1 * 200000000 + (k2 + 1) * 10000) := by
              refine Nat.le_trans hK3l.out ?_
              rw [Nat.succ_mul, ← Nat.add_assoc]
              exact Nat.add_le_add_left h10 _
             clear hWs hTs
             go_wp2
             go_roundw
             case rel => exact ⟨k2 + 1, a3, c3, K3, by omega, by go_num, rfl, hKn, hKnl, hO, hB⟩
             case measure => simp [intOf]; omega
          ·have hKn : Hid (K2 = (A.take (k1 + 1)).flatMap (sf t I X)) := by
             unfold Hid; rw [hK2.out, fm_step hp.out, List.take_of_length_le (l := X) (i := k2) (by omega)]; rfl
           have hKnl : Hid (K2.length ≤ (k1 + 1) * 200000000) := by unfold Hid; have := hK2l.out; omega
           go_wp2
           go_roundw
           case rel => exact ⟨k1 + 1, a2, c2, K2, by omega, by go_num, rfl, hKn, hKnl, hO, hB⟩
           case measure => simp [intOf]; omega
        ·have hKf : Hid (K1 = suOut t I A X) := by unfold Hid; rw [hK1.out, List.take_of_length_le (by omega)]; rfl
         have hsm : Hid (Small9 K1) := by
          refine ⟨?_, fun r hr => ?_⟩
          ·have h := suOut_len (t := t) (A := A) (X := X) hIsm.out
           rw [hKf.out]
           rw [← hP3.out] at h
           omega
          ·rw [hKf.out] at hr
           have h := suOut_mem hIsm.out hr (fun p hp => (hAl.out.2 p hp).2) (fun x hx => (hXl.out.2 x hx).2)
           have := HX.out
           omega
         have hKs := (hO.toSl (Nat.le_refl _))
         have HMx := Lib.hid (max_any hKs hsm)
         have hBf := (HS.out _ hB).2.2.2.2.2
         clear hO hB hKs
         go_wp2_with fail
         refine (HMx.out).mono ?_
         rintro e wf ⟨aM, cM, LM, rfl, hLM, hLMs, hbf⟩
         have hBf2 := hBf.trans (hbf.mono hBf.size)
         have hR : Hid (m.suW extra = (LM, 0)) := by unfold Hid; rw [hR1.out, hLM.out, hKf.out]
         have hLMw := hLMs.anti (M' := fun k => k < w.heap.size) (fun k _ e => by have := hBf.size; omega)
         go_wp2
         exact bodyPost_ret (v := .tuple #[.slice aM LM.length cM, .int .i64 0]) (by simp [results, Tryz.results15, go_sem]) rfl ⟨aM, cM, LM, 0, rfl, hR, hLMw, hBf2⟩
     ·have he4b : (e4 != 0) = true := by simp [he4]
      have hR : Hid (m.suW extra = ([], e4)) := by
       unfold Hid Mach.suW; rw [if_neg (by simp [HE.out]), if_neg HX.out, hX.out, if_neg (by simp [HE2.out]), ← ht.out, hL.out, if_neg (by simp [HE3.out]), hI.out, if_pos he4]
      clear he4
      go_wp2
      exact bodyPost_ret (v := .tuple #[.slice none 0 0, .int .i64 e4]) (by simp [results, Tryz.results15, go_sem]) rfl ⟨none, 0, [], e4, rfl, hR, Sl.nil _ _ _ (by unfold maxLen; omega), hB7⟩
    ·have he3b : (e3 != 0) = true := by simp [he3]
     have hR : Hid (m.suW extra = ([], e3)) := by
      unfold Hid Mach.suW; rw [if_neg (by simp [HE.out]), if_neg HX.out, hX.out, if_neg (by simp [HE2.out]), ← ht.out, hL.out, if_pos he3]
     clear he3
     go_wp2
     exact bodyPost_ret (v := .tuple #[.slice none 0 0, .int .i64 e3]) (by simp [results, Tryz.results15, go_sem]) rfl ⟨none, 0, [], e3, rfl, hR, Sl.nil _ _ _ (by unfold maxLen; omega), (hB5.alloc (by omega) _)⟩
   ·have he2b : (e2 != 0) = true := by simp [he2]
    have hR : Hid (m.suW extra = ([], e2)) := by unfold Hid Mach.suW; rw [if_neg (by simp [HE.out]), if_neg HX.out, hX.out, if_pos he2]
    clear he2
    go_wp2
    exact bodyPost_ret (v := .tuple #[.slice none 0 0, .int .i64 e2]) (by simp [results, Tryz.results15, go_sem]) rfl ⟨none, 0, [], e2, rfl, hR, Sl.nil _ _ _ (by unfold maxLen; omega), hB2⟩
 ·have he' : (m.err != 0) = true := by simp [he]
  have hR : Hid (m.suW extra = ([], m.err)) := by unfold Hid Mach.suW; rw [if_pos he]
  clear he
  go_wp2
  exact bodyPost_ret (v := .tuple #[.slice none 0 0, .int .i64 m.err]) (by simp [results, Tryz.results15, go_sem]) rfl ⟨none, 0, [], m.err, rfl, hR, Sl.nil _ _ _ (by unfold maxLen; omega), hB1⟩
end
end Go.Proofs.YtknhegdepbmmlaaGreat
/- The statement's own example holds. No condition. -/
namespace Go.Proofs.YtknhegdepbmmlaaGreat
open Go.RowKit
section
variable {M MT : Nat → Prop} {w : World} {p q a : Option Addr} {c d cT : Nat} {L : List Nd}
theorem ex31_n : Hid (ex8T.next.length < 1000) := by unfold Hid; decide
theorem ex31_b (hm : Ma M w p c q d ex8T) : Calls Tryz.prog 21 #[.agg #[.int .i64 1, .int .i64 0, .slice p 3 c, .slice q 3 d]] w fun e w' => ∃ (a : Option Addr) (c : Nat) (L : List Nd), e = .returned (.tuple #[.agg #[.slice a L.length c], .bool true, .int .i64 0]) ∧ Hid (L = ex31T) ∧ Sl (fun k => k < w.heap.size) w' a c L ∧ Below w.heap.size w w' :=
 (gbuild_any hm ex31_n).mono fun e w' ⟨a, c, L, y, e1, h1, h2, h3, h4⟩ => by
  have h := h2.out
  rw [ex31_ads] at h
  simp only [Prod.mk.injEq] at h
  obtain ⟨h5, h6, h7⟩ := h
  exact ⟨a, c, L, by rw [h1, ← h6, ← h7], h5.symm, h3, h4⟩
theorem ex31_i {R : List (List (List Int))} {er : Int} (hm : Ma M w p c q d ex8T) (hT : Sl MT w a cT L) (hl : Hid (L.length < 1000000000)) (hr : ex8T.idE L = (R, er)) : Calls Tryz.prog 12 #[.agg #[.int .i64 1, .int .i64 0, .slice p 3 c, .slice q 3 d], .agg #[.slice a L.length cT]] w fun e w' => ∃ (a : Option Addr) (c : Nat) (K : List (List (List Int))), e = .returned (.tuple #[.slice a K.length c, .int .i64 er]) ∧ Hid (K = R) ∧ Sl (fun k => k < w.heap.size) w' a c K ∧ Below w.heap.size w w' :=
 (identify_any hm hT ex31_n hl).mono fun e w' ⟨a, c, K, e1, h1, h2, _, h3, h4⟩ => by
  have h := h2.out
  rw [hr] at h
  simp only [Prod.mk.injEq] at h
  exact ⟨a, c, K, by rw [h1, ← h.2], h.1.symm, h3, h4⟩
theorem ex31_s (hm : Ma M w p c q d ex8T) : Calls Tryz.prog 15 #[.agg #[.int .i64 1, .int .i64 0, .slice p 3 c, .slice q 3 d], .int .i64 0] w fun e w' => ∃ (a : Option Addr) (c : Nat) (K : List (List Int)), e = .returned (.tuple #[.slice a K.length c, .int .i64 0]) ∧ Hid (K = [[0, 0, 0, 0, 0]]) ∧ Sl (fun k => k < w.heap.size) w' a c K ∧ Below w.heap.size w w' :=
 (suite_any hm 0).mono fun e w' ⟨a, c, K, e1, h1, h2, h3, h4⟩ => by
  have h := h2.out
  rw [ex31_su] at h
  simp only [Prod.mk.injEq] at h
  exact ⟨a, c, K, by rw [h1, ← h.2], h.1.symm, h3, h4⟩
end
abbrev ex31B (w : World) : World := (ex8T3 w).alloc (.cells #[.int .i64 1, .int .i64 0, .slice (some ⟨w.heap.size + 1 + 1 + 1, 0, none⟩) 3 3, .slice (some ⟨w.heap.size + 1 + 1 + 1 + 1 + 1 + 1 + 1, 0, none⟩) 3 3] 24)
theorem ex31_base (w : World) : Ma (fun k => k < w.heap.size) (ex31B w) (some ⟨w.heap.size + 1 + 1 + 1, 0, none⟩) 3 (some ⟨w.heap.size + 1 + 1 + 1 + 1 + 1 + 1 + 1, 0, none⟩) 3 ex8T ∧ Below w.heap.size w (ex31B w) ∧ (ex31B w).heap.size = w.heap.size + 1 + 1 + 1 + 1 + 1 + 1 + 1 + 1 + 1 ∧
    C4 (ex31B w) (w.heap.size + 1 + 1 + 1 + 1 + 1 + 1 + 1 + 1) (some ⟨w.heap.size + 1 + 1 + 1, 0, none⟩) 3 (some ⟨w.heap.size + 1 + 1 + 1 + 1 + 1 + 1 + 1, 0, none⟩) 3 ex8T := by
 obtain ⟨h1, h2⟩ := ex8_want w
 have hs : (ex8T3 w).heap.size = w.heap.size + 1 + 1 + 1 + 1 + 1 + 1 + 1 + 1 := by simp [ex8T3]
 refine ⟨h1.below ((Below.refl _ _).alloc (Nat.le_refl _) _), h2.alloc (by omega) _, by simp [hs], ?_⟩
 have h := c4_new (an := some ⟨w.heap.size + 1 + 1 + 1, 0, none⟩) (cn := 3) (ao := some ⟨w.heap.size + 1 + 1 + 1 + 1 + 1 + 1 + 1, 0, none⟩) (co := 3) (m := ex8T) (ex8T3 w)
 rw [hs] at h
 exact h
theorem ex31_any {w : World} : Calls Tryz.prog 11 #[] w fun e w' => e = .returned (.bool true) ∧ Below w.heap.size w w' := by
 obtain ⟨hma, hbe, hsz, hbk⟩ := ex31_base w
 go_enter Tryz.func11, Tryz.ntmps11
 go_wp2_with fail
 obtain ⟨W, hW⟩ : ∃ W, W = ex31B w := ⟨_, rfl⟩
 unfold ex31B ex8T3 at hW
 rw [← hW]
 rw [show ex31B w = W from hW.symm] at hma hbe hsz hbk
 clear hW
 have hbw : w.heap.size ≤ W.heap.size := by omega
 have hbb : w.heap.size + 1 + 1 + 1 + 1 + 1 + 1 + 1 + 1 < W.heap.size := by omega
 generalize hp : (some (⟨w.heap.size + 1 + 1 + 1, 0, none⟩ : Addr)) = p at *
 generalize hq : (some (⟨w.heap.size + 1 + 1 + 1 + 1 + 1 + 1 + 1, 0, none⟩ : Addr)) = q at *
 clear hp hq
 generalize w.heap.size + 1 + 1 + 1 + 1 + 1 + 1 + 1 + 1 = b at *
 clear hsz
 have HS : Hid (∀ w', Below W.heap.size W w' → Ma (fun k => k < w.heap.size) w' p 3 q 3 ex8T ∧ C4 w' b p 3 q 3 ex8T ∧ Below w.heap.size w w') := fun w' h => ⟨hma.below h, hbk.below h hbb, hbe.trans (h.mono hbw)⟩
 have HB := Lib.hid (ex31_b hma)
 clear hma hbe hbk
 refine (HB.out).mono ?_
 rintro e w1 ⟨aL, cL, L, rfl, hL, hLs, hb1⟩
 clear HB
 have hS1 := HS.out _ hb1
 obtain ⟨j0, j1, j2, j3⟩ := hS1.2.1
 go_upto_region 3 with (fail)
 have hba := (Below.refl w1.heap.size w1).alloc (Nat.le_refl _) (.cells #[.slice aL L.length cL] 27)
 have hB2 := hb1.trans (hba.mono hb1.size)
 have ht2 : (w1.alloc (.cells #[.slice aL L.length cL] 27)).cell? ⟨w1.heap.size, 0, none⟩ = some (.slice aL L.length cL) := by simp
 have hL2 := Lib.hid (hLs.below hba)
 have hz2 : w1.heap.size < (w1.alloc (.cells #[.slice aL L.length cL] 27)).heap.size := by simp
 clear hS1 j0 j1 j2 j3 hLs hb1 hba
 generalize w1.alloc (.cells #[.slice aL L.length cL] 27) = w2 at *
 have hS2 := HS.out _ hB2
 obtain ⟨j0, j1, j2, j3⟩ := hS2.2.1
 have HI := Lib.hid (ex31_i (R := [[[0, 0]], [[0, 0]], [[0]]]) (er := 0) hS2.1 hL2.out (Lib.hid (by simp [hL.out, ex31T])) (by rw [hL.out]; exact ex31_id))
 go_wp2_with fail
 refine (HI.out).mono ?_
 rintro e w3 ⟨a3, c3, K3, rfl, hK3, hs3, hb3⟩
 have hB3 := hB2.trans (hb3.mono hB2.size)
 have hS3 := HS.out _ hB3
 have hs3 := Lib.hid hs3
 clear hS2 j0 j1 j2 j3 ht2 hL2 hb3 hB2 HI
 obtain ⟨j0, j1, j2, j3⟩ := hS3.2.1
 have hn0 : Sl (fun k => k < w3.heap.size) (w3.alloc (.cells #[.int .i64 0, .int .i64 1, .int .i64 2] 3)) (some ⟨w3.heap.size, 0, none⟩) 3 ([0, 1, 2] : List Int) := Sl.lit (T := 3) (vs := #[.int .i64 0, .int .i64 1, .int .i64 2]) (heap_alloc_new _ _) rfl (by omega) (fun y hy => i64_sm (by simp at hy; omega)) rfl (by unfold maxLen; omega)
 have hb4a := ((Below.refl w3.heap.size w3).alloc (Nat.le_refl _) (.cells #[.int .i64 0, .int .i64 1, .int .i64 2] 3))
 have hb4 := hb4a.alloc (by simp) (.cells #[.slice (some ⟨w3.heap.size, 0, none⟩) 3 3, .int .i64 (-1), .slice none 0 0] 51)
 have hz4a : (w3.alloc (.cells #[.int .i64 0, .int .i64 1, .int .i64 2] 3)).heap.size = w3.heap.size + 1 := by simp
 have hn1 : Sl (fun k => k < w3.heap.size) ((w3.alloc (.cells #[.int .i64 0, .int .i64 1, .int .i64 2] 3)).alloc (.cells #[.slice (some ⟨w3.heap.size, 0, none⟩) 3 3, .int .i64 (-1), .slice none 0 0] 51)) (some ⟨w3.heap.size + 1, 0, none⟩) 1 [(⟨[0, 1, 2], -1, []⟩ : Nd)] := by
  rw [← hz4a]
  exact Sl.node1 (T := 51) (st := [0, 1, 2]) (heap_alloc_new _ _) (by omega) (hn0.below ((Below.refl _ _).alloc (Nat.le_refl _) _)) (i64_sm (by omega))
 have hB4 := hB3.trans (hb4.mono hB3.size)
 have hS4 := HS.out _ hB4
 have HN1 := Lib.hid hn1
 clear hn0 hb4a hn1 hS3 hz4a
 have HI := Lib.hid (ex31_i hS4.1 HN1.out (Lib.hid (by decide)) ex31_one)
 go_wp2_with fail
 generalize (w3.alloc (.cells #[.int .i64 0, .int .i64 1, .int .i64 2] 3)).alloc (.cells #[.slice (some ⟨w3.heap.size, 0, none⟩) 3 3, .int .i64 (-1), .slice none 0 0] 51) = w4 at *
 have hs34 := Lib.hid (hs3.out.below hb4)
 refine (HI.out).mono ?_
 rintro e w5 ⟨a5, c5, K5, rfl, hK5, hs5, hb5⟩
 have hB5 := hB4.trans (hb5.mono hB4.size)
 have hS5 := HS.out _ hB5
 have hs35 := Lib.hid (hs34.out.below hb5)
 have hs55 := Lib.hid hs5
 clear hS4 j0 j1 j2 j3 HN1 hb4 hb5 hs5 hB4 HI hs34 hs3 hB3
 obtain ⟨j0, j1, j2, j3⟩ := hS5.2.1
 have HSu := Lib.hid (ex31_s hS5.1)
 go_wp2_with fail
 refine (HSu.out).mono ?_
 rintro e w6 ⟨a6, c6, K6, rfl, hK6, hs6, hb6⟩
 have hB6 := hB5.trans (hb6.mono hB5.size)
 have hS6 := HS.out _ hB6
 have hs36 := Lib.hid (hs35.out.below hb6)
 have hs56 := Lib.hid (hs55.out.below hb6)
 have hs66 := Lib.hid hs6
 clear hS5 j0 j1 j2 j3 hb6 hs6 hB5 HSu hs35 hs55
 obtain ⟨j0, j1, j2, j3⟩ := hS6.2.1
 have HI := Lib.hid (ex31_i (L := []) (a := none) (cT := 0) hS6.1 (Sl.nil (fun _ => False) _ _ (by unfold maxLen; omega)) (Lib.hid (by decide)) ex31_none)
 go_wp2_with fail
 refine (HI.out).mono ?_
 rintro e w7 ⟨a7, c7, K7, rfl, hK7, hs7, hb7⟩
 have hB7 := hB6.trans (hb7.mono hB6.size)
 have hs37 := hs36.out.below hb7
 have hs57 := hs56.out.below hb7
 have hs67 := hs66.out.below hb7
 clear hS6 j0 j1 j2 j3 hb7 hs7 hB6 HI hs36 hs56 hs66 hK7
 obtain ⟨hA, hbA⟩ := gA_sl w7
 have hBA := hB7.trans (hbA.mono hB7.size)
 have HSA0 := sets31 ((hs37.below hbA).anti (M' := fun _ => False) fun _ _ h => h.elim) (hA.anti (M' := fun _ => False) fun _ _ h => h.elim)
 rw [decide_eq_true hK3.out] at HSA0
 have HSA := Lib.hid HSA0
 have h57A := Lib.hid (hs57.below hbA)
 have h67A := Lib.hid (hs67.below hbA)
 clear HSA0 hA hbA hs37 hs57 hs67 hB7
 go_wp2_with fail
 obtain ⟨wA, hwA⟩ : ∃ wA, wA = gA w7 := ⟨_, rfl⟩
 unfold gA at hwA
 rw [← hwA]
 rw [show gA w7 = wA from hwA.symm] at HSA h57A h67A hBA
 clear hwA
 refine (HSA.out).mono ?_
 rintro e w8 ⟨rfl, nA, rfl⟩
 have hdA := below_drewN wA.heap.size wA nA
 have hB8 := hBA.trans (hdA.mono hBA.size)
 have h58 := h57A.out.below hdA
 have h68 := h67A.out.below hdA
 clear h57A h67A hBA hdA HSA
 generalize wA.drewN nA = w8 at *
 obtain ⟨hC, hbC⟩ := gB_sl w8
 have hBC := hB8.trans (hbC.mono hB8.size)
 have HSB0 := sets31 ((h58.below hbC).anti (M' := fun _ => False) fun _ _ h => h.elim) (hC.anti (M' := fun _ => False) fun _ _ h => h.elim)
 rw [decide_eq_true hK5.out] at HSB0
 have HSB := Lib.hid HSB0
 have h6B := Lib.hid (h68.below hbC)
 clear HSB0 hC hbC h58 h68 hB8
 go_wp2_with fail
 obtain ⟨wB, hwB⟩ : ∃ wB, wB = gB w8 := ⟨_, rfl⟩
 unfold gB at hwB
 rw [← hwB]
 rw [show gB w8 = wB from hwB.symm] at HSB h6B hBC
 clear hwB
 refine (HSB.out).mono ?_
 rintro e w9 ⟨rfl, nB, rfl⟩
 have hdB := below_drewN wB.heap.size wB nB
 have hB9 := hBC.trans (hdB.mono hBC.size)
 have h69 := h6B.out.below hdB
 clear h6B hBC hdB HSB
 generalize wB.drewN nB = w9 at *
 obtain ⟨hD, hbD⟩ := gC_sl w9
 have hBD := hB9.trans (hbD.mono hB9.size)
 have HSC0 := same10 ((h69.below hbD).anti (M' := fun _ => False) fun _ _ h => h.elim) (hD.anti (M' := fun _ => False) fun _ _ h => h.elim)
 rw [decide_eq_true hK6.out] at HSC0
 have HSC := Lib.hid HSC0
 have h6C := Lib.hid (h69.below hbD)
 clear HSC0 hD hbD h69 hB9
 go_wp2_with fail
 obtain ⟨wC, hwC⟩ : ∃ wC, wC = gC w9 := ⟨_, rfl⟩
 unfold gC at hwC
 rw [← hwC]
 rw [show gC w9 = wC from hwC.symm] at HSC h6C hBD
 clear hwC
 refine (HSC.out).mono ?_
 rintro e w10 ⟨rfl, nC, rfl⟩
 have hdC := below_drewN wC.heap.size wC nC
 have hB10 := hBD.trans (hdC.mono hBD.size)
 have h610 := h6C.out.below hdC
 clear h6C hBD hdC HSC
 generalize wC.drewN nC = w10 at *
 obtain ⟨⟨hE, hF⟩, hbE⟩ := gD_sl w10
 have hBE := hB10.trans (hbE.mono hB10.size)
 have HSh0 := shorter_any hE hF (Lib.hid ⟨by simp, fun r hr => by simp at hr; rcases hr with rfl | rfl <;> simp⟩) (Lib.hid ⟨by simp, fun r hr => by simp at hr; rcases hr with rfl | rfl <;> simp⟩)
 rw [show decide (sizeW [[0, 1], [0]] < sizeW [[0], [1, 1, 0]]) = true by decide] at HSh0
 have HSh := Lib.hid HSh0
 have h6D := Lib.hid (h610.below hbE)
 clear HSh0 hE hF hbE h610 hB10
 go_wp2_with fail
 obtain ⟨wD, hwD⟩ : ∃ wD, wD = gD w10 := ⟨_, rfl⟩
 unfold gD at hwD
 rw [← hwD]
 rw [show gD w10 = wD from hwD.symm] at HSh h6D hBE
 clear hwD
 refine (HSh.out).mono ?_
 rintro e w11 ⟨rfl, hb11⟩
 have hB11 := hBE.trans (hb11.mono hBE.size)
 have h611 := h6D.out.below hb11
 have hsmK : Hid (Small9 K6) := by rw [hK6.out]; exact ⟨by simp, fun r hr => by simp at hr; rw [hr]; simp⟩
 have HSs0 := shorter_any h611 h611 hsmK hsmK
 rw [show decide (sizeW K6 < sizeW K6) = false by simp] at HSs0
 have HSs := Lib.hid HSs0
 clear HSs0 h611 h6D hb11 hBE HSh
 go_wp2_with fail
 refine (HSs.out).mono ?_
 rintro e w12 ⟨rfl, hb12⟩
 have hB12 := hB11.trans (hb12.mono hB11.size)
 have hBf := hbw
 have hF := (HS.out _ hB12).2.2
 go_wp2
 go_ret
 exact ⟨rfl, hF⟩
end Go.Proofs.YtknhegdepbmmlaaGreat
