/- The laws of chapter 8: partitions, classes. No condition. -/
import Derived.Test.YtdnmgiabgpilkaaHolds8
import Derived.Test.YtdnmgiabgpilkaaPart8
import Derived.Test.YtdnmgiabgpilkaaGreat
namespace Go.Proofs.Ytdnmgiabgpilkaa
open Go.RowKit
theorem Mach.partOf_all (m : Mach) : m.partOf 128 = m.partOf m.next.length := by
  unfold Mach.partOf
  by_cases h : m.err = 0
  · have := (m.ok_of_err h).n1
    rw [if_pos h, if_pos h, show min (128 : Int).toNat m.next.length = m.next.length from by omega, show min ((m.next.length : Nat) : Int).toNat m.next.length = m.next.length from by omega]
  · rw [if_neg h, if_neg h]
section
variable {M : Nat → Prop} {w : World} {an ao : Option Addr} {cn co : Nat} {m : Mach}

set_option maxRecDepth 100000 in
set_option maxHeartbeats 4000000 in
theorem partitions_any (hm : Ma M w an cn ao co m) (k : Int) (hk : i64 k) :
    Calls Try.prog 3 #[maV m an cn ao co, .int .i64 k] w fun e w' => e = .returned (.bool true) ∧ Below w.heap.size w w' := by
  have HM := Lib.hid (hm.ext (Ext.alloc M w (.cells #[.int .i64 m.inputs, .int .i64 m.start, .slice an m.next.length cn, .slice ao m.out.length co] 24)))
  have HG := Lib.hid (great_any HM.out)
  have HK := Lib.hid hk
  clear hm hk
  cases hg : m.great with
  | true =>
    go_enter Try.func3, Try.ntmps3
    go_wp2_with fail
    refine (HG.out).mono ?_
    rintro e w1 ⟨rfl, hb1⟩
    rw [hg]
    have hz1 : w.heap.size + 1 ≤ w1.heap.size := by have := hb1.size; simpa using this
    have hB1 : Below (w.heap.size + 1) (w.alloc (.cells #[.int .i64 m.inputs, .int .i64 m.start, .slice an m.next.length cn, .slice ao m.out.length co] 24)) w1 := hb1.mono (by simp)
    clear hb1 HG
    go_wp2_with fail
    refine (ex8_any).mono ?_
    rintro e w2 ⟨rfl, hb2⟩
    have hBf : Below w.heap.size w w2 := ((Below.refl _ _).alloc (Nat.le_refl _) _).trans ((hB1.trans (hb2.mono hz1)).mono (by omega))
    go_wp2
    go_ret
    exact ⟨rfl, hBf⟩
  | false =>
    go_enter Try.func3, Try.ntmps3
    go_wp2_with fail
    refine (HG.out).mono ?_
    rintro e w1 ⟨rfl, hb1⟩
    rw [hg]
    have hz1 : w.heap.size + 1 ≤ w1.heap.size := by have := hb1.size; simpa using this
    have hB1 : Below (w.heap.size + 1) (w.alloc (.cells #[.int .i64 m.inputs, .int .i64 m.start, .slice an m.next.length cn, .slice ao m.out.length co] 24)) w1 := hb1.mono (by simp)
    have hx1 : ∀ o, w1.cell? ⟨w.heap.size, o, none⟩ = _ := fun o => hB1.cell (by simp)
    clear hb1 HG
    have HP := Lib.hid (part_any (HM.out.below (by simpa using hB1)) k)
    go_wp2_with fail
    refine (HP.out).mono ?_
    rintro e w2 ⟨a2, c2, l2, rfl, hl2, hs2, hb2⟩
    have hB2 := hB1.trans (hb2.mono hz1)
    have hz2 : w.heap.size + 1 ≤ w2.heap.size := Nat.le_trans hz1 hb2.size
    have hx2 : ∀ o, w2.cell? ⟨w.heap.size, o, none⟩ = _ := fun o => hB2.cell (by simp)
    clear hx1 hb2 HP
    have HR := Lib.hid (partR_any (HM.out.below (by simpa using hB2)) k HK.out)
    go_wp2_with fail
    refine (HR.out).mono ?_
    rintro e w3 ⟨a3, c3, l3, rfl, hl3, hs3, hb3⟩
    have hB3 := hB2.trans (hb3.mono hz2)
    have hz3 : w.heap.size + 1 ≤ w3.heap.size := Nat.le_trans hz2 hb3.size
    replace hs2 := hs2.below hb3
    clear hx2 hb3 HR
    have HE := Lib.hid (ex8_equal (hs2.ext (Ext.sub_only (M' := fun _ => False) fun _ _ h => h.elim)) (hs3.ext (Ext.sub_only (M' := fun _ => False) fun _ _ h => h.elim)) (hl2.out.trans hl3.out.symm))
    go_wp2_with fail
    refine (HE.out).mono ?_
    rintro e w4 ⟨rfl, n4, rfl⟩
    have hB4 : Below (w.heap.size + 1) _ (w3.drewN n4) := hB3.trans (below_drewN _ _ _)
    clear HE hs2 hs3
    go_wp2_with fail
    refine (ex8_any).mono ?_
    rintro e w5 ⟨rfl, hb5⟩
    have hBf : Below w.heap.size w w5 := ((Below.refl _ _).alloc (Nat.le_refl _) _).trans ((hB4.trans (hb5.mono (by simpa using hz3))).mono (by omega))
    go_wp2
    go_ret
    exact ⟨rfl, hBf⟩

set_option maxRecDepth 100000 in
set_option maxHeartbeats 4000000 in
theorem lclasses_any (hm : Ma M w an cn ao co m) :
    Calls Try.prog 4 #[maV m an cn ao co] w fun e w' => e = .returned (.bool true) ∧ Below w.heap.size w w' := by
  have HM := Lib.hid (hm.ext (Ext.alloc M w (.cells #[.int .i64 m.inputs, .int .i64 m.start, .slice an m.next.length cn, .slice ao m.out.length co] 24)))
  have HG := Lib.hid (great_any HM.out)
  clear hm
  cases hg : m.great with
  | true =>
    go_enter Try.func4, Try.ntmps4
    go_wp2_with fail
    refine (HG.out).mono ?_
    rintro e w1 ⟨rfl, hb1⟩
    rw [hg]
    have hz1 : w.heap.size + 1 ≤ w1.heap.size := by have := hb1.size; simpa using this
    have hB1 : Below (w.heap.size + 1) (w.alloc (.cells #[.int .i64 m.inputs, .int .i64 m.start, .slice an m.next.length cn, .slice ao m.out.length co] 24)) w1 := hb1.mono (by simp)
    clear hb1 HG
    go_wp2_with fail
    refine (ex8_any).mono ?_
    rintro e w2 ⟨rfl, hb2⟩
    have hBf : Below w.heap.size w w2 := ((Below.refl _ _).alloc (Nat.le_refl _) _).trans ((hB1.trans (hb2.mono hz1)).mono (by omega))
    go_wp2
    go_ret
    exact ⟨rfl, hBf⟩
  | false =>
    go_enter Try.func4, Try.ntmps4
    go_wp2_with fail
    refine (HG.out).mono ?_
    rintro e w1 ⟨rfl, hb1⟩
    rw [hg]
    have hz1 : w.heap.size + 1 ≤ w1.heap.size := by have := hb1.size; simpa using this
    have hB1 : Below (w.heap.size + 1) (w.alloc (.cells #[.int .i64 m.inputs, .int .i64 m.start, .slice an m.next.length cn, .slice ao m.out.length co] 24)) w1 := hb1.mono (by simp)
    have hx1 : ∀ o, w1.cell? ⟨w.heap.size, o, none⟩ = _ := fun o => hB1.cell (by simp)
    clear hb1 HG
    have HP := Lib.hid (classes_any (HM.out.below (by simpa using hB1)))
    go_wp2_with fail
    refine (HP.out).mono ?_
    rintro e w2 ⟨a2, c2, l2, rfl, hl2, hs2, hb2⟩
    have hB2 := hB1.trans (hb2.mono hz1)
    have hz2 : w.heap.size + 1 ≤ w2.heap.size := Nat.le_trans hz1 hb2.size
    have hx2 : ∀ o, w2.cell? ⟨w.heap.size, o, none⟩ = _ := fun o => hB2.cell (by simp)
    clear hx1 hb2 HP
    have HR := Lib.hid (classesR_any (HM.out.below (by simpa using hB2)))
    go_wp2_with fail
    refine (HR.out).mono ?_
    rintro e w3 ⟨a3, c3, l3, rfl, hl3, hs3, hb3⟩
    have hB3 := hB2.trans (hb3.mono hz2)
    have hz3 : w.heap.size + 1 ≤ w3.heap.size := Nat.le_trans hz2 hb3.size
    have hx3 : ∀ o, w3.cell? ⟨w.heap.size, o, none⟩ = _ := fun o => hB3.cell (by simp)
    replace hs2 := hs2.below hb3
    clear hx2 hb3 HR
    have HD := Lib.hid (depth_any (HM.out.below (by simpa using hB3)))
    go_wp2_with fail
    refine (HD.out).mono ?_
    rintro e w4 ⟨d4, rfl, hd4, hb4⟩
    have hB4 := hB3.trans (hb4.mono hz3)
    have hz4 : w.heap.size + 1 ≤ w4.heap.size := Nat.le_trans hz3 hb4.size
    have hx4 : ∀ o, w4.cell? ⟨w.heap.size, o, none⟩ = _ := fun o => hB4.cell (by simp)
    replace hs2 := hs2.below hb4
    replace hs3 := hs3.below hb4
    clear hx3 hb4 HD
    have HD := Lib.hid (depthR_any (HM.out.below (by simpa using hB4)))
    go_wp2_with fail
    refine (HD.out).mono ?_
    rintro e w5 ⟨d5, rfl, hd5, hb5⟩
    obtain rfl : d4 = d5 := hd4.out.unique hd5.out
    have hB5 := hB4.trans (hb5.mono hz4)
    have hz5 : w.heap.size + 1 ≤ w5.heap.size := Nat.le_trans hz4 hb5.size
    replace hs2 := hs2.below hb5
    replace hs3 := hs3.below hb5
    clear hx4 hb5 HD
    have HE := Lib.hid (ex8_equal (hs2.ext (Ext.sub_only (M' := fun _ => False) fun _ _ h => h.elim)) (hs3.ext (Ext.sub_only (M' := fun _ => False) fun _ _ h => h.elim)) (hl2.out.trans (m.partOf_all.trans hl3.out.symm)))
    go_wp2_with fail
    refine (HE.out).mono ?_
    rintro e w6 ⟨rfl, n6, rfl⟩
    have hB6 : Below (w.heap.size + 1) _ (w5.drewN n6) := hB5.trans (below_drewN _ _ _)
    clear HE hs2 hs3
    go_wp2_with fail
    refine (ex8_any).mono ?_
    rintro e w7 ⟨rfl, hb7⟩
    have hBf : Below w.heap.size w w7 := ((Below.refl _ _).alloc (Nat.le_refl _) _).trans ((hB6.trans (hb7.mono (by simpa using hz5))).mono (by omega))
    go_wp2
    go_ret
    exact ⟨rfl, hBf⟩
end
end Go.Proofs.Ytdnmgiabgpilkaa
