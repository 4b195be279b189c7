/- Laws of chapter 9: Distinguish, Equal, Iso, Upto, States. No condition. -/
import Derived.Test.YtdnmgiabgpilkaaHolds9
import Derived.Test.YtdnmgiabgpilkaaGreat
namespace Go.Proofs.Ytdnmgiabgpilkaa
open Go.RowKit
theorem ansW_unique {o : Option (List Int)} {l l' : List Int} {f f' : Bool} (h : ansW o l f) (h' : ansW o l' f') : l = l' ∧ f = f' := ⟨h.1.trans h'.1.symm, h.2.trans h'.2.symm⟩

section
variable {M : Nat → Prop} {w : World} {an ao bn bo : Option Addr} {acn aco bcn bco : Nat} {a b : Mach}
set_option maxRecDepth 100000 in
set_option maxHeartbeats 8000000 in
theorem ldist_any (ha : Ma M w an acn ao aco a) (hb : Ma M w bn bcn bo bco b) :
    Calls Try.prog 7 #[maV a an acn ao aco, maV b bn bcn bo bco] w fun e w' => e = .returned (.bool true) ∧ Below w.heap.size w w' := by
  have HA := Lib.hid (ha.ext ((Ext.alloc M w (maO a an acn ao aco)).trans (Ext.alloc M _ (maO b bn bcn bo bco))))
  have HB := Lib.hid (hb.ext ((Ext.alloc M w (maO a an acn ao aco)).trans (Ext.alloc M _ (maO b bn bcn bo bco))))
  have h0 : Below w.heap.size w ((w.alloc (maO a an acn ao aco)).alloc (maO b bn bcn bo bco)) := ((Below.refl _ _).alloc (Nat.le_refl _) _).alloc (by simp) _
  have hCa : C4 ((w.alloc (maO a an acn ao aco)).alloc (maO b bn bcn bo bco)) w.heap.size an acn ao aco a := (c4_new w).below (B := w.heap.size + 1) ((Below.refl _ _).alloc (by simp) _) (by omega)
  have hCb : C4 ((w.alloc (maO a an acn ao aco)).alloc (maO b bn bcn bo bco)) (w.heap.size + 1) bn bcn bo bco b := by simpa using c4_new (m := b) (an := bn) (cn := bcn) (ao := bo) (co := bco) (w.alloc (maO a an acn ao aco))
  have HG := Lib.hid (great_any HA.out)
  have hW0 : ((w.alloc (maO a an acn ao aco)).alloc (maO b bn bcn bo bco)).heap.size = w.heap.size + 2 := by simp
  have HW0 := Lib.hid hW0
  clear ha hb hW0
  cases hga : a.great with
  | true =>
    go_enter Try.func7, Try.ntmps7
    go_wp2_with fail
    refine (HG.out).mono ?_
    rintro e w1 ⟨rfl, hb1⟩
    rw [hga]
    have hB1 : Below (w.heap.size + 2) ((w.alloc (maO a an acn ao aco)).alloc (maO b bn bcn bo bco)) w1 := hb1.mono (by rw [HW0.out]; exact Nat.le_refl _)
    have hz1 : w.heap.size + 2 ≤ w1.heap.size := by have := hb1.size; rw [HW0.out] at this; exact this
    clear hb1 HG
    go_wp2_with fail
    refine (ex9_any).mono ?_
    rintro e wz ⟨rfl, hbz⟩
    have hBf := h0.trans ((hB1.trans (hbz.mono hz1)).mono (by omega))
    go_wp2
    go_ret
    exact ⟨rfl, hBf⟩
  | false =>
    cases hgb : b.great with
    | true =>
      go_enter Try.func7, Try.ntmps7
      go_wp2_with fail
      refine (HG.out).mono ?_
      rintro e w1 ⟨rfl, hb1⟩
      rw [hga]
      have hB1 : Below (w.heap.size + 2) ((w.alloc (maO a an acn ao aco)).alloc (maO b bn bcn bo bco)) w1 := hb1.mono (by rw [HW0.out]; exact Nat.le_refl _)
      have hz1 : w.heap.size + 2 ≤ w1.heap.size := by have := hb1.size; rw [HW0.out] at this; exact this
      have HG2 := Lib.hid (great_any (HB.out.below hb1))
      obtain ⟨k0, k1, k2, k3⟩ := hCb.below hB1 (by omega)
      clear hb1 HG
      go_wp2_with fail
      refine (HG2.out).mono ?_
      rintro e w2 ⟨rfl, hb2⟩
      rw [hgb]
      have hB2 := hB1.trans (hb2.mono hz1)
      have hz2 : w.heap.size + 2 ≤ w2.heap.size := Nat.le_trans hz1 hb2.size
      clear hb2 HG2 k0 k1 k2 k3
      go_wp2_with fail
      refine (ex9_any).mono ?_
      rintro e wz ⟨rfl, hbz⟩
      have hBf := h0.trans ((hB2.trans (hbz.mono hz2)).mono (by omega))
      go_wp2
      go_ret
      exact ⟨rfl, hBf⟩
    | false =>
      go_enter Try.func7, Try.ntmps7
      go_wp2_with fail
      refine (HG.out).mono ?_
      rintro e w1 ⟨rfl, hb1⟩
      rw [hga]
      have hB1 : Below (w.heap.size + 2) ((w.alloc (maO a an acn ao aco)).alloc (maO b bn bcn bo bco)) w1 := hb1.mono (by rw [HW0.out]; exact Nat.le_refl _)
      have hz1 : w.heap.size + 2 ≤ w1.heap.size := by have := hb1.size; rw [HW0.out] at this; exact this
      have HG2 := Lib.hid (great_any (HB.out.below hb1))
      obtain ⟨k0, k1, k2, k3⟩ := hCb.below hB1 (by omega)
      clear hb1 HG
      go_wp2_with fail
      refine (HG2.out).mono ?_
      rintro e w2 ⟨rfl, hb2⟩
      rw [hgb]
      have hB2 := hB1.trans (hb2.mono hz1)
      have hz2 : w.heap.size + 2 ≤ w2.heap.size := Nat.le_trans hz1 hb2.size
      clear hb2 HG2 k0 k1 k2 k3
      obtain ⟨j0, j1, j2, j3⟩ := hCa.below hB2 (by omega)
      obtain ⟨k0, k1, k2, k3⟩ := hCb.below hB2 (by omega)
      have HD := Lib.hid (dist_any (HA.out.below (hB2.mono (by rw [HW0.out]; exact Nat.le_refl _))) (HB.out.below (hB2.mono (by rw [HW0.out]; exact Nat.le_refl _))))
      go_wp2_with fail
      refine (HD.out).mono ?_
      rintro e w3 ⟨a3, c3, l3, f3, rfl, ha3, hs3, hb3⟩
      have hB3 := hB2.trans (hb3.mono hz2)
      have hz3 : w.heap.size + 2 ≤ w3.heap.size := Nat.le_trans hz2 hb3.size
      clear hb3 HD j0 j1 j2 j3 k0 k1 k2 k3
      obtain ⟨j0, j1, j2, j3⟩ := hCa.below hB3 (by omega)
      obtain ⟨k0, k1, k2, k3⟩ := hCb.below hB3 (by omega)
      have HD := Lib.hid (distR_any (HA.out.below (hB3.mono (by rw [HW0.out]; exact Nat.le_refl _))) (HB.out.below (hB3.mono (by rw [HW0.out]; exact Nat.le_refl _))))
      go_wp2_with fail
      refine (HD.out).mono ?_
      rintro e w4 ⟨a4, c4, l4, f4, rfl, ha4, hs4, hb4⟩
      have hB4 := hB3.trans (hb4.mono hz3)
      have hz4 : w.heap.size + 2 ≤ w4.heap.size := Nat.le_trans hz3 hb4.size
      replace hs3 := hs3.below hb4
      have hll : Hid (l3 = l4) := (ansW_unique ha3.out ha4.out).1
      obtain rfl : f3 = f4 := (ansW_unique ha3.out ha4.out).2
      clear hb4 HD j0 j1 j2 j3 k0 k1 k2 k3
      obtain ⟨j0, j1, j2, j3⟩ := hCa.below hB4 (by omega)
      obtain ⟨k0, k1, k2, k3⟩ := hCb.below hB4 (by omega)
      have HD := Lib.hid (eqm_any (HA.out.below (hB4.mono (by rw [HW0.out]; exact Nat.le_refl _))) (HB.out.below (hB4.mono (by rw [HW0.out]; exact Nat.le_refl _))))
      go_wp2_with fail
      refine (HD.out).mono ?_
      rintro e w5 ⟨f5, rfl, hf5, hb5⟩
      have hB5 := hB4.trans (hb5.mono hz4)
      have hz5 : w.heap.size + 2 ≤ w5.heap.size := Nat.le_trans hz4 hb5.size
      replace hs3 := hs3.below hb5
      replace hs4 := hs4.below hb5
      clear hb5 HD j0 j1 j2 j3 k0 k1 k2 k3
      obtain ⟨j0, j1, j2, j3⟩ := hCa.below hB5 (by omega)
      obtain ⟨k0, k1, k2, k3⟩ := hCb.below hB5 (by omega)
      have HD := Lib.hid (eqmR_any (HA.out.below (hB5.mono (by rw [HW0.out]; exact Nat.le_refl _))) (HB.out.below (hB5.mono (by rw [HW0.out]; exact Nat.le_refl _))))
      go_wp2_with fail
      refine (HD.out).mono ?_
      rintro e w6 ⟨f6, rfl, hf6, hb6⟩
      have hB6 := hB5.trans (hb6.mono hz5)
      have hz6 : w.heap.size + 2 ≤ w6.heap.size := Nat.le_trans hz5 hb6.size
      replace hs3 := hs3.below hb6
      replace hs4 := hs4.below hb6
      obtain rfl : f5 = f6 := hf5.out.trans hf6.out.symm
      clear hb6 HD j0 j1 j2 j3 k0 k1 k2 k3
      have HE := Lib.hid (ex8_equal (hs3.ext (Ext.sub_only (M' := fun _ => False) fun _ _ h => h.elim)) (hs4.ext (Ext.sub_only (M' := fun _ => False) fun _ _ h => h.elim)) hll.out)
      go_wp2_with fail
      refine (HE.out).mono ?_
      rintro e wy ⟨rfl, ny, rfl⟩
      have hB7 := hB6.trans (below_drewN (w.heap.size + 2) w6 ny)
      have hz7 : w.heap.size + 2 ≤ (w6.drewN ny).heap.size := hz6
      clear HE hs3 hs4
      go_wp2_with fail
      refine (ex9_any).mono ?_
      rintro e wz ⟨rfl, hbz⟩
      have hBf := h0.trans ((hB7.trans (hbz.mono hz7)).mono (by omega))
      go_wp2
      go_ret
      exact ⟨rfl, hBf⟩
end

section
variable {M : Nat → Prop} {w : World} {an ao bn bo : Option Addr} {acn aco bcn bco : Nat} {a b : Mach}
set_option maxRecDepth 100000 in
set_option maxHeartbeats 8000000 in
theorem lisos_any (ha : Ma M w an acn ao aco a) (hb : Ma M w bn bcn bo bco b) (n : Int) (hn : i64 n) :
    Calls Try.prog 9 #[maV a an acn ao aco, maV b bn bcn bo bco, .int .i64 n] w fun e w' => e = .returned (.bool true) ∧ Below w.heap.size w w' := by
  have HA := Lib.hid (ha.ext ((Ext.alloc M w (maO a an acn ao aco)).trans (Ext.alloc M _ (maO b bn bcn bo bco))))
  have HB := Lib.hid (hb.ext ((Ext.alloc M w (maO a an acn ao aco)).trans (Ext.alloc M _ (maO b bn bcn bo bco))))
  have h0 : Below w.heap.size w ((w.alloc (maO a an acn ao aco)).alloc (maO b bn bcn bo bco)) := ((Below.refl _ _).alloc (Nat.le_refl _) _).alloc (by simp) _
  have hCa : C4 ((w.alloc (maO a an acn ao aco)).alloc (maO b bn bcn bo bco)) w.heap.size an acn ao aco a := (c4_new w).below (B := w.heap.size + 1) ((Below.refl _ _).alloc (by simp) _) (by omega)
  have hCb : C4 ((w.alloc (maO a an acn ao aco)).alloc (maO b bn bcn bo bco)) (w.heap.size + 1) bn bcn bo bco b := by simpa using c4_new (m := b) (an := bn) (cn := bcn) (ao := bo) (co := bco) (w.alloc (maO a an acn ao aco))
  have HG := Lib.hid (great_any HA.out)
  have hW0 : ((w.alloc (maO a an acn ao aco)).alloc (maO b bn bcn bo bco)).heap.size = w.heap.size + 2 := by simp
  have HW0 := Lib.hid hW0
  have HN := Lib.hid hn
  clear ha hb hW0 hn
  cases hga : a.great with
  | true =>
    go_enter Try.func9, Try.ntmps9
    go_wp2_with fail
    refine (HG.out).mono ?_
    rintro e w1 ⟨rfl, hb1⟩
    rw [hga]
    have hB1 : Below (w.heap.size + 2) ((w.alloc (maO a an acn ao aco)).alloc (maO b bn bcn bo bco)) w1 := hb1.mono (by rw [HW0.out]; exact Nat.le_refl _)
    have hz1 : w.heap.size + 2 ≤ w1.heap.size := by have := hb1.size; rw [HW0.out] at this; exact this
    clear hb1 HG
    go_wp2_with fail
    refine (ex9_any).mono ?_
    rintro e wz ⟨rfl, hbz⟩
    have hBf := h0.trans ((hB1.trans (hbz.mono hz1)).mono (by omega))
    go_wp2
    go_ret
    exact ⟨rfl, hBf⟩
  | false =>
    cases hgb : b.great with
    | true =>
      go_enter Try.func9, Try.ntmps9
      go_wp2_with fail
      refine (HG.out).mono ?_
      rintro e w1 ⟨rfl, hb1⟩
      rw [hga]
      have hB1 : Below (w.heap.size + 2) ((w.alloc (maO a an acn ao aco)).alloc (maO b bn bcn bo bco)) w1 := hb1.mono (by rw [HW0.out]; exact Nat.le_refl _)
      have hz1 : w.heap.size + 2 ≤ w1.heap.size := by have := hb1.size; rw [HW0.out] at this; exact this
      have HG2 := Lib.hid (great_any (HB.out.below hb1))
      obtain ⟨k0, k1, k2, k3⟩ := hCb.below hB1 (by omega)
      clear hb1 HG
      go_wp2_with fail
      refine (HG2.out).mono ?_
      rintro e w2 ⟨rfl, hb2⟩
      rw [hgb]
      have hB2 := hB1.trans (hb2.mono hz1)
      have hz2 : w.heap.size + 2 ≤ w2.heap.size := Nat.le_trans hz1 hb2.size
      clear hb2 HG2 k0 k1 k2 k3
      go_wp2_with fail
      refine (ex9_any).mono ?_
      rintro e wz ⟨rfl, hbz⟩
      have hBf := h0.trans ((hB2.trans (hbz.mono hz2)).mono (by omega))
      go_wp2
      go_ret
      exact ⟨rfl, hBf⟩
    | false =>
      go_enter Try.func9, Try.ntmps9
      go_wp2_with fail
      refine (HG.out).mono ?_
      rintro e w1 ⟨rfl, hb1⟩
      rw [hga]
      have hB1 : Below (w.heap.size + 2) ((w.alloc (maO a an acn ao aco)).alloc (maO b bn bcn bo bco)) w1 := hb1.mono (by rw [HW0.out]; exact Nat.le_refl _)
      have hz1 : w.heap.size + 2 ≤ w1.heap.size := by have := hb1.size; rw [HW0.out] at this; exact this
      have HG2 := Lib.hid (great_any (HB.out.below hb1))
      obtain ⟨k0, k1, k2, k3⟩ := hCb.below hB1 (by omega)
      clear hb1 HG
      go_wp2_with fail
      refine (HG2.out).mono ?_
      rintro e w2 ⟨rfl, hb2⟩
      rw [hgb]
      have hB2 := hB1.trans (hb2.mono hz1)
      have hz2 : w.heap.size + 2 ≤ w2.heap.size := Nat.le_trans hz1 hb2.size
      clear hb2 HG2 k0 k1 k2 k3
      obtain ⟨j0, j1, j2, j3⟩ := hCa.below hB2 (by omega)
      obtain ⟨k0, k1, k2, k3⟩ := hCb.below hB2 (by omega)
      have HD := Lib.hid (iso_any (HA.out.below (hB2.mono (by rw [HW0.out]; exact Nat.le_refl _))) (HB.out.below (hB2.mono (by rw [HW0.out]; exact Nat.le_refl _))))
      go_wp2_with fail
      refine (HD.out).mono ?_
      rintro e w3 ⟨a3, c3, l3, f3, rfl, ha3, hs3, hb3⟩
      have hB3 := hB2.trans (hb3.mono hz2)
      have hz3 : w.heap.size + 2 ≤ w3.heap.size := Nat.le_trans hz2 hb3.size
      clear hb3 HD j0 j1 j2 j3 k0 k1 k2 k3
      obtain ⟨j0, j1, j2, j3⟩ := hCa.below hB3 (by omega)
      obtain ⟨k0, k1, k2, k3⟩ := hCb.below hB3 (by omega)
      have HD := Lib.hid (isoR_any (HA.out.below (hB3.mono (by rw [HW0.out]; exact Nat.le_refl _))) (HB.out.below (hB3.mono (by rw [HW0.out]; exact Nat.le_refl _))))
      go_wp2_with fail
      refine (HD.out).mono ?_
      rintro e w4 ⟨a4, c4, l4, f4, rfl, ha4, hs4, hb4⟩
      have hB4 := hB3.trans (hb4.mono hz3)
      have hz4 : w.heap.size + 2 ≤ w4.heap.size := Nat.le_trans hz3 hb4.size
      replace hs3 := hs3.below hb4
      have hll : Hid (l3 = l4) := (ansW_unique ha3.out ha4.out).1
      obtain rfl : f3 = f4 := (ansW_unique ha3.out ha4.out).2
      clear hb4 HD j0 j1 j2 j3 k0 k1 k2 k3
      obtain ⟨j0, j1, j2, j3⟩ := hCa.below hB4 (by omega)
      obtain ⟨k0, k1, k2, k3⟩ := hCb.below hB4 (by omega)
      have HD := Lib.hid (upto_any (HA.out.below (hB4.mono (by rw [HW0.out]; exact Nat.le_refl _))) (HB.out.below (hB4.mono (by rw [HW0.out]; exact Nat.le_refl _))) n HN.out)
      go_wp2_with fail
      refine (HD.out).mono ?_
      rintro e w5 ⟨f5, rfl, hf5, hb5⟩
      have hB5 := hB4.trans (hb5.mono hz4)
      have hz5 : w.heap.size + 2 ≤ w5.heap.size := Nat.le_trans hz4 hb5.size
      replace hs3 := hs3.below hb5
      replace hs4 := hs4.below hb5
      clear hb5 HD j0 j1 j2 j3 k0 k1 k2 k3
      obtain ⟨j0, j1, j2, j3⟩ := hCa.below hB5 (by omega)
      obtain ⟨k0, k1, k2, k3⟩ := hCb.below hB5 (by omega)
      have HD := Lib.hid (uptoR_any (HA.out.below (hB5.mono (by rw [HW0.out]; exact Nat.le_refl _))) (HB.out.below (hB5.mono (by rw [HW0.out]; exact Nat.le_refl _))) n HN.out)
      go_wp2_with fail
      refine (HD.out).mono ?_
      rintro e w6 ⟨f6, rfl, hf6, hb6⟩
      have hB6 := hB5.trans (hb6.mono hz5)
      have hz6 : w.heap.size + 2 ≤ w6.heap.size := Nat.le_trans hz5 hb6.size
      replace hs3 := hs3.below hb6
      replace hs4 := hs4.below hb6
      obtain rfl : f5 = f6 := hf5.out.trans hf6.out.symm
      clear hb6 HD j0 j1 j2 j3 k0 k1 k2 k3
      have HE := Lib.hid (ex8_equal (hs3.ext (Ext.sub_only (M' := fun _ => False) fun _ _ h => h.elim)) (hs4.ext (Ext.sub_only (M' := fun _ => False) fun _ _ h => h.elim)) hll.out)
      go_wp2_with fail
      refine (HE.out).mono ?_
      rintro e wy ⟨rfl, ny, rfl⟩
      have hB7 := hB6.trans (below_drewN (w.heap.size + 2) w6 ny)
      have hz7 : w.heap.size + 2 ≤ (w6.drewN ny).heap.size := hz6
      clear HE hs3 hs4
      go_wp2_with fail
      refine (ex9_any).mono ?_
      rintro e wz ⟨rfl, hbz⟩
      have hBf := h0.trans ((hB7.trans (hbz.mono hz7)).mono (by omega))
      go_wp2
      go_ret
      exact ⟨rfl, hBf⟩
end

section
variable {M : Nat → Prop} {w : World} {an ao bn bo : Option Addr} {acn aco bcn bco : Nat} {a b : Mach}
set_option maxRecDepth 100000 in
set_option maxHeartbeats 8000000 in
theorem lbounds_any (ha : Ma M w an acn ao aco a) (hb : Ma M w bn bcn bo bco b) (n : Int) (hn : i64 n) :
    Calls Try.prog 10 #[maV a an acn ao aco, maV b bn bcn bo bco, .int .i64 n] w fun e w' => e = .returned (.bool true) ∧ Below w.heap.size w w' := by
  have HA := Lib.hid (ha.ext ((Ext.alloc M w (maO a an acn ao aco)).trans (Ext.alloc M _ (maO b bn bcn bo bco))))
  have HB := Lib.hid (hb.ext ((Ext.alloc M w (maO a an acn ao aco)).trans (Ext.alloc M _ (maO b bn bcn bo bco))))
  have h0 : Below w.heap.size w ((w.alloc (maO a an acn ao aco)).alloc (maO b bn bcn bo bco)) := ((Below.refl _ _).alloc (Nat.le_refl _) _).alloc (by simp) _
  have hCa : C4 ((w.alloc (maO a an acn ao aco)).alloc (maO b bn bcn bo bco)) w.heap.size an acn ao aco a := (c4_new w).below (B := w.heap.size + 1) ((Below.refl _ _).alloc (by simp) _) (by omega)
  have hCb : C4 ((w.alloc (maO a an acn ao aco)).alloc (maO b bn bcn bo bco)) (w.heap.size + 1) bn bcn bo bco b := by simpa using c4_new (m := b) (an := bn) (cn := bcn) (ao := bo) (co := bco) (w.alloc (maO a an acn ao aco))
  have HG := Lib.hid (great_any HA.out)
  have hW0 : ((w.alloc (maO a an acn ao aco)).alloc (maO b bn bcn bo bco)).heap.size = w.heap.size + 2 := by simp
  have HW0 := Lib.hid hW0
  have HN := Lib.hid hn
  clear ha hb hW0 hn
  cases hga : a.great with
  | true =>
    go_enter Try.func10, Try.ntmps10
    go_wp2_with fail
    refine (HG.out).mono ?_
    rintro e w1 ⟨rfl, hb1⟩
    rw [hga]
    have hB1 : Below (w.heap.size + 2) ((w.alloc (maO a an acn ao aco)).alloc (maO b bn bcn bo bco)) w1 := hb1.mono (by rw [HW0.out]; exact Nat.le_refl _)
    have hz1 : w.heap.size + 2 ≤ w1.heap.size := by have := hb1.size; rw [HW0.out] at this; exact this
    clear hb1 HG
    go_wp2_with fail
    refine (ex9_any).mono ?_
    rintro e wz ⟨rfl, hbz⟩
    have hBf := h0.trans ((hB1.trans (hbz.mono hz1)).mono (by omega))
    go_wp2
    go_ret
    exact ⟨rfl, hBf⟩
  | false =>
    cases hgb : b.great with
    | true =>
      go_enter Try.func10, Try.ntmps10
      go_wp2_with fail
      refine (HG.out).mono ?_
      rintro e w1 ⟨rfl, hb1⟩
      rw [hga]
      have hB1 : Below (w.heap.size + 2) ((w.alloc (maO a an acn ao aco)).alloc (maO b bn bcn bo bco)) w1 := hb1.mono (by rw [HW0.out]; exact Nat.le_refl _)
      have hz1 : w.heap.size + 2 ≤ w1.heap.size := by have := hb1.size; rw [HW0.out] at this; exact this
      have HG2 := Lib.hid (great_any (HB.out.below hb1))
      obtain ⟨k0, k1, k2, k3⟩ := hCb.below hB1 (by omega)
      clear hb1 HG
      go_wp2_with fail
      refine (HG2.out).mono ?_
      rintro e w2 ⟨rfl, hb2⟩
      rw [hgb]
      have hB2 := hB1.trans (hb2.mono hz1)
      have hz2 : w.heap.size + 2 ≤ w2.heap.size := Nat.le_trans hz1 hb2.size
      clear hb2 HG2 k0 k1 k2 k3
      go_wp2_with fail
      refine (ex9_any).mono ?_
      rintro e wz ⟨rfl, hbz⟩
      have hBf := h0.trans ((hB2.trans (hbz.mono hz2)).mono (by omega))
      go_wp2
      go_ret
      exact ⟨rfl, hBf⟩
    | false =>
      go_enter Try.func10, Try.ntmps10
      go_wp2_with fail
      refine (HG.out).mono ?_
      rintro e w1 ⟨rfl, hb1⟩
      rw [hga]
      have hB1 : Below (w.heap.size + 2) ((w.alloc (maO a an acn ao aco)).alloc (maO b bn bcn bo bco)) w1 := hb1.mono (by rw [HW0.out]; exact Nat.le_refl _)
      have hz1 : w.heap.size + 2 ≤ w1.heap.size := by have := hb1.size; rw [HW0.out] at this; exact this
      have HG2 := Lib.hid (great_any (HB.out.below hb1))
      obtain ⟨k0, k1, k2, k3⟩ := hCb.below hB1 (by omega)
      clear hb1 HG
      go_wp2_with fail
      refine (HG2.out).mono ?_
      rintro e w2 ⟨rfl, hb2⟩
      rw [hgb]
      have hB2 := hB1.trans (hb2.mono hz1)
      have hz2 : w.heap.size + 2 ≤ w2.heap.size := Nat.le_trans hz1 hb2.size
      clear hb2 HG2 k0 k1 k2 k3
      obtain ⟨j0, j1, j2, j3⟩ := hCa.below hB2 (by omega)
      obtain ⟨k0, k1, k2, k3⟩ := hCb.below hB2 (by omega)
      have HD := Lib.hid (dist_any (HA.out.below (hB2.mono (by rw [HW0.out]; exact Nat.le_refl _))) (HB.out.below (hB2.mono (by rw [HW0.out]; exact Nat.le_refl _))))
      go_wp2_with fail
      refine (HD.out).mono ?_
      rintro e w3 ⟨a3, c3, l3, f3, rfl, ha3, hs3, hb3⟩
      have hB3 := hB2.trans (hb3.mono hz2)
      have hz3 : w.heap.size + 2 ≤ w3.heap.size := Nat.le_trans hz2 hb3.size
      clear hb3 HD j0 j1 j2 j3 k0 k1 k2 k3
      obtain ⟨j0, j1, j2, j3⟩ := hCa.below hB3 (by omega)
      obtain ⟨k0, k1, k2, k3⟩ := hCb.below hB3 (by omega)
      have HD := Lib.hid (upto_any (HA.out.below (hB3.mono (by rw [HW0.out]; exact Nat.le_refl _))) (HB.out.below (hB3.mono (by rw [HW0.out]; exact Nat.le_refl _))) n HN.out)
      go_wp2_with fail
      refine (HD.out).mono ?_
      rintro e w4 ⟨f4, rfl, hf4, hb4⟩
      have hB4 := hB3.trans (hb4.mono hz3)
      have hz4 : w.heap.size + 2 ≤ w4.heap.size := Nat.le_trans hz3 hb4.size
      replace hs3 := hs3.below hb4
      clear hb4 HD j0 j1 j2 j3 k0 k1 k2 k3
      obtain ⟨j0, j1, j2, j3⟩ := hCa.below hB4 (by omega)
      obtain ⟨k0, k1, k2, k3⟩ := hCb.below hB4 (by omega)
      have HD := Lib.hid (eqm_any (HA.out.below (hB4.mono (by rw [HW0.out]; exact Nat.le_refl _))) (HB.out.below (hB4.mono (by rw [HW0.out]; exact Nat.le_refl _))))
      go_wp2_with fail
      refine (HD.out).mono ?_
      rintro e w5 ⟨f5, rfl, hf5, hb5⟩
      have hB5 := hB4.trans (hb5.mono hz4)
      have hz5 : w.heap.size + 2 ≤ w5.heap.size := Nat.le_trans hz4 hb5.size
      replace hs3 := hs3.below hb5
      clear hb5 HD j0 j1 j2 j3 k0 k1 k2 k3
      have hl3n := hs3.le
      clear hs3
      have HA3 := Lib.hid ha3.out
      by_cases hc : chk a b = 0
      · have hc1 : (chk a b == 0) = true := by simp [hc]
        have hc2 : (chk a b != 0) = false := by simp [hc]
        have HC := Lib.hid hc
        cases hd : distW a b with
        | none =>
          have h1 : l3 = [] ∧ f3 = false := by have := ha3.out; rw [hd] at this; exact this
          have h2 : f4 = true := by have := hf4.out; rw [upto_none hc hd] at this; exact this
          have h3 : f5 = true := by have := hf5.out; rw [hd] at this; simpa [hc] using this
          obtain ⟨rfl, rfl⟩ := h1
          obtain rfl := h2
          obtain rfl := h3
          clear hc hd
          go_wp2_with fail
          refine (ex9_any).mono ?_
          rintro e wz ⟨rfl, hbz⟩
          have hBf := h0.trans ((hB5.trans (hbz.mono hz5)).mono (by omega))
          go_wp2
          go_ret
          exact ⟨rfl, hBf⟩
        | some v =>
          have h1 : l3 = v ∧ f3 = true := by have := ha3.out; rw [hd] at this; exact this
          have h3 : f5 = false := by have := hf5.out; rw [hd] at this; simpa using this
          obtain ⟨rfl, rfl⟩ := h1
          obtain rfl := h3
          by_cases hn2 : n < (l3.length : Int)
          · have h2 : f4 = true := by have := hf4.out; rw [upto_yes hc hd hn2] at this; exact this
            obtain rfl := h2
            clear hc hd
            go_wp2_with fail
            refine (ex9_any).mono ?_
            rintro e wz ⟨rfl, hbz⟩
            have hBf := h0.trans ((hB5.trans (hbz.mono hz5)).mono (by omega))
            go_wp2
            go_ret
            exact ⟨rfl, hBf⟩
          · have h2 : f4 = false := by have := hf4.out; rw [upto_no hd hn2] at this; exact this
            obtain rfl := h2
            have hn3 : decide (n < (l3.length : Int)) = false := by simpa using hn2
            clear hc hd
            go_wp2_with fail
            refine (ex9_any).mono ?_
            rintro e wz ⟨rfl, hbz⟩
            have hBf := h0.trans ((hB5.trans (hbz.mono hz5)).mono (by omega))
            go_wp2
            go_ret
            exact ⟨rfl, hBf⟩
      · have hc1 : (chk a b == 0) = false := by simp [hc]
        have hc2 : (chk a b != 0) = true := by simp [hc]
        have h2 : f4 = false := by have := hf4.out; rw [upto_err hc] at this; exact this
        have h3 : f5 = false := by have := hf5.out; simpa [hc] using this
        obtain rfl := h2
        obtain rfl := h3
        clear hc
        go_wp2_with fail
        refine (ex9_any).mono ?_
        rintro e wz ⟨rfl, hbz⟩
        have hBf := h0.trans ((hB5.trans (hbz.mono hz5)).mono (by omega))
        go_wp2
        go_ret
        exact ⟨rfl, hBf⟩
end

section
variable {M : Nat → Prop} {w : World} {an ao : Option Addr} {acn aco : Nat} {a : Mach}
set_option maxRecDepth 100000 in
set_option maxHeartbeats 8000000 in
theorem lstates_any (ha : Ma M w an acn ao aco a) (s : Int) (hs0 : i64 s) (t : Int) (ht0 : i64 t) :
    Calls Try.prog 8 #[maV a an acn ao aco, .int .i64 s, .int .i64 t] w fun e w' => e = .returned (.bool true) ∧ Below w.heap.size w w' := by
  have HA := Lib.hid (ha.ext (Ext.alloc M w (maO a an acn ao aco)))
  have h0 : Below w.heap.size w (w.alloc (maO a an acn ao aco)) := (Below.refl _ _).alloc (Nat.le_refl _) _
  have hCa : C4 (w.alloc (maO a an acn ao aco)) w.heap.size an acn ao aco a := c4_new w
  have HG := Lib.hid (great_any HA.out)
  have HN := Lib.hid (And.intro hs0 ht0)
  have hW0 : (w.alloc (maO a an acn ao aco)).heap.size = w.heap.size + 1 := by simp
  have HW0 := Lib.hid hW0
  clear ha hs0 ht0 hW0
  cases hga : a.great with
  | true =>
    go_enter Try.func8, Try.ntmps8
    go_wp2_with fail
    refine (HG.out).mono ?_
    rintro e w1 ⟨rfl, hb1⟩
    rw [hga]
    have hB1 : Below (w.heap.size + 1) (w.alloc (maO a an acn ao aco)) w1 := hb1.mono (by rw [HW0.out]; exact Nat.le_refl _)
    have hz1 : w.heap.size + 1 ≤ w1.heap.size := by have := hb1.size; rw [HW0.out] at this; exact this
    clear hb1 HG
    go_wp2_with fail
    refine (ex9_any).mono ?_
    rintro e wz ⟨rfl, hbz⟩
    have hBf := h0.trans ((hB1.trans (hbz.mono hz1)).mono (by omega))
    go_wp2
    go_ret
    exact ⟨rfl, hBf⟩
  | false =>
    go_enter Try.func8, Try.ntmps8
    go_wp2_with fail
    refine (HG.out).mono ?_
    rintro e w1 ⟨rfl, hb1⟩
    rw [hga]
    have hB1 : Below (w.heap.size + 1) (w.alloc (maO a an acn ao aco)) w1 := hb1.mono (by rw [HW0.out]; exact Nat.le_refl _)
    have hz1 : w.heap.size + 1 ≤ w1.heap.size := by have := hb1.size; rw [HW0.out] at this; exact this
    clear hb1 HG
    obtain ⟨j0, j1, j2, j3⟩ := hCa.below hB1 (by omega)
    have HD := Lib.hid (states_any (HA.out.below (hB1.mono (by rw [HW0.out]; exact Nat.le_refl _))) s t HN.out.1 HN.out.2)
    go_wp2_with fail
    refine (HD.out).mono ?_
    rintro e w2 ⟨a2, c2, l2, f2, rfl, ha2, hs2, hb2⟩
    have hB2 := hB1.trans (hb2.mono hz1)
    have hz2 : w.heap.size + 1 ≤ w2.heap.size := Nat.le_trans hz1 hb2.size
    clear hb2 HD j0 j1 j2 j3
    obtain ⟨j0, j1, j2, j3⟩ := hCa.below hB2 (by omega)
    have HD := Lib.hid (statesR_any (HA.out.below (hB2.mono (by rw [HW0.out]; exact Nat.le_refl _))) s t HN.out.1 HN.out.2)
    go_wp2_with fail
    refine (HD.out).mono ?_
    rintro e w3 ⟨a3, c3, l3, f3, rfl, ha3, hs3, hb3⟩
    have hB3 := hB2.trans (hb3.mono hz2)
    have hz3 : w.heap.size + 1 ≤ w3.heap.size := Nat.le_trans hz2 hb3.size
    replace hs2 := hs2.below hb3
    have hll : Hid (l2 = l3) := (ansW_unique ha2.out ha3.out).1
    obtain rfl : f2 = f3 := (ansW_unique ha2.out ha3.out).2
    clear hb3 HD j0 j1 j2 j3
    have HE := Lib.hid (ex8_equal (hs2.ext (Ext.sub_only (M' := fun _ => False) fun _ _ h => h.elim)) (hs3.ext (Ext.sub_only (M' := fun _ => False) fun _ _ h => h.elim)) hll.out)
    go_wp2_with fail
    refine (HE.out).mono ?_
    rintro e wy ⟨rfl, ny, rfl⟩
    have hB4 := hB3.trans (below_drewN (w.heap.size + 1) w3 ny)
    have hz4 : w.heap.size + 1 ≤ (w3.drewN ny).heap.size := hz3
    clear HE hs2 hs3
    go_wp2_with fail
    refine (ex9_any).mono ?_
    rintro e wz ⟨rfl, hbz⟩
    have hBf := h0.trans ((hB4.trans (hbz.mono hz4)).mono (by omega))
    go_wp2
    go_ret
    exact ⟨rfl, hBf⟩
end
end Go.Proofs.Ytdnmgiabgpilkaa
