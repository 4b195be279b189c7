/- The law of chapter 9 on what Iso maps. No condition. -/
import Derived.Test.YtdnmgiabgpilkaaLaws9
import Derived.Test.YtdnmgiabgpilkaaIsoQ
namespace Go.Proofs.Ytdnmgiabgpilkaa
open Go.RowKit

section
variable {M : Nat → Prop} {w : World} {an ao bn bo : Option Addr} {acn aco bcn bco : Nat} {a b : Mach}
set_option maxRecDepth 100000 in
set_option maxHeartbeats 8000000 in
theorem lmaps_any (ha : Ma M w an acn ao aco a) (hb : Ma M w bn bcn bo bco b) :
    Calls Try.prog 11 #[maV a an acn ao aco, maV b bn bcn bo bco] w fun e w' => e = .returned (.bool true) ∧ Below w.heap.size w w' := by
  have HA := Lib.hid (ha.ext ((Ext.alloc M w (maO a an acn ao aco)).trans (Ext.alloc M _ (maO b bn bcn bo bco))))
  have HB := Lib.hid (hb.ext ((Ext.alloc M w (maO a an acn ao aco)).trans (Ext.alloc M _ (maO b bn bcn bo bco))))
  have h0 : Below w.heap.size w ((w.alloc (maO a an acn ao aco)).alloc (maO b bn bcn bo bco)) := ((Below.refl _ _).alloc (Nat.le_refl _) _).alloc (by simp) _
  have hCa : C4 ((w.alloc (maO a an acn ao aco)).alloc (maO b bn bcn bo bco)) w.heap.size an acn ao aco a := (c4_new w).below (B := w.heap.size + 1) ((Below.refl _ _).alloc (by simp) _) (by omega)
  have hCb : C4 ((w.alloc (maO a an acn ao aco)).alloc (maO b bn bcn bo bco)) (w.heap.size + 1) bn bcn bo bco b := by simpa using c4_new (m := b) (an := bn) (cn := bcn) (ao := bo) (co := bco) (w.alloc (maO a an acn ao aco))
  have HG := Lib.hid (great_any HA.out)
  have hW0 : ((w.alloc (maO a an acn ao aco)).alloc (maO b bn bcn bo bco)).heap.size = w.heap.size + 2 := by simp
  have HW0 := Lib.hid hW0
  clear ha hb hW0
  cases hga : a.great with
  | true =>
    go_enter Try.func11, Try.ntmps11
    go_wp2_with fail
    refine (HG.out).mono ?_
    rintro e w1 ⟨rfl, hb1⟩
    rw [hga]
    have hB1 : Below (w.heap.size + 2) ((w.alloc (maO a an acn ao aco)).alloc (maO b bn bcn bo bco)) w1 := hb1.mono (by rw [HW0.out]; exact Nat.le_refl _)
    have hz1 : w.heap.size + 2 ≤ w1.heap.size := by have := hb1.size; rw [HW0.out] at this; exact this
    clear hb1 HG
    go_wp2_with fail
    refine (ex9_any).mono ?_
    rintro e wz ⟨rfl, hbz⟩
    have hBf := h0.trans ((hB1.trans (hbz.mono hz1)).mono (by omega))
    go_wp2
    go_ret
    exact ⟨rfl, hBf⟩
  | false =>
    cases hgb : b.great with
    | true =>
      go_enter Try.func11, Try.ntmps11
      go_wp2_with fail
      refine (HG.out).mono ?_
      rintro e w1 ⟨rfl, hb1⟩
      rw [hga]
      have hB1 : Below (w.heap.size + 2) ((w.alloc (maO a an acn ao aco)).alloc (maO b bn bcn bo bco)) w1 := hb1.mono (by rw [HW0.out]; exact Nat.le_refl _)
      have hz1 : w.heap.size + 2 ≤ w1.heap.size := by have := hb1.size; rw [HW0.out] at this; exact this
      have HG2 := Lib.hid (great_any (HB.out.below hb1))
      obtain ⟨k0, k1, k2, k3⟩ := hCb.below hB1 (by omega)
      clear hb1 HG
      go_wp2_with fail
      refine (HG2.out).mono ?_
      rintro e w2 ⟨rfl, hb2⟩
      rw [hgb]
      have hB2 := hB1.trans (hb2.mono hz1)
      have hz2 : w.heap.size + 2 ≤ w2.heap.size := Nat.le_trans hz1 hb2.size
      clear hb2 HG2 k0 k1 k2 k3
      go_wp2_with fail
      refine (ex9_any).mono ?_
      rintro e wz ⟨rfl, hbz⟩
      have hBf := h0.trans ((hB2.trans (hbz.mono hz2)).mono (by omega))
      go_wp2
      go_ret
      exact ⟨rfl, hBf⟩
    | false =>
      go_enter Try.func11, Try.ntmps11
      go_wp2_with fail
      refine (HG.out).mono ?_
      rintro e w1 ⟨rfl, hb1⟩
      rw [hga]
      have hB1 : Below (w.heap.size + 2) ((w.alloc (maO a an acn ao aco)).alloc (maO b bn bcn bo bco)) w1 := hb1.mono (by rw [HW0.out]; exact Nat.le_refl _)
      have hz1 : w.heap.size + 2 ≤ w1.heap.size := by have := hb1.size; rw [HW0.out] at this; exact this
      have HG2 := Lib.hid (great_any (HB.out.below hb1))
      obtain ⟨k0, k1, k2, k3⟩ := hCb.below hB1 (by omega)
      clear hb1 HG
      go_wp2_with fail
      refine (HG2.out).mono ?_
      rintro e w2 ⟨rfl, hb2⟩
      rw [hgb]
      have hB2 := hB1.trans (hb2.mono hz1)
      have hz2 : w.heap.size + 2 ≤ w2.heap.size := Nat.le_trans hz1 hb2.size
      clear hb2 HG2 k0 k1 k2 k3
      have HCK := Lib.hid (checkR_any (HA.out.below (hB2.mono (by rw [HW0.out]; exact Nat.le_refl _))) (HB.out.below (hB2.mono (by rw [HW0.out]; exact Nat.le_refl _))))
      obtain ⟨j0, j1, j2, j3⟩ := hCa.below hB2 (by omega)
      obtain ⟨k0, k1, k2, k3⟩ := hCb.below hB2 (by omega)
      go_wp2_with fail
      refine (HCK.out).mono ?_
      rintro e w3 ⟨rfl, hb3⟩
      have hB3 := hB2.trans (hb3.mono hz2)
      have hz3 : w.heap.size + 2 ≤ w3.heap.size := Nat.le_trans hz2 hb3.size
      clear hb3 HCK j0 j1 j2 j3 k0 k1 k2 k3
      by_cases hc : chk a b = 0
      · have hc2 : (chk a b != 0) = false := by simp [hc]
        have HC := Lib.hid hc
        have OA := Lib.hid (a.ok_of_err (chk_zero hc).1)
        have OB := Lib.hid (b.ok_of_err (chk_zero hc).2.1)
        have HI := Lib.hid (chk_zero hc).2.2
        clear hc
        obtain ⟨xb, xo, yb, yo, rfl, rfl⟩ := HA.out.addr OA.out
        obtain ⟨ub, uo, vb, vo, rfl, rfl⟩ := HB.out.addr OB.out
        obtain ⟨j0, j1, j2, j3⟩ := hCa.below hB3 (by omega)
        obtain ⟨k0, k1, k2, k3⟩ := hCb.below hB3 (by omega)
        have HD := Lib.hid (iso_any (HA.out.below (hB3.mono (by rw [HW0.out]; exact Nat.le_refl _))) (HB.out.below (hB3.mono (by rw [HW0.out]; exact Nat.le_refl _))))
        go_wp2_with fail
        refine (HD.out).mono ?_
        rintro e w4 ⟨a4, c4, l4, f4, rfl, ha4, hs4, hb4⟩
        have hB4 := hB3.trans (hb4.mono hz3)
        have hz4 : w.heap.size + 2 ≤ w4.heap.size := Nat.le_trans hz3 hb4.size
        clear hb4 HD j0 j1 j2 j3 k0 k1 k2 k3
        obtain ⟨j0, j1, j2, j3⟩ := hCa.below hB4 (by omega)
        obtain ⟨k0, k1, k2, k3⟩ := hCb.below hB4 (by omega)
        have HD := Lib.hid (eqm_any (HA.out.below (hB4.mono (by rw [HW0.out]; exact Nat.le_refl _))) (HB.out.below (hB4.mono (by rw [HW0.out]; exact Nat.le_refl _))))
        go_wp2_with fail
        refine (HD.out).mono ?_
        rintro e w5 ⟨f5, rfl, hf5, hb5⟩
        have hB5 := hB4.trans (hb5.mono hz4)
        have hz5 : w.heap.size + 2 ≤ w5.heap.size := Nat.le_trans hz4 hb5.size
        replace hs4 := (hs4.below hb5).anti (M' := fun _ => False) (fun _ _ h => h.elim)
        clear hb5 HD j0 j1 j2 j3 k0 k1 k2 k3
        by_cases hiso : isoOk a b
        · have hi := isoW_yes HC.out hiso
          have h1 : l4 = isoT a b ∧ f4 = true := by have := ha4.out; rw [hi] at this; exact this
          have h2 : f5 = true := by have := hf5.out; rw [iso_equal HC.out hiso] at this; simpa [HC.out] using this
          obtain ⟨hl4, rfl⟩ := h1
          obtain rfl := h2
          have HL := Lib.hid hl4
          have HO := Lib.hid hiso
          have hll : l4.length = a.next.length := by rw [hl4, isoT_len]; exact hiso.1.1
          have e1 : (((l4.length : Nat) : Int) != ((a.next.length : Nat) : Int)) = false := by simp [hll]
          have HLL := Lib.hid hll
          have hnn : a.next.length = b.next.length := by rw [← hiso.1.1, hiso.1.2.2, hiso.1.2.1]
          have e2 : (((a.next.length : Nat) : Int) != ((b.next.length : Nat) : Int)) = false := by simp [hnn]
          have HNN := Lib.hid hnn
          have i1 := OA.out.i1
          have n1 := OA.out.n1
          clear hl4 hiso hi hll hnn ha4 hf5
          have hSS : C4 w5.drew w.heap.size (some ⟨xb, xo, none⟩) acn (some ⟨yb, yo, none⟩) aco a ∧ C4 w5.drew (w.heap.size + 1) (some ⟨ub, uo, none⟩) bcn (some ⟨vb, vo, none⟩) bco b := ⟨(hCa.below hB5 (by omega)).drew, (hCb.below hB5 (by omega)).drew⟩
          have hBd := hB5.drew
          have hzd : w.heap.size + 2 ≤ w5.drew.heap.size := hz5
          have hsd := hs4.drew
          go_wp2
          refine wp_region_L (fun w' => C4 w' w.heap.size (some ⟨xb, xo, none⟩) acn (some ⟨yb, yo, none⟩) aco a ∧ C4 w' (w.heap.size + 1) (some ⟨ub, uo, none⟩) bcn (some ⟨vb, vo, none⟩) bco b) [3, 4, 5, 6, 7, 11, 14, 15, 16, 20, 23, 24, 25, 29, 30, 31, 32, 33, 34] (by kernel_rfl) ?_
          clear hB5 hz5 hs4
          generalize w5.drew = w6 at *
          refine wpAnyL_one (i := 0) (by kernel_rfl) rfl rfl (fun K hK => ?_)
          go_simp
          refine hK _ _ (fun _ => hSS) ?_
          clear hK K
          refine wpAnyL_one (i := 1) (by kernel_rfl) rfl rfl (fun K hK => ?_)
          go_simp
          refine hK _ _ (fun _ => hSS) ?_
          clear hK K
          refine wpAnyL_one (i := 2) (by kernel_rfl) rfl rfl (fun K hK => ?_)
          go_simp
          refine hK _ _ (fun _ => hSS) ?_
          clear hK K
          refine wpAnyL_take (i := 3) (v := ?v1) rfl (by kernel_rfl) (by kernel_rfl) (by kernel_rfl) (by kernel_rfl) (fun _ _ _ h => h) (Or.inl ⟨by rfl, ?y1⟩) (by assumption) ?r1
          case y1 => (intro w' hSw; (try dsimp only at hSw); go_simp; try with_reducible rfl)
          try simp only [Act.put, List.setIfInBounds_toArray, List.set_cons_zero, List.set_cons_succ]
          refine wpAnyL_take (i := 4) (v := ?v2) rfl (by kernel_rfl) (by kernel_rfl) (by kernel_rfl) (by kernel_rfl) (fun _ _ _ h => h) (Or.inl ⟨by rfl, ?y2⟩) (by assumption) ?r2
          case y2 => (intro w' hSw; (try dsimp only at hSw); go_simp; try with_reducible rfl)
          try simp only [Act.put, List.setIfInBounds_toArray, List.set_cons_zero, List.set_cons_succ]
          refine wpAnyL_take (i := 5) (v := ?v3) rfl (by kernel_rfl) (by kernel_rfl) (by kernel_rfl) (by kernel_rfl) (fun _ _ _ h => h) (Or.inl ⟨by rfl, ?y3⟩) (by assumption) ?r3
          case y3 => (intro w' hSw; (try dsimp only at hSw); go_simp; try with_reducible rfl)
          try simp only [Act.put, List.setIfInBounds_toArray, List.set_cons_zero, List.set_cons_succ]
          refine wpAnyL_take (i := 6) (v := ?v4) rfl (by kernel_rfl) (by kernel_rfl) (by kernel_rfl) (by kernel_rfl) (fun _ _ _ h => h) (Or.inl ⟨by rfl, ?y4⟩) (by assumption) ?r4
          case y4 => (intro w' hSw; (try dsimp only at hSw); go_simp; try with_reducible rfl)
          try simp only [Act.put, List.setIfInBounds_toArray, List.set_cons_zero, List.set_cons_succ]
          refine wpAnyL_take (i := 7) (v := ?v5) rfl (by kernel_rfl) (by kernel_rfl) (by kernel_rfl) (by kernel_rfl) (fun _ _ _ h => h) (Or.inl ⟨by rfl, ?y5⟩) (by assumption) ?r5
          case y5 => (intro w' hSw; (try dsimp only at hSw); go_simp; try with_reducible rfl)
          try simp only [Act.put, List.setIfInBounds_toArray, List.set_cons_zero, List.set_cons_succ]
          refine wpAnyL_one (i := 8) (by kernel_rfl) rfl rfl (fun K hK => ?_)
          go_simp
          refine hK _ _ (fun _ => hSS) ?_
          clear hK K
          refine wpAnyL_one (i := 9) (by kernel_rfl) rfl rfl (fun K hK => ?_)
          go_simp
          refine hK _ _ (fun _ => hSS) ?_
          clear hK K
          refine wpAnyL_one (i := 10) (by kernel_rfl) rfl rfl (fun K hK => ?_)
          go_simp
          refine hK _ _ (fun _ => hSS) ?_
          clear hK K
          refine wpAnyL_take (i := 11) (v := ?v6) rfl (by kernel_rfl) (by kernel_rfl) (by kernel_rfl) (by kernel_rfl) (fun _ _ _ h => h) (Or.inl ⟨by rfl, ?y6⟩) (by assumption) ?r6
          case y6 => (intro w' hSw; (try dsimp only at hSw); go_simp; try with_reducible rfl)
          try simp only [Act.put, List.setIfInBounds_toArray, List.set_cons_zero, List.set_cons_succ]
          refine wpAnyL_take (i := 14) (v := ?v7) rfl (by kernel_rfl) (by kernel_rfl) (by kernel_rfl) (by kernel_rfl) (fun _ _ _ h => h) (Or.inl ⟨by rfl, ?y7⟩) (by assumption) ?r7
          case y7 => (intro w' hSw; (try dsimp only at hSw); go_simp; try with_reducible rfl)
          try simp only [Act.put, List.setIfInBounds_toArray, List.set_cons_zero, List.set_cons_succ]
          refine wpAnyL_take (i := 15) (v := ?v8) rfl (by kernel_rfl) (by kernel_rfl) (by kernel_rfl) (by kernel_rfl) (fun _ _ _ h => h) (Or.inl ⟨by rfl, ?y8⟩) (by assumption) ?r8
          case y8 => (intro w' hSw; (try dsimp only at hSw); go_simp; try with_reducible rfl)
          try simp only [Act.put, List.setIfInBounds_toArray, List.set_cons_zero, List.set_cons_succ]
          refine wpAnyL_take (i := 16) (v := ?v9) rfl (by kernel_rfl) (by kernel_rfl) (by kernel_rfl) (by kernel_rfl) (fun _ _ _ h => h) (Or.inl ⟨by rfl, ?y9⟩) (by assumption) ?r9
          case y9 => (intro w' hSw; (try dsimp only at hSw); go_simp; try with_reducible rfl)
          try simp only [Act.put, List.setIfInBounds_toArray, List.set_cons_zero, List.set_cons_succ]
          have HR := Lib.hid (reachR_any (HA.out.below (hBd.mono (by rw [HW0.out]; exact Nat.le_refl _))))
          refine wpAnyL_one (i := 12) (by kernel_rfl) rfl rfl (fun K hK => ?_)
          go_simp
          refine (HR.out).mono ?_
          rintro e w7 ⟨a7, c7, l7, rfl, hl7, -, hb7⟩
          have hB7 := hBd.trans (hb7.mono hzd)
          have hz7 : w.heap.size + 2 ≤ w7.heap.size := Nat.le_trans hzd hb7.size
          have hS7 : C4 w7 w.heap.size (some ⟨xb, xo, none⟩) acn (some ⟨yb, yo, none⟩) aco a ∧ C4 w7 (w.heap.size + 1) (some ⟨ub, uo, none⟩) bcn (some ⟨vb, vo, none⟩) bco b := ⟨hSS.1.below hb7 (by omega), hSS.2.below hb7 (by omega)⟩
          have hs7 := hsd.below hb7
          have e3 : (((l7.length : Nat) : Int) != ((a.next.length : Nat) : Int)) = false := by
            have h1 : l7 = a.reach := by have := hl7.out; unfold Mach.reachOf at this; rwa [if_pos (chk_zero HC.out).1] at this
            rw [h1, HO.out.1.1]; simp
          refine hK _ _ (fun _ => hS7) ?_
          clear hK K HR hSS hb7 hBd hzd hsd
          refine wpAnyL_one (i := 13) (by kernel_rfl) rfl rfl (fun K hK => ?_)
          go_simp
          refine hK _ _ (fun _ => hS7) ?_
          clear hK K
          refine wpAnyL_one (i := 17) (by kernel_rfl) rfl rfl (fun K hK => ?_)
          go_simp
          refine hK _ _ (fun _ => hS7) ?_
          clear hK K
          refine wpAnyL_one (i := 18) (by kernel_rfl) rfl rfl (fun K hK => ?_)
          go_simp
          refine hK _ _ (fun _ => hS7) ?_
          clear hK K
          refine wpAnyL_one (i := 19) (by kernel_rfl) rfl rfl (fun K hK => ?_)
          go_simp
          refine hK _ _ (fun _ => hS7) ?_
          clear hK K
          refine wpAnyL_take (i := 20) (v := ?v10) rfl (by kernel_rfl) (by kernel_rfl) (by kernel_rfl) (by kernel_rfl) (fun _ _ _ h => h) (Or.inl ⟨by rfl, ?y10⟩) (by assumption) ?r10
          case y10 => (intro w' hSw; (try dsimp only at hSw); go_simp; try with_reducible rfl)
          try simp only [Act.put, List.setIfInBounds_toArray, List.set_cons_zero, List.set_cons_succ]
          refine wpAnyL_take (i := 23) (v := ?v11) rfl (by kernel_rfl) (by kernel_rfl) (by kernel_rfl) (by kernel_rfl) (fun _ _ _ h => h) (Or.inl ⟨by rfl, ?y11⟩) (by assumption) ?r11
          case y11 => (intro w' hSw; (try dsimp only at hSw); go_simp; try with_reducible rfl)
          try simp only [Act.put, List.setIfInBounds_toArray, List.set_cons_zero, List.set_cons_succ]
          refine wpAnyL_take (i := 24) (v := ?v12) rfl (by kernel_rfl) (by kernel_rfl) (by kernel_rfl) (by kernel_rfl) (fun _ _ _ h => h) (Or.inl ⟨by rfl, ?y12⟩) (by assumption) ?r12
          case y12 => (intro w' hSw; (try dsimp only at hSw); go_simp; try with_reducible rfl)
          try simp only [Act.put, List.setIfInBounds_toArray, List.set_cons_zero, List.set_cons_succ]
          refine wpAnyL_take (i := 25) (v := ?v13) rfl (by kernel_rfl) (by kernel_rfl) (by kernel_rfl) (by kernel_rfl) (fun _ _ _ h => h) (Or.inl ⟨by rfl, ?y13⟩) (by assumption) ?r13
          case y13 => (intro w' hSw; (try dsimp only at hSw); go_simp; try with_reducible rfl)
          try simp only [Act.put, List.setIfInBounds_toArray, List.set_cons_zero, List.set_cons_succ]
          have HR := Lib.hid (reachR_any (HB.out.below (hB7.mono (by rw [HW0.out]; exact Nat.le_refl _))))
          refine wpAnyL_one (i := 21) (by kernel_rfl) rfl rfl (fun K hK => ?_)
          go_simp
          refine (HR.out).mono ?_
          rintro e w8 ⟨a8, c8, l8, rfl, hl8, -, hb8⟩
          have hB8 := hB7.trans (hb8.mono hz7)
          have hz8 : w.heap.size + 2 ≤ w8.heap.size := Nat.le_trans hz7 hb8.size
          have hS8 : C4 w8 w.heap.size (some ⟨xb, xo, none⟩) acn (some ⟨yb, yo, none⟩) aco a ∧ C4 w8 (w.heap.size + 1) (some ⟨ub, uo, none⟩) bcn (some ⟨vb, vo, none⟩) bco b := ⟨hS7.1.below hb8 (by omega), hS7.2.below hb8 (by omega)⟩
          have hs8 := hs7.below hb8
          have e4 : (((l8.length : Nat) : Int) != ((b.next.length : Nat) : Int)) = false := by
            have h1 : l8 = b.reach := by have := hl8.out; unfold Mach.reachOf at this; rwa [if_pos (chk_zero HC.out).2.1] at this
            rw [h1, HO.out.1.2.1]; simp
          refine hK _ _ (fun _ => hS8) ?_
          clear hK K HR hS7 hb8 hB7 hz7 hs7
          refine wpAnyL_one (i := 22) (by kernel_rfl) rfl rfl (fun K hK => ?_)
          go_simp
          refine hK _ _ (fun _ => hS8) ?_
          clear hK K
          refine wpAnyL_one (i := 26) (by kernel_rfl) rfl rfl (fun K hK => ?_)
          go_simp
          refine hK _ _ (fun _ => hS8) ?_
          clear hK K
          refine wpAnyL_one (i := 27) (by kernel_rfl) rfl rfl (fun K hK => ?_)
          go_simp
          refine hK _ _ (fun _ => hS8) ?_
          clear hK K
          refine wpAnyL_one (i := 28) (by kernel_rfl) rfl rfl (fun K hK => ?_)
          go_simp
          refine hK _ _ (fun _ => hS8) ?_
          clear hK K
          refine wpAnyL_take (i := 29) (v := ?v14) rfl (by kernel_rfl) (by kernel_rfl) (by kernel_rfl) (by kernel_rfl) (fun _ _ _ h => h) (Or.inl ⟨by rfl, ?y14⟩) (by assumption) ?r14
          case y14 => (intro w' hSw; (try dsimp only at hSw); go_simp; try with_reducible rfl)
          try simp only [Act.put, List.setIfInBounds_toArray, List.set_cons_zero, List.set_cons_succ]
          refine wpAnyL_take (i := 30) (v := ?v15) rfl (by kernel_rfl) (by kernel_rfl) (by kernel_rfl) (by kernel_rfl) (fun _ _ _ h => h) (Or.inl ⟨by rfl, ?y15⟩) (by assumption) ?r15
          case y15 => (intro w' hSw; (try dsimp only at hSw); go_simp; try with_reducible rfl)
          try simp only [Act.put, List.setIfInBounds_toArray, List.set_cons_zero, List.set_cons_succ]
          refine wpAnyL_take (i := 31) (v := ?v16) rfl (by kernel_rfl) (by kernel_rfl) (by kernel_rfl) (by kernel_rfl) (fun _ _ _ h => h) (Or.inl ⟨by rfl, ?y16⟩) (by assumption) ?r16
          case y16 => (intro w' hSw; (try dsimp only at hSw); go_simp; try with_reducible rfl)
          try simp only [Act.put, List.setIfInBounds_toArray, List.set_cons_zero, List.set_cons_succ]
          refine wpAnyL_take (i := 32) (v := ?v17) rfl (by kernel_rfl) (by kernel_rfl) (by kernel_rfl) (by kernel_rfl) (fun _ _ _ h => h) (Or.inl ⟨by rfl, ?y17⟩) (by assumption) ?r17
          case y17 => (intro w' hSw; (try dsimp only at hSw); go_simp; try with_reducible rfl)
          try simp only [Act.put, List.setIfInBounds_toArray, List.set_cons_zero, List.set_cons_succ]
          refine wpAnyL_take (i := 33) (v := ?v18) rfl (by kernel_rfl) (by kernel_rfl) (by kernel_rfl) (by kernel_rfl) (fun _ _ _ h => h) (Or.inl ⟨by rfl, ?y18⟩) (by assumption) ?r18
          case y18 => (intro w' hSw; (try dsimp only at hSw); go_simp; try with_reducible rfl)
          try simp only [Act.put, List.setIfInBounds_toArray, List.set_cons_zero, List.set_cons_succ]
          refine wpAnyL_take (i := 34) (v := ?v19) rfl (by kernel_rfl) (by kernel_rfl) (by kernel_rfl) (by kernel_rfl) (fun _ _ _ h => h) (Or.inl ⟨by rfl, ?y19⟩) (by assumption) ?r19
          case y19 => (intro w' hSw; (try dsimp only at hSw); go_simp; try with_reducible rfl)
          try simp only [Act.put, List.setIfInBounds_toArray, List.set_cons_zero, List.set_cons_succ]
          refine wpAnyL_one (i := 35) (by kernel_rfl) rfl rfl (fun K hK => ?_)
          go_simp
          refine hK _ _ (fun _ => hS8) ?_
          clear hK K
          refine wpAnyL_one (i := 36) (by kernel_rfl) rfl rfl (fun K hK => ?_)
          go_simp
          refine hK _ _ (fun _ => hS8) ?_
          clear hK K
          refine wpAnyL_done (by kernel_rfl) ?_ _
          have HS8 := Lib.hid hS8
          have hrange : Hid (∀ z ∈ l4, 0 ≤ z ∧ z < b.next.length) := by unfold Hid; rw [HL.out]; exact isoT_range OB.out HO.out
          have hl4n : l4.length ≤ 128 := by have := HLL.out; omega
          have HAw := Lib.hid (HA.out.below (hB8.mono (by rw [HW0.out]; exact Nat.le_refl _)))
          have HBw := Lib.hid (HB.out.below (hB8.mono (by rw [HW0.out]; exact Nat.le_refl _)))
          clear hS8 e1 e2 e3 e4 hl7 hl8
          go_wp2
          have HD0 : Hid (∃ n, w8 = w8.drewN n) := ⟨0, rfl⟩
          go_loopw [92] (fun i wr => ∃ k : Nat, k ≤ l4.length ∧ i = .int .i64 k ∧ Hid (∃ n, wr = w8.drewN n)) (fun i _ => l4.length - (intOf i).toNat)
          case atStart => exact ⟨0, by omega, rfl, HD0⟩
          case round =>
            clear HD0
            obtain ⟨k, hk, rfl, hD⟩ := hrel
            obtain ⟨w9, rfl⟩ : ∃ w9 : World, w9 = wr := ⟨_, rfl⟩
            have hb9 : Below w8.heap.size w8 w9 := by obtain ⟨n, e⟩ := hD.out; rw [e]; exact below_drewN _ _ _
            have hS9 : C4 w9 w.heap.size (some ⟨xb, xo, none⟩) acn (some ⟨yb, yo, none⟩) aco a ∧ C4 w9 (w.heap.size + 1) (some ⟨ub, uo, none⟩) bcn (some ⟨vb, vo, none⟩) bco b := ⟨HS8.out.1.below hb9 (by omega), HS8.out.2.below hb9 (by omega)⟩
            by_cases hlt : k < l4.length
            · obtain ⟨gb, go, t0, rfl, htc, ht0, -⟩ := (hs8.below hb9).at_int hlt
              have htr := hrange.out t0 (List.mem_of_getElem? ht0.out)
              obtain ⟨t, rfl⟩ := Int.eq_ofNat_of_zero_le htr.1
              have htn : t < b.next.length := by omega
              have htd : decide (b.next.length ≤ t) = false := by simp; omega
              obtain ⟨⟨j0, j1, j2, j3⟩, ⟨k0, k1, k2, k3⟩⟩ := hS9
              clear htr
              go_wp2
              refine wp_quiet_fast (by kernel_rfl) (by kernel_rfl) ?_
              repeat (first | go_big_quiet_step (fail) | quiet_step (fail))
              refine wpQuiet_nil ?_
              intro _ hw'
              obtain ⟨nq, hw''⟩ := hw'
              subst hw''
              go_wp2
              go_roundw
              case rel => exact ⟨k + 1, by omega, by go_num, dr_add hD _⟩
              case measure => simp [intOf]; omega
            · go_wp2
              go_loopw [113] (fun i wr => ∃ k : Nat, k ≤ l4.length ∧ i = .int .i64 k ∧ Hid (∃ n, wr = w8.drewN n)) (fun i _ => l4.length - (intOf i).toNat)
              case atStart => exact ⟨0, by omega, rfl, hD⟩
              case round =>
                clear hD hb9 hS9 hlt hk
                obtain ⟨s, hs, rfl, hD⟩ := hrel
                obtain ⟨wa, rfl⟩ : ∃ wa : World, wa = wr := ⟨_, rfl⟩
                have hba : Below w8.heap.size w8 wa := by obtain ⟨n, e⟩ := hD.out; rw [e]; exact below_drewN _ _ _
                have hSa : C4 wa w.heap.size (some ⟨xb, xo, none⟩) acn (some ⟨yb, yo, none⟩) aco a ∧ C4 wa (w.heap.size + 1) (some ⟨ub, uo, none⟩) bcn (some ⟨vb, vo, none⟩) bco b := ⟨HS8.out.1.below hba (by omega), HS8.out.2.below hba (by omega)⟩
                by_cases hls : s < l4.length
                · obtain ⟨⟨j0, j1, j2, j3⟩, -⟩ := hSa
                  go_wp2
                  clear j0 j1 j2 j3
                  go_loopw [118] (fun i wr => ∃ j : Nat, j ≤ a.inputs.toNat ∧ i = .int .i64 j ∧ Hid (∃ n, wr = w8.drewN n)) (fun i _ => a.inputs.toNat - (intOf i).toNat)
                  case atStart => exact ⟨0, by omega, rfl, hD⟩
                  case round =>
                    clear hD hba
                    obtain ⟨j, hj, rfl, hD⟩ := hrel
                    obtain ⟨wb, rfl⟩ : ∃ wb : World, wb = wr := ⟨_, rfl⟩
                    have hbb : Below w8.heap.size w8 wb := by obtain ⟨n, e⟩ := hD.out; rw [e]; exact below_drewN _ _ _
                    by_cases hlj : j < a.inputs.toNat
                    · have hlj2 : j < b.inputs.toNat := by rw [← HI.out]; exact hlj
                      have hlj3 : (j : Int) < a.inputs := by omega
                      have hsa : s < a.next.length := by have := HLL.out; omega
                      have hsao : s < a.out.length := by rw [OA.out.lo]; exact hsa
                      obtain ⟨⟨j0, j1, j2, j3⟩, ⟨k0, k1, k2, k3⟩⟩ := (show C4 wb w.heap.size (some ⟨xb, xo, none⟩) acn (some ⟨yb, yo, none⟩) aco a ∧ C4 wb (w.heap.size + 1) (some ⟨ub, uo, none⟩) bcn (some ⟨vb, vo, none⟩) bco b from ⟨HS8.out.1.below hbb (by omega), HS8.out.2.below hbb (by omega)⟩)
                      obtain ⟨gb, go, t0, rfl, htc, ht0, -⟩ := (hs8.below hbb).at_int hls
                      have htr := hrange.out t0 (List.mem_of_getElem? ht0.out)
                      obtain ⟨t, rfl⟩ := Int.eq_ofNat_of_zero_le htr.1
                      have htn : t < b.next.length := by omega
                      have hto : t < b.out.length := by rw [OB.out.lo]; exact htn
                      obtain ⟨b1, o1, c1, q1, b2, o2, c2, q2, n, y, ha1, ha2, ha3, ha4, ha5, ha6, ha7, ha8, ha9, ha10, ha11, ha12, ha13⟩ := (HAw.out.below hbb).atS OA.out hsa hlj
                      obtain ⟨b3, o3, c3, q3, b4, o4, c4', q4, n', y', hb1, hb2', hb3, hb4, hb5, hb6, hb7, hb8, hb9, hb10, hb11, hb12, hb13⟩ := (HBw.out.below hbb).atS OB.out htn hlj2
                      have hnl : n < l4.length := by have := HLL.out; omega
                      obtain ⟨gb', go', z, hgg, hzc, hz, -⟩ := (hs8.below hbb).at_int hnl
                      obtain ⟨rfl, rfl⟩ : gb = gb' ∧ go = go' := by simpa using hgg
                      have hat : isoAt a b l4 s j := by rw [HL.out]; exact HO.out.2 s (by rw [HO.out.1.1]; exact hsa) j hlj
                      unfold isoAt at hat
                      rw [getD_of_some ht0.out, Int.toNat_natCast, ha9.out, hb9.out, ha8.out, hb8.out, Int.toNat_natCast, getD_of_some hz.out] at hat
                      have hyb : (y != y') = false := by simp [hat.1]
                      have hzb : (z != (n' : Int)) = false := by simp [hat.2]
                      clear hat htr hgg
                      go_wp2
                      refine wp_quiet_fast (by kernel_rfl) (by kernel_rfl) ?_
                      repeat (first | go_big_quiet_step (fail) | quiet_step (fail))
                      refine wpQuiet_nil ?_
                      intro _ hw'
                      obtain ⟨nq, hw''⟩ := hw'
                      subst hw''
                      go_wp2
                      go_roundw
                      case rel => exact ⟨j + 1, by omega, by go_num, dr_add hD _⟩
                      case measure => simp [intOf]; omega
                    · have hlj3 : ¬ (j : Int) < a.inputs := by omega
                      go_wp2
                      go_roundw
                      case rel => exact ⟨s + 1, by omega, by go_num, hD⟩
                      case measure => simp [intOf]; omega
                · have s0 := OA.out.s0
                  have s1 := OA.out.s1
                  have hsl : a.start.toNat < l4.length := by have := HLL.out; omega
                  have hsl2 : a.start < (l4.length : Int) := by omega
                  obtain ⟨gb, go, z, rfl, hzc, hz, -⟩ := (hs8.below hba).at_int hsl
                  have hzs : z = b.start := by have := isoT_start OA.out HO.out; rw [← HL.out, getD_of_some hz.out] at this; exact this
                  have hzb : (z == b.start) = true := by simp [hzs]
                  clear hzs
                  have hBa := hB8.trans (hba.mono (by omega))
                  have hza : w.heap.size + 2 ≤ wa.heap.size := by have := hba.size; omega
                  go_wp2
                  refine wp_region_L (fun w' => (C4 w' w.heap.size (some ⟨xb, xo, none⟩) acn (some ⟨yb, yo, none⟩) aco a ∧ C4 w' (w.heap.size + 1) (some ⟨ub, uo, none⟩) bcn (some ⟨vb, vo, none⟩) bco b) ∧ w'.cell? ⟨gb, go + a.start.toNat, none⟩ = some (.int .i64 z)) [0, 1, 2, 3, 4, 5, 6] (by kernel_rfl) ?_
                  have hSS : (C4 wa.drew w.heap.size (some ⟨xb, xo, none⟩) acn (some ⟨yb, yo, none⟩) aco a ∧ C4 wa.drew (w.heap.size + 1) (some ⟨ub, uo, none⟩) bcn (some ⟨vb, vo, none⟩) bco b) ∧ wa.drew.cell? ⟨gb, go + a.start.toNat, none⟩ = some (.int .i64 z) := ⟨⟨hSa.1.drew, hSa.2.drew⟩, by simpa using hzc⟩
                  have hBd := hBa.drew
                  have hzd : w.heap.size + 2 ≤ wa.drew.heap.size := hza
                  have hgl : gb < wa.drew.heap.size := lt_of_cell hSS.2
                  clear hSa hzc hBa hza hba
                  generalize wa.drew = wc at *
                  refine wpAnyL_take (i := 0) (v := ?v20) rfl (by kernel_rfl) (by kernel_rfl) (by kernel_rfl) (by kernel_rfl) (fun _ _ _ h => h) (Or.inl ⟨by rfl, ?y20⟩) (by assumption) ?r20
                  case y20 => (intro w' hSw; (try dsimp only at hSw); go_simp; try with_reducible rfl)
                  try simp only [Act.put, List.setIfInBounds_toArray, List.set_cons_zero, List.set_cons_succ]
                  refine wpAnyL_take (i := 1) (v := ?v21) rfl (by kernel_rfl) (by kernel_rfl) (by kernel_rfl) (by kernel_rfl) (fun _ _ _ h => h) (Or.inl ⟨by rfl, ?y21⟩) (by assumption) ?r21
                  case y21 => (intro w' hSw; (try dsimp only at hSw); go_simp; try with_reducible rfl)
                  try simp only [Act.put, List.setIfInBounds_toArray, List.set_cons_zero, List.set_cons_succ]
                  refine wpAnyL_take (i := 2) (v := ?v22) rfl (by kernel_rfl) (by kernel_rfl) (by kernel_rfl) (by kernel_rfl) (fun _ _ _ h => h) (Or.inl ⟨by rfl, ?y22⟩) (by assumption) ?r22
                  case y22 => (intro w' hSw; (try dsimp only at hSw); go_simp; try with_reducible rfl)
                  try simp only [Act.put, List.setIfInBounds_toArray, List.set_cons_zero, List.set_cons_succ]
                  refine wpAnyL_take (i := 3) (v := ?v23) rfl (by kernel_rfl) (by kernel_rfl) (by kernel_rfl) (by kernel_rfl) (fun _ _ _ h => h) (Or.inl ⟨by rfl, ?y23⟩) (by assumption) ?r23
                  case y23 => (intro w' hSw; (try dsimp only at hSw); go_simp; try with_reducible rfl)
                  try simp only [Act.put, List.setIfInBounds_toArray, List.set_cons_zero, List.set_cons_succ]
                  refine wpAnyL_take (i := 4) (v := ?v24) rfl (by kernel_rfl) (by kernel_rfl) (by kernel_rfl) (by kernel_rfl) (fun _ _ _ h => h) (Or.inl ⟨by rfl, ?y24⟩) (by assumption) ?r24
                  case y24 => (intro w' hSw; (try dsimp only at hSw); go_simp; try with_reducible rfl)
                  try simp only [Act.put, List.setIfInBounds_toArray, List.set_cons_zero, List.set_cons_succ]
                  refine wpAnyL_take (i := 5) (v := ?v25) rfl (by kernel_rfl) (by kernel_rfl) (by kernel_rfl) (by kernel_rfl) (fun _ _ _ h => h) (Or.inl ⟨by rfl, ?y25⟩) (by assumption) ?r25
                  case y25 => (intro w' hSw; (try dsimp only at hSw); go_simp; try with_reducible rfl)
                  try simp only [Act.put, List.setIfInBounds_toArray, List.set_cons_zero, List.set_cons_succ]
                  refine wpAnyL_take (i := 6) (v := ?v26) rfl (by kernel_rfl) (by kernel_rfl) (by kernel_rfl) (by kernel_rfl) (fun _ _ _ h => h) (Or.inl ⟨by rfl, ?y26⟩) (by assumption) ?r26
                  case y26 => (intro w' hSw; (try dsimp only at hSw); go_simp; try with_reducible rfl)
                  try simp only [Act.put, List.setIfInBounds_toArray, List.set_cons_zero, List.set_cons_succ]
                  refine wpAnyL_one (i := 7) (by kernel_rfl) rfl rfl (fun K hK => ?_)
                  go_simp
                  refine hK _ _ (fun _ => hSS) ?_
                  clear hK K
                  refine wpAnyL_one (i := 8) (by kernel_rfl) rfl rfl (fun K hK => ?_)
                  go_simp
                  refine hK _ _ (fun _ => hSS) ?_
                  clear hK K
                  refine wpAnyL_one (i := 9) (by kernel_rfl) rfl rfl (fun K hK => ?_)
                  go_simp
                  refine (ex9_any).mono ?_
                  rintro e wz ⟨rfl, hbz⟩
                  have hSz : (C4 wz w.heap.size (some ⟨xb, xo, none⟩) acn (some ⟨yb, yo, none⟩) aco a ∧ C4 wz (w.heap.size + 1) (some ⟨ub, uo, none⟩) bcn (some ⟨vb, vo, none⟩) bco b) ∧ wz.cell? ⟨gb, go + a.start.toNat, none⟩ = some (.int .i64 z) := ⟨⟨hSS.1.1.below hbz (by omega), hSS.1.2.below hbz (by omega)⟩, (hbz.cell (p := ⟨gb, go + a.start.toNat, none⟩) hgl).trans hSS.2⟩
                  have hBf := h0.trans ((hBd.trans (hbz.mono hzd)).mono (by omega))
                  refine hK _ _ (fun _ => hSz) ?_
                  clear hK K hSS hbz
                  refine wpAnyL_one (i := 10) (by kernel_rfl) rfl rfl (fun K hK => ?_)
                  go_simp
                  refine hK _ _ (fun _ => hSz) ?_
                  clear hK K
                  refine wpAnyL_one (i := 11) (by kernel_rfl) rfl rfl (fun K hK => ?_)
                  go_simp
                  refine hK _ _ (fun _ => hSz) ?_
                  clear hK K
                  refine wpAnyL_done (by kernel_rfl) ?_ _
                  go_wp2
                  go_ret
                  exact ⟨rfl, hBf⟩
        · have hi := isoW_no hiso
          have h1 : l4 = [] ∧ f4 = false := by have := ha4.out; rw [hi] at this; exact this
          obtain ⟨rfl, rfl⟩ := h1
          clear hi hiso
          go_wp2_with fail
          refine (ex9_any).mono ?_
          rintro e wz ⟨rfl, hbz⟩
          have hBf := h0.trans ((hB5.trans (hbz.mono hz5)).mono (by omega))
          go_wp2
          go_ret
          exact ⟨rfl, hBf⟩
      · have hc2 : (chk a b != 0) = true := by simp [hc]
        clear hc
        go_wp2_with fail
        refine (ex9_any).mono ?_
        rintro e wz ⟨rfl, hbz⟩
        have hBf := h0.trans ((hB3.trans (hbz.mono hz3)).mono (by omega))
        go_wp2
        go_ret
        exact ⟨rfl, hBf⟩
end
end Go.Proofs.Ytdnmgiabgpilkaa
