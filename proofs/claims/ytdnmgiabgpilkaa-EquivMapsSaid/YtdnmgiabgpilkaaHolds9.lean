/- The example of chapter 9 holds. No condition. -/
import Derived.Test.YtdnmgiabgpilkaaEx9
import Derived.Test.YtdnmgiabgpilkaaIso
import Derived.Test.YtdnmgiabgpilkaaHolds8
import Derived.Deep.Cut
namespace Go.Proofs.Ytdnmgiabgpilkaa
open Go.RowKit
section
variable {M M' : Nat → Prop} {w : World} {p q r t : Option Addr} {c d e f : Nat}
theorem ansW_some {v l : List Int} {f : Bool} (h : ansW (some v) l f) : l = v ∧ f = true := h
theorem ex9_dists (ha : Ma M w p c q d ex9A) (hb : Ma M w r e t f ex9B) : Calls Try.prog 31 #[.agg #[.int .i64 1, .int .i64 0, .slice p 2 c, .slice q 2 d], .agg #[.int .i64 1, .int .i64 0, .slice r 3 e, .slice t 3 f]] w fun e w' =>
    ∃ (a : Option Addr) (c : Nat) (l : List Int), e = .returned (.tuple #[.slice a l.length c, .bool true, .int .i64 0]) ∧ Hid (l = [0, 0, 0]) ∧ Sl (fun k => k < w.heap.size) w' a c l ∧ Below w.heap.size w w' :=
  (dist_any ha hb).mono fun e w' ⟨a, c, l, g, h1, h2, h3, h4⟩ => by
    have h5 := h2.out
    rw [ex9_dist] at h5
    obtain ⟨h6, h7⟩ := ansW_some h5
    exact ⟨a, c, l, by rw [h1, ex9_ab, h7], h6, h3, h4⟩
theorem ex9_sts (hb : Ma M w r e t f ex9B) : Calls Try.prog 35 #[.agg #[.int .i64 1, .int .i64 0, .slice r 3 e, .slice t 3 f], .int .i64 0, .int .i64 1] w fun e w' =>
    ∃ (a : Option Addr) (c : Nat) (l : List Int), e = .returned (.tuple #[.slice a l.length c, .bool true, .int .i64 0]) ∧ Hid (l = [0, 0]) ∧ Sl (fun k => k < w.heap.size) w' a c l ∧ Below w.heap.size w w' :=
  (states_any hb 0 1 (i64_small (by decide)) (i64_small (by decide))).mono fun e w' ⟨a, c, l, g, h1, h2, h3, h4⟩ => by
    have h5 := h2.out
    rw [ex9_st] at h5
    obtain ⟨h6, h7⟩ := ansW_some h5
    exact ⟨a, c, l, by rw [h1, ex9_sterr, h7], h6, h3, h4⟩
theorem ex9_up2s (ha : Ma M w p c q d ex9A) (hb : Ma M w r e t f ex9B) : Calls Try.prog 39 #[.agg #[.int .i64 1, .int .i64 0, .slice p 2 c, .slice q 2 d], .agg #[.int .i64 1, .int .i64 0, .slice r 3 e, .slice t 3 f], .int .i64 2] w fun e w' =>
    e = .returned (.tuple #[.bool true, .int .i64 0]) ∧ Below w.heap.size w w' :=
  (upto_any ha hb 2 (i64_small (by decide))).mono fun e w' ⟨g, h1, h2, h4⟩ => ⟨by rw [h1, ex9_ab, h2.out, ex9_up2], h4⟩
theorem ex9_up3s (ha : Ma M w p c q d ex9A) (hb : Ma M w r e t f ex9B) : Calls Try.prog 39 #[.agg #[.int .i64 1, .int .i64 0, .slice p 2 c, .slice q 2 d], .agg #[.int .i64 1, .int .i64 0, .slice r 3 e, .slice t 3 f], .int .i64 3] w fun e w' =>
    e = .returned (.tuple #[.bool false, .int .i64 0]) ∧ Below w.heap.size w w' :=
  (upto_any ha hb 3 (i64_small (by decide))).mono fun e w' ⟨g, h1, h2, h4⟩ => ⟨by rw [h1, ex9_ab, h2.out, ex9_up3], h4⟩
theorem ex9_isos (ha : Ma M w p c q d ex9B) (hb : Ma M w r e t f ex9C) : Calls Try.prog 37 #[.agg #[.int .i64 1, .int .i64 0, .slice p 3 c, .slice q 3 d], .agg #[.int .i64 1, .int .i64 1, .slice r 3 e, .slice t 3 f]] w fun e w' =>
    ∃ (a : Option Addr) (c : Nat) (l : List Int), e = .returned (.tuple #[.slice a l.length c, .bool true, .int .i64 0]) ∧ Hid (l = [1, 2, 0]) ∧ Sl (fun k => k < w.heap.size) w' a c l ∧ Below w.heap.size w w' :=
  (iso_any ha hb).mono fun e w' ⟨a, c, l, g, h1, h2, h3, h4⟩ => by
    have h5 := h2.out
    rw [ex9_iso] at h5
    obtain ⟨h6, h7⟩ := ansW_some h5
    exact ⟨a, c, l, by rw [h1, ex9_bc, h7], h6, h3, h4⟩
theorem ex9_sames (ha : Ma M w p c q d ex9B) (hb : Ma M w r e t f ex9C) : Calls Try.prog 33 #[.agg #[.int .i64 1, .int .i64 0, .slice p 3 c, .slice q 3 d], .agg #[.int .i64 1, .int .i64 1, .slice r 3 e, .slice t 3 f]] w fun e w' =>
    e = .returned (.tuple #[.bool true, .int .i64 0]) ∧ Below w.heap.size w w' :=
  (eqm_any ha hb).mono fun e w' ⟨g, h1, h2, h4⟩ => ⟨by rw [h1, ex9_bc, h2.out, ex9_bc, ex9_same]; rfl, h4⟩
theorem ex9_nones (ha : Ma M w p c q d ex9A) : Calls Try.prog 33 #[.agg #[.int .i64 1, .int .i64 0, .slice p 2 c, .slice q 2 d], .agg #[.int .i64 0, .int .i64 0, .slice none 0 0, .slice none 0 0]] w fun e w' =>
    ∃ g, e = .returned (.tuple #[.bool g, .int .i64 2]) ∧ Below w.heap.size w w' :=
  (eqm_any ha (nothing_ma M w)).mono fun e w' ⟨g, h1, h2, h4⟩ => ⟨g, by rw [h1, ex9_an], h4⟩
end

/-- Four cells of a block. -/
abbrev F4 (w : World) (b : Nat) (v0 v1 v2 v3 : Value) : Prop := w.cell? ⟨b, 0, none⟩ = some v0 ∧ w.cell? ⟨b, 1, none⟩ = some v1 ∧ w.cell? ⟨b, 2, none⟩ = some v2 ∧ w.cell? ⟨b, 3, none⟩ = some v3
theorem F4.below {w w' : World} {B b : Nat} {v0 v1 v2 v3 : Value} (h : F4 w b v0 v1 v2 v3) (hb : Below B w w') (hlt : b < B) : F4 w' b v0 v1 v2 v3 :=
  ⟨(hb.cell (p := ⟨b, 0, none⟩) hlt).trans h.1, (hb.cell (p := ⟨b, 1, none⟩) hlt).trans h.2.1, (hb.cell (p := ⟨b, 2, none⟩) hlt).trans h.2.2.1, (hb.cell (p := ⟨b, 3, none⟩) hlt).trans h.2.2.2⟩
theorem Ma.free {M : Nat → Prop} {w : World} {an ao : Option Addr} {cn co : Nat} {m : Mach} (h : Ma M w an cn ao co m) : Ma (fun _ => False) w an cn ao co m := h.ext (Ext.sub_only fun _ _ e => e.elim)

set_option maxRecDepth 100000 in
set_option maxHeartbeats 8000000 in
theorem ex9_any {w : World} : Calls Try.prog 30 #[] w fun e w' => e = .returned (.bool true) ∧ Below w.heap.size w w' := by
  go_enter Try.func30, Try.ntmps30
  obtain ⟨hmA, hbA, hsA, hkA⟩ := two9_base w (x1 := 1) (x2 := 0) (y1 := 0) (y2 := 0) (by decide) (by decide) (by decide) (by decide)
  go_upto_region 2 with (fail)
  obtain ⟨wA, hwA⟩ : ∃ wA, wA = two9W w 1 0 0 0 := ⟨_, rfl⟩
  have ewA : two9W w 1 0 0 0 = wA := hwA.symm
  unfold two9W at hwA
  rw [← hwA]
  rw [ewA] at hmA hbA hsA hkA
  clear hwA ewA
  have hxA : w.heap.size + 1 + 1 + 1 + 1 + 1 + 1 < wA.heap.size := by omega
  have hlA : w.heap.size ≤ wA.heap.size := by omega
  clear hsA
  generalize hp : (some (⟨w.heap.size + 1 + 1, 0, none⟩ : Addr)) = pa at *
  generalize hq : (some (⟨w.heap.size + 1 + 1 + 1 + 1 + 1, 0, none⟩ : Addr)) = qa at *
  clear hp hq
  generalize w.heap.size + 1 + 1 + 1 + 1 + 1 + 1 = A at *
  have hFA := cells4 hkA
  clear hkA
  obtain ⟨hmB, hbB, hsB, hkB⟩ := three9_base wA (st := 0) (x1 := 1) (x2 := 2) (x3 := 0) (y1 := 0) (y2 := 0) (y3 := 1) (by decide) (by decide) (by decide) (by decide) (by decide) (by decide) (by decide)
  go_upto_region 3 with (fail)
  obtain ⟨wB, hwB⟩ : ∃ wB, wB = three9W wA 0 1 2 0 0 0 1 := ⟨_, rfl⟩
  have ewB : three9W wA 0 1 2 0 0 0 1 = wB := hwB.symm
  unfold three9W at hwB
  rw [← hwB]
  rw [ewB] at hmB hbB hsB hkB
  clear hwB ewB
  have hxB : wA.heap.size + 1 + 1 + 1 + 1 + 1 + 1 + 1 + 1 < wB.heap.size := by omega
  have hlB : wA.heap.size ≤ wB.heap.size := by omega
  clear hsB
  generalize hp : (some (⟨wA.heap.size + 1 + 1 + 1, 0, none⟩ : Addr)) = pb at *
  generalize hq : (some (⟨wA.heap.size + 1 + 1 + 1 + 1 + 1 + 1 + 1, 0, none⟩ : Addr)) = qb at *
  clear hp hq
  generalize wA.heap.size + 1 + 1 + 1 + 1 + 1 + 1 + 1 + 1 = B at *
  have hFB := cells4 hkB
  clear hkB
  obtain ⟨hmC, hbC, hsC, hkC⟩ := three9_base wB (st := 1) (x1 := 1) (x2 := 2) (x3 := 0) (y1 := 1) (y2 := 0) (y3 := 0) (by decide) (by decide) (by decide) (by decide) (by decide) (by decide) (by decide)
  go_upto_region 4 with (fail)
  obtain ⟨wC, hwC⟩ : ∃ wC, wC = three9W wB 1 1 2 0 1 0 0 := ⟨_, rfl⟩
  have ewC : three9W wB 1 1 2 0 1 0 0 = wC := hwC.symm
  unfold three9W at hwC
  rw [← hwC]
  rw [ewC] at hmC hbC hsC hkC
  clear hwC ewC
  have hxC : wB.heap.size + 1 + 1 + 1 + 1 + 1 + 1 + 1 + 1 < wC.heap.size := by omega
  have hlC : wB.heap.size ≤ wC.heap.size := by omega
  clear hsC
  generalize hp : (some (⟨wB.heap.size + 1 + 1 + 1, 0, none⟩ : Addr)) = pc at *
  generalize hq : (some (⟨wB.heap.size + 1 + 1 + 1 + 1 + 1 + 1 + 1, 0, none⟩ : Addr)) = qc at *
  clear hp hq
  generalize wB.heap.size + 1 + 1 + 1 + 1 + 1 + 1 + 1 + 1 = C at *
  have hFC := cells4 hkC
  clear hkC
  have hAC : Below wA.heap.size wA wC := hbB.trans (hbC.mono hlB)
  have hW : Below w.heap.size w wC := hbA.trans (hAC.mono hlA)
  have mA : Ma (fun _ => False) wC pa 2 qa 2 ex9A := (hmA.free.below hAC)
  have mB : Ma (fun _ => False) wC pb 3 qb 3 ex9B := (hmB.free.below hbC)
  have mC : Ma (fun _ => False) wC pc 3 qc 3 ex9C := hmC.free
  have fA := F4.below hFA hAC hxA
  have fB := F4.below hFB hbC hxB
  have fC : F4 wC C _ _ _ _ := hFC
  have lA : A < wC.heap.size := by omega
  have lB : B < wC.heap.size := by omega
  have lC : C < wC.heap.size := hxC
  have lW : w.heap.size ≤ wC.heap.size := by omega
  have FA := Lib.hid fA
  have FB := Lib.hid fB
  have FC := Lib.hid fC
  have MA := Lib.hid mA
  have MB := Lib.hid mB
  have MC := Lib.hid mC
  clear hAC hbA hbB hbC hlA hlB hlC hxA hxB hxC hFA hFB hFC hmA hmB hmC mA mB mC
  obtain ⟨u0, u1, u2, u3⟩ := fA
  obtain ⟨v0, v1, v2, v3⟩ := fB
  obtain ⟨s0, s1, s2, s3⟩ := fC
  go_wp2_with fail
  refine (ex9_dists MA.out MB.out).mono ?_
  rintro e w1 ⟨a1, c1, l1, rfl, hl1, hs1, hb1⟩
  clear u0 u1 u2 u3 v0 v1 v2 v3 s0 s1 s2 s3
  have hB1 : Below wC.heap.size wC w1 := hb1
  obtain ⟨u0, u1, u2, u3⟩ := FA.out.below hB1 lA
  obtain ⟨v0, v1, v2, v3⟩ := FB.out.below hB1 lB
  obtain ⟨s0, s1, s2, s3⟩ := FC.out.below hB1 lC
  go_wp2_with fail
  refine (ex9_sts (MB.out.below hB1)).mono ?_
  rintro e w2 ⟨a2, c2, l2, rfl, hl2, hs2, hb2⟩
  clear u0 u1 u2 u3 v0 v1 v2 v3 s0 s1 s2 s3
  have hB2 : Below wC.heap.size wC w2 := hB1.trans (hb2.mono hB1.size)
  replace hs1 := hs1.below hb2
  obtain ⟨u0, u1, u2, u3⟩ := FA.out.below hB2 lA
  obtain ⟨v0, v1, v2, v3⟩ := FB.out.below hB2 lB
  obtain ⟨s0, s1, s2, s3⟩ := FC.out.below hB2 lC
  clear hb2
  go_wp2_with fail
  refine (ex9_up2s (MA.out.below hB2) (MB.out.below hB2)).mono ?_
  rintro e w3 ⟨rfl, hb3⟩
  clear u0 u1 u2 u3 v0 v1 v2 v3 s0 s1 s2 s3
  have hB3 : Below wC.heap.size wC w3 := hB2.trans (hb3.mono hB2.size)
  replace hs1 := hs1.below hb3
  replace hs2 := hs2.below hb3
  obtain ⟨u0, u1, u2, u3⟩ := FA.out.below hB3 lA
  obtain ⟨v0, v1, v2, v3⟩ := FB.out.below hB3 lB
  obtain ⟨s0, s1, s2, s3⟩ := FC.out.below hB3 lC
  clear hb3
  go_wp2_with fail
  refine (ex9_up3s (MA.out.below hB3) (MB.out.below hB3)).mono ?_
  rintro e w4 ⟨rfl, hb4⟩
  clear u0 u1 u2 u3 v0 v1 v2 v3 s0 s1 s2 s3
  have hB4 : Below wC.heap.size wC w4 := hB3.trans (hb4.mono hB3.size)
  replace hs1 := hs1.below hb4
  replace hs2 := hs2.below hb4
  obtain ⟨u0, u1, u2, u3⟩ := FA.out.below hB4 lA
  obtain ⟨v0, v1, v2, v3⟩ := FB.out.below hB4 lB
  obtain ⟨s0, s1, s2, s3⟩ := FC.out.below hB4 lC
  clear hb4
  go_wp2_with fail
  refine (ex9_isos (MB.out.below hB4) (MC.out.below hB4)).mono ?_
  rintro e w5 ⟨a5, c5, l5, rfl, hl5, hs5, hb5⟩
  clear u0 u1 u2 u3 v0 v1 v2 v3 s0 s1 s2 s3
  have hB5 : Below wC.heap.size wC w5 := hB4.trans (hb5.mono hB4.size)
  replace hs1 := hs1.below hb5
  replace hs2 := hs2.below hb5
  obtain ⟨u0, u1, u2, u3⟩ := FA.out.below hB5 lA
  obtain ⟨v0, v1, v2, v3⟩ := FB.out.below hB5 lB
  obtain ⟨s0, s1, s2, s3⟩ := FC.out.below hB5 lC
  clear hb5
  go_wp2_with fail
  refine (ex9_sames (MB.out.below hB5) (MC.out.below hB5)).mono ?_
  rintro e w6 ⟨rfl, hb6⟩
  clear u0 u1 u2 u3 v0 v1 v2 v3 s0 s1 s2 s3
  have hB6 : Below wC.heap.size wC w6 := hB5.trans (hb6.mono hB5.size)
  replace hs1 := hs1.below hb6
  replace hs2 := hs2.below hb6
  replace hs5 := hs5.below hb6
  obtain ⟨u0, u1, u2, u3⟩ := FA.out.below hB6 lA
  obtain ⟨v0, v1, v2, v3⟩ := FB.out.below hB6 lB
  obtain ⟨s0, s1, s2, s3⟩ := FC.out.below hB6 lC
  clear hb6
  go_wp2_with fail
  refine (ex9_nones (MA.out.below hB6)).mono ?_
  rintro e w7 ⟨g7, rfl, hb7⟩
  clear u0 u1 u2 u3 v0 v1 v2 v3 s0 s1 s2 s3
  have hB7 : Below wC.heap.size wC w7 := hB6.trans (hb7.mono hB6.size)
  replace hs1 := hs1.below hb7
  replace hs2 := hs2.below hb7
  replace hs5 := hs5.below hb7
  obtain ⟨u0, u1, u2, u3⟩ := FA.out.below hB7 lA
  obtain ⟨v0, v1, v2, v3⟩ := FB.out.below hB7 lB
  obtain ⟨s0, s1, s2, s3⟩ := FC.out.below hB7 lC
  clear hb7
  clear u0 u1 u2 u3 v0 v1 v2 v3 s0 s1 s2 s3
  have HE8 := Lib.hid (ex8_equal (w := w7.alloc (.cells #[.int .i64 0, .int .i64 0, .int .i64 0] 3)) (b := some ⟨w7.heap.size, 0, none⟩) (d := 3) (ys := [0, 0, 0])
    ((hs1.anti (M' := fun _ => False) (fun _ _ h => h.elim)).alloc _) (Sl.lit (heap_alloc_new _ _) rfl id (fun x hx => i64_small (by simp at hx; omega)) rfl (by unfold maxLen; omega)) hl1.out)
  go_wp2_with fail
  refine (HE8.out).mono ?_
  rintro e w8' ⟨rfl, n8, rfl⟩
  have hb8 : Below w7.heap.size w7 ((w7.alloc (.cells #[.int .i64 0, .int .i64 0, .int .i64 0] 3)).drewN n8) := ((Below.refl _ _).alloc (Nat.le_refl _) _).trans (below_drewN _ _ _)
  have hB8 : Below wC.heap.size wC ((w7.alloc (.cells #[.int .i64 0, .int .i64 0, .int .i64 0] 3)).drewN n8) := hB7.trans (hb8.mono hB7.size)
  clear HE8
  generalize ((w7.alloc (.cells #[.int .i64 0, .int .i64 0, .int .i64 0] 3)).drewN n8) = w8 at *
  replace hs2 := hs2.below hb8
  replace hs5 := hs5.below hb8
  have HE9 := Lib.hid (ex8_equal (w := w8.alloc (.cells #[.int .i64 0, .int .i64 0] 3)) (b := some ⟨w8.heap.size, 0, none⟩) (d := 2) (ys := [0, 0])
    ((hs2.anti (M' := fun _ => False) (fun _ _ h => h.elim)).alloc _) (Sl.lit (heap_alloc_new _ _) rfl id (fun x hx => i64_small (by simp at hx; omega)) rfl (by unfold maxLen; omega)) hl2.out)
  go_wp2_with fail
  refine (HE9.out).mono ?_
  rintro e w9' ⟨rfl, n9, rfl⟩
  have hb9 : Below w8.heap.size w8 ((w8.alloc (.cells #[.int .i64 0, .int .i64 0] 3)).drewN n9) := ((Below.refl _ _).alloc (Nat.le_refl _) _).trans (below_drewN _ _ _)
  have hB9 : Below wC.heap.size wC ((w8.alloc (.cells #[.int .i64 0, .int .i64 0] 3)).drewN n9) := hB8.trans (hb9.mono hB8.size)
  clear HE9
  generalize ((w8.alloc (.cells #[.int .i64 0, .int .i64 0] 3)).drewN n9) = w9 at *
  replace hs5 := hs5.below hb9
  have HE10 := Lib.hid (ex8_equal (w := w9.alloc (.cells #[.int .i64 1, .int .i64 2, .int .i64 0] 3)) (b := some ⟨w9.heap.size, 0, none⟩) (d := 3) (ys := [1, 2, 0])
    ((hs5.anti (M' := fun _ => False) (fun _ _ h => h.elim)).alloc _) (Sl.lit (heap_alloc_new _ _) rfl id (fun x hx => i64_small (by simp at hx; omega)) rfl (by unfold maxLen; omega)) hl5.out)
  go_wp2_with fail
  refine (HE10.out).mono ?_
  rintro e w10' ⟨rfl, n10, rfl⟩
  have hb10 : Below w9.heap.size w9 ((w9.alloc (.cells #[.int .i64 1, .int .i64 2, .int .i64 0] 3)).drewN n10) := ((Below.refl _ _).alloc (Nat.le_refl _) _).trans (below_drewN _ _ _)
  have hB10 : Below wC.heap.size wC ((w9.alloc (.cells #[.int .i64 1, .int .i64 2, .int .i64 0] 3)).drewN n10) := hB9.trans (hb10.mono hB9.size)
  clear HE10
  generalize ((w9.alloc (.cells #[.int .i64 1, .int .i64 2, .int .i64 0] 3)).drewN n10) = w10 at *
  have hBf := hW.trans (hB10.mono lW)
  go_wp2
  go_ret
  exact ⟨rfl, hBf⟩
end Go.Proofs.Ytdnmgiabgpilkaa
