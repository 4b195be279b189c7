/- The law's own example holds. No condition. -/
import Derived.Test.YtdnmgiabgpilkaaEx8
namespace Go.Proofs.Ytdnmgiabgpilkaa
open Go.RowKit
section
variable {M : Nat → Prop} {w : World} {p q : Option Addr} {c d : Nat}

theorem ret_eq {v v' : Value} (h : v = v') : Ending.returned v = .returned v' := by rw [h]

theorem ex8_partition (hm : Ma M w p c q d ex8M) : Calls Try.prog 18 #[.agg #[.int .i64 1, .int .i64 0, .slice p 4 c, .slice q 4 d], .int .i64 1] w fun e w' =>
    ∃ (a : Option Addr) (c : Nat) (l : List Int), e = .returned (.tuple #[.slice a l.length c, .int .i64 0]) ∧ Hid (l = [0, 0, 1, 0]) ∧ Sl (fun k => k < w.heap.size) w' a c l ∧ Below w.heap.size w w' :=
  (part_any hm 1).mono fun e w' ⟨a, c, l, h1, h2, h3, h4⟩ => ⟨a, c, l, by rw [h1, ex8_err], h2.out.trans ex8_part1, h3, h4⟩
theorem ex8_classes (hm : Ma M w p c q d ex8M) : Calls Try.prog 21 #[.agg #[.int .i64 1, .int .i64 0, .slice p 4 c, .slice q 4 d]] w fun e w' =>
    ∃ (a : Option Addr) (c : Nat) (l : List Int), e = .returned (.tuple #[.slice a l.length c, .int .i64 0]) ∧ Hid (l = [0, 1, 2, 0]) ∧ Sl (fun k => k < w.heap.size) w' a c l ∧ Below w.heap.size w w' :=
  (classes_any hm).mono fun e w' ⟨a, c, l, h1, h2, h3, h4⟩ => ⟨a, c, l, by rw [h1, ex8_err], h2.out.trans ex8_part, h3, h4⟩
theorem ex8_depths (hm : Ma M w p c q d ex8M) : Calls Try.prog 23 #[.agg #[.int .i64 1, .int .i64 0, .slice p 4 c, .slice q 4 d]] w fun e w' =>
    e = .returned (.tuple #[.int .i64 2, .int .i64 0]) ∧ Below w.heap.size w w' :=
  (depth_any hm).mono fun e w' ⟨d, h1, h2, h4⟩ => ⟨by rw [h1, ex8_err, h2.out.unique ex8_depth]; rfl, h4⟩
theorem ex8_mins (hm : Ma M w p c q d ex8M) : Calls Try.prog 25 #[.agg #[.int .i64 1, .int .i64 0, .slice p 4 c, .slice q 4 d]] w fun e w' =>
    ∃ p c q d, e = .returned (.tuple #[.agg #[.int .i64 1, .int .i64 0, .slice p 3 c, .slice q 3 d], .int .i64 0]) ∧ Ma (fun k => k < w.heap.size) w' p c q d ex8T ∧ Below w.heap.size w w' :=
  (min_any hm).mono fun e w' ⟨p, c, q, d, t, h1, h2, h3, h4⟩ => by
    obtain rfl : t = ex8T := h2.out.trans ex8_min
    exact ⟨p, c, q, d, by rw [h1, ex8_err]; rfl, h3, h4⟩
theorem ex8_none : Calls Try.prog 21 #[.agg #[.int .i64 0, .int .i64 0, .slice none 0 0, .slice none 0 0]] w fun e w' =>
    ∃ (a : Option Addr) (c l : Nat), e = .returned (.tuple #[.slice a l c, .int .i64 2]) ∧ Below w.heap.size w w' :=
  (classes_any (nothing_ma (fun _ => False) w)).mono fun e w' ⟨a, c, l, h1, h2, h3, h4⟩ => ⟨a, c, l.length, by rw [h1, none_err], h4⟩
theorem ex8_equal {a b : Option Addr} {c d : Nat} {xs ys : List Int} (h1 : Sl M w a c xs) (h2 : Sl M w b d ys) (h : xs = ys) :
    Calls Try.prog 20 #[.slice a xs.length c, .slice b ys.length d] w fun e w' => e = .returned (.bool true) ∧ ∃ n, w' = w.drewN n :=
  (equal_any h1 h2).mono fun e w' ⟨h3, h4⟩ => ⟨by rw [h3, decide_eq_true h], h4⟩
theorem ex8_same {p' q' : Option Addr} {c' d' : Nat} (hm : Ma M w p c q d ex8T) (hm' : Ma M w p' c' q' d' ex8T) : Calls Try.prog 27 #[.agg #[.int .i64 1, .int .i64 0, .slice p 3 c, .slice q 3 d], .agg #[.int .i64 1, .int .i64 0, .slice p' 3 c', .slice q' 3 d']] w fun e w' =>
    e = .returned (.bool true) ∧ Below w.heap.size w w' :=
  (same6_any hm hm').mono fun e w' ⟨h1, h2⟩ => ⟨by rw [h1, decide_eq_true rfl], h2⟩
theorem ex8_minimalsT (hm : Ma M w p c q d ex8T) : Calls Try.prog 28 #[.agg #[.int .i64 1, .int .i64 0, .slice p 3 c, .slice q 3 d]] w fun e w' =>
    e = .returned (.bool true) ∧ Below w.heap.size w w' :=
  (minimal_any hm).mono fun e w' ⟨b, h1, h2, h3⟩ => ⟨by rw [h1, h2.out, ex8_minimalT], h3⟩
theorem ex8_minimals (hm : Ma M w p c q d ex8M) : Calls Try.prog 28 #[.agg #[.int .i64 1, .int .i64 0, .slice p 4 c, .slice q 4 d]] w fun e w' =>
    e = .returned (.bool false) ∧ Below w.heap.size w w' :=
  (minimal_any hm).mono fun e w' ⟨b, h1, h2, h3⟩ => ⟨by rw [h1, h2.out, ex8_minimal], h3⟩
end

set_option maxRecDepth 100000 in
set_option maxHeartbeats 4000000 in
theorem ex8_any {w : World} : Calls Try.prog 17 #[] w fun e w' => e = .returned (.bool true) ∧ Below w.heap.size w w' := by
  obtain ⟨hma, hbe, hsz, hbk⟩ := ex8_base w
  rw [show w.heap.size + 10 = w.heap.size + 1 + 1 + 1 + 1 + 1 + 1 + 1 + 1 + 1 + 1 from rfl] at hbk
  go_enter Try.func17, Try.ntmps17
  go_wp2_with fail
  obtain ⟨W, hW⟩ : ∃ W, W = ex8W w := ⟨_, rfl⟩
  unfold ex8W at hW
  rw [← hW]
  rw [show ex8W w = W from hW.symm] at hma hbe hsz hbk
  have HW := Lib.hid hW
  clear hW HW
  generalize hp : (some (⟨w.heap.size + 1 + 1 + 1 + 1, 0, none⟩ : Addr)) = p at *
  generalize hq : (some (⟨w.heap.size + 1 + 1 + 1 + 1 + 1 + 1 + 1 + 1 + 1, 0, none⟩ : Addr)) = q at *
  clear hp hq
  have hbb : w.heap.size + 1 + 1 + 1 + 1 + 1 + 1 + 1 + 1 + 1 + 1 < W.heap.size := by omega
  have hbw : w.heap.size ≤ w.heap.size + 1 + 1 + 1 + 1 + 1 + 1 + 1 + 1 + 1 + 1 := by omega
  generalize w.heap.size + 1 + 1 + 1 + 1 + 1 + 1 + 1 + 1 + 1 + 1 = b at *
  obtain ⟨hc0, hc1, hc2, hc3⟩ := cells4 hbk
  clear hsz hbk
  refine (ex8_partition hma).mono ?_
  rintro e w1 ⟨a1, c1, l1, rfl, hl1, hs1, hb1⟩
  have hz1 : W.heap.size ≤ w1.heap.size := hb1.size
  have hm1 := hma.below hb1
  have hx1 : ∀ o, w1.cell? ⟨b, o, none⟩ = W.cell? ⟨b, o, none⟩ := fun o => hb1.cell hbb
  go_wp2_with fail
  refine (ex8_classes hm1).mono ?_
  rintro e w2 ⟨a2, c2, l2, rfl, hl2, hs2, hb2⟩
  have hB2 := hb1.trans (hb2.mono hz1)
  have hz2 : W.heap.size ≤ w2.heap.size := hB2.size
  have hm2 := hma.below hB2
  have hx2 : ∀ o, w2.cell? ⟨b, o, none⟩ = W.cell? ⟨b, o, none⟩ := fun o => hB2.cell hbb
  replace hs1 := hs1.below hb2
  clear hx1
  go_wp2_with fail
  refine (ex8_depths hm2).mono ?_
  rintro e w3 ⟨rfl, hb3⟩
  have hB3 := hB2.trans (hb3.mono hz2)
  have hz3 : W.heap.size ≤ w3.heap.size := hB3.size
  have hm3 := hma.below hB3
  have hx3 : ∀ o, w3.cell? ⟨b, o, none⟩ = W.cell? ⟨b, o, none⟩ := fun o => hB3.cell hbb
  replace hs1 := hs1.below hb3
  replace hs2 := hs2.below hb3
  clear hx2
  go_wp2_with fail
  refine (ex8_mins hm3).mono ?_
  rintro e w4 ⟨p4, c4, q4, d4, rfl, hm4, hb4⟩
  have hB4 := hB3.trans (hb4.mono hz3)
  have hz4 : W.heap.size ≤ w4.heap.size := hB4.size
  replace hs1 := hs1.below hb4
  replace hs2 := hs2.below hb4
  clear hx3
  go_wp2_with fail
  refine (ex8_none).mono ?_
  rintro e w5 ⟨a5, c5, l5, rfl, hb5⟩
  have hz5 : w4.heap.size + 1 ≤ w5.heap.size := by have := hb5.size; simpa using this
  have hT5 : Below (w4.heap.size + 1) (w4.alloc (.cells #[.int .i64 1, .int .i64 0, .slice p4 3 c4, .slice q4 3 d4] 24)) w5 := hb5.mono (by simp)
  have hW5 : Below w4.heap.size w4 w5 := ((Below.refl _ _).alloc (Nat.le_refl _) _).trans (hT5.mono (by omega))
  have hB5 : Below W.heap.size W w5 := hB4.trans (hW5.mono hz4)
  replace hs1 := hs1.below hW5
  replace hs2 := hs2.below hW5
  have hm5 := hm4.below hW5
  clear hb5 hb1 hb2 hb3 hb4 hm1 hm2 hm3 hm4
  have HE1 := Lib.hid (ex8_equal (w := w5.alloc (.cells #[.int .i64 0, .int .i64 0, .int .i64 1, .int .i64 0] 3)) (b := some ⟨w5.heap.size, 0, none⟩) (d := 4) (ys := [0, 0, 1, 0])
    ((hs1.anti (M' := fun _ => False) (fun _ _ h => h.elim)).alloc _) (Sl.lit (heap_alloc_new _ _) rfl id (fun x hx => i64_small (by simp at hx; omega)) rfl (by unfold maxLen; omega)) hl1.out)
  go_wp2_with fail
  refine (HE1.out).mono ?_
  rintro e w6 ⟨rfl, n6, rfl⟩
  have hW6 : Below w5.heap.size w5 ((w5.alloc (.cells #[.int .i64 0, .int .i64 0, .int .i64 1, .int .i64 0] 3)).drewN n6) := ((Below.refl _ _).alloc (Nat.le_refl _) _).trans (below_drewN _ _ _)
  clear HE1
  generalize ((w5.alloc (.cells #[.int .i64 0, .int .i64 0, .int .i64 1, .int .i64 0] 3)).drewN n6) = w6 at *
  have hz6 : w5.heap.size ≤ w6.heap.size := hW6.size
  replace hs2 := hs2.below hW6
  have HE2 := Lib.hid (ex8_equal (w := w6.alloc (.cells #[.int .i64 0, .int .i64 1, .int .i64 2, .int .i64 0] 3)) (b := some ⟨w6.heap.size, 0, none⟩) (d := 4) (ys := [0, 1, 2, 0])
    ((hs2.anti (M' := fun _ => False) (fun _ _ h => h.elim)).alloc _) (Sl.lit (heap_alloc_new _ _) rfl id (fun x hx => i64_small (by simp at hx; omega)) rfl (by unfold maxLen; omega)) hl2.out)
  go_wp2_with fail
  refine (HE2.out).mono ?_
  rintro e w7 ⟨rfl, n7, rfl⟩
  have hW7 : Below w5.heap.size w5 ((w6.alloc (.cells #[.int .i64 0, .int .i64 1, .int .i64 2, .int .i64 0] 3)).drewN n7) := (hW6.alloc (by omega) _).trans (below_drewN _ _ _)
  clear HE2 hs1 hs2
  generalize ((w6.alloc (.cells #[.int .i64 0, .int .i64 1, .int .i64 2, .int .i64 0] 3)).drewN n7) = w7 at *
  have hz7 : w5.heap.size ≤ w7.heap.size := hW7.size
  have hT7 := hT5.trans (hW7.mono hz5)
  have hx7 : ∀ o, w7.cell? ⟨w4.heap.size, o, none⟩ = _ := fun o => hT7.cell (by simp)
  obtain ⟨hwant, hwb⟩ := ex8_want w7
  have hm7 := (hm5.below hW7).below hwb
  have HS := Lib.hid (ex8_same (hm7.ext (Ext.sub_only (M' := fun _ => False) fun _ _ h => h.elim)) (hwant.ext (Ext.sub_only (M' := fun _ => False) fun _ _ h => h.elim)))
  clear hwant
  go_wp2_with fail
  refine (HS.out).mono ?_
  rintro e w8 ⟨rfl, hb8⟩
  have hW8 : Below w7.heap.size w7 w8 := hwb.trans (hb8.mono hwb.size)
  have hT8 := hT7.trans (hW8.mono (by omega))
  have hx8 : ∀ o, w8.cell? ⟨w4.heap.size, o, none⟩ = _ := fun o => hT8.cell (by simp)
  have hz8 : w7.heap.size ≤ w8.heap.size := hW8.size
  have hm8 := hm7.below hb8
  clear HS hx7 hb8 hwb hm7
  go_wp2_with fail
  refine (ex8_minimalsT hm8).mono ?_
  rintro e w9 ⟨rfl, hb9⟩
  have hW9 : Below w7.heap.size w7 w9 := hW8.trans (hb9.mono hz8)
  have hB9 : Below W.heap.size W w9 := hB5.trans ((hW7.mono (by omega)).trans (hW9.mono (by omega)))
  have hx9 : ∀ o, w9.cell? ⟨b, o, none⟩ = W.cell? ⟨b, o, none⟩ := fun o => hB9.cell hbb
  have hm9 := hma.below hB9
  clear hb9 hx8
  go_wp2_with fail
  refine (ex8_minimals hm9).mono ?_
  rintro e w10 ⟨rfl, hb10⟩
  have hB10 : Below w.heap.size w w10 := hbe.trans ((hB9.mono (by omega)).trans (hb10.mono (by have := hB9.size; omega)))
  go_wp2
  go_ret
  exact ⟨rfl, hB10⟩
end Go.Proofs.Ytdnmgiabgpilkaa
