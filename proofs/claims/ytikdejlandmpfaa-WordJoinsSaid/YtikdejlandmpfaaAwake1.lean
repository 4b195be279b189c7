/- The examples of chapter 1 hold. No condition. -/
import Derived.Test.YtikdejlandmpfaaUnr
import Derived.Test.YtikdejlandmpfaaLexR
import Derived.Test.YtikdejlandmpfaaJoinR
import Derived.Test.YtikdejlandmpfaaRankLaw
namespace Go.Proofs.Ytikdejlandmpfaa
open Go.RowKit
theorem i64_small1 {x : Int} (h : -100 ≤ x ∧ x ≤ 100) : i64 x := by unfold i64; omega
theorem lit_sl {w : World} {b n : Nat} {vs : Array Value} {T : TypeId} {xs : List Int} (hb : w.heap.size = b) (hv : vs.toList = xs.map (.int .i64)) (hx : ∀ x ∈ xs, -100 ≤ x ∧ x ≤ 100) (hn : n = xs.length) (hs : n ≤ 100) :
    Sl (fun _ => False) (w.alloc (.cells vs T)) (some ⟨b, 0, none⟩) n xs := by
  subst hb
  exact Sl.lit (heap_alloc_new _ _) hv id (fun x h => i64_small1 (hx x h)) hn (by unfold maxLen; omega)
theorem sl_free {α : Type} [GR α] {M : Nat → Prop} {w : World} {a : Option Addr} {c : Nat} {l : List α} (h : Sl M w a c l) : Sl (fun _ => False) w a c l := h.anti fun _ _ h => h.elim
theorem bel_alloc {w w' : World} {o : Obj} (h : Below (w.alloc o).heap.size (w.alloc o) w') : Below w.heap.size w w' := ((Below.refl _ _).alloc (Nat.le_refl _) o).trans (h.mono (by simp))
theorem ret_vb {v : Value} {b b' : Bool} (h : b = b') : Ending.returned (.tuple #[v, .bool b]) = .returned (.tuple #[v, .bool b']) := by rw [h]
theorem ret_b {b b' : Bool} (h : b = b') : Ending.returned (.bool b) = .returned (.bool b') := by rw [h]
abbrev one1 (w : World) (x : Int) : World := w.alloc (.cells #[.int .i64 x] 3)
abbrev two1 (w : World) (x y : Int) : World := w.alloc (.cells #[.int .i64 x, .int .i64 y] 3)
abbrev three1 (w : World) (x y z : Int) : World := w.alloc (.cells #[.int .i64 x, .int .i64 y, .int .i64 z] 3)
section
variable {w : World}
theorem aw_next1 : Calls Try.prog 20 #[.slice (some ⟨w.heap.size, 0, none⟩) 2 2, .int .i64 2] (two1 w 0 1) fun e w' => ∃ (a : Option Addr) (c : Nat) (l : List Int), e = .returned (.tuple #[.slice a l.length c, .bool true]) ∧ Hid (l = [1, 0]) ∧ Sl (fun _ => False) w' a c l ∧ Below w.heap.size w w' :=
  (next_any1 (l := [0, 1]) (lit_sl rfl rfl (by decide) rfl (by decide)) 2).mono fun _ _ ⟨a, c, l, h1, h2, h3, h4⟩ => ⟨a, c, l, by rw [h1]; exact ret_vb (by decide), h2.out.trans (by decide), sl_free h3, bel_alloc h4⟩
theorem aw_next2 : Calls Try.prog 20 #[.slice (some ⟨w.heap.size, 0, none⟩) 2 2, .int .i64 2] (two1 w 1 1) fun e w' => ∃ (a : Option Addr) (c : Nat) (l : List Int), e = .returned (.tuple #[.slice a l.length c, .bool true]) ∧ Hid (l = [0, 0, 0]) ∧ Sl (fun _ => False) w' a c l ∧ Below w.heap.size w w' :=
  (next_any1 (l := [1, 1]) (lit_sl rfl rfl (by decide) rfl (by decide)) 2).mono fun _ _ ⟨a, c, l, h1, h2, h3, h4⟩ => ⟨a, c, l, by rw [h1]; exact ret_vb (by decide), h2.out.trans (by decide), sl_free h3, bel_alloc h4⟩
theorem aw_rank : Calls Try.prog 22 #[.slice (some ⟨w.heap.size, 0, none⟩) 2 2, .int .i64 3] (two1 w 1 1) fun e w' => e = .returned (.tuple #[.int .i64 8, .int .i64 0]) ∧ Below w.heap.size w w' :=
  (rank_any (l := [1, 1]) (lit_sl rfl rfl (by decide) rfl (by decide)) 3).mono fun _ _ ⟨h1, h4⟩ => ⟨by rw [h1]; exact ret_rk (by decide) (by decide), bel_alloc h4⟩
theorem aw_unr : Calls Try.prog 24 #[.int .i64 4, .int .i64 2] w fun e w' => ∃ (a : Option Addr) (c : Nat) (l : List Int), e = .returned (.tuple #[.slice a l.length c, .int .i64 0]) ∧ Hid (l = [0, 1]) ∧ Sl (fun _ => False) w' a c l ∧ Below w.heap.size w w' :=
  (unr_any 4 2 (i64_small1 (by decide))).mono fun _ _ ⟨a, c, l, h1, h2, h3, h4⟩ => ⟨a, c, l, by rw [h1]; exact ret_ni rfl (by decide +kernel), h2.out.trans (by decide +kernel), sl_free h3, h4⟩
theorem aw_cmp : Calls Try.prog 26 #[.slice (some ⟨w.heap.size, 0, none⟩) 1 1, .slice (some ⟨w.heap.size + 1, 0, none⟩) 2 2] (two1 (one1 w 1) 0 0) fun e w' => e = .returned (.int .i64 (-1)) ∧ Below w.heap.size w w' :=
  (cmpw_any (xs := [1]) (ys := [0, 0]) ((lit_sl rfl rfl (by decide) rfl (by decide)).alloc _) (lit_sl (by simp) rfl (by decide) rfl (by decide))).mono fun _ _ ⟨h1, h4⟩ => ⟨by rw [h1]; exact ret_i (by decide), bel_alloc (bel_alloc h4)⟩
theorem aw_lex : Calls Try.prog 28 #[.slice (some ⟨w.heap.size, 0, none⟩) 1 1, .slice (some ⟨w.heap.size + 1, 0, none⟩) 2 2] (two1 (one1 w 1) 0 0) fun e w' => e = .returned (.int .i64 1) ∧ Below w.heap.size w w' :=
  (lex_any (xs := [1]) (ys := [0, 0]) ((lit_sl rfl rfl (by decide) rfl (by decide)).alloc _) (lit_sl (by simp) rfl (by decide) rfl (by decide))).mono fun _ _ ⟨h1, h4⟩ => ⟨by rw [h1]; exact ret_i (by decide), by rw [h4]; exact bel_alloc (bel_alloc (Below.refl _ _))⟩
theorem aw_same2 {a : Option Addr} {c : Nat} {l : List Int} (x y : Int) (hb : (-100 ≤ x ∧ x ≤ 100) ∧ (-100 ≤ y ∧ y ≤ 100)) (h : Sl (fun _ => False) w a c l) (he : Hid (l = [x, y])) :
    Calls Try.prog 19 #[.slice a l.length c, .slice (some ⟨w.heap.size, 0, none⟩) 2 2] (two1 w x y) fun e w' => e = .returned (.bool true) ∧ Below w.heap.size w w' :=
  (same1_any (ys := [x, y]) (h.alloc _) (lit_sl rfl rfl (by intro u hu; simp at hu; omega) rfl (by simp))).mono fun _ _ ⟨h1, h4⟩ => ⟨by rw [h1]; exact ret_b (decide_eq_true he.out), by obtain ⟨n, h5⟩ := h4.out; rw [h5]; exact bel_alloc (below_drewN _ _ _)⟩
theorem aw_same3 {a : Option Addr} {c : Nat} {l : List Int} (x y z : Int) (hb : (-100 ≤ x ∧ x ≤ 100) ∧ (-100 ≤ y ∧ y ≤ 100) ∧ (-100 ≤ z ∧ z ≤ 100)) (h : Sl (fun _ => False) w a c l) (he : Hid (l = [x, y, z])) :
    Calls Try.prog 19 #[.slice a l.length c, .slice (some ⟨w.heap.size, 0, none⟩) 3 3] (three1 w x y z) fun e w' => e = .returned (.bool true) ∧ Below w.heap.size w w' :=
  (same1_any (ys := [x, y, z]) (h.alloc _) (lit_sl rfl rfl (by intro u hu; simp at hu; omega) rfl (by simp))).mono fun _ _ ⟨h1, h4⟩ => ⟨by rw [h1]; exact ret_b (decide_eq_true he.out), by obtain ⟨n, h5⟩ := h4.out; rw [h5]; exact bel_alloc (below_drewN _ _ _)⟩
theorem aw_join : Calls Try.prog 18 #[.slice (some ⟨w.heap.size + 1 + 1, 0, none⟩) 3 3]
    ((two1 (one1 w 1) 2 3).alloc (.cells #[.slice (some ⟨w.heap.size, 0, none⟩) 1 1, .slice none 0 0, .slice (some ⟨w.heap.size + 1, 0, none⟩) 2 2] 22)) fun e w' => ∃ (a : Option Addr) (c : Nat) (l : List Int), e = .returned (.slice a l.length c) ∧ Hid (l = [1, 2, 3]) ∧ Sl (fun _ => False) w' a c l ∧ Below w.heap.size w w' := by
  refine (join_any (rows := [[1], [], [2, 3]]) (M := fun _ => False) (Sl.litr (T := 22) (vs := #[.slice (some ⟨w.heap.size, 0, none⟩) 1 1, .slice none 0 0, .slice (some ⟨w.heap.size + 1, 0, none⟩) 2 2]) ?_ id rfl (by unfold maxLen; decide) fun j r hj => ?_) (by decide)).mono
    fun _ _ ⟨a, c, l, h1, h2, h3, h4⟩ => ⟨a, c, l, h1, h2.out.trans (by decide), sl_free h3, bel_alloc (bel_alloc (bel_alloc h4))⟩
  · rw [show w.heap.size + 1 + 1 = (two1 (one1 w 1) 2 3).heap.size from by simp]; exact heap_alloc_new _ _
  · match j, hj with
    | 0, hj => obtain rfl : [1] = r := by simpa using hj
               exact ⟨_, _, rfl, ((lit_sl rfl rfl (by decide) rfl (by decide)).alloc _).alloc _⟩
    | 1, hj => obtain rfl : [] = r := by simpa using hj
               exact ⟨_, _, rfl, Sl.nil _ _ _ (by unfold maxLen; decide)⟩
    | 2, hj => obtain rfl : [2, 3] = r := by simpa using hj
               exact ⟨_, _, rfl, (lit_sl (by simp) rfl (by decide) rfl (by decide)).alloc _⟩
    | j + 3, hj => simp at hj
theorem aw_com : Calls Try.prog 32 #[.slice (some ⟨w.heap.size, 0, none⟩) 3 3, .slice (some ⟨w.heap.size + 1, 0, none⟩) 3 3] (three1 (three1 w 1 2 3) 1 2 4) fun e w' => e = .returned (.int .i64 2) ∧ Below w.heap.size w w' :=
  (com_any (xs := [1, 2, 3]) (ys := [1, 2, 4]) ((lit_sl rfl rfl (by decide) rfl (by decide)).alloc _) (lit_sl (by simp) rfl (by decide) rfl (by decide))).mono fun _ _ ⟨h1, h4⟩ => ⟨by rw [h1]; exact ret_i (by decide), by obtain ⟨n, h5⟩ := h4.out; rw [h5]; exact bel_alloc (bel_alloc (below_drewN _ _ _))⟩
theorem aw_check : Calls Try.prog 15 #[.slice (some ⟨w.heap.size, 0, none⟩) 1 1, .int .i64 2] (one1 w 2) fun e w' => e = .returned (.int .i64 1) ∧ Below w.heap.size w w' :=
  (wcheck_any (l := [2]) (lit_sl rfl rfl (by decide) rfl (by decide)) 2).mono fun _ _ ⟨h1, h4⟩ => ⟨by rw [h1]; exact ret_i (by decide), bel_alloc h4⟩
end

set_option maxRecDepth 100000 in
set_option maxHeartbeats 4000000 in
theorem awake1_any {w : World} : Calls Try.prog 14 #[] w fun e w' => e = .returned (.bool true) ∧ Below w.heap.size w w' := by
  go_enter Try.func14, Try.ntmps14
  go_wp2_with fail
  refine (aw_next1).mono ?_
  rintro e w1 ⟨a1, c1, l1, rfl, hl1, hs1, hb1⟩
  go_wp2_with fail
  refine (aw_next2).mono ?_
  rintro e w2 ⟨a2, c2, l2, rfl, hl2, hs2, hb2⟩
  have hB2 := hb1.trans (hb2.mono hb1.size)
  replace hs1 := hs1.below hb2
  clear hb1 hb2
  go_wp2_with fail
  refine (aw_rank).mono ?_
  rintro e w3 ⟨rfl, hb3⟩
  have hB3 := hB2.trans (hb3.mono hB2.size)
  replace hs1 := hs1.below hb3
  replace hs2 := hs2.below hb3
  clear hb3 hB2
  go_wp2_with fail
  refine (aw_unr).mono ?_
  rintro e w4 ⟨a4, c4, l4, rfl, hl4, hs4, hb4⟩
  have hB4 := hB3.trans (hb4.mono hB3.size)
  replace hs1 := hs1.below hb4
  replace hs2 := hs2.below hb4
  clear hb4 hB3
  go_wp2_with fail
  refine (aw_cmp).mono ?_
  rintro e w5 ⟨rfl, hb5⟩
  have hB5 := hB4.trans (hb5.mono hB4.size)
  replace hs1 := hs1.below hb5
  replace hs2 := hs2.below hb5
  replace hs4 := hs4.below hb5
  clear hb5 hB4
  go_wp2_with fail
  refine (aw_lex).mono ?_
  rintro e w6 ⟨rfl, hb6⟩
  have hB6 := hB5.trans (hb6.mono hB5.size)
  replace hs1 := hs1.below hb6
  replace hs2 := hs2.below hb6
  replace hs4 := hs4.below hb6
  clear hb6 hB5
  go_wp2_with fail
  refine (aw_same2 1 0 (by decide) hs1 hl1).mono ?_
  rintro e w7 ⟨rfl, hb7⟩
  have hB7 := hB6.trans (hb7.mono hB6.size)
  replace hs2 := hs2.below hb7
  replace hs4 := hs4.below hb7
  clear hb7 hB6 hs1 hl1
  go_wp2_with fail
  refine (aw_same3 0 0 0 (by decide) hs2 hl2).mono ?_
  rintro e w8 ⟨rfl, hb8⟩
  have hB8 := hB7.trans (hb8.mono hB7.size)
  replace hs4 := hs4.below hb8
  clear hb8 hB7 hs2 hl2
  go_wp2_with fail
  refine (aw_same2 0 1 (by decide) hs4 hl4).mono ?_
  rintro e w9 ⟨rfl, hb9⟩
  have hB9 := hB8.trans (hb9.mono hB8.size)
  clear hb9 hB8 hs4 hl4
  go_wp2_with fail
  refine (aw_join).mono ?_
  rintro e w10 ⟨a10, c10, l10, rfl, hl10, hs10, hb10⟩
  have hB10 := hB9.trans (hb10.mono hB9.size)
  clear hb10 hB9
  go_wp2_with fail
  refine (aw_same3 1 2 3 (by decide) hs10 hl10).mono ?_
  rintro e w11 ⟨rfl, hb11⟩
  have hB11 := hB10.trans (hb11.mono hB10.size)
  clear hb11 hB10 hs10 hl10
  go_wp2_with fail
  refine (aw_com).mono ?_
  rintro e w12 ⟨rfl, hb12⟩
  have hB12 := hB11.trans (hb12.mono hB11.size)
  clear hb12 hB11
  go_wp2_with fail
  refine (aw_check).mono ?_
  rintro e w13 ⟨rfl, hb13⟩
  have hB13 := hB12.trans (hb13.mono hB12.size)
  clear hb13 hB12
  go_wp2
  go_ret
  exact ⟨rfl, hB13⟩
end Go.Proofs.Ytikdejlandmpfaa
