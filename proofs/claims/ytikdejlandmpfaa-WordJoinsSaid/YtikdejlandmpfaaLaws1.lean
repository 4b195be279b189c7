/- The laws of chapter 1: checks, comparisons, numbers. No condition. -/
import Derived.Test.YtikdejlandmpfaaAwake1
namespace Go.Proofs.Ytikdejlandmpfaa
open Go.RowKit
theorem bel_drw {w w' : World} (h : Hid (∃ n, w' = w.drewN n)) : Below w.heap.size w w' := by obtain ⟨n, e⟩ := h.out; rw [e]; exact below_drewN _ _ _
section
variable {M : Nat → Prop} {w : World} {a b : Option Addr} {c d : Nat}
theorem same1_eq {xs ys : List Int} {v : Bool} (h1 : Sl M w a c xs) (h2 : Sl M w b d ys) (hv : decide (xs = ys) = v) :
    Calls Try.prog 19 #[.slice a xs.length c, .slice b ys.length d] w fun e w' => e = .returned (.bool v) ∧ Below w.heap.size w w' :=
  (same1_any h1 h2).mono fun _ _ ⟨h3, h4⟩ => ⟨by rw [h3, hv], bel_drw h4⟩

set_option maxHeartbeats 2000000 in
theorem lchecks_any {l : List Int} (h : Sl M w a c l) (n : Int) (_ : i64 n) :
    Calls Try.prog 3 #[.slice a l.length c, .int .i64 n] w fun e w' => e = .returned (.bool true) ∧ Below w.heap.size w w' := by
  have hll := h.le
  by_cases hb : 1100 < l.length
  · go_enter Try.func3, Try.ntmps3
    go_wp2_with fail
    refine (awake1_any).mono ?_
    rintro e w1 ⟨rfl, hB⟩
    go_wp2
    go_ret
    exact ⟨rfl, hB⟩
  · go_enter Try.func3, Try.ntmps3
    go_wp2_with fail
    refine (wcheck_any h n).mono ?_
    rintro e w1 ⟨rfl, hB1⟩
    go_wp2_with fail
    refine (checkR1_any (h.below hB1) n).mono ?_
    rintro e w2 ⟨rfl, hw⟩
    obtain rfl : w1 = w2 := hw.symm
    go_wp2_with fail
    refine (awake1_any).mono ?_
    rintro e w3 ⟨rfl, hB3⟩
    have hBf := hB1.trans (hB3.mono hB1.size)
    go_wp2
    go_ret
    exact ⟨rfl, hBf⟩

set_option maxHeartbeats 2000000 in
theorem lcompares_any {xs ys : List Int} (h : Sl M w a c xs) (k : Sl M w b d ys) :
    Calls Try.prog 7 #[.slice a xs.length c, .slice b ys.length d] w fun e w' => e = .returned (.bool true) ∧ Below w.heap.size w w' := by
  have hl1 := h.le
  have hl2 := k.le
  by_cases hb : 1100 < xs.length ∨ 1100 < ys.length
  · by_cases hb1 : 1100 < xs.length
    · have hd : decide (1100 < ((xs.length : Nat) : Int)) = true := by simp; omega
      clear hb
      go_enter Try.func7, Try.ntmps7
      go_wp2_with fail
      refine (awake1_any).mono ?_
      rintro e w1 ⟨rfl, hB⟩
      go_wp2
      go_ret
      exact ⟨rfl, hB⟩
    · have hd : decide (1100 < ((xs.length : Nat) : Int)) = false := by simp; omega
      have hd2 : decide (1100 < ((ys.length : Nat) : Int)) = true := by simp; omega
      clear hb
      go_enter Try.func7, Try.ntmps7
      go_wp2_with fail
      refine (awake1_any).mono ?_
      rintro e w1 ⟨rfl, hB⟩
      go_wp2
      go_ret
      exact ⟨rfl, hB⟩
  · have hd : decide (1100 < ((xs.length : Nat) : Int)) = false := by simp; omega
    have hd2 : decide (1100 < ((ys.length : Nat) : Int)) = false := by simp; omega
    clear hb
    go_enter Try.func7, Try.ntmps7
    go_wp2_with fail
    refine (cmpw_any h k).mono ?_
    rintro e w1 ⟨rfl, hB1⟩
    replace h := h.below hB1
    replace k := k.below hB1
    go_wp2_with fail
    refine (cmpR_any h k).mono ?_
    rintro e w2 ⟨rfl, hD2⟩
    have hb2 := bel_drw hD2
    have hB2 := hB1.trans (hb2.mono hB1.size)
    replace h := h.below hb2
    replace k := k.below hb2
    clear hb2 hD2 hB1
    go_wp2_with fail
    refine (lex_any h k).mono ?_
    rintro e w3 ⟨rfl, hw⟩
    obtain rfl : w2 = w3 := hw.symm
    go_wp2_with fail
    refine (lexR_any h k).mono ?_
    rintro e w3 ⟨rfl, hD3⟩
    have hb3 := bel_drw hD3
    have hB3 := hB2.trans (hb3.mono hB2.size)
    replace h := h.below hb3
    replace k := k.below hb3
    clear hb3 hD3 hB2
    go_wp2_with fail
    refine (hasp_any h k).mono ?_
    rintro e w4 ⟨rfl, hD4⟩
    have hb4 := bel_drw hD4
    have hB4 := hB3.trans (hb4.mono hB3.size)
    replace h := h.below hb4
    replace k := k.below hb4
    clear hb4 hD4 hB3
    go_wp2_with fail
    refine (haspR_any h k).mono ?_
    rintro e w5 ⟨rfl, hD5⟩
    have hb5 := bel_drw hD5
    have hB5 := hB4.trans (hb5.mono hB4.size)
    replace h := h.below hb5
    replace k := k.below hb5
    clear hb5 hD5 hB4
    go_wp2_with fail
    refine (com_any h k).mono ?_
    rintro e w6 ⟨rfl, hD6⟩
    have hb6 := bel_drw hD6
    have hB6 := hB5.trans (hb6.mono hB5.size)
    replace h := h.below hb6
    replace k := k.below hb6
    clear hb6 hD6 hB5
    go_wp2_with fail
    refine (comR_any h k).mono ?_
    rintro e w7 ⟨rfl, hD7⟩
    have hb7 := bel_drw hD7
    have hB7 := hB6.trans (hb7.mono hB6.size)
    clear hb7 hD7 hB6
    go_wp2_with fail
    refine (awake1_any).mono ?_
    rintro e w8 ⟨rfl, hb8⟩
    have hB8 := hB7.trans (hb8.mono hB7.size)
    go_wp2
    go_ret
    exact ⟨rfl, hB8⟩

set_option maxHeartbeats 2000000 in
theorem lnumbers_any {l : List Int} (h : Sl M w a c l) (m : Int) (hm : i64 m) (n : Int) (_ : i64 n) :
    Calls Try.prog 5 #[.slice a l.length c, .int .i64 m, .int .i64 n] w fun e w' => e = .returned (.bool true) ∧ Below w.heap.size w w' := by
  have hll := h.le
  have HM := Lib.hid hm
  clear hm
  by_cases hb : 1100 < l.length
  · go_enter Try.func5, Try.ntmps5
    go_wp2_with fail
    refine (awake1_any).mono ?_
    rintro e w1 ⟨rfl, hB⟩
    go_wp2
    go_ret
    exact ⟨rfl, hB⟩
  · go_enter Try.func5, Try.ntmps5
    go_wp2_with fail
    refine (next_any1 h n).mono ?_
    rintro e w1 ⟨a1, c1, l1, rfl, hl1, hs1, hB1⟩
    replace hs1 := sl_free hs1
    replace h := h.below hB1
    go_wp2_with fail
    refine (nextR_any h n).mono ?_
    rintro e w2 ⟨a2, c2, l2, rfl, hl2, hs2, hb2⟩
    have hB2 := hB1.trans (hb2.mono hB1.size)
    replace hs2 := sl_free hs2
    replace hs1 := hs1.below hb2
    replace h := h.below hb2
    clear hb2 hB1
    go_wp2_with fail
    refine (rank_any h n).mono ?_
    rintro e w3 ⟨rfl, hb3⟩
    have hB3 := hB2.trans (hb3.mono hB2.size)
    replace hs1 := hs1.below hb3
    replace hs2 := hs2.below hb3
    replace h := h.below hb3
    clear hb3 hB2
    go_wp2_with fail
    refine (rankR_any h n).mono ?_
    rintro e w4 ⟨rfl, hw⟩
    obtain rfl : w3 = w4 := hw.symm
    go_wp2_with fail
    refine (unr_any m n HM.out).mono ?_
    rintro e w4 ⟨a4, c4, l4, rfl, hl4, hs4, hb4⟩
    have hB4 := hB3.trans (hb4.mono hB3.size)
    replace hs4 := sl_free hs4
    replace hs1 := hs1.below hb4
    replace hs2 := hs2.below hb4
    clear hb4 hB3
    go_wp2_with fail
    refine (unrR_any m n HM.out).mono ?_
    rintro e w5 ⟨a5, c5, l5, rfl, hl5, hs5, hb5⟩
    have hB5 := hB4.trans (hb5.mono hB4.size)
    replace hs5 := sl_free hs5
    replace hs1 := hs1.below hb5
    replace hs2 := hs2.below hb5
    replace hs4 := hs4.below hb5
    clear hb5 hB4
    go_wp2_with fail
    refine (same1_eq hs1 hs2 (decide_eq_true (hl1.out.trans hl2.out.symm))).mono ?_
    rintro e w6 ⟨rfl, hb6⟩
    have hB6 := hB5.trans (hb6.mono hB5.size)
    replace hs4 := hs4.below hb6
    replace hs5 := hs5.below hb6
    clear hb6 hB5 hs1 hs2
    go_wp2_with fail
    refine (same1_eq hs4 hs5 (decide_eq_true (hl4.out.trans hl5.out.symm))).mono ?_
    rintro e w7 ⟨rfl, hb7⟩
    have hB7 := hB6.trans (hb7.mono hB6.size)
    clear hb7 hB6 hs4 hs5
    go_wp2_with fail
    refine (awake1_any).mono ?_
    rintro e w8 ⟨rfl, hb8⟩
    have hB8 := hB7.trans (hb8.mono hB7.size)
    go_wp2
    go_ret
    exact ⟨rfl, hB8⟩
end
end Go.Proofs.Ytikdejlandmpfaa
