/- The law of Join of chapter 1. No condition. -/
import Derived.Test.YtikdejlandmpfaaLaws1
namespace Go.Proofs.Ytikdejlandmpfaa
open Go.RowKit
theorem flat_bound (rows : List (List Int)) (k : Nat) (h : ∀ r ∈ rows.take k, r.length ≤ 100) : (rows.take k).flatten.length ≤ 100 * k := by
  induction k with
  | zero => simp
  | succ k ih =>
    by_cases hk : k < rows.length
    · have e := List.getElem?_eq_getElem hk
      rw [flat_snoc e, List.length_append]
      have h1 := ih (fun r hr => h r (by rw [List.take_add_one, e]; exact List.mem_append_left _ hr))
      have h2 := h rows[k] (by rw [List.take_add_one, e]; exact List.mem_append_right _ (by simp))
      omega
    · have h1 : rows.take (k + 1) = rows.take k := by rw [List.take_of_length_le (by omega), List.take_of_length_le (by omega)]
      rw [h1] at h ⊢
      have := ih h
      omega
section
variable {M : Nat → Prop} {w : World} {a b : Option Addr} {c d : Nat}
set_option maxRecDepth 100000 in
set_option maxHeartbeats 8000000 in
theorem ljoins_any {rows : List (List Int)} (h : Sl M w a c rows) :
    Calls Try.prog 4 #[.slice a rows.length c] w fun e w' => e = .returned (.bool true) ∧ Below w.heap.size w w' := by
  have hll := h.le
  replace h := sl_free h
  have hz0 : Hid ((0 : Nat) = (rows.take 0).flatten.length) := rfl
  have ha0 : Hid (∀ r ∈ rows.take 0, r.length ≤ 100) := fun r hr => by simp at hr
  have hB0 := Below.refl w.heap.size w
  go_enter Try.func4, Try.ntmps4
  go_wp2
  go_loop [3, 4] (fun n i => ∃ (k z : Nat), k ≤ rows.length ∧ k ≤ 21 ∧ i = .int .i64 k ∧ n = .int .i64 z ∧ z ≤ 2100 ∧ Hid (z = (rows.take k).flatten.length) ∧ Hid (∀ r ∈ rows.take k, r.length ≤ 100)) (fun _ i => 21 - (intOf i).toNat)
  case atStart => exact ⟨0, 0, by omega, by omega, rfl, rfl, by omega, hz0, ha0⟩
  case round =>
    clear hz0 ha0
    obtain ⟨k, z, hk, hk2, rfl, rfl, hz2, hz, ha⟩ := hrel
    by_cases hlt : k < rows.length
    · have d0 : decide (k < rows.length) = true := by simp [hlt]
      by_cases hlt2 : k < 21
      · have d1 : decide ((k : Int) < 21) = true := by simp <;> omega
        obtain ⟨b, off, a1, r, c1, rfl, hc, hr, hs⟩ := h.at_row hlt
        have hrl := hs.le
        by_cases hbig : 100 < r.length
        · clear hs
          go_wp2_with fail
          refine (awake1_any).mono ?_
          rintro e w1 ⟨rfl, hb1⟩
          go_wp2
          go_ret
          exact ⟨rfl, hb1⟩
        · have hz3 : Hid (z + r.length = (rows.take (k + 1)).flatten.length) := by unfold Hid; rw [flat_snoc hr.out, List.length_append, hz.out]
          have ha3 : Hid (∀ q ∈ rows.take (k + 1), q.length ≤ 100) := by
            intro q hq
            rw [List.take_add_one, hr.out] at hq
            simp only [Option.toList_some, List.mem_append, List.mem_singleton] at hq
            rcases hq with hq | rfl
            · exact ha.out q hq
            · omega
          have hz4 : z + r.length ≤ 2100 := by have := flat_bound rows (k + 1) ha3.out; rw [hz3.out]; omega
          clear hs
          go_wp2
          go_round
          case rel => exact ⟨k + 1, z + r.length, by omega, by omega, by go_num, by go_num, hz4, hz3, ha3⟩
          case measure => simp [intOf]; omega
      · have d1 : decide ((k : Int) < 21) = false := by simp <;> omega
        have hbig : 20 < rows.length := by omega
        go_wp2_with fail
        refine (awake1_any).mono ?_
        rintro e w1 ⟨rfl, hb1⟩
        go_wp2
        go_ret
        exact ⟨rfl, hb1⟩
    · have d0 : decide (k < rows.length) = false := by simp <;> omega
      by_cases hbig : 20 < rows.length
      · go_wp2_with fail
        refine (awake1_any).mono ?_
        rintro e w1 ⟨rfl, hb1⟩
        go_wp2
        go_ret
        exact ⟨rfl, hb1⟩
      · have hall : Hid (z = rows.flatten.length) := by unfold Hid; rw [hz.out, List.take_of_length_le (by omega)]
        have hfl : Hid (rows.flatten.length < 1000000000000) := by unfold Hid; rw [← hall.out]; omega
        go_wp2_with fail
        refine (joinR_any h hfl.out).mono ?_
        rintro e w1 ⟨a1, c1, l1, rfl, hl1, hs1, hB1⟩
        replace hs1 := sl_free hs1
        replace h := h.below hB1
        go_wp2_with fail
        refine (join_own h hfl.out).mono ?_
        rintro e w2 ⟨a2, c2, l2, rfl, hl2, hO, hb2⟩
        have hB2 := hB1.trans (hb2.mono hB1.size)
        have hs2 := hO.toSl (M := fun k => k < w1.heap.size) (fun k hk hlt => by have := (hO.lt k hk).1; omega)
        replace hs2 := sl_free hs2
        have hs1' := hs1.below hb2
        have hzl : ((l2.length : Int) != (z : Int)) = false := by rw [hl2.out, hall.out]; simp
        have h2e : l2.length ≤ 2100 := by rw [hl2.out, ← hall.out]; exact hz2
        have HZ := Lib.hid hzl
        go_wp2_with fail
        refine (same1_eq hs2 hs1' (decide_eq_true (hl2.out.trans hl1.out.symm))).mono ?_
        rintro e w3 ⟨rfl, hb3⟩
        have hB3 := hb2.trans (hb3.mono hb2.size)
        replace hO := hO.below hb3
        clear hs2 hs1' hb2 hb3
        go_wp2
        go_loopw [7] (fun i wr => ∃ (k : Nat) (lst : List Int), k ≤ l2.length ∧ i = .int .i64 k ∧ Hid (l2.length = lst.length) ∧ Ow w1.heap.size (fun k => w1.heap.size ≤ k) wr 3 (.slice a2 l2.length c2) lst ∧ Below w1.heap.size w1 wr) (fun i _ => l2.length - (intOf i).toNat)
        case atStart => exact ⟨0, l2, by omega, rfl, rfl, hO, hB3⟩
        case round =>
          clear hO hB3
          obtain ⟨q, lst, hq, rfl, hlen, hO, hB⟩ := hrel
          obtain ⟨w4, rfl⟩ : ∃ w4 : World, w4 = wr := ⟨_, rfl⟩
          by_cases hql : q < l2.length
          · obtain ⟨g, x, rfl, hc, hf, -, -⟩ := hO.at_int' hlen.out (j := q) (by have := hlen.out; omega)
            have hg := (hO.lt g rfl).1
            have HO := Lib.hid (hO.set_int (x := 77) hlen.out hg q (by unfold i64; omega))
            have HB := Lib.hid (hB.setCell (p := ⟨g, q, none⟩) hg (.int .i64 77))
            clear hO hB
            go_wp2
            go_roundw
            case rel => exact ⟨q + 1, lst.set q 77, by omega, by go_num, by unfold Hid; simpa using hlen.out, HO.out, HB.out⟩
            case measure => simp [intOf]; omega
          · replace h := h.below hB
            replace hs1 := hs1.below hB
            go_wp2_with fail
            refine (joinR_any h hfl.out).mono ?_
            rintro e w5 ⟨a5, c5, l5, rfl, hl5, hs5, hb5⟩
            replace hs5 := sl_free hs5
            replace hs1 := hs1.below hb5
            have hB5 := hB1.trans ((hB.trans (hb5.mono hB.size)).mono hB1.size)
            clear hb5
            go_wp2_with fail
            refine (same1_eq hs5 hs1 (decide_eq_true (hl5.out.trans hl1.out.symm))).mono ?_
            rintro e w6 ⟨rfl, hb6⟩
            have hB6 := hB5.trans (hb6.mono hB5.size)
            clear hb6 hB5 hs5 hs1
            go_wp2_with fail
            refine (awake1_any).mono ?_
            rintro e w7 ⟨rfl, hb7⟩
            have hB7 := hB6.trans (hb7.mono hB6.size)
            go_wp2
            go_ret
            exact ⟨rfl, hB7⟩
end
end Go.Proofs.Ytikdejlandmpfaa
