/- Size and Check of the reference. No condition. -/
import Derived.Test.YtlgdijgfphedpaaCheck1
namespace Go.Proofs.Ytlgdijgfphedpaa
open Go.RowKit
section
variable {M : Nat → Prop} {w : World} {a : Option Addr} {c : Nat}

theorem size_yes (n : Int) (h : ¬ (n < 1 ∨ 1024 < n)) : Calls Try.prog 50 #[.int .i64 n] w fun e w' => e = .returned (.bool true) ∧ w' = w := by
  have h1 : 1 ≤ n := by omega
  have h2 : n ≤ 1024 := by omega
  clear h
  go_enter Try.func50, Try.ntmps50
  go_wp2
  go_ret
  exact ⟨rfl, rfl⟩
theorem size_no (n : Int) (h : n < 1 ∨ 1024 < n) : Calls Try.prog 50 #[.int .i64 n] w fun e w' => e = .returned (.bool false) ∧ w' = w := by
  by_cases h0 : 1 ≤ n
  · have h1 : ¬ n ≤ 1024 := by omega
    clear h
    go_enter Try.func50, Try.ntmps50
    go_wp2
    go_ret
    exact ⟨rfl, rfl⟩
  · clear h
    go_enter Try.func50, Try.ntmps50
    go_wp2
    go_ret
    exact ⟨rfl, rfl⟩

set_option maxHeartbeats 1000000 in
theorem checkR1_any {l : List Int} (h : Sl M w a c l) (n : Int) :
    Calls Try.prog 19 #[.slice a l.length c, .int .i64 n] w fun e w' => e = .returned (.int .i64 (wErr l n)) ∧ w' = w := by
  have hll := h.le
  by_cases hn : n < 1 ∨ 1024 < n
  · have HF := Lib.hid (wErr_r (w := l) hn)
    have HP := Lib.hid (size_no (w := w) n hn)
    clear hn
    go_enter Try.func19, Try.ntmps19
    go_wp2_with fail
    refine (HP.out).mono ?_
    rintro e w1 ⟨rfl, hw⟩
    obtain rfl : w = w1 := hw.symm
    go_wp2
    go_ret
    exact ⟨ret_ic HF.out.symm, rfl⟩
  · have HP := Lib.hid (size_yes (w := w) n hn)
    by_cases hl : 1024 < l.length
    · have HF := Lib.hid (wErr_l hn hl)
      clear hn
      go_enter Try.func19, Try.ntmps19
      go_wp2_with fail
      refine (HP.out).mono ?_
      rintro e w1 ⟨rfl, hw⟩
      obtain rfl : w = w1 := hw.symm
      go_wp2
      go_ret
      exact ⟨ret_ic HF.out.symm, rfl⟩
    · have HI := Lib.hid (fun hb => wErr_i (w := l) (n := n) hn hl hb)
      have H0 := Lib.hid (fun hb => wErr_0 (w := l) (n := n) hn hl hb)
      have hz : Hid (∀ y ∈ l.take 0, badS n y = false) := fun y hy => by simp at hy
      clear hn
      go_enter Try.func19, Try.ntmps19
      go_wp2_with fail
      refine (HP.out).mono ?_
      rintro e w1 ⟨rfl, hw⟩
      obtain rfl : w = w1 := hw.symm
      go_wp2
      go_loop [5] (fun i => ∃ k : Nat, k ≤ l.length ∧ i = .int .i64 k ∧ Hid (∀ y ∈ l.take k, badS n y = false)) (fun i => l.length - (intOf i).toNat)
      case atStart => exact ⟨0, by omega, rfl, hz⟩
      case round =>
        clear hz
        obtain ⟨k, hk, rfl, hz⟩ := hrel
        by_cases hlt : k < l.length
        · obtain ⟨b1, o1, x, rfl, hxc, hx, -⟩ := h.at_int hlt
          by_cases h0 : x < 0
          · have HF := Lib.hid (HI.out ⟨x, List.mem_of_getElem? hx.out, .inl h0⟩)
            go_wp2
            go_ret
            exact ⟨ret_ic HF.out.symm, rfl⟩
          · by_cases h1 : n ≤ x
            · have HF := Lib.hid (HI.out ⟨x, List.mem_of_getElem? hx.out, .inr h1⟩)
              go_wp2
              go_ret
              exact ⟨ret_ic HF.out.symm, rfl⟩
            · have hz2 : Hid (∀ y ∈ l.take (k + 1), badS n y = false) := take_bad hx.out (badS_f (by omega)) hz.out
              go_wp2
              go_round
              case rel => exact ⟨k + 1, by omega, by go_num, hz2⟩
              case measure => simp [intOf]; omega
        · have HF := Lib.hid (H0.out (fun ⟨x, hx, hb⟩ => by
            have := hz.out x (by rw [List.take_of_length_le (by omega)]; exact hx)
            rw [badS_t hb] at this; cases this))
          go_wp2
          go_ret
          exact ⟨ret_ic HF.out.symm, rfl⟩
end
end Go.Proofs.Ytlgdijgfphedpaa
