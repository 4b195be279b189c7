/- Lex and Compare of the reference. No condition. -/
import Derived.Test.YtlgdijgfphedpaaWordR
namespace Go.Proofs.Ytlgdijgfphedpaa
open Go.RowKit
section
variable {M : Nat → Prop} {w : World} {a b : Option Addr} {c d : Nat}

set_option maxHeartbeats 1000000 in
theorem lexR_any {xs ys : List Int} (h1 : Sl M w a c xs) (h2 : Sl M w b d ys) :
    Calls Try.prog 58 #[.slice a xs.length c, .slice b ys.length d] w fun e w' => e = .returned (.int .i64 (lexW xs ys)) ∧ Hid (∃ n, w' = w.drewN n) := by
  have hl1 := h1.le
  have hl2 := h2.le
  have hle := comW_le xs ys
  have hC := comR_any h1 h2
  obtain ⟨k, hkd⟩ : ∃ k, k = comW xs ys := ⟨_, rfl⟩
  rw [← hkd] at hC hle
  have HC := Lib.hid hC
  have HK := Lib.hid hkd
  obtain ⟨hkx, hky⟩ := hle
  clear hC hkd
  by_cases hx : k = xs.length
  · have hxb : (((k : Nat) : Int) == ((xs.length : Nat) : Int)) = true := by simp [hx]
    by_cases hy : k = ys.length
    · have hyb : (((k : Nat) : Int) == ((ys.length : Nat) : Int)) = true := by simp [hy]
      have HF := Lib.hid (lexW_zero (a := xs) (b := ys) (by rw [← HK.out]; exact hx) (by rw [← HK.out]; exact hy))
      clear hx hy
      go_enter Try.func58, Try.ntmps58
      go_wp2_with fail
      refine (HC.out).mono ?_
      rintro e w1 ⟨rfl, hD⟩
      go_wp2
      go_ret
      exact ⟨ret_i HF.out.symm, hD⟩
    · have hyb : (((k : Nat) : Int) == ((ys.length : Nat) : Int)) = false := by simp; omega
      have HF := Lib.hid (lexW_short (a := xs) (b := ys) (by rw [← HK.out]; exact hx) (by rw [← HK.out]; exact hy))
      clear hx hy
      go_enter Try.func58, Try.ntmps58
      go_wp2_with fail
      refine (HC.out).mono ?_
      rintro e w1 ⟨rfl, hD⟩
      go_wp2
      go_ret
      exact ⟨ret_i HF.out.symm, hD⟩
  · have hxb : (((k : Nat) : Int) == ((xs.length : Nat) : Int)) = false := by simp; omega
    have hxl : k < xs.length := by omega
    by_cases hy : k = ys.length
    · have hyd : decide (k < ys.length) = false := by simp; omega
      have HF := Lib.hid (lexW_longer (a := xs) (b := ys) (by rw [← HK.out]; exact hx) (by rw [← HK.out]; exact hy))
      clear hx hy
      go_enter Try.func58, Try.ntmps58
      go_wp2_with fail
      refine (HC.out).mono ?_
      rintro e w1 ⟨rfl, hD⟩
      go_wp2
      refine wp_quiet_fast (by kernel_rfl) (by kernel_rfl) ?_
      repeat (first | go_big_quiet_step (fail) | quiet_step (fail))
      refine wpQuiet_nil ?_
      intro _ hw'
      obtain ⟨nq, hw''⟩ := hw'
      subst hw''
      go_wp2
      go_ret
      exact ⟨ret_i HF.out.symm, drw_add hD _⟩
    · have hyl : k < ys.length := by omega
      have hyd : decide (k < ys.length) = true := by simp; omega
      clear hx hy
      go_enter Try.func58, Try.ntmps58
      go_wp2_with fail
      refine (HC.out).mono ?_
      rintro e w1 ⟨rfl, hD⟩
      obtain ⟨b1, o1, x, rfl, hxc, hxk, -⟩ := (sl_drw hD h1).at_int hxl
      obtain ⟨b2, o2, y, rfl, hyc, hyk, -⟩ := (sl_drw hD h2).at_int hyl
      have HL := Lib.hid (lexW_at (a := xs) (b := ys) (by rw [← HK.out]; exact hxk.out) (by rw [← HK.out]; exact hyk.out))
      have HN := Lib.hid (comW_ne (a := xs) (b := ys) (by rw [← HK.out]; exact hxk.out) (by rw [← HK.out]; exact hyk.out))
      by_cases hlt : x < y
      · have hld : decide (x < y) = true := by simp [hlt]
        have HF : Hid (lexW xs ys = -1) := by unfold Hid; rw [HL.out, sgn_lt hlt]
        clear hlt
        go_wp2
        refine wp_quiet_fast (by kernel_rfl) (by kernel_rfl) ?_
        repeat (first | go_big_quiet_step (fail) | quiet_step (fail))
        refine wpQuiet_nil ?_
        intro _ hw'
        obtain ⟨nq, hw''⟩ := hw'
        subst hw''
        go_wp2
        go_ret
        exact ⟨ret_i HF.out.symm, drw_add hD _⟩
      · have hld : decide (x < y) = false := by simp; omega
        have HF : Hid (lexW xs ys = 1) := by unfold Hid; rw [HL.out, sgn_gt (by have := HN.out; omega)]
        clear hlt
        go_wp2
        refine wp_quiet_fast (by kernel_rfl) (by kernel_rfl) ?_
        repeat (first | go_big_quiet_step (fail) | quiet_step (fail))
        refine wpQuiet_nil ?_
        intro _ hw'
        obtain ⟨nq, hw''⟩ := hw'
        subst hw''
        go_wp2
        go_ret
        exact ⟨ret_i HF.out.symm, drw_add hD _⟩

theorem cmpR_any {xs ys : List Int} (h1 : Sl M w a c xs) (h2 : Sl M w b d ys) :
    Calls Try.prog 31 #[.slice a xs.length c, .slice b ys.length d] w fun e w' => e = .returned (.int .i64 (cmpW xs ys)) ∧ Hid (∃ n, w' = w.drewN n) := by
  have HL := Lib.hid (lexR_any h1 h2)
  have hl1 := h1.le
  have hl2 := h2.le
  have hD0 : Hid (∃ n, w = w.drewN n) := ⟨0, rfl⟩
  rcases Nat.lt_trichotomy xs.length ys.length with h | h | h
  · have HF : Hid (cmpW xs ys = -1) := by unfold Hid cmpW; rw [if_neg (by omega), sgn_lt (by omega)]
    go_enter Try.func31, Try.ntmps31
    go_wp2
    go_ret
    exact ⟨ret_i HF.out.symm, hD0⟩
  · have HF : Hid (cmpW xs ys = lexW xs ys) := by unfold Hid cmpW; rw [if_pos h]
    have n1 : ¬ xs.length < ys.length := by omega
    have n2 : ¬ ys.length < xs.length := by omega
    clear h
    go_enter Try.func31, Try.ntmps31
    go_wp2_with fail
    refine (HL.out).mono ?_
    rintro e w1 ⟨rfl, hD⟩
    go_wp2
    go_ret
    exact ⟨ret_i HF.out.symm, hD⟩
  · have HF : Hid (cmpW xs ys = 1) := by unfold Hid cmpW; rw [if_neg (by omega), sgn_gt (by omega)]
    have n1 : ¬ xs.length < ys.length := by omega
    go_enter Try.func31, Try.ntmps31
    go_wp2
    go_ret
    exact ⟨ret_i HF.out.symm, hD0⟩
end
end Go.Proofs.Ytlgdijgfphedpaa
