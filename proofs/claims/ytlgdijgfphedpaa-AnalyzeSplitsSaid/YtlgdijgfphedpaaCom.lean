/- Common of the program and of the reference. No condition. -/
import Derived.Test.YtlgdijgfphedpaaComP
namespace Go.Proofs.Ytlgdijgfphedpaa
open Go.RowKit
section
variable {M : Nat → Prop} {w : World} {a b : Option Addr} {c d : Nat}
theorem sl_drw {α : Type} [GR α] {M : Nat → Prop} {w wr : World} {a : Option Addr} {c : Nat} {l : List α} (h : Hid (∃ n, wr = w.drewN n)) (hs : Sl M w a c l) : Sl M wr a c l := by
  obtain ⟨n, e⟩ := h.out; rw [e]; exact hs.drewN n
theorem drw_add {w wr : World} (h : Hid (∃ n, wr = w.drewN n)) (m : Nat) : Hid (∃ n, wr.drewN m = w.drewN n) := by
  obtain ⟨n, rfl⟩ := h.out
  exact ⟨_, World.drewN_drewN _ _ _⟩

set_option maxHeartbeats 1000000 in
theorem comR_any {xs ys : List Int} (h1 : Sl M w a c xs) (h2 : Sl M w b d ys) :
    Calls Try.prog 40 #[.slice a xs.length c, .slice b ys.length d] w fun e w' => e = .returned (.int .i64 (comW xs ys)) ∧ Hid (∃ n, w' = w.drewN n) := by
  have hl1 := h1.le
  have hl2 := h2.le
  have hC0 : Hid (comW xs ys = 0 + comW (xs.drop 0) (ys.drop 0)) := by unfold Hid; simp
  have hD0 : Hid (∃ n, w = w.drewN n) := ⟨0, rfl⟩
  go_enter Try.func40, Try.ntmps40
  go_wp2
  go_loopw [5] (fun i wr => ∃ k : Nat, k ≤ xs.length ∧ k ≤ ys.length ∧ i = .int .i64 k ∧ Hid (comW xs ys = k + comW (xs.drop k) (ys.drop k)) ∧ Hid (∃ n, wr = w.drewN n)) (fun i _ => xs.length - (intOf i).toNat)
  case atStart => exact ⟨0, by omega, by omega, rfl, hC0, hD0⟩
  case round =>
    clear hC0 hD0
    obtain ⟨k, hkx, hky, rfl, hC, hD⟩ := hrel
    obtain ⟨w1, rfl⟩ : ∃ w1 : World, w1 = wr := ⟨_, rfl⟩
    by_cases hx : k < xs.length
    · have hxd : decide (k < xs.length) = true := by simp [hx]
      by_cases hy : k < ys.length
      · have hyd : decide (k < ys.length) = true := by simp [hy]
        obtain ⟨b1, o1, x, rfl, hxc, hxk, -⟩ := (sl_drw hD h1).at_int hx
        obtain ⟨b2, o2, y, rfl, hyc, hyk, -⟩ := (sl_drw hD h2).at_int hy
        by_cases hxy : x = y
        · have hb : (x == y) = true := by simp [hxy]
          have hC2 : Hid (comW xs ys = (k + 1) + comW (xs.drop (k + 1)) (ys.drop (k + 1))) := comW_step hC.out hxk.out (by rw [hxy]; exact hyk.out)
          clear hxy
          go_wp2
          refine wp_quiet_fast (by kernel_rfl) (by kernel_rfl) ?_
          repeat (first | go_big_quiet_step (fail) | quiet_step (fail))
          refine wpQuiet_nil ?_
          intro _ hw'
          obtain ⟨nq, hw''⟩ := hw'
          subst hw''
          go_wp2
          go_roundw
          case rel => exact ⟨k + 1, by omega, by omega, by go_num, hC2, drw_add hD _⟩
          case measure => simp [intOf]; omega
        · have hb : (x == y) = false := by simp [hxy]
          have HF := Lib.hid (comW_stop hC.out hxk.out hyk.out hxy)
          clear hxy
          go_wp2
          refine wp_quiet_fast (by kernel_rfl) (by kernel_rfl) ?_
          repeat (first | go_big_quiet_step (fail) | quiet_step (fail))
          refine wpQuiet_nil ?_
          intro _ hw'
          obtain ⟨nq, hw''⟩ := hw'
          subst hw''
          go_wp2
          go_ret
          exact ⟨ret_i (by rw [HF.out]), drw_add hD _⟩
      · have hyd : decide (k < ys.length) = false := by simp; omega
        have HF := Lib.hid (comW_end hC.out (.inr (by omega)))
        go_wp2
        refine wp_quiet_fast (by kernel_rfl) (by kernel_rfl) ?_
        repeat (first | go_big_quiet_step (fail) | quiet_step (fail))
        refine wpQuiet_nil ?_
        intro _ hw'
        obtain ⟨nq, hw''⟩ := hw'
        subst hw''
        go_wp2
        go_ret
        exact ⟨ret_i (by rw [HF.out]), drw_add hD _⟩
    · have hxd : decide (k < xs.length) = false := by simp; omega
      have HF := Lib.hid (comW_end hC.out (.inl (by omega)))
      go_wp2
      refine wp_quiet_fast (by kernel_rfl) (by kernel_rfl) ?_
      repeat (first | go_big_quiet_step (fail) | quiet_step (fail))
      refine wpQuiet_nil ?_
      intro _ hw'
      obtain ⟨nq, hw''⟩ := hw'
      subst hw''
      go_wp2
      go_ret
      exact ⟨ret_i (by rw [HF.out]), drw_add hD _⟩

set_option maxHeartbeats 2000000 in
theorem com_any {xs ys : List Int} (h1 : Sl M w a c xs) (h2 : Sl M w b d ys) :
    Calls Try.prog 78 #[.slice a xs.length c, .slice b ys.length d] w fun e w' => e = .returned (.int .i64 (comW xs ys)) ∧ Hid (∃ n, w' = w.drewN n) := by
  have hl1 := h1.le
  have hl2 := h2.le
  have hC0 : Hid (comW xs ys = 0 + comW (xs.drop 0) (ys.drop 0)) := by unfold Hid; simp
  have hD0 : Hid (∃ n, w = w.drewN n) := ⟨0, rfl⟩
  go_enter Try.func78, Try.ntmps78
  go_wp2
  · go_loopw [11] (fun i wr => ∃ k : Nat, k ≤ xs.length ∧ k ≤ ys.length ∧ i = .int .i64 k ∧ Hid (comW xs ys = k + comW (xs.drop k) (ys.drop k)) ∧ Hid (∃ n, wr = w.drewN n)) (fun i _ => ys.length - (intOf i).toNat)
    case atStart => exact ⟨0, by omega, by omega, rfl, hC0, hD0⟩
    case round =>
      clear hC0 hD0
      obtain ⟨k, hkx, hky, rfl, hC, hD⟩ := hrel
      obtain ⟨w1, rfl⟩ : ∃ w1 : World, w1 = wr := ⟨_, rfl⟩
      by_cases hk : k < ys.length
      · have hx : k < xs.length := by omega
        have hy : k < ys.length := by omega
        obtain ⟨b1, o1, x, rfl, hxc, hxk, -⟩ := (sl_drw hD h1).at_int hx
        obtain ⟨b2, o2, y, rfl, hyc, hyk, -⟩ := (sl_drw hD h2).at_int hy
        by_cases hxy : x = y
        · have hb : (x != y) = false := by simp [hxy]
          have hC2 : Hid (comW xs ys = (k + 1) + comW (xs.drop (k + 1)) (ys.drop (k + 1))) := comW_step hC.out hxk.out (by rw [hxy]; exact hyk.out)
          clear hxy
          go_wp2
          refine wp_quiet_fast (by kernel_rfl) (by kernel_rfl) ?_
          repeat (first | go_big_quiet_step (fail) | quiet_step (fail))
          refine wpQuiet_nil ?_
          intro _ hw'
          obtain ⟨nq, hw''⟩ := hw'
          subst hw''
          go_wp2
          go_roundw
          case rel => exact ⟨k + 1, by omega, by omega, by go_num, hC2, drw_add hD _⟩
          case measure => simp [intOf]; omega
        · have hb : (x != y) = true := by simp [hxy]
          have HF := Lib.hid (comW_stop hC.out hxk.out hyk.out hxy)
          clear hxy
          go_wp2
          refine wp_quiet_fast (by kernel_rfl) (by kernel_rfl) ?_
          repeat (first | go_big_quiet_step (fail) | quiet_step (fail))
          refine wpQuiet_nil ?_
          intro _ hw'
          obtain ⟨nq, hw''⟩ := hw'
          subst hw''
          go_wp2
          go_ret
          exact ⟨ret_i (by rw [HF.out]), drw_add hD _⟩
      · have HF := Lib.hid (comW_end hC.out (by omega))
        have hkB : Hid (k = ys.length) := by unfold Hid; omega
        go_wp2
        all_goals
          first
            | (exfalso; omega)
            | (go_ret; exact ⟨ret_i (by rw [HF.out, hkB.out]), hD⟩)
  · go_loopw [11] (fun i wr => ∃ k : Nat, k ≤ xs.length ∧ k ≤ ys.length ∧ i = .int .i64 k ∧ Hid (comW xs ys = k + comW (xs.drop k) (ys.drop k)) ∧ Hid (∃ n, wr = w.drewN n)) (fun i _ => xs.length - (intOf i).toNat)
    case atStart => exact ⟨0, by omega, by omega, rfl, hC0, hD0⟩
    case round =>
      clear hC0 hD0
      obtain ⟨k, hkx, hky, rfl, hC, hD⟩ := hrel
      obtain ⟨w1, rfl⟩ : ∃ w1 : World, w1 = wr := ⟨_, rfl⟩
      by_cases hk : k < xs.length
      · have hx : k < xs.length := by omega
        have hy : k < ys.length := by omega
        obtain ⟨b1, o1, x, rfl, hxc, hxk, -⟩ := (sl_drw hD h1).at_int hx
        obtain ⟨b2, o2, y, rfl, hyc, hyk, -⟩ := (sl_drw hD h2).at_int hy
        by_cases hxy : x = y
        · have hb : (x != y) = false := by simp [hxy]
          have hC2 : Hid (comW xs ys = (k + 1) + comW (xs.drop (k + 1)) (ys.drop (k + 1))) := comW_step hC.out hxk.out (by rw [hxy]; exact hyk.out)
          clear hxy
          go_wp2
          refine wp_quiet_fast (by kernel_rfl) (by kernel_rfl) ?_
          repeat (first | go_big_quiet_step (fail) | quiet_step (fail))
          refine wpQuiet_nil ?_
          intro _ hw'
          obtain ⟨nq, hw''⟩ := hw'
          subst hw''
          go_wp2
          go_roundw
          case rel => exact ⟨k + 1, by omega, by omega, by go_num, hC2, drw_add hD _⟩
          case measure => simp [intOf]; omega
        · have hb : (x != y) = true := by simp [hxy]
          have HF := Lib.hid (comW_stop hC.out hxk.out hyk.out hxy)
          clear hxy
          go_wp2
          refine wp_quiet_fast (by kernel_rfl) (by kernel_rfl) ?_
          repeat (first | go_big_quiet_step (fail) | quiet_step (fail))
          refine wpQuiet_nil ?_
          intro _ hw'
          obtain ⟨nq, hw''⟩ := hw'
          subst hw''
          go_wp2
          go_ret
          exact ⟨ret_i (by rw [HF.out]), drw_add hD _⟩
      · have HF := Lib.hid (comW_end hC.out (by omega))
        have hkB : Hid (k = xs.length) := by unfold Hid; omega
        go_wp2
        all_goals
          first
            | (exfalso; omega)
            | (go_ret; exact ⟨ret_i (by rw [HF.out, hkB.out]), hD⟩)
end
end Go.Proofs.Ytlgdijgfphedpaa
