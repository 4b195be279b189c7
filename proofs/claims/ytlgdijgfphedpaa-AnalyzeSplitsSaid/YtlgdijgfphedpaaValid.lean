/- The error of a machine: the reference's and the program's function return it. Conditions: the fields read as lists of lists; 'row' is asked for rows that are there. -/
import Derived.Test.YtlgdijgfphedpaaBase
import Derived.Test.YtlgdijgfphedpaaQuiet
namespace Go.Proofs.Ytlgdijgfphedpaa
open Go.RowKit

theorem ret_int {a b : Int} (h : a = b) : Ending.returned (.int .i64 a) = .returned (.int .i64 b) := by rw [h]

section
variable {M : Nat → Prop} {w : World} {an ao : Option Addr} {cn co : Nat} {m : Mach}

theorem rowErr_one (m : Mach) (s : Nat) {r1 r2 : List Int} (h1 : m.next[s]? = some r1) (h2 : m.out[s]? = some r2) (h : (r1.length : Int) ≠ m.inputs ∨ (r2.length : Int) ≠ m.inputs) : m.rowErr s = 1 := by
  unfold Mach.rowErr
  rw [if_pos]
  unfold Mach.rowLens
  rw [getD_of_some h1, getD_of_some h2]
  omega
theorem rowErr_two (m : Mach) (s a : Nat) {r1 r2 : List Int} {x y : Int} (h1 : m.next[s]? = some r1) (h2 : m.out[s]? = some r2) (l1 : (r1.length : Int) = m.inputs) (l2 : (r2.length : Int) = m.inputs)
    (ha : a < r1.length) (hx : r1[a]? = some x) (hy : r2[a]? = some y) (h : x < 0 ∨ (m.next.length : Int) ≤ x ∨ y < 0 ∨ 1048576 < y) : m.rowErr s = 2 := by
  unfold Mach.rowErr
  rw [if_neg, if_pos]
  · refine ⟨a, by omega, ?_⟩
    unfold Mach.badAt Mach.nx Mach.ot
    rw [getD_of_some h1, getD_of_some h2, getD_of_some hx, getD_of_some hy]
    exact h
  · unfold Mach.rowLens
    rw [getD_of_some h1, getD_of_some h2]
    omega
theorem rowErr_zero (m : Mach) (s : Nat) {r1 r2 : List Int} (h1 : m.next[s]? = some r1) (h2 : m.out[s]? = some r2) (l1 : (r1.length : Int) = m.inputs) (l2 : (r2.length : Int) = m.inputs)
    (h : ∀ a, a < r1.length → ¬ m.badAt s a) : m.rowErr s = 0 := by
  unfold Mach.rowErr
  rw [if_neg, if_neg]
  · rintro ⟨a, ha, hb⟩
    exact h a (by omega) hb
  · unfold Mach.rowLens
    rw [getD_of_some h1, getD_of_some h2]
    omega
theorem goodAt (m : Mach) (s a : Nat) {r1 r2 : List Int} {x y : Int} (h1 : m.next[s]? = some r1) (h2 : m.out[s]? = some r2) (hx : r1[a]? = some x) (hy : r2[a]? = some y)
    (h : ¬ x < 0 ∧ ¬ (m.next.length : Int) ≤ x ∧ ¬ y < 0 ∧ ¬ 1048576 < y) : ¬ m.badAt s a := by
  unfold Mach.badAt Mach.nx Mach.ot
  rw [getD_of_some h1, getD_of_some h2, getD_of_some hx, getD_of_some hy]
  omega

set_option maxHeartbeats 1000000 in
theorem row_any (hm : Ma M w an cn ao co m) (s : Nat) (hs : s < m.next.length) (ho : s < m.out.length) :
    Calls Try.prog 49 #[maV m an cn ao co, .int .i64 s] w fun e w' => e = .returned (.int .i64 (m.rowErr s)) ∧ Below w.heap.size w w' := by
  have l1 := hm.next.le
  have l2 := hm.out.le
  have hm2 : Ma M (w.alloc (.cells #[.int .i64 m.inputs, .int .i64 m.start, .slice an m.next.length cn, .slice ao m.out.length co] 24)) an cn ao co m := hm.ext (Ext.alloc _ _ _)
  obtain ⟨b1, o1, a1, r1, c1, rfl, hc1, hr1, hs1⟩ := hm2.next.at_row hs
  obtain ⟨b2, o2, a2, r2, c2, rfl, hc2, hr2, hs2⟩ := hm2.out.at_row ho
  by_cases e1 : (r1.length : Int) = m.inputs
  · by_cases e2 : (r2.length : Int) = m.inputs
    · have e1' : ((r1.length : Int) != m.inputs) = false := by simp [e1]
      have e2' : ((r2.length : Int) != m.inputs) = false := by simp [e2]
      have E1 := Lib.hid e1
      have E2 := Lib.hid e2
      have r1le := hs1.le
      clear e1 e2
      go_enter Try.func49, Try.ntmps49
      go_wp2
      refine wp_quiet_fast (by kernel_rfl) (by kernel_rfl) ?_
      repeat (first | go_big_quiet_step (fail) | quiet_step (fail))
      refine wpQuiet_nil ?_
      intro _ hw'
      obtain ⟨nq, hw''⟩ := hw'
      subst hw''
      go_wp2
      go_loopw [5] (fun i wr => ∃ k n : Nat, k ≤ r1.length ∧ i = .int .i64 k ∧ wr = (w.alloc (.cells #[.int .i64 m.inputs, .int .i64 m.start, .slice (some ⟨b1, o1, none⟩) m.next.length cn, .slice (some ⟨b2, o2, none⟩) m.out.length co] 24)).drewN n ∧ Hid (∀ a, a < k → ¬ m.badAt s a)) (fun i _ => r1.length - (intOf i).toNat)
      case atStart => exact ⟨0, _, by omega, rfl, rfl, by intro a ha; omega⟩
      case round =>
        obtain ⟨k, n, hk, rfl, rfl, hE⟩ := hrel
        by_cases hlt : k < r1.length
        · have hlt' : (k : Int) < m.inputs := by have := E1.out; omega
          have hlt2 : k < r2.length := by have := E1.out; have := E2.out; omega
          obtain ⟨b3, o3, x, rfl, hc3, hx, -⟩ := hs1.at_int hlt
          obtain ⟨b4, o4, y, rfl, hc4, hy, -⟩ := hs2.at_int hlt2
          go_wp2
          refine wp_quiet_fast (by kernel_rfl) (by kernel_rfl) ?_
          by_cases hb : x < 0 ∨ (m.next.length : Int) ≤ x ∨ y < 0 ∨ 1048576 < y
          · have HB := Lib.hid hb
            have hb4 : x < 0 ∨ (¬ x < 0 ∧ (m.next.length : Int) ≤ x) ∨ (¬ x < 0 ∧ ¬ (m.next.length : Int) ≤ x ∧ y < 0) ∨ (¬ x < 0 ∧ ¬ (m.next.length : Int) ≤ x ∧ ¬ y < 0 ∧ 1048576 < y) := by omega
            clear hb
            rcases hb4 with t1 | ⟨t1, t2⟩ | ⟨t1, t2, t3⟩ | ⟨t1, t2, t3, t4⟩
            all_goals
              repeat (first | go_big_quiet_step (fail) | quiet_step (fail))
              refine wpQuiet_nil ?_
              intro _ hw'
              obtain ⟨nq, hw''⟩ := hw'
              subst hw''
              go_wp2
              go_ret
              exact ⟨ret_int (rowErr_two m s k hr1.out hr2.out E1.out E2.out hlt hx.out hy.out HB.out).symm, by (repeat' (first | with_reducible exact Below.refl _ _ | with_reducible assumption | with_reducible refine bl_drewN ?_ _ | with_reducible refine Below.drew ?_ | with_reducible refine Below.alloc ?_ ?_ _ | with_reducible refine Below.setCell ?_ ?_ _ | omega | (simp; done) | (simp; omega)))⟩
          · have t1 : ¬ x < 0 := by omega
            have t2 : ¬ (m.next.length : Int) ≤ x := by omega
            have t3 : ¬ y < 0 := by omega
            have t4 : ¬ 1048576 < y := by omega
            clear hb
            repeat (first | go_big_quiet_step (fail) | quiet_step (fail))
            refine wpQuiet_nil ?_
            intro _ hw'
            obtain ⟨nq, hw''⟩ := hw'
            subst hw''
            go_wp2
            go_roundw
            case rel => exact ⟨k + 1, _, by omega, by go_num, rfl, fun a ha => by
              by_cases e : a = k
              · rw [e]; exact goodAt m s k hr1.out hr2.out hx.out hy.out ⟨t1, t2, t3, t4⟩
              · exact hE.out a (by omega)⟩
            case measure => simp [intOf]; omega
        · have hlt' : ¬ (k : Int) < m.inputs := by have := E1.out; omega
          go_wp2
          go_ret
          exact ⟨ret_int (rowErr_zero m s hr1.out hr2.out E1.out E2.out (fun a ha => hE.out a (by omega))).symm, by (repeat' (first | with_reducible exact Below.refl _ _ | with_reducible assumption | with_reducible refine bl_drewN ?_ _ | with_reducible refine Below.drew ?_ | with_reducible refine Below.alloc ?_ ?_ _ | with_reducible refine Below.setCell ?_ ?_ _ | omega | (simp; done) | (simp; omega)))⟩
    · have e1' : ((r1.length : Int) != m.inputs) = false := by simp [e1]
      have e2' : ((r2.length : Int) != m.inputs) = true := by simp [e2]
      have E2 := Lib.hid e2
      clear e1 e2
      go_enter Try.func49, Try.ntmps49
      go_wp2
      refine wp_quiet_fast (by kernel_rfl) (by kernel_rfl) ?_
      repeat (first | go_big_quiet_step (fail) | quiet_step (fail))
      refine wpQuiet_nil ?_
      intro _ hw'
      obtain ⟨nq, hw''⟩ := hw'
      subst hw''
      go_wp2
      go_ret
      exact ⟨ret_int (rowErr_one m s hr1.out hr2.out (.inr E2.out)).symm, by (repeat' (first | with_reducible exact Below.refl _ _ | with_reducible assumption | with_reducible refine bl_drewN ?_ _ | with_reducible refine Below.drew ?_ | with_reducible refine Below.alloc ?_ ?_ _ | with_reducible refine Below.setCell ?_ ?_ _ | omega | (simp; done) | (simp; omega)))⟩
  · have e1' : ((r1.length : Int) != m.inputs) = true := by simp [e1]
    have E1 := Lib.hid e1
    clear e1
    go_enter Try.func49, Try.ntmps49
    go_wp2
    refine wp_quiet_fast (by kernel_rfl) (by kernel_rfl) ?_
    repeat (first | go_big_quiet_step (fail) | quiet_step (fail))
    refine wpQuiet_nil ?_
    intro _ hw'
    obtain ⟨nq, hw''⟩ := hw'
    subst hw''
    go_wp2
    go_ret
    exact ⟨ret_int (rowErr_one m s hr1.out hr2.out (.inl E1.out)).symm, by (repeat' (first | with_reducible exact Below.refl _ _ | with_reducible assumption | with_reducible refine bl_drewN ?_ _ | with_reducible refine Below.drew ?_ | with_reducible refine Below.alloc ?_ ?_ _ | with_reducible refine Below.setCell ?_ ?_ _ | omega | (simp; done) | (simp; omega)))⟩

end
end Go.Proofs.Ytlgdijgfphedpaa
