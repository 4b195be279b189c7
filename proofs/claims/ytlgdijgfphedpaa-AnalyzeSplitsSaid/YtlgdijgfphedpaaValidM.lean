/- The error of a machine: the program's Valid. No condition beyond that the fields read as lists of lists. -/
import Derived.Test.YtlgdijgfphedpaaValid
namespace Go.Proofs.Ytlgdijgfphedpaa
open Go.RowKit
section
variable {M : Nat → Prop} {w : World} {an ao : Option Addr} {cn co : Nat} {m : Mach}

set_option maxRecDepth 100000 in
set_option maxHeartbeats 2000000 in
theorem valid_any (hm : Ma M w an cn ao co m) :
    Calls Try.prog 64 #[maV m an cn ao co] w fun e w' => e = .returned (.int .i64 m.err) ∧ Below w.heap.size w w' := by
  have l1 := hm.next.le
  have l2 := hm.out.le
  rcases m.head_cases with ⟨g1, he⟩ | ⟨g1, g2, he⟩ | ⟨g1, g2, g3, he⟩ | ⟨g1, g2, g3, g4, he⟩ | ⟨g1, g2, g3, g4, g5, he⟩ | ⟨g1, g2, g3, g4, g5, g6, he⟩ | ⟨g1, g2, g3, g4, g5, g6, g7, he⟩ | ⟨g1, g2, g3, g4, g5, g6, g7, k2, he⟩
  iterate 7
    · have K1 := Lib.hid he
      clear he
      go_enter Try.func64, Try.ntmps64
      go_wp2
      go_ret
      exact ⟨ret_int K1.out.symm, by (repeat' (first | with_reducible exact Below.refl _ _ | with_reducible assumption | with_reducible refine bl_drewN ?_ _ | with_reducible refine Below.drew ?_ | with_reducible refine Below.alloc ?_ ?_ _ | with_reducible refine Below.setCell ?_ ?_ _ | omega | (simp; done) | (simp; omega)))⟩
  have K1 := Lib.hid he
  have K2 := Lib.hid k2
  clear he k2
  have hm2 : Ma M (w.alloc (.cells #[.int .i64 m.inputs, .int .i64 m.start, .slice an m.next.length cn, .slice ao m.out.length co] 24)) an cn ao co m := hm.ext (Ext.alloc _ _ _)
  go_enter Try.func64, Try.ntmps64
  go_wp2
  go_loopw [43] (fun i wr => ∃ k n : Nat, k ≤ m.next.length ∧ i = .int .i64 k ∧ wr = (w.alloc (.cells #[.int .i64 m.inputs, .int .i64 m.start, .slice an m.next.length cn, .slice ao m.out.length co] 24)).drewN n ∧ Hid (m.rowsErr k = 0)) (fun i _ => m.next.length - (intOf i).toNat)
  case atStart => exact ⟨0, 0, by omega, rfl, rfl, rfl⟩
  case round =>
    obtain ⟨k, n, hk, rfl, rfl, hE⟩ := hrel
    by_cases hlt : k < m.next.length
    · have hlo : k < m.out.length := by have := K2.out; omega
      obtain ⟨b1, o1, a1, r1, c1, rfl, hc1, hr1, hs1⟩ := hm2.next.at_row hlt
      obtain ⟨b2, o2, a2, r2, c2, rfl, hc2, hr2, hs2⟩ := hm2.out.at_row hlo
      have r1le := hs1.le
      have hsu := m.rowsErr_succ k
      rw [hE.out, if_pos rfl] at hsu
      have HS := Lib.hid hsu
      clear hsu
      by_cases e1 : (r1.length : Int) = m.inputs
      · have e1' : ((r1.length : Int) != m.inputs) = false := by simp [e1]
        have E1 := Lib.hid e1
        clear e1
        by_cases e2 : (r2.length : Int) = m.inputs
        · have e2' : ((r2.length : Int) != m.inputs) = false := by simp [e2]
          have E2 := Lib.hid e2
          clear e2
          go_wp2
          refine wp_quiet_fast (by kernel_rfl) (by kernel_rfl) ?_
          repeat (first | go_big_quiet_step (fail) | quiet_step (fail))
          refine wpQuiet_nil ?_
          intro _ hw'
          obtain ⟨nq, hw''⟩ := hw'
          subst hw''
          go_wp2
          go_loopw [68] (fun i wr => ∃ a n : Nat, a ≤ r1.length ∧ i = .int .i64 a ∧ wr = (w.alloc (.cells #[.int .i64 m.inputs, .int .i64 m.start, .slice (some ⟨b1, o1, none⟩) m.next.length cn, .slice (some ⟨b2, o2, none⟩) m.out.length co] 24)).drewN n ∧ Hid (∀ j, j < a → ¬ m.badAt k j)) (fun i _ => r1.length - (intOf i).toNat)
          case atStart => exact ⟨0, _, by omega, rfl, rfl, by intro a ha; omega⟩
          case round =>
            obtain ⟨a, n2, ha, rfl, rfl, hF⟩ := hrel
            by_cases hla : a < r1.length
            · have hla' : (a : Int) < m.inputs := by have := E1.out; omega
              have hla2 : a < r2.length := by have := E1.out; have := E2.out; omega
              obtain ⟨b3, o3, x, rfl, hc3, hx, -⟩ := hs1.at_int hla
              obtain ⟨b4, o4, y, rfl, hc4, hy, -⟩ := hs2.at_int hla2
              go_wp2
              refine wp_quiet_fast (by kernel_rfl) (by kernel_rfl) ?_
              repeat (first | go_big_quiet_step (fail) | quiet_step (fail))
              refine wpQuiet_nil ?_
              intro _ hw'
              obtain ⟨nq, hw''⟩ := hw'
              subst hw''
              by_cases hb : x < 0 ∨ (m.next.length : Int) ≤ x ∨ y < 0 ∨ 1048576 < y
              · have HB := Lib.hid hb
                have hb4 : x < 0 ∨ (¬ x < 0 ∧ (m.next.length : Int) ≤ x) ∨ (¬ x < 0 ∧ ¬ (m.next.length : Int) ≤ x ∧ y < 0) ∨ (¬ x < 0 ∧ ¬ (m.next.length : Int) ≤ x ∧ ¬ y < 0 ∧ 1048576 < y) := by omega
                clear hb
                rcases hb4 with t1 | ⟨t1, t2⟩ | ⟨t1, t2, t3⟩ | ⟨t1, t2, t3, t4⟩
                all_goals
                  go_wp2
                  go_ret
                  exact ⟨ret_int (by rw [K1.out, m.rowsErr_stop (k := k + 1) (by omega) (by rw [HS.out, rowErr_two m k a hr1.out hr2.out E1.out E2.out hla hx.out hy.out HB.out]; decide), HS.out, rowErr_two m k a hr1.out hr2.out E1.out E2.out hla hx.out hy.out HB.out]), by (repeat' (first | with_reducible exact Below.refl _ _ | with_reducible assumption | with_reducible refine bl_drewN ?_ _ | with_reducible refine Below.drew ?_ | with_reducible refine Below.alloc ?_ ?_ _ | with_reducible refine Below.setCell ?_ ?_ _ | omega | (simp; done) | (simp; omega)))⟩
              · have t1 : ¬ x < 0 := by omega
                have t2 : ¬ (m.next.length : Int) ≤ x := by omega
                have t3 : ¬ y < 0 := by omega
                have t4 : ¬ 1048576 < y := by omega
                clear hb
                go_wp2
                go_roundw
                case rel => exact ⟨a + 1, _, by omega, by go_num, rfl, fun j hj => by
                  by_cases e : j = a
                  · rw [e]; exact goodAt m k a hr1.out hr2.out hx.out hy.out ⟨t1, t2, t3, t4⟩
                  · exact hF.out j (by omega)⟩
                case measure => simp [intOf]; omega
            · have hla' : ¬ (a : Int) < m.inputs := by have := E1.out; omega
              go_wp2
              go_roundw
              case rel => exact ⟨k + 1, _, by omega, by go_num, rfl, HS.out.trans (rowErr_zero m k hr1.out hr2.out E1.out E2.out (fun j hj => hF.out j (by omega)))⟩
              case measure => simp [intOf]; omega
        · have e2' : ((r2.length : Int) != m.inputs) = true := by simp [e2]
          have E2 := Lib.hid e2
          clear e2
          go_wp2
          refine wp_quiet_fast (by kernel_rfl) (by kernel_rfl) ?_
          repeat (first | go_big_quiet_step (fail) | quiet_step (fail))
          refine wpQuiet_nil ?_
          intro _ hw'
          obtain ⟨nq, hw''⟩ := hw'
          subst hw''
          go_wp2
          go_ret
          exact ⟨ret_int (by rw [K1.out, m.rowsErr_stop (k := k + 1) (by omega) (by rw [HS.out, rowErr_one m k hr1.out hr2.out (.inr E2.out)]; decide), HS.out, rowErr_one m k hr1.out hr2.out (.inr E2.out)]), by (repeat' (first | with_reducible exact Below.refl _ _ | with_reducible assumption | with_reducible refine bl_drewN ?_ _ | with_reducible refine Below.drew ?_ | with_reducible refine Below.alloc ?_ ?_ _ | with_reducible refine Below.setCell ?_ ?_ _ | omega | (simp; done) | (simp; omega)))⟩
      · have e1' : ((r1.length : Int) != m.inputs) = true := by simp [e1]
        have E1 := Lib.hid e1
        clear e1
        go_wp2
        refine wp_quiet_fast (by kernel_rfl) (by kernel_rfl) ?_
        repeat (first | go_big_quiet_step (fail) | quiet_step (fail))
        refine wpQuiet_nil ?_
        intro _ hw'
        obtain ⟨nq, hw''⟩ := hw'
        subst hw''
        go_wp2
        go_ret
        exact ⟨ret_int (by rw [K1.out, m.rowsErr_stop (k := k + 1) (by omega) (by rw [HS.out, rowErr_one m k hr1.out hr2.out (.inl E1.out)]; decide), HS.out, rowErr_one m k hr1.out hr2.out (.inl E1.out)]), by (repeat' (first | with_reducible exact Below.refl _ _ | with_reducible assumption | with_reducible refine bl_drewN ?_ _ | with_reducible refine Below.drew ?_ | with_reducible refine Below.alloc ?_ ?_ _ | with_reducible refine Below.setCell ?_ ?_ _ | omega | (simp; done) | (simp; omega)))⟩
    · have e : k = m.next.length := by omega
      have HE := Lib.hid e
      clear e
      go_wp2
      go_ret
      exact ⟨ret_int (by rw [K1.out, ← HE.out, hE.out]), by (repeat' (first | with_reducible exact Below.refl _ _ | with_reducible assumption | with_reducible refine bl_drewN ?_ _ | with_reducible refine Below.drew ?_ | with_reducible refine Below.alloc ?_ ?_ _ | with_reducible refine Below.setCell ?_ ?_ _ | omega | (simp; done) | (simp; omega)))⟩
end
end Go.Proofs.Ytlgdijgfphedpaa
