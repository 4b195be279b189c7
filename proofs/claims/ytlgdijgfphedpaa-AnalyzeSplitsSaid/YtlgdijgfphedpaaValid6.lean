/- The error of a machine: the reference's Valid. No condition beyond that the fields read as lists of lists. -/
import Derived.Test.YtlgdijgfphedpaaValid
namespace Go.Proofs.Ytlgdijgfphedpaa
open Go.RowKit
section
variable {M : Nat → Prop} {w : World} {an ao : Option Addr} {cn co : Nat} {m : Mach}

set_option maxHeartbeats 1000000 in
theorem valid6_any (hm : Ma M w an cn ao co m) :
    Calls Try.prog 17 #[maV m an cn ao co] w fun e w' => e = .returned (.int .i64 m.err) ∧ Below w.heap.size w w' := by
  have l1 := hm.next.le
  have l2 := hm.out.le
  rcases m.head_cases with ⟨g1, he⟩ | ⟨g1, g2, he⟩ | ⟨g1, g2, g3, he⟩ | ⟨g1, g2, g3, g4, he⟩ | ⟨g1, g2, g3, g4, g5, he⟩ | ⟨g1, g2, g3, g4, g5, g6, he⟩ | ⟨g1, g2, g3, g4, g5, g6, g7, he⟩ | ⟨g1, g2, g3, g4, g5, g6, g7, k2, he⟩
  iterate 7
    · have K1 := Lib.hid he
      clear he
      go_enter Try.func17, Try.ntmps17
      go_wp2
      go_ret
      exact ⟨ret_int K1.out.symm, by (repeat' (first | with_reducible exact Below.refl _ _ | with_reducible assumption | with_reducible refine bl_drewN ?_ _ | with_reducible refine Below.drew ?_ | with_reducible refine Below.alloc ?_ ?_ _ | with_reducible refine Below.setCell ?_ ?_ _ | omega | (simp; done) | (simp; omega)))⟩
  have K1 := Lib.hid he
  have K2 := Lib.hid k2
  clear he k2
  go_enter Try.func17, Try.ntmps17
  go_wp2
  go_loopw [3] (fun i wr => ∃ k : Nat, k ≤ m.next.length ∧ i = .int .i64 k ∧ Below (w.heap.size + 1) (w.alloc (.cells #[.int .i64 m.inputs, .int .i64 m.start, .slice an m.next.length cn, .slice ao m.out.length co] 24)) wr ∧ Hid (m.rowsErr k = 0)) (fun i _ => m.next.length - (intOf i).toNat)
  case atStart => exact ⟨0, by omega, rfl, Below.refl _ _, rfl⟩
  case round =>
    obtain ⟨k, hk, rfl, hB, hE⟩ := hrel
    have hbx : ∀ o, wr.cell? ⟨w.heap.size, o, none⟩ = _ := fun o => hB.cell (by simp)
    have hsz : w.heap.size + 1 ≤ wr.heap.size := by have := hB.size; simpa using this
    have hmr : Ma M wr an cn ao co m := hm.ext ((Ext.alloc M w _).trans (Ext.of_below (by simpa using hB)))
    by_cases hlt : k < m.next.length
    · have hrow := row_any hmr k hlt (by rw [K2.out]; exact hlt)
      have HR := Lib.hid hrow
      clear hrow
      have hsu := m.rowsErr_succ k
      rw [hE.out, if_pos rfl] at hsu
      have HS := Lib.hid hsu
      clear hsu
      by_cases hz : m.rowErr k = 0
      · have hz' : (m.rowErr k != 0) = false := by simp [hz]
        have HZ := Lib.hid hz
        clear hz
        go_wp2_with (go_at_call 49; refine (HR.out).mono ?_; rintro e w' ⟨rfl, hb'⟩)
        go_roundw
        case rel => exact ⟨k + 1, by omega, by go_num, hB.trans (hb'.mono hsz), HS.out.trans HZ.out⟩
        case measure => simp [intOf]; omega
      · have hz' : (m.rowErr k != 0) = true := by simp [hz]
        have HZ := Lib.hid hz
        clear hz
        go_wp2_with (go_at_call 49; refine (HR.out).mono ?_; rintro e w' ⟨rfl, hb'⟩)
        go_ret
        refine ⟨ret_int ?_, ?_⟩
        · rw [K1.out, m.rowsErr_stop (k := k + 1) (by omega) (by rw [HS.out]; exact HZ.out), HS.out]
        · exact (((Below.refl _ _).alloc (Nat.le_refl _) _).trans (hB.mono (by omega))).trans (hb'.mono (by omega))
    · have e : k = m.next.length := by omega
      have HE := Lib.hid e
      clear e
      go_wp2
      go_ret
      exact ⟨ret_int (by rw [K1.out, ← HE.out, hE.out]), ((Below.refl _ _).alloc (Nat.le_refl _) _).trans (hB.mono (by omega))⟩
end
end Go.Proofs.Ytlgdijgfphedpaa
