/- The statement's own test of a machine's size; lists of lists compared; machines compared. No condition beyond that the fields read as lists of lists. -/
import Derived.Test.YtdnmgiabgpilkaaValid
import Derived.Test.YtdnmgiabgpilkaaEqs
namespace Go.Proofs.Ytdnmgiabgpilkaa
open Go.RowKit

def Mach.great (m : Mach) : Bool := decide (12 < m.next.length) || decide (12 < m.out.length) || decide (6 < m.inputs) || m.next.any (fun r => decide (12 < r.length)) || m.out.any (fun r => decide (12 < r.length))

theorem any_of_at {l : List (List Int)} {k : Nat} {r : List Int} (h : l[k]? = some r) (hr : 12 < r.length) : l.any (fun r => decide (12 < r.length)) = true :=
  List.any_eq_true.2 ⟨r, List.mem_of_getElem? h, by simpa using hr⟩
theorem any_take_succ {l : List (List Int)} {k : Nat} {r : List Int} (h : l[k]? = some r) (hr : ¬ 12 < r.length) (hk : (l.take k).any (fun r => decide (12 < r.length)) = false) : (l.take (k + 1)).any (fun r => decide (12 < r.length)) = false := by
  rw [List.take_add_one, h]
  simp only [List.any_append, hk, Bool.false_or]
  simpa using hr
theorem any_take_all {l : List (List Int)} {k : Nat} (hk : ¬ k < l.length) (h : (l.take k).any (fun r => decide (12 < r.length)) = false) : l.any (fun r => decide (12 < r.length)) = false := by
  rwa [List.take_of_length_le (by omega)] at h

section
variable {M : Nat → Prop} {w : World} {an ao : Option Addr} {cn co : Nat} {m : Mach}

set_option maxHeartbeats 1000000 in
theorem great_any (hm : Ma M w an cn ao co m) :
    Calls Try.prog 16 #[maV m an cn ao co] w fun e w' => e = .returned (.bool m.great) ∧ Below w.heap.size w w' := by
  have l1 := hm.next.le
  have l2 := hm.out.le
  have hc : (12 < m.next.length ∧ m.great = true) ∨ (¬ 12 < m.next.length ∧ 12 < m.out.length ∧ m.great = true) ∨ (¬ 12 < m.next.length ∧ ¬ 12 < m.out.length ∧ 6 < m.inputs ∧ m.great = true) ∨
      (¬ 12 < m.next.length ∧ ¬ 12 < m.out.length ∧ ¬ 6 < m.inputs ∧ m.great = (m.next.any (fun r => decide (12 < r.length)) || m.out.any (fun r => decide (12 < r.length)))) := by
    unfold Mach.great
    by_cases h1 : 12 < m.next.length
    · exact .inl ⟨h1, by simp [h1]⟩
    by_cases h2 : 12 < m.out.length
    · exact .inr (.inl ⟨h1, h2, by simp [h2]⟩)
    by_cases h3 : 6 < m.inputs
    · exact .inr (.inr (.inl ⟨h1, h2, h3, by simp [h3]⟩))
    exact .inr (.inr (.inr ⟨h1, h2, h3, by simp [h1, h2, h3]⟩))
  have hm2 : Ma M (w.alloc (.cells #[.int .i64 m.inputs, .int .i64 m.start, .slice an m.next.length cn, .slice ao m.out.length co] 24)) an cn ao co m := hm.ext (Ext.alloc _ _ _)
  rcases hc with ⟨h1, he⟩ | ⟨h1, h2, he⟩ | ⟨h1, h2, h3, he⟩ | ⟨h1, h2, h3, he⟩
  iterate 3
    · have K1 := Lib.hid he
      clear he
      go_enter Try.func16, Try.ntmps16
      go_wp2
      go_ret
      exact ⟨ret_bool K1.out.symm, by (repeat' (first | with_reducible exact Below.refl _ _ | with_reducible assumption | with_reducible refine bl_drewN ?_ _ | with_reducible refine Below.drew ?_ | with_reducible refine Below.alloc ?_ ?_ _ | with_reducible refine Below.setCell ?_ ?_ _ | omega | (simp; done) | (simp; omega)))⟩
  have K1 := Lib.hid he
  clear he
  go_enter Try.func16, Try.ntmps16
  go_wp2
  go_loop [23] (fun i => ∃ k : Nat, k ≤ m.next.length ∧ i = .int .i64 k ∧ Hid ((m.next.take k).any (fun r => decide (12 < r.length)) = false)) (fun i => m.next.length - (intOf i).toNat)
  case atStart => exact ⟨0, by omega, rfl, by unfold Hid; simp⟩
  case round =>
    obtain ⟨k, hk, rfl, hE⟩ := hrel
    by_cases hlt : k < m.next.length
    · obtain ⟨b1, o1, a1, r1, c1, rfl, hc1, hr1, hs1⟩ := hm2.next.at_row hlt
      have r1le := hs1.le
      by_cases hg : 12 < r1.length
      · go_wp2
        go_ret
        exact ⟨ret_bool (by rw [K1.out, any_of_at hr1.out hg]; rfl), by (repeat' (first | with_reducible exact Below.refl _ _ | with_reducible assumption | with_reducible refine bl_drewN ?_ _ | with_reducible refine Below.drew ?_ | with_reducible refine Below.alloc ?_ ?_ _ | with_reducible refine Below.setCell ?_ ?_ _ | omega | (simp; done) | (simp; omega)))⟩
      · go_wp2
        go_round
        case rel => exact ⟨k + 1, by omega, by go_num, any_take_succ hr1.out hg hE.out⟩
        case measure => simp [intOf]; omega
    · have hE2 := Lib.hid (any_take_all hlt hE.out)
      go_wp2
      go_loop [37] (fun i => ∃ k : Nat, k ≤ m.out.length ∧ i = .int .i64 k ∧ Hid ((m.out.take k).any (fun r => decide (12 < r.length)) = false)) (fun i => m.out.length - (intOf i).toNat)
      case atStart => exact ⟨0, by omega, rfl, by unfold Hid; simp⟩
      case round =>
        obtain ⟨j, hj, rfl, hF⟩ := hrel
        by_cases hlt2 : j < m.out.length
        · obtain ⟨b1, o1, a1, r1, c1, rfl, hc1, hr1, hs1⟩ := hm2.out.at_row hlt2
          have r1le := hs1.le
          by_cases hg : 12 < r1.length
          · go_wp2
            go_ret
            exact ⟨ret_bool (by rw [K1.out, any_of_at hr1.out hg, Bool.or_true]), by (repeat' (first | with_reducible exact Below.refl _ _ | with_reducible assumption | with_reducible refine bl_drewN ?_ _ | with_reducible refine Below.drew ?_ | with_reducible refine Below.alloc ?_ ?_ _ | with_reducible refine Below.setCell ?_ ?_ _ | omega | (simp; done) | (simp; omega)))⟩
          · go_wp2
            go_round
            case rel => exact ⟨j + 1, by omega, by go_num, any_take_succ hr1.out hg hF.out⟩
            case measure => simp [intOf]; omega
        · go_wp2
          go_ret
          exact ⟨ret_bool (by rw [K1.out, hE2.out, any_take_all hlt2 hF.out]; rfl), by (repeat' (first | with_reducible exact Below.refl _ _ | with_reducible assumption | with_reducible refine bl_drewN ?_ _ | with_reducible refine Below.drew ?_ | with_reducible refine Below.alloc ?_ ?_ _ | with_reducible refine Below.setCell ?_ ?_ _ | omega | (simp; done) | (simp; omega)))⟩
end
end Go.Proofs.Ytdnmgiabgpilkaa
