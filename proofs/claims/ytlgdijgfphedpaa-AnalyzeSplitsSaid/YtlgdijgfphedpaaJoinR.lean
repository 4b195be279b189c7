/- Join of the reference. Condition: fewer than 10^12 numbers in all. -/
import Derived.Test.YtlgdijgfphedpaaJoin
namespace Go.Proofs.Ytlgdijgfphedpaa
open Go.RowKit
section
variable {M : Nat → Prop} {w : World}
set_option maxHeartbeats 1000000 in
theorem joinR_any {a : Option Addr} {c : Nat} {rows : List (List Int)} (h : Sl M w a c rows) (hn : rows.flatten.length < 1000000000000) :
    Calls Try.prog 48 #[.slice a rows.length c] w fun e w' => ∃ a' c' l', e = .returned (.slice a' l'.length c') ∧ Hid (l' = rows.flatten) ∧ Sl (fun k => k < w.heap.size) w' a' c' l' ∧ Below w.heap.size w w' := by
  have hrl := h.le
  have H := Lib.hid h
  have hO : Ow (α := Int) w.heap.size (fun k => w.heap.size ≤ k) w 3 (.slice none 0 0) [] := Ow.nil
  have hb := Below.refl w.heap.size w
  clear h
  go_enter Try.func48, Try.ntmps48
  go_wp2
  go_loopw [3, 4] (fun v i wr => ∃ (k : Nat) (a' : Option Addr) (c' : Nat) (l' : List Int), k ≤ rows.length ∧ i = .int .i64 k ∧ v = .slice a' l'.length c' ∧ Hid (l' = (rows.take k).flatten) ∧
    Ow w.heap.size (fun k => w.heap.size ≤ k) wr 3 (.slice a' l'.length c') l' ∧ Below w.heap.size w wr) (fun _ i _ => rows.length - (intOf i).toNat)
  case atStart => exact ⟨0, none, 0, [], by omega, rfl, rfl, rfl, hO, hb⟩
  case round =>
    clear hO hb
    obtain ⟨j, a2, c2, l2, hj, rfl, rfl, hl2, hO, hB⟩ := hrel
    obtain ⟨w2, rfl⟩ : ∃ w2 : World, w2 = wr := ⟨_, rfl⟩
    by_cases hlj : j < rows.length
    · have hll := flat_le rows (j + 1)
      obtain ⟨b, off, a3, r, c3, rfl, hc, hr, hS⟩ := (H.out.below hB).at_row hlj
      have hl3 : Hid (l2 ++ r = (rows.take (j + 1)).flatten) := by unfold Hid; rw [flat_snoc hr.out, hl2.out]
      have hlen : l2.length + r.length < 1000000000000 := by rw [← List.length_append, hl3.out]; omega
      have hsz := hB.size
      clear hll
      go_wp2_with (at_builtin; refine wpList_app_any (B := w.heap.size) (l0 := l2) (l1 := r) rfl rfl Try.underlying30 info_int rfl rfl hO hS hlen hsz ?_)
      intro a4 c4 l4 w4 hl4 hO4 hb4
      have hB4 := hB.trans hb4
      go_wp2
      go_roundw
      case rel => exact ⟨j + 1, a4, c4, l4, by omega, by go_num, rfl, by unfold Hid; rw [hl4.out]; exact hl3.out, hO4, hB4⟩
      case measure => simp [intOf]; omega
    · go_wp2
      go_ret
      exact ⟨a2, c2, l2, rfl, by unfold Hid; rw [hl2.out, List.take_of_length_le (by omega)], hO.fresh (Nat.le_refl _), hB⟩
end
end Go.Proofs.Ytlgdijgfphedpaa
