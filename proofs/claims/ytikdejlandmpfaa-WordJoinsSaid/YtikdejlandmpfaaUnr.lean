/- Unrank of the program and of the reference. No condition. -/
import Derived.Test.YtikdejlandmpfaaUn
import Derived.Test.YtikdejlandmpfaaRev
namespace Go.Proofs.Ytikdejlandmpfaa
open Go.RowKit
theorem ret_ni {a : Option Addr} {n n' c : Nat} {b b' : Int} (h : n = n') (h2 : b = b') : Ending.returned (.tuple #[.slice a n c, .int .i64 b]) = .returned (.tuple #[.slice a n' c, .int .i64 b']) := by rw [h, h2]
theorem un_ok {m n : Int} (h : ¬ (m < 0 ∨ (n < 1 ∨ 1024 < n))) {l : List Int} (hl : unB n 1024 m = some l) : unErr m n = 0 ∧ unVal m n = l.reverse := by
  unfold unErr unVal; rw [if_neg h, if_neg h, hl]; simp
theorem un_long {m n : Int} (h : ¬ (m < 0 ∨ (n < 1 ∨ 1024 < n))) (hl : unB n 1024 m = none) : unErr m n = 3 ∧ unVal m n = [] := by
  unfold unErr unVal; rw [if_neg h, if_neg h, hl]; simp
section
variable {w : World}

set_option maxHeartbeats 4000000 in
theorem unr_any (m n : Int) (hm : i64 m) :
    Calls Try.prog 24 #[.int .i64 m, .int .i64 n] w fun e w' => ∃ a' c' l', e = .returned (.tuple #[.slice a' l'.length c', .int .i64 (unErr m n)]) ∧ Hid (l' = unVal m n) ∧ Sl (fun k => k < w.heap.size) w' a' c' l' ∧ Below w.heap.size w w' := by
  have hm2 : m ≤ 9223372036854775807 := hm.2
  clear hm
  have hb0 := Below.refl w.heap.size w
  by_cases hr : m < 0 ∨ (n < 1 ∨ 1024 < n)
  · have HF := Lib.hid (un_range hr)
    by_cases h0 : m < 0
    · have h0' : decide (m < 0) = true := by simp [h0]
      clear hr
      go_enter Try.func24, Try.ntmps24
      go_wp2
      go_ret2
      exact ⟨none, 0, [], ret_ni rfl HF.out.1.symm, HF.out.2.symm, Sl.nil _ _ _ (by unfold maxLen; omega), hb0⟩
    · have h0' : decide (m < 0) = false := by simp; omega
      have HP := Lib.hid (perm_no (w := w) n (by omega))
      clear hr
      go_enter Try.func24, Try.ntmps24
      go_wp2_with fail
      refine (HP.out).mono ?_
      rintro e w1 ⟨rfl, hw⟩
      obtain rfl : w = w1 := hw.symm
      go_wp2
      go_ret2
      exact ⟨none, 0, [], ret_ni rfl HF.out.1.symm, HF.out.2.symm, Sl.nil _ _ _ (by unfold maxLen; omega), hb0⟩
  · have h0 : ¬ m < 0 := by omega
    have h0' : decide (m < 0) = false := by simp; omega
    have n0 : 1 ≤ n := by omega
    have n1 : n ≤ 1024 := by omega
    have HP := Lib.hid (perm_yes (w := w) n (by omega))
    have HR := Lib.hid hr
    have hu0 : Hid (unB n 1024 m = (unB n (1024 - ([] : List Int).length) m).map (fun r => [] ++ r)) := by unfold Hid; simp
    have hO0 : Ow (α := Int) w.heap.size (fun k => w.heap.size ≤ k) w 3 (.slice none 0 0) [] := Ow.nil
    clear hr
    go_enter Try.func24, Try.ntmps24
    go_wp2_with fail
    refine (HP.out).mono ?_
    rintro e w1 ⟨rfl, hw⟩
    obtain rfl : w = w1 := hw.symm
    go_wp2
    go_loopw [0, 6] (fun s0 v wr => ∃ (z : Int) (a' : Option Addr) (c' : Nat) (l' : List Int), s0 = .int .i64 z ∧ v = .slice a' l'.length c' ∧ 0 ≤ z ∧ z ≤ 9223372036854775807 ∧ l'.length ≤ 1024 ∧ Hid (unB n 1024 m = (unB n (1024 - l'.length) z).map (fun r => l' ++ r)) ∧
      Ow w.heap.size (fun k => w.heap.size ≤ k) wr 3 (.slice a' l'.length c') l' ∧ Below w.heap.size w wr) (fun s0 _ _ => (intOf s0).toNat)
    case atStart => exact ⟨m, none, 0, [], rfl, rfl, by omega, by omega, by simp, hu0, hO0, hb0⟩
    case round =>
      clear hu0 hO0 hb0
      obtain ⟨z, a2, c2, l2, rfl, rfl, z0, z1, hl2, hu, hO, hB⟩ := hrel
      obtain ⟨w2, rfl⟩ : ∃ w2 : World, w2 = wr := ⟨_, rfl⟩
      have hs2 := hB.size
      by_cases hz : 0 < z
      · by_cases hf : l2.length = 1024
        · have hfb : ((l2.length : Int) == 1024) = true := by simp [hf]
          have HF := Lib.hid (un_long HR.out (un_many hu.out hz hf))
          clear hf
          go_wp2
          go_ret2
          exact ⟨none, 0, [], ret_ni rfl HF.out.1.symm, HF.out.2.symm, Sl.nil _ _ _ (by unfold maxLen; omega), hB⟩
        · have hfb : ((l2.length : Int) == 1024) = false := by simp; omega
          have HU := Lib.hid (un_step hu.out hz (by omega))
          have hlt2 : l2.length < 1024 := by omega
          have d0 := Int.emod_nonneg (z - 1) (b := n) (by omega)
          have d1 := Int.emod_lt_of_pos (z - 1) (b := n) (by omega)
          have q0 : 0 ≤ (z - 1) / n := Int.ediv_nonneg (by omega) (by omega)
          have q1 : (z - 1) / n ≤ z - 1 := Int.ediv_le_self _ (by omega)
          clear hf
          go_wp2_with (at_builtin; refine wpList_push_i (B := w.heap.size) (l := l2) (y := (z - 1) % n) rfl rfl Try.underlying22 info_int rfl rfl (hO.alloc _) (by simp [go_sem]) (by unfold i64; omega) (by omega) (by simp; omega) ?_)
          intro a3 c3 l3 w3 hl3 hO3 hb3
          have hB3 := (hB.alloc hs2 (.cells #[.int .i64 ((z - 1) % n)] 3)).trans hb3
          have hU : Hid (unB n 1024 m = (unB n (1024 - l3.length) ((z - 1) / n)).map (fun r => l3 ++ r)) := by unfold Hid; rw [hl3.out]; exact HU.out
          have hle : l3.length ≤ 1024 := by rw [hl3.out]; simp; omega
          go_wp2
          go_roundw
          case rel => exact ⟨(z - 1) / n, a3, c3, l3, rfl, rfl, q0, by omega, hle, hU, hO3, hB3⟩
          case measure => simp [intOf]; omega
      · have HF := Lib.hid (un_ok HR.out (un_end hu.out hz))
        go_wp2_with fail
        refine (rev_own hO).mono ?_
        rintro e w3 ⟨rfl, hO3, hb3⟩
        have hB3 := hB.trans hb3
        have e3 : Hid (l2.length = l2.reverse.length) := by unfold Hid; simp
        have hO4 : Ow w.heap.size (fun k => w.heap.size ≤ k) w3 3 (.slice a2 l2.reverse.length c2) l2.reverse := by rw [← e3.out]; exact hO3
        clear hO hO3 hb3 hB
        go_wp2
        go_ret2
        exact ⟨a2, c2, l2.reverse, ret_ni e3.out HF.out.1.symm, HF.out.2.symm, hO4.fresh (Nat.le_refl _), hB3⟩

set_option maxHeartbeats 4000000 in
theorem unrR_any (m n : Int) (hm : i64 m) :
    Calls Try.prog 25 #[.int .i64 m, .int .i64 n] w fun e w' => ∃ a' c' l', e = .returned (.tuple #[.slice a' l'.length c', .int .i64 (unErr m n)]) ∧ Hid (l' = unVal m n) ∧ Sl (fun k => k < w.heap.size) w' a' c' l' ∧ Below w.heap.size w w' := by
  have hm2 : m ≤ 9223372036854775807 := hm.2
  clear hm
  have hb0 := Below.refl w.heap.size w
  by_cases hr : m < 0 ∨ (n < 1 ∨ 1024 < n)
  · have HF := Lib.hid (un_range hr)
    by_cases h0 : m < 0
    · have h0' : decide (m < 0) = true := by simp [h0]
      clear hr
      go_enter Try.func25, Try.ntmps25
      go_wp2
      go_ret2
      exact ⟨none, 0, [], ret_ni rfl HF.out.1.symm, HF.out.2.symm, Sl.nil _ _ _ (by unfold maxLen; omega), hb0⟩
    · have h0' : decide (m < 0) = false := by simp; omega
      have HP := Lib.hid (size_no (w := w) n (by omega))
      clear hr
      go_enter Try.func25, Try.ntmps25
      go_wp2_with fail
      refine (HP.out).mono ?_
      rintro e w1 ⟨rfl, hw⟩
      obtain rfl : w = w1 := hw.symm
      go_wp2
      go_ret2
      exact ⟨none, 0, [], ret_ni rfl HF.out.1.symm, HF.out.2.symm, Sl.nil _ _ _ (by unfold maxLen; omega), hb0⟩
  · have h0 : ¬ m < 0 := by omega
    have h0' : decide (m < 0) = false := by simp; omega
    have n0 : 1 ≤ n := by omega
    have n1 : n ≤ 1024 := by omega
    have HP := Lib.hid (size_yes (w := w) n (by omega))
    have HR := Lib.hid hr
    have hu0 : Hid (unB n 1024 m = (unB n (1024 - ([] : List Int).length) m).map (fun r => [] ++ r)) := by unfold Hid; simp
    have hO0 : Ow (α := Int) w.heap.size (fun k => w.heap.size ≤ k) w 3 (.slice none 0 0) [] := Ow.nil
    clear hr
    go_enter Try.func25, Try.ntmps25
    go_wp2_with fail
    refine (HP.out).mono ?_
    rintro e w1 ⟨rfl, hw⟩
    obtain rfl : w = w1 := hw.symm
    go_wp2
    go_loopw [0, 6] (fun s0 v wr => ∃ (z : Int) (a' : Option Addr) (c' : Nat) (l' : List Int), s0 = .int .i64 z ∧ v = .slice a' l'.length c' ∧ 0 ≤ z ∧ z ≤ 9223372036854775807 ∧ l'.length ≤ 1024 ∧ Hid (unB n 1024 m = (unB n (1024 - l'.length) z).map (fun r => l' ++ r)) ∧
      Ow w.heap.size (fun k => w.heap.size ≤ k) wr 3 (.slice a' l'.length c') l' ∧ Below w.heap.size w wr) (fun s0 _ _ => (intOf s0).toNat)
    case atStart => exact ⟨m, none, 0, [], rfl, rfl, by omega, by omega, by simp, hu0, hO0, hb0⟩
    case round =>
      clear hu0 hO0 hb0
      obtain ⟨z, a2, c2, l2, rfl, rfl, z0, z1, hl2, hu, hO, hB⟩ := hrel
      obtain ⟨w2, rfl⟩ : ∃ w2 : World, w2 = wr := ⟨_, rfl⟩
      have hs2 := hB.size
      by_cases hz : 0 < z
      · by_cases hf : l2.length = 1024
        · have hfb : ((l2.length : Int) == 1024) = true := by simp [hf]
          have HF := Lib.hid (un_long HR.out (un_many hu.out hz hf))
          clear hf
          go_wp2
          go_ret2
          exact ⟨none, 0, [], ret_ni rfl HF.out.1.symm, HF.out.2.symm, Sl.nil _ _ _ (by unfold maxLen; omega), hB⟩
        · have hfb : ((l2.length : Int) == 1024) = false := by simp; omega
          have HU := Lib.hid (un_step hu.out hz (by omega))
          have hlt2 : l2.length < 1024 := by omega
          have d0 := Int.emod_nonneg (z - 1) (b := n) (by omega)
          have d1 := Int.emod_lt_of_pos (z - 1) (b := n) (by omega)
          have q0 : 0 ≤ (z - 1) / n := Int.ediv_nonneg (by omega) (by omega)
          have q1 : (z - 1) / n ≤ z - 1 := Int.ediv_le_self _ (by omega)
          clear hf
          go_wp2_with (at_builtin; refine wpList_push_i (B := w.heap.size) (l := l2) (y := (z - 1) % n) rfl rfl Try.underlying22 info_int rfl rfl (hO.alloc _) (by simp [go_sem]) (by unfold i64; omega) (by omega) (by simp; omega) ?_)
          intro a3 c3 l3 w3 hl3 hO3 hb3
          have hB3 := (hB.alloc hs2 (.cells #[.int .i64 ((z - 1) % n)] 3)).trans hb3
          have hU : Hid (unB n 1024 m = (unB n (1024 - l3.length) ((z - 1) / n)).map (fun r => l3 ++ r)) := by unfold Hid; rw [hl3.out]; exact HU.out
          have hle : l3.length ≤ 1024 := by rw [hl3.out]; simp; omega
          go_wp2
          go_roundw
          case rel => exact ⟨(z - 1) / n, a3, c3, l3, rfl, rfl, q0, by omega, hle, hU, hO3, hB3⟩
          case measure => simp [intOf]; omega
      · have HF := Lib.hid (un_ok HR.out (un_end hu.out hz))
        have hO0 : Ow (α := Int) w.heap.size (fun k => w.heap.size ≤ k) w2 3 (.slice none 0 0) [] := Ow.nil
        have hv0 : Hid ([] = (l2.drop l2.length).reverse) := by unfold Hid; simp
        have HS := Lib.hid hO
        go_wp2
        go_loopw [7, 8] (fun v i wr => ∃ (k : Nat) (a' : Option Addr) (c' : Nat) (l' : List Int), k ≤ l2.length ∧ ((0 < k ∧ ∃ t : Nat, t + 1 = k ∧ i = .int .i64 t) ∨ (k = 0 ∧ i = .int .i64 (-1))) ∧ v = .slice a' l'.length c' ∧ l'.length ≤ 1024 ∧ Hid (l' = (l2.drop k).reverse) ∧
          Ow w2.heap.size (fun k => w2.heap.size ≤ k) wr 3 (.slice a' l'.length c') l' ∧ Below w2.heap.size w2 wr) (fun _ i _ => (intOf i + 1).toNat)
        case atStart =>
          refine ⟨l2.length, none, 0, [], by omega, ?_, rfl, by simp, hv0, Ow.nil, Below.refl _ _⟩
          by_cases e : l2.length = 0
          · exact .inr ⟨e, by rw [e]; rfl⟩
          · exact .inl ⟨by omega, l2.length - 1, by omega, by rw [show ((l2.length - 1 : Nat) : Int) = (l2.length : Int) - 1 from by omega]⟩
        case round =>
          clear hO0 hv0
          obtain ⟨k, a3, c3, l3, hk, hi, rfl, hl3, hr3, hO3, hB3⟩ := hrel
          obtain ⟨w3, rfl⟩ : ∃ w3 : World, w3 = wr := ⟨_, rfl⟩
          have hs3 := hB3.size
          rcases hi with ⟨hk0, t, ht, rfl⟩ | ⟨hk0, rfl⟩
          · have hS := (HS.out.fresh (n := w.heap.size) (Nat.le_refl _)).below hB3
            have htl : t < l2.length := by omega
            obtain ⟨b, off, x, rfl, hc, hx, hxi⟩ := hS.at_int htl
            have hrt : Hid (l3 ++ [x] = (l2.drop t).reverse) := by
              unfold Hid
              have e1 := hx.out
              rw [List.getElem?_eq_getElem htl] at e1
              rw [List.drop_eq_getElem_cons htl, List.reverse_cons, hr3.out, ← ht, show l2[t] = x by simpa using e1]
            have hle3 : Hid (l3.length < 1024) := by have := congrArg List.length hr3.out; unfold Hid; simp at this; omega
            clear hS hO HS
            go_wp2_with (at_builtin; refine wpList_push_i (B := w2.heap.size) (l := l3) (y := x) rfl rfl Try.underlying22 info_int rfl rfl (hO3.alloc _) (by simp [go_sem]) hxi.out (by omega) (by simp; omega) ?_)
            intro a4 c4 l4 w4 hl4 hO4 hb4
            have hB4 := (hB3.alloc hs3 (.cells #[.int .i64 x] 3)).trans hb4
            have hr4 : Hid (l4 = (l2.drop t).reverse) := by unfold Hid; rw [hl4.out]; exact hrt.out
            have hle4 : l4.length ≤ 1024 := by have := hle3.out; rw [hl4.out]; simp; omega
            go_wp2
            go_roundw
            case rel =>
              refine ⟨t, a4, c4, l4, by omega, ?_, rfl, hle4, hr4, hO4, hB4⟩
              by_cases e : t = 0
              · exact .inr ⟨e, by subst e; rfl⟩
              · exact .inl ⟨by omega, t - 1, by omega, by rw [show ((t - 1 : Nat) : Int) = (t : Int) - 1 from by omega]⟩
            case measure => simp [intOf]
          · have hF : Hid (l3 = unVal m n) := by unfold Hid; rw [HF.out.2, hr3.out, hk0, List.drop_zero]
            have hBf := hB.trans (hB3.mono hs2)
            have HK := Lib.hid hk0
            clear hk0
            go_wp2
            go_ret2
            exact ⟨a3, c3, l3, ret_ni rfl HF.out.1.symm, hF, hO3.fresh hs2, hBf⟩
end
end Go.Proofs.Ytikdejlandmpfaa
