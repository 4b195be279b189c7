/- Rank of the program and of the reference. No condition. -/
import Derived.Test.YtikdejlandmpfaaRankP
import Derived.Test.YtikdejlandmpfaaCheckR1
namespace Go.Proofs.Ytikdejlandmpfaa
open Go.RowKit
/-- The rank, 0 if there is none, and the error. -/
def rkErr (w : List Int) (n : Int) : Int := if wErr w n ≠ 0 then wErr w n else if rkW n w w.length = none then 17 else 0
def rkVal (w : List Int) (n : Int) : Int := if wErr w n ≠ 0 then 0 else (rkW n w w.length).getD 0
theorem ret_rk {x y e f : Int} (h : x = y) (h2 : e = f) : Ending.returned (.tuple #[.int .i64 x, .int .i64 e]) = .returned (.tuple #[.int .i64 y, .int .i64 f]) := by rw [h, h2]
theorem wErr_zero {w : List Int} {n : Int} (h : wErr w n = 0) : 1 ≤ n ∧ n ≤ 1024 ∧ w.length ≤ 1024 ∧ ∀ x ∈ w, 0 ≤ x ∧ x < n := by
  unfold wErr at h
  split at h
  · simp at h
  · rename_i h1
    split at h
    · simp at h
    · rename_i h2
      split at h
      · simp at h
      · rename_i h3
        refine ⟨by omega, by omega, by omega, fun x hx => ?_⟩
        have : ¬ (x < 0 ∨ n ≤ x) := fun e => h3 ⟨x, hx, e⟩
        omega
section
variable {M : Nat → Prop} {w : World} {a : Option Addr} {c : Nat}
set_option maxHeartbeats 2000000 in
theorem rank_any {l : List Int} (h : Sl M w a c l) (n : Int) :
    Calls Try.prog 22 #[.slice a l.length c, .int .i64 n] w fun e w' => e = .returned (.tuple #[.int .i64 (rkVal l n), .int .i64 (rkErr l n)]) ∧ Below w.heap.size w w' := by
  have hll := h.le
  have HC := Lib.hid (wcheck_any h n)
  by_cases he : wErr l n = 0
  · have he' : (wErr l n != 0) = false := by simp [he]
    obtain ⟨n0, n1, hl2, hx2⟩ := wErr_zero he
    have HX := Lib.hid hx2
    have HE := Lib.hid he
    clear he hx2
    go_enter Try.func22, Try.ntmps22
    go_wp2_with fail
    refine (HC.out).mono ?_
    rintro e w1 ⟨rfl, hB⟩
    have h1 := h.below hB
    clear h HC
    have hr0 : Hid (rkW n l 0 = some 0) := rfl
    go_wp2
    go_loop [7, 18] (fun r i => ∃ (k : Nat) (z : Int), k ≤ l.length ∧ i = .int .i64 k ∧ r = .int .i64 z ∧ 0 ≤ z ∧ z ≤ 4611686018427387904 ∧ Hid (rkW n l k = some z)) (fun _ i => l.length - (intOf i).toNat)
    case atStart => exact ⟨0, 0, by omega, rfl, rfl, by omega, by omega, hr0⟩
    case round =>
      clear hr0
      obtain ⟨k, z, hk, rfl, rfl, z0, z1, hr⟩ := hrel
      by_cases hlt : k < l.length
      · obtain ⟨b1, o1, x, rfl, hxc, hx, -⟩ := h1.at_int hlt
        obtain ⟨x0, x1⟩ := HX.out x (List.mem_of_getElem? hx.out)
        by_cases hbig : (4611686018427387904 - x - 1) / n < z
        · have hn : Hid (rkW n l l.length = none) := rkW_stop (by rw [rkW_step hr.out hx.out, if_pos hbig]) _ (by omega)
          have HF : Hid (0 = rkVal l n ∧ 17 = rkErr l n) := by
            unfold Hid rkVal rkErr
            rw [if_neg (by simpa using HE.out), if_neg (by simpa using HE.out), hn.out]; simp
          go_wp2
          go_ret2
          exact ⟨ret_rk HF.out.1 HF.out.2, hB⟩
        · have hn : Hid (rkW n l (k + 1) = some (z * n + x + 1)) := by unfold Hid; rw [rkW_step hr.out hx.out, if_neg hbig]
          obtain ⟨f0, f1⟩ := rk_fits (x := x) n0 z0 hbig
          go_wp2
          go_round
          case rel => exact ⟨k + 1, z * n + x + 1, by omega, by go_num, rfl, by omega, by omega, hn⟩
          case measure => simp [intOf]; omega
      · have HF : Hid (z = rkVal l n ∧ 0 = rkErr l n) := by
          have e : k = l.length := by omega
          have h2 := hr.out
          rw [e] at h2
          unfold Hid rkVal rkErr
          rw [if_neg (by simpa using HE.out), if_neg (by simpa using HE.out), h2]; simp
        go_wp2
        go_ret2
        exact ⟨ret_rk HF.out.1 HF.out.2, hB⟩
  · have he' : (wErr l n != 0) = true := by simp [he]
    have HF : Hid (0 = rkVal l n ∧ wErr l n = rkErr l n) := by unfold Hid rkVal rkErr; rw [if_pos he, if_pos he]; exact ⟨rfl, rfl⟩
    clear he
    go_enter Try.func22, Try.ntmps22
    go_wp2_with fail
    refine (HC.out).mono ?_
    rintro e w1 ⟨rfl, hB⟩
    clear HC
    go_wp2
    go_ret2
    exact ⟨ret_rk HF.out.1 HF.out.2, hB⟩

set_option maxHeartbeats 2000000 in
theorem rankR_any {l : List Int} (h : Sl M w a c l) (n : Int) :
    Calls Try.prog 23 #[.slice a l.length c, .int .i64 n] w fun e w' => e = .returned (.tuple #[.int .i64 (rkVal l n), .int .i64 (rkErr l n)]) ∧ w' = w := by
  have hll := h.le
  have HC := Lib.hid (checkR1_any h n)
  by_cases he : wErr l n = 0
  · have he' : (wErr l n != 0) = false := by simp [he]
    obtain ⟨n0, n1, hl2, hx2⟩ := wErr_zero he
    have HX := Lib.hid hx2
    have HE := Lib.hid he
    clear he hx2
    go_enter Try.func23, Try.ntmps23
    go_wp2_with fail
    refine (HC.out).mono ?_
    rintro e w1 ⟨rfl, hw⟩
    obtain rfl : w = w1 := hw.symm
    have h1 := h
    clear h HC
    have hr0 : Hid (rkW n l 0 = some 0) := rfl
    go_wp2
    go_loop [7, 8] (fun r i => ∃ (k : Nat) (z : Int), k ≤ l.length ∧ i = .int .i64 k ∧ r = .int .i64 z ∧ 0 ≤ z ∧ z ≤ 4611686018427387904 ∧ Hid (rkW n l k = some z)) (fun _ i => l.length - (intOf i).toNat)
    case atStart => exact ⟨0, 0, by omega, rfl, rfl, by omega, by omega, hr0⟩
    case round =>
      clear hr0
      obtain ⟨k, z, hk, rfl, rfl, z0, z1, hr⟩ := hrel
      by_cases hlt : k < l.length
      · obtain ⟨b1, o1, x, rfl, hxc, hx, -⟩ := h1.at_int hlt
        obtain ⟨x0, x1⟩ := HX.out x (List.mem_of_getElem? hx.out)
        by_cases hbig : (4611686018427387904 - x - 1) / n < z
        · have hn : Hid (rkW n l l.length = none) := rkW_stop (by rw [rkW_step hr.out hx.out, if_pos hbig]) _ (by omega)
          have HF : Hid (0 = rkVal l n ∧ 17 = rkErr l n) := by
            unfold Hid rkVal rkErr
            rw [if_neg (by simpa using HE.out), if_neg (by simpa using HE.out), hn.out]; simp
          go_wp2
          go_ret2
          exact ⟨ret_rk HF.out.1 HF.out.2, rfl⟩
        · have hn : Hid (rkW n l (k + 1) = some (z * n + x + 1)) := by unfold Hid; rw [rkW_step hr.out hx.out, if_neg hbig]
          obtain ⟨f0, f1⟩ := rk_fits (x := x) n0 z0 hbig
          go_wp2
          go_round
          case rel => exact ⟨k + 1, z * n + x + 1, by omega, by go_num, rfl, by omega, by omega, hn⟩
          case measure => simp [intOf]; omega
      · have HF : Hid (z = rkVal l n ∧ 0 = rkErr l n) := by
          have e : k = l.length := by omega
          have h2 := hr.out
          rw [e] at h2
          unfold Hid rkVal rkErr
          rw [if_neg (by simpa using HE.out), if_neg (by simpa using HE.out), h2]; simp
        go_wp2
        go_ret2
        exact ⟨ret_rk HF.out.1 HF.out.2, rfl⟩
  · have he' : (wErr l n != 0) = true := by simp [he]
    have HF : Hid (0 = rkVal l n ∧ wErr l n = rkErr l n) := by unfold Hid rkVal rkErr; rw [if_pos he, if_pos he]; exact ⟨rfl, rfl⟩
    clear he
    go_enter Try.func23, Try.ntmps23
    go_wp2_with fail
    refine (HC.out).mono ?_
    rintro e w1 ⟨rfl, hw⟩
    obtain rfl : w = w1 := hw.symm
    clear HC
    go_wp2
    go_ret2
    exact ⟨ret_rk HF.out.1 HF.out.2, rfl⟩
end
end Go.Proofs.Ytikdejlandmpfaa
