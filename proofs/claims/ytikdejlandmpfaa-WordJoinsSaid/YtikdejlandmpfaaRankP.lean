/- The plain words for Rank. No condition. -/
import Derived.Test.YtikdejlandmpfaaCheck1
namespace Go.Proofs.Ytikdejlandmpfaa

/-- The rank after k symbols; none: it would not fit. -/
def rkW (n : Int) (w : List Int) : Nat → Option Int
  | 0 => some 0
  | k + 1 => match rkW n w k with
    | none => none
    | some r => if (4611686018427387904 - w.getD k 0 - 1) / n < r then none else some (r * n + w.getD k 0 + 1)
theorem rkW_step {n : Int} {w : List Int} {k : Nat} {r x : Int} (h : rkW n w k = some r) (hx : w[k]? = some x) :
    rkW n w (k + 1) = if (4611686018427387904 - x - 1) / n < r then none else some (r * n + x + 1) := by
  have e : w.getD k 0 = x := by rw [List.getD_eq_getElem?_getD, hx]; rfl
  simp only [rkW, h, e]
theorem rkW_stop {n : Int} {w : List Int} {k : Nat} (h : rkW n w k = none) : ∀ j, k ≤ j → rkW n w j = none := by
  intro j hj
  induction j with
  | zero => obtain rfl : k = 0 := by omega
            exact h
  | succ j ih =>
    by_cases e : k = j + 1
    · rw [← e]; exact h
    · simp only [rkW, ih (by omega)]
/-- What fits stays within the greatest rank. -/
theorem rk_fits {n r x : Int} (hn : 1 ≤ n) (hr : 0 ≤ r) (h : ¬ (4611686018427387904 - x - 1) / n < r) : 0 ≤ r * n ∧ r * n + x + 1 ≤ 4611686018427387904 := by
  have h1 : r ≤ (4611686018427387904 - x - 1) / n := by omega
  have h2 : r * n ≤ 4611686018427387904 - x - 1 := (Int.le_ediv_iff_mul_le (by omega)).1 h1
  exact ⟨Int.mul_nonneg hr (by omega), by omega⟩
end Go.Proofs.Ytikdejlandmpfaa
