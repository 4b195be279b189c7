/- The error of observations: plain words. No condition. -/
import Derived.Test.YtlgdijgfphedpaaAns
import Derived.Test.YtlgdijgfphedpaaCheckR1
import Derived.Test.YtlgdijgfphedpaaLexR
namespace Go.Proofs.Ytlgdijgfphedpaa
open Go.RowKit

/-- An output that is out of range. -/
def badO (x : Int) : Prop := x < 0 ∨ 1048576 < x
instance (x : Int) : Decidable (badO x) := by unfold badO; exact inferInstance
/-- The error of a trace. -/
def Tr.err (t : Tr) (n : Int) : Int := if wErr t.inn n ≠ 0 then wErr t.inn n else if t.out.length ≠ t.inn.length then 1 else if ∃ x ∈ t.out, badO x then 2 else 0
theorem Tr.err_w {t : Tr} {n : Int} (h : wErr t.inn n ≠ 0) : t.err n = wErr t.inn n := by unfold Tr.err; rw [if_pos h]
theorem Tr.err_l {t : Tr} {n : Int} (h : wErr t.inn n = 0) (h2 : t.out.length ≠ t.inn.length) : t.err n = 1 := by unfold Tr.err; rw [if_neg (by simp [h]), if_pos h2]
theorem Tr.err_o {t : Tr} {n : Int} (h : wErr t.inn n = 0) (h2 : t.out.length = t.inn.length) (h3 : ∃ x ∈ t.out, badO x) : t.err n = 2 := by unfold Tr.err; rw [if_neg (by simp [h]), if_neg (by simp [h2]), if_pos h3]
theorem Tr.err_0 {t : Tr} {n : Int} (h : wErr t.inn n = 0) (h2 : t.out.length = t.inn.length) (h3 : ¬ ∃ x ∈ t.out, badO x) : t.err n = 0 := by unfold Tr.err; rw [if_neg (by simp [h]), if_neg (by simp [h2]), if_neg h3]
theorem Tr.of_err {t : Tr} {n : Int} (h : t.err n = 0) : wErr t.inn n = 0 ∧ t.out.length = t.inn.length ∧ ¬ ∃ x ∈ t.out, badO x := by
  unfold Tr.err at h
  split at h
  · rename_i h1; exact absurd h h1
  · rename_i h1
    split at h
    · simp at h
    · rename_i h2
      split at h
      · simp at h
      · rename_i h3; exact ⟨by simpa using h1, by simpa using h2, h3⟩
theorem wErr_len {w : List Int} {n : Int} (h : wErr w n = 0) : w.length ≤ 1024 := by
  unfold wErr at h
  split at h
  · simp at h
  · split at h
    · simp at h
    · omega

/-- The first place where the outputs of two traces differ for common inputs, or -1. -/
def Tr.dif (a b : Tr) : Int :=
  let n := comW a.inn b.inn
  let k := comW (a.out.take n) (b.out.take n)
  if k < n then k else -1

namespace Ob
variable (o : Ob)
def tr (i : Nat) : Tr := o.traces.getD i ⟨[], []⟩
/-- The error of the trace at i. -/
def atErr (i : Nat) : Int :=
  if wErr (o.tr i).inn o.inputs ≠ 0 then wErr (o.tr i).inn o.inputs
  else if (o.tr i).inn = [] then 19
  else if (o.tr i).err o.inputs ≠ 0 then (o.tr i).err o.inputs
  else if 0 < i ∧ 0 ≤ cmpW (o.tr (i - 1)).inn (o.tr i).inn then 10 else 0
def atsErr : Nat → Int
  | 0 => 0
  | k + 1 => if atsErr k = 0 then o.atErr k else atsErr k
/-- A later trace continues the one at i, or contradicts it. -/
def preB (i k : Nat) : Bool := (List.range k).any fun j => decide (i < j) && hasP (o.tr j).inn (o.tr i).inn
def claB (i k : Nat) : Bool := (List.range k).any fun j => decide (i < j) && decide (0 ≤ (o.tr i).dif (o.tr j))
def apErr (i : Nat) : Int := if o.preB i o.traces.length = true then 7 else if o.claB i o.traces.length = true then 13 else 0
def apsErr : Nat → Int
  | 0 => 0
  | k + 1 => if apsErr k = 0 then o.apErr k else apsErr k
def err : Int :=
  if o.inputs < 1 ∨ 64 < o.inputs then 2
  else if 10000 < o.traces.length then 11
  else if o.atsErr o.traces.length ≠ 0 then o.atsErr o.traces.length
  else o.apsErr o.traces.length
variable {o}
theorem atsErr_stop {k n : Nat} (hk : k ≤ n) (h : o.atsErr k ≠ 0) : o.atsErr n = o.atsErr k := by
  induction n with
  | zero => obtain rfl : k = 0 := by omega
            rfl
  | succ n ih =>
    by_cases e : k = n + 1
    · rw [e]
    · have := ih (by omega)
      show (if o.atsErr n = 0 then _ else _) = _
      rw [this, if_neg h]
theorem apsErr_stop {k n : Nat} (hk : k ≤ n) (h : o.apsErr k ≠ 0) : o.apsErr n = o.apsErr k := by
  induction n with
  | zero => obtain rfl : k = 0 := by omega
            rfl
  | succ n ih =>
    by_cases e : k = n + 1
    · rw [e]
    · have := ih (by omega)
      show (if o.apsErr n = 0 then _ else _) = _
      rw [this, if_neg h]
theorem atsErr_zero {k n : Nat} (hk : k < n) (h : o.atsErr n = 0) : o.atErr k = 0 := by
  induction n with
  | zero => omega
  | succ n ih =>
    have h' : (if o.atsErr n = 0 then o.atErr n else o.atsErr n) = 0 := h
    by_cases e : o.atsErr n = 0
    · rw [if_pos e] at h'
      by_cases e2 : k = n
      · rw [e2]; exact h'
      · exact ih (by omega) e
    · rw [if_neg e] at h'; exact absurd h' e
theorem atErr_zero {i : Nat} (h : o.atErr i = 0) : (o.tr i).err o.inputs = 0 ∧ (o.tr i).inn ≠ [] ∧ (0 < i → cmpW (o.tr (i - 1)).inn (o.tr i).inn < 0) := by
  unfold atErr at h
  split at h
  · rename_i h1; exact absurd h h1
  · split at h
    · simp at h
    · rename_i h2
      split at h
      · rename_i h3; exact absurd h h3
      · rename_i h3
        split at h
        · simp at h
        · rename_i h4
          refine ⟨by simpa using h3, h2, fun hi => ?_⟩
          have : ¬ (0 ≤ cmpW (o.tr (i - 1)).inn (o.tr i).inn) := fun e => h4 ⟨hi, e⟩
          omega
theorem tr_of {i : Nat} {t : Tr} (h : o.traces[i]? = some t) : o.tr i = t := getD_of_some h
/-- What all traces are behind the first test. -/
def goods (k : Nat) : Prop := ∀ j, j < k → (o.tr j).err o.inputs = 0
theorem goods_all (h : o.atsErr o.traces.length = 0) : o.goods o.traces.length := fun _ hj => (atErr_zero (atsErr_zero hj h)).1
theorem goods_lens (h : o.goods o.traces.length) : o.lens := by
  intro t ht
  obtain ⟨k, hk, rfl⟩ := List.getElem_of_mem ht
  have e := h k hk
  rw [tr_of (List.getElem?_eq_getElem hk)] at e
  obtain ⟨h1, h2, _⟩ := Tr.of_err e
  have := wErr_len h1
  omega
theorem err_cases :
    (o.inputs < 1 ∧ o.err = 2) ∨ (1 ≤ o.inputs ∧ 64 < o.inputs ∧ o.err = 2) ∨ (1 ≤ o.inputs ∧ o.inputs ≤ 64 ∧ 10000 < o.traces.length ∧ o.err = 11) ∨
    (1 ≤ o.inputs ∧ o.inputs ≤ 64 ∧ o.traces.length ≤ 10000 ∧ o.err = (if o.atsErr o.traces.length ≠ 0 then o.atsErr o.traces.length else o.apsErr o.traces.length)) := by
  unfold err
  by_cases h1 : o.inputs < 1
  · exact .inl ⟨h1, by rw [if_pos (.inl h1)]⟩
  by_cases h2 : 64 < o.inputs
  · exact .inr (.inl ⟨by omega, h2, by rw [if_pos (.inr h2)]⟩)
  by_cases h3 : 10000 < o.traces.length
  · exact .inr (.inr (.inl ⟨by omega, by omega, h3, by rw [if_neg (by omega), if_pos h3]⟩))
  · exact .inr (.inr (.inr ⟨by omega, by omega, by omega, by rw [if_neg (by omega), if_neg h3]⟩))
theorem err_zero (h : o.err = 0) : 1 ≤ o.inputs ∧ o.inputs ≤ 64 ∧ o.traces.length ≤ 10000 ∧ o.atsErr o.traces.length = 0 ∧ o.apsErr o.traces.length = 0 := by
  rcases err_cases (o := o) with ⟨_, e⟩ | ⟨_, _, e⟩ | ⟨_, _, _, e⟩ | ⟨a, b, c, e⟩
  · rw [e] at h; simp at h
  · rw [e] at h; simp at h
  · rw [e] at h; simp at h
  · rw [e] at h
    split at h
    · rename_i h2; exact absurd h h2
    · rename_i h2; exact ⟨a, b, c, by simpa using h2, h⟩
theorem err_lens (h : o.err = 0) : o.lens := goods_lens (goods_all (err_zero h).2.2.2.1)
theorem preB_succ (i k : Nat) : o.preB i (k + 1) = (o.preB i k || (decide (i < k) && hasP (o.tr k).inn (o.tr i).inn)) := by
  unfold preB; rw [List.range_succ, List.any_append]; simp
theorem claB_succ (i k : Nat) : o.claB i (k + 1) = (o.claB i k || (decide (i < k) && decide (0 ≤ (o.tr i).dif (o.tr k)))) := by
  unfold claB; rw [List.range_succ, List.any_append]; simp
theorem preB_low {i k : Nat} (h : k ≤ i + 1) : o.preB i k = false := by
  unfold preB; rw [List.any_eq_false]; intro j hj; rw [List.mem_range] at hj; simp; omega
theorem claB_low {i k : Nat} (h : k ≤ i + 1) : o.claB i k = false := by
  unfold claB; rw [List.any_eq_false]; intro j hj; rw [List.mem_range] at hj; simp; omega
end Ob
end Go.Proofs.Ytlgdijgfphedpaa
