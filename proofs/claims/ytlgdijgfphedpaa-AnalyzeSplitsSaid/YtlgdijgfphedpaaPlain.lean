/- The plain words for machines: the error of a machine, classes of states. No condition: definitions and their laws. -/
namespace Go.Proofs.Ytlgdijgfphedpaa

/-- A machine. -/
structure Mach where
  inputs : Int
  start : Int
  next : List (List Int)
  out : List (List Int)
  deriving DecidableEq

namespace Mach
variable (m : Mach)

def nx (s a : Nat) : Int := ((m.next.getD s []).getD a 0)
def ot (s a : Nat) : Int := ((m.out.getD s []).getD a 0)

/-- An entry of the tables that is out of its range. -/
def badAt (s a : Nat) : Prop := m.nx s a < 0 ∨ (m.next.length : Int) ≤ m.nx s a ∨ m.ot s a < 0 ∨ 1048576 < m.ot s a
instance (s a : Nat) : Decidable (m.badAt s a) := by unfold badAt; exact inferInstance

def rowLens (s : Nat) : Prop := ((m.next.getD s []).length : Int) = m.inputs ∧ ((m.out.getD s []).length : Int) = m.inputs
instance (s : Nat) : Decidable (m.rowLens s) := by unfold rowLens; exact inferInstance

def rowErr (s : Nat) : Int := if ¬ m.rowLens s then 1 else if ∃ a, a < m.inputs.toNat ∧ m.badAt s a then 2 else 0

/-- The first error of the first k rows. -/
def rowsErr : Nat → Int
  | 0 => 0
  | k + 1 => if rowsErr k = 0 then m.rowErr k else rowsErr k

def err : Int :=
  if m.inputs < 1 ∨ 64 < m.inputs then 2
  else if m.next.length = 0 then 19
  else if 128 < m.next.length then 11
  else if m.start < 0 ∨ (m.next.length : Int) ≤ m.start then 2
  else if m.out.length ≠ m.next.length then 1
  else m.rowsErr m.next.length

theorem rowErr_cases (s : Nat) : m.rowErr s = 0 ∨ m.rowErr s = 1 ∨ m.rowErr s = 2 := by
  unfold rowErr; split <;> (try split) <;> simp

theorem rowsErr_succ (k : Nat) : m.rowsErr (k + 1) = if m.rowsErr k = 0 then m.rowErr k else m.rowsErr k := rfl

theorem rowsErr_stop {k n : Nat} (hk : k ≤ n) (h : m.rowsErr k ≠ 0) : m.rowsErr n = m.rowsErr k := by
  induction n with
  | zero => obtain rfl : k = 0 := by omega
            rfl
  | succ n ih =>
    by_cases e : k = n + 1
    · rw [e]
    · have := ih (by omega)
      rw [rowsErr_succ, this, if_neg h]

theorem rowsErr_zero {k n : Nat} (hk : k < n) (h : m.rowsErr n = 0) : m.rowErr k = 0 := by
  induction n with
  | zero => omega
  | succ n ih =>
    rw [rowsErr_succ] at h
    by_cases e : m.rowsErr n = 0
    · rw [if_pos e] at h
      by_cases e2 : k = n
      · rw [e2]; exact h
      · exact ih (by omega) e
    · rw [if_neg e] at h; exact absurd h e

/-- What it means that a machine is valid. -/
structure Ok : Prop where
  i0 : 1 ≤ m.inputs
  i1 : m.inputs ≤ 64
  n0 : 0 < m.next.length
  n1 : m.next.length ≤ 128
  s0 : 0 ≤ m.start
  s1 : m.start < m.next.length
  lo : m.out.length = m.next.length
  rn : ∀ s, s < m.next.length → ((m.next.getD s []).length : Int) = m.inputs
  ro : ∀ s, s < m.next.length → ((m.out.getD s []).length : Int) = m.inputs
  nx : ∀ s a, s < m.next.length → a < m.inputs.toNat → 0 ≤ m.nx s a ∧ m.nx s a < m.next.length
  ot : ∀ s a, s < m.next.length → a < m.inputs.toNat → 0 ≤ m.ot s a ∧ m.ot s a ≤ 1048576

theorem ok_of_err (h : m.err = 0) : m.Ok := by
  unfold err at h
  split at h
  · simp at h
  rename_i h1
  split at h
  · simp at h
  rename_i h2
  split at h
  · simp at h
  rename_i h3
  split at h
  · simp at h
  rename_i h4
  split at h
  · simp at h
  rename_i h5
  have hr : ∀ s, s < m.next.length → m.rowLens s ∧ ¬ ∃ a, a < m.inputs.toNat ∧ m.badAt s a := by
    intro s hs
    have := m.rowsErr_zero hs h
    unfold rowErr at this
    split at this
    · simp at this
    · rename_i h6
      split at this
      · simp at this
      · rename_i h7; exact ⟨by simpa using h6, h7⟩
  refine ⟨by omega, by omega, by omega, by omega, by omega, by omega, by omega, fun s hs => (hr s hs).1.1, fun s hs => (hr s hs).1.2, fun s a hs ha => ?_, fun s a hs ha => ?_⟩
  all_goals
    have hb : ¬ m.badAt s a := fun hb => (hr s hs).2 ⟨a, ha, hb⟩
    unfold badAt at hb
    omega

theorem err_of_ok (h : m.Ok) : m.err = 0 := by
  unfold err
  rw [if_neg (by have := h.i0; have := h.i1; omega), if_neg (by have := h.n0; omega), if_neg (by have := h.n1; omega), if_neg (by have := h.s0; have := h.s1; omega), if_neg (by have := h.lo; omega)]
  have : ∀ k, k ≤ m.next.length → m.rowsErr k = 0 := by
    intro k
    induction k with
    | zero => intro _; rfl
    | succ k ih =>
      intro hk
      have h0 : m.rowErr k = 0 := by
        unfold rowErr
        rw [if_neg (by simp only [Decidable.not_not]; exact ⟨h.rn k (by omega), h.ro k (by omega)⟩), if_neg]
        rintro ⟨a, ha, hb⟩
        have h1 := h.nx k a (by omega) ha
        have h2 := h.ot k a (by omega) ha
        unfold badAt at hb
        omega
      rw [rowsErr_succ, ih (by omega), if_pos rfl, h0]
  exact this _ (Nat.le_refl _)

/-- The tests of a machine's head, in the walk's own spelling, and what is returned. -/
theorem head_cases :
    (m.inputs < 1 ∧ m.err = 2) ∨
    (1 ≤ m.inputs ∧ 64 < m.inputs ∧ m.err = 2) ∨
    (1 ≤ m.inputs ∧ m.inputs ≤ 64 ∧ ((m.next.length : Int) == 0) = true ∧ m.err = 19) ∨
    (1 ≤ m.inputs ∧ m.inputs ≤ 64 ∧ ((m.next.length : Int) == 0) = false ∧ 128 < m.next.length ∧ m.err = 11) ∨
    (1 ≤ m.inputs ∧ m.inputs ≤ 64 ∧ ((m.next.length : Int) == 0) = false ∧ m.next.length ≤ 128 ∧ m.start < 0 ∧ m.err = 2) ∨
    (1 ≤ m.inputs ∧ m.inputs ≤ 64 ∧ ((m.next.length : Int) == 0) = false ∧ m.next.length ≤ 128 ∧ 0 ≤ m.start ∧ m.next.length ≤ m.start ∧ m.err = 2) ∨
    (1 ≤ m.inputs ∧ m.inputs ≤ 64 ∧ ((m.next.length : Int) == 0) = false ∧ m.next.length ≤ 128 ∧ 0 ≤ m.start ∧ m.start < m.next.length ∧ ((m.out.length : Int) != (m.next.length : Int)) = true ∧ m.err = 1) ∨
    (1 ≤ m.inputs ∧ m.inputs ≤ 64 ∧ ((m.next.length : Int) == 0) = false ∧ m.next.length ≤ 128 ∧ 0 ≤ m.start ∧ m.start < m.next.length ∧ ((m.out.length : Int) != (m.next.length : Int)) = false ∧ m.out.length = m.next.length ∧ m.err = m.rowsErr m.next.length) := by
  by_cases h1 : m.inputs < 1
  · exact .inl ⟨h1, by unfold err; rw [if_pos (by omega)]⟩
  refine .inr ?_
  by_cases h2 : 64 < m.inputs
  · exact .inl ⟨by omega, h2, by unfold err; rw [if_pos (by omega)]⟩
  refine .inr ?_
  by_cases h3 : m.next.length = 0
  · exact .inl ⟨by omega, by omega, by simp [h3], by unfold err; rw [if_neg (by omega), if_pos h3]⟩
  refine .inr ?_
  have h3' : ((m.next.length : Int) == 0) = false := beq_eq_false_iff_ne.2 (by omega)
  by_cases h4 : 128 < m.next.length
  · exact .inl ⟨by omega, by omega, h3', h4, by unfold err; rw [if_neg (by omega), if_neg h3, if_pos h4]⟩
  refine .inr ?_
  by_cases h5 : m.start < 0
  · exact .inl ⟨by omega, by omega, h3', by omega, h5, by unfold err; rw [if_neg (by omega), if_neg h3, if_neg h4, if_pos (by omega)]⟩
  refine .inr ?_
  by_cases h6 : (m.next.length : Int) ≤ m.start
  · exact .inl ⟨by omega, by omega, h3', by omega, by omega, h6, by unfold err; rw [if_neg (by omega), if_neg h3, if_neg h4, if_pos (by omega)]⟩
  refine .inr ?_
  by_cases h7 : m.out.length = m.next.length
  · exact .inr ⟨by omega, by omega, h3', by omega, by omega, by omega, by simp [h7], h7, by unfold err; rw [if_neg (by omega), if_neg h3, if_neg h4, if_neg (by omega), if_neg (by omega)]⟩
  · exact .inl ⟨by omega, by omega, h3', by omega, by omega, by omega, by simp; omega, by unfold err; rw [if_neg (by omega), if_neg h3, if_neg h4, if_neg (by omega), if_pos h7]⟩

theorem err_range : 0 ≤ m.err ∧ m.err ≤ 19 := by
  have hr : ∀ k, 0 ≤ m.rowsErr k ∧ m.rowsErr k ≤ 2 := by
    intro k
    induction k with
    | zero => simp [rowsErr]
    | succ k ih =>
      rw [rowsErr_succ]
      rcases m.rowErr_cases k with e | e | e <;> split <;> omega
  have := hr m.next.length
  unfold err
  split
  · omega
  split
  · omega
  split
  · omega
  split
  · omega
  split
  · omega
  exact ⟨this.1, by omega⟩

end Mach

theorem getD_of_some {α : Type} {l : List α} {j : Nat} {x d : α} (h : l[j]? = some x) : l.getD j d = x := by simp [List.getD, h]

end Go.Proofs.Ytlgdijgfphedpaa
