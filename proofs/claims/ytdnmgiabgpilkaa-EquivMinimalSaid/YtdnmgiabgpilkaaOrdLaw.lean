/- The laws of the two orders. No condition. -/
import Derived.Test.YtdnmgiabgpilkaaComP
namespace Go.Proofs.Ytdnmgiabgpilkaa
theorem sgn_swap (x y : Int) : sgn y x = -sgn x y := by
  unfold sgn
  split <;> split <;> (try split) <;> omega
theorem sgn_zero {x y : Int} (h : sgn x y = 0) : x = y := by
  unfold sgn at h
  split at h
  · simp at h
  · split at h
    · simp at h
    · omega
theorem lex_swap : ∀ (a b : List Int), lexW b a = -lexW a b
  | [], [] => rfl
  | [], _ :: _ => rfl
  | _ :: _, [] => rfl
  | x :: a, y :: b => by
    simp only [lexW]
    by_cases h : x = y
    · rw [if_pos h, if_pos h.symm]; exact lex_swap a b
    · rw [if_neg h, if_neg (Ne.symm h)]; exact sgn_swap x y
theorem lex_same (a : List Int) : lexW a a = 0 := by
  induction a with
  | nil => rfl
  | cons x a ih => simp [lexW, ih]
theorem lex_zero : ∀ {a b : List Int}, lexW a b = 0 → a = b
  | [], [], _ => rfl
  | [], _ :: _, h => by simp [lexW] at h
  | _ :: _, [], h => by simp [lexW] at h
  | x :: a, y :: b, h => by
    simp only [lexW] at h
    by_cases e : x = y
    · rw [if_pos e] at h; rw [e, lex_zero h]
    · rw [if_neg e] at h; exact absurd (sgn_zero h) e
theorem sgn_neg {x y : Int} : sgn x y < 0 ↔ x < y := by
  unfold sgn; split
  · simp; omega
  · split <;> simp <;> omega
theorem lex_trans : ∀ {a b c : List Int}, lexW a b ≤ 0 → lexW b c ≤ 0 → lexW a c ≤ 0 ∧ (lexW a b < 0 → lexW a c < 0)
  | [], b, [], h, h2 => by
    cases b with
    | nil => simp [lexW]
    | cons y b => simp [lexW] at h2
  | [], b, z :: c, h, h2 => by simp [lexW]
  | x :: a, [], c, h, h2 => by simp [lexW] at h
  | x :: a, y :: b, [], h, h2 => by simp [lexW] at h2
  | x :: a, y :: b, z :: c, h, h2 => by
    simp only [lexW] at h h2 ⊢
    by_cases e : x = y
    · subst e
      rw [if_pos rfl] at h ⊢
      by_cases e2 : x = z
      · rw [if_pos e2] at h2 ⊢
        exact lex_trans h h2
      · rw [if_neg e2] at h2 ⊢
        have hr := sgn_range x z
        have hz : sgn x z ≠ 0 := fun h => e2 (sgn_zero h)
        exact ⟨h2, fun _ => by omega⟩
    · rw [if_neg e] at h ⊢
      have hr := sgn_range x y
      have hz : sgn x y ≠ 0 := fun h => e (sgn_zero h)
      have h3 : x < y := sgn_neg.1 (by omega)
      have h4 : x < z := by
        by_cases e2 : y = z
        · omega
        · rw [if_neg e2] at h2
          have hr := sgn_range y z
          have hz : sgn y z ≠ 0 := fun h => e2 (sgn_zero h)
          have := sgn_neg.1 (show sgn y z < 0 by omega)
          omega
      rw [if_neg (by omega)]
      have := sgn_neg.2 h4
      exact ⟨by omega, fun _ => this⟩
theorem cmp_swap (a b : List Int) : cmpW b a = -cmpW a b := by
  unfold cmpW
  by_cases h : a.length = b.length
  · rw [if_pos h, if_pos h.symm, lex_swap]
  · rw [if_neg h, if_neg (Ne.symm h), sgn_swap]
theorem cmp_same (a : List Int) : cmpW a a = 0 := by unfold cmpW; rw [if_pos rfl, lex_same]
theorem cmp_zero {a b : List Int} (h : cmpW a b = 0) : a = b := by
  unfold cmpW at h
  split at h
  · exact lex_zero h
  · rename_i hl; have := sgn_zero h; omega
theorem cmp_range (a b : List Int) : cmpW a b = -1 ∨ cmpW a b = 0 ∨ cmpW a b = 1 := by
  unfold cmpW; split
  · exact lexW_range a b
  · exact sgn_range _ _
theorem cmp_short {a b : List Int} (h : a.length < b.length) : cmpW a b = -1 := by unfold cmpW; rw [if_neg (by omega), sgn_lt (by omega)]
theorem cmp_trans {a b c : List Int} (h : cmpW a b ≤ 0) (h2 : cmpW b c ≤ 0) : cmpW a c ≤ 0 ∧ (cmpW a b < 0 → cmpW a c < 0) := by
  have key : ∀ {a b : List Int}, cmpW a b ≤ 0 → a.length < b.length ∨ (a.length = b.length ∧ lexW a b ≤ 0 ∧ cmpW a b = lexW a b) := by
    intro a b h
    by_cases e : a.length = b.length
    · right
      have e2 : cmpW a b = lexW a b := by unfold cmpW; rw [if_pos e]
      exact ⟨e, by omega, e2⟩
    · left
      unfold cmpW at h
      rw [if_neg e] at h
      have hr := sgn_range a.length b.length
      have hz : sgn (a.length : Int) b.length ≠ 0 := fun h => e (by have := sgn_zero h; omega)
      have := sgn_neg.1 (show sgn (a.length : Int) b.length < 0 by omega)
      omega
  rcases key h with h1 | ⟨h1, h3, h4⟩
  · have hl : a.length < c.length := by rcases key h2 with h5 | ⟨h5, _, _⟩ <;> omega
    rw [cmp_short hl]; simp
  · rcases key h2 with h5 | ⟨h5, h6, h7⟩
    · rw [cmp_short (by omega)]; simp
    · have e2 : cmpW a c = lexW a c := by unfold cmpW; rw [if_pos (by omega)]
      rw [e2, h4]
      exact lex_trans h3 h6
/-- A prefix is not after the list. -/
theorem lex_prefix : ∀ {a b : List Int}, b <+: a → 0 ≤ lexW a b
  | [], [], _ => by simp [lexW]
  | [], y :: b, h => by simp at h
  | x :: a, [], _ => by simp [lexW]
  | x :: a, y :: b, h => by
    rw [List.cons_prefix_cons] at h
    simp only [lexW]
    rw [if_pos h.1.symm]
    exact lex_prefix h.2
theorem cmp_prefix {a b : List Int} (h : b <+: a) : 0 ≤ cmpW a b := by
  have hl := h.length_le
  unfold cmpW
  split
  · exact lex_prefix h
  · rw [sgn_gt (by omega)]; omega
theorem lex_app : ∀ (c a b : List Int), lexW (c ++ a) (c ++ b) = lexW a b
  | [], a, b => rfl
  | x :: c, a, b => by simp [lexW, lex_app c a b]
theorem cmp_app (c a b : List Int) : cmpW (c ++ a) (c ++ b) = cmpW a b := by
  unfold cmpW
  rw [lex_app]
  by_cases h : a.length = b.length
  · rw [if_pos h, if_pos (by simp [h])]
  · rw [if_neg h, if_neg (by simp [h])]
    simp only [List.length_append]
    unfold sgn
    split <;> split <;> (try split) <;> (try split) <;> omega
end Go.Proofs.Ytdnmgiabgpilkaa
