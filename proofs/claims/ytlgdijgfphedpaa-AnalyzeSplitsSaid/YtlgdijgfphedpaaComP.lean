/- The plain words for common prefixes, and the orders by them. No condition. -/
import Derived.Test.YtlgdijgfphedpaaCmp
namespace Go.Proofs.Ytlgdijgfphedpaa

/-- The length of the longest common prefix. -/
def comW : List Int → List Int → Nat
  | x :: xs, y :: ys => if x = y then comW xs ys + 1 else 0
  | [], _ => 0
  | _ :: _, [] => 0
theorem comW_le : ∀ (a b : List Int), comW a b ≤ a.length ∧ comW a b ≤ b.length
  | [], b => by cases b <;> simp [comW]
  | _ :: _, [] => by simp [comW]
  | x :: xs, y :: ys => by
    have := comW_le xs ys
    simp only [comW, List.length_cons]
    split <;> omega
theorem comW_same {x : Int} {xs ys : List Int} : comW (x :: xs) (x :: ys) = comW xs ys + 1 := by simp [comW]
theorem comW_diff {x y : Int} {xs ys : List Int} (h : x ≠ y) : comW (x :: xs) (y :: ys) = 0 := by simp [comW, h]
theorem comW_nil_r (a : List Int) : comW a [] = 0 := by cases a <;> simp [comW]
theorem comW_nil_l (b : List Int) : comW [] b = 0 := by cases b <;> simp [comW]
/-- One more place. -/
theorem comW_step {a b : List Int} {k : Nat} {x : Int} (h : comW a b = k + comW (a.drop k) (b.drop k)) (hx : a[k]? = some x) (hy : b[k]? = some x) : comW a b = (k + 1) + comW (a.drop (k + 1)) (b.drop (k + 1)) := by
  have ha : k < a.length := by
    by_cases e : k < a.length
    · exact e
    · rw [List.getElem?_eq_none (by omega)] at hx; simp at hx
  have hb : k < b.length := by
    by_cases e : k < b.length
    · exact e
    · rw [List.getElem?_eq_none (by omega)] at hy; simp at hy
  rw [List.getElem?_eq_getElem ha] at hx
  rw [List.getElem?_eq_getElem hb] at hy
  rw [List.drop_eq_getElem_cons ha, List.drop_eq_getElem_cons hb, show a[k] = x by simpa using hx, show b[k] = x by simpa using hy, comW_same] at h
  omega
theorem comW_stop {a b : List Int} {k : Nat} {x y : Int} (h : comW a b = k + comW (a.drop k) (b.drop k)) (hx : a[k]? = some x) (hy : b[k]? = some y) (hxy : x ≠ y) : comW a b = k := by
  have ha : k < a.length := by
    by_cases e : k < a.length
    · exact e
    · rw [List.getElem?_eq_none (by omega)] at hx; simp at hx
  have hb : k < b.length := by
    by_cases e : k < b.length
    · exact e
    · rw [List.getElem?_eq_none (by omega)] at hy; simp at hy
  rw [List.getElem?_eq_getElem ha] at hx
  rw [List.getElem?_eq_getElem hb] at hy
  rw [List.drop_eq_getElem_cons ha, List.drop_eq_getElem_cons hb, show a[k] = x by simpa using hx, show b[k] = y by simpa using hy, comW_diff hxy] at h
  omega
theorem comW_end {a b : List Int} {k : Nat} (h : comW a b = k + comW (a.drop k) (b.drop k)) (hk : a.length ≤ k ∨ b.length ≤ k) : comW a b = k := by
  rcases hk with hk | hk
  · rw [List.drop_eq_nil_of_le hk, comW_nil_l] at h; omega
  · have h2 : b.drop k = [] := List.drop_eq_nil_of_le hk
    rw [h2, comW_nil_r] at h; omega
/-- The order is that of what is behind the common prefix. -/
theorem lexW_com : ∀ (a b : List Int), lexW a b = lexW (a.drop (comW a b)) (b.drop (comW a b))
  | [], b => by rw [comW_nil_l]; simp
  | x :: xs, [] => by rw [comW_nil_r]; simp
  | x :: xs, y :: ys => by
    by_cases h : x = y
    · subst h
      rw [comW_same]
      simp only [List.drop_succ_cons]
      rw [← lexW_com xs ys]
      simp [lexW]
    · rw [comW_diff h]; simp
/-- Lex of the reference. -/
theorem lexW_zero {a b : List Int} (ha : comW a b = a.length) (hb : comW a b = b.length) : lexW a b = 0 := by
  rw [lexW_com, List.drop_eq_nil_of_le (by omega)]
  have : b.drop (comW a b) = [] := List.drop_eq_nil_of_le (by omega)
  rw [this]; rfl
theorem lexW_short {a b : List Int} (ha : comW a b = a.length) (hb : ¬ comW a b = b.length) : lexW a b = -1 := by
  have hle := (comW_le a b).2
  rw [lexW_com, List.drop_eq_nil_of_le (by omega), List.drop_eq_getElem_cons (l := b) (by omega)]; rfl
theorem lexW_longer {a b : List Int} (ha : ¬ comW a b = a.length) (hb : comW a b = b.length) : lexW a b = 1 := by
  have hle := (comW_le a b).1
  have : b.drop (comW a b) = [] := List.drop_eq_nil_of_le (by omega)
  rw [lexW_com, this, List.drop_eq_getElem_cons (l := a) (by omega)]; rfl
theorem comW_ne : ∀ {a b : List Int} {x y : Int}, a[comW a b]? = some x → b[comW a b]? = some y → x ≠ y
  | [], b, x, y, hx, _ => by simp at hx
  | u :: xs, [], x, y, _, hy => by simp at hy
  | u :: xs, v :: ys, x, y, hx, hy => by
    by_cases h : u = v
    · subst h
      rw [comW_same, List.getElem?_cons_succ] at hx hy
      exact comW_ne hx hy
    · rw [comW_diff h, List.getElem?_cons_zero] at hx hy
      obtain rfl : u = x := by simpa using hx
      obtain rfl : v = y := by simpa using hy
      exact h
theorem lexW_at {a b : List Int} {x y : Int} (hx : a[comW a b]? = some x) (hy : b[comW a b]? = some y) : lexW a b = sgn x y := by
  have hne := comW_ne hx hy
  rw [lexW_com, lexW_step hx hy, if_neg hne]
/-- One list is a prefix of the other. -/
theorem comW_prefix {a b : List Int} : comW a b = b.length ↔ b <+: a := by
  constructor
  · intro h
    induction b generalizing a with
    | nil => exact List.nil_prefix
    | cons y ys ih =>
      cases a with
      | nil => rw [comW_nil_l] at h; simp at h
      | cons x xs =>
        by_cases e : x = y
        · subst e
          rw [comW_same, List.length_cons] at h
          rw [List.cons_prefix_cons]
          exact ⟨rfl, ih (by omega)⟩
        · rw [comW_diff e, List.length_cons] at h; omega
  · rintro ⟨t, rfl⟩
    induction b with
    | nil => rw [List.nil_append, comW_nil_r]; rfl
    | cons y ys ih => rw [List.cons_append, comW_same, ih]; simp
end Go.Proofs.Ytlgdijgfphedpaa
