/- cmp.Compare, slices.Compare of lists of numbers, word.Compare, word.Lex. No condition. -/
import Derived.Test.YtlgdijgfphedpaaOps
import Derived.Test.YtlgdijgfphedpaaLit
namespace Go.Proofs.Ytlgdijgfphedpaa
open Go.RowKit

/-- The order of two numbers. -/
def sgn (x y : Int) : Int := if x < y then -1 else if y < x then 1 else 0
theorem sgn_lt {x y : Int} (h : x < y) : sgn x y = -1 := by unfold sgn; rw [if_pos h]
theorem sgn_gt {x y : Int} (h : y < x) : sgn x y = 1 := by unfold sgn; rw [if_neg (by omega), if_pos h]
theorem sgn_eq {x y : Int} (h : x = y) : sgn x y = 0 := by unfold sgn; rw [if_neg (by omega), if_neg (by omega)]
/-- The dictionary order. -/
def lexW : List Int → List Int → Int
  | [], [] => 0
  | [], _ :: _ => -1
  | _ :: _, [] => 1
  | x :: xs, y :: ys => if x = y then lexW xs ys else sgn x y
/-- The shortlex order. -/
def cmpW (a b : List Int) : Int := if a.length = b.length then lexW a b else sgn a.length b.length
theorem lexW_step {a b : List Int} {k : Nat} {x y : Int} (hx : a[k]? = some x) (hy : b[k]? = some y) : lexW (a.drop k) (b.drop k) = if x = y then lexW (a.drop (k + 1)) (b.drop (k + 1)) else sgn x y := by
  have ha : k < a.length := by
    by_cases e : k < a.length
    · exact e
    · rw [List.getElem?_eq_none (by omega)] at hx; simp at hx
  have hb : k < b.length := by
    by_cases e : k < b.length
    · exact e
    · rw [List.getElem?_eq_none (by omega)] at hy; simp at hy
  rw [List.getElem?_eq_getElem ha] at hx
  rw [List.getElem?_eq_getElem hb] at hy
  rw [List.drop_eq_getElem_cons ha, List.drop_eq_getElem_cons hb, show a[k] = x by simpa using hx, show b[k] = y by simpa using hy]
  rfl
theorem lexW_right {a b : List Int} {k : Nat} (ha : k < a.length) (hb : ¬ k < b.length) : lexW (a.drop k) (b.drop k) = 1 := by
  have hb2 : b.drop k = [] := List.drop_eq_nil_of_le (by omega)
  rw [hb2, List.drop_eq_getElem_cons ha]; rfl
theorem lexW_end {a b : List Int} {k : Nat} (ha : ¬ k < a.length) : lexW (a.drop k) (b.drop k) = if k < b.length then -1 else 0 := by
  rw [List.drop_eq_nil_of_le (by omega)]
  by_cases hb : k < b.length
  · rw [List.drop_eq_getElem_cons hb, if_pos hb]; rfl
  · rw [List.drop_eq_nil_of_le (by omega), if_neg hb]; rfl

section
variable {M : Nat → Prop} {w : World} {a b : Option Addr} {c d : Nat}

theorem ret_i {x y : Int} (h : x = y) : Ending.returned (.int .i64 x) = .returned (.int .i64 y) := by rw [h]

/-- The first number that is not 0. -/
def orW (l : List Int) : Int := (l.find? fun x => decide (x ≠ 0)).getD 0
theorem orW_at {l : List Int} {k : Nat} {x : Int} (h : ∀ y ∈ l.take k, y = 0) (hx : l[k]? = some x) (h0 : x ≠ 0) : orW l = x := by
  have hk : k < l.length := by
    by_cases e : k < l.length
    · exact e
    · rw [List.getElem?_eq_none (by omega)] at hx; simp at hx
  have e : l = l.take k ++ x :: l.drop (k + 1) := by
    conv => lhs; rw [← List.take_append_drop k l]
    rw [List.drop_eq_getElem_cons hk]
    rw [List.getElem?_eq_getElem hk] at hx
    rw [show l[k] = x by simpa using hx]
  unfold orW
  rw [e, List.find?_append]
  have : (l.take k).find? (fun x => decide (x ≠ 0)) = none := by
    rw [List.find?_eq_none]; intro y hy; simp [h y hy]
  rw [this]
  simp [h0]
theorem orW_none {l : List Int} (h : ∀ y ∈ l, y = 0) : orW l = 0 := by
  unfold orW
  have : l.find? (fun x => decide (x ≠ 0)) = none := by
    rw [List.find?_eq_none]; intro y hy; simp [h y hy]
  rw [this]; rfl

theorem lexW_range : ∀ (a b : List Int), lexW a b = -1 ∨ lexW a b = 0 ∨ lexW a b = 1
  | [], [] => by simp [lexW]
  | [], _ :: _ => by simp [lexW]
  | _ :: _, [] => by simp [lexW]
  | x :: xs, y :: ys => by
    simp only [lexW]
    split
    · exact lexW_range xs ys
    · unfold sgn; split
      · simp
      · split <;> simp
theorem sgn_range (x y : Int) : sgn x y = -1 ∨ sgn x y = 0 ∨ sgn x y = 1 := by unfold sgn; split <;> (try split) <;> simp
theorem cmpW_or (a b : List Int) : orW [sgn a.length b.length, lexW a b] = cmpW a b := by
  unfold cmpW orW
  by_cases h : a.length = b.length
  · rw [if_pos h, sgn_eq (by rw [h])]
    rcases lexW_range a b with e | e | e <;> simp [e]
  · rw [if_neg h]
    have : sgn (a.length : Int) b.length ≠ 0 := by
      unfold sgn
      split
      · simp
      · split
        · simp
        · omega
    simp [this]

end
end Go.Proofs.Ytlgdijgfphedpaa
