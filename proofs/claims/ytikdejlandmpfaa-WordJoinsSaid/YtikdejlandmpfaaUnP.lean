/- The plain words for Next and Unrank. No condition. -/
import Derived.Test.YtikdejlandmpfaaRankP
namespace Go.Proofs.Ytikdejlandmpfaa

/-- The digits of a rank, the last symbol first; none: more than f. -/
def unB (n : Int) : Nat → Int → Option (List Int)
  | 0, m => if m ≤ 0 then some [] else none
  | f + 1, m => if m ≤ 0 then some [] else (unB n f ((m - 1) / n)).map (fun l => (m - 1) % n :: l)
theorem unB_done {n m : Int} (h : m ≤ 0) (f : Nat) : unB n f m = some [] := by cases f <;> simp [unB, h]
/-- The word of a rank, and the error. -/
def unErr (m n : Int) : Int := if m < 0 ∨ (n < 1 ∨ 1024 < n) then 2 else if unB n 1024 m = none then 3 else 0
def unVal (m n : Int) : List Int := if m < 0 ∨ (n < 1 ∨ 1024 < n) then [] else ((unB n 1024 m).getD []).reverse
theorem un_range {m n : Int} (h : m < 0 ∨ (n < 1 ∨ 1024 < n)) : unErr m n = 2 ∧ unVal m n = [] := by unfold unErr unVal; rw [if_pos h, if_pos h]; exact ⟨rfl, rfl⟩
/-- What is left after the digits l. -/
theorem un_step {n m z : Int} {l : List Int} {k : Nat} (h : unB n k m = (unB n (k - l.length) z).map (fun r => l ++ r)) (hz : 0 < z) (hl : l.length < k) :
    unB n k m = (unB n (k - (l ++ [(z - 1) % n]).length) ((z - 1) / n)).map (fun r => (l ++ [(z - 1) % n]) ++ r) := by
  obtain ⟨f, hf⟩ : ∃ f, k - l.length = f + 1 := ⟨k - l.length - 1, by omega⟩
  rw [h, hf]
  have e : k - (l ++ [(z - 1) % n]).length = f := by rw [List.length_append, List.length_singleton]; omega
  rw [e, unB, if_neg (by omega), Option.map_map]
  congr 1
  funext r
  simp
theorem un_many {n m z : Int} {l : List Int} {k : Nat} (h : unB n k m = (unB n (k - l.length) z).map (fun r => l ++ r)) (hz : 0 < z) (hl : l.length = k) : unB n k m = none := by
  rw [h, hl, Nat.sub_self, unB, if_neg (by omega)]; rfl
theorem un_end {n m z : Int} {l : List Int} {k : Nat} (h : unB n k m = (unB n (k - l.length) z).map (fun r => l ++ r)) (hz : ¬ 0 < z) : unB n k m = some l := by
  rw [h, unB_done (by omega)]; simp

/-- The next word of the same length. -/
def nxW (n : Int) : List Int → Option (List Int)
  | [] => none
  | x :: xs => match nxW n xs with
    | some ys => some (x :: ys)
    | none => if x + 1 < n then some ((x + 1) :: List.replicate xs.length 0) else none
theorem nxW_app (n : Int) (a b : List Int) : nxW n (a ++ b) = match nxW n b with | some ys => some (a ++ ys) | none => (nxW n a).map (fun r => r ++ List.replicate b.length 0) := by
  induction a with
  | nil => cases h : nxW n b <;> simp [nxW, h]
  | cons x a ih =>
    rw [List.cons_append, nxW, ih]
    cases h : nxW n b with
    | some ys => simp
    | none =>
      simp only [nxW]
      cases h2 : nxW n a with
      | some zs => simp
      | none =>
        simp only [Option.map_none]
        split
        · simp [List.replicate_append_replicate]
        · rfl
/-- The next word; the flag. -/
def nextV (w : List Int) (n : Int) : List Int := if wErr w n ≠ 0 then [] else match nxW n w with | some y => y | none => if w.length = 1024 then [] else List.replicate (w.length + 1) 0
def nextB (w : List Int) (n : Int) : Bool := if wErr w n ≠ 0 then false else match nxW n w with | some _ => true | none => decide (w.length ≠ 1024)
theorem next_bad {w : List Int} {n : Int} (h : wErr w n ≠ 0) : nextV w n = [] ∧ nextB w n = false := by unfold nextV nextB; rw [if_pos h, if_pos h]; exact ⟨rfl, rfl⟩

/-- The round at place k: behind it all is carried. -/
theorem nx_hit {w : List Int} {n : Int} {k : Nat} {x : Int} (hx : w[k]? = some x) (h : nxW n (w.drop (k + 1)) = none) (hlt : x + 1 < n) :
    nxW n w = some ((w.take (k + 1) ++ List.replicate (w.length - (k + 1)) 0).set k (x + 1)) := by
  have hk : k < w.length := by
    by_cases e : k < w.length
    · exact e
    · rw [List.getElem?_eq_none (by omega)] at hx; simp at hx
  have e1 : w = w.take k ++ (x :: w.drop (k + 1)) := by
    conv => lhs; rw [← List.take_append_drop k w]
    rw [List.drop_eq_getElem_cons hk]
    rw [List.getElem?_eq_getElem hk] at hx
    rw [show w[k] = x by simpa using hx]
  have e2 : nxW n (x :: w.drop (k + 1)) = some ((x + 1) :: List.replicate (w.length - (k + 1)) 0) := by
    simp only [nxW, h]
    rw [if_pos hlt, List.length_drop]
  conv => lhs; rw [e1]
  rw [nxW_app, e2]
  simp only
  congr 1
  rw [List.take_add_one, hx, Option.toList_some, List.append_assoc, List.set_append]
  rw [if_neg (by simp; omega)]
  congr 1
  have : k - (w.take k).length = 0 := by simp; omega
  rw [this]; rfl
theorem nx_carry {w : List Int} {n : Int} {k : Nat} {x : Int} (hx : w[k]? = some x) (h : nxW n (w.drop (k + 1)) = none) (hlt : ¬ x + 1 < n) : nxW n (w.drop k) = none := by
  have hk : k < w.length := by
    by_cases e : k < w.length
    · exact e
    · rw [List.getElem?_eq_none (by omega)] at hx; simp at hx
  rw [List.getElem?_eq_getElem hk] at hx
  rw [List.drop_eq_getElem_cons hk, show w[k] = x by simpa using hx]
  simp only [nxW, h]
  rw [if_neg hlt]
theorem nx_row {w : List Int} {k : Nat} {x : Int} (hx : w[k]? = some x) : (w.take (k + 1) ++ List.replicate (w.length - (k + 1)) 0).set k 0 = w.take k ++ List.replicate (w.length - k) 0 := by
  have hk : k < w.length := by
    by_cases e : k < w.length
    · exact e
    · rw [List.getElem?_eq_none (by omega)] at hx; simp at hx
  rw [List.take_add_one, hx, Option.toList_some, List.append_assoc, List.set_append]
  rw [if_neg (by simp; omega)]
  have : k - (w.take k).length = 0 := by simp; omega
  rw [this, List.singleton_append, List.set_cons_zero]
  obtain ⟨d, hd⟩ : ∃ d, w.length - k = d + 1 := ⟨w.length - k - 1, by omega⟩
  have hd2 : w.length - (k + 1) = d := by omega
  rw [hd, hd2, List.replicate_succ]
theorem nx_at {w : List Int} {k : Nat} {x : Int} (hx : w[k]? = some x) : (w.take (k + 1) ++ List.replicate (w.length - (k + 1)) 0)[k]? = some x := by
  have hk : k < w.length := by
    by_cases e : k < w.length
    · exact e
    · rw [List.getElem?_eq_none (by omega)] at hx; simp at hx
  rw [List.getElem?_append_left (by simp; omega), List.getElem?_take, if_pos (by omega), hx]
theorem nx_len {w : List Int} {k : Nat} (hk : k ≤ w.length) : (w.take k ++ List.replicate (w.length - k) 0).length = w.length := by simp; omega
theorem next_hit {w : List Int} {n : Int} {y : List Int} (h : wErr w n = 0) (hn : nxW n w = some y) : nextV w n = y ∧ nextB w n = true := by
  have hh : ¬ wErr w n ≠ 0 := by simpa using h
  simp only [nextV, nextB, if_neg hh, hn]; exact ⟨trivial, trivial⟩
theorem next_full {w : List Int} {n : Int} (h : wErr w n = 0) (hn : nxW n w = none) (hl : w.length = 1024) : nextV w n = [] ∧ nextB w n = false := by
  have hh : ¬ wErr w n ≠ 0 := by simpa using h
  simp only [nextV, nextB, if_neg hh, hn, hl]; simp
theorem next_longer {w : List Int} {n : Int} (h : wErr w n = 0) (hn : nxW n w = none) (hl : w.length ≠ 1024) : nextV w n = List.replicate w.length 0 ++ [0] ∧ nextB w n = true := by
  have hh : ¬ wErr w n ≠ 0 := by simpa using h
  simp only [nextV, nextB, if_neg hh, hn, if_neg hl]; simp [hl, List.replicate_succ']
end Go.Proofs.Ytikdejlandmpfaa
