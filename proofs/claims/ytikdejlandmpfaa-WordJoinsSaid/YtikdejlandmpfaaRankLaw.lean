/- The laws of ranks: Rank and Unrank are inverse, the next word has the next rank, the order is that of the ranks. No condition. -/
import Derived.Test.YtikdejlandmpfaaUnP
import Derived.Test.YtikdejlandmpfaaRank
import Derived.Test.YtikdejlandmpfaaComP
namespace Go.Proofs.Ytikdejlandmpfaa

/-- Words whose symbols are below n. -/
def okW (n : Int) (w : List Int) : Prop := ∀ x ∈ w, 0 ≤ x ∧ x < n
/-- The rank behind a word of the rank r. -/
def valA (n : Int) : Int → List Int → Int
  | r, [] => r
  | r, x :: xs => valA n (r * n + x + 1) xs
theorem valA_app (n : Int) : ∀ (a : List Int) (r : Int) (b : List Int), valA n r (a ++ b) = valA n (valA n r a) b
  | [], _, _ => rfl
  | x :: a, r, b => by rw [List.cons_append, valA, valA, valA_app n a]
theorem okW_cons {n x : Int} {w : List Int} (h : okW n (x :: w)) : (0 ≤ x ∧ x < n) ∧ okW n w := ⟨h x (by simp), fun y hy => h y (by simp [hy])⟩
theorem okW_app {n : Int} {a b : List Int} (h : okW n (a ++ b)) : okW n a ∧ okW n b := ⟨fun y hy => h y (by simp [hy]), fun y hy => h y (by simp [hy])⟩
theorem valA_ge {n : Int} (hn : 1 ≤ n) : ∀ (w : List Int) (r : Int), 0 ≤ r → okW n w → r ≤ valA n r w
  | [], r, _, _ => Int.le_refl _
  | x :: w, r, hr, h => by
    obtain ⟨⟨h1, _⟩, h2⟩ := okW_cons h
    have e : r ≤ r * n := by
      have := Int.mul_le_mul_of_nonneg_left hn hr
      rwa [Int.mul_one] at this
    have := valA_ge hn w (r * n + x + 1) (by omega) h2
    rw [valA]; omega
/-- A smaller beginning stays smaller. -/
theorem valA_lt {n : Int} (hn : 1 ≤ n) : ∀ (a b : List Int) (r s : Int), a.length = b.length → okW n a → okW n b → r < s → valA n r a < valA n s b
  | [], [], r, s, _, _, _, h => h
  | x :: a, y :: b, r, s, hl, ha, hb, h => by
    obtain ⟨⟨_, h1⟩, ha⟩ := okW_cons ha
    obtain ⟨⟨h2, _⟩, hb⟩ := okW_cons hb
    have e : (r + 1) * n ≤ s * n := Int.mul_le_mul_of_nonneg_right (by omega) (by omega)
    rw [Int.add_mul, Int.one_mul] at e
    exact valA_lt hn a b _ _ (by simpa using hl) ha hb (by omega)
  | [], _ :: _, _, _, hl, _, _, _ => by simp at hl
  | _ :: _, [], _, _, hl, _, _, _ => by simp at hl
theorem okW_zero {n : Int} (hn : 1 ≤ n) (k : Nat) : okW n (List.replicate k 0) := fun y hy => by
  obtain ⟨_, rfl⟩ := List.mem_replicate.1 hy
  omega
/-- Where all is carried. -/
theorem nx_none {n : Int} : ∀ (w : List Int) (r : Int), okW n w → nxW n w = none → valA n r w + 1 = valA n (r + 1) (List.replicate w.length 0)
  | [], r, _, _ => rfl
  | x :: w, r, h, hn => by
    obtain ⟨⟨h1, h2⟩, hw⟩ := okW_cons h
    simp only [nxW] at hn
    split at hn
    · simp at hn
    · rename_i hn2
      split at hn
      · simp at hn
      · rename_i hx
        have e : x = n - 1 := by omega
        rw [valA, nx_none w _ hw hn2, List.length_cons, List.replicate_succ, valA]
        congr 1
        rw [Int.add_mul, Int.one_mul]
        omega
theorem nx_some {n : Int} : ∀ (w : List Int) (r : Int) (y : List Int), okW n w → nxW n w = some y → valA n r y = valA n r w + 1
  | [], r, y, _, h => by simp [nxW] at h
  | x :: w, r, y, h, hn => by
    obtain ⟨⟨h1, h2⟩, hw⟩ := okW_cons h
    simp only [nxW] at hn
    split at hn
    · rename_i ys hys
      obtain rfl : x :: ys = y := by simpa using hn
      rw [valA, valA, nx_some w _ ys hw hys]
    · rename_i hn2
      split at hn
      · rename_i hx
        obtain rfl : (x + 1) :: List.replicate w.length 0 = y := by simpa using hn
        rw [valA, valA, nx_none w _ hw hn2]
        congr 1
        omega
      · simp at hn
theorem nx_ok {n : Int} (hn0 : 1 ≤ n) : ∀ (w : List Int) (y : List Int), okW n w → nxW n w = some y → okW n y ∧ y.length = w.length ∧ lexW w y = -1
  | [], y, _, h => by simp [nxW] at h
  | x :: w, y, h, hn => by
    obtain ⟨⟨h1, h2⟩, hw⟩ := okW_cons h
    simp only [nxW] at hn
    split at hn
    · rename_i ys hys
      obtain rfl : x :: ys = y := by simpa using hn
      obtain ⟨h3, h4, h5⟩ := nx_ok hn0 w ys hw hys
      refine ⟨fun z hz => ?_, by simp [h4], by simp [lexW, h5]⟩
      rcases List.mem_cons.1 hz with rfl | hz
      · omega
      · exact h3 z hz
    · split at hn
      · rename_i hx
        obtain rfl : (x + 1) :: List.replicate w.length 0 = y := by simpa using hn
        refine ⟨fun z hz => ?_, by simp, ?_⟩
        · rcases List.mem_cons.1 hz with rfl | hz
          · omega
          · exact okW_zero hn0 _ z hz
        · simp only [lexW]
          rw [if_neg (by omega), sgn_lt (by omega)]
      · simp at hn

/-- Rank is the value, where that fits. -/
theorem rkW_val {n : Int} {w : List Int} (hn : 1 ≤ n) (h : okW n w) : ∀ k, k ≤ w.length → rkW n w k = if valA n 0 (w.take k) ≤ 4611686018427387904 then some (valA n 0 (w.take k)) else none := by
  intro k
  induction k with
  | zero => intro _; simp [rkW, valA]
  | succ k ih =>
    intro hk
    have hx : w[k]? = some w[k] := List.getElem?_eq_getElem (by omega)
    obtain ⟨x0, x1⟩ := h w[k] (List.getElem_mem _)
    have e : valA n 0 (w.take (k + 1)) = valA n 0 (w.take k) * n + w[k] + 1 := by
      rw [List.take_add_one, hx, Option.toList_some, valA_app]; rfl
    have hr : 0 ≤ valA n 0 (w.take k) := valA_ge hn _ 0 (by omega) (fun y hy => h y (List.mem_of_mem_take hy))
    by_cases hf : valA n 0 (w.take k) ≤ 4611686018427387904
    · have hs := ih (by omega)
      rw [if_pos hf] at hs
      rw [rkW_step hs hx, e]
      by_cases hbig : (4611686018427387904 - w[k] - 1) / n < valA n 0 (w.take k)
      · rw [if_pos hbig, if_neg]
        have := (Int.ediv_lt_iff_lt_mul (by omega)).1 hbig
        omega
      · rw [if_neg hbig, if_pos (rk_fits hn hr hbig).2]
    · have hs := ih (by omega)
      rw [if_neg hf] at hs
      rw [rkW_stop hs _ (by omega), if_neg]
      rw [e]
      have : valA n 0 (w.take k) ≤ valA n 0 (w.take k) * n := by
        have := Int.mul_le_mul_of_nonneg_left hn hr
        rwa [Int.mul_one] at this
      omega
theorem okW_of {w : List Int} {n : Int} (h : wErr w n = 0) : 1 ≤ n ∧ n ≤ 1024 ∧ w.length ≤ 1024 ∧ okW n w := wErr_zero h
theorem wErr_of {w : List Int} {n : Int} (h1 : 1 ≤ n) (h2 : n ≤ 1024) (h3 : w.length ≤ 1024) (h : okW n w) : wErr w n = 0 := by
  refine wErr_0 (by omega) (by omega) ?_
  rintro ⟨x, hx, hb⟩
  have := h x hx
  omega
theorem rk_of {w : List Int} {n : Int} (h : wErr w n = 0) : (valA n 0 w ≤ 4611686018427387904 ∧ rkErr w n = 0 ∧ rkVal w n = valA n 0 w) ∨ (4611686018427387904 < valA n 0 w ∧ rkErr w n = 17) := by
  obtain ⟨n0, n1, hl, hw⟩ := okW_of h
  have hk := rkW_val n0 hw w.length (Nat.le_refl _)
  rw [List.take_length] at hk
  have hh : ¬ wErr w n ≠ 0 := by simpa using h
  unfold rkErr rkVal
  rw [if_neg hh, if_neg hh]
  by_cases hf : valA n 0 w ≤ 4611686018427387904
  · rw [if_pos hf] at hk
    left
    rw [hk]
    exact ⟨hf, by simp, rfl⟩
  · rw [if_neg hf] at hk
    right
    rw [hk]
    exact ⟨by omega, by simp⟩

/-- Unrank gives the word back. -/
theorem un_val {n : Int} (hn : 1 ≤ n) : ∀ (k f : Nat) (w : List Int), w.length = k → okW n w → k ≤ f → unB n f (valA n 0 w) = some w.reverse := by
  intro k
  induction k with
  | zero =>
    intro f w hl _ _
    obtain rfl := List.length_eq_zero_iff.1 hl
    exact unB_done (by simp [valA]) f
  | succ k ih =>
    intro f w hl hw hf
    obtain ⟨v, x, rfl⟩ : ∃ v x, w = v ++ [x] := ⟨w.dropLast, w.getLast (by intro e; simp [e] at hl), (List.dropLast_concat_getLast _).symm⟩
    obtain ⟨hv, hx⟩ := okW_app hw
    obtain ⟨x0, x1⟩ := hx x (by simp)
    obtain ⟨g, rfl⟩ : ∃ g, f = g + 1 := ⟨f - 1, by omega⟩
    have hr : 0 ≤ valA n 0 v := valA_ge hn _ 0 (by omega) hv
    have hr2 : 0 ≤ valA n 0 v * n := Int.mul_nonneg hr (by omega)
    have e : valA n 0 (v ++ [x]) = valA n 0 v * n + x + 1 := by rw [valA_app]; rfl
    have e2 : valA n 0 v * n + x + 1 - 1 = x + valA n 0 v * n := by omega
    rw [e, unB, if_neg (by omega), e2, Int.add_mul_ediv_right _ _ (by omega), Int.ediv_eq_zero_of_lt x0 x1, Int.zero_add, Int.add_mul_emod_self_right, Int.emod_eq_of_lt x0 x1, ih g v (by simpa using hl) hv (by omega)]
    simp
/-- .. and Rank the number. -/
theorem un_inv {n : Int} (hn : 1 ≤ n) : ∀ (f : Nat) (m : Int) (l : List Int), 0 ≤ m → unB n f m = some l → valA n 0 l.reverse = m ∧ okW n l.reverse ∧ l.length ≤ f := by
  intro f
  induction f with
  | zero =>
    intro m l hm h
    rw [unB] at h
    split at h
    · obtain rfl : [] = l := by simpa using h
      exact ⟨by simp [valA]; omega, fun y hy => by simp at hy, by simp⟩
    · simp at h
  | succ f ih =>
    intro m l hm h
    rw [unB] at h
    split at h
    · obtain rfl : [] = l := by simpa using h
      exact ⟨by simp [valA]; omega, fun y hy => by simp at hy, by simp⟩
    · obtain ⟨r, hr, rfl⟩ := Option.map_eq_some_iff.1 h
      obtain ⟨h1, h2, h3⟩ := ih _ _ (Int.ediv_nonneg (by omega) (by omega)) hr
      have hd := Int.emod_nonneg (m - 1) (b := n) (by omega)
      have hd2 := Int.emod_lt_of_pos (m - 1) (b := n) (by omega)
      refine ⟨?_, fun y hy => ?_, by simp; omega⟩
      · rw [List.reverse_cons, valA_app, h1]
        have := Int.ediv_mul_add_emod (m - 1) n
        simp only [valA]; omega
      · rw [List.reverse_cons, List.mem_append] at hy
        rcases hy with hy | hy
        · exact h2 y hy
        · obtain rfl : y = (m - 1) % n := by simpa using hy
          omega
theorem un_of {m n : Int} (h : unErr m n = 0) : 0 ≤ m ∧ 1 ≤ n ∧ n ≤ 1024 ∧ valA n 0 (unVal m n) = m ∧ wErr (unVal m n) n = 0 := by
  unfold unErr at h
  split at h
  · simp at h
  · rename_i h1
    split at h
    · simp at h
    · rename_i h2
      have e : unVal m n = ((unB n 1024 m).getD []).reverse := by unfold unVal; rw [if_neg h1]
      cases hb : unB n 1024 m with
      | none => exact absurd hb h2
      | some l =>
        obtain ⟨g1, g2, g3⟩ := un_inv (n := n) (by omega) 1024 m l (by omega) hb
        rw [e, hb]
        exact ⟨by omega, by omega, by omega, g1, wErr_of (by omega) (by omega) (by simpa using g3) g2⟩
theorem un_not {m n : Int} (h : unErr m n ≠ 0) : unVal m n = [] := by
  unfold unErr at h
  unfold unVal
  split
  · rfl
  · rename_i h1
    rw [if_neg h1] at h
    split at h
    · rename_i h2; rw [h2]; rfl
    · simp at h

/-- The order is that of the ranks. -/
theorem lex_val {n : Int} (hn : 1 ≤ n) : ∀ (a b : List Int) (r : Int), a.length = b.length → okW n a → okW n b → lexW a b = -1 → valA n r a < valA n r b
  | [], [], r, _, _, _, h => by simp [lexW] at h
  | x :: a, y :: b, r, hl, ha, hb, h => by
    have ha2 := (okW_cons ha).2
    have hb2 := (okW_cons hb).2
    simp only [lexW] at h
    by_cases e : x = y
    · subst e
      rw [if_pos rfl] at h
      exact lex_val hn a b _ (by simpa using hl) ha2 hb2 h
    · rw [if_neg e] at h
      have : x < y := by
        unfold sgn at h
        split at h
        · assumption
        · split at h <;> simp at h
      exact valA_lt hn a b _ _ (by simpa using hl) ha2 hb2 (by omega)
  | [], _ :: _, _, hl, _, _, _ => by simp at hl
  | _ :: _, [], _, hl, _, _, _ => by simp at hl
theorem len_val {n : Int} (hn : 1 ≤ n) {a b : List Int} (hl : a.length < b.length) (ha : okW n a) (hb : okW n b) : valA n 0 a < valA n 0 b := by
  obtain ⟨b1, b2, rfl, h2⟩ : ∃ b1 b2, b = b1 ++ b2 ∧ b2.length = a.length := ⟨b.take (b.length - a.length), b.drop (b.length - a.length), (List.take_append_drop _ _).symm, by simp; omega⟩
  obtain ⟨hb1, hb2⟩ := okW_app hb
  rw [valA_app]
  refine valA_lt hn a b2 _ _ h2.symm ha hb2 ?_
  cases b1 with
  | nil => simp at hl; omega
  | cons y b1 =>
    obtain ⟨⟨y0, _⟩, hb1⟩ := okW_cons hb1
    have := valA_ge hn b1 (0 * n + y + 1) (by omega) hb1
    rw [valA]; omega
theorem cmp_val {n : Int} (hn : 1 ≤ n) {a b : List Int} (ha : okW n a) (hb : okW n b) (h : cmpW a b = -1) : valA n 0 a < valA n 0 b := by
  unfold cmpW at h
  split at h
  · rename_i hl; exact lex_val hn a b 0 hl ha hb h
  · have : a.length < b.length := by
      unfold sgn at h
      split at h
      · omega
      · split at h <;> simp at h
    exact len_val hn this ha hb
end Go.Proofs.Ytikdejlandmpfaa
