/- cmp.Compare, slices.Compare of lists of numbers, word.Compare, word.Lex. No condition. -/
import Derived.Test.YtdnmgiabgpilkaaOps
import Derived.Test.YtdnmgiabgpilkaaLit
namespace Go.Proofs.Ytdnmgiabgpilkaa
open Go.RowKit

/-- The order of two numbers. -/
def sgn (x y : Int) : Int := if x < y then -1 else if y < x then 1 else 0
theorem sgn_lt {x y : Int} (h : x < y) : sgn x y = -1 := by unfold sgn; rw [if_pos h]
theorem sgn_gt {x y : Int} (h : y < x) : sgn x y = 1 := by unfold sgn; rw [if_neg (by omega), if_pos h]
theorem sgn_eq {x y : Int} (h : x = y) : sgn x y = 0 := by unfold sgn; rw [if_neg (by omega), if_neg (by omega)]
/-- The dictionary order. -/
def lexW : List Int → List Int → Int
  | [], [] => 0
  | [], _ :: _ => -1
  | _ :: _, [] => 1
  | x :: xs, y :: ys => if x = y then lexW xs ys else sgn x y
/-- The shortlex order. -/
def cmpW (a b : List Int) : Int := if a.length = b.length then lexW a b else sgn a.length b.length
theorem lexW_step {a b : List Int} {k : Nat} {x y : Int} (hx : a[k]? = some x) (hy : b[k]? = some y) : lexW (a.drop k) (b.drop k) = if x = y then lexW (a.drop (k + 1)) (b.drop (k + 1)) else sgn x y := by
  have ha : k < a.length := by
    by_cases e : k < a.length
    · exact e
    · rw [List.getElem?_eq_none (by omega)] at hx; simp at hx
  have hb : k < b.length := by
    by_cases e : k < b.length
    · exact e
    · rw [List.getElem?_eq_none (by omega)] at hy; simp at hy
  rw [List.getElem?_eq_getElem ha] at hx
  rw [List.getElem?_eq_getElem hb] at hy
  rw [List.drop_eq_getElem_cons ha, List.drop_eq_getElem_cons hb, show a[k] = x by simpa using hx, show b[k] = y by simpa using hy]
  rfl
theorem lexW_right {a b : List Int} {k : Nat} (ha : k < a.length) (hb : ¬ k < b.length) : lexW (a.drop k) (b.drop k) = 1 := by
  have hb2 : b.drop k = [] := List.drop_eq_nil_of_le (by omega)
  rw [hb2, List.drop_eq_getElem_cons ha]; rfl
theorem lexW_end {a b : List Int} {k : Nat} (ha : ¬ k < a.length) : lexW (a.drop k) (b.drop k) = if k < b.length then -1 else 0 := by
  rw [List.drop_eq_nil_of_le (by omega)]
  by_cases hb : k < b.length
  · rw [List.drop_eq_getElem_cons hb, if_pos hb]; rfl
  · rw [List.drop_eq_nil_of_le (by omega), if_neg hb]; rfl

section
variable {M : Nat → Prop} {w : World} {a b : Option Addr} {c d : Nat}

theorem nan_any (x : Int) : Calls Try.prog 80 #[.int .i64 x] w fun e w' => e = .returned (.bool false) ∧ w' = w := by
  go_enter Try.func80, Try.ntmps80
  go_wp2
  go_ret
  exact ⟨rfl, rfl⟩

theorem ccmp_any (x y : Int) : Calls Try.prog 66 #[.int .i64 x, .int .i64 y] w fun e w' => e = .returned (.int .i64 (sgn x y)) ∧ w' = w := by
  rcases Int.lt_trichotomy x y with h | h | h
  · rw [sgn_lt h]
    go_enter Try.func66, Try.ntmps66
    go_wp2_with (go_at_call 80; refine (nan_any _).mono ?_; rintro e w' ⟨rfl, rfl⟩)
    go_ret
    exact ⟨rfl, rfl⟩
  · rw [sgn_eq h]
    subst h
    go_enter Try.func66, Try.ntmps66
    go_wp2_with (go_at_call 80; refine (nan_any _).mono ?_; rintro e w' ⟨rfl, rfl⟩)
    go_ret
    exact ⟨rfl, rfl⟩
  · rw [sgn_gt h]
    have h2 : ¬ x < y := by omega
    go_enter Try.func66, Try.ntmps66
    go_wp2_with (go_at_call 80; refine (nan_any _).mono ?_; rintro e w' ⟨rfl, rfl⟩)
    go_ret
    exact ⟨rfl, rfl⟩

theorem ret_i {x y : Int} (h : x = y) : Ending.returned (.int .i64 x) = .returned (.int .i64 y) := by rw [h]

set_option maxHeartbeats 1000000 in
theorem scmp_any {xs ys : List Int} (h1 : Sl M w a c xs) (h2 : Sl M w b d ys) :
    Calls Try.prog 67 #[.slice a xs.length c, .slice b ys.length d] w fun e w' => e = .returned (.int .i64 (lexW xs ys)) ∧ w' = w := by
  have hl1 := h1.le
  have hl2 := h2.le
  have hL0 : Hid (lexW xs ys = lexW (xs.drop 0) (ys.drop 0)) := rfl
  go_enter Try.func67, Try.ntmps67
  go_wp2
  go_loop [11] (fun i => ∃ k : Nat, k ≤ xs.length ∧ i = .int .i64 k ∧ Hid (lexW xs ys = lexW (xs.drop k) (ys.drop k)) ∧ k ≤ ys.length) (fun i => xs.length - (intOf i).toNat)
  case atStart => exact ⟨0, by omega, rfl, hL0, by omega⟩
  case round =>
    clear hL0
    obtain ⟨k, hk, rfl, hL, hky⟩ := hrel
    by_cases hlt : k < xs.length
    · obtain ⟨b1, o1, x, rfl, hxc, hx, -⟩ := h1.at_int hlt
      by_cases hly : k < ys.length
      · obtain ⟨b2, o2, y, rfl, hyc, hy, -⟩ := h2.at_int hly
        have HS := Lib.hid (lexW_step hx.out hy.out)
        have hge : ¬ ys.length ≤ k := by omega
        rcases Int.lt_trichotomy x y with h | h | h
        · have hs := sgn_lt h
          have HF : Hid (lexW xs ys = -1) := by unfold Hid; rw [hL.out, HS.out, if_neg (by omega), hs]
          go_wp2_with (go_at_call 66; refine (ccmp_any _ _).mono ?_; rintro e w' ⟨rfl, rfl⟩)
          go_ret
          exact ⟨ret_i HF.out.symm, rfl⟩
        · have hs := sgn_eq h
          have HF : Hid (lexW xs ys = lexW (xs.drop (k + 1)) (ys.drop (k + 1))) := by unfold Hid; rw [hL.out, HS.out, if_pos h]
          clear h
          go_wp2_with (go_at_call 66; refine (ccmp_any _ _).mono ?_; rintro e w' ⟨rfl, rfl⟩)
          go_round
          case rel => exact ⟨k + 1, by omega, by go_num, HF, by omega⟩
          case measure => simp [intOf]; omega
        · have hs := sgn_gt h
          have HF : Hid (lexW xs ys = 1) := by unfold Hid; rw [hL.out, HS.out, if_neg (by omega), hs]
          go_wp2_with (go_at_call 66; refine (ccmp_any _ _).mono ?_; rintro e w' ⟨rfl, rfl⟩)
          go_ret
          exact ⟨ret_i HF.out.symm, rfl⟩
      · have HF : Hid (lexW xs ys = 1) := by unfold Hid; rw [hL.out, lexW_right hlt hly]
        have hge : ys.length ≤ k := by omega
        go_wp2
        go_ret
        exact ⟨ret_i HF.out.symm, rfl⟩
    · have HE := Lib.hid (lexW_end (a := xs) (b := ys) hlt)
      have hkx : k = xs.length := by omega
      by_cases hly : xs.length < ys.length
      · have HF : Hid (lexW xs ys = -1) := by unfold Hid; rw [hL.out, HE.out, if_pos (by omega)]
        clear hkx
        go_wp2
        go_ret
        exact ⟨ret_i HF.out.symm, rfl⟩
      · have HF : Hid (lexW xs ys = 0) := by unfold Hid; rw [hL.out, HE.out, if_neg (by omega)]
        clear hkx
        go_wp2
        go_ret
        exact ⟨ret_i HF.out.symm, rfl⟩

/-- The first number that is not 0. -/
def orW (l : List Int) : Int := (l.find? fun x => decide (x ≠ 0)).getD 0
theorem orW_at {l : List Int} {k : Nat} {x : Int} (h : ∀ y ∈ l.take k, y = 0) (hx : l[k]? = some x) (h0 : x ≠ 0) : orW l = x := by
  have hk : k < l.length := by
    by_cases e : k < l.length
    · exact e
    · rw [List.getElem?_eq_none (by omega)] at hx; simp at hx
  have e : l = l.take k ++ x :: l.drop (k + 1) := by
    conv => lhs; rw [← List.take_append_drop k l]
    rw [List.drop_eq_getElem_cons hk]
    rw [List.getElem?_eq_getElem hk] at hx
    rw [show l[k] = x by simpa using hx]
  unfold orW
  rw [e, List.find?_append]
  have : (l.take k).find? (fun x => decide (x ≠ 0)) = none := by
    rw [List.find?_eq_none]; intro y hy; simp [h y hy]
  rw [this]
  simp [h0]
theorem orW_none {l : List Int} (h : ∀ y ∈ l, y = 0) : orW l = 0 := by
  unfold orW
  have : l.find? (fun x => decide (x ≠ 0)) = none := by
    rw [List.find?_eq_none]; intro y hy; simp [h y hy]
  rw [this]; rfl

theorem or_any {l : List Int} (h : Sl M w a c l) : Calls Try.prog 65 #[.slice a l.length c] w fun e w' => e = .returned (.int .i64 (orW l)) ∧ w' = w := by
  have hl := h.le
  have h0 : Hid (∀ y ∈ l.take 0, y = 0) := fun y hy => by simp at hy
  go_enter Try.func65, Try.ntmps65
  go_wp2
  go_loop [8] (fun i => ∃ k : Nat, k ≤ l.length ∧ i = .int .i64 k ∧ Hid (∀ y ∈ l.take k, y = 0)) (fun i => l.length - (intOf i).toNat)
  case atStart => exact ⟨0, by omega, rfl, h0⟩
  case round =>
    clear h0
    obtain ⟨k, hk, rfl, hz⟩ := hrel
    by_cases hlt : k < l.length
    · obtain ⟨b1, o1, x, rfl, hxc, hx, -⟩ := h.at_int hlt
      by_cases h0 : x = 0
      · have hb : (x != 0) = false := by simp [h0]
        have hz2 : Hid (∀ y ∈ l.take (k + 1), y = 0) := by
          intro y hy
          rw [List.take_add_one, hx.out] at hy
          simp only [Option.toList_some, List.mem_append, List.mem_singleton] at hy
          rcases hy with hy | rfl
          · exact hz.out y hy
          · exact h0
        clear h0
        go_wp2
        go_round
        case rel => exact ⟨k + 1, by omega, by go_num, hz2⟩
        case measure => simp [intOf]; omega
      · have hb : (x != 0) = true := by simp [h0]
        have HF := Lib.hid (orW_at hz.out hx.out h0)
        clear h0
        go_wp2
        go_ret
        exact ⟨ret_i HF.out.symm, rfl⟩
    · have HF := Lib.hid (orW_none (l := l) (by have := hz.out; rwa [List.take_of_length_le (by omega)] at this))
      go_wp2
      go_ret
      exact ⟨ret_i HF.out.symm, rfl⟩

theorem lexW_range : ∀ (a b : List Int), lexW a b = -1 ∨ lexW a b = 0 ∨ lexW a b = 1
  | [], [] => by simp [lexW]
  | [], _ :: _ => by simp [lexW]
  | _ :: _, [] => by simp [lexW]
  | x :: xs, y :: ys => by
    simp only [lexW]
    split
    · exact lexW_range xs ys
    · unfold sgn; split
      · simp
      · split <;> simp
theorem sgn_range (x y : Int) : sgn x y = -1 ∨ sgn x y = 0 ∨ sgn x y = 1 := by unfold sgn; split <;> (try split) <;> simp
theorem cmpW_or (a b : List Int) : orW [sgn a.length b.length, lexW a b] = cmpW a b := by
  unfold cmpW orW
  by_cases h : a.length = b.length
  · rw [if_pos h, sgn_eq (by rw [h])]
    rcases lexW_range a b with e | e | e <;> simp [e]
  · rw [if_neg h]
    have : sgn (a.length : Int) b.length ≠ 0 := by
      unfold sgn
      split
      · simp
      · split
        · simp
        · omega
    simp [this]

theorem cmpw_any {xs ys : List Int} (h1 : Sl M w a c xs) (h2 : Sl M w b d ys) :
    Calls Try.prog 49 #[.slice a xs.length c, .slice b ys.length d] w fun e w' => e = .returned (.int .i64 (cmpW xs ys)) ∧ Below w.heap.size w w' := by
  have hl1 := h1.le
  have hl2 := h2.le
  have HO := Lib.hid (or_any (M := fun _ => False) (w := w.alloc (.cells #[.int .i64 (sgn xs.length ys.length), .int .i64 (lexW xs ys)] 3)) (a := some ⟨w.heap.size, 0, none⟩) (c := 2) (l := [sgn xs.length ys.length, lexW xs ys])
    (Sl.lit (heap_alloc_new _ _) rfl id (fun x hx => by
      simp only [List.mem_cons, List.not_mem_nil, or_false] at hx
      have r1 := sgn_range xs.length ys.length
      have r2 := lexW_range xs ys
      unfold i64
      rcases hx with rfl | rfl <;> omega) rfl (by unfold maxLen; omega)))
  go_enter Try.func49, Try.ntmps49
  go_wp2_with fail
  refine (ccmp_any _ _).mono ?_
  rintro e w' ⟨rfl, hw⟩
  obtain rfl : w = w' := hw.symm
  go_wp2_with fail
  refine (scmp_any h1 h2).mono ?_
  rintro e w' ⟨rfl, hw⟩
  obtain rfl : w = w' := hw.symm
  go_wp2_with fail
  refine (HO.out).mono ?_
  rintro e w2 ⟨rfl, hw⟩
  subst hw
  have hB := (Below.refl w.heap.size w).alloc (Nat.le_refl _) (.cells #[.int .i64 (sgn xs.length ys.length), .int .i64 (lexW xs ys)] 3)
  go_wp2
  go_ret
  exact ⟨ret_i (cmpW_or xs ys), hB⟩
end
end Go.Proofs.Ytdnmgiabgpilkaa
