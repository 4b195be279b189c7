/- word.permitted, slices.IndexFunc and ContainsFunc at word.Check's test, word.Check. No condition. -/
import Derived.Test.YtlgdijgfphedpaaOps
namespace Go.Proofs.Ytlgdijgfphedpaa
open Go.RowKit

/-- The error of a word and a size. -/
def wErr (w : List Int) (n : Int) : Int := if n < 1 ∨ 1024 < n then 2 else if 1024 < w.length then 3 else if ∃ a ∈ w, a < 0 ∨ n ≤ a then 1 else 0
theorem wErr_r {w : List Int} {n : Int} (h : n < 1 ∨ 1024 < n) : wErr w n = 2 := by unfold wErr; rw [if_pos h]
theorem wErr_l {w : List Int} {n : Int} (h : ¬ (n < 1 ∨ 1024 < n)) (h2 : 1024 < w.length) : wErr w n = 3 := by unfold wErr; rw [if_neg h, if_pos h2]
theorem wErr_i {w : List Int} {n : Int} (h : ¬ (n < 1 ∨ 1024 < n)) (h2 : ¬ 1024 < w.length) (h3 : ∃ a ∈ w, a < 0 ∨ n ≤ a) : wErr w n = 1 := by unfold wErr; rw [if_neg h, if_neg h2, if_pos h3]
theorem wErr_0 {w : List Int} {n : Int} (h : ¬ (n < 1 ∨ 1024 < n)) (h2 : ¬ 1024 < w.length) (h3 : ¬ ∃ a ∈ w, a < 0 ∨ n ≤ a) : wErr w n = 0 := by unfold wErr; rw [if_neg h, if_neg h2, if_neg h3]

section
variable {M : Nat → Prop} {w : World} {a : Option Addr} {c : Nat}

theorem perm_yes (n : Int) (h : ¬ (n < 1 ∨ 1024 < n)) : Calls Try.prog 65 #[.int .i64 n] w fun e w' => e = .returned (.bool true) ∧ w' = w := by
  have h1 : 1 ≤ n := by omega
  have h2 : n ≤ 1024 := by omega
  clear h
  go_enter Try.func65, Try.ntmps65
  go_wp2
  go_ret
  exact ⟨rfl, rfl⟩
theorem perm_no (n : Int) (h : n < 1 ∨ 1024 < n) : Calls Try.prog 65 #[.int .i64 n] w fun e w' => e = .returned (.bool false) ∧ w' = w := by
  by_cases h0 : 1 ≤ n
  · have h1 : ¬ n ≤ 1024 := by omega
    clear h
    go_enter Try.func65, Try.ntmps65
    go_wp2
    go_ret
    exact ⟨rfl, rfl⟩
  · clear h
    go_enter Try.func65, Try.ntmps65
    go_wp2
    go_ret
    exact ⟨rfl, rfl⟩

/-- The test of a symbol. -/
def badS (n x : Int) : Bool := decide (x < 0 ∨ n ≤ x)
theorem badS_t {n x : Int} (h : x < 0 ∨ n ≤ x) : badS n x = true := by simp [badS, h]
theorem badS_f {n x : Int} (h : ¬ (x < 0 ∨ n ≤ x)) : badS n x = false := by simp [badS, h]
theorem test_t {b : Nat} (n x : Int) (hc : w.cell? ⟨b, 0, none⟩ = some (.int .i64 n)) (h : x < 0 ∨ n ≤ x) : Calls Try.prog 67 #[.int .i64 x, .pointer (some ⟨b, 0, none⟩)] w fun e w' => e = .returned (.bool true) ∧ w' = w := by
  by_cases h0 : x < 0
  · clear h
    go_enter Try.func67, Try.ntmps67
    go_wp2
    go_ret
    exact ⟨rfl, rfl⟩
  · have h1 : n ≤ x := by omega
    clear h
    go_enter Try.func67, Try.ntmps67
    go_wp2
    go_ret
    exact ⟨rfl, rfl⟩
theorem test_f {b : Nat} (n x : Int) (hc : w.cell? ⟨b, 0, none⟩ = some (.int .i64 n)) (h : ¬ (x < 0 ∨ n ≤ x)) : Calls Try.prog 67 #[.int .i64 x, .pointer (some ⟨b, 0, none⟩)] w fun e w' => e = .returned (.bool false) ∧ w' = w := by
  have h0 : ¬ x < 0 := by omega
  have h1 : ¬ n ≤ x := by omega
  clear h
  go_enter Try.func67, Try.ntmps67
  go_wp2
  go_ret
  exact ⟨rfl, rfl⟩

theorem findIdx_at {l : List Int} {p : Int → Bool} {k : Nat} {x : Int} (hx : l[k]? = some x) (hp : p x = true) (hn : ∀ y ∈ l.take k, p y = false) : l.findIdx p = k := by
  have hk : k < l.length := by
    by_cases e : k < l.length
    · exact e
    · rw [List.getElem?_eq_none (by omega)] at hx; simp at hx
  rw [List.findIdx_eq hk]
  refine ⟨by rw [List.getElem?_eq_getElem hk] at hx; rw [show l[k] = x by simpa using hx]; exact hp, fun j hj => hn _ ?_⟩
  rw [List.mem_iff_getElem?]
  exact ⟨j, by rw [List.getElem?_take, if_pos hj, List.getElem?_eq_getElem (by omega)]⟩
theorem take_bad {l : List Int} {p : Int → Bool} {k : Nat} {x : Int} (hx : l[k]? = some x) (hp : p x = false) (hn : ∀ y ∈ l.take k, p y = false) : ∀ y ∈ l.take (k + 1), p y = false := by
  intro y hy
  rw [List.take_add_one, hx] at hy
  simp only [Option.toList_some, List.mem_append, List.mem_singleton] at hy
  rcases hy with hy | rfl
  · exact hn y hy
  · exact hp
theorem ret_ic {x y : Int} (h : x = y) : Ending.returned (.int .i64 x) = .returned (.int .i64 y) := by rw [h]

theorem idx_yes {b : Nat} {l : List Int} (h : Sl M w a c l) (n : Int) (hc : w.cell? ⟨b, 0, none⟩ = some (.int .i64 n)) (hb : ∃ x ∈ l, x < 0 ∨ n ≤ x) :
    Calls Try.prog 76 #[.slice a l.length c, .func (Fn.func 67) #[] #[.pointer (some ⟨b, 0, none⟩)]] w fun e w' => e = .returned (.int .i64 (l.findIdx (badS n))) ∧ w' = w := by
  have hll := h.le
  have HB := Lib.hid hb
  have h0 : Hid (∀ y ∈ l.take 0, badS n y = false) := fun y hy => by simp at hy
  clear hb
  go_enter Try.func76, Try.ntmps76
  go_wp2
  go_loop [8] (fun i => ∃ k : Nat, k ≤ l.length ∧ i = .int .i64 k ∧ Hid (∀ y ∈ l.take k, badS n y = false)) (fun i => l.length - (intOf i).toNat)
  case atStart => exact ⟨0, by omega, rfl, h0⟩
  case round =>
    clear h0
    obtain ⟨k, hk, rfl, hz⟩ := hrel
    have hlt : k < l.length := by
      by_cases e : k < l.length
      · exact e
      · obtain ⟨x, hx, hx2⟩ := HB.out
        have := hz.out x (by rw [List.take_of_length_le (by omega)]; exact hx)
        rw [badS_t hx2] at this; cases this
    obtain ⟨b1, o1, x, rfl, hxc, hx, -⟩ := h.at_int hlt
    by_cases hbad : x < 0 ∨ n ≤ x
    · have HF := Lib.hid (findIdx_at (p := badS n) hx.out (badS_t hbad) hz.out)
      have HD := Lib.hid hbad
      clear hbad
      go_wp2_with fail
      refine (test_t n x hc HD.out).mono ?_
      rintro e w2 ⟨rfl, hw⟩
      obtain rfl : w = w2 := hw.symm
      go_wp2
      go_ret
      exact ⟨ret_ic (by rw [HF.out]), rfl⟩
    · have hz2 : Hid (∀ y ∈ l.take (k + 1), badS n y = false) := take_bad hx.out (badS_f hbad) hz.out
      have HD := Lib.hid hbad
      clear hbad
      go_wp2_with fail
      refine (test_f n x hc HD.out).mono ?_
      rintro e w2 ⟨rfl, hw⟩
      obtain rfl : w = w2 := hw.symm
      go_wp2
      go_round
      case rel => exact ⟨k + 1, by omega, by go_num, hz2⟩
      case measure => simp [intOf]; omega

theorem idx_no {b : Nat} {l : List Int} (h : Sl M w a c l) (n : Int) (hc : w.cell? ⟨b, 0, none⟩ = some (.int .i64 n)) (hb : ¬ ∃ x ∈ l, x < 0 ∨ n ≤ x) :
    Calls Try.prog 76 #[.slice a l.length c, .func (Fn.func 67) #[] #[.pointer (some ⟨b, 0, none⟩)]] w fun e w' => e = .returned (.int .i64 (-1)) ∧ w' = w := by
  have hll := h.le
  have HB := Lib.hid hb
  clear hb
  go_enter Try.func76, Try.ntmps76
  go_wp2
  go_loop [8] (fun i => ∃ k : Nat, k ≤ l.length ∧ i = .int .i64 k) (fun i => l.length - (intOf i).toNat)
  case atStart => exact ⟨0, by omega, rfl⟩
  case round =>
    obtain ⟨k, hk, rfl⟩ := hrel
    by_cases hlt : k < l.length
    · obtain ⟨b1, o1, x, rfl, hxc, hx, -⟩ := h.at_int hlt
      have HD := Lib.hid (show ¬ (x < 0 ∨ n ≤ x) from fun e => HB.out ⟨x, List.mem_of_getElem? hx.out, e⟩)
      go_wp2_with fail
      refine (test_f n x hc HD.out).mono ?_
      rintro e w2 ⟨rfl, hw⟩
      obtain rfl : w = w2 := hw.symm
      go_wp2
      go_round
      case rel => exact ⟨k + 1, by omega, by go_num⟩
      case measure => simp [intOf]; omega
    · go_wp2
      go_ret
      exact ⟨rfl, rfl⟩

theorem cont_yes {b : Nat} {l : List Int} (h : Sl M w a c l) (n : Int) (hc : w.cell? ⟨b, 0, none⟩ = some (.int .i64 n)) (hb : ∃ x ∈ l, x < 0 ∨ n ≤ x) :
    Calls Try.prog 66 #[.slice a l.length c, .func (Fn.func 67) #[] #[.pointer (some ⟨b, 0, none⟩)]] w fun e w' => e = .returned (.bool true) ∧ w' = w := by
  have HI := Lib.hid (idx_yes h n hc hb)
  clear hb hc
  go_enter Try.func66, Try.ntmps66
  go_wp2_with fail
  refine (HI.out).mono ?_
  rintro e w2 ⟨rfl, hw⟩
  obtain rfl : w = w2 := hw.symm
  go_wp2
  go_ret
  exact ⟨rfl, rfl⟩
theorem cont_no {b : Nat} {l : List Int} (h : Sl M w a c l) (n : Int) (hc : w.cell? ⟨b, 0, none⟩ = some (.int .i64 n)) (hb : ¬ ∃ x ∈ l, x < 0 ∨ n ≤ x) :
    Calls Try.prog 66 #[.slice a l.length c, .func (Fn.func 67) #[] #[.pointer (some ⟨b, 0, none⟩)]] w fun e w' => e = .returned (.bool false) ∧ w' = w := by
  have HI := Lib.hid (idx_no h n hc hb)
  clear hb hc
  go_enter Try.func66, Try.ntmps66
  go_wp2_with fail
  refine (HI.out).mono ?_
  rintro e w2 ⟨rfl, hw⟩
  obtain rfl : w = w2 := hw.symm
  go_wp2
  go_ret
  exact ⟨rfl, rfl⟩

theorem wcheck_any {l : List Int} (h : Sl M w a c l) (n : Int) :
    Calls Try.prog 42 #[.slice a l.length c, .int .i64 n] w fun e w' => e = .returned (.int .i64 (wErr l n)) ∧ Below w.heap.size w w' := by
  have hll := h.le
  have hS := h.alloc (.cells #[.int .i64 n] 3)
  have hB := (Below.refl w.heap.size w).alloc (Nat.le_refl _) (.cells #[.int .i64 n] 3)
  have hcell : (w.alloc (.cells #[.int .i64 n] 3)).cell? ⟨w.heap.size, 0, none⟩ = some (.int .i64 n) := by simp
  by_cases hn : n < 1 ∨ 1024 < n
  · have HF := Lib.hid (wErr_r (w := l) hn)
    have HP := Lib.hid (perm_no (w := w.alloc (.cells #[.int .i64 n] 3)) n hn)
    clear hn
    go_enter Try.func42, Try.ntmps42
    go_wp2_with fail
    refine (HP.out).mono ?_
    rintro e w1 ⟨rfl, hw⟩
    subst hw
    go_wp2
    go_ret
    exact ⟨ret_ic HF.out.symm, hB⟩
  · have HP := Lib.hid (perm_yes (w := w.alloc (.cells #[.int .i64 n] 3)) n hn)
    by_cases hl : 1024 < l.length
    · have HF := Lib.hid (wErr_l hn hl)
      clear hn
      go_enter Try.func42, Try.ntmps42
      go_wp2_with fail
      refine (HP.out).mono ?_
      rintro e w1 ⟨rfl, hw⟩
      subst hw
      go_wp2
      go_ret
      exact ⟨ret_ic HF.out.symm, hB⟩
    · by_cases hb : ∃ x ∈ l, x < 0 ∨ n ≤ x
      · have HF := Lib.hid (wErr_i hn hl hb)
        have HC := Lib.hid (cont_yes hS n hcell hb)
        clear hn hb
        go_enter Try.func42, Try.ntmps42
        go_wp2_with fail
        refine (HP.out).mono ?_
        rintro e w1 ⟨rfl, hw⟩
        subst hw
        go_wp2_with fail
        refine (HC.out).mono ?_
        rintro e w1 ⟨rfl, hw⟩
        subst hw
        go_wp2
        go_ret
        exact ⟨ret_ic HF.out.symm, hB⟩
      · have HF := Lib.hid (wErr_0 hn hl hb)
        have HC := Lib.hid (cont_no hS n hcell hb)
        clear hn hb
        go_enter Try.func42, Try.ntmps42
        go_wp2_with fail
        refine (HP.out).mono ?_
        rintro e w1 ⟨rfl, hw⟩
        subst hw
        go_wp2_with fail
        refine (HC.out).mono ?_
        rintro e w1 ⟨rfl, hw⟩
        subst hw
        go_wp2
        go_ret
        exact ⟨ret_ic HF.out.symm, hB⟩
end
end Go.Proofs.Ytlgdijgfphedpaa
