/- Several texts, one behind the other. Conditions: as each of them says. -/
import Derived.Test.YtdnmgiabgpilkaaOps
import Derived.Test.YtdnmgiabgpilkaaLit
import Derived.Test.YtdnmgiabgpilkaaPlain
import Derived.Test.YtdnmgiabgpilkaaValid
import Derived.Test.YtdnmgiabgpilkaaValidM
import Derived.Test.YtdnmgiabgpilkaaC4
import Derived.Test.YtdnmgiabgpilkaaOrd
import Derived.Test.YtdnmgiabgpilkaaMinQ
import Derived.Test.YtdnmgiabgpilkaaSep
import Derived.Test.YtdnmgiabgpilkaaMinRP
import Derived.Test.YtdnmgiabgpilkaaPl9
import Derived.Test.YtdnmgiabgpilkaaMgA
import Derived.Test.YtdnmgiabgpilkaaGreat
import Derived.Test.YtdnmgiabgpilkaaFinerLaw
import Derived.IntWalk
/- word.permitted, slices.IndexFunc and ContainsFunc at word.Check's test, word.Check. No condition. -/
namespace Go.Proofs.Ytdnmgiabgpilkaa
open Go.RowKit

/-- The error of a word and a size. -/
def wErr (w : List Int) (n : Int) : Int := if n < 1 ∨ 1024 < n then 2 else if 1024 < w.length then 3 else if ∃ a ∈ w, a < 0 ∨ n ≤ a then 1 else 0
theorem wErr_r {w : List Int} {n : Int} (h : n < 1 ∨ 1024 < n) : wErr w n = 2 := by unfold wErr; rw [if_pos h]
theorem wErr_l {w : List Int} {n : Int} (h : ¬ (n < 1 ∨ 1024 < n)) (h2 : 1024 < w.length) : wErr w n = 3 := by unfold wErr; rw [if_neg h, if_pos h2]
theorem wErr_i {w : List Int} {n : Int} (h : ¬ (n < 1 ∨ 1024 < n)) (h2 : ¬ 1024 < w.length) (h3 : ∃ a ∈ w, a < 0 ∨ n ≤ a) : wErr w n = 1 := by unfold wErr; rw [if_neg h, if_neg h2, if_pos h3]
theorem wErr_0 {w : List Int} {n : Int} (h : ¬ (n < 1 ∨ 1024 < n)) (h2 : ¬ 1024 < w.length) (h3 : ¬ ∃ a ∈ w, a < 0 ∨ n ≤ a) : wErr w n = 0 := by unfold wErr; rw [if_neg h, if_neg h2, if_neg h3]

section
variable {M : Nat → Prop} {w : World} {a : Option Addr} {c : Nat}

theorem perm_yes (n : Int) (h : ¬ (n < 1 ∨ 1024 < n)) : Calls Try.prog 73 #[.int .i64 n] w fun e w' => e = .returned (.bool true) ∧ w' = w := by
  have h1 : 1 ≤ n := by omega
  have h2 : n ≤ 1024 := by omega
  clear h
  go_enter Try.func73, Try.ntmps73
  go_wp2
  go_ret
  exact ⟨rfl, rfl⟩
theorem perm_no (n : Int) (h : n < 1 ∨ 1024 < n) : Calls Try.prog 73 #[.int .i64 n] w fun e w' => e = .returned (.bool false) ∧ w' = w := by
  by_cases h0 : 1 ≤ n
  · have h1 : ¬ n ≤ 1024 := by omega
    clear h
    go_enter Try.func73, Try.ntmps73
    go_wp2
    go_ret
    exact ⟨rfl, rfl⟩
  · clear h
    go_enter Try.func73, Try.ntmps73
    go_wp2
    go_ret
    exact ⟨rfl, rfl⟩

/-- The test of a symbol. -/
def badS (n x : Int) : Bool := decide (x < 0 ∨ n ≤ x)
theorem badS_t {n x : Int} (h : x < 0 ∨ n ≤ x) : badS n x = true := by simp [badS, h]
theorem badS_f {n x : Int} (h : ¬ (x < 0 ∨ n ≤ x)) : badS n x = false := by simp [badS, h]
theorem test_t {b : Nat} (n x : Int) (hc : w.cell? ⟨b, 0, none⟩ = some (.int .i64 n)) (h : x < 0 ∨ n ≤ x) : Calls Try.prog 75 #[.int .i64 x, .pointer (some ⟨b, 0, none⟩)] w fun e w' => e = .returned (.bool true) ∧ w' = w := by
  by_cases h0 : x < 0
  · clear h
    go_enter Try.func75, Try.ntmps75
    go_wp2
    go_ret
    exact ⟨rfl, rfl⟩
  · have h1 : n ≤ x := by omega
    clear h
    go_enter Try.func75, Try.ntmps75
    go_wp2
    go_ret
    exact ⟨rfl, rfl⟩
theorem test_f {b : Nat} (n x : Int) (hc : w.cell? ⟨b, 0, none⟩ = some (.int .i64 n)) (h : ¬ (x < 0 ∨ n ≤ x)) : Calls Try.prog 75 #[.int .i64 x, .pointer (some ⟨b, 0, none⟩)] w fun e w' => e = .returned (.bool false) ∧ w' = w := by
  have h0 : ¬ x < 0 := by omega
  have h1 : ¬ n ≤ x := by omega
  clear h
  go_enter Try.func75, Try.ntmps75
  go_wp2
  go_ret
  exact ⟨rfl, rfl⟩

theorem findIdx_at {l : List Int} {p : Int → Bool} {k : Nat} {x : Int} (hx : l[k]? = some x) (hp : p x = true) (hn : ∀ y ∈ l.take k, p y = false) : l.findIdx p = k := by
  have hk : k < l.length := by
    by_cases e : k < l.length
    · exact e
    · rw [List.getElem?_eq_none (by omega)] at hx; simp at hx
  rw [List.findIdx_eq hk]
  refine ⟨by rw [List.getElem?_eq_getElem hk] at hx; rw [show l[k] = x by simpa using hx]; exact hp, fun j hj => hn _ ?_⟩
  rw [List.mem_iff_getElem?]
  exact ⟨j, by rw [List.getElem?_take, if_pos hj, List.getElem?_eq_getElem (by omega)]⟩
theorem take_bad {l : List Int} {p : Int → Bool} {k : Nat} {x : Int} (hx : l[k]? = some x) (hp : p x = false) (hn : ∀ y ∈ l.take k, p y = false) : ∀ y ∈ l.take (k + 1), p y = false := by
  intro y hy
  rw [List.take_add_one, hx] at hy
  simp only [Option.toList_some, List.mem_append, List.mem_singleton] at hy
  rcases hy with hy | rfl
  · exact hn y hy
  · exact hp
theorem ret_ic {x y : Int} (h : x = y) : Ending.returned (.int .i64 x) = .returned (.int .i64 y) := by rw [h]

theorem idx_yes {b : Nat} {l : List Int} (h : Sl M w a c l) (n : Int) (hc : w.cell? ⟨b, 0, none⟩ = some (.int .i64 n)) (hb : ∃ x ∈ l, x < 0 ∨ n ≤ x) :
    Calls Try.prog 82 #[.slice a l.length c, .func (Fn.func 75) #[] #[.pointer (some ⟨b, 0, none⟩)]] w fun e w' => e = .returned (.int .i64 (l.findIdx (badS n))) ∧ w' = w := by
  have hll := h.le
  have HB := Lib.hid hb
  have h0 : Hid (∀ y ∈ l.take 0, badS n y = false) := fun y hy => by simp at hy
  clear hb
  go_enter Try.func82, Try.ntmps82
  go_wp2
  go_loop [8] (fun i => ∃ k : Nat, k ≤ l.length ∧ i = .int .i64 k ∧ Hid (∀ y ∈ l.take k, badS n y = false)) (fun i => l.length - (intOf i).toNat)
  case atStart => exact ⟨0, by omega, rfl, h0⟩
  case round =>
    clear h0
    obtain ⟨k, hk, rfl, hz⟩ := hrel
    have hlt : k < l.length := by
      by_cases e : k < l.length
      · exact e
      · obtain ⟨x, hx, hx2⟩ := HB.out
        have := hz.out x (by rw [List.take_of_length_le (by omega)]; exact hx)
        rw [badS_t hx2] at this; cases this
    obtain ⟨b1, o1, x, rfl, hxc, hx, -⟩ := h.at_int hlt
    by_cases hbad : x < 0 ∨ n ≤ x
    · have HF := Lib.hid (findIdx_at (p := badS n) hx.out (badS_t hbad) hz.out)
      have HD := Lib.hid hbad
      clear hbad
      go_wp2_with fail
      refine (test_t n x hc HD.out).mono ?_
      rintro e w2 ⟨rfl, hw⟩
      obtain rfl : w = w2 := hw.symm
      go_wp2
      go_ret
      exact ⟨ret_ic (by rw [HF.out]), rfl⟩
    · have hz2 : Hid (∀ y ∈ l.take (k + 1), badS n y = false) := take_bad hx.out (badS_f hbad) hz.out
      have HD := Lib.hid hbad
      clear hbad
      go_wp2_with fail
      refine (test_f n x hc HD.out).mono ?_
      rintro e w2 ⟨rfl, hw⟩
      obtain rfl : w = w2 := hw.symm
      go_wp2
      go_round
      case rel => exact ⟨k + 1, by omega, by go_num, hz2⟩
      case measure => simp [intOf]; omega

theorem idx_no {b : Nat} {l : List Int} (h : Sl M w a c l) (n : Int) (hc : w.cell? ⟨b, 0, none⟩ = some (.int .i64 n)) (hb : ¬ ∃ x ∈ l, x < 0 ∨ n ≤ x) :
    Calls Try.prog 82 #[.slice a l.length c, .func (Fn.func 75) #[] #[.pointer (some ⟨b, 0, none⟩)]] w fun e w' => e = .returned (.int .i64 (-1)) ∧ w' = w := by
  have hll := h.le
  have HB := Lib.hid hb
  clear hb
  go_enter Try.func82, Try.ntmps82
  go_wp2
  go_loop [8] (fun i => ∃ k : Nat, k ≤ l.length ∧ i = .int .i64 k) (fun i => l.length - (intOf i).toNat)
  case atStart => exact ⟨0, by omega, rfl⟩
  case round =>
    obtain ⟨k, hk, rfl⟩ := hrel
    by_cases hlt : k < l.length
    · obtain ⟨b1, o1, x, rfl, hxc, hx, -⟩ := h.at_int hlt
      have HD := Lib.hid (show ¬ (x < 0 ∨ n ≤ x) from fun e => HB.out ⟨x, List.mem_of_getElem? hx.out, e⟩)
      go_wp2_with fail
      refine (test_f n x hc HD.out).mono ?_
      rintro e w2 ⟨rfl, hw⟩
      obtain rfl : w = w2 := hw.symm
      go_wp2
      go_round
      case rel => exact ⟨k + 1, by omega, by go_num⟩
      case measure => simp [intOf]; omega
    · go_wp2
      go_ret
      exact ⟨rfl, rfl⟩

theorem cont_yes {b : Nat} {l : List Int} (h : Sl M w a c l) (n : Int) (hc : w.cell? ⟨b, 0, none⟩ = some (.int .i64 n)) (hb : ∃ x ∈ l, x < 0 ∨ n ≤ x) :
    Calls Try.prog 74 #[.slice a l.length c, .func (Fn.func 75) #[] #[.pointer (some ⟨b, 0, none⟩)]] w fun e w' => e = .returned (.bool true) ∧ w' = w := by
  have HI := Lib.hid (idx_yes h n hc hb)
  clear hb hc
  go_enter Try.func74, Try.ntmps74
  go_wp2_with fail
  refine (HI.out).mono ?_
  rintro e w2 ⟨rfl, hw⟩
  obtain rfl : w = w2 := hw.symm
  go_wp2
  go_ret
  exact ⟨rfl, rfl⟩
theorem cont_no {b : Nat} {l : List Int} (h : Sl M w a c l) (n : Int) (hc : w.cell? ⟨b, 0, none⟩ = some (.int .i64 n)) (hb : ¬ ∃ x ∈ l, x < 0 ∨ n ≤ x) :
    Calls Try.prog 74 #[.slice a l.length c, .func (Fn.func 75) #[] #[.pointer (some ⟨b, 0, none⟩)]] w fun e w' => e = .returned (.bool false) ∧ w' = w := by
  have HI := Lib.hid (idx_no h n hc hb)
  clear hb hc
  go_enter Try.func74, Try.ntmps74
  go_wp2_with fail
  refine (HI.out).mono ?_
  rintro e w2 ⟨rfl, hw⟩
  obtain rfl : w = w2 := hw.symm
  go_wp2
  go_ret
  exact ⟨rfl, rfl⟩

theorem wcheck_any {l : List Int} (h : Sl M w a c l) (n : Int) :
    Calls Try.prog 62 #[.slice a l.length c, .int .i64 n] w fun e w' => e = .returned (.int .i64 (wErr l n)) ∧ Below w.heap.size w w' := by
  have hll := h.le
  have hS := h.alloc (.cells #[.int .i64 n] 3)
  have hB := (Below.refl w.heap.size w).alloc (Nat.le_refl _) (.cells #[.int .i64 n] 3)
  have hcell : (w.alloc (.cells #[.int .i64 n] 3)).cell? ⟨w.heap.size, 0, none⟩ = some (.int .i64 n) := by simp
  by_cases hn : n < 1 ∨ 1024 < n
  · have HF := Lib.hid (wErr_r (w := l) hn)
    have HP := Lib.hid (perm_no (w := w.alloc (.cells #[.int .i64 n] 3)) n hn)
    clear hn
    go_enter Try.func62, Try.ntmps62
    go_wp2_with fail
    refine (HP.out).mono ?_
    rintro e w1 ⟨rfl, hw⟩
    subst hw
    go_wp2
    go_ret
    exact ⟨ret_ic HF.out.symm, hB⟩
  · have HP := Lib.hid (perm_yes (w := w.alloc (.cells #[.int .i64 n] 3)) n hn)
    by_cases hl : 1024 < l.length
    · have HF := Lib.hid (wErr_l hn hl)
      clear hn
      go_enter Try.func62, Try.ntmps62
      go_wp2_with fail
      refine (HP.out).mono ?_
      rintro e w1 ⟨rfl, hw⟩
      subst hw
      go_wp2
      go_ret
      exact ⟨ret_ic HF.out.symm, hB⟩
    · by_cases hb : ∃ x ∈ l, x < 0 ∨ n ≤ x
      · have HF := Lib.hid (wErr_i hn hl hb)
        have HC := Lib.hid (cont_yes hS n hcell hb)
        clear hn hb
        go_enter Try.func62, Try.ntmps62
        go_wp2_with fail
        refine (HP.out).mono ?_
        rintro e w1 ⟨rfl, hw⟩
        subst hw
        go_wp2_with fail
        refine (HC.out).mono ?_
        rintro e w1 ⟨rfl, hw⟩
        subst hw
        go_wp2
        go_ret
        exact ⟨ret_ic HF.out.symm, hB⟩
      · have HF := Lib.hid (wErr_0 hn hl hb)
        have HC := Lib.hid (cont_no hS n hcell hb)
        clear hn hb
        go_enter Try.func62, Try.ntmps62
        go_wp2_with fail
        refine (HP.out).mono ?_
        rintro e w1 ⟨rfl, hw⟩
        subst hw
        go_wp2_with fail
        refine (HC.out).mono ?_
        rintro e w1 ⟨rfl, hw⟩
        subst hw
        go_wp2
        go_ret
        exact ⟨ret_ic HF.out.symm, hB⟩
end
end Go.Proofs.Ytdnmgiabgpilkaa
/- cmp.Compare, slices.Compare of lists of numbers, word.Compare, word.Lex. No condition. -/
namespace Go.Proofs.Ytdnmgiabgpilkaa
open Go.RowKit

/-- The order of two numbers. -/
def sgn (x y : Int) : Int := if x < y then -1 else if y < x then 1 else 0
theorem sgn_lt {x y : Int} (h : x < y) : sgn x y = -1 := by unfold sgn; rw [if_pos h]
theorem sgn_gt {x y : Int} (h : y < x) : sgn x y = 1 := by unfold sgn; rw [if_neg (by omega), if_pos h]
theorem sgn_eq {x y : Int} (h : x = y) : sgn x y = 0 := by unfold sgn; rw [if_neg (by omega), if_neg (by omega)]
/-- The dictionary order. -/
def lexW : List Int → List Int → Int
  | [], [] => 0
  | [], _ :: _ => -1
  | _ :: _, [] => 1
  | x :: xs, y :: ys => if x = y then lexW xs ys else sgn x y
/-- The shortlex order. -/
def cmpW (a b : List Int) : Int := if a.length = b.length then lexW a b else sgn a.length b.length
theorem lexW_step {a b : List Int} {k : Nat} {x y : Int} (hx : a[k]? = some x) (hy : b[k]? = some y) : lexW (a.drop k) (b.drop k) = if x = y then lexW (a.drop (k + 1)) (b.drop (k + 1)) else sgn x y := by
  have ha : k < a.length := by
    by_cases e : k < a.length
    · exact e
    · rw [List.getElem?_eq_none (by omega)] at hx; simp at hx
  have hb : k < b.length := by
    by_cases e : k < b.length
    · exact e
    · rw [List.getElem?_eq_none (by omega)] at hy; simp at hy
  rw [List.getElem?_eq_getElem ha] at hx
  rw [List.getElem?_eq_getElem hb] at hy
  rw [List.drop_eq_getElem_cons ha, List.drop_eq_getElem_cons hb, show a[k] = x by simpa using hx, show b[k] = y by simpa using hy]
  rfl
theorem lexW_right {a b : List Int} {k : Nat} (ha : k < a.length) (hb : ¬ k < b.length) : lexW (a.drop k) (b.drop k) = 1 := by
  have hb2 : b.drop k = [] := List.drop_eq_nil_of_le (by omega)
  rw [hb2, List.drop_eq_getElem_cons ha]; rfl
theorem lexW_end {a b : List Int} {k : Nat} (ha : ¬ k < a.length) : lexW (a.drop k) (b.drop k) = if k < b.length then -1 else 0 := by
  rw [List.drop_eq_nil_of_le (by omega)]
  by_cases hb : k < b.length
  · rw [List.drop_eq_getElem_cons hb, if_pos hb]; rfl
  · rw [List.drop_eq_nil_of_le (by omega), if_neg hb]; rfl

section
variable {M : Nat → Prop} {w : World} {a b : Option Addr} {c d : Nat}

theorem nan_any (x : Int) : Calls Try.prog 80 #[.int .i64 x] w fun e w' => e = .returned (.bool false) ∧ w' = w := by
  go_enter Try.func80, Try.ntmps80
  go_wp2
  go_ret
  exact ⟨rfl, rfl⟩

theorem ccmp_any (x y : Int) : Calls Try.prog 66 #[.int .i64 x, .int .i64 y] w fun e w' => e = .returned (.int .i64 (sgn x y)) ∧ w' = w := by
  rcases Int.lt_trichotomy x y with h | h | h
  · rw [sgn_lt h]
    go_enter Try.func66, Try.ntmps66
    go_wp2_with (go_at_call 80; refine (nan_any _).mono ?_; rintro e w' ⟨rfl, rfl⟩)
    go_ret
    exact ⟨rfl, rfl⟩
  · rw [sgn_eq h]
    subst h
    go_enter Try.func66, Try.ntmps66
    go_wp2_with (go_at_call 80; refine (nan_any _).mono ?_; rintro e w' ⟨rfl, rfl⟩)
    go_ret
    exact ⟨rfl, rfl⟩
  · rw [sgn_gt h]
    have h2 : ¬ x < y := by omega
    go_enter Try.func66, Try.ntmps66
    go_wp2_with (go_at_call 80; refine (nan_any _).mono ?_; rintro e w' ⟨rfl, rfl⟩)
    go_ret
    exact ⟨rfl, rfl⟩

theorem ret_i {x y : Int} (h : x = y) : Ending.returned (.int .i64 x) = .returned (.int .i64 y) := by rw [h]

set_option maxHeartbeats 1000000 in
theorem scmp_any {xs ys : List Int} (h1 : Sl M w a c xs) (h2 : Sl M w b d ys) :
    Calls Try.prog 67 #[.slice a xs.length c, .slice b ys.length d] w fun e w' => e = .returned (.int .i64 (lexW xs ys)) ∧ w' = w := by
  have hl1 := h1.le
  have hl2 := h2.le
  have hL0 : Hid (lexW xs ys = lexW (xs.drop 0) (ys.drop 0)) := rfl
  go_enter Try.func67, Try.ntmps67
  go_wp2
  go_loop [11] (fun i => ∃ k : Nat, k ≤ xs.length ∧ i = .int .i64 k ∧ Hid (lexW xs ys = lexW (xs.drop k) (ys.drop k)) ∧ k ≤ ys.length) (fun i => xs.length - (intOf i).toNat)
  case atStart => exact ⟨0, by omega, rfl, hL0, by omega⟩
  case round =>
    clear hL0
    obtain ⟨k, hk, rfl, hL, hky⟩ := hrel
    by_cases hlt : k < xs.length
    · obtain ⟨b1, o1, x, rfl, hxc, hx, -⟩ := h1.at_int hlt
      by_cases hly : k < ys.length
      · obtain ⟨b2, o2, y, rfl, hyc, hy, -⟩ := h2.at_int hly
        have HS := Lib.hid (lexW_step hx.out hy.out)
        have hge : ¬ ys.length ≤ k := by omega
        rcases Int.lt_trichotomy x y with h | h | h
        · have hs := sgn_lt h
          have HF : Hid (lexW xs ys = -1) := by unfold Hid; rw [hL.out, HS.out, if_neg (by omega), hs]
          go_wp2_with (go_at_call 66; refine (ccmp_any _ _).mono ?_; rintro e w' ⟨rfl, rfl⟩)
          go_ret
          exact ⟨ret_i HF.out.symm, rfl⟩
        · have hs := sgn_eq h
          have HF : Hid (lexW xs ys = lexW (xs.drop (k + 1)) (ys.drop (k + 1))) := by unfold Hid; rw [hL.out, HS.out, if_pos h]
          clear h
          go_wp2_with (go_at_call 66; refine (ccmp_any _ _).mono ?_; rintro e w' ⟨rfl, rfl⟩)
          go_round
          case rel => exact ⟨k + 1, by omega, by go_num, HF, by omega⟩
          case measure => simp [intOf]; omega
        · have hs := sgn_gt h
          have HF : Hid (lexW xs ys = 1) := by unfold Hid; rw [hL.out, HS.out, if_neg (by omega), hs]
          go_wp2_with (go_at_call 66; refine (ccmp_any _ _).mono ?_; rintro e w' ⟨rfl, rfl⟩)
          go_ret
          exact ⟨ret_i HF.out.symm, rfl⟩
      · have HF : Hid (lexW xs ys = 1) := by unfold Hid; rw [hL.out, lexW_right hlt hly]
        have hge : ys.length ≤ k := by omega
        go_wp2
        go_ret
        exact ⟨ret_i HF.out.symm, rfl⟩
    · have HE := Lib.hid (lexW_end (a := xs) (b := ys) hlt)
      have hkx : k = xs.length := by omega
      by_cases hly : xs.length < ys.length
      · have HF : Hid (lexW xs ys = -1) := by unfold Hid; rw [hL.out, HE.out, if_pos (by omega)]
        clear hkx
        go_wp2
        go_ret
        exact ⟨ret_i HF.out.symm, rfl⟩
      · have HF : Hid (lexW xs ys = 0) := by unfold Hid; rw [hL.out, HE.out, if_neg (by omega)]
        clear hkx
        go_wp2
        go_ret
        exact ⟨ret_i HF.out.symm, rfl⟩

/-- The first number that is not 0. -/
def orW (l : List Int) : Int := (l.find? fun x => decide (x ≠ 0)).getD 0
theorem orW_at {l : List Int} {k : Nat} {x : Int} (h : ∀ y ∈ l.take k, y = 0) (hx : l[k]? = some x) (h0 : x ≠ 0) : orW l = x := by
  have hk : k < l.length := by
    by_cases e : k < l.length
    · exact e
    · rw [List.getElem?_eq_none (by omega)] at hx; simp at hx
  have e : l = l.take k ++ x :: l.drop (k + 1) := by
    conv => lhs; rw [← List.take_append_drop k l]
    rw [List.drop_eq_getElem_cons hk]
    rw [List.getElem?_eq_getElem hk] at hx
    rw [show l[k] = x by simpa using hx]
  unfold orW
  rw [e, List.find?_append]
  have : (l.take k).find? (fun x => decide (x ≠ 0)) = none := by
    rw [List.find?_eq_none]; intro y hy; simp [h y hy]
  rw [this]
  simp [h0]
theorem orW_none {l : List Int} (h : ∀ y ∈ l, y = 0) : orW l = 0 := by
  unfold orW
  have : l.find? (fun x => decide (x ≠ 0)) = none := by
    rw [List.find?_eq_none]; intro y hy; simp [h y hy]
  rw [this]; rfl

theorem or_any {l : List Int} (h : Sl M w a c l) : Calls Try.prog 65 #[.slice a l.length c] w fun e w' => e = .returned (.int .i64 (orW l)) ∧ w' = w := by
  have hl := h.le
  have h0 : Hid (∀ y ∈ l.take 0, y = 0) := fun y hy => by simp at hy
  go_enter Try.func65, Try.ntmps65
  go_wp2
  go_loop [8] (fun i => ∃ k : Nat, k ≤ l.length ∧ i = .int .i64 k ∧ Hid (∀ y ∈ l.take k, y = 0)) (fun i => l.length - (intOf i).toNat)
  case atStart => exact ⟨0, by omega, rfl, h0⟩
  case round =>
    clear h0
    obtain ⟨k, hk, rfl, hz⟩ := hrel
    by_cases hlt : k < l.length
    · obtain ⟨b1, o1, x, rfl, hxc, hx, -⟩ := h.at_int hlt
      by_cases h0 : x = 0
      · have hb : (x != 0) = false := by simp [h0]
        have hz2 : Hid (∀ y ∈ l.take (k + 1), y = 0) := by
          intro y hy
          rw [List.take_add_one, hx.out] at hy
          simp only [Option.toList_some, List.mem_append, List.mem_singleton] at hy
          rcases hy with hy | rfl
          · exact hz.out y hy
          · exact h0
        clear h0
        go_wp2
        go_round
        case rel => exact ⟨k + 1, by omega, by go_num, hz2⟩
        case measure => simp [intOf]; omega
      · have hb : (x != 0) = true := by simp [h0]
        have HF := Lib.hid (orW_at hz.out hx.out h0)
        clear h0
        go_wp2
        go_ret
        exact ⟨ret_i HF.out.symm, rfl⟩
    · have HF := Lib.hid (orW_none (l := l) (by have := hz.out; rwa [List.take_of_length_le (by omega)] at this))
      go_wp2
      go_ret
      exact ⟨ret_i HF.out.symm, rfl⟩

theorem lexW_range : ∀ (a b : List Int), lexW a b = -1 ∨ lexW a b = 0 ∨ lexW a b = 1
  | [], [] => by simp [lexW]
  | [], _ :: _ => by simp [lexW]
  | _ :: _, [] => by simp [lexW]
  | x :: xs, y :: ys => by
    simp only [lexW]
    split
    · exact lexW_range xs ys
    · unfold sgn; split
      · simp
      · split <;> simp
theorem sgn_range (x y : Int) : sgn x y = -1 ∨ sgn x y = 0 ∨ sgn x y = 1 := by unfold sgn; split <;> (try split) <;> simp
theorem cmpW_or (a b : List Int) : orW [sgn a.length b.length, lexW a b] = cmpW a b := by
  unfold cmpW orW
  by_cases h : a.length = b.length
  · rw [if_pos h, sgn_eq (by rw [h])]
    rcases lexW_range a b with e | e | e <;> simp [e]
  · rw [if_neg h]
    have : sgn (a.length : Int) b.length ≠ 0 := by
      unfold sgn
      split
      · simp
      · split
        · simp
        · omega
    simp [this]

theorem cmpw_any {xs ys : List Int} (h1 : Sl M w a c xs) (h2 : Sl M w b d ys) :
    Calls Try.prog 49 #[.slice a xs.length c, .slice b ys.length d] w fun e w' => e = .returned (.int .i64 (cmpW xs ys)) ∧ Below w.heap.size w w' := by
  have hl1 := h1.le
  have hl2 := h2.le
  have HO := Lib.hid (or_any (M := fun _ => False) (w := w.alloc (.cells #[.int .i64 (sgn xs.length ys.length), .int .i64 (lexW xs ys)] 3)) (a := some ⟨w.heap.size, 0, none⟩) (c := 2) (l := [sgn xs.length ys.length, lexW xs ys])
    (Sl.lit (heap_alloc_new _ _) rfl id (fun x hx => by
      simp only [List.mem_cons, List.not_mem_nil, or_false] at hx
      have r1 := sgn_range xs.length ys.length
      have r2 := lexW_range xs ys
      unfold i64
      rcases hx with rfl | rfl <;> omega) rfl (by unfold maxLen; omega)))
  go_enter Try.func49, Try.ntmps49
  go_wp2_with fail
  refine (ccmp_any _ _).mono ?_
  rintro e w' ⟨rfl, hw⟩
  obtain rfl : w = w' := hw.symm
  go_wp2_with fail
  refine (scmp_any h1 h2).mono ?_
  rintro e w' ⟨rfl, hw⟩
  obtain rfl : w = w' := hw.symm
  go_wp2_with fail
  refine (HO.out).mono ?_
  rintro e w2 ⟨rfl, hw⟩
  subst hw
  have hB := (Below.refl w.heap.size w).alloc (Nat.le_refl _) (.cells #[.int .i64 (sgn xs.length ys.length), .int .i64 (lexW xs ys)] 3)
  go_wp2
  go_ret
  exact ⟨ret_i (cmpW_or xs ys), hB⟩
end
end Go.Proofs.Ytdnmgiabgpilkaa
/- The plain words for common prefixes, and the orders by them. No condition. -/
namespace Go.Proofs.Ytdnmgiabgpilkaa

/-- The length of the longest common prefix. -/
def comW : List Int → List Int → Nat
  | x :: xs, y :: ys => if x = y then comW xs ys + 1 else 0
  | [], _ => 0
  | _ :: _, [] => 0
theorem comW_le : ∀ (a b : List Int), comW a b ≤ a.length ∧ comW a b ≤ b.length
  | [], b => by cases b <;> simp [comW]
  | _ :: _, [] => by simp [comW]
  | x :: xs, y :: ys => by
    have := comW_le xs ys
    simp only [comW, List.length_cons]
    split <;> omega
theorem comW_same {x : Int} {xs ys : List Int} : comW (x :: xs) (x :: ys) = comW xs ys + 1 := by simp [comW]
theorem comW_diff {x y : Int} {xs ys : List Int} (h : x ≠ y) : comW (x :: xs) (y :: ys) = 0 := by simp [comW, h]
theorem comW_nil_r (a : List Int) : comW a [] = 0 := by cases a <;> simp [comW]
theorem comW_nil_l (b : List Int) : comW [] b = 0 := by cases b <;> simp [comW]
/-- One more place. -/
theorem comW_step {a b : List Int} {k : Nat} {x : Int} (h : comW a b = k + comW (a.drop k) (b.drop k)) (hx : a[k]? = some x) (hy : b[k]? = some x) : comW a b = (k + 1) + comW (a.drop (k + 1)) (b.drop (k + 1)) := by
  have ha : k < a.length := by
    by_cases e : k < a.length
    · exact e
    · rw [List.getElem?_eq_none (by omega)] at hx; simp at hx
  have hb : k < b.length := by
    by_cases e : k < b.length
    · exact e
    · rw [List.getElem?_eq_none (by omega)] at hy; simp at hy
  rw [List.getElem?_eq_getElem ha] at hx
  rw [List.getElem?_eq_getElem hb] at hy
  rw [List.drop_eq_getElem_cons ha, List.drop_eq_getElem_cons hb, show a[k] = x by simpa using hx, show b[k] = x by simpa using hy, comW_same] at h
  omega
theorem comW_stop {a b : List Int} {k : Nat} {x y : Int} (h : comW a b = k + comW (a.drop k) (b.drop k)) (hx : a[k]? = some x) (hy : b[k]? = some y) (hxy : x ≠ y) : comW a b = k := by
  have ha : k < a.length := by
    by_cases e : k < a.length
    · exact e
    · rw [List.getElem?_eq_none (by omega)] at hx; simp at hx
  have hb : k < b.length := by
    by_cases e : k < b.length
    · exact e
    · rw [List.getElem?_eq_none (by omega)] at hy; simp at hy
  rw [List.getElem?_eq_getElem ha] at hx
  rw [List.getElem?_eq_getElem hb] at hy
  rw [List.drop_eq_getElem_cons ha, List.drop_eq_getElem_cons hb, show a[k] = x by simpa using hx, show b[k] = y by simpa using hy, comW_diff hxy] at h
  omega
theorem comW_end {a b : List Int} {k : Nat} (h : comW a b = k + comW (a.drop k) (b.drop k)) (hk : a.length ≤ k ∨ b.length ≤ k) : comW a b = k := by
  rcases hk with hk | hk
  · rw [List.drop_eq_nil_of_le hk, comW_nil_l] at h; omega
  · have h2 : b.drop k = [] := List.drop_eq_nil_of_le hk
    rw [h2, comW_nil_r] at h; omega
/-- The order is that of what is behind the common prefix. -/
theorem lexW_com : ∀ (a b : List Int), lexW a b = lexW (a.drop (comW a b)) (b.drop (comW a b))
  | [], b => by rw [comW_nil_l]; simp
  | x :: xs, [] => by rw [comW_nil_r]; simp
  | x :: xs, y :: ys => by
    by_cases h : x = y
    · subst h
      rw [comW_same]
      simp only [List.drop_succ_cons]
      rw [← lexW_com xs ys]
      simp [lexW]
    · rw [comW_diff h]; simp
/-- Lex of the reference. -/
theorem lexW_zero {a b : List Int} (ha : comW a b = a.length) (hb : comW a b = b.length) : lexW a b = 0 := by
  rw [lexW_com, List.drop_eq_nil_of_le (by omega)]
  have : b.drop (comW a b) = [] := List.drop_eq_nil_of_le (by omega)
  rw [this]; rfl
theorem lexW_short {a b : List Int} (ha : comW a b = a.length) (hb : ¬ comW a b = b.length) : lexW a b = -1 := by
  have hle := (comW_le a b).2
  rw [lexW_com, List.drop_eq_nil_of_le (by omega), List.drop_eq_getElem_cons (l := b) (by omega)]; rfl
theorem lexW_longer {a b : List Int} (ha : ¬ comW a b = a.length) (hb : comW a b = b.length) : lexW a b = 1 := by
  have hle := (comW_le a b).1
  have : b.drop (comW a b) = [] := List.drop_eq_nil_of_le (by omega)
  rw [lexW_com, this, List.drop_eq_getElem_cons (l := a) (by omega)]; rfl
theorem comW_ne : ∀ {a b : List Int} {x y : Int}, a[comW a b]? = some x → b[comW a b]? = some y → x ≠ y
  | [], b, x, y, hx, _ => by simp at hx
  | u :: xs, [], x, y, _, hy => by simp at hy
  | u :: xs, v :: ys, x, y, hx, hy => by
    by_cases h : u = v
    · subst h
      rw [comW_same, List.getElem?_cons_succ] at hx hy
      exact comW_ne hx hy
    · rw [comW_diff h, List.getElem?_cons_zero] at hx hy
      obtain rfl : u = x := by simpa using hx
      obtain rfl : v = y := by simpa using hy
      exact h
theorem lexW_at {a b : List Int} {x y : Int} (hx : a[comW a b]? = some x) (hy : b[comW a b]? = some y) : lexW a b = sgn x y := by
  have hne := comW_ne hx hy
  rw [lexW_com, lexW_step hx hy, if_neg hne]
/-- One list is a prefix of the other. -/
theorem comW_prefix {a b : List Int} : comW a b = b.length ↔ b <+: a := by
  constructor
  · intro h
    induction b generalizing a with
    | nil => exact List.nil_prefix
    | cons y ys ih =>
      cases a with
      | nil => rw [comW_nil_l] at h; simp at h
      | cons x xs =>
        by_cases e : x = y
        · subst e
          rw [comW_same, List.length_cons] at h
          rw [List.cons_prefix_cons]
          exact ⟨rfl, ih (by omega)⟩
        · rw [comW_diff e, List.length_cons] at h; omega
  · rintro ⟨t, rfl⟩
    induction b with
    | nil => rw [List.nil_append, comW_nil_r]; rfl
    | cons y ys ih => rw [List.cons_append, comW_same, ih]; simp
end Go.Proofs.Ytdnmgiabgpilkaa
/- The laws of the two orders. No condition. -/
namespace Go.Proofs.Ytdnmgiabgpilkaa
theorem sgn_swap (x y : Int) : sgn y x = -sgn x y := by
  unfold sgn
  split <;> split <;> (try split) <;> omega
theorem sgn_zero {x y : Int} (h : sgn x y = 0) : x = y := by
  unfold sgn at h
  split at h
  · simp at h
  · split at h
    · simp at h
    · omega
theorem lex_swap : ∀ (a b : List Int), lexW b a = -lexW a b
  | [], [] => rfl
  | [], _ :: _ => rfl
  | _ :: _, [] => rfl
  | x :: a, y :: b => by
    simp only [lexW]
    by_cases h : x = y
    · rw [if_pos h, if_pos h.symm]; exact lex_swap a b
    · rw [if_neg h, if_neg (Ne.symm h)]; exact sgn_swap x y
theorem lex_same (a : List Int) : lexW a a = 0 := by
  induction a with
  | nil => rfl
  | cons x a ih => simp [lexW, ih]
theorem lex_zero : ∀ {a b : List Int}, lexW a b = 0 → a = b
  | [], [], _ => rfl
  | [], _ :: _, h => by simp [lexW] at h
  | _ :: _, [], h => by simp [lexW] at h
  | x :: a, y :: b, h => by
    simp only [lexW] at h
    by_cases e : x = y
    · rw [if_pos e] at h; rw [e, lex_zero h]
    · rw [if_neg e] at h; exact absurd (sgn_zero h) e
theorem sgn_neg {x y : Int} : sgn x y < 0 ↔ x < y := by
  unfold sgn; split
  · simp; omega
  · split <;> simp <;> omega
theorem lex_trans : ∀ {a b c : List Int}, lexW a b ≤ 0 → lexW b c ≤ 0 → lexW a c ≤ 0 ∧ (lexW a b < 0 → lexW a c < 0)
  | [], b, [], h, h2 => by
    cases b with
    | nil => simp [lexW]
    | cons y b => simp [lexW] at h2
  | [], b, z :: c, h, h2 => by simp [lexW]
  | x :: a, [], c, h, h2 => by simp [lexW] at h
  | x :: a, y :: b, [], h, h2 => by simp [lexW] at h2
  | x :: a, y :: b, z :: c, h, h2 => by
    simp only [lexW] at h h2 ⊢
    by_cases e : x = y
    · subst e
      rw [if_pos rfl] at h ⊢
      by_cases e2 : x = z
      · rw [if_pos e2] at h2 ⊢
        exact lex_trans h h2
      · rw [if_neg e2] at h2 ⊢
        have hr := sgn_range x z
        have hz : sgn x z ≠ 0 := fun h => e2 (sgn_zero h)
        exact ⟨h2, fun _ => by omega⟩
    · rw [if_neg e] at h ⊢
      have hr := sgn_range x y
      have hz : sgn x y ≠ 0 := fun h => e (sgn_zero h)
      have h3 : x < y := sgn_neg.1 (by omega)
      have h4 : x < z := by
        by_cases e2 : y = z
        · omega
        · rw [if_neg e2] at h2
          have hr := sgn_range y z
          have hz : sgn y z ≠ 0 := fun h => e2 (sgn_zero h)
          have := sgn_neg.1 (show sgn y z < 0 by omega)
          omega
      rw [if_neg (by omega)]
      have := sgn_neg.2 h4
      exact ⟨by omega, fun _ => this⟩
theorem cmp_swap (a b : List Int) : cmpW b a = -cmpW a b := by
  unfold cmpW
  by_cases h : a.length = b.length
  · rw [if_pos h, if_pos h.symm, lex_swap]
  · rw [if_neg h, if_neg (Ne.symm h), sgn_swap]
theorem cmp_same (a : List Int) : cmpW a a = 0 := by unfold cmpW; rw [if_pos rfl, lex_same]
theorem cmp_zero {a b : List Int} (h : cmpW a b = 0) : a = b := by
  unfold cmpW at h
  split at h
  · exact lex_zero h
  · rename_i hl; have := sgn_zero h; omega
theorem cmp_range (a b : List Int) : cmpW a b = -1 ∨ cmpW a b = 0 ∨ cmpW a b = 1 := by
  unfold cmpW; split
  · exact lexW_range a b
  · exact sgn_range _ _
theorem cmp_short {a b : List Int} (h : a.length < b.length) : cmpW a b = -1 := by unfold cmpW; rw [if_neg (by omega), sgn_lt (by omega)]
theorem cmp_trans {a b c : List Int} (h : cmpW a b ≤ 0) (h2 : cmpW b c ≤ 0) : cmpW a c ≤ 0 ∧ (cmpW a b < 0 → cmpW a c < 0) := by
  have key : ∀ {a b : List Int}, cmpW a b ≤ 0 → a.length < b.length ∨ (a.length = b.length ∧ lexW a b ≤ 0 ∧ cmpW a b = lexW a b) := by
    intro a b h
    by_cases e : a.length = b.length
    · right
      have e2 : cmpW a b = lexW a b := by unfold cmpW; rw [if_pos e]
      exact ⟨e, by omega, e2⟩
    · left
      unfold cmpW at h
      rw [if_neg e] at h
      have hr := sgn_range a.length b.length
      have hz : sgn (a.length : Int) b.length ≠ 0 := fun h => e (by have := sgn_zero h; omega)
      have := sgn_neg.1 (show sgn (a.length : Int) b.length < 0 by omega)
      omega
  rcases key h with h1 | ⟨h1, h3, h4⟩
  · have hl : a.length < c.length := by rcases key h2 with h5 | ⟨h5, _, _⟩ <;> omega
    rw [cmp_short hl]; simp
  · rcases key h2 with h5 | ⟨h5, h6, h7⟩
    · rw [cmp_short (by omega)]; simp
    · have e2 : cmpW a c = lexW a c := by unfold cmpW; rw [if_pos (by omega)]
      rw [e2, h4]
      exact lex_trans h3 h6
/-- A prefix is not after the list. -/
theorem lex_prefix : ∀ {a b : List Int}, b <+: a → 0 ≤ lexW a b
  | [], [], _ => by simp [lexW]
  | [], y :: b, h => by simp at h
  | x :: a, [], _ => by simp [lexW]
  | x :: a, y :: b, h => by
    rw [List.cons_prefix_cons] at h
    simp only [lexW]
    rw [if_pos h.1.symm]
    exact lex_prefix h.2
theorem cmp_prefix {a b : List Int} (h : b <+: a) : 0 ≤ cmpW a b := by
  have hl := h.length_le
  unfold cmpW
  split
  · exact lex_prefix h
  · rw [sgn_gt (by omega)]; omega
theorem lex_app : ∀ (c a b : List Int), lexW (c ++ a) (c ++ b) = lexW a b
  | [], a, b => rfl
  | x :: c, a, b => by simp [lexW, lex_app c a b]
theorem cmp_app (c a b : List Int) : cmpW (c ++ a) (c ++ b) = cmpW a b := by
  unfold cmpW
  rw [lex_app]
  by_cases h : a.length = b.length
  · rw [if_pos h, if_pos (by simp [h])]
  · rw [if_neg h, if_neg (by simp [h])]
    simp only [List.length_append]
    unfold sgn
    split <;> split <;> (try split) <;> (try split) <;> omega
end Go.Proofs.Ytdnmgiabgpilkaa
/- The outputs of a machine for a word, and the state behind it. Condition where named: the machine is valid, the symbols are its own. -/
namespace Go.Proofs.Ytdnmgiabgpilkaa
namespace Mach
variable (m : Mach)
def outsW : Int → List Int → List Int
  | _, [] => []
  | s, x :: w => m.ot s.toNat x.toNat :: outsW (m.nx s.toNat x.toNat) w
def endW : Int → List Int → Int
  | s, [] => s
  | s, x :: w => endW (m.nx s.toNat x.toNat) w
theorem outsW_len : ∀ (w : List Int) (s : Int), (m.outsW s w).length = w.length
  | [], _ => rfl
  | x :: w, s => by simp [outsW, outsW_len w]
theorem endW_app : ∀ (w v : List Int) (s : Int), m.endW s (w ++ v) = m.endW (m.endW s w) v
  | [], _, _ => rfl
  | x :: w, v, s => by simp [endW, endW_app w]
theorem outsW_app : ∀ (w v : List Int) (s : Int), m.outsW s (w ++ v) = m.outsW s w ++ m.outsW (m.endW s w) v
  | [], _, _ => rfl
  | x :: w, v, s => by simp [outsW, endW, outsW_app w]
theorem endW_snoc (w : List Int) (x s : Int) : m.endW s (w ++ [x]) = m.nx (m.endW s w).toNat x.toNat := by rw [endW_app]; rfl
theorem outsW_snoc (w : List Int) (x s : Int) : m.outsW s (w ++ [x]) = m.outsW s w ++ [m.ot (m.endW s w).toNat x.toNat] := by rw [outsW_app]; rfl
/-- The symbols of a word of the machine. -/
def okS (w : List Int) : Prop := ∀ x ∈ w, 0 ≤ x ∧ x < m.inputs
variable {m}
theorem okS_cons {x : Int} {w : List Int} (h : m.okS (x :: w)) : (0 ≤ x ∧ x < m.inputs) ∧ m.okS w := ⟨h x (by simp), fun y hy => h y (by simp [hy])⟩
theorem okS_app {v w : List Int} (h : m.okS (v ++ w)) : m.okS v ∧ m.okS w := ⟨fun y hy => h y (by simp [hy]), fun y hy => h y (by simp [hy])⟩
theorem okS_take {w : List Int} (h : m.okS w) (k : Nat) : m.okS (w.take k) := fun y hy => h y (List.mem_of_mem_take hy)
theorem okS_drop {w : List Int} (h : m.okS w) (k : Nat) : m.okS (w.drop k) := fun y hy => h y (List.mem_of_mem_drop hy)
theorem endW_range (ok : m.Ok) : ∀ (w : List Int) (s : Int), 0 ≤ s → s < m.next.length → m.okS w → 0 ≤ m.endW s w ∧ m.endW s w < m.next.length
  | [], s, h0, h1, _ => ⟨h0, h1⟩
  | x :: w, s, h0, h1, h => by
    obtain ⟨⟨x0, x1⟩, hw⟩ := okS_cons h
    have := ok.nx s.toNat x.toNat (by omega) (by omega)
    exact endW_range ok w _ this.1 this.2 hw
theorem take_step {w : List Int} {k : Nat} {x : Int} (h : w[k]? = some x) : w.take (k + 1) = w.take k ++ [x] := by rw [List.take_add_one, h]; rfl
end Mach
end Go.Proofs.Ytdnmgiabgpilkaa
/- mealy's move, run, state, From and Run. Condition where named: the machine is valid. -/
namespace Go.Proofs.Ytdnmgiabgpilkaa
open Go.RowKit
/-- The runner's five cells. -/
abbrev R5 (w : World) (b : Nat) (an : Option Addr) (cn : Nat) (ao : Option Addr) (co : Nat) (m : Mach) (z : Int) : Prop :=
  C4 w b an cn ao co m ∧ w.cell? ⟨b, 4, none⟩ = some (.int .i64 z) ∧ w.frozen? ⟨b, 4, none⟩ = false
section
variable {B b : Nat} {w w' : World} {an ao : Option Addr} {cn co : Nat} {m : Mach} {z : Int}
theorem R5.below (h : R5 w b an cn ao co m z) (hb : Below B w w') (hlt : b < B) : R5 w' b an cn ao co m z :=
  ⟨h.1.below hb hlt, (hb.cell (p := ⟨b, 4, none⟩) hlt).trans h.2.1, (hb.frozen (p := ⟨b, 4, none⟩) hlt).trans h.2.2⟩
theorem R5.set (h : R5 w b an cn ao co m z) (y : Int) : R5 (w.setCell ⟨b, 4, none⟩ (.int .i64 y)) b an cn ao co m y :=
  ⟨⟨by rw [World.cell?_setCell_other _ _ _ _ (by simp)]; exact h.1.1, by rw [World.cell?_setCell_other _ _ _ _ (by simp)]; exact h.1.2.1, by rw [World.cell?_setCell_other _ _ _ _ (by simp)]; exact h.1.2.2.1, by rw [World.cell?_setCell_other _ _ _ _ (by simp)]; exact h.1.2.2.2⟩,
   World.cell?_setCell_same _ _ _ h.2.1, by simpa using h.2.2⟩
end
section
variable {M : Nat → Prop} {w : World} {an ao a : Option Addr} {cn co c : Nat} {m : Mach}

set_option maxRecDepth 100000 in
set_option maxHeartbeats 1000000 in
theorem move_any (hm : Ma M w an cn ao co m) (ok : m.Ok) {s x : Nat} (hs : s < m.next.length) (hx : x < m.inputs.toNat) :
    Calls Try.prog 76 #[maV m an cn ao co, .int .i64 (s : Int), .int .i64 (x : Int)] w fun e w' => ∃ (n : Nat) (y : Int), e = .returned (.tuple #[.int .i64 (n : Int), .int .i64 y]) ∧ n < m.next.length ∧ 0 ≤ y ∧ y ≤ 1048576 ∧ Hid (m.nx s x = n) ∧ Hid (m.ot s x = y) ∧ Below w.heap.size w w' := by
  have hsz : s < m.out.length := by have := ok.lo; omega
  have n1 := ok.n1
  have i1 := ok.i1
  obtain ⟨bn, on, bo, oo, rfl, rfl⟩ := hm.addr ok
  have hm2 := hm.ext (Ext.alloc M w (.cells #[.int .i64 m.inputs, .int .i64 m.start, .slice (some ⟨bn, on, none⟩) m.next.length cn, .slice (some ⟨bo, oo, none⟩) m.out.length co] 90))
  obtain ⟨b1, o1, c1, l1, b2, o2, c2, l2, n, y, k1, k2, k3, k4, hn, hy0, hy1, hnx, hot, hl1, hl2, hl3, hl4⟩ := hm2.atS ok hs hx
  have hB := (Below.refl w.heap.size w).alloc (Nat.le_refl _) (.cells #[.int .i64 m.inputs, .int .i64 m.start, .slice (some ⟨bn, on, none⟩) m.next.length cn, .slice (some ⟨bo, oo, none⟩) m.out.length co] 90)
  have HM := Lib.hid hm2
  have OK := Lib.hid ok
  clear hm hm2 ok
  go_enter Try.func76, Try.ntmps76
  go_wp2
  refine wp_quiet_fast (by kernel_rfl) (by kernel_rfl) ?_
  repeat (first | go_big_quiet_step (fail) | quiet_step (fail))
  refine wpQuiet_nil ?_
  intro _ hw'
  obtain ⟨nq, hw''⟩ := hw'
  subst hw''
  go_wp2
  go_ret2
  exact ⟨n, y, rfl, hn, hy0, hy1, hnx, hot, bl_drewN hB _⟩

set_option maxRecDepth 100000 in
set_option maxHeartbeats 4000000 in
theorem run_any {M' : Nat → Prop} {B b : Nat} {l : List Int} {s : Int} (hb : B ≤ b) (hbw : b < w.heap.size) (HM : ∀ w', Below B w w' → Ma M w' an cn ao co m) (HS : ∀ w', Below B w w' → Sl M' w' a c l) (ok : m.Ok)
    (h5 : R5 w b an cn ao co m s) (hs : 0 ≤ s ∧ s < m.next.length) (hw : m.okS l) (hl : l.length ≤ 1024) :
    Calls Try.prog 63 #[.pointer (some ⟨b, 0, none⟩), .slice a l.length c] w fun e w' => ∃ (a' : Option Addr) (c' : Nat) (l' : List Int), e = .returned (.slice a' l'.length c') ∧ Hid (l' = m.outsW s l) ∧
      Sl (fun k => k < w.heap.size) w' a' c' l' ∧ Below B w w' ∧ R5 w' b an cn ao co m (m.endW s l) := by
  have OK := Lib.hid ok
  have HW := Lib.hid hw
  have HS0 := Lib.hid hs
  have n1 := ok.n1
  have i1 := ok.i1
  have HMh := Lib.hid HM
  have HSh := Lib.hid HS
  have hl0 : Hid (([] : List Int) = m.outsW s (l.take 0)) := rfl
  have hO0 : Ow (α := Int) w.heap.size (fun k => w.heap.size ≤ k) w 3 (.slice none 0 0) [] := Ow.nil
  have hB0 := Below.refl B w
  clear HM HS ok hw hs
  go_enter Try.func63, Try.ntmps63
  go_wp2
  go_loopw [5, 12] (fun v i wr => ∃ (k : Nat) (a' : Option Addr) (c' : Nat) (l' : List Int), k ≤ l.length ∧ i = .int .i64 k ∧ v = .slice a' l'.length c' ∧ l'.length ≤ 1024 ∧ Hid (l' = m.outsW s (l.take k)) ∧
    Ow w.heap.size (fun k => w.heap.size ≤ k) wr 3 (.slice a' l'.length c') l' ∧ Below B w wr ∧ R5 wr b an cn ao co m (m.endW s (l.take k))) (fun _ i _ => l.length - (intOf i).toNat)
  case atStart => exact ⟨0, none, 0, [], by omega, rfl, rfl, by simp, hl0, hO0, hB0, h5⟩
  case round =>
    clear hl0 hO0 hB0 h5
    obtain ⟨k, a2, c2, l2, hk, rfl, rfl, hl2, ho2, hO, hB, h5⟩ := hrel
    obtain ⟨w1, rfl⟩ : ∃ w1 : World, w1 = wr := ⟨_, rfl⟩
    have hsz := hB.size
    by_cases hlt : k < l.length
    · obtain ⟨bl, ol, x, rfl, hxc, hx, -⟩ := (HSh.out w1 hB).at_int hlt
      obtain ⟨x0, x1⟩ := HW.out x (List.mem_of_getElem? hx.out)
      obtain ⟨xn, rfl⟩ := Int.eq_ofNat_of_zero_le x0
      have hr := Mach.endW_range OK.out (l.take k) s HS0.out.1 HS0.out.2 (Mach.okS_take HW.out k)
      have hl2k : Hid (l2.length = k) := by unfold Hid; rw [ho2.out, Mach.outsW_len, List.length_take]; omega
      obtain ⟨sn, hsn⟩ := Int.eq_ofNat_of_zero_le hr.1
      rw [hsn] at h5 hr
      have hsn2 : sn < m.next.length := by omega
      have hxn : xn < m.inputs.toNat := by omega
      have hxn2 : xn < 64 := by omega
      have HSN := Lib.hid hsn
      have hmm := HMh.out w1 hB
      have HMM := Lib.hid hmm
      clear hsn hr x0 x1 hmm
      go_wp2
      refine wp_region_L (fun w' => R5 w' b an cn ao co m (sn : Int)) [0, 1, 2, 3, 4, 5, 6, 7, 8, 11, 12] (by kernel_rfl) ?_
      have h5d : R5 w1.drew b an cn ao co m (sn : Int) := ⟨h5.1.drew, by simpa using h5.2.1, by simpa using h5.2.2⟩
      have hBd := hB.drew
      have hOd := hO.drew
      have HMd := Lib.hid (HMM.out.ext (Ext.drew _ _))
      have hszd : w.heap.size ≤ w1.drew.heap.size := hsz
      clear h5 hB hO HMM
      generalize w1.drew = w2 at *
      refine wpAnyL_take (i := 0) (v := ?v1) rfl (by kernel_rfl) (by kernel_rfl) (by kernel_rfl) (by kernel_rfl) (fun _ _ _ h => h) (Or.inl ⟨by rfl, ?y1⟩) (by assumption) ?r1
      case y1 => (intro w' hSw; (try dsimp only at hSw); go_simp; try with_reducible rfl)
      try simp only [Act.put, List.setIfInBounds_toArray, List.set_cons_zero, List.set_cons_succ]
      refine wpAnyL_take (i := 1) (v := ?v2) rfl (by kernel_rfl) (by kernel_rfl) (by kernel_rfl) (by kernel_rfl) (fun _ _ _ h => h) (Or.inl ⟨by rfl, ?y2⟩) (by assumption) ?r2
      case y2 => (intro w' hSw; (try dsimp only at hSw); go_simp; try with_reducible rfl)
      try simp only [Act.put, List.setIfInBounds_toArray, List.set_cons_zero, List.set_cons_succ]
      refine wpAnyL_take (i := 2) (v := ?v3) rfl (by kernel_rfl) (by kernel_rfl) (by kernel_rfl) (by kernel_rfl) (fun _ _ _ h => h) (Or.inl ⟨by rfl, ?y3⟩) (by assumption) ?r3
      case y3 => (intro w' hSw; (try dsimp only at hSw); go_simp; try with_reducible rfl)
      try simp only [Act.put, List.setIfInBounds_toArray, List.set_cons_zero, List.set_cons_succ]
      refine wpAnyL_take (i := 3) (v := ?v4) rfl (by kernel_rfl) (by kernel_rfl) (by kernel_rfl) (by kernel_rfl) (fun _ _ _ h => h) (Or.inl ⟨by rfl, ?y4⟩) (by assumption) ?r4
      case y4 => (intro w' hSw; (try dsimp only at hSw); go_simp; try with_reducible rfl)
      try simp only [Act.put, List.setIfInBounds_toArray, List.set_cons_zero, List.set_cons_succ]
      refine wpAnyL_take (i := 4) (v := ?v5) rfl (by kernel_rfl) (by kernel_rfl) (by kernel_rfl) (by kernel_rfl) (fun _ _ _ h => h) (Or.inl ⟨by rfl, ?y5⟩) (by assumption) ?r5
      case y5 => (intro w' hSw; (try dsimp only at hSw); go_simp; try with_reducible rfl)
      try simp only [Act.put, List.setIfInBounds_toArray, List.set_cons_zero, List.set_cons_succ]
      refine wpAnyL_take (i := 5) (v := ?v6) rfl (by kernel_rfl) (by kernel_rfl) (by kernel_rfl) (by kernel_rfl) (fun _ _ _ h => h) (Or.inl ⟨by rfl, ?y6⟩) (by assumption) ?r6
      case y6 => (intro w' hSw; (try dsimp only at hSw); go_simp; try with_reducible rfl)
      try simp only [Act.put, List.setIfInBounds_toArray, List.set_cons_zero, List.set_cons_succ]
      refine wpAnyL_take (i := 6) (v := ?v7) rfl (by kernel_rfl) (by kernel_rfl) (by kernel_rfl) (by kernel_rfl) (fun _ _ _ h => h) (Or.inl ⟨by rfl, ?y7⟩) (by assumption) ?r7
      case y7 => (intro w' hSw; (try dsimp only at hSw); go_simp; try with_reducible rfl)
      try simp only [Act.put, List.setIfInBounds_toArray, List.set_cons_zero, List.set_cons_succ]
      refine wpAnyL_take (i := 7) (v := ?v8) rfl (by kernel_rfl) (by kernel_rfl) (by kernel_rfl) (by kernel_rfl) (fun _ _ _ h => h) (Or.inl ⟨by rfl, ?y8⟩) (by assumption) ?r8
      case y8 => (intro w' hSw; (try dsimp only at hSw); go_simp; try with_reducible rfl)
      try simp only [Act.put, List.setIfInBounds_toArray, List.set_cons_zero, List.set_cons_succ]
      refine wpAnyL_take (i := 8) (v := ?v9) rfl (by kernel_rfl) (by kernel_rfl) (by kernel_rfl) (by kernel_rfl) (fun _ _ _ h => h) (Or.inl ⟨by rfl, ?y9⟩) (by assumption) ?r9
      case y9 => (intro w' hSw; (try dsimp only at hSw); go_simp; try with_reducible rfl)
      try simp only [Act.put, List.setIfInBounds_toArray, List.set_cons_zero, List.set_cons_succ]
      refine wpAnyL_one (i := 9) (by kernel_rfl) rfl rfl (fun K hK => ?_)
      go_simp
      refine (move_any HMd.out OK.out hsn2 hxn).mono ?_
      rintro e w3 ⟨n, y, rfl, hn, hy0, hy1, hnx, hot, hb3⟩
      have h53 := h5d.below hb3 (by omega)
      have hB3 := hBd.trans (hb3.mono (by omega))
      have hO3 := hOd.below hb3
      have hsz3 : w.heap.size ≤ w3.heap.size := by have := hb3.size; omega
      refine hK _ _ (fun _ => h53) ?_
      clear hK K h5d hBd hOd hb3 HMd
      refine wpAnyL_one (i := 10) (by kernel_rfl) rfl rfl (fun K hK => ?_)
      go_simp
      refine hK _ _ (fun _ => h53) ?_
      clear hK K
      refine wpAnyL_take (i := 11) (v := ?v10) rfl (by kernel_rfl) (by kernel_rfl) (by kernel_rfl) (by kernel_rfl) (fun _ _ _ h => h) (Or.inl ⟨by rfl, ?y10⟩) (by assumption) ?r10
      case y10 => (intro w' hSw; (try dsimp only at hSw); go_simp; try with_reducible rfl)
      try simp only [Act.put, List.setIfInBounds_toArray, List.set_cons_zero, List.set_cons_succ]
      refine wpAnyL_take (i := 12) (v := ?v11) rfl (by kernel_rfl) (by kernel_rfl) (by kernel_rfl) (by kernel_rfl) (fun _ _ _ h => h) (Or.inl ⟨by rfl, ?y11⟩) (by assumption) ?r11
      case y11 => (intro w' hSw; (try dsimp only at hSw); go_simp; try with_reducible rfl)
      try simp only [Act.put, List.setIfInBounds_toArray, List.set_cons_zero, List.set_cons_succ]
      refine wpAnyL_one (i := 13) (by kernel_rfl) rfl rfl (fun K hK => ?_)
      go_simp
      refine hK _ _ (fun _ => h53) ?_
      clear hK K
      refine wpAnyL_one (i := 14) (by kernel_rfl) rfl rfl (fun K hK => ?_)
      go_simp
      refine hK _ _ (fun _ => h53) ?_
      clear hK K
      refine wpAnyL_done (by kernel_rfl) ?_ _
      have h54 := h53.set (n : Int)
      have hB4 := hB3.setCell (p := ⟨b, 4, none⟩) hb (.int .i64 (n : Int))
      have hO4 := hO3.setOtherI (p := ⟨b, 4, none⟩) (fun k hk => by have := (hO3.lt k hk).1; simp; omega) (.int .i64 (n : Int))
      have H54 := Lib.hid h54
      have HB4 := Lib.hid hB4
      have HO4 := Lib.hid hO4
      clear h54 hB4 hO4 hO3 hB3
      have hll : l2.length < 1024 := by rw [hl2k.out]; omega
      go_wp2_with (at_builtin; refine wpList_push_i (B := w.heap.size) (l := l2) (y := y) rfl rfl Try.underlying27 info_int rfl rfl (HO4.out.alloc _) (by simp [go_sem]) (by unfold i64; omega) (by omega) (by simp; omega) ?_)
      intro a5 c5 l5 w5 hl5 hO5 hb5
      have hbA := (Below.refl _ _).alloc (B := (w3.setCell ⟨b, 4, none⟩ (.int .i64 (n : Int))).heap.size) (Nat.le_refl _) (.cells #[.int .i64 y] 3)
      have hlb : b < (w3.setCell ⟨b, 4, none⟩ (.int .i64 (n : Int))).heap.size := by simp; omega
      have hlb2 : b < w.heap.size := hbw
      have h55 := (H54.out.below hbA hlb).below hb5 hbw
      have hB5 := (HB4.out.alloc (by simp; omega) (.cells #[.int .i64 y] 3)).trans (hb5.mono (by omega))
      have ho5 : Hid (l5 = m.outsW s (l.take (k + 1))) := by
        unfold Hid
        rw [hl5.out, ho2.out, Mach.take_step hx.out, Mach.outsW_snoc, HSN.out]
        simp only [Int.toNat_natCast]
        rw [hot.out]
      have he5 : Hid ((n : Int) = m.endW s (l.take (k + 1))) := by
        unfold Hid
        rw [Mach.take_step hx.out, Mach.endW_snoc, HSN.out]
        simp only [Int.toNat_natCast]
        rw [hnx.out]
      have h56 : R5 w5 b an cn ao co m (m.endW s (l.take (k + 1))) := by rw [← he5.out]; exact h55
      have hl5' : l5.length ≤ 1024 := by rw [hl5.out]; simp; omega
      clear h55 h53 H54 hbA hb5
      have H56 := Lib.hid h56
      clear h56
      go_wp2
      go_roundw
      case rel => exact ⟨k + 1, a5, c5, l5, by omega, by go_num, rfl, hl5', ho5, hO5, hB5, H56.out⟩
      case measure => simp [intOf]; omega
    · have e : l.take k = l := List.take_of_length_le (by omega)
      have h56 : R5 w1 b an cn ao co m (m.endW s l) := by rw [e] at h5; exact h5
      have ho5 : Hid (l2 = m.outsW s l) := by unfold Hid; rw [ho2.out, e]
      have H56 := Lib.hid h56
      clear e h56 h5
      go_wp2
      go_ret
      exact ⟨a2, c2, l2, rfl, ho5, hO.fresh (Nat.le_refl _), hB, H56.out⟩
end
end Go.Proofs.Ytdnmgiabgpilkaa
/- mealy's state, From and Run. No condition. -/
namespace Go.Proofs.Ytdnmgiabgpilkaa
open Go.RowKit
namespace Mach
variable (m : Mach)
def stErr (s : Int) : Int := if m.err ≠ 0 then m.err else if s < 0 ∨ (m.next.length : Int) ≤ s then 2 else 0
def frErr (s : Int) (w : List Int) : Int := if m.stErr s ≠ 0 then m.stErr s else wErr w m.inputs
def frOut (s : Int) (w : List Int) : List Int := if m.frErr s w = 0 then m.outsW s w else []
def frEnd (s : Int) (w : List Int) : Int := if m.frErr s w = 0 then m.endW s w else 0
variable {m}
theorem stErr_ok {s : Int} (h : m.stErr s = 0) : m.err = 0 ∧ 0 ≤ s ∧ s < m.next.length := by
  unfold stErr at h
  split at h
  · rename_i h1; exact absurd h h1
  · rename_i h1
    split at h
    · simp at h
    · exact ⟨by simpa using h1, by omega, by omega⟩
theorem frErr_st {s : Int} {w : List Int} (h : m.stErr s ≠ 0) : m.frErr s w = m.stErr s ∧ m.frOut s w = [] ∧ m.frEnd s w = 0 := by
  have e : m.frErr s w = m.stErr s := by unfold frErr; rw [if_pos h]
  refine ⟨e, ?_, ?_⟩
  · unfold frOut; rw [if_neg (by rw [e]; exact h)]
  · unfold frEnd; rw [if_neg (by rw [e]; exact h)]
theorem frErr_w {s : Int} {w : List Int} (h : m.stErr s = 0) (h2 : wErr w m.inputs ≠ 0) : m.frErr s w = wErr w m.inputs ∧ m.frOut s w = [] ∧ m.frEnd s w = 0 := by
  have e : m.frErr s w = wErr w m.inputs := by unfold frErr; rw [if_neg (by simp [h])]
  refine ⟨e, ?_, ?_⟩
  · unfold frOut; rw [if_neg (by rw [e]; exact h2)]
  · unfold frEnd; rw [if_neg (by rw [e]; exact h2)]
theorem frErr_0 {s : Int} {w : List Int} (h : m.stErr s = 0) (h2 : wErr w m.inputs = 0) : m.frErr s w = 0 ∧ m.frOut s w = m.outsW s w ∧ m.frEnd s w = m.endW s w := by
  have e : m.frErr s w = 0 := by unfold frErr; rw [if_neg (by simp [h]), h2]
  refine ⟨e, ?_, ?_⟩
  · unfold frOut; rw [if_pos e]
  · unfold frEnd; rw [if_pos e]
theorem okS_of {w : List Int} (h : wErr w m.inputs = 0) : m.okS w ∧ w.length ≤ 1024 := by
  unfold wErr at h
  split at h
  · simp at h
  · rename_i h1
    split at h
    · simp at h
    · rename_i h2
      split at h
      · simp at h
      · rename_i h3
        refine ⟨fun x hx => ?_, by omega⟩
        have : ¬ (x < 0 ∨ m.inputs ≤ x) := fun e => h3 ⟨x, hx, e⟩
        omega
end Mach
theorem ret_fr {a : Option Addr} {n n' c : Nat} {x x' y y' : Int} (h : n = n') (h2 : x = x') (h3 : y = y') : Ending.returned (.tuple #[.slice a n c, .int .i64 x, .int .i64 y]) = .returned (.tuple #[.slice a n' c, .int .i64 x', .int .i64 y']) := by rw [h, h2, h3]
section
variable {M : Nat → Prop} {w : World} {an ao a : Option Addr} {cn co c : Nat} {m : Mach}
theorem state_any (hm : Ma M w an cn ao co m) (s : Int) :
    Calls Try.prog 61 #[maV m an cn ao co, .int .i64 s] w fun e w' => e = .returned (.int .i64 (m.stErr s)) ∧ Below w.heap.size w w' := by
  have hle := hm.next.le
  have hv := valid_any (hm.ext (Ext.alloc M w (.cells #[.int .i64 m.inputs, .int .i64 m.start, .slice an m.next.length cn, .slice ao m.out.length co] 24)))
  have HV := Lib.hid hv
  clear hv
  by_cases he : m.err = 0
  · have he' : (m.err != 0) = false := by simp [he]
    by_cases hs : s < 0
    · have HF : Hid (m.stErr s = 2) := by unfold Hid Mach.stErr; rw [if_neg (by simp [he]), if_pos (.inl hs)]
      have hd : decide (s < 0) = true := by simp [hs]
      clear he
      go_enter Try.func61, Try.ntmps61
      go_wp2_with fail
      refine (HV.out).mono ?_
      rintro e w1 ⟨rfl, hb1⟩
      have hB := ((Below.refl w.heap.size w).alloc (Nat.le_refl _) (.cells #[.int .i64 m.inputs, .int .i64 m.start, .slice an m.next.length cn, .slice ao m.out.length co] 24)).trans (hb1.mono (by simp))
      go_wp2
      go_ret
      exact ⟨ret_int HF.out.symm, hB⟩
    · have hd : decide (s < 0) = false := by simp; omega
      by_cases hs2 : (m.next.length : Int) ≤ s
      · have HF : Hid (m.stErr s = 2) := by unfold Hid Mach.stErr; rw [if_neg (by simp [he]), if_pos (.inr hs2)]
        have hd2 : decide ((m.next.length : Int) ≤ s) = true := by simp [hs2]
        clear he
        go_enter Try.func61, Try.ntmps61
        go_wp2_with fail
        refine (HV.out).mono ?_
        rintro e w1 ⟨rfl, hb1⟩
        have hbx : ∀ o, w1.cell? ⟨w.heap.size, o, none⟩ = _ := fun o => hb1.cell (by simp)
        have hB := ((Below.refl w.heap.size w).alloc (Nat.le_refl _) (.cells #[.int .i64 m.inputs, .int .i64 m.start, .slice an m.next.length cn, .slice ao m.out.length co] 24)).trans (hb1.mono (by simp))
        go_wp2
        go_ret
        exact ⟨ret_int HF.out.symm, hB⟩
      · have HF : Hid (m.stErr s = 0) := by unfold Hid Mach.stErr; rw [if_neg (by simp [he]), if_neg (by omega)]
        have hd2 : decide ((m.next.length : Int) ≤ s) = false := by simp; omega
        clear he
        go_enter Try.func61, Try.ntmps61
        go_wp2_with fail
        refine (HV.out).mono ?_
        rintro e w1 ⟨rfl, hb1⟩
        have hbx : ∀ o, w1.cell? ⟨w.heap.size, o, none⟩ = _ := fun o => hb1.cell (by simp)
        have hB := ((Below.refl w.heap.size w).alloc (Nat.le_refl _) (.cells #[.int .i64 m.inputs, .int .i64 m.start, .slice an m.next.length cn, .slice ao m.out.length co] 24)).trans (hb1.mono (by simp))
        go_wp2
        go_ret
        exact ⟨ret_int HF.out.symm, hB⟩
  · have he' : (m.err != 0) = true := by simp [he]
    have HF : Hid (m.stErr s = m.err) := by unfold Hid Mach.stErr; rw [if_pos he]
    clear he
    go_enter Try.func61, Try.ntmps61
    go_wp2_with fail
    refine (HV.out).mono ?_
    rintro e w1 ⟨rfl, hb1⟩
    have hB := ((Below.refl w.heap.size w).alloc (Nat.le_refl _) (.cells #[.int .i64 m.inputs, .int .i64 m.start, .slice an m.next.length cn, .slice ao m.out.length co] 24)).trans (hb1.mono (by simp))
    go_wp2
    go_ret
    exact ⟨ret_int HF.out.symm, hB⟩

set_option maxRecDepth 100000 in
set_option maxHeartbeats 4000000 in
theorem from_any {M' : Nat → Prop} {l : List Int} (hm : Ma M w an cn ao co m) (hw : Sl M' w a c l) (s : Int) :
    Calls Try.prog 45 #[maV m an cn ao co, .int .i64 s, .slice a l.length c] w fun e w' => ∃ (a' : Option Addr) (c' : Nat) (l' : List Int), e = .returned (.tuple #[.slice a' l'.length c', .int .i64 (m.frEnd s l), .int .i64 (m.frErr s l)]) ∧ Hid (l' = m.frOut s l) ∧
      Sl (fun k => k < w.heap.size) w' a' c' l' ∧ Below w.heap.size w w' := by
  have hll := hw.le
  have hle := hm.next.le
  have HM := Lib.hid hm
  have HW := Lib.hid hw
  have hbx0 := c4_new (m := m) (an := an) (cn := cn) (ao := ao) (co := co) w
  have hB0 := (Below.refl w.heap.size w).alloc (Nat.le_refl _) (maO m an cn ao co)
  have HC := Lib.hid (state_any (HM.out.ext (Ext.alloc M w (maO m an cn ao co))) s)
  clear hm hw
  by_cases hst : m.stErr s = 0
  · have hst' : (m.stErr s != 0) = false := by simp [hst]
    have HST := Lib.hid hst
    clear hst
    go_enter Try.func45, Try.ntmps45
    go_wp2_with fail
    refine (HC.out).mono ?_
    rintro e w1 ⟨rfl, hb1⟩
    have hB1 := hB0.trans (hb1.mono (by simp))
    have h41 := hbx0.below hb1 (by simp)
    have hz1 : w.heap.size + 1 ≤ w1.heap.size := by have := hb1.size; simpa using this
    clear hbx0 hB0 hb1 HC
    have HC := Lib.hid (wcheck_any (HW.out.below hB1) m.inputs)
    go_wp2_with fail
    refine (HC.out).mono ?_
    rintro e w2 ⟨rfl, hb2⟩
    have hB2 := hB1.trans (hb2.mono (by omega))
    have h42 := h41.below hb2 (by omega)
    have hz2 : w.heap.size + 1 ≤ w2.heap.size := by have := hb2.size; omega
    clear hB1 h41 hb2 HC
    by_cases hwe : wErr l m.inputs = 0
    · have hwe' : (wErr l m.inputs != 0) = false := by simp [hwe]
      obtain ⟨hok, hl2⟩ := Mach.okS_of hwe
      obtain ⟨he, hs0, hs1⟩ := Mach.stErr_ok HST.out
      have OK := Lib.hid (m.ok_of_err he)
      have HF := Lib.hid (Mach.frErr_0 HST.out hwe)
      have hB3 := hB2.alloc (by omega) (.cells #[.int .i64 m.inputs, .int .i64 m.start, .slice an m.next.length cn, .slice ao m.out.length co, .int .i64 s] 92)
      have h5 : R5 (w2.alloc (.cells #[.int .i64 m.inputs, .int .i64 m.start, .slice an m.next.length cn, .slice ao m.out.length co, .int .i64 s] 92)) w2.heap.size an cn ao co m s := by
        refine ⟨⟨?_, ?_, ?_, ?_⟩, ?_, ?_⟩ <;> simp
      have HR := Lib.hid (run_any (B := w2.heap.size) (b := w2.heap.size) (w := w2.alloc (.cells #[.int .i64 m.inputs, .int .i64 m.start, .slice an m.next.length cn, .slice ao m.out.length co, .int .i64 s] 92)) (Nat.le_refl _) (by simp)
        (fun w' hb => HM.out.below (hB3.trans (hb.mono (by omega)))) (fun w' hb => HW.out.below (hB3.trans (hb.mono (by omega)))) OK.out h5 ⟨hs0, hs1⟩ hok hl2)
      clear he hwe hok h5
      go_wp2_with fail
      refine (HR.out).mono ?_
      rintro e w3 ⟨a3, c3, l3, rfl, hl3, hs3, hb3, h53⟩
      have hBf := hB3.trans (hb3.mono (by omega))
      have hl4 : Hid (l3 = m.frOut s l) := by unfold Hid; rw [hl3.out, HF.out.2.1]
      have hs4 := hs3.anti (M' := fun k => k < w.heap.size) (fun k _ hk => by simp; omega)
      have hat := h53.2.1
      clear hl3 hs3 hb3 h53 hB3 hB2 h42 HR
      go_wp2
      refine wp_quiet_fast (by kernel_rfl) (by kernel_rfl) ?_
      repeat (first | go_big_quiet_step (fail) | quiet_step (fail))
      refine wpQuiet_nil ?_
      intro _ hw'
      obtain ⟨nq, hw''⟩ := hw'
      subst hw''
      go_wp2
      exact bodyPost_ret (v := .tuple #[.slice a3 l3.length c3, .int .i64 (m.endW s l), .int .i64 0]) (by simp [results, Try.results45, go_sem]) rfl ⟨a3, c3, l3, ret_fr rfl HF.out.2.2.symm HF.out.1.symm, hl4, hs4.drewN _, bl_drewN hBf _⟩
    · have hwe' : (wErr l m.inputs != 0) = true := by simp [hwe]
      have HF := Lib.hid (Mach.frErr_w HST.out hwe)
      clear hwe
      go_wp2
      exact bodyPost_ret (v := .tuple #[.slice none 0 0, .int .i64 0, .int .i64 (wErr l m.inputs)]) (by simp [results, Try.results45, go_sem]) rfl ⟨none, 0, [], ret_fr rfl HF.out.2.2.symm HF.out.1.symm, HF.out.2.1.symm, Sl.nil _ _ _ (by unfold maxLen; omega), hB2⟩
  · have hst' : (m.stErr s != 0) = true := by simp [hst]
    have HF := Lib.hid (Mach.frErr_st (w := l) hst)
    clear hst
    go_enter Try.func45, Try.ntmps45
    go_wp2_with fail
    refine (HC.out).mono ?_
    rintro e w1 ⟨rfl, hb1⟩
    have hB1 := hB0.trans (hb1.mono (by simp))
    clear hbx0 hB0 hb1 HC
    go_wp2
    exact bodyPost_ret (v := .tuple #[.slice none 0 0, .int .i64 0, .int .i64 (m.stErr s)]) (by simp [results, Try.results45, go_sem]) rfl ⟨none, 0, [], ret_fr rfl HF.out.2.2.symm HF.out.1.symm, HF.out.2.1.symm, Sl.nil _ _ _ (by unfold maxLen; omega), hB1⟩

theorem ret_ru {a : Option Addr} {n c : Nat} {x y : Int} (h : x = y) : Ending.returned (.tuple #[.slice a n c, .int .i64 x]) = .returned (.tuple #[.slice a n c, .int .i64 y]) := by rw [h]
set_option maxHeartbeats 1000000 in
theorem mrun_any {M' : Nat → Prop} {l : List Int} (hm : Ma M w an cn ao co m) (hw : Sl M' w a c l) :
    Calls Try.prog 48 #[maV m an cn ao co, .slice a l.length c] w fun e w' => ∃ (a' : Option Addr) (c' : Nat) (l' : List Int), e = .returned (.tuple #[.slice a' l'.length c', .int .i64 (m.frErr m.start l)]) ∧ Hid (l' = m.frOut m.start l) ∧
      Sl (fun k => k < w.heap.size) w' a' c' l' ∧ Below w.heap.size w w' := by
  have HC := Lib.hid (from_any (hm.ext (Ext.alloc M w (maO m an cn ao co))) (hw.alloc (maO m an cn ao co)) m.start)
  have hB0 := (Below.refl w.heap.size w).alloc (Nat.le_refl _) (maO m an cn ao co)
  clear hm hw
  go_enter Try.func48, Try.ntmps48
  go_wp2_with fail
  refine (HC.out).mono ?_
  rintro e w1 ⟨a1, c1, l1, rfl, hl1, hs1, hb1⟩
  have hB1 := hB0.trans (hb1.mono (by simp))
  have hs2 := hs1.anti (M' := fun k => k < w.heap.size) (fun k _ hk => by simp; omega)
  clear hs1 hb1 hB0
  go_wp2
  go_ret2
  exact ⟨a1, c1, l1, ret_ru rfl, hl1, hs2, hB1⟩
end
end Go.Proofs.Ytdnmgiabgpilkaa
/- States of one class have the same outputs; classes and separating words. Condition: the machine is valid. -/
namespace Go.Proofs.Ytdnmgiabgpilkaa
namespace Mach
variable {m : Mach}
theorem eqv_outs (ok : m.Ok) : ∀ (w : List Int) (k : Nat) (s t : Int), m.eqv k s.toNat t.toNat → w.length ≤ k → m.okS w → m.outsW s w = m.outsW t w
  | [], _, _, _, _, _, _ => rfl
  | x :: w, 0, _, _, _, h, _ => by simp at h
  | x :: w, k + 1, s, t, he, hl, hw => by
    obtain ⟨⟨x0, x1⟩, hw2⟩ := okS_cons hw
    obtain ⟨h1, h2⟩ := he x.toNat (by omega)
    rw [outsW, outsW, h1, eqv_outs ok w k _ _ h2 (by simpa using hl) hw2]
theorem cls_iff (ok : m.Ok) {k s t : Nat} {l : List Int} (hl : l = m.partOf k) (hs : s < m.next.length) (ht : t < m.next.length) {x y : Int} (hx : l[s]? = some x) (hy : l[t]? = some y) : x = y ↔ m.sepB k s t = false := by
  have e : m.partOf k = m.part (min k m.next.length) := by
    unfold partOf
    rw [if_pos (m.err_of_ok ok)]
    simp
  rw [e] at hl
  have h1 : x = (m.part (min k m.next.length)).getD s 0 := by rw [← hl]; exact (getD_of_some hx).symm
  have h2 : y = (m.part (min k m.next.length)).getD t 0 := by rw [← hl]; exact (getD_of_some hy).symm
  rw [h1, h2, part_iff ok _ s t hs ht, sepB_iff]
  rcases Nat.le_total k m.next.length with h | h
  · rw [Nat.min_eq_left h]
  · rw [Nat.min_eq_right h]; exact (eqv_rest ok h hs ht).symm
end Mach
end Go.Proofs.Ytdnmgiabgpilkaa
/- States that answer all words alike, within a machine and across two. Condition where named: the machines are valid. -/
namespace Go.Proofs.Ytdnmgiabgpilkaa
namespace Mach

/-- State s of a and state t of b answer all words of a's symbols alike. -/
def Sim (a b : Mach) (s t : Int) : Prop := ∀ w, a.okS w → a.outsW s w = b.outsW t w
theorem okS_one {m : Mach} {x : Nat} (hx : x < m.inputs.toNat) {w : List Int} (hw : m.okS w) : m.okS ((x : Int) :: w) := by
  intro y hy
  rcases List.mem_cons.1 hy with rfl | h
  · omega
  · exact hw y h
theorem okS_nil (m : Mach) : m.okS [] := fun _ h => absurd h (by simp)
theorem okS_swap {a b : Mach} (hi : a.inputs = b.inputs) {w : List Int} (h : b.okS w) : a.okS w := fun x hx => by rw [hi]; exact h x hx
section
variable {a b c : Mach} {s t u : Int}
theorem Sim.step (h : Sim a b s t) {x : Nat} (hx : x < a.inputs.toNat) : a.ot s.toNat x = b.ot t.toNat x ∧ Sim a b (a.nx s.toNat x) (b.nx t.toNat x) := by
  constructor
  · have := h [(x : Int)] (okS_one hx a.okS_nil)
    simpa [outsW] using this
  · intro w hw
    have := h ((x : Int) :: w) (okS_one hx hw)
    simp only [outsW, Int.toNat_natCast, List.cons.injEq] at this
    exact this.2
theorem Sim.refl (a : Mach) (s : Int) : Sim a a s s := fun _ _ => rfl
theorem Sim.symm (hi : a.inputs = b.inputs) (h : Sim a b s t) : Sim b a t s := fun w hw => (h w (okS_swap hi hw)).symm
theorem Sim.trans (hi : a.inputs = b.inputs) (h : Sim a b s t) (h2 : Sim b c t u) : Sim a c s u := fun w hw => (h w hw).trans (h2 w (okS_swap hi.symm hw))
end
variable {m : Mach}
theorem eqv_of_words : ∀ (k : Nat) (s t : Int), (∀ w, m.okS w → w.length ≤ k → m.outsW s w = m.outsW t w) → m.eqv k s.toNat t.toNat
  | 0, _, _, _ => trivial
  | k + 1, s, t, h => fun x hx => by
    refine ⟨?_, ?_⟩
    · have := h [(x : Int)] (okS_one hx m.okS_nil) (by simp)
      simpa [outsW] using this
    · refine eqv_of_words k _ _ fun w hw hl => ?_
      have := h ((x : Int) :: w) (okS_one hx hw) (by simp; omega)
      simp only [outsW, Int.toNat_natCast, List.cons.injEq] at this
      exact this.2
theorem sim_iff (ok : m.Ok) {s t : Int} (hs : 0 ≤ s) (hs' : s < m.next.length) (ht : 0 ≤ t) (ht' : t < m.next.length) : m.cl s = m.cl t ↔ Sim m m s t := by
  rw [cl_iff ok hs hs' ht ht']
  constructor
  · intro h w hw
    refine eqv_outs ok w (max w.length m.next.length) s t ?_ (by omega) hw
    exact (eqv_rest ok (by omega) (by omega) (by omega)).2 h
  · exact fun h => eqv_of_words _ _ _ fun w hw _ => h w hw
end Mach

/-- Lists that correspond, member by member. -/
def Cor (R : Int → Int → Prop) : List Int → List Int → Prop
  | [], [] => True
  | x :: l, y :: l' => R x y ∧ Cor R l l'
  | _, _ => False
section
variable {R : Int → Int → Prop}
theorem Cor.len : ∀ {l l' : List Int}, Cor R l l' → l.length = l'.length
  | [], [], _ => rfl
  | [], _ :: _, h => h.elim
  | _ :: _, [], h => h.elim
  | _ :: l, _ :: l', h => by simp [Cor.len h.2]
theorem Cor.snoc : ∀ {l l' : List Int} {x y : Int}, Cor R l l' → R x y → Cor R (l ++ [x]) (l' ++ [y])
  | [], [], _, _, _, h => ⟨h, trivial⟩
  | [], _ :: _, _, _, h, _ => h.elim
  | _ :: _, [], _, _, h, _ => h.elim
  | _ :: _, _ :: _, _, _, h, h2 => ⟨h.1, Cor.snoc h.2 h2⟩
theorem Cor.get : ∀ {l l' : List Int}, Cor R l l' → ∀ {i : Nat}, i < l.length → R (l.getD i 0) (l'.getD i 0)
  | [], _, _, i, hi => by simp at hi
  | _ :: _, [], h, _, _ => h.elim
  | _ :: _, _ :: _, h, 0, _ => h.1
  | _ :: l, _ :: l', h, i + 1, hi => by
    have := Cor.get h.2 (i := i) (by simpa using hi)
    simpa using this
theorem Cor.of : ∀ {l l' : List Int}, l.length = l'.length → (∀ i, i < l.length → R (l.getD i 0) (l'.getD i 0)) → Cor R l l'
  | [], [], _, _ => trivial
  | [], _ :: _, h, _ => by simp at h
  | _ :: _, [], h, _ => by simp at h
  | x :: l, y :: l', h, h2 => ⟨by simpa using h2 0 (by simp), Cor.of (by simpa using h) fun i hi => by simpa using h2 (i + 1) (by simpa using hi)⟩
theorem Cor.map {α : Type} {f g : Int → α} (h2 : ∀ x y, R x y → f x = g y) : ∀ {l l' : List Int}, Cor R l l' → l.map f = l'.map g
  | [], [], _ => rfl
  | [], _ :: _, h => h.elim
  | _ :: _, [], h => h.elim
  | _ :: _, _ :: _, h => by simp [h2 _ _ h.1, Cor.map h2 h.2]
/-- Classes that agree along a correspondence. -/
def Agree (R : Int → Int → Prop) (c d : Int → Int) : Prop := ∀ x y x' y', R x x' → R y y' → (c x = c y ↔ d x' = d y')
variable {c d : Int → Int}
theorem Cor.mem (hA : Agree R c d) {t t' : Int} (ht : R t t') : ∀ {l l' : List Int}, Cor R l l' → (c t ∈ l.map c ↔ d t' ∈ l'.map d)
  | [], [], _ => by simp
  | [], _ :: _, h => h.elim
  | _ :: _, [], h => h.elim
  | x :: l, y :: l', h => by
    rw [List.map_cons, List.map_cons, List.mem_cons, List.mem_cons, Cor.mem hA ht h.2, hA t x t' y ht h.1]
theorem Cor.idx (hA : Agree R c d) {t t' : Int} (ht : R t t') : ∀ {l l' : List Int}, Cor R l l' → (l.map c).idxOf (c t) = (l'.map d).idxOf (d t')
  | [], [], _ => by simp
  | [], _ :: _, h => h.elim
  | _ :: _, [], h => h.elim
  | x :: l, y :: l', h => by
    rw [List.map_cons, List.map_cons, List.idxOf_cons, List.idxOf_cons, Cor.idx hA ht h.2]
    have := hA x t y t' h.1 ht
    by_cases e : c x = c t
    · rw [beq_iff_eq.2 e, beq_iff_eq.2 (this.1 e)]
    · rw [beq_eq_false_iff_ne.2 e, beq_eq_false_iff_ne.2 (fun e2 => e (this.2 e2))]
theorem Cor.visit (hA : Agree R c d) : ∀ {r r' l l' : List Int}, Cor R r r' → Cor R l l' → Cor R (visitC c l r) (visitC d l' r')
  | [], [], _, _, _, h => h
  | [], _ :: _, _, _, h, _ => h.elim
  | _ :: _, [], _, _, h, _ => h.elim
  | t :: r, t' :: r', l, l', h, h2 => by
    simp only [visitC]
    have hm := Cor.mem hA h.1 h2
    by_cases e : c t ∈ l.map c
    · rw [if_pos e, if_pos (hm.1 e)]
      exact Cor.visit hA h.2 h2
    · rw [if_neg e, if_neg (fun e2 => e (hm.2 e2))]
      exact Cor.visit hA h.2 (h2.snoc h.1)
end

namespace Mach
section
variable {a b : Mach}
/-- States of both that answer alike. -/
def RS (a b : Mach) (x y : Int) : Prop := (0 ≤ x ∧ x < a.next.length) ∧ (0 ≤ y ∧ y < b.next.length) ∧ Sim a b x y
theorem agree (oa : a.Ok) (ob : b.Ok) (hi : a.inputs = b.inputs) : Agree (RS a b) a.cl b.cl := by
  intro x y x' y' h h2
  rw [sim_iff oa h.1.1 h.1.2 h2.1.1 h2.1.2, sim_iff ob h.2.1.1 h.2.1.2 h2.2.1.1 h2.2.1.2]
  constructor
  · exact fun e => (Sim.symm hi h.2.2).trans hi.symm (e.trans rfl h2.2.2)
  · exact fun e => h.2.2.trans hi (e.trans rfl (Sim.symm hi h2.2.2))
theorem rows_cor (oa : a.Ok) (ob : b.Ok) (hi : a.inputs = b.inputs) {x y : Int} (h : RS a b x y) : Cor (RS a b) (a.next.getD x.toNat []) (b.next.getD y.toNat []) := by
  have h1 := oa.rn x.toNat (by have := h.1; omega)
  have h2 := ob.rn y.toNat (by have := h.2.1; omega)
  refine Cor.of (by omega) fun i hil => ?_
  have hia : i < a.inputs.toNat := by omega
  have r1 := oa.nx x.toNat i (by have := h.1; omega) hia
  have r2 := ob.nx y.toNat i (by have := h.2.1; omega) (by omega)
  exact ⟨r1, r2, (h.2.2.step hia).2⟩
theorem qbfs_cor (oa : a.Ok) (ob : b.Ok) (hi : a.inputs = b.inputs) (hs : Sim a b a.start b.start) : ∀ i, Cor (RS a b) (a.qbfs a.cl i) (b.qbfs b.cl i)
  | 0 => ⟨⟨⟨oa.s0, oa.s1⟩, ⟨ob.s0, ob.s1⟩, hs⟩, trivial⟩
  | i + 1 => by
    have ih := qbfs_cor oa ob hi hs i
    rw [qbfs_succ, qbfs_succ, ← ih.len]
    by_cases e : i < (a.qbfs a.cl i).length
    · rw [if_pos e, if_pos e]
      exact Cor.visit (agree oa ob hi) (rows_cor oa ob hi (ih.get e)) ih
    · rw [if_neg e, if_neg e]; exact ih
theorem firsts_qbfs {m : Mach} (ok : m.Ok) {k : Nat} (hk : m.next.length ≤ k) : firsts m.cl m.reach = m.qbfs m.cl k := by
  obtain ⟨h1, h2, h3⟩ := quot_reach ok (cl_cong ok)
  rw [← h1, qbfs_stop _ h2 _ (Nat.le_trans h3 hk), ← qbfs_stop _ h2 _ h3]
theorem firsts_cor (oa : a.Ok) (ob : b.Ok) (hi : a.inputs = b.inputs) (hs : Sim a b a.start b.start) : Cor (RS a b) (firsts a.cl a.reach) (firsts b.cl b.reach) := by
  rw [firsts_qbfs oa (k := max a.next.length b.next.length) (by omega), firsts_qbfs ob (k := max a.next.length b.next.length) (by omega)]
  exact qbfs_cor oa ob hi hs _
/-- Machines that answer alike have the same minimal machine. -/
theorem minF_cor (oa : a.Ok) (ob : b.Ok) (hi : a.inputs = b.inputs) (hs : Sim a b a.start b.start) : a.minF = b.minF := by
  have hF := firsts_cor oa ob hi hs
  have hA := agree oa ob hi
  unfold minF
  rw [hi]
  congr 1
  · refine Cor.map (fun x y h => ?_) hF
    refine Cor.map (fun u v h2 => ?_) (rows_cor oa ob hi h)
    unfold idxC
    rw [Cor.idx hA h2 hF]
  · refine Cor.map (fun x y h => ?_) hF
    have h1 := oa.ro x.toNat (by have := h.1; omega)
    have h2 := ob.ro y.toNat (by have := h.2.1; omega)
    refine List.ext_getElem (by omega) fun i hi1 hi2 => ?_
    have := (h.2.2.step (x := i) (by omega)).1
    unfold ot at this
    rw [List.getD_eq_getElem?_getD (l := a.out.getD x.toNat []), List.getD_eq_getElem?_getD (l := b.out.getD y.toNat []), List.getElem?_eq_getElem hi1, List.getElem?_eq_getElem hi2] at this
    exact this
end

variable {m : Mach}
theorem first_has {x : Int} (hx : x ∈ m.reach) : m.cl x ∈ (firsts m.cl m.reach).map m.cl := (firsts_mem _ _ _).2 (List.mem_map_of_mem hx)
theorem firsts_sub (_ok : m.Ok) : ∀ x ∈ firsts m.cl m.reach, x ∈ m.reach := by
  exact fun x hx => visitC_all m.cl (Q := fun x => x ∈ m.reach) m.reach [] (by simp) (fun _ h => h) x hx
/-- The number of a class, and the state that stands for it. -/
theorem rep_of {x : Int} (hx : x ∈ m.reach) : ∃ (i : Nat) (hi : i < (firsts m.cl m.reach).length), idxC m.cl (firsts m.cl m.reach) x = (i : Int) ∧ m.cl (firsts m.cl m.reach)[i] = m.cl x := by
  have h := first_has hx
  have hl := List.idxOf_lt_length_of_mem h
  refine ⟨((firsts m.cl m.reach).map m.cl).idxOf (m.cl x), by simpa using hl, rfl, ?_⟩
  have := List.getElem_idxOf hl
  rw [List.getElem_map] at this
  exact this
theorem minF_len (m : Mach) : m.minF.next.length = (firsts m.cl m.reach).length := by simp [minF]
theorem minF_ot {i a : Nat} (hi : i < (firsts m.cl m.reach).length) : m.minF.ot i a = m.ot ((firsts m.cl m.reach)[i]).toNat a := by
  unfold ot minF
  simp only
  rw [getD_map (fun x : Int => m.out.getD x.toNat []) _ _ hi]
theorem minF_nx (ok : m.Ok) {i a : Nat} (hi : i < (firsts m.cl m.reach).length) (ha : a < m.inputs.toNat) : m.minF.nx i a = idxC m.cl (firsts m.cl m.reach) (m.nx ((firsts m.cl m.reach)[i]).toNat a) := by
  have hr := (reach_props ok).2.1 _ (firsts_sub ok _ (List.getElem_mem hi))
  have hl := ok.rn ((firsts m.cl m.reach)[i]).toNat (by omega)
  unfold nx minF
  simp only
  rw [getD_map (fun x : Int => (m.next.getD x.toNat []).map (idxC m.cl (firsts m.cl m.reach))) _ _ hi]
  rw [List.getD_eq_getElem?_getD, List.getElem?_map, List.getD_eq_getElem?_getD (l := m.next.getD ((firsts m.cl m.reach)[i]).toNat []), List.getElem?_eq_getElem (by omega)]
  rfl
theorem nx_mem {s a : Nat} (ok : m.Ok) (hs : s < m.next.length) (ha : a < m.inputs.toNat) : m.nx s a ∈ m.next.getD s [] := by
  have hl := ok.rn s hs
  unfold nx
  rw [List.getD_eq_getElem?_getD (l := m.next.getD s []), List.getElem?_eq_getElem (by omega)]
  exact List.getElem_mem _
theorem minF_sim (ok : m.Ok) : ∀ (w : List Int) (x : Int), x ∈ m.reach → m.okS w → m.outsW x w = m.minF.outsW (idxC m.cl (firsts m.cl m.reach) x) w
  | [], _, _, _ => rfl
  | y :: w, x, hx, hw => by
    obtain ⟨⟨y0, y1⟩, hw2⟩ := okS_cons hw
    obtain ⟨i, hi, e, hc⟩ := rep_of hx
    have hxr := (reach_props ok).2.1 _ hx
    have hf := firsts_sub ok _ (List.getElem_mem hi)
    have hfr := (reach_props ok).2.1 _ hf
    have hya : y.toNat < m.inputs.toNat := by omega
    have hs := (sim_iff ok hfr.1 hfr.2 hxr.1 hxr.2).1 hc
    obtain ⟨h1, h2⟩ := hs.step hya
    have hn1 := reach_closed ok hx (nx_mem ok (by omega) hya)
    have hn2 := reach_closed ok hf (nx_mem ok (by omega) hya)
    have hr1 := (reach_props ok).2.1 _ hn1
    have hr2 := (reach_props ok).2.1 _ hn2
    have hcn := (sim_iff ok hr2.1 hr2.2 hr1.1 hr1.2).2 h2
    unfold outsW
    rw [e]
    simp only [Int.toNat_natCast]
    rw [minF_ot hi, h1, minF_nx ok hi hya, idxC_congr m.cl hcn, minF_sim ok w _ hn1 hw2]
theorem qbfs_head (m : Mach) (c : Int → Int) : ∀ i, (m.qbfs c i)[0]? = some m.start
  | 0 => by simp [qbfs]
  | i + 1 => by
    have ih := qbfs_head m c i
    rw [qbfs_succ]
    split
    · obtain ⟨s, hs⟩ := visitC_prefix c (m.next.getD ((m.qbfs c i).getD i 0).toNat []) (m.qbfs c i)
      rw [hs, List.getElem?_append_left]
      · exact ih
      · by_cases e : 0 < (m.qbfs c i).length
        · exact e
        · rw [List.getElem?_eq_none (by omega)] at ih; simp at ih
    · exact ih
theorem start_mem (ok : m.Ok) : m.start ∈ m.reach := by
  have h := qbfs_head m m.cl m.next.length
  rw [← firsts_qbfs ok (Nat.le_refl _)] at h
  exact firsts_sub ok _ (List.mem_of_getElem? h)
theorem start_idx (ok : m.Ok) : idxC m.cl (firsts m.cl m.reach) m.start = 0 := by
  have h := qbfs_head m m.cl m.next.length
  rw [← firsts_qbfs ok (Nat.le_refl _)] at h
  unfold idxC
  cases e : firsts m.cl m.reach with
  | nil => rw [e] at h; simp at h
  | cons x l =>
    rw [e] at h
    obtain rfl : x = m.start := by simpa using h
    simp
/-- The minimal machine answers like the machine. -/
theorem minF_start (ok : m.Ok) : Sim m m.minF m.start m.minF.start := by
  intro w hw
  rw [minF_sim ok w _ (start_mem ok) hw, start_idx ok]
  rfl
theorem firsts_le (_ok : m.Ok) : (firsts m.cl m.reach).length ≤ m.reach.length := by
  have := visitC_len m.cl m.reach []
  unfold firsts; simpa using this
theorem firsts_pos (ok : m.Ok) : 0 < (firsts m.cl m.reach).length := by
  have h := first_has (start_mem ok)
  by_cases e : 0 < (firsts m.cl m.reach).length
  · exact e
  · rw [List.eq_nil_of_length_eq_zero (l := firsts m.cl m.reach) (by omega)] at h; simp at h
theorem minF_ok (ok : m.Ok) : m.minF.Ok := by
  have n1 := ok.n1
  have hl := m.minF_len
  have hlo : m.minF.out.length = (firsts m.cl m.reach).length := by simp [minF]
  have hle := firsts_le ok
  have hle2 := reach_le ok
  have hp := firsts_pos ok
  have hrep : ∀ i (hi : i < (firsts m.cl m.reach).length), ((firsts m.cl m.reach)[i]).toNat < m.next.length := fun i hi => by
    have := (reach_props ok).2.1 _ (firsts_sub ok _ (List.getElem_mem hi)); omega
  refine ⟨ok.i0, ok.i1, by omega, by omega, by simp [minF], by rw [hl]; simp only [minF]; omega, by omega, fun s hs => ?_, fun s hs => ?_, fun s a hs ha => ?_, fun s a hs ha => ?_⟩
  · rw [hl] at hs
    have := ok.rn _ (hrep s hs)
    have e : m.minF.next.getD s [] = (m.next.getD ((firsts m.cl m.reach)[s]).toNat []).map (idxC m.cl (firsts m.cl m.reach)) := getD_map _ _ _ hs
    rw [e, List.length_map]
    exact this
  · rw [hl] at hs
    have := ok.ro _ (hrep s hs)
    have e : m.minF.out.getD s [] = m.out.getD ((firsts m.cl m.reach)[s]).toNat [] := getD_map (fun x : Int => m.out.getD x.toNat []) _ _ hs
    rw [e]
    exact this
  · rw [hl] at hs
    have ha' : a < m.inputs.toNat := ha
    rw [minF_nx ok hs ha', hl]
    have hm := reach_closed ok (firsts_sub ok _ (List.getElem_mem hs)) (nx_mem ok (hrep s hs) ha')
    obtain ⟨i, hi, e, -⟩ := rep_of hm
    rw [e]; omega
  · rw [hl] at hs
    rw [minF_ot hs]
    exact ok.ot _ a (hrep s hs) ha
theorem minF_minF (ok : m.Ok) : m.minF.minF = m.minF := (minF_cor ok (minF_ok ok) rfl (minF_start ok)).symm
theorem minF_reach (ok : m.Ok) : m.minF.reach.length = m.minF.next.length := by
  have h1 := firsts_le (minF_ok ok)
  have h2 := reach_le (minF_ok ok)
  have h3 := m.minF.minF_len
  rw [minF_minF ok] at h3
  omega
theorem minF_iff {a b : Mach} (oa : a.Ok) (ob : b.Ok) (hi : a.inputs = b.inputs) : a.minF = b.minF ↔ Sim a b a.start b.start := by
  constructor
  · intro h
    have h1 := minF_start oa
    rw [h] at h1
    exact Sim.trans (b := b.minF) (c := b) hi h1 (Sim.symm (a := b) (b := b.minF) rfl (minF_start ob))
  · exact minF_cor oa ob hi
end Mach
end Go.Proofs.Ytdnmgiabgpilkaa
/- The search finds the first word that two states answer differently. Condition: the machines are valid and have the same inputs. -/
namespace Go.Proofs.Ytdnmgiabgpilkaa

theorem lex_snoc : ∀ {u v : List Int} (x y : Int), u.length = v.length → lexW (u ++ [x]) (v ++ [y]) = if lexW u v = 0 then sgn x y else lexW u v
  | [], [], x, y, _ => by
    simp only [List.nil_append, lexW, if_true]
    split
    · rename_i h; subst h; exact (sgn_eq rfl).symm
    · rfl
  | [], _ :: _, _, _, h => by simp at h
  | _ :: _, [], _, _, h => by simp at h
  | p :: u, q :: v, x, y, h => by
    have ih := lex_snoc (u := u) (v := v) x y (by simpa using h)
    by_cases e : p = q
    · have e1 : lexW (p :: u) (q :: v) = lexW u v := by show (if p = q then lexW u v else sgn p q) = _; rw [if_pos e]
      have e2 : lexW (p :: u ++ [x]) (q :: v ++ [y]) = lexW (u ++ [x]) (v ++ [y]) := by show (if p = q then lexW (u ++ [x]) (v ++ [y]) else sgn p q) = _; rw [if_pos e]
      rw [e1, e2]; exact ih
    · have e1 : lexW (p :: u) (q :: v) = sgn p q := by unfold lexW; rw [if_neg e]
      have e2 : lexW (p :: u ++ [x]) (q :: v ++ [y]) = sgn p q := by rw [List.cons_append, List.cons_append]; unfold lexW; rw [if_neg e]
      rw [e1, e2, if_neg (fun h2 => e (sgn_zero h2))]
theorem cmp_snoc (u v : List Int) (x y : Int) : cmpW (u ++ [x]) (v ++ [y]) = if cmpW u v = 0 then sgn x y else cmpW u v := by
  unfold cmpW
  by_cases e : u.length = v.length
  · rw [if_pos (by simp [e]), if_pos e]; exact lex_snoc x y e
  · have hne : sgn (u.length : Int) (v.length : Int) ≠ 0 := fun h => e (by have := sgn_zero h; omega)
    rw [if_neg (by simp [e]), if_neg e, if_neg hne]
    simp only [List.length_append, List.length_singleton]
    unfold sgn
    simp only [Int.natCast_add]
    by_cases h1 : (u.length : Int) < v.length
    · rw [if_pos h1, if_pos (by omega)]
    · rw [if_neg h1, if_neg (by omega)]
      by_cases h2 : (v.length : Int) < u.length
      · rw [if_pos h2, if_pos (by omega)]
      · rw [if_neg h2, if_neg (by omega)]
theorem snoc_lt {u v : List Int} {x y : Int} (h : cmpW u v < 0 ∨ (u = v ∧ x < y)) : cmpW (u ++ [x]) (v ++ [y]) < 0 := by
  rw [cmp_snoc]
  rcases h with h | ⟨rfl, h⟩
  · rw [if_neg (by omega)]; exact h
  · rw [if_pos (cmp_same u), sgn_lt h]; decide
theorem lt_snoc {u v : List Int} {x y : Int} (h : cmpW (u ++ [x]) (v ++ [y]) < 0) : cmpW u v < 0 ∨ (u = v ∧ x < y) := by
  rw [cmp_snoc] at h
  split at h
  · rename_i e
    exact .inr ⟨cmp_zero e, sgn_neg.1 h⟩
  · exact .inl h
theorem le_snoc {u v : List Int} {x : Int} (h : cmpW u v ≤ 0) : cmpW (u ++ [x]) (v ++ [x]) ≤ 0 := by
  rw [cmp_snoc]
  split
  · rw [sgn_eq rfl]; decide
  · exact h
theorem cmp_nil (u : List Int) : cmpW [] u ≤ 0 := by
  cases u with
  | nil => rw [cmp_same]; decide
  | cons x u => rw [cmp_short (by simp)]; decide
theorem cmp_lt_of {u v w : List Int} (h : cmpW u v ≤ 0) (h2 : cmpW v w < 0) : cmpW u w < 0 := by
  have h3 := cmp_trans (a := u) (b := v) (c := w) h (by omega)
  by_cases e : cmpW u v < 0
  · exact h3.2 e
  · have e0 : cmpW u v = 0 := by omega
    rw [cmp_zero e0]; exact h2

/-- The list after all symbols of the pairs ahead of place i, and those ahead of x of the pair there. -/
structure Inv (a b : Mach) (s t : Int) (i x : Nat) (l : List Pl) : Prop where
  head : l[0]? = some ⟨s, t, []⟩
  good : ∀ q ∈ l, a.okS q.word ∧ a.endW s q.word = q.s ∧ b.endW t q.word = q.t ∧ a.outsW s q.word = b.outsW t q.word
  sorted : ∀ (j k : Nat) (p q : Pl), j < k → l[j]? = some p → l[k]? = some q → cmpW p.word q.word < 0
  par : ∀ q ∈ l, q.word = [] ∨ ∃ (k y : Nat) (p : Pl), (k < i ∨ (k = i ∧ y < x)) ∧ l[k]? = some p ∧ q.word = p.word ++ [(y : Int)]
  done : ∀ (j y : Nat) (p : Pl), (j < i ∨ (j = i ∧ y < x)) → y < a.inputs.toNat → l[j]? = some p → a.ot p.s.toNat y = b.ot p.t.toNat y ∧ ∃ q ∈ l, q.s = a.nx p.s.toNat y ∧ q.t = b.nx p.t.toNat y ∧ cmpW q.word (p.word ++ [(y : Int)]) ≤ 0

/-- The first word that is answered differently. -/
def Best (a b : Mach) (s t : Int) (v : List Int) : Prop := (a.okS v ∧ a.outsW s v ≠ b.outsW t v) ∧ ∀ u, a.okS u → cmpW u v < 0 → a.outsW s u = b.outsW t u

section
variable {a b : Mach} {s t : Int} {l : List Pl} {i x : Nat} {p : Pl}
theorem Inv.init : Inv a b s t 0 0 [⟨s, t, []⟩] := by
  refine ⟨rfl, fun q hq => ?_, fun j k p q hjk hp hq => ?_, fun q hq => ?_, fun j y p h => by omega⟩
  · simp at hq; subst hq; exact ⟨a.okS_nil, rfl, rfl, rfl⟩
  · rw [List.getElem?_eq_none (by simp; omega)] at hq; simp at hq
  · simp at hq; subst hq; exact .inl rfl
theorem Inv.below (h : Inv a b s t i x l) (hp : l[i]? = some p) : ∀ q ∈ l, cmpW q.word (p.word ++ [(x : Int)]) < 0 := by
  intro q hq
  rcases h.par q hq with e | ⟨k, y, r, hk, hr, e⟩
  · have h2 : cmpW [] (p.word ++ [(x : Int)]) = -1 := cmp_short (by simp)
    rw [e, h2]; decide
  · rw [e]
    apply snoc_lt
    rcases hk with hk | ⟨rfl, hy⟩
    · exact .inl (h.sorted k i r p hk hr hp)
    · rw [hp] at hr
      obtain rfl : p = r := by simpa using hr
      exact .inr ⟨rfl, by omega⟩
/-- Words whose steps have all been made. -/
theorem Inv.words (h : Inv a b s t i x l) (F : List Int → Prop) (hF : ∀ u y, F (u ++ [y]) → F u)
    (hd : ∀ (j : Nat) (q : Pl) (u : List Int) (y : Int), 0 ≤ y → y < a.inputs → l[j]? = some q → F (u ++ [y]) → cmpW q.word u ≤ 0 → j < i ∨ (j = i ∧ y.toNat < x)) :
    ∀ (n : Nat) (u : List Int), u.length = n → a.okS u → F u → a.outsW s u = b.outsW t u ∧ ∃ q ∈ l, q.s = a.endW s u ∧ q.t = b.endW t u ∧ cmpW q.word u ≤ 0
  | 0, u, hn, _, _ => by
    obtain rfl : u = [] := List.eq_nil_of_length_eq_zero hn
    exact ⟨rfl, _, List.mem_of_getElem? h.head, rfl, rfl, by rw [cmp_same]; decide⟩
  | n + 1, u, hn, hu, hfu => by
    obtain ⟨v, y, rfl⟩ : ∃ v y, u = v ++ [y] := ⟨u.dropLast, u.getLast (by intro e; rw [e] at hn; simp at hn), (List.dropLast_concat_getLast _).symm⟩
    obtain ⟨hv, hy⟩ := Mach.okS_app hu
    obtain ⟨y0, y1⟩ := hy y (by simp)
    obtain ⟨h1, q, hq, e1, e2, h2⟩ := Inv.words h F hF hd n v (by simpa using hn) hv (hF v y hfu)
    obtain ⟨j, hj, ej⟩ := List.getElem_of_mem hq
    have hj2 : l[j]? = some q := by rw [List.getElem?_eq_getElem hj, ej]
    obtain ⟨h3, r, hr, e3, e4, h4⟩ := h.done j y.toNat q (hd j q v y y0 y1 hj2 hfu h2) (by omega) hj2
    have ey : ((y.toNat : Nat) : Int) = y := by omega
    rw [ey] at h4
    refine ⟨?_, r, hr, ?_, ?_, (cmp_trans h4 (le_snoc h2)).1⟩
    · rw [Mach.outsW_snoc, Mach.outsW_snoc, h1, ← e1, ← e2, h3]
    · rw [Mach.endW_snoc, ← e1]; exact e3
    · rw [Mach.endW_snoc, ← e2]; exact e4
/-- A difference at the frontier is the first one. -/
theorem Inv.best (h : Inv a b s t i x l) (hp : l[i]? = some p) (hx : x < a.inputs.toNat) (hd : a.ot p.s.toNat x ≠ b.ot p.t.toNat x) : Best a b s t (p.word ++ [(x : Int)]) := by
  obtain ⟨g1, g2, g3, g4⟩ := h.good p (List.mem_of_getElem? hp)
  refine ⟨⟨fun y hy => ?_, ?_⟩, fun u hu hc => ?_⟩
  · rw [List.mem_append, List.mem_singleton] at hy
    rcases hy with hy | rfl
    · exact g1 y hy
    · omega
  · rw [Mach.outsW_snoc, Mach.outsW_snoc, g2, g3, g4]
    simp only [Int.toNat_natCast]
    intro e
    exact hd (by simpa using e)
  · refine (h.words (F := fun u => cmpW u (p.word ++ [(x : Int)]) < 0) (fun u y hy => ?_) (fun j q u y y0 y1 hq hF hle => ?_) u.length u rfl hu hc).1
    · exact cmp_lt_of (by rw [cmp_short (a := u) (b := u ++ [y]) (by simp)]; decide) hy
    · have h5 : cmpW (q.word ++ [y]) (p.word ++ [(x : Int)]) < 0 := cmp_lt_of (le_snoc hle) hF
      rcases lt_snoc h5 with h6 | ⟨h6, h7⟩
      · by_cases e : j < i
        · exact .inl e
        · exfalso
          by_cases e2 : j = i
          · subst e2; rw [hp] at hq
            obtain rfl : p = q := by simpa using hq
            rw [cmp_same] at h6; omega
          · have h7 := h.sorted i j p q (by omega) hp hq
            have := cmp_lt_of (by omega : cmpW q.word p.word ≤ 0) h7
            rw [cmp_same] at this; omega
      · by_cases e : j < i
        · exact .inl e
        · by_cases e2 : j = i
          · exact .inr ⟨e2, by omega⟩
          · exfalso
            have h8 := h.sorted i j p q (by omega) hp hq
            rw [h6, cmp_same] at h8; omega
/-- The next symbol: the pair is known. -/
theorem Inv.old (h : Inv a b s t i x l) (hp : l[i]? = some p) (hd : a.ot p.s.toNat x = b.ot p.t.toNat x) (hk : known l (a.nx p.s.toNat x) (b.nx p.t.toNat x) = true) : Inv a b s t i (x + 1) l := by
  refine ⟨h.head, h.good, h.sorted, fun q hq => ?_, fun j y r hj hy hr => ?_⟩
  · rcases h.par q hq with e | ⟨k, y, r, hk, hr, e⟩
    · exact .inl e
    · exact .inr ⟨k, y, r, by omega, hr, e⟩
  · by_cases e : j = i ∧ y = x
    · obtain ⟨rfl, rfl⟩ := e
      rw [hp] at hr
      obtain rfl : p = r := by simpa using hr
      obtain ⟨q, hq, e1, e2⟩ := known_iff.1 hk
      exact ⟨hd, q, hq, e1, e2, Int.le_of_lt (h.below hp q hq)⟩
    · exact h.done j y r (by omega) hy hr
/-- The next symbol: the pair is new. -/
theorem Inv.new (h : Inv a b s t i x l) (hp : l[i]? = some p) (hx : x < a.inputs.toNat) (hd : a.ot p.s.toNat x = b.ot p.t.toNat x) : Inv a b s t i (x + 1) (l ++ [⟨a.nx p.s.toNat x, b.nx p.t.toNat x, p.word ++ [(x : Int)]⟩]) := by
  obtain ⟨g1, g2, g3, g4⟩ := h.good p (List.mem_of_getElem? hp)
  have hbl := h.below hp
  have hil : i < l.length := by
    by_cases e : i < l.length
    · exact e
    · rw [List.getElem?_eq_none (by omega)] at hp; simp at hp
  have hold : ∀ {j : Nat} {r : Pl}, l[j]? = some r → (l ++ [(⟨a.nx p.s.toNat x, b.nx p.t.toNat x, p.word ++ [(x : Int)]⟩ : Pl)])[j]? = some r := fun {j r} hr => by
    have hj : j < l.length := by
      by_cases e : j < l.length
      · exact e
      · rw [List.getElem?_eq_none (by omega)] at hr; simp at hr
    rw [List.getElem?_append_left hj]; exact hr
  have hcases : ∀ {j : Nat} {r : Pl}, (l ++ [(⟨a.nx p.s.toNat x, b.nx p.t.toNat x, p.word ++ [(x : Int)]⟩ : Pl)])[j]? = some r → (j < l.length ∧ l[j]? = some r) ∨ (j = l.length ∧ r = ⟨a.nx p.s.toNat x, b.nx p.t.toNat x, p.word ++ [(x : Int)]⟩) := fun {j r} hr => by
    by_cases hj : j < l.length
    · rw [List.getElem?_append_left hj] at hr; exact .inl ⟨hj, hr⟩
    · rw [List.getElem?_append_right (by omega)] at hr
      by_cases e : j = l.length
      · subst e; simp at hr; exact .inr ⟨rfl, hr.symm⟩
      · rw [List.getElem?_eq_none (by simp; omega)] at hr; simp at hr
  refine ⟨hold h.head, fun q hq => ?_, fun j k q r hjk hq hr => ?_, fun q hq => ?_, fun j y r hj hy hr => ?_⟩
  · rw [List.mem_append, List.mem_singleton] at hq
    rcases hq with hq | rfl
    · exact h.good q hq
    · refine ⟨fun y hy => ?_, ?_, ?_, ?_⟩
      · simp only [List.mem_append, List.mem_singleton] at hy
        rcases hy with hy | rfl
        · exact g1 y hy
        · omega
      · simp only; rw [Mach.endW_snoc, g2]; simp
      · simp only; rw [Mach.endW_snoc, g3]; simp
      · simp only; rw [Mach.outsW_snoc, Mach.outsW_snoc, g2, g3, g4]; simp [hd]
  · rcases hcases hq with ⟨-, hq2⟩ | ⟨e1, -⟩
    · rcases hcases hr with ⟨-, hr2⟩ | ⟨-, rfl⟩
      · exact h.sorted j k q r hjk hq2 hr2
      · exact hbl q (List.mem_of_getElem? hq2)
    · rcases hcases hr with ⟨h2, -⟩ | ⟨e2, -⟩ <;> omega
  · rw [List.mem_append, List.mem_singleton] at hq
    rcases hq with hq | rfl
    · rcases h.par q hq with e | ⟨k, y, r, hk, hr, e⟩
      · exact .inl e
      · exact .inr ⟨k, y, r, by omega, hold hr, e⟩
    · exact .inr ⟨i, x, p, by omega, hold hp, rfl⟩
  · rcases hcases hr with ⟨-, hr2⟩ | ⟨e1, -⟩
    · by_cases e : j = i ∧ y = x
      · obtain ⟨rfl, rfl⟩ := e
        rw [hp] at hr2
        obtain rfl : p = r := by simpa using hr2
        exact ⟨hd, _, by rw [List.mem_append]; exact .inr (List.mem_singleton.2 rfl), rfl, rfl, by rw [cmp_same]; decide⟩
      · obtain ⟨h1, q, hq, e1, e2, h2⟩ := h.done j y r (by omega) hy hr2
        exact ⟨h1, q, by rw [List.mem_append]; exact .inl hq, e1, e2, h2⟩
    · omega
/-- The next pair. -/
theorem Inv.next (h : Inv a b s t i a.inputs.toNat l) : Inv a b s t (i + 1) 0 l := by
  refine ⟨h.head, h.good, h.sorted, fun q hq => ?_, fun j y r hj hy hr => h.done j y r (by omega) hy hr⟩
  rcases h.par q hq with e | ⟨k, y, r, hk, hr, e⟩
  · exact .inl e
  · exact .inr ⟨k, y, r, by omega, hr, e⟩
theorem Inv.rest (h : Inv a b s t i 0 l) (hl : l[i]? = none) : Inv a b s t (i + 1) 0 l := by
  refine ⟨h.head, h.good, h.sorted, fun q hq => ?_, fun j y r hj hy hr => h.done j y r ?_ hy hr⟩
  · rcases h.par q hq with e | ⟨k, y, r, hk, hr, e⟩
    · exact .inl e
    · exact .inr ⟨k, y, r, by omega, hr, e⟩
  · by_cases e : j = i
    · subst e; rw [hl] at hr; simp at hr
    · omega
theorem scan_inv (h : Inv a b s t i 0 l) (hp : l[i]? = some p) : ∀ x, x ≤ a.inputs.toNat →
    (∀ v, (scan a b p l x).2 = some v → Best a b s t v) ∧ ((scan a b p l x).2 = none → Inv a b s t i x (scan a b p l x).1 ∧ (scan a b p l x).1[i]? = some p)
  | 0, _ => ⟨fun v hv => by simp [scan] at hv, fun _ => ⟨h, hp⟩⟩
  | x + 1, hx => by
    obtain ⟨h1, h2⟩ := scan_inv h hp x (by omega)
    unfold scan
    cases e : (scan a b p l x).2 with
    | some w => exact ⟨fun v hv => h1 v (by rw [e]; exact hv), fun h3 => by simp at h3⟩
    | none =>
      obtain ⟨h3, h4⟩ := h2 e
      simp only
      by_cases hd : a.ot p.s.toNat x = b.ot p.t.toNat x
      · rw [if_neg (by simpa using hd)]
        by_cases hk : known (scan a b p l x).1 (a.nx p.s.toNat x) (b.nx p.t.toNat x) = true
        · rw [if_pos hk]
          exact ⟨fun v hv => by simp at hv, fun _ => ⟨h3.old h4 hd hk, h4⟩⟩
        · rw [if_neg hk]
          refine ⟨fun v hv => by simp at hv, fun _ => ⟨h3.new h4 (by omega) hd, ?_⟩⟩
          simp only
          rw [List.getElem?_append_left]
          · exact h4
          · by_cases e : i < (scan a b p l x).1.length
            · exact e
            · rw [List.getElem?_eq_none (by omega)] at h4; simp at h4
      · rw [if_pos hd]
        exact ⟨fun v hv => by simp at hv; subst hv; exact h3.best h4 (by omega) hd, fun h5 => by simp at h5⟩
theorem srch_inv (a b : Mach) (s t : Int) : ∀ i, (∀ v, (srch a b s t i).2 = some v → Best a b s t v) ∧ ((srch a b s t i).2 = none → Inv a b s t i 0 (srch a b s t i).1)
  | 0 => ⟨fun v hv => by simp [srch] at hv, fun _ => Inv.init⟩
  | i + 1 => by
    obtain ⟨h1, h2⟩ := srch_inv a b s t i
    unfold srch
    cases e : (srch a b s t i).2 with
    | some w => exact ⟨fun v hv => h1 v (by rw [e]; exact hv), fun h3 => by simp at h3⟩
    | none =>
      have h3 := h2 e
      simp only
      cases e2 : (srch a b s t i).1[i]? with
      | none => exact ⟨fun v hv => by simp at hv, fun _ => h3.rest e2⟩
      | some p =>
        obtain ⟨h4, h5⟩ := scan_inv h3 e2 a.inputs.toNat (Nat.le_refl _)
        exact ⟨h4, fun h6 => (h5 h6).1.next⟩
theorem first_some {v : List Int} (h : firstW a b s t = some v) : Best a b s t v := (srch_inv a b s t _).1 v h
theorem first_all (oa : a.Ok) (ob : b.Ok) (hi : a.inputs = b.inputs) (hs : 0 ≤ s ∧ s < a.next.length) (ht : 0 ≤ t ∧ t < b.next.length) (h : firstW a b s t = none) : Mach.Sim a b s t := by
  have hg := (GoodP.srch oa ob hi hs ht (a.next.length * b.next.length)).le
  have hI := (srch_inv a b s t (a.next.length * b.next.length)).2 h
  intro u hu
  refine (hI.words (F := fun _ => True) (fun _ _ _ => trivial) (fun j q u y y0 y1 hq _ _ => .inl ?_) u.length u rfl hu trivial).1
  by_cases e : j < (srch a b s t (a.next.length * b.next.length)).1.length
  · omega
  · rw [List.getElem?_eq_none (by omega)] at hq; simp at hq
/-- No word is found just if the states answer alike. -/
theorem first_iff (oa : a.Ok) (ob : b.Ok) (hi : a.inputs = b.inputs) (hs : 0 ≤ s ∧ s < a.next.length) (ht : 0 ≤ t ∧ t < b.next.length) : firstW a b s t = none ↔ Mach.Sim a b s t := by
  refine ⟨first_all oa ob hi hs ht, fun h => ?_⟩
  cases e : firstW a b s t with
  | none => rfl
  | some v => exact absurd (h v (first_some e).1.1) (first_some e).1.2
theorem Best.unique {v w : List Int} (hi : a.inputs = b.inputs) (h : Best a b s t v) (h2 : Best b a t s w) : v = w := by
  have h3 : ¬ cmpW v w < 0 := fun e => h.1.2 (h2.2 v (Mach.okS_swap hi.symm h.1.1) e).symm
  have h4 : ¬ cmpW w v < 0 := fun e => h2.1.2 (h.2 w (Mach.okS_swap hi h2.1.1) e).symm
  rw [cmp_swap] at h4
  exact cmp_zero (by omega)
theorem first_swap (oa : a.Ok) (ob : b.Ok) (hi : a.inputs = b.inputs) (hs : 0 ≤ s ∧ s < a.next.length) (ht : 0 ≤ t ∧ t < b.next.length) : firstW b a t s = firstW a b s t := by
  cases e : firstW a b s t with
  | none => exact (first_iff ob oa hi.symm ht hs).2 (Mach.Sim.symm hi ((first_iff oa ob hi hs ht).1 e))
  | some v =>
    cases e2 : firstW b a t s with
    | none =>
      have := (first_iff oa ob hi hs ht).2 (Mach.Sim.symm hi.symm ((first_iff ob oa hi.symm ht hs).1 e2))
      rw [e] at this; cases this
    | some w => rw [(first_some e).unique hi (first_some e2)]
end
end Go.Proofs.Ytdnmgiabgpilkaa
/- A word that two machines answer differently is found below the sum of their states. Condition: the machines are valid, have the same inputs, and together at most 128 states. -/
namespace Go.Proofs.Ytdnmgiabgpilkaa
namespace Mach
/-- Both machines, side by side. -/
def uni (a b : Mach) : Mach := { inputs := a.inputs, start := 0, next := a.next ++ b.next.map (fun r => r.map fun t => t + (a.next.length : Int)), out := a.out ++ b.out }
section
variable {a b : Mach}
theorem uni_len (a b : Mach) : (uni a b).next.length = a.next.length + b.next.length := by simp [uni]
theorem uni_rowA {s : Nat} (hs : s < a.next.length) : (uni a b).next.getD s [] = a.next.getD s [] := by
  unfold uni; simp only
  rw [List.getD_eq_getElem?_getD, List.getElem?_append_left hs, ← List.getD_eq_getElem?_getD]
theorem uni_rowB {t : Nat} (ht : t < b.next.length) : (uni a b).next.getD (a.next.length + t) [] = (b.next.getD t []).map fun x => x + (a.next.length : Int) := by
  unfold uni; simp only
  rw [List.getD_eq_getElem?_getD, List.getElem?_append_right (by omega), Nat.add_sub_cancel_left, List.getElem?_map, List.getElem?_eq_getElem ht, List.getD_eq_getElem?_getD, List.getElem?_eq_getElem ht]
  rfl
theorem uni_outA (oa : a.Ok) {s : Nat} (hs : s < a.next.length) : (uni a b).out.getD s [] = a.out.getD s [] := by
  unfold uni; simp only
  rw [List.getD_eq_getElem?_getD, List.getElem?_append_left (by rw [oa.lo]; exact hs), ← List.getD_eq_getElem?_getD]
theorem uni_outB (oa : a.Ok) {t : Nat} : (uni a b).out.getD (a.next.length + t) [] = b.out.getD t [] := by
  unfold uni; simp only
  rw [List.getD_eq_getElem?_getD, List.getElem?_append_right (by rw [oa.lo]; omega), oa.lo, Nat.add_sub_cancel_left, ← List.getD_eq_getElem?_getD]
theorem uni_nxA {s : Nat} (hs : s < a.next.length) (x : Nat) : (uni a b).nx s x = a.nx s x := by unfold nx; rw [uni_rowA hs]
theorem uni_nxB (ob : b.Ok) (hi : a.inputs = b.inputs) {t x : Nat} (ht : t < b.next.length) (hx : x < a.inputs.toNat) : (uni a b).nx (a.next.length + t) x = b.nx t x + (a.next.length : Int) := by
  have hl := ob.rn t ht
  unfold nx
  rw [uni_rowB ht, List.getD_eq_getElem?_getD, List.getElem?_map, List.getD_eq_getElem?_getD (l := b.next.getD t []), List.getElem?_eq_getElem (by omega)]
  rfl
theorem uni_ok (oa : a.Ok) (ob : b.Ok) (hi : a.inputs = b.inputs) (hn : a.next.length + b.next.length ≤ 128) : (uni a b).Ok := by
  have n0 := oa.n0
  have hl := uni_len a b
  refine ⟨oa.i0, oa.i1, by omega, by omega, by simp [uni], by rw [hl]; simp only [uni]; omega, by rw [hl]; simp only [uni, List.length_append]; rw [oa.lo, ob.lo], fun s hs => ?_, fun s hs => ?_, fun s x hs hx => ?_, fun s x hs hx => ?_⟩
  · by_cases h : s < a.next.length
    · rw [uni_rowA h]; exact oa.rn s h
    · obtain ⟨t, rfl⟩ : ∃ t, s = a.next.length + t := ⟨s - a.next.length, by omega⟩
      rw [uni_rowB (by omega), List.length_map]
      have := ob.rn t (by omega)
      show ((b.next.getD t []).length : Int) = a.inputs
      omega
  · by_cases h : s < a.next.length
    · rw [uni_outA oa h]; exact oa.ro s h
    · obtain ⟨t, rfl⟩ : ∃ t, s = a.next.length + t := ⟨s - a.next.length, by omega⟩
      rw [uni_outB oa]
      have := ob.ro t (by omega)
      show ((b.out.getD t []).length : Int) = a.inputs
      omega
  · have hx' : x < a.inputs.toNat := hx
    rw [hl]
    by_cases h : s < a.next.length
    · rw [uni_nxA h]; have := oa.nx s x h hx'; omega
    · obtain ⟨t, rfl⟩ : ∃ t, s = a.next.length + t := ⟨s - a.next.length, by omega⟩
      rw [uni_nxB ob hi (by omega) hx']; have := ob.nx t x (by omega) (by omega); omega
  · have hx' : x < a.inputs.toNat := hx
    unfold ot
    by_cases h : s < a.next.length
    · rw [uni_outA oa h]; exact oa.ot s x h hx'
    · obtain ⟨t, rfl⟩ : ∃ t, s = a.next.length + t := ⟨s - a.next.length, by omega⟩
      rw [uni_outB oa]; exact ob.ot t x (by omega) (by omega)
theorem uni_outsA (oa : a.Ok) : ∀ (w : List Int) (s : Int), 0 ≤ s → s < a.next.length → a.okS w → (uni a b).outsW s w = a.outsW s w
  | [], _, _, _, _ => rfl
  | x :: w, s, h0, h1, hw => by
    obtain ⟨⟨x0, x1⟩, hw2⟩ := okS_cons hw
    have hr := oa.nx s.toNat x.toNat (by omega) (by omega)
    unfold outsW
    rw [uni_nxA (by omega), uni_outsA oa w _ hr.1 hr.2 hw2]
    congr 1
    unfold ot
    rw [uni_outA oa (by omega)]
theorem uni_outsB (oa : a.Ok) (ob : b.Ok) (hi : a.inputs = b.inputs) : ∀ (w : List Int) (t : Int), 0 ≤ t → t < b.next.length → a.okS w → (uni a b).outsW ((a.next.length : Int) + t) w = b.outsW t w
  | [], _, _, _, _ => rfl
  | x :: w, t, h0, h1, hw => by
    obtain ⟨⟨x0, x1⟩, hw2⟩ := okS_cons hw
    have hr := ob.nx t.toNat x.toNat (by omega) (by omega)
    have e : ((a.next.length : Int) + t).toNat = a.next.length + t.toNat := by omega
    unfold outsW
    rw [e, uni_nxB ob hi (by omega) (by omega), Int.add_comm (b.nx _ _), uni_outsB oa ob hi w _ hr.1 hr.2 hw2]
    congr 1
    unfold ot
    rw [uni_outB oa]
end
end Mach
theorem Best.len {a b : Mach} {s t : Int} {v : List Int} (h : Best a b s t v) (oa : a.Ok) (ob : b.Ok) (hi : a.inputs = b.inputs) (hs : 0 ≤ s ∧ s < a.next.length) (ht : 0 ≤ t ∧ t < b.next.length) (hn : a.next.length + b.next.length ≤ 128) :
    v.length < a.next.length + b.next.length := by
  by_cases e : v.length < a.next.length + b.next.length
  · exact e
  · exfalso
    have ou := Mach.uni_ok oa ob hi hn
    have hl := Mach.uni_len a b
    have hu : ∀ w, (Mach.uni a b).okS w → a.okS w := fun w hw => hw
    have h1 : (Mach.uni a b).eqv (a.next.length + b.next.length - 1) s.toNat ((a.next.length : Int) + t).toNat := by
      refine Mach.eqv_of_words _ _ _ fun w hw hlw => ?_
      rw [Mach.uni_outsA oa w s hs.1 hs.2 (hu w hw), Mach.uni_outsB oa ob hi w t ht.1 ht.2 (hu w hw)]
      have n0 := oa.n0
      exact h.2 w (hu w hw) (by rw [cmp_short (by omega)]; decide)
    obtain ⟨d, hd⟩ := (Mach.uni a b).steps_exists (Mach.uni a b).next.length
    obtain ⟨h2, h3⟩ := hd.rest ou (by omega)
    have h4 := (Mach.part_iff ou _ s.toNat ((a.next.length : Int) + t).toNat (by omega) (by omega)).2 h1
    rw [h3 (a.next.length + b.next.length - 1) (by omega), ← h3 v.length (by omega)] at h4
    have h5 := (Mach.part_iff ou _ s.toNat ((a.next.length : Int) + t).toNat (by omega) (by omega)).1 h4
    have h6 := Mach.eqv_outs ou v v.length s ((a.next.length : Int) + t) h5 (Nat.le_refl _) h.1.1
    rw [Mach.uni_outsA oa v s hs.1 hs.2 h.1.1, Mach.uni_outsB oa ob hi v t ht.1 ht.2 h.1.1] at h6
    exact h.1.2 h6
/-- What is ahead of the last symbol is answered alike; the last is not. -/
theorem Best.last {a b : Mach} {s t : Int} {v : List Int} (h : Best a b s t v) : ∃ p q y z, v ≠ [] ∧ a.outsW s v = p ++ [y] ∧ b.outsW t v = q ++ [z] ∧ p = q ∧ y ≠ z ∧ p.length + 1 = v.length := by
  have hne : v ≠ [] := fun e => h.1.2 (by rw [e]; rfl)
  obtain ⟨u, x, rfl⟩ : ∃ u x, v = u ++ [x] := ⟨v.dropLast, v.getLast hne, (List.dropLast_concat_getLast _).symm⟩
  have hu := h.2 u (Mach.okS_app h.1.1).1 (by rw [cmp_short (by simp)]; decide)
  refine ⟨_, _, _, _, hne, Mach.outsW_snoc _ _ _ _, Mach.outsW_snoc _ _ _ _, hu, fun e => h.1.2 ?_, by rw [Mach.outsW_len]; simp⟩
  rw [Mach.outsW_snoc, Mach.outsW_snoc, hu, e]
end Go.Proofs.Ytdnmgiabgpilkaa
/- The law of chapter 9 on the first word. No condition. -/
namespace Go.Proofs.Ytdnmgiabgpilkaa
open Go.RowKit
theorem ansW_one {o : Option (List Int)} {l l' : List Int} {f f' : Bool} (h : ansW o l f) (h' : ansW o l' f') : l = l' ∧ f = f' := ⟨h.1.trans h'.1.symm, h.2.trans h'.2.symm⟩
theorem dist_best {a b : Mach} {v : List Int} (hc : chk a b = 0) (h : distW a b = some v) : Best a b a.start b.start v := by
  unfold distW at h
  rw [if_pos hc] at h
  exact first_some h
theorem dist_sim {a b : Mach} (hc : chk a b = 0) (h : distW a b = none) : Mach.Sim a b a.start b.start := by
  obtain ⟨ea, eb, hi⟩ := chk_zero hc
  have oa := a.ok_of_err ea
  have ob := b.ok_of_err eb
  unfold distW at h
  rw [if_pos hc] at h
  exact first_all oa ob hi ⟨oa.s0, oa.s1⟩ ⟨ob.s0, ob.s1⟩ h
theorem chk_swap {a b : Mach} (hc : chk a b = 0) : chk b a = 0 := by
  obtain ⟨ea, eb, hi⟩ := chk_zero hc
  exact chk_0 eb ea hi.symm
theorem dist_swap {a b : Mach} (hc : chk a b = 0) : distW b a = distW a b := by
  obtain ⟨ea, eb, hi⟩ := chk_zero hc
  have oa := a.ok_of_err ea
  have ob := b.ok_of_err eb
  unfold distW
  rw [if_pos hc, if_pos (chk_swap hc)]
  exact first_swap oa ob hi ⟨oa.s0, oa.s1⟩ ⟨ob.s0, ob.s1⟩
theorem Mach.run_out {m : Mach} (h : m.err = 0) (w : List Int) : m.frErr m.start w = wErr w m.inputs ∧ m.frOut m.start w = if wErr w m.inputs = 0 then m.outsW m.start w else [] := by
  have ok := m.ok_of_err h
  have hst : m.stErr m.start = 0 := by
    have := ok.s0
    have := ok.s1
    unfold Mach.stErr
    rw [if_neg (by simp [h]), if_neg (by omega)]
  by_cases e : wErr w m.inputs = 0
  · obtain ⟨h1, h2, -⟩ := Mach.frErr_0 hst e
    rw [if_pos e]; exact ⟨h1.trans e.symm, h2⟩
  · obtain ⟨h1, h2, -⟩ := Mach.frErr_w hst e
    rw [if_neg e]; exact ⟨h1, h2⟩
theorem wErr_ok {m : Mach} (ok : m.Ok) {w : List Int} (h : m.okS w) (hl : w.length ≤ 1024) : wErr w m.inputs = 0 := by
  have := ok.i0
  have := ok.i1
  refine wErr_0 (by omega) (by omega) ?_
  rintro ⟨x, hx, hb⟩
  have := h x hx
  omega
theorem Sl.take {M : Nat → Prop} {w : World} {a : Option Addr} {c : Nat} {l : List Int} (h : Sl M w a c l) (n : Nat) (hn : n ≤ l.length) : Sl M w a c (l.take n) ∧ (l.take n).length = n := by
  refine ⟨⟨by have := h.1; rw [List.length_take]; omega, h.2.1, fun j x hj => h.2.2 j x ?_⟩, by rw [List.length_take]; omega⟩
  rw [List.getElem?_take] at hj
  split at hj
  · exact hj
  · simp at hj
theorem great_len {m : Mach} (h : m.great = false) : m.next.length ≤ 12 := by
  by_cases e : m.next.length ≤ 12
  · exact e
  · unfold Mach.great at h; simp at h; omega

section
variable {M : Nat → Prop} {w : World} {an ao bn bo : Option Addr} {acn aco bcn bco : Nat} {a b : Mach}
set_option maxRecDepth 100000 in
set_option maxHeartbeats 8000000 in
theorem lfirst_any {M' : Nat → Prop} {ax : Option Addr} {cx : Nat} {l : List Int} (ha : Ma M w an acn ao aco a) (hb : Ma M w bn bcn bo bco b) (hs : Sl M' w ax cx l) :
    Calls Try.prog 14 #[maV a an acn ao aco, maV b bn bcn bo bco, .slice ax l.length cx] w fun e w' => e = .returned (.bool true) ∧ Below w.heap.size w w' := by
  have HA := Lib.hid (ha.ext ((Ext.alloc M w (maO a an acn ao aco)).trans (Ext.alloc M _ (maO b bn bcn bo bco))))
  have HB := Lib.hid (hb.ext ((Ext.alloc M w (maO a an acn ao aco)).trans (Ext.alloc M _ (maO b bn bcn bo bco))))
  have h0 : Below w.heap.size w ((w.alloc (maO a an acn ao aco)).alloc (maO b bn bcn bo bco)) := ((Below.refl _ _).alloc (Nat.le_refl _) _).alloc (by simp) _
  have hCa : C4 ((w.alloc (maO a an acn ao aco)).alloc (maO b bn bcn bo bco)) w.heap.size an acn ao aco a := (c4_new w).below (B := w.heap.size + 1) ((Below.refl _ _).alloc (by simp) _) (by omega)
  have hCb : C4 ((w.alloc (maO a an acn ao aco)).alloc (maO b bn bcn bo bco)) (w.heap.size + 1) bn bcn bo bco b := by simpa using c4_new (m := b) (an := bn) (cn := bcn) (ao := bo) (co := bco) (w.alloc (maO a an acn ao aco))
  have HG := Lib.hid (great_any HA.out)
  have hW0 : ((w.alloc (maO a an acn ao aco)).alloc (maO b bn bcn bo bco)).heap.size = w.heap.size + 2 := by simp
  have HW0 := Lib.hid hW0
  have HX := Lib.hid hs
  have hll := hs.le
  clear ha hb hW0 hs
  cases hga : a.great with
  | true =>
    go_enter Try.func14, Try.ntmps14
    go_wp2_with fail
    refine (HG.out).mono ?_
    rintro e w1 ⟨rfl, hb1⟩
    rw [hga]
    have hB1 : Below (w.heap.size + 2) ((w.alloc (maO a an acn ao aco)).alloc (maO b bn bcn bo bco)) w1 := hb1.mono (by rw [HW0.out]; exact Nat.le_refl _)
    have hz1 : w.heap.size + 2 ≤ w1.heap.size := by have := hb1.size; rw [HW0.out] at this; exact this
    clear hb1 HG
    go_wp2_with fail
    refine (ex9_any).mono ?_
    rintro e wz ⟨rfl, hbz⟩
    have hBf := h0.trans ((hB1.trans (hbz.mono hz1)).mono (by omega))
    go_wp2
    go_ret
    exact ⟨rfl, hBf⟩
  | false =>
    cases hgb : b.great with
    | true =>
      go_enter Try.func14, Try.ntmps14
      go_wp2_with fail
      refine (HG.out).mono ?_
      rintro e w1 ⟨rfl, hb1⟩
      rw [hga]
      have hB1 : Below (w.heap.size + 2) ((w.alloc (maO a an acn ao aco)).alloc (maO b bn bcn bo bco)) w1 := hb1.mono (by rw [HW0.out]; exact Nat.le_refl _)
      have hz1 : w.heap.size + 2 ≤ w1.heap.size := by have := hb1.size; rw [HW0.out] at this; exact this
      have HG2 := Lib.hid (great_any (HB.out.below hb1))
      obtain ⟨k0, k1, k2, k3⟩ := hCb.below hB1 (by omega)
      clear hb1 HG
      go_wp2_with fail
      refine (HG2.out).mono ?_
      rintro e w2 ⟨rfl, hb2⟩
      rw [hgb]
      have hB2 := hB1.trans (hb2.mono hz1)
      have hz2 : w.heap.size + 2 ≤ w2.heap.size := Nat.le_trans hz1 hb2.size
      clear hb2 HG2 k0 k1 k2 k3
      go_wp2_with fail
      refine (ex9_any).mono ?_
      rintro e wz ⟨rfl, hbz⟩
      have hBf := h0.trans ((hB2.trans (hbz.mono hz2)).mono (by omega))
      go_wp2
      go_ret
      exact ⟨rfl, hBf⟩
    | false =>
      go_enter Try.func14, Try.ntmps14
      go_wp2_with fail
      refine (HG.out).mono ?_
      rintro e w1 ⟨rfl, hb1⟩
      rw [hga]
      have hB1 : Below (w.heap.size + 2) ((w.alloc (maO a an acn ao aco)).alloc (maO b bn bcn bo bco)) w1 := hb1.mono (by rw [HW0.out]; exact Nat.le_refl _)
      have hz1 : w.heap.size + 2 ≤ w1.heap.size := by have := hb1.size; rw [HW0.out] at this; exact this
      have HG2 := Lib.hid (great_any (HB.out.below hb1))
      obtain ⟨k0, k1, k2, k3⟩ := hCb.below hB1 (by omega)
      clear hb1 HG
      go_wp2_with fail
      refine (HG2.out).mono ?_
      rintro e w2 ⟨rfl, hb2⟩
      rw [hgb]
      have hB2 := hB1.trans (hb2.mono hz1)
      have hz2 : w.heap.size + 2 ≤ w2.heap.size := Nat.le_trans hz1 hb2.size
      clear hb2 HG2 k0 k1 k2 k3
      have HCK := Lib.hid (checkR_any (HA.out.below (hB2.mono (by rw [HW0.out]; exact Nat.le_refl _))) (HB.out.below (hB2.mono (by rw [HW0.out]; exact Nat.le_refl _))))
      obtain ⟨j0, j1, j2, j3⟩ := hCa.below hB2 (by omega)
      obtain ⟨k0, k1, k2, k3⟩ := hCb.below hB2 (by omega)
      go_wp2_with fail
      refine (HCK.out).mono ?_
      rintro e w3 ⟨rfl, hb3⟩
      have hB3 := hB2.trans (hb3.mono hz2)
      have hz3 : w.heap.size + 2 ≤ w3.heap.size := Nat.le_trans hz2 hb3.size
      clear hb3 HCK j0 j1 j2 j3 k0 k1 k2 k3
      by_cases hc : chk a b = 0
      · have hc2 : (chk a b != 0) = false := by simp [hc]
        have HC := Lib.hid hc
        have OA := Lib.hid (a.ok_of_err (chk_zero hc).1)
        have OB := Lib.hid (b.ok_of_err (chk_zero hc).2.1)
        have HI := Lib.hid (chk_zero hc).2.2
        clear hc
        have OAE := Lib.hid (chk_zero HC.out).1
        have OBE := Lib.hid (chk_zero HC.out).2.1
        have hc3 : (chk b a != 0) = false := by simp [chk_swap HC.out]
        have hsw := dist_swap HC.out
        have HSW := Lib.hid hsw
        have HGA := Lib.hid hga
        have HGB := Lib.hid hgb
        clear hsw hga hgb
        have hB3w := h0.trans (hB3.mono (by omega))
        have h3a := hCa.below hB3 (by omega)
        have h3b := hCb.below hB3 (by omega)
        have HD := Lib.hid (dist_any (HA.out.below (hB3.mono (by rw [HW0.out]; exact Nat.le_refl _))) (HB.out.below (hB3.mono (by rw [HW0.out]; exact Nat.le_refl _))))
        go_wp2_with fail
        refine (HD.out).mono ?_
        rintro e w4 ⟨a4, c4, l4, f4, rfl, ha4, hs4, hb4⟩
        have hB4 := hB3.trans (hb4.mono hz3)
        have hz4 : w.heap.size + 2 ≤ w4.heap.size := Nat.le_trans hz3 hb4.size
        have HS4 := Lib.hid hs4
        clear hb4 HD h3a h3b hs4
        have h4a := hCa.below hB4 (by omega)
        have h4b := hCb.below hB4 (by omega)
        have HD := Lib.hid (dist_any (HB.out.below (hB4.mono (by rw [HW0.out]; exact Nat.le_refl _))) (HA.out.below (hB4.mono (by rw [HW0.out]; exact Nat.le_refl _))))
        go_wp2_with fail
        refine (HD.out).mono ?_
        rintro e w5 ⟨a5, c5, l5, f5, rfl, ha5, hs5, hb5⟩
        have hB5 := hB4.trans (hb5.mono hz4)
        have hz5 : w.heap.size + 2 ≤ w5.heap.size := Nat.le_trans hz4 hb5.size
        have HS4 := Lib.hid ((HS4.out.below hb5).anti (M' := fun _ => False) (fun _ _ h => h.elim))
        have HS5 := Lib.hid (hs5.anti (M' := fun _ => False) (fun _ _ h => h.elim))
        clear hb5 HD h4a h4b hs5
        have ha5' : ansW (distW a b) l5 f5 := by rw [← HSW.out]; exact ha5.out
        obtain ⟨hl54, hf54⟩ := ansW_one ha5' ha4.out
        subst hl54
        subst hf54
        have HEQ := Lib.hid (equal_is HS5.out HS4.out (show decide (l5 = l5) = true by simp))
        have h5a := hCa.below hB5 (by omega)
        have h5b := hCb.below hB5 (by omega)
        have tf : (f5 != f5) = false := by simp
        clear ha5 ha5'
        go_wp2_with fail
        refine (HEQ.out).mono ?_
        rintro e w6 ⟨rfl, n6, rfl⟩
        have hB6 : Below (w.heap.size + 2) ((w.alloc (maO a an acn ao aco)).alloc (maO b bn bcn bo bco)) (w5.drewN n6) := bl_drewN hB5 n6
        have hz6 : w.heap.size + 2 ≤ (w5.drewN n6).heap.size := hz5
        have HS4 := Lib.hid (HS4.out.drewN n6)
        have h6a := hCa.below hB6 (by omega)
        have h6b := hCb.below hB6 (by omega)
        clear h5a h5b hB5 hz5 HEQ HS5 hB4 hz4
        generalize w5.drewN n6 = w6 at *
        have hB6w := h0.trans (hB6.mono (by omega))
        have HD := Lib.hid (mrun_any (HA.out.below (hB6.mono (by rw [HW0.out]; exact Nat.le_refl _))) (HX.out.below hB6w))
        go_wp2_with fail
        refine (HD.out).mono ?_
        rintro e w7 ⟨a7, c7, l7, rfl, hl7, hs7, hb7⟩
        have hB7 := hB6.trans (hb7.mono hz6)
        have hz7 : w.heap.size + 2 ≤ w7.heap.size := Nat.le_trans hz6 hb7.size
        have HS4 := Lib.hid (HS4.out.below hb7)
        have HS7 := Lib.hid (hs7.anti (M' := fun _ => False) (fun _ _ h => h.elim))
        clear hb7 HD h6a h6b hs7 hB6 hz6 hB6w
        have hB7w := h0.trans (hB7.mono (by omega))
        have h7a := hCa.below hB7 (by omega)
        have h7b := hCb.below hB7 (by omega)
        have HD := Lib.hid (mrun_any (HB.out.below (hB7.mono (by rw [HW0.out]; exact Nat.le_refl _))) (HX.out.below hB7w))
        go_wp2_with fail
        refine (HD.out).mono ?_
        rintro e w8 ⟨a8, c8, l8, rfl, hl8, hs8, hb8⟩
        have hB8 := hB7.trans (hb8.mono hz7)
        have hz8 : w.heap.size + 2 ≤ w8.heap.size := Nat.le_trans hz7 hb8.size
        have HS4 := Lib.hid (HS4.out.below hb8)
        have HS7 := Lib.hid (HS7.out.below hb8)
        have HS8 := Lib.hid (hs8.anti (M' := fun _ => False) (fun _ _ h => h.elim))
        clear hb8 HD h7a h7b hs8 hB7 hz7 hB7w
        have hB8w := h0.trans (hB8.mono (by omega))
        have h8a := hCa.below hB8 (by omega)
        have h8b := hCb.below hB8 (by omega)
        have HX8 := Lib.hid (HX.out.below hB8w)
        have r7 := Mach.run_out OAE.out l
        have r8 := Mach.run_out OBE.out l
        rw [← HI.out] at r8
        have tg : (a.frErr a.start l != b.frErr b.start l) = false := by rw [r7.1, r8.1]; simp
        -- the part behind the first test, once for each case
        have hsame : Hid (wErr l a.inputs = 0 → (distW a b = none ∨ ∃ v, distW a b = some v ∧ cmpW l v < 0) → decide (l7 = l8) = true) := by
          intro e h
          have o := Mach.okS_of e
          rw [hl7.out, hl8.out, r7.2, r8.2, if_pos e, if_pos e, decide_eq_true_eq]
          rcases h with h | ⟨v, h, hv⟩
          · exact dist_sim HC.out h l o.1
          · exact (dist_best HC.out h).2 l o.1 hv
        cases hd : distW a b with
        | none =>
          have h1 : l5 = [] ∧ f5 = false := by have := ha4.out; rw [hd] at this; exact this
          obtain ⟨rfl, rfl⟩ := h1
          have HDN := Lib.hid hd
          clear hd ha4
          by_cases hE : wErr l a.inputs = 0
          · have tz : (a.frErr a.start l == 0) = true := by rw [r7.1]; simp [hE]
            have HEQ := Lib.hid (equal_is HS7.out HS8.out (hsame.out hE (.inl HDN.out)))
            clear hE r7 r8 hl7 hl8 hsame
            go_wp2_with fail
            refine (HEQ.out).mono ?_
            rintro e w9 ⟨rfl, n9, rfl⟩
            have hB9 : Below (w.heap.size + 2) ((w.alloc (maO a an acn ao aco)).alloc (maO b bn bcn bo bco)) (w8.drewN n9) := bl_drewN hB8 n9
            have hz9 : w.heap.size + 2 ≤ (w8.drewN n9).heap.size := hz8
            go_wp2_with fail
            refine (ex9_any).mono ?_
            rintro e wz ⟨rfl, hbz⟩
            have hBf := h0.trans ((hB9.trans (hbz.mono hz9)).mono (by omega))
            go_wp2
            go_ret
            exact ⟨rfl, hBf⟩
          · have tz : (a.frErr a.start l == 0) = false := by rw [r7.1]; simp [hE]
            clear hE r7 r8 hl7 hl8 hsame
            go_wp2_with fail
            refine (ex9_any).mono ?_
            rintro e wz ⟨rfl, hbz⟩
            have hBf := h0.trans ((hB8.trans (hbz.mono hz8)).mono (by omega))
            go_wp2
            go_ret
            exact ⟨rfl, hBf⟩
        | some v =>
          have h1 : l5 = v ∧ f5 = true := by have := ha4.out; rw [hd] at this; exact this
          obtain ⟨rfl, rfl⟩ := h1
          have hbest := dist_best HC.out hd
          have HBT := Lib.hid hbest
          have HDN := Lib.hid hd
          have hvl : l5.length < 24 := by
            have := hbest.len OA.out OB.out HI.out ⟨OA.out.s0, OA.out.s1⟩ ⟨OB.out.s0, OB.out.s1⟩ (by have := great_len HGA.out; have := great_len HGB.out; omega)
            have := great_len HGA.out; have := great_len HGB.out; omega
          clear hd ha4 hbest
          have HX8 := Lib.hid (HX8.out.anti (M' := fun _ => False) (fun _ _ h => h.elim))
          by_cases hE : wErr l a.inputs = 0
          · have tz : (a.frErr a.start l == 0) = true := by rw [r7.1]; simp [hE]
            have HC4 := Lib.hid (cmpw_any HX8.out HS4.out)
            by_cases hcv : cmpW l l5 < 0
            · have HEQ := Lib.hid (hsame.out hE (.inr ⟨_, HDN.out, hcv⟩))
              clear hE r7 r8 hl7 hl8 hsame
              go_wp2_with fail
              refine (HC4.out).mono ?_
              rintro e w9 ⟨rfl, hb9⟩
              have HS7 := Lib.hid (HS7.out.below hb9)
              have HS8 := Lib.hid (HS8.out.below hb9)
              have HQ := Lib.hid (equal_is HS7.out HS8.out HEQ.out)
              go_wp2_with fail
              refine (HQ.out).mono ?_
              rintro e w10 ⟨rfl, n10, rfl⟩
              have hBq : Below (w.heap.size + 2) ((w.alloc (maO a an acn ao aco)).alloc (maO b bn bcn bo bco)) (w9.drewN n10) := bl_drewN (hB8.trans (hb9.mono hz8)) n10
              have hzq : w.heap.size + 2 ≤ (w9.drewN n10).heap.size := Nat.le_trans hz8 hb9.size
              have HS4 := Lib.hid ((HS4.out.below hb9).drewN n10)
              clear hb9 HQ HEQ HS7 HS8 HX8 HC4 hcv hB8 hz8 hB8w
              generalize w9.drewN n10 = wq at *
              have hqa := hCa.below hBq (by omega)
              have hqb := hCb.below hBq (by omega)
              have HD := Lib.hid (mrun_any (HA.out.below (hBq.mono (by rw [HW0.out]; exact Nat.le_refl _))) HS4.out)
              clear h8a h8b
              go_wp2_with fail
              refine (HD.out).mono ?_
              rintro e wa ⟨a11, c11, l11, rfl, hl11, hs11, hb11⟩
              have hBa := hBq.trans (hb11.mono hzq)
              have hza : w.heap.size + 2 ≤ wa.heap.size := Nat.le_trans hzq hb11.size
              have HS4 := Lib.hid (HS4.out.below hb11)
              have HS11 := Lib.hid (hs11.anti (M' := fun _ => False) (fun _ _ h => h.elim))
              clear hb11 HD hqa hqb hs11 hBq hzq
              have h11a := hCa.below hBa (by omega)
              have h11b := hCb.below hBa (by omega)
              have HD := Lib.hid (mrun_any (HB.out.below (hBa.mono (by rw [HW0.out]; exact Nat.le_refl _))) HS4.out)
              go_wp2_with fail
              refine (HD.out).mono ?_
              rintro e wb ⟨a12, c12, l12, rfl, hl12, hs12, hb12⟩
              have hBb := hBa.trans (hb12.mono hza)
              have hzb : w.heap.size + 2 ≤ wb.heap.size := Nat.le_trans hza hb12.size
              have HS11 := Lib.hid (HS11.out.below hb12)
              have HS12 := Lib.hid (hs12.anti (M' := fun _ => False) (fun _ _ h => h.elim))
              clear hb12 HD h11a h11b hs12 hBa hza HS4
              have hv0 : wErr l5 a.inputs = 0 := wErr_ok OA.out HBT.out.1.1 (by omega)
              have r11 := Mach.run_out OAE.out l5
              have r12 := Mach.run_out OBE.out l5
              rw [← HI.out] at r12
              have t11 : (a.frErr a.start l5 == 0) = true := by rw [r11.1, hv0]; rfl
              have t12 : (b.frErr b.start l5 == 0) = true := by rw [r12.1, hv0]; rfl
              obtain ⟨p, q, y, z, hne, e1, e2, hpq, hyz, hlen⟩ := HBT.out.last
              have o11 : Hid (l11 = p ++ [y]) := by unfold Hid; rw [hl11.out, r11.2, if_pos hv0, e1]
              have o12 : Hid (l12 = p ++ [z]) := by unfold Hid; rw [hl12.out, r12.2, if_pos hv0, e2, hpq]
              have HLEN : Hid (l5.length = p.length + 1) := hlen.symm
              have hyz2 : (y != z) = true := by simp [hyz]
              have hSS : C4 wb.drew w.heap.size an acn ao aco a ∧ C4 wb.drew (w.heap.size + 1) bn bcn bo bco b := ⟨(hCa.below hBb (by omega)).drew, (hCb.below hBb (by omega)).drew⟩
              clear hl11 hl12 r11 r12 hv0 e1 e2 hpq hyz hlen hne
              have hBd := hBb.drew
              have hzd : w.heap.size + 2 ≤ wb.drew.heap.size := hzb
              have HS11 := Lib.hid HS11.out.drew
              have HS12 := Lib.hid HS12.out.drew
              go_wp2
              obtain ⟨n, hn⟩ : ∃ n : Nat, ((l5.length : Nat) : Int) - 1 = (n : Int) ∧ p.length = n := ⟨p.length, by have := HLEN.out; omega, rfl⟩
              obtain ⟨hn, hpn⟩ := hn
              rw [hn]
              have HPN := Lib.hid hpn
              have HL11 : Hid (l11.length = n + 1) := by unfold Hid; rw [o11.out, List.length_append, hpn]; rfl
              have HL12 : Hid (l12.length = n + 1) := by unfold Hid; rw [o12.out, List.length_append, hpn]; rfl
              have hn24 : n < 24 := by have := HLEN.out; omega
              have hl11n : n < l11.length := by have := HL11.out; omega
              have hl12n : n < l12.length := by have := HL12.out; omega
              obtain ⟨g11, q11, y', rfl, hyc, hy', -⟩ := HS11.out.at_int hl11n
              obtain ⟨g12, q12, z', rfl, hzc, hz', -⟩ := HS12.out.at_int hl12n
              obtain rfl : y = y' := by
                have h := hy'.out
                rw [o11.out, List.getElem?_append_right (by omega), hpn, Nat.sub_self] at h
                simpa using h
              obtain rfl : z = z' := by
                have h := hz'.out
                rw [o12.out, List.getElem?_append_right (by omega), hpn, Nat.sub_self] at h
                simpa using h
              have hq11 := HS11.out.take n (by omega)
              have hq12 := HS12.out.take n (by omega)
              have hc11 : n ≤ c11 := by have := HS11.out.1; omega
              have hc12 : n ≤ c12 := by have := HS12.out.1; omega
              have hwn : IntKind.i64.wrap ((n : Int) + 1) = (n : Int) + 1 := IntWalk.i64_in _ (by omega)
              have t13 : (((l11.length : Nat) : Int) == (n : Int) + 1) = true := by have := HL11.out; simp; omega
              have t14 : (((l12.length : Nat) : Int) == (n : Int) + 1) = true := by have := HL12.out; simp; omega
              have hga12 := great_len HGA.out
              have hgb12 := great_len HGB.out
              have hwl : IntKind.i64.wrap (((a.next.length : Nat) : Int) + ((b.next.length : Nat) : Int)) = ((a.next.length : Nat) : Int) + ((b.next.length : Nat) : Int) := IntWalk.i64_in _ (by omega)
              have tlt : decide ((n : Int) + 1 < ((a.next.length : Nat) : Int) + ((b.next.length : Nat) : Int)) = true := by
                have := HBT.out.len OA.out OB.out HI.out ⟨OA.out.s0, OA.out.s1⟩ ⟨OB.out.s0, OB.out.s1⟩ (by omega)
                have := HLEN.out
                simp; omega
              have hSS : (C4 wb.drew w.heap.size an acn ao aco a ∧ C4 wb.drew (w.heap.size + 1) bn bcn bo bco b) ∧ wb.drew.cell? ⟨g11, q11 + n, none⟩ = some (.int .i64 y) ∧ wb.drew.cell? ⟨g12, q12 + n, none⟩ = some (.int .i64 z) := ⟨hSS, by simpa using hyc, by simpa using hzc⟩
              refine wp_region_L (fun w' => (C4 w' w.heap.size an acn ao aco a ∧ C4 w' (w.heap.size + 1) bn bcn bo bco b) ∧ w'.cell? ⟨g11, q11 + n, none⟩ = some (.int .i64 y) ∧ w'.cell? ⟨g12, q12 + n, none⟩ = some (.int .i64 z)) [0, 1, 2, 3, 4, 5, 6, 7, 8, 9, 10, 11, 12, 13, 14, 15, 16, 17, 18, 19, 20, 21, 22, 23, 24, 25, 26, 27, 28, 29, 30, 32, 33, 34, 35, 36, 37, 38, 39, 40, 41, 42, 43, 44, 45, 46, 47, 48, 49, 50, 51, 52, 53, 54, 55, 56] (by kernel_rfl) ?_
              have hpp : decide (l11.take n = l12.take n) = true := by rw [o11.out, o12.out, ← hpn]; simp
              have heq := equal_is hq11.1 hq12.1 hpp
              rw [hq11.2, hq12.2] at heq
              have HEQ := Lib.hid heq
              clear hBb hzb hyc hzc hy' hz' hpn hn o11 o12 hpp heq
              generalize wb.drew = wc at *
              refine wpAnyL_take (i := 0) (v := ?v12) rfl (by kernel_rfl) (by kernel_rfl) (by kernel_rfl) (by kernel_rfl) (fun _ _ _ h => h) (Or.inl ⟨by rfl, ?y12⟩) (by assumption) ?r12
              case y12 => (intro w' hSw; (try dsimp only at hSw); go_simp; try with_reducible rfl)
              try simp only [Act.put, List.setIfInBounds_toArray, List.set_cons_zero, List.set_cons_succ]
              refine wpAnyL_take (i := 1) (v := ?v13) rfl (by kernel_rfl) (by kernel_rfl) (by kernel_rfl) (by kernel_rfl) (fun _ _ _ h => h) (Or.inl ⟨by rfl, ?y13⟩) (by assumption) ?r13
              case y13 => (intro w' hSw; (try dsimp only at hSw); go_simp; try with_reducible rfl)
              try simp only [Act.put, List.setIfInBounds_toArray, List.set_cons_zero, List.set_cons_succ]
              refine wpAnyL_take (i := 2) (v := ?v14) rfl (by kernel_rfl) (by kernel_rfl) (by kernel_rfl) (by kernel_rfl) (fun _ _ _ h => h) (Or.inl ⟨by rfl, ?y14⟩) (by assumption) ?r14
              case y14 => (intro w' hSw; (try dsimp only at hSw); go_simp; try with_reducible rfl)
              try simp only [Act.put, List.setIfInBounds_toArray, List.set_cons_zero, List.set_cons_succ]
              refine wpAnyL_take (i := 3) (v := ?v15) rfl (by kernel_rfl) (by kernel_rfl) (by kernel_rfl) (by kernel_rfl) (fun _ _ _ h => h) (Or.inl ⟨by rfl, ?y15⟩) (by assumption) ?r15
              case y15 => (intro w' hSw; (try dsimp only at hSw); go_simp; try with_reducible rfl)
              try simp only [Act.put, List.setIfInBounds_toArray, List.set_cons_zero, List.set_cons_succ]
              refine wpAnyL_take (i := 4) (v := ?v16) rfl (by kernel_rfl) (by kernel_rfl) (by kernel_rfl) (by kernel_rfl) (fun _ _ _ h => h) (Or.inl ⟨by rfl, ?y16⟩) (by assumption) ?r16
              case y16 => (intro w' hSw; (try dsimp only at hSw); go_simp; try with_reducible rfl)
              try simp only [Act.put, List.setIfInBounds_toArray, List.set_cons_zero, List.set_cons_succ]
              refine wpAnyL_take (i := 5) (v := ?v17) rfl (by kernel_rfl) (by kernel_rfl) (by kernel_rfl) (by kernel_rfl) (fun _ _ _ h => h) (Or.inl ⟨by rfl, ?y17⟩) (by assumption) ?r17
              case y17 => (intro w' hSw; (try dsimp only at hSw); go_simp; try with_reducible rfl)
              try simp only [Act.put, List.setIfInBounds_toArray, List.set_cons_zero, List.set_cons_succ]
              refine wpAnyL_take (i := 6) (v := ?v18) rfl (by kernel_rfl) (by kernel_rfl) (by kernel_rfl) (by kernel_rfl) (fun _ _ _ h => h) (Or.inl ⟨by rfl, ?y18⟩) (by assumption) ?r18
              case y18 => (intro w' hSw; (try dsimp only at hSw); go_simp; try with_reducible rfl)
              try simp only [Act.put, List.setIfInBounds_toArray, List.set_cons_zero, List.set_cons_succ]
              refine wpAnyL_take (i := 7) (v := ?v19) rfl (by kernel_rfl) (by kernel_rfl) (by kernel_rfl) (by kernel_rfl) (fun _ _ _ h => h) (Or.inl ⟨by rfl, ?y19⟩) (by assumption) ?r19
              case y19 => (intro w' hSw; (try dsimp only at hSw); go_simp; try with_reducible rfl)
              try simp only [Act.put, List.setIfInBounds_toArray, List.set_cons_zero, List.set_cons_succ]
              refine wpAnyL_take (i := 8) (v := ?v20) rfl (by kernel_rfl) (by kernel_rfl) (by kernel_rfl) (by kernel_rfl) (fun _ _ _ h => h) (Or.inl ⟨by rfl, ?y20⟩) (by assumption) ?r20
              case y20 => (intro w' hSw; (try dsimp only at hSw); go_simp; try with_reducible rfl)
              try simp only [Act.put, List.setIfInBounds_toArray, List.set_cons_zero, List.set_cons_succ]
              refine wpAnyL_take (i := 9) (v := ?v21) rfl (by kernel_rfl) (by kernel_rfl) (by kernel_rfl) (by kernel_rfl) (fun _ _ _ h => h) (Or.inl ⟨by rfl, ?y21⟩) (by assumption) ?r21
              case y21 => (intro w' hSw; (try dsimp only at hSw); go_simp; try with_reducible rfl)
              try simp only [Act.put, List.setIfInBounds_toArray, List.set_cons_zero, List.set_cons_succ]
              refine wpAnyL_take (i := 10) (v := ?v22) rfl (by kernel_rfl) (by kernel_rfl) (by kernel_rfl) (by kernel_rfl) (fun _ _ _ h => h) (Or.inl ⟨by rfl, ?y22⟩) (by assumption) ?r22
              case y22 => (intro w' hSw; (try dsimp only at hSw); go_simp; try with_reducible rfl)
              try simp only [Act.put, List.setIfInBounds_toArray, List.set_cons_zero, List.set_cons_succ]
              refine wpAnyL_take (i := 11) (v := ?v23) rfl (by kernel_rfl) (by kernel_rfl) (by kernel_rfl) (by kernel_rfl) (fun _ _ _ h => h) (Or.inl ⟨by rfl, ?y23⟩) (by assumption) ?r23
              case y23 => (intro w' hSw; (try dsimp only at hSw); go_simp; try with_reducible rfl)
              try simp only [Act.put, List.setIfInBounds_toArray, List.set_cons_zero, List.set_cons_succ]
              refine wpAnyL_take (i := 12) (v := ?v24) rfl (by kernel_rfl) (by kernel_rfl) (by kernel_rfl) (by kernel_rfl) (fun _ _ _ h => h) (Or.inl ⟨by rfl, ?y24⟩) (by assumption) ?r24
              case y24 => (intro w' hSw; (try dsimp only at hSw); go_simp; try with_reducible rfl)
              try simp only [Act.put, List.setIfInBounds_toArray, List.set_cons_zero, List.set_cons_succ]
              refine wpAnyL_take (i := 13) (v := ?v25) rfl (by kernel_rfl) (by kernel_rfl) (by kernel_rfl) (by kernel_rfl) (fun _ _ _ h => h) (Or.inl ⟨by rfl, ?y25⟩) (by assumption) ?r25
              case y25 => (intro w' hSw; (try dsimp only at hSw); go_simp; try with_reducible rfl)
              try simp only [Act.put, List.setIfInBounds_toArray, List.set_cons_zero, List.set_cons_succ]
              refine wpAnyL_take (i := 14) (v := ?v26) rfl (by kernel_rfl) (by kernel_rfl) (by kernel_rfl) (by kernel_rfl) (fun _ _ _ h => h) (Or.inl ⟨by rfl, ?y26⟩) (by assumption) ?r26
              case y26 => (intro w' hSw; (try dsimp only at hSw); go_simp; try with_reducible rfl)
              try simp only [Act.put, List.setIfInBounds_toArray, List.set_cons_zero, List.set_cons_succ]
              refine wpAnyL_take (i := 15) (v := ?v27) rfl (by kernel_rfl) (by kernel_rfl) (by kernel_rfl) (by kernel_rfl) (fun _ _ _ h => h) (Or.inl ⟨by rfl, ?y27⟩) (by assumption) ?r27
              case y27 => (intro w' hSw; (try dsimp only at hSw); go_simp; try with_reducible rfl)
              try simp only [Act.put, List.setIfInBounds_toArray, List.set_cons_zero, List.set_cons_succ]
              refine wpAnyL_take (i := 16) (v := ?v28) rfl (by kernel_rfl) (by kernel_rfl) (by kernel_rfl) (by kernel_rfl) (fun _ _ _ h => h) (Or.inl ⟨by rfl, ?y28⟩) (by assumption) ?r28
              case y28 => (intro w' hSw; (try dsimp only at hSw); go_simp; try with_reducible rfl)
              try simp only [Act.put, List.setIfInBounds_toArray, List.set_cons_zero, List.set_cons_succ]
              refine wpAnyL_take (i := 17) (v := ?v29) rfl (by kernel_rfl) (by kernel_rfl) (by kernel_rfl) (by kernel_rfl) (fun _ _ _ h => h) (Or.inl ⟨by rfl, ?y29⟩) (by assumption) ?r29
              case y29 => (intro w' hSw; (try dsimp only at hSw); go_simp; try with_reducible rfl)
              try simp only [Act.put, List.setIfInBounds_toArray, List.set_cons_zero, List.set_cons_succ]
              refine wpAnyL_take (i := 18) (v := ?v30) rfl (by kernel_rfl) (by kernel_rfl) (by kernel_rfl) (by kernel_rfl) (fun _ _ _ h => h) (Or.inl ⟨by rfl, ?y30⟩) (by assumption) ?r30
              case y30 => (intro w' hSw; (try dsimp only at hSw); go_simp; try with_reducible rfl)
              try simp only [Act.put, List.setIfInBounds_toArray, List.set_cons_zero, List.set_cons_succ]
              refine wpAnyL_take (i := 19) (v := ?v31) rfl (by kernel_rfl) (by kernel_rfl) (by kernel_rfl) (by kernel_rfl) (fun _ _ _ h => h) (Or.inl ⟨by rfl, ?y31⟩) (by assumption) ?r31
              case y31 => (intro w' hSw; (try dsimp only at hSw); go_simp; try with_reducible rfl)
              try simp only [Act.put, List.setIfInBounds_toArray, List.set_cons_zero, List.set_cons_succ]
              refine wpAnyL_take (i := 20) (v := ?v32) rfl (by kernel_rfl) (by kernel_rfl) (by kernel_rfl) (by kernel_rfl) (fun _ _ _ h => h) (Or.inl ⟨by rfl, ?y32⟩) (by assumption) ?r32
              case y32 => (intro w' hSw; (try dsimp only at hSw); go_simp; try with_reducible rfl)
              try simp only [Act.put, List.setIfInBounds_toArray, List.set_cons_zero, List.set_cons_succ]
              refine wpAnyL_take (i := 21) (v := ?v33) rfl (by kernel_rfl) (by kernel_rfl) (by kernel_rfl) (by kernel_rfl) (fun _ _ _ h => h) (Or.inl ⟨by rfl, ?y33⟩) (by assumption) ?r33
              case y33 => (intro w' hSw; (try dsimp only at hSw); go_simp; try with_reducible rfl)
              try simp only [Act.put, List.setIfInBounds_toArray, List.set_cons_zero, List.set_cons_succ]
              refine wpAnyL_take (i := 22) (v := ?v34) rfl (by kernel_rfl) (by kernel_rfl) (by kernel_rfl) (by kernel_rfl) (fun _ _ _ h => h) (Or.inl ⟨by rfl, ?y34⟩) (by assumption) ?r34
              case y34 => (intro w' hSw; (try dsimp only at hSw); go_simp; try with_reducible rfl)
              try simp only [Act.put, List.setIfInBounds_toArray, List.set_cons_zero, List.set_cons_succ]
              refine wpAnyL_take (i := 23) (v := ?v35) rfl (by kernel_rfl) (by kernel_rfl) (by kernel_rfl) (by kernel_rfl) (fun _ _ _ h => h) (Or.inl ⟨by rfl, ?y35⟩) (by assumption) ?r35
              case y35 => (intro w' hSw; (try dsimp only at hSw); go_simp; try with_reducible rfl)
              try simp only [Act.put, List.setIfInBounds_toArray, List.set_cons_zero, List.set_cons_succ]
              refine wpAnyL_take (i := 24) (v := ?v36) rfl (by kernel_rfl) (by kernel_rfl) (by kernel_rfl) (by kernel_rfl) (fun _ _ _ h => h) (Or.inl ⟨by rfl, ?y36⟩) (by assumption) ?r36
              case y36 => (intro w' hSw; (try dsimp only at hSw); go_simp; try with_reducible rfl)
              try simp only [Act.put, List.setIfInBounds_toArray, List.set_cons_zero, List.set_cons_succ]
              refine wpAnyL_take (i := 25) (v := ?v37) rfl (by kernel_rfl) (by kernel_rfl) (by kernel_rfl) (by kernel_rfl) (fun _ _ _ h => h) (Or.inl ⟨by rfl, ?y37⟩) (by assumption) ?r37
              case y37 => (intro w' hSw; (try dsimp only at hSw); go_simp; try with_reducible rfl)
              try simp only [Act.put, List.setIfInBounds_toArray, List.set_cons_zero, List.set_cons_succ]
              refine wpAnyL_take (i := 26) (v := ?v38) rfl (by kernel_rfl) (by kernel_rfl) (by kernel_rfl) (by kernel_rfl) (fun _ _ _ h => h) (Or.inl ⟨by rfl, ?y38⟩) (by assumption) ?r38
              case y38 => (intro w' hSw; (try dsimp only at hSw); go_simp; try with_reducible rfl)
              try simp only [Act.put, List.setIfInBounds_toArray, List.set_cons_zero, List.set_cons_succ]
              refine wpAnyL_take (i := 27) (v := ?v39) rfl (by kernel_rfl) (by kernel_rfl) (by kernel_rfl) (by kernel_rfl) (fun _ _ _ h => h) (Or.inl ⟨by rfl, ?y39⟩) (by assumption) ?r39
              case y39 => (intro w' hSw; (try dsimp only at hSw); go_simp; try with_reducible rfl)
              try simp only [Act.put, List.setIfInBounds_toArray, List.set_cons_zero, List.set_cons_succ]
              refine wpAnyL_take (i := 28) (v := ?v40) rfl (by kernel_rfl) (by kernel_rfl) (by kernel_rfl) (by kernel_rfl) (fun _ _ _ h => h) (Or.inl ⟨by rfl, ?y40⟩) (by assumption) ?r40
              case y40 => (intro w' hSw; (try dsimp only at hSw); go_simp; try with_reducible rfl)
              try simp only [Act.put, List.setIfInBounds_toArray, List.set_cons_zero, List.set_cons_succ]
              refine wpAnyL_take (i := 29) (v := ?v41) rfl (by kernel_rfl) (by kernel_rfl) (by kernel_rfl) (by kernel_rfl) (fun _ _ _ h => h) (Or.inl ⟨by rfl, ?y41⟩) (by assumption) ?r41
              case y41 => (intro w' hSw; (try dsimp only at hSw); go_simp; try with_reducible rfl)
              try simp only [Act.put, List.setIfInBounds_toArray, List.set_cons_zero, List.set_cons_succ]
              refine wpAnyL_take (i := 30) (v := ?v42) rfl (by kernel_rfl) (by kernel_rfl) (by kernel_rfl) (by kernel_rfl) (fun _ _ _ h => h) (Or.inl ⟨by rfl, ?y42⟩) (by assumption) ?r42
              case y42 => (intro w' hSw; (try dsimp only at hSw); go_simp; try with_reducible rfl)
              try simp only [Act.put, List.setIfInBounds_toArray, List.set_cons_zero, List.set_cons_succ]
              refine wpAnyL_one (i := 31) (by kernel_rfl) rfl rfl (fun K hK => ?_)
              go_simp
              refine (HEQ.out).mono ?_
              rintro e wd ⟨rfl, nd, rfl⟩
              have hBd2 : Below (w.heap.size + 2) ((w.alloc (maO a an acn ao aco)).alloc (maO b bn bcn bo bco)) (wc.drewN nd) := bl_drewN hBd nd
              have hzd2 : w.heap.size + 2 ≤ (wc.drewN nd).heap.size := hzd
              have hbd := below_drewN wc.heap.size wc nd
              have hSd : (C4 (wc.drewN nd) w.heap.size an acn ao aco a ∧ C4 (wc.drewN nd) (w.heap.size + 1) bn bcn bo bco b) ∧ (wc.drewN nd).cell? ⟨g11, q11 + n, none⟩ = some (.int .i64 y) ∧ (wc.drewN nd).cell? ⟨g12, q12 + n, none⟩ = some (.int .i64 z) := ⟨⟨hSS.1.1.below hbd (by omega), hSS.1.2.below hbd (by omega)⟩, (hbd.cell (p := ⟨g11, q11 + n, none⟩) (lt_of_cell hSS.2.1)).trans hSS.2.1, (hbd.cell (p := ⟨g12, q12 + n, none⟩) (lt_of_cell hSS.2.2)).trans hSS.2.2⟩
              refine hK _ _ (fun _ => hSd) ?_
              clear hK K hSS hbd hBd hzd HEQ hq11 hq12 HS11 HS12
              generalize wc.drewN nd = we at *
              refine wpAnyL_take (i := 32) (v := ?v43) rfl (by kernel_rfl) (by kernel_rfl) (by kernel_rfl) (by kernel_rfl) (fun _ _ _ h => h) (Or.inl ⟨by rfl, ?y43⟩) (by assumption) ?r43
              case y43 => (intro w' hSw; (try dsimp only at hSw); go_simp; try with_reducible rfl)
              try simp only [Act.put, List.setIfInBounds_toArray, List.set_cons_zero, List.set_cons_succ]
              refine wpAnyL_take (i := 33) (v := ?v44) rfl (by kernel_rfl) (by kernel_rfl) (by kernel_rfl) (by kernel_rfl) (fun _ _ _ h => h) (Or.inl ⟨by rfl, ?y44⟩) (by assumption) ?r44
              case y44 => (intro w' hSw; (try dsimp only at hSw); go_simp; try with_reducible rfl)
              try simp only [Act.put, List.setIfInBounds_toArray, List.set_cons_zero, List.set_cons_succ]
              refine wpAnyL_take (i := 34) (v := ?v45) rfl (by kernel_rfl) (by kernel_rfl) (by kernel_rfl) (by kernel_rfl) (fun _ _ _ h => h) (Or.inl ⟨by rfl, ?y45⟩) (by assumption) ?r45
              case y45 => (intro w' hSw; (try dsimp only at hSw); go_simp; try with_reducible rfl)
              try simp only [Act.put, List.setIfInBounds_toArray, List.set_cons_zero, List.set_cons_succ]
              refine wpAnyL_take (i := 35) (v := ?v46) rfl (by kernel_rfl) (by kernel_rfl) (by kernel_rfl) (by kernel_rfl) (fun _ _ _ h => h) (Or.inl ⟨by rfl, ?y46⟩) (by assumption) ?r46
              case y46 => (intro w' hSw; (try dsimp only at hSw); go_simp; try with_reducible rfl)
              try simp only [Act.put, List.setIfInBounds_toArray, List.set_cons_zero, List.set_cons_succ]
              refine wpAnyL_take (i := 36) (v := ?v47) rfl (by kernel_rfl) (by kernel_rfl) (by kernel_rfl) (by kernel_rfl) (fun _ _ _ h => h) (Or.inl ⟨by rfl, ?y47⟩) (by assumption) ?r47
              case y47 => (intro w' hSw; (try dsimp only at hSw); go_simp; try with_reducible rfl)
              try simp only [Act.put, List.setIfInBounds_toArray, List.set_cons_zero, List.set_cons_succ]
              refine wpAnyL_take (i := 37) (v := ?v48) rfl (by kernel_rfl) (by kernel_rfl) (by kernel_rfl) (by kernel_rfl) (fun _ _ _ h => h) (Or.inl ⟨by rfl, ?y48⟩) (by assumption) ?r48
              case y48 => (intro w' hSw; (try dsimp only at hSw); go_simp; try with_reducible rfl)
              try simp only [Act.put, List.setIfInBounds_toArray, List.set_cons_zero, List.set_cons_succ]
              refine wpAnyL_take (i := 38) (v := ?v49) rfl (by kernel_rfl) (by kernel_rfl) (by kernel_rfl) (by kernel_rfl) (fun _ _ _ h => h) (Or.inl ⟨by rfl, ?y49⟩) (by assumption) ?r49
              case y49 => (intro w' hSw; (try dsimp only at hSw); go_simp; try with_reducible rfl)
              try simp only [Act.put, List.setIfInBounds_toArray, List.set_cons_zero, List.set_cons_succ]
              refine wpAnyL_take (i := 39) (v := ?v50) rfl (by kernel_rfl) (by kernel_rfl) (by kernel_rfl) (by kernel_rfl) (fun _ _ _ h => h) (Or.inl ⟨by rfl, ?y50⟩) (by assumption) ?r50
              case y50 => (intro w' hSw; (try dsimp only at hSw); go_simp; try with_reducible rfl)
              try simp only [Act.put, List.setIfInBounds_toArray, List.set_cons_zero, List.set_cons_succ]
              refine wpAnyL_take (i := 40) (v := ?v51) rfl (by kernel_rfl) (by kernel_rfl) (by kernel_rfl) (by kernel_rfl) (fun _ _ _ h => h) (Or.inl ⟨by rfl, ?y51⟩) (by assumption) ?r51
              case y51 => (intro w' hSw; (try dsimp only at hSw); go_simp; try with_reducible rfl)
              try simp only [Act.put, List.setIfInBounds_toArray, List.set_cons_zero, List.set_cons_succ]
              refine wpAnyL_take (i := 41) (v := ?v52) rfl (by kernel_rfl) (by kernel_rfl) (by kernel_rfl) (by kernel_rfl) (fun _ _ _ h => h) (Or.inl ⟨by rfl, ?y52⟩) (by assumption) ?r52
              case y52 => (intro w' hSw; (try dsimp only at hSw); go_simp; try with_reducible rfl)
              try simp only [Act.put, List.setIfInBounds_toArray, List.set_cons_zero, List.set_cons_succ]
              refine wpAnyL_take (i := 42) (v := ?v53) rfl (by kernel_rfl) (by kernel_rfl) (by kernel_rfl) (by kernel_rfl) (fun _ _ _ h => h) (Or.inl ⟨by rfl, ?y53⟩) (by assumption) ?r53
              case y53 => (intro w' hSw; (try dsimp only at hSw); go_simp; try with_reducible rfl)
              try simp only [Act.put, List.setIfInBounds_toArray, List.set_cons_zero, List.set_cons_succ]
              refine wpAnyL_take (i := 43) (v := ?v54) rfl (by kernel_rfl) (by kernel_rfl) (by kernel_rfl) (by kernel_rfl) (fun _ _ _ h => h) (Or.inl ⟨by rfl, ?y54⟩) (by assumption) ?r54
              case y54 => (intro w' hSw; (try dsimp only at hSw); go_simp; try with_reducible rfl)
              try simp only [Act.put, List.setIfInBounds_toArray, List.set_cons_zero, List.set_cons_succ]
              refine wpAnyL_take (i := 44) (v := ?v55) rfl (by kernel_rfl) (by kernel_rfl) (by kernel_rfl) (by kernel_rfl) (fun _ _ _ h => h) (Or.inl ⟨by rfl, ?y55⟩) (by assumption) ?r55
              case y55 => (intro w' hSw; (try dsimp only at hSw); go_simp; try with_reducible rfl)
              try simp only [Act.put, List.setIfInBounds_toArray, List.set_cons_zero, List.set_cons_succ]
              refine wpAnyL_take (i := 45) (v := ?v56) rfl (by kernel_rfl) (by kernel_rfl) (by kernel_rfl) (by kernel_rfl) (fun _ _ _ h => h) (Or.inl ⟨by rfl, ?y56⟩) (by assumption) ?r56
              case y56 => (intro w' hSw; (try dsimp only at hSw); go_simp; try with_reducible rfl)
              try simp only [Act.put, List.setIfInBounds_toArray, List.set_cons_zero, List.set_cons_succ]
              refine wpAnyL_take (i := 46) (v := ?v57) rfl (by kernel_rfl) (by kernel_rfl) (by kernel_rfl) (by kernel_rfl) (fun _ _ _ h => h) (Or.inl ⟨by rfl, ?y57⟩) (by assumption) ?r57
              case y57 => (intro w' hSw; (try dsimp only at hSw); go_simp; try with_reducible rfl)
              try simp only [Act.put, List.setIfInBounds_toArray, List.set_cons_zero, List.set_cons_succ]
              refine wpAnyL_take (i := 47) (v := ?v58) rfl (by kernel_rfl) (by kernel_rfl) (by kernel_rfl) (by kernel_rfl) (fun _ _ _ h => h) (Or.inl ⟨by rfl, ?y58⟩) (by assumption) ?r58
              case y58 => (intro w' hSw; (try dsimp only at hSw); go_simp; try with_reducible rfl)
              try simp only [Act.put, List.setIfInBounds_toArray, List.set_cons_zero, List.set_cons_succ]
              refine wpAnyL_take (i := 48) (v := ?v59) rfl (by kernel_rfl) (by kernel_rfl) (by kernel_rfl) (by kernel_rfl) (fun _ _ _ h => h) (Or.inl ⟨by rfl, ?y59⟩) (by assumption) ?r59
              case y59 => (intro w' hSw; (try dsimp only at hSw); go_simp; try with_reducible rfl)
              try simp only [Act.put, List.setIfInBounds_toArray, List.set_cons_zero, List.set_cons_succ]
              refine wpAnyL_take (i := 49) (v := ?v60) rfl (by kernel_rfl) (by kernel_rfl) (by kernel_rfl) (by kernel_rfl) (fun _ _ _ h => h) (Or.inl ⟨by rfl, ?y60⟩) (by assumption) ?r60
              case y60 => (intro w' hSw; (try dsimp only at hSw); go_simp; try with_reducible rfl)
              try simp only [Act.put, List.setIfInBounds_toArray, List.set_cons_zero, List.set_cons_succ]
              refine wpAnyL_take (i := 50) (v := ?v61) rfl (by kernel_rfl) (by kernel_rfl) (by kernel_rfl) (by kernel_rfl) (fun _ _ _ h => h) (Or.inl ⟨by rfl, ?y61⟩) (by assumption) ?r61
              case y61 => (intro w' hSw; (try dsimp only at hSw); go_simp; try with_reducible rfl)
              try simp only [Act.put, List.setIfInBounds_toArray, List.set_cons_zero, List.set_cons_succ]
              refine wpAnyL_take (i := 51) (v := ?v62) rfl (by kernel_rfl) (by kernel_rfl) (by kernel_rfl) (by kernel_rfl) (fun _ _ _ h => h) (Or.inl ⟨by rfl, ?y62⟩) (by assumption) ?r62
              case y62 => (intro w' hSw; (try dsimp only at hSw); go_simp; try with_reducible rfl)
              try simp only [Act.put, List.setIfInBounds_toArray, List.set_cons_zero, List.set_cons_succ]
              refine wpAnyL_take (i := 52) (v := ?v63) rfl (by kernel_rfl) (by kernel_rfl) (by kernel_rfl) (by kernel_rfl) (fun _ _ _ h => h) (Or.inl ⟨by rfl, ?y63⟩) (by assumption) ?r63
              case y63 => (intro w' hSw; (try dsimp only at hSw); go_simp; try with_reducible rfl)
              try simp only [Act.put, List.setIfInBounds_toArray, List.set_cons_zero, List.set_cons_succ]
              refine wpAnyL_take (i := 53) (v := ?v64) rfl (by kernel_rfl) (by kernel_rfl) (by kernel_rfl) (by kernel_rfl) (fun _ _ _ h => h) (Or.inl ⟨by rfl, ?y64⟩) (by assumption) ?r64
              case y64 => (intro w' hSw; (try dsimp only at hSw); go_simp; try with_reducible rfl)
              try simp only [Act.put, List.setIfInBounds_toArray, List.set_cons_zero, List.set_cons_succ]
              refine wpAnyL_take (i := 54) (v := ?v65) rfl (by kernel_rfl) (by kernel_rfl) (by kernel_rfl) (by kernel_rfl) (fun _ _ _ h => h) (Or.inl ⟨by rfl, ?y65⟩) (by assumption) ?r65
              case y65 => (intro w' hSw; (try dsimp only at hSw); go_simp; try with_reducible rfl)
              try simp only [Act.put, List.setIfInBounds_toArray, List.set_cons_zero, List.set_cons_succ]
              refine wpAnyL_take (i := 55) (v := ?v66) rfl (by kernel_rfl) (by kernel_rfl) (by kernel_rfl) (by kernel_rfl) (fun _ _ _ h => h) (Or.inl ⟨by rfl, ?y66⟩) (by assumption) ?r66
              case y66 => (intro w' hSw; (try dsimp only at hSw); go_simp; try with_reducible rfl)
              try simp only [Act.put, List.setIfInBounds_toArray, List.set_cons_zero, List.set_cons_succ]
              refine wpAnyL_take (i := 56) (v := ?v67) rfl (by kernel_rfl) (by kernel_rfl) (by kernel_rfl) (by kernel_rfl) (fun _ _ _ h => h) (Or.inl ⟨by rfl, ?y67⟩) (by assumption) ?r67
              case y67 => (intro w' hSw; (try dsimp only at hSw); go_simp; try with_reducible rfl)
              try simp only [Act.put, List.setIfInBounds_toArray, List.set_cons_zero, List.set_cons_succ]
              refine wpAnyL_one (i := 57) (by kernel_rfl) rfl rfl (fun K hK => ?_)
              go_simp
              refine (ex9_any).mono ?_
              rintro e wz ⟨rfl, hbz⟩
              have hBf := h0.trans ((hBd2.trans (hbz.mono hzd2)).mono (by omega))
              have hSz : (C4 wz w.heap.size an acn ao aco a ∧ C4 wz (w.heap.size + 1) bn bcn bo bco b) ∧ wz.cell? ⟨g11, q11 + n, none⟩ = some (.int .i64 y) ∧ wz.cell? ⟨g12, q12 + n, none⟩ = some (.int .i64 z) := ⟨⟨hSd.1.1.below hbz (by omega), hSd.1.2.below hbz (by omega)⟩, (hbz.cell (p := ⟨g11, q11 + n, none⟩) (lt_of_cell hSd.2.1)).trans hSd.2.1, (hbz.cell (p := ⟨g12, q12 + n, none⟩) (lt_of_cell hSd.2.2)).trans hSd.2.2⟩
              refine hK _ _ (fun _ => hSz) ?_
              clear hK K hSd hbz hBd2 hzd2
              refine wpAnyL_one (i := 58) (by kernel_rfl) rfl rfl (fun K hK => ?_)
              go_simp
              refine hK _ _ (fun _ => hSz) ?_
              clear hK K
              refine wpAnyL_one (i := 59) (by kernel_rfl) rfl rfl (fun K hK => ?_)
              go_simp
              refine hK _ _ (fun _ => hSz) ?_
              clear hK K
              refine wpAnyL_done (by kernel_rfl) ?_ _
              go_wp2
              go_ret
              exact ⟨rfl, hBf⟩
            · have tc : decide (cmpW l l5 < 0) = false := by simp [hcv]
              clear hE r7 r8 hl7 hl8 hsame
              go_wp2_with fail
              refine (HC4.out).mono ?_
              rintro e wq ⟨rfl, hb9⟩
              have hBq := hB8.trans (hb9.mono hz8)
              have hzq : w.heap.size + 2 ≤ wq.heap.size := Nat.le_trans hz8 hb9.size
              have HS4 := Lib.hid (HS4.out.below hb9)
              clear hb9 HS7 HS8 HX8 HC4 hcv hB8 hz8 hB8w
              have hqa := hCa.below hBq (by omega)
              have hqb := hCb.below hBq (by omega)
              have HD := Lib.hid (mrun_any (HA.out.below (hBq.mono (by rw [HW0.out]; exact Nat.le_refl _))) HS4.out)
              clear h8a h8b
              go_wp2_with fail
              refine (HD.out).mono ?_
              rintro e wa ⟨a11, c11, l11, rfl, hl11, hs11, hb11⟩
              have hBa := hBq.trans (hb11.mono hzq)
              have hza : w.heap.size + 2 ≤ wa.heap.size := Nat.le_trans hzq hb11.size
              have HS4 := Lib.hid (HS4.out.below hb11)
              have HS11 := Lib.hid (hs11.anti (M' := fun _ => False) (fun _ _ h => h.elim))
              clear hb11 HD hqa hqb hs11 hBq hzq
              have h11a := hCa.below hBa (by omega)
              have h11b := hCb.below hBa (by omega)
              have HD := Lib.hid (mrun_any (HB.out.below (hBa.mono (by rw [HW0.out]; exact Nat.le_refl _))) HS4.out)
              go_wp2_with fail
              refine (HD.out).mono ?_
              rintro e wb ⟨a12, c12, l12, rfl, hl12, hs12, hb12⟩
              have hBb := hBa.trans (hb12.mono hza)
              have hzb : w.heap.size + 2 ≤ wb.heap.size := Nat.le_trans hza hb12.size
              have HS11 := Lib.hid (HS11.out.below hb12)
              have HS12 := Lib.hid (hs12.anti (M' := fun _ => False) (fun _ _ h => h.elim))
              clear hb12 HD h11a h11b hs12 hBa hza HS4
              have hv0 : wErr l5 a.inputs = 0 := wErr_ok OA.out HBT.out.1.1 (by omega)
              have r11 := Mach.run_out OAE.out l5
              have r12 := Mach.run_out OBE.out l5
              rw [← HI.out] at r12
              have t11 : (a.frErr a.start l5 == 0) = true := by rw [r11.1, hv0]; rfl
              have t12 : (b.frErr b.start l5 == 0) = true := by rw [r12.1, hv0]; rfl
              obtain ⟨p, q, y, z, hne, e1, e2, hpq, hyz, hlen⟩ := HBT.out.last
              have o11 : Hid (l11 = p ++ [y]) := by unfold Hid; rw [hl11.out, r11.2, if_pos hv0, e1]
              have o12 : Hid (l12 = p ++ [z]) := by unfold Hid; rw [hl12.out, r12.2, if_pos hv0, e2, hpq]
              have HLEN : Hid (l5.length = p.length + 1) := hlen.symm
              have hyz2 : (y != z) = true := by simp [hyz]
              have hSS : C4 wb.drew w.heap.size an acn ao aco a ∧ C4 wb.drew (w.heap.size + 1) bn bcn bo bco b := ⟨(hCa.below hBb (by omega)).drew, (hCb.below hBb (by omega)).drew⟩
              clear hl11 hl12 r11 r12 hv0 e1 e2 hpq hyz hlen hne
              have hBd := hBb.drew
              have hzd : w.heap.size + 2 ≤ wb.drew.heap.size := hzb
              have HS11 := Lib.hid HS11.out.drew
              have HS12 := Lib.hid HS12.out.drew
              go_wp2
              obtain ⟨n, hn⟩ : ∃ n : Nat, ((l5.length : Nat) : Int) - 1 = (n : Int) ∧ p.length = n := ⟨p.length, by have := HLEN.out; omega, rfl⟩
              obtain ⟨hn, hpn⟩ := hn
              rw [hn]
              have HPN := Lib.hid hpn
              have HL11 : Hid (l11.length = n + 1) := by unfold Hid; rw [o11.out, List.length_append, hpn]; rfl
              have HL12 : Hid (l12.length = n + 1) := by unfold Hid; rw [o12.out, List.length_append, hpn]; rfl
              have hn24 : n < 24 := by have := HLEN.out; omega
              have hl11n : n < l11.length := by have := HL11.out; omega
              have hl12n : n < l12.length := by have := HL12.out; omega
              obtain ⟨g11, q11, y', rfl, hyc, hy', -⟩ := HS11.out.at_int hl11n
              obtain ⟨g12, q12, z', rfl, hzc, hz', -⟩ := HS12.out.at_int hl12n
              obtain rfl : y = y' := by
                have h := hy'.out
                rw [o11.out, List.getElem?_append_right (by omega), hpn, Nat.sub_self] at h
                simpa using h
              obtain rfl : z = z' := by
                have h := hz'.out
                rw [o12.out, List.getElem?_append_right (by omega), hpn, Nat.sub_self] at h
                simpa using h
              have hq11 := HS11.out.take n (by omega)
              have hq12 := HS12.out.take n (by omega)
              have hc11 : n ≤ c11 := by have := HS11.out.1; omega
              have hc12 : n ≤ c12 := by have := HS12.out.1; omega
              have hwn : IntKind.i64.wrap ((n : Int) + 1) = (n : Int) + 1 := IntWalk.i64_in _ (by omega)
              have t13 : (((l11.length : Nat) : Int) == (n : Int) + 1) = true := by have := HL11.out; simp; omega
              have t14 : (((l12.length : Nat) : Int) == (n : Int) + 1) = true := by have := HL12.out; simp; omega
              have hga12 := great_len HGA.out
              have hgb12 := great_len HGB.out
              have hwl : IntKind.i64.wrap (((a.next.length : Nat) : Int) + ((b.next.length : Nat) : Int)) = ((a.next.length : Nat) : Int) + ((b.next.length : Nat) : Int) := IntWalk.i64_in _ (by omega)
              have tlt : decide ((n : Int) + 1 < ((a.next.length : Nat) : Int) + ((b.next.length : Nat) : Int)) = true := by
                have := HBT.out.len OA.out OB.out HI.out ⟨OA.out.s0, OA.out.s1⟩ ⟨OB.out.s0, OB.out.s1⟩ (by omega)
                have := HLEN.out
                simp; omega
              have hSS : (C4 wb.drew w.heap.size an acn ao aco a ∧ C4 wb.drew (w.heap.size + 1) bn bcn bo bco b) ∧ wb.drew.cell? ⟨g11, q11 + n, none⟩ = some (.int .i64 y) ∧ wb.drew.cell? ⟨g12, q12 + n, none⟩ = some (.int .i64 z) := ⟨hSS, by simpa using hyc, by simpa using hzc⟩
              refine wp_region_L (fun w' => (C4 w' w.heap.size an acn ao aco a ∧ C4 w' (w.heap.size + 1) bn bcn bo bco b) ∧ w'.cell? ⟨g11, q11 + n, none⟩ = some (.int .i64 y) ∧ w'.cell? ⟨g12, q12 + n, none⟩ = some (.int .i64 z)) [0, 1, 2, 3, 4, 5, 6, 7, 8, 9, 10, 11, 12, 13, 14, 15, 16, 17, 18, 19, 20, 21, 22, 23, 24, 25, 26, 27, 28, 29, 30, 32, 33, 34, 35, 36, 37, 38, 39, 40, 41, 42, 43, 44, 45, 46, 47, 48, 49, 50, 51, 52, 53, 54, 55, 56] (by kernel_rfl) ?_
              have hpp : decide (l11.take n = l12.take n) = true := by rw [o11.out, o12.out, ← hpn]; simp
              have heq := equal_is hq11.1 hq12.1 hpp
              rw [hq11.2, hq12.2] at heq
              have HEQ := Lib.hid heq
              clear hBb hzb hyc hzc hy' hz' hpn hn o11 o12 hpp heq
              generalize wb.drew = wc at *
              refine wpAnyL_take (i := 0) (v := ?v68) rfl (by kernel_rfl) (by kernel_rfl) (by kernel_rfl) (by kernel_rfl) (fun _ _ _ h => h) (Or.inl ⟨by rfl, ?y68⟩) (by assumption) ?r68
              case y68 => (intro w' hSw; (try dsimp only at hSw); go_simp; try with_reducible rfl)
              try simp only [Act.put, List.setIfInBounds_toArray, List.set_cons_zero, List.set_cons_succ]
              refine wpAnyL_take (i := 1) (v := ?v69) rfl (by kernel_rfl) (by kernel_rfl) (by kernel_rfl) (by kernel_rfl) (fun _ _ _ h => h) (Or.inl ⟨by rfl, ?y69⟩) (by assumption) ?r69
              case y69 => (intro w' hSw; (try dsimp only at hSw); go_simp; try with_reducible rfl)
              try simp only [Act.put, List.setIfInBounds_toArray, List.set_cons_zero, List.set_cons_succ]
              refine wpAnyL_take (i := 2) (v := ?v70) rfl (by kernel_rfl) (by kernel_rfl) (by kernel_rfl) (by kernel_rfl) (fun _ _ _ h => h) (Or.inl ⟨by rfl, ?y70⟩) (by assumption) ?r70
              case y70 => (intro w' hSw; (try dsimp only at hSw); go_simp; try with_reducible rfl)
              try simp only [Act.put, List.setIfInBounds_toArray, List.set_cons_zero, List.set_cons_succ]
              refine wpAnyL_take (i := 3) (v := ?v71) rfl (by kernel_rfl) (by kernel_rfl) (by kernel_rfl) (by kernel_rfl) (fun _ _ _ h => h) (Or.inl ⟨by rfl, ?y71⟩) (by assumption) ?r71
              case y71 => (intro w' hSw; (try dsimp only at hSw); go_simp; try with_reducible rfl)
              try simp only [Act.put, List.setIfInBounds_toArray, List.set_cons_zero, List.set_cons_succ]
              refine wpAnyL_take (i := 4) (v := ?v72) rfl (by kernel_rfl) (by kernel_rfl) (by kernel_rfl) (by kernel_rfl) (fun _ _ _ h => h) (Or.inl ⟨by rfl, ?y72⟩) (by assumption) ?r72
              case y72 => (intro w' hSw; (try dsimp only at hSw); go_simp; try with_reducible rfl)
              try simp only [Act.put, List.setIfInBounds_toArray, List.set_cons_zero, List.set_cons_succ]
              refine wpAnyL_take (i := 5) (v := ?v73) rfl (by kernel_rfl) (by kernel_rfl) (by kernel_rfl) (by kernel_rfl) (fun _ _ _ h => h) (Or.inl ⟨by rfl, ?y73⟩) (by assumption) ?r73
              case y73 => (intro w' hSw; (try dsimp only at hSw); go_simp; try with_reducible rfl)
              try simp only [Act.put, List.setIfInBounds_toArray, List.set_cons_zero, List.set_cons_succ]
              refine wpAnyL_take (i := 6) (v := ?v74) rfl (by kernel_rfl) (by kernel_rfl) (by kernel_rfl) (by kernel_rfl) (fun _ _ _ h => h) (Or.inl ⟨by rfl, ?y74⟩) (by assumption) ?r74
              case y74 => (intro w' hSw; (try dsimp only at hSw); go_simp; try with_reducible rfl)
              try simp only [Act.put, List.setIfInBounds_toArray, List.set_cons_zero, List.set_cons_succ]
              refine wpAnyL_take (i := 7) (v := ?v75) rfl (by kernel_rfl) (by kernel_rfl) (by kernel_rfl) (by kernel_rfl) (fun _ _ _ h => h) (Or.inl ⟨by rfl, ?y75⟩) (by assumption) ?r75
              case y75 => (intro w' hSw; (try dsimp only at hSw); go_simp; try with_reducible rfl)
              try simp only [Act.put, List.setIfInBounds_toArray, List.set_cons_zero, List.set_cons_succ]
              refine wpAnyL_take (i := 8) (v := ?v76) rfl (by kernel_rfl) (by kernel_rfl) (by kernel_rfl) (by kernel_rfl) (fun _ _ _ h => h) (Or.inl ⟨by rfl, ?y76⟩) (by assumption) ?r76
              case y76 => (intro w' hSw; (try dsimp only at hSw); go_simp; try with_reducible rfl)
              try simp only [Act.put, List.setIfInBounds_toArray, List.set_cons_zero, List.set_cons_succ]
              refine wpAnyL_take (i := 9) (v := ?v77) rfl (by kernel_rfl) (by kernel_rfl) (by kernel_rfl) (by kernel_rfl) (fun _ _ _ h => h) (Or.inl ⟨by rfl, ?y77⟩) (by assumption) ?r77
              case y77 => (intro w' hSw; (try dsimp only at hSw); go_simp; try with_reducible rfl)
              try simp only [Act.put, List.setIfInBounds_toArray, List.set_cons_zero, List.set_cons_succ]
              refine wpAnyL_take (i := 10) (v := ?v78) rfl (by kernel_rfl) (by kernel_rfl) (by kernel_rfl) (by kernel_rfl) (fun _ _ _ h => h) (Or.inl ⟨by rfl, ?y78⟩) (by assumption) ?r78
              case y78 => (intro w' hSw; (try dsimp only at hSw); go_simp; try with_reducible rfl)
              try simp only [Act.put, List.setIfInBounds_toArray, List.set_cons_zero, List.set_cons_succ]
              refine wpAnyL_take (i := 11) (v := ?v79) rfl (by kernel_rfl) (by kernel_rfl) (by kernel_rfl) (by kernel_rfl) (fun _ _ _ h => h) (Or.inl ⟨by rfl, ?y79⟩) (by assumption) ?r79
              case y79 => (intro w' hSw; (try dsimp only at hSw); go_simp; try with_reducible rfl)
              try simp only [Act.put, List.setIfInBounds_toArray, List.set_cons_zero, List.set_cons_succ]
              refine wpAnyL_take (i := 12) (v := ?v80) rfl (by kernel_rfl) (by kernel_rfl) (by kernel_rfl) (by kernel_rfl) (fun _ _ _ h => h) (Or.inl ⟨by rfl, ?y80⟩) (by assumption) ?r80
              case y80 => (intro w' hSw; (try dsimp only at hSw); go_simp; try with_reducible rfl)
              try simp only [Act.put, List.setIfInBounds_toArray, List.set_cons_zero, List.set_cons_succ]
              refine wpAnyL_take (i := 13) (v := ?v81) rfl (by kernel_rfl) (by kernel_rfl) (by kernel_rfl) (by kernel_rfl) (fun _ _ _ h => h) (Or.inl ⟨by rfl, ?y81⟩) (by assumption) ?r81
              case y81 => (intro w' hSw; (try dsimp only at hSw); go_simp; try with_reducible rfl)
              try simp only [Act.put, List.setIfInBounds_toArray, List.set_cons_zero, List.set_cons_succ]
              refine wpAnyL_take (i := 14) (v := ?v82) rfl (by kernel_rfl) (by kernel_rfl) (by kernel_rfl) (by kernel_rfl) (fun _ _ _ h => h) (Or.inl ⟨by rfl, ?y82⟩) (by assumption) ?r82
              case y82 => (intro w' hSw; (try dsimp only at hSw); go_simp; try with_reducible rfl)
              try simp only [Act.put, List.setIfInBounds_toArray, List.set_cons_zero, List.set_cons_succ]
              refine wpAnyL_take (i := 15) (v := ?v83) rfl (by kernel_rfl) (by kernel_rfl) (by kernel_rfl) (by kernel_rfl) (fun _ _ _ h => h) (Or.inl ⟨by rfl, ?y83⟩) (by assumption) ?r83
              case y83 => (intro w' hSw; (try dsimp only at hSw); go_simp; try with_reducible rfl)
              try simp only [Act.put, List.setIfInBounds_toArray, List.set_cons_zero, List.set_cons_succ]
              refine wpAnyL_take (i := 16) (v := ?v84) rfl (by kernel_rfl) (by kernel_rfl) (by kernel_rfl) (by kernel_rfl) (fun _ _ _ h => h) (Or.inl ⟨by rfl, ?y84⟩) (by assumption) ?r84
              case y84 => (intro w' hSw; (try dsimp only at hSw); go_simp; try with_reducible rfl)
              try simp only [Act.put, List.setIfInBounds_toArray, List.set_cons_zero, List.set_cons_succ]
              refine wpAnyL_take (i := 17) (v := ?v85) rfl (by kernel_rfl) (by kernel_rfl) (by kernel_rfl) (by kernel_rfl) (fun _ _ _ h => h) (Or.inl ⟨by rfl, ?y85⟩) (by assumption) ?r85
              case y85 => (intro w' hSw; (try dsimp only at hSw); go_simp; try with_reducible rfl)
              try simp only [Act.put, List.setIfInBounds_toArray, List.set_cons_zero, List.set_cons_succ]
              refine wpAnyL_take (i := 18) (v := ?v86) rfl (by kernel_rfl) (by kernel_rfl) (by kernel_rfl) (by kernel_rfl) (fun _ _ _ h => h) (Or.inl ⟨by rfl, ?y86⟩) (by assumption) ?r86
              case y86 => (intro w' hSw; (try dsimp only at hSw); go_simp; try with_reducible rfl)
              try simp only [Act.put, List.setIfInBounds_toArray, List.set_cons_zero, List.set_cons_succ]
              refine wpAnyL_take (i := 19) (v := ?v87) rfl (by kernel_rfl) (by kernel_rfl) (by kernel_rfl) (by kernel_rfl) (fun _ _ _ h => h) (Or.inl ⟨by rfl, ?y87⟩) (by assumption) ?r87
              case y87 => (intro w' hSw; (try dsimp only at hSw); go_simp; try with_reducible rfl)
              try simp only [Act.put, List.setIfInBounds_toArray, List.set_cons_zero, List.set_cons_succ]
              refine wpAnyL_take (i := 20) (v := ?v88) rfl (by kernel_rfl) (by kernel_rfl) (by kernel_rfl) (by kernel_rfl) (fun _ _ _ h => h) (Or.inl ⟨by rfl, ?y88⟩) (by assumption) ?r88
              case y88 => (intro w' hSw; (try dsimp only at hSw); go_simp; try with_reducible rfl)
              try simp only [Act.put, List.setIfInBounds_toArray, List.set_cons_zero, List.set_cons_succ]
              refine wpAnyL_take (i := 21) (v := ?v89) rfl (by kernel_rfl) (by kernel_rfl) (by kernel_rfl) (by kernel_rfl) (fun _ _ _ h => h) (Or.inl ⟨by rfl, ?y89⟩) (by assumption) ?r89
              case y89 => (intro w' hSw; (try dsimp only at hSw); go_simp; try with_reducible rfl)
              try simp only [Act.put, List.setIfInBounds_toArray, List.set_cons_zero, List.set_cons_succ]
              refine wpAnyL_take (i := 22) (v := ?v90) rfl (by kernel_rfl) (by kernel_rfl) (by kernel_rfl) (by kernel_rfl) (fun _ _ _ h => h) (Or.inl ⟨by rfl, ?y90⟩) (by assumption) ?r90
              case y90 => (intro w' hSw; (try dsimp only at hSw); go_simp; try with_reducible rfl)
              try simp only [Act.put, List.setIfInBounds_toArray, List.set_cons_zero, List.set_cons_succ]
              refine wpAnyL_take (i := 23) (v := ?v91) rfl (by kernel_rfl) (by kernel_rfl) (by kernel_rfl) (by kernel_rfl) (fun _ _ _ h => h) (Or.inl ⟨by rfl, ?y91⟩) (by assumption) ?r91
              case y91 => (intro w' hSw; (try dsimp only at hSw); go_simp; try with_reducible rfl)
              try simp only [Act.put, List.setIfInBounds_toArray, List.set_cons_zero, List.set_cons_succ]
              refine wpAnyL_take (i := 24) (v := ?v92) rfl (by kernel_rfl) (by kernel_rfl) (by kernel_rfl) (by kernel_rfl) (fun _ _ _ h => h) (Or.inl ⟨by rfl, ?y92⟩) (by assumption) ?r92
              case y92 => (intro w' hSw; (try dsimp only at hSw); go_simp; try with_reducible rfl)
              try simp only [Act.put, List.setIfInBounds_toArray, List.set_cons_zero, List.set_cons_succ]
              refine wpAnyL_take (i := 25) (v := ?v93) rfl (by kernel_rfl) (by kernel_rfl) (by kernel_rfl) (by kernel_rfl) (fun _ _ _ h => h) (Or.inl ⟨by rfl, ?y93⟩) (by assumption) ?r93
              case y93 => (intro w' hSw; (try dsimp only at hSw); go_simp; try with_reducible rfl)
              try simp only [Act.put, List.setIfInBounds_toArray, List.set_cons_zero, List.set_cons_succ]
              refine wpAnyL_take (i := 26) (v := ?v94) rfl (by kernel_rfl) (by kernel_rfl) (by kernel_rfl) (by kernel_rfl) (fun _ _ _ h => h) (Or.inl ⟨by rfl, ?y94⟩) (by assumption) ?r94
              case y94 => (intro w' hSw; (try dsimp only at hSw); go_simp; try with_reducible rfl)
              try simp only [Act.put, List.setIfInBounds_toArray, List.set_cons_zero, List.set_cons_succ]
              refine wpAnyL_take (i := 27) (v := ?v95) rfl (by kernel_rfl) (by kernel_rfl) (by kernel_rfl) (by kernel_rfl) (fun _ _ _ h => h) (Or.inl ⟨by rfl, ?y95⟩) (by assumption) ?r95
              case y95 => (intro w' hSw; (try dsimp only at hSw); go_simp; try with_reducible rfl)
              try simp only [Act.put, List.setIfInBounds_toArray, List.set_cons_zero, List.set_cons_succ]
              refine wpAnyL_take (i := 28) (v := ?v96) rfl (by kernel_rfl) (by kernel_rfl) (by kernel_rfl) (by kernel_rfl) (fun _ _ _ h => h) (Or.inl ⟨by rfl, ?y96⟩) (by assumption) ?r96
              case y96 => (intro w' hSw; (try dsimp only at hSw); go_simp; try with_reducible rfl)
              try simp only [Act.put, List.setIfInBounds_toArray, List.set_cons_zero, List.set_cons_succ]
              refine wpAnyL_take (i := 29) (v := ?v97) rfl (by kernel_rfl) (by kernel_rfl) (by kernel_rfl) (by kernel_rfl) (fun _ _ _ h => h) (Or.inl ⟨by rfl, ?y97⟩) (by assumption) ?r97
              case y97 => (intro w' hSw; (try dsimp only at hSw); go_simp; try with_reducible rfl)
              try simp only [Act.put, List.setIfInBounds_toArray, List.set_cons_zero, List.set_cons_succ]
              refine wpAnyL_take (i := 30) (v := ?v98) rfl (by kernel_rfl) (by kernel_rfl) (by kernel_rfl) (by kernel_rfl) (fun _ _ _ h => h) (Or.inl ⟨by rfl, ?y98⟩) (by assumption) ?r98
              case y98 => (intro w' hSw; (try dsimp only at hSw); go_simp; try with_reducible rfl)
              try simp only [Act.put, List.setIfInBounds_toArray, List.set_cons_zero, List.set_cons_succ]
              refine wpAnyL_one (i := 31) (by kernel_rfl) rfl rfl (fun K hK => ?_)
              go_simp
              refine (HEQ.out).mono ?_
              rintro e wd ⟨rfl, nd, rfl⟩
              have hBd2 : Below (w.heap.size + 2) ((w.alloc (maO a an acn ao aco)).alloc (maO b bn bcn bo bco)) (wc.drewN nd) := bl_drewN hBd nd
              have hzd2 : w.heap.size + 2 ≤ (wc.drewN nd).heap.size := hzd
              have hbd := below_drewN wc.heap.size wc nd
              have hSd : (C4 (wc.drewN nd) w.heap.size an acn ao aco a ∧ C4 (wc.drewN nd) (w.heap.size + 1) bn bcn bo bco b) ∧ (wc.drewN nd).cell? ⟨g11, q11 + n, none⟩ = some (.int .i64 y) ∧ (wc.drewN nd).cell? ⟨g12, q12 + n, none⟩ = some (.int .i64 z) := ⟨⟨hSS.1.1.below hbd (by omega), hSS.1.2.below hbd (by omega)⟩, (hbd.cell (p := ⟨g11, q11 + n, none⟩) (lt_of_cell hSS.2.1)).trans hSS.2.1, (hbd.cell (p := ⟨g12, q12 + n, none⟩) (lt_of_cell hSS.2.2)).trans hSS.2.2⟩
              refine hK _ _ (fun _ => hSd) ?_
              clear hK K hSS hbd hBd hzd HEQ hq11 hq12 HS11 HS12
              generalize wc.drewN nd = we at *
              refine wpAnyL_take (i := 32) (v := ?v99) rfl (by kernel_rfl) (by kernel_rfl) (by kernel_rfl) (by kernel_rfl) (fun _ _ _ h => h) (Or.inl ⟨by rfl, ?y99⟩) (by assumption) ?r99
              case y99 => (intro w' hSw; (try dsimp only at hSw); go_simp; try with_reducible rfl)
              try simp only [Act.put, List.setIfInBounds_toArray, List.set_cons_zero, List.set_cons_succ]
              refine wpAnyL_take (i := 33) (v := ?v100) rfl (by kernel_rfl) (by kernel_rfl) (by kernel_rfl) (by kernel_rfl) (fun _ _ _ h => h) (Or.inl ⟨by rfl, ?y100⟩) (by assumption) ?r100
              case y100 => (intro w' hSw; (try dsimp only at hSw); go_simp; try with_reducible rfl)
              try simp only [Act.put, List.setIfInBounds_toArray, List.set_cons_zero, List.set_cons_succ]
              refine wpAnyL_take (i := 34) (v := ?v101) rfl (by kernel_rfl) (by kernel_rfl) (by kernel_rfl) (by kernel_rfl) (fun _ _ _ h => h) (Or.inl ⟨by rfl, ?y101⟩) (by assumption) ?r101
              case y101 => (intro w' hSw; (try dsimp only at hSw); go_simp; try with_reducible rfl)
              try simp only [Act.put, List.setIfInBounds_toArray, List.set_cons_zero, List.set_cons_succ]
              refine wpAnyL_take (i := 35) (v := ?v102) rfl (by kernel_rfl) (by kernel_rfl) (by kernel_rfl) (by kernel_rfl) (fun _ _ _ h => h) (Or.inl ⟨by rfl, ?y102⟩) (by assumption) ?r102
              case y102 => (intro w' hSw; (try dsimp only at hSw); go_simp; try with_reducible rfl)
              try simp only [Act.put, List.setIfInBounds_toArray, List.set_cons_zero, List.set_cons_succ]
              refine wpAnyL_take (i := 36) (v := ?v103) rfl (by kernel_rfl) (by kernel_rfl) (by kernel_rfl) (by kernel_rfl) (fun _ _ _ h => h) (Or.inl ⟨by rfl, ?y103⟩) (by assumption) ?r103
              case y103 => (intro w' hSw; (try dsimp only at hSw); go_simp; try with_reducible rfl)
              try simp only [Act.put, List.setIfInBounds_toArray, List.set_cons_zero, List.set_cons_succ]
              refine wpAnyL_take (i := 37) (v := ?v104) rfl (by kernel_rfl) (by kernel_rfl) (by kernel_rfl) (by kernel_rfl) (fun _ _ _ h => h) (Or.inl ⟨by rfl, ?y104⟩) (by assumption) ?r104
              case y104 => (intro w' hSw; (try dsimp only at hSw); go_simp; try with_reducible rfl)
              try simp only [Act.put, List.setIfInBounds_toArray, List.set_cons_zero, List.set_cons_succ]
              refine wpAnyL_take (i := 38) (v := ?v105) rfl (by kernel_rfl) (by kernel_rfl) (by kernel_rfl) (by kernel_rfl) (fun _ _ _ h => h) (Or.inl ⟨by rfl, ?y105⟩) (by assumption) ?r105
              case y105 => (intro w' hSw; (try dsimp only at hSw); go_simp; try with_reducible rfl)
              try simp only [Act.put, List.setIfInBounds_toArray, List.set_cons_zero, List.set_cons_succ]
              refine wpAnyL_take (i := 39) (v := ?v106) rfl (by kernel_rfl) (by kernel_rfl) (by kernel_rfl) (by kernel_rfl) (fun _ _ _ h => h) (Or.inl ⟨by rfl, ?y106⟩) (by assumption) ?r106
              case y106 => (intro w' hSw; (try dsimp only at hSw); go_simp; try with_reducible rfl)
              try simp only [Act.put, List.setIfInBounds_toArray, List.set_cons_zero, List.set_cons_succ]
              refine wpAnyL_take (i := 40) (v := ?v107) rfl (by kernel_rfl) (by kernel_rfl) (by kernel_rfl) (by kernel_rfl) (fun _ _ _ h => h) (Or.inl ⟨by rfl, ?y107⟩) (by assumption) ?r107
              case y107 => (intro w' hSw; (try dsimp only at hSw); go_simp; try with_reducible rfl)
              try simp only [Act.put, List.setIfInBounds_toArray, List.set_cons_zero, List.set_cons_succ]
              refine wpAnyL_take (i := 41) (v := ?v108) rfl (by kernel_rfl) (by kernel_rfl) (by kernel_rfl) (by kernel_rfl) (fun _ _ _ h => h) (Or.inl ⟨by rfl, ?y108⟩) (by assumption) ?r108
              case y108 => (intro w' hSw; (try dsimp only at hSw); go_simp; try with_reducible rfl)
              try simp only [Act.put, List.setIfInBounds_toArray, List.set_cons_zero, List.set_cons_succ]
              refine wpAnyL_take (i := 42) (v := ?v109) rfl (by kernel_rfl) (by kernel_rfl) (by kernel_rfl) (by kernel_rfl) (fun _ _ _ h => h) (Or.inl ⟨by rfl, ?y109⟩) (by assumption) ?r109
              case y109 => (intro w' hSw; (try dsimp only at hSw); go_simp; try with_reducible rfl)
              try simp only [Act.put, List.setIfInBounds_toArray, List.set_cons_zero, List.set_cons_succ]
              refine wpAnyL_take (i := 43) (v := ?v110) rfl (by kernel_rfl) (by kernel_rfl) (by kernel_rfl) (by kernel_rfl) (fun _ _ _ h => h) (Or.inl ⟨by rfl, ?y110⟩) (by assumption) ?r110
              case y110 => (intro w' hSw; (try dsimp only at hSw); go_simp; try with_reducible rfl)
              try simp only [Act.put, List.setIfInBounds_toArray, List.set_cons_zero, List.set_cons_succ]
              refine wpAnyL_take (i := 44) (v := ?v111) rfl (by kernel_rfl) (by kernel_rfl) (by kernel_rfl) (by kernel_rfl) (fun _ _ _ h => h) (Or.inl ⟨by rfl, ?y111⟩) (by assumption) ?r111
              case y111 => (intro w' hSw; (try dsimp only at hSw); go_simp; try with_reducible rfl)
              try simp only [Act.put, List.setIfInBounds_toArray, List.set_cons_zero, List.set_cons_succ]
              refine wpAnyL_take (i := 45) (v := ?v112) rfl (by kernel_rfl) (by kernel_rfl) (by kernel_rfl) (by kernel_rfl) (fun _ _ _ h => h) (Or.inl ⟨by rfl, ?y112⟩) (by assumption) ?r112
              case y112 => (intro w' hSw; (try dsimp only at hSw); go_simp; try with_reducible rfl)
              try simp only [Act.put, List.setIfInBounds_toArray, List.set_cons_zero, List.set_cons_succ]
              refine wpAnyL_take (i := 46) (v := ?v113) rfl (by kernel_rfl) (by kernel_rfl) (by kernel_rfl) (by kernel_rfl) (fun _ _ _ h => h) (Or.inl ⟨by rfl, ?y113⟩) (by assumption) ?r113
              case y113 => (intro w' hSw; (try dsimp only at hSw); go_simp; try with_reducible rfl)
              try simp only [Act.put, List.setIfInBounds_toArray, List.set_cons_zero, List.set_cons_succ]
              refine wpAnyL_take (i := 47) (v := ?v114) rfl (by kernel_rfl) (by kernel_rfl) (by kernel_rfl) (by kernel_rfl) (fun _ _ _ h => h) (Or.inl ⟨by rfl, ?y114⟩) (by assumption) ?r114
              case y114 => (intro w' hSw; (try dsimp only at hSw); go_simp; try with_reducible rfl)
              try simp only [Act.put, List.setIfInBounds_toArray, List.set_cons_zero, List.set_cons_succ]
              refine wpAnyL_take (i := 48) (v := ?v115) rfl (by kernel_rfl) (by kernel_rfl) (by kernel_rfl) (by kernel_rfl) (fun _ _ _ h => h) (Or.inl ⟨by rfl, ?y115⟩) (by assumption) ?r115
              case y115 => (intro w' hSw; (try dsimp only at hSw); go_simp; try with_reducible rfl)
              try simp only [Act.put, List.setIfInBounds_toArray, List.set_cons_zero, List.set_cons_succ]
              refine wpAnyL_take (i := 49) (v := ?v116) rfl (by kernel_rfl) (by kernel_rfl) (by kernel_rfl) (by kernel_rfl) (fun _ _ _ h => h) (Or.inl ⟨by rfl, ?y116⟩) (by assumption) ?r116
              case y116 => (intro w' hSw; (try dsimp only at hSw); go_simp; try with_reducible rfl)
              try simp only [Act.put, List.setIfInBounds_toArray, List.set_cons_zero, List.set_cons_succ]
              refine wpAnyL_take (i := 50) (v := ?v117) rfl (by kernel_rfl) (by kernel_rfl) (by kernel_rfl) (by kernel_rfl) (fun _ _ _ h => h) (Or.inl ⟨by rfl, ?y117⟩) (by assumption) ?r117
              case y117 => (intro w' hSw; (try dsimp only at hSw); go_simp; try with_reducible rfl)
              try simp only [Act.put, List.setIfInBounds_toArray, List.set_cons_zero, List.set_cons_succ]
              refine wpAnyL_take (i := 51) (v := ?v118) rfl (by kernel_rfl) (by kernel_rfl) (by kernel_rfl) (by kernel_rfl) (fun _ _ _ h => h) (Or.inl ⟨by rfl, ?y118⟩) (by assumption) ?r118
              case y118 => (intro w' hSw; (try dsimp only at hSw); go_simp; try with_reducible rfl)
              try simp only [Act.put, List.setIfInBounds_toArray, List.set_cons_zero, List.set_cons_succ]
              refine wpAnyL_take (i := 52) (v := ?v119) rfl (by kernel_rfl) (by kernel_rfl) (by kernel_rfl) (by kernel_rfl) (fun _ _ _ h => h) (Or.inl ⟨by rfl, ?y119⟩) (by assumption) ?r119
              case y119 => (intro w' hSw; (try dsimp only at hSw); go_simp; try with_reducible rfl)
              try simp only [Act.put, List.setIfInBounds_toArray, List.set_cons_zero, List.set_cons_succ]
              refine wpAnyL_take (i := 53) (v := ?v120) rfl (by kernel_rfl) (by kernel_rfl) (by kernel_rfl) (by kernel_rfl) (fun _ _ _ h => h) (Or.inl ⟨by rfl, ?y120⟩) (by assumption) ?r120
              case y120 => (intro w' hSw; (try dsimp only at hSw); go_simp; try with_reducible rfl)
              try simp only [Act.put, List.setIfInBounds_toArray, List.set_cons_zero, List.set_cons_succ]
              refine wpAnyL_take (i := 54) (v := ?v121) rfl (by kernel_rfl) (by kernel_rfl) (by kernel_rfl) (by kernel_rfl) (fun _ _ _ h => h) (Or.inl ⟨by rfl, ?y121⟩) (by assumption) ?r121
              case y121 => (intro w' hSw; (try dsimp only at hSw); go_simp; try with_reducible rfl)
              try simp only [Act.put, List.setIfInBounds_toArray, List.set_cons_zero, List.set_cons_succ]
              refine wpAnyL_take (i := 55) (v := ?v122) rfl (by kernel_rfl) (by kernel_rfl) (by kernel_rfl) (by kernel_rfl) (fun _ _ _ h => h) (Or.inl ⟨by rfl, ?y122⟩) (by assumption) ?r122
              case y122 => (intro w' hSw; (try dsimp only at hSw); go_simp; try with_reducible rfl)
              try simp only [Act.put, List.setIfInBounds_toArray, List.set_cons_zero, List.set_cons_succ]
              refine wpAnyL_take (i := 56) (v := ?v123) rfl (by kernel_rfl) (by kernel_rfl) (by kernel_rfl) (by kernel_rfl) (fun _ _ _ h => h) (Or.inl ⟨by rfl, ?y123⟩) (by assumption) ?r123
              case y123 => (intro w' hSw; (try dsimp only at hSw); go_simp; try with_reducible rfl)
              try simp only [Act.put, List.setIfInBounds_toArray, List.set_cons_zero, List.set_cons_succ]
              refine wpAnyL_one (i := 57) (by kernel_rfl) rfl rfl (fun K hK => ?_)
              go_simp
              refine (ex9_any).mono ?_
              rintro e wz ⟨rfl, hbz⟩
              have hBf := h0.trans ((hBd2.trans (hbz.mono hzd2)).mono (by omega))
              have hSz : (C4 wz w.heap.size an acn ao aco a ∧ C4 wz (w.heap.size + 1) bn bcn bo bco b) ∧ wz.cell? ⟨g11, q11 + n, none⟩ = some (.int .i64 y) ∧ wz.cell? ⟨g12, q12 + n, none⟩ = some (.int .i64 z) := ⟨⟨hSd.1.1.below hbz (by omega), hSd.1.2.below hbz (by omega)⟩, (hbz.cell (p := ⟨g11, q11 + n, none⟩) (lt_of_cell hSd.2.1)).trans hSd.2.1, (hbz.cell (p := ⟨g12, q12 + n, none⟩) (lt_of_cell hSd.2.2)).trans hSd.2.2⟩
              refine hK _ _ (fun _ => hSz) ?_
              clear hK K hSd hbz hBd2 hzd2
              refine wpAnyL_one (i := 58) (by kernel_rfl) rfl rfl (fun K hK => ?_)
              go_simp
              refine hK _ _ (fun _ => hSz) ?_
              clear hK K
              refine wpAnyL_one (i := 59) (by kernel_rfl) rfl rfl (fun K hK => ?_)
              go_simp
              refine hK _ _ (fun _ => hSz) ?_
              clear hK K
              refine wpAnyL_done (by kernel_rfl) ?_ _
              go_wp2
              go_ret
              exact ⟨rfl, hBf⟩
          · have tz : (a.frErr a.start l == 0) = false := by rw [r7.1]; simp [hE]
            have hBq := hB8
            have hzq := hz8
            clear hE r7 r8 hl7 hl8 hsame HS7 HS8 HX8 hB8 hz8 hB8w
            generalize w8 = wq at *
            have hqa := hCa.below hBq (by omega)
            have hqb := hCb.below hBq (by omega)
            have HD := Lib.hid (mrun_any (HA.out.below (hBq.mono (by rw [HW0.out]; exact Nat.le_refl _))) HS4.out)
            clear h8a h8b
            go_wp2_with fail
            refine (HD.out).mono ?_
            rintro e wa ⟨a11, c11, l11, rfl, hl11, hs11, hb11⟩
            have hBa := hBq.trans (hb11.mono hzq)
            have hza : w.heap.size + 2 ≤ wa.heap.size := Nat.le_trans hzq hb11.size
            have HS4 := Lib.hid (HS4.out.below hb11)
            have HS11 := Lib.hid (hs11.anti (M' := fun _ => False) (fun _ _ h => h.elim))
            clear hb11 HD hqa hqb hs11 hBq hzq
            have h11a := hCa.below hBa (by omega)
            have h11b := hCb.below hBa (by omega)
            have HD := Lib.hid (mrun_any (HB.out.below (hBa.mono (by rw [HW0.out]; exact Nat.le_refl _))) HS4.out)
            go_wp2_with fail
            refine (HD.out).mono ?_
            rintro e wb ⟨a12, c12, l12, rfl, hl12, hs12, hb12⟩
            have hBb := hBa.trans (hb12.mono hza)
            have hzb : w.heap.size + 2 ≤ wb.heap.size := Nat.le_trans hza hb12.size
            have HS11 := Lib.hid (HS11.out.below hb12)
            have HS12 := Lib.hid (hs12.anti (M' := fun _ => False) (fun _ _ h => h.elim))
            clear hb12 HD h11a h11b hs12 hBa hza HS4
            have hv0 : wErr l5 a.inputs = 0 := wErr_ok OA.out HBT.out.1.1 (by omega)
            have r11 := Mach.run_out OAE.out l5
            have r12 := Mach.run_out OBE.out l5
            rw [← HI.out] at r12
            have t11 : (a.frErr a.start l5 == 0) = true := by rw [r11.1, hv0]; rfl
            have t12 : (b.frErr b.start l5 == 0) = true := by rw [r12.1, hv0]; rfl
            obtain ⟨p, q, y, z, hne, e1, e2, hpq, hyz, hlen⟩ := HBT.out.last
            have o11 : Hid (l11 = p ++ [y]) := by unfold Hid; rw [hl11.out, r11.2, if_pos hv0, e1]
            have o12 : Hid (l12 = p ++ [z]) := by unfold Hid; rw [hl12.out, r12.2, if_pos hv0, e2, hpq]
            have HLEN : Hid (l5.length = p.length + 1) := hlen.symm
            have hyz2 : (y != z) = true := by simp [hyz]
            have hSS : C4 wb.drew w.heap.size an acn ao aco a ∧ C4 wb.drew (w.heap.size + 1) bn bcn bo bco b := ⟨(hCa.below hBb (by omega)).drew, (hCb.below hBb (by omega)).drew⟩
            clear hl11 hl12 r11 r12 hv0 e1 e2 hpq hyz hlen hne
            have hBd := hBb.drew
            have hzd : w.heap.size + 2 ≤ wb.drew.heap.size := hzb
            have HS11 := Lib.hid HS11.out.drew
            have HS12 := Lib.hid HS12.out.drew
            go_wp2
            obtain ⟨n, hn⟩ : ∃ n : Nat, ((l5.length : Nat) : Int) - 1 = (n : Int) ∧ p.length = n := ⟨p.length, by have := HLEN.out; omega, rfl⟩
            obtain ⟨hn, hpn⟩ := hn
            rw [hn]
            have HPN := Lib.hid hpn
            have HL11 : Hid (l11.length = n + 1) := by unfold Hid; rw [o11.out, List.length_append, hpn]; rfl
            have HL12 : Hid (l12.length = n + 1) := by unfold Hid; rw [o12.out, List.length_append, hpn]; rfl
            have hn24 : n < 24 := by have := HLEN.out; omega
            have hl11n : n < l11.length := by have := HL11.out; omega
            have hl12n : n < l12.length := by have := HL12.out; omega
            obtain ⟨g11, q11, y', rfl, hyc, hy', -⟩ := HS11.out.at_int hl11n
            obtain ⟨g12, q12, z', rfl, hzc, hz', -⟩ := HS12.out.at_int hl12n
            obtain rfl : y = y' := by
              have h := hy'.out
              rw [o11.out, List.getElem?_append_right (by omega), hpn, Nat.sub_self] at h
              simpa using h
            obtain rfl : z = z' := by
              have h := hz'.out
              rw [o12.out, List.getElem?_append_right (by omega), hpn, Nat.sub_self] at h
              simpa using h
            have hq11 := HS11.out.take n (by omega)
            have hq12 := HS12.out.take n (by omega)
            have hc11 : n ≤ c11 := by have := HS11.out.1; omega
            have hc12 : n ≤ c12 := by have := HS12.out.1; omega
            have hwn : IntKind.i64.wrap ((n : Int) + 1) = (n : Int) + 1 := IntWalk.i64_in _ (by omega)
            have t13 : (((l11.length : Nat) : Int) == (n : Int) + 1) = true := by have := HL11.out; simp; omega
            have t14 : (((l12.length : Nat) : Int) == (n : Int) + 1) = true := by have := HL12.out; simp; omega
            have hga12 := great_len HGA.out
            have hgb12 := great_len HGB.out
            have hwl : IntKind.i64.wrap (((a.next.length : Nat) : Int) + ((b.next.length : Nat) : Int)) = ((a.next.length : Nat) : Int) + ((b.next.length : Nat) : Int) := IntWalk.i64_in _ (by omega)
            have tlt : decide ((n : Int) + 1 < ((a.next.length : Nat) : Int) + ((b.next.length : Nat) : Int)) = true := by
              have := HBT.out.len OA.out OB.out HI.out ⟨OA.out.s0, OA.out.s1⟩ ⟨OB.out.s0, OB.out.s1⟩ (by omega)
              have := HLEN.out
              simp; omega
            have hSS : (C4 wb.drew w.heap.size an acn ao aco a ∧ C4 wb.drew (w.heap.size + 1) bn bcn bo bco b) ∧ wb.drew.cell? ⟨g11, q11 + n, none⟩ = some (.int .i64 y) ∧ wb.drew.cell? ⟨g12, q12 + n, none⟩ = some (.int .i64 z) := ⟨hSS, by simpa using hyc, by simpa using hzc⟩
            refine wp_region_L (fun w' => (C4 w' w.heap.size an acn ao aco a ∧ C4 w' (w.heap.size + 1) bn bcn bo bco b) ∧ w'.cell? ⟨g11, q11 + n, none⟩ = some (.int .i64 y) ∧ w'.cell? ⟨g12, q12 + n, none⟩ = some (.int .i64 z)) [0, 1, 2, 3, 4, 5, 6, 7, 8, 9, 10, 11, 12, 13, 14, 15, 16, 17, 18, 19, 20, 21, 22, 23, 24, 25, 26, 27, 28, 29, 30, 32, 33, 34, 35, 36, 37, 38, 39, 40, 41, 42, 43, 44, 45, 46, 47, 48, 49, 50, 51, 52, 53, 54, 55, 56] (by kernel_rfl) ?_
            have hpp : decide (l11.take n = l12.take n) = true := by rw [o11.out, o12.out, ← hpn]; simp
            have heq := equal_is hq11.1 hq12.1 hpp
            rw [hq11.2, hq12.2] at heq
            have HEQ := Lib.hid heq
            clear hBb hzb hyc hzc hy' hz' hpn hn o11 o12 hpp heq
            generalize wb.drew = wc at *
            refine wpAnyL_take (i := 0) (v := ?v124) rfl (by kernel_rfl) (by kernel_rfl) (by kernel_rfl) (by kernel_rfl) (fun _ _ _ h => h) (Or.inl ⟨by rfl, ?y124⟩) (by assumption) ?r124
            case y124 => (intro w' hSw; (try dsimp only at hSw); go_simp; try with_reducible rfl)
            try simp only [Act.put, List.setIfInBounds_toArray, List.set_cons_zero, List.set_cons_succ]
            refine wpAnyL_take (i := 1) (v := ?v125) rfl (by kernel_rfl) (by kernel_rfl) (by kernel_rfl) (by kernel_rfl) (fun _ _ _ h => h) (Or.inl ⟨by rfl, ?y125⟩) (by assumption) ?r125
            case y125 => (intro w' hSw; (try dsimp only at hSw); go_simp; try with_reducible rfl)
            try simp only [Act.put, List.setIfInBounds_toArray, List.set_cons_zero, List.set_cons_succ]
            refine wpAnyL_take (i := 2) (v := ?v126) rfl (by kernel_rfl) (by kernel_rfl) (by kernel_rfl) (by kernel_rfl) (fun _ _ _ h => h) (Or.inl ⟨by rfl, ?y126⟩) (by assumption) ?r126
            case y126 => (intro w' hSw; (try dsimp only at hSw); go_simp; try with_reducible rfl)
            try simp only [Act.put, List.setIfInBounds_toArray, List.set_cons_zero, List.set_cons_succ]
            refine wpAnyL_take (i := 3) (v := ?v127) rfl (by kernel_rfl) (by kernel_rfl) (by kernel_rfl) (by kernel_rfl) (fun _ _ _ h => h) (Or.inl ⟨by rfl, ?y127⟩) (by assumption) ?r127
            case y127 => (intro w' hSw; (try dsimp only at hSw); go_simp; try with_reducible rfl)
            try simp only [Act.put, List.setIfInBounds_toArray, List.set_cons_zero, List.set_cons_succ]
            refine wpAnyL_take (i := 4) (v := ?v128) rfl (by kernel_rfl) (by kernel_rfl) (by kernel_rfl) (by kernel_rfl) (fun _ _ _ h => h) (Or.inl ⟨by rfl, ?y128⟩) (by assumption) ?r128
            case y128 => (intro w' hSw; (try dsimp only at hSw); go_simp; try with_reducible rfl)
            try simp only [Act.put, List.setIfInBounds_toArray, List.set_cons_zero, List.set_cons_succ]
            refine wpAnyL_take (i := 5) (v := ?v129) rfl (by kernel_rfl) (by kernel_rfl) (by kernel_rfl) (by kernel_rfl) (fun _ _ _ h => h) (Or.inl ⟨by rfl, ?y129⟩) (by assumption) ?r129
            case y129 => (intro w' hSw; (try dsimp only at hSw); go_simp; try with_reducible rfl)
            try simp only [Act.put, List.setIfInBounds_toArray, List.set_cons_zero, List.set_cons_succ]
            refine wpAnyL_take (i := 6) (v := ?v130) rfl (by kernel_rfl) (by kernel_rfl) (by kernel_rfl) (by kernel_rfl) (fun _ _ _ h => h) (Or.inl ⟨by rfl, ?y130⟩) (by assumption) ?r130
            case y130 => (intro w' hSw; (try dsimp only at hSw); go_simp; try with_reducible rfl)
            try simp only [Act.put, List.setIfInBounds_toArray, List.set_cons_zero, List.set_cons_succ]
            refine wpAnyL_take (i := 7) (v := ?v131) rfl (by kernel_rfl) (by kernel_rfl) (by kernel_rfl) (by kernel_rfl) (fun _ _ _ h => h) (Or.inl ⟨by rfl, ?y131⟩) (by assumption) ?r131
            case y131 => (intro w' hSw; (try dsimp only at hSw); go_simp; try with_reducible rfl)
            try simp only [Act.put, List.setIfInBounds_toArray, List.set_cons_zero, List.set_cons_succ]
            refine wpAnyL_take (i := 8) (v := ?v132) rfl (by kernel_rfl) (by kernel_rfl) (by kernel_rfl) (by kernel_rfl) (fun _ _ _ h => h) (Or.inl ⟨by rfl, ?y132⟩) (by assumption) ?r132
            case y132 => (intro w' hSw; (try dsimp only at hSw); go_simp; try with_reducible rfl)
            try simp only [Act.put, List.setIfInBounds_toArray, List.set_cons_zero, List.set_cons_succ]
            refine wpAnyL_take (i := 9) (v := ?v133) rfl (by kernel_rfl) (by kernel_rfl) (by kernel_rfl) (by kernel_rfl) (fun _ _ _ h => h) (Or.inl ⟨by rfl, ?y133⟩) (by assumption) ?r133
            case y133 => (intro w' hSw; (try dsimp only at hSw); go_simp; try with_reducible rfl)
            try simp only [Act.put, List.setIfInBounds_toArray, List.set_cons_zero, List.set_cons_succ]
            refine wpAnyL_take (i := 10) (v := ?v134) rfl (by kernel_rfl) (by kernel_rfl) (by kernel_rfl) (by kernel_rfl) (fun _ _ _ h => h) (Or.inl ⟨by rfl, ?y134⟩) (by assumption) ?r134
            case y134 => (intro w' hSw; (try dsimp only at hSw); go_simp; try with_reducible rfl)
            try simp only [Act.put, List.setIfInBounds_toArray, List.set_cons_zero, List.set_cons_succ]
            refine wpAnyL_take (i := 11) (v := ?v135) rfl (by kernel_rfl) (by kernel_rfl) (by kernel_rfl) (by kernel_rfl) (fun _ _ _ h => h) (Or.inl ⟨by rfl, ?y135⟩) (by assumption) ?r135
            case y135 => (intro w' hSw; (try dsimp only at hSw); go_simp; try with_reducible rfl)
            try simp only [Act.put, List.setIfInBounds_toArray, List.set_cons_zero, List.set_cons_succ]
            refine wpAnyL_take (i := 12) (v := ?v136) rfl (by kernel_rfl) (by kernel_rfl) (by kernel_rfl) (by kernel_rfl) (fun _ _ _ h => h) (Or.inl ⟨by rfl, ?y136⟩) (by assumption) ?r136
            case y136 => (intro w' hSw; (try dsimp only at hSw); go_simp; try with_reducible rfl)
            try simp only [Act.put, List.setIfInBounds_toArray, List.set_cons_zero, List.set_cons_succ]
            refine wpAnyL_take (i := 13) (v := ?v137) rfl (by kernel_rfl) (by kernel_rfl) (by kernel_rfl) (by kernel_rfl) (fun _ _ _ h => h) (Or.inl ⟨by rfl, ?y137⟩) (by assumption) ?r137
            case y137 => (intro w' hSw; (try dsimp only at hSw); go_simp; try with_reducible rfl)
            try simp only [Act.put, List.setIfInBounds_toArray, List.set_cons_zero, List.set_cons_succ]
            refine wpAnyL_take (i := 14) (v := ?v138) rfl (by kernel_rfl) (by kernel_rfl) (by kernel_rfl) (by kernel_rfl) (fun _ _ _ h => h) (Or.inl ⟨by rfl, ?y138⟩) (by assumption) ?r138
            case y138 => (intro w' hSw; (try dsimp only at hSw); go_simp; try with_reducible rfl)
            try simp only [Act.put, List.setIfInBounds_toArray, List.set_cons_zero, List.set_cons_succ]
            refine wpAnyL_take (i := 15) (v := ?v139) rfl (by kernel_rfl) (by kernel_rfl) (by kernel_rfl) (by kernel_rfl) (fun _ _ _ h => h) (Or.inl ⟨by rfl, ?y139⟩) (by assumption) ?r139
            case y139 => (intro w' hSw; (try dsimp only at hSw); go_simp; try with_reducible rfl)
            try simp only [Act.put, List.setIfInBounds_toArray, List.set_cons_zero, List.set_cons_succ]
            refine wpAnyL_take (i := 16) (v := ?v140) rfl (by kernel_rfl) (by kernel_rfl) (by kernel_rfl) (by kernel_rfl) (fun _ _ _ h => h) (Or.inl ⟨by rfl, ?y140⟩) (by assumption) ?r140
            case y140 => (intro w' hSw; (try dsimp only at hSw); go_simp; try with_reducible rfl)
            try simp only [Act.put, List.setIfInBounds_toArray, List.set_cons_zero, List.set_cons_succ]
            refine wpAnyL_take (i := 17) (v := ?v141) rfl (by kernel_rfl) (by kernel_rfl) (by kernel_rfl) (by kernel_rfl) (fun _ _ _ h => h) (Or.inl ⟨by rfl, ?y141⟩) (by assumption) ?r141
            case y141 => (intro w' hSw; (try dsimp only at hSw); go_simp; try with_reducible rfl)
            try simp only [Act.put, List.setIfInBounds_toArray, List.set_cons_zero, List.set_cons_succ]
            refine wpAnyL_take (i := 18) (v := ?v142) rfl (by kernel_rfl) (by kernel_rfl) (by kernel_rfl) (by kernel_rfl) (fun _ _ _ h => h) (Or.inl ⟨by rfl, ?y142⟩) (by assumption) ?r142
            case y142 => (intro w' hSw; (try dsimp only at hSw); go_simp; try with_reducible rfl)
            try simp only [Act.put, List.setIfInBounds_toArray, List.set_cons_zero, List.set_cons_succ]
            refine wpAnyL_take (i := 19) (v := ?v143) rfl (by kernel_rfl) (by kernel_rfl) (by kernel_rfl) (by kernel_rfl) (fun _ _ _ h => h) (Or.inl ⟨by rfl, ?y143⟩) (by assumption) ?r143
            case y143 => (intro w' hSw; (try dsimp only at hSw); go_simp; try with_reducible rfl)
            try simp only [Act.put, List.setIfInBounds_toArray, List.set_cons_zero, List.set_cons_succ]
            refine wpAnyL_take (i := 20) (v := ?v144) rfl (by kernel_rfl) (by kernel_rfl) (by kernel_rfl) (by kernel_rfl) (fun _ _ _ h => h) (Or.inl ⟨by rfl, ?y144⟩) (by assumption) ?r144
            case y144 => (intro w' hSw; (try dsimp only at hSw); go_simp; try with_reducible rfl)
            try simp only [Act.put, List.setIfInBounds_toArray, List.set_cons_zero, List.set_cons_succ]
            refine wpAnyL_take (i := 21) (v := ?v145) rfl (by kernel_rfl) (by kernel_rfl) (by kernel_rfl) (by kernel_rfl) (fun _ _ _ h => h) (Or.inl ⟨by rfl, ?y145⟩) (by assumption) ?r145
            case y145 => (intro w' hSw; (try dsimp only at hSw); go_simp; try with_reducible rfl)
            try simp only [Act.put, List.setIfInBounds_toArray, List.set_cons_zero, List.set_cons_succ]
            refine wpAnyL_take (i := 22) (v := ?v146) rfl (by kernel_rfl) (by kernel_rfl) (by kernel_rfl) (by kernel_rfl) (fun _ _ _ h => h) (Or.inl ⟨by rfl, ?y146⟩) (by assumption) ?r146
            case y146 => (intro w' hSw; (try dsimp only at hSw); go_simp; try with_reducible rfl)
            try simp only [Act.put, List.setIfInBounds_toArray, List.set_cons_zero, List.set_cons_succ]
            refine wpAnyL_take (i := 23) (v := ?v147) rfl (by kernel_rfl) (by kernel_rfl) (by kernel_rfl) (by kernel_rfl) (fun _ _ _ h => h) (Or.inl ⟨by rfl, ?y147⟩) (by assumption) ?r147
            case y147 => (intro w' hSw; (try dsimp only at hSw); go_simp; try with_reducible rfl)
            try simp only [Act.put, List.setIfInBounds_toArray, List.set_cons_zero, List.set_cons_succ]
            refine wpAnyL_take (i := 24) (v := ?v148) rfl (by kernel_rfl) (by kernel_rfl) (by kernel_rfl) (by kernel_rfl) (fun _ _ _ h => h) (Or.inl ⟨by rfl, ?y148⟩) (by assumption) ?r148
            case y148 => (intro w' hSw; (try dsimp only at hSw); go_simp; try with_reducible rfl)
            try simp only [Act.put, List.setIfInBounds_toArray, List.set_cons_zero, List.set_cons_succ]
            refine wpAnyL_take (i := 25) (v := ?v149) rfl (by kernel_rfl) (by kernel_rfl) (by kernel_rfl) (by kernel_rfl) (fun _ _ _ h => h) (Or.inl ⟨by rfl, ?y149⟩) (by assumption) ?r149
            case y149 => (intro w' hSw; (try dsimp only at hSw); go_simp; try with_reducible rfl)
            try simp only [Act.put, List.setIfInBounds_toArray, List.set_cons_zero, List.set_cons_succ]
            refine wpAnyL_take (i := 26) (v := ?v150) rfl (by kernel_rfl) (by kernel_rfl) (by kernel_rfl) (by kernel_rfl) (fun _ _ _ h => h) (Or.inl ⟨by rfl, ?y150⟩) (by assumption) ?r150
            case y150 => (intro w' hSw; (try dsimp only at hSw); go_simp; try with_reducible rfl)
            try simp only [Act.put, List.setIfInBounds_toArray, List.set_cons_zero, List.set_cons_succ]
            refine wpAnyL_take (i := 27) (v := ?v151) rfl (by kernel_rfl) (by kernel_rfl) (by kernel_rfl) (by kernel_rfl) (fun _ _ _ h => h) (Or.inl ⟨by rfl, ?y151⟩) (by assumption) ?r151
            case y151 => (intro w' hSw; (try dsimp only at hSw); go_simp; try with_reducible rfl)
            try simp only [Act.put, List.setIfInBounds_toArray, List.set_cons_zero, List.set_cons_succ]
            refine wpAnyL_take (i := 28) (v := ?v152) rfl (by kernel_rfl) (by kernel_rfl) (by kernel_rfl) (by kernel_rfl) (fun _ _ _ h => h) (Or.inl ⟨by rfl, ?y152⟩) (by assumption) ?r152
            case y152 => (intro w' hSw; (try dsimp only at hSw); go_simp; try with_reducible rfl)
            try simp only [Act.put, List.setIfInBounds_toArray, List.set_cons_zero, List.set_cons_succ]
            refine wpAnyL_take (i := 29) (v := ?v153) rfl (by kernel_rfl) (by kernel_rfl) (by kernel_rfl) (by kernel_rfl) (fun _ _ _ h => h) (Or.inl ⟨by rfl, ?y153⟩) (by assumption) ?r153
            case y153 => (intro w' hSw; (try dsimp only at hSw); go_simp; try with_reducible rfl)
            try simp only [Act.put, List.setIfInBounds_toArray, List.set_cons_zero, List.set_cons_succ]
            refine wpAnyL_take (i := 30) (v := ?v154) rfl (by kernel_rfl) (by kernel_rfl) (by kernel_rfl) (by kernel_rfl) (fun _ _ _ h => h) (Or.inl ⟨by rfl, ?y154⟩) (by assumption) ?r154
            case y154 => (intro w' hSw; (try dsimp only at hSw); go_simp; try with_reducible rfl)
            try simp only [Act.put, List.setIfInBounds_toArray, List.set_cons_zero, List.set_cons_succ]
            refine wpAnyL_one (i := 31) (by kernel_rfl) rfl rfl (fun K hK => ?_)
            go_simp
            refine (HEQ.out).mono ?_
            rintro e wd ⟨rfl, nd, rfl⟩
            have hBd2 : Below (w.heap.size + 2) ((w.alloc (maO a an acn ao aco)).alloc (maO b bn bcn bo bco)) (wc.drewN nd) := bl_drewN hBd nd
            have hzd2 : w.heap.size + 2 ≤ (wc.drewN nd).heap.size := hzd
            have hbd := below_drewN wc.heap.size wc nd
            have hSd : (C4 (wc.drewN nd) w.heap.size an acn ao aco a ∧ C4 (wc.drewN nd) (w.heap.size + 1) bn bcn bo bco b) ∧ (wc.drewN nd).cell? ⟨g11, q11 + n, none⟩ = some (.int .i64 y) ∧ (wc.drewN nd).cell? ⟨g12, q12 + n, none⟩ = some (.int .i64 z) := ⟨⟨hSS.1.1.below hbd (by omega), hSS.1.2.below hbd (by omega)⟩, (hbd.cell (p := ⟨g11, q11 + n, none⟩) (lt_of_cell hSS.2.1)).trans hSS.2.1, (hbd.cell (p := ⟨g12, q12 + n, none⟩) (lt_of_cell hSS.2.2)).trans hSS.2.2⟩
            refine hK _ _ (fun _ => hSd) ?_
            clear hK K hSS hbd hBd hzd HEQ hq11 hq12 HS11 HS12
            generalize wc.drewN nd = we at *
            refine wpAnyL_take (i := 32) (v := ?v155) rfl (by kernel_rfl) (by kernel_rfl) (by kernel_rfl) (by kernel_rfl) (fun _ _ _ h => h) (Or.inl ⟨by rfl, ?y155⟩) (by assumption) ?r155
            case y155 => (intro w' hSw; (try dsimp only at hSw); go_simp; try with_reducible rfl)
            try simp only [Act.put, List.setIfInBounds_toArray, List.set_cons_zero, List.set_cons_succ]
            refine wpAnyL_take (i := 33) (v := ?v156) rfl (by kernel_rfl) (by kernel_rfl) (by kernel_rfl) (by kernel_rfl) (fun _ _ _ h => h) (Or.inl ⟨by rfl, ?y156⟩) (by assumption) ?r156
            case y156 => (intro w' hSw; (try dsimp only at hSw); go_simp; try with_reducible rfl)
            try simp only [Act.put, List.setIfInBounds_toArray, List.set_cons_zero, List.set_cons_succ]
            refine wpAnyL_take (i := 34) (v := ?v157) rfl (by kernel_rfl) (by kernel_rfl) (by kernel_rfl) (by kernel_rfl) (fun _ _ _ h => h) (Or.inl ⟨by rfl, ?y157⟩) (by assumption) ?r157
            case y157 => (intro w' hSw; (try dsimp only at hSw); go_simp; try with_reducible rfl)
            try simp only [Act.put, List.setIfInBounds_toArray, List.set_cons_zero, List.set_cons_succ]
            refine wpAnyL_take (i := 35) (v := ?v158) rfl (by kernel_rfl) (by kernel_rfl) (by kernel_rfl) (by kernel_rfl) (fun _ _ _ h => h) (Or.inl ⟨by rfl, ?y158⟩) (by assumption) ?r158
            case y158 => (intro w' hSw; (try dsimp only at hSw); go_simp; try with_reducible rfl)
            try simp only [Act.put, List.setIfInBounds_toArray, List.set_cons_zero, List.set_cons_succ]
            refine wpAnyL_take (i := 36) (v := ?v159) rfl (by kernel_rfl) (by kernel_rfl) (by kernel_rfl) (by kernel_rfl) (fun _ _ _ h => h) (Or.inl ⟨by rfl, ?y159⟩) (by assumption) ?r159
            case y159 => (intro w' hSw; (try dsimp only at hSw); go_simp; try with_reducible rfl)
            try simp only [Act.put, List.setIfInBounds_toArray, List.set_cons_zero, List.set_cons_succ]
            refine wpAnyL_take (i := 37) (v := ?v160) rfl (by kernel_rfl) (by kernel_rfl) (by kernel_rfl) (by kernel_rfl) (fun _ _ _ h => h) (Or.inl ⟨by rfl, ?y160⟩) (by assumption) ?r160
            case y160 => (intro w' hSw; (try dsimp only at hSw); go_simp; try with_reducible rfl)
            try simp only [Act.put, List.setIfInBounds_toArray, List.set_cons_zero, List.set_cons_succ]
            refine wpAnyL_take (i := 38) (v := ?v161) rfl (by kernel_rfl) (by kernel_rfl) (by kernel_rfl) (by kernel_rfl) (fun _ _ _ h => h) (Or.inl ⟨by rfl, ?y161⟩) (by assumption) ?r161
            case y161 => (intro w' hSw; (try dsimp only at hSw); go_simp; try with_reducible rfl)
            try simp only [Act.put, List.setIfInBounds_toArray, List.set_cons_zero, List.set_cons_succ]
            refine wpAnyL_take (i := 39) (v := ?v162) rfl (by kernel_rfl) (by kernel_rfl) (by kernel_rfl) (by kernel_rfl) (fun _ _ _ h => h) (Or.inl ⟨by rfl, ?y162⟩) (by assumption) ?r162
            case y162 => (intro w' hSw; (try dsimp only at hSw); go_simp; try with_reducible rfl)
            try simp only [Act.put, List.setIfInBounds_toArray, List.set_cons_zero, List.set_cons_succ]
            refine wpAnyL_take (i := 40) (v := ?v163) rfl (by kernel_rfl) (by kernel_rfl) (by kernel_rfl) (by kernel_rfl) (fun _ _ _ h => h) (Or.inl ⟨by rfl, ?y163⟩) (by assumption) ?r163
            case y163 => (intro w' hSw; (try dsimp only at hSw); go_simp; try with_reducible rfl)
            try simp only [Act.put, List.setIfInBounds_toArray, List.set_cons_zero, List.set_cons_succ]
            refine wpAnyL_take (i := 41) (v := ?v164) rfl (by kernel_rfl) (by kernel_rfl) (by kernel_rfl) (by kernel_rfl) (fun _ _ _ h => h) (Or.inl ⟨by rfl, ?y164⟩) (by assumption) ?r164
            case y164 => (intro w' hSw; (try dsimp only at hSw); go_simp; try with_reducible rfl)
            try simp only [Act.put, List.setIfInBounds_toArray, List.set_cons_zero, List.set_cons_succ]
            refine wpAnyL_take (i := 42) (v := ?v165) rfl (by kernel_rfl) (by kernel_rfl) (by kernel_rfl) (by kernel_rfl) (fun _ _ _ h => h) (Or.inl ⟨by rfl, ?y165⟩) (by assumption) ?r165
            case y165 => (intro w' hSw; (try dsimp only at hSw); go_simp; try with_reducible rfl)
            try simp only [Act.put, List.setIfInBounds_toArray, List.set_cons_zero, List.set_cons_succ]
            refine wpAnyL_take (i := 43) (v := ?v166) rfl (by kernel_rfl) (by kernel_rfl) (by kernel_rfl) (by kernel_rfl) (fun _ _ _ h => h) (Or.inl ⟨by rfl, ?y166⟩) (by assumption) ?r166
            case y166 => (intro w' hSw; (try dsimp only at hSw); go_simp; try with_reducible rfl)
            try simp only [Act.put, List.setIfInBounds_toArray, List.set_cons_zero, List.set_cons_succ]
            refine wpAnyL_take (i := 44) (v := ?v167) rfl (by kernel_rfl) (by kernel_rfl) (by kernel_rfl) (by kernel_rfl) (fun _ _ _ h => h) (Or.inl ⟨by rfl, ?y167⟩) (by assumption) ?r167
            case y167 => (intro w' hSw; (try dsimp only at hSw); go_simp; try with_reducible rfl)
            try simp only [Act.put, List.setIfInBounds_toArray, List.set_cons_zero, List.set_cons_succ]
            refine wpAnyL_take (i := 45) (v := ?v168) rfl (by kernel_rfl) (by kernel_rfl) (by kernel_rfl) (by kernel_rfl) (fun _ _ _ h => h) (Or.inl ⟨by rfl, ?y168⟩) (by assumption) ?r168
            case y168 => (intro w' hSw; (try dsimp only at hSw); go_simp; try with_reducible rfl)
            try simp only [Act.put, List.setIfInBounds_toArray, List.set_cons_zero, List.set_cons_succ]
            refine wpAnyL_take (i := 46) (v := ?v169) rfl (by kernel_rfl) (by kernel_rfl) (by kernel_rfl) (by kernel_rfl) (fun _ _ _ h => h) (Or.inl ⟨by rfl, ?y169⟩) (by assumption) ?r169
            case y169 => (intro w' hSw; (try dsimp only at hSw); go_simp; try with_reducible rfl)
            try simp only [Act.put, List.setIfInBounds_toArray, List.set_cons_zero, List.set_cons_succ]
            refine wpAnyL_take (i := 47) (v := ?v170) rfl (by kernel_rfl) (by kernel_rfl) (by kernel_rfl) (by kernel_rfl) (fun _ _ _ h => h) (Or.inl ⟨by rfl, ?y170⟩) (by assumption) ?r170
            case y170 => (intro w' hSw; (try dsimp only at hSw); go_simp; try with_reducible rfl)
            try simp only [Act.put, List.setIfInBounds_toArray, List.set_cons_zero, List.set_cons_succ]
            refine wpAnyL_take (i := 48) (v := ?v171) rfl (by kernel_rfl) (by kernel_rfl) (by kernel_rfl) (by kernel_rfl) (fun _ _ _ h => h) (Or.inl ⟨by rfl, ?y171⟩) (by assumption) ?r171
            case y171 => (intro w' hSw; (try dsimp only at hSw); go_simp; try with_reducible rfl)
            try simp only [Act.put, List.setIfInBounds_toArray, List.set_cons_zero, List.set_cons_succ]
            refine wpAnyL_take (i := 49) (v := ?v172) rfl (by kernel_rfl) (by kernel_rfl) (by kernel_rfl) (by kernel_rfl) (fun _ _ _ h => h) (Or.inl ⟨by rfl, ?y172⟩) (by assumption) ?r172
            case y172 => (intro w' hSw; (try dsimp only at hSw); go_simp; try with_reducible rfl)
            try simp only [Act.put, List.setIfInBounds_toArray, List.set_cons_zero, List.set_cons_succ]
            refine wpAnyL_take (i := 50) (v := ?v173) rfl (by kernel_rfl) (by kernel_rfl) (by kernel_rfl) (by kernel_rfl) (fun _ _ _ h => h) (Or.inl ⟨by rfl, ?y173⟩) (by assumption) ?r173
            case y173 => (intro w' hSw; (try dsimp only at hSw); go_simp; try with_reducible rfl)
            try simp only [Act.put, List.setIfInBounds_toArray, List.set_cons_zero, List.set_cons_succ]
            refine wpAnyL_take (i := 51) (v := ?v174) rfl (by kernel_rfl) (by kernel_rfl) (by kernel_rfl) (by kernel_rfl) (fun _ _ _ h => h) (Or.inl ⟨by rfl, ?y174⟩) (by assumption) ?r174
            case y174 => (intro w' hSw; (try dsimp only at hSw); go_simp; try with_reducible rfl)
            try simp only [Act.put, List.setIfInBounds_toArray, List.set_cons_zero, List.set_cons_succ]
            refine wpAnyL_take (i := 52) (v := ?v175) rfl (by kernel_rfl) (by kernel_rfl) (by kernel_rfl) (by kernel_rfl) (fun _ _ _ h => h) (Or.inl ⟨by rfl, ?y175⟩) (by assumption) ?r175
            case y175 => (intro w' hSw; (try dsimp only at hSw); go_simp; try with_reducible rfl)
            try simp only [Act.put, List.setIfInBounds_toArray, List.set_cons_zero, List.set_cons_succ]
            refine wpAnyL_take (i := 53) (v := ?v176) rfl (by kernel_rfl) (by kernel_rfl) (by kernel_rfl) (by kernel_rfl) (fun _ _ _ h => h) (Or.inl ⟨by rfl, ?y176⟩) (by assumption) ?r176
            case y176 => (intro w' hSw; (try dsimp only at hSw); go_simp; try with_reducible rfl)
            try simp only [Act.put, List.setIfInBounds_toArray, List.set_cons_zero, List.set_cons_succ]
            refine wpAnyL_take (i := 54) (v := ?v177) rfl (by kernel_rfl) (by kernel_rfl) (by kernel_rfl) (by kernel_rfl) (fun _ _ _ h => h) (Or.inl ⟨by rfl, ?y177⟩) (by assumption) ?r177
            case y177 => (intro w' hSw; (try dsimp only at hSw); go_simp; try with_reducible rfl)
            try simp only [Act.put, List.setIfInBounds_toArray, List.set_cons_zero, List.set_cons_succ]
            refine wpAnyL_take (i := 55) (v := ?v178) rfl (by kernel_rfl) (by kernel_rfl) (by kernel_rfl) (by kernel_rfl) (fun _ _ _ h => h) (Or.inl ⟨by rfl, ?y178⟩) (by assumption) ?r178
            case y178 => (intro w' hSw; (try dsimp only at hSw); go_simp; try with_reducible rfl)
            try simp only [Act.put, List.setIfInBounds_toArray, List.set_cons_zero, List.set_cons_succ]
            refine wpAnyL_take (i := 56) (v := ?v179) rfl (by kernel_rfl) (by kernel_rfl) (by kernel_rfl) (by kernel_rfl) (fun _ _ _ h => h) (Or.inl ⟨by rfl, ?y179⟩) (by assumption) ?r179
            case y179 => (intro w' hSw; (try dsimp only at hSw); go_simp; try with_reducible rfl)
            try simp only [Act.put, List.setIfInBounds_toArray, List.set_cons_zero, List.set_cons_succ]
            refine wpAnyL_one (i := 57) (by kernel_rfl) rfl rfl (fun K hK => ?_)
            go_simp
            refine (ex9_any).mono ?_
            rintro e wz ⟨rfl, hbz⟩
            have hBf := h0.trans ((hBd2.trans (hbz.mono hzd2)).mono (by omega))
            have hSz : (C4 wz w.heap.size an acn ao aco a ∧ C4 wz (w.heap.size + 1) bn bcn bo bco b) ∧ wz.cell? ⟨g11, q11 + n, none⟩ = some (.int .i64 y) ∧ wz.cell? ⟨g12, q12 + n, none⟩ = some (.int .i64 z) := ⟨⟨hSd.1.1.below hbz (by omega), hSd.1.2.below hbz (by omega)⟩, (hbz.cell (p := ⟨g11, q11 + n, none⟩) (lt_of_cell hSd.2.1)).trans hSd.2.1, (hbz.cell (p := ⟨g12, q12 + n, none⟩) (lt_of_cell hSd.2.2)).trans hSd.2.2⟩
            refine hK _ _ (fun _ => hSz) ?_
            clear hK K hSd hbz hBd2 hzd2
            refine wpAnyL_one (i := 58) (by kernel_rfl) rfl rfl (fun K hK => ?_)
            go_simp
            refine hK _ _ (fun _ => hSz) ?_
            clear hK K
            refine wpAnyL_one (i := 59) (by kernel_rfl) rfl rfl (fun K hK => ?_)
            go_simp
            refine hK _ _ (fun _ => hSz) ?_
            clear hK K
            refine wpAnyL_done (by kernel_rfl) ?_ _
            go_wp2
            go_ret
            exact ⟨rfl, hBf⟩
      · have hc2 : (chk a b != 0) = true := by simp [hc]
        clear hc
        go_wp2_with fail
        refine (ex9_any).mono ?_
        rintro e wz ⟨rfl, hbz⟩
        have hBf := h0.trans ((hB3.trans (hbz.mono hz3)).mono (by omega))
        go_wp2
        go_ret
        exact ⟨rfl, hBf⟩
end
end Go.Proofs.Ytdnmgiabgpilkaa
