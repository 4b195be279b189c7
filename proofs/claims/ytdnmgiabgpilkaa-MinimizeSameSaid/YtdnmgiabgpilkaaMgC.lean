/- Several texts, one behind the other. Conditions: as each of them says. -/
import Derived.Test.YtdnmgiabgpilkaaOps
import Derived.Test.YtdnmgiabgpilkaaPlain
import Derived.Test.YtdnmgiabgpilkaaValid
import Derived.Test.YtdnmgiabgpilkaaValidM
import Derived.Test.YtdnmgiabgpilkaaC4
import Derived.Test.YtdnmgiabgpilkaaOrd
import Derived.Test.YtdnmgiabgpilkaaMinQ
import Derived.Test.YtdnmgiabgpilkaaSep
import Derived.Test.YtdnmgiabgpilkaaMinRP
import Derived.Test.YtdnmgiabgpilkaaBuild
import Derived.Test.YtdnmgiabgpilkaaGrid
import Derived.Deep.CutRange
import Derived.IntWalk
import Derived.Test.YtdnmgiabgpilkaaFinerLaw
import Derived.Test.YtdnmgiabgpilkaaMinimalR
/- word.permitted, slices.IndexFunc and ContainsFunc at word.Check's test, word.Check. No condition. -/
namespace Go.Proofs.Ytdnmgiabgpilkaa
open Go.RowKit

/-- The error of a word and a size. -/
def wErr (w : List Int) (n : Int) : Int := if n < 1 ∨ 1024 < n then 2 else if 1024 < w.length then 3 else if ∃ a ∈ w, a < 0 ∨ n ≤ a then 1 else 0
theorem wErr_r {w : List Int} {n : Int} (h : n < 1 ∨ 1024 < n) : wErr w n = 2 := by unfold wErr; rw [if_pos h]
theorem wErr_l {w : List Int} {n : Int} (h : ¬ (n < 1 ∨ 1024 < n)) (h2 : 1024 < w.length) : wErr w n = 3 := by unfold wErr; rw [if_neg h, if_pos h2]
theorem wErr_i {w : List Int} {n : Int} (h : ¬ (n < 1 ∨ 1024 < n)) (h2 : ¬ 1024 < w.length) (h3 : ∃ a ∈ w, a < 0 ∨ n ≤ a) : wErr w n = 1 := by unfold wErr; rw [if_neg h, if_neg h2, if_pos h3]
theorem wErr_0 {w : List Int} {n : Int} (h : ¬ (n < 1 ∨ 1024 < n)) (h2 : ¬ 1024 < w.length) (h3 : ¬ ∃ a ∈ w, a < 0 ∨ n ≤ a) : wErr w n = 0 := by unfold wErr; rw [if_neg h, if_neg h2, if_neg h3]

section
variable {M : Nat → Prop} {w : World} {a : Option Addr} {c : Nat}

theorem perm_yes (n : Int) (h : ¬ (n < 1 ∨ 1024 < n)) : Calls Try.prog 73 #[.int .i64 n] w fun e w' => e = .returned (.bool true) ∧ w' = w := by
  have h1 : 1 ≤ n := by omega
  have h2 : n ≤ 1024 := by omega
  clear h
  go_enter Try.func73, Try.ntmps73
  go_wp2
  go_ret
  exact ⟨rfl, rfl⟩
theorem perm_no (n : Int) (h : n < 1 ∨ 1024 < n) : Calls Try.prog 73 #[.int .i64 n] w fun e w' => e = .returned (.bool false) ∧ w' = w := by
  by_cases h0 : 1 ≤ n
  · have h1 : ¬ n ≤ 1024 := by omega
    clear h
    go_enter Try.func73, Try.ntmps73
    go_wp2
    go_ret
    exact ⟨rfl, rfl⟩
  · clear h
    go_enter Try.func73, Try.ntmps73
    go_wp2
    go_ret
    exact ⟨rfl, rfl⟩

/-- The test of a symbol. -/
def badS (n x : Int) : Bool := decide (x < 0 ∨ n ≤ x)
theorem badS_t {n x : Int} (h : x < 0 ∨ n ≤ x) : badS n x = true := by simp [badS, h]
theorem badS_f {n x : Int} (h : ¬ (x < 0 ∨ n ≤ x)) : badS n x = false := by simp [badS, h]
theorem test_t {b : Nat} (n x : Int) (hc : w.cell? ⟨b, 0, none⟩ = some (.int .i64 n)) (h : x < 0 ∨ n ≤ x) : Calls Try.prog 75 #[.int .i64 x, .pointer (some ⟨b, 0, none⟩)] w fun e w' => e = .returned (.bool true) ∧ w' = w := by
  by_cases h0 : x < 0
  · clear h
    go_enter Try.func75, Try.ntmps75
    go_wp2
    go_ret
    exact ⟨rfl, rfl⟩
  · have h1 : n ≤ x := by omega
    clear h
    go_enter Try.func75, Try.ntmps75
    go_wp2
    go_ret
    exact ⟨rfl, rfl⟩
theorem test_f {b : Nat} (n x : Int) (hc : w.cell? ⟨b, 0, none⟩ = some (.int .i64 n)) (h : ¬ (x < 0 ∨ n ≤ x)) : Calls Try.prog 75 #[.int .i64 x, .pointer (some ⟨b, 0, none⟩)] w fun e w' => e = .returned (.bool false) ∧ w' = w := by
  have h0 : ¬ x < 0 := by omega
  have h1 : ¬ n ≤ x := by omega
  clear h
  go_enter Try.func75, Try.ntmps75
  go_wp2
  go_ret
  exact ⟨rfl, rfl⟩

theorem findIdx_at {l : List Int} {p : Int → Bool} {k : Nat} {x : Int} (hx : l[k]? = some x) (hp : p x = true) (hn : ∀ y ∈ l.take k, p y = false) : l.findIdx p = k := by
  have hk : k < l.length := by
    by_cases e : k < l.length
    · exact e
    · rw [List.getElem?_eq_none (by omega)] at hx; simp at hx
  rw [List.findIdx_eq hk]
  refine ⟨by rw [List.getElem?_eq_getElem hk] at hx; rw [show l[k] = x by simpa using hx]; exact hp, fun j hj => hn _ ?_⟩
  rw [List.mem_iff_getElem?]
  exact ⟨j, by rw [List.getElem?_take, if_pos hj, List.getElem?_eq_getElem (by omega)]⟩
theorem take_bad {l : List Int} {p : Int → Bool} {k : Nat} {x : Int} (hx : l[k]? = some x) (hp : p x = false) (hn : ∀ y ∈ l.take k, p y = false) : ∀ y ∈ l.take (k + 1), p y = false := by
  intro y hy
  rw [List.take_add_one, hx] at hy
  simp only [Option.toList_some, List.mem_append, List.mem_singleton] at hy
  rcases hy with hy | rfl
  · exact hn y hy
  · exact hp
theorem ret_ic {x y : Int} (h : x = y) : Ending.returned (.int .i64 x) = .returned (.int .i64 y) := by rw [h]

theorem idx_yes {b : Nat} {l : List Int} (h : Sl M w a c l) (n : Int) (hc : w.cell? ⟨b, 0, none⟩ = some (.int .i64 n)) (hb : ∃ x ∈ l, x < 0 ∨ n ≤ x) :
    Calls Try.prog 82 #[.slice a l.length c, .func (Fn.func 75) #[] #[.pointer (some ⟨b, 0, none⟩)]] w fun e w' => e = .returned (.int .i64 (l.findIdx (badS n))) ∧ w' = w := by
  have hll := h.le
  have HB := Lib.hid hb
  have h0 : Hid (∀ y ∈ l.take 0, badS n y = false) := fun y hy => by simp at hy
  clear hb
  go_enter Try.func82, Try.ntmps82
  go_wp2
  go_loop [8] (fun i => ∃ k : Nat, k ≤ l.length ∧ i = .int .i64 k ∧ Hid (∀ y ∈ l.take k, badS n y = false)) (fun i => l.length - (intOf i).toNat)
  case atStart => exact ⟨0, by omega, rfl, h0⟩
  case round =>
    clear h0
    obtain ⟨k, hk, rfl, hz⟩ := hrel
    have hlt : k < l.length := by
      by_cases e : k < l.length
      · exact e
      · obtain ⟨x, hx, hx2⟩ := HB.out
        have := hz.out x (by rw [List.take_of_length_le (by omega)]; exact hx)
        rw [badS_t hx2] at this; cases this
    obtain ⟨b1, o1, x, rfl, hxc, hx, -⟩ := h.at_int hlt
    by_cases hbad : x < 0 ∨ n ≤ x
    · have HF := Lib.hid (findIdx_at (p := badS n) hx.out (badS_t hbad) hz.out)
      have HD := Lib.hid hbad
      clear hbad
      go_wp2_with fail
      refine (test_t n x hc HD.out).mono ?_
      rintro e w2 ⟨rfl, hw⟩
      obtain rfl : w = w2 := hw.symm
      go_wp2
      go_ret
      exact ⟨ret_ic (by rw [HF.out]), rfl⟩
    · have hz2 : Hid (∀ y ∈ l.take (k + 1), badS n y = false) := take_bad hx.out (badS_f hbad) hz.out
      have HD := Lib.hid hbad
      clear hbad
      go_wp2_with fail
      refine (test_f n x hc HD.out).mono ?_
      rintro e w2 ⟨rfl, hw⟩
      obtain rfl : w = w2 := hw.symm
      go_wp2
      go_round
      case rel => exact ⟨k + 1, by omega, by go_num, hz2⟩
      case measure => simp [intOf]; omega

theorem idx_no {b : Nat} {l : List Int} (h : Sl M w a c l) (n : Int) (hc : w.cell? ⟨b, 0, none⟩ = some (.int .i64 n)) (hb : ¬ ∃ x ∈ l, x < 0 ∨ n ≤ x) :
    Calls Try.prog 82 #[.slice a l.length c, .func (Fn.func 75) #[] #[.pointer (some ⟨b, 0, none⟩)]] w fun e w' => e = .returned (.int .i64 (-1)) ∧ w' = w := by
  have hll := h.le
  have HB := Lib.hid hb
  clear hb
  go_enter Try.func82, Try.ntmps82
  go_wp2
  go_loop [8] (fun i => ∃ k : Nat, k ≤ l.length ∧ i = .int .i64 k) (fun i => l.length - (intOf i).toNat)
  case atStart => exact ⟨0, by omega, rfl⟩
  case round =>
    obtain ⟨k, hk, rfl⟩ := hrel
    by_cases hlt : k < l.length
    · obtain ⟨b1, o1, x, rfl, hxc, hx, -⟩ := h.at_int hlt
      have HD := Lib.hid (show ¬ (x < 0 ∨ n ≤ x) from fun e => HB.out ⟨x, List.mem_of_getElem? hx.out, e⟩)
      go_wp2_with fail
      refine (test_f n x hc HD.out).mono ?_
      rintro e w2 ⟨rfl, hw⟩
      obtain rfl : w = w2 := hw.symm
      go_wp2
      go_round
      case rel => exact ⟨k + 1, by omega, by go_num⟩
      case measure => simp [intOf]; omega
    · go_wp2
      go_ret
      exact ⟨rfl, rfl⟩

theorem cont_yes {b : Nat} {l : List Int} (h : Sl M w a c l) (n : Int) (hc : w.cell? ⟨b, 0, none⟩ = some (.int .i64 n)) (hb : ∃ x ∈ l, x < 0 ∨ n ≤ x) :
    Calls Try.prog 74 #[.slice a l.length c, .func (Fn.func 75) #[] #[.pointer (some ⟨b, 0, none⟩)]] w fun e w' => e = .returned (.bool true) ∧ w' = w := by
  have HI := Lib.hid (idx_yes h n hc hb)
  clear hb hc
  go_enter Try.func74, Try.ntmps74
  go_wp2_with fail
  refine (HI.out).mono ?_
  rintro e w2 ⟨rfl, hw⟩
  obtain rfl : w = w2 := hw.symm
  go_wp2
  go_ret
  exact ⟨rfl, rfl⟩
theorem cont_no {b : Nat} {l : List Int} (h : Sl M w a c l) (n : Int) (hc : w.cell? ⟨b, 0, none⟩ = some (.int .i64 n)) (hb : ¬ ∃ x ∈ l, x < 0 ∨ n ≤ x) :
    Calls Try.prog 74 #[.slice a l.length c, .func (Fn.func 75) #[] #[.pointer (some ⟨b, 0, none⟩)]] w fun e w' => e = .returned (.bool false) ∧ w' = w := by
  have HI := Lib.hid (idx_no h n hc hb)
  clear hb hc
  go_enter Try.func74, Try.ntmps74
  go_wp2_with fail
  refine (HI.out).mono ?_
  rintro e w2 ⟨rfl, hw⟩
  obtain rfl : w = w2 := hw.symm
  go_wp2
  go_ret
  exact ⟨rfl, rfl⟩

theorem wcheck_any {l : List Int} (h : Sl M w a c l) (n : Int) :
    Calls Try.prog 62 #[.slice a l.length c, .int .i64 n] w fun e w' => e = .returned (.int .i64 (wErr l n)) ∧ Below w.heap.size w w' := by
  have hll := h.le
  have hS := h.alloc (.cells #[.int .i64 n] 3)
  have hB := (Below.refl w.heap.size w).alloc (Nat.le_refl _) (.cells #[.int .i64 n] 3)
  have hcell : (w.alloc (.cells #[.int .i64 n] 3)).cell? ⟨w.heap.size, 0, none⟩ = some (.int .i64 n) := by simp
  by_cases hn : n < 1 ∨ 1024 < n
  · have HF := Lib.hid (wErr_r (w := l) hn)
    have HP := Lib.hid (perm_no (w := w.alloc (.cells #[.int .i64 n] 3)) n hn)
    clear hn
    go_enter Try.func62, Try.ntmps62
    go_wp2_with fail
    refine (HP.out).mono ?_
    rintro e w1 ⟨rfl, hw⟩
    subst hw
    go_wp2
    go_ret
    exact ⟨ret_ic HF.out.symm, hB⟩
  · have HP := Lib.hid (perm_yes (w := w.alloc (.cells #[.int .i64 n] 3)) n hn)
    by_cases hl : 1024 < l.length
    · have HF := Lib.hid (wErr_l hn hl)
      clear hn
      go_enter Try.func62, Try.ntmps62
      go_wp2_with fail
      refine (HP.out).mono ?_
      rintro e w1 ⟨rfl, hw⟩
      subst hw
      go_wp2
      go_ret
      exact ⟨ret_ic HF.out.symm, hB⟩
    · by_cases hb : ∃ x ∈ l, x < 0 ∨ n ≤ x
      · have HF := Lib.hid (wErr_i hn hl hb)
        have HC := Lib.hid (cont_yes hS n hcell hb)
        clear hn hb
        go_enter Try.func62, Try.ntmps62
        go_wp2_with fail
        refine (HP.out).mono ?_
        rintro e w1 ⟨rfl, hw⟩
        subst hw
        go_wp2_with fail
        refine (HC.out).mono ?_
        rintro e w1 ⟨rfl, hw⟩
        subst hw
        go_wp2
        go_ret
        exact ⟨ret_ic HF.out.symm, hB⟩
      · have HF := Lib.hid (wErr_0 hn hl hb)
        have HC := Lib.hid (cont_no hS n hcell hb)
        clear hn hb
        go_enter Try.func62, Try.ntmps62
        go_wp2_with fail
        refine (HP.out).mono ?_
        rintro e w1 ⟨rfl, hw⟩
        subst hw
        go_wp2_with fail
        refine (HC.out).mono ?_
        rintro e w1 ⟨rfl, hw⟩
        subst hw
        go_wp2
        go_ret
        exact ⟨ret_ic HF.out.symm, hB⟩
end
end Go.Proofs.Ytdnmgiabgpilkaa
/- The outputs of a machine for a word, and the state behind it. Condition where named: the machine is valid, the symbols are its own. -/
namespace Go.Proofs.Ytdnmgiabgpilkaa
namespace Mach
variable (m : Mach)
def outsW : Int → List Int → List Int
  | _, [] => []
  | s, x :: w => m.ot s.toNat x.toNat :: outsW (m.nx s.toNat x.toNat) w
def endW : Int → List Int → Int
  | s, [] => s
  | s, x :: w => endW (m.nx s.toNat x.toNat) w
theorem outsW_len : ∀ (w : List Int) (s : Int), (m.outsW s w).length = w.length
  | [], _ => rfl
  | x :: w, s => by simp [outsW, outsW_len w]
theorem endW_app : ∀ (w v : List Int) (s : Int), m.endW s (w ++ v) = m.endW (m.endW s w) v
  | [], _, _ => rfl
  | x :: w, v, s => by simp [endW, endW_app w]
theorem outsW_app : ∀ (w v : List Int) (s : Int), m.outsW s (w ++ v) = m.outsW s w ++ m.outsW (m.endW s w) v
  | [], _, _ => rfl
  | x :: w, v, s => by simp [outsW, endW, outsW_app w]
theorem endW_snoc (w : List Int) (x s : Int) : m.endW s (w ++ [x]) = m.nx (m.endW s w).toNat x.toNat := by rw [endW_app]; rfl
theorem outsW_snoc (w : List Int) (x s : Int) : m.outsW s (w ++ [x]) = m.outsW s w ++ [m.ot (m.endW s w).toNat x.toNat] := by rw [outsW_app]; rfl
/-- The symbols of a word of the machine. -/
def okS (w : List Int) : Prop := ∀ x ∈ w, 0 ≤ x ∧ x < m.inputs
variable {m}
theorem okS_cons {x : Int} {w : List Int} (h : m.okS (x :: w)) : (0 ≤ x ∧ x < m.inputs) ∧ m.okS w := ⟨h x (by simp), fun y hy => h y (by simp [hy])⟩
theorem okS_app {v w : List Int} (h : m.okS (v ++ w)) : m.okS v ∧ m.okS w := ⟨fun y hy => h y (by simp [hy]), fun y hy => h y (by simp [hy])⟩
theorem okS_take {w : List Int} (h : m.okS w) (k : Nat) : m.okS (w.take k) := fun y hy => h y (List.mem_of_mem_take hy)
theorem okS_drop {w : List Int} (h : m.okS w) (k : Nat) : m.okS (w.drop k) := fun y hy => h y (List.mem_of_mem_drop hy)
theorem endW_range (ok : m.Ok) : ∀ (w : List Int) (s : Int), 0 ≤ s → s < m.next.length → m.okS w → 0 ≤ m.endW s w ∧ m.endW s w < m.next.length
  | [], s, h0, h1, _ => ⟨h0, h1⟩
  | x :: w, s, h0, h1, h => by
    obtain ⟨⟨x0, x1⟩, hw⟩ := okS_cons h
    have := ok.nx s.toNat x.toNat (by omega) (by omega)
    exact endW_range ok w _ this.1 this.2 hw
theorem take_step {w : List Int} {k : Nat} {x : Int} (h : w[k]? = some x) : w.take (k + 1) = w.take k ++ [x] := by rw [List.take_add_one, h]; rfl
end Mach
end Go.Proofs.Ytdnmgiabgpilkaa
/- mealy's move, run, state, From and Run. Condition where named: the machine is valid. -/
namespace Go.Proofs.Ytdnmgiabgpilkaa
open Go.RowKit
/-- The runner's five cells. -/
abbrev R5 (w : World) (b : Nat) (an : Option Addr) (cn : Nat) (ao : Option Addr) (co : Nat) (m : Mach) (z : Int) : Prop :=
  C4 w b an cn ao co m ∧ w.cell? ⟨b, 4, none⟩ = some (.int .i64 z) ∧ w.frozen? ⟨b, 4, none⟩ = false
section
variable {B b : Nat} {w w' : World} {an ao : Option Addr} {cn co : Nat} {m : Mach} {z : Int}
theorem R5.below (h : R5 w b an cn ao co m z) (hb : Below B w w') (hlt : b < B) : R5 w' b an cn ao co m z :=
  ⟨h.1.below hb hlt, (hb.cell (p := ⟨b, 4, none⟩) hlt).trans h.2.1, (hb.frozen (p := ⟨b, 4, none⟩) hlt).trans h.2.2⟩
theorem R5.set (h : R5 w b an cn ao co m z) (y : Int) : R5 (w.setCell ⟨b, 4, none⟩ (.int .i64 y)) b an cn ao co m y :=
  ⟨⟨by rw [World.cell?_setCell_other _ _ _ _ (by simp)]; exact h.1.1, by rw [World.cell?_setCell_other _ _ _ _ (by simp)]; exact h.1.2.1, by rw [World.cell?_setCell_other _ _ _ _ (by simp)]; exact h.1.2.2.1, by rw [World.cell?_setCell_other _ _ _ _ (by simp)]; exact h.1.2.2.2⟩,
   World.cell?_setCell_same _ _ _ h.2.1, by simpa using h.2.2⟩
end
section
variable {M : Nat → Prop} {w : World} {an ao a : Option Addr} {cn co c : Nat} {m : Mach}

set_option maxRecDepth 100000 in
set_option maxHeartbeats 1000000 in
theorem move_any (hm : Ma M w an cn ao co m) (ok : m.Ok) {s x : Nat} (hs : s < m.next.length) (hx : x < m.inputs.toNat) :
    Calls Try.prog 76 #[maV m an cn ao co, .int .i64 (s : Int), .int .i64 (x : Int)] w fun e w' => ∃ (n : Nat) (y : Int), e = .returned (.tuple #[.int .i64 (n : Int), .int .i64 y]) ∧ n < m.next.length ∧ 0 ≤ y ∧ y ≤ 1048576 ∧ Hid (m.nx s x = n) ∧ Hid (m.ot s x = y) ∧ Below w.heap.size w w' := by
  have hsz : s < m.out.length := by have := ok.lo; omega
  have n1 := ok.n1
  have i1 := ok.i1
  obtain ⟨bn, on, bo, oo, rfl, rfl⟩ := hm.addr ok
  have hm2 := hm.ext (Ext.alloc M w (.cells #[.int .i64 m.inputs, .int .i64 m.start, .slice (some ⟨bn, on, none⟩) m.next.length cn, .slice (some ⟨bo, oo, none⟩) m.out.length co] 90))
  obtain ⟨b1, o1, c1, l1, b2, o2, c2, l2, n, y, k1, k2, k3, k4, hn, hy0, hy1, hnx, hot, hl1, hl2, hl3, hl4⟩ := hm2.atS ok hs hx
  have hB := (Below.refl w.heap.size w).alloc (Nat.le_refl _) (.cells #[.int .i64 m.inputs, .int .i64 m.start, .slice (some ⟨bn, on, none⟩) m.next.length cn, .slice (some ⟨bo, oo, none⟩) m.out.length co] 90)
  have HM := Lib.hid hm2
  have OK := Lib.hid ok
  clear hm hm2 ok
  go_enter Try.func76, Try.ntmps76
  go_wp2
  refine wp_quiet_fast (by kernel_rfl) (by kernel_rfl) ?_
  repeat (first | go_big_quiet_step (fail) | quiet_step (fail))
  refine wpQuiet_nil ?_
  intro _ hw'
  obtain ⟨nq, hw''⟩ := hw'
  subst hw''
  go_wp2
  go_ret2
  exact ⟨n, y, rfl, hn, hy0, hy1, hnx, hot, bl_drewN hB _⟩

set_option maxRecDepth 100000 in
set_option maxHeartbeats 4000000 in
theorem run_any {M' : Nat → Prop} {B b : Nat} {l : List Int} {s : Int} (hb : B ≤ b) (hbw : b < w.heap.size) (HM : ∀ w', Below B w w' → Ma M w' an cn ao co m) (HS : ∀ w', Below B w w' → Sl M' w' a c l) (ok : m.Ok)
    (h5 : R5 w b an cn ao co m s) (hs : 0 ≤ s ∧ s < m.next.length) (hw : m.okS l) (hl : l.length ≤ 1024) :
    Calls Try.prog 63 #[.pointer (some ⟨b, 0, none⟩), .slice a l.length c] w fun e w' => ∃ (a' : Option Addr) (c' : Nat) (l' : List Int), e = .returned (.slice a' l'.length c') ∧ Hid (l' = m.outsW s l) ∧
      Sl (fun k => k < w.heap.size) w' a' c' l' ∧ Below B w w' ∧ R5 w' b an cn ao co m (m.endW s l) := by
  have OK := Lib.hid ok
  have HW := Lib.hid hw
  have HS0 := Lib.hid hs
  have n1 := ok.n1
  have i1 := ok.i1
  have HMh := Lib.hid HM
  have HSh := Lib.hid HS
  have hl0 : Hid (([] : List Int) = m.outsW s (l.take 0)) := rfl
  have hO0 : Ow (α := Int) w.heap.size (fun k => w.heap.size ≤ k) w 3 (.slice none 0 0) [] := Ow.nil
  have hB0 := Below.refl B w
  clear HM HS ok hw hs
  go_enter Try.func63, Try.ntmps63
  go_wp2
  go_loopw [5, 12] (fun v i wr => ∃ (k : Nat) (a' : Option Addr) (c' : Nat) (l' : List Int), k ≤ l.length ∧ i = .int .i64 k ∧ v = .slice a' l'.length c' ∧ l'.length ≤ 1024 ∧ Hid (l' = m.outsW s (l.take k)) ∧
    Ow w.heap.size (fun k => w.heap.size ≤ k) wr 3 (.slice a' l'.length c') l' ∧ Below B w wr ∧ R5 wr b an cn ao co m (m.endW s (l.take k))) (fun _ i _ => l.length - (intOf i).toNat)
  case atStart => exact ⟨0, none, 0, [], by omega, rfl, rfl, by simp, hl0, hO0, hB0, h5⟩
  case round =>
    clear hl0 hO0 hB0 h5
    obtain ⟨k, a2, c2, l2, hk, rfl, rfl, hl2, ho2, hO, hB, h5⟩ := hrel
    obtain ⟨w1, rfl⟩ : ∃ w1 : World, w1 = wr := ⟨_, rfl⟩
    have hsz := hB.size
    by_cases hlt : k < l.length
    · obtain ⟨bl, ol, x, rfl, hxc, hx, -⟩ := (HSh.out w1 hB).at_int hlt
      obtain ⟨x0, x1⟩ := HW.out x (List.mem_of_getElem? hx.out)
      obtain ⟨xn, rfl⟩ := Int.eq_ofNat_of_zero_le x0
      have hr := Mach.endW_range OK.out (l.take k) s HS0.out.1 HS0.out.2 (Mach.okS_take HW.out k)
      have hl2k : Hid (l2.length = k) := by unfold Hid; rw [ho2.out, Mach.outsW_len, List.length_take]; omega
      obtain ⟨sn, hsn⟩ := Int.eq_ofNat_of_zero_le hr.1
      rw [hsn] at h5 hr
      have hsn2 : sn < m.next.length := by omega
      have hxn : xn < m.inputs.toNat := by omega
      have hxn2 : xn < 64 := by omega
      have HSN := Lib.hid hsn
      have hmm := HMh.out w1 hB
      have HMM := Lib.hid hmm
      clear hsn hr x0 x1 hmm
      go_wp2
      refine wp_region_L (fun w' => R5 w' b an cn ao co m (sn : Int)) [0, 1, 2, 3, 4, 5, 6, 7, 8, 11, 12] (by kernel_rfl) ?_
      have h5d : R5 w1.drew b an cn ao co m (sn : Int) := ⟨h5.1.drew, by simpa using h5.2.1, by simpa using h5.2.2⟩
      have hBd := hB.drew
      have hOd := hO.drew
      have HMd := Lib.hid (HMM.out.ext (Ext.drew _ _))
      have hszd : w.heap.size ≤ w1.drew.heap.size := hsz
      clear h5 hB hO HMM
      generalize w1.drew = w2 at *
      refine wpAnyL_take (i := 0) (v := ?v1) rfl (by kernel_rfl) (by kernel_rfl) (by kernel_rfl) (by kernel_rfl) (fun _ _ _ h => h) (Or.inl ⟨by rfl, ?y1⟩) (by assumption) ?r1
      case y1 => (intro w' hSw; (try dsimp only at hSw); go_simp; try with_reducible rfl)
      try simp only [Act.put, List.setIfInBounds_toArray, List.set_cons_zero, List.set_cons_succ]
      refine wpAnyL_take (i := 1) (v := ?v2) rfl (by kernel_rfl) (by kernel_rfl) (by kernel_rfl) (by kernel_rfl) (fun _ _ _ h => h) (Or.inl ⟨by rfl, ?y2⟩) (by assumption) ?r2
      case y2 => (intro w' hSw; (try dsimp only at hSw); go_simp; try with_reducible rfl)
      try simp only [Act.put, List.setIfInBounds_toArray, List.set_cons_zero, List.set_cons_succ]
      refine wpAnyL_take (i := 2) (v := ?v3) rfl (by kernel_rfl) (by kernel_rfl) (by kernel_rfl) (by kernel_rfl) (fun _ _ _ h => h) (Or.inl ⟨by rfl, ?y3⟩) (by assumption) ?r3
      case y3 => (intro w' hSw; (try dsimp only at hSw); go_simp; try with_reducible rfl)
      try simp only [Act.put, List.setIfInBounds_toArray, List.set_cons_zero, List.set_cons_succ]
      refine wpAnyL_take (i := 3) (v := ?v4) rfl (by kernel_rfl) (by kernel_rfl) (by kernel_rfl) (by kernel_rfl) (fun _ _ _ h => h) (Or.inl ⟨by rfl, ?y4⟩) (by assumption) ?r4
      case y4 => (intro w' hSw; (try dsimp only at hSw); go_simp; try with_reducible rfl)
      try simp only [Act.put, List.setIfInBounds_toArray, List.set_cons_zero, List.set_cons_succ]
      refine wpAnyL_take (i := 4) (v := ?v5) rfl (by kernel_rfl) (by kernel_rfl) (by kernel_rfl) (by kernel_rfl) (fun _ _ _ h => h) (Or.inl ⟨by rfl, ?y5⟩) (by assumption) ?r5
      case y5 => (intro w' hSw; (try dsimp only at hSw); go_simp; try with_reducible rfl)
      try simp only [Act.put, List.setIfInBounds_toArray, List.set_cons_zero, List.set_cons_succ]
      refine wpAnyL_take (i := 5) (v := ?v6) rfl (by kernel_rfl) (by kernel_rfl) (by kernel_rfl) (by kernel_rfl) (fun _ _ _ h => h) (Or.inl ⟨by rfl, ?y6⟩) (by assumption) ?r6
      case y6 => (intro w' hSw; (try dsimp only at hSw); go_simp; try with_reducible rfl)
      try simp only [Act.put, List.setIfInBounds_toArray, List.set_cons_zero, List.set_cons_succ]
      refine wpAnyL_take (i := 6) (v := ?v7) rfl (by kernel_rfl) (by kernel_rfl) (by kernel_rfl) (by kernel_rfl) (fun _ _ _ h => h) (Or.inl ⟨by rfl, ?y7⟩) (by assumption) ?r7
      case y7 => (intro w' hSw; (try dsimp only at hSw); go_simp; try with_reducible rfl)
      try simp only [Act.put, List.setIfInBounds_toArray, List.set_cons_zero, List.set_cons_succ]
      refine wpAnyL_take (i := 7) (v := ?v8) rfl (by kernel_rfl) (by kernel_rfl) (by kernel_rfl) (by kernel_rfl) (fun _ _ _ h => h) (Or.inl ⟨by rfl, ?y8⟩) (by assumption) ?r8
      case y8 => (intro w' hSw; (try dsimp only at hSw); go_simp; try with_reducible rfl)
      try simp only [Act.put, List.setIfInBounds_toArray, List.set_cons_zero, List.set_cons_succ]
      refine wpAnyL_take (i := 8) (v := ?v9) rfl (by kernel_rfl) (by kernel_rfl) (by kernel_rfl) (by kernel_rfl) (fun _ _ _ h => h) (Or.inl ⟨by rfl, ?y9⟩) (by assumption) ?r9
      case y9 => (intro w' hSw; (try dsimp only at hSw); go_simp; try with_reducible rfl)
      try simp only [Act.put, List.setIfInBounds_toArray, List.set_cons_zero, List.set_cons_succ]
      refine wpAnyL_one (i := 9) (by kernel_rfl) rfl rfl (fun K hK => ?_)
      go_simp
      refine (move_any HMd.out OK.out hsn2 hxn).mono ?_
      rintro e w3 ⟨n, y, rfl, hn, hy0, hy1, hnx, hot, hb3⟩
      have h53 := h5d.below hb3 (by omega)
      have hB3 := hBd.trans (hb3.mono (by omega))
      have hO3 := hOd.below hb3
      have hsz3 : w.heap.size ≤ w3.heap.size := by have := hb3.size; omega
      refine hK _ _ (fun _ => h53) ?_
      clear hK K h5d hBd hOd hb3 HMd
      refine wpAnyL_one (i := 10) (by kernel_rfl) rfl rfl (fun K hK => ?_)
      go_simp
      refine hK _ _ (fun _ => h53) ?_
      clear hK K
      refine wpAnyL_take (i := 11) (v := ?v10) rfl (by kernel_rfl) (by kernel_rfl) (by kernel_rfl) (by kernel_rfl) (fun _ _ _ h => h) (Or.inl ⟨by rfl, ?y10⟩) (by assumption) ?r10
      case y10 => (intro w' hSw; (try dsimp only at hSw); go_simp; try with_reducible rfl)
      try simp only [Act.put, List.setIfInBounds_toArray, List.set_cons_zero, List.set_cons_succ]
      refine wpAnyL_take (i := 12) (v := ?v11) rfl (by kernel_rfl) (by kernel_rfl) (by kernel_rfl) (by kernel_rfl) (fun _ _ _ h => h) (Or.inl ⟨by rfl, ?y11⟩) (by assumption) ?r11
      case y11 => (intro w' hSw; (try dsimp only at hSw); go_simp; try with_reducible rfl)
      try simp only [Act.put, List.setIfInBounds_toArray, List.set_cons_zero, List.set_cons_succ]
      refine wpAnyL_one (i := 13) (by kernel_rfl) rfl rfl (fun K hK => ?_)
      go_simp
      refine hK _ _ (fun _ => h53) ?_
      clear hK K
      refine wpAnyL_one (i := 14) (by kernel_rfl) rfl rfl (fun K hK => ?_)
      go_simp
      refine hK _ _ (fun _ => h53) ?_
      clear hK K
      refine wpAnyL_done (by kernel_rfl) ?_ _
      have h54 := h53.set (n : Int)
      have hB4 := hB3.setCell (p := ⟨b, 4, none⟩) hb (.int .i64 (n : Int))
      have hO4 := hO3.setOtherI (p := ⟨b, 4, none⟩) (fun k hk => by have := (hO3.lt k hk).1; simp; omega) (.int .i64 (n : Int))
      have H54 := Lib.hid h54
      have HB4 := Lib.hid hB4
      have HO4 := Lib.hid hO4
      clear h54 hB4 hO4 hO3 hB3
      have hll : l2.length < 1024 := by rw [hl2k.out]; omega
      go_wp2_with (at_builtin; refine wpList_push_i (B := w.heap.size) (l := l2) (y := y) rfl rfl Try.underlying27 info_int rfl rfl (HO4.out.alloc _) (by simp [go_sem]) (by unfold i64; omega) (by omega) (by simp; omega) ?_)
      intro a5 c5 l5 w5 hl5 hO5 hb5
      have hbA := (Below.refl _ _).alloc (B := (w3.setCell ⟨b, 4, none⟩ (.int .i64 (n : Int))).heap.size) (Nat.le_refl _) (.cells #[.int .i64 y] 3)
      have hlb : b < (w3.setCell ⟨b, 4, none⟩ (.int .i64 (n : Int))).heap.size := by simp; omega
      have hlb2 : b < w.heap.size := hbw
      have h55 := (H54.out.below hbA hlb).below hb5 hbw
      have hB5 := (HB4.out.alloc (by simp; omega) (.cells #[.int .i64 y] 3)).trans (hb5.mono (by omega))
      have ho5 : Hid (l5 = m.outsW s (l.take (k + 1))) := by
        unfold Hid
        rw [hl5.out, ho2.out, Mach.take_step hx.out, Mach.outsW_snoc, HSN.out]
        simp only [Int.toNat_natCast]
        rw [hot.out]
      have he5 : Hid ((n : Int) = m.endW s (l.take (k + 1))) := by
        unfold Hid
        rw [Mach.take_step hx.out, Mach.endW_snoc, HSN.out]
        simp only [Int.toNat_natCast]
        rw [hnx.out]
      have h56 : R5 w5 b an cn ao co m (m.endW s (l.take (k + 1))) := by rw [← he5.out]; exact h55
      have hl5' : l5.length ≤ 1024 := by rw [hl5.out]; simp; omega
      clear h55 h53 H54 hbA hb5
      have H56 := Lib.hid h56
      clear h56
      go_wp2
      go_roundw
      case rel => exact ⟨k + 1, a5, c5, l5, by omega, by go_num, rfl, hl5', ho5, hO5, hB5, H56.out⟩
      case measure => simp [intOf]; omega
    · have e : l.take k = l := List.take_of_length_le (by omega)
      have h56 : R5 w1 b an cn ao co m (m.endW s l) := by rw [e] at h5; exact h5
      have ho5 : Hid (l2 = m.outsW s l) := by unfold Hid; rw [ho2.out, e]
      have H56 := Lib.hid h56
      clear e h56 h5
      go_wp2
      go_ret
      exact ⟨a2, c2, l2, rfl, ho5, hO.fresh (Nat.le_refl _), hB, H56.out⟩
end
end Go.Proofs.Ytdnmgiabgpilkaa
/- mealy's state, From and Run. No condition. -/
namespace Go.Proofs.Ytdnmgiabgpilkaa
open Go.RowKit
namespace Mach
variable (m : Mach)
def stErr (s : Int) : Int := if m.err ≠ 0 then m.err else if s < 0 ∨ (m.next.length : Int) ≤ s then 2 else 0
def frErr (s : Int) (w : List Int) : Int := if m.stErr s ≠ 0 then m.stErr s else wErr w m.inputs
def frOut (s : Int) (w : List Int) : List Int := if m.frErr s w = 0 then m.outsW s w else []
def frEnd (s : Int) (w : List Int) : Int := if m.frErr s w = 0 then m.endW s w else 0
variable {m}
theorem stErr_ok {s : Int} (h : m.stErr s = 0) : m.err = 0 ∧ 0 ≤ s ∧ s < m.next.length := by
  unfold stErr at h
  split at h
  · rename_i h1; exact absurd h h1
  · rename_i h1
    split at h
    · simp at h
    · exact ⟨by simpa using h1, by omega, by omega⟩
theorem frErr_st {s : Int} {w : List Int} (h : m.stErr s ≠ 0) : m.frErr s w = m.stErr s ∧ m.frOut s w = [] ∧ m.frEnd s w = 0 := by
  have e : m.frErr s w = m.stErr s := by unfold frErr; rw [if_pos h]
  refine ⟨e, ?_, ?_⟩
  · unfold frOut; rw [if_neg (by rw [e]; exact h)]
  · unfold frEnd; rw [if_neg (by rw [e]; exact h)]
theorem frErr_w {s : Int} {w : List Int} (h : m.stErr s = 0) (h2 : wErr w m.inputs ≠ 0) : m.frErr s w = wErr w m.inputs ∧ m.frOut s w = [] ∧ m.frEnd s w = 0 := by
  have e : m.frErr s w = wErr w m.inputs := by unfold frErr; rw [if_neg (by simp [h])]
  refine ⟨e, ?_, ?_⟩
  · unfold frOut; rw [if_neg (by rw [e]; exact h2)]
  · unfold frEnd; rw [if_neg (by rw [e]; exact h2)]
theorem frErr_0 {s : Int} {w : List Int} (h : m.stErr s = 0) (h2 : wErr w m.inputs = 0) : m.frErr s w = 0 ∧ m.frOut s w = m.outsW s w ∧ m.frEnd s w = m.endW s w := by
  have e : m.frErr s w = 0 := by unfold frErr; rw [if_neg (by simp [h]), h2]
  refine ⟨e, ?_, ?_⟩
  · unfold frOut; rw [if_pos e]
  · unfold frEnd; rw [if_pos e]
theorem okS_of {w : List Int} (h : wErr w m.inputs = 0) : m.okS w ∧ w.length ≤ 1024 := by
  unfold wErr at h
  split at h
  · simp at h
  · rename_i h1
    split at h
    · simp at h
    · rename_i h2
      split at h
      · simp at h
      · rename_i h3
        refine ⟨fun x hx => ?_, by omega⟩
        have : ¬ (x < 0 ∨ m.inputs ≤ x) := fun e => h3 ⟨x, hx, e⟩
        omega
end Mach
theorem ret_fr {a : Option Addr} {n n' c : Nat} {x x' y y' : Int} (h : n = n') (h2 : x = x') (h3 : y = y') : Ending.returned (.tuple #[.slice a n c, .int .i64 x, .int .i64 y]) = .returned (.tuple #[.slice a n' c, .int .i64 x', .int .i64 y']) := by rw [h, h2, h3]
section
variable {M : Nat → Prop} {w : World} {an ao a : Option Addr} {cn co c : Nat} {m : Mach}
theorem state_any (hm : Ma M w an cn ao co m) (s : Int) :
    Calls Try.prog 61 #[maV m an cn ao co, .int .i64 s] w fun e w' => e = .returned (.int .i64 (m.stErr s)) ∧ Below w.heap.size w w' := by
  have hle := hm.next.le
  have hv := valid_any (hm.ext (Ext.alloc M w (.cells #[.int .i64 m.inputs, .int .i64 m.start, .slice an m.next.length cn, .slice ao m.out.length co] 24)))
  have HV := Lib.hid hv
  clear hv
  by_cases he : m.err = 0
  · have he' : (m.err != 0) = false := by simp [he]
    by_cases hs : s < 0
    · have HF : Hid (m.stErr s = 2) := by unfold Hid Mach.stErr; rw [if_neg (by simp [he]), if_pos (.inl hs)]
      have hd : decide (s < 0) = true := by simp [hs]
      clear he
      go_enter Try.func61, Try.ntmps61
      go_wp2_with fail
      refine (HV.out).mono ?_
      rintro e w1 ⟨rfl, hb1⟩
      have hB := ((Below.refl w.heap.size w).alloc (Nat.le_refl _) (.cells #[.int .i64 m.inputs, .int .i64 m.start, .slice an m.next.length cn, .slice ao m.out.length co] 24)).trans (hb1.mono (by simp))
      go_wp2
      go_ret
      exact ⟨ret_int HF.out.symm, hB⟩
    · have hd : decide (s < 0) = false := by simp; omega
      by_cases hs2 : (m.next.length : Int) ≤ s
      · have HF : Hid (m.stErr s = 2) := by unfold Hid Mach.stErr; rw [if_neg (by simp [he]), if_pos (.inr hs2)]
        have hd2 : decide ((m.next.length : Int) ≤ s) = true := by simp [hs2]
        clear he
        go_enter Try.func61, Try.ntmps61
        go_wp2_with fail
        refine (HV.out).mono ?_
        rintro e w1 ⟨rfl, hb1⟩
        have hbx : ∀ o, w1.cell? ⟨w.heap.size, o, none⟩ = _ := fun o => hb1.cell (by simp)
        have hB := ((Below.refl w.heap.size w).alloc (Nat.le_refl _) (.cells #[.int .i64 m.inputs, .int .i64 m.start, .slice an m.next.length cn, .slice ao m.out.length co] 24)).trans (hb1.mono (by simp))
        go_wp2
        go_ret
        exact ⟨ret_int HF.out.symm, hB⟩
      · have HF : Hid (m.stErr s = 0) := by unfold Hid Mach.stErr; rw [if_neg (by simp [he]), if_neg (by omega)]
        have hd2 : decide ((m.next.length : Int) ≤ s) = false := by simp; omega
        clear he
        go_enter Try.func61, Try.ntmps61
        go_wp2_with fail
        refine (HV.out).mono ?_
        rintro e w1 ⟨rfl, hb1⟩
        have hbx : ∀ o, w1.cell? ⟨w.heap.size, o, none⟩ = _ := fun o => hb1.cell (by simp)
        have hB := ((Below.refl w.heap.size w).alloc (Nat.le_refl _) (.cells #[.int .i64 m.inputs, .int .i64 m.start, .slice an m.next.length cn, .slice ao m.out.length co] 24)).trans (hb1.mono (by simp))
        go_wp2
        go_ret
        exact ⟨ret_int HF.out.symm, hB⟩
  · have he' : (m.err != 0) = true := by simp [he]
    have HF : Hid (m.stErr s = m.err) := by unfold Hid Mach.stErr; rw [if_pos he]
    clear he
    go_enter Try.func61, Try.ntmps61
    go_wp2_with fail
    refine (HV.out).mono ?_
    rintro e w1 ⟨rfl, hb1⟩
    have hB := ((Below.refl w.heap.size w).alloc (Nat.le_refl _) (.cells #[.int .i64 m.inputs, .int .i64 m.start, .slice an m.next.length cn, .slice ao m.out.length co] 24)).trans (hb1.mono (by simp))
    go_wp2
    go_ret
    exact ⟨ret_int HF.out.symm, hB⟩

set_option maxRecDepth 100000 in
set_option maxHeartbeats 4000000 in
theorem from_any {M' : Nat → Prop} {l : List Int} (hm : Ma M w an cn ao co m) (hw : Sl M' w a c l) (s : Int) :
    Calls Try.prog 45 #[maV m an cn ao co, .int .i64 s, .slice a l.length c] w fun e w' => ∃ (a' : Option Addr) (c' : Nat) (l' : List Int), e = .returned (.tuple #[.slice a' l'.length c', .int .i64 (m.frEnd s l), .int .i64 (m.frErr s l)]) ∧ Hid (l' = m.frOut s l) ∧
      Sl (fun k => k < w.heap.size) w' a' c' l' ∧ Below w.heap.size w w' := by
  have hll := hw.le
  have hle := hm.next.le
  have HM := Lib.hid hm
  have HW := Lib.hid hw
  have hbx0 := c4_new (m := m) (an := an) (cn := cn) (ao := ao) (co := co) w
  have hB0 := (Below.refl w.heap.size w).alloc (Nat.le_refl _) (maO m an cn ao co)
  have HC := Lib.hid (state_any (HM.out.ext (Ext.alloc M w (maO m an cn ao co))) s)
  clear hm hw
  by_cases hst : m.stErr s = 0
  · have hst' : (m.stErr s != 0) = false := by simp [hst]
    have HST := Lib.hid hst
    clear hst
    go_enter Try.func45, Try.ntmps45
    go_wp2_with fail
    refine (HC.out).mono ?_
    rintro e w1 ⟨rfl, hb1⟩
    have hB1 := hB0.trans (hb1.mono (by simp))
    have h41 := hbx0.below hb1 (by simp)
    have hz1 : w.heap.size + 1 ≤ w1.heap.size := by have := hb1.size; simpa using this
    clear hbx0 hB0 hb1 HC
    have HC := Lib.hid (wcheck_any (HW.out.below hB1) m.inputs)
    go_wp2_with fail
    refine (HC.out).mono ?_
    rintro e w2 ⟨rfl, hb2⟩
    have hB2 := hB1.trans (hb2.mono (by omega))
    have h42 := h41.below hb2 (by omega)
    have hz2 : w.heap.size + 1 ≤ w2.heap.size := by have := hb2.size; omega
    clear hB1 h41 hb2 HC
    by_cases hwe : wErr l m.inputs = 0
    · have hwe' : (wErr l m.inputs != 0) = false := by simp [hwe]
      obtain ⟨hok, hl2⟩ := Mach.okS_of hwe
      obtain ⟨he, hs0, hs1⟩ := Mach.stErr_ok HST.out
      have OK := Lib.hid (m.ok_of_err he)
      have HF := Lib.hid (Mach.frErr_0 HST.out hwe)
      have hB3 := hB2.alloc (by omega) (.cells #[.int .i64 m.inputs, .int .i64 m.start, .slice an m.next.length cn, .slice ao m.out.length co, .int .i64 s] 92)
      have h5 : R5 (w2.alloc (.cells #[.int .i64 m.inputs, .int .i64 m.start, .slice an m.next.length cn, .slice ao m.out.length co, .int .i64 s] 92)) w2.heap.size an cn ao co m s := by
        refine ⟨⟨?_, ?_, ?_, ?_⟩, ?_, ?_⟩ <;> simp
      have HR := Lib.hid (run_any (B := w2.heap.size) (b := w2.heap.size) (w := w2.alloc (.cells #[.int .i64 m.inputs, .int .i64 m.start, .slice an m.next.length cn, .slice ao m.out.length co, .int .i64 s] 92)) (Nat.le_refl _) (by simp)
        (fun w' hb => HM.out.below (hB3.trans (hb.mono (by omega)))) (fun w' hb => HW.out.below (hB3.trans (hb.mono (by omega)))) OK.out h5 ⟨hs0, hs1⟩ hok hl2)
      clear he hwe hok h5
      go_wp2_with fail
      refine (HR.out).mono ?_
      rintro e w3 ⟨a3, c3, l3, rfl, hl3, hs3, hb3, h53⟩
      have hBf := hB3.trans (hb3.mono (by omega))
      have hl4 : Hid (l3 = m.frOut s l) := by unfold Hid; rw [hl3.out, HF.out.2.1]
      have hs4 := hs3.anti (M' := fun k => k < w.heap.size) (fun k _ hk => by simp; omega)
      have hat := h53.2.1
      clear hl3 hs3 hb3 h53 hB3 hB2 h42 HR
      go_wp2
      refine wp_quiet_fast (by kernel_rfl) (by kernel_rfl) ?_
      repeat (first | go_big_quiet_step (fail) | quiet_step (fail))
      refine wpQuiet_nil ?_
      intro _ hw'
      obtain ⟨nq, hw''⟩ := hw'
      subst hw''
      go_wp2
      exact bodyPost_ret (v := .tuple #[.slice a3 l3.length c3, .int .i64 (m.endW s l), .int .i64 0]) (by simp [results, Try.results45, go_sem]) rfl ⟨a3, c3, l3, ret_fr rfl HF.out.2.2.symm HF.out.1.symm, hl4, hs4.drewN _, bl_drewN hBf _⟩
    · have hwe' : (wErr l m.inputs != 0) = true := by simp [hwe]
      have HF := Lib.hid (Mach.frErr_w HST.out hwe)
      clear hwe
      go_wp2
      exact bodyPost_ret (v := .tuple #[.slice none 0 0, .int .i64 0, .int .i64 (wErr l m.inputs)]) (by simp [results, Try.results45, go_sem]) rfl ⟨none, 0, [], ret_fr rfl HF.out.2.2.symm HF.out.1.symm, HF.out.2.1.symm, Sl.nil _ _ _ (by unfold maxLen; omega), hB2⟩
  · have hst' : (m.stErr s != 0) = true := by simp [hst]
    have HF := Lib.hid (Mach.frErr_st (w := l) hst)
    clear hst
    go_enter Try.func45, Try.ntmps45
    go_wp2_with fail
    refine (HC.out).mono ?_
    rintro e w1 ⟨rfl, hb1⟩
    have hB1 := hB0.trans (hb1.mono (by simp))
    clear hbx0 hB0 hb1 HC
    go_wp2
    exact bodyPost_ret (v := .tuple #[.slice none 0 0, .int .i64 0, .int .i64 (m.stErr s)]) (by simp [results, Try.results45, go_sem]) rfl ⟨none, 0, [], ret_fr rfl HF.out.2.2.symm HF.out.1.symm, HF.out.2.1.symm, Sl.nil _ _ _ (by unfold maxLen; omega), hB1⟩

theorem ret_ru {a : Option Addr} {n c : Nat} {x y : Int} (h : x = y) : Ending.returned (.tuple #[.slice a n c, .int .i64 x]) = .returned (.tuple #[.slice a n c, .int .i64 y]) := by rw [h]
set_option maxHeartbeats 1000000 in
theorem mrun_any {M' : Nat → Prop} {l : List Int} (hm : Ma M w an cn ao co m) (hw : Sl M' w a c l) :
    Calls Try.prog 48 #[maV m an cn ao co, .slice a l.length c] w fun e w' => ∃ (a' : Option Addr) (c' : Nat) (l' : List Int), e = .returned (.tuple #[.slice a' l'.length c', .int .i64 (m.frErr m.start l)]) ∧ Hid (l' = m.frOut m.start l) ∧
      Sl (fun k => k < w.heap.size) w' a' c' l' ∧ Below w.heap.size w w' := by
  have HC := Lib.hid (from_any (hm.ext (Ext.alloc M w (maO m an cn ao co))) (hw.alloc (maO m an cn ao co)) m.start)
  have hB0 := (Below.refl w.heap.size w).alloc (Nat.le_refl _) (maO m an cn ao co)
  clear hm hw
  go_enter Try.func48, Try.ntmps48
  go_wp2_with fail
  refine (HC.out).mono ?_
  rintro e w1 ⟨a1, c1, l1, rfl, hl1, hs1, hb1⟩
  have hB1 := hB0.trans (hb1.mono (by simp))
  have hs2 := hs1.anti (M' := fun k => k < w.heap.size) (fun k _ hk => by simp; omega)
  clear hs1 hb1 hB0
  go_wp2
  go_ret2
  exact ⟨a1, c1, l1, ret_ru rfl, hl1, hs2, hB1⟩
end
end Go.Proofs.Ytdnmgiabgpilkaa
/- States of one class have the same outputs; classes and separating words. Condition: the machine is valid. -/
namespace Go.Proofs.Ytdnmgiabgpilkaa
namespace Mach
variable {m : Mach}
theorem eqv_outs (ok : m.Ok) : ∀ (w : List Int) (k : Nat) (s t : Int), m.eqv k s.toNat t.toNat → w.length ≤ k → m.okS w → m.outsW s w = m.outsW t w
  | [], _, _, _, _, _, _ => rfl
  | x :: w, 0, _, _, _, h, _ => by simp at h
  | x :: w, k + 1, s, t, he, hl, hw => by
    obtain ⟨⟨x0, x1⟩, hw2⟩ := okS_cons hw
    obtain ⟨h1, h2⟩ := he x.toNat (by omega)
    rw [outsW, outsW, h1, eqv_outs ok w k _ _ h2 (by simpa using hl) hw2]
theorem cls_iff (ok : m.Ok) {k s t : Nat} {l : List Int} (hl : l = m.partOf k) (hs : s < m.next.length) (ht : t < m.next.length) {x y : Int} (hx : l[s]? = some x) (hy : l[t]? = some y) : x = y ↔ m.sepB k s t = false := by
  have e : m.partOf k = m.part (min k m.next.length) := by
    unfold partOf
    rw [if_pos (m.err_of_ok ok)]
    simp
  rw [e] at hl
  have h1 : x = (m.part (min k m.next.length)).getD s 0 := by rw [← hl]; exact (getD_of_some hx).symm
  have h2 : y = (m.part (min k m.next.length)).getD t 0 := by rw [← hl]; exact (getD_of_some hy).symm
  rw [h1, h2, part_iff ok _ s t hs ht, sepB_iff]
  rcases Nat.le_total k m.next.length with h | h
  · rw [Nat.min_eq_left h]
  · rw [Nat.min_eq_right h]; exact (eqv_rest ok h hs ht).symm
end Mach
end Go.Proofs.Ytdnmgiabgpilkaa
/- States that answer all words alike, within a machine and across two. Condition where named: the machines are valid. -/
namespace Go.Proofs.Ytdnmgiabgpilkaa
namespace Mach

/-- State s of a and state t of b answer all words of a's symbols alike. -/
def Sim (a b : Mach) (s t : Int) : Prop := ∀ w, a.okS w → a.outsW s w = b.outsW t w
theorem okS_one {m : Mach} {x : Nat} (hx : x < m.inputs.toNat) {w : List Int} (hw : m.okS w) : m.okS ((x : Int) :: w) := by
  intro y hy
  rcases List.mem_cons.1 hy with rfl | h
  · omega
  · exact hw y h
theorem okS_nil (m : Mach) : m.okS [] := fun _ h => absurd h (by simp)
theorem okS_swap {a b : Mach} (hi : a.inputs = b.inputs) {w : List Int} (h : b.okS w) : a.okS w := fun x hx => by rw [hi]; exact h x hx
section
variable {a b c : Mach} {s t u : Int}
theorem Sim.step (h : Sim a b s t) {x : Nat} (hx : x < a.inputs.toNat) : a.ot s.toNat x = b.ot t.toNat x ∧ Sim a b (a.nx s.toNat x) (b.nx t.toNat x) := by
  constructor
  · have := h [(x : Int)] (okS_one hx a.okS_nil)
    simpa [outsW] using this
  · intro w hw
    have := h ((x : Int) :: w) (okS_one hx hw)
    simp only [outsW, Int.toNat_natCast, List.cons.injEq] at this
    exact this.2
theorem Sim.refl (a : Mach) (s : Int) : Sim a a s s := fun _ _ => rfl
theorem Sim.symm (hi : a.inputs = b.inputs) (h : Sim a b s t) : Sim b a t s := fun w hw => (h w (okS_swap hi hw)).symm
theorem Sim.trans (hi : a.inputs = b.inputs) (h : Sim a b s t) (h2 : Sim b c t u) : Sim a c s u := fun w hw => (h w hw).trans (h2 w (okS_swap hi.symm hw))
end
variable {m : Mach}
theorem eqv_of_words : ∀ (k : Nat) (s t : Int), (∀ w, m.okS w → w.length ≤ k → m.outsW s w = m.outsW t w) → m.eqv k s.toNat t.toNat
  | 0, _, _, _ => trivial
  | k + 1, s, t, h => fun x hx => by
    refine ⟨?_, ?_⟩
    · have := h [(x : Int)] (okS_one hx m.okS_nil) (by simp)
      simpa [outsW] using this
    · refine eqv_of_words k _ _ fun w hw hl => ?_
      have := h ((x : Int) :: w) (okS_one hx hw) (by simp; omega)
      simp only [outsW, Int.toNat_natCast, List.cons.injEq] at this
      exact this.2
theorem sim_iff (ok : m.Ok) {s t : Int} (hs : 0 ≤ s) (hs' : s < m.next.length) (ht : 0 ≤ t) (ht' : t < m.next.length) : m.cl s = m.cl t ↔ Sim m m s t := by
  rw [cl_iff ok hs hs' ht ht']
  constructor
  · intro h w hw
    refine eqv_outs ok w (max w.length m.next.length) s t ?_ (by omega) hw
    exact (eqv_rest ok (by omega) (by omega) (by omega)).2 h
  · exact fun h => eqv_of_words _ _ _ fun w hw _ => h w hw
end Mach

/-- Lists that correspond, member by member. -/
def Cor (R : Int → Int → Prop) : List Int → List Int → Prop
  | [], [] => True
  | x :: l, y :: l' => R x y ∧ Cor R l l'
  | _, _ => False
section
variable {R : Int → Int → Prop}
theorem Cor.len : ∀ {l l' : List Int}, Cor R l l' → l.length = l'.length
  | [], [], _ => rfl
  | [], _ :: _, h => h.elim
  | _ :: _, [], h => h.elim
  | _ :: l, _ :: l', h => by simp [Cor.len h.2]
theorem Cor.snoc : ∀ {l l' : List Int} {x y : Int}, Cor R l l' → R x y → Cor R (l ++ [x]) (l' ++ [y])
  | [], [], _, _, _, h => ⟨h, trivial⟩
  | [], _ :: _, _, _, h, _ => h.elim
  | _ :: _, [], _, _, h, _ => h.elim
  | _ :: _, _ :: _, _, _, h, h2 => ⟨h.1, Cor.snoc h.2 h2⟩
theorem Cor.get : ∀ {l l' : List Int}, Cor R l l' → ∀ {i : Nat}, i < l.length → R (l.getD i 0) (l'.getD i 0)
  | [], _, _, i, hi => by simp at hi
  | _ :: _, [], h, _, _ => h.elim
  | _ :: _, _ :: _, h, 0, _ => h.1
  | _ :: l, _ :: l', h, i + 1, hi => by
    have := Cor.get h.2 (i := i) (by simpa using hi)
    simpa using this
theorem Cor.of : ∀ {l l' : List Int}, l.length = l'.length → (∀ i, i < l.length → R (l.getD i 0) (l'.getD i 0)) → Cor R l l'
  | [], [], _, _ => trivial
  | [], _ :: _, h, _ => by simp at h
  | _ :: _, [], h, _ => by simp at h
  | x :: l, y :: l', h, h2 => ⟨by simpa using h2 0 (by simp), Cor.of (by simpa using h) fun i hi => by simpa using h2 (i + 1) (by simpa using hi)⟩
theorem Cor.map {α : Type} {f g : Int → α} (h2 : ∀ x y, R x y → f x = g y) : ∀ {l l' : List Int}, Cor R l l' → l.map f = l'.map g
  | [], [], _ => rfl
  | [], _ :: _, h => h.elim
  | _ :: _, [], h => h.elim
  | _ :: _, _ :: _, h => by simp [h2 _ _ h.1, Cor.map h2 h.2]
/-- Classes that agree along a correspondence. -/
def Agree (R : Int → Int → Prop) (c d : Int → Int) : Prop := ∀ x y x' y', R x x' → R y y' → (c x = c y ↔ d x' = d y')
variable {c d : Int → Int}
theorem Cor.mem (hA : Agree R c d) {t t' : Int} (ht : R t t') : ∀ {l l' : List Int}, Cor R l l' → (c t ∈ l.map c ↔ d t' ∈ l'.map d)
  | [], [], _ => by simp
  | [], _ :: _, h => h.elim
  | _ :: _, [], h => h.elim
  | x :: l, y :: l', h => by
    rw [List.map_cons, List.map_cons, List.mem_cons, List.mem_cons, Cor.mem hA ht h.2, hA t x t' y ht h.1]
theorem Cor.idx (hA : Agree R c d) {t t' : Int} (ht : R t t') : ∀ {l l' : List Int}, Cor R l l' → (l.map c).idxOf (c t) = (l'.map d).idxOf (d t')
  | [], [], _ => by simp
  | [], _ :: _, h => h.elim
  | _ :: _, [], h => h.elim
  | x :: l, y :: l', h => by
    rw [List.map_cons, List.map_cons, List.idxOf_cons, List.idxOf_cons, Cor.idx hA ht h.2]
    have := hA x t y t' h.1 ht
    by_cases e : c x = c t
    · rw [beq_iff_eq.2 e, beq_iff_eq.2 (this.1 e)]
    · rw [beq_eq_false_iff_ne.2 e, beq_eq_false_iff_ne.2 (fun e2 => e (this.2 e2))]
theorem Cor.visit (hA : Agree R c d) : ∀ {r r' l l' : List Int}, Cor R r r' → Cor R l l' → Cor R (visitC c l r) (visitC d l' r')
  | [], [], _, _, _, h => h
  | [], _ :: _, _, _, h, _ => h.elim
  | _ :: _, [], _, _, h, _ => h.elim
  | t :: r, t' :: r', l, l', h, h2 => by
    simp only [visitC]
    have hm := Cor.mem hA h.1 h2
    by_cases e : c t ∈ l.map c
    · rw [if_pos e, if_pos (hm.1 e)]
      exact Cor.visit hA h.2 h2
    · rw [if_neg e, if_neg (fun e2 => e (hm.2 e2))]
      exact Cor.visit hA h.2 (h2.snoc h.1)
end

namespace Mach
section
variable {a b : Mach}
/-- States of both that answer alike. -/
def RS (a b : Mach) (x y : Int) : Prop := (0 ≤ x ∧ x < a.next.length) ∧ (0 ≤ y ∧ y < b.next.length) ∧ Sim a b x y
theorem agree (oa : a.Ok) (ob : b.Ok) (hi : a.inputs = b.inputs) : Agree (RS a b) a.cl b.cl := by
  intro x y x' y' h h2
  rw [sim_iff oa h.1.1 h.1.2 h2.1.1 h2.1.2, sim_iff ob h.2.1.1 h.2.1.2 h2.2.1.1 h2.2.1.2]
  constructor
  · exact fun e => (Sim.symm hi h.2.2).trans hi.symm (e.trans rfl h2.2.2)
  · exact fun e => h.2.2.trans hi (e.trans rfl (Sim.symm hi h2.2.2))
theorem rows_cor (oa : a.Ok) (ob : b.Ok) (hi : a.inputs = b.inputs) {x y : Int} (h : RS a b x y) : Cor (RS a b) (a.next.getD x.toNat []) (b.next.getD y.toNat []) := by
  have h1 := oa.rn x.toNat (by have := h.1; omega)
  have h2 := ob.rn y.toNat (by have := h.2.1; omega)
  refine Cor.of (by omega) fun i hil => ?_
  have hia : i < a.inputs.toNat := by omega
  have r1 := oa.nx x.toNat i (by have := h.1; omega) hia
  have r2 := ob.nx y.toNat i (by have := h.2.1; omega) (by omega)
  exact ⟨r1, r2, (h.2.2.step hia).2⟩
theorem qbfs_cor (oa : a.Ok) (ob : b.Ok) (hi : a.inputs = b.inputs) (hs : Sim a b a.start b.start) : ∀ i, Cor (RS a b) (a.qbfs a.cl i) (b.qbfs b.cl i)
  | 0 => ⟨⟨⟨oa.s0, oa.s1⟩, ⟨ob.s0, ob.s1⟩, hs⟩, trivial⟩
  | i + 1 => by
    have ih := qbfs_cor oa ob hi hs i
    rw [qbfs_succ, qbfs_succ, ← ih.len]
    by_cases e : i < (a.qbfs a.cl i).length
    · rw [if_pos e, if_pos e]
      exact Cor.visit (agree oa ob hi) (rows_cor oa ob hi (ih.get e)) ih
    · rw [if_neg e, if_neg e]; exact ih
theorem firsts_qbfs {m : Mach} (ok : m.Ok) {k : Nat} (hk : m.next.length ≤ k) : firsts m.cl m.reach = m.qbfs m.cl k := by
  obtain ⟨h1, h2, h3⟩ := quot_reach ok (cl_cong ok)
  rw [← h1, qbfs_stop _ h2 _ (Nat.le_trans h3 hk), ← qbfs_stop _ h2 _ h3]
theorem firsts_cor (oa : a.Ok) (ob : b.Ok) (hi : a.inputs = b.inputs) (hs : Sim a b a.start b.start) : Cor (RS a b) (firsts a.cl a.reach) (firsts b.cl b.reach) := by
  rw [firsts_qbfs oa (k := max a.next.length b.next.length) (by omega), firsts_qbfs ob (k := max a.next.length b.next.length) (by omega)]
  exact qbfs_cor oa ob hi hs _
/-- Machines that answer alike have the same minimal machine. -/
theorem minF_cor (oa : a.Ok) (ob : b.Ok) (hi : a.inputs = b.inputs) (hs : Sim a b a.start b.start) : a.minF = b.minF := by
  have hF := firsts_cor oa ob hi hs
  have hA := agree oa ob hi
  unfold minF
  rw [hi]
  congr 1
  · refine Cor.map (fun x y h => ?_) hF
    refine Cor.map (fun u v h2 => ?_) (rows_cor oa ob hi h)
    unfold idxC
    rw [Cor.idx hA h2 hF]
  · refine Cor.map (fun x y h => ?_) hF
    have h1 := oa.ro x.toNat (by have := h.1; omega)
    have h2 := ob.ro y.toNat (by have := h.2.1; omega)
    refine List.ext_getElem (by omega) fun i hi1 hi2 => ?_
    have := (h.2.2.step (x := i) (by omega)).1
    unfold ot at this
    rw [List.getD_eq_getElem?_getD (l := a.out.getD x.toNat []), List.getD_eq_getElem?_getD (l := b.out.getD y.toNat []), List.getElem?_eq_getElem hi1, List.getElem?_eq_getElem hi2] at this
    exact this
end

variable {m : Mach}
theorem first_has {x : Int} (hx : x ∈ m.reach) : m.cl x ∈ (firsts m.cl m.reach).map m.cl := (firsts_mem _ _ _).2 (List.mem_map_of_mem hx)
theorem firsts_sub (_ok : m.Ok) : ∀ x ∈ firsts m.cl m.reach, x ∈ m.reach := by
  exact fun x hx => visitC_all m.cl (Q := fun x => x ∈ m.reach) m.reach [] (by simp) (fun _ h => h) x hx
/-- The number of a class, and the state that stands for it. -/
theorem rep_of {x : Int} (hx : x ∈ m.reach) : ∃ (i : Nat) (hi : i < (firsts m.cl m.reach).length), idxC m.cl (firsts m.cl m.reach) x = (i : Int) ∧ m.cl (firsts m.cl m.reach)[i] = m.cl x := by
  have h := first_has hx
  have hl := List.idxOf_lt_length_of_mem h
  refine ⟨((firsts m.cl m.reach).map m.cl).idxOf (m.cl x), by simpa using hl, rfl, ?_⟩
  have := List.getElem_idxOf hl
  rw [List.getElem_map] at this
  exact this
theorem minF_len (m : Mach) : m.minF.next.length = (firsts m.cl m.reach).length := by simp [minF]
theorem minF_ot {i a : Nat} (hi : i < (firsts m.cl m.reach).length) : m.minF.ot i a = m.ot ((firsts m.cl m.reach)[i]).toNat a := by
  unfold ot minF
  simp only
  rw [getD_map (fun x : Int => m.out.getD x.toNat []) _ _ hi]
theorem minF_nx (ok : m.Ok) {i a : Nat} (hi : i < (firsts m.cl m.reach).length) (ha : a < m.inputs.toNat) : m.minF.nx i a = idxC m.cl (firsts m.cl m.reach) (m.nx ((firsts m.cl m.reach)[i]).toNat a) := by
  have hr := (reach_props ok).2.1 _ (firsts_sub ok _ (List.getElem_mem hi))
  have hl := ok.rn ((firsts m.cl m.reach)[i]).toNat (by omega)
  unfold nx minF
  simp only
  rw [getD_map (fun x : Int => (m.next.getD x.toNat []).map (idxC m.cl (firsts m.cl m.reach))) _ _ hi]
  rw [List.getD_eq_getElem?_getD, List.getElem?_map, List.getD_eq_getElem?_getD (l := m.next.getD ((firsts m.cl m.reach)[i]).toNat []), List.getElem?_eq_getElem (by omega)]
  rfl
theorem nx_mem {s a : Nat} (ok : m.Ok) (hs : s < m.next.length) (ha : a < m.inputs.toNat) : m.nx s a ∈ m.next.getD s [] := by
  have hl := ok.rn s hs
  unfold nx
  rw [List.getD_eq_getElem?_getD (l := m.next.getD s []), List.getElem?_eq_getElem (by omega)]
  exact List.getElem_mem _
theorem minF_sim (ok : m.Ok) : ∀ (w : List Int) (x : Int), x ∈ m.reach → m.okS w → m.outsW x w = m.minF.outsW (idxC m.cl (firsts m.cl m.reach) x) w
  | [], _, _, _ => rfl
  | y :: w, x, hx, hw => by
    obtain ⟨⟨y0, y1⟩, hw2⟩ := okS_cons hw
    obtain ⟨i, hi, e, hc⟩ := rep_of hx
    have hxr := (reach_props ok).2.1 _ hx
    have hf := firsts_sub ok _ (List.getElem_mem hi)
    have hfr := (reach_props ok).2.1 _ hf
    have hya : y.toNat < m.inputs.toNat := by omega
    have hs := (sim_iff ok hfr.1 hfr.2 hxr.1 hxr.2).1 hc
    obtain ⟨h1, h2⟩ := hs.step hya
    have hn1 := reach_closed ok hx (nx_mem ok (by omega) hya)
    have hn2 := reach_closed ok hf (nx_mem ok (by omega) hya)
    have hr1 := (reach_props ok).2.1 _ hn1
    have hr2 := (reach_props ok).2.1 _ hn2
    have hcn := (sim_iff ok hr2.1 hr2.2 hr1.1 hr1.2).2 h2
    unfold outsW
    rw [e]
    simp only [Int.toNat_natCast]
    rw [minF_ot hi, h1, minF_nx ok hi hya, idxC_congr m.cl hcn, minF_sim ok w _ hn1 hw2]
theorem qbfs_head (m : Mach) (c : Int → Int) : ∀ i, (m.qbfs c i)[0]? = some m.start
  | 0 => by simp [qbfs]
  | i + 1 => by
    have ih := qbfs_head m c i
    rw [qbfs_succ]
    split
    · obtain ⟨s, hs⟩ := visitC_prefix c (m.next.getD ((m.qbfs c i).getD i 0).toNat []) (m.qbfs c i)
      rw [hs, List.getElem?_append_left]
      · exact ih
      · by_cases e : 0 < (m.qbfs c i).length
        · exact e
        · rw [List.getElem?_eq_none (by omega)] at ih; simp at ih
    · exact ih
theorem start_mem (ok : m.Ok) : m.start ∈ m.reach := by
  have h := qbfs_head m m.cl m.next.length
  rw [← firsts_qbfs ok (Nat.le_refl _)] at h
  exact firsts_sub ok _ (List.mem_of_getElem? h)
theorem start_idx (ok : m.Ok) : idxC m.cl (firsts m.cl m.reach) m.start = 0 := by
  have h := qbfs_head m m.cl m.next.length
  rw [← firsts_qbfs ok (Nat.le_refl _)] at h
  unfold idxC
  cases e : firsts m.cl m.reach with
  | nil => rw [e] at h; simp at h
  | cons x l =>
    rw [e] at h
    obtain rfl : x = m.start := by simpa using h
    simp
/-- The minimal machine answers like the machine. -/
theorem minF_start (ok : m.Ok) : Sim m m.minF m.start m.minF.start := by
  intro w hw
  rw [minF_sim ok w _ (start_mem ok) hw, start_idx ok]
  rfl
theorem firsts_le (_ok : m.Ok) : (firsts m.cl m.reach).length ≤ m.reach.length := by
  have := visitC_len m.cl m.reach []
  unfold firsts; simpa using this
theorem firsts_pos (ok : m.Ok) : 0 < (firsts m.cl m.reach).length := by
  have h := first_has (start_mem ok)
  by_cases e : 0 < (firsts m.cl m.reach).length
  · exact e
  · rw [List.eq_nil_of_length_eq_zero (l := firsts m.cl m.reach) (by omega)] at h; simp at h
theorem minF_ok (ok : m.Ok) : m.minF.Ok := by
  have n1 := ok.n1
  have hl := m.minF_len
  have hlo : m.minF.out.length = (firsts m.cl m.reach).length := by simp [minF]
  have hle := firsts_le ok
  have hle2 := reach_le ok
  have hp := firsts_pos ok
  have hrep : ∀ i (hi : i < (firsts m.cl m.reach).length), ((firsts m.cl m.reach)[i]).toNat < m.next.length := fun i hi => by
    have := (reach_props ok).2.1 _ (firsts_sub ok _ (List.getElem_mem hi)); omega
  refine ⟨ok.i0, ok.i1, by omega, by omega, by simp [minF], by rw [hl]; simp only [minF]; omega, by omega, fun s hs => ?_, fun s hs => ?_, fun s a hs ha => ?_, fun s a hs ha => ?_⟩
  · rw [hl] at hs
    have := ok.rn _ (hrep s hs)
    have e : m.minF.next.getD s [] = (m.next.getD ((firsts m.cl m.reach)[s]).toNat []).map (idxC m.cl (firsts m.cl m.reach)) := getD_map _ _ _ hs
    rw [e, List.length_map]
    exact this
  · rw [hl] at hs
    have := ok.ro _ (hrep s hs)
    have e : m.minF.out.getD s [] = m.out.getD ((firsts m.cl m.reach)[s]).toNat [] := getD_map (fun x : Int => m.out.getD x.toNat []) _ _ hs
    rw [e]
    exact this
  · rw [hl] at hs
    have ha' : a < m.inputs.toNat := ha
    rw [minF_nx ok hs ha', hl]
    have hm := reach_closed ok (firsts_sub ok _ (List.getElem_mem hs)) (nx_mem ok (hrep s hs) ha')
    obtain ⟨i, hi, e, -⟩ := rep_of hm
    rw [e]; omega
  · rw [hl] at hs
    rw [minF_ot hs]
    exact ok.ot _ a (hrep s hs) ha
theorem minF_minF (ok : m.Ok) : m.minF.minF = m.minF := (minF_cor ok (minF_ok ok) rfl (minF_start ok)).symm
theorem minF_reach (ok : m.Ok) : m.minF.reach.length = m.minF.next.length := by
  have h1 := firsts_le (minF_ok ok)
  have h2 := reach_le (minF_ok ok)
  have h3 := m.minF.minF_len
  rw [minF_minF ok] at h3
  omega
theorem minF_iff {a b : Mach} (oa : a.Ok) (ob : b.Ok) (hi : a.inputs = b.inputs) : a.minF = b.minF ↔ Sim a b a.start b.start := by
  constructor
  · intro h
    have h1 := minF_start oa
    rw [h] at h1
    exact Sim.trans (b := b.minF) (c := b) hi h1 (Sim.symm (a := b) (b := b.minF) rfl (minF_start ob))
  · exact minF_cor oa ob hi
end Mach
end Go.Proofs.Ytdnmgiabgpilkaa
/- The plain words for a machine whose states have other numbers. Condition where named: the machine is valid. -/
namespace Go.Proofs.Ytdnmgiabgpilkaa
/-- Rows that are put at their new places, one after the other. -/
def spread (f : Nat → List Int) (n d : Nat) : Nat → List (List Int)
  | 0 => List.replicate n []
  | k + 1 => (spread f n d k).set ((k + d) % n) (f k)
theorem spread_len (f : Nat → List Int) (n d : Nat) : ∀ k, (spread f n d k).length = n
  | 0 => by simp [spread]
  | k + 1 => by simp [spread, spread_len f n d k]
theorem rot_inj {n d s k : Nat} (hs : s < n) (hk : k < n) (h : (s + d) % n = (k + d) % n) : s = k := by
  have aux : ∀ {s k : Nat}, s ≤ k → k < n → (s + d) % n = (k + d) % n → s = k := by
    intro s k hle hk h
    have h1 := Nat.sub_mod_eq_zero_of_mod_eq h.symm
    rw [show k + d - (s + d) = k - s from by omega, Nat.mod_eq_of_lt (by omega)] at h1
    omega
  rcases Nat.le_total s k with h2 | h2
  · exact aux h2 hk h
  · exact (aux h2 hs h.symm).symm
theorem rot_onto {n d p : Nat} (hp : p < n) : ∃ s, s < n ∧ (s + d) % n = p := by
  refine ⟨(p + (n - d % n)) % n, Nat.mod_lt _ (by omega), ?_⟩
  have hd : d % n < n := Nat.mod_lt _ (by omega)
  rw [Nat.mod_add_mod]
  have e : p + (n - d % n) + d = p + n * (d / n + 1) := by
    have := Nat.div_add_mod d n
    rw [Nat.mul_add, Nat.mul_one]
    omega
  rw [e, Nat.add_mul_mod_self_left, Nat.mod_eq_of_lt hp]
theorem spread_get {f : Nat → List Int} {n d : Nat} : ∀ k, k ≤ n → ∀ s, s < k → (spread f n d k).getD ((s + d) % n) [] = f s
  | 0, _, s, hs => by omega
  | k + 1, hk, s, hs => by
    unfold spread
    rw [List.getD_eq_getElem?_getD]
    by_cases e : s = k
    · subst e
      rw [List.getElem?_set_self (by rw [spread_len]; exact Nat.mod_lt _ (by omega))]; rfl
    · rw [List.getElem?_set_ne (fun h => e (rot_inj (by omega) (by omega) h.symm)), ← List.getD_eq_getElem?_getD]
      exact spread_get k (by omega) s (by omega)
namespace Mach
def renRow (m : Mach) (d s : Nat) : List Int := (m.next.getD s []).map fun t => (((t.toNat + d) % m.next.length : Nat) : Int)
/-- The machine whose state s has the number (s + d) mod n. -/
def ren (m : Mach) (d : Nat) : Mach :=
  { inputs := m.inputs, start := (((m.start.toNat + d) % m.next.length : Nat) : Int), next := spread (m.renRow d) m.next.length d m.next.length, out := spread (fun s => m.out.getD s []) m.next.length d m.next.length }
section
variable {m : Mach} {d : Nat}
theorem ren_len (m : Mach) (d : Nat) : (m.ren d).next.length = m.next.length := spread_len _ _ _ _
theorem ren_ot {s : Nat} (hs : s < m.next.length) (x : Nat) : (m.ren d).ot ((s + d) % m.next.length) x = m.ot s x := by
  unfold ot ren
  simp only
  rw [spread_get _ (Nat.le_refl _) s hs]
theorem ren_row {s : Nat} (hs : s < m.next.length) : (m.ren d).next.getD ((s + d) % m.next.length) [] = m.renRow d s := by
  unfold ren
  simp only
  rw [spread_get _ (Nat.le_refl _) s hs]
theorem ren_nx (ok : m.Ok) {s x : Nat} (hs : s < m.next.length) (hx : x < m.inputs.toNat) : (m.ren d).nx ((s + d) % m.next.length) x = ((((m.nx s x).toNat + d) % m.next.length : Nat) : Int) := by
  have hl := ok.rn s hs
  unfold nx
  rw [ren_row hs]
  unfold renRow
  rw [List.getD_eq_getElem?_getD, List.getElem?_map, List.getD_eq_getElem?_getD (l := m.next.getD s []), List.getElem?_eq_getElem (by omega)]
  rfl
theorem ren_ok (ok : m.Ok) : (m.ren d).Ok := by
  have hl := m.ren_len d
  have n0 := ok.n0
  have n1 := ok.n1
  have hlt : ∀ x : Nat, x % m.next.length < m.next.length := fun x => Nat.mod_lt _ n0
  refine ⟨ok.i0, ok.i1, by omega, by omega, by simp only [ren]; omega, by rw [hl]; simp only [ren]; have := hlt (m.start.toNat + d); omega, by rw [hl]; exact spread_len _ _ _ _, fun p hp => ?_, fun p hp => ?_, fun p x hp hx => ?_, fun p x hp hx => ?_⟩
  all_goals
    rw [hl] at hp
    obtain ⟨s, hs, rfl⟩ := rot_onto (d := d) hp
  · rw [ren_row hs]
    unfold renRow
    rw [List.length_map]
    exact ok.rn s hs
  · show (((spread (fun s => m.out.getD s []) m.next.length d m.next.length).getD ((s + d) % m.next.length) []).length : Int) = m.inputs
    rw [spread_get _ (Nat.le_refl _) s hs]
    exact ok.ro s hs
  · rw [ren_nx ok hs hx, hl]
    have := hlt ((m.nx s x).toNat + d)
    omega
  · rw [ren_ot hs]
    exact ok.ot s x hs hx
theorem ren_outs (ok : m.Ok) : ∀ (w : List Int) (s : Int), 0 ≤ s → s < m.next.length → m.okS w → m.outsW s w = (m.ren d).outsW (((s.toNat + d) % m.next.length : Nat) : Int) w
  | [], _, _, _, _ => rfl
  | x :: w, s, h0, h1, hw => by
    obtain ⟨⟨x0, x1⟩, hw2⟩ := okS_cons hw
    have hr := ok.nx s.toNat x.toNat (by omega) (by omega)
    unfold outsW
    rw [Int.toNat_natCast, ren_ot (by omega), ren_nx ok (by omega) (by omega), ren_outs ok w _ hr.1 hr.2 hw2]
theorem ren_sim (ok : m.Ok) : Sim m (m.ren d) m.start (m.ren d).start := fun w hw => ren_outs ok w m.start ok.s0 ok.s1 hw
theorem ren_minF (ok : m.Ok) (d : Nat) : (m.ren d).minF = m.minF := (minF_cor ok (ren_ok ok) rfl (ren_sim ok)).symm
end
end Mach
end Go.Proofs.Ytdnmgiabgpilkaa
/- A machine whose two tables are made first and filled row by row; three allocations in any order. No condition. -/
namespace Go.Proofs.Ytdnmgiabgpilkaa
open Go.RowKit

section
variable {P : Program} {Q : Exit → Act → World → Prop} {md : Region.Mode} {S : World → Prop} {L : List Nat}
/-- Two that may come up. -/
theorem wpAnyL_two {l ri rj : List Oper} {i j : Nat} {oi oj : Oper} {fuel : Nat} {listed : Array Bool} {a : Act} {w : World} (hr : Region.ready md l.toArray listed = [i, j]) (hoi : l.drop i = oi :: ri) (hoj : l.drop j = oj :: rj)
    (hwi : Region.wanted oi (yielded l.toArray a.tmps) = true) (hwj : Region.wanted oj (yielded l.toArray a.tmps) = true)
    (hi : ∀ K : Act → World → Prop, (∀ a' w', (waits md l.toArray L i = false → S w') → wpAnyL P md l.toArray Q S L fuel (listed.setIfInBounds i true) a' w' → K a' w') → oi.wp P a w K Q)
    (hj : ∀ K : Act → World → Prop, (∀ a' w', (waits md l.toArray L j = false → S w') → wpAnyL P md l.toArray Q S L fuel (listed.setIfInBounds j true) a' w' → K a' w') → oj.wp P a w K Q) :
    wpAnyL P md l.toArray Q S L (fuel + 1) listed a w := by
  refine ⟨(fun h0 => by rw [h0] at hr; cases hr), (fun k hk => ?_)⟩
  rw [hr] at hk
  rcases List.mem_cons.1 hk with rfl | hk
  · unfold wpOp
    simp only [at_of_drop hoi, hwi, if_true]
    exact .inl (hi _ fun a' w' hS hrest => ⟨hS, hrest⟩)
  · obtain rfl : k = j := by simpa using hk
    unfold wpOp
    simp only [at_of_drop hoj, hwj, if_true]
    exact .inl (hj _ fun a' w' hS hrest => ⟨hS, hrest⟩)
/-- Three that may come up. -/
theorem wpAnyL_three {l ri rj rk : List Oper} {i j k : Nat} {oi oj ok : Oper} {fuel : Nat} {listed : Array Bool} {a : Act} {w : World} (hr : Region.ready md l.toArray listed = [i, j, k]) (hoi : l.drop i = oi :: ri) (hoj : l.drop j = oj :: rj) (hok : l.drop k = ok :: rk)
    (hwi : Region.wanted oi (yielded l.toArray a.tmps) = true) (hwj : Region.wanted oj (yielded l.toArray a.tmps) = true) (hwk : Region.wanted ok (yielded l.toArray a.tmps) = true)
    (hi : ∀ K : Act → World → Prop, (∀ a' w', (waits md l.toArray L i = false → S w') → wpAnyL P md l.toArray Q S L fuel (listed.setIfInBounds i true) a' w' → K a' w') → oi.wp P a w K Q)
    (hj : ∀ K : Act → World → Prop, (∀ a' w', (waits md l.toArray L j = false → S w') → wpAnyL P md l.toArray Q S L fuel (listed.setIfInBounds j true) a' w' → K a' w') → oj.wp P a w K Q)
    (hk : ∀ K : Act → World → Prop, (∀ a' w', (waits md l.toArray L k = false → S w') → wpAnyL P md l.toArray Q S L fuel (listed.setIfInBounds k true) a' w' → K a' w') → ok.wp P a w K Q) :
    wpAnyL P md l.toArray Q S L (fuel + 1) listed a w := by
  refine ⟨(fun h0 => by rw [h0] at hr; cases hr), (fun n hn => ?_)⟩
  rw [hr] at hn
  rcases List.mem_cons.1 hn with rfl | hn
  · unfold wpOp
    simp only [at_of_drop hoi, hwi, if_true]
    exact .inl (hi _ fun a' w' hS hrest => ⟨hS, hrest⟩)
  rcases List.mem_cons.1 hn with rfl | hn
  · unfold wpOp
    simp only [at_of_drop hoj, hwj, if_true]
    exact .inl (hj _ fun a' w' hS hrest => ⟨hS, hrest⟩)
  · obtain rfl : n = k := by simpa using hn
    unfold wpOp
    simp only [at_of_drop hok, hwk, if_true]
    exact .inl (hk _ fun a' w' hS hrest => ⟨hS, hrest⟩)
/-- make([]T, n), one operation. -/
theorem oper_mk {o : Oper} {a : Act} {w : World} {K : Act → World → Prop} (x y : Operand) (t : TypeId) (hop : o.op = .makeSlice t x y) (e : TypeId) (z : Value) (bytes : Nat) (ht : P.underlying t = some (.slice e))
    (hi : (P.info? e).map (fun i => (i.zero, i.size, i.bytes)) = some (some z, 1, bytes)) (hzc : z.cells = #[z])
    (n : Nat) (hx : a.eval x = .int .i64 n) (hy : a.eval y = .int .i64 n) (hn : bytes * n ≤ 281474976710656) (hn2 : n ≤ maxLen)
    (h : K (a.put o.dst (.slice (some ⟨w.heap.size, 0, none⟩) n n)) (w.alloc (.cells (madeCells #[z] n) e))) : o.wp P a w K Q := by
  obtain ⟨i, hi1, hi2, hi3, hi4⟩ := info_parts hi
  have hn' : (bytes : Int) * (n : Int) ≤ 281474976710656 := by
    have h1 : ((bytes * n : Nat) : Int) ≤ 281474976710656 := by omega
    rwa [Int.natCast_mul] at h1
  have hn3 : (n : Int) ≤ 9223372036854775807 := by
    have h1 := hn2
    unfold maxLen at h1
    omega
  have hr := run_make (P := P) w t e i z ht hi1 hi2 .i64 .i64 n n (by omega) (Int.le_refl _) (by rw [hi4]; exact hn') hn3
  rw [hzc, hi3] at hr
  simp only [Int.toNat_natCast, Nat.mul_one] at hr
  unfold Oper.wp
  simp only [execOp, hop, hx, hy, hr, Sem.run_bind, Result.andThen_ok, Sem.run_pure, Oper.upon]
  exact h
end

/-- Block g holds a made list of n rows. -/
theorem ow_made {w : World} {B g n : Nat} {M : Nat → Prop} {T : TypeId} (h : w.heap[g]? = some (.cells (madeCells #[.slice none 0 0] n) T (0, 0))) (hB : B ≤ g) (hn : n ≤ maxLen) :
    Ow (α := List Int) B M w T (.slice (some ⟨g, 0, none⟩) n n) (List.replicate n []) := by
  refine ⟨List.replicate n (.slice none 0 0), ⟨by rw [List.length_replicate, List.length_replicate]; exact (Nat.mul_one n).symm, .inr ⟨g, n, madeCells #[.slice none 0 0] n, ?_, hB, h, ?_, hn, ?_, ?_⟩⟩, fun j x hj => ?_⟩
  · rw [List.length_replicate]
  · rw [List.length_replicate]; exact Nat.le_refl _
  · rw [size_madeCells]; simp [GR.sz]
  · rw [toList_madeCells_one, List.length_replicate]; simp [GR.sz]
  · obtain ⟨hj1, rfl⟩ : j < n ∧ x = [] := by
      rw [List.getElem?_replicate] at hj
      split at hj
      · exact ⟨by assumption, by simpa using hj.symm⟩
      · simp at hj
    have e : ((List.replicate n (Value.slice none 0 0)).drop (j * 1)).take 1 = [.slice none 0 0] := by
      rw [Nat.mul_one, List.drop_replicate, List.take_replicate, show min 1 (n - j) = 1 from by omega]; rfl
    show GR.rep M w (((List.replicate n (Value.slice none 0 0)).drop (j * 1)).take 1) ([] : List Int)
    rw [e]
    exact rep_slice (a := none) (c := 0) (l := ([] : List Int)) (Sl.nil _ _ _ (by unfold maxLen; omega))

/-- The machine under construction: blocks of it lie from w0 + 2 to w0 + 4, its rows behind them. -/
structure RenW (w0 : Nat) (w : World) (gN gO gX n : Nat) (inp st : Int) (lN lO : List (List Int)) : Prop where
  size : w0 + 5 ≤ w.heap.size
  rN : w0 + 2 ≤ gN ∧ gN < w0 + 5
  rO : w0 + 2 ≤ gO ∧ gO < w0 + 5
  rX : w0 + 2 ≤ gX ∧ gX < w0 + 5
  ne : gN ≠ gO ∧ gN ≠ gX ∧ gO ≠ gX
  oN : Ow (w0 + 2) (fun k => k < w0 + 5) w 27 (.slice (some ⟨gN, 0, none⟩) n n) lN
  oO : Ow (w0 + 2) (fun k => k < w0 + 5) w 27 (.slice (some ⟨gO, 0, none⟩) n n) lO
  bX : w.heap[gX]? = some (.cells #[.int .i64 inp, .int .i64 st, .slice (some ⟨gN, 0, none⟩) n n, .slice (some ⟨gO, 0, none⟩) n n] 24 (0, 0))
  bR : w.heap[w0 + 1]? = some (.cells #[.int .i64 0, .int .i64 0, .slice none 0 0, .slice none 0 0] 24 (0, 0))
section
variable {w0 gN gO gX n : Nat} {w w' : World} {inp st : Int} {lN lO : List (List Int)}
theorem RenW.below (h : RenW w0 w gN gO gX n inp st lN lO) (hb : Below w.heap.size w w') : RenW w0 w' gN gO gX n inp st lN lO :=
  have hs := h.size
  have hx := h.rX
  ⟨Nat.le_trans h.size hb.size, h.rN, h.rO, h.rX, h.ne, h.oN.below hb, h.oO.below hb, (hb.block gX (by omega)).trans h.bX, (hb.block (w0 + 1) (by omega)).trans h.bR⟩
theorem RenW.setN (h : RenW w0 w gN gO gX n inp st lN lO) {a : Option Addr} {c : Nat} {r : List Int} (hr : Sl (fun k => k < w0 + 5) w a c r) (hl : lN.length = n) (p : Nat) :
    RenW w0 (w.setCell ⟨gN, p, none⟩ (.slice a r.length c)) gN gO gX n inp st (lN.set p r) lO := by
  have hN := h.rN
  have hX := h.rX
  obtain ⟨n1, n2, n3⟩ := h.ne
  refine ⟨by simpa [World.setCell] using h.size, h.rN, h.rO, h.rX, h.ne, ?_, ?_, (Below.heap_setCell _ _ _ _ (by simp; omega)).trans h.bX, (Below.heap_setCell _ _ _ _ (by simp; omega)).trans h.bR⟩
  · subst hl
    exact Ow.set rfl h.oN (by omega) (rep_slice (hr.ext (Ext.setCell w (M := fun k => k < w0 + 5) (p := ⟨gN, p, none⟩) (by simp; omega) _)))
  · exact h.oO.setOther (p := ⟨gN, p, none⟩) (by simp; omega) (fun k hk => by simp [Value.ownBlock] at hk; simp; omega) _
theorem RenW.setO (h : RenW w0 w gN gO gX n inp st lN lO) {a : Option Addr} {c : Nat} {r : List Int} (hr : Sl (fun k => k < w0 + 5) w a c r) (hl : lO.length = n) (p : Nat) :
    RenW w0 (w.setCell ⟨gO, p, none⟩ (.slice a r.length c)) gN gO gX n inp st lN (lO.set p r) := by
  have hO := h.rO
  have hX := h.rX
  obtain ⟨n1, n2, n3⟩ := h.ne
  refine ⟨by simpa [World.setCell] using h.size, h.rN, h.rO, h.rX, h.ne, ?_, ?_, (Below.heap_setCell _ _ _ _ (by simp; omega)).trans h.bX, (Below.heap_setCell _ _ _ _ (by simp; omega)).trans h.bR⟩
  · exact h.oN.setOther (p := ⟨gO, p, none⟩) (by simp; omega) (fun k hk => by simp [Value.ownBlock] at hk; simp; omega) _
  · subst hl
    exact Ow.set rfl h.oO (by omega) (rep_slice (hr.ext (Ext.setCell w (M := fun k => k < w0 + 5) (p := ⟨gO, p, none⟩) (by simp; omega) _)))
theorem RenW.toMa2 (h : RenW w0 w gN gO gX n inp st lN lO) (hN : lN.length = n) (hO : lO.length = n) (h1 : i64 inp) (h2 : i64 st) : Ma (fun k => k < w0 + 2) w (some ⟨gN, 0, none⟩) n (some ⟨gO, 0, none⟩) n ⟨inp, st, lN, lO⟩ := by
  have hn := h.rN
  have ho := h.rO
  have oN := h.oN
  have oO := h.oO
  rw [← hN] at oN
  refine ⟨h1, h2, ?_, ?_⟩
  · rw [hN] at oN
    subst hN
    exact (oN.subM (M' := fun k => k < w0 + 2) (fun k _ hk => by omega)).toSl fun k hk hlt => by simp [Value.ownBlock] at hk; omega
  · subst hO
    exact (oO.subM (M' := fun k => k < w0 + 2) (fun k _ hk => by omega)).toSl fun k hk hlt => by simp [Value.ownBlock] at hk; omega
end
end Go.Proofs.Ytdnmgiabgpilkaa
/- learnerlaw08.renamed. Condition: the machine is valid, the number is below 256. -/
namespace Go.Proofs.Ytdnmgiabgpilkaa
open Go.RowKit
theorem tmod_nat (x d n : Nat) : ((x : Int) + (d : Int)).tmod (n : Int) = (((x + d) % n : Nat) : Int) := by
  rw [Int.tmod_eq_emod_of_nonneg (by omega), ← Int.natCast_add]
  exact (Int.natCast_emod _ _).symm
theorem alloc3 (w : World) (o1 o2 o3 : Obj) : (((w.alloc o1).alloc o2).alloc o3).heap.size = w.heap.size + 3 ∧ (((w.alloc o1).alloc o2).alloc o3).heap[w.heap.size]? = some o1 ∧ (((w.alloc o1).alloc o2).alloc o3).heap[w.heap.size + 1]? = some o2 ∧
    (((w.alloc o1).alloc o2).alloc o3).heap[w.heap.size + 1 + 1]? = some o3 ∧ ∀ k, k < w.heap.size → (((w.alloc o1).alloc o2).alloc o3).heap[k]? = w.heap[k]? := by
  refine ⟨by simp, ?_, ?_, ?_, fun k hk => ?_⟩
  · rw [Below.heap_alloc _ _ _ (by simp; omega), Below.heap_alloc _ _ _ (by simp)]; exact heap_alloc_new w o1
  · rw [Below.heap_alloc _ _ _ (by simp)]; simpa using heap_alloc_new (w.alloc o1) o2
  · simpa using heap_alloc_new ((w.alloc o1).alloc o2) o3
  · rw [Below.heap_alloc _ _ _ (by simp; omega), Below.heap_alloc _ _ _ (by simp; omega), Below.heap_alloc _ _ _ hk]
abbrev mk22 (n : Nat) : Obj := .cells (madeCells #[.slice none 0 0] n) 27
abbrev zeroM : Obj := .cells #[.int .i64 0, .int .i64 0, .slice none 0 0, .slice none 0 0] 24
/-- The struct is stored; the tables are empty. -/
theorem RenW.init {w0 gN gO gX n : Nat} {wz : World} {inp st : Int} (hz : wz.heap.size = w0 + 5) (rN : w0 + 2 ≤ gN ∧ gN < w0 + 5) (rO : w0 + 2 ≤ gO ∧ gO < w0 + 5) (rX : w0 + 2 ≤ gX ∧ gX < w0 + 5) (ne : gN ≠ gO ∧ gN ≠ gX ∧ gO ≠ gX) (hn : n ≤ maxLen)
    (hN : wz.heap[gN]? = some (mk22 n)) (hO : wz.heap[gO]? = some (mk22 n)) (hX : wz.heap[gX]? = some zeroM) (hR : wz.heap[w0 + 1]? = some zeroM) :
    RenW w0 ((((wz.setCell ⟨gX, 0, none⟩ (.int .i64 inp)).setCell ⟨gX, 1, none⟩ (.int .i64 st)).setCell ⟨gX, 2, none⟩ (.slice (some ⟨gN, 0, none⟩) n n)).setCell ⟨gX, 3, none⟩ (.slice (some ⟨gO, 0, none⟩) n n)) gN gO gX n inp st (List.replicate n []) (List.replicate n []) := by
  obtain ⟨n1, n2, n3⟩ := ne
  have hk : ∀ k, k ≠ gX → ((((wz.setCell ⟨gX, 0, none⟩ (.int .i64 inp)).setCell ⟨gX, 1, none⟩ (.int .i64 st)).setCell ⟨gX, 2, none⟩ (.slice (some ⟨gN, 0, none⟩) n n)).setCell ⟨gX, 3, none⟩ (.slice (some ⟨gO, 0, none⟩) n n)).heap[k]? = wz.heap[k]? := fun k h => by
    rw [Below.heap_setCell _ _ _ _ (by simpa using h), Below.heap_setCell _ _ _ _ (by simpa using h), Below.heap_setCell _ _ _ _ (by simpa using h), Below.heap_setCell _ _ _ _ (by simpa using h)]
  refine ⟨by simp [World.setCell]; omega, rN, rO, rX, ⟨n1, n2, n3⟩, ow_made ((hk gN n2).trans hN) rN.1 hn, ow_made ((hk gO n3).trans hO) rO.1 hn, set4 hX, (hk (w0 + 1) (by omega)).trans hR⟩

theorem ow_cell {B : Nat} {M : Nat → Prop} {w : World} {T : TypeId} {g n c : Nat} {l : List (List Int)} (h : Ow B M w T (.slice (some ⟨g, 0, none⟩) n c) l) (hl : l.length = n) {p : Nat} (hp : p < n) :
    ∃ v, w.cell? ⟨g, p, none⟩ = some v ∧ w.frozen? ⟨g, p, none⟩ = false := by
  obtain ⟨xs, h1, -⟩ := h
  rw [← hl] at h1 hp
  have hx := h1.1
  have h2 := h1.cellAt p (by simpa [GR.sz] using hp)
  have hp2 : p < xs.length := by rw [hx]; simpa [GR.sz] using hp
  rw [List.getElem?_eq_getElem hp2] at h2
  exact ⟨_, h2, h1.frozenAt p⟩
section
variable {M : Nat → Prop} {w : World} {cn co : Nat} {m : Mach} {bn on bo oo : Nat}
set_option maxRecDepth 100000 in
set_option maxHeartbeats 8000000 in
theorem ren_any (hm : Ma M w (some ⟨bn, on, none⟩) cn (some ⟨bo, oo, none⟩) co m) (ok : m.Ok) (d : Nat) (hd : d < 256) :
    Calls Try.prog 46 #[maV m (some ⟨bn, on, none⟩) cn (some ⟨bo, oo, none⟩) co, .int .i64 (d : Int)] w fun e w' => ∃ an' cn' ao' co' t, e = .returned (maV t an' cn' ao' co') ∧ Hid (t = m.ren d) ∧ Ma (fun k => k < w.heap.size) w' an' cn' ao' co' t ∧ Below w.heap.size w w' := by
  have HM := Lib.hid hm
  have OK := Lib.hid ok
  have n0 := ok.n0
  have n1 := ok.n1
  have i0 := ok.i0
  have i1 := ok.i1
  have s0 := ok.s0
  have s1 := ok.s1
  have lo := Lib.hid ok.lo
  obtain ⟨st, hst⟩ := Int.eq_ofNat_of_zero_le s0
  have HST := Lib.hid hst
  have hw1 : (w.alloc (maO m (some ⟨bn, on, none⟩) cn (some ⟨bo, oo, none⟩) co)).alloc zeroM = (w.alloc (maO m (some ⟨bn, on, none⟩) cn (some ⟨bo, oo, none⟩) co)).alloc zeroM := rfl
  have hB1 : Below w.heap.size w ((w.alloc (maO m (some ⟨bn, on, none⟩) cn (some ⟨bo, oo, none⟩) co)).alloc zeroM) := ((Below.refl _ _).alloc (Nat.le_refl _) _).alloc (by simp) _
  have h41 : C4 ((w.alloc (maO m (some ⟨bn, on, none⟩) cn (some ⟨bo, oo, none⟩) co)).alloc zeroM) w.heap.size (some ⟨bn, on, none⟩) cn (some ⟨bo, oo, none⟩) co m := (c4_new w).below (B := w.heap.size + 1) ((Below.refl _ _).alloc (by simp) _) (by omega)
  have hR1 : Hid (((w.alloc (maO m (some ⟨bn, on, none⟩) cn (some ⟨bo, oo, none⟩) co)).alloc zeroM).heap[w.heap.size + 1]? = some zeroM) := by
    unfold Hid; simpa using heap_alloc_new (w.alloc (maO m (some ⟨bn, on, none⟩) cn (some ⟨bo, oo, none⟩) co)) zeroM
  have hz1 : ((w.alloc (maO m (some ⟨bn, on, none⟩) cn (some ⟨bo, oo, none⟩) co)).alloc zeroM).heap.size = w.heap.size + 2 := by simp
  have HZ1 := Lib.hid hz1
  have hwr0 : IntKind.i64.wrap (m.start + (d : Int)) = m.start + (d : Int) := IntWalk.i64_in _ (by omega)
  obtain ⟨p0, hp0⟩ : ∃ p0 : Nat, p0 = (st + d) % m.next.length := ⟨_, rfl⟩
  have hmd0 : (m.start + (d : Int)).tmod ((m.next.length : Nat) : Int) = (p0 : Int) := by rw [hst, hp0]; exact tmod_nat _ _ _
  have HP0 := Lib.hid hp0
  have hne : ¬ m.next = [] := fun e => by rw [e] at n0; simp at n0
  clear hm ok hst hw1 hz1 hp0
  go_enter Try.func46, Try.ntmps46
  go_upto_region 2 with (fail)
  go_cut [6] from 13 to 25 (fun p wx => ∃ gN gO gX, p = .pointer (some ⟨gX, 0, none⟩) ∧ RenW w.heap.size wx gN gO gX m.next.length m.inputs (p0 : Int) (List.replicate m.next.length []) (List.replicate m.next.length []) ∧
    Below (w.heap.size + 2) ((w.alloc (maO m (some ⟨bn, on, none⟩) cn (some ⟨bo, oo, none⟩) co)).alloc zeroM) wx)
  case first =>
    refine wp_region_L (fun w' => C4 w' w.heap.size (some ⟨bn, on, none⟩) cn (some ⟨bo, oo, none⟩) co m) [0, 1, 2, 3, 4, 5, 6, 7, 8, 10, 12] (by kernel_rfl) ?_
    have hSS := h41.drew
    have hBd := (Below.refl (w.heap.size + 2) ((w.alloc (maO m (some ⟨bn, on, none⟩) cn (some ⟨bo, oo, none⟩) co)).alloc zeroM)).drew
    have hzd : ((w.alloc (maO m (some ⟨bn, on, none⟩) cn (some ⟨bo, oo, none⟩) co)).alloc zeroM).drew.heap.size = w.heap.size + 2 := HZ1.out
    have HZD := Lib.hid hzd
    have HRd : Hid (((w.alloc (maO m (some ⟨bn, on, none⟩) cn (some ⟨bo, oo, none⟩) co)).alloc zeroM).drew.heap[w.heap.size + 1]? = some zeroM) := hR1.out
    have HBD := Lib.hid hBd
    have hml : m.next.length ≤ maxLen := by unfold maxLen; omega
    clear hzd h41 hB1 HZ1 hR1 hBd
    generalize hw2 : ((w.alloc (maO m (some ⟨bn, on, none⟩) cn (some ⟨bo, oo, none⟩) co)).alloc zeroM).drew = w2 at *
    clear hw2
    refine wpAnyL_take (i := 0) (v := ?v12) rfl (by kernel_rfl) (by kernel_rfl) (by kernel_rfl) (by kernel_rfl) (fun _ _ _ h => h) (Or.inl ⟨by rfl, ?y12⟩) (by assumption) ?r12
    case y12 => (intro w' hSw; (try dsimp only at hSw); go_simp; try with_reducible rfl)
    try simp only [Act.put, List.setIfInBounds_toArray, List.set_cons_zero, List.set_cons_succ]
    refine wpAnyL_take (i := 1) (v := ?v13) rfl (by kernel_rfl) (by kernel_rfl) (by kernel_rfl) (by kernel_rfl) (fun _ _ _ h => h) (Or.inl ⟨by rfl, ?y13⟩) (by assumption) ?r13
    case y13 => (intro w' hSw; (try dsimp only at hSw); go_simp; try with_reducible rfl)
    try simp only [Act.put, List.setIfInBounds_toArray, List.set_cons_zero, List.set_cons_succ]
    refine wpAnyL_take (i := 2) (v := ?v14) rfl (by kernel_rfl) (by kernel_rfl) (by kernel_rfl) (by kernel_rfl) (fun _ _ _ h => h) (Or.inl ⟨by rfl, ?y14⟩) (by assumption) ?r14
    case y14 => (intro w' hSw; (try dsimp only at hSw); go_simp; try with_reducible rfl)
    try simp only [Act.put, List.setIfInBounds_toArray, List.set_cons_zero, List.set_cons_succ]
    refine wpAnyL_take (i := 3) (v := ?v15) rfl (by kernel_rfl) (by kernel_rfl) (by kernel_rfl) (by kernel_rfl) (fun _ _ _ h => h) (Or.inl ⟨by rfl, ?y15⟩) (by assumption) ?r15
    case y15 => (intro w' hSw; (try dsimp only at hSw); go_simp; try with_reducible rfl)
    try simp only [Act.put, List.setIfInBounds_toArray, List.set_cons_zero, List.set_cons_succ]
    refine wpAnyL_take (i := 4) (v := ?v16) rfl (by kernel_rfl) (by kernel_rfl) (by kernel_rfl) (by kernel_rfl) (fun _ _ _ h => h) (Or.inl ⟨by rfl, ?y16⟩) (by assumption) ?r16
    case y16 => (intro w' hSw; (try dsimp only at hSw); go_simp; try with_reducible rfl)
    try simp only [Act.put, List.setIfInBounds_toArray, List.set_cons_zero, List.set_cons_succ]
    refine wpAnyL_take (i := 5) (v := ?v17) rfl (by kernel_rfl) (by kernel_rfl) (by kernel_rfl) (by kernel_rfl) (fun _ _ _ h => h) (Or.inl ⟨by rfl, ?y17⟩) (by assumption) ?r17
    case y17 => (intro w' hSw; (try dsimp only at hSw); go_simp; try with_reducible rfl)
    try simp only [Act.put, List.setIfInBounds_toArray, List.set_cons_zero, List.set_cons_succ]
    refine wpAnyL_take (i := 6) (v := ?v18) rfl (by kernel_rfl) (by kernel_rfl) (by kernel_rfl) (by kernel_rfl) (fun _ _ _ h => h) (Or.inl ⟨by rfl, ?y18⟩) (by assumption) ?r18
    case y18 => (intro w' hSw; (try dsimp only at hSw); go_simp; try with_reducible rfl)
    try simp only [Act.put, List.setIfInBounds_toArray, List.set_cons_zero, List.set_cons_succ]
    refine wpAnyL_take (i := 7) (v := ?v19) rfl (by kernel_rfl) (by kernel_rfl) (by kernel_rfl) (by kernel_rfl) (fun _ _ _ h => h) (Or.inl ⟨by rfl, ?y19⟩) (by assumption) ?r19
    case y19 => (intro w' hSw; (try dsimp only at hSw); go_simp; try with_reducible rfl)
    try simp only [Act.put, List.setIfInBounds_toArray, List.set_cons_zero, List.set_cons_succ]
    refine wpAnyL_take (i := 8) (v := ?v20) rfl (by kernel_rfl) (by kernel_rfl) (by kernel_rfl) (by kernel_rfl) (fun _ _ _ h => h) (Or.inl ⟨by rfl, ?y20⟩) (by assumption) ?r20
    case y20 => (intro w' hSw; (try dsimp only at hSw); go_simp; try with_reducible rfl)
    try simp only [Act.put, List.setIfInBounds_toArray, List.set_cons_zero, List.set_cons_succ]
    refine wpAnyL_take (i := 10) (v := ?v21) rfl (by kernel_rfl) (by kernel_rfl) (by kernel_rfl) (by kernel_rfl) (fun _ _ _ h => h) (Or.inl ⟨by rfl, ?y21⟩) (by assumption) ?r21
    case y21 => (intro w' hSw; (try dsimp only at hSw); go_simp; try with_reducible rfl)
    try simp only [Act.put, List.setIfInBounds_toArray, List.set_cons_zero, List.set_cons_succ]
    refine wpAnyL_three (i := 9) (j := 11) (k := 13) (by kernel_rfl) rfl rfl rfl rfl rfl rfl (fun K hK => ?_) (fun K hK => ?_) (fun K hK => ?_)
    · refine oper_mk _ _ _ rfl _ _ 24 Try.underlying22 info_ints rfl m.next.length rfl rfl (by omega) hml ?_
      try simp only [Act.put, List.setIfInBounds_toArray, List.set_cons_zero, List.set_cons_succ]
      refine hK _ _ (fun _ => hSS.below (B := w.heap.size + 2) (Below.alloc (Below.refl (w.heap.size + 2) w2) (by have := HZD.out; simp; omega) (mk22 m.next.length)) (by omega)) ?_
      clear hK K
      try simp only [World.size_alloc]
      refine wpAnyL_two (i := 11) (j := 13) (by kernel_rfl) rfl rfl rfl rfl (fun K hK => ?_) (fun K hK => ?_)
      · refine oper_mk _ _ _ rfl _ _ 24 Try.underlying22 info_ints rfl m.next.length rfl rfl (by omega) hml ?_
        try simp only [Act.put, List.setIfInBounds_toArray, List.set_cons_zero, List.set_cons_succ]
        refine hK _ _ (fun _ => hSS.below (B := w.heap.size + 2) (Below.alloc (Below.alloc (Below.refl (w.heap.size + 2) w2) (by have := HZD.out; simp; omega) (mk22 m.next.length)) (by have := HZD.out; simp; omega) (mk22 m.next.length)) (by omega)) ?_
        clear hK K
        try simp only [World.size_alloc]
        have hSy : C4 ((w2.alloc (mk22 m.next.length)).alloc (mk22 m.next.length)) w.heap.size (some ⟨bn, on, none⟩) cn (some ⟨bo, oo, none⟩) co m := hSS.below (B := w.heap.size + 2) (Below.alloc (Below.alloc (Below.refl (w.heap.size + 2) w2) (by have := HZD.out; simp; omega) (mk22 m.next.length)) (by have := HZD.out; simp; omega) (mk22 m.next.length)) (by omega)
        refine wpAnyL_take (i := 12) (v := ?v22) rfl (by kernel_rfl) (by kernel_rfl) (by kernel_rfl) (by kernel_rfl) (fun _ _ _ h => h) (Or.inl ⟨by rfl, ?y22⟩) (by assumption) ?r22
        case y22 => (intro w' hSw; (try dsimp only at hSw); go_simp; try with_reducible rfl)
        try simp only [Act.put, List.setIfInBounds_toArray, List.set_cons_zero, List.set_cons_succ]
        clear hSy
        refine wpAnyL_one (i := 13) (by kernel_rfl) rfl rfl (fun K hK => ?_)
        go_simp
        try simp only [Act.put, List.setIfInBounds_toArray, List.set_cons_zero, List.set_cons_succ]
        refine hK _ _ (fun _ => hSS.below (B := w.heap.size + 2) (Below.alloc (Below.alloc (Below.alloc (Below.refl (w.heap.size + 2) w2) (by have := HZD.out; simp; omega) (mk22 m.next.length)) (by have := HZD.out; simp; omega) (mk22 m.next.length)) (by have := HZD.out; simp; omega) zeroM) (by omega)) ?_
        clear hK K
        try simp only [World.size_alloc]
        obtain ⟨a0, a1, a2, a3, a4⟩ := alloc3 w2 (mk22 m.next.length) (mk22 m.next.length) zeroM
        have hSz : C4 (((w2.alloc (mk22 m.next.length)).alloc (mk22 m.next.length)).alloc zeroM) w.heap.size (some ⟨bn, on, none⟩) cn (some ⟨bo, oo, none⟩) co m := hSS.below (B := w.heap.size + 2) (Below.alloc (Below.alloc (Below.alloc (Below.refl (w.heap.size + 2) w2) (by have := HZD.out; simp; omega) (mk22 m.next.length)) (by have := HZD.out; simp; omega) (mk22 m.next.length)) (by have := HZD.out; simp; omega) zeroM) (by omega)
        have hBz : Below (w.heap.size + 2) ((w.alloc (maO m (some ⟨bn, on, none⟩) cn (some ⟨bo, oo, none⟩) co)).alloc zeroM) (((w2.alloc (mk22 m.next.length)).alloc (mk22 m.next.length)).alloc zeroM) := Below.alloc (Below.alloc (Below.alloc HBD.out (by have := HZD.out; omega) (mk22 m.next.length)) (by have := HZD.out; simp; omega) (mk22 m.next.length)) (by have := HZD.out; simp; omega) zeroM
        have aR := (a4 (w.heap.size + 1) (by have := HZD.out; omega)).trans HRd.out
        generalize (((w2.alloc (mk22 m.next.length)).alloc (mk22 m.next.length)).alloc zeroM) = wz at *
        obtain ⟨k0, k1, k2, k3⟩ := cells4 a3
        have kf : ∀ o, wz.frozen? ⟨w2.heap.size + 1 + 1, o, none⟩ = false := fun o => frozen_of_row _ _ _ _ _ a3
        have A := Lib.hid (And.intro a0 (And.intro a1 (And.intro a2 (And.intro a3 aR))))
        clear a0 a1 a2 a3 a4 aR
        refine wpAnyL_late (i := 14) (by kernel_rfl) (by kernel_rfl) rfl rfl (fun K hK => ?_)
        go_simp
        refine hK _ _ ?_
        clear hK K
        refine wpAnyL_done (by kernel_rfl) ?_ _
        go_wp2
        go_meet
        obtain ⟨a0, a1, a2, a3, aR⟩ := A.out
        have hzz := HZD.out
        exact ⟨w2.heap.size, w2.heap.size + 1, w2.heap.size + 1 + 1, rfl, RenW.init (by omega) (by omega) (by omega) (by omega) (by omega) hml a1 a2 a3 aR, Below.setCell (Below.setCell (Below.setCell (Below.setCell hBz (by simp; omega) _) (by simp; omega) _) (by simp; omega) _) (by simp; omega) _⟩
      · go_simp
        try simp only [Act.put, List.setIfInBounds_toArray, List.set_cons_zero, List.set_cons_succ]
        refine hK _ _ (fun _ => hSS.below (B := w.heap.size + 2) (Below.alloc (Below.alloc (Below.refl (w.heap.size + 2) w2) (by have := HZD.out; simp; omega) (mk22 m.next.length)) (by have := HZD.out; simp; omega) zeroM) (by omega)) ?_
        clear hK K
        try simp only [World.size_alloc]
        refine wpAnyL_one (i := 11) (by kernel_rfl) rfl rfl (fun K hK => ?_)
        refine oper_mk _ _ _ rfl _ _ 24 Try.underlying22 info_ints rfl m.next.length rfl rfl (by omega) hml ?_
        try simp only [Act.put, List.setIfInBounds_toArray, List.set_cons_zero, List.set_cons_succ]
        refine hK _ _ (fun _ => hSS.below (B := w.heap.size + 2) (Below.alloc (Below.alloc (Below.alloc (Below.refl (w.heap.size + 2) w2) (by have := HZD.out; simp; omega) (mk22 m.next.length)) (by have := HZD.out; simp; omega) zeroM) (by have := HZD.out; simp; omega) (mk22 m.next.length)) (by omega)) ?_
        clear hK K
        try simp only [World.size_alloc]
        obtain ⟨a0, a1, a2, a3, a4⟩ := alloc3 w2 (mk22 m.next.length) zeroM (mk22 m.next.length)
        have hSz : C4 (((w2.alloc (mk22 m.next.length)).alloc zeroM).alloc (mk22 m.next.length)) w.heap.size (some ⟨bn, on, none⟩) cn (some ⟨bo, oo, none⟩) co m := hSS.below (B := w.heap.size + 2) (Below.alloc (Below.alloc (Below.alloc (Below.refl (w.heap.size + 2) w2) (by have := HZD.out; simp; omega) (mk22 m.next.length)) (by have := HZD.out; simp; omega) zeroM) (by have := HZD.out; simp; omega) (mk22 m.next.length)) (by omega)
        have hBz : Below (w.heap.size + 2) ((w.alloc (maO m (some ⟨bn, on, none⟩) cn (some ⟨bo, oo, none⟩) co)).alloc zeroM) (((w2.alloc (mk22 m.next.length)).alloc zeroM).alloc (mk22 m.next.length)) := Below.alloc (Below.alloc (Below.alloc HBD.out (by have := HZD.out; omega) (mk22 m.next.length)) (by have := HZD.out; simp; omega) zeroM) (by have := HZD.out; simp; omega) (mk22 m.next.length)
        have aR := (a4 (w.heap.size + 1) (by have := HZD.out; omega)).trans HRd.out
        generalize (((w2.alloc (mk22 m.next.length)).alloc zeroM).alloc (mk22 m.next.length)) = wz at *
        obtain ⟨k0, k1, k2, k3⟩ := cells4 a2
        have kf : ∀ o, wz.frozen? ⟨w2.heap.size + 1, o, none⟩ = false := fun o => frozen_of_row _ _ _ _ _ a2
        have A := Lib.hid (And.intro a0 (And.intro a1 (And.intro a2 (And.intro a3 aR))))
        clear a0 a1 a2 a3 a4 aR
        refine wpAnyL_take (i := 12) (v := ?v23) rfl (by kernel_rfl) (by kernel_rfl) (by kernel_rfl) (by kernel_rfl) (fun _ _ _ h => h) (Or.inl ⟨by rfl, ?y23⟩) (by assumption) ?r23
        case y23 => (intro w' hSw; (try dsimp only at hSw); go_simp; try with_reducible rfl)
        try simp only [Act.put, List.setIfInBounds_toArray, List.set_cons_zero, List.set_cons_succ]
        refine wpAnyL_late (i := 14) (by kernel_rfl) (by kernel_rfl) rfl rfl (fun K hK => ?_)
        go_simp
        refine hK _ _ ?_
        clear hK K
        refine wpAnyL_done (by kernel_rfl) ?_ _
        go_wp2
        go_meet
        obtain ⟨a0, a1, a2, a3, aR⟩ := A.out
        have hzz := HZD.out
        exact ⟨w2.heap.size, w2.heap.size + 1 + 1, w2.heap.size + 1, rfl, RenW.init (by omega) (by omega) (by omega) (by omega) (by omega) hml a1 a3 a2 aR, Below.setCell (Below.setCell (Below.setCell (Below.setCell hBz (by simp; omega) _) (by simp; omega) _) (by simp; omega) _) (by simp; omega) _⟩
    · refine oper_mk _ _ _ rfl _ _ 24 Try.underlying22 info_ints rfl m.next.length rfl rfl (by omega) hml ?_
      try simp only [Act.put, List.setIfInBounds_toArray, List.set_cons_zero, List.set_cons_succ]
      refine hK _ _ (fun _ => hSS.below (B := w.heap.size + 2) (Below.alloc (Below.refl (w.heap.size + 2) w2) (by have := HZD.out; simp; omega) (mk22 m.next.length)) (by omega)) ?_
      clear hK K
      try simp only [World.size_alloc]
      refine wpAnyL_two (i := 9) (j := 13) (by kernel_rfl) rfl rfl rfl rfl (fun K hK => ?_) (fun K hK => ?_)
      · refine oper_mk _ _ _ rfl _ _ 24 Try.underlying22 info_ints rfl m.next.length rfl rfl (by omega) hml ?_
        try simp only [Act.put, List.setIfInBounds_toArray, List.set_cons_zero, List.set_cons_succ]
        refine hK _ _ (fun _ => hSS.below (B := w.heap.size + 2) (Below.alloc (Below.alloc (Below.refl (w.heap.size + 2) w2) (by have := HZD.out; simp; omega) (mk22 m.next.length)) (by have := HZD.out; simp; omega) (mk22 m.next.length)) (by omega)) ?_
        clear hK K
        try simp only [World.size_alloc]
        have hSy : C4 ((w2.alloc (mk22 m.next.length)).alloc (mk22 m.next.length)) w.heap.size (some ⟨bn, on, none⟩) cn (some ⟨bo, oo, none⟩) co m := hSS.below (B := w.heap.size + 2) (Below.alloc (Below.alloc (Below.refl (w.heap.size + 2) w2) (by have := HZD.out; simp; omega) (mk22 m.next.length)) (by have := HZD.out; simp; omega) (mk22 m.next.length)) (by omega)
        refine wpAnyL_take (i := 12) (v := ?v24) rfl (by kernel_rfl) (by kernel_rfl) (by kernel_rfl) (by kernel_rfl) (fun _ _ _ h => h) (Or.inl ⟨by rfl, ?y24⟩) (by assumption) ?r24
        case y24 => (intro w' hSw; (try dsimp only at hSw); go_simp; try with_reducible rfl)
        try simp only [Act.put, List.setIfInBounds_toArray, List.set_cons_zero, List.set_cons_succ]
        clear hSy
        refine wpAnyL_one (i := 13) (by kernel_rfl) rfl rfl (fun K hK => ?_)
        go_simp
        try simp only [Act.put, List.setIfInBounds_toArray, List.set_cons_zero, List.set_cons_succ]
        refine hK _ _ (fun _ => hSS.below (B := w.heap.size + 2) (Below.alloc (Below.alloc (Below.alloc (Below.refl (w.heap.size + 2) w2) (by have := HZD.out; simp; omega) (mk22 m.next.length)) (by have := HZD.out; simp; omega) (mk22 m.next.length)) (by have := HZD.out; simp; omega) zeroM) (by omega)) ?_
        clear hK K
        try simp only [World.size_alloc]
        obtain ⟨a0, a1, a2, a3, a4⟩ := alloc3 w2 (mk22 m.next.length) (mk22 m.next.length) zeroM
        have hSz : C4 (((w2.alloc (mk22 m.next.length)).alloc (mk22 m.next.length)).alloc zeroM) w.heap.size (some ⟨bn, on, none⟩) cn (some ⟨bo, oo, none⟩) co m := hSS.below (B := w.heap.size + 2) (Below.alloc (Below.alloc (Below.alloc (Below.refl (w.heap.size + 2) w2) (by have := HZD.out; simp; omega) (mk22 m.next.length)) (by have := HZD.out; simp; omega) (mk22 m.next.length)) (by have := HZD.out; simp; omega) zeroM) (by omega)
        have hBz : Below (w.heap.size + 2) ((w.alloc (maO m (some ⟨bn, on, none⟩) cn (some ⟨bo, oo, none⟩) co)).alloc zeroM) (((w2.alloc (mk22 m.next.length)).alloc (mk22 m.next.length)).alloc zeroM) := Below.alloc (Below.alloc (Below.alloc HBD.out (by have := HZD.out; omega) (mk22 m.next.length)) (by have := HZD.out; simp; omega) (mk22 m.next.length)) (by have := HZD.out; simp; omega) zeroM
        have aR := (a4 (w.heap.size + 1) (by have := HZD.out; omega)).trans HRd.out
        generalize (((w2.alloc (mk22 m.next.length)).alloc (mk22 m.next.length)).alloc zeroM) = wz at *
        obtain ⟨k0, k1, k2, k3⟩ := cells4 a3
        have kf : ∀ o, wz.frozen? ⟨w2.heap.size + 1 + 1, o, none⟩ = false := fun o => frozen_of_row _ _ _ _ _ a3
        have A := Lib.hid (And.intro a0 (And.intro a1 (And.intro a2 (And.intro a3 aR))))
        clear a0 a1 a2 a3 a4 aR
        refine wpAnyL_late (i := 14) (by kernel_rfl) (by kernel_rfl) rfl rfl (fun K hK => ?_)
        go_simp
        refine hK _ _ ?_
        clear hK K
        refine wpAnyL_done (by kernel_rfl) ?_ _
        go_wp2
        go_meet
        obtain ⟨a0, a1, a2, a3, aR⟩ := A.out
        have hzz := HZD.out
        exact ⟨w2.heap.size + 1, w2.heap.size, w2.heap.size + 1 + 1, rfl, RenW.init (by omega) (by omega) (by omega) (by omega) (by omega) hml a2 a1 a3 aR, Below.setCell (Below.setCell (Below.setCell (Below.setCell hBz (by simp; omega) _) (by simp; omega) _) (by simp; omega) _) (by simp; omega) _⟩
      · go_simp
        try simp only [Act.put, List.setIfInBounds_toArray, List.set_cons_zero, List.set_cons_succ]
        refine hK _ _ (fun _ => hSS.below (B := w.heap.size + 2) (Below.alloc (Below.alloc (Below.refl (w.heap.size + 2) w2) (by have := HZD.out; simp; omega) (mk22 m.next.length)) (by have := HZD.out; simp; omega) zeroM) (by omega)) ?_
        clear hK K
        try simp only [World.size_alloc]
        refine wpAnyL_one (i := 9) (by kernel_rfl) rfl rfl (fun K hK => ?_)
        refine oper_mk _ _ _ rfl _ _ 24 Try.underlying22 info_ints rfl m.next.length rfl rfl (by omega) hml ?_
        try simp only [Act.put, List.setIfInBounds_toArray, List.set_cons_zero, List.set_cons_succ]
        refine hK _ _ (fun _ => hSS.below (B := w.heap.size + 2) (Below.alloc (Below.alloc (Below.alloc (Below.refl (w.heap.size + 2) w2) (by have := HZD.out; simp; omega) (mk22 m.next.length)) (by have := HZD.out; simp; omega) zeroM) (by have := HZD.out; simp; omega) (mk22 m.next.length)) (by omega)) ?_
        clear hK K
        try simp only [World.size_alloc]
        obtain ⟨a0, a1, a2, a3, a4⟩ := alloc3 w2 (mk22 m.next.length) zeroM (mk22 m.next.length)
        have hSz : C4 (((w2.alloc (mk22 m.next.length)).alloc zeroM).alloc (mk22 m.next.length)) w.heap.size (some ⟨bn, on, none⟩) cn (some ⟨bo, oo, none⟩) co m := hSS.below (B := w.heap.size + 2) (Below.alloc (Below.alloc (Below.alloc (Below.refl (w.heap.size + 2) w2) (by have := HZD.out; simp; omega) (mk22 m.next.length)) (by have := HZD.out; simp; omega) zeroM) (by have := HZD.out; simp; omega) (mk22 m.next.length)) (by omega)
        have hBz : Below (w.heap.size + 2) ((w.alloc (maO m (some ⟨bn, on, none⟩) cn (some ⟨bo, oo, none⟩) co)).alloc zeroM) (((w2.alloc (mk22 m.next.length)).alloc zeroM).alloc (mk22 m.next.length)) := Below.alloc (Below.alloc (Below.alloc HBD.out (by have := HZD.out; omega) (mk22 m.next.length)) (by have := HZD.out; simp; omega) zeroM) (by have := HZD.out; simp; omega) (mk22 m.next.length)
        have aR := (a4 (w.heap.size + 1) (by have := HZD.out; omega)).trans HRd.out
        generalize (((w2.alloc (mk22 m.next.length)).alloc zeroM).alloc (mk22 m.next.length)) = wz at *
        obtain ⟨k0, k1, k2, k3⟩ := cells4 a2
        have kf : ∀ o, wz.frozen? ⟨w2.heap.size + 1, o, none⟩ = false := fun o => frozen_of_row _ _ _ _ _ a2
        have A := Lib.hid (And.intro a0 (And.intro a1 (And.intro a2 (And.intro a3 aR))))
        clear a0 a1 a2 a3 a4 aR
        refine wpAnyL_take (i := 12) (v := ?v25) rfl (by kernel_rfl) (by kernel_rfl) (by kernel_rfl) (by kernel_rfl) (fun _ _ _ h => h) (Or.inl ⟨by rfl, ?y25⟩) (by assumption) ?r25
        case y25 => (intro w' hSw; (try dsimp only at hSw); go_simp; try with_reducible rfl)
        try simp only [Act.put, List.setIfInBounds_toArray, List.set_cons_zero, List.set_cons_succ]
        refine wpAnyL_late (i := 14) (by kernel_rfl) (by kernel_rfl) rfl rfl (fun K hK => ?_)
        go_simp
        refine hK _ _ ?_
        clear hK K
        refine wpAnyL_done (by kernel_rfl) ?_ _
        go_wp2
        go_meet
        obtain ⟨a0, a1, a2, a3, aR⟩ := A.out
        have hzz := HZD.out
        exact ⟨w2.heap.size + 1 + 1, w2.heap.size, w2.heap.size + 1, rfl, RenW.init (by omega) (by omega) (by omega) (by omega) (by omega) hml a3 a1 a2 aR, Below.setCell (Below.setCell (Below.setCell (Below.setCell hBz (by simp; omega) _) (by simp; omega) _) (by simp; omega) _) (by simp; omega) _⟩
    · go_simp
      try simp only [Act.put, List.setIfInBounds_toArray, List.set_cons_zero, List.set_cons_succ]
      refine hK _ _ (fun _ => hSS.below (B := w.heap.size + 2) (Below.alloc (Below.refl (w.heap.size + 2) w2) (by have := HZD.out; simp; omega) zeroM) (by omega)) ?_
      clear hK K
      try simp only [World.size_alloc]
      refine wpAnyL_two (i := 9) (j := 11) (by kernel_rfl) rfl rfl rfl rfl (fun K hK => ?_) (fun K hK => ?_)
      · refine oper_mk _ _ _ rfl _ _ 24 Try.underlying22 info_ints rfl m.next.length rfl rfl (by omega) hml ?_
        try simp only [Act.put, List.setIfInBounds_toArray, List.set_cons_zero, List.set_cons_succ]
        refine hK _ _ (fun _ => hSS.below (B := w.heap.size + 2) (Below.alloc (Below.alloc (Below.refl (w.heap.size + 2) w2) (by have := HZD.out; simp; omega) zeroM) (by have := HZD.out; simp; omega) (mk22 m.next.length)) (by omega)) ?_
        clear hK K
        try simp only [World.size_alloc]
        refine wpAnyL_one (i := 11) (by kernel_rfl) rfl rfl (fun K hK => ?_)
        refine oper_mk _ _ _ rfl _ _ 24 Try.underlying22 info_ints rfl m.next.length rfl rfl (by omega) hml ?_
        try simp only [Act.put, List.setIfInBounds_toArray, List.set_cons_zero, List.set_cons_succ]
        refine hK _ _ (fun _ => hSS.below (B := w.heap.size + 2) (Below.alloc (Below.alloc (Below.alloc (Below.refl (w.heap.size + 2) w2) (by have := HZD.out; simp; omega) zeroM) (by have := HZD.out; simp; omega) (mk22 m.next.length)) (by have := HZD.out; simp; omega) (mk22 m.next.length)) (by omega)) ?_
        clear hK K
        try simp only [World.size_alloc]
        obtain ⟨a0, a1, a2, a3, a4⟩ := alloc3 w2 zeroM (mk22 m.next.length) (mk22 m.next.length)
        have hSz : C4 (((w2.alloc zeroM).alloc (mk22 m.next.length)).alloc (mk22 m.next.length)) w.heap.size (some ⟨bn, on, none⟩) cn (some ⟨bo, oo, none⟩) co m := hSS.below (B := w.heap.size + 2) (Below.alloc (Below.alloc (Below.alloc (Below.refl (w.heap.size + 2) w2) (by have := HZD.out; simp; omega) zeroM) (by have := HZD.out; simp; omega) (mk22 m.next.length)) (by have := HZD.out; simp; omega) (mk22 m.next.length)) (by omega)
        have hBz : Below (w.heap.size + 2) ((w.alloc (maO m (some ⟨bn, on, none⟩) cn (some ⟨bo, oo, none⟩) co)).alloc zeroM) (((w2.alloc zeroM).alloc (mk22 m.next.length)).alloc (mk22 m.next.length)) := Below.alloc (Below.alloc (Below.alloc HBD.out (by have := HZD.out; omega) zeroM) (by have := HZD.out; simp; omega) (mk22 m.next.length)) (by have := HZD.out; simp; omega) (mk22 m.next.length)
        have aR := (a4 (w.heap.size + 1) (by have := HZD.out; omega)).trans HRd.out
        generalize (((w2.alloc zeroM).alloc (mk22 m.next.length)).alloc (mk22 m.next.length)) = wz at *
        obtain ⟨k0, k1, k2, k3⟩ := cells4 a1
        have kf : ∀ o, wz.frozen? ⟨w2.heap.size, o, none⟩ = false := fun o => frozen_of_row _ _ _ _ _ a1
        have A := Lib.hid (And.intro a0 (And.intro a1 (And.intro a2 (And.intro a3 aR))))
        clear a0 a1 a2 a3 a4 aR
        refine wpAnyL_take (i := 12) (v := ?v26) rfl (by kernel_rfl) (by kernel_rfl) (by kernel_rfl) (by kernel_rfl) (fun _ _ _ h => h) (Or.inl ⟨by rfl, ?y26⟩) (by assumption) ?r26
        case y26 => (intro w' hSw; (try dsimp only at hSw); go_simp; try with_reducible rfl)
        try simp only [Act.put, List.setIfInBounds_toArray, List.set_cons_zero, List.set_cons_succ]
        refine wpAnyL_late (i := 14) (by kernel_rfl) (by kernel_rfl) rfl rfl (fun K hK => ?_)
        go_simp
        refine hK _ _ ?_
        clear hK K
        refine wpAnyL_done (by kernel_rfl) ?_ _
        go_wp2
        go_meet
        obtain ⟨a0, a1, a2, a3, aR⟩ := A.out
        have hzz := HZD.out
        exact ⟨w2.heap.size + 1, w2.heap.size + 1 + 1, w2.heap.size, rfl, RenW.init (by omega) (by omega) (by omega) (by omega) (by omega) hml a2 a3 a1 aR, Below.setCell (Below.setCell (Below.setCell (Below.setCell hBz (by simp; omega) _) (by simp; omega) _) (by simp; omega) _) (by simp; omega) _⟩
      · refine oper_mk _ _ _ rfl _ _ 24 Try.underlying22 info_ints rfl m.next.length rfl rfl (by omega) hml ?_
        try simp only [Act.put, List.setIfInBounds_toArray, List.set_cons_zero, List.set_cons_succ]
        refine hK _ _ (fun _ => hSS.below (B := w.heap.size + 2) (Below.alloc (Below.alloc (Below.refl (w.heap.size + 2) w2) (by have := HZD.out; simp; omega) zeroM) (by have := HZD.out; simp; omega) (mk22 m.next.length)) (by omega)) ?_
        clear hK K
        try simp only [World.size_alloc]
        refine wpAnyL_one (i := 9) (by kernel_rfl) rfl rfl (fun K hK => ?_)
        refine oper_mk _ _ _ rfl _ _ 24 Try.underlying22 info_ints rfl m.next.length rfl rfl (by omega) hml ?_
        try simp only [Act.put, List.setIfInBounds_toArray, List.set_cons_zero, List.set_cons_succ]
        refine hK _ _ (fun _ => hSS.below (B := w.heap.size + 2) (Below.alloc (Below.alloc (Below.alloc (Below.refl (w.heap.size + 2) w2) (by have := HZD.out; simp; omega) zeroM) (by have := HZD.out; simp; omega) (mk22 m.next.length)) (by have := HZD.out; simp; omega) (mk22 m.next.length)) (by omega)) ?_
        clear hK K
        try simp only [World.size_alloc]
        obtain ⟨a0, a1, a2, a3, a4⟩ := alloc3 w2 zeroM (mk22 m.next.length) (mk22 m.next.length)
        have hSz : C4 (((w2.alloc zeroM).alloc (mk22 m.next.length)).alloc (mk22 m.next.length)) w.heap.size (some ⟨bn, on, none⟩) cn (some ⟨bo, oo, none⟩) co m := hSS.below (B := w.heap.size + 2) (Below.alloc (Below.alloc (Below.alloc (Below.refl (w.heap.size + 2) w2) (by have := HZD.out; simp; omega) zeroM) (by have := HZD.out; simp; omega) (mk22 m.next.length)) (by have := HZD.out; simp; omega) (mk22 m.next.length)) (by omega)
        have hBz : Below (w.heap.size + 2) ((w.alloc (maO m (some ⟨bn, on, none⟩) cn (some ⟨bo, oo, none⟩) co)).alloc zeroM) (((w2.alloc zeroM).alloc (mk22 m.next.length)).alloc (mk22 m.next.length)) := Below.alloc (Below.alloc (Below.alloc HBD.out (by have := HZD.out; omega) zeroM) (by have := HZD.out; simp; omega) (mk22 m.next.length)) (by have := HZD.out; simp; omega) (mk22 m.next.length)
        have aR := (a4 (w.heap.size + 1) (by have := HZD.out; omega)).trans HRd.out
        generalize (((w2.alloc zeroM).alloc (mk22 m.next.length)).alloc (mk22 m.next.length)) = wz at *
        obtain ⟨k0, k1, k2, k3⟩ := cells4 a1
        have kf : ∀ o, wz.frozen? ⟨w2.heap.size, o, none⟩ = false := fun o => frozen_of_row _ _ _ _ _ a1
        have A := Lib.hid (And.intro a0 (And.intro a1 (And.intro a2 (And.intro a3 aR))))
        clear a0 a1 a2 a3 a4 aR
        refine wpAnyL_take (i := 12) (v := ?v27) rfl (by kernel_rfl) (by kernel_rfl) (by kernel_rfl) (by kernel_rfl) (fun _ _ _ h => h) (Or.inl ⟨by rfl, ?y27⟩) (by assumption) ?r27
        case y27 => (intro w' hSw; (try dsimp only at hSw); go_simp; try with_reducible rfl)
        try simp only [Act.put, List.setIfInBounds_toArray, List.set_cons_zero, List.set_cons_succ]
        refine wpAnyL_late (i := 14) (by kernel_rfl) (by kernel_rfl) rfl rfl (fun K hK => ?_)
        go_simp
        refine hK _ _ ?_
        clear hK K
        refine wpAnyL_done (by kernel_rfl) ?_ _
        go_wp2
        go_meet
        obtain ⟨a0, a1, a2, a3, aR⟩ := A.out
        have hzz := HZD.out
        exact ⟨w2.heap.size + 1 + 1, w2.heap.size + 1, w2.heap.size, rfl, RenW.init (by omega) (by omega) (by omega) (by omega) (by omega) hml a3 a2 a1 aR, Below.setCell (Below.setCell (Below.setCell (Below.setCell hBz (by simp; omega) _) (by simp; omega) _) (by simp; omega) _) (by simp; omega) _⟩
  case rest =>
    obtain ⟨gN, gO, gX, rfl, hR, hB⟩ := hcut
    obtain ⟨w2, rfl⟩ : ∃ w2 : World, w2 = wc := ⟨_, rfl⟩
    have H41 := Lib.hid h41
    have HB1 := Lib.hid hB1
    have hl0 : Hid ((List.replicate m.next.length [] : List (List Int)) = spread (m.renRow d) m.next.length d 0 ∧ (List.replicate m.next.length [] : List (List Int)) = spread (fun s => m.out.getD s []) m.next.length d 0) := ⟨rfl, rfl⟩
    have h42 := h41.below hB (by omega)
    clear h41 hB1
    go_wp2
    clear h42
    go_loopw [29] (fun i wr => ∃ (k : Nat) (lN lO : List (List Int)), k ≤ m.next.length ∧ i = .int .i64 k ∧ Hid (lN = spread (m.renRow d) m.next.length d k ∧ lO = spread (fun s => m.out.getD s []) m.next.length d k) ∧
      RenW w.heap.size wr gN gO gX m.next.length m.inputs (p0 : Int) lN lO ∧ Below (w.heap.size + 2) ((w.alloc (maO m (some ⟨bn, on, none⟩) cn (some ⟨bo, oo, none⟩) co)).alloc zeroM) wr) (fun i _ => m.next.length - (intOf i).toNat)
    case atStart => exact ⟨0, _, _, by omega, rfl, hl0, hR, hB⟩
    case round =>
      clear hR hB hl0
      obtain ⟨k, lN, lO, hk, rfl, hls, hR, hB⟩ := hrel
      obtain ⟨w3, rfl⟩ : ∃ w3 : World, w3 = wr := ⟨_, rfl⟩
      by_cases hlt : k < m.next.length
      · have h43 := H41.out.below hB (by omega)
        have H43 := Lib.hid h43
        have HR := Lib.hid hR
        have hO0 : Ow (α := Int) w3.heap.size (fun k => w3.heap.size ≤ k) w3 3 (.slice none 0 0) [] := Ow.nil
        have hl0 : Hid (([] : List Int) = (m.renRow d k).take 0) := rfl
        have hz3 := hR.size
        have hz3' : w.heap.size + 2 ≤ w3.heap.size := by omega
        have hB0 := Below.refl w3.heap.size w3
        have hrl : Hid ((m.renRow d k).length = m.inputs.toNat) := by
          have := OK.out.rn k hlt
          unfold Hid Mach.renRow; rw [List.length_map]; omega
        clear hR
        go_wp2
        clear h43
        go_loopw [8, 34] (fun v j wr => ∃ (j' : Nat) (a' : Option Addr) (c' : Nat) (l' : List Int), j' ≤ m.inputs.toNat ∧ j = .int .i64 j' ∧ v = .slice a' l'.length c' ∧ l'.length ≤ 64 ∧ Hid (l' = (m.renRow d k).take j') ∧
          Ow (α := Int) w3.heap.size (fun k => w3.heap.size ≤ k) wr 3 (.slice a' l'.length c') l' ∧ Below w3.heap.size w3 wr) (fun _ j _ => m.inputs.toNat - (intOf j).toNat)
        case atStart => exact ⟨0, none, 0, [], by omega, rfl, rfl, by simp, hl0, hO0, hB0⟩
        case round =>
          clear hO0 hl0 hB0
          obtain ⟨j, a4, c4, l4, hj, rfl, rfl, hl4, hl4e, hO4, hB4⟩ := hrel
          obtain ⟨w4, rfl⟩ : ∃ w4 : World, w4 = wr := ⟨_, rfl⟩
          have h44 := H43.out.below hB4 (by omega)
          have hz4 := hB4.size
          by_cases hlj : j < m.inputs.toNat
          · have hlj2 : (j : Int) < m.inputs := by omega
            have hl4j : Hid (l4.length = j) := by unfold Hid; rw [hl4e.out, List.length_take, hrl.out]; omega
            obtain ⟨b1, o1, c1, l1, b2, o2, c2, l2, x, y, e1, e2, e3, e4, hx1, ya, yb, hv1, hv2, q1, q2, q3, q4⟩ := (HM.out.below (HB1.out.trans ((hB.mono (by omega)).trans (hB4.mono (by omega))))).atS OK.out hlt hlj
            obtain ⟨p, hp⟩ : ∃ p : Nat, p = (x + d) % m.next.length := ⟨_, rfl⟩
            have hpn : p < m.next.length := by rw [hp]; exact Nat.mod_lt _ n0
            have hmd : ((x : Int) + (d : Int)).tmod ((m.next.length : Nat) : Int) = (p : Int) := by rw [hp]; exact tmod_nat _ _ _
            have hwr : IntKind.i64.wrap ((x : Int) + (d : Int)) = (x : Int) + (d : Int) := IntWalk.i64_in _ (by omega)
            have HPP := Lib.hid hp
            have hll : l4.length < 64 := by rw [hl4j.out]; omega
            have HO4 := Lib.hid hO4
            clear hp
            go_wp2_with (at_builtin; refine wpList_push_i (B := w3.heap.size) (l := l4) (y := (p : Int)) rfl rfl Try.underlying27 info_int rfl rfl (HO4.out.alloc _) (by simp [go_sem]) (by unfold i64; omega) (by omega) (by simp; omega) ?_)
            intro a5 c5 l5 w5 hl5 hO5 hb5
            have hbA := ((Below.refl w3.heap.size w3).trans hB4).alloc (B := w3.heap.size) (by omega) (.cells #[.int .i64 (p : Int)] 3)
            have hB5 := hbA.trans hb5
            have hl5e : Hid (l5 = (m.renRow d k).take (j + 1)) := by
              unfold Hid
              rw [hl5.out, hl4e.out]
              have hg : (m.renRow d k)[j]? = some (p : Int) := by
                have h1 := OK.out.rn k hlt
                have h2 := hv1.out
                unfold Mach.nx at h2
                unfold Mach.renRow
                rw [List.getElem?_map]
                rw [List.getD_eq_getElem?_getD (l := m.next.getD k [])] at h2
                rw [List.getElem?_eq_getElem (by omega)] at h2 ⊢
                simp only [Option.getD_some] at h2
                simp only [Option.map_some, h2, Int.toNat_natCast, HPP.out]
              rw [List.take_add_one, hg]; rfl
            have hl5' : l5.length ≤ 64 := by rw [hl5.out]; simp; omega
            clear hbA hb5 hl5 e1 e2 e3 e4 hv1 hv2
            go_wp2
            go_roundw
            case rel => exact ⟨j + 1, a5, c5, l5, by omega, by go_num, rfl, hl5', hl5e, hO5, hB5⟩
            case measure => simp [intOf]; omega
          · have hlj2 : ¬ (j : Int) < m.inputs := by omega
            have hrow : Hid (l4 = m.renRow d k) := by unfold Hid; rw [hl4e.out, List.take_of_length_le (by rw [hrl.out]; omega)]
            have h44' := h44
            have hB34 := hB.trans (hB4.mono hz3')
            have hR4 := HR.out.below hB4
            have hz4' : w.heap.size + 5 ≤ w4.heap.size := by omega
            have hSr : Sl (fun k => k < w.heap.size + 5) w4 a4 c4 l4 := hO4.fresh (by omega)
            obtain ⟨p, hp⟩ : ∃ p : Nat, p = (k + d) % m.next.length := ⟨_, rfl⟩
            have hpn : p < m.next.length := by rw [hp]; exact Nat.mod_lt _ n0
            have hmd : ((k : Int) + (d : Int)).tmod ((m.next.length : Nat) : Int) = (p : Int) := by rw [hp]; exact tmod_nat _ _ _
            have hwr : IntKind.i64.wrap ((k : Int) + (d : Int)) = (k : Int) + (d : Int) := IntWalk.i64_in _ (by omega)
            have HPP := Lib.hid hp
            have hgX := hR4.rX
            have hgN := hR4.rN
            have hgO := hR4.rO
            have hgne := hR4.ne
            have HR4 := Lib.hid hR4
            have HSR := Lib.hid hSr
            have HB34 := Lib.hid hB34
            clear hp hR4 hO4 hB4 h44 hSr hB34
            go_wp2
            have hLN : Hid (lN.length = m.next.length) := by unfold Hid; rw [hls.out.1]; exact spread_len _ _ _ _
            have hLO : Hid (lO.length = m.next.length) := by unfold Hid; rw [hls.out.2]; exact spread_len _ _ _ _
            obtain ⟨vN, hvN, hfN⟩ := ow_cell HR4.out.oN.drew hLN.out hpn
            have hx2 := (cells4 HR4.out.bX).2.2.1
            have hSS : w4.drew.cell? ⟨gX, 2, none⟩ = some (.slice (some ⟨gN, 0, none⟩) m.next.length m.next.length) := by simpa using hx2
            refine wp_region_L (fun w' => w'.cell? ⟨gX, 2, none⟩ = some (.slice (some ⟨gN, 0, none⟩) m.next.length m.next.length)) [0, 1, 2, 3, 4, 5, 6, 7] (by kernel_rfl) ?_
            refine wpAnyL_take (i := 0) (v := ?v28) rfl (by kernel_rfl) (by kernel_rfl) (by kernel_rfl) (by kernel_rfl) (fun _ _ _ h => h) (Or.inl ⟨by rfl, ?y28⟩) (by assumption) ?r28
            case y28 => (intro w' hSw; (try dsimp only at hSw); go_simp; try with_reducible rfl)
            try simp only [Act.put, List.setIfInBounds_toArray, List.set_cons_zero, List.set_cons_succ]
            refine wpAnyL_take (i := 1) (v := ?v29) rfl (by kernel_rfl) (by kernel_rfl) (by kernel_rfl) (by kernel_rfl) (fun _ _ _ h => h) (Or.inl ⟨by rfl, ?y29⟩) (by assumption) ?r29
            case y29 => (intro w' hSw; (try dsimp only at hSw); go_simp; try with_reducible rfl)
            try simp only [Act.put, List.setIfInBounds_toArray, List.set_cons_zero, List.set_cons_succ]
            refine wpAnyL_take (i := 2) (v := ?v30) rfl (by kernel_rfl) (by kernel_rfl) (by kernel_rfl) (by kernel_rfl) (fun _ _ _ h => h) (Or.inl ⟨by rfl, ?y30⟩) (by assumption) ?r30
            case y30 => (intro w' hSw; (try dsimp only at hSw); go_simp; try with_reducible rfl)
            try simp only [Act.put, List.setIfInBounds_toArray, List.set_cons_zero, List.set_cons_succ]
            refine wpAnyL_take (i := 3) (v := ?v31) rfl (by kernel_rfl) (by kernel_rfl) (by kernel_rfl) (by kernel_rfl) (fun _ _ _ h => h) (Or.inl ⟨by rfl, ?y31⟩) (by assumption) ?r31
            case y31 => (intro w' hSw; (try dsimp only at hSw); go_simp; try with_reducible rfl)
            try simp only [Act.put, List.setIfInBounds_toArray, List.set_cons_zero, List.set_cons_succ]
            refine wpAnyL_take (i := 4) (v := ?v32) rfl (by kernel_rfl) (by kernel_rfl) (by kernel_rfl) (by kernel_rfl) (fun _ _ _ h => h) (Or.inl ⟨by rfl, ?y32⟩) (by assumption) ?r32
            case y32 => (intro w' hSw; (try dsimp only at hSw); go_simp; try with_reducible rfl)
            try simp only [Act.put, List.setIfInBounds_toArray, List.set_cons_zero, List.set_cons_succ]
            refine wpAnyL_take (i := 5) (v := ?v33) rfl (by kernel_rfl) (by kernel_rfl) (by kernel_rfl) (by kernel_rfl) (fun _ _ _ h => h) (Or.inl ⟨by rfl, ?y33⟩) (by assumption) ?r33
            case y33 => (intro w' hSw; (try dsimp only at hSw); go_simp; try with_reducible rfl)
            try simp only [Act.put, List.setIfInBounds_toArray, List.set_cons_zero, List.set_cons_succ]
            refine wpAnyL_take (i := 6) (v := ?v34) rfl (by kernel_rfl) (by kernel_rfl) (by kernel_rfl) (by kernel_rfl) (fun _ _ _ h => h) (Or.inl ⟨by rfl, ?y34⟩) (by assumption) ?r34
            case y34 => (intro w' hSw; (try dsimp only at hSw); go_simp; try with_reducible rfl)
            try simp only [Act.put, List.setIfInBounds_toArray, List.set_cons_zero, List.set_cons_succ]
            refine wpAnyL_take (i := 7) (v := ?v35) rfl (by kernel_rfl) (by kernel_rfl) (by kernel_rfl) (by kernel_rfl) (fun _ _ _ h => h) (Or.inl ⟨by rfl, ?y35⟩) (by assumption) ?r35
            case y35 => (intro w' hSw; (try dsimp only at hSw); go_simp; try with_reducible rfl)
            try simp only [Act.put, List.setIfInBounds_toArray, List.set_cons_zero, List.set_cons_succ]
            refine wpAnyL_late (i := 8) (by kernel_rfl) (by kernel_rfl) rfl rfl (fun K hK => ?_)
            go_simp
            refine hK _ _ ?_
            clear hK K
            refine wpAnyL_late (i := 9) (by kernel_rfl) (by kernel_rfl) rfl rfl (fun K hK => ?_)
            go_simp
            refine hK _ _ ?_
            clear hK K
            refine wpAnyL_done (by kernel_rfl) ?_ _
            have hR5 := (HR4.out.setN HSR.out hLN.out p).below ((Below.refl _ _).drew)
            have hB5 := (Below.setCell HB34.out (p := ⟨gN, p, none⟩) (by simp; omega) (.slice a4 l4.length c4)).drew
            have hls5 : Hid (lN.set p l4 = spread (m.renRow d) m.next.length d (k + 1)) := by
              unfold Hid
              rw [hls.out.1, HPP.out, hrow.out]; rfl
            have hz5 : w.heap.size + 5 ≤ (w4.setCell ⟨gN, p, none⟩ (.slice a4 l4.length c4)).drew.heap.size := by simpa [World.setCell, World.drew] using hz4'
            clear hSS hx2 hvN hfN HSR HR4 HB34 h44' hz4 hz4'
            generalize (w4.setCell ⟨gN, p, none⟩ (.slice a4 l4.length c4)).drew = w5 at *
            have HR5 := Lib.hid hR5
            have HB5 := Lib.hid hB5
            have hx3 := (cells4 hR5.bX).2.2.2
            have h45 := H41.out.below hB5 (by omega)
            obtain ⟨bn', on', a1, r1, c1, bo', oo', a2, r2, c2, q1, q2, q3, q4, q5, q6, q7, q8, q9, q10, q11⟩ := (HM.out.below (HB1.out.trans (hB5.mono (by omega)))).row OK.out hlt
            obtain ⟨rfl, rfl⟩ : bn = bn' ∧ on = on' := by simpa using q1
            obtain ⟨rfl, rfl⟩ : bo = bo' ∧ oo = oo' := by simpa using q2
            have r2l : Hid (r2.length = m.inputs.toNat) := q11.out.2
            have hiz : 0 < m.inputs.toNat := by omega
            obtain ⟨ba, oa, rfl⟩ : ∃ ba oa, a2 = some ⟨ba, oa, none⟩ := by
              obtain ⟨b1, o1, x1, e1, -⟩ := q6.at_int (j := 0) (by rw [r2l.out]; exact hiz)
              exact ⟨b1, o1, e1⟩
            have hko : k < m.out.length := by rw [lo.out]; exact hlt
            have Q6 := Lib.hid q6
            have Q8 := Lib.hid q8
            clear q1 q2 q3 q5 q6 q7 q8 q9 q10 q11 hR5 hB5
            have hSS : w5.drew.cell? ⟨gX, 3, none⟩ = some (.slice (some ⟨gO, 0, none⟩) m.next.length m.next.length) ∧ w5.drew.cell? ⟨w.heap.size, 3, none⟩ = some (.slice (some ⟨bo, oo, none⟩) m.out.length co) ∧ w5.drew.cell? ⟨bo, oo + k, none⟩ = some (.slice (some ⟨ba, oa, none⟩) r2.length c2) := ⟨by simpa using hx3, by simpa using h45.2.2.2, by simpa using q4⟩
            go_wp2
            refine wp_region_L (fun w' => w'.cell? ⟨gX, 3, none⟩ = some (.slice (some ⟨gO, 0, none⟩) m.next.length m.next.length) ∧ w'.cell? ⟨w.heap.size, 3, none⟩ = some (.slice (some ⟨bo, oo, none⟩) m.out.length co) ∧ w'.cell? ⟨bo, oo + k, none⟩ = some (.slice (some ⟨ba, oa, none⟩) r2.length c2)) [0, 1, 2, 3, 4, 5, 6, 8, 9, 10, 11, 12] (by kernel_rfl) ?_
            have HR5 := Lib.hid (HR5.out.below ((Below.refl _ w5).drew))
            have HB5 := Lib.hid HB5.out.drew
            have Q6 := Lib.hid Q6.out.drew
            have hz5 : w.heap.size + 5 ≤ w5.drew.heap.size := hz5
            clear hx3 h45 q4
            generalize w5.drew = w6 at *
            refine wpAnyL_take (i := 0) (v := ?v36) rfl (by kernel_rfl) (by kernel_rfl) (by kernel_rfl) (by kernel_rfl) (fun _ _ _ h => h) (Or.inl ⟨by rfl, ?y36⟩) (by assumption) ?r36
            case y36 => (intro w' hSw; (try dsimp only at hSw); go_simp; try with_reducible rfl)
            try simp only [Act.put, List.setIfInBounds_toArray, List.set_cons_zero, List.set_cons_succ]
            refine wpAnyL_take (i := 1) (v := ?v37) rfl (by kernel_rfl) (by kernel_rfl) (by kernel_rfl) (by kernel_rfl) (fun _ _ _ h => h) (Or.inl ⟨by rfl, ?y37⟩) (by assumption) ?r37
            case y37 => (intro w' hSw; (try dsimp only at hSw); go_simp; try with_reducible rfl)
            try simp only [Act.put, List.setIfInBounds_toArray, List.set_cons_zero, List.set_cons_succ]
            refine wpAnyL_take (i := 2) (v := ?v38) rfl (by kernel_rfl) (by kernel_rfl) (by kernel_rfl) (by kernel_rfl) (fun _ _ _ h => h) (Or.inl ⟨by rfl, ?y38⟩) (by assumption) ?r38
            case y38 => (intro w' hSw; (try dsimp only at hSw); go_simp; try with_reducible rfl)
            try simp only [Act.put, List.setIfInBounds_toArray, List.set_cons_zero, List.set_cons_succ]
            refine wpAnyL_take (i := 3) (v := ?v39) rfl (by kernel_rfl) (by kernel_rfl) (by kernel_rfl) (by kernel_rfl) (fun _ _ _ h => h) (Or.inl ⟨by rfl, ?y39⟩) (by assumption) ?r39
            case y39 => (intro w' hSw; (try dsimp only at hSw); go_simp; try with_reducible rfl)
            try simp only [Act.put, List.setIfInBounds_toArray, List.set_cons_zero, List.set_cons_succ]
            refine wpAnyL_take (i := 4) (v := ?v40) rfl (by kernel_rfl) (by kernel_rfl) (by kernel_rfl) (by kernel_rfl) (fun _ _ _ h => h) (Or.inl ⟨by rfl, ?y40⟩) (by assumption) ?r40
            case y40 => (intro w' hSw; (try dsimp only at hSw); go_simp; try with_reducible rfl)
            try simp only [Act.put, List.setIfInBounds_toArray, List.set_cons_zero, List.set_cons_succ]
            refine wpAnyL_take (i := 5) (v := ?v41) rfl (by kernel_rfl) (by kernel_rfl) (by kernel_rfl) (by kernel_rfl) (fun _ _ _ h => h) (Or.inl ⟨by rfl, ?y41⟩) (by assumption) ?r41
            case y41 => (intro w' hSw; (try dsimp only at hSw); go_simp; try with_reducible rfl)
            try simp only [Act.put, List.setIfInBounds_toArray, List.set_cons_zero, List.set_cons_succ]
            refine wpAnyL_take (i := 6) (v := ?v42) rfl (by kernel_rfl) (by kernel_rfl) (by kernel_rfl) (by kernel_rfl) (fun _ _ _ h => h) (Or.inl ⟨by rfl, ?y42⟩) (by assumption) ?r42
            case y42 => (intro w' hSw; (try dsimp only at hSw); go_simp; try with_reducible rfl)
            try simp only [Act.put, List.setIfInBounds_toArray, List.set_cons_zero, List.set_cons_succ]
            refine wpAnyL_take (i := 8) (v := ?v43) rfl (by kernel_rfl) (by kernel_rfl) (by kernel_rfl) (by kernel_rfl) (fun _ _ _ h => h) (Or.inl ⟨by rfl, ?y43⟩) (by assumption) ?r43
            case y43 => (intro w' hSw; (try dsimp only at hSw); go_simp; try with_reducible rfl)
            try simp only [Act.put, List.setIfInBounds_toArray, List.set_cons_zero, List.set_cons_succ]
            refine wpAnyL_take (i := 9) (v := ?v44) rfl (by kernel_rfl) (by kernel_rfl) (by kernel_rfl) (by kernel_rfl) (fun _ _ _ h => h) (Or.inl ⟨by rfl, ?y44⟩) (by assumption) ?r44
            case y44 => (intro w' hSw; (try dsimp only at hSw); go_simp; try with_reducible rfl)
            try simp only [Act.put, List.setIfInBounds_toArray, List.set_cons_zero, List.set_cons_succ]
            refine wpAnyL_take (i := 10) (v := ?v45) rfl (by kernel_rfl) (by kernel_rfl) (by kernel_rfl) (by kernel_rfl) (fun _ _ _ h => h) (Or.inl ⟨by rfl, ?y45⟩) (by assumption) ?r45
            case y45 => (intro w' hSw; (try dsimp only at hSw); go_simp; try with_reducible rfl)
            try simp only [Act.put, List.setIfInBounds_toArray, List.set_cons_zero, List.set_cons_succ]
            refine wpAnyL_take (i := 11) (v := ?v46) rfl (by kernel_rfl) (by kernel_rfl) (by kernel_rfl) (by kernel_rfl) (fun _ _ _ h => h) (Or.inl ⟨by rfl, ?y46⟩) (by assumption) ?r46
            case y46 => (intro w' hSw; (try dsimp only at hSw); go_simp; try with_reducible rfl)
            try simp only [Act.put, List.setIfInBounds_toArray, List.set_cons_zero, List.set_cons_succ]
            refine wpAnyL_take (i := 12) (v := ?v47) rfl (by kernel_rfl) (by kernel_rfl) (by kernel_rfl) (by kernel_rfl) (fun _ _ _ h => h) (Or.inl ⟨by rfl, ?y47⟩) (by assumption) ?r47
            case y47 => (intro w' hSw; (try dsimp only at hSw); go_simp; try with_reducible rfl)
            try simp only [Act.put, List.setIfInBounds_toArray, List.set_cons_zero, List.set_cons_succ]
            refine wpAnyL_one (i := 7) (by kernel_rfl) rfl rfl (fun K hK => ?_)
            go_simp
            have ha7 : ∀ q : Addr, q.block < w6.heap.size → (w6.alloc (.cells #[] 3)).cell? q = w6.cell? q := fun q hq => ((Below.refl _ _).alloc (Nat.le_refl _) _).cell hq
            have hSS7 : (w6.alloc (.cells #[] 3)).cell? ⟨gX, 3, none⟩ = some (.slice (some ⟨gO, 0, none⟩) m.next.length m.next.length) ∧ (w6.alloc (.cells #[] 3)).cell? ⟨w.heap.size, 3, none⟩ = some (.slice (some ⟨bo, oo, none⟩) m.out.length co) ∧ (w6.alloc (.cells #[] 3)).cell? ⟨bo, oo + k, none⟩ = some (.slice (some ⟨ba, oa, none⟩) r2.length c2) :=
              ⟨(ha7 ⟨gX, 3, none⟩ (lt_of_cell hSS.1)).trans hSS.1, (ha7 ⟨w.heap.size, 3, none⟩ (lt_of_cell hSS.2.1)).trans hSS.2.1, (ha7 ⟨bo, oo + k, none⟩ (lt_of_cell hSS.2.2)).trans hSS.2.2⟩
            refine hK _ _ (fun _ => hSS7) ?_
            clear hK K ha7
            have hr2l : r2.length < 1000000000000 := by rw [r2l.out]; omega
            refine wpAnyL_one (i := 13) (by kernel_rfl) rfl rfl (fun K hK => ?_)
            refine wp_app_ints (B := w6.heap.size) (l0 := []) (l1 := r2) rfl Try.underlying27 info_int rfl rfl (Ow.zero (M := fun k => w6.heap.size ≤ k) (w := w6) (Nat.le_refl _)) (Q6.out.alloc _) (by simpa using hr2l) (by simp) ?_
            intro a9 c9 l9 w9 hl9 hO9 hb9
            have hb9' : Below w6.heap.size w6 w9 := ((Below.refl _ _).alloc (Nat.le_refl _) _).trans hb9
            have hSS9 : w9.cell? ⟨gX, 3, none⟩ = some (.slice (some ⟨gO, 0, none⟩) m.next.length m.next.length) ∧ w9.cell? ⟨w.heap.size, 3, none⟩ = some (.slice (some ⟨bo, oo, none⟩) m.out.length co) ∧ w9.cell? ⟨bo, oo + k, none⟩ = some (.slice (some ⟨ba, oa, none⟩) r2.length c2) :=
              ⟨(hb9'.cell (p := ⟨gX, 3, none⟩) (lt_of_cell hSS.1)).trans hSS.1, (hb9'.cell (p := ⟨w.heap.size, 3, none⟩) (lt_of_cell hSS.2.1)).trans hSS.2.1, (hb9'.cell (p := ⟨bo, oo + k, none⟩) (lt_of_cell hSS.2.2)).trans hSS.2.2⟩
            refine hK _ _ (fun _ => hSS9) ?_
            clear hK K hSS hSS7
            have hR9 := HR5.out.below hb9'
            have hSr9 : Sl (fun k => k < w.heap.size + 5) w9 a9 c9 l9 := hO9.fresh (by omega)
            have hB9 := HB5.out.trans (hb9'.mono (by omega))
            obtain ⟨vO, hvO, hfO⟩ := ow_cell hR9.oO hLO.out hpn
            have hR10 := hR9.setO hSr9 hLO.out p
            have hB10 := Below.setCell hB9 (p := ⟨gO, p, none⟩) (by simp; omega) (.slice a9 l9.length c9)
            have hls10 : Hid (lN.set p l4 = spread (m.renRow d) m.next.length d (k + 1) ∧ lO.set p l9 = spread (fun s => m.out.getD s []) m.next.length d (k + 1)) := by
              refine ⟨hls5.out, ?_⟩
              rw [hls.out.2, HPP.out, hl9.out, List.nil_append]
              have e : m.out.getD k [] = r2 := getD_of_some Q8.out
              rw [← e]; rfl
            have HR10 := Lib.hid hR10
            have HB10 := Lib.hid hB10
            clear hb9 hb9' hR9 hSr9 hB9 hO9 hR10 hB10
            refine wpAnyL_late (i := 14) (by kernel_rfl) (by kernel_rfl) rfl rfl (fun K hK => ?_)
            go_simp
            refine hK _ _ ?_
            clear hK K
            refine wpAnyL_late (i := 15) (by kernel_rfl) (by kernel_rfl) rfl rfl (fun K hK => ?_)
            go_simp
            refine hK _ _ ?_
            clear hK K
            refine wpAnyL_done (by kernel_rfl) ?_ _
            go_wp2
            go_roundw
            case rel => exact ⟨k + 1, lN.set p l4, lO.set p l9, by omega, by go_num, hls10, HR10.out, HB10.out⟩
            case measure => simp [intOf]; omega
      · have hkn : k = m.next.length := by omega
        subst hkn
        have hLN : lN.length = m.next.length := by rw [hls.out.1]; exact spread_len _ _ _ _
        have hLO : lO.length = m.next.length := by rw [hls.out.2]; exact spread_len _ _ _ _
        have hpn : p0 < m.next.length := by rw [HP0.out]; exact Nat.mod_lt _ n0
        have hMa := hR.toMa2 hLN hLO (by unfold i64; omega) (by unfold i64; omega)
        have HLN := Lib.hid hLN
        have HLO := Lib.hid hLO
        have HMA := Lib.hid hMa
        have HBR := Lib.hid hR.bR
        obtain ⟨x0, x1, x2, x3⟩ := cells4 hR.bX
        obtain ⟨k0, k1, k2, k3⟩ := cells4 hR.bR
        have kf : ∀ o, w3.frozen? ⟨w.heap.size + 1, o, none⟩ = false := fun o => frozen_of_row _ _ _ _ _ HBR.out
        have HBW := Lib.hid (HB1.out.trans (hB.mono (by omega)))
        have hz3 := hR.size
        clear hLN hLO hMa hR hB
        go_wp2
        obtain ⟨q0, q1, q2, q3⟩ := cells4 (set4 (y0 := .int .i64 m.inputs) (y1 := .int .i64 (p0 : Int)) (y2 := .slice (some ⟨gN, 0, none⟩) m.next.length m.next.length) (y3 := .slice (some ⟨gO, 0, none⟩) m.next.length m.next.length) HBR.out)
        have hMf := (HMA.out.ext ((((Ext.setCell w3 (M := fun k => k < w.heap.size + 2) (p := ⟨w.heap.size + 1, 0, none⟩) (by simp) (.int .i64 m.inputs)).trans (Ext.setCell _ (p := ⟨w.heap.size + 1, 1, none⟩) (by simp) (.int .i64 (p0 : Int)))).trans (Ext.setCell _ (p := ⟨w.heap.size + 1, 2, none⟩) (by simp) (.slice (some ⟨gN, 0, none⟩) m.next.length m.next.length))).trans (Ext.setCell _ (p := ⟨w.heap.size + 1, 3, none⟩) (by simp) (.slice (some ⟨gO, 0, none⟩) m.next.length m.next.length)))).ext (Ext.sub_only (M' := fun k => k < w.heap.size) (fun k _ hk => by omega))
        have hBf := Below.setCell (Below.setCell (Below.setCell (Below.setCell HBW.out (p := ⟨w.heap.size + 1, 0, none⟩) (by simp) (.int .i64 m.inputs)) (p := ⟨w.heap.size + 1, 1, none⟩) (by simp) (.int .i64 (p0 : Int))) (p := ⟨w.heap.size + 1, 2, none⟩) (by simp) (.slice (some ⟨gN, 0, none⟩) m.next.length m.next.length)) (p := ⟨w.heap.size + 1, 3, none⟩) (by simp) (.slice (some ⟨gO, 0, none⟩) m.next.length m.next.length)
        generalize ((((w3.setCell ⟨w.heap.size + 1, 0, none⟩ (.int .i64 m.inputs)).setCell ⟨w.heap.size + 1, 1, none⟩ (.int .i64 (p0 : Int))).setCell ⟨w.heap.size + 1, 2, none⟩ (.slice (some ⟨gN, 0, none⟩) m.next.length m.next.length)).setCell ⟨w.heap.size + 1, 3, none⟩ (.slice (some ⟨gO, 0, none⟩) m.next.length m.next.length)) = wf at *
        refine bodyPost_ret (v := .agg #[.int .i64 m.inputs, .int .i64 (p0 : Int), .slice (some ⟨gN, 0, none⟩) m.next.length m.next.length, .slice (some ⟨gO, 0, none⟩) m.next.length m.next.length]) (by simp [results, Try.results46, go_sem, q0, q1, q2, q3]) rfl ⟨_, _, _, _, ⟨m.inputs, (p0 : Int), lN, lO⟩, ?_, ?_, hMf, hBf⟩
        · unfold maV
          simp only [HLN.out, HLO.out]
        · unfold Hid Mach.ren
          rw [hls.out.1, hls.out.2, HP0.out, HST.out]
          rfl
end
end Go.Proofs.Ytdnmgiabgpilkaa
/- The law of chapter 8 on what Min keeps. Condition: the number fits. -/
namespace Go.Proofs.Ytdnmgiabgpilkaa
open Go.RowKit
namespace Mach
theorem run_of {m : Mach} (ok : m.Ok) (w : List Int) : m.frErr m.start w = wErr w m.inputs ∧ m.frOut m.start w = if wErr w m.inputs = 0 then m.outsW m.start w else [] := by
  have h := m.err_of_ok ok
  have hst : m.stErr m.start = 0 := by
    have := ok.s0
    have := ok.s1
    unfold stErr
    rw [if_neg (by simp [h]), if_neg (by omega)]
  by_cases e : wErr w m.inputs = 0
  · obtain ⟨h1, h2, -⟩ := frErr_0 hst e
    rw [if_pos e]; exact ⟨h1.trans e.symm, h2⟩
  · obtain ⟨h1, h2, -⟩ := frErr_w hst e
    rw [if_neg e]; exact ⟨h1, h2⟩
theorem run_min {m : Mach} (ok : m.Ok) (w : List Int) : m.minF.frErr m.minF.start w = m.frErr m.start w ∧ m.minF.frOut m.minF.start w = m.frOut m.start w := by
  obtain ⟨h1, h2⟩ := run_of ok w
  obtain ⟨h3, h4⟩ := run_of (minF_ok ok) w
  have hi : m.minF.inputs = m.inputs := rfl
  rw [hi] at h3 h4
  refine ⟨h3.trans h1.symm, h4.trans (Eq.trans ?_ h2.symm)⟩
  by_cases e : wErr w m.inputs = 0
  · rw [if_pos e, if_pos e]
    exact (minF_start ok w (okS_of e).1).symm
  · rw [if_neg e, if_neg e]
end Mach
theorem Ma.off {M : Nat → Prop} {w : World} {an ao : Option Addr} {cn co : Nat} {m : Mach} (h : Ma M w an cn ao co m) : Ma (fun _ => False) w an cn ao co m := h.ext (Ext.sub_only fun _ _ h => h.elim)
theorem Sl.off {M : Nat → Prop} {w : World} {a : Option Addr} {c : Nat} {l : List Int} (h : Sl M w a c l) : Sl (fun _ => False) w a c l := h.anti fun _ _ h => h.elim
theorem same_is {M : Nat → Prop} {w : World} {an ao an' ao' : Option Addr} {cn co cn' co' : Nat} {m m' : Mach} (hm : Ma M w an cn ao co m) (hm' : Ma M w an' cn' ao' co' m') (h : m = m') :
    Calls Try.prog 47 #[maV m an cn ao co, maV m' an' cn' ao' co'] w fun e w' => e = .returned (.bool true) ∧ Below w.heap.size w w' :=
  (same_any hm hm').mono fun e w' h2 => by rw [decide_eq_true h] at h2; exact h2
theorem minimal_is {M : Nat → Prop} {w : World} {an ao : Option Addr} {cn co : Nat} {m : Mach} {b : Bool} (hm : Ma M w an cn ao co m) (h : m.minimal = b) :
    Calls Try.prog 28 #[maV m an cn ao co] w fun e w' => e = .returned (.bool b) ∧ Below w.heap.size w w' :=
  (minimal_any hm).mono fun e w' ⟨b', h1, h2, h3⟩ => ⟨by rw [h1, h2.out, h], h3⟩
section
variable {M M' : Nat → Prop} {w : World} {cn co : Nat} {m : Mach} {a : Option Addr} {c : Nat} {l : List Int} {bn on bo oo : Nat}

set_option maxRecDepth 100000 in
set_option maxHeartbeats 8000000 in
theorem same_main (hm : Ma M w (some ⟨bn, on, none⟩) cn (some ⟨bo, oo, none⟩) co m) (ok : m.Ok) (d : Nat) (hd : d < 256) (hs : Sl M' w a c l) (hg : m.great = false) :
    Calls Try.prog 13 #[maV m (some ⟨bn, on, none⟩) cn (some ⟨bo, oo, none⟩) co, .slice a l.length c, .int .u8 d] w fun e w' => e = .returned (.bool true) ∧ Below w.heap.size w w' := by
  have hle := hm.next.le
  have hll := hs.le
  have HM := Lib.hid hm.off
  have HS := Lib.hid hs.off
  have OK := Lib.hid ok
  have HG := Lib.hid (great_any (hm.ext (Ext.alloc M w (maO m (some ⟨bn, on, none⟩) cn (some ⟨bo, oo, none⟩) co))))
  have he' : (m.err != 0) = false := by simp [m.err_of_ok ok]
  have hwr : IntKind.i64.wrap (d : Int) = (d : Int) := IntWalk.i64_in _ (by omega)
  have hB0 := (Below.refl w.heap.size w).alloc (Nat.le_refl _) (maO m (some ⟨bn, on, none⟩) cn (some ⟨bo, oo, none⟩) co)
  have h40 := c4_new (m := m) (an := some ⟨bn, on, none⟩) (cn := cn) (ao := some ⟨bo, oo, none⟩) (co := co) w
  clear hm hs ok
  go_enter Try.func13, Try.ntmps13
  go_wp2_with fail
  refine (HG.out).mono ?_
  rintro e w1 ⟨rfl, hb1⟩
  rw [hg]
  have hB1 := hB0.trans (hb1.mono (by simp))
  have h41 := h40.below hb1 (by simp)
  have hz1 : w.heap.size + 1 ≤ w1.heap.size := by have := hb1.size; simpa using this
  clear hb1 HG hB0 h40 hg
  have HV := Lib.hid (valid6_any (HM.out.below hB1))
  go_wp2_with fail
  refine (HV.out).mono ?_
  rintro e w2 ⟨rfl, hb2⟩
  have hB2 := hB1.trans (hb2.mono (by omega))
  have h42 := h41.below hb2 (by omega)
  have hz2 : w.heap.size + 1 ≤ w2.heap.size := by have := hb2.size; omega
  clear hb2 HV hB1 h41
  have HP := Lib.hid (min_any (HM.out.below hB2))
  go_wp2_with fail
  refine (HP.out).mono ?_
  rintro e w3 ⟨tn, tcn, tz, tco, t, rfl, ht, hmt, hb3⟩
  have hmt := hmt.off
  have ht1 : t = m.minF := by rw [ht.out, Mach.minOf_eq (m.err_of_ok OK.out)]
  have HT := Lib.hid ht1
  have OKT : Hid t.Ok := by unfold Hid; rw [ht1]; exact Mach.minF_ok OK.out
  have het : (t.err != 0) = false := by simp [t.err_of_ok OKT.out]
  have hB3 := (hB2.trans (hb3.mono (by omega))).alloc (by have := hb3.size; omega) (maO t tn tcn tz tco)
  have h43 := (h42.below hb3 (by omega)).below (B := w3.heap.size) ((Below.refl _ _).alloc (Nat.le_refl _) (maO t tn tcn tz tco)) (by have := hb3.size; omega)
  have h4t := c4_new (m := t) (an := tn) (cn := tcn) (ao := tz) (co := tco) w3
  have hmt3 := hmt.ext (Ext.alloc _ w3 (maO t tn tcn tz tco))
  have hz3 : w.heap.size + 1 ≤ w3.heap.size := by have := hb3.size; omega
  have HMT := Lib.hid hmt3
  clear hb3 HP hB2 h42 hmt hmt3 ht ht1
  have HP := Lib.hid (min_any HMT.out)
  go_wp2_with fail
  refine (HP.out).mono ?_
  rintro e w4 ⟨un, ucn, uo, uco, t2, rfl, ht2, hmt2, hb4⟩
  have hmt2 := hmt2.off
  have hz4 : w3.heap.size + 1 ≤ w4.heap.size := by have := hb4.size; simpa using this
  have ht21 : t = t2 := by rw [ht2.out, Mach.minOf_eq (t.err_of_ok OKT.out), HT.out, Mach.minF_minF OK.out]
  have HT2 := Lib.hid ht21
  have hb4A := ((Below.refl _ _).trans hb4).alloc (by simp; omega) (maO t2 un ucn uo uco)
  have hB4 := (hB3.trans (hb4.mono (by simp; omega))).alloc (by omega) (maO t2 un ucn uo uco)
  have h44 := h43.below hb4A (by simp; omega)
  have h4t4 := h4t.below hb4A (by simp)
  have h4u := c4_new (m := t2) (an := un) (cn := ucn) (ao := uo) (co := uco) w4
  have HMT := Lib.hid (HMT.out.below hb4A)
  have HMU := Lib.hid (hmt2.ext (Ext.alloc _ w4 (maO t2 un ucn uo uco)))
  clear hb4 HP hB3 h43 h4t hmt2 ht2 ht21 hb4A
  have HR := Lib.hid (ren_any (HM.out.below (hB4.mono (by omega))) OK.out d hd)
  go_wp2_with fail
  refine (HR.out).mono ?_
  rintro e w5 ⟨rn, rcn, ro, rco, r, rfl, hr, hmr, hb5⟩
  have hz5 : w4.heap.size + 1 ≤ w5.heap.size := by have := hb5.size; simpa using this
  have OKR : Hid r.Ok := by unfold Hid; rw [hr.out]; exact Mach.ren_ok OK.out
  have her : (r.err != 0) = false := by simp [r.err_of_ok OKR.out]
  have hB5 := hB4.trans (hb5.mono (by simp; omega))
  have h45 := h44.below hb5 (by simp; omega)
  have h4t5 := h4t4.below hb5 (by simp; omega)
  have h4u5 := h4u.below hb5 (by simp)
  have HMT := Lib.hid (HMT.out.below hb5)
  have HMU := Lib.hid (HMU.out.below hb5)
  have HMR := Lib.hid hmr.off
  clear hb5 HR hB4 h44 h4t4 h4u hmr
  have HP := Lib.hid (min_any HMR.out)
  go_wp2_with fail
  refine (HP.out).mono ?_
  rintro e w6 ⟨vn, vcn, vo, vco, t3, rfl, ht3, hmt3, hb6⟩
  have hz6 : w5.heap.size ≤ w6.heap.size := hb6.size
  have ht31 : t = t3 := by rw [ht3.out, Mach.minOf_eq (r.err_of_ok OKR.out), HT.out, hr.out, Mach.ren_minF OK.out d]
  have HT3 := Lib.hid ht31
  have hb6A := ((Below.refl _ _).trans hb6).alloc (by omega) (maO t3 vn vcn vo vco)
  have hB6 := (hB5.trans (hb6.mono (by omega))).alloc (by omega) (maO t3 vn vcn vo vco)
  have h46 := h45.below hb6A (by omega)
  have h4t6 := h4t5.below hb6A (by omega)
  have h4u6 := h4u5.below hb6A (by omega)
  have h4v := c4_new (m := t3) (an := vn) (cn := vcn) (ao := vo) (co := vco) w6
  have HMT := Lib.hid (HMT.out.below hb6A)
  have HMU := Lib.hid (HMU.out.below hb6A)
  have HMV := Lib.hid (hmt3.off.ext (Ext.alloc _ w6 (maO t3 vn vcn vo vco)))
  clear hb6 HP hB5 h45 h4t5 h4u5 hmt3 ht3 ht31 hb6A HMR hr
  have hz6' : w6.heap.size + 1 ≤ (w6.alloc (maO t3 vn vcn vo vco)).heap.size := by simp
  have hmin : t.minimal = true := by
    rw [t.minimal_iff, decide_eq_true_eq]
    refine ⟨t.err_of_ok OKT.out, ?_⟩
    rw [Mach.minOf_eq (t.err_of_ok OKT.out), HT.out, Mach.minF_minF OK.out]
  have HC := Lib.hid (minimal_is HMT.out hmin)
  clear hmin
  go_wp2_with fail
  refine (HC.out).mono ?_
  rintro e w7 ⟨rfl, hb7⟩
  have hB7 := hB6.trans (hb7.mono (by simp; omega))
  have h47 := h46.below hb7 (by simp; omega)
  have h4t7 := h4t6.below hb7 (by simp; omega)
  have h4u7 := h4u6.below hb7 (by simp; omega)
  have h4v7 := h4v.below hb7 (by simp)
  have hz7 : w6.heap.size + 1 ≤ w7.heap.size := by have := hb7.size; simpa using this
  have HMT := Lib.hid (HMT.out.below hb7)
  have HMU := Lib.hid (HMU.out.below hb7)
  have HMV := Lib.hid (HMV.out.below hb7)
  clear hb7 HC hB6 h46 h4t6 h4u6 h4v hz6'
  have HC := Lib.hid (same_is HMT.out HMU.out HT2.out)
  go_wp2_with fail
  refine (HC.out).mono ?_
  rintro e w8 ⟨rfl, hb8⟩
  have hB8 := hB7.trans (hb8.mono (by omega))
  have h48 := h47.below hb8 (by omega)
  have h4t8 := h4t7.below hb8 (by omega)
  have h4v8 := h4v7.below hb8 (by omega)
  have hz8 : w6.heap.size + 1 ≤ w8.heap.size := by have := hb8.size; omega
  have HMT := Lib.hid (HMT.out.below hb8)
  have HMV := Lib.hid (HMV.out.below hb8)
  clear hb8 HC hB7 h47 h4t7 h4u7 h4v7 HMU
  have HC := Lib.hid (same_is HMT.out HMV.out HT3.out)
  go_wp2_with fail
  refine (HC.out).mono ?_
  rintro e w9 ⟨rfl, hb9⟩
  have hB9 := hB8.trans (hb9.mono (by omega))
  have h49 := h48.below hb9 (by omega)
  have h4t9 := h4t8.below hb9 (by omega)
  have hz9 : w6.heap.size + 1 ≤ w9.heap.size := by have := hb9.size; omega
  have HMT := Lib.hid (HMT.out.below hb9)
  clear hb9 HC hB8 h48 h4t8 h4v8 HMV
  have HC := Lib.hid (mrun_any (HM.out.below (hB9.mono (by omega))) (HS.out.below (hB9.mono (by omega))))
  go_wp2_with fail
  refine (HC.out).mono ?_
  rintro e wa ⟨aa, ca, la, rfl, hla, hsa, hba⟩
  have hBa := hB9.trans (hba.mono (by omega))
  have h4a := h49.below hba (by omega)
  have h4ta := h4t9.below hba (by omega)
  have hza : w6.heap.size + 1 ≤ wa.heap.size := by have := hba.size; omega
  have HMT := Lib.hid (HMT.out.below hba)
  have HSA := Lib.hid hsa.off
  clear hba HC hB9 h49 h4t9 hsa
  have HC := Lib.hid (mrun_any HMT.out (HS.out.below (hBa.mono (by omega))))
  go_wp2_with fail
  refine (HC.out).mono ?_
  rintro e wb ⟨ab, cb, lb, rfl, hlb, hsb, hbb⟩
  have hBb := hBa.trans (hbb.mono (by omega))
  have h4b := h4a.below hbb (by omega)
  have h4tb := h4ta.below hbb (by omega)
  have hzb : w6.heap.size + 1 ≤ wb.heap.size := by have := hbb.size; omega
  have HSA := Lib.hid (HSA.out.below hbb)
  have HSB := Lib.hid hsb.off
  clear hbb HC hBa h4a h4ta hsb HMT
  have hrun := Mach.run_min OK.out l
  have tr : (m.frErr m.start l == t.frErr t.start l) = true := by rw [HT.out, hrun.1]; simp
  have hoo : decide (la = lb) = true := by rw [hla.out, hlb.out, HT.out, hrun.2]; simp
  have tb : (decide (t.next.length = m.next.length) == (((m.next.length : Nat) : Int) == ((t.next.length : Nat) : Int))) = true := by
    by_cases e : t.next.length = m.next.length
    · simp [e]
    · have e2 : ¬ ((m.next.length : Nat) : Int) = ((t.next.length : Nat) : Int) := by omega
      simp [e, e2]
  have hmm : m.minimal = decide (t.next.length = m.next.length) := by
    rw [m.minimal_iff, Mach.minOf_eq (m.err_of_ok OK.out), ← HT.out]
    simp [m.err_of_ok OK.out]
  obtain ⟨vb, hvb⟩ : ∃ vb : Bool, vb = decide (t.next.length = m.next.length) := ⟨_, rfl⟩
  rw [← hvb] at tb hmm
  have HQ := Lib.hid (equal_is HSA.out.drew HSB.out.drew hoo)
  have hSS : C4 wb.drew w.heap.size (some ⟨bn, on, none⟩) cn (some ⟨bo, oo, none⟩) co m ∧ C4 wb.drew w3.heap.size tn tcn tz tco t := ⟨h4b.drew, h4tb.drew⟩
  have hBd := hBb.drew
  have hzd : w6.heap.size + 1 ≤ wb.drew.heap.size := hzb
  have HMM := Lib.hid hmm
  clear hrun hla hlb hoo hBb h4b h4tb HSA HSB hzb hvb hmm
  go_wp2
  refine wp_region_L (fun w' => C4 w' w.heap.size (some ⟨bn, on, none⟩) cn (some ⟨bo, oo, none⟩) co m ∧ C4 w' w3.heap.size tn tcn tz tco t) [0, 1, 3, 4, 5, 6, 7, 8, 9, 11, 12, 13, 14, 15, 16, 17, 18, 19, 20] (by kernel_rfl) ?_
  generalize wb.drew = wc at *
  refine wpAnyL_take (i := 0) (v := ?v48) rfl (by kernel_rfl) (by kernel_rfl) (by kernel_rfl) (by kernel_rfl) (fun _ _ _ h => h) (Or.inl ⟨by rfl, ?y48⟩) (by assumption) ?r48
  case y48 => (intro w' hSw; (try dsimp only at hSw); go_simp; try with_reducible rfl)
  try simp only [Act.put, List.setIfInBounds_toArray, List.set_cons_zero, List.set_cons_succ]
  refine wpAnyL_take (i := 1) (v := ?v49) rfl (by kernel_rfl) (by kernel_rfl) (by kernel_rfl) (by kernel_rfl) (fun _ _ _ h => h) (Or.inl ⟨by rfl, ?y49⟩) (by assumption) ?r49
  case y49 => (intro w' hSw; (try dsimp only at hSw); go_simp; try with_reducible rfl)
  try simp only [Act.put, List.setIfInBounds_toArray, List.set_cons_zero, List.set_cons_succ]
  refine wpAnyL_one (i := 2) (by kernel_rfl) rfl rfl (fun K hK => ?_)
  go_simp
  refine (HQ.out).mono ?_
  rintro e wd ⟨rfl, nd, rfl⟩
  have hbd := below_drewN wc.heap.size wc nd
  have hBd2 := bl_drewN hBd nd
  have hzd2 : w6.heap.size + 1 ≤ (wc.drewN nd).heap.size := hzd
  have hSd : C4 (wc.drewN nd) w.heap.size (some ⟨bn, on, none⟩) cn (some ⟨bo, oo, none⟩) co m ∧ C4 (wc.drewN nd) w3.heap.size tn tcn tz tco t := ⟨hSS.1.below hbd (by omega), hSS.2.below hbd (by omega)⟩
  refine hK _ _ (fun _ => hSd) ?_
  clear hK K hSS hbd hBd hzd HQ
  generalize wc.drewN nd = we at *
  refine wpAnyL_take (i := 3) (v := ?v50) rfl (by kernel_rfl) (by kernel_rfl) (by kernel_rfl) (by kernel_rfl) (fun _ _ _ h => h) (Or.inl ⟨by rfl, ?y50⟩) (by assumption) ?r50
  case y50 => (intro w' hSw; (try dsimp only at hSw); go_simp; try with_reducible rfl)
  try simp only [Act.put, List.setIfInBounds_toArray, List.set_cons_zero, List.set_cons_succ]
  refine wpAnyL_take (i := 4) (v := ?v51) rfl (by kernel_rfl) (by kernel_rfl) (by kernel_rfl) (by kernel_rfl) (fun _ _ _ h => h) (Or.inl ⟨by rfl, ?y51⟩) (by assumption) ?r51
  case y51 => (intro w' hSw; (try dsimp only at hSw); go_simp; try with_reducible rfl)
  try simp only [Act.put, List.setIfInBounds_toArray, List.set_cons_zero, List.set_cons_succ]
  refine wpAnyL_take (i := 5) (v := ?v52) rfl (by kernel_rfl) (by kernel_rfl) (by kernel_rfl) (by kernel_rfl) (fun _ _ _ h => h) (Or.inl ⟨by rfl, ?y52⟩) (by assumption) ?r52
  case y52 => (intro w' hSw; (try dsimp only at hSw); go_simp; try with_reducible rfl)
  try simp only [Act.put, List.setIfInBounds_toArray, List.set_cons_zero, List.set_cons_succ]
  refine wpAnyL_take (i := 6) (v := ?v53) rfl (by kernel_rfl) (by kernel_rfl) (by kernel_rfl) (by kernel_rfl) (fun _ _ _ h => h) (Or.inl ⟨by rfl, ?y53⟩) (by assumption) ?r53
  case y53 => (intro w' hSw; (try dsimp only at hSw); go_simp; try with_reducible rfl)
  try simp only [Act.put, List.setIfInBounds_toArray, List.set_cons_zero, List.set_cons_succ]
  refine wpAnyL_take (i := 7) (v := ?v54) rfl (by kernel_rfl) (by kernel_rfl) (by kernel_rfl) (by kernel_rfl) (fun _ _ _ h => h) (Or.inl ⟨by rfl, ?y54⟩) (by assumption) ?r54
  case y54 => (intro w' hSw; (try dsimp only at hSw); go_simp; try with_reducible rfl)
  try simp only [Act.put, List.setIfInBounds_toArray, List.set_cons_zero, List.set_cons_succ]
  refine wpAnyL_take (i := 8) (v := ?v55) rfl (by kernel_rfl) (by kernel_rfl) (by kernel_rfl) (by kernel_rfl) (fun _ _ _ h => h) (Or.inl ⟨by rfl, ?y55⟩) (by assumption) ?r55
  case y55 => (intro w' hSw; (try dsimp only at hSw); go_simp; try with_reducible rfl)
  try simp only [Act.put, List.setIfInBounds_toArray, List.set_cons_zero, List.set_cons_succ]
  refine wpAnyL_take (i := 9) (v := ?v56) rfl (by kernel_rfl) (by kernel_rfl) (by kernel_rfl) (by kernel_rfl) (fun _ _ _ h => h) (Or.inl ⟨by rfl, ?y56⟩) (by assumption) ?r56
  case y56 => (intro w' hSw; (try dsimp only at hSw); go_simp; try with_reducible rfl)
  try simp only [Act.put, List.setIfInBounds_toArray, List.set_cons_zero, List.set_cons_succ]
  refine wpAnyL_take (i := 11) (v := ?v57) rfl (by kernel_rfl) (by kernel_rfl) (by kernel_rfl) (by kernel_rfl) (fun _ _ _ h => h) (Or.inl ⟨by rfl, ?y57⟩) (by assumption) ?r57
  case y57 => (intro w' hSw; (try dsimp only at hSw); go_simp; try with_reducible rfl)
  try simp only [Act.put, List.setIfInBounds_toArray, List.set_cons_zero, List.set_cons_succ]
  refine wpAnyL_take (i := 12) (v := ?v58) rfl (by kernel_rfl) (by kernel_rfl) (by kernel_rfl) (by kernel_rfl) (fun _ _ _ h => h) (Or.inl ⟨by rfl, ?y58⟩) (by assumption) ?r58
  case y58 => (intro w' hSw; (try dsimp only at hSw); go_simp; try with_reducible rfl)
  try simp only [Act.put, List.setIfInBounds_toArray, List.set_cons_zero, List.set_cons_succ]
  refine wpAnyL_take (i := 13) (v := ?v59) rfl (by kernel_rfl) (by kernel_rfl) (by kernel_rfl) (by kernel_rfl) (fun _ _ _ h => h) (Or.inl ⟨by rfl, ?y59⟩) (by assumption) ?r59
  case y59 => (intro w' hSw; (try dsimp only at hSw); go_simp; try with_reducible rfl)
  try simp only [Act.put, List.setIfInBounds_toArray, List.set_cons_zero, List.set_cons_succ]
  refine wpAnyL_take (i := 14) (v := ?v60) rfl (by kernel_rfl) (by kernel_rfl) (by kernel_rfl) (by kernel_rfl) (fun _ _ _ h => h) (Or.inl ⟨by rfl, ?y60⟩) (by assumption) ?r60
  case y60 => (intro w' hSw; (try dsimp only at hSw); go_simp; try with_reducible rfl)
  try simp only [Act.put, List.setIfInBounds_toArray, List.set_cons_zero, List.set_cons_succ]
  refine wpAnyL_take (i := 15) (v := ?v61) rfl (by kernel_rfl) (by kernel_rfl) (by kernel_rfl) (by kernel_rfl) (fun _ _ _ h => h) (Or.inl ⟨by rfl, ?y61⟩) (by assumption) ?r61
  case y61 => (intro w' hSw; (try dsimp only at hSw); go_simp; try with_reducible rfl)
  try simp only [Act.put, List.setIfInBounds_toArray, List.set_cons_zero, List.set_cons_succ]
  refine wpAnyL_take (i := 16) (v := ?v62) rfl (by kernel_rfl) (by kernel_rfl) (by kernel_rfl) (by kernel_rfl) (fun _ _ _ h => h) (Or.inl ⟨by rfl, ?y62⟩) (by assumption) ?r62
  case y62 => (intro w' hSw; (try dsimp only at hSw); go_simp; try with_reducible rfl)
  try simp only [Act.put, List.setIfInBounds_toArray, List.set_cons_zero, List.set_cons_succ]
  refine wpAnyL_take (i := 17) (v := ?v63) rfl (by kernel_rfl) (by kernel_rfl) (by kernel_rfl) (by kernel_rfl) (fun _ _ _ h => h) (Or.inl ⟨by rfl, ?y63⟩) (by assumption) ?r63
  case y63 => (intro w' hSw; (try dsimp only at hSw); go_simp; try with_reducible rfl)
  try simp only [Act.put, List.setIfInBounds_toArray, List.set_cons_zero, List.set_cons_succ]
  have HC := Lib.hid (minimal_is (HM.out.below (hBd2.mono (by omega))) HMM.out)
  refine wpAnyL_one (i := 10) (by kernel_rfl) rfl rfl (fun K hK => ?_)
  go_simp
  refine (HC.out).mono ?_
  rintro e wf ⟨rfl, hbf⟩
  have hBf := hBd2.trans (hbf.mono (by omega))
  have hSf : C4 wf w.heap.size (some ⟨bn, on, none⟩) cn (some ⟨bo, oo, none⟩) co m ∧ C4 wf w3.heap.size tn tcn tz tco t := ⟨hSd.1.below hbf (by omega), hSd.2.below hbf (by omega)⟩
  have hzf : w6.heap.size + 1 ≤ wf.heap.size := by have := hbf.size; omega
  refine hK _ _ (fun _ => hSf) ?_
  clear hK K hSd hbf hBd2 hzd2 HC
  refine wpAnyL_take (i := 18) (v := ?v64) rfl (by kernel_rfl) (by kernel_rfl) (by kernel_rfl) (by kernel_rfl) (fun _ _ _ h => h) (Or.inl ⟨by rfl, ?y64⟩) (by assumption) ?r64
  case y64 => (intro w' hSw; (try dsimp only at hSw); go_simp; try with_reducible rfl)
  try simp only [Act.put, List.setIfInBounds_toArray, List.set_cons_zero, List.set_cons_succ]
  refine wpAnyL_take (i := 19) (v := ?v65) rfl (by kernel_rfl) (by kernel_rfl) (by kernel_rfl) (by kernel_rfl) (fun _ _ _ h => h) (Or.inl ⟨by rfl, ?y65⟩) (by assumption) ?r65
  case y65 => (intro w' hSw; (try dsimp only at hSw); go_simp; try with_reducible rfl)
  try simp only [Act.put, List.setIfInBounds_toArray, List.set_cons_zero, List.set_cons_succ]
  refine wpAnyL_take (i := 20) (v := ?v66) rfl (by kernel_rfl) (by kernel_rfl) (by kernel_rfl) (by kernel_rfl) (fun _ _ _ h => h) (Or.inl ⟨by rfl, ?y66⟩) (by assumption) ?r66
  case y66 => (intro w' hSw; (try dsimp only at hSw); go_simp; try with_reducible rfl)
  try simp only [Act.put, List.setIfInBounds_toArray, List.set_cons_zero, List.set_cons_succ]
  refine wpAnyL_one (i := 21) (by kernel_rfl) rfl rfl (fun K hK => ?_)
  go_simp
  refine (ex8_any).mono ?_
  rintro e wz ⟨rfl, hbz⟩
  have hBz := hBf.trans (hbz.mono (by omega))
  have hSz : C4 wz w.heap.size (some ⟨bn, on, none⟩) cn (some ⟨bo, oo, none⟩) co m ∧ C4 wz w3.heap.size tn tcn tz tco t := ⟨hSf.1.below hbz (by omega), hSf.2.below hbz (by omega)⟩
  refine hK _ _ (fun _ => hSz) ?_
  clear hK K hSf hbz hBf
  refine wpAnyL_one (i := 22) (by kernel_rfl) rfl rfl (fun K hK => ?_)
  go_simp
  refine hK _ _ (fun _ => hSz) ?_
  clear hK K
  refine wpAnyL_one (i := 23) (by kernel_rfl) rfl rfl (fun K hK => ?_)
  go_simp
  refine hK _ _ (fun _ => hSz) ?_
  clear hK K
  refine wpAnyL_done (by kernel_rfl) ?_ _
  go_wp2
  go_ret
  exact ⟨rfl, hBz.mono (by omega)⟩

set_option maxRecDepth 100000 in
set_option maxHeartbeats 4000000 in
theorem lsame_any {an ao : Option Addr} (hm : Ma M w an cn ao co m) (hs : Sl M' w a c l) (z : Int) (hz : 0 ≤ z ∧ z < 256) :
    Calls Try.prog 13 #[maV m an cn ao co, .slice a l.length c, .int .u8 z] w fun e w' => e = .returned (.bool true) ∧ Below w.heap.size w w' := by
  obtain ⟨d, rfl⟩ := Int.eq_ofNat_of_zero_le hz.1
  have hd : d < 256 := by omega
  clear hz
  by_cases hall : m.great = false ∧ m.err = 0
  · obtain ⟨h1, h5⟩ := hall
    have ok := m.ok_of_err h5
    obtain ⟨bn, on, bo, oo, rfl, rfl⟩ := hm.addr ok
    exact same_main hm ok d hd hs h1
  have hle := hm.next.le
  have hll := hs.le
  have HM := Lib.hid hm
  have HG := Lib.hid (great_any (hm.ext (Ext.alloc M w (maO m an cn ao co))))
  have hB0 := (Below.refl w.heap.size w).alloc (Nat.le_refl _) (maO m an cn ao co)
  have h40 := c4_new (m := m) (an := an) (cn := cn) (ao := ao) (co := co) w
  clear hm hs
  have hcase : (m.great = true) ∨ (m.great = false ∧ ¬ m.err = 0) := by
    cases hg : m.great with
    | true => exact .inl rfl
    | false => exact .inr ⟨rfl, fun h => hall ⟨hg, h⟩⟩
  clear hall
  go_enter Try.func13, Try.ntmps13
  go_wp2_with fail
  refine (HG.out).mono ?_
  rintro e w1 ⟨rfl, hb1⟩
  have hB1 := hB0.trans (hb1.mono (by simp))
  have h41 := h40.below hb1 (by simp)
  have hz1 : w.heap.size + 1 ≤ w1.heap.size := by have := hb1.size; simpa using this
  clear hb1 HG hB0 h40
  rcases hcase with hg | ⟨hg, he⟩
  · rw [hg]
    go_wp2_with fail
    refine (ex8_any).mono ?_
    rintro e w5 ⟨rfl, hb5⟩
    have hBf := hB1.trans (hb5.mono (by omega))
    go_wp2
    go_ret
    exact ⟨rfl, hBf⟩
  · rw [hg]
    have he' : (m.err != 0) = true := by simp [he]
    clear he
    have HV := Lib.hid (valid6_any (HM.out.below hB1))
    go_wp2_with fail
    refine (HV.out).mono ?_
    rintro e w2 ⟨rfl, hb2⟩
    have hB2 := hB1.trans (hb2.mono (by omega))
    have hz2 : w.heap.size + 1 ≤ w2.heap.size := by have := hb2.size; omega
    clear hb2 HV hB1 h41
    go_wp2_with fail
    refine (ex8_any).mono ?_
    rintro e w5 ⟨rfl, hb5⟩
    have hBf := hB2.trans (hb5.mono (by omega))
    go_wp2
    go_ret
    exact ⟨rfl, hBf⟩
end
end Go.Proofs.Ytdnmgiabgpilkaa
