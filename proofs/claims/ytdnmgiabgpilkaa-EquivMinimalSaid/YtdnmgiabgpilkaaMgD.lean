/- Several texts, one behind the other. Conditions: as each of them says. -/
import Derived.Test.YtdnmgiabgpilkaaBase
import Derived.Test.YtdnmgiabgpilkaaValid
import Derived.Test.YtdnmgiabgpilkaaOps
import Derived.Test.YtdnmgiabgpilkaaCanon
import Derived.Test.YtdnmgiabgpilkaaValid6
import Derived.Test.YtdnmgiabgpilkaaRefine
import Derived.Test.YtdnmgiabgpilkaaTrim
import Derived.Test.YtdnmgiabgpilkaaMinP
import Derived.Test.YtdnmgiabgpilkaaLit
/- Comparisons of lists of numbers: three copies of one loop. No condition beyond that the slices read as lists. -/
namespace Go.Proofs.Ytdnmgiabgpilkaa
open Go.RowKit

theorem take_eq_succ {xs ys : List Int} {k : Nat} {x y : Int} (hx : xs[k]? = some x) (hy : ys[k]? = some y) (h : xs.take k = ys.take k) (e : x = y) : xs.take (k + 1) = ys.take (k + 1) := by
  rw [List.take_add_one, List.take_add_one, hx, hy, h, e]
theorem ne_of_at {xs ys : List Int} {k : Nat} {x y : Int} (hx : xs[k]? = some x) (hy : ys[k]? = some y) (e : x ≠ y) : ¬ xs = ys := by
  intro h; rw [h, hy] at hx; simp at hx; exact e hx.symm
theorem eq_of_takes {xs ys : List Int} {k : Nat} (hl : xs.length = ys.length) (hk : k ≤ xs.length) (hk' : ¬ k < xs.length) (h : xs.take k = ys.take k) : xs = ys := by
  rwa [List.take_of_length_le (by omega), List.take_of_length_le (by omega)] at h
theorem ret_bool {a b : Bool} (h : a = b) : Ending.returned (.bool a) = .returned (.bool b) := by rw [h]

section
variable {M : Nat → Prop} {w : World} {a1 a2 : Option Addr} {c1 c2 : Nat} {xs ys : List Int}

set_option maxHeartbeats 400000 in
theorem equal_any (h1 : Sl M w a1 c1 xs) (h2 : Sl M w a2 c2 ys) :
    Calls Try.prog 20 #[.slice a1 xs.length c1, .slice a2 ys.length c2] w fun e w' => e = .returned (.bool (decide (xs = ys))) ∧ ∃ n, w' = w.drewN n := by
  have hx := h1.le
  have hy := h2.le
  by_cases hl : xs.length = ys.length
  · have hl' : ((xs.length : Int) != (ys.length : Int)) = false := by simp [hl]
    have HL := Lib.hid hl
    clear hl
    go_enter Try.func20, Try.ntmps20
    go_wp2
    go_loopw [5] (fun i wr => ∃ k n : Nat, k ≤ xs.length ∧ i = .int .i64 k ∧ wr = w.drewN n ∧ Hid (xs.take k = ys.take k)) (fun i _ => xs.length - (intOf i).toNat)
    case atStart => exact ⟨0, 0, Nat.zero_le _, rfl, rfl, rfl⟩
    case round =>
      obtain ⟨k, n, hk, rfl, rfl, hE⟩ := hrel
      by_cases hlt : k < xs.length
      · have hlt2 : k < ys.length := HL.out ▸ hlt
        obtain ⟨b, off, x, rfl, hc, hx1, -⟩ := h1.at_int hlt
        obtain ⟨b2, off2, y, rfl, hc2, hx2, -⟩ := h2.at_int hlt2
        by_cases hxy : x = y
        · have hxy' : (x != y) = false := by simp [hxy]
          have HXY := Lib.hid hxy; clear hxy
          go_wp2
          go_quiet (fail)
          go_wp2
          go_roundw
          case rel => exact ⟨k + 1, _, by omega, by go_num, rfl, take_eq_succ hx1.out hx2.out hE.out HXY.out⟩
          case measure => simp [intOf]; omega
        · have hxy' : (x != y) = true := by simp [hxy]
          have HXY := Lib.hid hxy; clear hxy
          go_wp2
          go_quiet (fail)
          go_wp2
          go_ret
          exact ⟨ret_bool (by simpa using ne_of_at hx1.out hx2.out HXY.out), _, World.drewN_drewN _ _ _⟩
      · go_wp2
        go_ret
        exact ⟨ret_bool (by simpa using eq_of_takes HL.out hk hlt hE.out), _, rfl⟩
  · have hl' : ((xs.length : Int) != (ys.length : Int)) = true := by simp; omega
    have HL := Lib.hid hl
    clear hl
    go_enter Try.func20, Try.ntmps20
    go_wp2
    go_ret
    exact ⟨ret_bool (by have := HL.out; simp; intro h; exact this (by rw [h])), 0, rfl⟩
set_option maxHeartbeats 400000 in
theorem ints_any (h1 : Sl M w a1 c1 xs) (h2 : Sl M w a2 c2 ys) :
    Calls Try.prog 70 #[.slice a1 xs.length c1, .slice a2 ys.length c2] w fun e w' => e = .returned (.bool (decide (xs = ys))) ∧ ∃ n, w' = w.drewN n := by
  have hx := h1.le
  have hy := h2.le
  by_cases hl : xs.length = ys.length
  · have hl' : ((xs.length : Int) != (ys.length : Int)) = false := by simp [hl]
    have HL := Lib.hid hl
    clear hl
    go_enter Try.func70, Try.ntmps70
    go_wp2
    go_loopw [5] (fun i wr => ∃ k n : Nat, k ≤ xs.length ∧ i = .int .i64 k ∧ wr = w.drewN n ∧ Hid (xs.take k = ys.take k)) (fun i _ => xs.length - (intOf i).toNat)
    case atStart => exact ⟨0, 0, Nat.zero_le _, rfl, rfl, rfl⟩
    case round =>
      obtain ⟨k, n, hk, rfl, rfl, hE⟩ := hrel
      by_cases hlt : k < xs.length
      · have hlt2 : k < ys.length := HL.out ▸ hlt
        obtain ⟨b, off, x, rfl, hc, hx1, -⟩ := h1.at_int hlt
        obtain ⟨b2, off2, y, rfl, hc2, hx2, -⟩ := h2.at_int hlt2
        by_cases hxy : x = y
        · have hxy' : (x != y) = false := by simp [hxy]
          have HXY := Lib.hid hxy; clear hxy
          go_wp2
          go_quiet (fail)
          go_wp2
          go_roundw
          case rel => exact ⟨k + 1, _, by omega, by go_num, rfl, take_eq_succ hx1.out hx2.out hE.out HXY.out⟩
          case measure => simp [intOf]; omega
        · have hxy' : (x != y) = true := by simp [hxy]
          have HXY := Lib.hid hxy; clear hxy
          go_wp2
          go_quiet (fail)
          go_wp2
          go_ret
          exact ⟨ret_bool (by simpa using ne_of_at hx1.out hx2.out HXY.out), _, World.drewN_drewN _ _ _⟩
      · go_wp2
        go_ret
        exact ⟨ret_bool (by simpa using eq_of_takes HL.out hk hlt hE.out), _, rfl⟩
  · have hl' : ((xs.length : Int) != (ys.length : Int)) = true := by simp; omega
    have HL := Lib.hid hl
    clear hl
    go_enter Try.func70, Try.ntmps70
    go_wp2
    go_ret
    exact ⟨ret_bool (by have := HL.out; simp; intro h; exact this (by rw [h])), 0, rfl⟩
set_option maxHeartbeats 400000 in
theorem sequal_any (h1 : Sl M w a1 c1 xs) (h2 : Sl M w a2 c2 ys) :
    Calls Try.prog 79 #[.slice a1 xs.length c1, .slice a2 ys.length c2] w fun e w' => e = .returned (.bool (decide (xs = ys))) ∧ ∃ n, w' = w.drewN n := by
  have hx := h1.le
  have hy := h2.le
  by_cases hl : xs.length = ys.length
  · have hl' : ((xs.length : Int) != (ys.length : Int)) = false := by simp [hl]
    have HL := Lib.hid hl
    clear hl
    go_enter Try.func79, Try.ntmps79
    go_wp2
    go_loopw [13] (fun i wr => ∃ k n : Nat, k ≤ xs.length ∧ i = .int .i64 k ∧ wr = w.drewN n ∧ Hid (xs.take k = ys.take k)) (fun i _ => xs.length - (intOf i).toNat)
    case atStart => exact ⟨0, 0, Nat.zero_le _, rfl, rfl, rfl⟩
    case round =>
      obtain ⟨k, n, hk, rfl, rfl, hE⟩ := hrel
      by_cases hlt : k < xs.length
      · have hlt2 : k < ys.length := HL.out ▸ hlt
        obtain ⟨b, off, x, rfl, hc, hx1, -⟩ := h1.at_int hlt
        obtain ⟨b2, off2, y, rfl, hc2, hx2, -⟩ := h2.at_int hlt2
        by_cases hxy : x = y
        · have hxy' : (x != y) = false := by simp [hxy]
          have HXY := Lib.hid hxy; clear hxy
          go_wp2
          go_quiet (fail)
          go_wp2
          go_roundw
          case rel => exact ⟨k + 1, _, by omega, by go_num, rfl, take_eq_succ hx1.out hx2.out hE.out HXY.out⟩
          case measure => simp [intOf]; omega
        · have hxy' : (x != y) = true := by simp [hxy]
          have HXY := Lib.hid hxy; clear hxy
          go_wp2
          go_quiet (fail)
          go_wp2
          go_ret
          exact ⟨ret_bool (by simpa using ne_of_at hx1.out hx2.out HXY.out), _, World.drewN_drewN _ _ _⟩
      · go_wp2
        go_ret
        exact ⟨ret_bool (by simpa using eq_of_takes HL.out hk hlt hE.out), _, rfl⟩
  · have hl' : ((xs.length : Int) != (ys.length : Int)) = true := by simp; omega
    have HL := Lib.hid hl
    clear hl
    go_enter Try.func79, Try.ntmps79
    go_wp2
    go_ret
    exact ⟨ret_bool (by have := HL.out; simp; intro h; exact this (by rw [h])), 0, rfl⟩
end
end Go.Proofs.Ytdnmgiabgpilkaa
/- The statement's own test of a machine's size; lists of lists compared; machines compared. No condition beyond that the fields read as lists of lists. -/
namespace Go.Proofs.Ytdnmgiabgpilkaa
open Go.RowKit

def Mach.great (m : Mach) : Bool := decide (12 < m.next.length) || decide (12 < m.out.length) || decide (6 < m.inputs) || m.next.any (fun r => decide (12 < r.length)) || m.out.any (fun r => decide (12 < r.length))

theorem any_of_at {l : List (List Int)} {k : Nat} {r : List Int} (h : l[k]? = some r) (hr : 12 < r.length) : l.any (fun r => decide (12 < r.length)) = true :=
  List.any_eq_true.2 ⟨r, List.mem_of_getElem? h, by simpa using hr⟩
theorem any_take_succ {l : List (List Int)} {k : Nat} {r : List Int} (h : l[k]? = some r) (hr : ¬ 12 < r.length) (hk : (l.take k).any (fun r => decide (12 < r.length)) = false) : (l.take (k + 1)).any (fun r => decide (12 < r.length)) = false := by
  rw [List.take_add_one, h]
  simp only [List.any_append, hk, Bool.false_or]
  simpa using hr
theorem any_take_all {l : List (List Int)} {k : Nat} (hk : ¬ k < l.length) (h : (l.take k).any (fun r => decide (12 < r.length)) = false) : l.any (fun r => decide (12 < r.length)) = false := by
  rwa [List.take_of_length_le (by omega)] at h

section
variable {M : Nat → Prop} {w : World} {an ao : Option Addr} {cn co : Nat} {m : Mach}

set_option maxHeartbeats 1000000 in
theorem great_any (hm : Ma M w an cn ao co m) :
    Calls Try.prog 16 #[maV m an cn ao co] w fun e w' => e = .returned (.bool m.great) ∧ Below w.heap.size w w' := by
  have l1 := hm.next.le
  have l2 := hm.out.le
  have hc : (12 < m.next.length ∧ m.great = true) ∨ (¬ 12 < m.next.length ∧ 12 < m.out.length ∧ m.great = true) ∨ (¬ 12 < m.next.length ∧ ¬ 12 < m.out.length ∧ 6 < m.inputs ∧ m.great = true) ∨
      (¬ 12 < m.next.length ∧ ¬ 12 < m.out.length ∧ ¬ 6 < m.inputs ∧ m.great = (m.next.any (fun r => decide (12 < r.length)) || m.out.any (fun r => decide (12 < r.length)))) := by
    unfold Mach.great
    by_cases h1 : 12 < m.next.length
    · exact .inl ⟨h1, by simp [h1]⟩
    by_cases h2 : 12 < m.out.length
    · exact .inr (.inl ⟨h1, h2, by simp [h2]⟩)
    by_cases h3 : 6 < m.inputs
    · exact .inr (.inr (.inl ⟨h1, h2, h3, by simp [h3]⟩))
    exact .inr (.inr (.inr ⟨h1, h2, h3, by simp [h1, h2, h3]⟩))
  have hm2 : Ma M (w.alloc (.cells #[.int .i64 m.inputs, .int .i64 m.start, .slice an m.next.length cn, .slice ao m.out.length co] 24)) an cn ao co m := hm.ext (Ext.alloc _ _ _)
  rcases hc with ⟨h1, he⟩ | ⟨h1, h2, he⟩ | ⟨h1, h2, h3, he⟩ | ⟨h1, h2, h3, he⟩
  iterate 3
    · have K1 := Lib.hid he
      clear he
      go_enter Try.func16, Try.ntmps16
      go_wp2
      go_ret
      exact ⟨ret_bool K1.out.symm, by (repeat' (first | with_reducible exact Below.refl _ _ | with_reducible assumption | with_reducible refine bl_drewN ?_ _ | with_reducible refine Below.drew ?_ | with_reducible refine Below.alloc ?_ ?_ _ | with_reducible refine Below.setCell ?_ ?_ _ | omega | (simp; done) | (simp; omega)))⟩
  have K1 := Lib.hid he
  clear he
  go_enter Try.func16, Try.ntmps16
  go_wp2
  go_loop [23] (fun i => ∃ k : Nat, k ≤ m.next.length ∧ i = .int .i64 k ∧ Hid ((m.next.take k).any (fun r => decide (12 < r.length)) = false)) (fun i => m.next.length - (intOf i).toNat)
  case atStart => exact ⟨0, by omega, rfl, by unfold Hid; simp⟩
  case round =>
    obtain ⟨k, hk, rfl, hE⟩ := hrel
    by_cases hlt : k < m.next.length
    · obtain ⟨b1, o1, a1, r1, c1, rfl, hc1, hr1, hs1⟩ := hm2.next.at_row hlt
      have r1le := hs1.le
      by_cases hg : 12 < r1.length
      · go_wp2
        go_ret
        exact ⟨ret_bool (by rw [K1.out, any_of_at hr1.out hg]; rfl), by (repeat' (first | with_reducible exact Below.refl _ _ | with_reducible assumption | with_reducible refine bl_drewN ?_ _ | with_reducible refine Below.drew ?_ | with_reducible refine Below.alloc ?_ ?_ _ | with_reducible refine Below.setCell ?_ ?_ _ | omega | (simp; done) | (simp; omega)))⟩
      · go_wp2
        go_round
        case rel => exact ⟨k + 1, by omega, by go_num, any_take_succ hr1.out hg hE.out⟩
        case measure => simp [intOf]; omega
    · have hE2 := Lib.hid (any_take_all hlt hE.out)
      go_wp2
      go_loop [37] (fun i => ∃ k : Nat, k ≤ m.out.length ∧ i = .int .i64 k ∧ Hid ((m.out.take k).any (fun r => decide (12 < r.length)) = false)) (fun i => m.out.length - (intOf i).toNat)
      case atStart => exact ⟨0, by omega, rfl, by unfold Hid; simp⟩
      case round =>
        obtain ⟨j, hj, rfl, hF⟩ := hrel
        by_cases hlt2 : j < m.out.length
        · obtain ⟨b1, o1, a1, r1, c1, rfl, hc1, hr1, hs1⟩ := hm2.out.at_row hlt2
          have r1le := hs1.le
          by_cases hg : 12 < r1.length
          · go_wp2
            go_ret
            exact ⟨ret_bool (by rw [K1.out, any_of_at hr1.out hg, Bool.or_true]), by (repeat' (first | with_reducible exact Below.refl _ _ | with_reducible assumption | with_reducible refine bl_drewN ?_ _ | with_reducible refine Below.drew ?_ | with_reducible refine Below.alloc ?_ ?_ _ | with_reducible refine Below.setCell ?_ ?_ _ | omega | (simp; done) | (simp; omega)))⟩
          · go_wp2
            go_round
            case rel => exact ⟨j + 1, by omega, by go_num, any_take_succ hr1.out hg hF.out⟩
            case measure => simp [intOf]; omega
        · go_wp2
          go_ret
          exact ⟨ret_bool (by rw [K1.out, hE2.out, any_take_all hlt2 hF.out]; rfl), by (repeat' (first | with_reducible exact Below.refl _ _ | with_reducible assumption | with_reducible refine bl_drewN ?_ _ | with_reducible refine Below.drew ?_ | with_reducible refine Below.alloc ?_ ?_ _ | with_reducible refine Below.setCell ?_ ?_ _ | omega | (simp; done) | (simp; omega)))⟩
end
end Go.Proofs.Ytdnmgiabgpilkaa
/- Lists of lists, and machines, compared. No condition beyond that the fields read as lists of lists. -/
namespace Go.Proofs.Ytdnmgiabgpilkaa
open Go.RowKit

theorem take_eq_succ' {α : Type} {xs ys : List α} {k : Nat} {x y : α} (hx : xs[k]? = some x) (hy : ys[k]? = some y) (h : xs.take k = ys.take k) (e : x = y) : xs.take (k + 1) = ys.take (k + 1) := by
  rw [List.take_add_one, List.take_add_one, hx, hy, h, e]
theorem ne_of_at' {α : Type} {xs ys : List α} {k : Nat} {x y : α} (hx : xs[k]? = some x) (hy : ys[k]? = some y) (e : x ≠ y) : ¬ xs = ys := by
  intro h; rw [h, hy] at hx; simp at hx; exact e hx.symm
theorem eq_of_takes' {α : Type} {xs ys : List α} {k : Nat} (hl : xs.length = ys.length) (hk' : ¬ k < xs.length) (h : xs.take k = ys.take k) : xs = ys := by
  rwa [List.take_of_length_le (by omega), List.take_of_length_le (by omega)] at h

theorem sl_dr {α : Type} [GR α] {M : Nat → Prop} {w wr : World} {a : Option Addr} {c : Nat} {l : List α} (h : Hid (∃ n, wr = w.drewN n)) (hs : Sl M w a c l) : Sl M wr a c l := by
  obtain ⟨n, rfl⟩ := h.out
  exact hs.drewN n
theorem dr_add {w wr : World} (h : Hid (∃ n, wr = w.drewN n)) (m : Nat) : ∃ n, wr.drewN m = w.drewN n := by
  obtain ⟨n, rfl⟩ := h.out
  exact ⟨_, World.drewN_drewN _ _ _⟩

section
variable {M : Nat → Prop} {w : World} {a1 a2 : Option Addr} {c1 c2 : Nat}

theorem ints_yes {xs ys : List Int} (h1 : Sl M w a1 c1 xs) (h2 : Sl M w a2 c2 ys) (h : xs = ys) :
    Calls Try.prog 70 #[.slice a1 xs.length c1, .slice a2 ys.length c2] w fun e w' => e = .returned (.bool true) ∧ ∃ n, w' = w.drewN n :=
  (ints_any h1 h2).mono fun e w' ⟨he, hw⟩ => ⟨by rw [he]; exact ret_bool (by simp [h]), hw⟩
theorem ints_no {xs ys : List Int} (h1 : Sl M w a1 c1 xs) (h2 : Sl M w a2 c2 ys) (h : xs ≠ ys) :
    Calls Try.prog 70 #[.slice a1 xs.length c1, .slice a2 ys.length c2] w fun e w' => e = .returned (.bool false) ∧ ∃ n, w' = w.drewN n :=
  (ints_any h1 h2).mono fun e w' ⟨he, hw⟩ => ⟨by rw [he]; exact ret_bool (by simp [h]), hw⟩

set_option maxHeartbeats 400000 in
theorem lists_any {xs ys : List (List Int)} (h1 : Sl M w a1 c1 xs) (h2 : Sl M w a2 c2 ys) :
    Calls Try.prog 54 #[.slice a1 xs.length c1, .slice a2 ys.length c2] w fun e w' => e = .returned (.bool (decide (xs = ys))) ∧ ∃ n, w' = w.drewN n := by
  have hx := h1.le
  have hy := h2.le
  by_cases hl : xs.length = ys.length
  · have hl' : ((xs.length : Int) != (ys.length : Int)) = false := by simp [hl]
    have HL := Lib.hid hl
    clear hl
    go_enter Try.func54, Try.ntmps54
    go_wp2
    go_loopw [5] (fun i wr => ∃ k : Nat, k ≤ xs.length ∧ i = .int .i64 k ∧ Hid (∃ n, wr = w.drewN n) ∧ Hid (xs.take k = ys.take k)) (fun i _ => xs.length - (intOf i).toNat)
    case atStart => exact ⟨0, Nat.zero_le _, rfl, ⟨0, rfl⟩, rfl⟩
    case round =>
      obtain ⟨k, hk, rfl, hW, hE⟩ := hrel
      have h1r := sl_dr hW h1
      have h2r := sl_dr hW h2
      by_cases hlt : k < xs.length
      · have hlt2 : k < ys.length := HL.out ▸ hlt
        obtain ⟨b, off, a3, x, c3, rfl, hc, hx1, hs1⟩ := h1r.at_row hlt
        obtain ⟨b2, off2, a4, y, c4, rfl, hc2, hx2, hs2⟩ := h2r.at_row hlt2
        by_cases hxy : x = y
        · have HXY := Lib.hid hxy; clear hxy
          go_wp2
          refine wp_quiet_fast (by kernel_rfl) (by kernel_rfl) ?_
          repeat (first | go_big_quiet_step ((go_at_call 70; exact Calls.quiet_of (ints_yes (hs1.drewN _) (hs2.drewN _) HXY.out))) | quiet_step ((go_at_call 70; exact Calls.quiet_of (ints_yes (hs1.drewN _) (hs2.drewN _) HXY.out))))
          refine wpQuiet_nil ?_
          intro _ hw'
          obtain ⟨nq, hw''⟩ := hw'
          subst hw''
          go_wp2
          go_roundw
          case rel => exact ⟨k + 1, by omega, by go_num, dr_add hW _, take_eq_succ' hx1.out hx2.out hE.out HXY.out⟩
          case measure => simp [intOf]; omega
        · have HXY := Lib.hid hxy; clear hxy
          go_wp2
          refine wp_quiet_fast (by kernel_rfl) (by kernel_rfl) ?_
          repeat (first | go_big_quiet_step ((go_at_call 70; exact Calls.quiet_of (ints_no (hs1.drewN _) (hs2.drewN _) HXY.out))) | quiet_step ((go_at_call 70; exact Calls.quiet_of (ints_no (hs1.drewN _) (hs2.drewN _) HXY.out))))
          refine wpQuiet_nil ?_
          intro _ hw'
          obtain ⟨nq, hw''⟩ := hw'
          subst hw''
          go_wp2
          go_ret
          exact ⟨ret_bool (by simpa using ne_of_at' hx1.out hx2.out HXY.out), dr_add hW _⟩
      · go_wp2
        go_ret
        exact ⟨ret_bool (by simpa using eq_of_takes' HL.out hlt hE.out), hW.out⟩
  · have hl' : ((xs.length : Int) != (ys.length : Int)) = true := by simp; omega
    have HL := Lib.hid hl
    clear hl
    go_enter Try.func54, Try.ntmps54
    go_wp2
    go_ret
    exact ⟨ret_bool (by have := HL.out; simp; intro h; exact this (by rw [h])), 0, rfl⟩

theorem rows1_any {xs ys : List Int} (h1 : Sl M w a1 c1 xs) (h2 : Sl M w a2 c2 ys) :
    Calls Try.prog 78 #[.slice a1 xs.length c1, .slice a2 ys.length c2] w fun e w' => e = .returned (.bool (decide (xs = ys))) ∧ ∃ n, w' = w.drewN n := by
  go_enter Try.func78, Try.ntmps78
  go_wp2_with (go_at_call 79; refine (sequal_any h1 h2).mono ?_; rintro e w' ⟨rfl, n, rfl⟩)
  go_ret
  exact ⟨rfl, n, rfl⟩

set_option maxHeartbeats 400000 in
theorem eqfunc_any {xs ys : List (List Int)} (h1 : Sl M w a1 c1 xs) (h2 : Sl M w a2 c2 ys) :
    Calls Try.prog 77 #[.slice a1 xs.length c1, .slice a2 ys.length c2, .func (.func 78) #[] #[]] w fun e w' => e = .returned (.bool (decide (xs = ys))) ∧ ∃ n, w' = w.drewN n := by
  have hx := h1.le
  have hy := h2.le
  by_cases hl : xs.length = ys.length
  · have hl' : ((xs.length : Int) != (ys.length : Int)) = false := by simp [hl]
    have HL := Lib.hid hl
    clear hl
    go_enter Try.func77, Try.ntmps77
    go_wp2
    go_loopw [17] (fun i wr => ∃ k : Nat, k ≤ xs.length ∧ i = .int .i64 k ∧ Hid (∃ n, wr = w.drewN n) ∧ Hid (xs.take k = ys.take k)) (fun i _ => xs.length - (intOf i).toNat)
    case atStart => exact ⟨0, Nat.zero_le _, rfl, ⟨0, rfl⟩, rfl⟩
    case round =>
      obtain ⟨k, hk, rfl, hW, hE⟩ := hrel
      have h1r := sl_dr hW h1
      have h2r := sl_dr hW h2
      by_cases hlt : k < xs.length
      · have hlt2 : k < ys.length := HL.out ▸ hlt
        obtain ⟨b, off, a3, x, c3, rfl, hc, hx1, hs1⟩ := h1r.at_row hlt
        obtain ⟨b2, off2, a4, y, c4, rfl, hc2, hx2, hs2⟩ := h2r.at_row hlt2
        by_cases hxy : x = y
        · have hd : decide (x = y) = true := by simp [hxy]
          have hr := rows1_any hs1 hs2
          rw [hd] at hr
          have HR := Lib.hid hr
          have HXY := Lib.hid hxy; clear hxy hd hr
          go_wp2_with (go_at_call 78; refine (HR.out).mono ?_; rintro e w' ⟨rfl, n', rfl⟩)
          go_roundw
          case rel => exact ⟨k + 1, by omega, by go_num, dr_add hW _, take_eq_succ' hx1.out hx2.out hE.out HXY.out⟩
          case measure => simp [intOf]; omega
        · have hd : decide (x = y) = false := by simp [hxy]
          have hr := rows1_any hs1 hs2
          rw [hd] at hr
          have HR := Lib.hid hr
          have HXY := Lib.hid hxy; clear hxy hd hr
          go_wp2_with (go_at_call 78; refine (HR.out).mono ?_; rintro e w' ⟨rfl, n', rfl⟩)
          go_ret
          exact ⟨ret_bool (by simpa using ne_of_at' hx1.out hx2.out HXY.out), dr_add hW _⟩
      · go_wp2
        go_ret
        exact ⟨ret_bool (by simpa using eq_of_takes' HL.out hlt hE.out), hW.out⟩
  · have hl' : ((xs.length : Int) != (ys.length : Int)) = true := by simp; omega
    have HL := Lib.hid hl
    clear hl
    go_enter Try.func77, Try.ntmps77
    go_wp2
    go_ret
    exact ⟨ret_bool (by have := HL.out; simp; intro h; exact this (by rw [h])), 0, rfl⟩

theorem rows_any {xs ys : List (List Int)} (h1 : Sl M w a1 c1 xs) (h2 : Sl M w a2 c2 ys) :
    Calls Try.prog 64 #[.slice a1 xs.length c1, .slice a2 ys.length c2] w fun e w' => e = .returned (.bool (decide (xs = ys))) ∧ ∃ n, w' = w.drewN n := by
  have hmf : ∀ (fn : Fn) (first cap : Array Value) (w : World), (Instr.makeFunc fn first cap).run Try.prog w = .ok (.func fn first cap) w := fun _ _ _ _ => rfl
  go_enter Try.func64, Try.ntmps64
  go_wp2_with (go_at_call 77; refine (eqfunc_any h1 h2).mono ?_; rintro e w' ⟨rfl, n, rfl⟩)
  go_ret
  exact ⟨rfl, n, rfl⟩

end

section
variable {M : Nat → Prop} {w : World} {an ao : Option Addr} {cn co : Nat} {m : Mach} {an' ao' : Option Addr} {cn' co' : Nat} {m' : Mach}
theorem Mach.eq_iff (m m' : Mach) : m = m' ↔ m.inputs = m'.inputs ∧ m.start = m'.start ∧ m.next = m'.next ∧ m.out = m'.out := by
  cases m; cases m'; simp

set_option maxHeartbeats 400000 in
theorem same6_any (hm : Ma M w an cn ao co m) (hm' : Ma M w an' cn' ao' co' m') :
    Calls Try.prog 27 #[maV m an cn ao co, maV m' an' cn' ao' co'] w fun e w' => e = .returned (.bool (decide (m = m'))) ∧ Below w.heap.size w w' := by
  have e0 := hm.ext ((Ext.alloc M w (.cells #[.int .i64 m.inputs, .int .i64 m.start, .slice an m.next.length cn, .slice ao m.out.length co] 24)).trans (Ext.alloc M _ (.cells #[.int .i64 m'.inputs, .int .i64 m'.start, .slice an' m'.next.length cn', .slice ao' m'.out.length co'] 24)))
  have e0' := hm'.ext ((Ext.alloc M w (.cells #[.int .i64 m.inputs, .int .i64 m.start, .slice an m.next.length cn, .slice ao m.out.length co] 24)).trans (Ext.alloc M _ (.cells #[.int .i64 m'.inputs, .int .i64 m'.start, .slice an' m'.next.length cn', .slice ao' m'.out.length co'] 24)))
  by_cases h1 : m.inputs = m'.inputs
  · have h1' : (m.inputs == m'.inputs) = true := by simp [h1]
    have H1 := Lib.hid h1
    clear h1
    by_cases h2 : m.start = m'.start
    · have h2' : (m.start == m'.start) = true := by simp [h2]
      have H2 := Lib.hid h2
      clear h2
      by_cases h3 : m.next = m'.next
      · have hd : decide (m.next = m'.next) = true := by simp [h3]
        have hr := lists_any e0.next e0'.next
        rw [hd] at hr
        have HR := Lib.hid hr
        have H3 := Lib.hid h3
        clear h3 hd hr
        go_enter Try.func27, Try.ntmps27
        go_wp2_with fail
        refine (HR.out).mono ?_
        rintro e w' ⟨rfl, n, rfl⟩
        go_wp2_with fail
        refine (lists_any (e0.out.drewN n) (e0'.out.drewN n)).mono ?_
        rintro e w' ⟨rfl, n2, rfl⟩
        go_wp2
        go_ret
        exact ⟨ret_bool (by simp [Mach.eq_iff, H1.out, H2.out, H3.out]), by (repeat' (first | with_reducible exact Below.refl _ _ | with_reducible assumption | with_reducible refine bl_drewN ?_ _ | with_reducible refine Below.drew ?_ | with_reducible refine Below.alloc ?_ ?_ _ | with_reducible refine Below.setCell ?_ ?_ _ | omega | (simp; done) | (simp; omega)))⟩
      · have hd : decide (m.next = m'.next) = false := by simp [h3]
        have hr := lists_any e0.next e0'.next
        rw [hd] at hr
        have HR := Lib.hid hr
        have H3 := Lib.hid h3
        clear h3 hd hr
        go_enter Try.func27, Try.ntmps27
        go_wp2_with fail
        refine (HR.out).mono ?_
        rintro e w' ⟨rfl, n, rfl⟩
        go_wp2
        go_ret
        exact ⟨ret_bool (by simp [Mach.eq_iff, H3.out]), by (repeat' (first | with_reducible exact Below.refl _ _ | with_reducible assumption | with_reducible refine bl_drewN ?_ _ | with_reducible refine Below.drew ?_ | with_reducible refine Below.alloc ?_ ?_ _ | with_reducible refine Below.setCell ?_ ?_ _ | omega | (simp; done) | (simp; omega)))⟩
    · have h2' : (m.start == m'.start) = false := by simp [h2]
      have H2 := Lib.hid h2
      clear h2
      go_enter Try.func27, Try.ntmps27
      go_wp2
      go_ret
      exact ⟨ret_bool (by simp [Mach.eq_iff, H2.out]), by (repeat' (first | with_reducible exact Below.refl _ _ | with_reducible assumption | with_reducible refine bl_drewN ?_ _ | with_reducible refine Below.drew ?_ | with_reducible refine Below.alloc ?_ ?_ _ | with_reducible refine Below.setCell ?_ ?_ _ | omega | (simp; done) | (simp; omega)))⟩
  · have h1' : (m.inputs == m'.inputs) = false := by simp [h1]
    have H1 := Lib.hid h1
    clear h1
    go_enter Try.func27, Try.ntmps27
    go_wp2
    go_ret
    exact ⟨ret_bool (by simp [Mach.eq_iff, H1.out]), by (repeat' (first | with_reducible exact Below.refl _ _ | with_reducible assumption | with_reducible refine bl_drewN ?_ _ | with_reducible refine Below.drew ?_ | with_reducible refine Below.alloc ?_ ?_ _ | with_reducible refine Below.setCell ?_ ?_ _ | omega | (simp; done) | (simp; omega)))⟩
set_option maxHeartbeats 400000 in
theorem same_any (hm : Ma M w an cn ao co m) (hm' : Ma M w an' cn' ao' co' m') :
    Calls Try.prog 47 #[maV m an cn ao co, maV m' an' cn' ao' co'] w fun e w' => e = .returned (.bool (decide (m = m'))) ∧ Below w.heap.size w w' := by
  have e0 := hm.ext ((Ext.alloc M w (.cells #[.int .i64 m.inputs, .int .i64 m.start, .slice an m.next.length cn, .slice ao m.out.length co] 24)).trans (Ext.alloc M _ (.cells #[.int .i64 m'.inputs, .int .i64 m'.start, .slice an' m'.next.length cn', .slice ao' m'.out.length co'] 24)))
  have e0' := hm'.ext ((Ext.alloc M w (.cells #[.int .i64 m.inputs, .int .i64 m.start, .slice an m.next.length cn, .slice ao m.out.length co] 24)).trans (Ext.alloc M _ (.cells #[.int .i64 m'.inputs, .int .i64 m'.start, .slice an' m'.next.length cn', .slice ao' m'.out.length co'] 24)))
  by_cases h1 : m.inputs = m'.inputs
  · have h1' : (m.inputs == m'.inputs) = true := by simp [h1]
    have H1 := Lib.hid h1
    clear h1
    by_cases h2 : m.start = m'.start
    · have h2' : (m.start == m'.start) = true := by simp [h2]
      have H2 := Lib.hid h2
      clear h2
      by_cases h3 : m.next = m'.next
      · have hd : decide (m.next = m'.next) = true := by simp [h3]
        have hr := rows_any e0.next e0'.next
        rw [hd] at hr
        have HR := Lib.hid hr
        have H3 := Lib.hid h3
        clear h3 hd hr
        go_enter Try.func47, Try.ntmps47
        go_wp2_with fail
        refine (HR.out).mono ?_
        rintro e w' ⟨rfl, n, rfl⟩
        go_wp2_with fail
        refine (rows_any (e0.out.drewN n) (e0'.out.drewN n)).mono ?_
        rintro e w' ⟨rfl, n2, rfl⟩
        go_wp2
        go_ret
        exact ⟨ret_bool (by simp [Mach.eq_iff, H1.out, H2.out, H3.out]), by (repeat' (first | with_reducible exact Below.refl _ _ | with_reducible assumption | with_reducible refine bl_drewN ?_ _ | with_reducible refine Below.drew ?_ | with_reducible refine Below.alloc ?_ ?_ _ | with_reducible refine Below.setCell ?_ ?_ _ | omega | (simp; done) | (simp; omega)))⟩
      · have hd : decide (m.next = m'.next) = false := by simp [h3]
        have hr := rows_any e0.next e0'.next
        rw [hd] at hr
        have HR := Lib.hid hr
        have H3 := Lib.hid h3
        clear h3 hd hr
        go_enter Try.func47, Try.ntmps47
        go_wp2_with fail
        refine (HR.out).mono ?_
        rintro e w' ⟨rfl, n, rfl⟩
        go_wp2
        go_ret
        exact ⟨ret_bool (by simp [Mach.eq_iff, H3.out]), by (repeat' (first | with_reducible exact Below.refl _ _ | with_reducible assumption | with_reducible refine bl_drewN ?_ _ | with_reducible refine Below.drew ?_ | with_reducible refine Below.alloc ?_ ?_ _ | with_reducible refine Below.setCell ?_ ?_ _ | omega | (simp; done) | (simp; omega)))⟩
    · have h2' : (m.start == m'.start) = false := by simp [h2]
      have H2 := Lib.hid h2
      clear h2
      go_enter Try.func47, Try.ntmps47
      go_wp2
      go_ret
      exact ⟨ret_bool (by simp [Mach.eq_iff, H2.out]), by (repeat' (first | with_reducible exact Below.refl _ _ | with_reducible assumption | with_reducible refine bl_drewN ?_ _ | with_reducible refine Below.drew ?_ | with_reducible refine Below.alloc ?_ ?_ _ | with_reducible refine Below.setCell ?_ ?_ _ | omega | (simp; done) | (simp; omega)))⟩
  · have h1' : (m.inputs == m'.inputs) = false := by simp [h1]
    have H1 := Lib.hid h1
    clear h1
    go_enter Try.func47, Try.ntmps47
    go_wp2
    go_ret
    exact ⟨ret_bool (by simp [Mach.eq_iff, H1.out]), by (repeat' (first | with_reducible exact Below.refl _ _ | with_reducible assumption | with_reducible refine bl_drewN ?_ _ | with_reducible refine Below.drew ?_ | with_reducible refine Below.alloc ?_ ?_ _ | with_reducible refine Below.setCell ?_ ?_ _ | omega | (simp; done) | (simp; omega)))⟩
end
end Go.Proofs.Ytdnmgiabgpilkaa
/- The reference's step of minimization. Conditions: the machine is valid, and there is a class for each state. -/
namespace Go.Proofs.Ytdnmgiabgpilkaa
open Go.RowKit

theorem getD_canon_snoc (l : List Int) (x : Int) {t : Nat} (h : t < l.length) : (l ++ [x]).getD t 0 = l.getD t 0 := by
  rw [List.getD_eq_getElem?_getD, List.getElem?_append_left h, ← List.getD_eq_getElem?_getD]

section
variable {M M' : Nat → Prop} {w : World} {an ao ac : Option Addr} {cn co cc : Nat} {m : Mach} {cls : List Int}

set_option maxRecDepth 100000 in
set_option maxHeartbeats 4000000 in
theorem finer_any (hm : Ma M w an cn ao co m) (hc : Sl M' w ac cc cls) (ok : m.Ok) (hl : cls.length = m.next.length) :
    Calls Try.prog 52 #[maV m an cn ao co, .slice ac cls.length cc] w fun e w' =>
      ∃ a c l, e = .returned (.slice a l.length c) ∧ Hid (l = (canon (m.sameR cls) cls.length).1) ∧ Sl (fun k => k < w.heap.size) w' a c l ∧ Below w.heap.size w w' := by
  have OK := Lib.hid ok
  have HL := Lib.hid hl
  have i0 := ok.i0
  have i1 := ok.i1
  have n1 := ok.n1
  clear ok hl
  go_enter Try.func52, Try.ntmps52
  go_wp2
  go_loopw [5, 6, 7] (fun o ct i wr => ∃ (k : Nat) (a' : Option Addr) (c' : Nat) (l : List Int) (q : Int), k ≤ cls.length ∧ i = .int .i64 k ∧ o = .slice a' l.length c' ∧ ct = .int .i64 q ∧ 0 ≤ q ∧ q ≤ k ∧
      Hid (canon (m.sameR cls) k = (l, q)) ∧ Ow (w.heap.size + 1) (fun k => w.heap.size + 1 ≤ k) wr 3 (.slice a' l.length c') l ∧
      Below (w.heap.size + 1) (w.alloc (.cells #[.int .i64 m.inputs, .int .i64 m.start, .slice an m.next.length cn, .slice ao m.out.length co] 24)) wr) (fun _ _ i _ => cls.length - (intOf i).toNat)
  case atStart => exact ⟨0, none, 0, [], 0, by omega, rfl, rfl, rfl, by omega, by omega, rfl, Ow.nil, Below.refl _ _⟩
  case round =>
    obtain ⟨k, a', c', l, q, hk, rfl, rfl, rfl, q0, q1, hE, hO, hB⟩ := hrel
    obtain ⟨wo, rfl⟩ : ∃ wo : World, wo = wr := ⟨_, rfl⟩
    have hbx : ∀ o, wo.cell? ⟨w.heap.size, o, none⟩ = _ := fun o => hB.cell (by simp)
    have hsz : w.heap.size + 1 ≤ wo.heap.size := by have := hB.size; simpa using this
    by_cases hlt : k < cls.length
    · have hkn : k < m.next.length := by have := HL.out; omega
      have hmr : Ma M wo an cn ao co m := hm.ext ((Ext.alloc M w _).trans (Ext.of_below (by simpa using hB)))
      have hcr : Sl M' wo ac cc cls := hc.ext ((Ext.alloc M' w _).trans (Ext.of_below (by simpa using hB)))
      have HMR := Lib.hid hmr
      have HCR := Lib.hid hcr
      clear hmr hcr
      have hcl := hc.le
      have hlen : Hid (l.length = k) := by have := canon_length (m.sameR cls) k; rw [hE.out] at this; exact this
      go_wp2
      go_loopw [8, 9] (fun f t w2 => ∃ d : Nat, d ≤ k ∧ ((d < k ∧ ∃ tn : Nat, tn + d + 1 = k ∧ t = .int .i64 tn) ∨ (d = k ∧ t = .int .i64 (-1))) ∧ (∃ z : Int, f = .int .i64 z ∧ -1 ≤ z ∧ z < 128 ∧ Hid (z = look (m.sameR cls) l k d)) ∧ Hid (∃ n, w2 = wo.drewN n)) (fun _ t _ => (intOf t + 1).toNat)
      case atStart =>
        refine ⟨0, by omega, ?_, ⟨_, rfl, by omega, by omega, rfl⟩, ⟨0, rfl⟩⟩
        by_cases e : k = 0
        · subst e; exact .inr ⟨rfl, rfl⟩
        · exact .inl ⟨by omega, k - 1, by omega, by rw [show ((k - 1 : Nat) : Int) = (k : Int) - 1 from by omega]⟩
      case round =>
        obtain ⟨d, hd, ht, ⟨z, rfl, z0, z1, hz⟩, hW⟩ := hrel
        obtain ⟨w2, rfl⟩ : ∃ w2 : World, w2 = wr := ⟨_, rfl⟩
        rcases ht with ⟨hdk, tn, htn, rfl⟩ | ⟨hdk, rfl⟩
        · have hm2 : Ma M w2 an cn ao co m := by obtain ⟨n, e⟩ := hW.out; rw [e]; exact (HMR.out).ext (Ext.of_below (below_drewN _ _ _))
          have hc2 : Sl M' w2 ac cc cls := sl_dr hW HCR.out
          have hO2 : Ow (w.heap.size + 1) (fun k => w.heap.size + 1 ≤ k) w2 3 (.slice a' l.length c') l := by obtain ⟨n, e⟩ := hW.out; rw [e]; exact hO.drewN n
          have hbx2 : ∀ o, w2.cell? ⟨w.heap.size, o, none⟩ = wo.cell? ⟨w.heap.size, o, none⟩ := by obtain ⟨n, e⟩ := hW.out; rw [e]; exact fun _ => rfl
          have htk : tn < k := by omega
          have htc : tn < cls.length := by omega
          have hko : k < m.out.length := by have := OK.out.lo; omega
          have hto : tn < m.out.length := by have := OK.out.lo; omega
          have htn' : tn < m.next.length := by omega
          have htl : tn < l.length := by have := hlen.out; omega
          obtain ⟨bc, oc, xs, rfl, hcs, hxs, -⟩ := hc2.at_int hlt
          obtain ⟨bc', oc', xt, hac, hct, hxt, -⟩ := hc2.at_int htc
          obtain ⟨rfl, rfl⟩ : bc = bc' ∧ oc = oc' := by simpa using hac
          clear hac
          have HW := hW
          clear hW hm
          obtain ⟨bn, on, as1, rs1, cs1, bo, oo, as2, rs2, cs2, rfl, rfl, hn1, ho1, hS1, hS2, hr1, hr2, hl1, hl2, hl3⟩ := hm2.row OK.out hkn
          obtain ⟨bn', on', at1, rt1, ct1, bo', oo', at2, rt2, ct2, hbn, hbo, hn2, ho2, hT1, hT2, hq1, hq2, hm1, hm3, hm4⟩ := hm2.row OK.out (show tn < m.next.length by omega)
          obtain ⟨rfl, rfl⟩ : bn = bn' ∧ on = on' := by simpa using hbn
          obtain ⟨rfl, rfl⟩ : bo = bo' ∧ oo = oo' := by simpa using hbo
          clear hbn hbo
          go_wp2
          refine wp_quiet_fast (by kernel_rfl) (by kernel_rfl) ?_
          repeat (first | go_big_quiet_step (fail) | quiet_step (fail))
          refine wpQuiet_nil ?_
          intro _ hw'
          obtain ⟨nq, hw''⟩ := hw'
          subst hw''
          go_wp2
          have hcm : Hid (m.sameTo cls tn k 0 ↔ xs = xt) := by
            unfold Hid Mach.sameTo
            rw [getD_of_some hxs.out, getD_of_some hxt.out]
            exact ⟨fun h => h.1, fun h => ⟨h, fun a ha => by omega⟩⟩
          go_loopw [10, 11] (fun b i w3 => ∃ (a : Nat) (e : Bool), a ≤ m.inputs.toNat ∧ i = .int .i64 a ∧ b = .bool e ∧ Hid (e = decide (m.sameTo cls tn k a)) ∧ Hid (∃ n, w3 = w2.drewN n)) (fun _ i _ => m.inputs.toNat - (intOf i).toNat)
          case atStart => exact ⟨0, _, by omega, rfl, rfl, by unfold Hid; rw [decide_eq_decide.2 hcm.out]; rfl, ⟨_, rfl⟩⟩
          case round =>
            obtain ⟨a, e, ha, rfl, rfl, hS, hW3⟩ := hrel
            obtain ⟨w3, rfl⟩ : ∃ w3 : World, w3 = wr := ⟨_, rfl⟩
            have hbx3 : ∀ o, w3.cell? ⟨w.heap.size, o, none⟩ = wo.cell? ⟨w.heap.size, o, none⟩ := by obtain ⟨n, e⟩ := hW3.out; rw [e]; exact fun o => (World.cell?_drewN _ _ _).trans (hbx2 o)
            by_cases hrun : a < m.inputs.toNat ∧ e = true
            · obtain ⟨hai, rfl⟩ := hrun
              have hai' : (a : Int) < m.inputs := by omega
              have hS3 : Sl M w3 as1 cs1 rs1 := sl_dr hW3 hS1
              have hS4 : Sl M w3 as2 cs2 rs2 := sl_dr hW3 hS2
              have hT3 : Sl M w3 at1 ct1 rt1 := sl_dr hW3 hT1
              have hT4 : Sl M w3 at2 ct2 rt2 := sl_dr hW3 hT2
              have hc3 : Sl M' w3 (some ⟨bc, oc, none⟩) cc cls := sl_dr hW3 hc2
              have hn1' : w3.cell? ⟨bn, on + k, none⟩ = some (.slice as1 rs1.length cs1) := by obtain ⟨n, e⟩ := hW3.out; rw [e]; exact hn1
              have ho1' : w3.cell? ⟨bo, oo + k, none⟩ = some (.slice as2 rs2.length cs2) := by obtain ⟨n, e⟩ := hW3.out; rw [e]; exact ho1
              have hn2' : w3.cell? ⟨bn, on + tn, none⟩ = some (.slice at1 rt1.length ct1) := by obtain ⟨n, e⟩ := hW3.out; rw [e]; exact hn2
              have ho2' : w3.cell? ⟨bo, oo + tn, none⟩ = some (.slice at2 rt2.length ct2) := by obtain ⟨n, e⟩ := hW3.out; rw [e]; exact ho2
              obtain ⟨b1, o1, x1, b2, o2, y1, rfl, rfl, he1, he2, hx1, y10, y11, hv1, hv2, la1, la2⟩ := Ma.entry OK.out hkn hS3 hS4 hr1 hr2 hl3 hai
              obtain ⟨b3, o3, x2, b4, o4, y2, rfl, rfl, he3, he4, hx2, y20, y21, hv3, hv4, la3, la4⟩ := Ma.entry OK.out (show tn < m.next.length by omega) hT3 hT4 hq1 hq2 hm4 hai
              have hx1c : x1 < cls.length := by have := HL.out; omega
              have hx2c : x2 < cls.length := by have := HL.out; omega
              obtain ⟨bq, oq, z1, hbq, hz1, hz1', -⟩ := hc3.at_int hx1c
              obtain ⟨bq2, oq2, z2, hbq2, hz2, hz2', -⟩ := hc3.at_int hx2c
              obtain ⟨rfl, rfl⟩ : bc = bq ∧ oc = oq := by simpa using hbq
              obtain ⟨rfl, rfl⟩ : bc = bq2 ∧ oc = oq2 := by simpa using hbq2
              clear hbq hbq2
              have hnext : Hid (m.sameTo cls tn k (a + 1) ↔ (y1 = y2 ∧ z1 = z2)) := by
                unfold Hid
                have h1 : (m.ot k a = m.ot tn a ∧ cls.getD (m.nx k a).toNat 0 = cls.getD (m.nx tn a).toNat 0) ↔ (y1 = y2 ∧ z1 = z2) := by
                  rw [hv1.out, hv2.out, hv3.out, hv4.out, Int.toNat_natCast, Int.toNat_natCast, getD_of_some hz1'.out, getD_of_some hz2'.out]
                have h0 : m.sameTo cls tn k a := by simpa using hS.out.symm
                rw [← h1]
                exact ⟨fun h => h.2 a (by omega), fun h => Mach.sameTo_succ m h0 h.1 h.2⟩
              clear hn1 ho1 hn2 ho2 hS1 hS2 hT1 hT2 hS3 hS4 hT3 hT4
              go_wp2
              refine wp_quiet_fast (by kernel_rfl) (by kernel_rfl) ?_
              by_cases hy : y1 = y2
              · have hy' : (y1 == y2) = true := by simp [hy]
                have HY := Lib.hid hy
                clear hy
                repeat (first | go_big_quiet_step (fail) | quiet_step (fail))
                refine wpQuiet_nil ?_
                intro _ hw'
                obtain ⟨nq, hw''⟩ := hw'
                subst hw''
                go_wp2
                go_roundw
                case rel => exact ⟨a + 1, _, by omega, by go_num, rfl, by unfold Hid; have h0 : decide (m.sameTo cls tn k (a + 1)) = decide (y1 = y2 ∧ z1 = z2) := decide_eq_decide.2 hnext.out; rw [h0]; have := HY.out; simp [this]; try rfl, dr_add hW3 _⟩
                case measure => simp [intOf]; omega
              · have hy' : (y1 == y2) = false := by simp [hy]
                have HY := Lib.hid hy
                clear hy
                repeat (first | go_big_quiet_step (fail) | quiet_step (fail))
                refine wpQuiet_nil ?_
                intro _ hw'
                obtain ⟨nq, hw''⟩ := hw'
                subst hw''
                go_wp2
                go_roundw
                case rel => exact ⟨a + 1, _, by omega, by go_num, rfl, by unfold Hid; have h0 : decide (m.sameTo cls tn k (a + 1)) = decide (y1 = y2 ∧ z1 = z2) := decide_eq_decide.2 hnext.out; rw [h0]; have := HY.out; simp [this], dr_add hW3 _⟩
                case measure => simp [intOf]; omega
            · have hfin : Hid (e = m.sameR cls tn k) := by
                unfold Hid
                by_cases he : e = true
                · have : a = m.inputs.toNat := by
                    have h1 : ¬ a < m.inputs.toNat := fun h => hrun ⟨h, he⟩
                    omega
                  rw [hS.out, this]; rfl
                · have he' : e = false := by simpa using he
                  have h2 := hS.out
                  rw [he'] at h2
                  rw [he', Mach.sameTo_mono m ha (by simpa using h2.symm)]
              have hO3 : Ow (w.heap.size + 1) (fun k => w.heap.size + 1 ≤ k) w3 3 (.slice a' l.length c') l := by obtain ⟨n, e⟩ := hW3.out; rw [e]; exact hO2.drewN n
              obtain ⟨go_, zf, rfl, hzf, -, hzf', -⟩ := hO3.at_int htl
              have hzr : Hid (0 ≤ zf ∧ zf < 128) := by
                have h1 := (canon_range (m.sameR cls) k).2.2 tn htk
                rw [hE.out] at h1
                simp only at h1
                rw [getD_of_some hzf'.out] at h1
                unfold Hid
                omega
              have hlk : Hid (look (m.sameR cls) l k (d + 1) = if e then zf else z) := by
                unfold Hid
                have h1 : k - (d + 1) = tn := by omega
                rw [look, h1, ← hfin.out, getD_of_some hzf'.out, hz.out]
              have hW4 : Hid (∃ n, w3 = wo.drewN n) := by
                obtain ⟨n, e⟩ := hW3.out
                obtain ⟨n', e'⟩ := HW.out
                exact ⟨n' + n, by rw [e, e', World.drewN_drewN]⟩
              cases e with
              | true =>
                have hai' : ¬ a < m.inputs.toNat := fun h => hrun ⟨h, rfl⟩
                have hai'' : ¬ (a : Int) < m.inputs := by omega
                clear hrun hai'
                go_wp2
                go_roundw
                case rel =>
                  refine ⟨d + 1, by omega, ?_, ⟨_, rfl, by have := hzr.out; omega, by have := hzr.out; omega, by unfold Hid; simpa using hlk.out.symm⟩, hW4⟩
                  by_cases e : tn = 0
                  · exact .inr ⟨by omega, by subst e; rfl⟩
                  · exact .inl ⟨by omega, tn - 1, by omega, by rw [show ((tn - 1 : Nat) : Int) = (tn : Int) - 1 from by omega]⟩
                case measure => simp [intOf]
              | false =>
                clear hrun
                go_wp2
                all_goals
                  go_roundw
                  case rel =>
                    refine ⟨d + 1, by omega, ?_, ⟨_, rfl, z0, z1, by unfold Hid; simpa using hlk.out.symm⟩, hW4⟩
                    by_cases e : tn = 0
                    · exact .inr ⟨by omega, by subst e; rfl⟩
                    · exact .inl ⟨by omega, tn - 1, by omega, by rw [show ((tn - 1 : Nat) : Int) = (tn : Int) - 1 from by omega]⟩
                  case measure => simp [intOf]
        · have hW4 := hW
          have hO2 : Ow (w.heap.size + 1) (fun k => w.heap.size + 1 ≤ k) w2 3 (.slice a' l.length c') l := by obtain ⟨n, e⟩ := hW.out; rw [e]; exact hO.drewN n
          have hB2 : Below (w.heap.size + 1) (w.alloc (.cells #[.int .i64 m.inputs, .int .i64 m.start, .slice an m.next.length cn, .slice ao m.out.length co] 24)) w2 := by obtain ⟨n, e⟩ := hW.out; rw [e]; exact bl_drewN hB n
          have hsz2 : w.heap.size + 1 ≤ w2.heap.size := by have := hB2.size; simpa using this
          have hz2 : Hid (z = look (m.sameR cls) l k k) := by have := hz.out; rw [hdk] at this; exact this
          have HDK := Lib.hid hdk
          have hll : l.length ≤ 128 := by have := hlen.out; omega
          have h1l : (canon (m.sameR cls) k).1 = l := by rw [hE.out]
          have h2l : (canon (m.sameR cls) k).2 = q := by rw [hE.out]
          have H1L := Lib.hid h1l
          have H2L := Lib.hid h2l
          clear hdk h1l h2l
          by_cases hz0 : z < 0
          · have hnew : Hid (canon (m.sameR cls) (k + 1) = (l ++ [q], q + 1)) := by
              have h3 : look (m.sameR cls) (canon (m.sameR cls) k).1 k k < 0 := by rw [H1L.out, ← hz2.out]; exact hz0
              unfold Hid
              rw [canon_new _ h3, H1L.out, H2L.out]
            have hv : i64 q := by unfold i64; omega
            have HV := Lib.hid hv
            clear hv
            go_wp2_with (at_builtin; refine wpList_push_i rfl rfl Try.underlying27 info_int rfl rfl (hO2.alloc _) (by simp [go_sem]) HV.out (by omega) (by simp; omega) ?_)
            intro a2 c2 l2 w4 hl2 hO4 hgr
            have hB4 := (hB2.alloc (by simpa using hsz2) _).trans hgr
            clear hgr
            go_wp2
            go_roundw
            case rel => exact ⟨k + 1, a2, c2, l2, q + 1, by omega, by go_num, rfl, rfl, by omega, by omega, by unfold Hid; rw [hnew.out, hl2.out], hO4, hB4⟩
            case measure => simp [intOf]; omega
          · have hold : Hid (canon (m.sameR cls) (k + 1) = (l ++ [z], q)) := by
              have h3 : ¬ look (m.sameR cls) (canon (m.sameR cls) k).1 k k < 0 := by rw [H1L.out, ← hz2.out]; exact hz0
              unfold Hid
              rw [canon_old _ h3, H1L.out, H2L.out, ← hz2.out]
            have hv : i64 z := by unfold i64; omega
            have HV := Lib.hid hv
            clear hv
            go_wp2_with (at_builtin; refine wpList_push_i rfl rfl Try.underlying27 info_int rfl rfl (hO2.alloc _) (by simp [go_sem]) HV.out (by omega) (by simp; omega) ?_)
            intro a2 c2 l2 w4 hl2 hO4 hgr
            have hB4 := (hB2.alloc (by simpa using hsz2) _).trans hgr
            clear hgr
            go_wp2
            go_roundw
            case rel => exact ⟨k + 1, a2, c2, l2, q, by omega, by go_num, rfl, rfl, by omega, by omega, by unfold Hid; rw [hold.out, hl2.out], hO4, hB4⟩
            case measure => simp [intOf]; omega
    · have hke : Hid (k = cls.length) := by unfold Hid; omega
      go_wp2
      go_ret
      exact ⟨a', c', l, rfl, by unfold Hid; rw [← hke.out, hE.out], hO.fresh (by omega), ((Below.refl _ _).alloc (Nat.le_refl _) _).trans (hB.mono (by omega))⟩
end
end Go.Proofs.Ytdnmgiabgpilkaa
/- The reference's Partition and Classes. No condition beyond that the fields read as lists of lists. -/
namespace Go.Proofs.Ytdnmgiabgpilkaa
open Go.RowKit

theorem ret2_int {x : Value} {a b : Int} (h : a = b) : Ending.returned (.tuple #[x, .int .i64 a]) = .returned (.tuple #[x, .int .i64 b]) := by rw [h]

section
variable {M : Nat → Prop} {w : World} {an ao ac : Option Addr} {cn co cc : Nat} {m : Mach}

set_option maxHeartbeats 2000000 in
theorem partR_any (hm : Ma M w an cn ao co m) (k : Int) (hk0 : i64 k) :
    Calls Try.prog 19 #[maV m an cn ao co, .int .i64 k] w fun e w' =>
      ∃ a c l, e = .returned (.tuple #[.slice a l.length c, .int .i64 m.err]) ∧ Hid (l = m.partOf k) ∧ Sl (fun k => k < w.heap.size) w' a c l ∧ Below w.heap.size w w' := by
  have HK := Lib.hid hk0
  have hv := valid6_any (hm.ext (Ext.alloc M w (.cells #[.int .i64 m.inputs, .int .i64 m.start, .slice an m.next.length cn, .slice ao m.out.length co] 24)))
  have HV := Lib.hid hv
  clear hv hk0
  by_cases he : m.err = 0
  · have OK := Lib.hid (m.ok_of_err he)
    have he' : (m.err != 0) = false := by simp [he]
    have n1 := OK.out.n1
    have HE := Lib.hid he
    clear he
    go_enter Try.func19, Try.ntmps19
    go_wp2_with (first | (go_at_call 43; refine (HV.out).mono ?_; rintro e w1 ⟨rfl, hb1⟩; have hbx1 : ∀ o, w1.cell? ⟨w.heap.size, o, none⟩ = _ := fun o => hb1.cell (by simp)) | (at_make; refine wpList_mk_i (B := w.heap.size + 1) (n := m.next.length) rfl rfl Try.underlying27 info_int rfl (by omega) ?_ ?_))
    · have := hb1.size; simpa using this
    intro g c l w2 hl hO hb2 _
    have hsz1 : w.heap.size + 1 ≤ w1.heap.size := by have := hb1.size; simpa using this
    have hB2 : Below (w.heap.size + 1) (w.alloc (.cells #[.int .i64 m.inputs, .int .i64 m.start, .slice an m.next.length cn, .slice ao m.out.length co] 24)) w2 := (hb1.mono (by simp)).trans (hb2.mono hsz1)
    have hS := hO.fresh (n := w.heap.size) (by omega)
    clear hO hbx1 hb1 hb2
    have hl0 : Hid (l = m.part 0) := hl
    clear hl
    go_wp2
    go_loopw [7, 8] (fun v i wr => ∃ (j : Nat) (a' : Option Addr) (c' : Nat) (l : List Int), j ≤ m.next.length ∧ (j ≤ k.toNat) ∧ i = .int .i64 j ∧ v = .slice a' l.length c' ∧ Hid (l = m.part j) ∧ Sl (fun k => k < w.heap.size) wr a' c' l ∧
      Below (w.heap.size + 1) (w.alloc (.cells #[.int .i64 m.inputs, .int .i64 m.start, .slice an m.next.length cn, .slice ao m.out.length co] 24)) wr) (fun _ i _ => m.next.length - (intOf i).toNat)
    case atStart => exact ⟨0, _, _, _, by omega, by omega, rfl, rfl, hl0, hS, hB2⟩
    case round =>
      obtain ⟨j, a', c', l, hj, hjk, rfl, rfl, hl, hS, hB⟩ := hrel
      obtain ⟨wo, rfl⟩ : ∃ wo : World, wo = wr := ⟨_, rfl⟩
      have hbx : ∀ o, wo.cell? ⟨w.heap.size, o, none⟩ = _ := fun o => hB.cell (by simp)
      have hsz : w.heap.size + 1 ≤ wo.heap.size := by have := hB.size; simpa using this
      have hB3 : Below w.heap.size w wo := ((Below.refl _ _).alloc (Nat.le_refl _) _).trans (hB.mono (by omega))
      by_cases hrun : (j : Int) < k ∧ j < m.next.length
      · obtain ⟨h1, h2⟩ := hrun
        have hll : l.length = m.next.length := by rw [hl.out, m.part_length]
        have HF := Lib.hid (finer_any (hm.below hB3) hS OK.out hll)
        have HLL := Lib.hid hll
        clear hll
        go_wp2_with (go_at_call 52; refine (HF.out).mono ?_; rintro e w4 ⟨a4, c4, l4, rfl, hl4, hS4, hb4⟩)
        have hl4' : Hid (l4 = m.part (j + 1)) := by unfold Hid; rw [hl4.out, m.part_succ, HLL.out, hl.out]
        clear hl4
        go_roundw
        case rel => exact ⟨j + 1, a4, c4, l4, by omega, by omega, by go_num, rfl, hl4', hS4.anti (fun q _ hq => by omega), hB.trans (hb4.mono hsz)⟩
        case measure => simp [intOf]; omega
      · have hfin : Hid (l = m.partOf k) := by
          unfold Hid Mach.partOf
          rw [if_pos HE.out, hl.out]
          congr 1
          omega
        by_cases h1 : (j : Int) < k
        · have h2 : ¬ j < m.next.length := fun h => hrun ⟨h1, h⟩
          clear hrun
          go_wp2
          go_ret2
          exact ⟨a', c', l, ret2_int HE.out.symm, hfin, hS, hB3⟩
        · clear hrun
          go_wp2
          go_ret2
          exact ⟨a', c', l, ret2_int HE.out.symm, hfin, hS, hB3⟩
  · have he' : (m.err != 0) = true := by simp [he]
    have HE := Lib.hid he
    clear he
    go_enter Try.func19, Try.ntmps19
    go_wp2_with (go_at_call 43; refine (HV.out).mono ?_; rintro e w1 ⟨rfl, hb1⟩)
    go_ret2
    exact ⟨none, 0, [], rfl, by unfold Hid Mach.partOf; rw [if_neg HE.out], Sl.nil _ _ _ (by unfold maxLen; omega), ((Below.refl _ _).alloc (Nat.le_refl _) _).trans (hb1.mono (by simp))⟩

set_option maxHeartbeats 1000000 in
theorem classesR_any (hm : Ma M w an cn ao co m) :
    Calls Try.prog 22 #[maV m an cn ao co] w fun e w' =>
      ∃ a c l, e = .returned (.tuple #[.slice a l.length c, .int .i64 m.err]) ∧ Hid (l = m.partOf m.next.length) ∧ Sl (fun k => k < w.heap.size) w' a c l ∧ Below w.heap.size w w' := by
  have HP := Lib.hid (partR_any (hm.ext (Ext.alloc M w (.cells #[.int .i64 m.inputs, .int .i64 m.start, .slice an m.next.length cn, .slice ao m.out.length co] 24))) m.next.length (i64_of_nat hm.next.le))
  go_enter Try.func22, Try.ntmps22
  go_wp2_with (go_at_call 19; refine (HP.out).mono ?_; rintro e w1 ⟨a, c, l, rfl, hl, hs, hb⟩)
  go_ret2
  exact ⟨a, c, l, rfl, hl, hs.anti (fun q _ hq => by simp; omega), ((Below.refl _ _).alloc (Nat.le_refl _) _).trans (hb.mono (by simp))⟩
end
end Go.Proofs.Ytdnmgiabgpilkaa
/- The program's Partition, Classes and Depth, and the reference's Depth. No condition beyond that the fields read as lists of lists. -/
namespace Go.Proofs.Ytdnmgiabgpilkaa
open Go.RowKit

/-- What Depth answers: 0 with an error; else how often the classes change. -/
def Mach.DepthOf (m : Mach) (d : Nat) : Prop := if m.err = 0 then m.Steps m.next.length d else d = 0

section
variable {M : Nat → Prop} {w : World} {an ao : Option Addr} {cn co : Nat} {m : Mach}

set_option maxHeartbeats 1000000 in
theorem part_any (hm : Ma M w an cn ao co m) (k : Int) :
    Calls Try.prog 18 #[maV m an cn ao co, .int .i64 k] w fun e w' =>
      ∃ a c l, e = .returned (.tuple #[.slice a l.length c, .int .i64 m.err]) ∧ Hid (l = m.partOf k) ∧ Sl (fun k => k < w.heap.size) w' a c l ∧ Below w.heap.size w w' := by
  have HV := Lib.hid (valid_any (hm.ext (Ext.alloc M w (.cells #[.int .i64 m.inputs, .int .i64 m.start, .slice an m.next.length cn, .slice ao m.out.length co] 24))))
  by_cases he : m.err = 0
  · have ok := m.ok_of_err he
    have OK := Lib.hid ok
    have he' : (m.err != 0) = false := by simp [he]
    have HE := Lib.hid he
    clear he ok
    go_enter Try.func18, Try.ntmps18
    go_wp2_with (go_at_call 50; refine (HV.out).mono ?_; rintro e w1 ⟨rfl, hb1⟩; have hbx1 : ∀ o, w1.cell? ⟨w.heap.size, o, none⟩ = _ := fun o => hb1.cell (by simp); have hm1 := (hm.ext (Ext.alloc M w (.cells #[.int .i64 m.inputs, .int .i64 m.start, .slice an m.next.length cn, .slice ao m.out.length co] 24))).below hb1; have HR := Lib.hid (refine_any hm1 OK.out k); clear hm1; try (go_at_call 51))
    have hsz1 : w.heap.size + 1 ≤ w1.heap.size := by have := hb1.size; simpa using this
    refine (HR.out).mono ?_
    rintro e w2 ⟨a, c, l, d, rfl, hl, hs, hb2⟩
    go_wp2
    go_ret2
    exact ⟨a, c, l, ret2_int HE.out.symm, by unfold Hid Mach.partOf; rw [if_pos HE.out, hl.out.1, hl.out.2.classes OK.out], hs.anti (fun q _ hq => by omega), (((Below.refl _ _).alloc (Nat.le_refl _) _).trans (hb1.mono (by simp))).trans (hb2.mono (by omega))⟩
  · have he' : (m.err != 0) = true := by simp [he]
    have HE := Lib.hid he
    clear he
    go_enter Try.func18, Try.ntmps18
    go_wp2_with (go_at_call 50; refine (HV.out).mono ?_; rintro e w1 ⟨rfl, hb1⟩)
    go_ret2
    exact ⟨none, 0, [], rfl, by unfold Hid Mach.partOf; rw [if_neg HE.out], Sl.nil _ _ _ (by unfold maxLen; omega), ((Below.refl _ _).alloc (Nat.le_refl _) _).trans (hb1.mono (by simp))⟩

theorem classes_any (hm : Ma M w an cn ao co m) :
    Calls Try.prog 21 #[maV m an cn ao co] w fun e w' =>
      ∃ a c l, e = .returned (.tuple #[.slice a l.length c, .int .i64 m.err]) ∧ Hid (l = m.partOf 128) ∧ Sl (fun k => k < w.heap.size) w' a c l ∧ Below w.heap.size w w' := by
  have HP := Lib.hid (part_any (hm.ext (Ext.alloc M w (.cells #[.int .i64 m.inputs, .int .i64 m.start, .slice an m.next.length cn, .slice ao m.out.length co] 24))) 128)
  go_enter Try.func21, Try.ntmps21
  go_wp2_with (go_at_call 18; refine (HP.out).mono ?_; rintro e w1 ⟨a, c, l, rfl, hl, hs, hb⟩)
  go_ret2
  exact ⟨a, c, l, rfl, hl, hs.anti (fun q _ hq => by simp; omega), ((Below.refl _ _).alloc (Nat.le_refl _) _).trans (hb.mono (by simp))⟩

set_option maxHeartbeats 1000000 in
theorem depth_any (hm : Ma M w an cn ao co m) :
    Calls Try.prog 23 #[maV m an cn ao co] w fun e w' =>
      ∃ d : Nat, e = .returned (.tuple #[.int .i64 d, .int .i64 m.err]) ∧ Hid (m.DepthOf d) ∧ Below w.heap.size w w' := by
  have HV := Lib.hid (valid_any (hm.ext (Ext.alloc M w (.cells #[.int .i64 m.inputs, .int .i64 m.start, .slice an m.next.length cn, .slice ao m.out.length co] 24))))
  by_cases he : m.err = 0
  · have ok := m.ok_of_err he
    have OK := Lib.hid ok
    have he' : (m.err != 0) = false := by simp [he]
    have HE := Lib.hid he
    clear he ok
    go_enter Try.func23, Try.ntmps23
    go_wp2_with (go_at_call 50; refine (HV.out).mono ?_; rintro e w1 ⟨rfl, hb1⟩; have hbx1 : ∀ o, w1.cell? ⟨w.heap.size, o, none⟩ = _ := fun o => hb1.cell (by simp); have hm1 := (hm.ext (Ext.alloc M w (.cells #[.int .i64 m.inputs, .int .i64 m.start, .slice an m.next.length cn, .slice ao m.out.length co] 24))).below hb1; have HR := Lib.hid (refine_any hm1 OK.out (m.next.length : Int)); clear hm1)
    have hsz1 : w.heap.size + 1 ≤ w1.heap.size := by have := hb1.size; simpa using this
    refine (HR.out).mono ?_
    rintro e w2 ⟨a, c, l, d, rfl, hl, hs, hb2⟩
    go_wp2
    go_ret2
    exact ⟨d, ret2_int HE.out.symm, by unfold Hid Mach.DepthOf; rw [if_pos HE.out]; have := hl.out.2; rwa [show min (m.next.length : Int).toNat m.next.length = m.next.length from by omega] at this, (((Below.refl _ _).alloc (Nat.le_refl _) _).trans (hb1.mono (by simp))).trans (hb2.mono (by omega))⟩
  · have he' : (m.err != 0) = true := by simp [he]
    have HE := Lib.hid he
    clear he
    go_enter Try.func23, Try.ntmps23
    go_wp2_with (go_at_call 50; refine (HV.out).mono ?_; rintro e w1 ⟨rfl, hb1⟩)
    go_ret2
    exact ⟨0, rfl, by unfold Hid Mach.DepthOf; rw [if_neg HE.out], ((Below.refl _ _).alloc (Nat.le_refl _) _).trans (hb1.mono (by simp))⟩
end
end Go.Proofs.Ytdnmgiabgpilkaa
/- The program's Min. No condition beyond that the fields read as lists of lists. -/
namespace Go.Proofs.Ytdnmgiabgpilkaa
open Go.RowKit
section
variable {M : Nat → Prop} {w : World} {an ao : Option Addr} {cn co : Nat} {m : Mach}

theorem map_take_succ' {α : Type} (f : Int → α) {l : List Int} {k : Nat} {x : Int} (h : l[k]? = some x) : (l.take (k + 1)).map f = (l.take k).map f ++ [f x] := by
  rw [List.take_add_one, h]; simp

set_option maxRecDepth 100000 in
set_option maxHeartbeats 4000000 in
theorem min_any (hm : Ma M w an cn ao co m) :
    Calls Try.prog 25 #[maV m an cn ao co] w fun e w' =>
      ∃ an' cn' ao' co' t, e = .returned (.tuple #[maV t an' cn' ao' co', .int .i64 m.err]) ∧ Hid (t = m.minOf) ∧ Ma (fun k => k < w.heap.size) w' an' cn' ao' co' t ∧ Below w.heap.size w w' := by
  have HT := Lib.hid (trim_any (hm.ext ((Ext.alloc M w (.cells #[.int .i64 m.inputs, .int .i64 m.start, .slice an m.next.length cn, .slice ao m.out.length co] 24)).trans (Ext.alloc M _ (.cells #[.int .i64 0, .int .i64 0, .slice none 0 0, .slice none 0 0] 24)))))
  by_cases he : m.err = 0
  · have he' : (m.err != 0) = false := by simp [he]
    have HE := Lib.hid he
    clear he
    go_enter Try.func25, Try.ntmps25
    go_wp2_with fail
    refine (HT.out).mono ?_
    rintro e w1 ⟨tn, tcn, to, tco, t, rfl, ht, hmt, hb1⟩
    clear HT
    have hs1 : w.heap.size + 2 ≤ w1.heap.size := by have := hb1.size; simpa using this
    have hB1 : Below (w.heap.size + 2) ((w.alloc (.cells #[.int .i64 m.inputs, .int .i64 m.start, .slice an m.next.length cn, .slice ao m.out.length co] 24)).alloc (.cells #[.int .i64 0, .int .i64 0, .slice none 0 0, .slice none 0 0] 24)) w1 := hb1.mono (by simp)
    have hblk1 : Hid (w1.heap[w.heap.size + 1]? = some (.cells #[.int .i64 0, .int .i64 0, .slice none 0 0, .slice none 0 0] 24)) := by
      have h1 := hB1.block (w.heap.size + 1) (by omega)
      unfold Hid
      rw [h1]
      have := heap_alloc_new (w.alloc (.cells #[.int .i64 m.inputs, .int .i64 m.start, .slice an m.next.length cn, .slice ao m.out.length co] 24)) (.cells #[.int .i64 0, .int .i64 0, .slice none 0 0, .slice none 0 0] 24)
      simpa using this
    have hBw1 : Below w.heap.size w w1 := (((Below.refl _ _).alloc (Nat.le_refl _) _).alloc (by simp) _).trans (hB1.mono (by omega))
    have hmt' : Ma (fun k => k < w.heap.size + 2) w1 tn tcn to tco t := by simpa using hmt
    have HTE : Hid (t.err = 0) := by unfold Hid; rw [ht.out]; exact Mach.trimOf_err HE.out
    have hte' : (t.err != 0) = false := by simp [HTE.out]
    have HOK := Lib.hid (t.ok_of_err HTE.out)
    have HC := Lib.hid (classes_any (hmt'.ext (Ext.alloc _ w1 (.cells #[.int .i64 t.inputs, .int .i64 t.start, .slice tn t.next.length tcn, .slice to t.out.length tco] 24))))
    have HMT := Lib.hid hmt'
    clear hb1 hB1 hmt hmt'
    go_wp2_with fail
    refine (HC.out).mono ?_
    rintro e w2 ⟨ac, cc, cls, rfl, hcls, hsc, hb2⟩
    clear HC
    have hs2 : w1.heap.size + 1 ≤ w2.heap.size := by have := hb2.size; simpa using this
    have hB2 : Below (w1.heap.size + 1) (w1.alloc (.cells #[.int .i64 t.inputs, .int .i64 t.start, .slice tn t.next.length tcn, .slice to t.out.length tco] 24)) w2 := hb2.mono (by simp)
    have hBw2 : Below w1.heap.size w1 w2 := ((Below.refl _ _).alloc (Nat.le_refl _) _).trans (hB2.mono (by omega))
    have hS : Sl (fun k => k < w1.heap.size + 1) w2 ac cc cls := by simpa using hsc
    have hM2 : Ma (fun k => k < w.heap.size + 2) w2 tn tcn to tco t := HMT.out.below hBw2
    have hcl0 : Hid (cls.length = t.next.length) := by
      unfold Hid
      rw [hcls.out]; unfold Mach.partOf; rw [if_pos HTE.out, Mach.part_length]
    have hbt : ∀ o, w2.cell? ⟨w1.heap.size, o, none⟩ = _ := fun o => hB2.cell (by simp)
    have n1 := HOK.out.n1
    have hcl1 : cls.length ≤ t.next.length := Nat.le_of_eq hcl0.out
    have hcl2 : t.next.length ≤ cls.length := Nat.le_of_eq hcl0.out.symm
    have hMk0 := Mk.init w2 t.inputs 0
    have hB0 : Below w2.heap.size w2 (w2.alloc (.cells #[.int .i64 t.inputs, .int .i64 0, .slice none 0 0, .slice none 0 0] 24)) := (Below.refl _ _).alloc (Nat.le_refl _) _
    clear hb2 hsc HMT hB2
    go_wp2
    go_loopw [36] (fun i wr => ∃ (k : Nat) (M : Nat → Prop) (aN : Option Addr) (cN : Nat) (rN : List (List Int)) (aO : Option Addr) (cO : Nat) (rO : List (List Int)), k ≤ cls.length ∧ i = .int .i64 k ∧
      Hid (rN = (reps cls k).map (t.minRow cls) ∧ rO = (reps cls k).map fun s => t.out.getD s []) ∧ Mk w2.heap.size M wr w2.heap.size t.inputs 0 aN cN rN aO cO rO ∧ Below w2.heap.size w2 wr) (fun i _ => cls.length - (intOf i).toNat)
    case atStart => exact ⟨0, _, none, 0, [], none, 0, [], by omega, rfl, ⟨rfl, rfl⟩, hMk0, hB0⟩
    case round =>
      clear hMk0 hB0
      obtain ⟨k, M, aN, cN, rN, aO, cO, rO, hk, rfl, hR, hMk, hBo⟩ := hrel
      obtain ⟨w4, rfl⟩ : ∃ w4 : World, w4 = wr := ⟨_, rfl⟩
      have hs4 : w2.heap.size < w4.heap.size := hMk.bolt
      have hbx4 : ∀ o, w4.cell? ⟨w1.heap.size, o, none⟩ = w2.cell? ⟨w1.heap.size, o, none⟩ := fun o => hBo.cell (by simp; omega)
      obtain ⟨hk0, hk1, hk2, hk3, hkf⟩ := hMk.cells
      have hrl : rN.length ≤ k := by rw [hR.out.1, List.length_map]; exact reps_le _ _
      have hrlo : rO.length ≤ k := by rw [hR.out.2, List.length_map]; exact reps_le _ _
      have hrr : Hid ((reps cls k).length = rN.length) := by unfold Hid; rw [hR.out.1, List.length_map]
      by_cases hlt : k < cls.length
      · have hS4 := hS.below hBo
        obtain ⟨bs, os, x, rfl, hxc, hx0, -⟩ := hS4.at_int hlt
        have hgx : Hid (cls.getD k 0 = x) := getD_of_some hx0.out
        by_cases hold : x < (rN.length : Int)
        · have hR2 : Hid (rN = (reps cls (k + 1)).map (t.minRow cls) ∧ rO = (reps cls (k + 1)).map fun s => t.out.getD s []) := by
            rw [reps_old (by rw [hgx.out, hrr.out]; exact hold)]
            exact hR
          go_wp2
          go_roundw
          case rel => exact ⟨k + 1, M, aN, cN, rN, aO, cO, rO, by omega, by go_num, hR2, hMk, hBo⟩
          case measure => simp [intOf]; omega
        · have hkn : k < t.next.length := by omega
          have hko : k < t.out.length := by have := HOK.out.lo; omega
          have hM4 := hM2.below (hBo.mono (Nat.le_refl _))
          obtain ⟨bn, on, a1, r1, c1, han, hn1, hr1, hS1⟩ := hM4.next.at_row hkn
          obtain ⟨bq, oq, a2, r2, c2, hao, hn2, hr2, hS2⟩ := hM4.out.at_row hko
          subst han
          subst hao
          have hbnw : bn < w4.heap.size := by have := hM2.next.lt hkn; omega
          have hbqw : bq < w4.heap.size := by have := hM2.out.lt hko; omega
          have e1 : Hid (r1.length = t.inputs.toNat) := by have := HOK.out.rn k hkn; rw [getD_of_some hr1.out] at this; unfold Hid; omega
          have e2 : Hid (r2.length = t.inputs.toNat) := by have := HOK.out.ro k hkn; rw [getD_of_some hr2.out] at this; unfold Hid; omega
          have hi1 := HOK.out.i1
          have hi0 := HOK.out.i0
          have r1le : r1.length ≤ 64 := by have := e1.out; omega
          have hO0 : Ow w4.heap.size (fun k => w4.heap.size ≤ k) w4 3 (.slice none ([] : List Int).length 0) ([] : List Int) := Ow.nil
          go_wp2
          go_loopw [52, 10] (fun i v wr => ∃ (j : Nat) (a5 : Option Addr) (c5 : Nat) (row : List Int), j ≤ r1.length ∧ i = .int .i64 j ∧ v = .slice a5 row.length c5 ∧ Hid (row = (r1.take j).map (fun n => cls.getD n.toNat 0)) ∧
            Ow w4.heap.size (fun k => w4.heap.size ≤ k) wr 3 (.slice a5 row.length c5) row ∧ Below w4.heap.size w4 wr) (fun i _ _ => r1.length - (intOf i).toNat)
          case atStart => exact ⟨0, none, 0, [], by omega, rfl, rfl, rfl, hO0, Below.refl _ _⟩
          case round =>
            clear hO0
            obtain ⟨j, a5, c5, row, hj, rfl, rfl, hrow, hO6, hB6⟩ := hrel
            obtain ⟨w6, rfl⟩ : ∃ w6 : World, w6 = wr := ⟨_, rfl⟩
            have hs6 : w4.heap.size ≤ w6.heap.size := hB6.size
            have hrlen : row.length ≤ r1.length := by rw [hrow.out]; simp; omega
            by_cases hlj : j < r1.length
            · have hS16 := hS1.below hB6
              obtain ⟨b3, o3, t0, rfl, htc, ht0, -⟩ := hS16.at_int hlj
              have htr := Mach.row_range HOK.out hkn (x := t0) (by rw [getD_of_some hr1.out]; exact List.mem_of_getElem? ht0.out)
              obtain ⟨q, rfl⟩ := Int.eq_ofNat_of_zero_le htr.1
              have hqn : q < cls.length := by omega
              have hS6 := hS4.below hB6
              obtain ⟨bs', os', y, hbs, hyc, hy, hyi⟩ := hS6.at_int hqn
              obtain ⟨rfl, rfl⟩ : bs = bs' ∧ os = os' := by simpa using hbs
              have hrow2 : Hid (row ++ [y] = (r1.take (j + 1)).map (fun n => cls.getD n.toNat 0)) := by
                unfold Hid
                rw [map_take_succ' _ ht0.out, hrow.out, Int.toNat_natCast, getD_of_some hy.out]
              go_wp2_with (at_builtin; refine wpList_push_i (B := w4.heap.size) (l := row) (y := y) rfl rfl Try.underlying27 info_int rfl rfl (hO6.alloc _) (by simp [go_sem]) hyi.out (by omega) (by simp; omega) ?_)
              intro a7 c7 l7 w7 hl7 hO7 hb7
              have hB7 : Below w4.heap.size w4 w7 := (hB6.alloc (by omega) _).trans hb7
              go_wp2
              go_roundw
              case rel => exact ⟨j + 1, a7, c7, l7, by omega, by go_num, rfl, by rw [hl7.out]; exact hrow2, hO7, hB7⟩
              case measure => simp [intOf]; omega
            · have hrowf : Hid (row = t.minRow cls k) := by
                unfold Hid Mach.minRow
                rw [hrow.out, List.take_of_length_le (by omega), getD_of_some hr1.out]
              have hMk6 := hMk.below hB6
              have hBo6 : Below w2.heap.size w2 w6 := hBo.trans (hB6.mono (by omega))
              have hrow6 : Sl M w6 a5 c5 row := hO6.anyM.toSl fun k hk => hMk.notM (hO6.lt k hk).1
              have hrN : rN.length < 1000000000000 := by omega
              have hrO : rO.length < 1000000000000 := by omega
              have hmN : ∀ k, (Value.slice aN rN.length cN).ownBlock = some k → M k := fun k hk => (hMk.mn k hk).1
              obtain ⟨hk0, hk1, hk2, hk3, hkf⟩ := hMk6.cells
              have hb63 : w6.cell? ⟨w1.heap.size, 3, none⟩ = some (.slice (some ⟨bq, oq, none⟩) t.out.length tco) := (hB6.cell (p := ⟨w1.heap.size, 3, none⟩) (by simp; omega)).trans ((hbx4 3).trans (by simp [hbt]))
              have hn26 : w6.cell? ⟨bq, oq + k, none⟩ = some (.slice a2 r2.length c2) := (hB6.cell (p := ⟨bq, oq + k, none⟩) hbqw).trans hn2
              have hS26 := hS2.below hB6
              have hbqw2 : bq < w2.heap.size := by have := hM2.out.lt hko; omega
              clear hO6 hMk hS4 hxc hbx4 hn1 hS1
              go_wp2_with (at_builtin; refine wpList_push_row (r := row) (ar := a5) (cr := c5) rfl rfl Try.underlying22 info_ints rfl rfl (hMk6.n.alloc _) hmN (by simp [go_sem]) (hrow6.alloc _) hrN (by simp; omega) ?_)
              intro a7 c7 rN7 w7 hrN7 hOw7 hbk7 hgr7
              have hMk7 := (hMk6.alloc (.cells #[.slice a5 row.length c5] 27)).pushN (by simpa using hOw7) (fun k hk => by simpa using (hbk7.out k hk).1) hgr7 (fun k hk => (hbk7.out k hk).2)
              have hbo7 : ∀ b, b < w2.heap.size + 1 → w7.heap[b]? = w6.heap[b]? := fun b hb => (hgr7.block b (by simp; omega) (fun e => by have h1 := hMk6.mn b e.symm; have h2 := (hMk6.n.lt b e.symm).1; omega)).trans (Below.heap_alloc _ _ _ (by omega))
              have hc7 : ∀ o, w7.cell? ⟨w2.heap.size, o, none⟩ = w6.cell? ⟨w2.heap.size, o, none⟩ := fun o => World.cell?_of_block (w := w6) (hbo7 _ (by simp))
              have hf7 : ∀ o, w7.frozen? ⟨w2.heap.size, o, none⟩ = false := fun o => (World.frozen?_of_block (w := w6) (hbo7 _ (by simp))).trans (hkf o)
              have hB8 : Below w2.heap.size w2 (w7.setCell ⟨w2.heap.size, 2, none⟩ (.slice a7 rN7.length c7)) := by
                refine Below.setCell ?_ (by simp) _
                exact (hBo6.alloc (by omega) _).grown hgr7 (by simp; omega) (fun j hj => (hMk6.n.lt j hj).1)
              have HM7 := Lib.hid hMk7
              have HB8 := Lib.hid hB8
              clear hbo7 hOw7 hbk7 hgr7 hMk7 hB8
              go_wp2
              obtain ⟨M8, HM8⟩ : ∃ M8, Hid (Mk w2.heap.size M8 (w7.setCell ⟨w2.heap.size, 2, none⟩ (.slice a7 rN7.length c7)) w2.heap.size t.inputs 0 a7 c7 rN7 aO cO rO) := ⟨_, HM7.out⟩
              clear HM7 hc7 hf7
              generalize w7.setCell ⟨w2.heap.size, 2, none⟩ (.slice a7 rN7.length c7) = w8 at *
              have hMk8 := HM8.out
              have hB8 := HB8.out
              have hM8 := hM2.below hB8
              obtain ⟨bq', oq', a3, r3, c3, hao', hn3, hr3, hS3⟩ := hM8.out.at_row hko
              obtain ⟨rfl, rfl⟩ : bq = bq' ∧ oq = oq' := by simpa using hao'
              obtain rfl : r2 = r3 := by have h1 := hr2.out; have h2 := hr3.out; rw [h1] at h2; simpa using h2
              have hb83 : w8.cell? ⟨w1.heap.size, 3, none⟩ = some (.slice (some ⟨bq, oq, none⟩) t.out.length tco) := (hB8.cell (p := ⟨w1.heap.size, 3, none⟩) (by simp; omega)).trans (by simp [hbt])
              obtain ⟨-, -, -, hk83, hk8f⟩ := hMk8.cells
              have hs8 : w2.heap.size < w8.heap.size := hMk8.bolt
              obtain ⟨bp, op, hap⟩ : ∃ bp op, a3 = some ⟨bp, op, none⟩ := by
                obtain ⟨b', o', _, h1, _⟩ := hS3.at_int (j := 0) (by rw [e2.out]; omega)
                exact ⟨b', o', h1⟩
              subst hap
              clear hbt hk0 hk1 hk2 hk3 hkf hMk6 hrow6 hb63 hn26 hS26 hn2
              refine wp_region_L (fun w' => w'.cell? ⟨w1.heap.size, 3, none⟩ = some (.slice (some ⟨bq, oq, none⟩) t.out.length tco) ∧ w'.cell? ⟨bq, oq + k, none⟩ = some (.slice (some ⟨bp, op, none⟩) r2.length c3) ∧ w'.cell? ⟨w2.heap.size, 3, none⟩ = some (.slice aO rO.length cO)) [0, 1, 3, 4, 5, 6, 7] (by kernel_rfl) ?_
              have hSS : w8.drew.cell? ⟨w1.heap.size, 3, none⟩ = some (.slice (some ⟨bq, oq, none⟩) t.out.length tco) ∧ w8.drew.cell? ⟨bq, oq + k, none⟩ = some (.slice (some ⟨bp, op, none⟩) r2.length c3) ∧ w8.drew.cell? ⟨w2.heap.size, 3, none⟩ = some (.slice aO rO.length cO) := ⟨by simpa using hb83, by simpa using hn3, by simpa using hk83⟩
              refine wpAnyL_take (i := 0) (v := ?v1) rfl (by kernel_rfl) (by kernel_rfl) (by kernel_rfl) (by kernel_rfl) (fun _ _ _ h => h) (Or.inl ⟨by rfl, ?y1⟩) (by assumption) ?r1
              case y1 => (intro w' hSw; (try dsimp only at hSw); go_simp; try with_reducible rfl)
              try simp only [Act.put, List.setIfInBounds_toArray, List.set_cons_zero, List.set_cons_succ]
              refine wpAnyL_take (i := 1) (v := ?v2) rfl (by kernel_rfl) (by kernel_rfl) (by kernel_rfl) (by kernel_rfl) (fun _ _ _ h => h) (Or.inl ⟨by rfl, ?y2⟩) (by assumption) ?r2
              case y2 => (intro w' hSw; (try dsimp only at hSw); go_simp; try with_reducible rfl)
              try simp only [Act.put, List.setIfInBounds_toArray, List.set_cons_zero, List.set_cons_succ]
              refine wpAnyL_take (i := 3) (v := ?v3) rfl (by kernel_rfl) (by kernel_rfl) (by kernel_rfl) (by kernel_rfl) (fun _ _ _ h => h) (Or.inl ⟨by rfl, ?y3⟩) (by assumption) ?r3
              case y3 => (intro w' hSw; (try dsimp only at hSw); go_simp; try with_reducible rfl)
              try simp only [Act.put, List.setIfInBounds_toArray, List.set_cons_zero, List.set_cons_succ]
              refine wpAnyL_take (i := 4) (v := ?v4) rfl (by kernel_rfl) (by kernel_rfl) (by kernel_rfl) (by kernel_rfl) (fun _ _ _ h => h) (Or.inl ⟨by rfl, ?y4⟩) (by assumption) ?r4
              case y4 => (intro w' hSw; (try dsimp only at hSw); go_simp; try with_reducible rfl)
              try simp only [Act.put, List.setIfInBounds_toArray, List.set_cons_zero, List.set_cons_succ]
              refine wpAnyL_take (i := 5) (v := ?v5) rfl (by kernel_rfl) (by kernel_rfl) (by kernel_rfl) (by kernel_rfl) (fun _ _ _ h => h) (Or.inl ⟨by rfl, ?y5⟩) (by assumption) ?r5
              case y5 => (intro w' hSw; (try dsimp only at hSw); go_simp; try with_reducible rfl)
              try simp only [Act.put, List.setIfInBounds_toArray, List.set_cons_zero, List.set_cons_succ]
              refine wpAnyL_take (i := 6) (v := ?v6) rfl (by kernel_rfl) (by kernel_rfl) (by kernel_rfl) (by kernel_rfl) (fun _ _ _ h => h) (Or.inl ⟨by rfl, ?y6⟩) (by assumption) ?r6
              case y6 => (intro w' hSw; (try dsimp only at hSw); go_simp; try with_reducible rfl)
              try simp only [Act.put, List.setIfInBounds_toArray, List.set_cons_zero, List.set_cons_succ]
              refine wpAnyL_take (i := 7) (v := ?v7) rfl (by kernel_rfl) (by kernel_rfl) (by kernel_rfl) (by kernel_rfl) (fun _ _ _ h => h) (Or.inl ⟨by rfl, ?y7⟩) (by assumption) ?r7
              case y7 => (intro w' hSw; (try dsimp only at hSw); go_simp; try with_reducible rfl)
              try simp only [Act.put, List.setIfInBounds_toArray, List.set_cons_zero, List.set_cons_succ]
              refine wpAnyL_one (i := 2) (by kernel_rfl) rfl rfl (fun K hK => ?_)
              go_simp
              have ha9 : ∀ p : Addr, p.block < w8.drew.heap.size → (w8.drew.alloc (.cells #[] 3)).cell? p = w8.drew.cell? p := fun p hp => ((Below.refl _ _).alloc (Nat.le_refl _) _).cell hp
              refine hK _ _ (fun _ => ⟨(ha9 _ (by simp; omega)).trans hSS.1, (ha9 _ (by simp; omega)).trans hSS.2.1, (ha9 _ (by simp; omega)).trans hSS.2.2⟩) ?_
              clear hK K ha9
              have hr3l : r2.length < 1000000000000 := by rw [e2.out]; omega
              refine wpAnyL_one (i := 8) (by kernel_rfl) rfl rfl (fun K hK => ?_)
              refine wp_app_ints (B := w8.drew.heap.size) (l0 := []) (l1 := r2) rfl Try.underlying27 info_int rfl rfl (Ow.zero (M := fun k => w8.drew.heap.size ≤ k) (w := w8.drew) (Nat.le_refl _)) (hS3.drew.alloc _) (by simpa using hr3l) (by simp) ?_
              intro a9 c9 l9 w9 hl9 hO9 hb9
              have hb9' : Below w8.heap.size w8.drew w9 := ((Below.refl _ _).alloc (by simp) _).trans hb9
              have hMk9 := hMk8.drew.below hb9'
              have hs9 : w2.heap.size < w9.heap.size := hMk9.bolt
              have hs98 : w8.heap.size ≤ w9.heap.size := by have := hb9'.size; simpa using this
              obtain ⟨-, -, -, hk93, hk9f⟩ := hMk9.cells
              have hSS9 : w9.cell? ⟨w1.heap.size, 3, none⟩ = some (.slice (some ⟨bq, oq, none⟩) t.out.length tco) ∧ w9.cell? ⟨bq, oq + k, none⟩ = some (.slice (some ⟨bp, op, none⟩) r2.length c3) ∧ w9.cell? ⟨w2.heap.size, 3, none⟩ = some (.slice aO rO.length cO) :=
                ⟨(hb9'.cell (p := ⟨w1.heap.size, 3, none⟩) (by simp; omega)).trans hSS.1, (hb9'.cell (p := ⟨bq, oq + k, none⟩) (by simp; omega)).trans hSS.2.1, hk93⟩
              refine hK _ _ (fun _ => hSS9) ?_
              clear hK K
              have hMk9a := hMk9.alloc (.cells #[.slice a9 l9.length c9] 27)
              have hMq : ∀ q, M8 q → q < w8.heap.size := fun q hq => by
                by_cases h : q < w2.heap.size
                · omega
                · exact hMk8.lt q (by omega) hq
              have ha9 : ∀ p : Addr, p.block < w9.heap.size → (w9.alloc (.cells #[.slice a9 l9.length c9] 27)).cell? p = w9.cell? p := fun p hp => ((Below.refl _ _).alloc (Nat.le_refl _) _).cell hp
              have HA9 := Lib.hid ha9
              have HMQ := Lib.hid hMq
              clear ha9 hMq
              have hSr9 : Sl M8 (w9.alloc (.cells #[.slice a9 l9.length c9] 27)) a9 c9 l9 := ((hO9.fresh (Nat.le_refl _)).anti (fun q _ hq => HMQ.out q hq)).alloc _
              clear hO9
              refine wpAnyL_one (i := 9) (by kernel_rfl) rfl rfl (fun K hK => ?_)
              go_simp
              refine hK _ _ (fun _ => ⟨(HA9.out _ (by simp; omega)).trans hSS9.1, (HA9.out _ (by simp; omega)).trans hSS9.2.1, (HA9.out _ (by simp; omega)).trans hSS9.2.2⟩) ?_
              clear hK K
              refine wpAnyL_one (i := 10) (by kernel_rfl) rfl rfl (fun K hK => ?_)
              refine wp_push_row (r := l9) (ar := a9) (cr := c9) rfl Try.underlying22 info_ints rfl rfl hMk9a.o (fun k hk => (hMk9a.mo k hk).1) (by simp [go_sem]) hSr9 hrO (by simp; omega) ?_
              intro a10 c10 rO10 w10 hrO10 hOw10 hbk10 hgr10
              have hbo10 : ∀ b, b < w2.heap.size + 1 → w10.heap[b]? = (w9.alloc (.cells #[.slice a9 l9.length c9] 27)).heap[b]? := fun b hb => hgr10.block b (by simp; omega) (fun e => by have h1 := hMk9a.mo b e.symm; have h2 := (hMk9a.o.lt b e.symm).1; omega)
              have hc10 : ∀ b o, b < w2.heap.size + 1 → w10.cell? ⟨b, o, none⟩ = w9.cell? ⟨b, o, none⟩ := fun b o hb => (World.cell?_of_block (a := ⟨b, o, none⟩) (hbo10 b hb)).trans (HA9.out _ (by simp; omega))
              have HC10 := Lib.hid hc10
              have hf10 : ∀ o, w10.frozen? ⟨w2.heap.size, o, none⟩ = false := fun o => (World.frozen?_of_block (a := ⟨w2.heap.size, o, none⟩) (hbo10 _ (by simp))).trans (frozen_of_row _ _ _ _ _ hMk9a.blk)
              have hk10 := (HC10.out w2.heap.size 3 (by omega)).trans hSS9.2.2
              have hMk10 := hMk9a.pushO hOw10 (fun k hk => (hbk10.out k hk).1) hgr10 (fun k hk => (hbk10.out k hk).2)
              have hB10 : Below w2.heap.size w2 (w10.setCell ⟨w2.heap.size, 3, none⟩ (.slice a10 rO10.length c10)) := by
                refine Below.setCell ?_ (by simp) _
                exact (((hB8.drew).trans (hb9'.mono (by omega))).alloc (by omega) _).grown hgr10 (by simp; omega) (fun j hj => (hMk9a.o.lt j hj).1)
              have hR2 : Hid (rN7 = (reps cls (k + 1)).map (t.minRow cls) ∧ rO10 = (reps cls (k + 1)).map fun s => t.out.getD s []) := by
                rw [reps_new (by rw [hgx.out, hrr.out]; omega)]
                refine ⟨?_, ?_⟩
                · rw [hrN7.out, hR.out.1, List.map_append, hrowf.out]; rfl
                · rw [hrO10.out, hR.out.2, hl9.out, List.map_append, List.nil_append, List.map_cons, List.map_nil, getD_of_some hr2.out]
              clear hc10 hbo10
              refine hK _ _ (fun _ => ⟨(HC10.out _ _ (by omega)).trans hSS9.1, (HC10.out _ _ (by omega)).trans hSS9.2.1, hk10⟩) ?_
              clear hK K
              have HMk10 := Lib.hid hMk10
              have HB10 := Lib.hid hB10
              clear hMk10 hB10 hOw10 hbk10 hgr10 hSS9 hSS
              refine wpAnyL_late (i := 11) (by kernel_rfl) (by kernel_rfl) rfl rfl (fun K hK => ?_)
              go_simp
              refine hK _ _ ?_
              clear hK K
              refine wpAnyL_late (i := 12) (by kernel_rfl) (by kernel_rfl) rfl rfl (fun K hK => ?_)
              go_simp
              refine hK _ _ ?_
              clear hK K
              refine wpAnyL_done (by kernel_rfl) ?_ _
              go_wp2
              go_roundw
              case rel => exact ⟨k + 1, _, a7, c7, rN7, a10, c10, rO10, by omega, by go_num, hR2, HMk10.out, HB10.out⟩
              case measure => simp [intOf]; omega
      · have hblk4 : Hid (w4.heap[w.heap.size + 1]? = some (.cells #[.int .i64 0, .int .i64 0, .slice none 0 0, .slice none 0 0] 24)) :=
          (hBo.block (w.heap.size + 1) (by omega)).trans ((hBw2.block (w.heap.size + 1) (by omega)).trans hblk1.out)
        obtain ⟨k0, k1, k2, k3⟩ := cells4 hblk4.out
        have kf : ∀ o, w4.frozen? ⟨w.heap.size + 1, o, none⟩ = false := fun o => frozen_of_row _ _ _ _ _ hblk4.out
        have hBw4 : Below w.heap.size w w4 := hBw1.trans ((hBw2.mono (by omega)).trans (hBo.mono (by omega)))
        go_wp2
        obtain ⟨q0, q1, q2, q3⟩ := cells4 (set4 (y0 := .int .i64 t.inputs) (y1 := .int .i64 0) (y2 := .slice aN rN.length cN) (y3 := .slice aO rO.length cO) hblk4.out)
        have hM1 : M (w.heap.size + 1) := hMk.old _ (by omega)
        have hMf : Mk w2.heap.size M ((((w4.setCell ⟨w.heap.size + 1, 0, none⟩ (.int .i64 t.inputs)).setCell ⟨w.heap.size + 1, 1, none⟩ (.int .i64 0)).setCell ⟨w.heap.size + 1, 2, none⟩ (.slice aN rN.length cN)).setCell ⟨w.heap.size + 1, 3, none⟩ (.slice aO rO.length cO)) w2.heap.size t.inputs 0 aN cN rN aO cO rO :=
          hMk.ext ((((Ext.setCell _ (p := ⟨w.heap.size + 1, 0, none⟩) hM1 _).trans (Ext.setCell _ (p := ⟨w.heap.size + 1, 1, none⟩) hM1 _)).trans (Ext.setCell _ (p := ⟨w.heap.size + 1, 2, none⟩) hM1 _)).trans (Ext.setCell _ (p := ⟨w.heap.size + 1, 3, none⟩) hM1 _))
            (fun q hq _ => by rw [Below.heap_setCell _ _ _ _ (by simp; omega), Below.heap_setCell _ _ _ _ (by simp; omega), Below.heap_setCell _ _ _ _ (by simp; omega), Below.heap_setCell _ _ _ _ (by simp; omega)])
        have hBf : Below w.heap.size w ((((w4.setCell ⟨w.heap.size + 1, 0, none⟩ (.int .i64 t.inputs)).setCell ⟨w.heap.size + 1, 1, none⟩ (.int .i64 0)).setCell ⟨w.heap.size + 1, 2, none⟩ (.slice aN rN.length cN)).setCell ⟨w.heap.size + 1, 3, none⟩ (.slice aO rO.length cO)) :=
          Below.setCell (Below.setCell (Below.setCell (Below.setCell hBw4 (by simp) _) (by simp) _) (by simp) _) (by simp) _
        generalize ((((w4.setCell ⟨w.heap.size + 1, 0, none⟩ (.int .i64 t.inputs)).setCell ⟨w.heap.size + 1, 1, none⟩ (.int .i64 0)).setCell ⟨w.heap.size + 1, 2, none⟩ (.slice aN rN.length cN)).setCell ⟨w.heap.size + 1, 3, none⟩ (.slice aO rO.length cO)) = wf at *
        refine bodyPost_ret (v := .tuple #[.agg #[.int .i64 t.inputs, .int .i64 0, .slice aN rN.length cN, .slice aO rO.length cO], .int .i64 0]) (by simp [results, Try.results25, go_sem, q0, q1, q2, q3]) rfl ⟨aN, cN, aO, cO, ⟨t.inputs, 0, rN, rO⟩, ?_, ?_, hMf.toMa (by have := HOK.out.i0; have := HOK.out.i1; unfold i64; omega) (by unfold i64; omega) (by omega), hBf⟩
        · rw [HE.out]
        · have hkc : k = cls.length := by omega
          have htt : t = m.trim := by rw [ht.out]; unfold Mach.trimOf; rw [if_pos HE.out]
          unfold Hid Mach.minOf Mach.minBy
          rw [if_pos HE.out, hR.out.1, hR.out.2, hkc, ← htt, ← hcls.out]
  · have he' : (m.err != 0) = true := by simp [he]
    have HE := Lib.hid he
    clear he
    go_enter Try.func25, Try.ntmps25
    go_wp2_with fail
    refine (HT.out).mono ?_
    rintro e w1 ⟨tn, tcn, to, tco, t, rfl, ht, hmt, hb1⟩
    clear HT
    have hs1 : w.heap.size + 2 ≤ w1.heap.size := by have := hb1.size; simpa using this
    have hB1 : Below (w.heap.size + 2) ((w.alloc (.cells #[.int .i64 m.inputs, .int .i64 m.start, .slice an m.next.length cn, .slice ao m.out.length co] 24)).alloc (.cells #[.int .i64 0, .int .i64 0, .slice none 0 0, .slice none 0 0] 24)) w1 := hb1.mono (by simp)
    have hblk0 : Hid (w1.heap[w.heap.size + 1]? = some (.cells #[.int .i64 0, .int .i64 0, .slice none 0 0, .slice none 0 0] 24)) := by
      have h1 := hB1.block (w.heap.size + 1) (by omega)
      unfold Hid
      rw [h1]
      have := heap_alloc_new (w.alloc (.cells #[.int .i64 m.inputs, .int .i64 m.start, .slice an m.next.length cn, .slice ao m.out.length co] 24)) (.cells #[.int .i64 0, .int .i64 0, .slice none 0 0, .slice none 0 0] 24)
      simpa using this
    have hblk : Hid ((w1.alloc (.cells #[.int .i64 t.inputs, .int .i64 t.start, .slice tn t.next.length tcn, .slice to t.out.length tco] 24)).heap[w.heap.size + 1]? = some (.cells #[.int .i64 0, .int .i64 0, .slice none 0 0, .slice none 0 0] 24)) :=
      (Below.heap_alloc _ _ _ (by omega)).trans hblk0.out
    have hBw1 : Below w.heap.size w (w1.alloc (.cells #[.int .i64 t.inputs, .int .i64 t.start, .slice tn t.next.length tcn, .slice to t.out.length tco] 24)) := ((((Below.refl _ _).alloc (Nat.le_refl _) _).alloc (by simp) _).trans (hB1.mono (by omega))).alloc (by omega) _
    obtain ⟨k0, k1, k2, k3⟩ := cells4 hblk.out
    have kf : ∀ o, (w1.alloc (.cells #[.int .i64 t.inputs, .int .i64 t.start, .slice tn t.next.length tcn, .slice to t.out.length tco] 24)).frozen? ⟨w.heap.size + 1, o, none⟩ = false := fun o => frozen_of_row _ _ _ _ _ hblk.out
    have kw : ∀ o, w1.frozen? ⟨w.heap.size + 1, o, none⟩ = false := fun o => frozen_of_row _ _ _ _ _ hblk0.out
    obtain ⟨j0, j1, j2, j3⟩ := cells4 hblk0.out
    clear hb1 hB1
    go_wp2
    obtain ⟨q0, q1, q2, q3⟩ := cells4 (set4 (y0 := .int .i64 0) (y1 := .int .i64 0) (y2 := .slice none 0 0) (y3 := .slice none 0 0) hblk.out)
    generalize (w1.alloc (.cells #[.int .i64 t.inputs, .int .i64 t.start, .slice tn t.next.length tcn, .slice to t.out.length tco] 24)) = w1a at *
    have hBf : Below w.heap.size w ((((w1a.setCell ⟨w.heap.size + 1, 0, none⟩ (.int .i64 0)).setCell ⟨w.heap.size + 1, 1, none⟩ (.int .i64 0)).setCell ⟨w.heap.size + 1, 2, none⟩ (.slice none 0 0)).setCell ⟨w.heap.size + 1, 3, none⟩ (.slice none 0 0)) :=
      Below.setCell (Below.setCell (Below.setCell (Below.setCell hBw1 (by simp) _) (by simp) _) (by simp) _) (by simp) _
    generalize ((((w1a.setCell ⟨w.heap.size + 1, 0, none⟩ (.int .i64 0)).setCell ⟨w.heap.size + 1, 1, none⟩ (.int .i64 0)).setCell ⟨w.heap.size + 1, 2, none⟩ (.slice none 0 0)).setCell ⟨w.heap.size + 1, 3, none⟩ (.slice none 0 0)) = wf at *
    exact bodyPost_ret (v := .tuple #[.agg #[.int .i64 0, .int .i64 0, .slice none 0 0, .slice none 0 0], .int .i64 m.err]) (by simp [results, Try.results25, go_sem, q0, q1, q2, q3]) rfl ⟨none, 0, none, 0, Mach.nothing, rfl, by unfold Hid Mach.minOf; rw [if_neg HE.out], nothing_ma _ _, hBf⟩
end
end Go.Proofs.Ytdnmgiabgpilkaa
/- The program's Minimal. No condition beyond that the fields read as lists of lists. -/
namespace Go.Proofs.Ytdnmgiabgpilkaa
open Go.RowKit
def Mach.minimal (m : Mach) : Bool := decide (m.err = 0 ∧ m.reach.length = m.next.length ∧ m.minOf.next.length = m.next.length)
theorem Mach.minimal_err {m : Mach} (h : ¬ m.err = 0) : m.minimal = false := by simp [Mach.minimal, h]
theorem Mach.minimal_reach {m : Mach} (h : ¬ m.reach.length = m.next.length) : m.minimal = false := by simp [Mach.minimal, h]
theorem Mach.minimal_ok {m : Mach} (h : m.err = 0) (h2 : m.reach.length = m.next.length) : m.minimal = decide (m.minOf.next.length = m.next.length) := by simp [Mach.minimal, h, h2]
section
variable {M : Nat → Prop} {w : World} {an ao : Option Addr} {cn co : Nat} {m : Mach}

set_option maxHeartbeats 4000000 in
theorem minimal_any (hm : Ma M w an cn ao co m) :
    Calls Try.prog 28 #[maV m an cn ao co] w fun e w' => ∃ b, e = .returned (.bool b) ∧ Hid (b = m.minimal) ∧ Below w.heap.size w w' := by
  have HV := Lib.hid (valid_any ((hm.ext (Ext.alloc M w (.cells #[.int .i64 m.inputs, .int .i64 m.start, .slice an m.next.length cn, .slice ao m.out.length co] 24))).ext (Ext.drew _ _)))
  have HM := Lib.hid hm
  have ht : i64 m.inputs := hm.inputs
  clear hm
  by_cases he : m.err = 0
  · have he' : (m.err != 0) = false := by simp [he]
    have HE := Lib.hid he
    clear he
    go_enter Try.func28, Try.ntmps28
    go_wp2
    refine wp_region_L (fun w' => w'.cell? ⟨w.heap.size, 0, none⟩ = some (.int .i64 m.inputs) ∧ w'.cell? ⟨w.heap.size, 1, none⟩ = some (.int .i64 m.start) ∧ w'.cell? ⟨w.heap.size, 2, none⟩ = some (.slice an m.next.length cn) ∧ w'.cell? ⟨w.heap.size, 3, none⟩ = some (.slice ao m.out.length co)) [4, 7, 8, 9] (by kernel_rfl) ?_
    refine wpAnyL_one (i := 0) (by kernel_rfl) rfl rfl (fun K hK => ?_)
    go_simp
    refine hK _ _ (fun _ => by simp) ?_
    clear hK K
    refine wpAnyL_one (i := 1) (by kernel_rfl) rfl rfl (fun K hK => ?_)
    go_simp
    refine (HV.out).mono ?_
    rintro e w1 ⟨rfl, hb1⟩
    have hs1 : w.heap.size + 1 ≤ w1.heap.size := by have := hb1.size; simpa using this
    have hB1 : Below (w.heap.size + 1) ((w.alloc (.cells #[.int .i64 m.inputs, .int .i64 m.start, .slice an m.next.length cn, .slice ao m.out.length co] 24)).drew) w1 := hb1.mono (by simp)
    have hSS : w1.cell? ⟨w.heap.size, 0, none⟩ = some (.int .i64 m.inputs) ∧ w1.cell? ⟨w.heap.size, 1, none⟩ = some (.int .i64 m.start) ∧ w1.cell? ⟨w.heap.size, 2, none⟩ = some (.slice an m.next.length cn) ∧ w1.cell? ⟨w.heap.size, 3, none⟩ = some (.slice ao m.out.length co) :=
      ⟨(hB1.cell (by simp)).trans (by simp), (hB1.cell (by simp)).trans (by simp), (hB1.cell (by simp)).trans (by simp), (hB1.cell (by simp)).trans (by simp)⟩
    clear hb1
    refine hK _ _ (fun _ => hSS) ?_
    clear hK K
    refine wpAnyL_one (i := 2) (by kernel_rfl) rfl rfl (fun K hK => ?_)
    go_simp
    refine hK _ _ (fun _ => hSS) ?_
    clear hK K
    refine wpAnyL_one (i := 3) (by kernel_rfl) rfl rfl (fun K hK => ?_)
    go_simp
    refine hK _ _ (fun _ => hSS) ?_
    clear hK K
    have HR := Lib.hid (reach_any (((HM.out.ext (Ext.alloc M w (.cells #[.int .i64 m.inputs, .int .i64 m.start, .slice an m.next.length cn, .slice ao m.out.length co] 24))).ext (Ext.drew _ _)).below (by simpa using hB1)))
    refine wpAnyL_take (i := 4) (v := ?v8) rfl (by kernel_rfl) (by kernel_rfl) (by kernel_rfl) (by kernel_rfl) (fun _ _ _ h => h) (Or.inl ⟨by rfl, ?y8⟩) (by assumption) ?r8
    case y8 => (intro w' hSw; (try dsimp only at hSw); go_simp; try with_reducible rfl)
    try simp only [Act.put, List.setIfInBounds_toArray, List.set_cons_zero, List.set_cons_succ]
    refine wpAnyL_take (i := 7) (v := ?v9) rfl (by kernel_rfl) (by kernel_rfl) (by kernel_rfl) (by kernel_rfl) (fun _ _ _ h => h) (Or.inl ⟨by rfl, ?y9⟩) (by assumption) ?r9
    case y9 => (intro w' hSw; (try dsimp only at hSw); go_simp; try with_reducible rfl)
    try simp only [Act.put, List.setIfInBounds_toArray, List.set_cons_zero, List.set_cons_succ]
    refine wpAnyL_take (i := 8) (v := ?v10) rfl (by kernel_rfl) (by kernel_rfl) (by kernel_rfl) (by kernel_rfl) (fun _ _ _ h => h) (Or.inl ⟨by rfl, ?y10⟩) (by assumption) ?r10
    case y10 => (intro w' hSw; (try dsimp only at hSw); go_simp; try with_reducible rfl)
    try simp only [Act.put, List.setIfInBounds_toArray, List.set_cons_zero, List.set_cons_succ]
    refine wpAnyL_take (i := 9) (v := ?v11) rfl (by kernel_rfl) (by kernel_rfl) (by kernel_rfl) (by kernel_rfl) (fun _ _ _ h => h) (Or.inl ⟨by rfl, ?y11⟩) (by assumption) ?r11
    case y11 => (intro w' hSw; (try dsimp only at hSw); go_simp; try with_reducible rfl)
    try simp only [Act.put, List.setIfInBounds_toArray, List.set_cons_zero, List.set_cons_succ]
    refine wpAnyL_one (i := 5) (by kernel_rfl) rfl rfl (fun K hK => ?_)
    go_simp
    refine (HR.out).mono ?_
    rintro e w2 ⟨ar, cr, l, rfl, hl, -, hb2⟩
    have hs2 : w.heap.size + 1 ≤ w2.heap.size := by have := hb2.size; omega
    have hB2 : Below (w.heap.size + 1) ((w.alloc (.cells #[.int .i64 m.inputs, .int .i64 m.start, .slice an m.next.length cn, .slice ao m.out.length co] 24)).drew) w2 := hB1.trans (hb2.mono hs1)
    have hlr : Hid (l = m.reach) := by have := hl.out; unfold Mach.reachOf at this; rwa [if_pos HE.out] at this
    have hS2 : w2.cell? ⟨w.heap.size, 0, none⟩ = some (.int .i64 m.inputs) ∧ w2.cell? ⟨w.heap.size, 1, none⟩ = some (.int .i64 m.start) ∧ w2.cell? ⟨w.heap.size, 2, none⟩ = some (.slice an m.next.length cn) ∧ w2.cell? ⟨w.heap.size, 3, none⟩ = some (.slice ao m.out.length co) :=
      ⟨(hB2.cell (by simp)).trans (by simp), (hB2.cell (by simp)).trans (by simp), (hB2.cell (by simp)).trans (by simp), (hB2.cell (by simp)).trans (by simp)⟩
    refine hK _ _ (fun _ => hS2) ?_
    clear hK K HR HV
    have hll : l.length ≤ 9223372036854775807 := by rw [hlr.out]; have := Mach.reach_le (m.ok_of_err HE.out); have := (m.ok_of_err HE.out).n1; omega
    refine wpAnyL_one (i := 6) (by kernel_rfl) rfl rfl (fun K hK => ?_)
    go_simp
    refine hK _ _ (fun _ => hS2) ?_
    clear hK K
    refine wpAnyL_one (i := 10) (by kernel_rfl) rfl rfl (fun K hK => ?_)
    go_simp
    refine hK _ _ (fun _ => hS2) ?_
    clear hK K
    refine wpAnyL_one (i := 11) (by kernel_rfl) rfl rfl (fun K hK => ?_)
    go_simp
    refine hK _ _ (fun _ => hS2) ?_
    clear hK K
    refine wpAnyL_done (by kernel_rfl) ?_ _
    have hbx : ∀ o, w2.cell? ⟨w.heap.size, o, none⟩ = _ := fun o => hB2.cell (by simp)
    by_cases hrl : l.length = m.next.length
    · have HN := Lib.hid (min_any (((HM.out.ext (Ext.alloc M w (.cells #[.int .i64 m.inputs, .int .i64 m.start, .slice an m.next.length cn, .slice ao m.out.length co] 24))).ext (Ext.drew _ _)).below (by simpa using hB2)))
      have hd : (((l.length : Nat) : Int) != ((m.next.length : Nat) : Int)) = false := by simp [hrl]
      have HL := Lib.hid hrl
      clear hrl
      go_wp2_with fail
      refine (HN.out).mono ?_
      rintro e w3 ⟨tn, tcn, to, tco, t, rfl, ht, hmt, hb3⟩
      have hB3 : Below (w.heap.size + 1) ((w.alloc (.cells #[.int .i64 m.inputs, .int .i64 m.start, .slice an m.next.length cn, .slice ao m.out.length co] 24)).drew) (w3.alloc (.cells #[.int .i64 t.inputs, .int .i64 t.start, .slice tn t.next.length tcn, .slice to t.out.length tco] 24)) :=
        (hB2.trans (hb3.mono hs2)).alloc (by have := hb3.size; omega) _
      have hbx3 : ∀ o, (w3.alloc (.cells #[.int .i64 t.inputs, .int .i64 t.start, .slice tn t.next.length tcn, .slice to t.out.length tco] 24)).cell? ⟨w.heap.size, o, none⟩ = _ := fun o => hB3.cell (by simp)
      have htl := hmt.next.le
      have hBf : Below w.heap.size w (w3.alloc (.cells #[.int .i64 t.inputs, .int .i64 t.start, .slice tn t.next.length tcn, .slice to t.out.length tco] 24)) :=
        ((((Below.refl _ _).alloc (Nat.le_refl _) _).drew)).trans (hB3.mono (by omega))
      clear hb3
      go_wp2
      go_ret
      refine ⟨_, rfl, ?_, hBf⟩
      unfold Hid; rw [Mach.minimal_ok HE.out (by rw [← hlr.out]; exact HL.out), ← ht.out]
      by_cases h : t.next.length = m.next.length
      · simp [h]
      · simp [h]; omega
    · have hd : (((l.length : Nat) : Int) != ((m.next.length : Nat) : Int)) = true := by simp; omega
      have HL := Lib.hid hrl
      clear hrl
      have hBf : Below w.heap.size w w2 := ((((Below.refl _ _).alloc (Nat.le_refl _) _).drew)).trans (hB2.mono (by omega))
      go_wp2
      go_ret
      exact ⟨_, rfl, by unfold Hid; rw [Mach.minimal_reach (by rw [← hlr.out]; exact HL.out)], hBf⟩
  · have he' : (m.err != 0) = true := by simp [he]
    have HE := Lib.hid he
    clear he
    go_enter Try.func28, Try.ntmps28
    go_wp2
    refine wp_region_L (fun w' => w'.cell? ⟨w.heap.size, 0, none⟩ = some (.int .i64 m.inputs) ∧ w'.cell? ⟨w.heap.size, 1, none⟩ = some (.int .i64 m.start) ∧ w'.cell? ⟨w.heap.size, 2, none⟩ = some (.slice an m.next.length cn) ∧ w'.cell? ⟨w.heap.size, 3, none⟩ = some (.slice ao m.out.length co)) [4, 7, 8, 9] (by kernel_rfl) ?_
    refine wpAnyL_one (i := 0) (by kernel_rfl) rfl rfl (fun K hK => ?_)
    go_simp
    refine hK _ _ (fun _ => by simp) ?_
    clear hK K
    refine wpAnyL_one (i := 1) (by kernel_rfl) rfl rfl (fun K hK => ?_)
    go_simp
    refine (HV.out).mono ?_
    rintro e w1 ⟨rfl, hb1⟩
    have hs1 : w.heap.size + 1 ≤ w1.heap.size := by have := hb1.size; simpa using this
    have hB1 : Below (w.heap.size + 1) ((w.alloc (.cells #[.int .i64 m.inputs, .int .i64 m.start, .slice an m.next.length cn, .slice ao m.out.length co] 24)).drew) w1 := hb1.mono (by simp)
    have hSS : w1.cell? ⟨w.heap.size, 0, none⟩ = some (.int .i64 m.inputs) ∧ w1.cell? ⟨w.heap.size, 1, none⟩ = some (.int .i64 m.start) ∧ w1.cell? ⟨w.heap.size, 2, none⟩ = some (.slice an m.next.length cn) ∧ w1.cell? ⟨w.heap.size, 3, none⟩ = some (.slice ao m.out.length co) :=
      ⟨(hB1.cell (by simp)).trans (by simp), (hB1.cell (by simp)).trans (by simp), (hB1.cell (by simp)).trans (by simp), (hB1.cell (by simp)).trans (by simp)⟩
    clear hb1
    refine hK _ _ (fun _ => hSS) ?_
    clear hK K
    refine wpAnyL_one (i := 2) (by kernel_rfl) rfl rfl (fun K hK => ?_)
    go_simp
    refine hK _ _ (fun _ => hSS) ?_
    clear hK K
    refine wpAnyL_one (i := 3) (by kernel_rfl) rfl rfl (fun K hK => ?_)
    go_simp
    refine hK _ _ (fun _ => hSS) ?_
    clear hK K
    refine wpAnyL_take (i := 4) (v := undef) rfl (by kernel_rfl) (by kernel_rfl) (by kernel_rfl) (by kernel_rfl) (fun _ _ _ h => h) (Or.inr ⟨by rfl, rfl⟩) (by assumption) ?_
    try simp only [Act.put, List.setIfInBounds_toArray, List.set_cons_zero, List.set_cons_succ]
    refine wpAnyL_take (i := 7) (v := undef) rfl (by kernel_rfl) (by kernel_rfl) (by kernel_rfl) (by kernel_rfl) (fun _ _ _ h => h) (Or.inr ⟨by rfl, rfl⟩) (by assumption) ?_
    try simp only [Act.put, List.setIfInBounds_toArray, List.set_cons_zero, List.set_cons_succ]
    refine wpAnyL_take (i := 8) (v := undef) rfl (by kernel_rfl) (by kernel_rfl) (by kernel_rfl) (by kernel_rfl) (fun _ _ _ h => h) (Or.inr ⟨by rfl, rfl⟩) (by assumption) ?_
    try simp only [Act.put, List.setIfInBounds_toArray, List.set_cons_zero, List.set_cons_succ]
    refine wpAnyL_take (i := 9) (v := undef) rfl (by kernel_rfl) (by kernel_rfl) (by kernel_rfl) (by kernel_rfl) (fun _ _ _ h => h) (Or.inr ⟨by rfl, rfl⟩) (by assumption) ?_
    try simp only [Act.put, List.setIfInBounds_toArray, List.set_cons_zero, List.set_cons_succ]
    refine wpAnyL_skip (i := 5) (by kernel_rfl) rfl rfl (by assumption) ?_
    try simp only [Act.put, List.setIfInBounds_toArray, List.set_cons_zero, List.set_cons_succ]
    refine wpAnyL_skip (i := 6) (by kernel_rfl) rfl rfl (by assumption) ?_
    try simp only [Act.put, List.setIfInBounds_toArray, List.set_cons_zero, List.set_cons_succ]
    refine wpAnyL_skip (i := 10) (by kernel_rfl) rfl rfl (by assumption) ?_
    try simp only [Act.put, List.setIfInBounds_toArray, List.set_cons_zero, List.set_cons_succ]
    refine wpAnyL_one (i := 11) (by kernel_rfl) rfl rfl (fun K hK => ?_)
    go_simp
    refine hK _ _ (fun _ => hSS) ?_
    clear hK K
    refine wpAnyL_done (by kernel_rfl) ?_ _
    have hBf : Below w.heap.size w w1 := ((((Below.refl _ _).alloc (Nat.le_refl _) _).drew)).trans (hB1.mono (by omega))
    go_wp2
    go_ret
    exact ⟨_, rfl, by unfold Hid; rw [Mach.minimal_err HE.out], hBf⟩
end
end Go.Proofs.Ytdnmgiabgpilkaa
/- The reference's Depth. No condition beyond that the fields read as lists of lists. -/
namespace Go.Proofs.Ytdnmgiabgpilkaa
open Go.RowKit

theorem Mach.Steps.of_least {m : Mach} (ok : m.Ok) {k n : Nat} (hk : k ≤ n) (h : ∀ j, j < k → m.part j ≠ m.part n) (he : m.part k = m.part n) : m.Steps n k := by
  refine ⟨hk, fun j hj hc => h j hj (part_eq ok (fun s t hs ht => eqv_stable ok (same_of_count ok hc) n (by omega) s t hs ht)), ?_⟩
  by_cases e : k = n
  · exact .inl e
  · refine .inr (count_of_same ok fun s t hs ht => ⟨fun hr => ?_, m.eqv_mono k s t⟩)
    have h1 := (part_iff ok k s t hs ht).2 hr
    rw [he] at h1
    exact m.eqv_le ((part_iff ok n s t hs ht).1 h1) (by omega)

theorem Mach.Steps.unique {m : Mach} {n d d' : Nat} (h : m.Steps n d) (h' : m.Steps n d') : d = d' := by
  rcases Nat.lt_trichotomy d d' with e | e | e
  · rcases h.2.2 with h1 | h1
    · have := h'.1; omega
    · exact absurd h1 (h'.2.1 d e)
  · exact e
  · rcases h'.2.2 with h1 | h1
    · have := h.1; omega
    · exact absurd h1 (h.2.1 d' e)

theorem Mach.DepthOf.unique {m : Mach} {d d' : Nat} (h : m.DepthOf d) (h' : m.DepthOf d') : d = d' := by
  unfold DepthOf at h h'
  by_cases e : m.err = 0
  · rw [if_pos e] at h h'; exact h.unique h'
  · rw [if_neg e] at h h'; rw [h, h']

theorem Mach.partOf_nat {m : Mach} (h : m.err = 0) (k : Nat) (hk : k ≤ m.next.length) : m.partOf k = m.part k := by
  unfold partOf
  rw [if_pos h, show min (k : Int).toNat m.next.length = k from by omega]

section
variable {M : Nat → Prop} {w : World} {an ao : Option Addr} {cn co : Nat} {m : Mach}

set_option maxHeartbeats 2000000 in
theorem depthR_any (hm : Ma M w an cn ao co m) :
    Calls Try.prog 24 #[maV m an cn ao co] w fun e w' =>
      ∃ d : Nat, e = .returned (.tuple #[.int .i64 d, .int .i64 m.err]) ∧ Hid (m.DepthOf d) ∧ Below w.heap.size w w' := by
  have HC := Lib.hid (classesR_any (hm.ext (Ext.alloc M w (.cells #[.int .i64 m.inputs, .int .i64 m.start, .slice an m.next.length cn, .slice ao m.out.length co] 24))))
  by_cases he : m.err = 0
  · have ok := m.ok_of_err he
    have OK := Lib.hid ok
    have he' : (m.err != 0) = false := by simp [he]
    have n1 := ok.n1
    have HE := Lib.hid he
    clear he ok
    go_enter Try.func24, Try.ntmps24
    go_wp2_with (go_at_call 22; refine (HC.out).mono ?_; rintro e w1 ⟨aa, ca, all, rfl, hall, hsa, hb1⟩; have hbx1 : ∀ o, w1.cell? ⟨w.heap.size, o, none⟩ = _ := fun o => hb1.cell (by simp))
    have hB1 : Below (w.heap.size + 1) (w.alloc (.cells #[.int .i64 m.inputs, .int .i64 m.start, .slice an m.next.length cn, .slice ao m.out.length co] 24)) w1 := hb1.mono (by simp)
    have hsa1 : Sl (fun k => k < w.heap.size + 1) w1 aa ca all := by simpa using hsa
    clear hsa hb1 hbx1
    go_loopw [6] (fun i wr => ∃ k : Nat, k ≤ m.next.length ∧ i = .int .i64 k ∧ Hid (∀ j, j < k → m.part j ≠ m.part m.next.length) ∧ Sl (fun k => k < w.heap.size + 1) wr aa ca all ∧
      Below (w.heap.size + 1) (w.alloc (.cells #[.int .i64 m.inputs, .int .i64 m.start, .slice an m.next.length cn, .slice ao m.out.length co] 24)) wr) (fun i _ => m.next.length - (intOf i).toNat)
    case atStart => exact ⟨0, by omega, rfl, fun j hj => by omega, hsa1, hB1⟩
    case round =>
      clear hB1 hsa1
      obtain ⟨k, hk, rfl, hlt, hsa, hB⟩ := hrel
      obtain ⟨wo, rfl⟩ : ∃ wo : World, wo = wr := ⟨_, rfl⟩
      have hbx : ∀ o, wo.cell? ⟨w.heap.size, o, none⟩ = _ := fun o => hB.cell (by simp)
      have hsz : w.heap.size + 1 ≤ wo.heap.size := by have := hB.size; simpa using this
      have hB3 : Below w.heap.size w wo := ((Below.refl _ _).alloc (Nat.le_refl _) _).trans (hB.mono (by omega))
      have HP := Lib.hid (partR_any (hm.below hB3) (k : Int) (i64_of_nat (by omega)))
      by_cases heq : m.part k = m.part m.next.length
      · have HQ := Lib.hid heq
        clear heq
        go_wp2_with (go_at_call 19; refine (HP.out).mono ?_; rintro e w4 ⟨a4, c4, l4, rfl, hl4, hS4, hb4⟩)
        have hd : decide (l4 = all) = true := by
          rw [decide_eq_true_iff, hl4.out, hall.out, Mach.partOf_nat HE.out k hk, Mach.partOf_nat HE.out _ (Nat.le_refl _), HQ.out]
        have hr := equal_any (hS4.anti (M' := fun _ => False) (by simp)) (hsa.below hb4 |>.anti (M' := fun _ => False) (by simp))
        rw [hd] at hr
        refine hr.mono ?_
        rintro e w5 ⟨rfl, n5, rfl⟩
        clear hd hr
        go_wp2
        go_ret2
        refine ⟨k, ret2_int' HE.out.symm, ?_, bl_drewN (hB3.trans (hb4.mono (by omega))) _⟩
        unfold Hid Mach.DepthOf
        rw [if_pos HE.out]
        exact Mach.Steps.of_least OK.out hk hlt.out HQ.out
      · have HQ := Lib.hid heq
        have hkn : k < m.next.length := by
          have h0 : k ≠ m.next.length := fun e => HQ.out (by rw [e])
          omega
        clear heq
        go_wp2_with (go_at_call 19; refine (HP.out).mono ?_; rintro e w4 ⟨a4, c4, l4, rfl, hl4, hS4, hb4⟩)
        have hd : decide (l4 = all) = false := by
          rw [decide_eq_false_iff_not, hl4.out, hall.out, Mach.partOf_nat HE.out k hk, Mach.partOf_nat HE.out _ (Nat.le_refl _)]
          exact HQ.out
        have hr := equal_any (hS4.anti (M' := fun _ => False) (by simp)) (hsa.below hb4 |>.anti (M' := fun _ => False) (by simp))
        rw [hd] at hr
        refine hr.mono ?_
        rintro e w5 ⟨rfl, n5, rfl⟩
        clear hd hr
        go_wp2
        go_roundw
        case rel => exact ⟨k + 1, by omega, by go_num, fun j hj => by
          by_cases e : j = k
          · rw [e]; exact HQ.out
          · exact hlt.out j (by omega), (hsa.below hb4).drewN _, bl_drewN (hB.trans (hb4.mono hsz)) _⟩
        case measure => simp [intOf]; omega
  · have he' : (m.err != 0) = true := by simp [he]
    have HE := Lib.hid he
    clear he
    go_enter Try.func24, Try.ntmps24
    go_wp2_with (go_at_call 22; refine (HC.out).mono ?_; rintro e w1 ⟨aa, ca, all, rfl, hall, hsa, hb1⟩)
    go_ret2
    exact ⟨0, rfl, by unfold Hid Mach.DepthOf; rw [if_neg HE.out], ((Below.refl _ _).alloc (Nat.le_refl _) _).trans (hb1.mono (by simp))⟩
end
end Go.Proofs.Ytdnmgiabgpilkaa
/- The laws' own example. No condition. -/
namespace Go.Proofs.Ytdnmgiabgpilkaa
open Go.RowKit

def ex8M : Mach := ⟨1, 0, [[1], [2], [3], [1]], [[0], [0], [1], [0]]⟩
def ex8T : Mach := ⟨1, 0, [[1], [2], [0]], [[0], [0], [1]]⟩

abbrev ex8W (w : World) : World :=
  (((((((((((w.alloc (.cells #[.int .i64 1] 3)).alloc (.cells #[.int .i64 2] 3)).alloc (.cells #[.int .i64 3] 3)).alloc (.cells #[.int .i64 1] 3)).alloc
    (.cells #[.slice (some ⟨w.heap.size, 0, none⟩) 1 1, .slice (some ⟨w.heap.size + 1, 0, none⟩) 1 1, .slice (some ⟨w.heap.size + 1 + 1, 0, none⟩) 1 1, .slice (some ⟨w.heap.size + 1 + 1 + 1, 0, none⟩) 1 1] 27)).alloc
    (.cells #[.int .i64 0] 3)).alloc (.cells #[.int .i64 0] 3)).alloc (.cells #[.int .i64 1] 3)).alloc (.cells #[.int .i64 0] 3)).alloc
    (.cells #[.slice (some ⟨w.heap.size + 1 + 1 + 1 + 1 + 1, 0, none⟩) 1 1, .slice (some ⟨w.heap.size + 1 + 1 + 1 + 1 + 1 + 1, 0, none⟩) 1 1, .slice (some ⟨w.heap.size + 1 + 1 + 1 + 1 + 1 + 1 + 1, 0, none⟩) 1 1, .slice (some ⟨w.heap.size + 1 + 1 + 1 + 1 + 1 + 1 + 1 + 1, 0, none⟩) 1 1] 27)).alloc
    (.cells #[.int .i64 1, .int .i64 0, .slice (some ⟨w.heap.size + 1 + 1 + 1 + 1, 0, none⟩) 4 4, .slice (some ⟨w.heap.size + 1 + 1 + 1 + 1 + 1 + 1 + 1 + 1 + 1, 0, none⟩) 4 4] 24))

abbrev ex8T3 (w : World) : World :=
  ((((((((w.alloc (.cells #[.int .i64 1] 3)).alloc (.cells #[.int .i64 2] 3)).alloc (.cells #[.int .i64 0] 3)).alloc
    (.cells #[.slice (some ⟨w.heap.size, 0, none⟩) 1 1, .slice (some ⟨w.heap.size + 1, 0, none⟩) 1 1, .slice (some ⟨w.heap.size + 1 + 1, 0, none⟩) 1 1] 27)).alloc
    (.cells #[.int .i64 0] 3)).alloc (.cells #[.int .i64 0] 3)).alloc (.cells #[.int .i64 1] 3)).alloc
    (.cells #[.slice (some ⟨w.heap.size + 1 + 1 + 1 + 1, 0, none⟩) 1 1, .slice (some ⟨w.heap.size + 1 + 1 + 1 + 1 + 1, 0, none⟩) 1 1, .slice (some ⟨w.heap.size + 1 + 1 + 1 + 1 + 1 + 1, 0, none⟩) 1 1] 27))

theorem i64_small {x : Int} (h : -100 ≤ x ∧ x ≤ 100) : i64 x := by unfold i64; omega
theorem heap_at {w : World} {o : Obj} {k : Nat} (h : w.heap.size = k) : (w.alloc o).heap[k]? = some o := by subst h; exact heap_alloc_new w o

section
variable {w : World}
theorem ex8_base (w : World) : Ma (fun k => k < w.heap.size) (ex8W w) (some ⟨w.heap.size + 1 + 1 + 1 + 1, 0, none⟩) 4 (some ⟨w.heap.size + 1 + 1 + 1 + 1 + 1 + 1 + 1 + 1 + 1, 0, none⟩) 4 ex8M ∧ Below w.heap.size w (ex8W w) ∧
    (ex8W w).heap.size = w.heap.size + 11 ∧ (ex8W w).heap[w.heap.size + 10]? = some (.cells #[.int .i64 1, .int .i64 0, .slice (some ⟨w.heap.size + 1 + 1 + 1 + 1, 0, none⟩) 4 4, .slice (some ⟨w.heap.size + 1 + 1 + 1 + 1 + 1 + 1 + 1 + 1 + 1, 0, none⟩) 4 4] 24) := by
  have one : ∀ (b : Nat) (x : Int), (ex8W w).heap[b]? = some (.cells #[.int .i64 x] 3) → w.heap.size ≤ b → -100 ≤ x ∧ x ≤ 100 → Sl (fun k => k < w.heap.size) (ex8W w) (some ⟨b, 0, none⟩) 1 [x] := fun b x h hb hx =>
    Sl.lit h rfl (by omega) (fun y hy => by simp at hy; subst hy; exact i64_small hx) rfl (by unfold maxLen; omega)
  refine ⟨⟨i64_small (by decide), i64_small (by decide), ?_, ?_⟩, ?_, by simp, by (repeat (first | (refine heap_at ?_; (simp; done)) | refine heap_old ?_))⟩
  · refine Sl.litr (vs := #[.slice (some ⟨w.heap.size, 0, none⟩) 1 1, .slice (some ⟨w.heap.size + 1, 0, none⟩) 1 1, .slice (some ⟨w.heap.size + 1 + 1, 0, none⟩) 1 1, .slice (some ⟨w.heap.size + 1 + 1 + 1, 0, none⟩) 1 1]) (T := 27) (by (repeat (first | (refine heap_at ?_; (simp; done)) | refine heap_old ?_))) (by omega) rfl (by unfold maxLen; omega) fun j r hj => ?_
    match j, hj with
    | 0, hj => obtain rfl : [1] = r := by simpa [ex8M] using hj
               exact ⟨_, _, rfl, one _ _ (by (repeat (first | (refine heap_at ?_; (simp; done)) | refine heap_old ?_))) (by omega) (by decide)⟩
    | 1, hj => obtain rfl : [2] = r := by simpa [ex8M] using hj
               exact ⟨_, _, rfl, one _ _ (by (repeat (first | (refine heap_at ?_; (simp; done)) | refine heap_old ?_))) (by omega) (by decide)⟩
    | 2, hj => obtain rfl : [3] = r := by simpa [ex8M] using hj
               exact ⟨_, _, rfl, one _ _ (by (repeat (first | (refine heap_at ?_; (simp; done)) | refine heap_old ?_))) (by omega) (by decide)⟩
    | 3, hj => obtain rfl : [1] = r := by simpa [ex8M] using hj
               exact ⟨_, _, rfl, one _ _ (by (repeat (first | (refine heap_at ?_; (simp; done)) | refine heap_old ?_))) (by omega) (by decide)⟩
    | j + 4, hj => simp [ex8M] at hj
  · refine Sl.litr (vs := #[.slice (some ⟨w.heap.size + 1 + 1 + 1 + 1 + 1, 0, none⟩) 1 1, .slice (some ⟨w.heap.size + 1 + 1 + 1 + 1 + 1 + 1, 0, none⟩) 1 1, .slice (some ⟨w.heap.size + 1 + 1 + 1 + 1 + 1 + 1 + 1, 0, none⟩) 1 1, .slice (some ⟨w.heap.size + 1 + 1 + 1 + 1 + 1 + 1 + 1 + 1, 0, none⟩) 1 1]) (T := 27) (by (repeat (first | (refine heap_at ?_; (simp; done)) | refine heap_old ?_))) (by omega) rfl (by unfold maxLen; omega) fun j r hj => ?_
    match j, hj with
    | 0, hj => obtain rfl : [0] = r := by simpa [ex8M] using hj
               exact ⟨_, _, rfl, one _ _ (by (repeat (first | (refine heap_at ?_; (simp; done)) | refine heap_old ?_))) (by omega) (by decide)⟩
    | 1, hj => obtain rfl : [0] = r := by simpa [ex8M] using hj
               exact ⟨_, _, rfl, one _ _ (by (repeat (first | (refine heap_at ?_; (simp; done)) | refine heap_old ?_))) (by omega) (by decide)⟩
    | 2, hj => obtain rfl : [1] = r := by simpa [ex8M] using hj
               exact ⟨_, _, rfl, one _ _ (by (repeat (first | (refine heap_at ?_; (simp; done)) | refine heap_old ?_))) (by omega) (by decide)⟩
    | 3, hj => obtain rfl : [0] = r := by simpa [ex8M] using hj
               exact ⟨_, _, rfl, one _ _ (by (repeat (first | (refine heap_at ?_; (simp; done)) | refine heap_old ?_))) (by omega) (by decide)⟩
    | j + 4, hj => simp [ex8M] at hj
  · unfold ex8W
    repeat' (first | exact Below.refl _ _ | refine Below.alloc ?_ (by simp; omega) _ | refine Below.alloc ?_ (by simp) _)

theorem ex8_want (w : World) : Ma (fun k => k < w.heap.size) (ex8T3 w) (some ⟨w.heap.size + 1 + 1 + 1, 0, none⟩) 3 (some ⟨w.heap.size + 1 + 1 + 1 + 1 + 1 + 1 + 1, 0, none⟩) 3 ex8T ∧ Below w.heap.size w (ex8T3 w) := by
  have one : ∀ (b : Nat) (x : Int), (ex8T3 w).heap[b]? = some (.cells #[.int .i64 x] 3) → w.heap.size ≤ b → -100 ≤ x ∧ x ≤ 100 → Sl (fun k => k < w.heap.size) (ex8T3 w) (some ⟨b, 0, none⟩) 1 [x] := fun b x h hb hx =>
    Sl.lit h rfl (by omega) (fun y hy => by simp at hy; subst hy; exact i64_small hx) rfl (by unfold maxLen; omega)
  refine ⟨⟨i64_small (by decide), i64_small (by decide), ?_, ?_⟩, ?_⟩
  · refine Sl.litr (vs := #[.slice (some ⟨w.heap.size, 0, none⟩) 1 1, .slice (some ⟨w.heap.size + 1, 0, none⟩) 1 1, .slice (some ⟨w.heap.size + 1 + 1, 0, none⟩) 1 1]) (T := 27) (by (repeat (first | (refine heap_at ?_; (simp; done)) | refine heap_old ?_))) (by omega) rfl (by unfold maxLen; omega) fun j r hj => ?_
    match j, hj with
    | 0, hj => obtain rfl : [1] = r := by simpa [ex8T] using hj
               exact ⟨_, _, rfl, one _ _ (by (repeat (first | (refine heap_at ?_; (simp; done)) | refine heap_old ?_))) (by omega) (by decide)⟩
    | 1, hj => obtain rfl : [2] = r := by simpa [ex8T] using hj
               exact ⟨_, _, rfl, one _ _ (by (repeat (first | (refine heap_at ?_; (simp; done)) | refine heap_old ?_))) (by omega) (by decide)⟩
    | 2, hj => obtain rfl : [0] = r := by simpa [ex8T] using hj
               exact ⟨_, _, rfl, one _ _ (by (repeat (first | (refine heap_at ?_; (simp; done)) | refine heap_old ?_))) (by omega) (by decide)⟩
    | j + 3, hj => simp [ex8T] at hj
  · refine Sl.litr (vs := #[.slice (some ⟨w.heap.size + 1 + 1 + 1 + 1, 0, none⟩) 1 1, .slice (some ⟨w.heap.size + 1 + 1 + 1 + 1 + 1, 0, none⟩) 1 1, .slice (some ⟨w.heap.size + 1 + 1 + 1 + 1 + 1 + 1, 0, none⟩) 1 1]) (T := 27) (by (repeat (first | (refine heap_at ?_; (simp; done)) | refine heap_old ?_))) (by omega) rfl (by unfold maxLen; omega) fun j r hj => ?_
    match j, hj with
    | 0, hj => obtain rfl : [0] = r := by simpa [ex8T] using hj
               exact ⟨_, _, rfl, one _ _ (by (repeat (first | (refine heap_at ?_; (simp; done)) | refine heap_old ?_))) (by omega) (by decide)⟩
    | 1, hj => obtain rfl : [0] = r := by simpa [ex8T] using hj
               exact ⟨_, _, rfl, one _ _ (by (repeat (first | (refine heap_at ?_; (simp; done)) | refine heap_old ?_))) (by omega) (by decide)⟩
    | 2, hj => obtain rfl : [1] = r := by simpa [ex8T] using hj
               exact ⟨_, _, rfl, one _ _ (by (repeat (first | (refine heap_at ?_; (simp; done)) | refine heap_old ?_))) (by omega) (by decide)⟩
    | j + 3, hj => simp [ex8T] at hj
  · unfold ex8T3
    repeat' (first | exact Below.refl _ _ | refine Below.alloc ?_ (by simp; omega) _ | refine Below.alloc ?_ (by simp) _)

theorem ex8_err : ex8M.err = 0 := by decide
theorem ex8_errT : ex8T.err = 0 := by decide
theorem ex8_part1 : ex8M.partOf 1 = [0, 0, 1, 0] := by decide
theorem ex8_part : ex8M.partOf 128 = [0, 1, 2, 0] := by decide
theorem ex8_depth : ex8M.DepthOf 2 := by
  unfold Mach.DepthOf
  rw [if_pos ex8_err]
  exact ⟨by decide, fun j hj => match j, hj with | 0, _ => by decide | 1, _ => by decide, .inr (by decide)⟩
theorem ex8_min : ex8M.minOf = ex8T := by decide
theorem ex8_minimal : ex8M.minimal = false := by decide
theorem ex8_minimalT : ex8T.minimal = true := by decide
theorem none_err : (Mach.nothing).err = 2 := by decide
end
end Go.Proofs.Ytdnmgiabgpilkaa
/- The law's own example holds. No condition. -/
namespace Go.Proofs.Ytdnmgiabgpilkaa
open Go.RowKit
section
variable {M : Nat → Prop} {w : World} {p q : Option Addr} {c d : Nat}

theorem ret_eq {v v' : Value} (h : v = v') : Ending.returned v = .returned v' := by rw [h]

theorem ex8_partition (hm : Ma M w p c q d ex8M) : Calls Try.prog 18 #[.agg #[.int .i64 1, .int .i64 0, .slice p 4 c, .slice q 4 d], .int .i64 1] w fun e w' =>
    ∃ (a : Option Addr) (c : Nat) (l : List Int), e = .returned (.tuple #[.slice a l.length c, .int .i64 0]) ∧ Hid (l = [0, 0, 1, 0]) ∧ Sl (fun k => k < w.heap.size) w' a c l ∧ Below w.heap.size w w' :=
  (part_any hm 1).mono fun e w' ⟨a, c, l, h1, h2, h3, h4⟩ => ⟨a, c, l, by rw [h1, ex8_err], h2.out.trans ex8_part1, h3, h4⟩
theorem ex8_classes (hm : Ma M w p c q d ex8M) : Calls Try.prog 21 #[.agg #[.int .i64 1, .int .i64 0, .slice p 4 c, .slice q 4 d]] w fun e w' =>
    ∃ (a : Option Addr) (c : Nat) (l : List Int), e = .returned (.tuple #[.slice a l.length c, .int .i64 0]) ∧ Hid (l = [0, 1, 2, 0]) ∧ Sl (fun k => k < w.heap.size) w' a c l ∧ Below w.heap.size w w' :=
  (classes_any hm).mono fun e w' ⟨a, c, l, h1, h2, h3, h4⟩ => ⟨a, c, l, by rw [h1, ex8_err], h2.out.trans ex8_part, h3, h4⟩
theorem ex8_depths (hm : Ma M w p c q d ex8M) : Calls Try.prog 23 #[.agg #[.int .i64 1, .int .i64 0, .slice p 4 c, .slice q 4 d]] w fun e w' =>
    e = .returned (.tuple #[.int .i64 2, .int .i64 0]) ∧ Below w.heap.size w w' :=
  (depth_any hm).mono fun e w' ⟨d, h1, h2, h4⟩ => ⟨by rw [h1, ex8_err, h2.out.unique ex8_depth]; rfl, h4⟩
theorem ex8_mins (hm : Ma M w p c q d ex8M) : Calls Try.prog 25 #[.agg #[.int .i64 1, .int .i64 0, .slice p 4 c, .slice q 4 d]] w fun e w' =>
    ∃ p c q d, e = .returned (.tuple #[.agg #[.int .i64 1, .int .i64 0, .slice p 3 c, .slice q 3 d], .int .i64 0]) ∧ Ma (fun k => k < w.heap.size) w' p c q d ex8T ∧ Below w.heap.size w w' :=
  (min_any hm).mono fun e w' ⟨p, c, q, d, t, h1, h2, h3, h4⟩ => by
    obtain rfl : t = ex8T := h2.out.trans ex8_min
    exact ⟨p, c, q, d, by rw [h1, ex8_err]; rfl, h3, h4⟩
theorem ex8_none : Calls Try.prog 21 #[.agg #[.int .i64 0, .int .i64 0, .slice none 0 0, .slice none 0 0]] w fun e w' =>
    ∃ (a : Option Addr) (c l : Nat), e = .returned (.tuple #[.slice a l c, .int .i64 2]) ∧ Below w.heap.size w w' :=
  (classes_any (nothing_ma (fun _ => False) w)).mono fun e w' ⟨a, c, l, h1, h2, h3, h4⟩ => ⟨a, c, l.length, by rw [h1, none_err], h4⟩
theorem ex8_equal {a b : Option Addr} {c d : Nat} {xs ys : List Int} (h1 : Sl M w a c xs) (h2 : Sl M w b d ys) (h : xs = ys) :
    Calls Try.prog 20 #[.slice a xs.length c, .slice b ys.length d] w fun e w' => e = .returned (.bool true) ∧ ∃ n, w' = w.drewN n :=
  (equal_any h1 h2).mono fun e w' ⟨h3, h4⟩ => ⟨by rw [h3, decide_eq_true h], h4⟩
theorem ex8_same {p' q' : Option Addr} {c' d' : Nat} (hm : Ma M w p c q d ex8T) (hm' : Ma M w p' c' q' d' ex8T) : Calls Try.prog 27 #[.agg #[.int .i64 1, .int .i64 0, .slice p 3 c, .slice q 3 d], .agg #[.int .i64 1, .int .i64 0, .slice p' 3 c', .slice q' 3 d']] w fun e w' =>
    e = .returned (.bool true) ∧ Below w.heap.size w w' :=
  (same6_any hm hm').mono fun e w' ⟨h1, h2⟩ => ⟨by rw [h1, decide_eq_true rfl], h2⟩
theorem ex8_minimalsT (hm : Ma M w p c q d ex8T) : Calls Try.prog 28 #[.agg #[.int .i64 1, .int .i64 0, .slice p 3 c, .slice q 3 d]] w fun e w' =>
    e = .returned (.bool true) ∧ Below w.heap.size w w' :=
  (minimal_any hm).mono fun e w' ⟨b, h1, h2, h3⟩ => ⟨by rw [h1, h2.out, ex8_minimalT], h3⟩
theorem ex8_minimals (hm : Ma M w p c q d ex8M) : Calls Try.prog 28 #[.agg #[.int .i64 1, .int .i64 0, .slice p 4 c, .slice q 4 d]] w fun e w' =>
    e = .returned (.bool false) ∧ Below w.heap.size w w' :=
  (minimal_any hm).mono fun e w' ⟨b, h1, h2, h3⟩ => ⟨by rw [h1, h2.out, ex8_minimal], h3⟩
end

set_option maxRecDepth 100000 in
set_option maxHeartbeats 4000000 in
theorem ex8_any {w : World} : Calls Try.prog 17 #[] w fun e w' => e = .returned (.bool true) ∧ Below w.heap.size w w' := by
  obtain ⟨hma, hbe, hsz, hbk⟩ := ex8_base w
  rw [show w.heap.size + 10 = w.heap.size + 1 + 1 + 1 + 1 + 1 + 1 + 1 + 1 + 1 + 1 from rfl] at hbk
  go_enter Try.func17, Try.ntmps17
  go_wp2_with fail
  obtain ⟨W, hW⟩ : ∃ W, W = ex8W w := ⟨_, rfl⟩
  unfold ex8W at hW
  rw [← hW]
  rw [show ex8W w = W from hW.symm] at hma hbe hsz hbk
  have HW := Lib.hid hW
  clear hW HW
  generalize hp : (some (⟨w.heap.size + 1 + 1 + 1 + 1, 0, none⟩ : Addr)) = p at *
  generalize hq : (some (⟨w.heap.size + 1 + 1 + 1 + 1 + 1 + 1 + 1 + 1 + 1, 0, none⟩ : Addr)) = q at *
  clear hp hq
  have hbb : w.heap.size + 1 + 1 + 1 + 1 + 1 + 1 + 1 + 1 + 1 + 1 < W.heap.size := by omega
  have hbw : w.heap.size ≤ w.heap.size + 1 + 1 + 1 + 1 + 1 + 1 + 1 + 1 + 1 + 1 := by omega
  generalize w.heap.size + 1 + 1 + 1 + 1 + 1 + 1 + 1 + 1 + 1 + 1 = b at *
  obtain ⟨hc0, hc1, hc2, hc3⟩ := cells4 hbk
  clear hsz hbk
  refine (ex8_partition hma).mono ?_
  rintro e w1 ⟨a1, c1, l1, rfl, hl1, hs1, hb1⟩
  have hz1 : W.heap.size ≤ w1.heap.size := hb1.size
  have hm1 := hma.below hb1
  have hx1 : ∀ o, w1.cell? ⟨b, o, none⟩ = W.cell? ⟨b, o, none⟩ := fun o => hb1.cell hbb
  go_wp2_with fail
  refine (ex8_classes hm1).mono ?_
  rintro e w2 ⟨a2, c2, l2, rfl, hl2, hs2, hb2⟩
  have hB2 := hb1.trans (hb2.mono hz1)
  have hz2 : W.heap.size ≤ w2.heap.size := hB2.size
  have hm2 := hma.below hB2
  have hx2 : ∀ o, w2.cell? ⟨b, o, none⟩ = W.cell? ⟨b, o, none⟩ := fun o => hB2.cell hbb
  replace hs1 := hs1.below hb2
  clear hx1
  go_wp2_with fail
  refine (ex8_depths hm2).mono ?_
  rintro e w3 ⟨rfl, hb3⟩
  have hB3 := hB2.trans (hb3.mono hz2)
  have hz3 : W.heap.size ≤ w3.heap.size := hB3.size
  have hm3 := hma.below hB3
  have hx3 : ∀ o, w3.cell? ⟨b, o, none⟩ = W.cell? ⟨b, o, none⟩ := fun o => hB3.cell hbb
  replace hs1 := hs1.below hb3
  replace hs2 := hs2.below hb3
  clear hx2
  go_wp2_with fail
  refine (ex8_mins hm3).mono ?_
  rintro e w4 ⟨p4, c4, q4, d4, rfl, hm4, hb4⟩
  have hB4 := hB3.trans (hb4.mono hz3)
  have hz4 : W.heap.size ≤ w4.heap.size := hB4.size
  replace hs1 := hs1.below hb4
  replace hs2 := hs2.below hb4
  clear hx3
  go_wp2_with fail
  refine (ex8_none).mono ?_
  rintro e w5 ⟨a5, c5, l5, rfl, hb5⟩
  have hz5 : w4.heap.size + 1 ≤ w5.heap.size := by have := hb5.size; simpa using this
  have hT5 : Below (w4.heap.size + 1) (w4.alloc (.cells #[.int .i64 1, .int .i64 0, .slice p4 3 c4, .slice q4 3 d4] 24)) w5 := hb5.mono (by simp)
  have hW5 : Below w4.heap.size w4 w5 := ((Below.refl _ _).alloc (Nat.le_refl _) _).trans (hT5.mono (by omega))
  have hB5 : Below W.heap.size W w5 := hB4.trans (hW5.mono hz4)
  replace hs1 := hs1.below hW5
  replace hs2 := hs2.below hW5
  have hm5 := hm4.below hW5
  clear hb5 hb1 hb2 hb3 hb4 hm1 hm2 hm3 hm4
  have HE1 := Lib.hid (ex8_equal (w := w5.alloc (.cells #[.int .i64 0, .int .i64 0, .int .i64 1, .int .i64 0] 3)) (b := some ⟨w5.heap.size, 0, none⟩) (d := 4) (ys := [0, 0, 1, 0])
    ((hs1.anti (M' := fun _ => False) (fun _ _ h => h.elim)).alloc _) (Sl.lit (heap_alloc_new _ _) rfl id (fun x hx => i64_small (by simp at hx; omega)) rfl (by unfold maxLen; omega)) hl1.out)
  go_wp2_with fail
  refine (HE1.out).mono ?_
  rintro e w6 ⟨rfl, n6, rfl⟩
  have hW6 : Below w5.heap.size w5 ((w5.alloc (.cells #[.int .i64 0, .int .i64 0, .int .i64 1, .int .i64 0] 3)).drewN n6) := ((Below.refl _ _).alloc (Nat.le_refl _) _).trans (below_drewN _ _ _)
  clear HE1
  generalize ((w5.alloc (.cells #[.int .i64 0, .int .i64 0, .int .i64 1, .int .i64 0] 3)).drewN n6) = w6 at *
  have hz6 : w5.heap.size ≤ w6.heap.size := hW6.size
  replace hs2 := hs2.below hW6
  have HE2 := Lib.hid (ex8_equal (w := w6.alloc (.cells #[.int .i64 0, .int .i64 1, .int .i64 2, .int .i64 0] 3)) (b := some ⟨w6.heap.size, 0, none⟩) (d := 4) (ys := [0, 1, 2, 0])
    ((hs2.anti (M' := fun _ => False) (fun _ _ h => h.elim)).alloc _) (Sl.lit (heap_alloc_new _ _) rfl id (fun x hx => i64_small (by simp at hx; omega)) rfl (by unfold maxLen; omega)) hl2.out)
  go_wp2_with fail
  refine (HE2.out).mono ?_
  rintro e w7 ⟨rfl, n7, rfl⟩
  have hW7 : Below w5.heap.size w5 ((w6.alloc (.cells #[.int .i64 0, .int .i64 1, .int .i64 2, .int .i64 0] 3)).drewN n7) := (hW6.alloc (by omega) _).trans (below_drewN _ _ _)
  clear HE2 hs1 hs2
  generalize ((w6.alloc (.cells #[.int .i64 0, .int .i64 1, .int .i64 2, .int .i64 0] 3)).drewN n7) = w7 at *
  have hz7 : w5.heap.size ≤ w7.heap.size := hW7.size
  have hT7 := hT5.trans (hW7.mono hz5)
  have hx7 : ∀ o, w7.cell? ⟨w4.heap.size, o, none⟩ = _ := fun o => hT7.cell (by simp)
  obtain ⟨hwant, hwb⟩ := ex8_want w7
  have hm7 := (hm5.below hW7).below hwb
  have HS := Lib.hid (ex8_same (hm7.ext (Ext.sub_only (M' := fun _ => False) fun _ _ h => h.elim)) (hwant.ext (Ext.sub_only (M' := fun _ => False) fun _ _ h => h.elim)))
  clear hwant
  go_wp2_with fail
  refine (HS.out).mono ?_
  rintro e w8 ⟨rfl, hb8⟩
  have hW8 : Below w7.heap.size w7 w8 := hwb.trans (hb8.mono hwb.size)
  have hT8 := hT7.trans (hW8.mono (by omega))
  have hx8 : ∀ o, w8.cell? ⟨w4.heap.size, o, none⟩ = _ := fun o => hT8.cell (by simp)
  have hz8 : w7.heap.size ≤ w8.heap.size := hW8.size
  have hm8 := hm7.below hb8
  clear HS hx7 hb8 hwb hm7
  go_wp2_with fail
  refine (ex8_minimalsT hm8).mono ?_
  rintro e w9 ⟨rfl, hb9⟩
  have hW9 : Below w7.heap.size w7 w9 := hW8.trans (hb9.mono hz8)
  have hB9 : Below W.heap.size W w9 := hB5.trans ((hW7.mono (by omega)).trans (hW9.mono (by omega)))
  have hx9 : ∀ o, w9.cell? ⟨b, o, none⟩ = W.cell? ⟨b, o, none⟩ := fun o => hB9.cell hbb
  have hm9 := hma.below hB9
  clear hb9 hx8
  go_wp2_with fail
  refine (ex8_minimals hm9).mono ?_
  rintro e w10 ⟨rfl, hb10⟩
  have hB10 : Below w.heap.size w w10 := hbe.trans ((hB9.mono (by omega)).trans (hb10.mono (by have := hB9.size; omega)))
  go_wp2
  go_ret
  exact ⟨rfl, hB10⟩
end Go.Proofs.Ytdnmgiabgpilkaa
/- The laws of chapter 8: partitions, classes. No condition. -/
namespace Go.Proofs.Ytdnmgiabgpilkaa
open Go.RowKit
theorem Mach.partOf_all (m : Mach) : m.partOf 128 = m.partOf m.next.length := by
  unfold Mach.partOf
  by_cases h : m.err = 0
  · have := (m.ok_of_err h).n1
    rw [if_pos h, if_pos h, show min (128 : Int).toNat m.next.length = m.next.length from by omega, show min ((m.next.length : Nat) : Int).toNat m.next.length = m.next.length from by omega]
  · rw [if_neg h, if_neg h]
section
variable {M : Nat → Prop} {w : World} {an ao : Option Addr} {cn co : Nat} {m : Mach}

set_option maxRecDepth 100000 in
set_option maxHeartbeats 4000000 in
theorem partitions_any (hm : Ma M w an cn ao co m) (k : Int) (hk : i64 k) :
    Calls Try.prog 3 #[maV m an cn ao co, .int .i64 k] w fun e w' => e = .returned (.bool true) ∧ Below w.heap.size w w' := by
  have HM := Lib.hid (hm.ext (Ext.alloc M w (.cells #[.int .i64 m.inputs, .int .i64 m.start, .slice an m.next.length cn, .slice ao m.out.length co] 24)))
  have HG := Lib.hid (great_any HM.out)
  have HK := Lib.hid hk
  clear hm hk
  cases hg : m.great with
  | true =>
    go_enter Try.func3, Try.ntmps3
    go_wp2_with fail
    refine (HG.out).mono ?_
    rintro e w1 ⟨rfl, hb1⟩
    rw [hg]
    have hz1 : w.heap.size + 1 ≤ w1.heap.size := by have := hb1.size; simpa using this
    have hB1 : Below (w.heap.size + 1) (w.alloc (.cells #[.int .i64 m.inputs, .int .i64 m.start, .slice an m.next.length cn, .slice ao m.out.length co] 24)) w1 := hb1.mono (by simp)
    clear hb1 HG
    go_wp2_with fail
    refine (ex8_any).mono ?_
    rintro e w2 ⟨rfl, hb2⟩
    have hBf : Below w.heap.size w w2 := ((Below.refl _ _).alloc (Nat.le_refl _) _).trans ((hB1.trans (hb2.mono hz1)).mono (by omega))
    go_wp2
    go_ret
    exact ⟨rfl, hBf⟩
  | false =>
    go_enter Try.func3, Try.ntmps3
    go_wp2_with fail
    refine (HG.out).mono ?_
    rintro e w1 ⟨rfl, hb1⟩
    rw [hg]
    have hz1 : w.heap.size + 1 ≤ w1.heap.size := by have := hb1.size; simpa using this
    have hB1 : Below (w.heap.size + 1) (w.alloc (.cells #[.int .i64 m.inputs, .int .i64 m.start, .slice an m.next.length cn, .slice ao m.out.length co] 24)) w1 := hb1.mono (by simp)
    have hx1 : ∀ o, w1.cell? ⟨w.heap.size, o, none⟩ = _ := fun o => hB1.cell (by simp)
    clear hb1 HG
    have HP := Lib.hid (part_any (HM.out.below (by simpa using hB1)) k)
    go_wp2_with fail
    refine (HP.out).mono ?_
    rintro e w2 ⟨a2, c2, l2, rfl, hl2, hs2, hb2⟩
    have hB2 := hB1.trans (hb2.mono hz1)
    have hz2 : w.heap.size + 1 ≤ w2.heap.size := Nat.le_trans hz1 hb2.size
    have hx2 : ∀ o, w2.cell? ⟨w.heap.size, o, none⟩ = _ := fun o => hB2.cell (by simp)
    clear hx1 hb2 HP
    have HR := Lib.hid (partR_any (HM.out.below (by simpa using hB2)) k HK.out)
    go_wp2_with fail
    refine (HR.out).mono ?_
    rintro e w3 ⟨a3, c3, l3, rfl, hl3, hs3, hb3⟩
    have hB3 := hB2.trans (hb3.mono hz2)
    have hz3 : w.heap.size + 1 ≤ w3.heap.size := Nat.le_trans hz2 hb3.size
    replace hs2 := hs2.below hb3
    clear hx2 hb3 HR
    have HE := Lib.hid (ex8_equal (hs2.ext (Ext.sub_only (M' := fun _ => False) fun _ _ h => h.elim)) (hs3.ext (Ext.sub_only (M' := fun _ => False) fun _ _ h => h.elim)) (hl2.out.trans hl3.out.symm))
    go_wp2_with fail
    refine (HE.out).mono ?_
    rintro e w4 ⟨rfl, n4, rfl⟩
    have hB4 : Below (w.heap.size + 1) _ (w3.drewN n4) := hB3.trans (below_drewN _ _ _)
    clear HE hs2 hs3
    go_wp2_with fail
    refine (ex8_any).mono ?_
    rintro e w5 ⟨rfl, hb5⟩
    have hBf : Below w.heap.size w w5 := ((Below.refl _ _).alloc (Nat.le_refl _) _).trans ((hB4.trans (hb5.mono (by simpa using hz3))).mono (by omega))
    go_wp2
    go_ret
    exact ⟨rfl, hBf⟩

set_option maxRecDepth 100000 in
set_option maxHeartbeats 4000000 in
theorem lclasses_any (hm : Ma M w an cn ao co m) :
    Calls Try.prog 4 #[maV m an cn ao co] w fun e w' => e = .returned (.bool true) ∧ Below w.heap.size w w' := by
  have HM := Lib.hid (hm.ext (Ext.alloc M w (.cells #[.int .i64 m.inputs, .int .i64 m.start, .slice an m.next.length cn, .slice ao m.out.length co] 24)))
  have HG := Lib.hid (great_any HM.out)
  clear hm
  cases hg : m.great with
  | true =>
    go_enter Try.func4, Try.ntmps4
    go_wp2_with fail
    refine (HG.out).mono ?_
    rintro e w1 ⟨rfl, hb1⟩
    rw [hg]
    have hz1 : w.heap.size + 1 ≤ w1.heap.size := by have := hb1.size; simpa using this
    have hB1 : Below (w.heap.size + 1) (w.alloc (.cells #[.int .i64 m.inputs, .int .i64 m.start, .slice an m.next.length cn, .slice ao m.out.length co] 24)) w1 := hb1.mono (by simp)
    clear hb1 HG
    go_wp2_with fail
    refine (ex8_any).mono ?_
    rintro e w2 ⟨rfl, hb2⟩
    have hBf : Below w.heap.size w w2 := ((Below.refl _ _).alloc (Nat.le_refl _) _).trans ((hB1.trans (hb2.mono hz1)).mono (by omega))
    go_wp2
    go_ret
    exact ⟨rfl, hBf⟩
  | false =>
    go_enter Try.func4, Try.ntmps4
    go_wp2_with fail
    refine (HG.out).mono ?_
    rintro e w1 ⟨rfl, hb1⟩
    rw [hg]
    have hz1 : w.heap.size + 1 ≤ w1.heap.size := by have := hb1.size; simpa using this
    have hB1 : Below (w.heap.size + 1) (w.alloc (.cells #[.int .i64 m.inputs, .int .i64 m.start, .slice an m.next.length cn, .slice ao m.out.length co] 24)) w1 := hb1.mono (by simp)
    have hx1 : ∀ o, w1.cell? ⟨w.heap.size, o, none⟩ = _ := fun o => hB1.cell (by simp)
    clear hb1 HG
    have HP := Lib.hid (classes_any (HM.out.below (by simpa using hB1)))
    go_wp2_with fail
    refine (HP.out).mono ?_
    rintro e w2 ⟨a2, c2, l2, rfl, hl2, hs2, hb2⟩
    have hB2 := hB1.trans (hb2.mono hz1)
    have hz2 : w.heap.size + 1 ≤ w2.heap.size := Nat.le_trans hz1 hb2.size
    have hx2 : ∀ o, w2.cell? ⟨w.heap.size, o, none⟩ = _ := fun o => hB2.cell (by simp)
    clear hx1 hb2 HP
    have HR := Lib.hid (classesR_any (HM.out.below (by simpa using hB2)))
    go_wp2_with fail
    refine (HR.out).mono ?_
    rintro e w3 ⟨a3, c3, l3, rfl, hl3, hs3, hb3⟩
    have hB3 := hB2.trans (hb3.mono hz2)
    have hz3 : w.heap.size + 1 ≤ w3.heap.size := Nat.le_trans hz2 hb3.size
    have hx3 : ∀ o, w3.cell? ⟨w.heap.size, o, none⟩ = _ := fun o => hB3.cell (by simp)
    replace hs2 := hs2.below hb3
    clear hx2 hb3 HR
    have HD := Lib.hid (depth_any (HM.out.below (by simpa using hB3)))
    go_wp2_with fail
    refine (HD.out).mono ?_
    rintro e w4 ⟨d4, rfl, hd4, hb4⟩
    have hB4 := hB3.trans (hb4.mono hz3)
    have hz4 : w.heap.size + 1 ≤ w4.heap.size := Nat.le_trans hz3 hb4.size
    have hx4 : ∀ o, w4.cell? ⟨w.heap.size, o, none⟩ = _ := fun o => hB4.cell (by simp)
    replace hs2 := hs2.below hb4
    replace hs3 := hs3.below hb4
    clear hx3 hb4 HD
    have HD := Lib.hid (depthR_any (HM.out.below (by simpa using hB4)))
    go_wp2_with fail
    refine (HD.out).mono ?_
    rintro e w5 ⟨d5, rfl, hd5, hb5⟩
    obtain rfl : d4 = d5 := hd4.out.unique hd5.out
    have hB5 := hB4.trans (hb5.mono hz4)
    have hz5 : w.heap.size + 1 ≤ w5.heap.size := Nat.le_trans hz4 hb5.size
    replace hs2 := hs2.below hb5
    replace hs3 := hs3.below hb5
    clear hx4 hb5 HD
    have HE := Lib.hid (ex8_equal (hs2.ext (Ext.sub_only (M' := fun _ => False) fun _ _ h => h.elim)) (hs3.ext (Ext.sub_only (M' := fun _ => False) fun _ _ h => h.elim)) (hl2.out.trans (m.partOf_all.trans hl3.out.symm)))
    go_wp2_with fail
    refine (HE.out).mono ?_
    rintro e w6 ⟨rfl, n6, rfl⟩
    have hB6 : Below (w.heap.size + 1) _ (w5.drewN n6) := hB5.trans (below_drewN _ _ _)
    clear HE hs2 hs3
    go_wp2_with fail
    refine (ex8_any).mono ?_
    rintro e w7 ⟨rfl, hb7⟩
    have hBf : Below w.heap.size w w7 := ((Below.refl _ _).alloc (Nat.le_refl _) _).trans ((hB6.trans (hb7.mono (by simpa using hz5))).mono (by omega))
    go_wp2
    go_ret
    exact ⟨rfl, hBf⟩
end
end Go.Proofs.Ytdnmgiabgpilkaa
/- The law of chapter 8 on refinement. Condition: the number fits. -/
namespace Go.Proofs.Ytdnmgiabgpilkaa
open Go.RowKit

theorem Mach.part_fine {m : Mach} (ok : m.Ok) {k s t : Nat} (hs : s < m.next.length) (ht : t < m.next.length) (h : (m.partOf ((k : Int) + 1)).getD s 0 = (m.partOf ((k : Int) + 1)).getD t 0) : (m.partOf k).getD s 0 = (m.partOf k).getD t 0 := by
  unfold Mach.partOf at *
  rw [if_pos (m.err_of_ok ok)] at *
  rw [show ((k : Int) + 1).toNat = k + 1 from by omega] at h
  rw [show ((k : Nat) : Int).toNat = k from by omega]
  by_cases hk : m.next.length ≤ k
  · rw [show min (k + 1) m.next.length = m.next.length from by omega] at h
    rwa [show min k m.next.length = m.next.length from by omega]
  · rw [show min (k + 1) m.next.length = k + 1 from by omega] at h
    rw [show min k m.next.length = k from by omega]
    exact (Mach.part_iff ok k s t hs ht).2 (m.eqv_mono k s t ((Mach.part_iff ok (k + 1) s t hs ht).1 h))
theorem Mach.part_depth {m : Mach} (ok : m.Ok) {k d : Nat} (hd : m.DepthOf d) : d < m.next.length ∧ (m.partOf k = m.partOf 128 ↔ d ≤ k) := by
  unfold Mach.DepthOf at hd
  rw [if_pos (m.err_of_ok ok)] at hd
  obtain ⟨h1, h2⟩ := hd.rest ok (by omega)
  refine ⟨h1, ?_⟩
  have n1 := ok.n1
  unfold Mach.partOf
  rw [if_pos (m.err_of_ok ok), if_pos (m.err_of_ok ok), show ((k : Nat) : Int).toNat = k from by omega, show min (128 : Int).toNat m.next.length = m.next.length from by omega]
  constructor
  · intro h
    by_cases hk : d ≤ k
    · exact hk
    · rw [show min k m.next.length = k from by omega] at h
      exact absurd h (hd.before ok (by omega) (by omega))
  · intro h
    rw [h2 _ (by omega), h2 m.next.length (by omega)]

section
variable {M : Nat → Prop} {w : World} {an ao : Option Addr} {cn co : Nat} {m : Mach}

theorem equal_is {a b : Option Addr} {c d : Nat} {xs ys : List Int} {v : Bool} (h1 : Sl M w a c xs) (h2 : Sl M w b d ys) (h : decide (xs = ys) = v) :
    Calls Try.prog 20 #[.slice a xs.length c, .slice b ys.length d] w fun e w' => e = .returned (.bool v) ∧ ∃ n, w' = w.drewN n :=
  (equal_any h1 h2).mono fun e w' ⟨h3, h4⟩ => ⟨by rw [h3, h], h4⟩

set_option maxRecDepth 100000 in
set_option maxHeartbeats 4000000 in
theorem lfiner_any (hm : Ma M w an cn ao co m) (b : Int) (hb : 0 ≤ b ∧ b < 256) :
    Calls Try.prog 6 #[maV m an cn ao co, .int .u8 b] w fun e w' => e = .returned (.bool true) ∧ Below w.heap.size w w' := by
  obtain ⟨k, rfl⟩ := Int.eq_ofNat_of_zero_le hb.1
  have hk : k < 256 := by omega
  have HM := Lib.hid (hm.ext (Ext.alloc M w (.cells #[.int .i64 m.inputs, .int .i64 m.start, .slice an m.next.length cn, .slice ao m.out.length co] 24)))
  have HG := Lib.hid (great_any HM.out)
  clear hm hb
  by_cases hg : m.great = true ∨ 20 < k
  · have hgo : (m.great = true) ∨ (m.great = false ∧ 20 < k) := by
      cases h : m.great with
      | true => exact .inl rfl
      | false => exact .inr ⟨rfl, by rcases hg with h2 | h2; · rw [h] at h2; cases h2
                                     · exact h2⟩
    clear hg
    go_enter Try.func6, Try.ntmps6
    go_wp2_with fail
    refine (HG.out).mono ?_
    rintro e w1 ⟨rfl, hb1⟩
    have hz1 : w.heap.size + 1 ≤ w1.heap.size := by have := hb1.size; simpa using this
    have hB1 : Below (w.heap.size + 1) (w.alloc (.cells #[.int .i64 m.inputs, .int .i64 m.start, .slice an m.next.length cn, .slice ao m.out.length co] 24)) w1 := hb1.mono (by simp)
    clear hb1 HG
    rcases hgo with hg | ⟨hg, h20⟩
    · rw [hg]
      go_wp2_with fail
      refine (ex8_any).mono ?_
      rintro e w2 ⟨rfl, hb2⟩
      have hBf : Below w.heap.size w w2 := ((Below.refl _ _).alloc (Nat.le_refl _) _).trans ((hB1.trans (hb2.mono hz1)).mono (by omega))
      go_wp2
      go_ret
      exact ⟨rfl, hBf⟩
    · rw [hg]
      go_wp2_with fail
      refine (ex8_any).mono ?_
      rintro e w2 ⟨rfl, hb2⟩
      have hBf : Below w.heap.size w w2 := ((Below.refl _ _).alloc (Nat.le_refl _) _).trans ((hB1.trans (hb2.mono hz1)).mono (by omega))
      go_wp2
      go_ret
      exact ⟨rfl, hBf⟩
  · have hg1 : m.great = false := by
      cases h : m.great with
      | true => exact absurd (.inl h) hg
      | false => rfl
    have hk20 : k ≤ 20 := by omega
    clear hg hk
    go_enter Try.func6, Try.ntmps6
    go_wp2_with fail
    refine (HG.out).mono ?_
    rintro e w1 ⟨rfl, hb1⟩
    rw [hg1]
    have hz1 : w.heap.size + 1 ≤ w1.heap.size := by have := hb1.size; simpa using this
    have hB1 : Below (w.heap.size + 1) (w.alloc (.cells #[.int .i64 m.inputs, .int .i64 m.start, .slice an m.next.length cn, .slice ao m.out.length co] 24)) w1 := hb1.mono (by simp)
    have hx1 : ∀ o, w1.cell? ⟨w.heap.size, o, none⟩ = _ := fun o => hB1.cell (by simp)
    clear hb1 HG
    have HP := Lib.hid (depth_any (HM.out.below (by simpa using hB1)))
    go_wp2_with fail
    refine (HP.out).mono ?_
    rintro e w2 ⟨d, rfl, hd, hb2⟩
    have hB2 := hB1.trans (hb2.mono hz1)
    have hz2 : w.heap.size + 1 ≤ w2.heap.size := Nat.le_trans hz1 hb2.size
    have hx2 : ∀ o, w2.cell? ⟨w.heap.size, o, none⟩ = _ := fun o => hB2.cell (by simp)
    clear hx1 hb2 HP
    have HR := Lib.hid (classes_any (HM.out.below (by simpa using hB2)))
    go_wp2_with fail
    refine (HR.out).mono ?_
    rintro e w3 ⟨a3, c3, l3, rfl, hl3, hs3, hb3⟩
    have hB3 := hB2.trans (hb3.mono hz2)
    have hz3 : w.heap.size + 1 ≤ w3.heap.size := Nat.le_trans hz2 hb3.size
    have hx3 : ∀ o, w3.cell? ⟨w.heap.size, o, none⟩ = _ := fun o => hB3.cell (by simp)
    clear hx2 hb3 HR
    have HP := Lib.hid (part_any (HM.out.below (by simpa using hB3)) k)
    go_wp2_with fail
    refine (HP.out).mono ?_
    rintro e w4 ⟨a4, c4, l4, rfl, hl4, hs4, hb4⟩
    have hB4 := hB3.trans (hb4.mono hz3)
    have hz4 : w.heap.size + 1 ≤ w4.heap.size := Nat.le_trans hz3 hb4.size
    have hx4 : ∀ o, w4.cell? ⟨w.heap.size, o, none⟩ = _ := fun o => hB4.cell (by simp)
    replace hs3 := hs3.below hb4
    clear hx3 hb4 HP
    have HP := Lib.hid (part_any (HM.out.below (by simpa using hB4)) ((k : Int) + 1))
    go_wp2_with fail
    refine (HP.out).mono ?_
    rintro e w5 ⟨a5, c5, l5, rfl, hl5, hs5, hb5⟩
    have hB5 := hB4.trans (hb5.mono hz4)
    have hz5 : w.heap.size + 1 ≤ w5.heap.size := Nat.le_trans hz4 hb5.size
    have hx5 : ∀ o, w5.cell? ⟨w.heap.size, o, none⟩ = _ := fun o => hB5.cell (by simp)
    replace hs3 := hs3.below hb5
    replace hs4 := hs4.below hb5
    clear hx4 hb5 HP
    by_cases he : m.err = 0
    · have he' : (m.err != 0) = false := by simp [he]
      have HE := Lib.hid he
      have HO := Lib.hid (m.ok_of_err he)
      clear he
      have hd2 := Mach.part_depth HO.out (k := k) hd.out
      have hdl := hd2.1
      have hdk := Lib.hid hd2.2
      clear hd2
      have n1 := HO.out.n1
      have len4 : Hid (l4.length = m.next.length) := by unfold Hid; rw [hl4.out]; unfold Mach.partOf; rw [if_pos HE.out, Mach.part_length]
      have len5 : Hid (l5.length = m.next.length) := by unfold Hid; rw [hl5.out]; unfold Mach.partOf; rw [if_pos HE.out, Mach.part_length]
      have t4 : (((l4.length : Nat) : Int) != ((m.next.length : Nat) : Int)) = false := by simp [len4.out]
      have t5 : (((l5.length : Nat) : Int) != ((m.next.length : Nat) : Int)) = false := by simp [len5.out]
      have td : decide (((d : Nat) : Int) < 0) = false := by simp
      have tm : decide ((if (1 : Int) < ((m.next.length : Nat) : Int) then ((m.next.length : Nat) : Int) else 1) ≤ ((d : Nat) : Int)) = false := by
        rw [decide_eq_false_iff_not]; split <;> omega
      have HF : Hid (∀ i j, i < m.next.length → j < m.next.length → l5.getD i 0 = l5.getD j 0 → l4.getD i 0 = l4.getD j 0) := by
        intro i j hi hj h
        rw [hl5.out] at h
        rw [hl4.out]
        exact Mach.part_fine HO.out hi hj h
      have l5b : l5.length ≤ 128 := by have := len5.out; omega
      go_wp2
      all_goals
        clear h
        go_loopw [105] (fun i wr => ∃ (j n : Nat), j ≤ l5.length ∧ i = .int .i64 j ∧ wr = w5.drewN n) (fun i _ => l5.length - (intOf i).toNat)
        case atStart => exact ⟨0, 0, by omega, rfl, rfl⟩
        case round =>
          obtain ⟨i, n, hi, rfl, rfl⟩ := hrel
          by_cases hlt : i < l5.length
          · have hi4 : i < l4.length := by have := len4.out; have := len5.out; omega
            go_wp2
            go_loopw [109] (fun j w6 => ∃ (j' n' : Nat), j' ≤ i ∧ j = .int .i64 j' ∧ w6 = w5.drewN n') (fun j _ => i - (intOf j).toNat)
            case atStart => exact ⟨0, n, by omega, rfl, rfl⟩
            case round =>
              obtain ⟨j, n', hj, rfl, rfl⟩ := hrel
              by_cases hlj : j < i
              · have hj5 : j < l5.length := by omega
                have hj4 : j < l4.length := by omega
                obtain ⟨b5, o5, x, ha5, hxc, hx, -⟩ := hs5.at_int hlt
                obtain ⟨b5', o5', y, hb5, hyc, hy, -⟩ := hs5.at_int hj5
                obtain ⟨b4, o4, p, ha4, hpc, hp, -⟩ := hs4.at_int hi4
                obtain ⟨b4', o4', q, hb4, hqc, hq, -⟩ := hs4.at_int hj4
                subst ha5
                subst ha4
                obtain ⟨rfl, rfl⟩ : b5 = b5' ∧ o5 = o5' := by simpa using hb5
                obtain ⟨rfl, rfl⟩ : b4 = b4' ∧ o4 = o4' := by simpa using hb4
                have HH : x = y → p = q := fun e => by
                  have := HF.out i j (by have := len5.out; omega) (by have := len5.out; omega) (by rw [getD_of_some hx.out, getD_of_some hy.out, e])
                  rwa [getD_of_some hp.out, getD_of_some hq.out] at this
                by_cases hxy : x = y
                · have hpq := HH hxy
                  subst hxy
                  subst hpq
                  clear HH
                  go_wp2
                  refine wp_quiet_fast (by kernel_rfl) (by kernel_rfl) ?_
                  repeat (first | go_big_quiet_step (fail) | quiet_step (fail))
                  refine wpQuiet_nil ?_
                  intro _ hw'
                  obtain ⟨nq, hw''⟩ := hw'
                  subst hw''
                  go_wp2
                  go_roundw
                  case rel => exact ⟨j + 1, _, by omega, by go_num, rfl⟩
                  case measure => simp [intOf]; omega
                · have txy : (x == y) = false := by simp [hxy]
                  clear hxy HH
                  go_wp2
                  refine wp_quiet_fast (by kernel_rfl) (by kernel_rfl) ?_
                  repeat (first | go_big_quiet_step (fail) | quiet_step (fail))
                  refine wpQuiet_nil ?_
                  intro _ hw'
                  obtain ⟨nq, hw''⟩ := hw'
                  subst hw''
                  go_wp2
                  go_roundw
                  case rel => exact ⟨j + 1, _, by omega, by go_num, rfl⟩
                  case measure => simp [intOf]; omega
              · go_wp2
                go_roundw
                case rel => exact ⟨i + 1, _, by omega, by go_num, rfl⟩
                case measure => simp [intOf]; omega
          · have hpc : decide (l4 = l3) = decide (d ≤ k) := by
              rw [hl4.out, hl3.out]
              exact decide_eq_decide.2 hdk.out
            have HEQ := Lib.hid (equal_is ((hs4.ext (Ext.sub_only (M' := fun _ => False) fun _ _ h => h.elim)).drewN n) ((hs3.ext (Ext.sub_only (M' := fun _ => False) fun _ _ h => h.elim)).drewN n) hpc)
            have tdk : decide (((d : Nat) : Int) ≤ ((k : Nat) : Int)) = decide (d ≤ k) := decide_eq_decide.2 (by omega)
            clear hs3 hs4 hs5 hpc
            go_wp2_with fail
            refine (HEQ.out).mono ?_
            rintro e w6 ⟨rfl, n6, rfl⟩
            cases hdd : decide (d ≤ k) with
            | true =>
              have hdd1 : d ≤ k := of_decide_eq_true hdd
              go_wp2_with fail
              refine (ex8_any).mono ?_
              rintro e w7 ⟨rfl, hb7⟩
              have hBf : Below w.heap.size w w7 := ((Below.refl _ _).alloc (Nat.le_refl _) _).trans (((hB5.trans (below_drewN _ _ _)).trans (hb7.mono (by simpa using hz5))).mono (by omega))
              go_wp2
              go_ret
              exact ⟨rfl, hBf⟩
            | false =>
              have hdd1 : ¬ d ≤ k := of_decide_eq_false hdd
              go_wp2_with fail
              refine (ex8_any).mono ?_
              rintro e w7 ⟨rfl, hb7⟩
              have hBf : Below w.heap.size w w7 := ((Below.refl _ _).alloc (Nat.le_refl _) _).trans (((hB5.trans (below_drewN _ _ _)).trans (hb7.mono (by simpa using hz5))).mono (by omega))
              go_wp2
              go_ret
              exact ⟨rfl, hBf⟩
    · have he' : (m.err != 0) = true := by simp [he]
      have HE := Lib.hid he
      clear he
      go_wp2_with fail
      refine (ex8_any).mono ?_
      rintro e w6 ⟨rfl, hb6⟩
      have hBf : Below w.heap.size w w6 := ((Below.refl _ _).alloc (Nat.le_refl _) _).trans ((hB5.trans (hb6.mono hz5)).mono (by omega))
      go_wp2
      go_ret
      exact ⟨rfl, hBf⟩
end
end Go.Proofs.Ytdnmgiabgpilkaa
