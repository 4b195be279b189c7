/- Lists of lists, and machines, compared. No condition beyond that the fields read as lists of lists. -/
import Derived.Test.YtdnmgiabgpilkaaGreat
namespace Go.Proofs.Ytdnmgiabgpilkaa
open Go.RowKit

theorem take_eq_succ' {α : Type} {xs ys : List α} {k : Nat} {x y : α} (hx : xs[k]? = some x) (hy : ys[k]? = some y) (h : xs.take k = ys.take k) (e : x = y) : xs.take (k + 1) = ys.take (k + 1) := by
  rw [List.take_add_one, List.take_add_one, hx, hy, h, e]
theorem ne_of_at' {α : Type} {xs ys : List α} {k : Nat} {x y : α} (hx : xs[k]? = some x) (hy : ys[k]? = some y) (e : x ≠ y) : ¬ xs = ys := by
  intro h; rw [h, hy] at hx; simp at hx; exact e hx.symm
theorem eq_of_takes' {α : Type} {xs ys : List α} {k : Nat} (hl : xs.length = ys.length) (hk' : ¬ k < xs.length) (h : xs.take k = ys.take k) : xs = ys := by
  rwa [List.take_of_length_le (by omega), List.take_of_length_le (by omega)] at h

theorem sl_dr {α : Type} [GR α] {M : Nat → Prop} {w wr : World} {a : Option Addr} {c : Nat} {l : List α} (h : Hid (∃ n, wr = w.drewN n)) (hs : Sl M w a c l) : Sl M wr a c l := by
  obtain ⟨n, rfl⟩ := h.out
  exact hs.drewN n
theorem dr_add {w wr : World} (h : Hid (∃ n, wr = w.drewN n)) (m : Nat) : ∃ n, wr.drewN m = w.drewN n := by
  obtain ⟨n, rfl⟩ := h.out
  exact ⟨_, World.drewN_drewN _ _ _⟩

section
variable {M : Nat → Prop} {w : World} {a1 a2 : Option Addr} {c1 c2 : Nat}

theorem ints_yes {xs ys : List Int} (h1 : Sl M w a1 c1 xs) (h2 : Sl M w a2 c2 ys) (h : xs = ys) :
    Calls Try.prog 70 #[.slice a1 xs.length c1, .slice a2 ys.length c2] w fun e w' => e = .returned (.bool true) ∧ ∃ n, w' = w.drewN n :=
  (ints_any h1 h2).mono fun e w' ⟨he, hw⟩ => ⟨by rw [he]; exact ret_bool (by simp [h]), hw⟩
theorem ints_no {xs ys : List Int} (h1 : Sl M w a1 c1 xs) (h2 : Sl M w a2 c2 ys) (h : xs ≠ ys) :
    Calls Try.prog 70 #[.slice a1 xs.length c1, .slice a2 ys.length c2] w fun e w' => e = .returned (.bool false) ∧ ∃ n, w' = w.drewN n :=
  (ints_any h1 h2).mono fun e w' ⟨he, hw⟩ => ⟨by rw [he]; exact ret_bool (by simp [h]), hw⟩

set_option maxHeartbeats 400000 in
theorem lists_any {xs ys : List (List Int)} (h1 : Sl M w a1 c1 xs) (h2 : Sl M w a2 c2 ys) :
    Calls Try.prog 54 #[.slice a1 xs.length c1, .slice a2 ys.length c2] w fun e w' => e = .returned (.bool (decide (xs = ys))) ∧ ∃ n, w' = w.drewN n := by
  have hx := h1.le
  have hy := h2.le
  by_cases hl : xs.length = ys.length
  · have hl' : ((xs.length : Int) != (ys.length : Int)) = false := by simp [hl]
    have HL := Lib.hid hl
    clear hl
    go_enter Try.func54, Try.ntmps54
    go_wp2
    go_loopw [5] (fun i wr => ∃ k : Nat, k ≤ xs.length ∧ i = .int .i64 k ∧ Hid (∃ n, wr = w.drewN n) ∧ Hid (xs.take k = ys.take k)) (fun i _ => xs.length - (intOf i).toNat)
    case atStart => exact ⟨0, Nat.zero_le _, rfl, ⟨0, rfl⟩, rfl⟩
    case round =>
      obtain ⟨k, hk, rfl, hW, hE⟩ := hrel
      have h1r := sl_dr hW h1
      have h2r := sl_dr hW h2
      by_cases hlt : k < xs.length
      · have hlt2 : k < ys.length := HL.out ▸ hlt
        obtain ⟨b, off, a3, x, c3, rfl, hc, hx1, hs1⟩ := h1r.at_row hlt
        obtain ⟨b2, off2, a4, y, c4, rfl, hc2, hx2, hs2⟩ := h2r.at_row hlt2
        by_cases hxy : x = y
        · have HXY := Lib.hid hxy; clear hxy
          go_wp2
          refine wp_quiet_fast (by kernel_rfl) (by kernel_rfl) ?_
          repeat (first | go_big_quiet_step ((go_at_call 70; exact Calls.quiet_of (ints_yes (hs1.drewN _) (hs2.drewN _) HXY.out))) | quiet_step ((go_at_call 70; exact Calls.quiet_of (ints_yes (hs1.drewN _) (hs2.drewN _) HXY.out))))
          refine wpQuiet_nil ?_
          intro _ hw'
          obtain ⟨nq, hw''⟩ := hw'
          subst hw''
          go_wp2
          go_roundw
          case rel => exact ⟨k + 1, by omega, by go_num, dr_add hW _, take_eq_succ' hx1.out hx2.out hE.out HXY.out⟩
          case measure => simp [intOf]; omega
        · have HXY := Lib.hid hxy; clear hxy
          go_wp2
          refine wp_quiet_fast (by kernel_rfl) (by kernel_rfl) ?_
          repeat (first | go_big_quiet_step ((go_at_call 70; exact Calls.quiet_of (ints_no (hs1.drewN _) (hs2.drewN _) HXY.out))) | quiet_step ((go_at_call 70; exact Calls.quiet_of (ints_no (hs1.drewN _) (hs2.drewN _) HXY.out))))
          refine wpQuiet_nil ?_
          intro _ hw'
          obtain ⟨nq, hw''⟩ := hw'
          subst hw''
          go_wp2
          go_ret
          exact ⟨ret_bool (by simpa using ne_of_at' hx1.out hx2.out HXY.out), dr_add hW _⟩
      · go_wp2
        go_ret
        exact ⟨ret_bool (by simpa using eq_of_takes' HL.out hlt hE.out), hW.out⟩
  · have hl' : ((xs.length : Int) != (ys.length : Int)) = true := by simp; omega
    have HL := Lib.hid hl
    clear hl
    go_enter Try.func54, Try.ntmps54
    go_wp2
    go_ret
    exact ⟨ret_bool (by have := HL.out; simp; intro h; exact this (by rw [h])), 0, rfl⟩

theorem rows1_any {xs ys : List Int} (h1 : Sl M w a1 c1 xs) (h2 : Sl M w a2 c2 ys) :
    Calls Try.prog 78 #[.slice a1 xs.length c1, .slice a2 ys.length c2] w fun e w' => e = .returned (.bool (decide (xs = ys))) ∧ ∃ n, w' = w.drewN n := by
  go_enter Try.func78, Try.ntmps78
  go_wp2_with (go_at_call 79; refine (sequal_any h1 h2).mono ?_; rintro e w' ⟨rfl, n, rfl⟩)
  go_ret
  exact ⟨rfl, n, rfl⟩

set_option maxHeartbeats 400000 in
theorem eqfunc_any {xs ys : List (List Int)} (h1 : Sl M w a1 c1 xs) (h2 : Sl M w a2 c2 ys) :
    Calls Try.prog 77 #[.slice a1 xs.length c1, .slice a2 ys.length c2, .func (.func 78) #[] #[]] w fun e w' => e = .returned (.bool (decide (xs = ys))) ∧ ∃ n, w' = w.drewN n := by
  have hx := h1.le
  have hy := h2.le
  by_cases hl : xs.length = ys.length
  · have hl' : ((xs.length : Int) != (ys.length : Int)) = false := by simp [hl]
    have HL := Lib.hid hl
    clear hl
    go_enter Try.func77, Try.ntmps77
    go_wp2
    go_loopw [17] (fun i wr => ∃ k : Nat, k ≤ xs.length ∧ i = .int .i64 k ∧ Hid (∃ n, wr = w.drewN n) ∧ Hid (xs.take k = ys.take k)) (fun i _ => xs.length - (intOf i).toNat)
    case atStart => exact ⟨0, Nat.zero_le _, rfl, ⟨0, rfl⟩, rfl⟩
    case round =>
      obtain ⟨k, hk, rfl, hW, hE⟩ := hrel
      have h1r := sl_dr hW h1
      have h2r := sl_dr hW h2
      by_cases hlt : k < xs.length
      · have hlt2 : k < ys.length := HL.out ▸ hlt
        obtain ⟨b, off, a3, x, c3, rfl, hc, hx1, hs1⟩ := h1r.at_row hlt
        obtain ⟨b2, off2, a4, y, c4, rfl, hc2, hx2, hs2⟩ := h2r.at_row hlt2
        by_cases hxy : x = y
        · have hd : decide (x = y) = true := by simp [hxy]
          have hr := rows1_any hs1 hs2
          rw [hd] at hr
          have HR := Lib.hid hr
          have HXY := Lib.hid hxy; clear hxy hd hr
          go_wp2_with (go_at_call 78; refine (HR.out).mono ?_; rintro e w' ⟨rfl, n', rfl⟩)
          go_roundw
          case rel => exact ⟨k + 1, by omega, by go_num, dr_add hW _, take_eq_succ' hx1.out hx2.out hE.out HXY.out⟩
          case measure => simp [intOf]; omega
        · have hd : decide (x = y) = false := by simp [hxy]
          have hr := rows1_any hs1 hs2
          rw [hd] at hr
          have HR := Lib.hid hr
          have HXY := Lib.hid hxy; clear hxy hd hr
          go_wp2_with (go_at_call 78; refine (HR.out).mono ?_; rintro e w' ⟨rfl, n', rfl⟩)
          go_ret
          exact ⟨ret_bool (by simpa using ne_of_at' hx1.out hx2.out HXY.out), dr_add hW _⟩
      · go_wp2
        go_ret
        exact ⟨ret_bool (by simpa using eq_of_takes' HL.out hlt hE.out), hW.out⟩
  · have hl' : ((xs.length : Int) != (ys.length : Int)) = true := by simp; omega
    have HL := Lib.hid hl
    clear hl
    go_enter Try.func77, Try.ntmps77
    go_wp2
    go_ret
    exact ⟨ret_bool (by have := HL.out; simp; intro h; exact this (by rw [h])), 0, rfl⟩

theorem rows_any {xs ys : List (List Int)} (h1 : Sl M w a1 c1 xs) (h2 : Sl M w a2 c2 ys) :
    Calls Try.prog 64 #[.slice a1 xs.length c1, .slice a2 ys.length c2] w fun e w' => e = .returned (.bool (decide (xs = ys))) ∧ ∃ n, w' = w.drewN n := by
  have hmf : ∀ (fn : Fn) (first cap : Array Value) (w : World), (Instr.makeFunc fn first cap).run Try.prog w = .ok (.func fn first cap) w := fun _ _ _ _ => rfl
  go_enter Try.func64, Try.ntmps64
  go_wp2_with (go_at_call 77; refine (eqfunc_any h1 h2).mono ?_; rintro e w' ⟨rfl, n, rfl⟩)
  go_ret
  exact ⟨rfl, n, rfl⟩

end

section
variable {M : Nat → Prop} {w : World} {an ao : Option Addr} {cn co : Nat} {m : Mach} {an' ao' : Option Addr} {cn' co' : Nat} {m' : Mach}
theorem Mach.eq_iff (m m' : Mach) : m = m' ↔ m.inputs = m'.inputs ∧ m.start = m'.start ∧ m.next = m'.next ∧ m.out = m'.out := by
  cases m; cases m'; simp

set_option maxHeartbeats 400000 in
theorem same6_any (hm : Ma M w an cn ao co m) (hm' : Ma M w an' cn' ao' co' m') :
    Calls Try.prog 27 #[maV m an cn ao co, maV m' an' cn' ao' co'] w fun e w' => e = .returned (.bool (decide (m = m'))) ∧ Below w.heap.size w w' := by
  have e0 := hm.ext ((Ext.alloc M w (.cells #[.int .i64 m.inputs, .int .i64 m.start, .slice an m.next.length cn, .slice ao m.out.length co] 24)).trans (Ext.alloc M _ (.cells #[.int .i64 m'.inputs, .int .i64 m'.start, .slice an' m'.next.length cn', .slice ao' m'.out.length co'] 24)))
  have e0' := hm'.ext ((Ext.alloc M w (.cells #[.int .i64 m.inputs, .int .i64 m.start, .slice an m.next.length cn, .slice ao m.out.length co] 24)).trans (Ext.alloc M _ (.cells #[.int .i64 m'.inputs, .int .i64 m'.start, .slice an' m'.next.length cn', .slice ao' m'.out.length co'] 24)))
  by_cases h1 : m.inputs = m'.inputs
  · have h1' : (m.inputs == m'.inputs) = true := by simp [h1]
    have H1 := Lib.hid h1
    clear h1
    by_cases h2 : m.start = m'.start
    · have h2' : (m.start == m'.start) = true := by simp [h2]
      have H2 := Lib.hid h2
      clear h2
      by_cases h3 : m.next = m'.next
      · have hd : decide (m.next = m'.next) = true := by simp [h3]
        have hr := lists_any e0.next e0'.next
        rw [hd] at hr
        have HR := Lib.hid hr
        have H3 := Lib.hid h3
        clear h3 hd hr
        go_enter Try.func27, Try.ntmps27
        go_wp2_with fail
        refine (HR.out).mono ?_
        rintro e w' ⟨rfl, n, rfl⟩
        go_wp2_with fail
        refine (lists_any (e0.out.drewN n) (e0'.out.drewN n)).mono ?_
        rintro e w' ⟨rfl, n2, rfl⟩
        go_wp2
        go_ret
        exact ⟨ret_bool (by simp [Mach.eq_iff, H1.out, H2.out, H3.out]), by (repeat' (first | with_reducible exact Below.refl _ _ | with_reducible assumption | with_reducible refine bl_drewN ?_ _ | with_reducible refine Below.drew ?_ | with_reducible refine Below.alloc ?_ ?_ _ | with_reducible refine Below.setCell ?_ ?_ _ | omega | (simp; done) | (simp; omega)))⟩
      · have hd : decide (m.next = m'.next) = false := by simp [h3]
        have hr := lists_any e0.next e0'.next
        rw [hd] at hr
        have HR := Lib.hid hr
        have H3 := Lib.hid h3
        clear h3 hd hr
        go_enter Try.func27, Try.ntmps27
        go_wp2_with fail
        refine (HR.out).mono ?_
        rintro e w' ⟨rfl, n, rfl⟩
        go_wp2
        go_ret
        exact ⟨ret_bool (by simp [Mach.eq_iff, H3.out]), by (repeat' (first | with_reducible exact Below.refl _ _ | with_reducible assumption | with_reducible refine bl_drewN ?_ _ | with_reducible refine Below.drew ?_ | with_reducible refine Below.alloc ?_ ?_ _ | with_reducible refine Below.setCell ?_ ?_ _ | omega | (simp; done) | (simp; omega)))⟩
    · have h2' : (m.start == m'.start) = false := by simp [h2]
      have H2 := Lib.hid h2
      clear h2
      go_enter Try.func27, Try.ntmps27
      go_wp2
      go_ret
      exact ⟨ret_bool (by simp [Mach.eq_iff, H2.out]), by (repeat' (first | with_reducible exact Below.refl _ _ | with_reducible assumption | with_reducible refine bl_drewN ?_ _ | with_reducible refine Below.drew ?_ | with_reducible refine Below.alloc ?_ ?_ _ | with_reducible refine Below.setCell ?_ ?_ _ | omega | (simp; done) | (simp; omega)))⟩
  · have h1' : (m.inputs == m'.inputs) = false := by simp [h1]
    have H1 := Lib.hid h1
    clear h1
    go_enter Try.func27, Try.ntmps27
    go_wp2
    go_ret
    exact ⟨ret_bool (by simp [Mach.eq_iff, H1.out]), by (repeat' (first | with_reducible exact Below.refl _ _ | with_reducible assumption | with_reducible refine bl_drewN ?_ _ | with_reducible refine Below.drew ?_ | with_reducible refine Below.alloc ?_ ?_ _ | with_reducible refine Below.setCell ?_ ?_ _ | omega | (simp; done) | (simp; omega)))⟩
set_option maxHeartbeats 400000 in
theorem same_any (hm : Ma M w an cn ao co m) (hm' : Ma M w an' cn' ao' co' m') :
    Calls Try.prog 47 #[maV m an cn ao co, maV m' an' cn' ao' co'] w fun e w' => e = .returned (.bool (decide (m = m'))) ∧ Below w.heap.size w w' := by
  have e0 := hm.ext ((Ext.alloc M w (.cells #[.int .i64 m.inputs, .int .i64 m.start, .slice an m.next.length cn, .slice ao m.out.length co] 24)).trans (Ext.alloc M _ (.cells #[.int .i64 m'.inputs, .int .i64 m'.start, .slice an' m'.next.length cn', .slice ao' m'.out.length co'] 24)))
  have e0' := hm'.ext ((Ext.alloc M w (.cells #[.int .i64 m.inputs, .int .i64 m.start, .slice an m.next.length cn, .slice ao m.out.length co] 24)).trans (Ext.alloc M _ (.cells #[.int .i64 m'.inputs, .int .i64 m'.start, .slice an' m'.next.length cn', .slice ao' m'.out.length co'] 24)))
  by_cases h1 : m.inputs = m'.inputs
  · have h1' : (m.inputs == m'.inputs) = true := by simp [h1]
    have H1 := Lib.hid h1
    clear h1
    by_cases h2 : m.start = m'.start
    · have h2' : (m.start == m'.start) = true := by simp [h2]
      have H2 := Lib.hid h2
      clear h2
      by_cases h3 : m.next = m'.next
      · have hd : decide (m.next = m'.next) = true := by simp [h3]
        have hr := rows_any e0.next e0'.next
        rw [hd] at hr
        have HR := Lib.hid hr
        have H3 := Lib.hid h3
        clear h3 hd hr
        go_enter Try.func47, Try.ntmps47
        go_wp2_with fail
        refine (HR.out).mono ?_
        rintro e w' ⟨rfl, n, rfl⟩
        go_wp2_with fail
        refine (rows_any (e0.out.drewN n) (e0'.out.drewN n)).mono ?_
        rintro e w' ⟨rfl, n2, rfl⟩
        go_wp2
        go_ret
        exact ⟨ret_bool (by simp [Mach.eq_iff, H1.out, H2.out, H3.out]), by (repeat' (first | with_reducible exact Below.refl _ _ | with_reducible assumption | with_reducible refine bl_drewN ?_ _ | with_reducible refine Below.drew ?_ | with_reducible refine Below.alloc ?_ ?_ _ | with_reducible refine Below.setCell ?_ ?_ _ | omega | (simp; done) | (simp; omega)))⟩
      · have hd : decide (m.next = m'.next) = false := by simp [h3]
        have hr := rows_any e0.next e0'.next
        rw [hd] at hr
        have HR := Lib.hid hr
        have H3 := Lib.hid h3
        clear h3 hd hr
        go_enter Try.func47, Try.ntmps47
        go_wp2_with fail
        refine (HR.out).mono ?_
        rintro e w' ⟨rfl, n, rfl⟩
        go_wp2
        go_ret
        exact ⟨ret_bool (by simp [Mach.eq_iff, H3.out]), by (repeat' (first | with_reducible exact Below.refl _ _ | with_reducible assumption | with_reducible refine bl_drewN ?_ _ | with_reducible refine Below.drew ?_ | with_reducible refine Below.alloc ?_ ?_ _ | with_reducible refine Below.setCell ?_ ?_ _ | omega | (simp; done) | (simp; omega)))⟩
    · have h2' : (m.start == m'.start) = false := by simp [h2]
      have H2 := Lib.hid h2
      clear h2
      go_enter Try.func47, Try.ntmps47
      go_wp2
      go_ret
      exact ⟨ret_bool (by simp [Mach.eq_iff, H2.out]), by (repeat' (first | with_reducible exact Below.refl _ _ | with_reducible assumption | with_reducible refine bl_drewN ?_ _ | with_reducible refine Below.drew ?_ | with_reducible refine Below.alloc ?_ ?_ _ | with_reducible refine Below.setCell ?_ ?_ _ | omega | (simp; done) | (simp; omega)))⟩
  · have h1' : (m.inputs == m'.inputs) = false := by simp [h1]
    have H1 := Lib.hid h1
    clear h1
    go_enter Try.func47, Try.ntmps47
    go_wp2
    go_ret
    exact ⟨ret_bool (by simp [Mach.eq_iff, H1.out]), by (repeat' (first | with_reducible exact Below.refl _ _ | with_reducible assumption | with_reducible refine bl_drewN ?_ _ | with_reducible refine Below.drew ?_ | with_reducible refine Below.alloc ?_ ?_ _ | with_reducible refine Below.setCell ?_ ?_ _ | omega | (simp; done) | (simp; omega)))⟩
end
end Go.Proofs.Ytdnmgiabgpilkaa
