/- The reference's Partition and Classes. No condition beyond that the fields read as lists of lists. -/
import Derived.Test.YtdnmgiabgpilkaaFiner
import Derived.Test.YtdnmgiabgpilkaaValid6
namespace Go.Proofs.Ytdnmgiabgpilkaa
open Go.RowKit

theorem ret2_int {x : Value} {a b : Int} (h : a = b) : Ending.returned (.tuple #[x, .int .i64 a]) = .returned (.tuple #[x, .int .i64 b]) := by rw [h]

section
variable {M : Nat → Prop} {w : World} {an ao ac : Option Addr} {cn co cc : Nat} {m : Mach}

set_option maxHeartbeats 2000000 in
theorem partR_any (hm : Ma M w an cn ao co m) (k : Int) (hk0 : i64 k) :
    Calls Try.prog 19 #[maV m an cn ao co, .int .i64 k] w fun e w' =>
      ∃ a c l, e = .returned (.tuple #[.slice a l.length c, .int .i64 m.err]) ∧ Hid (l = m.partOf k) ∧ Sl (fun k => k < w.heap.size) w' a c l ∧ Below w.heap.size w w' := by
  have HK := Lib.hid hk0
  have hv := valid6_any (hm.ext (Ext.alloc M w (.cells #[.int .i64 m.inputs, .int .i64 m.start, .slice an m.next.length cn, .slice ao m.out.length co] 24)))
  have HV := Lib.hid hv
  clear hv hk0
  by_cases he : m.err = 0
  · have OK := Lib.hid (m.ok_of_err he)
    have he' : (m.err != 0) = false := by simp [he]
    have n1 := OK.out.n1
    have HE := Lib.hid he
    clear he
    go_enter Try.func19, Try.ntmps19
    go_wp2_with (first | (go_at_call 43; refine (HV.out).mono ?_; rintro e w1 ⟨rfl, hb1⟩; have hbx1 : ∀ o, w1.cell? ⟨w.heap.size, o, none⟩ = _ := fun o => hb1.cell (by simp)) | (at_make; refine wpList_mk_i (B := w.heap.size + 1) (n := m.next.length) rfl rfl Try.underlying27 info_int rfl (by omega) ?_ ?_))
    · have := hb1.size; simpa using this
    intro g c l w2 hl hO hb2 _
    have hsz1 : w.heap.size + 1 ≤ w1.heap.size := by have := hb1.size; simpa using this
    have hB2 : Below (w.heap.size + 1) (w.alloc (.cells #[.int .i64 m.inputs, .int .i64 m.start, .slice an m.next.length cn, .slice ao m.out.length co] 24)) w2 := (hb1.mono (by simp)).trans (hb2.mono hsz1)
    have hS := hO.fresh (n := w.heap.size) (by omega)
    clear hO hbx1 hb1 hb2
    have hl0 : Hid (l = m.part 0) := hl
    clear hl
    go_wp2
    go_loopw [7, 8] (fun v i wr => ∃ (j : Nat) (a' : Option Addr) (c' : Nat) (l : List Int), j ≤ m.next.length ∧ (j ≤ k.toNat) ∧ i = .int .i64 j ∧ v = .slice a' l.length c' ∧ Hid (l = m.part j) ∧ Sl (fun k => k < w.heap.size) wr a' c' l ∧
      Below (w.heap.size + 1) (w.alloc (.cells #[.int .i64 m.inputs, .int .i64 m.start, .slice an m.next.length cn, .slice ao m.out.length co] 24)) wr) (fun _ i _ => m.next.length - (intOf i).toNat)
    case atStart => exact ⟨0, _, _, _, by omega, by omega, rfl, rfl, hl0, hS, hB2⟩
    case round =>
      obtain ⟨j, a', c', l, hj, hjk, rfl, rfl, hl, hS, hB⟩ := hrel
      obtain ⟨wo, rfl⟩ : ∃ wo : World, wo = wr := ⟨_, rfl⟩
      have hbx : ∀ o, wo.cell? ⟨w.heap.size, o, none⟩ = _ := fun o => hB.cell (by simp)
      have hsz : w.heap.size + 1 ≤ wo.heap.size := by have := hB.size; simpa using this
      have hB3 : Below w.heap.size w wo := ((Below.refl _ _).alloc (Nat.le_refl _) _).trans (hB.mono (by omega))
      by_cases hrun : (j : Int) < k ∧ j < m.next.length
      · obtain ⟨h1, h2⟩ := hrun
        have hll : l.length = m.next.length := by rw [hl.out, m.part_length]
        have HF := Lib.hid (finer_any (hm.below hB3) hS OK.out hll)
        have HLL := Lib.hid hll
        clear hll
        go_wp2_with (go_at_call 52; refine (HF.out).mono ?_; rintro e w4 ⟨a4, c4, l4, rfl, hl4, hS4, hb4⟩)
        have hl4' : Hid (l4 = m.part (j + 1)) := by unfold Hid; rw [hl4.out, m.part_succ, HLL.out, hl.out]
        clear hl4
        go_roundw
        case rel => exact ⟨j + 1, a4, c4, l4, by omega, by omega, by go_num, rfl, hl4', hS4.anti (fun q _ hq => by omega), hB.trans (hb4.mono hsz)⟩
        case measure => simp [intOf]; omega
      · have hfin : Hid (l = m.partOf k) := by
          unfold Hid Mach.partOf
          rw [if_pos HE.out, hl.out]
          congr 1
          omega
        by_cases h1 : (j : Int) < k
        · have h2 : ¬ j < m.next.length := fun h => hrun ⟨h1, h⟩
          clear hrun
          go_wp2
          go_ret2
          exact ⟨a', c', l, ret2_int HE.out.symm, hfin, hS, hB3⟩
        · clear hrun
          go_wp2
          go_ret2
          exact ⟨a', c', l, ret2_int HE.out.symm, hfin, hS, hB3⟩
  · have he' : (m.err != 0) = true := by simp [he]
    have HE := Lib.hid he
    clear he
    go_enter Try.func19, Try.ntmps19
    go_wp2_with (go_at_call 43; refine (HV.out).mono ?_; rintro e w1 ⟨rfl, hb1⟩)
    go_ret2
    exact ⟨none, 0, [], rfl, by unfold Hid Mach.partOf; rw [if_neg HE.out], Sl.nil _ _ _ (by unfold maxLen; omega), ((Below.refl _ _).alloc (Nat.le_refl _) _).trans (hb1.mono (by simp))⟩

set_option maxHeartbeats 1000000 in
theorem classesR_any (hm : Ma M w an cn ao co m) :
    Calls Try.prog 22 #[maV m an cn ao co] w fun e w' =>
      ∃ a c l, e = .returned (.tuple #[.slice a l.length c, .int .i64 m.err]) ∧ Hid (l = m.partOf m.next.length) ∧ Sl (fun k => k < w.heap.size) w' a c l ∧ Below w.heap.size w w' := by
  have HP := Lib.hid (partR_any (hm.ext (Ext.alloc M w (.cells #[.int .i64 m.inputs, .int .i64 m.start, .slice an m.next.length cn, .slice ao m.out.length co] 24))) m.next.length (i64_of_nat hm.next.le))
  go_enter Try.func22, Try.ntmps22
  go_wp2_with (go_at_call 19; refine (HP.out).mono ?_; rintro e w1 ⟨a, c, l, rfl, hl, hs, hb⟩)
  go_ret2
  exact ⟨a, c, l, rfl, hl, hs.anti (fun q _ hq => by simp; omega), ((Below.refl _ _).alloc (Nat.le_refl _) _).trans (hb.mono (by simp))⟩
end
end Go.Proofs.Ytdnmgiabgpilkaa
