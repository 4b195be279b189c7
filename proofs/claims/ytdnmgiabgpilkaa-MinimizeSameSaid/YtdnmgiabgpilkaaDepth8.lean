/- The reference's Depth. No condition beyond that the fields read as lists of lists. -/
import Derived.Test.YtdnmgiabgpilkaaPart
namespace Go.Proofs.Ytdnmgiabgpilkaa
open Go.RowKit

theorem Mach.Steps.of_least {m : Mach} (ok : m.Ok) {k n : Nat} (hk : k ≤ n) (h : ∀ j, j < k → m.part j ≠ m.part n) (he : m.part k = m.part n) : m.Steps n k := by
  refine ⟨hk, fun j hj hc => h j hj (part_eq ok (fun s t hs ht => eqv_stable ok (same_of_count ok hc) n (by omega) s t hs ht)), ?_⟩
  by_cases e : k = n
  · exact .inl e
  · refine .inr (count_of_same ok fun s t hs ht => ⟨fun hr => ?_, m.eqv_mono k s t⟩)
    have h1 := (part_iff ok k s t hs ht).2 hr
    rw [he] at h1
    exact m.eqv_le ((part_iff ok n s t hs ht).1 h1) (by omega)

theorem Mach.Steps.unique {m : Mach} {n d d' : Nat} (h : m.Steps n d) (h' : m.Steps n d') : d = d' := by
  rcases Nat.lt_trichotomy d d' with e | e | e
  · rcases h.2.2 with h1 | h1
    · have := h'.1; omega
    · exact absurd h1 (h'.2.1 d e)
  · exact e
  · rcases h'.2.2 with h1 | h1
    · have := h.1; omega
    · exact absurd h1 (h.2.1 d' e)

theorem Mach.DepthOf.unique {m : Mach} {d d' : Nat} (h : m.DepthOf d) (h' : m.DepthOf d') : d = d' := by
  unfold DepthOf at h h'
  by_cases e : m.err = 0
  · rw [if_pos e] at h h'; exact h.unique h'
  · rw [if_neg e] at h h'; rw [h, h']

theorem Mach.partOf_nat {m : Mach} (h : m.err = 0) (k : Nat) (hk : k ≤ m.next.length) : m.partOf k = m.part k := by
  unfold partOf
  rw [if_pos h, show min (k : Int).toNat m.next.length = k from by omega]

section
variable {M : Nat → Prop} {w : World} {an ao : Option Addr} {cn co : Nat} {m : Mach}

set_option maxHeartbeats 2000000 in
theorem depthR_any (hm : Ma M w an cn ao co m) :
    Calls Try.prog 24 #[maV m an cn ao co] w fun e w' =>
      ∃ d : Nat, e = .returned (.tuple #[.int .i64 d, .int .i64 m.err]) ∧ Hid (m.DepthOf d) ∧ Below w.heap.size w w' := by
  have HC := Lib.hid (classesR_any (hm.ext (Ext.alloc M w (.cells #[.int .i64 m.inputs, .int .i64 m.start, .slice an m.next.length cn, .slice ao m.out.length co] 24))))
  by_cases he : m.err = 0
  · have ok := m.ok_of_err he
    have OK := Lib.hid ok
    have he' : (m.err != 0) = false := by simp [he]
    have n1 := ok.n1
    have HE := Lib.hid he
    clear he ok
    go_enter Try.func24, Try.ntmps24
    go_wp2_with (go_at_call 22; refine (HC.out).mono ?_; rintro e w1 ⟨aa, ca, all, rfl, hall, hsa, hb1⟩; have hbx1 : ∀ o, w1.cell? ⟨w.heap.size, o, none⟩ = _ := fun o => hb1.cell (by simp))
    have hB1 : Below (w.heap.size + 1) (w.alloc (.cells #[.int .i64 m.inputs, .int .i64 m.start, .slice an m.next.length cn, .slice ao m.out.length co] 24)) w1 := hb1.mono (by simp)
    have hsa1 : Sl (fun k => k < w.heap.size + 1) w1 aa ca all := by simpa using hsa
    clear hsa hb1 hbx1
    go_loopw [6] (fun i wr => ∃ k : Nat, k ≤ m.next.length ∧ i = .int .i64 k ∧ Hid (∀ j, j < k → m.part j ≠ m.part m.next.length) ∧ Sl (fun k => k < w.heap.size + 1) wr aa ca all ∧
      Below (w.heap.size + 1) (w.alloc (.cells #[.int .i64 m.inputs, .int .i64 m.start, .slice an m.next.length cn, .slice ao m.out.length co] 24)) wr) (fun i _ => m.next.length - (intOf i).toNat)
    case atStart => exact ⟨0, by omega, rfl, fun j hj => by omega, hsa1, hB1⟩
    case round =>
      clear hB1 hsa1
      obtain ⟨k, hk, rfl, hlt, hsa, hB⟩ := hrel
      obtain ⟨wo, rfl⟩ : ∃ wo : World, wo = wr := ⟨_, rfl⟩
      have hbx : ∀ o, wo.cell? ⟨w.heap.size, o, none⟩ = _ := fun o => hB.cell (by simp)
      have hsz : w.heap.size + 1 ≤ wo.heap.size := by have := hB.size; simpa using this
      have hB3 : Below w.heap.size w wo := ((Below.refl _ _).alloc (Nat.le_refl _) _).trans (hB.mono (by omega))
      have HP := Lib.hid (partR_any (hm.below hB3) (k : Int) (i64_of_nat (by omega)))
      by_cases heq : m.part k = m.part m.next.length
      · have HQ := Lib.hid heq
        clear heq
        go_wp2_with (go_at_call 19; refine (HP.out).mono ?_; rintro e w4 ⟨a4, c4, l4, rfl, hl4, hS4, hb4⟩)
        have hd : decide (l4 = all) = true := by
          rw [decide_eq_true_iff, hl4.out, hall.out, Mach.partOf_nat HE.out k hk, Mach.partOf_nat HE.out _ (Nat.le_refl _), HQ.out]
        have hr := equal_any (hS4.anti (M' := fun _ => False) (by simp)) (hsa.below hb4 |>.anti (M' := fun _ => False) (by simp))
        rw [hd] at hr
        refine hr.mono ?_
        rintro e w5 ⟨rfl, n5, rfl⟩
        clear hd hr
        go_wp2
        go_ret2
        refine ⟨k, ret2_int' HE.out.symm, ?_, bl_drewN (hB3.trans (hb4.mono (by omega))) _⟩
        unfold Hid Mach.DepthOf
        rw [if_pos HE.out]
        exact Mach.Steps.of_least OK.out hk hlt.out HQ.out
      · have HQ := Lib.hid heq
        have hkn : k < m.next.length := by
          have h0 : k ≠ m.next.length := fun e => HQ.out (by rw [e])
          omega
        clear heq
        go_wp2_with (go_at_call 19; refine (HP.out).mono ?_; rintro e w4 ⟨a4, c4, l4, rfl, hl4, hS4, hb4⟩)
        have hd : decide (l4 = all) = false := by
          rw [decide_eq_false_iff_not, hl4.out, hall.out, Mach.partOf_nat HE.out k hk, Mach.partOf_nat HE.out _ (Nat.le_refl _)]
          exact HQ.out
        have hr := equal_any (hS4.anti (M' := fun _ => False) (by simp)) (hsa.below hb4 |>.anti (M' := fun _ => False) (by simp))
        rw [hd] at hr
        refine hr.mono ?_
        rintro e w5 ⟨rfl, n5, rfl⟩
        clear hd hr
        go_wp2
        go_roundw
        case rel => exact ⟨k + 1, by omega, by go_num, fun j hj => by
          by_cases e : j = k
          · rw [e]; exact HQ.out
          · exact hlt.out j (by omega), (hsa.below hb4).drewN _, bl_drewN (hB.trans (hb4.mono hsz)) _⟩
        case measure => simp [intOf]; omega
  · have he' : (m.err != 0) = true := by simp [he]
    have HE := Lib.hid he
    clear he
    go_enter Try.func24, Try.ntmps24
    go_wp2_with (go_at_call 22; refine (HC.out).mono ?_; rintro e w1 ⟨aa, ca, all, rfl, hall, hsa, hb1⟩)
    go_ret2
    exact ⟨0, rfl, by unfold Hid Mach.DepthOf; rw [if_neg HE.out], ((Below.refl _ _).alloc (Nat.le_refl _) _).trans (hb1.mono (by simp))⟩
end
end Go.Proofs.Ytdnmgiabgpilkaa
