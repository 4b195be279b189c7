/- The reference's Minimal. No condition beyond that the fields read as lists of lists. -/
import Derived.Test.YtdnmgiabgpilkaaMinR
import Derived.Test.YtdnmgiabgpilkaaMinimal
namespace Go.Proofs.Ytdnmgiabgpilkaa
open Go.RowKit

theorem Mach.minimal_iff (m : Mach) : m.minimal = decide (m.err = 0 ∧ m.minOf.next.length = m.next.length) := by
  unfold Mach.minimal
  rw [decide_eq_decide]
  constructor
  · exact fun h => ⟨h.1, h.2.2⟩
  · intro h
    refine ⟨h.1, ?_, h.2⟩
    have ok := m.ok_of_err h.1
    have h1 := Mach.reach_le ok
    have h2 := h.2
    rw [Mach.minOf_eq h.1] at h2
    unfold Mach.minF at h2
    rw [List.length_map] at h2
    have h3 := visitC_len m.cl m.reach []
    unfold firsts at h2
    simp only [List.length_nil, Nat.zero_add] at h3
    omega

section
variable {M : Nat → Prop} {w : World} {an ao : Option Addr} {cn co : Nat} {m : Mach}

set_option maxRecDepth 100000 in
set_option maxHeartbeats 4000000 in
theorem minimalR_any (hm : Ma M w an cn ao co m) :
    Calls Try.prog 29 #[maV m an cn ao co] w fun e w' => ∃ b, e = .returned (.bool b) ∧ Hid (b = m.minimal) ∧ Below w.heap.size w w' := by
  have HN := Lib.hid (minR_any (hm.ext (Ext.alloc M w (.cells #[.int .i64 m.inputs, .int .i64 m.start, .slice an m.next.length cn, .slice ao m.out.length co] 24))))
  have hnl := hm.next.le
  clear hm
  by_cases he : m.err = 0
  · have he' : (m.err == 0) = true := by simp [he]
    have HE := Lib.hid he
    clear he
    go_enter Try.func29, Try.ntmps29
    go_wp2_with fail
    refine (HN.out).mono ?_
    rintro e w1 ⟨tn, tcn, to, tco, t, rfl, ht, hmt, hb1⟩
    clear HN
    have hz1 : w.heap.size + 1 ≤ w1.heap.size := by have := hb1.size; simpa using this
    have hB1 : Below (w.heap.size + 1) (w.alloc (.cells #[.int .i64 m.inputs, .int .i64 m.start, .slice an m.next.length cn, .slice ao m.out.length co] 24)) (w1.alloc (.cells #[.int .i64 t.inputs, .int .i64 t.start, .slice tn t.next.length tcn, .slice to t.out.length tco] 24)) := (hb1.mono (by simp)).alloc hz1 _
    have hbx : ∀ o, (w1.alloc (.cells #[.int .i64 t.inputs, .int .i64 t.start, .slice tn t.next.length tcn, .slice to t.out.length tco] 24)).cell? ⟨w.heap.size, o, none⟩ = _ := fun o => hB1.cell (by simp)
    have hBf : Below w.heap.size w (w1.alloc (.cells #[.int .i64 t.inputs, .int .i64 t.start, .slice tn t.next.length tcn, .slice to t.out.length tco] 24)) := ((Below.refl _ _).alloc (Nat.le_refl _) _).trans (hB1.mono (by omega))
    have htl := hmt.next.le
    clear hb1 hB1
    go_wp2
    go_ret
    refine ⟨_, rfl, ?_, hBf⟩
    unfold Hid; rw [Mach.minimal_iff, ← ht.out]
    have hE := HE.out
    simp [hE]
    try (by_cases h : t.next.length = m.next.length
         · simp [h]
         · simp [h]; omega)
  · have he' : (m.err == 0) = false := by simp [he]
    have HE := Lib.hid he
    clear he
    go_enter Try.func29, Try.ntmps29
    go_wp2_with fail
    refine (HN.out).mono ?_
    rintro e w1 ⟨tn, tcn, to, tco, t, rfl, ht, hmt, hb1⟩
    clear HN
    have hz1 : w.heap.size + 1 ≤ w1.heap.size := by have := hb1.size; simpa using this
    have hB1 : Below (w.heap.size + 1) (w.alloc (.cells #[.int .i64 m.inputs, .int .i64 m.start, .slice an m.next.length cn, .slice ao m.out.length co] 24)) (w1.alloc (.cells #[.int .i64 t.inputs, .int .i64 t.start, .slice tn t.next.length tcn, .slice to t.out.length tco] 24)) := (hb1.mono (by simp)).alloc hz1 _
    have hbx : ∀ o, (w1.alloc (.cells #[.int .i64 t.inputs, .int .i64 t.start, .slice tn t.next.length tcn, .slice to t.out.length tco] 24)).cell? ⟨w.heap.size, o, none⟩ = _ := fun o => hB1.cell (by simp)
    have hBf : Below w.heap.size w (w1.alloc (.cells #[.int .i64 t.inputs, .int .i64 t.start, .slice tn t.next.length tcn, .slice to t.out.length tco] 24)) := ((Below.refl _ _).alloc (Nat.le_refl _) _).trans (hB1.mono (by omega))
    have htl := hmt.next.le
    clear hb1 hB1
    go_wp2
    go_ret
    refine ⟨_, rfl, ?_, hBf⟩
    unfold Hid; rw [Mach.minimal_iff, ← ht.out]
    have hE := HE.out
    simp [hE]
    try (by_cases h : t.next.length = m.next.length
         · simp [h]
         · simp [h]; omega)
end
end Go.Proofs.Ytdnmgiabgpilkaa
