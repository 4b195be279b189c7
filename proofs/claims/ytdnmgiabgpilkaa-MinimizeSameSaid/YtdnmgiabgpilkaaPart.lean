/- The program's Partition, Classes and Depth, and the reference's Depth. No condition beyond that the fields read as lists of lists. -/
import Derived.Test.YtdnmgiabgpilkaaRefine
import Derived.Test.YtdnmgiabgpilkaaPart8
namespace Go.Proofs.Ytdnmgiabgpilkaa
open Go.RowKit

/-- What Depth answers: 0 with an error; else how often the classes change. -/
def Mach.DepthOf (m : Mach) (d : Nat) : Prop := if m.err = 0 then m.Steps m.next.length d else d = 0

section
variable {M : Nat → Prop} {w : World} {an ao : Option Addr} {cn co : Nat} {m : Mach}

set_option maxHeartbeats 1000000 in
theorem part_any (hm : Ma M w an cn ao co m) (k : Int) :
    Calls Try.prog 18 #[maV m an cn ao co, .int .i64 k] w fun e w' =>
      ∃ a c l, e = .returned (.tuple #[.slice a l.length c, .int .i64 m.err]) ∧ Hid (l = m.partOf k) ∧ Sl (fun k => k < w.heap.size) w' a c l ∧ Below w.heap.size w w' := by
  have HV := Lib.hid (valid_any (hm.ext (Ext.alloc M w (.cells #[.int .i64 m.inputs, .int .i64 m.start, .slice an m.next.length cn, .slice ao m.out.length co] 24))))
  by_cases he : m.err = 0
  · have ok := m.ok_of_err he
    have OK := Lib.hid ok
    have he' : (m.err != 0) = false := by simp [he]
    have HE := Lib.hid he
    clear he ok
    go_enter Try.func18, Try.ntmps18
    go_wp2_with (go_at_call 50; refine (HV.out).mono ?_; rintro e w1 ⟨rfl, hb1⟩; have hbx1 : ∀ o, w1.cell? ⟨w.heap.size, o, none⟩ = _ := fun o => hb1.cell (by simp); have hm1 := (hm.ext (Ext.alloc M w (.cells #[.int .i64 m.inputs, .int .i64 m.start, .slice an m.next.length cn, .slice ao m.out.length co] 24))).below hb1; have HR := Lib.hid (refine_any hm1 OK.out k); clear hm1; try (go_at_call 51))
    have hsz1 : w.heap.size + 1 ≤ w1.heap.size := by have := hb1.size; simpa using this
    refine (HR.out).mono ?_
    rintro e w2 ⟨a, c, l, d, rfl, hl, hs, hb2⟩
    go_wp2
    go_ret2
    exact ⟨a, c, l, ret2_int HE.out.symm, by unfold Hid Mach.partOf; rw [if_pos HE.out, hl.out.1, hl.out.2.classes OK.out], hs.anti (fun q _ hq => by omega), (((Below.refl _ _).alloc (Nat.le_refl _) _).trans (hb1.mono (by simp))).trans (hb2.mono (by omega))⟩
  · have he' : (m.err != 0) = true := by simp [he]
    have HE := Lib.hid he
    clear he
    go_enter Try.func18, Try.ntmps18
    go_wp2_with (go_at_call 50; refine (HV.out).mono ?_; rintro e w1 ⟨rfl, hb1⟩)
    go_ret2
    exact ⟨none, 0, [], rfl, by unfold Hid Mach.partOf; rw [if_neg HE.out], Sl.nil _ _ _ (by unfold maxLen; omega), ((Below.refl _ _).alloc (Nat.le_refl _) _).trans (hb1.mono (by simp))⟩

theorem classes_any (hm : Ma M w an cn ao co m) :
    Calls Try.prog 21 #[maV m an cn ao co] w fun e w' =>
      ∃ a c l, e = .returned (.tuple #[.slice a l.length c, .int .i64 m.err]) ∧ Hid (l = m.partOf 128) ∧ Sl (fun k => k < w.heap.size) w' a c l ∧ Below w.heap.size w w' := by
  have HP := Lib.hid (part_any (hm.ext (Ext.alloc M w (.cells #[.int .i64 m.inputs, .int .i64 m.start, .slice an m.next.length cn, .slice ao m.out.length co] 24))) 128)
  go_enter Try.func21, Try.ntmps21
  go_wp2_with (go_at_call 18; refine (HP.out).mono ?_; rintro e w1 ⟨a, c, l, rfl, hl, hs, hb⟩)
  go_ret2
  exact ⟨a, c, l, rfl, hl, hs.anti (fun q _ hq => by simp; omega), ((Below.refl _ _).alloc (Nat.le_refl _) _).trans (hb.mono (by simp))⟩

set_option maxHeartbeats 1000000 in
theorem depth_any (hm : Ma M w an cn ao co m) :
    Calls Try.prog 23 #[maV m an cn ao co] w fun e w' =>
      ∃ d : Nat, e = .returned (.tuple #[.int .i64 d, .int .i64 m.err]) ∧ Hid (m.DepthOf d) ∧ Below w.heap.size w w' := by
  have HV := Lib.hid (valid_any (hm.ext (Ext.alloc M w (.cells #[.int .i64 m.inputs, .int .i64 m.start, .slice an m.next.length cn, .slice ao m.out.length co] 24))))
  by_cases he : m.err = 0
  · have ok := m.ok_of_err he
    have OK := Lib.hid ok
    have he' : (m.err != 0) = false := by simp [he]
    have HE := Lib.hid he
    clear he ok
    go_enter Try.func23, Try.ntmps23
    go_wp2_with (go_at_call 50; refine (HV.out).mono ?_; rintro e w1 ⟨rfl, hb1⟩; have hbx1 : ∀ o, w1.cell? ⟨w.heap.size, o, none⟩ = _ := fun o => hb1.cell (by simp); have hm1 := (hm.ext (Ext.alloc M w (.cells #[.int .i64 m.inputs, .int .i64 m.start, .slice an m.next.length cn, .slice ao m.out.length co] 24))).below hb1; have HR := Lib.hid (refine_any hm1 OK.out (m.next.length : Int)); clear hm1)
    have hsz1 : w.heap.size + 1 ≤ w1.heap.size := by have := hb1.size; simpa using this
    refine (HR.out).mono ?_
    rintro e w2 ⟨a, c, l, d, rfl, hl, hs, hb2⟩
    go_wp2
    go_ret2
    exact ⟨d, ret2_int HE.out.symm, by unfold Hid Mach.DepthOf; rw [if_pos HE.out]; have := hl.out.2; rwa [show min (m.next.length : Int).toNat m.next.length = m.next.length from by omega] at this, (((Below.refl _ _).alloc (Nat.le_refl _) _).trans (hb1.mono (by simp))).trans (hb2.mono (by omega))⟩
  · have he' : (m.err != 0) = true := by simp [he]
    have HE := Lib.hid he
    clear he
    go_enter Try.func23, Try.ntmps23
    go_wp2_with (go_at_call 50; refine (HV.out).mono ?_; rintro e w1 ⟨rfl, hb1⟩)
    go_ret2
    exact ⟨0, rfl, by unfold Hid Mach.DepthOf; rw [if_neg HE.out], ((Below.refl _ _).alloc (Nat.le_refl _) _).trans (hb1.mono (by simp))⟩
end
end Go.Proofs.Ytdnmgiabgpilkaa
