/- The program's Minimal. No condition beyond that the fields read as lists of lists. -/
import Derived.Test.YtdnmgiabgpilkaaMin
namespace Go.Proofs.Ytdnmgiabgpilkaa
open Go.RowKit
def Mach.minimal (m : Mach) : Bool := decide (m.err = 0 ∧ m.reach.length = m.next.length ∧ m.minOf.next.length = m.next.length)
theorem Mach.minimal_err {m : Mach} (h : ¬ m.err = 0) : m.minimal = false := by simp [Mach.minimal, h]
theorem Mach.minimal_reach {m : Mach} (h : ¬ m.reach.length = m.next.length) : m.minimal = false := by simp [Mach.minimal, h]
theorem Mach.minimal_ok {m : Mach} (h : m.err = 0) (h2 : m.reach.length = m.next.length) : m.minimal = decide (m.minOf.next.length = m.next.length) := by simp [Mach.minimal, h, h2]
section
variable {M : Nat → Prop} {w : World} {an ao : Option Addr} {cn co : Nat} {m : Mach}

set_option maxHeartbeats 4000000 in
theorem minimal_any (hm : Ma M w an cn ao co m) :
    Calls Try.prog 28 #[maV m an cn ao co] w fun e w' => ∃ b, e = .returned (.bool b) ∧ Hid (b = m.minimal) ∧ Below w.heap.size w w' := by
  have HV := Lib.hid (valid_any ((hm.ext (Ext.alloc M w (.cells #[.int .i64 m.inputs, .int .i64 m.start, .slice an m.next.length cn, .slice ao m.out.length co] 24))).ext (Ext.drew _ _)))
  have HM := Lib.hid hm
  have ht : i64 m.inputs := hm.inputs
  clear hm
  by_cases he : m.err = 0
  · have he' : (m.err != 0) = false := by simp [he]
    have HE := Lib.hid he
    clear he
    go_enter Try.func28, Try.ntmps28
    go_wp2
    refine wp_region_L (fun w' => w'.cell? ⟨w.heap.size, 0, none⟩ = some (.int .i64 m.inputs) ∧ w'.cell? ⟨w.heap.size, 1, none⟩ = some (.int .i64 m.start) ∧ w'.cell? ⟨w.heap.size, 2, none⟩ = some (.slice an m.next.length cn) ∧ w'.cell? ⟨w.heap.size, 3, none⟩ = some (.slice ao m.out.length co)) [4, 7, 8, 9] (by kernel_rfl) ?_
    refine wpAnyL_one (i := 0) (by kernel_rfl) rfl rfl (fun K hK => ?_)
    go_simp
    refine hK _ _ (fun _ => by simp) ?_
    clear hK K
    refine wpAnyL_one (i := 1) (by kernel_rfl) rfl rfl (fun K hK => ?_)
    go_simp
    refine (HV.out).mono ?_
    rintro e w1 ⟨rfl, hb1⟩
    have hs1 : w.heap.size + 1 ≤ w1.heap.size := by have := hb1.size; simpa using this
    have hB1 : Below (w.heap.size + 1) ((w.alloc (.cells #[.int .i64 m.inputs, .int .i64 m.start, .slice an m.next.length cn, .slice ao m.out.length co] 24)).drew) w1 := hb1.mono (by simp)
    have hSS : w1.cell? ⟨w.heap.size, 0, none⟩ = some (.int .i64 m.inputs) ∧ w1.cell? ⟨w.heap.size, 1, none⟩ = some (.int .i64 m.start) ∧ w1.cell? ⟨w.heap.size, 2, none⟩ = some (.slice an m.next.length cn) ∧ w1.cell? ⟨w.heap.size, 3, none⟩ = some (.slice ao m.out.length co) :=
      ⟨(hB1.cell (by simp)).trans (by simp), (hB1.cell (by simp)).trans (by simp), (hB1.cell (by simp)).trans (by simp), (hB1.cell (by simp)).trans (by simp)⟩
    clear hb1
    refine hK _ _ (fun _ => hSS) ?_
    clear hK K
    refine wpAnyL_one (i := 2) (by kernel_rfl) rfl rfl (fun K hK => ?_)
    go_simp
    refine hK _ _ (fun _ => hSS) ?_
    clear hK K
    refine wpAnyL_one (i := 3) (by kernel_rfl) rfl rfl (fun K hK => ?_)
    go_simp
    refine hK _ _ (fun _ => hSS) ?_
    clear hK K
    have HR := Lib.hid (reach_any (((HM.out.ext (Ext.alloc M w (.cells #[.int .i64 m.inputs, .int .i64 m.start, .slice an m.next.length cn, .slice ao m.out.length co] 24))).ext (Ext.drew _ _)).below (by simpa using hB1)))
    refine wpAnyL_take (i := 4) (v := ?v1) rfl (by kernel_rfl) (by kernel_rfl) (by kernel_rfl) (by kernel_rfl) (fun _ _ _ h => h) (Or.inl ⟨by rfl, ?y1⟩) (by assumption) ?r1
    case y1 => (intro w' hSw; (try dsimp only at hSw); go_simp; try with_reducible rfl)
    try simp only [Act.put, List.setIfInBounds_toArray, List.set_cons_zero, List.set_cons_succ]
    refine wpAnyL_take (i := 7) (v := ?v2) rfl (by kernel_rfl) (by kernel_rfl) (by kernel_rfl) (by kernel_rfl) (fun _ _ _ h => h) (Or.inl ⟨by rfl, ?y2⟩) (by assumption) ?r2
    case y2 => (intro w' hSw; (try dsimp only at hSw); go_simp; try with_reducible rfl)
    try simp only [Act.put, List.setIfInBounds_toArray, List.set_cons_zero, List.set_cons_succ]
    refine wpAnyL_take (i := 8) (v := ?v3) rfl (by kernel_rfl) (by kernel_rfl) (by kernel_rfl) (by kernel_rfl) (fun _ _ _ h => h) (Or.inl ⟨by rfl, ?y3⟩) (by assumption) ?r3
    case y3 => (intro w' hSw; (try dsimp only at hSw); go_simp; try with_reducible rfl)
    try simp only [Act.put, List.setIfInBounds_toArray, List.set_cons_zero, List.set_cons_succ]
    refine wpAnyL_take (i := 9) (v := ?v4) rfl (by kernel_rfl) (by kernel_rfl) (by kernel_rfl) (by kernel_rfl) (fun _ _ _ h => h) (Or.inl ⟨by rfl, ?y4⟩) (by assumption) ?r4
    case y4 => (intro w' hSw; (try dsimp only at hSw); go_simp; try with_reducible rfl)
    try simp only [Act.put, List.setIfInBounds_toArray, List.set_cons_zero, List.set_cons_succ]
    refine wpAnyL_one (i := 5) (by kernel_rfl) rfl rfl (fun K hK => ?_)
    go_simp
    refine (HR.out).mono ?_
    rintro e w2 ⟨ar, cr, l, rfl, hl, -, hb2⟩
    have hs2 : w.heap.size + 1 ≤ w2.heap.size := by have := hb2.size; omega
    have hB2 : Below (w.heap.size + 1) ((w.alloc (.cells #[.int .i64 m.inputs, .int .i64 m.start, .slice an m.next.length cn, .slice ao m.out.length co] 24)).drew) w2 := hB1.trans (hb2.mono hs1)
    have hlr : Hid (l = m.reach) := by have := hl.out; unfold Mach.reachOf at this; rwa [if_pos HE.out] at this
    have hS2 : w2.cell? ⟨w.heap.size, 0, none⟩ = some (.int .i64 m.inputs) ∧ w2.cell? ⟨w.heap.size, 1, none⟩ = some (.int .i64 m.start) ∧ w2.cell? ⟨w.heap.size, 2, none⟩ = some (.slice an m.next.length cn) ∧ w2.cell? ⟨w.heap.size, 3, none⟩ = some (.slice ao m.out.length co) :=
      ⟨(hB2.cell (by simp)).trans (by simp), (hB2.cell (by simp)).trans (by simp), (hB2.cell (by simp)).trans (by simp), (hB2.cell (by simp)).trans (by simp)⟩
    refine hK _ _ (fun _ => hS2) ?_
    clear hK K HR HV
    have hll : l.length ≤ 9223372036854775807 := by rw [hlr.out]; have := Mach.reach_le (m.ok_of_err HE.out); have := (m.ok_of_err HE.out).n1; omega
    refine wpAnyL_one (i := 6) (by kernel_rfl) rfl rfl (fun K hK => ?_)
    go_simp
    refine hK _ _ (fun _ => hS2) ?_
    clear hK K
    refine wpAnyL_one (i := 10) (by kernel_rfl) rfl rfl (fun K hK => ?_)
    go_simp
    refine hK _ _ (fun _ => hS2) ?_
    clear hK K
    refine wpAnyL_one (i := 11) (by kernel_rfl) rfl rfl (fun K hK => ?_)
    go_simp
    refine hK _ _ (fun _ => hS2) ?_
    clear hK K
    refine wpAnyL_done (by kernel_rfl) ?_ _
    have hbx : ∀ o, w2.cell? ⟨w.heap.size, o, none⟩ = _ := fun o => hB2.cell (by simp)
    by_cases hrl : l.length = m.next.length
    · have HN := Lib.hid (min_any (((HM.out.ext (Ext.alloc M w (.cells #[.int .i64 m.inputs, .int .i64 m.start, .slice an m.next.length cn, .slice ao m.out.length co] 24))).ext (Ext.drew _ _)).below (by simpa using hB2)))
      have hd : (((l.length : Nat) : Int) != ((m.next.length : Nat) : Int)) = false := by simp [hrl]
      have HL := Lib.hid hrl
      clear hrl
      go_wp2_with fail
      refine (HN.out).mono ?_
      rintro e w3 ⟨tn, tcn, to, tco, t, rfl, ht, hmt, hb3⟩
      have hB3 : Below (w.heap.size + 1) ((w.alloc (.cells #[.int .i64 m.inputs, .int .i64 m.start, .slice an m.next.length cn, .slice ao m.out.length co] 24)).drew) (w3.alloc (.cells #[.int .i64 t.inputs, .int .i64 t.start, .slice tn t.next.length tcn, .slice to t.out.length tco] 24)) :=
        (hB2.trans (hb3.mono hs2)).alloc (by have := hb3.size; omega) _
      have hbx3 : ∀ o, (w3.alloc (.cells #[.int .i64 t.inputs, .int .i64 t.start, .slice tn t.next.length tcn, .slice to t.out.length tco] 24)).cell? ⟨w.heap.size, o, none⟩ = _ := fun o => hB3.cell (by simp)
      have htl := hmt.next.le
      have hBf : Below w.heap.size w (w3.alloc (.cells #[.int .i64 t.inputs, .int .i64 t.start, .slice tn t.next.length tcn, .slice to t.out.length tco] 24)) :=
        ((((Below.refl _ _).alloc (Nat.le_refl _) _).drew)).trans (hB3.mono (by omega))
      clear hb3
      go_wp2
      go_ret
      refine ⟨_, rfl, ?_, hBf⟩
      unfold Hid; rw [Mach.minimal_ok HE.out (by rw [← hlr.out]; exact HL.out), ← ht.out]
      by_cases h : t.next.length = m.next.length
      · simp [h]
      · simp [h]; omega
    · have hd : (((l.length : Nat) : Int) != ((m.next.length : Nat) : Int)) = true := by simp; omega
      have HL := Lib.hid hrl
      clear hrl
      have hBf : Below w.heap.size w w2 := ((((Below.refl _ _).alloc (Nat.le_refl _) _).drew)).trans (hB2.mono (by omega))
      go_wp2
      go_ret
      exact ⟨_, rfl, by unfold Hid; rw [Mach.minimal_reach (by rw [← hlr.out]; exact HL.out)], hBf⟩
  · have he' : (m.err != 0) = true := by simp [he]
    have HE := Lib.hid he
    clear he
    go_enter Try.func28, Try.ntmps28
    go_wp2
    refine wp_region_L (fun w' => w'.cell? ⟨w.heap.size, 0, none⟩ = some (.int .i64 m.inputs) ∧ w'.cell? ⟨w.heap.size, 1, none⟩ = some (.int .i64 m.start) ∧ w'.cell? ⟨w.heap.size, 2, none⟩ = some (.slice an m.next.length cn) ∧ w'.cell? ⟨w.heap.size, 3, none⟩ = some (.slice ao m.out.length co)) [4, 7, 8, 9] (by kernel_rfl) ?_
    refine wpAnyL_one (i := 0) (by kernel_rfl) rfl rfl (fun K hK => ?_)
    go_simp
    refine hK _ _ (fun _ => by simp) ?_
    clear hK K
    refine wpAnyL_one (i := 1) (by kernel_rfl) rfl rfl (fun K hK => ?_)
    go_simp
    refine (HV.out).mono ?_
    rintro e w1 ⟨rfl, hb1⟩
    have hs1 : w.heap.size + 1 ≤ w1.heap.size := by have := hb1.size; simpa using this
    have hB1 : Below (w.heap.size + 1) ((w.alloc (.cells #[.int .i64 m.inputs, .int .i64 m.start, .slice an m.next.length cn, .slice ao m.out.length co] 24)).drew) w1 := hb1.mono (by simp)
    have hSS : w1.cell? ⟨w.heap.size, 0, none⟩ = some (.int .i64 m.inputs) ∧ w1.cell? ⟨w.heap.size, 1, none⟩ = some (.int .i64 m.start) ∧ w1.cell? ⟨w.heap.size, 2, none⟩ = some (.slice an m.next.length cn) ∧ w1.cell? ⟨w.heap.size, 3, none⟩ = some (.slice ao m.out.length co) :=
      ⟨(hB1.cell (by simp)).trans (by simp), (hB1.cell (by simp)).trans (by simp), (hB1.cell (by simp)).trans (by simp), (hB1.cell (by simp)).trans (by simp)⟩
    clear hb1
    refine hK _ _ (fun _ => hSS) ?_
    clear hK K
    refine wpAnyL_one (i := 2) (by kernel_rfl) rfl rfl (fun K hK => ?_)
    go_simp
    refine hK _ _ (fun _ => hSS) ?_
    clear hK K
    refine wpAnyL_one (i := 3) (by kernel_rfl) rfl rfl (fun K hK => ?_)
    go_simp
    refine hK _ _ (fun _ => hSS) ?_
    clear hK K
    refine wpAnyL_take (i := 4) (v := undef) rfl (by kernel_rfl) (by kernel_rfl) (by kernel_rfl) (by kernel_rfl) (fun _ _ _ h => h) (Or.inr ⟨by rfl, rfl⟩) (by assumption) ?_
    try simp only [Act.put, List.setIfInBounds_toArray, List.set_cons_zero, List.set_cons_succ]
    refine wpAnyL_take (i := 7) (v := undef) rfl (by kernel_rfl) (by kernel_rfl) (by kernel_rfl) (by kernel_rfl) (fun _ _ _ h => h) (Or.inr ⟨by rfl, rfl⟩) (by assumption) ?_
    try simp only [Act.put, List.setIfInBounds_toArray, List.set_cons_zero, List.set_cons_succ]
    refine wpAnyL_take (i := 8) (v := undef) rfl (by kernel_rfl) (by kernel_rfl) (by kernel_rfl) (by kernel_rfl) (fun _ _ _ h => h) (Or.inr ⟨by rfl, rfl⟩) (by assumption) ?_
    try simp only [Act.put, List.setIfInBounds_toArray, List.set_cons_zero, List.set_cons_succ]
    refine wpAnyL_take (i := 9) (v := undef) rfl (by kernel_rfl) (by kernel_rfl) (by kernel_rfl) (by kernel_rfl) (fun _ _ _ h => h) (Or.inr ⟨by rfl, rfl⟩) (by assumption) ?_
    try simp only [Act.put, List.setIfInBounds_toArray, List.set_cons_zero, List.set_cons_succ]
    refine wpAnyL_skip (i := 5) (by kernel_rfl) rfl rfl (by assumption) ?_
    try simp only [Act.put, List.setIfInBounds_toArray, List.set_cons_zero, List.set_cons_succ]
    refine wpAnyL_skip (i := 6) (by kernel_rfl) rfl rfl (by assumption) ?_
    try simp only [Act.put, List.setIfInBounds_toArray, List.set_cons_zero, List.set_cons_succ]
    refine wpAnyL_skip (i := 10) (by kernel_rfl) rfl rfl (by assumption) ?_
    try simp only [Act.put, List.setIfInBounds_toArray, List.set_cons_zero, List.set_cons_succ]
    refine wpAnyL_one (i := 11) (by kernel_rfl) rfl rfl (fun K hK => ?_)
    go_simp
    refine hK _ _ (fun _ => hSS) ?_
    clear hK K
    refine wpAnyL_done (by kernel_rfl) ?_ _
    have hBf : Below w.heap.size w w1 := ((((Below.refl _ _).alloc (Nat.le_refl _) _).drew)).trans (hB1.mono (by omega))
    go_wp2
    go_ret
    exact ⟨_, rfl, by unfold Hid; rw [Mach.minimal_err HE.out], hBf⟩
end
end Go.Proofs.Ytdnmgiabgpilkaa
