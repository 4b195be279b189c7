/- mealy's state, From and Run. No condition. -/
import Derived.Test.YtlgdijgfphedpaaRunM
namespace Go.Proofs.Ytlgdijgfphedpaa
open Go.RowKit
namespace Mach
variable (m : Mach)
def stErr (s : Int) : Int := if m.err ≠ 0 then m.err else if s < 0 ∨ (m.next.length : Int) ≤ s then 2 else 0
def frErr (s : Int) (w : List Int) : Int := if m.stErr s ≠ 0 then m.stErr s else wErr w m.inputs
def frOut (s : Int) (w : List Int) : List Int := if m.frErr s w = 0 then m.outsW s w else []
def frEnd (s : Int) (w : List Int) : Int := if m.frErr s w = 0 then m.endW s w else 0
variable {m}
theorem stErr_ok {s : Int} (h : m.stErr s = 0) : m.err = 0 ∧ 0 ≤ s ∧ s < m.next.length := by
  unfold stErr at h
  split at h
  · rename_i h1; exact absurd h h1
  · rename_i h1
    split at h
    · simp at h
    · exact ⟨by simpa using h1, by omega, by omega⟩
theorem frErr_st {s : Int} {w : List Int} (h : m.stErr s ≠ 0) : m.frErr s w = m.stErr s ∧ m.frOut s w = [] ∧ m.frEnd s w = 0 := by
  have e : m.frErr s w = m.stErr s := by unfold frErr; rw [if_pos h]
  refine ⟨e, ?_, ?_⟩
  · unfold frOut; rw [if_neg (by rw [e]; exact h)]
  · unfold frEnd; rw [if_neg (by rw [e]; exact h)]
theorem frErr_w {s : Int} {w : List Int} (h : m.stErr s = 0) (h2 : wErr w m.inputs ≠ 0) : m.frErr s w = wErr w m.inputs ∧ m.frOut s w = [] ∧ m.frEnd s w = 0 := by
  have e : m.frErr s w = wErr w m.inputs := by unfold frErr; rw [if_neg (by simp [h])]
  refine ⟨e, ?_, ?_⟩
  · unfold frOut; rw [if_neg (by rw [e]; exact h2)]
  · unfold frEnd; rw [if_neg (by rw [e]; exact h2)]
theorem frErr_0 {s : Int} {w : List Int} (h : m.stErr s = 0) (h2 : wErr w m.inputs = 0) : m.frErr s w = 0 ∧ m.frOut s w = m.outsW s w ∧ m.frEnd s w = m.endW s w := by
  have e : m.frErr s w = 0 := by unfold frErr; rw [if_neg (by simp [h]), h2]
  refine ⟨e, ?_, ?_⟩
  · unfold frOut; rw [if_pos e]
  · unfold frEnd; rw [if_pos e]
theorem okS_of {w : List Int} (h : wErr w m.inputs = 0) : m.okS w ∧ w.length ≤ 1024 := by
  unfold wErr at h
  split at h
  · simp at h
  · rename_i h1
    split at h
    · simp at h
    · rename_i h2
      split at h
      · simp at h
      · rename_i h3
        refine ⟨fun x hx => ?_, by omega⟩
        have : ¬ (x < 0 ∨ m.inputs ≤ x) := fun e => h3 ⟨x, hx, e⟩
        omega
end Mach
theorem ret_fr {a : Option Addr} {n n' c : Nat} {x x' y y' : Int} (h : n = n') (h2 : x = x') (h3 : y = y') : Ending.returned (.tuple #[.slice a n c, .int .i64 x, .int .i64 y]) = .returned (.tuple #[.slice a n' c, .int .i64 x', .int .i64 y']) := by rw [h, h2, h3]
section
variable {M : Nat → Prop} {w : World} {an ao a : Option Addr} {cn co c : Nat} {m : Mach}
theorem state_any (hm : Ma M w an cn ao co m) (s : Int) :
    Calls Try.prog 68 #[maV m an cn ao co, .int .i64 s] w fun e w' => e = .returned (.int .i64 (m.stErr s)) ∧ Below w.heap.size w w' := by
  have hle := hm.next.le
  have hv := valid_any (hm.ext (Ext.alloc M w (.cells #[.int .i64 m.inputs, .int .i64 m.start, .slice an m.next.length cn, .slice ao m.out.length co] 24)))
  have HV := Lib.hid hv
  clear hv
  by_cases he : m.err = 0
  · have he' : (m.err != 0) = false := by simp [he]
    by_cases hs : s < 0
    · have HF : Hid (m.stErr s = 2) := by unfold Hid Mach.stErr; rw [if_neg (by simp [he]), if_pos (.inl hs)]
      have hd : decide (s < 0) = true := by simp [hs]
      clear he
      go_enter Try.func68, Try.ntmps68
      go_wp2_with fail
      refine (HV.out).mono ?_
      rintro e w1 ⟨rfl, hb1⟩
      have hB := ((Below.refl w.heap.size w).alloc (Nat.le_refl _) (.cells #[.int .i64 m.inputs, .int .i64 m.start, .slice an m.next.length cn, .slice ao m.out.length co] 24)).trans (hb1.mono (by simp))
      go_wp2
      go_ret
      exact ⟨ret_int HF.out.symm, hB⟩
    · have hd : decide (s < 0) = false := by simp; omega
      by_cases hs2 : (m.next.length : Int) ≤ s
      · have HF : Hid (m.stErr s = 2) := by unfold Hid Mach.stErr; rw [if_neg (by simp [he]), if_pos (.inr hs2)]
        have hd2 : decide ((m.next.length : Int) ≤ s) = true := by simp [hs2]
        clear he
        go_enter Try.func68, Try.ntmps68
        go_wp2_with fail
        refine (HV.out).mono ?_
        rintro e w1 ⟨rfl, hb1⟩
        have hbx : ∀ o, w1.cell? ⟨w.heap.size, o, none⟩ = _ := fun o => hb1.cell (by simp)
        have hB := ((Below.refl w.heap.size w).alloc (Nat.le_refl _) (.cells #[.int .i64 m.inputs, .int .i64 m.start, .slice an m.next.length cn, .slice ao m.out.length co] 24)).trans (hb1.mono (by simp))
        go_wp2
        go_ret
        exact ⟨ret_int HF.out.symm, hB⟩
      · have HF : Hid (m.stErr s = 0) := by unfold Hid Mach.stErr; rw [if_neg (by simp [he]), if_neg (by omega)]
        have hd2 : decide ((m.next.length : Int) ≤ s) = false := by simp; omega
        clear he
        go_enter Try.func68, Try.ntmps68
        go_wp2_with fail
        refine (HV.out).mono ?_
        rintro e w1 ⟨rfl, hb1⟩
        have hbx : ∀ o, w1.cell? ⟨w.heap.size, o, none⟩ = _ := fun o => hb1.cell (by simp)
        have hB := ((Below.refl w.heap.size w).alloc (Nat.le_refl _) (.cells #[.int .i64 m.inputs, .int .i64 m.start, .slice an m.next.length cn, .slice ao m.out.length co] 24)).trans (hb1.mono (by simp))
        go_wp2
        go_ret
        exact ⟨ret_int HF.out.symm, hB⟩
  · have he' : (m.err != 0) = true := by simp [he]
    have HF : Hid (m.stErr s = m.err) := by unfold Hid Mach.stErr; rw [if_pos he]
    clear he
    go_enter Try.func68, Try.ntmps68
    go_wp2_with fail
    refine (HV.out).mono ?_
    rintro e w1 ⟨rfl, hb1⟩
    have hB := ((Below.refl w.heap.size w).alloc (Nat.le_refl _) (.cells #[.int .i64 m.inputs, .int .i64 m.start, .slice an m.next.length cn, .slice ao m.out.length co] 24)).trans (hb1.mono (by simp))
    go_wp2
    go_ret
    exact ⟨ret_int HF.out.symm, hB⟩

set_option maxRecDepth 100000 in
set_option maxHeartbeats 4000000 in
theorem from_any {M' : Nat → Prop} {l : List Int} (hm : Ma M w an cn ao co m) (hw : Sl M' w a c l) (s : Int) :
    Calls Try.prog 43 #[maV m an cn ao co, .int .i64 s, .slice a l.length c] w fun e w' => ∃ (a' : Option Addr) (c' : Nat) (l' : List Int), e = .returned (.tuple #[.slice a' l'.length c', .int .i64 (m.frEnd s l), .int .i64 (m.frErr s l)]) ∧ Hid (l' = m.frOut s l) ∧
      Sl (fun k => k < w.heap.size) w' a' c' l' ∧ Below w.heap.size w w' := by
  have hll := hw.le
  have hle := hm.next.le
  have HM := Lib.hid hm
  have HW := Lib.hid hw
  have hbx0 := c4_new (m := m) (an := an) (cn := cn) (ao := ao) (co := co) w
  have hB0 := (Below.refl w.heap.size w).alloc (Nat.le_refl _) (maO m an cn ao co)
  have HC := Lib.hid (state_any (HM.out.ext (Ext.alloc M w (maO m an cn ao co))) s)
  clear hm hw
  by_cases hst : m.stErr s = 0
  · have hst' : (m.stErr s != 0) = false := by simp [hst]
    have HST := Lib.hid hst
    clear hst
    go_enter Try.func43, Try.ntmps43
    go_wp2_with fail
    refine (HC.out).mono ?_
    rintro e w1 ⟨rfl, hb1⟩
    have hB1 := hB0.trans (hb1.mono (by simp))
    have h41 := hbx0.below hb1 (by simp)
    have hz1 : w.heap.size + 1 ≤ w1.heap.size := by have := hb1.size; simpa using this
    clear hbx0 hB0 hb1 HC
    have HC := Lib.hid (wcheck_any (HW.out.below hB1) m.inputs)
    go_wp2_with fail
    refine (HC.out).mono ?_
    rintro e w2 ⟨rfl, hb2⟩
    have hB2 := hB1.trans (hb2.mono (by omega))
    have h42 := h41.below hb2 (by omega)
    have hz2 : w.heap.size + 1 ≤ w2.heap.size := by have := hb2.size; omega
    clear hB1 h41 hb2 HC
    by_cases hwe : wErr l m.inputs = 0
    · have hwe' : (wErr l m.inputs != 0) = false := by simp [hwe]
      obtain ⟨hok, hl2⟩ := Mach.okS_of hwe
      obtain ⟨he, hs0, hs1⟩ := Mach.stErr_ok HST.out
      have OK := Lib.hid (m.ok_of_err he)
      have HF := Lib.hid (Mach.frErr_0 HST.out hwe)
      have hB3 := hB2.alloc (by omega) (.cells #[.int .i64 m.inputs, .int .i64 m.start, .slice an m.next.length cn, .slice ao m.out.length co, .int .i64 s] 107)
      have h5 : R5 (w2.alloc (.cells #[.int .i64 m.inputs, .int .i64 m.start, .slice an m.next.length cn, .slice ao m.out.length co, .int .i64 s] 107)) w2.heap.size an cn ao co m s := by
        refine ⟨⟨?_, ?_, ?_, ?_⟩, ?_, ?_⟩ <;> simp
      have HR := Lib.hid (run_any (B := w2.heap.size) (b := w2.heap.size) (w := w2.alloc (.cells #[.int .i64 m.inputs, .int .i64 m.start, .slice an m.next.length cn, .slice ao m.out.length co, .int .i64 s] 107)) (Nat.le_refl _) (by simp)
        (fun w' hb => HM.out.below (hB3.trans (hb.mono (by omega)))) (fun w' hb => HW.out.below (hB3.trans (hb.mono (by omega)))) OK.out h5 ⟨hs0, hs1⟩ hok hl2)
      clear he hwe hok h5
      go_wp2_with fail
      refine (HR.out).mono ?_
      rintro e w3 ⟨a3, c3, l3, rfl, hl3, hs3, hb3, h53⟩
      have hBf := hB3.trans (hb3.mono (by omega))
      have hl4 : Hid (l3 = m.frOut s l) := by unfold Hid; rw [hl3.out, HF.out.2.1]
      have hs4 := hs3.anti (M' := fun k => k < w.heap.size) (fun k _ hk => by simp; omega)
      have hat := h53.2.1
      clear hl3 hs3 hb3 h53 hB3 hB2 h42 HR
      go_wp2
      refine wp_quiet_fast (by kernel_rfl) (by kernel_rfl) ?_
      repeat (first | go_big_quiet_step (fail) | quiet_step (fail))
      refine wpQuiet_nil ?_
      intro _ hw'
      obtain ⟨nq, hw''⟩ := hw'
      subst hw''
      go_wp2
      exact bodyPost_ret (v := .tuple #[.slice a3 l3.length c3, .int .i64 (m.endW s l), .int .i64 0]) (by simp [results, Try.results43, go_sem]) rfl ⟨a3, c3, l3, ret_fr rfl HF.out.2.2.symm HF.out.1.symm, hl4, hs4.drewN _, bl_drewN hBf _⟩
    · have hwe' : (wErr l m.inputs != 0) = true := by simp [hwe]
      have HF := Lib.hid (Mach.frErr_w HST.out hwe)
      clear hwe
      go_wp2
      exact bodyPost_ret (v := .tuple #[.slice none 0 0, .int .i64 0, .int .i64 (wErr l m.inputs)]) (by simp [results, Try.results43, go_sem]) rfl ⟨none, 0, [], ret_fr rfl HF.out.2.2.symm HF.out.1.symm, HF.out.2.1.symm, Sl.nil _ _ _ (by unfold maxLen; omega), hB2⟩
  · have hst' : (m.stErr s != 0) = true := by simp [hst]
    have HF := Lib.hid (Mach.frErr_st (w := l) hst)
    clear hst
    go_enter Try.func43, Try.ntmps43
    go_wp2_with fail
    refine (HC.out).mono ?_
    rintro e w1 ⟨rfl, hb1⟩
    have hB1 := hB0.trans (hb1.mono (by simp))
    clear hbx0 hB0 hb1 HC
    go_wp2
    exact bodyPost_ret (v := .tuple #[.slice none 0 0, .int .i64 0, .int .i64 (m.stErr s)]) (by simp [results, Try.results43, go_sem]) rfl ⟨none, 0, [], ret_fr rfl HF.out.2.2.symm HF.out.1.symm, HF.out.2.1.symm, Sl.nil _ _ _ (by unfold maxLen; omega), hB1⟩

theorem ret_ru {a : Option Addr} {n c : Nat} {x y : Int} (h : x = y) : Ending.returned (.tuple #[.slice a n c, .int .i64 x]) = .returned (.tuple #[.slice a n c, .int .i64 y]) := by rw [h]
end
end Go.Proofs.Ytlgdijgfphedpaa
