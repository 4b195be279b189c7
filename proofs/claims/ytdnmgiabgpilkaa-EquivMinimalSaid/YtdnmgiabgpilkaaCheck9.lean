/- The checks of two machines: the program's and the reference's. No condition beyond that the fields read as lists of lists. -/
import Derived.Test.YtdnmgiabgpilkaaValidM
import Derived.Test.YtdnmgiabgpilkaaValid6
import Derived.Test.YtdnmgiabgpilkaaC4
namespace Go.Proofs.Ytdnmgiabgpilkaa
open Go.RowKit
/-- The first error of two machines. -/
def chk (a b : Mach) : Int := if a.err ≠ 0 then a.err else if b.err ≠ 0 then b.err else if a.inputs ≠ b.inputs then 15 else 0
theorem chk_a {a b : Mach} (h : ¬ a.err = 0) : chk a b = a.err := by unfold chk; rw [if_pos h]
theorem chk_b {a b : Mach} (h : a.err = 0) (h2 : ¬ b.err = 0) : chk a b = b.err := by unfold chk; rw [if_neg (by simpa using h), if_pos h2]
theorem chk_i {a b : Mach} (h : a.err = 0) (h2 : b.err = 0) (h3 : ¬ a.inputs = b.inputs) : chk a b = 15 := by unfold chk; rw [if_neg (by simpa using h), if_neg (by simpa using h2), if_pos h3]
theorem chk_0 {a b : Mach} (h : a.err = 0) (h2 : b.err = 0) (h3 : a.inputs = b.inputs) : chk a b = 0 := by unfold chk; rw [if_neg (by simpa using h), if_neg (by simpa using h2), if_neg (by simpa using h3)]
theorem chk_zero {a b : Mach} (h : chk a b = 0) : a.err = 0 ∧ b.err = 0 ∧ a.inputs = b.inputs := by
  by_cases h1 : a.err = 0
  · by_cases h2 : b.err = 0
    · by_cases h3 : a.inputs = b.inputs
      · exact ⟨h1, h2, h3⟩
      · rw [chk_i h1 h2 h3] at h; simp at h
    · rw [chk_b h1 h2] at h; exact absurd h h2
  · rw [chk_a h1] at h; exact absurd h h1
section
variable {M : Nat → Prop} {w : World} {an ao bn bo : Option Addr} {acn aco bcn bco : Nat} {a b : Mach}

set_option maxRecDepth 100000 in
set_option maxHeartbeats 2000000 in
theorem checkR_any (ha : Ma M w an acn ao aco a) (hb : Ma M w bn bcn bo bco b) :
    Calls Try.prog 41 #[maV a an acn ao aco, maV b bn bcn bo bco] w fun e w' => e = .returned (.int .i64 (chk a b)) ∧ Below w.heap.size w w' := by
  have HA := Lib.hid (ha.ext ((Ext.alloc M w (maO a an acn ao aco)).trans (Ext.alloc M _ (maO b bn bcn bo bco))))
  have HB := Lib.hid (hb.ext ((Ext.alloc M w (maO a an acn ao aco)).trans (Ext.alloc M _ (maO b bn bcn bo bco))))
  have hB0 : Below (w.heap.size + 2) ((w.alloc (maO a an acn ao aco)).alloc (maO b bn bcn bo bco)) ((w.alloc (maO a an acn ao aco)).alloc (maO b bn bcn bo bco)) := Below.refl _ _
  have h0 : Below w.heap.size w ((w.alloc (maO a an acn ao aco)).alloc (maO b bn bcn bo bco)) := ((Below.refl _ _).alloc (Nat.le_refl _) _).alloc (by simp) _
  have HV := Lib.hid (valid6_any HA.out)
  clear ha hb
  have hCa : C4 ((w.alloc (maO a an acn ao aco)).alloc (maO b bn bcn bo bco)) w.heap.size an acn ao aco a := (c4_new w).below (B := w.heap.size + 1) ((Below.refl _ _).alloc (by simp) _) (by omega)
  have hCb : C4 ((w.alloc (maO a an acn ao aco)).alloc (maO b bn bcn bo bco)) (w.heap.size + 1) bn bcn bo bco b := by simpa using c4_new (m := b) (an := bn) (cn := bcn) (ao := bo) (co := bco) (w.alloc (maO a an acn ao aco))
  by_cases h1 : a.err = 0
  · have h1' : (a.err != 0) = false := by simp [h1]
    have H1 := Lib.hid h1
    clear h1
    by_cases h2 : b.err = 0
    · have h2' : (b.err != 0) = false := by simp [h2]
      have H2 := Lib.hid h2
      clear h2
      by_cases h3 : a.inputs = b.inputs
      · have h3' : (a.inputs != b.inputs) = false := by simp [h3]
        have H3 := Lib.hid (chk_0 H1.out H2.out h3)
        clear h3
        go_enter Try.func41, Try.ntmps41
        go_wp2_with fail
        refine (HV.out).mono ?_
        rintro e w1 ⟨rfl, hb1⟩
        have hz1 : w.heap.size + 2 ≤ w1.heap.size := by have := hb1.size; simpa using this
        have hB1 : Below (w.heap.size + 2) ((w.alloc (maO a an acn ao aco)).alloc (maO b bn bcn bo bco)) w1 := hb1.mono (by simp)
        have hCb1 := hCb.below hB1 (by omega)
        obtain ⟨k0, k1, k2, k3⟩ := hCb1
        have HV2 := Lib.hid (valid6_any (HB.out.below (by simpa using hb1)))
        clear hb1 HV
        go_wp2_with fail
        refine (HV2.out).mono ?_
        rintro e w2 ⟨rfl, hb2⟩
        have hB2 : Below (w.heap.size + 2) ((w.alloc (maO a an acn ao aco)).alloc (maO b bn bcn bo bco)) w2 := hB1.trans (hb2.mono hz1)
        clear hb2 HV2 k0 k1 k2 k3
        have hCa2 := hCa.below hB2 (by omega)
        have hCb2 := hCb.below hB2 (by omega)
        obtain ⟨j0, j1, j2, j3⟩ := hCa2
        obtain ⟨k0, k1, k2, k3⟩ := hCb2
        have hBf := h0.trans (hB2.mono (by omega))
        go_wp2
        go_ret
        exact ⟨ret_int H3.out.symm, hBf⟩
      · have h3' : (a.inputs != b.inputs) = true := by simp [h3]
        have H3 := Lib.hid (chk_i H1.out H2.out h3)
        clear h3
        go_enter Try.func41, Try.ntmps41
        go_wp2_with fail
        refine (HV.out).mono ?_
        rintro e w1 ⟨rfl, hb1⟩
        have hz1 : w.heap.size + 2 ≤ w1.heap.size := by have := hb1.size; simpa using this
        have hB1 : Below (w.heap.size + 2) ((w.alloc (maO a an acn ao aco)).alloc (maO b bn bcn bo bco)) w1 := hb1.mono (by simp)
        have hCb1 := hCb.below hB1 (by omega)
        obtain ⟨k0, k1, k2, k3⟩ := hCb1
        have HV2 := Lib.hid (valid6_any (HB.out.below (by simpa using hb1)))
        clear hb1 HV
        go_wp2_with fail
        refine (HV2.out).mono ?_
        rintro e w2 ⟨rfl, hb2⟩
        have hB2 : Below (w.heap.size + 2) ((w.alloc (maO a an acn ao aco)).alloc (maO b bn bcn bo bco)) w2 := hB1.trans (hb2.mono hz1)
        clear hb2 HV2 k0 k1 k2 k3
        have hCa2 := hCa.below hB2 (by omega)
        have hCb2 := hCb.below hB2 (by omega)
        obtain ⟨j0, j1, j2, j3⟩ := hCa2
        obtain ⟨k0, k1, k2, k3⟩ := hCb2
        have hBf := h0.trans (hB2.mono (by omega))
        go_wp2
        go_ret
        exact ⟨ret_int H3.out.symm, hBf⟩
    · have h2' : (b.err != 0) = true := by simp [h2]
      have H3 := Lib.hid (chk_b H1.out h2)
      clear h2
      go_enter Try.func41, Try.ntmps41
      go_wp2_with fail
      refine (HV.out).mono ?_
      rintro e w1 ⟨rfl, hb1⟩
      have hz1 : w.heap.size + 2 ≤ w1.heap.size := by have := hb1.size; simpa using this
      have hB1 : Below (w.heap.size + 2) ((w.alloc (maO a an acn ao aco)).alloc (maO b bn bcn bo bco)) w1 := hb1.mono (by simp)
      have hCb1 := hCb.below hB1 (by omega)
      obtain ⟨k0, k1, k2, k3⟩ := hCb1
      have HV2 := Lib.hid (valid6_any (HB.out.below (by simpa using hb1)))
      clear hb1 HV
      go_wp2_with fail
      refine (HV2.out).mono ?_
      rintro e w2 ⟨rfl, hb2⟩
      have hB2 : Below (w.heap.size + 2) ((w.alloc (maO a an acn ao aco)).alloc (maO b bn bcn bo bco)) w2 := hB1.trans (hb2.mono hz1)
      clear hb2 HV2 k0 k1 k2 k3
      have hBf := h0.trans (hB2.mono (by omega))
      go_wp2
      go_ret
      exact ⟨ret_int H3.out.symm, hBf⟩
  · have h1' : (a.err != 0) = true := by simp [h1]
    have H3 := Lib.hid (chk_a (b := b) h1)
    clear h1
    go_enter Try.func41, Try.ntmps41
    go_wp2_with fail
    refine (HV.out).mono ?_
    rintro e w1 ⟨rfl, hb1⟩
    have hz1 : w.heap.size + 2 ≤ w1.heap.size := by have := hb1.size; simpa using this
    have hB1 : Below (w.heap.size + 2) ((w.alloc (maO a an acn ao aco)).alloc (maO b bn bcn bo bco)) w1 := hb1.mono (by simp)
    have hBf := h0.trans (hB1.mono (by omega))
    go_wp2
    go_ret
    exact ⟨ret_int H3.out.symm, hBf⟩

set_option maxRecDepth 100000 in
set_option maxHeartbeats 4000000 in
theorem check_any (ha : Ma M w an acn ao aco a) (hb : Ma M w bn bcn bo bco b) :
    Calls Try.prog 56 #[maV a an acn ao aco, maV b bn bcn bo bco] w fun e w' => e = .returned (.int .i64 (chk a b)) ∧ Below w.heap.size w w' := by
  have HA := Lib.hid (ha.ext ((Ext.alloc M w (maO a an acn ao aco)).trans (Ext.alloc M _ (maO b bn bcn bo bco))))
  have HB := Lib.hid (hb.ext ((Ext.alloc M w (maO a an acn ao aco)).trans (Ext.alloc M _ (maO b bn bcn bo bco))))
  have hB0 : Below (w.heap.size + 2) ((w.alloc (maO a an acn ao aco)).alloc (maO b bn bcn bo bco)) ((w.alloc (maO a an acn ao aco)).alloc (maO b bn bcn bo bco)) := Below.refl _ _
  have h0 : Below w.heap.size w ((w.alloc (maO a an acn ao aco)).alloc (maO b bn bcn bo bco)) := ((Below.refl _ _).alloc (Nat.le_refl _) _).alloc (by simp) _
  have hCa : C4 ((w.alloc (maO a an acn ao aco)).alloc (maO b bn bcn bo bco)) w.heap.size an acn ao aco a := (c4_new w).below (B := w.heap.size + 1) ((Below.refl _ _).alloc (by simp) _) (by omega)
  have hCb : C4 ((w.alloc (maO a an acn ao aco)).alloc (maO b bn bcn bo bco)) (w.heap.size + 1) bn bcn bo bco b := by simpa using c4_new (m := b) (an := bn) (cn := bcn) (ao := bo) (co := bco) (w.alloc (maO a an acn ao aco))
  have hz0 : w.heap.size + 2 ≤ ((w.alloc (maO a an acn ao aco)).alloc (maO b bn bcn bo bco)).heap.size := by simp
  have hzW : ((w.alloc (maO a an acn ao aco)).alloc (maO b bn bcn bo bco)).heap.size ≤ w.heap.size + 2 := by simp
  have i0 : ∀ w, (Instr.index 98 (.agg #[.int .i64 a.inputs, .int .i64 a.start, .slice an a.next.length acn, .slice ao a.out.length aco, .int .i64 b.inputs, .int .i64 b.start, .slice bn b.next.length bcn, .slice bo b.out.length bco]) (.int .i64 0)).run Try.prog w = .ok (.agg #[.int .i64 a.inputs, .int .i64 a.start, .slice an a.next.length acn, .slice ao a.out.length aco]) w := fun _ => by kernel_rfl
  have i1 : ∀ w, (Instr.index 98 (.agg #[.int .i64 a.inputs, .int .i64 a.start, .slice an a.next.length acn, .slice ao a.out.length aco, .int .i64 b.inputs, .int .i64 b.start, .slice bn b.next.length bcn, .slice bo b.out.length bco]) (.int .i64 1)).run Try.prog w = .ok (.agg #[.int .i64 b.inputs, .int .i64 b.start, .slice bn b.next.length bcn, .slice bo b.out.length bco]) w := fun _ => by kernel_rfl
  clear ha hb
  go_enter Try.func56, Try.ntmps56
  go_wp2
  obtain ⟨W, hW⟩ : ∃ W, W = ((w.alloc (maO a an acn ao aco)).alloc (maO b bn bcn bo bco)) := ⟨_, rfl⟩
  rw [← hW] at HA HB hB0 h0 hCa hCb hz0 hzW ⊢
  clear hW
  go_loopw [11] (fun i wr => ∃ k : Nat, k ≤ 2 ∧ i = .int .i64 k ∧ Hid ((1 ≤ k → a.err = 0) ∧ (2 ≤ k → b.err = 0)) ∧ Below (w.heap.size + 2) W wr) (fun i _ => 2 - (intOf i).toNat)
  case atStart => exact ⟨0, by omega, rfl, ⟨fun h => by omega, fun h => by omega⟩, hB0⟩
  case round =>
    clear hB0
    obtain ⟨k, hk, rfl, hE, hB⟩ := hrel
    obtain ⟨w1, rfl⟩ : ∃ w1 : World, w1 = wr := ⟨_, rfl⟩
    have hz1 : w.heap.size + 2 ≤ w1.heap.size := by have := hB.size; omega
    by_cases k0 : k = 0
    · subst k0
      have HV := Lib.hid (valid_any ((HA.out.below (hB.mono hzW)).ext (Ext.alloc M w1 (maO a an acn ao aco))))
      go_wp2_with fail
      refine (HV.out).mono ?_
      rintro e w2 ⟨rfl, hb2⟩
      have hB2 : Below (w.heap.size + 2) W w2 := (hB.alloc hz1 _).trans (hb2.mono (by simp; omega))
      clear hb2 HV
      by_cases h1 : a.err = 0
      · have h1' : (a.err != 0) = false := by simp [h1]
        have H1 := Lib.hid h1
        clear h1
        go_wp2
        go_roundw
        case rel => exact ⟨1, by omega, by go_num, ⟨fun _ => H1.out, fun h => by omega⟩, hB2⟩
        case measure => simp [intOf]
      · have h1' : (a.err != 0) = true := by simp [h1]
        have H3 := Lib.hid (chk_a (b := b) h1)
        clear h1
        have hBf := h0.trans (hB2.mono (by omega))
        go_wp2
        go_ret
        exact ⟨ret_int H3.out.symm, hBf⟩
    · by_cases k1 : k = 1
      · subst k1
        have H1 := Lib.hid (hE.out.1 (by omega))
        have HV := Lib.hid (valid_any ((HB.out.below (hB.mono hzW)).ext (Ext.alloc M w1 (maO b bn bcn bo bco))))
        go_wp2_with fail
        refine (HV.out).mono ?_
        rintro e w2 ⟨rfl, hb2⟩
        have hB2 : Below (w.heap.size + 2) W w2 := (hB.alloc hz1 _).trans (hb2.mono (by simp; omega))
        clear hb2 HV
        by_cases h1 : b.err = 0
        · have h1' : (b.err != 0) = false := by simp [h1]
          have H2 := Lib.hid h1
          clear h1
          go_wp2
          go_roundw
          case rel => exact ⟨2, by omega, by go_num, ⟨fun _ => H1.out, fun _ => H2.out⟩, hB2⟩
          case measure => simp [intOf]
        · have h1' : (b.err != 0) = true := by simp [h1]
          have H3 := Lib.hid (chk_b H1.out h1)
          clear h1
          have hBf := h0.trans (hB2.mono (by omega))
          go_wp2
          go_ret
          exact ⟨ret_int H3.out.symm, hBf⟩
      · have hk2 : k = 2 := by omega
        subst hk2
        have H1 := Lib.hid (hE.out.1 (by omega))
        have H2 := Lib.hid (hE.out.2 (by omega))
        obtain ⟨j0, j1, j2, j3⟩ := hCa.below hB (by omega)
        obtain ⟨k0, k1, k2, k3⟩ := hCb.below hB (by omega)
        have hBf := h0.trans (hB.mono (by omega))
        by_cases h3 : a.inputs = b.inputs
        · have h3' : (a.inputs != b.inputs) = false := by simp [h3]
          have H3 := Lib.hid (chk_0 H1.out H2.out h3)
          clear h3
          go_wp2
          go_ret
          exact ⟨ret_int H3.out.symm, hBf⟩
        · have h3' : (a.inputs != b.inputs) = true := by simp [h3]
          have H3 := Lib.hid (chk_i H1.out H2.out h3)
          clear h3
          go_wp2
          go_ret
          exact ⟨ret_int H3.out.symm, hBf⟩
end
end Go.Proofs.Ytdnmgiabgpilkaa
