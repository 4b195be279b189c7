/- Several texts, one behind the other. Conditions: as each of them says. -/
import Derived.Test.YtdnmgiabgpilkaaValidM
import Derived.Test.YtdnmgiabgpilkaaValid6
import Derived.Test.YtdnmgiabgpilkaaC4
import Derived.Test.YtdnmgiabgpilkaaSearch
import Derived.Test.YtdnmgiabgpilkaaFirstR
import Derived.Test.YtdnmgiabgpilkaaReach
import Derived.Test.YtdnmgiabgpilkaaPush
import Derived.Test.YtdnmgiabgpilkaaOrdT
import Derived.Test.YtdnmgiabgpilkaaBfs
import Derived.Test.YtdnmgiabgpilkaaSame
import Derived.Test.YtdnmgiabgpilkaaEx8
import Derived.Test.YtdnmgiabgpilkaaHolds8
import Derived.Deep.Cut
/- The checks of two machines: the program's and the reference's. No condition beyond that the fields read as lists of lists. -/
namespace Go.Proofs.Ytdnmgiabgpilkaa
open Go.RowKit
/-- The first error of two machines. -/
def chk (a b : Mach) : Int := if a.err ≠ 0 then a.err else if b.err ≠ 0 then b.err else if a.inputs ≠ b.inputs then 15 else 0
theorem chk_a {a b : Mach} (h : ¬ a.err = 0) : chk a b = a.err := by unfold chk; rw [if_pos h]
theorem chk_b {a b : Mach} (h : a.err = 0) (h2 : ¬ b.err = 0) : chk a b = b.err := by unfold chk; rw [if_neg (by simpa using h), if_pos h2]
theorem chk_i {a b : Mach} (h : a.err = 0) (h2 : b.err = 0) (h3 : ¬ a.inputs = b.inputs) : chk a b = 15 := by unfold chk; rw [if_neg (by simpa using h), if_neg (by simpa using h2), if_pos h3]
theorem chk_0 {a b : Mach} (h : a.err = 0) (h2 : b.err = 0) (h3 : a.inputs = b.inputs) : chk a b = 0 := by unfold chk; rw [if_neg (by simpa using h), if_neg (by simpa using h2), if_neg (by simpa using h3)]
theorem chk_zero {a b : Mach} (h : chk a b = 0) : a.err = 0 ∧ b.err = 0 ∧ a.inputs = b.inputs := by
  by_cases h1 : a.err = 0
  · by_cases h2 : b.err = 0
    · by_cases h3 : a.inputs = b.inputs
      · exact ⟨h1, h2, h3⟩
      · rw [chk_i h1 h2 h3] at h; simp at h
    · rw [chk_b h1 h2] at h; exact absurd h h2
  · rw [chk_a h1] at h; exact absurd h h1
section
variable {M : Nat → Prop} {w : World} {an ao bn bo : Option Addr} {acn aco bcn bco : Nat} {a b : Mach}

set_option maxRecDepth 100000 in
set_option maxHeartbeats 2000000 in
theorem checkR_any (ha : Ma M w an acn ao aco a) (hb : Ma M w bn bcn bo bco b) :
    Calls Try.prog 41 #[maV a an acn ao aco, maV b bn bcn bo bco] w fun e w' => e = .returned (.int .i64 (chk a b)) ∧ Below w.heap.size w w' := by
  have HA := Lib.hid (ha.ext ((Ext.alloc M w (maO a an acn ao aco)).trans (Ext.alloc M _ (maO b bn bcn bo bco))))
  have HB := Lib.hid (hb.ext ((Ext.alloc M w (maO a an acn ao aco)).trans (Ext.alloc M _ (maO b bn bcn bo bco))))
  have hB0 : Below (w.heap.size + 2) ((w.alloc (maO a an acn ao aco)).alloc (maO b bn bcn bo bco)) ((w.alloc (maO a an acn ao aco)).alloc (maO b bn bcn bo bco)) := Below.refl _ _
  have h0 : Below w.heap.size w ((w.alloc (maO a an acn ao aco)).alloc (maO b bn bcn bo bco)) := ((Below.refl _ _).alloc (Nat.le_refl _) _).alloc (by simp) _
  have HV := Lib.hid (valid6_any HA.out)
  clear ha hb
  have hCa : C4 ((w.alloc (maO a an acn ao aco)).alloc (maO b bn bcn bo bco)) w.heap.size an acn ao aco a := (c4_new w).below (B := w.heap.size + 1) ((Below.refl _ _).alloc (by simp) _) (by omega)
  have hCb : C4 ((w.alloc (maO a an acn ao aco)).alloc (maO b bn bcn bo bco)) (w.heap.size + 1) bn bcn bo bco b := by simpa using c4_new (m := b) (an := bn) (cn := bcn) (ao := bo) (co := bco) (w.alloc (maO a an acn ao aco))
  by_cases h1 : a.err = 0
  · have h1' : (a.err != 0) = false := by simp [h1]
    have H1 := Lib.hid h1
    clear h1
    by_cases h2 : b.err = 0
    · have h2' : (b.err != 0) = false := by simp [h2]
      have H2 := Lib.hid h2
      clear h2
      by_cases h3 : a.inputs = b.inputs
      · have h3' : (a.inputs != b.inputs) = false := by simp [h3]
        have H3 := Lib.hid (chk_0 H1.out H2.out h3)
        clear h3
        go_enter Try.func41, Try.ntmps41
        go_wp2_with fail
        refine (HV.out).mono ?_
        rintro e w1 ⟨rfl, hb1⟩
        have hz1 : w.heap.size + 2 ≤ w1.heap.size := by have := hb1.size; simpa using this
        have hB1 : Below (w.heap.size + 2) ((w.alloc (maO a an acn ao aco)).alloc (maO b bn bcn bo bco)) w1 := hb1.mono (by simp)
        have hCb1 := hCb.below hB1 (by omega)
        obtain ⟨k0, k1, k2, k3⟩ := hCb1
        have HV2 := Lib.hid (valid6_any (HB.out.below (by simpa using hb1)))
        clear hb1 HV
        go_wp2_with fail
        refine (HV2.out).mono ?_
        rintro e w2 ⟨rfl, hb2⟩
        have hB2 : Below (w.heap.size + 2) ((w.alloc (maO a an acn ao aco)).alloc (maO b bn bcn bo bco)) w2 := hB1.trans (hb2.mono hz1)
        clear hb2 HV2 k0 k1 k2 k3
        have hCa2 := hCa.below hB2 (by omega)
        have hCb2 := hCb.below hB2 (by omega)
        obtain ⟨j0, j1, j2, j3⟩ := hCa2
        obtain ⟨k0, k1, k2, k3⟩ := hCb2
        have hBf := h0.trans (hB2.mono (by omega))
        go_wp2
        go_ret
        exact ⟨ret_int H3.out.symm, hBf⟩
      · have h3' : (a.inputs != b.inputs) = true := by simp [h3]
        have H3 := Lib.hid (chk_i H1.out H2.out h3)
        clear h3
        go_enter Try.func41, Try.ntmps41
        go_wp2_with fail
        refine (HV.out).mono ?_
        rintro e w1 ⟨rfl, hb1⟩
        have hz1 : w.heap.size + 2 ≤ w1.heap.size := by have := hb1.size; simpa using this
        have hB1 : Below (w.heap.size + 2) ((w.alloc (maO a an acn ao aco)).alloc (maO b bn bcn bo bco)) w1 := hb1.mono (by simp)
        have hCb1 := hCb.below hB1 (by omega)
        obtain ⟨k0, k1, k2, k3⟩ := hCb1
        have HV2 := Lib.hid (valid6_any (HB.out.below (by simpa using hb1)))
        clear hb1 HV
        go_wp2_with fail
        refine (HV2.out).mono ?_
        rintro e w2 ⟨rfl, hb2⟩
        have hB2 : Below (w.heap.size + 2) ((w.alloc (maO a an acn ao aco)).alloc (maO b bn bcn bo bco)) w2 := hB1.trans (hb2.mono hz1)
        clear hb2 HV2 k0 k1 k2 k3
        have hCa2 := hCa.below hB2 (by omega)
        have hCb2 := hCb.below hB2 (by omega)
        obtain ⟨j0, j1, j2, j3⟩ := hCa2
        obtain ⟨k0, k1, k2, k3⟩ := hCb2
        have hBf := h0.trans (hB2.mono (by omega))
        go_wp2
        go_ret
        exact ⟨ret_int H3.out.symm, hBf⟩
    · have h2' : (b.err != 0) = true := by simp [h2]
      have H3 := Lib.hid (chk_b H1.out h2)
      clear h2
      go_enter Try.func41, Try.ntmps41
      go_wp2_with fail
      refine (HV.out).mono ?_
      rintro e w1 ⟨rfl, hb1⟩
      have hz1 : w.heap.size + 2 ≤ w1.heap.size := by have := hb1.size; simpa using this
      have hB1 : Below (w.heap.size + 2) ((w.alloc (maO a an acn ao aco)).alloc (maO b bn bcn bo bco)) w1 := hb1.mono (by simp)
      have hCb1 := hCb.below hB1 (by omega)
      obtain ⟨k0, k1, k2, k3⟩ := hCb1
      have HV2 := Lib.hid (valid6_any (HB.out.below (by simpa using hb1)))
      clear hb1 HV
      go_wp2_with fail
      refine (HV2.out).mono ?_
      rintro e w2 ⟨rfl, hb2⟩
      have hB2 : Below (w.heap.size + 2) ((w.alloc (maO a an acn ao aco)).alloc (maO b bn bcn bo bco)) w2 := hB1.trans (hb2.mono hz1)
      clear hb2 HV2 k0 k1 k2 k3
      have hBf := h0.trans (hB2.mono (by omega))
      go_wp2
      go_ret
      exact ⟨ret_int H3.out.symm, hBf⟩
  · have h1' : (a.err != 0) = true := by simp [h1]
    have H3 := Lib.hid (chk_a (b := b) h1)
    clear h1
    go_enter Try.func41, Try.ntmps41
    go_wp2_with fail
    refine (HV.out).mono ?_
    rintro e w1 ⟨rfl, hb1⟩
    have hz1 : w.heap.size + 2 ≤ w1.heap.size := by have := hb1.size; simpa using this
    have hB1 : Below (w.heap.size + 2) ((w.alloc (maO a an acn ao aco)).alloc (maO b bn bcn bo bco)) w1 := hb1.mono (by simp)
    have hBf := h0.trans (hB1.mono (by omega))
    go_wp2
    go_ret
    exact ⟨ret_int H3.out.symm, hBf⟩

set_option maxRecDepth 100000 in
set_option maxHeartbeats 4000000 in
theorem check_any (ha : Ma M w an acn ao aco a) (hb : Ma M w bn bcn bo bco b) :
    Calls Try.prog 56 #[maV a an acn ao aco, maV b bn bcn bo bco] w fun e w' => e = .returned (.int .i64 (chk a b)) ∧ Below w.heap.size w w' := by
  have HA := Lib.hid (ha.ext ((Ext.alloc M w (maO a an acn ao aco)).trans (Ext.alloc M _ (maO b bn bcn bo bco))))
  have HB := Lib.hid (hb.ext ((Ext.alloc M w (maO a an acn ao aco)).trans (Ext.alloc M _ (maO b bn bcn bo bco))))
  have hB0 : Below (w.heap.size + 2) ((w.alloc (maO a an acn ao aco)).alloc (maO b bn bcn bo bco)) ((w.alloc (maO a an acn ao aco)).alloc (maO b bn bcn bo bco)) := Below.refl _ _
  have h0 : Below w.heap.size w ((w.alloc (maO a an acn ao aco)).alloc (maO b bn bcn bo bco)) := ((Below.refl _ _).alloc (Nat.le_refl _) _).alloc (by simp) _
  have hCa : C4 ((w.alloc (maO a an acn ao aco)).alloc (maO b bn bcn bo bco)) w.heap.size an acn ao aco a := (c4_new w).below (B := w.heap.size + 1) ((Below.refl _ _).alloc (by simp) _) (by omega)
  have hCb : C4 ((w.alloc (maO a an acn ao aco)).alloc (maO b bn bcn bo bco)) (w.heap.size + 1) bn bcn bo bco b := by simpa using c4_new (m := b) (an := bn) (cn := bcn) (ao := bo) (co := bco) (w.alloc (maO a an acn ao aco))
  have hz0 : w.heap.size + 2 ≤ ((w.alloc (maO a an acn ao aco)).alloc (maO b bn bcn bo bco)).heap.size := by simp
  have hzW : ((w.alloc (maO a an acn ao aco)).alloc (maO b bn bcn bo bco)).heap.size ≤ w.heap.size + 2 := by simp
  have i0 : ∀ w, (Instr.index 98 (.agg #[.int .i64 a.inputs, .int .i64 a.start, .slice an a.next.length acn, .slice ao a.out.length aco, .int .i64 b.inputs, .int .i64 b.start, .slice bn b.next.length bcn, .slice bo b.out.length bco]) (.int .i64 0)).run Try.prog w = .ok (.agg #[.int .i64 a.inputs, .int .i64 a.start, .slice an a.next.length acn, .slice ao a.out.length aco]) w := fun _ => by kernel_rfl
  have i1 : ∀ w, (Instr.index 98 (.agg #[.int .i64 a.inputs, .int .i64 a.start, .slice an a.next.length acn, .slice ao a.out.length aco, .int .i64 b.inputs, .int .i64 b.start, .slice bn b.next.length bcn, .slice bo b.out.length bco]) (.int .i64 1)).run Try.prog w = .ok (.agg #[.int .i64 b.inputs, .int .i64 b.start, .slice bn b.next.length bcn, .slice bo b.out.length bco]) w := fun _ => by kernel_rfl
  clear ha hb
  go_enter Try.func56, Try.ntmps56
  go_wp2
  obtain ⟨W, hW⟩ : ∃ W, W = ((w.alloc (maO a an acn ao aco)).alloc (maO b bn bcn bo bco)) := ⟨_, rfl⟩
  rw [← hW] at HA HB hB0 h0 hCa hCb hz0 hzW ⊢
  clear hW
  go_loopw [11] (fun i wr => ∃ k : Nat, k ≤ 2 ∧ i = .int .i64 k ∧ Hid ((1 ≤ k → a.err = 0) ∧ (2 ≤ k → b.err = 0)) ∧ Below (w.heap.size + 2) W wr) (fun i _ => 2 - (intOf i).toNat)
  case atStart => exact ⟨0, by omega, rfl, ⟨fun h => by omega, fun h => by omega⟩, hB0⟩
  case round =>
    clear hB0
    obtain ⟨k, hk, rfl, hE, hB⟩ := hrel
    obtain ⟨w1, rfl⟩ : ∃ w1 : World, w1 = wr := ⟨_, rfl⟩
    have hz1 : w.heap.size + 2 ≤ w1.heap.size := by have := hB.size; omega
    by_cases k0 : k = 0
    · subst k0
      have HV := Lib.hid (valid_any ((HA.out.below (hB.mono hzW)).ext (Ext.alloc M w1 (maO a an acn ao aco))))
      go_wp2_with fail
      refine (HV.out).mono ?_
      rintro e w2 ⟨rfl, hb2⟩
      have hB2 : Below (w.heap.size + 2) W w2 := (hB.alloc hz1 _).trans (hb2.mono (by simp; omega))
      clear hb2 HV
      by_cases h1 : a.err = 0
      · have h1' : (a.err != 0) = false := by simp [h1]
        have H1 := Lib.hid h1
        clear h1
        go_wp2
        go_roundw
        case rel => exact ⟨1, by omega, by go_num, ⟨fun _ => H1.out, fun h => by omega⟩, hB2⟩
        case measure => simp [intOf]
      · have h1' : (a.err != 0) = true := by simp [h1]
        have H3 := Lib.hid (chk_a (b := b) h1)
        clear h1
        have hBf := h0.trans (hB2.mono (by omega))
        go_wp2
        go_ret
        exact ⟨ret_int H3.out.symm, hBf⟩
    · by_cases k1 : k = 1
      · subst k1
        have H1 := Lib.hid (hE.out.1 (by omega))
        have HV := Lib.hid (valid_any ((HB.out.below (hB.mono hzW)).ext (Ext.alloc M w1 (maO b bn bcn bo bco))))
        go_wp2_with fail
        refine (HV.out).mono ?_
        rintro e w2 ⟨rfl, hb2⟩
        have hB2 : Below (w.heap.size + 2) W w2 := (hB.alloc hz1 _).trans (hb2.mono (by simp; omega))
        clear hb2 HV
        by_cases h1 : b.err = 0
        · have h1' : (b.err != 0) = false := by simp [h1]
          have H2 := Lib.hid h1
          clear h1
          go_wp2
          go_roundw
          case rel => exact ⟨2, by omega, by go_num, ⟨fun _ => H1.out, fun _ => H2.out⟩, hB2⟩
          case measure => simp [intOf]
        · have h1' : (b.err != 0) = true := by simp [h1]
          have H3 := Lib.hid (chk_b H1.out h1)
          clear h1
          have hBf := h0.trans (hB2.mono (by omega))
          go_wp2
          go_ret
          exact ⟨ret_int H3.out.symm, hBf⟩
      · have hk2 : k = 2 := by omega
        subst hk2
        have H1 := Lib.hid (hE.out.1 (by omega))
        have H2 := Lib.hid (hE.out.2 (by omega))
        obtain ⟨j0, j1, j2, j3⟩ := hCa.below hB (by omega)
        obtain ⟨k0, k1, k2, k3⟩ := hCb.below hB (by omega)
        have hBf := h0.trans (hB.mono (by omega))
        by_cases h3 : a.inputs = b.inputs
        · have h3' : (a.inputs != b.inputs) = false := by simp [h3]
          have H3 := Lib.hid (chk_0 H1.out H2.out h3)
          clear h3
          go_wp2
          go_ret
          exact ⟨ret_int H3.out.symm, hBf⟩
        · have h3' : (a.inputs != b.inputs) = true := by simp [h3]
          have H3 := Lib.hid (chk_i H1.out H2.out h3)
          clear h3
          go_wp2
          go_ret
          exact ⟨ret_int H3.out.symm, hBf⟩
end
end Go.Proofs.Ytdnmgiabgpilkaa
/- Distinguish, Equal, Upto, States: the program's and the reference's. No condition beyond that the fields read as lists of lists. -/
namespace Go.Proofs.Ytdnmgiabgpilkaa
open Go.RowKit
/-- The word of Distinguish. -/
def distW (a b : Mach) : Option (List Int) := if chk a b = 0 then firstW a b a.start b.start else none
/-- The error and the word of States. -/
def stErr (m : Mach) (s t : Int) : Int := if m.err ≠ 0 then m.err else if s < 0 ∨ (m.next.length : Int) ≤ s ∨ t < 0 ∨ (m.next.length : Int) ≤ t then 2 else 0
def stW (m : Mach) (s t : Int) : Option (List Int) := if stErr m s t = 0 then firstW m m s t else none
def uptoB (a b : Mach) (n : Int) : Bool := decide (chk a b = 0) && (match distW a b with | none => true | some v => decide (n < (v.length : Int)))
theorem upto_err {a b : Mach} {n : Int} (h : ¬ chk a b = 0) : uptoB a b n = false := by simp [uptoB, h]
theorem upto_none {a b : Mach} {n : Int} (h : chk a b = 0) (hd : distW a b = none) : uptoB a b n = true := by simp [uptoB, h, hd]
theorem upto_yes {a b : Mach} {n : Int} {l : List Int} (h : chk a b = 0) (hd : distW a b = some l) (hl : n < (l.length : Int)) : uptoB a b n = true := by simp [uptoB, h, hd, hl]
theorem upto_no {a b : Mach} {n : Int} {l : List Int} (hd : distW a b = some l) (hl : ¬ n < (l.length : Int)) : uptoB a b n = false := by simp [uptoB, hd, hl]
theorem st_err {m : Mach} {s t : Int} (h : ¬ m.err = 0) : stErr m s t = m.err := by unfold stErr; rw [if_pos h]
theorem st_cases {m : Mach} (h : m.err = 0) (s t : Int) : (s < 0 ∧ stErr m s t = 2) ∨ (¬ s < 0 ∧ (m.next.length : Int) ≤ s ∧ stErr m s t = 2) ∨ (¬ s < 0 ∧ ¬ (m.next.length : Int) ≤ s ∧ t < 0 ∧ stErr m s t = 2) ∨
    (¬ s < 0 ∧ ¬ (m.next.length : Int) ≤ s ∧ ¬ t < 0 ∧ (m.next.length : Int) ≤ t ∧ stErr m s t = 2) ∨ (¬ s < 0 ∧ ¬ (m.next.length : Int) ≤ s ∧ ¬ t < 0 ∧ ¬ (m.next.length : Int) ≤ t ∧ stErr m s t = 0) := by
  have e : stErr m s t = if s < 0 ∨ (m.next.length : Int) ≤ s ∨ t < 0 ∨ (m.next.length : Int) ≤ t then 2 else 0 := by unfold stErr; rw [if_neg (by simpa using h)]
  rw [e]
  split <;> omega
theorem ret3_int {x y : Value} {a b : Int} (h : a = b) : Ending.returned (.tuple #[x, y, .int .i64 a]) = .returned (.tuple #[x, y, .int .i64 b]) := by rw [h]
theorem ansW_none {l : List Int} {f : Bool} (h : l = [] ∧ f = false) : ansW none l f := h
section
variable {M : Nat → Prop} {w : World} {an ao bn bo : Option Addr} {acn aco bcn bco : Nat} {a b : Mach}

theorem searchI (ha : Ma M w an acn ao aco a) (hb : Ma M w bn bcn bo bco b) (ea : a.err = 0) (eb : b.err = 0) (hi : a.inputs = b.inputs) (s t : Int) (hs0 : 0 ≤ s) (hs : s < a.next.length) (ht0 : 0 ≤ t) (ht : t < b.next.length) :
    Calls Try.prog 57 #[maV a an acn ao aco, maV b bn bcn bo bco, .agg #[.int .i64 s, .int .i64 t]] w fun e w' =>
      ∃ ad c l f, e = .returned (.tuple #[.slice ad l.length c, .bool f]) ∧ Hid (ansW (firstW a b s t) l f) ∧ Sl (fun k => k < w.heap.size) w' ad c l ∧ Below w.heap.size w w' := by
  obtain ⟨s, rfl⟩ := Int.eq_ofNat_of_zero_le hs0
  obtain ⟨t, rfl⟩ := Int.eq_ofNat_of_zero_le ht0
  exact search_any ha hb ea eb hi s t (by omega) (by omega)
theorem firstRI (ha : Ma M w an acn ao aco a) (hb : Ma M w bn bcn bo bco b) (ea : a.err = 0) (eb : b.err = 0) (hi : a.inputs = b.inputs) (s t : Int) (hs0 : 0 ≤ s) (hs : s < a.next.length) (ht0 : 0 ≤ t) (ht : t < b.next.length) :
    Calls Try.prog 58 #[maV a an acn ao aco, maV b bn bcn bo bco, .int .i64 s, .int .i64 t] w fun e w' =>
      ∃ ad c l f, e = .returned (.tuple #[.slice ad l.length c, .bool f]) ∧ Hid (ansW (firstW a b s t) l f) ∧ Sl (fun k => k < w.heap.size) w' ad c l ∧ Below w.heap.size w w' := by
  obtain ⟨s, rfl⟩ := Int.eq_ofNat_of_zero_le hs0
  obtain ⟨t, rfl⟩ := Int.eq_ofNat_of_zero_le ht0
  exact firstR_any ha hb ea eb hi s t (by omega) (by omega)

set_option maxRecDepth 100000 in
set_option maxHeartbeats 2000000 in
theorem dist_any (ha : Ma M w an acn ao aco a) (hb : Ma M w bn bcn bo bco b) :
    Calls Try.prog 31 #[maV a an acn ao aco, maV b bn bcn bo bco] w fun e w' => ∃ ad c l f, e = .returned (.tuple #[.slice ad l.length c, .bool f, .int .i64 (chk a b)]) ∧ Hid (ansW (distW a b) l f) ∧ Sl (fun k => k < w.heap.size) w' ad c l ∧ Below w.heap.size w w' := by
  have HA := Lib.hid (ha.ext ((Ext.alloc M w (maO a an acn ao aco)).trans (Ext.alloc M _ (maO b bn bcn bo bco))))
  have HB := Lib.hid (hb.ext ((Ext.alloc M w (maO a an acn ao aco)).trans (Ext.alloc M _ (maO b bn bcn bo bco))))
  have h0 : Below w.heap.size w ((w.alloc (maO a an acn ao aco)).alloc (maO b bn bcn bo bco)) := ((Below.refl _ _).alloc (Nat.le_refl _) _).alloc (by simp) _
  have hCa : C4 ((w.alloc (maO a an acn ao aco)).alloc (maO b bn bcn bo bco)) w.heap.size an acn ao aco a := (c4_new w).below (B := w.heap.size + 1) ((Below.refl _ _).alloc (by simp) _) (by omega)
  have hCb : C4 ((w.alloc (maO a an acn ao aco)).alloc (maO b bn bcn bo bco)) (w.heap.size + 1) bn bcn bo bco b := by simpa using c4_new (m := b) (an := bn) (cn := bcn) (ao := bo) (co := bco) (w.alloc (maO a an acn ao aco))
  have HC := Lib.hid (check_any HA.out HB.out)
  clear ha hb
  by_cases h : chk a b = 0
  · have h' : (chk a b != 0) = false := by simp [h]
    have H := Lib.hid h
    have HZ := Lib.hid (chk_zero h)
    clear h
    go_enter Try.func31, Try.ntmps31
    go_wp2_with fail
    refine (HC.out).mono ?_
    rintro e w1 ⟨rfl, hb1⟩
    have hz1 : w.heap.size + 2 ≤ w1.heap.size := by have := hb1.size; simpa using this
    have hB1 : Below (w.heap.size + 2) ((w.alloc (maO a an acn ao aco)).alloc (maO b bn bcn bo bco)) w1 := hb1.mono (by simp)
    have hCa1 := hCa.below hB1 (by omega)
    have hCb1 := hCb.below hB1 (by omega)
    obtain ⟨j0, j1, j2, j3⟩ := hCa1
    obtain ⟨k0, k1, k2, k3⟩ := hCb1
    have OA := Lib.hid (a.ok_of_err HZ.out.1)
    have OB := Lib.hid (b.ok_of_err HZ.out.2.1)
    have HS := Lib.hid (searchI (HA.out.below (by simpa using hb1)) (HB.out.below (by simpa using hb1)) HZ.out.1 HZ.out.2.1 HZ.out.2.2 a.start b.start OA.out.s0 OA.out.s1 OB.out.s0 OB.out.s1)
    clear hb1 HC
    go_wp2_with fail
    refine (HS.out).mono ?_
    rintro e w2 ⟨ad, c, l, f, rfl, hans, hsl, hb2⟩
    have hBf := (h0.trans (hB1.mono (by omega))).trans (hb2.mono (by omega))
    have hS2 := hsl.anti (M' := fun k => k < w.heap.size) (fun k _ hk => by omega)
    clear HS
    go_wp2
    go_ret3
    refine ⟨ad, c, l, f, ret3_int H.out.symm, ?_, hS2, hBf⟩
    · unfold Hid distW; rw [if_pos H.out]; exact hans.out
  · have h' : (chk a b != 0) = true := by simp [h]
    have H := Lib.hid h
    clear h
    go_enter Try.func31, Try.ntmps31
    go_wp2_with fail
    refine (HC.out).mono ?_
    rintro e w1 ⟨rfl, hb1⟩
    have hB1 : Below (w.heap.size + 2) ((w.alloc (maO a an acn ao aco)).alloc (maO b bn bcn bo bco)) w1 := hb1.mono (by simp)
    have hBf := h0.trans (hB1.mono (by omega))
    clear HC hb1
    go_wp2
    go_ret3
    refine ⟨none, 0, [], false, rfl, ?_, Sl.nil _ _ _ (by unfold maxLen; omega), hBf⟩
    unfold Hid distW; rw [if_neg H.out]; exact ⟨rfl, rfl⟩
set_option maxRecDepth 100000 in
set_option maxHeartbeats 2000000 in
theorem distR_any (ha : Ma M w an acn ao aco a) (hb : Ma M w bn bcn bo bco b) :
    Calls Try.prog 32 #[maV a an acn ao aco, maV b bn bcn bo bco] w fun e w' => ∃ ad c l f, e = .returned (.tuple #[.slice ad l.length c, .bool f, .int .i64 (chk a b)]) ∧ Hid (ansW (distW a b) l f) ∧ Sl (fun k => k < w.heap.size) w' ad c l ∧ Below w.heap.size w w' := by
  have HA := Lib.hid (ha.ext ((Ext.alloc M w (maO a an acn ao aco)).trans (Ext.alloc M _ (maO b bn bcn bo bco))))
  have HB := Lib.hid (hb.ext ((Ext.alloc M w (maO a an acn ao aco)).trans (Ext.alloc M _ (maO b bn bcn bo bco))))
  have h0 : Below w.heap.size w ((w.alloc (maO a an acn ao aco)).alloc (maO b bn bcn bo bco)) := ((Below.refl _ _).alloc (Nat.le_refl _) _).alloc (by simp) _
  have hCa : C4 ((w.alloc (maO a an acn ao aco)).alloc (maO b bn bcn bo bco)) w.heap.size an acn ao aco a := (c4_new w).below (B := w.heap.size + 1) ((Below.refl _ _).alloc (by simp) _) (by omega)
  have hCb : C4 ((w.alloc (maO a an acn ao aco)).alloc (maO b bn bcn bo bco)) (w.heap.size + 1) bn bcn bo bco b := by simpa using c4_new (m := b) (an := bn) (cn := bcn) (ao := bo) (co := bco) (w.alloc (maO a an acn ao aco))
  have HC := Lib.hid (checkR_any HA.out HB.out)
  clear ha hb
  by_cases h : chk a b = 0
  · have h' : (chk a b != 0) = false := by simp [h]
    have H := Lib.hid h
    have HZ := Lib.hid (chk_zero h)
    clear h
    go_enter Try.func32, Try.ntmps32
    go_wp2_with fail
    refine (HC.out).mono ?_
    rintro e w1 ⟨rfl, hb1⟩
    have hz1 : w.heap.size + 2 ≤ w1.heap.size := by have := hb1.size; simpa using this
    have hB1 : Below (w.heap.size + 2) ((w.alloc (maO a an acn ao aco)).alloc (maO b bn bcn bo bco)) w1 := hb1.mono (by simp)
    have hCa1 := hCa.below hB1 (by omega)
    have hCb1 := hCb.below hB1 (by omega)
    obtain ⟨j0, j1, j2, j3⟩ := hCa1
    obtain ⟨k0, k1, k2, k3⟩ := hCb1
    have OA := Lib.hid (a.ok_of_err HZ.out.1)
    have OB := Lib.hid (b.ok_of_err HZ.out.2.1)
    have HS := Lib.hid (firstRI (HA.out.below (by simpa using hb1)) (HB.out.below (by simpa using hb1)) HZ.out.1 HZ.out.2.1 HZ.out.2.2 a.start b.start OA.out.s0 OA.out.s1 OB.out.s0 OB.out.s1)
    clear hb1 HC
    go_wp2_with fail
    refine (HS.out).mono ?_
    rintro e w2 ⟨ad, c, l, f, rfl, hans, hsl, hb2⟩
    have hBf := (h0.trans (hB1.mono (by omega))).trans (hb2.mono (by omega))
    have hS2 := hsl.anti (M' := fun k => k < w.heap.size) (fun k _ hk => by omega)
    clear HS
    go_wp2
    go_ret3
    refine ⟨ad, c, l, f, ret3_int H.out.symm, ?_, hS2, hBf⟩
    · unfold Hid distW; rw [if_pos H.out]; exact hans.out
  · have h' : (chk a b != 0) = true := by simp [h]
    have H := Lib.hid h
    clear h
    go_enter Try.func32, Try.ntmps32
    go_wp2_with fail
    refine (HC.out).mono ?_
    rintro e w1 ⟨rfl, hb1⟩
    have hB1 : Below (w.heap.size + 2) ((w.alloc (maO a an acn ao aco)).alloc (maO b bn bcn bo bco)) w1 := hb1.mono (by simp)
    have hBf := h0.trans (hB1.mono (by omega))
    clear HC hb1
    go_wp2
    go_ret3
    refine ⟨none, 0, [], false, rfl, ?_, Sl.nil _ _ _ (by unfold maxLen; omega), hBf⟩
    unfold Hid distW; rw [if_neg H.out]; exact ⟨rfl, rfl⟩

set_option maxRecDepth 100000 in
set_option maxHeartbeats 2000000 in
theorem eqm_any (ha : Ma M w an acn ao aco a) (hb : Ma M w bn bcn bo bco b) :
    Calls Try.prog 33 #[maV a an acn ao aco, maV b bn bcn bo bco] w fun e w' => ∃ f, e = .returned (.tuple #[.bool f, .int .i64 (chk a b)]) ∧ Hid (f = decide (chk a b = 0 ∧ distW a b = none)) ∧ Below w.heap.size w w' := by
  have HD := Lib.hid (dist_any (ha.ext ((Ext.alloc M w (maO a an acn ao aco)).trans (Ext.alloc M _ (maO b bn bcn bo bco)))) (hb.ext ((Ext.alloc M w (maO a an acn ao aco)).trans (Ext.alloc M _ (maO b bn bcn bo bco)))))
  have h0 : Below w.heap.size w ((w.alloc (maO a an acn ao aco)).alloc (maO b bn bcn bo bco)) := ((Below.refl _ _).alloc (Nat.le_refl _) _).alloc (by simp) _
  have hzW : w.heap.size ≤ ((w.alloc (maO a an acn ao aco)).alloc (maO b bn bcn bo bco)).heap.size := by simp; omega
  clear ha hb
  by_cases h : chk a b = 0
  · have h' : (chk a b == 0) = true := by simp [h]
    have H := Lib.hid h
    clear h
    go_enter Try.func33, Try.ntmps33
    go_wp2_with fail
    refine (HD.out).mono ?_
    rintro e w1 ⟨ad, c, l, f, rfl, hans, -, hb1⟩
    have hBf := h0.trans (hb1.mono hzW)
    clear HD
    have hans2 : Hid (f = (distW a b).isSome) := hans.out.2
    cases f with
    | true =>
      go_wp2
      go_ret2
      refine ⟨_, rfl, ?_, hBf⟩
      unfold Hid
      have h2 := hans2.out
      cases hd : distW a b with
      | none => rw [hd] at h2; simp at h2
      | some v => simp
    | false =>
      go_wp2
      go_ret2
      refine ⟨_, rfl, ?_, hBf⟩
      unfold Hid
      have h2 := hans2.out
      cases hd : distW a b with
      | none => simp [H.out]
      | some v => rw [hd] at h2; simp at h2
  · have h' : (chk a b == 0) = false := by simp [h]
    have H := Lib.hid h
    clear h
    go_enter Try.func33, Try.ntmps33
    go_wp2_with fail
    refine (HD.out).mono ?_
    rintro e w1 ⟨ad, c, l, f, rfl, hans, -, hb1⟩
    have hBf := h0.trans (hb1.mono hzW)
    clear HD
    go_wp2
    go_ret2
    refine ⟨_, rfl, ?_, hBf⟩
    unfold Hid
    have := H.out
    simp [this]
set_option maxRecDepth 100000 in
set_option maxHeartbeats 2000000 in
theorem eqmR_any (ha : Ma M w an acn ao aco a) (hb : Ma M w bn bcn bo bco b) :
    Calls Try.prog 34 #[maV a an acn ao aco, maV b bn bcn bo bco] w fun e w' => ∃ f, e = .returned (.tuple #[.bool f, .int .i64 (chk a b)]) ∧ Hid (f = decide (chk a b = 0 ∧ distW a b = none)) ∧ Below w.heap.size w w' := by
  have HD := Lib.hid (distR_any (ha.ext ((Ext.alloc M w (maO a an acn ao aco)).trans (Ext.alloc M _ (maO b bn bcn bo bco)))) (hb.ext ((Ext.alloc M w (maO a an acn ao aco)).trans (Ext.alloc M _ (maO b bn bcn bo bco)))))
  have h0 : Below w.heap.size w ((w.alloc (maO a an acn ao aco)).alloc (maO b bn bcn bo bco)) := ((Below.refl _ _).alloc (Nat.le_refl _) _).alloc (by simp) _
  have hzW : w.heap.size ≤ ((w.alloc (maO a an acn ao aco)).alloc (maO b bn bcn bo bco)).heap.size := by simp; omega
  clear ha hb
  by_cases h : chk a b = 0
  · have h' : (chk a b == 0) = true := by simp [h]
    have H := Lib.hid h
    clear h
    go_enter Try.func34, Try.ntmps34
    go_wp2_with fail
    refine (HD.out).mono ?_
    rintro e w1 ⟨ad, c, l, f, rfl, hans, -, hb1⟩
    have hBf := h0.trans (hb1.mono hzW)
    clear HD
    have hans2 : Hid (f = (distW a b).isSome) := hans.out.2
    cases f with
    | true =>
      go_wp2
      go_ret2
      refine ⟨_, rfl, ?_, hBf⟩
      unfold Hid
      have h2 := hans2.out
      cases hd : distW a b with
      | none => rw [hd] at h2; simp at h2
      | some v => simp
    | false =>
      go_wp2
      go_ret2
      refine ⟨_, rfl, ?_, hBf⟩
      unfold Hid
      have h2 := hans2.out
      cases hd : distW a b with
      | none => simp [H.out]
      | some v => rw [hd] at h2; simp at h2
  · have h' : (chk a b == 0) = false := by simp [h]
    have H := Lib.hid h
    clear h
    go_enter Try.func34, Try.ntmps34
    go_wp2_with fail
    refine (HD.out).mono ?_
    rintro e w1 ⟨ad, c, l, f, rfl, hans, -, hb1⟩
    have hBf := h0.trans (hb1.mono hzW)
    clear HD
    go_wp2
    go_ret2
    refine ⟨_, rfl, ?_, hBf⟩
    unfold Hid
    have := H.out
    simp [this]

set_option maxRecDepth 100000 in
set_option maxHeartbeats 2000000 in
theorem upto_any (ha : Ma M w an acn ao aco a) (hb : Ma M w bn bcn bo bco b) (n : Int) (hn : i64 n) :
    Calls Try.prog 39 #[maV a an acn ao aco, maV b bn bcn bo bco, .int .i64 n] w fun e w' => ∃ f, e = .returned (.tuple #[.bool f, .int .i64 (chk a b)]) ∧ Hid (f = uptoB a b n) ∧ Below w.heap.size w w' := by
  have HD := Lib.hid (dist_any (ha.ext ((Ext.alloc M w (maO a an acn ao aco)).trans (Ext.alloc M _ (maO b bn bcn bo bco)))) (hb.ext ((Ext.alloc M w (maO a an acn ao aco)).trans (Ext.alloc M _ (maO b bn bcn bo bco)))))
  have h0 : Below w.heap.size w ((w.alloc (maO a an acn ao aco)).alloc (maO b bn bcn bo bco)) := ((Below.refl _ _).alloc (Nat.le_refl _) _).alloc (by simp) _
  have hzW : w.heap.size ≤ ((w.alloc (maO a an acn ao aco)).alloc (maO b bn bcn bo bco)).heap.size := by simp; omega
  have HN := Lib.hid hn
  clear ha hb hn
  by_cases h : chk a b = 0
  · have h' : (chk a b == 0) = true := by simp [h]
    have H := Lib.hid h
    clear h
    go_enter Try.func39, Try.ntmps39
    go_wp2_with fail
    refine (HD.out).mono ?_
    rintro e w1 ⟨ad, c, l, f, rfl, hans, hsl, hb1⟩
    have hBf := h0.trans (hb1.mono hzW)
    have hll := hsl.le
    clear HD hsl
    cases f with
    | true =>
      have hl : Hid (distW a b = some l) := by
        have h1 := hans.out.1
        have h2 := hans.out.2
        unfold Hid
        cases hd : distW a b with
        | none => rw [hd] at h2; simp at h2
        | some v => rw [hd] at h1; simp at h1; rw [h1]
      by_cases hlt : n < (l.length : Int)
      · have HL := Lib.hid (show true = uptoB a b n from (upto_yes H.out hl.out hlt).symm)
        go_wp2
        go_ret2
        exact ⟨true, by first | rfl | simp [hlt], HL, hBf⟩
      · have HL := Lib.hid (show false = uptoB a b n from (upto_no hl.out hlt).symm)
        go_wp2
        go_ret2
        exact ⟨false, by first | rfl | simp [hlt], HL, hBf⟩
    | false =>
      have hd : Hid (distW a b = none) := by
        have h2 := hans.out.2
        unfold Hid
        cases hd : distW a b with
        | none => rfl
        | some v => rw [hd] at h2; simp at h2
      have HL := Lib.hid (show true = uptoB a b n from (upto_none H.out hd.out).symm)
      go_wp2
      go_ret2
      exact ⟨true, rfl, HL, hBf⟩
  · have h' : (chk a b == 0) = false := by simp [h]
    have HL := Lib.hid (show false = uptoB a b n from (upto_err h).symm)
    have H := Lib.hid h
    clear h
    go_enter Try.func39, Try.ntmps39
    go_wp2_with fail
    refine (HD.out).mono ?_
    rintro e w1 ⟨ad, c, l, f, rfl, hans, -, hb1⟩
    have hBf := h0.trans (hb1.mono hzW)
    clear HD
    go_wp2
    go_ret2
    exact ⟨false, rfl, HL, hBf⟩
set_option maxRecDepth 100000 in
set_option maxHeartbeats 2000000 in
theorem uptoR_any (ha : Ma M w an acn ao aco a) (hb : Ma M w bn bcn bo bco b) (n : Int) (hn : i64 n) :
    Calls Try.prog 40 #[maV a an acn ao aco, maV b bn bcn bo bco, .int .i64 n] w fun e w' => ∃ f, e = .returned (.tuple #[.bool f, .int .i64 (chk a b)]) ∧ Hid (f = uptoB a b n) ∧ Below w.heap.size w w' := by
  have HD := Lib.hid (distR_any (ha.ext ((Ext.alloc M w (maO a an acn ao aco)).trans (Ext.alloc M _ (maO b bn bcn bo bco)))) (hb.ext ((Ext.alloc M w (maO a an acn ao aco)).trans (Ext.alloc M _ (maO b bn bcn bo bco)))))
  have h0 : Below w.heap.size w ((w.alloc (maO a an acn ao aco)).alloc (maO b bn bcn bo bco)) := ((Below.refl _ _).alloc (Nat.le_refl _) _).alloc (by simp) _
  have hzW : w.heap.size ≤ ((w.alloc (maO a an acn ao aco)).alloc (maO b bn bcn bo bco)).heap.size := by simp; omega
  have HN := Lib.hid hn
  clear ha hb hn
  by_cases h : chk a b = 0
  · have h' : (chk a b == 0) = true := by simp [h]
    have H := Lib.hid h
    clear h
    go_enter Try.func40, Try.ntmps40
    go_wp2_with fail
    refine (HD.out).mono ?_
    rintro e w1 ⟨ad, c, l, f, rfl, hans, hsl, hb1⟩
    have hBf := h0.trans (hb1.mono hzW)
    have hll := hsl.le
    clear HD hsl
    cases f with
    | true =>
      have hl : Hid (distW a b = some l) := by
        have h1 := hans.out.1
        have h2 := hans.out.2
        unfold Hid
        cases hd : distW a b with
        | none => rw [hd] at h2; simp at h2
        | some v => rw [hd] at h1; simp at h1; rw [h1]
      by_cases hlt : n < (l.length : Int)
      · have HL := Lib.hid (show true = uptoB a b n from (upto_yes H.out hl.out hlt).symm)
        go_wp2
        go_ret2
        exact ⟨true, by first | rfl | simp [hlt], HL, hBf⟩
      · have HL := Lib.hid (show false = uptoB a b n from (upto_no hl.out hlt).symm)
        go_wp2
        go_ret2
        exact ⟨false, by first | rfl | simp [hlt], HL, hBf⟩
    | false =>
      have hd : Hid (distW a b = none) := by
        have h2 := hans.out.2
        unfold Hid
        cases hd : distW a b with
        | none => rfl
        | some v => rw [hd] at h2; simp at h2
      have HL := Lib.hid (show true = uptoB a b n from (upto_none H.out hd.out).symm)
      go_wp2
      go_ret2
      exact ⟨true, rfl, HL, hBf⟩
  · have h' : (chk a b == 0) = false := by simp [h]
    have HL := Lib.hid (show false = uptoB a b n from (upto_err h).symm)
    have H := Lib.hid h
    clear h
    go_enter Try.func40, Try.ntmps40
    go_wp2_with fail
    refine (HD.out).mono ?_
    rintro e w1 ⟨ad, c, l, f, rfl, hans, -, hb1⟩
    have hBf := h0.trans (hb1.mono hzW)
    clear HD
    go_wp2
    go_ret2
    exact ⟨false, rfl, HL, hBf⟩

set_option maxRecDepth 100000 in
set_option maxHeartbeats 4000000 in
theorem states_any (ha : Ma M w an acn ao aco a) (s t : Int) (hs : i64 s) (ht : i64 t) :
    Calls Try.prog 35 #[maV a an acn ao aco, .int .i64 s, .int .i64 t] w fun e w' => ∃ ad c l f, e = .returned (.tuple #[.slice ad l.length c, .bool f, .int .i64 (stErr a s t)]) ∧ Hid (ansW (stW a s t) l f) ∧ Sl (fun k => k < w.heap.size) w' ad c l ∧ Below w.heap.size w w' := by
  have HA := Lib.hid (ha.ext (Ext.alloc M w (maO a an acn ao aco)))
  have h0 : Below w.heap.size w (w.alloc (maO a an acn ao aco)) := (Below.refl _ _).alloc (Nat.le_refl _) _
  have hCa : C4 (w.alloc (maO a an acn ao aco)) w.heap.size an acn ao aco a := c4_new w
  have HV := Lib.hid (valid_any HA.out)
  have HS64 := Lib.hid (And.intro hs ht)
  have hnl := ha.next.le
  clear ha hs ht
  by_cases h : a.err = 0
  · have h' : (a.err != 0) = false := by simp [h]
    have H := Lib.hid h
    clear h
    rcases st_cases H.out s t with ⟨h1, h2⟩ | ⟨h1, h3, h2⟩ | ⟨h1, h3, h4, h2⟩ | ⟨h1, h3, h4, h5, h2⟩ | ⟨h1, h3, h4, h5, h2⟩
    · have H2 := Lib.hid h2
      clear h2
      go_enter Try.func35, Try.ntmps35
      go_wp2_with fail
      refine (HV.out).mono ?_
      rintro e w1 ⟨rfl, hb1⟩
      have hB1 : Below (w.heap.size + 1) (w.alloc (maO a an acn ao aco)) w1 := hb1.mono (by simp)
      have hBf := h0.trans (hB1.mono (by omega))
      obtain ⟨j0, j1, j2, j3⟩ := hCa.below hB1 (by omega)
      clear HV hb1
      go_wp2
      go_ret3
      refine ⟨none, 0, [], false, ret3_int H2.out.symm, ?_, Sl.nil _ _ _ (by unfold maxLen; omega), hBf⟩
      unfold Hid stW; rw [if_neg (by rw [H2.out]; decide)]; exact ⟨rfl, rfl⟩
    · have H2 := Lib.hid h2
      clear h2
      go_enter Try.func35, Try.ntmps35
      go_wp2_with fail
      refine (HV.out).mono ?_
      rintro e w1 ⟨rfl, hb1⟩
      have hB1 : Below (w.heap.size + 1) (w.alloc (maO a an acn ao aco)) w1 := hb1.mono (by simp)
      have hBf := h0.trans (hB1.mono (by omega))
      obtain ⟨j0, j1, j2, j3⟩ := hCa.below hB1 (by omega)
      clear HV hb1
      go_wp2
      go_ret3
      refine ⟨none, 0, [], false, ret3_int H2.out.symm, ?_, Sl.nil _ _ _ (by unfold maxLen; omega), hBf⟩
      unfold Hid stW; rw [if_neg (by rw [H2.out]; decide)]; exact ⟨rfl, rfl⟩
    · have H2 := Lib.hid h2
      clear h2
      go_enter Try.func35, Try.ntmps35
      go_wp2_with fail
      refine (HV.out).mono ?_
      rintro e w1 ⟨rfl, hb1⟩
      have hB1 : Below (w.heap.size + 1) (w.alloc (maO a an acn ao aco)) w1 := hb1.mono (by simp)
      have hBf := h0.trans (hB1.mono (by omega))
      obtain ⟨j0, j1, j2, j3⟩ := hCa.below hB1 (by omega)
      clear HV hb1
      go_wp2
      go_ret3
      refine ⟨none, 0, [], false, ret3_int H2.out.symm, ?_, Sl.nil _ _ _ (by unfold maxLen; omega), hBf⟩
      unfold Hid stW; rw [if_neg (by rw [H2.out]; decide)]; exact ⟨rfl, rfl⟩
    · have H2 := Lib.hid h2
      clear h2
      go_enter Try.func35, Try.ntmps35
      go_wp2_with fail
      refine (HV.out).mono ?_
      rintro e w1 ⟨rfl, hb1⟩
      have hB1 : Below (w.heap.size + 1) (w.alloc (maO a an acn ao aco)) w1 := hb1.mono (by simp)
      have hBf := h0.trans (hB1.mono (by omega))
      obtain ⟨j0, j1, j2, j3⟩ := hCa.below hB1 (by omega)
      clear HV hb1
      go_wp2
      go_ret3
      refine ⟨none, 0, [], false, ret3_int H2.out.symm, ?_, Sl.nil _ _ _ (by unfold maxLen; omega), hBf⟩
      unfold Hid stW; rw [if_neg (by rw [H2.out]; decide)]; exact ⟨rfl, rfl⟩
    · have H2 := Lib.hid h2
      clear h2
      go_enter Try.func35, Try.ntmps35
      go_wp2_with fail
      refine (HV.out).mono ?_
      rintro e w1 ⟨rfl, hb1⟩
      have hz1 : w.heap.size + 1 ≤ w1.heap.size := by have := hb1.size; simpa using this
      have hB1 : Below (w.heap.size + 1) (w.alloc (maO a an acn ao aco)) w1 := hb1.mono (by simp)
      obtain ⟨j0, j1, j2, j3⟩ := hCa.below hB1 (by omega)
      have HS := Lib.hid (searchI (HA.out.below (by simpa using hb1)) (HA.out.below (by simpa using hb1)) H.out H.out rfl s t (by omega) (by omega) (by omega) (by omega))
      clear HV hb1
      go_wp2_with fail
      refine (HS.out).mono ?_
      rintro e w2 ⟨ad, c, l, f, rfl, hans, hsl, hb2⟩
      have hBf := (h0.trans (hB1.mono (by omega))).trans (hb2.mono (by omega))
      have hS2 := hsl.anti (M' := fun k => k < w.heap.size) (fun k _ hk => by omega)
      clear HS
      go_wp2
      go_ret3
      refine ⟨ad, c, l, f, ret3_int H2.out.symm, ?_, hS2, hBf⟩
      unfold Hid stW; rw [if_pos H2.out]; exact hans.out
  · have h' : (a.err != 0) = true := by simp [h]
    have H2 := Lib.hid (st_err (s := s) (t := t) h)
    have H := Lib.hid h
    clear h
    go_enter Try.func35, Try.ntmps35
    go_wp2_with fail
    refine (HV.out).mono ?_
    rintro e w1 ⟨rfl, hb1⟩
    have hB1 : Below (w.heap.size + 1) (w.alloc (maO a an acn ao aco)) w1 := hb1.mono (by simp)
    have hBf := h0.trans (hB1.mono (by omega))
    clear HV hb1
    go_wp2
    go_ret3
    refine ⟨none, 0, [], false, ret3_int H2.out.symm, ?_, Sl.nil _ _ _ (by unfold maxLen; omega), hBf⟩
    unfold Hid stW; rw [if_neg (by rw [H2.out]; exact H.out)]; exact ⟨rfl, rfl⟩
set_option maxRecDepth 100000 in
set_option maxHeartbeats 4000000 in
theorem statesR_any (ha : Ma M w an acn ao aco a) (s t : Int) (hs : i64 s) (ht : i64 t) :
    Calls Try.prog 36 #[maV a an acn ao aco, .int .i64 s, .int .i64 t] w fun e w' => ∃ ad c l f, e = .returned (.tuple #[.slice ad l.length c, .bool f, .int .i64 (stErr a s t)]) ∧ Hid (ansW (stW a s t) l f) ∧ Sl (fun k => k < w.heap.size) w' ad c l ∧ Below w.heap.size w w' := by
  have HA := Lib.hid (ha.ext (Ext.alloc M w (maO a an acn ao aco)))
  have h0 : Below w.heap.size w (w.alloc (maO a an acn ao aco)) := (Below.refl _ _).alloc (Nat.le_refl _) _
  have hCa : C4 (w.alloc (maO a an acn ao aco)) w.heap.size an acn ao aco a := c4_new w
  have HV := Lib.hid (valid6_any HA.out)
  have HS64 := Lib.hid (And.intro hs ht)
  have hnl := ha.next.le
  clear ha hs ht
  by_cases h : a.err = 0
  · have h' : (a.err != 0) = false := by simp [h]
    have H := Lib.hid h
    clear h
    rcases st_cases H.out s t with ⟨h1, h2⟩ | ⟨h1, h3, h2⟩ | ⟨h1, h3, h4, h2⟩ | ⟨h1, h3, h4, h5, h2⟩ | ⟨h1, h3, h4, h5, h2⟩
    · have H2 := Lib.hid h2
      clear h2
      go_enter Try.func36, Try.ntmps36
      go_wp2_with fail
      refine (HV.out).mono ?_
      rintro e w1 ⟨rfl, hb1⟩
      have hB1 : Below (w.heap.size + 1) (w.alloc (maO a an acn ao aco)) w1 := hb1.mono (by simp)
      have hBf := h0.trans (hB1.mono (by omega))
      obtain ⟨j0, j1, j2, j3⟩ := hCa.below hB1 (by omega)
      clear HV hb1
      go_wp2
      go_ret3
      refine ⟨none, 0, [], false, ret3_int H2.out.symm, ?_, Sl.nil _ _ _ (by unfold maxLen; omega), hBf⟩
      unfold Hid stW; rw [if_neg (by rw [H2.out]; decide)]; exact ⟨rfl, rfl⟩
    · have H2 := Lib.hid h2
      clear h2
      go_enter Try.func36, Try.ntmps36
      go_wp2_with fail
      refine (HV.out).mono ?_
      rintro e w1 ⟨rfl, hb1⟩
      have hB1 : Below (w.heap.size + 1) (w.alloc (maO a an acn ao aco)) w1 := hb1.mono (by simp)
      have hBf := h0.trans (hB1.mono (by omega))
      obtain ⟨j0, j1, j2, j3⟩ := hCa.below hB1 (by omega)
      clear HV hb1
      go_wp2
      go_ret3
      refine ⟨none, 0, [], false, ret3_int H2.out.symm, ?_, Sl.nil _ _ _ (by unfold maxLen; omega), hBf⟩
      unfold Hid stW; rw [if_neg (by rw [H2.out]; decide)]; exact ⟨rfl, rfl⟩
    · have H2 := Lib.hid h2
      clear h2
      go_enter Try.func36, Try.ntmps36
      go_wp2_with fail
      refine (HV.out).mono ?_
      rintro e w1 ⟨rfl, hb1⟩
      have hB1 : Below (w.heap.size + 1) (w.alloc (maO a an acn ao aco)) w1 := hb1.mono (by simp)
      have hBf := h0.trans (hB1.mono (by omega))
      obtain ⟨j0, j1, j2, j3⟩ := hCa.below hB1 (by omega)
      clear HV hb1
      go_wp2
      go_ret3
      refine ⟨none, 0, [], false, ret3_int H2.out.symm, ?_, Sl.nil _ _ _ (by unfold maxLen; omega), hBf⟩
      unfold Hid stW; rw [if_neg (by rw [H2.out]; decide)]; exact ⟨rfl, rfl⟩
    · have H2 := Lib.hid h2
      clear h2
      go_enter Try.func36, Try.ntmps36
      go_wp2_with fail
      refine (HV.out).mono ?_
      rintro e w1 ⟨rfl, hb1⟩
      have hB1 : Below (w.heap.size + 1) (w.alloc (maO a an acn ao aco)) w1 := hb1.mono (by simp)
      have hBf := h0.trans (hB1.mono (by omega))
      obtain ⟨j0, j1, j2, j3⟩ := hCa.below hB1 (by omega)
      clear HV hb1
      go_wp2
      go_ret3
      refine ⟨none, 0, [], false, ret3_int H2.out.symm, ?_, Sl.nil _ _ _ (by unfold maxLen; omega), hBf⟩
      unfold Hid stW; rw [if_neg (by rw [H2.out]; decide)]; exact ⟨rfl, rfl⟩
    · have H2 := Lib.hid h2
      clear h2
      go_enter Try.func36, Try.ntmps36
      go_wp2_with fail
      refine (HV.out).mono ?_
      rintro e w1 ⟨rfl, hb1⟩
      have hz1 : w.heap.size + 1 ≤ w1.heap.size := by have := hb1.size; simpa using this
      have hB1 : Below (w.heap.size + 1) (w.alloc (maO a an acn ao aco)) w1 := hb1.mono (by simp)
      obtain ⟨j0, j1, j2, j3⟩ := hCa.below hB1 (by omega)
      have HS := Lib.hid (firstRI (HA.out.below (by simpa using hb1)) (HA.out.below (by simpa using hb1)) H.out H.out rfl s t (by omega) (by omega) (by omega) (by omega))
      clear HV hb1
      go_wp2_with fail
      refine (HS.out).mono ?_
      rintro e w2 ⟨ad, c, l, f, rfl, hans, hsl, hb2⟩
      have hBf := (h0.trans (hB1.mono (by omega))).trans (hb2.mono (by omega))
      have hS2 := hsl.anti (M' := fun k => k < w.heap.size) (fun k _ hk => by omega)
      clear HS
      go_wp2
      go_ret3
      refine ⟨ad, c, l, f, ret3_int H2.out.symm, ?_, hS2, hBf⟩
      unfold Hid stW; rw [if_pos H2.out]; exact hans.out
  · have h' : (a.err != 0) = true := by simp [h]
    have H2 := Lib.hid (st_err (s := s) (t := t) h)
    have H := Lib.hid h
    clear h
    go_enter Try.func36, Try.ntmps36
    go_wp2_with fail
    refine (HV.out).mono ?_
    rintro e w1 ⟨rfl, hb1⟩
    have hB1 : Below (w.heap.size + 1) (w.alloc (maO a an acn ao aco)) w1 := hb1.mono (by simp)
    have hBf := h0.trans (hB1.mono (by omega))
    clear HV hb1
    go_wp2
    go_ret3
    refine ⟨none, 0, [], false, ret3_int H2.out.symm, ?_, Sl.nil _ _ _ (by unfold maxLen; omega), hBf⟩
    unfold Hid stW; rw [if_neg (by rw [H2.out]; exact H.out)]; exact ⟨rfl, rfl⟩
end
end Go.Proofs.Ytdnmgiabgpilkaa
/- The reference's has and Reach. No condition beyond that the fields read as lists of lists. -/
namespace Go.Proofs.Ytdnmgiabgpilkaa
open Go.RowKit
section
variable {M : Nat → Prop} {w : World} {an ao : Option Addr} {cn co : Nat} {m : Mach}

theorem has_yes {a : Option Addr} {c : Nat} {l : List Int} (h : Sl M w a c l) (x : Int) (hx : x ∈ l) :
    Calls Try.prog 59 #[.slice a l.length c, .int .i64 x] w fun e w' => e = .returned (.bool true) ∧ w' = w := by
  have hl := h.le
  have HX := Lib.hid hx
  clear hx
  go_enter Try.func59, Try.ntmps59
  go_wp2
  go_loop [5] (fun i => ∃ k : Nat, k ≤ l.length ∧ i = .int .i64 k ∧ Hid (¬ x ∈ l.take k)) (fun i => l.length - (intOf i).toNat)
  case atStart => exact ⟨0, by omega, rfl, by unfold Hid; simp⟩
  case round =>
    obtain ⟨k, hk, rfl, hn⟩ := hrel
    have hlt : k < l.length := by
      by_cases e : k < l.length
      · exact e
      · have := hn.out; rw [List.take_of_length_le (by omega)] at this; exact absurd HX.out this
    obtain ⟨b, off, y, rfl, hc, hy, -⟩ := h.at_int hlt
    by_cases hxy : y = x
    · have hb : (y == x) = true := by simp [hxy]
      clear hxy
      go_wp2
      go_ret
      exact ⟨rfl, rfl⟩
    · have hb : (y == x) = false := by simp [hxy]
      have hn2 : Hid (¬ x ∈ l.take (k + 1)) := by
        unfold Hid; rw [List.take_add_one, hy.out]; simp only [Option.toList_some, List.mem_append, List.mem_singleton]
        rintro (h1 | h1)
        · exact hn.out h1
        · exact hxy h1.symm
      clear hxy
      go_wp2
      go_round
      case rel => exact ⟨k + 1, by omega, by go_num, hn2⟩
      case measure => simp [intOf]; omega

theorem has_no {a : Option Addr} {c : Nat} {l : List Int} (h : Sl M w a c l) (x : Int) (hx : ¬ x ∈ l) :
    Calls Try.prog 59 #[.slice a l.length c, .int .i64 x] w fun e w' => e = .returned (.bool false) ∧ w' = w := by
  have hl := h.le
  have HX := Lib.hid hx
  clear hx
  go_enter Try.func59, Try.ntmps59
  go_wp2
  go_loop [5] (fun i => ∃ k : Nat, k ≤ l.length ∧ i = .int .i64 k) (fun i => l.length - (intOf i).toNat)
  case atStart => exact ⟨0, by omega, rfl⟩
  case round =>
    obtain ⟨k, hk, rfl⟩ := hrel
    by_cases hlt : k < l.length
    · obtain ⟨b, off, y, rfl, hc, hy, -⟩ := h.at_int hlt
      have hb : (y == x) = false := by
        by_cases hxy : y = x
        · exact absurd (hxy ▸ List.mem_of_getElem? hy.out) HX.out
        · simp [hxy]
      go_wp2
      go_round
      case rel => exact ⟨k + 1, by omega, by go_num⟩
      case measure => simp [intOf]; omega
    · go_wp2
      go_ret
      exact ⟨rfl, rfl⟩

set_option maxRecDepth 100000 in
set_option maxHeartbeats 4000000 in
theorem reachR_any (hm : Ma M w an cn ao co m) :
    Calls Try.prog 42 #[maV m an cn ao co] w fun e w' =>
      ∃ a c l, e = .returned (.slice a l.length c) ∧ Hid (l = m.reachOf) ∧ Sl (fun k => k < w.heap.size) w' a c l ∧ Below w.heap.size w w' := by
  have HM := Lib.hid hm
  have HV := Lib.hid (valid6_any (hm.ext (Ext.alloc M w (maO m an cn ao co))))
  have h0 : Below w.heap.size w (w.alloc (maO m an cn ao co)) := (Below.refl _ _).alloc (Nat.le_refl _) _
  have hC : C4 (w.alloc (maO m an cn ao co)) w.heap.size an cn ao co m := c4_new w
  have hsi := hm.start
  clear hm
  by_cases he : m.err = 0
  · have OK := Lib.hid (m.ok_of_err he)
    have he' : (m.err != 0) = false := by simp [he]
    have n1 := OK.out.n1
    have i0 := OK.out.i0
    have i1 := OK.out.i1
    have HE := Lib.hid he
    obtain ⟨bn, on, bo, oo, rfl, rfl⟩ := HM.out.addr OK.out
    clear he
    go_enter Try.func42, Try.ntmps42
    go_wp2_with fail
    refine (HV.out).mono ?_
    rintro e w1 ⟨rfl, hb1⟩
    have hz1 : w.heap.size + 1 ≤ w1.heap.size := by have := hb1.size; simpa using this
    have hB1 : Below (w.heap.size + 1) (w.alloc (maO m (some ⟨bn, on, none⟩) cn (some ⟨bo, oo, none⟩) co)) w1 := hb1.mono (by simp)
    obtain ⟨j0, j1, j2, j3⟩ := hC.below hB1 (by omega)
    clear hb1 HV
    go_wp2
    have hO0 : Ow w1.heap.size (fun _ => True) (w1.alloc (.cells #[.int .i64 m.start] 3)) 3 (.slice (some ⟨w1.heap.size, 0, none⟩) 1 1) [m.start] := Ow.one hsi (Nat.le_refl _)
    have hB0 := hB1.alloc hz1 (.cells #[.int .i64 m.start] 3)
    clear j0 j1 j2 j3
    go_loopw [3, 4] (fun v i wr => ∃ (k : Nat) (a' : Option Addr) (c' : Nat) (l : List Int), k ≤ m.next.length ∧ i = .int .i64 k ∧ v = .slice a' l.length c' ∧ Hid (l = m.bfs k) ∧ Ow w1.heap.size (fun _ => True) wr 3 (.slice a' l.length c') l ∧
      Below (w.heap.size + 1) (w.alloc (maO m (some ⟨bn, on, none⟩) cn (some ⟨bo, oo, none⟩) co)) wr) (fun _ i _ => m.next.length - (intOf i).toNat)
    case atStart => exact ⟨0, _, _, [m.start], by omega, rfl, rfl, rfl, hO0, hB0⟩
    case round =>
      clear hO0 hB0
      obtain ⟨k, a', c', l, hk, rfl, rfl, hl, hO, hB⟩ := hrel
      obtain ⟨w2, rfl⟩ : ∃ w2 : World, w2 = wr := ⟨_, rfl⟩
      have hll : l.length ≤ m.next.length := by rw [hl.out]; exact Mach.bfs_le OK.out k
      by_cases hlt : k < l.length
      · obtain ⟨x0, hx0⟩ : ∃ x, l[k]? = some x := ⟨_, List.getElem?_eq_getElem hlt⟩
        have HX := Lib.hid hx0
        have hxr := (Mach.bfs_props OK.out k).2.1 x0 (by rw [← hl.out]; exact List.mem_of_getElem? hx0)
        clear hx0
        obtain ⟨x, rfl⟩ := Int.eq_ofNat_of_zero_le hxr.1
        have hxn : x < m.next.length := by omega
        obtain ⟨r1, hr1⟩ : ∃ r, m.next[x]? = some r := ⟨_, List.getElem?_eq_getElem hxn⟩
        have HR := Lib.hid hr1
        have e1 : Hid (r1.length = m.inputs.toNat) := by have := OK.out.rn x hxn; rw [getD_of_some hr1] at this; unfold Hid; omega
        clear hr1
        go_wp2
        go_loopw [3, 5] (fun v i wr => ∃ (j : Nat) (a2 : Option Addr) (c2 : Nat) (l2 : List Int), j ≤ m.inputs.toNat ∧ i = .int .i64 j ∧ v = .slice a2 l2.length c2 ∧ Hid (l2 = visit l (r1.take j)) ∧ Ow w1.heap.size (fun _ => True) wr 3 (.slice a2 l2.length c2) l2 ∧
          Below (w.heap.size + 1) (w.alloc (maO m (some ⟨bn, on, none⟩) cn (some ⟨bo, oo, none⟩) co)) wr) (fun _ i _ => m.inputs.toNat - (intOf i).toNat)
        case atStart => exact ⟨0, _, _, l, by omega, rfl, rfl, rfl, hO, hB⟩
        case round =>
          clear hO hB
          obtain ⟨j, a2, c2, l2, hj, rfl, rfl, hl2, hO, hB⟩ := hrel
          obtain ⟨w3, rfl⟩ : ∃ w3 : World, w3 = wr := ⟨_, rfl⟩
          have hl2n : l2.length ≤ m.next.length := by
            have h1 := Mach.bfs_props OK.out k
            refine nodup_le _ _ (by rw [hl2.out, hl.out]; exact visit_nodup _ _ h1.1) (fun z hz => ?_)
            rw [hl2.out, hl.out, visit_mem] at hz
            rcases hz with hz | hz
            · exact h1.2.1 z hz
            · exact Mach.row_range OK.out hxn (by rw [getD_of_some HR.out]; exact List.mem_of_mem_take hz)
          obtain ⟨sfx, hsfx⟩ := visit_prefix (r1.take j) l
          have hx2 : Hid (l2[k]? = some (x : Int)) := by unfold Hid; rw [hl2.out, hsfx, List.getElem?_append_left hlt]; exact HX.out
          have hkl2 : k < l2.length := by rw [hl2.out, hsfx, List.length_append]; omega
          clear hsfx
          obtain ⟨j0, j1, j2, j3⟩ := hC.below hB (by omega)
          by_cases hlj : j < m.inputs.toNat
          · have hlj3 : (j : Int) < m.inputs := by omega
            obtain ⟨b1, o1, c1, l1, b3, o3, c3, l3, t, y, e1', e2', e3', e4', e5', -, -, e8', -, e10', -, e12', -⟩ := (HM.out.below (h0.trans (hB.mono (by omega)))).atS OK.out hxn hlj
            have ht0 : Hid (r1[j]? = some (t : Int)) := by
              have h1 := e8'.out
              unfold Mach.nx at h1
              rw [getD_of_some HR.out] at h1
              have h2 : j < r1.length := by rw [e1.out]; exact hlj
              rw [List.getD_eq_getElem?_getD, List.getElem?_eq_getElem h2] at h1
              unfold Hid
              rw [List.getElem?_eq_getElem h2]
              simpa using h1
            have htk : Hid (visit l (r1.take (j + 1)) = if (t : Int) ∈ l2 then l2 else l2 ++ [(t : Int)]) := by
              unfold Hid
              rw [List.take_add_one, ht0.out]
              simp only [Option.toList_some]
              rw [visit_snoc, ← hl2.out]
            obtain ⟨gq, x9, ha2, hq0, hqf, hx9, -⟩ := hO.at_int hkl2
            subst ha2
            obtain rfl : (x : Int) = x9 := by have h1 := hx9.out; rw [hx2.out] at h1; simpa using h1
            have hSo := (hO.anyM (M' := fun _ => False)).toSl (fun _ _ h => h)
            have hxo : k < l2.length := hkl2
            by_cases hin : (t : Int) ∈ l2
            · have HIN := Lib.hid hin
              have htk2 : Hid (visit l (r1.take (j + 1)) = l2) := by unfold Hid; rw [htk.out, if_pos hin]
              clear hin
              go_wp2
              refine wp_quiet_fast (by kernel_rfl) (by kernel_rfl) ?_
              repeat (first | go_big_quiet_step ((go_at_call 59; exact Calls.quiet_of_same (has_yes (hSo.drewN _) _ HIN.out))) | quiet_step ((go_at_call 59; exact Calls.quiet_of_same (has_yes (hSo.drewN _) _ HIN.out))))
              refine wpQuiet_nil ?_
              intro _ hw'
              obtain ⟨nq, hw''⟩ := hw'
              subst hw''
              go_wp2
              go_roundw
              case rel => exact ⟨j + 1, _, _, l2, by omega, by go_num, rfl, htk2.out.symm, hO.drewN _, bl_drewN hB _⟩
              case measure => simp [intOf]; omega
            · have HIN := Lib.hid hin
              have htk2 : Hid (visit l (r1.take (j + 1)) = l2 ++ [(t : Int)]) := by unfold Hid; rw [htk.out, if_neg hin]
              clear hin
              go_wp2
              refine wp_quiet_fast (by kernel_rfl) (by kernel_rfl) ?_
              repeat (first | go_big_quiet_step ((go_at_call 59; exact Calls.quiet_of_same (has_no (hSo.drewN _) _ HIN.out))) | quiet_step ((go_at_call 59; exact Calls.quiet_of_same (has_no (hSo.drewN _) _ HIN.out))))
              refine wpQuiet_nil ?_
              intro _ hw'
              obtain ⟨nq, hw''⟩ := hw'
              subst hw''
              have hOd : Ow w1.heap.size (fun _ => True) (w3.drewN nq) 3 (.slice (some ⟨gq, 0, none⟩) l2.length c2) l2 := hO.drewN nq
              have hBd := bl_drewN hB nq
              have hS0 : (w3.drewN nq).cell? ⟨w.heap.size, 2, none⟩ = some (.slice (some ⟨bn, on, none⟩) m.next.length cn) ∧ (w3.drewN nq).cell? ⟨gq, k, none⟩ = some (.int .i64 (x : Int)) ∧ (w3.drewN nq).cell? ⟨bn, on + x, none⟩ = some (.slice (some ⟨b1, o1, none⟩) l1 c1) ∧ (w3.drewN nq).cell? ⟨b1, o1 + j, none⟩ = some (.int .i64 (t : Int)) :=
                ⟨by simpa using j2, by simpa using hq0, by simpa using e1', by simpa using e3'⟩
              clear hO hB j0 j1 j2 j3 hq0 hqf e1' e2' e3' e4' hSo
              generalize w3.drewN nq = w4 at *
              go_wp2
              refine wp_region_T (fun w' => w'.cell? ⟨w.heap.size, 2, none⟩ = some (.slice (some ⟨bn, on, none⟩) m.next.length cn) ∧ w'.cell? ⟨gq, k, none⟩ = some (.int .i64 (x : Int)) ∧ w'.cell? ⟨bn, on + x, none⟩ = some (.slice (some ⟨b1, o1, none⟩) l1 c1) ∧ w'.cell? ⟨b1, o1 + j, none⟩ = some (.int .i64 (t : Int))) [0, 1, 2, 3, 4, 5, 6, 7, 8, 9, 10, 11] (by kernel_rfl) ?_
              have hSS : w4.drew.cell? ⟨w.heap.size, 2, none⟩ = some (.slice (some ⟨bn, on, none⟩) m.next.length cn) ∧ w4.drew.cell? ⟨gq, k, none⟩ = some (.int .i64 (x : Int)) ∧ w4.drew.cell? ⟨bn, on + x, none⟩ = some (.slice (some ⟨b1, o1, none⟩) l1 c1) ∧ w4.drew.cell? ⟨b1, o1 + j, none⟩ = some (.int .i64 (t : Int)) := by simpa using hS0
              have hO5 := hOd.drew
              have hB5 := hBd.drew
              clear hS0 hOd hBd
              generalize w4.drew = w5 at *
              have hz5 : w1.heap.size ≤ w5.heap.size := by have := (hO5.lt gq rfl); omega
              refine wpAnyT_take (i := 0) (v := ?v14) rfl (by kernel_rfl) (by kernel_rfl) (by kernel_rfl) (by kernel_rfl) (by kernel_rfl) (fun _ _ _ h => h) (Or.inl ⟨by rfl, ?y14⟩) (by assumption) ?r14
              case y14 => (intro w' hSw; (try dsimp only at hSw); go_simp; try with_reducible rfl)
              try simp only [Act.put, List.setIfInBounds_toArray, List.set_cons_zero, List.set_cons_succ]
              refine wpAnyT_take (i := 1) (v := ?v15) rfl (by kernel_rfl) (by kernel_rfl) (by kernel_rfl) (by kernel_rfl) (by kernel_rfl) (fun _ _ _ h => h) (Or.inl ⟨by rfl, ?y15⟩) (by assumption) ?r15
              case y15 => (intro w' hSw; (try dsimp only at hSw); go_simp; try with_reducible rfl)
              try simp only [Act.put, List.setIfInBounds_toArray, List.set_cons_zero, List.set_cons_succ]
              refine wpAnyT_take (i := 2) (v := ?v16) rfl (by kernel_rfl) (by kernel_rfl) (by kernel_rfl) (by kernel_rfl) (by kernel_rfl) (fun _ _ _ h => h) (Or.inl ⟨by rfl, ?y16⟩) (by assumption) ?r16
              case y16 => (intro w' hSw; (try dsimp only at hSw); go_simp; try with_reducible rfl)
              try simp only [Act.put, List.setIfInBounds_toArray, List.set_cons_zero, List.set_cons_succ]
              refine wpAnyT_take (i := 3) (v := ?v17) rfl (by kernel_rfl) (by kernel_rfl) (by kernel_rfl) (by kernel_rfl) (by kernel_rfl) (fun _ _ _ h => h) (Or.inl ⟨by rfl, ?y17⟩) (by assumption) ?r17
              case y17 => (intro w' hSw; (try dsimp only at hSw); go_simp; try with_reducible rfl)
              try simp only [Act.put, List.setIfInBounds_toArray, List.set_cons_zero, List.set_cons_succ]
              refine wpAnyT_take (i := 4) (v := ?v18) rfl (by kernel_rfl) (by kernel_rfl) (by kernel_rfl) (by kernel_rfl) (by kernel_rfl) (fun _ _ _ h => h) (Or.inl ⟨by rfl, ?y18⟩) (by assumption) ?r18
              case y18 => (intro w' hSw; (try dsimp only at hSw); go_simp; try with_reducible rfl)
              try simp only [Act.put, List.setIfInBounds_toArray, List.set_cons_zero, List.set_cons_succ]
              refine wpAnyT_take (i := 5) (v := ?v19) rfl (by kernel_rfl) (by kernel_rfl) (by kernel_rfl) (by kernel_rfl) (by kernel_rfl) (fun _ _ _ h => h) (Or.inl ⟨by rfl, ?y19⟩) (by assumption) ?r19
              case y19 => (intro w' hSw; (try dsimp only at hSw); go_simp; try with_reducible rfl)
              try simp only [Act.put, List.setIfInBounds_toArray, List.set_cons_zero, List.set_cons_succ]
              refine wpAnyT_take (i := 6) (v := ?v20) rfl (by kernel_rfl) (by kernel_rfl) (by kernel_rfl) (by kernel_rfl) (by kernel_rfl) (fun _ _ _ h => h) (Or.inl ⟨by rfl, ?y20⟩) (by assumption) ?r20
              case y20 => (intro w' hSw; (try dsimp only at hSw); go_simp; try with_reducible rfl)
              try simp only [Act.put, List.setIfInBounds_toArray, List.set_cons_zero, List.set_cons_succ]
              refine wpAnyT_take (i := 7) (v := ?v21) rfl (by kernel_rfl) (by kernel_rfl) (by kernel_rfl) (by kernel_rfl) (by kernel_rfl) (fun _ _ _ h => h) (Or.inl ⟨by rfl, ?y21⟩) (by assumption) ?r21
              case y21 => (intro w' hSw; (try dsimp only at hSw); go_simp; try with_reducible rfl)
              try simp only [Act.put, List.setIfInBounds_toArray, List.set_cons_zero, List.set_cons_succ]
              refine wpAnyT_take (i := 8) (v := ?v22) rfl (by kernel_rfl) (by kernel_rfl) (by kernel_rfl) (by kernel_rfl) (by kernel_rfl) (fun _ _ _ h => h) (Or.inl ⟨by rfl, ?y22⟩) (by assumption) ?r22
              case y22 => (intro w' hSw; (try dsimp only at hSw); go_simp; try with_reducible rfl)
              try simp only [Act.put, List.setIfInBounds_toArray, List.set_cons_zero, List.set_cons_succ]
              refine wpAnyT_take (i := 9) (v := ?v23) rfl (by kernel_rfl) (by kernel_rfl) (by kernel_rfl) (by kernel_rfl) (by kernel_rfl) (fun _ _ _ h => h) (Or.inl ⟨by rfl, ?y23⟩) (by assumption) ?r23
              case y23 => (intro w' hSw; (try dsimp only at hSw); go_simp; try with_reducible rfl)
              try simp only [Act.put, List.setIfInBounds_toArray, List.set_cons_zero, List.set_cons_succ]
              refine wpAnyT_take (i := 10) (v := ?v24) rfl (by kernel_rfl) (by kernel_rfl) (by kernel_rfl) (by kernel_rfl) (by kernel_rfl) (fun _ _ _ h => h) (Or.inl ⟨by rfl, ?y24⟩) (by assumption) ?r24
              case y24 => (intro w' hSw; (try dsimp only at hSw); go_simp; try with_reducible rfl)
              try simp only [Act.put, List.setIfInBounds_toArray, List.set_cons_zero, List.set_cons_succ]
              refine wpAnyT_take (i := 11) (v := ?v25) rfl (by kernel_rfl) (by kernel_rfl) (by kernel_rfl) (by kernel_rfl) (by kernel_rfl) (fun _ _ _ h => h) (Or.inl ⟨by rfl, ?y25⟩) (by assumption) ?r25
              case y25 => (intro w' hSw; (try dsimp only at hSw); go_simp; try with_reducible rfl)
              try simp only [Act.put, List.setIfInBounds_toArray, List.set_cons_zero, List.set_cons_succ]
              have hal : ∀ p : Addr, p.block < w5.heap.size → (w5.alloc (.cells #[.int .i64 (t : Int)] 3)).cell? p = w5.cell? p := fun p hp => ((Below.refl _ _).alloc (Nat.le_refl _) _).cell hp
              have hk1 := lt_of_cell hSS.2.1
              have hk2 := lt_of_cell hSS.2.2.1
              have hk3 := lt_of_cell hSS.2.2.2
              refine wpAnyT_one (i := 12) (by kernel_rfl) rfl rfl (fun K hK => ?_)
              go_simp
              refine hK _ _ (fun _ => ⟨(hal _ (show w.heap.size < w5.heap.size by omega)).trans hSS.1, (hal _ hk1).trans hSS.2.1, (hal _ hk2).trans hSS.2.2.1, (hal _ hk3).trans hSS.2.2.2⟩) ?_
              clear hK K hal hk1 hk2 hk3
              have hO6 := hO5.alloc (.cells #[.int .i64 (t : Int)] 3)
              have hB6 := hB5.alloc (by omega) (.cells #[.int .i64 (t : Int)] 3)
              clear hSS hO5 hB5
              refine wpAnyT_late (i := 13) (by kernel_rfl) (by kernel_rfl) rfl rfl (fun K hK => ?_)
              refine wp_push_o (B := w1.heap.size) (M := fun _ => True) (v := .slice (some ⟨gq, 0, none⟩) l2.length c2) (l := l2) (y := (t : Int)) rfl Try.underlying27 info_int rfl rfl hO6 (by simp [go_sem]) (by unfold i64; omega) (by omega) (by simp; omega) ?_
              intro a7 c7 l7 w7 hl7 hO7 hbk7 hgr7
              have hB7 := hB6.grown hgr7 (by simp; omega) (fun q hq => by have := (hO6.lt q hq).1; omega)
              refine hK _ _ ?_
              clear hK K hgr7 hbk7 hO6 hB6
              refine wpAnyT_late (i := 14) (by kernel_rfl) (by kernel_rfl) rfl rfl (fun K hK => ?_)
              go_simp
              refine hK _ _ ?_
              clear hK K
              refine wpAnyT_done (by kernel_rfl) ?_ _
              go_wp2
              go_roundw
              case rel => exact ⟨j + 1, a7, c7, l7, by omega, by go_num, rfl, by unfold Hid; rw [hl7.out, htk2.out], hO7, hB7⟩
              case measure => simp [intOf]; omega
          · go_wp2
            go_roundw
            case rel =>
              refine ⟨k + 1, a2, c2, l2, by omega, by go_num, rfl, ?_, hO, hB⟩
              unfold Hid
              have hx0' := HX.out
              rw [hl.out] at hx0'
              rw [Mach.bfs_succ, if_pos (by rw [← hl.out]; exact hlt), getD_of_some hx0', Int.toNat_natCast, getD_of_some HR.out, hl2.out, List.take_of_length_le (by rw [e1.out]; omega), hl.out]
            case measure => simp [intOf]; omega
      · have hst : Hid (l = m.reachOf) := by
          unfold Hid Mach.reachOf
          rw [if_pos HE.out, Mach.reach_of_stop (i := k) (by rw [← hl.out]; exact hlt) hk, ← hl.out]
        have hBf := h0.trans (hB.mono (by omega))
        have hf : Sl (fun k => k < w.heap.size) w2 a' c' l := hO.fresh (by omega)
        go_wp2
        go_ret
        exact ⟨a', c', l, rfl, hst, hf, hBf⟩
  · have he' : (m.err != 0) = true := by simp [he]
    have HE := Lib.hid he
    clear he
    go_enter Try.func42, Try.ntmps42
    go_wp2_with fail
    refine (HV.out).mono ?_
    rintro e w1 ⟨rfl, hb1⟩
    have hBf := h0.trans (hb1.mono (by simp))
    go_wp2
    go_ret
    exact ⟨none, 0, [], rfl, by unfold Hid Mach.reachOf; rw [if_neg HE.out], Sl.nil _ _ _ (by unfold maxLen; omega), hBf⟩
end
end Go.Proofs.Ytdnmgiabgpilkaa
/- The plain words for Iso: the list that maps states by their places in the breadth-first lists. Condition where named: the machine is valid. -/
namespace Go.Proofs.Ytdnmgiabgpilkaa

/-- The list of images after k places. -/
def fillL (x y : List Int) : Nat → List Int
  | 0 => List.replicate x.length 0
  | k + 1 => (fillL x y k).set (x.getD k 0).toNat (y.getD k 0)
theorem fillL_len (x y : List Int) : ∀ k, (fillL x y k).length = x.length
  | 0 => by simp [fillL]
  | k + 1 => by simp [fillL, fillL_len x y k]
theorem fillL_range {x y : List Int} {n : Nat} (hn : 0 < n) (hy : ∀ z ∈ y, 0 ≤ z ∧ z < n) (hl : x.length = y.length) : ∀ k, k ≤ x.length → ∀ z ∈ fillL x y k, 0 ≤ z ∧ z < n
  | 0, _, z, hz => by
    simp only [fillL, List.mem_replicate] at hz
    omega
  | k + 1, hk, z, hz => by
    simp only [fillL] at hz
    rcases List.mem_or_eq_of_mem_set hz with h | h
    · exact fillL_range hn hy hl k (by omega) z h
    · subst h
      refine hy _ ?_
      rw [List.getD_eq_getElem?_getD, List.getElem?_eq_getElem (by omega), Option.getD_some]
      exact List.getElem_mem _

/-- What Iso asks at a state and a symbol. -/
def isoAt (a b : Mach) (to : List Int) (s i : Nat) : Prop := a.ot s i = b.ot (to.getD s 0).toNat i ∧ to.getD (a.nx s i).toNat 0 = b.nx (to.getD s 0).toNat i
instance (a b : Mach) (to : List Int) (s i : Nat) : Decidable (isoAt a b to s i) := by unfold isoAt; exact inferInstance
def isoT (a b : Mach) : List Int := fillL a.reach b.reach a.reach.length
/-- All that Iso asks, behind the checks. -/
def isoOk (a b : Mach) : Prop := (a.reach.length = a.next.length ∧ b.reach.length = b.next.length ∧ a.reach.length = b.reach.length) ∧ ∀ s, s < a.reach.length → ∀ i, i < a.inputs.toNat → isoAt a b (isoT a b) s i
instance (a b : Mach) : Decidable (isoOk a b) := by unfold isoOk; exact inferInstance
def isoW (a b : Mach) : Option (List Int) := if chk a b = 0 ∧ isoOk a b then some (isoT a b) else none
theorem isoW_err {a b : Mach} (h : ¬ chk a b = 0) : isoW a b = none := by unfold isoW; rw [if_neg (fun e => h e.1)]
theorem isoW_no {a b : Mach} (h : ¬ isoOk a b) : isoW a b = none := by unfold isoW; rw [if_neg (fun e => h e.2)]
theorem isoW_yes {a b : Mach} (h : chk a b = 0) (h2 : isoOk a b) : isoW a b = some (isoT a b) := by unfold isoW; rw [if_pos ⟨h, h2⟩]
end Go.Proofs.Ytdnmgiabgpilkaa
/- Iso: the program's and the reference's. No condition beyond that the fields read as lists of lists. -/
namespace Go.Proofs.Ytdnmgiabgpilkaa
open Go.RowKit
theorem ow_len {B : Nat} {M : Nat → Prop} {w : World} {T : TypeId} {a : Option Addr} {c n : Nat} {l : List Int} (hn : n = l.length) (h : Ow B M w T (.slice a n c) l) : Ow B M w T (.slice a l.length c) l := by subst hn; exact h
theorem ret3_num {A : Option Addr} {n n' c : Nat} {f : Bool} {x y : Int} (h : n = n') (h2 : x = y) : Ending.returned (.tuple #[.slice A n c, .bool f, .int .i64 x]) = .returned (.tuple #[.slice A n' c, .bool f, .int .i64 y]) := by rw [h, h2]
section
variable {M : Nat → Prop} {w : World} {an ao bn bo : Option Addr} {acn aco bcn bco : Nat} {a b : Mach}

set_option maxRecDepth 100000 in
set_option maxHeartbeats 8000000 in
theorem iso_any (ha : Ma M w an acn ao aco a) (hb : Ma M w bn bcn bo bco b) :
    Calls Try.prog 37 #[maV a an acn ao aco, maV b bn bcn bo bco] w fun e w' => ∃ ad c l f, e = .returned (.tuple #[.slice ad l.length c, .bool f, .int .i64 (chk a b)]) ∧ Hid (ansW (isoW a b) l f) ∧ Sl (fun k => k < w.heap.size) w' ad c l ∧ Below w.heap.size w w' := by
  have HA := Lib.hid (ha.ext ((Ext.alloc M w (maO a an acn ao aco)).trans (Ext.alloc M _ (maO b bn bcn bo bco))))
  have HB := Lib.hid (hb.ext ((Ext.alloc M w (maO a an acn ao aco)).trans (Ext.alloc M _ (maO b bn bcn bo bco))))
  have h0 : Below w.heap.size w ((w.alloc (maO a an acn ao aco)).alloc (maO b bn bcn bo bco)) := ((Below.refl _ _).alloc (Nat.le_refl _) _).alloc (by simp) _
  have hCa : C4 ((w.alloc (maO a an acn ao aco)).alloc (maO b bn bcn bo bco)) w.heap.size an acn ao aco a := (c4_new w).below (B := w.heap.size + 1) ((Below.refl _ _).alloc (by simp) _) (by omega)
  have hCb : C4 ((w.alloc (maO a an acn ao aco)).alloc (maO b bn bcn bo bco)) (w.heap.size + 1) bn bcn bo bco b := by simpa using c4_new (m := b) (an := bn) (cn := bcn) (ao := bo) (co := bco) (w.alloc (maO a an acn ao aco))
  have HC := Lib.hid (check_any HA.out HB.out)
  clear ha hb
  by_cases h : chk a b = 0
  · have h' : (chk a b != 0) = false := by simp [h]
    have H := Lib.hid h
    have HZ := Lib.hid (chk_zero h)
    clear h
    have OA := Lib.hid (a.ok_of_err HZ.out.1)
    have OB := Lib.hid (b.ok_of_err HZ.out.2.1)
    have n1 := OA.out.n1
    have n1' := OB.out.n1
    have i0 := OA.out.i0
    have i1 := OA.out.i1
    obtain ⟨xb, xo, yb, yo, rfl, rfl⟩ := HA.out.addr OA.out
    obtain ⟨ub, uo, vb, vo, rfl, rfl⟩ := HB.out.addr OB.out
    go_enter Try.func37, Try.ntmps37
    go_wp2_with fail
    refine (HC.out).mono ?_
    rintro e w1 ⟨rfl, hb1⟩
    have hz1 : w.heap.size + 2 ≤ w1.heap.size := by have := hb1.size; simpa using this
    have hB1 : Below (w.heap.size + 2) ((w.alloc (maO a (some ⟨xb, xo, none⟩) acn (some ⟨yb, yo, none⟩) aco)).alloc (maO b (some ⟨ub, uo, none⟩) bcn (some ⟨vb, vo, none⟩) bco)) w1 := hb1.mono (by simp)
    have hA1 := (HA.out.below (by simpa using hb1)).ext (Ext.drew M w1)
    have hM1 := (HB.out.below (by simpa using hb1)).ext (Ext.drew M w1)
    have hSS : C4 w1.drew w.heap.size (some ⟨xb, xo, none⟩) acn (some ⟨yb, yo, none⟩) aco a ∧ C4 w1.drew (w.heap.size + 1) (some ⟨ub, uo, none⟩) bcn (some ⟨vb, vo, none⟩) bco b := ⟨(hCa.below hB1 (by omega)).drew, (hCb.below hB1 (by omega)).drew⟩
    have hB2 := (h0.trans (hB1.mono (by omega))).drew
    have hz2 : w.heap.size + 2 ≤ w1.drew.heap.size := hz1
    clear hb1 HC hB1 hCa hCb
    go_wp2
    refine wp_region_L (fun w' => C4 w' w.heap.size (some ⟨xb, xo, none⟩) acn (some ⟨yb, yo, none⟩) aco a ∧ C4 w' (w.heap.size + 1) (some ⟨ub, uo, none⟩) bcn (some ⟨vb, vo, none⟩) bco b) [0, 2] (by kernel_rfl) ?_
    generalize w1.drew = w2 at *
    refine wpAnyL_take (i := 0) (v := ?v1) rfl (by kernel_rfl) (by kernel_rfl) (by kernel_rfl) (by kernel_rfl) (fun _ _ _ h => h) (Or.inl ⟨by rfl, ?y1⟩) (by assumption) ?r1
    case y1 => (intro w' hSw; (try dsimp only at hSw); go_simp; try with_reducible rfl)
    try simp only [Act.put, List.setIfInBounds_toArray, List.set_cons_zero, List.set_cons_succ]
    refine wpAnyL_take (i := 2) (v := ?v2) rfl (by kernel_rfl) (by kernel_rfl) (by kernel_rfl) (by kernel_rfl) (fun _ _ _ h => h) (Or.inl ⟨by rfl, ?y2⟩) (by assumption) ?r2
    case y2 => (intro w' hSw; (try dsimp only at hSw); go_simp; try with_reducible rfl)
    try simp only [Act.put, List.setIfInBounds_toArray, List.set_cons_zero, List.set_cons_succ]
    have HR := Lib.hid (reach_any hA1)
    refine wpAnyL_one (i := 1) (by kernel_rfl) rfl rfl (fun K hK => ?_)
    go_simp
    refine (HR.out).mono ?_
    rintro e w3 ⟨a1, c1, l1, rfl, hl1, hs1, hb3⟩
    have hS3 : C4 w3 w.heap.size (some ⟨xb, xo, none⟩) acn (some ⟨yb, yo, none⟩) aco a ∧ C4 w3 (w.heap.size + 1) (some ⟨ub, uo, none⟩) bcn (some ⟨vb, vo, none⟩) bco b := ⟨hSS.1.below hb3 (by omega), hSS.2.below hb3 (by omega)⟩
    have hz3 := hb3.size
    refine hK _ _ (fun _ => hS3) ?_
    clear hK K HR hSS
    have HR := Lib.hid (reach_any (hM1.below hb3))
    have hA3 := hA1.below hb3
    have hM3 := hM1.below hb3
    have hB3 := hB2.trans (hb3.mono (by omega))
    clear hA1 hM1 hB2 hb3
    refine wpAnyL_one (i := 3) (by kernel_rfl) rfl rfl (fun K hK => ?_)
    go_simp
    refine (HR.out).mono ?_
    rintro e w4 ⟨a2, c2, l2, rfl, hl2, hs2, hb4⟩
    have hS4 : C4 w4 w.heap.size (some ⟨xb, xo, none⟩) acn (some ⟨yb, yo, none⟩) aco a ∧ C4 w4 (w.heap.size + 1) (some ⟨ub, uo, none⟩) bcn (some ⟨vb, vo, none⟩) bco b := ⟨hS3.1.below hb4 (by omega), hS3.2.below hb4 (by omega)⟩
    have hz4 : w.heap.size + 2 ≤ w4.heap.size := by have := hb4.size; omega
    refine hK _ _ (fun _ => hS4) ?_
    clear hK K HR hS3
    have hA4 := Lib.hid (hA3.below hb4)
    have hM4 := Lib.hid (hM3.below hb4)
    have hB4 := hB3.trans (hb4.mono (by omega))
    have hs14 := (hs1.below hb4).anti (M' := fun _ => False) (fun _ _ h => h.elim)
    have hs24 := hs2.anti (M' := fun _ => False) (fun _ _ h => h.elim)
    clear hA3 hM3 hB3 hb4 hs1 hs2
    refine wpAnyL_one (i := 4) (by kernel_rfl) rfl rfl (fun K hK => ?_)
    go_simp
    refine hK _ _ (fun _ => hS4) ?_
    clear hK K
    refine wpAnyL_one (i := 5) (by kernel_rfl) rfl rfl (fun K hK => ?_)
    go_simp
    refine hK _ _ (fun _ => hS4) ?_
    clear hK K
    refine wpAnyL_done (by kernel_rfl) ?_ _
    have HL1 : Hid (l1 = a.reach) := by have := hl1.out; unfold Mach.reachOf at this; rwa [if_pos HZ.out.1] at this
    have HL2 : Hid (l2 = b.reach) := by have := hl2.out; unfold Mach.reachOf at this; rwa [if_pos HZ.out.2.1] at this
    have hl1n : l1.length ≤ 128 := by rw [HL1.out]; have := Mach.reach_le OA.out; omega
    have hl2n : l2.length ≤ 128 := by rw [HL2.out]; have := Mach.reach_le OB.out; omega
    clear hl1 hl2
    have hS4k := Lib.hid hS4
    obtain ⟨⟨j0, j1, j2, j3⟩, ⟨k0, k1, k2, k3⟩⟩ := hS4
    by_cases h1 : l1.length = a.next.length
    · have h1' : (((l1.length : Nat) : Int) != ((a.next.length : Nat) : Int)) = false := by simp [h1]
      by_cases h2 : l2.length = b.next.length
      · have h2' : (((l2.length : Nat) : Int) != ((b.next.length : Nat) : Int)) = false := by simp [h2]
        by_cases h3 : l1.length = l2.length
        · have h3' : (((l1.length : Nat) : Int) != ((l2.length : Nat) : Int)) = false := by simp [h3]
          have H1 := Lib.hid h1
          have H2 := Lib.hid h2
          have H3 := Lib.hid h3
          clear h1 h2 h3
          go_wp2_with (at_make; refine wpList_mk_i (B := w4.heap.size) (n := l1.length) rfl rfl Try.underlying27 info_int rfl (by omega) (Nat.le_refl _) ?_)
          intro g c num w5 hnum hO5 hb5 hg
          have hnl : Hid (num.length = l1.length) := by unfold Hid; rw [hnum.out, List.length_replicate]
          have hz5 := hb5.size
          have hnl1 : num.length ≤ l1.length := Nat.le_of_eq hnl.out
          have hnl2 : l1.length ≤ num.length := Nat.le_of_eq hnl.out.symm
          clear j0 j1 j2 j3 k0 k1 k2 k3
          go_wp2
          have hnm0 : Hid (num = fillL l1 l2 0) := hnum.out
          go_loopw [52] (fun i wr => ∃ (k : Nat) (nm : List Int), k ≤ l1.length ∧ i = .int .i64 k ∧ Hid (nm = fillL l1 l2 k) ∧ Hid (num.length = nm.length) ∧ Ow w4.heap.size (fun k => w4.heap.size ≤ k) wr 3 (.slice (some ⟨g, 0, none⟩) num.length c) nm ∧ Below w4.heap.size w4 wr) (fun i _ => l1.length - (intOf i).toNat)
          case atStart => exact ⟨0, num, by omega, rfl, hnm0, rfl, hO5, hb5⟩
          case round =>
            clear hO5 hb5 hnum hnm0
            obtain ⟨k, nm, hk, rfl, hnm, hnn, hO, hB⟩ := hrel
            obtain ⟨w6, rfl⟩ : ∃ w6 : World, w6 = wr := ⟨_, rfl⟩
            by_cases hlt : k < l1.length
            · have hlt2 : k < l2.length := by rw [← H3.out]; exact hlt
              obtain ⟨b1, o1, x0, rfl, hxc, hx0, -⟩ := (hs14.below hB).at_int hlt
              obtain ⟨b2, o2, y0, rfl, hyc, hy0, hy64⟩ := (hs24.below hB).at_int hlt2
              have hxr := (Mach.reach_props OA.out).2.1 x0 (by rw [← HL1.out]; exact List.mem_of_getElem? hx0.out)
              obtain ⟨x, rfl⟩ := Int.eq_ofNat_of_zero_le hxr.1
              have hxn : x < num.length := by have := H1.out; omega
              have hxm : x < nm.length := by have := hnn.out; omega
              obtain ⟨g', z, hg', hzc, hzf, -, -⟩ := hO.at_int' hnn.out hxm
              obtain rfl : g = g' := by simpa using hg'
              have hO2 := hO.set_int hnn.out (show w4.heap.size ≤ g by omega) (x := y0) x hy64.out
              have hB2 := hB.setCell (p := ⟨g, x, none⟩) (show w4.heap.size ≤ g by omega) (.int .i64 y0)
              have hnm2 : Hid (nm.set x y0 = fillL l1 l2 (k + 1)) := by
                unfold Hid; rw [hnm.out]; simp only [fillL]; rw [getD_of_some hx0.out, getD_of_some hy0.out, Int.toNat_natCast]
              clear hO hB
              go_wp2
              go_roundw
              case rel => exact ⟨k + 1, _, by omega, by go_num, hnm2, by unfold Hid; rw [List.length_set]; exact hnn.out, hO2, hB2⟩
              case measure => simp [intOf]; omega
            · have HT : Hid (nm = isoT a b) := by unfold Hid isoT; rw [hnm.out, HL1.out, HL2.out, show k = a.reach.length by rw [← HL1.out]; omega]
              have hrange : Hid (∀ z ∈ nm, 0 ≤ z ∧ z < b.next.length) := by
                unfold Hid; rw [hnm.out]
                exact fillL_range OB.out.n0 (by rw [HL2.out]; exact (Mach.reach_props OB.out).2.1) H3.out k hk
              have hnmn : Hid (nm.length = a.next.length) := by unfold Hid; rw [← hnn.out, hnl.out, H1.out]
              have HA6 := Lib.hid (hA4.out.below hB)
              have HB6 := Lib.hid (hM4.out.below hB)
              clear hnm
              go_wp2
              have HD0 : Hid (∃ n, w6 = w6.drewN n) := ⟨0, rfl⟩
              have HG0 : Hid (∀ s, s < 0 → ∀ i, i < a.inputs.toNat → isoAt a b nm s i) := fun s hs => absurd hs (Nat.not_lt_zero s)
              go_loopw [67] (fun i wr => ∃ k : Nat, k ≤ num.length ∧ i = .int .i64 k ∧ Hid (∀ s, s < k → ∀ i, i < a.inputs.toNat → isoAt a b nm s i) ∧ Hid (∃ n, wr = w6.drewN n)) (fun i _ => num.length - (intOf i).toNat)
              case atStart => exact ⟨0, by omega, rfl, HG0, HD0⟩
              case round =>
                clear HD0 HG0
                obtain ⟨s, hsn, rfl, hgood, hD⟩ := hrel
                obtain ⟨w7, rfl⟩ : ∃ w7 : World, w7 = wr := ⟨_, rfl⟩
                have hO7 : Ow w4.heap.size (fun k => w4.heap.size ≤ k) w7 3 (.slice (some ⟨g, 0, none⟩) num.length c) nm := by obtain ⟨n, e⟩ := hD.out; rw [e]; exact hO.drewN n
                have hB7 : Below w4.heap.size w4 w7 := by obtain ⟨n, e⟩ := hD.out; rw [e]; exact bl_drewN hB n
                by_cases hls : s < num.length
                · have hsm : s < nm.length := by have := hnn.out; omega
                  have hsa : s < a.next.length := by have := hnmn.out; omega
                  have hsao : s < a.out.length := by rw [OA.out.lo]; exact hsa
                  obtain ⟨g', t0, hg', htc, -, ht0, -⟩ := hO7.at_int' hnn.out hsm
                  obtain rfl : g = g' := by simpa using hg'
                  have htr := hrange.out t0 (List.mem_of_getElem? ht0.out)
                  obtain ⟨t, rfl⟩ := Int.eq_ofNat_of_zero_le htr.1
                  have htn : t < b.next.length := by omega
                  have hto : t < b.out.length := by rw [OB.out.lo]; exact htn
                  obtain ⟨⟨j0, j1, j2, j3⟩, -⟩ := (show C4 w7 w.heap.size (some ⟨xb, xo, none⟩) acn (some ⟨yb, yo, none⟩) aco a ∧ C4 w7 (w.heap.size + 1) (some ⟨ub, uo, none⟩) bcn (some ⟨vb, vo, none⟩) bco b from ⟨hS4k.out.1.below hB7 (by omega), hS4k.out.2.below hB7 (by omega)⟩)
                  go_wp2
                  have HG1 : Hid (∀ i, i < 0 → isoAt a b nm s i) := fun i hi => absurd hi (Nat.not_lt_zero i)
                  go_loopw [74] (fun i wr => ∃ j : Nat, j ≤ a.inputs.toNat ∧ i = .int .i64 j ∧ Hid (∀ i, i < j → isoAt a b nm s i) ∧ Hid (∃ n, wr = w6.drewN n)) (fun i _ => a.inputs.toNat - (intOf i).toNat)
                  case atStart => exact ⟨0, by omega, rfl, HG1, hD⟩
                  case round =>
                    clear HG1 j0 j1 j2 j3 hO7 hB7 htc
                    obtain ⟨j, hj, rfl, hrow, hD8⟩ := hrel
                    obtain ⟨w8, rfl⟩ : ∃ w8 : World, w8 = wr := ⟨_, rfl⟩
                    have hO8 : Ow w4.heap.size (fun k => w4.heap.size ≤ k) w8 3 (.slice (some ⟨g, 0, none⟩) num.length c) nm := by obtain ⟨n, e⟩ := hD8.out; rw [e]; exact hO.drewN n
                    have hB8 : Below w4.heap.size w4 w8 := by obtain ⟨n, e⟩ := hD8.out; rw [e]; exact bl_drewN hB n
                    obtain ⟨⟨j0, j1, j2, j3⟩, ⟨k0, k1, k2, k3⟩⟩ := (show C4 w8 w.heap.size (some ⟨xb, xo, none⟩) acn (some ⟨yb, yo, none⟩) aco a ∧ C4 w8 (w.heap.size + 1) (some ⟨ub, uo, none⟩) bcn (some ⟨vb, vo, none⟩) bco b from ⟨hS4k.out.1.below hB8 (by omega), hS4k.out.2.below hB8 (by omega)⟩)
                    by_cases hlj : j < a.inputs.toNat
                    · have hlj2 : j < b.inputs.toNat := by rw [← HZ.out.2.2]; exact hlj
                      have hlj3 : (j : Int) < a.inputs := by omega
                      obtain ⟨b1, o1, c1, e1, b2, o2, c2, e2, n, y, ha1, ha2, ha3, ha4, ha5, ha6, ha7, ha8, ha9, ha10, ha11, ha12, ha13⟩ := (hA4.out.below hB8).atS OA.out hsa hlj
                      obtain ⟨b3, o3, c3, e3, b4, o4, c4, e4, n', y', hb1, hb2, hb3, hb4, hb5, hb6, hb7, hb8, hb9, hb10, hb11, hb12, hb13⟩ := (hM4.out.below hB8).atS OB.out htn hlj2
                      have hnn1 : n < nm.length := by have := hnmn.out; omega
                      have hnn2 : n < num.length := by have := hnn.out; omega
                      have hnn3 : s < num.length := hls
                      obtain ⟨g', z, hg', hzc, -, hz, -⟩ := hO8.at_int' hnn.out hnn1
                      obtain rfl : g = g' := by simpa using hg'
                      obtain ⟨g', t9, hg', htc, -, ht9, -⟩ := hO8.at_int' hnn.out hsm
                      obtain rfl : g = g' := by simpa using hg'
                      obtain rfl : (t : Int) = t9 := by have h1 := ht9.out; rw [ht0.out] at h1; simpa using h1
                      have hat : Hid (isoAt a b nm s j ↔ y = y' ∧ z = (n' : Int)) := by
                        unfold Hid isoAt
                        rw [getD_of_some ht0.out, Int.toNat_natCast, ha9.out, hb9.out, ha8.out, hb8.out, Int.toNat_natCast, getD_of_some hz.out]
                      by_cases hy : y = y'
                      · have hyb : (y != y') = false := by simp [hy]
                        have HY := Lib.hid hy
                        clear hy
                        by_cases hz1 : z = (n' : Int)
                        · have hzb : (z != (n' : Int)) = false := by simp [hz1]
                          have hrow2 : Hid (∀ i, i < j + 1 → isoAt a b nm s i) := by
                            intro i hi
                            by_cases e : i = j
                            · subst e; exact hat.out.2 ⟨HY.out, hz1⟩
                            · exact hrow.out i (by omega)
                          clear hz1
                          go_wp2
                          refine wp_quiet_fast (by kernel_rfl) (by kernel_rfl) ?_
                          repeat (first | go_big_quiet_step (fail) | quiet_step (fail))
                          refine wpQuiet_nil ?_
                          intro _ hw'
                          obtain ⟨nq, hw''⟩ := hw'
                          subst hw''
                          go_wp2
                          go_roundw
                          case rel => exact ⟨j + 1, by omega, by go_num, hrow2, dr_add hD8 _⟩
                          case measure => simp [intOf]; omega
                        · have hzb : (z != (n' : Int)) = true := by simp [hz1]
                          have HN := Lib.hid (isoW_no (a := a) (b := b) (fun e => hz1 (hat.out.1 (HT.out ▸ e.2 s (by rw [← HL1.out, H1.out]; exact hsa) j hlj)).2))
                          clear hz1
                          have hBf := hB4.trans (hB8.mono (by omega))
                          go_wp2
                          refine wp_quiet_fast (by kernel_rfl) (by kernel_rfl) ?_
                          repeat (first | go_big_quiet_step (fail) | quiet_step (fail))
                          refine wpQuiet_nil ?_
                          intro _ hw'
                          obtain ⟨nq, hw''⟩ := hw'
                          subst hw''
                          go_wp2
                          go_ret3
                          refine ⟨none, 0, [], false, ret3_int H.out.symm, ?_, Sl.nil _ _ _ (by unfold maxLen; omega), bl_drewN hBf _⟩
                          unfold Hid; rw [HN.out]; exact ⟨rfl, rfl⟩
                      · have hyb : (y != y') = true := by simp [hy]
                        have HN := Lib.hid (isoW_no (a := a) (b := b) (fun e => hy (hat.out.1 (HT.out ▸ e.2 s (by rw [← HL1.out, H1.out]; exact hsa) j hlj)).1))
                        clear hy
                        have hBf := hB4.trans (hB8.mono (by omega))
                        go_wp2
                        refine wp_quiet_fast (by kernel_rfl) (by kernel_rfl) ?_
                        repeat (first | go_big_quiet_step (fail) | quiet_step (fail))
                        refine wpQuiet_nil ?_
                        intro _ hw'
                        obtain ⟨nq, hw''⟩ := hw'
                        subst hw''
                        go_wp2
                        go_ret3
                        refine ⟨none, 0, [], false, ret3_int H.out.symm, ?_, Sl.nil _ _ _ (by unfold maxLen; omega), bl_drewN hBf _⟩
                        unfold Hid; rw [HN.out]; exact ⟨rfl, rfl⟩
                    · have hlj3 : ¬ (j : Int) < a.inputs := by omega
                      have hgood2 : Hid (∀ s', s' < s + 1 → ∀ i, i < a.inputs.toNat → isoAt a b nm s' i) := by
                        intro s' hs' i hi
                        by_cases e : s' = s
                        · subst e; exact hrow.out i (by omega)
                        · exact hgood.out s' (by omega) i hi
                      go_wp2
                      go_roundw
                      case rel => exact ⟨s + 1, by omega, by go_num, hgood2, hD8⟩
                      case measure => simp [intOf]; omega
                · have HN := Lib.hid (isoW_yes (a := a) (b := b) H.out ⟨⟨by rw [← HL1.out]; exact H1.out, by rw [← HL2.out]; exact H2.out, by rw [← HL1.out, ← HL2.out]; exact H3.out⟩, fun s' hs' i hi => HT.out ▸ hgood.out s' (by rw [← HL1.out] at hs'; omega) i hi⟩)
                  have hBf := hB4.trans (hB7.mono (by omega))
                  have hSf : Sl (fun k => k < w.heap.size) w7 (some ⟨g, 0, none⟩) c nm := (ow_len hnn.out hO7).fresh (by omega)
                  go_wp2
                  go_ret3
                  refine ⟨_, c, nm, true, ret3_num hnn.out H.out.symm, ?_, hSf, hBf⟩
                  unfold Hid; rw [HN.out, HT.out]; exact ⟨rfl, rfl⟩
        · have h3' : (((l1.length : Nat) : Int) != ((l2.length : Nat) : Int)) = true := by simp; omega
          have HN := Lib.hid (isoW_no (a := a) (b := b) (fun e => h3 (by rw [HL1.out, HL2.out]; exact e.1.2.2)))
          have H1 := Lib.hid h1
          have H2 := Lib.hid h2
          have H3 := Lib.hid h3
          clear h1 h2 h3
          go_wp2
          go_ret3
          refine ⟨none, 0, [], false, ret3_int H.out.symm, ?_, Sl.nil _ _ _ (by unfold maxLen; omega), hB4⟩
          unfold Hid; rw [HN.out]; exact ⟨rfl, rfl⟩
      · have h2' : (((l2.length : Nat) : Int) != ((b.next.length : Nat) : Int)) = true := by simp; omega
        have HN := Lib.hid (isoW_no (a := a) (b := b) (fun e => h2 (by rw [HL2.out]; exact e.1.2.1)))
        have H1 := Lib.hid h1
        have H2 := Lib.hid h2
        clear h1 h2
        go_wp2
        go_ret3
        refine ⟨none, 0, [], false, ret3_int H.out.symm, ?_, Sl.nil _ _ _ (by unfold maxLen; omega), hB4⟩
        unfold Hid; rw [HN.out]; exact ⟨rfl, rfl⟩
    · have h1' : (((l1.length : Nat) : Int) != ((a.next.length : Nat) : Int)) = true := by simp; omega
      have HN := Lib.hid (isoW_no (a := a) (b := b) (fun e => h1 (by rw [HL1.out]; exact e.1.1)))
      have H1 := Lib.hid h1
      clear h1
      go_wp2
      go_ret3
      refine ⟨none, 0, [], false, ret3_int H.out.symm, ?_, Sl.nil _ _ _ (by unfold maxLen; omega), hB4⟩
      unfold Hid; rw [HN.out]; exact ⟨rfl, rfl⟩
  · have h' : (chk a b != 0) = true := by simp [h]
    have HN := Lib.hid (isoW_err h)
    clear h
    go_enter Try.func37, Try.ntmps37
    go_wp2_with fail
    refine (HC.out).mono ?_
    rintro e w1 ⟨rfl, hb1⟩
    have hB1 : Below (w.heap.size + 2) ((w.alloc (maO a an acn ao aco)).alloc (maO b bn bcn bo bco)) w1 := hb1.mono (by simp)
    have hBf := h0.trans (hB1.mono (by omega))
    clear HC hb1
    go_wp2
    go_ret3
    refine ⟨none, 0, [], false, rfl, ?_, Sl.nil _ _ _ (by unfold maxLen; omega), hBf⟩
    unfold Hid; rw [HN.out]; exact ⟨rfl, rfl⟩

set_option maxRecDepth 100000 in
set_option maxHeartbeats 8000000 in
theorem isoR_any (ha : Ma M w an acn ao aco a) (hb : Ma M w bn bcn bo bco b) :
    Calls Try.prog 38 #[maV a an acn ao aco, maV b bn bcn bo bco] w fun e w' => ∃ ad c l f, e = .returned (.tuple #[.slice ad l.length c, .bool f, .int .i64 (chk a b)]) ∧ Hid (ansW (isoW a b) l f) ∧ Sl (fun k => k < w.heap.size) w' ad c l ∧ Below w.heap.size w w' := by
  have HA := Lib.hid (ha.ext ((Ext.alloc M w (maO a an acn ao aco)).trans (Ext.alloc M _ (maO b bn bcn bo bco))))
  have HB := Lib.hid (hb.ext ((Ext.alloc M w (maO a an acn ao aco)).trans (Ext.alloc M _ (maO b bn bcn bo bco))))
  have h0 : Below w.heap.size w ((w.alloc (maO a an acn ao aco)).alloc (maO b bn bcn bo bco)) := ((Below.refl _ _).alloc (Nat.le_refl _) _).alloc (by simp) _
  have hCa : C4 ((w.alloc (maO a an acn ao aco)).alloc (maO b bn bcn bo bco)) w.heap.size an acn ao aco a := (c4_new w).below (B := w.heap.size + 1) ((Below.refl _ _).alloc (by simp) _) (by omega)
  have hCb : C4 ((w.alloc (maO a an acn ao aco)).alloc (maO b bn bcn bo bco)) (w.heap.size + 1) bn bcn bo bco b := by simpa using c4_new (m := b) (an := bn) (cn := bcn) (ao := bo) (co := bco) (w.alloc (maO a an acn ao aco))
  have HC := Lib.hid (checkR_any HA.out HB.out)
  clear ha hb
  by_cases h : chk a b = 0
  · have h' : (chk a b != 0) = false := by simp [h]
    have H := Lib.hid h
    have HZ := Lib.hid (chk_zero h)
    clear h
    have OA := Lib.hid (a.ok_of_err HZ.out.1)
    have OB := Lib.hid (b.ok_of_err HZ.out.2.1)
    have n1 := OA.out.n1
    have n1' := OB.out.n1
    have i0 := OA.out.i0
    have i1 := OA.out.i1
    obtain ⟨xb, xo, yb, yo, rfl, rfl⟩ := HA.out.addr OA.out
    obtain ⟨ub, uo, vb, vo, rfl, rfl⟩ := HB.out.addr OB.out
    go_enter Try.func38, Try.ntmps38
    go_wp2_with fail
    refine (HC.out).mono ?_
    rintro e w1 ⟨rfl, hb1⟩
    have hz1 : w.heap.size + 2 ≤ w1.heap.size := by have := hb1.size; simpa using this
    have hB1 : Below (w.heap.size + 2) ((w.alloc (maO a (some ⟨xb, xo, none⟩) acn (some ⟨yb, yo, none⟩) aco)).alloc (maO b (some ⟨ub, uo, none⟩) bcn (some ⟨vb, vo, none⟩) bco)) w1 := hb1.mono (by simp)
    have hA1 := (HA.out.below (by simpa using hb1)).ext (Ext.drew M w1)
    have hM1 := (HB.out.below (by simpa using hb1)).ext (Ext.drew M w1)
    have hSS : C4 w1.drew w.heap.size (some ⟨xb, xo, none⟩) acn (some ⟨yb, yo, none⟩) aco a ∧ C4 w1.drew (w.heap.size + 1) (some ⟨ub, uo, none⟩) bcn (some ⟨vb, vo, none⟩) bco b := ⟨(hCa.below hB1 (by omega)).drew, (hCb.below hB1 (by omega)).drew⟩
    have hB2 := (h0.trans (hB1.mono (by omega))).drew
    have hz2 : w.heap.size + 2 ≤ w1.drew.heap.size := hz1
    clear hb1 HC hB1 hCa hCb
    go_wp2
    refine wp_region_L (fun w' => C4 w' w.heap.size (some ⟨xb, xo, none⟩) acn (some ⟨yb, yo, none⟩) aco a ∧ C4 w' (w.heap.size + 1) (some ⟨ub, uo, none⟩) bcn (some ⟨vb, vo, none⟩) bco b) [0, 2] (by kernel_rfl) ?_
    generalize w1.drew = w2 at *
    refine wpAnyL_take (i := 0) (v := ?v3) rfl (by kernel_rfl) (by kernel_rfl) (by kernel_rfl) (by kernel_rfl) (fun _ _ _ h => h) (Or.inl ⟨by rfl, ?y3⟩) (by assumption) ?r3
    case y3 => (intro w' hSw; (try dsimp only at hSw); go_simp; try with_reducible rfl)
    try simp only [Act.put, List.setIfInBounds_toArray, List.set_cons_zero, List.set_cons_succ]
    refine wpAnyL_take (i := 2) (v := ?v4) rfl (by kernel_rfl) (by kernel_rfl) (by kernel_rfl) (by kernel_rfl) (fun _ _ _ h => h) (Or.inl ⟨by rfl, ?y4⟩) (by assumption) ?r4
    case y4 => (intro w' hSw; (try dsimp only at hSw); go_simp; try with_reducible rfl)
    try simp only [Act.put, List.setIfInBounds_toArray, List.set_cons_zero, List.set_cons_succ]
    have HR := Lib.hid (reachR_any hA1)
    refine wpAnyL_one (i := 1) (by kernel_rfl) rfl rfl (fun K hK => ?_)
    go_simp
    refine (HR.out).mono ?_
    rintro e w3 ⟨a1, c1, l1, rfl, hl1, hs1, hb3⟩
    have hS3 : C4 w3 w.heap.size (some ⟨xb, xo, none⟩) acn (some ⟨yb, yo, none⟩) aco a ∧ C4 w3 (w.heap.size + 1) (some ⟨ub, uo, none⟩) bcn (some ⟨vb, vo, none⟩) bco b := ⟨hSS.1.below hb3 (by omega), hSS.2.below hb3 (by omega)⟩
    have hz3 := hb3.size
    refine hK _ _ (fun _ => hS3) ?_
    clear hK K HR hSS
    have HR := Lib.hid (reachR_any (hM1.below hb3))
    have hA3 := hA1.below hb3
    have hM3 := hM1.below hb3
    have hB3 := hB2.trans (hb3.mono (by omega))
    clear hA1 hM1 hB2 hb3
    refine wpAnyL_one (i := 3) (by kernel_rfl) rfl rfl (fun K hK => ?_)
    go_simp
    refine (HR.out).mono ?_
    rintro e w4 ⟨a2, c2, l2, rfl, hl2, hs2, hb4⟩
    have hS4 : C4 w4 w.heap.size (some ⟨xb, xo, none⟩) acn (some ⟨yb, yo, none⟩) aco a ∧ C4 w4 (w.heap.size + 1) (some ⟨ub, uo, none⟩) bcn (some ⟨vb, vo, none⟩) bco b := ⟨hS3.1.below hb4 (by omega), hS3.2.below hb4 (by omega)⟩
    have hz4 : w.heap.size + 2 ≤ w4.heap.size := by have := hb4.size; omega
    refine hK _ _ (fun _ => hS4) ?_
    clear hK K HR hS3
    have hA4 := Lib.hid (hA3.below hb4)
    have hM4 := Lib.hid (hM3.below hb4)
    have hB4 := hB3.trans (hb4.mono (by omega))
    have hs14 := (hs1.below hb4).anti (M' := fun _ => False) (fun _ _ h => h.elim)
    have hs24 := hs2.anti (M' := fun _ => False) (fun _ _ h => h.elim)
    clear hA3 hM3 hB3 hb4 hs1 hs2
    refine wpAnyL_one (i := 4) (by kernel_rfl) rfl rfl (fun K hK => ?_)
    go_simp
    refine hK _ _ (fun _ => hS4) ?_
    clear hK K
    refine wpAnyL_one (i := 5) (by kernel_rfl) rfl rfl (fun K hK => ?_)
    go_simp
    refine hK _ _ (fun _ => hS4) ?_
    clear hK K
    refine wpAnyL_done (by kernel_rfl) ?_ _
    have HL1 : Hid (l1 = a.reach) := by have := hl1.out; unfold Mach.reachOf at this; rwa [if_pos HZ.out.1] at this
    have HL2 : Hid (l2 = b.reach) := by have := hl2.out; unfold Mach.reachOf at this; rwa [if_pos HZ.out.2.1] at this
    have hl1n : l1.length ≤ 128 := by rw [HL1.out]; have := Mach.reach_le OA.out; omega
    have hl2n : l2.length ≤ 128 := by rw [HL2.out]; have := Mach.reach_le OB.out; omega
    clear hl1 hl2
    have hS4k := Lib.hid hS4
    obtain ⟨⟨j0, j1, j2, j3⟩, ⟨k0, k1, k2, k3⟩⟩ := hS4
    by_cases h1 : l1.length = a.next.length
    · have h1' : (((l1.length : Nat) : Int) != ((a.next.length : Nat) : Int)) = false := by simp [h1]
      by_cases h2 : l2.length = b.next.length
      · have h2' : (((l2.length : Nat) : Int) != ((b.next.length : Nat) : Int)) = false := by simp [h2]
        by_cases h3 : l1.length = l2.length
        · have h3' : (((l1.length : Nat) : Int) != ((l2.length : Nat) : Int)) = false := by simp [h3]
          have H1 := Lib.hid h1
          have H2 := Lib.hid h2
          have H3 := Lib.hid h3
          clear h1 h2 h3
          go_wp2_with (at_make; refine wpList_mk_i (B := w4.heap.size) (n := l1.length) rfl rfl Try.underlying27 info_int rfl (by omega) (Nat.le_refl _) ?_)
          intro g c num w5 hnum hO5 hb5 hg
          have hnl : Hid (num.length = l1.length) := by unfold Hid; rw [hnum.out, List.length_replicate]
          have hz5 := hb5.size
          have hnl1 : num.length ≤ l1.length := Nat.le_of_eq hnl.out
          have hnl2 : l1.length ≤ num.length := Nat.le_of_eq hnl.out.symm
          clear j0 j1 j2 j3 k0 k1 k2 k3
          go_wp2
          have hnm0 : Hid (num = fillL l1 l2 0) := hnum.out
          go_loopw [11] (fun i wr => ∃ (k : Nat) (nm : List Int), k ≤ l1.length ∧ i = .int .i64 k ∧ Hid (nm = fillL l1 l2 k) ∧ Hid (num.length = nm.length) ∧ Ow w4.heap.size (fun k => w4.heap.size ≤ k) wr 3 (.slice (some ⟨g, 0, none⟩) num.length c) nm ∧ Below w4.heap.size w4 wr) (fun i _ => l1.length - (intOf i).toNat)
          case atStart => exact ⟨0, num, by omega, rfl, hnm0, rfl, hO5, hb5⟩
          case round =>
            clear hO5 hb5 hnum hnm0
            obtain ⟨k, nm, hk, rfl, hnm, hnn, hO, hB⟩ := hrel
            obtain ⟨w6, rfl⟩ : ∃ w6 : World, w6 = wr := ⟨_, rfl⟩
            by_cases hlt : k < l1.length
            · have hlt2 : k < l2.length := by rw [← H3.out]; exact hlt
              obtain ⟨b1, o1, x0, rfl, hxc, hx0, -⟩ := (hs14.below hB).at_int hlt
              obtain ⟨b2, o2, y0, rfl, hyc, hy0, hy64⟩ := (hs24.below hB).at_int hlt2
              have hxr := (Mach.reach_props OA.out).2.1 x0 (by rw [← HL1.out]; exact List.mem_of_getElem? hx0.out)
              obtain ⟨x, rfl⟩ := Int.eq_ofNat_of_zero_le hxr.1
              have hxn : x < num.length := by have := H1.out; omega
              have hxm : x < nm.length := by have := hnn.out; omega
              obtain ⟨g', z, hg', hzc, hzf, -, -⟩ := hO.at_int' hnn.out hxm
              obtain rfl : g = g' := by simpa using hg'
              have hO2 := hO.set_int hnn.out (show w4.heap.size ≤ g by omega) (x := y0) x hy64.out
              have hB2 := hB.setCell (p := ⟨g, x, none⟩) (show w4.heap.size ≤ g by omega) (.int .i64 y0)
              have hnm2 : Hid (nm.set x y0 = fillL l1 l2 (k + 1)) := by
                unfold Hid; rw [hnm.out]; simp only [fillL]; rw [getD_of_some hx0.out, getD_of_some hy0.out, Int.toNat_natCast]
              have hOd := hO.drew
              have hBd := hB.drew
              have hOd2 := hOd.set_int hnn.out (show w4.heap.size ≤ g by omega) (x := y0) x hy64.out
              have hBd2 := hBd.setCell (p := ⟨g, x, none⟩) (show w4.heap.size ≤ g by omega) (.int .i64 y0)
              have hzcd : w6.drew.cell? ⟨g, x, none⟩ = some (.int .i64 z) := by simpa using hzc
              have hzfd : w6.drew.frozen? ⟨g, x, none⟩ = false := by simpa using hzf
              have hSS : w6.drew.cell? ⟨b1, o1 + k, none⟩ = some (.int .i64 (x : Int)) ∧ w6.drew.cell? ⟨b2, o2 + k, none⟩ = some (.int .i64 y0) := ⟨by simpa using hxc, by simpa using hyc⟩
              clear hO2 hB2 hxc hyc hzc hzf
              go_wp2
              refine wp_region_L (fun w' => w'.cell? ⟨b1, o1 + k, none⟩ = some (.int .i64 (x : Int)) ∧ w'.cell? ⟨b2, o2 + k, none⟩ = some (.int .i64 y0)) [0, 1, 2, 3, 4, 5, 6, 7, 8] (by kernel_rfl) ?_
              clear hO hB hOd hBd
              generalize w6.drew = w7 at *
              refine wpAnyL_take (i := 0) (v := ?v5) rfl (by kernel_rfl) (by kernel_rfl) (by kernel_rfl) (by kernel_rfl) (fun _ _ _ h => h) (Or.inl ⟨by rfl, ?y5⟩) (by assumption) ?r5
              case y5 => (intro w' hSw; (try dsimp only at hSw); go_simp; try with_reducible rfl)
              try simp only [Act.put, List.setIfInBounds_toArray, List.set_cons_zero, List.set_cons_succ]
              refine wpAnyL_take (i := 1) (v := ?v6) rfl (by kernel_rfl) (by kernel_rfl) (by kernel_rfl) (by kernel_rfl) (fun _ _ _ h => h) (Or.inl ⟨by rfl, ?y6⟩) (by assumption) ?r6
              case y6 => (intro w' hSw; (try dsimp only at hSw); go_simp; try with_reducible rfl)
              try simp only [Act.put, List.setIfInBounds_toArray, List.set_cons_zero, List.set_cons_succ]
              refine wpAnyL_take (i := 2) (v := ?v7) rfl (by kernel_rfl) (by kernel_rfl) (by kernel_rfl) (by kernel_rfl) (fun _ _ _ h => h) (Or.inl ⟨by rfl, ?y7⟩) (by assumption) ?r7
              case y7 => (intro w' hSw; (try dsimp only at hSw); go_simp; try with_reducible rfl)
              try simp only [Act.put, List.setIfInBounds_toArray, List.set_cons_zero, List.set_cons_succ]
              refine wpAnyL_take (i := 3) (v := ?v8) rfl (by kernel_rfl) (by kernel_rfl) (by kernel_rfl) (by kernel_rfl) (fun _ _ _ h => h) (Or.inl ⟨by rfl, ?y8⟩) (by assumption) ?r8
              case y8 => (intro w' hSw; (try dsimp only at hSw); go_simp; try with_reducible rfl)
              try simp only [Act.put, List.setIfInBounds_toArray, List.set_cons_zero, List.set_cons_succ]
              refine wpAnyL_take (i := 4) (v := ?v9) rfl (by kernel_rfl) (by kernel_rfl) (by kernel_rfl) (by kernel_rfl) (fun _ _ _ h => h) (Or.inl ⟨by rfl, ?y9⟩) (by assumption) ?r9
              case y9 => (intro w' hSw; (try dsimp only at hSw); go_simp; try with_reducible rfl)
              try simp only [Act.put, List.setIfInBounds_toArray, List.set_cons_zero, List.set_cons_succ]
              refine wpAnyL_take (i := 5) (v := ?v10) rfl (by kernel_rfl) (by kernel_rfl) (by kernel_rfl) (by kernel_rfl) (fun _ _ _ h => h) (Or.inl ⟨by rfl, ?y10⟩) (by assumption) ?r10
              case y10 => (intro w' hSw; (try dsimp only at hSw); go_simp; try with_reducible rfl)
              try simp only [Act.put, List.setIfInBounds_toArray, List.set_cons_zero, List.set_cons_succ]
              refine wpAnyL_take (i := 6) (v := ?v11) rfl (by kernel_rfl) (by kernel_rfl) (by kernel_rfl) (by kernel_rfl) (fun _ _ _ h => h) (Or.inl ⟨by rfl, ?y11⟩) (by assumption) ?r11
              case y11 => (intro w' hSw; (try dsimp only at hSw); go_simp; try with_reducible rfl)
              try simp only [Act.put, List.setIfInBounds_toArray, List.set_cons_zero, List.set_cons_succ]
              refine wpAnyL_take (i := 7) (v := ?v12) rfl (by kernel_rfl) (by kernel_rfl) (by kernel_rfl) (by kernel_rfl) (fun _ _ _ h => h) (Or.inl ⟨by rfl, ?y12⟩) (by assumption) ?r12
              case y12 => (intro w' hSw; (try dsimp only at hSw); go_simp; try with_reducible rfl)
              try simp only [Act.put, List.setIfInBounds_toArray, List.set_cons_zero, List.set_cons_succ]
              refine wpAnyL_take (i := 8) (v := ?v13) rfl (by kernel_rfl) (by kernel_rfl) (by kernel_rfl) (by kernel_rfl) (fun _ _ _ h => h) (Or.inl ⟨by rfl, ?y13⟩) (by assumption) ?r13
              case y13 => (intro w' hSw; (try dsimp only at hSw); go_simp; try with_reducible rfl)
              try simp only [Act.put, List.setIfInBounds_toArray, List.set_cons_zero, List.set_cons_succ]
              refine wpAnyL_late (i := 9) (by kernel_rfl) (by kernel_rfl) rfl rfl (fun K hK => ?_)
              go_simp
              refine hK _ _ ?_
              clear hK K
              refine wpAnyL_late (i := 10) (by kernel_rfl) (by kernel_rfl) rfl rfl (fun K hK => ?_)
              go_simp
              refine hK _ _ ?_
              clear hK K
              refine wpAnyL_done (by kernel_rfl) ?_ _
              go_wp2
              go_roundw
              case rel => exact ⟨k + 1, _, by omega, by go_num, hnm2, by unfold Hid; rw [List.length_set]; exact hnn.out, hOd2, hBd2⟩
              case measure => simp [intOf]; omega
            · have HT : Hid (nm = isoT a b) := by unfold Hid isoT; rw [hnm.out, HL1.out, HL2.out, show k = a.reach.length by rw [← HL1.out]; omega]
              have hrange : Hid (∀ z ∈ nm, 0 ≤ z ∧ z < b.next.length) := by
                unfold Hid; rw [hnm.out]
                exact fillL_range OB.out.n0 (by rw [HL2.out]; exact (Mach.reach_props OB.out).2.1) H3.out k hk
              have hnmn : Hid (nm.length = a.next.length) := by unfold Hid; rw [← hnn.out, hnl.out, H1.out]
              have HA6 := Lib.hid (hA4.out.below hB)
              have HB6 := Lib.hid (hM4.out.below hB)
              clear hnm
              go_wp2
              have HD0 : Hid (∃ n, w6 = w6.drewN n) := ⟨0, rfl⟩
              have HG0 : Hid (∀ s, s < 0 → ∀ i, i < a.inputs.toNat → isoAt a b nm s i) := fun s hs => absurd hs (Nat.not_lt_zero s)
              go_loopw [12] (fun i wr => ∃ k : Nat, k ≤ num.length ∧ i = .int .i64 k ∧ Hid (∀ s, s < k → ∀ i, i < a.inputs.toNat → isoAt a b nm s i) ∧ Hid (∃ n, wr = w6.drewN n)) (fun i _ => num.length - (intOf i).toNat)
              case atStart => exact ⟨0, by omega, rfl, HG0, HD0⟩
              case round =>
                clear HD0 HG0
                obtain ⟨s, hsn, rfl, hgood, hD⟩ := hrel
                obtain ⟨w7, rfl⟩ : ∃ w7 : World, w7 = wr := ⟨_, rfl⟩
                have hO7 : Ow w4.heap.size (fun k => w4.heap.size ≤ k) w7 3 (.slice (some ⟨g, 0, none⟩) num.length c) nm := by obtain ⟨n, e⟩ := hD.out; rw [e]; exact hO.drewN n
                have hB7 : Below w4.heap.size w4 w7 := by obtain ⟨n, e⟩ := hD.out; rw [e]; exact bl_drewN hB n
                by_cases hls : s < num.length
                · have hsm : s < nm.length := by have := hnn.out; omega
                  have hsa : s < a.next.length := by have := hnmn.out; omega
                  have hsao : s < a.out.length := by rw [OA.out.lo]; exact hsa
                  obtain ⟨g', t0, hg', htc, -, ht0, -⟩ := hO7.at_int' hnn.out hsm
                  obtain rfl : g = g' := by simpa using hg'
                  have htr := hrange.out t0 (List.mem_of_getElem? ht0.out)
                  obtain ⟨t, rfl⟩ := Int.eq_ofNat_of_zero_le htr.1
                  have htn : t < b.next.length := by omega
                  have hto : t < b.out.length := by rw [OB.out.lo]; exact htn
                  obtain ⟨⟨j0, j1, j2, j3⟩, -⟩ := (show C4 w7 w.heap.size (some ⟨xb, xo, none⟩) acn (some ⟨yb, yo, none⟩) aco a ∧ C4 w7 (w.heap.size + 1) (some ⟨ub, uo, none⟩) bcn (some ⟨vb, vo, none⟩) bco b from ⟨hS4k.out.1.below hB7 (by omega), hS4k.out.2.below hB7 (by omega)⟩)
                  go_wp2
                  have HG1 : Hid (∀ i, i < 0 → isoAt a b nm s i) := fun i hi => absurd hi (Nat.not_lt_zero i)
                  go_loopw [13] (fun i wr => ∃ j : Nat, j ≤ a.inputs.toNat ∧ i = .int .i64 j ∧ Hid (∀ i, i < j → isoAt a b nm s i) ∧ Hid (∃ n, wr = w6.drewN n)) (fun i _ => a.inputs.toNat - (intOf i).toNat)
                  case atStart => exact ⟨0, by omega, rfl, HG1, hD⟩
                  case round =>
                    clear HG1 j0 j1 j2 j3 hO7 hB7 htc
                    obtain ⟨j, hj, rfl, hrow, hD8⟩ := hrel
                    obtain ⟨w8, rfl⟩ : ∃ w8 : World, w8 = wr := ⟨_, rfl⟩
                    have hO8 : Ow w4.heap.size (fun k => w4.heap.size ≤ k) w8 3 (.slice (some ⟨g, 0, none⟩) num.length c) nm := by obtain ⟨n, e⟩ := hD8.out; rw [e]; exact hO.drewN n
                    have hB8 : Below w4.heap.size w4 w8 := by obtain ⟨n, e⟩ := hD8.out; rw [e]; exact bl_drewN hB n
                    obtain ⟨⟨j0, j1, j2, j3⟩, ⟨k0, k1, k2, k3⟩⟩ := (show C4 w8 w.heap.size (some ⟨xb, xo, none⟩) acn (some ⟨yb, yo, none⟩) aco a ∧ C4 w8 (w.heap.size + 1) (some ⟨ub, uo, none⟩) bcn (some ⟨vb, vo, none⟩) bco b from ⟨hS4k.out.1.below hB8 (by omega), hS4k.out.2.below hB8 (by omega)⟩)
                    by_cases hlj : j < a.inputs.toNat
                    · have hlj2 : j < b.inputs.toNat := by rw [← HZ.out.2.2]; exact hlj
                      have hlj3 : (j : Int) < a.inputs := by omega
                      obtain ⟨b1, o1, c1, e1, b2, o2, c2, e2, n, y, ha1, ha2, ha3, ha4, ha5, ha6, ha7, ha8, ha9, ha10, ha11, ha12, ha13⟩ := (hA4.out.below hB8).atS OA.out hsa hlj
                      obtain ⟨b3, o3, c3, e3, b4, o4, c4, e4, n', y', hb1, hb2, hb3, hb4, hb5, hb6, hb7, hb8, hb9, hb10, hb11, hb12, hb13⟩ := (hM4.out.below hB8).atS OB.out htn hlj2
                      have hnn1 : n < nm.length := by have := hnmn.out; omega
                      have hnn2 : n < num.length := by have := hnn.out; omega
                      have hnn3 : s < num.length := hls
                      obtain ⟨g', z, hg', hzc, -, hz, -⟩ := hO8.at_int' hnn.out hnn1
                      obtain rfl : g = g' := by simpa using hg'
                      obtain ⟨g', t9, hg', htc, -, ht9, -⟩ := hO8.at_int' hnn.out hsm
                      obtain rfl : g = g' := by simpa using hg'
                      obtain rfl : (t : Int) = t9 := by have h1 := ht9.out; rw [ht0.out] at h1; simpa using h1
                      have hat : Hid (isoAt a b nm s j ↔ y = y' ∧ z = (n' : Int)) := by
                        unfold Hid isoAt
                        rw [getD_of_some ht0.out, Int.toNat_natCast, ha9.out, hb9.out, ha8.out, hb8.out, Int.toNat_natCast, getD_of_some hz.out]
                      by_cases hy : y = y'
                      · have hyb : (y != y') = false := by simp [hy]
                        have HY := Lib.hid hy
                        clear hy
                        by_cases hz1 : z = (n' : Int)
                        · have hzb : (z != (n' : Int)) = false := by simp [hz1]
                          have hrow2 : Hid (∀ i, i < j + 1 → isoAt a b nm s i) := by
                            intro i hi
                            by_cases e : i = j
                            · subst e; exact hat.out.2 ⟨HY.out, hz1⟩
                            · exact hrow.out i (by omega)
                          clear hz1
                          go_wp2
                          refine wp_quiet_fast (by kernel_rfl) (by kernel_rfl) ?_
                          repeat (first | go_big_quiet_step (fail) | quiet_step (fail))
                          refine wpQuiet_nil ?_
                          intro _ hw'
                          obtain ⟨nq, hw''⟩ := hw'
                          subst hw''
                          go_wp2
                          go_roundw
                          case rel => exact ⟨j + 1, by omega, by go_num, hrow2, dr_add hD8 _⟩
                          case measure => simp [intOf]; omega
                        · have hzb : (z != (n' : Int)) = true := by simp [hz1]
                          have HN := Lib.hid (isoW_no (a := a) (b := b) (fun e => hz1 (hat.out.1 (HT.out ▸ e.2 s (by rw [← HL1.out, H1.out]; exact hsa) j hlj)).2))
                          clear hz1
                          have hBf := hB4.trans (hB8.mono (by omega))
                          go_wp2
                          refine wp_quiet_fast (by kernel_rfl) (by kernel_rfl) ?_
                          repeat (first | go_big_quiet_step (fail) | quiet_step (fail))
                          refine wpQuiet_nil ?_
                          intro _ hw'
                          obtain ⟨nq, hw''⟩ := hw'
                          subst hw''
                          go_wp2
                          go_ret3
                          refine ⟨none, 0, [], false, ret3_int H.out.symm, ?_, Sl.nil _ _ _ (by unfold maxLen; omega), bl_drewN hBf _⟩
                          unfold Hid; rw [HN.out]; exact ⟨rfl, rfl⟩
                      · have hyb : (y != y') = true := by simp [hy]
                        have HN := Lib.hid (isoW_no (a := a) (b := b) (fun e => hy (hat.out.1 (HT.out ▸ e.2 s (by rw [← HL1.out, H1.out]; exact hsa) j hlj)).1))
                        clear hy
                        have hBf := hB4.trans (hB8.mono (by omega))
                        go_wp2
                        refine wp_quiet_fast (by kernel_rfl) (by kernel_rfl) ?_
                        repeat (first | go_big_quiet_step (fail) | quiet_step (fail))
                        refine wpQuiet_nil ?_
                        intro _ hw'
                        obtain ⟨nq, hw''⟩ := hw'
                        subst hw''
                        go_wp2
                        go_ret3
                        refine ⟨none, 0, [], false, ret3_int H.out.symm, ?_, Sl.nil _ _ _ (by unfold maxLen; omega), bl_drewN hBf _⟩
                        unfold Hid; rw [HN.out]; exact ⟨rfl, rfl⟩
                    · have hlj3 : ¬ (j : Int) < a.inputs := by omega
                      have hgood2 : Hid (∀ s', s' < s + 1 → ∀ i, i < a.inputs.toNat → isoAt a b nm s' i) := by
                        intro s' hs' i hi
                        by_cases e : s' = s
                        · subst e; exact hrow.out i (by omega)
                        · exact hgood.out s' (by omega) i hi
                      go_wp2
                      go_roundw
                      case rel => exact ⟨s + 1, by omega, by go_num, hgood2, hD8⟩
                      case measure => simp [intOf]; omega
                · have HN := Lib.hid (isoW_yes (a := a) (b := b) H.out ⟨⟨by rw [← HL1.out]; exact H1.out, by rw [← HL2.out]; exact H2.out, by rw [← HL1.out, ← HL2.out]; exact H3.out⟩, fun s' hs' i hi => HT.out ▸ hgood.out s' (by rw [← HL1.out] at hs'; omega) i hi⟩)
                  have hBf := hB4.trans (hB7.mono (by omega))
                  have hSf : Sl (fun k => k < w.heap.size) w7 (some ⟨g, 0, none⟩) c nm := (ow_len hnn.out hO7).fresh (by omega)
                  go_wp2
                  go_ret3
                  refine ⟨_, c, nm, true, ret3_num hnn.out H.out.symm, ?_, hSf, hBf⟩
                  unfold Hid; rw [HN.out, HT.out]; exact ⟨rfl, rfl⟩
        · have h3' : (((l1.length : Nat) : Int) != ((l2.length : Nat) : Int)) = true := by simp; omega
          have HN := Lib.hid (isoW_no (a := a) (b := b) (fun e => h3 (by rw [HL1.out, HL2.out]; exact e.1.2.2)))
          have H1 := Lib.hid h1
          have H2 := Lib.hid h2
          have H3 := Lib.hid h3
          clear h1 h2 h3
          go_wp2
          go_ret3
          refine ⟨none, 0, [], false, ret3_int H.out.symm, ?_, Sl.nil _ _ _ (by unfold maxLen; omega), hB4⟩
          unfold Hid; rw [HN.out]; exact ⟨rfl, rfl⟩
      · have h2' : (((l2.length : Nat) : Int) != ((b.next.length : Nat) : Int)) = true := by simp; omega
        have HN := Lib.hid (isoW_no (a := a) (b := b) (fun e => h2 (by rw [HL2.out]; exact e.1.2.1)))
        have H1 := Lib.hid h1
        have H2 := Lib.hid h2
        clear h1 h2
        go_wp2
        go_ret3
        refine ⟨none, 0, [], false, ret3_int H.out.symm, ?_, Sl.nil _ _ _ (by unfold maxLen; omega), hB4⟩
        unfold Hid; rw [HN.out]; exact ⟨rfl, rfl⟩
    · have h1' : (((l1.length : Nat) : Int) != ((a.next.length : Nat) : Int)) = true := by simp; omega
      have HN := Lib.hid (isoW_no (a := a) (b := b) (fun e => h1 (by rw [HL1.out]; exact e.1.1)))
      have H1 := Lib.hid h1
      clear h1
      go_wp2
      go_ret3
      refine ⟨none, 0, [], false, ret3_int H.out.symm, ?_, Sl.nil _ _ _ (by unfold maxLen; omega), hB4⟩
      unfold Hid; rw [HN.out]; exact ⟨rfl, rfl⟩
  · have h' : (chk a b != 0) = true := by simp [h]
    have HN := Lib.hid (isoW_err h)
    clear h
    go_enter Try.func38, Try.ntmps38
    go_wp2_with fail
    refine (HC.out).mono ?_
    rintro e w1 ⟨rfl, hb1⟩
    have hB1 : Below (w.heap.size + 2) ((w.alloc (maO a an acn ao aco)).alloc (maO b bn bcn bo bco)) w1 := hb1.mono (by simp)
    have hBf := h0.trans (hB1.mono (by omega))
    clear HC hb1
    go_wp2
    go_ret3
    refine ⟨none, 0, [], false, rfl, ?_, Sl.nil _ _ _ (by unfold maxLen; omega), hBf⟩
    unfold Hid; rw [HN.out]; exact ⟨rfl, rfl⟩
end
end Go.Proofs.Ytdnmgiabgpilkaa
/- The machines of chapter 9's example, as the program writes them out. No condition. -/
namespace Go.Proofs.Ytdnmgiabgpilkaa
open Go.RowKit

/-- A machine of two states and one input, written out. -/
def two9 (x1 x2 y1 y2 : Int) : Mach := ⟨1, 0, [[x1], [x2]], [[y1], [y2]]⟩
abbrev two9W (w : World) (x1 x2 y1 y2 : Int) : World :=
  ((((((w.alloc (.cells #[.int .i64 x1] 3)).alloc (.cells #[.int .i64 x2] 3)).alloc (.cells #[.slice (some ⟨w.heap.size, 0, none⟩) 1 1, .slice (some ⟨w.heap.size + 1, 0, none⟩) 1 1] 27)).alloc
    (.cells #[.int .i64 y1] 3)).alloc (.cells #[.int .i64 y2] 3)).alloc (.cells #[.slice (some ⟨w.heap.size + 1 + 1 + 1, 0, none⟩) 1 1, .slice (some ⟨w.heap.size + 1 + 1 + 1 + 1, 0, none⟩) 1 1] 27)).alloc
    (.cells #[.int .i64 1, .int .i64 0, .slice (some ⟨w.heap.size + 1 + 1, 0, none⟩) 2 2, .slice (some ⟨w.heap.size + 1 + 1 + 1 + 1 + 1, 0, none⟩) 2 2] 24)
/-- A machine of three states and one input, written out. -/
def three9 (st x1 x2 x3 y1 y2 y3 : Int) : Mach := ⟨1, st, [[x1], [x2], [x3]], [[y1], [y2], [y3]]⟩
abbrev three9W (w : World) (st x1 x2 x3 y1 y2 y3 : Int) : World :=
  ((((((((w.alloc (.cells #[.int .i64 x1] 3)).alloc (.cells #[.int .i64 x2] 3)).alloc (.cells #[.int .i64 x3] 3)).alloc
    (.cells #[.slice (some ⟨w.heap.size, 0, none⟩) 1 1, .slice (some ⟨w.heap.size + 1, 0, none⟩) 1 1, .slice (some ⟨w.heap.size + 1 + 1, 0, none⟩) 1 1] 27)).alloc
    (.cells #[.int .i64 y1] 3)).alloc (.cells #[.int .i64 y2] 3)).alloc (.cells #[.int .i64 y3] 3)).alloc
    (.cells #[.slice (some ⟨w.heap.size + 1 + 1 + 1 + 1, 0, none⟩) 1 1, .slice (some ⟨w.heap.size + 1 + 1 + 1 + 1 + 1, 0, none⟩) 1 1, .slice (some ⟨w.heap.size + 1 + 1 + 1 + 1 + 1 + 1, 0, none⟩) 1 1] 27)).alloc
    (.cells #[.int .i64 1, .int .i64 st, .slice (some ⟨w.heap.size + 1 + 1 + 1, 0, none⟩) 3 3, .slice (some ⟨w.heap.size + 1 + 1 + 1 + 1 + 1 + 1 + 1, 0, none⟩) 3 3] 24)

section
theorem two9_base (w : World) {x1 x2 y1 y2 : Int} (h1 : -100 ≤ x1 ∧ x1 ≤ 100) (h2 : -100 ≤ x2 ∧ x2 ≤ 100) (h3 : -100 ≤ y1 ∧ y1 ≤ 100) (h4 : -100 ≤ y2 ∧ y2 ≤ 100) :
    Ma (fun k => k < w.heap.size) (two9W w x1 x2 y1 y2) (some ⟨w.heap.size + 1 + 1, 0, none⟩) 2 (some ⟨w.heap.size + 1 + 1 + 1 + 1 + 1, 0, none⟩) 2 (two9 x1 x2 y1 y2) ∧ Below w.heap.size w (two9W w x1 x2 y1 y2) ∧
    (two9W w x1 x2 y1 y2).heap.size = w.heap.size + 1 + 1 + 1 + 1 + 1 + 1 + 1 ∧ (two9W w x1 x2 y1 y2).heap[w.heap.size + 1 + 1 + 1 + 1 + 1 + 1]? = some (.cells #[.int .i64 1, .int .i64 0, .slice (some ⟨w.heap.size + 1 + 1, 0, none⟩) 2 2, .slice (some ⟨w.heap.size + 1 + 1 + 1 + 1 + 1, 0, none⟩) 2 2] 24) := by
  have one : ∀ (b : Nat) (x : Int), (two9W w x1 x2 y1 y2).heap[b]? = some (.cells #[.int .i64 x] 3) → w.heap.size ≤ b → -100 ≤ x ∧ x ≤ 100 → Sl (fun k => k < w.heap.size) (two9W w x1 x2 y1 y2) (some ⟨b, 0, none⟩) 1 [x] := fun b x h hb hx =>
    Sl.lit h rfl (by omega) (fun y hy => by simp at hy; subst hy; exact i64_small hx) rfl (by unfold maxLen; omega)
  refine ⟨⟨i64_small (show -100 ≤ (1 : Int) ∧ (1 : Int) ≤ 100 by decide), i64_small (show -100 ≤ (0 : Int) ∧ (0 : Int) ≤ 100 by decide), ?_, ?_⟩, ?_, by simp, by (repeat (first | (refine heap_at ?_; (simp; done)) | refine heap_old ?_))⟩
  · refine Sl.litr (rows := [[x1], [x2]]) (vs := #[.slice (some ⟨w.heap.size, 0, none⟩) 1 1, .slice (some ⟨w.heap.size + 1, 0, none⟩) 1 1]) (T := 27) (by (repeat (first | (refine heap_at ?_; (simp; done)) | refine heap_old ?_))) (by omega) rfl (by unfold maxLen; omega) fun j r hj => ?_
    match j, hj with
    | 0, hj => obtain rfl : [x1] = r := by simpa using hj
               exact ⟨_, _, rfl, one _ _ (by (repeat (first | (refine heap_at ?_; (simp; done)) | refine heap_old ?_))) (by omega) h1⟩
    | 1, hj => obtain rfl : [x2] = r := by simpa using hj
               exact ⟨_, _, rfl, one _ _ (by (repeat (first | (refine heap_at ?_; (simp; done)) | refine heap_old ?_))) (by omega) h2⟩
    | j + 2, hj => simp at hj
  · refine Sl.litr (rows := [[y1], [y2]]) (vs := #[.slice (some ⟨w.heap.size + 1 + 1 + 1, 0, none⟩) 1 1, .slice (some ⟨w.heap.size + 1 + 1 + 1 + 1, 0, none⟩) 1 1]) (T := 27) (by (repeat (first | (refine heap_at ?_; (simp; done)) | refine heap_old ?_))) (by omega) rfl (by unfold maxLen; omega) fun j r hj => ?_
    match j, hj with
    | 0, hj => obtain rfl : [y1] = r := by simpa using hj
               exact ⟨_, _, rfl, one _ _ (by (repeat (first | (refine heap_at ?_; (simp; done)) | refine heap_old ?_))) (by omega) h3⟩
    | 1, hj => obtain rfl : [y2] = r := by simpa using hj
               exact ⟨_, _, rfl, one _ _ (by (repeat (first | (refine heap_at ?_; (simp; done)) | refine heap_old ?_))) (by omega) h4⟩
    | j + 2, hj => simp at hj
  · unfold two9W
    repeat' (first | exact Below.refl _ _ | refine Below.alloc ?_ (by simp; omega) _ | refine Below.alloc ?_ (by simp) _)

theorem three9_base (w : World) {st x1 x2 x3 y1 y2 y3 : Int} (h0 : -100 ≤ st ∧ st ≤ 100) (h1 : -100 ≤ x1 ∧ x1 ≤ 100) (h2 : -100 ≤ x2 ∧ x2 ≤ 100) (h3 : -100 ≤ x3 ∧ x3 ≤ 100) (h4 : -100 ≤ y1 ∧ y1 ≤ 100) (h5 : -100 ≤ y2 ∧ y2 ≤ 100) (h6 : -100 ≤ y3 ∧ y3 ≤ 100) :
    Ma (fun k => k < w.heap.size) (three9W w st x1 x2 x3 y1 y2 y3) (some ⟨w.heap.size + 1 + 1 + 1, 0, none⟩) 3 (some ⟨w.heap.size + 1 + 1 + 1 + 1 + 1 + 1 + 1, 0, none⟩) 3 (three9 st x1 x2 x3 y1 y2 y3) ∧ Below w.heap.size w (three9W w st x1 x2 x3 y1 y2 y3) ∧
    (three9W w st x1 x2 x3 y1 y2 y3).heap.size = w.heap.size + 1 + 1 + 1 + 1 + 1 + 1 + 1 + 1 + 1 ∧ (three9W w st x1 x2 x3 y1 y2 y3).heap[w.heap.size + 1 + 1 + 1 + 1 + 1 + 1 + 1 + 1]? = some (.cells #[.int .i64 1, .int .i64 st, .slice (some ⟨w.heap.size + 1 + 1 + 1, 0, none⟩) 3 3, .slice (some ⟨w.heap.size + 1 + 1 + 1 + 1 + 1 + 1 + 1, 0, none⟩) 3 3] 24) := by
  have one : ∀ (b : Nat) (x : Int), (three9W w st x1 x2 x3 y1 y2 y3).heap[b]? = some (.cells #[.int .i64 x] 3) → w.heap.size ≤ b → -100 ≤ x ∧ x ≤ 100 → Sl (fun k => k < w.heap.size) (three9W w st x1 x2 x3 y1 y2 y3) (some ⟨b, 0, none⟩) 1 [x] := fun b x h hb hx =>
    Sl.lit h rfl (by omega) (fun y hy => by simp at hy; subst hy; exact i64_small hx) rfl (by unfold maxLen; omega)
  refine ⟨⟨i64_small (show -100 ≤ (1 : Int) ∧ (1 : Int) ≤ 100 by decide), i64_small h0, ?_, ?_⟩, ?_, by simp, by (repeat (first | (refine heap_at ?_; (simp; done)) | refine heap_old ?_))⟩
  · refine Sl.litr (rows := [[x1], [x2], [x3]]) (vs := #[.slice (some ⟨w.heap.size, 0, none⟩) 1 1, .slice (some ⟨w.heap.size + 1, 0, none⟩) 1 1, .slice (some ⟨w.heap.size + 1 + 1, 0, none⟩) 1 1]) (T := 27) (by (repeat (first | (refine heap_at ?_; (simp; done)) | refine heap_old ?_))) (by omega) rfl (by unfold maxLen; omega) fun j r hj => ?_
    match j, hj with
    | 0, hj => obtain rfl : [x1] = r := by simpa using hj
               exact ⟨_, _, rfl, one _ _ (by (repeat (first | (refine heap_at ?_; (simp; done)) | refine heap_old ?_))) (by omega) h1⟩
    | 1, hj => obtain rfl : [x2] = r := by simpa using hj
               exact ⟨_, _, rfl, one _ _ (by (repeat (first | (refine heap_at ?_; (simp; done)) | refine heap_old ?_))) (by omega) h2⟩
    | 2, hj => obtain rfl : [x3] = r := by simpa using hj
               exact ⟨_, _, rfl, one _ _ (by (repeat (first | (refine heap_at ?_; (simp; done)) | refine heap_old ?_))) (by omega) h3⟩
    | j + 3, hj => simp at hj
  · refine Sl.litr (rows := [[y1], [y2], [y3]]) (vs := #[.slice (some ⟨w.heap.size + 1 + 1 + 1 + 1, 0, none⟩) 1 1, .slice (some ⟨w.heap.size + 1 + 1 + 1 + 1 + 1, 0, none⟩) 1 1, .slice (some ⟨w.heap.size + 1 + 1 + 1 + 1 + 1 + 1, 0, none⟩) 1 1]) (T := 27) (by (repeat (first | (refine heap_at ?_; (simp; done)) | refine heap_old ?_))) (by omega) rfl (by unfold maxLen; omega) fun j r hj => ?_
    match j, hj with
    | 0, hj => obtain rfl : [y1] = r := by simpa using hj
               exact ⟨_, _, rfl, one _ _ (by (repeat (first | (refine heap_at ?_; (simp; done)) | refine heap_old ?_))) (by omega) h4⟩
    | 1, hj => obtain rfl : [y2] = r := by simpa using hj
               exact ⟨_, _, rfl, one _ _ (by (repeat (first | (refine heap_at ?_; (simp; done)) | refine heap_old ?_))) (by omega) h5⟩
    | 2, hj => obtain rfl : [y3] = r := by simpa using hj
               exact ⟨_, _, rfl, one _ _ (by (repeat (first | (refine heap_at ?_; (simp; done)) | refine heap_old ?_))) (by omega) h6⟩
    | j + 3, hj => simp at hj
  · unfold three9W
    repeat' (first | exact Below.refl _ _ | refine Below.alloc ?_ (by simp; omega) _ | refine Below.alloc ?_ (by simp) _)

def ex9A : Mach := two9 1 0 0 0
def ex9B : Mach := three9 0 1 2 0 0 0 1
def ex9C : Mach := three9 1 1 2 0 1 0 0
theorem ex9_ab : chk ex9A ex9B = 0 := by decide
theorem ex9_bc : chk ex9B ex9C = 0 := by decide
theorem ex9_an : chk ex9A Mach.nothing = 2 := by decide
theorem ex9_dist : distW ex9A ex9B = some [0, 0, 0] := by decide
theorem ex9_same : distW ex9B ex9C = none := by decide
theorem ex9_sterr : stErr ex9B 0 1 = 0 := by decide
theorem ex9_st : stW ex9B 0 1 = some [0, 0] := by decide
theorem ex9_up2 : uptoB ex9A ex9B 2 = true := by decide
theorem ex9_up3 : uptoB ex9A ex9B 3 = false := by decide
theorem ex9_iso : isoW ex9B ex9C = some [1, 2, 0] := by decide
end
end Go.Proofs.Ytdnmgiabgpilkaa
/- The example of chapter 9 holds. No condition. -/
namespace Go.Proofs.Ytdnmgiabgpilkaa
open Go.RowKit
section
variable {M M' : Nat → Prop} {w : World} {p q r t : Option Addr} {c d e f : Nat}
theorem ansW_some {v l : List Int} {f : Bool} (h : ansW (some v) l f) : l = v ∧ f = true := h
theorem ex9_dists (ha : Ma M w p c q d ex9A) (hb : Ma M w r e t f ex9B) : Calls Try.prog 31 #[.agg #[.int .i64 1, .int .i64 0, .slice p 2 c, .slice q 2 d], .agg #[.int .i64 1, .int .i64 0, .slice r 3 e, .slice t 3 f]] w fun e w' =>
    ∃ (a : Option Addr) (c : Nat) (l : List Int), e = .returned (.tuple #[.slice a l.length c, .bool true, .int .i64 0]) ∧ Hid (l = [0, 0, 0]) ∧ Sl (fun k => k < w.heap.size) w' a c l ∧ Below w.heap.size w w' :=
  (dist_any ha hb).mono fun e w' ⟨a, c, l, g, h1, h2, h3, h4⟩ => by
    have h5 := h2.out
    rw [ex9_dist] at h5
    obtain ⟨h6, h7⟩ := ansW_some h5
    exact ⟨a, c, l, by rw [h1, ex9_ab, h7], h6, h3, h4⟩
theorem ex9_sts (hb : Ma M w r e t f ex9B) : Calls Try.prog 35 #[.agg #[.int .i64 1, .int .i64 0, .slice r 3 e, .slice t 3 f], .int .i64 0, .int .i64 1] w fun e w' =>
    ∃ (a : Option Addr) (c : Nat) (l : List Int), e = .returned (.tuple #[.slice a l.length c, .bool true, .int .i64 0]) ∧ Hid (l = [0, 0]) ∧ Sl (fun k => k < w.heap.size) w' a c l ∧ Below w.heap.size w w' :=
  (states_any hb 0 1 (i64_small (by decide)) (i64_small (by decide))).mono fun e w' ⟨a, c, l, g, h1, h2, h3, h4⟩ => by
    have h5 := h2.out
    rw [ex9_st] at h5
    obtain ⟨h6, h7⟩ := ansW_some h5
    exact ⟨a, c, l, by rw [h1, ex9_sterr, h7], h6, h3, h4⟩
theorem ex9_up2s (ha : Ma M w p c q d ex9A) (hb : Ma M w r e t f ex9B) : Calls Try.prog 39 #[.agg #[.int .i64 1, .int .i64 0, .slice p 2 c, .slice q 2 d], .agg #[.int .i64 1, .int .i64 0, .slice r 3 e, .slice t 3 f], .int .i64 2] w fun e w' =>
    e = .returned (.tuple #[.bool true, .int .i64 0]) ∧ Below w.heap.size w w' :=
  (upto_any ha hb 2 (i64_small (by decide))).mono fun e w' ⟨g, h1, h2, h4⟩ => ⟨by rw [h1, ex9_ab, h2.out, ex9_up2], h4⟩
theorem ex9_up3s (ha : Ma M w p c q d ex9A) (hb : Ma M w r e t f ex9B) : Calls Try.prog 39 #[.agg #[.int .i64 1, .int .i64 0, .slice p 2 c, .slice q 2 d], .agg #[.int .i64 1, .int .i64 0, .slice r 3 e, .slice t 3 f], .int .i64 3] w fun e w' =>
    e = .returned (.tuple #[.bool false, .int .i64 0]) ∧ Below w.heap.size w w' :=
  (upto_any ha hb 3 (i64_small (by decide))).mono fun e w' ⟨g, h1, h2, h4⟩ => ⟨by rw [h1, ex9_ab, h2.out, ex9_up3], h4⟩
theorem ex9_isos (ha : Ma M w p c q d ex9B) (hb : Ma M w r e t f ex9C) : Calls Try.prog 37 #[.agg #[.int .i64 1, .int .i64 0, .slice p 3 c, .slice q 3 d], .agg #[.int .i64 1, .int .i64 1, .slice r 3 e, .slice t 3 f]] w fun e w' =>
    ∃ (a : Option Addr) (c : Nat) (l : List Int), e = .returned (.tuple #[.slice a l.length c, .bool true, .int .i64 0]) ∧ Hid (l = [1, 2, 0]) ∧ Sl (fun k => k < w.heap.size) w' a c l ∧ Below w.heap.size w w' :=
  (iso_any ha hb).mono fun e w' ⟨a, c, l, g, h1, h2, h3, h4⟩ => by
    have h5 := h2.out
    rw [ex9_iso] at h5
    obtain ⟨h6, h7⟩ := ansW_some h5
    exact ⟨a, c, l, by rw [h1, ex9_bc, h7], h6, h3, h4⟩
theorem ex9_sames (ha : Ma M w p c q d ex9B) (hb : Ma M w r e t f ex9C) : Calls Try.prog 33 #[.agg #[.int .i64 1, .int .i64 0, .slice p 3 c, .slice q 3 d], .agg #[.int .i64 1, .int .i64 1, .slice r 3 e, .slice t 3 f]] w fun e w' =>
    e = .returned (.tuple #[.bool true, .int .i64 0]) ∧ Below w.heap.size w w' :=
  (eqm_any ha hb).mono fun e w' ⟨g, h1, h2, h4⟩ => ⟨by rw [h1, ex9_bc, h2.out, ex9_bc, ex9_same]; rfl, h4⟩
theorem ex9_nones (ha : Ma M w p c q d ex9A) : Calls Try.prog 33 #[.agg #[.int .i64 1, .int .i64 0, .slice p 2 c, .slice q 2 d], .agg #[.int .i64 0, .int .i64 0, .slice none 0 0, .slice none 0 0]] w fun e w' =>
    ∃ g, e = .returned (.tuple #[.bool g, .int .i64 2]) ∧ Below w.heap.size w w' :=
  (eqm_any ha (nothing_ma M w)).mono fun e w' ⟨g, h1, h2, h4⟩ => ⟨g, by rw [h1, ex9_an], h4⟩
end

/-- Four cells of a block. -/
abbrev F4 (w : World) (b : Nat) (v0 v1 v2 v3 : Value) : Prop := w.cell? ⟨b, 0, none⟩ = some v0 ∧ w.cell? ⟨b, 1, none⟩ = some v1 ∧ w.cell? ⟨b, 2, none⟩ = some v2 ∧ w.cell? ⟨b, 3, none⟩ = some v3
theorem F4.below {w w' : World} {B b : Nat} {v0 v1 v2 v3 : Value} (h : F4 w b v0 v1 v2 v3) (hb : Below B w w') (hlt : b < B) : F4 w' b v0 v1 v2 v3 :=
  ⟨(hb.cell (p := ⟨b, 0, none⟩) hlt).trans h.1, (hb.cell (p := ⟨b, 1, none⟩) hlt).trans h.2.1, (hb.cell (p := ⟨b, 2, none⟩) hlt).trans h.2.2.1, (hb.cell (p := ⟨b, 3, none⟩) hlt).trans h.2.2.2⟩
theorem Ma.free {M : Nat → Prop} {w : World} {an ao : Option Addr} {cn co : Nat} {m : Mach} (h : Ma M w an cn ao co m) : Ma (fun _ => False) w an cn ao co m := h.ext (Ext.sub_only fun _ _ e => e.elim)

set_option maxRecDepth 100000 in
set_option maxHeartbeats 8000000 in
theorem ex9_any {w : World} : Calls Try.prog 30 #[] w fun e w' => e = .returned (.bool true) ∧ Below w.heap.size w w' := by
  go_enter Try.func30, Try.ntmps30
  obtain ⟨hmA, hbA, hsA, hkA⟩ := two9_base w (x1 := 1) (x2 := 0) (y1 := 0) (y2 := 0) (by decide) (by decide) (by decide) (by decide)
  go_upto_region 2 with (fail)
  obtain ⟨wA, hwA⟩ : ∃ wA, wA = two9W w 1 0 0 0 := ⟨_, rfl⟩
  have ewA : two9W w 1 0 0 0 = wA := hwA.symm
  unfold two9W at hwA
  rw [← hwA]
  rw [ewA] at hmA hbA hsA hkA
  clear hwA ewA
  have hxA : w.heap.size + 1 + 1 + 1 + 1 + 1 + 1 < wA.heap.size := by omega
  have hlA : w.heap.size ≤ wA.heap.size := by omega
  clear hsA
  generalize hp : (some (⟨w.heap.size + 1 + 1, 0, none⟩ : Addr)) = pa at *
  generalize hq : (some (⟨w.heap.size + 1 + 1 + 1 + 1 + 1, 0, none⟩ : Addr)) = qa at *
  clear hp hq
  generalize w.heap.size + 1 + 1 + 1 + 1 + 1 + 1 = A at *
  have hFA := cells4 hkA
  clear hkA
  obtain ⟨hmB, hbB, hsB, hkB⟩ := three9_base wA (st := 0) (x1 := 1) (x2 := 2) (x3 := 0) (y1 := 0) (y2 := 0) (y3 := 1) (by decide) (by decide) (by decide) (by decide) (by decide) (by decide) (by decide)
  go_upto_region 3 with (fail)
  obtain ⟨wB, hwB⟩ : ∃ wB, wB = three9W wA 0 1 2 0 0 0 1 := ⟨_, rfl⟩
  have ewB : three9W wA 0 1 2 0 0 0 1 = wB := hwB.symm
  unfold three9W at hwB
  rw [← hwB]
  rw [ewB] at hmB hbB hsB hkB
  clear hwB ewB
  have hxB : wA.heap.size + 1 + 1 + 1 + 1 + 1 + 1 + 1 + 1 < wB.heap.size := by omega
  have hlB : wA.heap.size ≤ wB.heap.size := by omega
  clear hsB
  generalize hp : (some (⟨wA.heap.size + 1 + 1 + 1, 0, none⟩ : Addr)) = pb at *
  generalize hq : (some (⟨wA.heap.size + 1 + 1 + 1 + 1 + 1 + 1 + 1, 0, none⟩ : Addr)) = qb at *
  clear hp hq
  generalize wA.heap.size + 1 + 1 + 1 + 1 + 1 + 1 + 1 + 1 = B at *
  have hFB := cells4 hkB
  clear hkB
  obtain ⟨hmC, hbC, hsC, hkC⟩ := three9_base wB (st := 1) (x1 := 1) (x2 := 2) (x3 := 0) (y1 := 1) (y2 := 0) (y3 := 0) (by decide) (by decide) (by decide) (by decide) (by decide) (by decide) (by decide)
  go_upto_region 4 with (fail)
  obtain ⟨wC, hwC⟩ : ∃ wC, wC = three9W wB 1 1 2 0 1 0 0 := ⟨_, rfl⟩
  have ewC : three9W wB 1 1 2 0 1 0 0 = wC := hwC.symm
  unfold three9W at hwC
  rw [← hwC]
  rw [ewC] at hmC hbC hsC hkC
  clear hwC ewC
  have hxC : wB.heap.size + 1 + 1 + 1 + 1 + 1 + 1 + 1 + 1 < wC.heap.size := by omega
  have hlC : wB.heap.size ≤ wC.heap.size := by omega
  clear hsC
  generalize hp : (some (⟨wB.heap.size + 1 + 1 + 1, 0, none⟩ : Addr)) = pc at *
  generalize hq : (some (⟨wB.heap.size + 1 + 1 + 1 + 1 + 1 + 1 + 1, 0, none⟩ : Addr)) = qc at *
  clear hp hq
  generalize wB.heap.size + 1 + 1 + 1 + 1 + 1 + 1 + 1 + 1 = C at *
  have hFC := cells4 hkC
  clear hkC
  have hAC : Below wA.heap.size wA wC := hbB.trans (hbC.mono hlB)
  have hW : Below w.heap.size w wC := hbA.trans (hAC.mono hlA)
  have mA : Ma (fun _ => False) wC pa 2 qa 2 ex9A := (hmA.free.below hAC)
  have mB : Ma (fun _ => False) wC pb 3 qb 3 ex9B := (hmB.free.below hbC)
  have mC : Ma (fun _ => False) wC pc 3 qc 3 ex9C := hmC.free
  have fA := F4.below hFA hAC hxA
  have fB := F4.below hFB hbC hxB
  have fC : F4 wC C _ _ _ _ := hFC
  have lA : A < wC.heap.size := by omega
  have lB : B < wC.heap.size := by omega
  have lC : C < wC.heap.size := hxC
  have lW : w.heap.size ≤ wC.heap.size := by omega
  have FA := Lib.hid fA
  have FB := Lib.hid fB
  have FC := Lib.hid fC
  have MA := Lib.hid mA
  have MB := Lib.hid mB
  have MC := Lib.hid mC
  clear hAC hbA hbB hbC hlA hlB hlC hxA hxB hxC hFA hFB hFC hmA hmB hmC mA mB mC
  obtain ⟨u0, u1, u2, u3⟩ := fA
  obtain ⟨v0, v1, v2, v3⟩ := fB
  obtain ⟨s0, s1, s2, s3⟩ := fC
  go_wp2_with fail
  refine (ex9_dists MA.out MB.out).mono ?_
  rintro e w1 ⟨a1, c1, l1, rfl, hl1, hs1, hb1⟩
  clear u0 u1 u2 u3 v0 v1 v2 v3 s0 s1 s2 s3
  have hB1 : Below wC.heap.size wC w1 := hb1
  obtain ⟨u0, u1, u2, u3⟩ := FA.out.below hB1 lA
  obtain ⟨v0, v1, v2, v3⟩ := FB.out.below hB1 lB
  obtain ⟨s0, s1, s2, s3⟩ := FC.out.below hB1 lC
  go_wp2_with fail
  refine (ex9_sts (MB.out.below hB1)).mono ?_
  rintro e w2 ⟨a2, c2, l2, rfl, hl2, hs2, hb2⟩
  clear u0 u1 u2 u3 v0 v1 v2 v3 s0 s1 s2 s3
  have hB2 : Below wC.heap.size wC w2 := hB1.trans (hb2.mono hB1.size)
  replace hs1 := hs1.below hb2
  obtain ⟨u0, u1, u2, u3⟩ := FA.out.below hB2 lA
  obtain ⟨v0, v1, v2, v3⟩ := FB.out.below hB2 lB
  obtain ⟨s0, s1, s2, s3⟩ := FC.out.below hB2 lC
  clear hb2
  go_wp2_with fail
  refine (ex9_up2s (MA.out.below hB2) (MB.out.below hB2)).mono ?_
  rintro e w3 ⟨rfl, hb3⟩
  clear u0 u1 u2 u3 v0 v1 v2 v3 s0 s1 s2 s3
  have hB3 : Below wC.heap.size wC w3 := hB2.trans (hb3.mono hB2.size)
  replace hs1 := hs1.below hb3
  replace hs2 := hs2.below hb3
  obtain ⟨u0, u1, u2, u3⟩ := FA.out.below hB3 lA
  obtain ⟨v0, v1, v2, v3⟩ := FB.out.below hB3 lB
  obtain ⟨s0, s1, s2, s3⟩ := FC.out.below hB3 lC
  clear hb3
  go_wp2_with fail
  refine (ex9_up3s (MA.out.below hB3) (MB.out.below hB3)).mono ?_
  rintro e w4 ⟨rfl, hb4⟩
  clear u0 u1 u2 u3 v0 v1 v2 v3 s0 s1 s2 s3
  have hB4 : Below wC.heap.size wC w4 := hB3.trans (hb4.mono hB3.size)
  replace hs1 := hs1.below hb4
  replace hs2 := hs2.below hb4
  obtain ⟨u0, u1, u2, u3⟩ := FA.out.below hB4 lA
  obtain ⟨v0, v1, v2, v3⟩ := FB.out.below hB4 lB
  obtain ⟨s0, s1, s2, s3⟩ := FC.out.below hB4 lC
  clear hb4
  go_wp2_with fail
  refine (ex9_isos (MB.out.below hB4) (MC.out.below hB4)).mono ?_
  rintro e w5 ⟨a5, c5, l5, rfl, hl5, hs5, hb5⟩
  clear u0 u1 u2 u3 v0 v1 v2 v3 s0 s1 s2 s3
  have hB5 : Below wC.heap.size wC w5 := hB4.trans (hb5.mono hB4.size)
  replace hs1 := hs1.below hb5
  replace hs2 := hs2.below hb5
  obtain ⟨u0, u1, u2, u3⟩ := FA.out.below hB5 lA
  obtain ⟨v0, v1, v2, v3⟩ := FB.out.below hB5 lB
  obtain ⟨s0, s1, s2, s3⟩ := FC.out.below hB5 lC
  clear hb5
  go_wp2_with fail
  refine (ex9_sames (MB.out.below hB5) (MC.out.below hB5)).mono ?_
  rintro e w6 ⟨rfl, hb6⟩
  clear u0 u1 u2 u3 v0 v1 v2 v3 s0 s1 s2 s3
  have hB6 : Below wC.heap.size wC w6 := hB5.trans (hb6.mono hB5.size)
  replace hs1 := hs1.below hb6
  replace hs2 := hs2.below hb6
  replace hs5 := hs5.below hb6
  obtain ⟨u0, u1, u2, u3⟩ := FA.out.below hB6 lA
  obtain ⟨v0, v1, v2, v3⟩ := FB.out.below hB6 lB
  obtain ⟨s0, s1, s2, s3⟩ := FC.out.below hB6 lC
  clear hb6
  go_wp2_with fail
  refine (ex9_nones (MA.out.below hB6)).mono ?_
  rintro e w7 ⟨g7, rfl, hb7⟩
  clear u0 u1 u2 u3 v0 v1 v2 v3 s0 s1 s2 s3
  have hB7 : Below wC.heap.size wC w7 := hB6.trans (hb7.mono hB6.size)
  replace hs1 := hs1.below hb7
  replace hs2 := hs2.below hb7
  replace hs5 := hs5.below hb7
  obtain ⟨u0, u1, u2, u3⟩ := FA.out.below hB7 lA
  obtain ⟨v0, v1, v2, v3⟩ := FB.out.below hB7 lB
  obtain ⟨s0, s1, s2, s3⟩ := FC.out.below hB7 lC
  clear hb7
  clear u0 u1 u2 u3 v0 v1 v2 v3 s0 s1 s2 s3
  have HE8 := Lib.hid (ex8_equal (w := w7.alloc (.cells #[.int .i64 0, .int .i64 0, .int .i64 0] 3)) (b := some ⟨w7.heap.size, 0, none⟩) (d := 3) (ys := [0, 0, 0])
    ((hs1.anti (M' := fun _ => False) (fun _ _ h => h.elim)).alloc _) (Sl.lit (heap_alloc_new _ _) rfl id (fun x hx => i64_small (by simp at hx; omega)) rfl (by unfold maxLen; omega)) hl1.out)
  go_wp2_with fail
  refine (HE8.out).mono ?_
  rintro e w8' ⟨rfl, n8, rfl⟩
  have hb8 : Below w7.heap.size w7 ((w7.alloc (.cells #[.int .i64 0, .int .i64 0, .int .i64 0] 3)).drewN n8) := ((Below.refl _ _).alloc (Nat.le_refl _) _).trans (below_drewN _ _ _)
  have hB8 : Below wC.heap.size wC ((w7.alloc (.cells #[.int .i64 0, .int .i64 0, .int .i64 0] 3)).drewN n8) := hB7.trans (hb8.mono hB7.size)
  clear HE8
  generalize ((w7.alloc (.cells #[.int .i64 0, .int .i64 0, .int .i64 0] 3)).drewN n8) = w8 at *
  replace hs2 := hs2.below hb8
  replace hs5 := hs5.below hb8
  have HE9 := Lib.hid (ex8_equal (w := w8.alloc (.cells #[.int .i64 0, .int .i64 0] 3)) (b := some ⟨w8.heap.size, 0, none⟩) (d := 2) (ys := [0, 0])
    ((hs2.anti (M' := fun _ => False) (fun _ _ h => h.elim)).alloc _) (Sl.lit (heap_alloc_new _ _) rfl id (fun x hx => i64_small (by simp at hx; omega)) rfl (by unfold maxLen; omega)) hl2.out)
  go_wp2_with fail
  refine (HE9.out).mono ?_
  rintro e w9' ⟨rfl, n9, rfl⟩
  have hb9 : Below w8.heap.size w8 ((w8.alloc (.cells #[.int .i64 0, .int .i64 0] 3)).drewN n9) := ((Below.refl _ _).alloc (Nat.le_refl _) _).trans (below_drewN _ _ _)
  have hB9 : Below wC.heap.size wC ((w8.alloc (.cells #[.int .i64 0, .int .i64 0] 3)).drewN n9) := hB8.trans (hb9.mono hB8.size)
  clear HE9
  generalize ((w8.alloc (.cells #[.int .i64 0, .int .i64 0] 3)).drewN n9) = w9 at *
  replace hs5 := hs5.below hb9
  have HE10 := Lib.hid (ex8_equal (w := w9.alloc (.cells #[.int .i64 1, .int .i64 2, .int .i64 0] 3)) (b := some ⟨w9.heap.size, 0, none⟩) (d := 3) (ys := [1, 2, 0])
    ((hs5.anti (M' := fun _ => False) (fun _ _ h => h.elim)).alloc _) (Sl.lit (heap_alloc_new _ _) rfl id (fun x hx => i64_small (by simp at hx; omega)) rfl (by unfold maxLen; omega)) hl5.out)
  go_wp2_with fail
  refine (HE10.out).mono ?_
  rintro e w10' ⟨rfl, n10, rfl⟩
  have hb10 : Below w9.heap.size w9 ((w9.alloc (.cells #[.int .i64 1, .int .i64 2, .int .i64 0] 3)).drewN n10) := ((Below.refl _ _).alloc (Nat.le_refl _) _).trans (below_drewN _ _ _)
  have hB10 : Below wC.heap.size wC ((w9.alloc (.cells #[.int .i64 1, .int .i64 2, .int .i64 0] 3)).drewN n10) := hB9.trans (hb10.mono hB9.size)
  clear HE10
  generalize ((w9.alloc (.cells #[.int .i64 1, .int .i64 2, .int .i64 0] 3)).drewN n10) = w10 at *
  have hBf := hW.trans (hB10.mono lW)
  go_wp2
  go_ret
  exact ⟨rfl, hBf⟩
end Go.Proofs.Ytdnmgiabgpilkaa
