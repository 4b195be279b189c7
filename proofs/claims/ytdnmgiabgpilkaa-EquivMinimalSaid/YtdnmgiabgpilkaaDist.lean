/- Distinguish, Equal, Upto, States: the program's and the reference's. No condition beyond that the fields read as lists of lists. -/
import Derived.Test.YtdnmgiabgpilkaaSearch
import Derived.Test.YtdnmgiabgpilkaaFirstR
import Derived.Test.YtdnmgiabgpilkaaCheck9
namespace Go.Proofs.Ytdnmgiabgpilkaa
open Go.RowKit
/-- The word of Distinguish. -/
def distW (a b : Mach) : Option (List Int) := if chk a b = 0 then firstW a b a.start b.start else none
/-- The error and the word of States. -/
def stErr (m : Mach) (s t : Int) : Int := if m.err ≠ 0 then m.err else if s < 0 ∨ (m.next.length : Int) ≤ s ∨ t < 0 ∨ (m.next.length : Int) ≤ t then 2 else 0
def stW (m : Mach) (s t : Int) : Option (List Int) := if stErr m s t = 0 then firstW m m s t else none
def uptoB (a b : Mach) (n : Int) : Bool := decide (chk a b = 0) && (match distW a b with | none => true | some v => decide (n < (v.length : Int)))
theorem upto_err {a b : Mach} {n : Int} (h : ¬ chk a b = 0) : uptoB a b n = false := by simp [uptoB, h]
theorem upto_none {a b : Mach} {n : Int} (h : chk a b = 0) (hd : distW a b = none) : uptoB a b n = true := by simp [uptoB, h, hd]
theorem upto_yes {a b : Mach} {n : Int} {l : List Int} (h : chk a b = 0) (hd : distW a b = some l) (hl : n < (l.length : Int)) : uptoB a b n = true := by simp [uptoB, h, hd, hl]
theorem upto_no {a b : Mach} {n : Int} {l : List Int} (hd : distW a b = some l) (hl : ¬ n < (l.length : Int)) : uptoB a b n = false := by simp [uptoB, hd, hl]
theorem st_err {m : Mach} {s t : Int} (h : ¬ m.err = 0) : stErr m s t = m.err := by unfold stErr; rw [if_pos h]
theorem st_cases {m : Mach} (h : m.err = 0) (s t : Int) : (s < 0 ∧ stErr m s t = 2) ∨ (¬ s < 0 ∧ (m.next.length : Int) ≤ s ∧ stErr m s t = 2) ∨ (¬ s < 0 ∧ ¬ (m.next.length : Int) ≤ s ∧ t < 0 ∧ stErr m s t = 2) ∨
    (¬ s < 0 ∧ ¬ (m.next.length : Int) ≤ s ∧ ¬ t < 0 ∧ (m.next.length : Int) ≤ t ∧ stErr m s t = 2) ∨ (¬ s < 0 ∧ ¬ (m.next.length : Int) ≤ s ∧ ¬ t < 0 ∧ ¬ (m.next.length : Int) ≤ t ∧ stErr m s t = 0) := by
  have e : stErr m s t = if s < 0 ∨ (m.next.length : Int) ≤ s ∨ t < 0 ∨ (m.next.length : Int) ≤ t then 2 else 0 := by unfold stErr; rw [if_neg (by simpa using h)]
  rw [e]
  split <;> omega
theorem ret3_int {x y : Value} {a b : Int} (h : a = b) : Ending.returned (.tuple #[x, y, .int .i64 a]) = .returned (.tuple #[x, y, .int .i64 b]) := by rw [h]
theorem ansW_none {l : List Int} {f : Bool} (h : l = [] ∧ f = false) : ansW none l f := h
section
variable {M : Nat → Prop} {w : World} {an ao bn bo : Option Addr} {acn aco bcn bco : Nat} {a b : Mach}

theorem searchI (ha : Ma M w an acn ao aco a) (hb : Ma M w bn bcn bo bco b) (ea : a.err = 0) (eb : b.err = 0) (hi : a.inputs = b.inputs) (s t : Int) (hs0 : 0 ≤ s) (hs : s < a.next.length) (ht0 : 0 ≤ t) (ht : t < b.next.length) :
    Calls Try.prog 57 #[maV a an acn ao aco, maV b bn bcn bo bco, .agg #[.int .i64 s, .int .i64 t]] w fun e w' =>
      ∃ ad c l f, e = .returned (.tuple #[.slice ad l.length c, .bool f]) ∧ Hid (ansW (firstW a b s t) l f) ∧ Sl (fun k => k < w.heap.size) w' ad c l ∧ Below w.heap.size w w' := by
  obtain ⟨s, rfl⟩ := Int.eq_ofNat_of_zero_le hs0
  obtain ⟨t, rfl⟩ := Int.eq_ofNat_of_zero_le ht0
  exact search_any ha hb ea eb hi s t (by omega) (by omega)
theorem firstRI (ha : Ma M w an acn ao aco a) (hb : Ma M w bn bcn bo bco b) (ea : a.err = 0) (eb : b.err = 0) (hi : a.inputs = b.inputs) (s t : Int) (hs0 : 0 ≤ s) (hs : s < a.next.length) (ht0 : 0 ≤ t) (ht : t < b.next.length) :
    Calls Try.prog 58 #[maV a an acn ao aco, maV b bn bcn bo bco, .int .i64 s, .int .i64 t] w fun e w' =>
      ∃ ad c l f, e = .returned (.tuple #[.slice ad l.length c, .bool f]) ∧ Hid (ansW (firstW a b s t) l f) ∧ Sl (fun k => k < w.heap.size) w' ad c l ∧ Below w.heap.size w w' := by
  obtain ⟨s, rfl⟩ := Int.eq_ofNat_of_zero_le hs0
  obtain ⟨t, rfl⟩ := Int.eq_ofNat_of_zero_le ht0
  exact firstR_any ha hb ea eb hi s t (by omega) (by omega)

set_option maxRecDepth 100000 in
set_option maxHeartbeats 2000000 in
theorem dist_any (ha : Ma M w an acn ao aco a) (hb : Ma M w bn bcn bo bco b) :
    Calls Try.prog 31 #[maV a an acn ao aco, maV b bn bcn bo bco] w fun e w' => ∃ ad c l f, e = .returned (.tuple #[.slice ad l.length c, .bool f, .int .i64 (chk a b)]) ∧ Hid (ansW (distW a b) l f) ∧ Sl (fun k => k < w.heap.size) w' ad c l ∧ Below w.heap.size w w' := by
  have HA := Lib.hid (ha.ext ((Ext.alloc M w (maO a an acn ao aco)).trans (Ext.alloc M _ (maO b bn bcn bo bco))))
  have HB := Lib.hid (hb.ext ((Ext.alloc M w (maO a an acn ao aco)).trans (Ext.alloc M _ (maO b bn bcn bo bco))))
  have h0 : Below w.heap.size w ((w.alloc (maO a an acn ao aco)).alloc (maO b bn bcn bo bco)) := ((Below.refl _ _).alloc (Nat.le_refl _) _).alloc (by simp) _
  have hCa : C4 ((w.alloc (maO a an acn ao aco)).alloc (maO b bn bcn bo bco)) w.heap.size an acn ao aco a := (c4_new w).below (B := w.heap.size + 1) ((Below.refl _ _).alloc (by simp) _) (by omega)
  have hCb : C4 ((w.alloc (maO a an acn ao aco)).alloc (maO b bn bcn bo bco)) (w.heap.size + 1) bn bcn bo bco b := by simpa using c4_new (m := b) (an := bn) (cn := bcn) (ao := bo) (co := bco) (w.alloc (maO a an acn ao aco))
  have HC := Lib.hid (check_any HA.out HB.out)
  clear ha hb
  by_cases h : chk a b = 0
  · have h' : (chk a b != 0) = false := by simp [h]
    have H := Lib.hid h
    have HZ := Lib.hid (chk_zero h)
    clear h
    go_enter Try.func31, Try.ntmps31
    go_wp2_with fail
    refine (HC.out).mono ?_
    rintro e w1 ⟨rfl, hb1⟩
    have hz1 : w.heap.size + 2 ≤ w1.heap.size := by have := hb1.size; simpa using this
    have hB1 : Below (w.heap.size + 2) ((w.alloc (maO a an acn ao aco)).alloc (maO b bn bcn bo bco)) w1 := hb1.mono (by simp)
    have hCa1 := hCa.below hB1 (by omega)
    have hCb1 := hCb.below hB1 (by omega)
    obtain ⟨j0, j1, j2, j3⟩ := hCa1
    obtain ⟨k0, k1, k2, k3⟩ := hCb1
    have OA := Lib.hid (a.ok_of_err HZ.out.1)
    have OB := Lib.hid (b.ok_of_err HZ.out.2.1)
    have HS := Lib.hid (searchI (HA.out.below (by simpa using hb1)) (HB.out.below (by simpa using hb1)) HZ.out.1 HZ.out.2.1 HZ.out.2.2 a.start b.start OA.out.s0 OA.out.s1 OB.out.s0 OB.out.s1)
    clear hb1 HC
    go_wp2_with fail
    refine (HS.out).mono ?_
    rintro e w2 ⟨ad, c, l, f, rfl, hans, hsl, hb2⟩
    have hBf := (h0.trans (hB1.mono (by omega))).trans (hb2.mono (by omega))
    have hS2 := hsl.anti (M' := fun k => k < w.heap.size) (fun k _ hk => by omega)
    clear HS
    go_wp2
    go_ret3
    refine ⟨ad, c, l, f, ret3_int H.out.symm, ?_, hS2, hBf⟩
    · unfold Hid distW; rw [if_pos H.out]; exact hans.out
  · have h' : (chk a b != 0) = true := by simp [h]
    have H := Lib.hid h
    clear h
    go_enter Try.func31, Try.ntmps31
    go_wp2_with fail
    refine (HC.out).mono ?_
    rintro e w1 ⟨rfl, hb1⟩
    have hB1 : Below (w.heap.size + 2) ((w.alloc (maO a an acn ao aco)).alloc (maO b bn bcn bo bco)) w1 := hb1.mono (by simp)
    have hBf := h0.trans (hB1.mono (by omega))
    clear HC hb1
    go_wp2
    go_ret3
    refine ⟨none, 0, [], false, rfl, ?_, Sl.nil _ _ _ (by unfold maxLen; omega), hBf⟩
    unfold Hid distW; rw [if_neg H.out]; exact ⟨rfl, rfl⟩
set_option maxRecDepth 100000 in
set_option maxHeartbeats 2000000 in
theorem distR_any (ha : Ma M w an acn ao aco a) (hb : Ma M w bn bcn bo bco b) :
    Calls Try.prog 32 #[maV a an acn ao aco, maV b bn bcn bo bco] w fun e w' => ∃ ad c l f, e = .returned (.tuple #[.slice ad l.length c, .bool f, .int .i64 (chk a b)]) ∧ Hid (ansW (distW a b) l f) ∧ Sl (fun k => k < w.heap.size) w' ad c l ∧ Below w.heap.size w w' := by
  have HA := Lib.hid (ha.ext ((Ext.alloc M w (maO a an acn ao aco)).trans (Ext.alloc M _ (maO b bn bcn bo bco))))
  have HB := Lib.hid (hb.ext ((Ext.alloc M w (maO a an acn ao aco)).trans (Ext.alloc M _ (maO b bn bcn bo bco))))
  have h0 : Below w.heap.size w ((w.alloc (maO a an acn ao aco)).alloc (maO b bn bcn bo bco)) := ((Below.refl _ _).alloc (Nat.le_refl _) _).alloc (by simp) _
  have hCa : C4 ((w.alloc (maO a an acn ao aco)).alloc (maO b bn bcn bo bco)) w.heap.size an acn ao aco a := (c4_new w).below (B := w.heap.size + 1) ((Below.refl _ _).alloc (by simp) _) (by omega)
  have hCb : C4 ((w.alloc (maO a an acn ao aco)).alloc (maO b bn bcn bo bco)) (w.heap.size + 1) bn bcn bo bco b := by simpa using c4_new (m := b) (an := bn) (cn := bcn) (ao := bo) (co := bco) (w.alloc (maO a an acn ao aco))
  have HC := Lib.hid (checkR_any HA.out HB.out)
  clear ha hb
  by_cases h : chk a b = 0
  · have h' : (chk a b != 0) = false := by simp [h]
    have H := Lib.hid h
    have HZ := Lib.hid (chk_zero h)
    clear h
    go_enter Try.func32, Try.ntmps32
    go_wp2_with fail
    refine (HC.out).mono ?_
    rintro e w1 ⟨rfl, hb1⟩
    have hz1 : w.heap.size + 2 ≤ w1.heap.size := by have := hb1.size; simpa using this
    have hB1 : Below (w.heap.size + 2) ((w.alloc (maO a an acn ao aco)).alloc (maO b bn bcn bo bco)) w1 := hb1.mono (by simp)
    have hCa1 := hCa.below hB1 (by omega)
    have hCb1 := hCb.below hB1 (by omega)
    obtain ⟨j0, j1, j2, j3⟩ := hCa1
    obtain ⟨k0, k1, k2, k3⟩ := hCb1
    have OA := Lib.hid (a.ok_of_err HZ.out.1)
    have OB := Lib.hid (b.ok_of_err HZ.out.2.1)
    have HS := Lib.hid (firstRI (HA.out.below (by simpa using hb1)) (HB.out.below (by simpa using hb1)) HZ.out.1 HZ.out.2.1 HZ.out.2.2 a.start b.start OA.out.s0 OA.out.s1 OB.out.s0 OB.out.s1)
    clear hb1 HC
    go_wp2_with fail
    refine (HS.out).mono ?_
    rintro e w2 ⟨ad, c, l, f, rfl, hans, hsl, hb2⟩
    have hBf := (h0.trans (hB1.mono (by omega))).trans (hb2.mono (by omega))
    have hS2 := hsl.anti (M' := fun k => k < w.heap.size) (fun k _ hk => by omega)
    clear HS
    go_wp2
    go_ret3
    refine ⟨ad, c, l, f, ret3_int H.out.symm, ?_, hS2, hBf⟩
    · unfold Hid distW; rw [if_pos H.out]; exact hans.out
  · have h' : (chk a b != 0) = true := by simp [h]
    have H := Lib.hid h
    clear h
    go_enter Try.func32, Try.ntmps32
    go_wp2_with fail
    refine (HC.out).mono ?_
    rintro e w1 ⟨rfl, hb1⟩
    have hB1 : Below (w.heap.size + 2) ((w.alloc (maO a an acn ao aco)).alloc (maO b bn bcn bo bco)) w1 := hb1.mono (by simp)
    have hBf := h0.trans (hB1.mono (by omega))
    clear HC hb1
    go_wp2
    go_ret3
    refine ⟨none, 0, [], false, rfl, ?_, Sl.nil _ _ _ (by unfold maxLen; omega), hBf⟩
    unfold Hid distW; rw [if_neg H.out]; exact ⟨rfl, rfl⟩

set_option maxRecDepth 100000 in
set_option maxHeartbeats 2000000 in
theorem eqm_any (ha : Ma M w an acn ao aco a) (hb : Ma M w bn bcn bo bco b) :
    Calls Try.prog 33 #[maV a an acn ao aco, maV b bn bcn bo bco] w fun e w' => ∃ f, e = .returned (.tuple #[.bool f, .int .i64 (chk a b)]) ∧ Hid (f = decide (chk a b = 0 ∧ distW a b = none)) ∧ Below w.heap.size w w' := by
  have HD := Lib.hid (dist_any (ha.ext ((Ext.alloc M w (maO a an acn ao aco)).trans (Ext.alloc M _ (maO b bn bcn bo bco)))) (hb.ext ((Ext.alloc M w (maO a an acn ao aco)).trans (Ext.alloc M _ (maO b bn bcn bo bco)))))
  have h0 : Below w.heap.size w ((w.alloc (maO a an acn ao aco)).alloc (maO b bn bcn bo bco)) := ((Below.refl _ _).alloc (Nat.le_refl _) _).alloc (by simp) _
  have hzW : w.heap.size ≤ ((w.alloc (maO a an acn ao aco)).alloc (maO b bn bcn bo bco)).heap.size := by simp; omega
  clear ha hb
  by_cases h : chk a b = 0
  · have h' : (chk a b == 0) = true := by simp [h]
    have H := Lib.hid h
    clear h
    go_enter Try.func33, Try.ntmps33
    go_wp2_with fail
    refine (HD.out).mono ?_
    rintro e w1 ⟨ad, c, l, f, rfl, hans, -, hb1⟩
    have hBf := h0.trans (hb1.mono hzW)
    clear HD
    have hans2 : Hid (f = (distW a b).isSome) := hans.out.2
    cases f with
    | true =>
      go_wp2
      go_ret2
      refine ⟨_, rfl, ?_, hBf⟩
      unfold Hid
      have h2 := hans2.out
      cases hd : distW a b with
      | none => rw [hd] at h2; simp at h2
      | some v => simp
    | false =>
      go_wp2
      go_ret2
      refine ⟨_, rfl, ?_, hBf⟩
      unfold Hid
      have h2 := hans2.out
      cases hd : distW a b with
      | none => simp [H.out]
      | some v => rw [hd] at h2; simp at h2
  · have h' : (chk a b == 0) = false := by simp [h]
    have H := Lib.hid h
    clear h
    go_enter Try.func33, Try.ntmps33
    go_wp2_with fail
    refine (HD.out).mono ?_
    rintro e w1 ⟨ad, c, l, f, rfl, hans, -, hb1⟩
    have hBf := h0.trans (hb1.mono hzW)
    clear HD
    go_wp2
    go_ret2
    refine ⟨_, rfl, ?_, hBf⟩
    unfold Hid
    have := H.out
    simp [this]
set_option maxRecDepth 100000 in
set_option maxHeartbeats 2000000 in
theorem eqmR_any (ha : Ma M w an acn ao aco a) (hb : Ma M w bn bcn bo bco b) :
    Calls Try.prog 34 #[maV a an acn ao aco, maV b bn bcn bo bco] w fun e w' => ∃ f, e = .returned (.tuple #[.bool f, .int .i64 (chk a b)]) ∧ Hid (f = decide (chk a b = 0 ∧ distW a b = none)) ∧ Below w.heap.size w w' := by
  have HD := Lib.hid (distR_any (ha.ext ((Ext.alloc M w (maO a an acn ao aco)).trans (Ext.alloc M _ (maO b bn bcn bo bco)))) (hb.ext ((Ext.alloc M w (maO a an acn ao aco)).trans (Ext.alloc M _ (maO b bn bcn bo bco)))))
  have h0 : Below w.heap.size w ((w.alloc (maO a an acn ao aco)).alloc (maO b bn bcn bo bco)) := ((Below.refl _ _).alloc (Nat.le_refl _) _).alloc (by simp) _
  have hzW : w.heap.size ≤ ((w.alloc (maO a an acn ao aco)).alloc (maO b bn bcn bo bco)).heap.size := by simp; omega
  clear ha hb
  by_cases h : chk a b = 0
  · have h' : (chk a b == 0) = true := by simp [h]
    have H := Lib.hid h
    clear h
    go_enter Try.func34, Try.ntmps34
    go_wp2_with fail
    refine (HD.out).mono ?_
    rintro e w1 ⟨ad, c, l, f, rfl, hans, -, hb1⟩
    have hBf := h0.trans (hb1.mono hzW)
    clear HD
    have hans2 : Hid (f = (distW a b).isSome) := hans.out.2
    cases f with
    | true =>
      go_wp2
      go_ret2
      refine ⟨_, rfl, ?_, hBf⟩
      unfold Hid
      have h2 := hans2.out
      cases hd : distW a b with
      | none => rw [hd] at h2; simp at h2
      | some v => simp
    | false =>
      go_wp2
      go_ret2
      refine ⟨_, rfl, ?_, hBf⟩
      unfold Hid
      have h2 := hans2.out
      cases hd : distW a b with
      | none => simp [H.out]
      | some v => rw [hd] at h2; simp at h2
  · have h' : (chk a b == 0) = false := by simp [h]
    have H := Lib.hid h
    clear h
    go_enter Try.func34, Try.ntmps34
    go_wp2_with fail
    refine (HD.out).mono ?_
    rintro e w1 ⟨ad, c, l, f, rfl, hans, -, hb1⟩
    have hBf := h0.trans (hb1.mono hzW)
    clear HD
    go_wp2
    go_ret2
    refine ⟨_, rfl, ?_, hBf⟩
    unfold Hid
    have := H.out
    simp [this]

set_option maxRecDepth 100000 in
set_option maxHeartbeats 2000000 in
theorem upto_any (ha : Ma M w an acn ao aco a) (hb : Ma M w bn bcn bo bco b) (n : Int) (hn : i64 n) :
    Calls Try.prog 39 #[maV a an acn ao aco, maV b bn bcn bo bco, .int .i64 n] w fun e w' => ∃ f, e = .returned (.tuple #[.bool f, .int .i64 (chk a b)]) ∧ Hid (f = uptoB a b n) ∧ Below w.heap.size w w' := by
  have HD := Lib.hid (dist_any (ha.ext ((Ext.alloc M w (maO a an acn ao aco)).trans (Ext.alloc M _ (maO b bn bcn bo bco)))) (hb.ext ((Ext.alloc M w (maO a an acn ao aco)).trans (Ext.alloc M _ (maO b bn bcn bo bco)))))
  have h0 : Below w.heap.size w ((w.alloc (maO a an acn ao aco)).alloc (maO b bn bcn bo bco)) := ((Below.refl _ _).alloc (Nat.le_refl _) _).alloc (by simp) _
  have hzW : w.heap.size ≤ ((w.alloc (maO a an acn ao aco)).alloc (maO b bn bcn bo bco)).heap.size := by simp; omega
  have HN := Lib.hid hn
  clear ha hb hn
  by_cases h : chk a b = 0
  · have h' : (chk a b == 0) = true := by simp [h]
    have H := Lib.hid h
    clear h
    go_enter Try.func39, Try.ntmps39
    go_wp2_with fail
    refine (HD.out).mono ?_
    rintro e w1 ⟨ad, c, l, f, rfl, hans, hsl, hb1⟩
    have hBf := h0.trans (hb1.mono hzW)
    have hll := hsl.le
    clear HD hsl
    cases f with
    | true =>
      have hl : Hid (distW a b = some l) := by
        have h1 := hans.out.1
        have h2 := hans.out.2
        unfold Hid
        cases hd : distW a b with
        | none => rw [hd] at h2; simp at h2
        | some v => rw [hd] at h1; simp at h1; rw [h1]
      by_cases hlt : n < (l.length : Int)
      · have HL := Lib.hid (show true = uptoB a b n from (upto_yes H.out hl.out hlt).symm)
        go_wp2
        go_ret2
        exact ⟨true, by first | rfl | simp [hlt], HL, hBf⟩
      · have HL := Lib.hid (show false = uptoB a b n from (upto_no hl.out hlt).symm)
        go_wp2
        go_ret2
        exact ⟨false, by first | rfl | simp [hlt], HL, hBf⟩
    | false =>
      have hd : Hid (distW a b = none) := by
        have h2 := hans.out.2
        unfold Hid
        cases hd : distW a b with
        | none => rfl
        | some v => rw [hd] at h2; simp at h2
      have HL := Lib.hid (show true = uptoB a b n from (upto_none H.out hd.out).symm)
      go_wp2
      go_ret2
      exact ⟨true, rfl, HL, hBf⟩
  · have h' : (chk a b == 0) = false := by simp [h]
    have HL := Lib.hid (show false = uptoB a b n from (upto_err h).symm)
    have H := Lib.hid h
    clear h
    go_enter Try.func39, Try.ntmps39
    go_wp2_with fail
    refine (HD.out).mono ?_
    rintro e w1 ⟨ad, c, l, f, rfl, hans, -, hb1⟩
    have hBf := h0.trans (hb1.mono hzW)
    clear HD
    go_wp2
    go_ret2
    exact ⟨false, rfl, HL, hBf⟩
set_option maxRecDepth 100000 in
set_option maxHeartbeats 2000000 in
theorem uptoR_any (ha : Ma M w an acn ao aco a) (hb : Ma M w bn bcn bo bco b) (n : Int) (hn : i64 n) :
    Calls Try.prog 40 #[maV a an acn ao aco, maV b bn bcn bo bco, .int .i64 n] w fun e w' => ∃ f, e = .returned (.tuple #[.bool f, .int .i64 (chk a b)]) ∧ Hid (f = uptoB a b n) ∧ Below w.heap.size w w' := by
  have HD := Lib.hid (distR_any (ha.ext ((Ext.alloc M w (maO a an acn ao aco)).trans (Ext.alloc M _ (maO b bn bcn bo bco)))) (hb.ext ((Ext.alloc M w (maO a an acn ao aco)).trans (Ext.alloc M _ (maO b bn bcn bo bco)))))
  have h0 : Below w.heap.size w ((w.alloc (maO a an acn ao aco)).alloc (maO b bn bcn bo bco)) := ((Below.refl _ _).alloc (Nat.le_refl _) _).alloc (by simp) _
  have hzW : w.heap.size ≤ ((w.alloc (maO a an acn ao aco)).alloc (maO b bn bcn bo bco)).heap.size := by simp; omega
  have HN := Lib.hid hn
  clear ha hb hn
  by_cases h : chk a b = 0
  · have h' : (chk a b == 0) = true := by simp [h]
    have H := Lib.hid h
    clear h
    go_enter Try.func40, Try.ntmps40
    go_wp2_with fail
    refine (HD.out).mono ?_
    rintro e w1 ⟨ad, c, l, f, rfl, hans, hsl, hb1⟩
    have hBf := h0.trans (hb1.mono hzW)
    have hll := hsl.le
    clear HD hsl
    cases f with
    | true =>
      have hl : Hid (distW a b = some l) := by
        have h1 := hans.out.1
        have h2 := hans.out.2
        unfold Hid
        cases hd : distW a b with
        | none => rw [hd] at h2; simp at h2
        | some v => rw [hd] at h1; simp at h1; rw [h1]
      by_cases hlt : n < (l.length : Int)
      · have HL := Lib.hid (show true = uptoB a b n from (upto_yes H.out hl.out hlt).symm)
        go_wp2
        go_ret2
        exact ⟨true, by first | rfl | simp [hlt], HL, hBf⟩
      · have HL := Lib.hid (show false = uptoB a b n from (upto_no hl.out hlt).symm)
        go_wp2
        go_ret2
        exact ⟨false, by first | rfl | simp [hlt], HL, hBf⟩
    | false =>
      have hd : Hid (distW a b = none) := by
        have h2 := hans.out.2
        unfold Hid
        cases hd : distW a b with
        | none => rfl
        | some v => rw [hd] at h2; simp at h2
      have HL := Lib.hid (show true = uptoB a b n from (upto_none H.out hd.out).symm)
      go_wp2
      go_ret2
      exact ⟨true, rfl, HL, hBf⟩
  · have h' : (chk a b == 0) = false := by simp [h]
    have HL := Lib.hid (show false = uptoB a b n from (upto_err h).symm)
    have H := Lib.hid h
    clear h
    go_enter Try.func40, Try.ntmps40
    go_wp2_with fail
    refine (HD.out).mono ?_
    rintro e w1 ⟨ad, c, l, f, rfl, hans, -, hb1⟩
    have hBf := h0.trans (hb1.mono hzW)
    clear HD
    go_wp2
    go_ret2
    exact ⟨false, rfl, HL, hBf⟩

set_option maxRecDepth 100000 in
set_option maxHeartbeats 4000000 in
theorem states_any (ha : Ma M w an acn ao aco a) (s t : Int) (hs : i64 s) (ht : i64 t) :
    Calls Try.prog 35 #[maV a an acn ao aco, .int .i64 s, .int .i64 t] w fun e w' => ∃ ad c l f, e = .returned (.tuple #[.slice ad l.length c, .bool f, .int .i64 (stErr a s t)]) ∧ Hid (ansW (stW a s t) l f) ∧ Sl (fun k => k < w.heap.size) w' ad c l ∧ Below w.heap.size w w' := by
  have HA := Lib.hid (ha.ext (Ext.alloc M w (maO a an acn ao aco)))
  have h0 : Below w.heap.size w (w.alloc (maO a an acn ao aco)) := (Below.refl _ _).alloc (Nat.le_refl _) _
  have hCa : C4 (w.alloc (maO a an acn ao aco)) w.heap.size an acn ao aco a := c4_new w
  have HV := Lib.hid (valid_any HA.out)
  have HS64 := Lib.hid (And.intro hs ht)
  have hnl := ha.next.le
  clear ha hs ht
  by_cases h : a.err = 0
  · have h' : (a.err != 0) = false := by simp [h]
    have H := Lib.hid h
    clear h
    rcases st_cases H.out s t with ⟨h1, h2⟩ | ⟨h1, h3, h2⟩ | ⟨h1, h3, h4, h2⟩ | ⟨h1, h3, h4, h5, h2⟩ | ⟨h1, h3, h4, h5, h2⟩
    · have H2 := Lib.hid h2
      clear h2
      go_enter Try.func35, Try.ntmps35
      go_wp2_with fail
      refine (HV.out).mono ?_
      rintro e w1 ⟨rfl, hb1⟩
      have hB1 : Below (w.heap.size + 1) (w.alloc (maO a an acn ao aco)) w1 := hb1.mono (by simp)
      have hBf := h0.trans (hB1.mono (by omega))
      obtain ⟨j0, j1, j2, j3⟩ := hCa.below hB1 (by omega)
      clear HV hb1
      go_wp2
      go_ret3
      refine ⟨none, 0, [], false, ret3_int H2.out.symm, ?_, Sl.nil _ _ _ (by unfold maxLen; omega), hBf⟩
      unfold Hid stW; rw [if_neg (by rw [H2.out]; decide)]; exact ⟨rfl, rfl⟩
    · have H2 := Lib.hid h2
      clear h2
      go_enter Try.func35, Try.ntmps35
      go_wp2_with fail
      refine (HV.out).mono ?_
      rintro e w1 ⟨rfl, hb1⟩
      have hB1 : Below (w.heap.size + 1) (w.alloc (maO a an acn ao aco)) w1 := hb1.mono (by simp)
      have hBf := h0.trans (hB1.mono (by omega))
      obtain ⟨j0, j1, j2, j3⟩ := hCa.below hB1 (by omega)
      clear HV hb1
      go_wp2
      go_ret3
      refine ⟨none, 0, [], false, ret3_int H2.out.symm, ?_, Sl.nil _ _ _ (by unfold maxLen; omega), hBf⟩
      unfold Hid stW; rw [if_neg (by rw [H2.out]; decide)]; exact ⟨rfl, rfl⟩
    · have H2 := Lib.hid h2
      clear h2
      go_enter Try.func35, Try.ntmps35
      go_wp2_with fail
      refine (HV.out).mono ?_
      rintro e w1 ⟨rfl, hb1⟩
      have hB1 : Below (w.heap.size + 1) (w.alloc (maO a an acn ao aco)) w1 := hb1.mono (by simp)
      have hBf := h0.trans (hB1.mono (by omega))
      obtain ⟨j0, j1, j2, j3⟩ := hCa.below hB1 (by omega)
      clear HV hb1
      go_wp2
      go_ret3
      refine ⟨none, 0, [], false, ret3_int H2.out.symm, ?_, Sl.nil _ _ _ (by unfold maxLen; omega), hBf⟩
      unfold Hid stW; rw [if_neg (by rw [H2.out]; decide)]; exact ⟨rfl, rfl⟩
    · have H2 := Lib.hid h2
      clear h2
      go_enter Try.func35, Try.ntmps35
      go_wp2_with fail
      refine (HV.out).mono ?_
      rintro e w1 ⟨rfl, hb1⟩
      have hB1 : Below (w.heap.size + 1) (w.alloc (maO a an acn ao aco)) w1 := hb1.mono (by simp)
      have hBf := h0.trans (hB1.mono (by omega))
      obtain ⟨j0, j1, j2, j3⟩ := hCa.below hB1 (by omega)
      clear HV hb1
      go_wp2
      go_ret3
      refine ⟨none, 0, [], false, ret3_int H2.out.symm, ?_, Sl.nil _ _ _ (by unfold maxLen; omega), hBf⟩
      unfold Hid stW; rw [if_neg (by rw [H2.out]; decide)]; exact ⟨rfl, rfl⟩
    · have H2 := Lib.hid h2
      clear h2
      go_enter Try.func35, Try.ntmps35
      go_wp2_with fail
      refine (HV.out).mono ?_
      rintro e w1 ⟨rfl, hb1⟩
      have hz1 : w.heap.size + 1 ≤ w1.heap.size := by have := hb1.size; simpa using this
      have hB1 : Below (w.heap.size + 1) (w.alloc (maO a an acn ao aco)) w1 := hb1.mono (by simp)
      obtain ⟨j0, j1, j2, j3⟩ := hCa.below hB1 (by omega)
      have HS := Lib.hid (searchI (HA.out.below (by simpa using hb1)) (HA.out.below (by simpa using hb1)) H.out H.out rfl s t (by omega) (by omega) (by omega) (by omega))
      clear HV hb1
      go_wp2_with fail
      refine (HS.out).mono ?_
      rintro e w2 ⟨ad, c, l, f, rfl, hans, hsl, hb2⟩
      have hBf := (h0.trans (hB1.mono (by omega))).trans (hb2.mono (by omega))
      have hS2 := hsl.anti (M' := fun k => k < w.heap.size) (fun k _ hk => by omega)
      clear HS
      go_wp2
      go_ret3
      refine ⟨ad, c, l, f, ret3_int H2.out.symm, ?_, hS2, hBf⟩
      unfold Hid stW; rw [if_pos H2.out]; exact hans.out
  · have h' : (a.err != 0) = true := by simp [h]
    have H2 := Lib.hid (st_err (s := s) (t := t) h)
    have H := Lib.hid h
    clear h
    go_enter Try.func35, Try.ntmps35
    go_wp2_with fail
    refine (HV.out).mono ?_
    rintro e w1 ⟨rfl, hb1⟩
    have hB1 : Below (w.heap.size + 1) (w.alloc (maO a an acn ao aco)) w1 := hb1.mono (by simp)
    have hBf := h0.trans (hB1.mono (by omega))
    clear HV hb1
    go_wp2
    go_ret3
    refine ⟨none, 0, [], false, ret3_int H2.out.symm, ?_, Sl.nil _ _ _ (by unfold maxLen; omega), hBf⟩
    unfold Hid stW; rw [if_neg (by rw [H2.out]; exact H.out)]; exact ⟨rfl, rfl⟩
set_option maxRecDepth 100000 in
set_option maxHeartbeats 4000000 in
theorem statesR_any (ha : Ma M w an acn ao aco a) (s t : Int) (hs : i64 s) (ht : i64 t) :
    Calls Try.prog 36 #[maV a an acn ao aco, .int .i64 s, .int .i64 t] w fun e w' => ∃ ad c l f, e = .returned (.tuple #[.slice ad l.length c, .bool f, .int .i64 (stErr a s t)]) ∧ Hid (ansW (stW a s t) l f) ∧ Sl (fun k => k < w.heap.size) w' ad c l ∧ Below w.heap.size w w' := by
  have HA := Lib.hid (ha.ext (Ext.alloc M w (maO a an acn ao aco)))
  have h0 : Below w.heap.size w (w.alloc (maO a an acn ao aco)) := (Below.refl _ _).alloc (Nat.le_refl _) _
  have hCa : C4 (w.alloc (maO a an acn ao aco)) w.heap.size an acn ao aco a := c4_new w
  have HV := Lib.hid (valid6_any HA.out)
  have HS64 := Lib.hid (And.intro hs ht)
  have hnl := ha.next.le
  clear ha hs ht
  by_cases h : a.err = 0
  · have h' : (a.err != 0) = false := by simp [h]
    have H := Lib.hid h
    clear h
    rcases st_cases H.out s t with ⟨h1, h2⟩ | ⟨h1, h3, h2⟩ | ⟨h1, h3, h4, h2⟩ | ⟨h1, h3, h4, h5, h2⟩ | ⟨h1, h3, h4, h5, h2⟩
    · have H2 := Lib.hid h2
      clear h2
      go_enter Try.func36, Try.ntmps36
      go_wp2_with fail
      refine (HV.out).mono ?_
      rintro e w1 ⟨rfl, hb1⟩
      have hB1 : Below (w.heap.size + 1) (w.alloc (maO a an acn ao aco)) w1 := hb1.mono (by simp)
      have hBf := h0.trans (hB1.mono (by omega))
      obtain ⟨j0, j1, j2, j3⟩ := hCa.below hB1 (by omega)
      clear HV hb1
      go_wp2
      go_ret3
      refine ⟨none, 0, [], false, ret3_int H2.out.symm, ?_, Sl.nil _ _ _ (by unfold maxLen; omega), hBf⟩
      unfold Hid stW; rw [if_neg (by rw [H2.out]; decide)]; exact ⟨rfl, rfl⟩
    · have H2 := Lib.hid h2
      clear h2
      go_enter Try.func36, Try.ntmps36
      go_wp2_with fail
      refine (HV.out).mono ?_
      rintro e w1 ⟨rfl, hb1⟩
      have hB1 : Below (w.heap.size + 1) (w.alloc (maO a an acn ao aco)) w1 := hb1.mono (by simp)
      have hBf := h0.trans (hB1.mono (by omega))
      obtain ⟨j0, j1, j2, j3⟩ := hCa.below hB1 (by omega)
      clear HV hb1
      go_wp2
      go_ret3
      refine ⟨none, 0, [], false, ret3_int H2.out.symm, ?_, Sl.nil _ _ _ (by unfold maxLen; omega), hBf⟩
      unfold Hid stW; rw [if_neg (by rw [H2.out]; decide)]; exact ⟨rfl, rfl⟩
    · have H2 := Lib.hid h2
      clear h2
      go_enter Try.func36, Try.ntmps36
      go_wp2_with fail
      refine (HV.out).mono ?_
      rintro e w1 ⟨rfl, hb1⟩
      have hB1 : Below (w.heap.size + 1) (w.alloc (maO a an acn ao aco)) w1 := hb1.mono (by simp)
      have hBf := h0.trans (hB1.mono (by omega))
      obtain ⟨j0, j1, j2, j3⟩ := hCa.below hB1 (by omega)
      clear HV hb1
      go_wp2
      go_ret3
      refine ⟨none, 0, [], false, ret3_int H2.out.symm, ?_, Sl.nil _ _ _ (by unfold maxLen; omega), hBf⟩
      unfold Hid stW; rw [if_neg (by rw [H2.out]; decide)]; exact ⟨rfl, rfl⟩
    · have H2 := Lib.hid h2
      clear h2
      go_enter Try.func36, Try.ntmps36
      go_wp2_with fail
      refine (HV.out).mono ?_
      rintro e w1 ⟨rfl, hb1⟩
      have hB1 : Below (w.heap.size + 1) (w.alloc (maO a an acn ao aco)) w1 := hb1.mono (by simp)
      have hBf := h0.trans (hB1.mono (by omega))
      obtain ⟨j0, j1, j2, j3⟩ := hCa.below hB1 (by omega)
      clear HV hb1
      go_wp2
      go_ret3
      refine ⟨none, 0, [], false, ret3_int H2.out.symm, ?_, Sl.nil _ _ _ (by unfold maxLen; omega), hBf⟩
      unfold Hid stW; rw [if_neg (by rw [H2.out]; decide)]; exact ⟨rfl, rfl⟩
    · have H2 := Lib.hid h2
      clear h2
      go_enter Try.func36, Try.ntmps36
      go_wp2_with fail
      refine (HV.out).mono ?_
      rintro e w1 ⟨rfl, hb1⟩
      have hz1 : w.heap.size + 1 ≤ w1.heap.size := by have := hb1.size; simpa using this
      have hB1 : Below (w.heap.size + 1) (w.alloc (maO a an acn ao aco)) w1 := hb1.mono (by simp)
      obtain ⟨j0, j1, j2, j3⟩ := hCa.below hB1 (by omega)
      have HS := Lib.hid (firstRI (HA.out.below (by simpa using hb1)) (HA.out.below (by simpa using hb1)) H.out H.out rfl s t (by omega) (by omega) (by omega) (by omega))
      clear HV hb1
      go_wp2_with fail
      refine (HS.out).mono ?_
      rintro e w2 ⟨ad, c, l, f, rfl, hans, hsl, hb2⟩
      have hBf := (h0.trans (hB1.mono (by omega))).trans (hb2.mono (by omega))
      have hS2 := hsl.anti (M' := fun k => k < w.heap.size) (fun k _ hk => by omega)
      clear HS
      go_wp2
      go_ret3
      refine ⟨ad, c, l, f, ret3_int H2.out.symm, ?_, hS2, hBf⟩
      unfold Hid stW; rw [if_pos H2.out]; exact hans.out
  · have h' : (a.err != 0) = true := by simp [h]
    have H2 := Lib.hid (st_err (s := s) (t := t) h)
    have H := Lib.hid h
    clear h
    go_enter Try.func36, Try.ntmps36
    go_wp2_with fail
    refine (HV.out).mono ?_
    rintro e w1 ⟨rfl, hb1⟩
    have hB1 : Below (w.heap.size + 1) (w.alloc (maO a an acn ao aco)) w1 := hb1.mono (by simp)
    have hBf := h0.trans (hB1.mono (by omega))
    clear HV hb1
    go_wp2
    go_ret3
    refine ⟨none, 0, [], false, ret3_int H2.out.symm, ?_, Sl.nil _ _ _ (by unfold maxLen; omega), hBf⟩
    unfold Hid stW; rw [if_neg (by rw [H2.out]; exact H.out)]; exact ⟨rfl, rfl⟩
end
end Go.Proofs.Ytdnmgiabgpilkaa
