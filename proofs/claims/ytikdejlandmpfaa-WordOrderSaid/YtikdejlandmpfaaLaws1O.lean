/- The law of the orders of chapter 1. No condition. -/
import Derived.Test.YtikdejlandmpfaaLaws1R
namespace Go.Proofs.Ytikdejlandmpfaa
open Go.RowKit
section
variable {M : Nat → Prop} {w : World} {a b a3 : Option Addr} {c d c3 : Nat}
theorem lex_is {xs ys : List Int} (h1 : Sl M w a c xs) (h2 : Sl M w b d ys) {v : Int} (h : lexW xs ys = v) : Calls Try.prog 28 #[.slice a xs.length c, .slice b ys.length d] w fun e w' => e = .returned (.int .i64 v) ∧ Below w.heap.size w w' := by
  rw [← h]; exact (lex_any h1 h2).mono fun _ _ ⟨h3, h4⟩ => ⟨h3, by rw [h4]; exact Below.refl _ _⟩
theorem hasp_is {xs ys : List Int} (h1 : Sl M w a c xs) (h2 : Sl M w b d ys) {v : Bool} (h : decide (comW xs ys = ys.length) = v) : Calls Try.prog 30 #[.slice a xs.length c, .slice b ys.length d] w fun e w' => e = .returned (.bool v) ∧ Below w.heap.size w w' := by
  rw [← h]; exact (hasp_any h1 h2).mono fun _ _ ⟨h3, h4⟩ => ⟨h3, bel_drw h4⟩
theorem join2_is {xs ys : List Int} (h1 : Sl (fun _ => False) w a c xs) (h2 : Sl (fun _ => False) w b d ys) (hx : xs.length ≤ 300) (hy : ys.length ≤ 300) :
    Calls Try.prog 18 #[.slice (some ⟨w.heap.size, 0, none⟩) 2 2] (w.alloc (.cells #[.slice a xs.length c, .slice b ys.length d] 22)) fun e w' =>
      ∃ (a' : Option Addr) (c' : Nat) (l : List Int), e = .returned (.slice a' l.length c') ∧ Hid (l = xs ++ ys) ∧ Sl (fun _ => False) w' a' c' l ∧ Below w.heap.size w w' := by
  refine (join_any (rows := [xs, ys]) (M := fun _ => False) (Sl.litr (T := 22) (vs := #[.slice a xs.length c, .slice b ys.length d]) (heap_alloc_new _ _) id rfl (by unfold maxLen; simp) fun j r hj => ?_) (by simp <;> omega)).mono
    fun _ _ ⟨a, c, l, h1, h2, h3, h4⟩ => ⟨a, c, l, h1, by simpa using h2, sl_free h3, bel_alloc h4⟩
  match j, hj with
  | 0, hj => obtain rfl : xs = r := by simpa using hj
             exact ⟨_, _, rfl, h1.alloc _⟩
  | 1, hj => obtain rfl : ys = r := by simpa using hj
             exact ⟨_, _, rfl, h2.alloc _⟩
  | j + 2, hj => simp at hj

set_option maxRecDepth 100000 in
theorem lorder_long0 {xs ys zs : List Int} (h1 : Sl M w a c xs) (h2 : Sl M w b d ys) (h3 : Sl M w a3 c3 zs) (k0 : 300 < xs.length) :
    Calls Try.prog 8 #[.slice a xs.length c, .slice b ys.length d, .slice a3 zs.length c3] w fun e w' => e = .returned (.bool true) ∧ Below w.heap.size w w' := by
  have e1 := h1.le
  have e2 := h2.le
  have e3 := h3.le
  have hB0 := Below.refl w.heap.size w
  have d0 : decide (300 < ((xs.length : Nat) : Int)) = true := by simp <;> omega
  go_enter Try.func8, Try.ntmps8
  go_wp2_with fail
  refine (awake1_any).mono ?_
  rintro e wz ⟨rfl, hbz⟩
  have hBf := hB0.trans (hbz.mono hB0.size)
  go_wp2
  go_ret
  exact ⟨rfl, hBf⟩

set_option maxRecDepth 100000 in
theorem lorder_long1 {xs ys zs : List Int} (h1 : Sl M w a c xs) (h2 : Sl M w b d ys) (h3 : Sl M w a3 c3 zs) (k0 : ¬ 300 < xs.length) (k1 : 300 < ys.length) :
    Calls Try.prog 8 #[.slice a xs.length c, .slice b ys.length d, .slice a3 zs.length c3] w fun e w' => e = .returned (.bool true) ∧ Below w.heap.size w w' := by
  have e1 := h1.le
  have e2 := h2.le
  have e3 := h3.le
  have hB0 := Below.refl w.heap.size w
  have d0 : decide (300 < ((xs.length : Nat) : Int)) = false := by simp <;> omega
  have d1 : decide (300 < ((ys.length : Nat) : Int)) = true := by simp <;> omega
  go_enter Try.func8, Try.ntmps8
  go_wp2_with fail
  refine (awake1_any).mono ?_
  rintro e wz ⟨rfl, hbz⟩
  have hBf := hB0.trans (hbz.mono hB0.size)
  go_wp2
  go_ret
  exact ⟨rfl, hBf⟩

set_option maxRecDepth 100000 in
theorem lorder_long2 {xs ys zs : List Int} (h1 : Sl M w a c xs) (h2 : Sl M w b d ys) (h3 : Sl M w a3 c3 zs) (k0 : ¬ 300 < xs.length) (k1 : ¬ 300 < ys.length) (k2 : 300 < zs.length) :
    Calls Try.prog 8 #[.slice a xs.length c, .slice b ys.length d, .slice a3 zs.length c3] w fun e w' => e = .returned (.bool true) ∧ Below w.heap.size w w' := by
  have e1 := h1.le
  have e2 := h2.le
  have e3 := h3.le
  have hB0 := Below.refl w.heap.size w
  have d0 : decide (300 < ((xs.length : Nat) : Int)) = false := by simp <;> omega
  have d1 : decide (300 < ((ys.length : Nat) : Int)) = false := by simp <;> omega
  have d2 : decide (300 < ((zs.length : Nat) : Int)) = true := by simp <;> omega
  go_enter Try.func8, Try.ntmps8
  go_wp2_with fail
  refine (awake1_any).mono ?_
  rintro e wz ⟨rfl, hbz⟩
  have hBf := hB0.trans (hbz.mono hB0.size)
  go_wp2
  go_ret
  exact ⟨rfl, hBf⟩

set_option maxRecDepth 100000 in
set_option maxHeartbeats 8000000 in
theorem lorder_w0 {xs ys zs : List Int} (h1 : Sl (fun _ => False) w a c xs) (h2 : Sl (fun _ => False) w b d ys) (h3 : Sl (fun _ => False) w a3 c3 zs) (k0 : ¬ 300 < xs.length) (k1 : ¬ 300 < ys.length) (k2 : ¬ 300 < zs.length) (hx : cmpW xs ys = 1) (hl : lexW xs ys = 1) (hp : decide (comW xs ys = ys.length) = true) (hn : decide (xs.length < ys.length) = false) :
    Calls Try.prog 8 #[.slice a xs.length c, .slice b ys.length d, .slice a3 zs.length c3] w fun e w' => e = .returned (.bool true) ∧ Below w.heap.size w w' := by
  have e0 := h1.le
  have d0 : decide (300 < ((xs.length : Nat) : Int)) = false := by simp <;> omega
  have e1 := h2.le
  have d1 : decide (300 < ((ys.length : Nat) : Int)) = false := by simp <;> omega
  have e2 := h3.le
  have d2 : decide (300 < ((zs.length : Nat) : Int)) = false := by simp <;> omega
  have hB0 := Below.refl w.heap.size w
  have HX := Lib.hid hx
  have HL := Lib.hid hl
  have HX2 := Lib.hid (show cmpW ys xs = -1 by have := cmp_swap xs ys; omega)
  have HL2 := Lib.hid (show lexW ys xs = -1 by have := lex_swap xs ys; omega)
  have HS := Lib.hid (show decide (xs = ys) = false by exact decide_eq_false (fun e => by rw [e, cmp_same] at hx; cases hx))
  have HXX := Lib.hid (cmp_same xs)
  have HJ := Lib.hid (cmp_app zs xs ys)
  have HJ2 := Lib.hid (lex_app zs xs ys)
  have HP := Lib.hid hp
  obtain ⟨Y, HY⟩ : ∃ Y, Hid (cmpW ys zs = Y) := ⟨_, rfl⟩
  obtain ⟨Z, HZ⟩ : ∃ Z, Hid (cmpW xs zs = Z) := ⟨_, rfl⟩
  obtain ⟨R, HR⟩ : ∃ R, Hid (lexW ys zs = R) := ⟨_, rfl⟩
  obtain ⟨S, HT⟩ : ∃ S, Hid (lexW xs zs = S) := ⟨_, rfl⟩
  clear hx hl hp
  go_enter Try.func8, Try.ntmps8
  go_wp2_with fail
  refine (cmp_is h1 h2 HX.out).mono ?_
  rintro e w1 ⟨rfl, hb1⟩
  have hB1 := hB0.trans (hb1.mono hB0.size)
  replace h1 := h1.below hb1
  replace h2 := h2.below hb1
  replace h3 := h3.below hb1
  clear hb1 
  go_wp2_with fail
  refine (cmp_is h2 h3 HY.out).mono ?_
  rintro e w2 ⟨rfl, hb2⟩
  have hB2 := hB1.trans (hb2.mono hB1.size)
  replace h1 := h1.below hb2
  replace h2 := h2.below hb2
  replace h3 := h3.below hb2
  clear hb2 
  go_wp2_with fail
  refine (cmp_is h1 h3 HZ.out).mono ?_
  rintro e w3 ⟨rfl, hb3⟩
  have hB3 := hB2.trans (hb3.mono hB2.size)
  replace h1 := h1.below hb3
  replace h2 := h2.below hb3
  replace h3 := h3.below hb3
  clear hb3 
  go_wp2_with fail
  refine (lex_is h1 h2 HL.out).mono ?_
  rintro e w4 ⟨rfl, hb4⟩
  have hB4 := hB3.trans (hb4.mono hB3.size)
  replace h1 := h1.below hb4
  replace h2 := h2.below hb4
  replace h3 := h3.below hb4
  clear hb4 
  go_wp2_with fail
  refine (lex_is h2 h3 HR.out).mono ?_
  rintro e w5 ⟨rfl, hb5⟩
  have hB5 := hB4.trans (hb5.mono hB4.size)
  replace h1 := h1.below hb5
  replace h2 := h2.below hb5
  replace h3 := h3.below hb5
  clear hb5 
  go_wp2_with fail
  refine (lex_is h1 h3 HT.out).mono ?_
  rintro e w6 ⟨rfl, hb6⟩
  have hB6 := hB5.trans (hb6.mono hB5.size)
  replace h1 := h1.below hb6
  replace h2 := h2.below hb6
  replace h3 := h3.below hb6
  clear hb6 
  go_wp2_with fail
  refine (cmp_is h2 h1 HX2.out).mono ?_
  rintro e w7 ⟨rfl, hb7⟩
  have hB7 := hB6.trans (hb7.mono hB6.size)
  replace h1 := h1.below hb7
  replace h2 := h2.below hb7
  replace h3 := h3.below hb7
  clear hb7 
  go_wp2_with fail
  refine (lex_is h2 h1 HL2.out).mono ?_
  rintro e w8 ⟨rfl, hb8⟩
  have hB8 := hB7.trans (hb8.mono hB7.size)
  replace h1 := h1.below hb8
  replace h2 := h2.below hb8
  replace h3 := h3.below hb8
  clear hb8 
  go_wp2_with fail
  refine (same1_eq h1 h2 HS.out).mono ?_
  rintro e w9 ⟨rfl, hb9⟩
  have hB9 := hB8.trans (hb9.mono hB8.size)
  replace h1 := h1.below hb9
  replace h2 := h2.below hb9
  replace h3 := h3.below hb9
  clear hb9 
  go_wp2_with fail
  refine (cmp_is h1 h1 HXX.out).mono ?_
  rintro e w10 ⟨rfl, hb10⟩
  have hB10 := hB9.trans (hb10.mono hB9.size)
  replace h1 := h1.below hb10
  replace h2 := h2.below hb10
  replace h3 := h3.below hb10
  clear hb10 
  go_wp2_with fail
  refine (hasp_is h1 h2 HP.out).mono ?_
  rintro e w11 ⟨rfl, hb11⟩
  have hB11 := hB10.trans (hb11.mono hB10.size)
  replace h1 := h1.below hb11
  replace h2 := h2.below hb11
  replace h3 := h3.below hb11
  clear hb11 
  go_wp2_with fail
  refine (join2_is h3 h1 (by omega) (by omega)).mono ?_
  rintro e w12 ⟨p1, q1, l1, rfl, hl1, s1, hb12⟩
  have hB12 := hB11.trans (hb12.mono hB11.size)
  replace h1 := h1.below hb12
  replace h2 := h2.below hb12
  replace h3 := h3.below hb12
  clear hb12 
  go_wp2_with fail
  refine (join2_is h3 h2 (by omega) (by omega)).mono ?_
  rintro e w13 ⟨p2, q2, l2, rfl, hl2, s2, hb13⟩
  have hB13 := hB12.trans (hb13.mono hB12.size)
  replace h1 := h1.below hb13
  replace h2 := h2.below hb13
  replace h3 := h3.below hb13
  replace s1 := s1.below hb13
  clear hb13 
  go_wp2_with fail
  have HC : Hid (cmpW l1 l2 = 1) := by unfold Hid; rw [hl1.out, hl2.out, HJ.out]; exact HX.out
  refine (cmp_is s1 s2 HC.out).mono ?_
  rintro e w14 ⟨rfl, hb14⟩
  have hB14 := hB13.trans (hb14.mono hB13.size)
  replace h1 := h1.below hb14
  replace h2 := h2.below hb14
  replace h3 := h3.below hb14
  clear hb14 s1 s2
  go_wp2_with fail
  refine (join2_is h3 h1 (by omega) (by omega)).mono ?_
  rintro e w15 ⟨p3, q3, l3, rfl, hl3, s3, hb15⟩
  have hB15 := hB14.trans (hb15.mono hB14.size)
  replace h1 := h1.below hb15
  replace h2 := h2.below hb15
  replace h3 := h3.below hb15
  clear hb15 
  go_wp2_with fail
  refine (join2_is h3 h2 (by omega) (by omega)).mono ?_
  rintro e w16 ⟨p4, q4, l4, rfl, hl4, s4, hb16⟩
  have hB16 := hB15.trans (hb16.mono hB15.size)
  replace s3 := s3.below hb16
  clear hb16 
  go_wp2_with fail
  have HD : Hid (lexW l3 l4 = 1) := by unfold Hid; rw [hl3.out, hl4.out, HJ2.out]; exact HL.out
  refine (lex_is s3 s4 HD.out).mono ?_
  rintro e w17 ⟨rfl, hb17⟩
  have hB17 := hB16.trans (hb17.mono hB16.size)
  clear hb17 s3 s4
  go_wp2_with fail
  refine (awake1_any).mono ?_
  rintro e wz ⟨rfl, hbz⟩
  have hBf := hB17.trans (hbz.mono hB17.size)
  go_wp2
  go_ret
  exact ⟨rfl, hBf⟩

set_option maxRecDepth 100000 in
set_option maxHeartbeats 8000000 in
theorem lorder_w1 {xs ys zs : List Int} (h1 : Sl (fun _ => False) w a c xs) (h2 : Sl (fun _ => False) w b d ys) (h3 : Sl (fun _ => False) w a3 c3 zs) (k0 : ¬ 300 < xs.length) (k1 : ¬ 300 < ys.length) (k2 : ¬ 300 < zs.length) (hx : cmpW xs ys = 1) (hl : lexW xs ys = 1) (hp : decide (comW xs ys = ys.length) = false) (hn : decide (xs.length < ys.length) = false) :
    Calls Try.prog 8 #[.slice a xs.length c, .slice b ys.length d, .slice a3 zs.length c3] w fun e w' => e = .returned (.bool true) ∧ Below w.heap.size w w' := by
  have e0 := h1.le
  have d0 : decide (300 < ((xs.length : Nat) : Int)) = false := by simp <;> omega
  have e1 := h2.le
  have d1 : decide (300 < ((ys.length : Nat) : Int)) = false := by simp <;> omega
  have e2 := h3.le
  have d2 : decide (300 < ((zs.length : Nat) : Int)) = false := by simp <;> omega
  have hB0 := Below.refl w.heap.size w
  have HX := Lib.hid hx
  have HL := Lib.hid hl
  have HX2 := Lib.hid (show cmpW ys xs = -1 by have := cmp_swap xs ys; omega)
  have HL2 := Lib.hid (show lexW ys xs = -1 by have := lex_swap xs ys; omega)
  have HS := Lib.hid (show decide (xs = ys) = false by exact decide_eq_false (fun e => by rw [e, cmp_same] at hx; cases hx))
  have HXX := Lib.hid (cmp_same xs)
  have HJ := Lib.hid (cmp_app zs xs ys)
  have HJ2 := Lib.hid (lex_app zs xs ys)
  have HP := Lib.hid hp
  obtain ⟨Y, HY⟩ : ∃ Y, Hid (cmpW ys zs = Y) := ⟨_, rfl⟩
  obtain ⟨Z, HZ⟩ : ∃ Z, Hid (cmpW xs zs = Z) := ⟨_, rfl⟩
  obtain ⟨R, HR⟩ : ∃ R, Hid (lexW ys zs = R) := ⟨_, rfl⟩
  obtain ⟨S, HT⟩ : ∃ S, Hid (lexW xs zs = S) := ⟨_, rfl⟩
  clear hx hl hp
  go_enter Try.func8, Try.ntmps8
  go_wp2_with fail
  refine (cmp_is h1 h2 HX.out).mono ?_
  rintro e w1 ⟨rfl, hb1⟩
  have hB1 := hB0.trans (hb1.mono hB0.size)
  replace h1 := h1.below hb1
  replace h2 := h2.below hb1
  replace h3 := h3.below hb1
  clear hb1 
  go_wp2_with fail
  refine (cmp_is h2 h3 HY.out).mono ?_
  rintro e w2 ⟨rfl, hb2⟩
  have hB2 := hB1.trans (hb2.mono hB1.size)
  replace h1 := h1.below hb2
  replace h2 := h2.below hb2
  replace h3 := h3.below hb2
  clear hb2 
  go_wp2_with fail
  refine (cmp_is h1 h3 HZ.out).mono ?_
  rintro e w3 ⟨rfl, hb3⟩
  have hB3 := hB2.trans (hb3.mono hB2.size)
  replace h1 := h1.below hb3
  replace h2 := h2.below hb3
  replace h3 := h3.below hb3
  clear hb3 
  go_wp2_with fail
  refine (lex_is h1 h2 HL.out).mono ?_
  rintro e w4 ⟨rfl, hb4⟩
  have hB4 := hB3.trans (hb4.mono hB3.size)
  replace h1 := h1.below hb4
  replace h2 := h2.below hb4
  replace h3 := h3.below hb4
  clear hb4 
  go_wp2_with fail
  refine (lex_is h2 h3 HR.out).mono ?_
  rintro e w5 ⟨rfl, hb5⟩
  have hB5 := hB4.trans (hb5.mono hB4.size)
  replace h1 := h1.below hb5
  replace h2 := h2.below hb5
  replace h3 := h3.below hb5
  clear hb5 
  go_wp2_with fail
  refine (lex_is h1 h3 HT.out).mono ?_
  rintro e w6 ⟨rfl, hb6⟩
  have hB6 := hB5.trans (hb6.mono hB5.size)
  replace h1 := h1.below hb6
  replace h2 := h2.below hb6
  replace h3 := h3.below hb6
  clear hb6 
  go_wp2_with fail
  refine (cmp_is h2 h1 HX2.out).mono ?_
  rintro e w7 ⟨rfl, hb7⟩
  have hB7 := hB6.trans (hb7.mono hB6.size)
  replace h1 := h1.below hb7
  replace h2 := h2.below hb7
  replace h3 := h3.below hb7
  clear hb7 
  go_wp2_with fail
  refine (lex_is h2 h1 HL2.out).mono ?_
  rintro e w8 ⟨rfl, hb8⟩
  have hB8 := hB7.trans (hb8.mono hB7.size)
  replace h1 := h1.below hb8
  replace h2 := h2.below hb8
  replace h3 := h3.below hb8
  clear hb8 
  go_wp2_with fail
  refine (same1_eq h1 h2 HS.out).mono ?_
  rintro e w9 ⟨rfl, hb9⟩
  have hB9 := hB8.trans (hb9.mono hB8.size)
  replace h1 := h1.below hb9
  replace h2 := h2.below hb9
  replace h3 := h3.below hb9
  clear hb9 
  go_wp2_with fail
  refine (cmp_is h1 h1 HXX.out).mono ?_
  rintro e w10 ⟨rfl, hb10⟩
  have hB10 := hB9.trans (hb10.mono hB9.size)
  replace h1 := h1.below hb10
  replace h2 := h2.below hb10
  replace h3 := h3.below hb10
  clear hb10 
  go_wp2_with fail
  refine (hasp_is h1 h2 HP.out).mono ?_
  rintro e w11 ⟨rfl, hb11⟩
  have hB11 := hB10.trans (hb11.mono hB10.size)
  replace h1 := h1.below hb11
  replace h2 := h2.below hb11
  replace h3 := h3.below hb11
  clear hb11 
  go_wp2_with fail
  refine (join2_is h3 h1 (by omega) (by omega)).mono ?_
  rintro e w12 ⟨p1, q1, l1, rfl, hl1, s1, hb12⟩
  have hB12 := hB11.trans (hb12.mono hB11.size)
  replace h1 := h1.below hb12
  replace h2 := h2.below hb12
  replace h3 := h3.below hb12
  clear hb12 
  go_wp2_with fail
  refine (join2_is h3 h2 (by omega) (by omega)).mono ?_
  rintro e w13 ⟨p2, q2, l2, rfl, hl2, s2, hb13⟩
  have hB13 := hB12.trans (hb13.mono hB12.size)
  replace h1 := h1.below hb13
  replace h2 := h2.below hb13
  replace h3 := h3.below hb13
  replace s1 := s1.below hb13
  clear hb13 
  go_wp2_with fail
  have HC : Hid (cmpW l1 l2 = 1) := by unfold Hid; rw [hl1.out, hl2.out, HJ.out]; exact HX.out
  refine (cmp_is s1 s2 HC.out).mono ?_
  rintro e w14 ⟨rfl, hb14⟩
  have hB14 := hB13.trans (hb14.mono hB13.size)
  replace h1 := h1.below hb14
  replace h2 := h2.below hb14
  replace h3 := h3.below hb14
  clear hb14 s1 s2
  go_wp2_with fail
  refine (join2_is h3 h1 (by omega) (by omega)).mono ?_
  rintro e w15 ⟨p3, q3, l3, rfl, hl3, s3, hb15⟩
  have hB15 := hB14.trans (hb15.mono hB14.size)
  replace h1 := h1.below hb15
  replace h2 := h2.below hb15
  replace h3 := h3.below hb15
  clear hb15 
  go_wp2_with fail
  refine (join2_is h3 h2 (by omega) (by omega)).mono ?_
  rintro e w16 ⟨p4, q4, l4, rfl, hl4, s4, hb16⟩
  have hB16 := hB15.trans (hb16.mono hB15.size)
  replace s3 := s3.below hb16
  clear hb16 
  go_wp2_with fail
  have HD : Hid (lexW l3 l4 = 1) := by unfold Hid; rw [hl3.out, hl4.out, HJ2.out]; exact HL.out
  refine (lex_is s3 s4 HD.out).mono ?_
  rintro e w17 ⟨rfl, hb17⟩
  have hB17 := hB16.trans (hb17.mono hB16.size)
  clear hb17 s3 s4
  go_wp2_with fail
  refine (awake1_any).mono ?_
  rintro e wz ⟨rfl, hbz⟩
  have hBf := hB17.trans (hbz.mono hB17.size)
  go_wp2
  go_ret
  exact ⟨rfl, hBf⟩

set_option maxRecDepth 100000 in
set_option maxHeartbeats 8000000 in
theorem lorder_w2 {xs ys zs : List Int} (h1 : Sl (fun _ => False) w a c xs) (h2 : Sl (fun _ => False) w b d ys) (h3 : Sl (fun _ => False) w a3 c3 zs) (k0 : ¬ 300 < xs.length) (k1 : ¬ 300 < ys.length) (k2 : ¬ 300 < zs.length) (hx : cmpW xs ys = 1) (hl : lexW xs ys = -1) (hm : lexW ys zs ≤ 0) (hp : decide (comW xs ys = ys.length) = false) (hn : decide (xs.length < ys.length) = false) :
    Calls Try.prog 8 #[.slice a xs.length c, .slice b ys.length d, .slice a3 zs.length c3] w fun e w' => e = .returned (.bool true) ∧ Below w.heap.size w w' := by
  have e0 := h1.le
  have d0 : decide (300 < ((xs.length : Nat) : Int)) = false := by simp <;> omega
  have e1 := h2.le
  have d1 : decide (300 < ((ys.length : Nat) : Int)) = false := by simp <;> omega
  have e2 := h3.le
  have d2 : decide (300 < ((zs.length : Nat) : Int)) = false := by simp <;> omega
  have hB0 := Below.refl w.heap.size w
  have HX := Lib.hid hx
  have HL := Lib.hid hl
  have HX2 := Lib.hid (show cmpW ys xs = -1 by have := cmp_swap xs ys; omega)
  have HL2 := Lib.hid (show lexW ys xs = 1 by have := lex_swap xs ys; omega)
  have HS := Lib.hid (show decide (xs = ys) = false by exact decide_eq_false (fun e => by rw [e, cmp_same] at hx; cases hx))
  have HXX := Lib.hid (cmp_same xs)
  have HJ := Lib.hid (cmp_app zs xs ys)
  have HJ2 := Lib.hid (lex_app zs xs ys)
  have HP := Lib.hid hp
  obtain ⟨Y, HY⟩ : ∃ Y, Hid (cmpW ys zs = Y) := ⟨_, rfl⟩
  obtain ⟨Z, HZ⟩ : ∃ Z, Hid (cmpW xs zs = Z) := ⟨_, rfl⟩
  obtain ⟨R, HR⟩ : ∃ R, Hid (lexW ys zs = R) := ⟨_, rfl⟩
  obtain ⟨S, HT⟩ : ∃ S, Hid (lexW xs zs = S) := ⟨_, rfl⟩
  have g0 : decide (R ≤ 0) = true := by rw [← HR.out]; simp <;> omega
  have t1 := lex_trans (a := xs) (b := ys) (c := zs) (by omega) hm
  rw [HT.out] at t1
  have g1 : decide (0 < S) = false := by simp <;> omega
  have g2 : decide (0 ≤ S) = false := by have := t1.2 (by omega); simp <;> omega
  clear t1
  clear hm
  clear hx hl hp
  go_enter Try.func8, Try.ntmps8
  go_wp2_with fail
  refine (cmp_is h1 h2 HX.out).mono ?_
  rintro e w1 ⟨rfl, hb1⟩
  have hB1 := hB0.trans (hb1.mono hB0.size)
  replace h1 := h1.below hb1
  replace h2 := h2.below hb1
  replace h3 := h3.below hb1
  clear hb1 
  go_wp2_with fail
  refine (cmp_is h2 h3 HY.out).mono ?_
  rintro e w2 ⟨rfl, hb2⟩
  have hB2 := hB1.trans (hb2.mono hB1.size)
  replace h1 := h1.below hb2
  replace h2 := h2.below hb2
  replace h3 := h3.below hb2
  clear hb2 
  go_wp2_with fail
  refine (cmp_is h1 h3 HZ.out).mono ?_
  rintro e w3 ⟨rfl, hb3⟩
  have hB3 := hB2.trans (hb3.mono hB2.size)
  replace h1 := h1.below hb3
  replace h2 := h2.below hb3
  replace h3 := h3.below hb3
  clear hb3 
  go_wp2_with fail
  refine (lex_is h1 h2 HL.out).mono ?_
  rintro e w4 ⟨rfl, hb4⟩
  have hB4 := hB3.trans (hb4.mono hB3.size)
  replace h1 := h1.below hb4
  replace h2 := h2.below hb4
  replace h3 := h3.below hb4
  clear hb4 
  go_wp2_with fail
  refine (lex_is h2 h3 HR.out).mono ?_
  rintro e w5 ⟨rfl, hb5⟩
  have hB5 := hB4.trans (hb5.mono hB4.size)
  replace h1 := h1.below hb5
  replace h2 := h2.below hb5
  replace h3 := h3.below hb5
  clear hb5 
  go_wp2_with fail
  refine (lex_is h1 h3 HT.out).mono ?_
  rintro e w6 ⟨rfl, hb6⟩
  have hB6 := hB5.trans (hb6.mono hB5.size)
  replace h1 := h1.below hb6
  replace h2 := h2.below hb6
  replace h3 := h3.below hb6
  clear hb6 
  go_wp2_with fail
  refine (cmp_is h2 h1 HX2.out).mono ?_
  rintro e w7 ⟨rfl, hb7⟩
  have hB7 := hB6.trans (hb7.mono hB6.size)
  replace h1 := h1.below hb7
  replace h2 := h2.below hb7
  replace h3 := h3.below hb7
  clear hb7 
  go_wp2_with fail
  refine (lex_is h2 h1 HL2.out).mono ?_
  rintro e w8 ⟨rfl, hb8⟩
  have hB8 := hB7.trans (hb8.mono hB7.size)
  replace h1 := h1.below hb8
  replace h2 := h2.below hb8
  replace h3 := h3.below hb8
  clear hb8 
  go_wp2_with fail
  refine (same1_eq h1 h2 HS.out).mono ?_
  rintro e w9 ⟨rfl, hb9⟩
  have hB9 := hB8.trans (hb9.mono hB8.size)
  replace h1 := h1.below hb9
  replace h2 := h2.below hb9
  replace h3 := h3.below hb9
  clear hb9 
  go_wp2_with fail
  refine (cmp_is h1 h1 HXX.out).mono ?_
  rintro e w10 ⟨rfl, hb10⟩
  have hB10 := hB9.trans (hb10.mono hB9.size)
  replace h1 := h1.below hb10
  replace h2 := h2.below hb10
  replace h3 := h3.below hb10
  clear hb10 
  go_wp2_with fail
  refine (hasp_is h1 h2 HP.out).mono ?_
  rintro e w11 ⟨rfl, hb11⟩
  have hB11 := hB10.trans (hb11.mono hB10.size)
  replace h1 := h1.below hb11
  replace h2 := h2.below hb11
  replace h3 := h3.below hb11
  clear hb11 
  go_wp2_with fail
  refine (join2_is h3 h1 (by omega) (by omega)).mono ?_
  rintro e w12 ⟨p1, q1, l1, rfl, hl1, s1, hb12⟩
  have hB12 := hB11.trans (hb12.mono hB11.size)
  replace h1 := h1.below hb12
  replace h2 := h2.below hb12
  replace h3 := h3.below hb12
  clear hb12 
  go_wp2_with fail
  refine (join2_is h3 h2 (by omega) (by omega)).mono ?_
  rintro e w13 ⟨p2, q2, l2, rfl, hl2, s2, hb13⟩
  have hB13 := hB12.trans (hb13.mono hB12.size)
  replace h1 := h1.below hb13
  replace h2 := h2.below hb13
  replace h3 := h3.below hb13
  replace s1 := s1.below hb13
  clear hb13 
  go_wp2_with fail
  have HC : Hid (cmpW l1 l2 = 1) := by unfold Hid; rw [hl1.out, hl2.out, HJ.out]; exact HX.out
  refine (cmp_is s1 s2 HC.out).mono ?_
  rintro e w14 ⟨rfl, hb14⟩
  have hB14 := hB13.trans (hb14.mono hB13.size)
  replace h1 := h1.below hb14
  replace h2 := h2.below hb14
  replace h3 := h3.below hb14
  clear hb14 s1 s2
  go_wp2_with fail
  refine (join2_is h3 h1 (by omega) (by omega)).mono ?_
  rintro e w15 ⟨p3, q3, l3, rfl, hl3, s3, hb15⟩
  have hB15 := hB14.trans (hb15.mono hB14.size)
  replace h1 := h1.below hb15
  replace h2 := h2.below hb15
  replace h3 := h3.below hb15
  clear hb15 
  go_wp2_with fail
  refine (join2_is h3 h2 (by omega) (by omega)).mono ?_
  rintro e w16 ⟨p4, q4, l4, rfl, hl4, s4, hb16⟩
  have hB16 := hB15.trans (hb16.mono hB15.size)
  replace s3 := s3.below hb16
  clear hb16 
  go_wp2_with fail
  have HD : Hid (lexW l3 l4 = -1) := by unfold Hid; rw [hl3.out, hl4.out, HJ2.out]; exact HL.out
  refine (lex_is s3 s4 HD.out).mono ?_
  rintro e w17 ⟨rfl, hb17⟩
  have hB17 := hB16.trans (hb17.mono hB16.size)
  clear hb17 s3 s4
  go_wp2_with fail
  refine (awake1_any).mono ?_
  rintro e wz ⟨rfl, hbz⟩
  have hBf := hB17.trans (hbz.mono hB17.size)
  go_wp2
  go_ret
  exact ⟨rfl, hBf⟩

set_option maxRecDepth 100000 in
set_option maxHeartbeats 8000000 in
theorem lorder_w3 {xs ys zs : List Int} (h1 : Sl (fun _ => False) w a c xs) (h2 : Sl (fun _ => False) w b d ys) (h3 : Sl (fun _ => False) w a3 c3 zs) (k0 : ¬ 300 < xs.length) (k1 : ¬ 300 < ys.length) (k2 : ¬ 300 < zs.length) (hx : cmpW xs ys = 1) (hl : lexW xs ys = -1) (hm : ¬ lexW ys zs ≤ 0) (hp : decide (comW xs ys = ys.length) = false) (hn : decide (xs.length < ys.length) = false) :
    Calls Try.prog 8 #[.slice a xs.length c, .slice b ys.length d, .slice a3 zs.length c3] w fun e w' => e = .returned (.bool true) ∧ Below w.heap.size w w' := by
  have e0 := h1.le
  have d0 : decide (300 < ((xs.length : Nat) : Int)) = false := by simp <;> omega
  have e1 := h2.le
  have d1 : decide (300 < ((ys.length : Nat) : Int)) = false := by simp <;> omega
  have e2 := h3.le
  have d2 : decide (300 < ((zs.length : Nat) : Int)) = false := by simp <;> omega
  have hB0 := Below.refl w.heap.size w
  have HX := Lib.hid hx
  have HL := Lib.hid hl
  have HX2 := Lib.hid (show cmpW ys xs = -1 by have := cmp_swap xs ys; omega)
  have HL2 := Lib.hid (show lexW ys xs = 1 by have := lex_swap xs ys; omega)
  have HS := Lib.hid (show decide (xs = ys) = false by exact decide_eq_false (fun e => by rw [e, cmp_same] at hx; cases hx))
  have HXX := Lib.hid (cmp_same xs)
  have HJ := Lib.hid (cmp_app zs xs ys)
  have HJ2 := Lib.hid (lex_app zs xs ys)
  have HP := Lib.hid hp
  obtain ⟨Y, HY⟩ : ∃ Y, Hid (cmpW ys zs = Y) := ⟨_, rfl⟩
  obtain ⟨Z, HZ⟩ : ∃ Z, Hid (cmpW xs zs = Z) := ⟨_, rfl⟩
  obtain ⟨R, HR⟩ : ∃ R, Hid (lexW ys zs = R) := ⟨_, rfl⟩
  obtain ⟨S, HT⟩ : ∃ S, Hid (lexW xs zs = S) := ⟨_, rfl⟩
  have g0 : decide (R ≤ 0) = false := by rw [← HR.out]; simp <;> omega
  clear hm
  clear hx hl hp
  go_enter Try.func8, Try.ntmps8
  go_wp2_with fail
  refine (cmp_is h1 h2 HX.out).mono ?_
  rintro e w1 ⟨rfl, hb1⟩
  have hB1 := hB0.trans (hb1.mono hB0.size)
  replace h1 := h1.below hb1
  replace h2 := h2.below hb1
  replace h3 := h3.below hb1
  clear hb1 
  go_wp2_with fail
  refine (cmp_is h2 h3 HY.out).mono ?_
  rintro e w2 ⟨rfl, hb2⟩
  have hB2 := hB1.trans (hb2.mono hB1.size)
  replace h1 := h1.below hb2
  replace h2 := h2.below hb2
  replace h3 := h3.below hb2
  clear hb2 
  go_wp2_with fail
  refine (cmp_is h1 h3 HZ.out).mono ?_
  rintro e w3 ⟨rfl, hb3⟩
  have hB3 := hB2.trans (hb3.mono hB2.size)
  replace h1 := h1.below hb3
  replace h2 := h2.below hb3
  replace h3 := h3.below hb3
  clear hb3 
  go_wp2_with fail
  refine (lex_is h1 h2 HL.out).mono ?_
  rintro e w4 ⟨rfl, hb4⟩
  have hB4 := hB3.trans (hb4.mono hB3.size)
  replace h1 := h1.below hb4
  replace h2 := h2.below hb4
  replace h3 := h3.below hb4
  clear hb4 
  go_wp2_with fail
  refine (lex_is h2 h3 HR.out).mono ?_
  rintro e w5 ⟨rfl, hb5⟩
  have hB5 := hB4.trans (hb5.mono hB4.size)
  replace h1 := h1.below hb5
  replace h2 := h2.below hb5
  replace h3 := h3.below hb5
  clear hb5 
  go_wp2_with fail
  refine (lex_is h1 h3 HT.out).mono ?_
  rintro e w6 ⟨rfl, hb6⟩
  have hB6 := hB5.trans (hb6.mono hB5.size)
  replace h1 := h1.below hb6
  replace h2 := h2.below hb6
  replace h3 := h3.below hb6
  clear hb6 
  go_wp2_with fail
  refine (cmp_is h2 h1 HX2.out).mono ?_
  rintro e w7 ⟨rfl, hb7⟩
  have hB7 := hB6.trans (hb7.mono hB6.size)
  replace h1 := h1.below hb7
  replace h2 := h2.below hb7
  replace h3 := h3.below hb7
  clear hb7 
  go_wp2_with fail
  refine (lex_is h2 h1 HL2.out).mono ?_
  rintro e w8 ⟨rfl, hb8⟩
  have hB8 := hB7.trans (hb8.mono hB7.size)
  replace h1 := h1.below hb8
  replace h2 := h2.below hb8
  replace h3 := h3.below hb8
  clear hb8 
  go_wp2_with fail
  refine (same1_eq h1 h2 HS.out).mono ?_
  rintro e w9 ⟨rfl, hb9⟩
  have hB9 := hB8.trans (hb9.mono hB8.size)
  replace h1 := h1.below hb9
  replace h2 := h2.below hb9
  replace h3 := h3.below hb9
  clear hb9 
  go_wp2_with fail
  refine (cmp_is h1 h1 HXX.out).mono ?_
  rintro e w10 ⟨rfl, hb10⟩
  have hB10 := hB9.trans (hb10.mono hB9.size)
  replace h1 := h1.below hb10
  replace h2 := h2.below hb10
  replace h3 := h3.below hb10
  clear hb10 
  go_wp2_with fail
  refine (hasp_is h1 h2 HP.out).mono ?_
  rintro e w11 ⟨rfl, hb11⟩
  have hB11 := hB10.trans (hb11.mono hB10.size)
  replace h1 := h1.below hb11
  replace h2 := h2.below hb11
  replace h3 := h3.below hb11
  clear hb11 
  go_wp2_with fail
  refine (join2_is h3 h1 (by omega) (by omega)).mono ?_
  rintro e w12 ⟨p1, q1, l1, rfl, hl1, s1, hb12⟩
  have hB12 := hB11.trans (hb12.mono hB11.size)
  replace h1 := h1.below hb12
  replace h2 := h2.below hb12
  replace h3 := h3.below hb12
  clear hb12 
  go_wp2_with fail
  refine (join2_is h3 h2 (by omega) (by omega)).mono ?_
  rintro e w13 ⟨p2, q2, l2, rfl, hl2, s2, hb13⟩
  have hB13 := hB12.trans (hb13.mono hB12.size)
  replace h1 := h1.below hb13
  replace h2 := h2.below hb13
  replace h3 := h3.below hb13
  replace s1 := s1.below hb13
  clear hb13 
  go_wp2_with fail
  have HC : Hid (cmpW l1 l2 = 1) := by unfold Hid; rw [hl1.out, hl2.out, HJ.out]; exact HX.out
  refine (cmp_is s1 s2 HC.out).mono ?_
  rintro e w14 ⟨rfl, hb14⟩
  have hB14 := hB13.trans (hb14.mono hB13.size)
  replace h1 := h1.below hb14
  replace h2 := h2.below hb14
  replace h3 := h3.below hb14
  clear hb14 s1 s2
  go_wp2_with fail
  refine (join2_is h3 h1 (by omega) (by omega)).mono ?_
  rintro e w15 ⟨p3, q3, l3, rfl, hl3, s3, hb15⟩
  have hB15 := hB14.trans (hb15.mono hB14.size)
  replace h1 := h1.below hb15
  replace h2 := h2.below hb15
  replace h3 := h3.below hb15
  clear hb15 
  go_wp2_with fail
  refine (join2_is h3 h2 (by omega) (by omega)).mono ?_
  rintro e w16 ⟨p4, q4, l4, rfl, hl4, s4, hb16⟩
  have hB16 := hB15.trans (hb16.mono hB15.size)
  replace s3 := s3.below hb16
  clear hb16 
  go_wp2_with fail
  have HD : Hid (lexW l3 l4 = -1) := by unfold Hid; rw [hl3.out, hl4.out, HJ2.out]; exact HL.out
  refine (lex_is s3 s4 HD.out).mono ?_
  rintro e w17 ⟨rfl, hb17⟩
  have hB17 := hB16.trans (hb17.mono hB16.size)
  clear hb17 s3 s4
  go_wp2_with fail
  refine (awake1_any).mono ?_
  rintro e wz ⟨rfl, hbz⟩
  have hBf := hB17.trans (hbz.mono hB17.size)
  go_wp2
  go_ret
  exact ⟨rfl, hBf⟩

set_option maxRecDepth 100000 in
set_option maxHeartbeats 8000000 in
theorem lorder_w4 {xs ys zs : List Int} (h1 : Sl (fun _ => False) w a c xs) (h2 : Sl (fun _ => False) w b d ys) (h3 : Sl (fun _ => False) w a3 c3 zs) (k0 : ¬ 300 < xs.length) (k1 : ¬ 300 < ys.length) (k2 : ¬ 300 < zs.length) (hx : cmpW xs ys = 0) (hl : lexW xs ys = 0) (hy : cmpW ys zs ≤ 0) (hm : lexW ys zs ≤ 0) (hp : decide (comW xs ys = ys.length) = true) (hn : decide (xs.length < ys.length) = false) :
    Calls Try.prog 8 #[.slice a xs.length c, .slice b ys.length d, .slice a3 zs.length c3] w fun e w' => e = .returned (.bool true) ∧ Below w.heap.size w w' := by
  have e0 := h1.le
  have d0 : decide (300 < ((xs.length : Nat) : Int)) = false := by simp <;> omega
  have e1 := h2.le
  have d1 : decide (300 < ((ys.length : Nat) : Int)) = false := by simp <;> omega
  have e2 := h3.le
  have d2 : decide (300 < ((zs.length : Nat) : Int)) = false := by simp <;> omega
  have hB0 := Below.refl w.heap.size w
  have HX := Lib.hid hx
  have HL := Lib.hid hl
  have HX2 := Lib.hid (show cmpW ys xs = 0 by have := cmp_swap xs ys; omega)
  have HL2 := Lib.hid (show lexW ys xs = 0 by have := lex_swap xs ys; omega)
  have HS := Lib.hid (show decide (xs = ys) = true by exact decide_eq_true (cmp_zero hx))
  have HXX := Lib.hid (cmp_same xs)
  have HJ := Lib.hid (cmp_app zs xs ys)
  have HJ2 := Lib.hid (lex_app zs xs ys)
  have HP := Lib.hid hp
  obtain ⟨Y, HY⟩ : ∃ Y, Hid (cmpW ys zs = Y) := ⟨_, rfl⟩
  obtain ⟨Z, HZ⟩ : ∃ Z, Hid (cmpW xs zs = Z) := ⟨_, rfl⟩
  obtain ⟨R, HR⟩ : ∃ R, Hid (lexW ys zs = R) := ⟨_, rfl⟩
  obtain ⟨S, HT⟩ : ∃ S, Hid (lexW xs zs = S) := ⟨_, rfl⟩
  have f0 : decide (Y ≤ 0) = true := by rw [← HY.out]; simp <;> omega
  have t0 := cmp_trans (a := xs) (b := ys) (c := zs) (by omega) hy
  rw [HZ.out] at t0
  have f1 : decide (0 < Z) = false := by simp <;> omega
  clear t0
  clear hy
  have g0 : decide (R ≤ 0) = true := by rw [← HR.out]; simp <;> omega
  have t1 := lex_trans (a := xs) (b := ys) (c := zs) (by omega) hm
  rw [HT.out] at t1
  have g1 : decide (0 < S) = false := by simp <;> omega
  clear t1
  clear hm
  clear hx hl hp
  go_enter Try.func8, Try.ntmps8
  go_wp2_with fail
  refine (cmp_is h1 h2 HX.out).mono ?_
  rintro e w1 ⟨rfl, hb1⟩
  have hB1 := hB0.trans (hb1.mono hB0.size)
  replace h1 := h1.below hb1
  replace h2 := h2.below hb1
  replace h3 := h3.below hb1
  clear hb1 
  go_wp2_with fail
  refine (cmp_is h2 h3 HY.out).mono ?_
  rintro e w2 ⟨rfl, hb2⟩
  have hB2 := hB1.trans (hb2.mono hB1.size)
  replace h1 := h1.below hb2
  replace h2 := h2.below hb2
  replace h3 := h3.below hb2
  clear hb2 
  go_wp2_with fail
  refine (cmp_is h1 h3 HZ.out).mono ?_
  rintro e w3 ⟨rfl, hb3⟩
  have hB3 := hB2.trans (hb3.mono hB2.size)
  replace h1 := h1.below hb3
  replace h2 := h2.below hb3
  replace h3 := h3.below hb3
  clear hb3 
  go_wp2_with fail
  refine (lex_is h1 h2 HL.out).mono ?_
  rintro e w4 ⟨rfl, hb4⟩
  have hB4 := hB3.trans (hb4.mono hB3.size)
  replace h1 := h1.below hb4
  replace h2 := h2.below hb4
  replace h3 := h3.below hb4
  clear hb4 
  go_wp2_with fail
  refine (lex_is h2 h3 HR.out).mono ?_
  rintro e w5 ⟨rfl, hb5⟩
  have hB5 := hB4.trans (hb5.mono hB4.size)
  replace h1 := h1.below hb5
  replace h2 := h2.below hb5
  replace h3 := h3.below hb5
  clear hb5 
  go_wp2_with fail
  refine (lex_is h1 h3 HT.out).mono ?_
  rintro e w6 ⟨rfl, hb6⟩
  have hB6 := hB5.trans (hb6.mono hB5.size)
  replace h1 := h1.below hb6
  replace h2 := h2.below hb6
  replace h3 := h3.below hb6
  clear hb6 
  go_wp2_with fail
  refine (cmp_is h2 h1 HX2.out).mono ?_
  rintro e w7 ⟨rfl, hb7⟩
  have hB7 := hB6.trans (hb7.mono hB6.size)
  replace h1 := h1.below hb7
  replace h2 := h2.below hb7
  replace h3 := h3.below hb7
  clear hb7 
  go_wp2_with fail
  refine (lex_is h2 h1 HL2.out).mono ?_
  rintro e w8 ⟨rfl, hb8⟩
  have hB8 := hB7.trans (hb8.mono hB7.size)
  replace h1 := h1.below hb8
  replace h2 := h2.below hb8
  replace h3 := h3.below hb8
  clear hb8 
  go_wp2_with fail
  refine (same1_eq h1 h2 HS.out).mono ?_
  rintro e w9 ⟨rfl, hb9⟩
  have hB9 := hB8.trans (hb9.mono hB8.size)
  replace h1 := h1.below hb9
  replace h2 := h2.below hb9
  replace h3 := h3.below hb9
  clear hb9 
  go_wp2_with fail
  refine (cmp_is h1 h1 HXX.out).mono ?_
  rintro e w10 ⟨rfl, hb10⟩
  have hB10 := hB9.trans (hb10.mono hB9.size)
  replace h1 := h1.below hb10
  replace h2 := h2.below hb10
  replace h3 := h3.below hb10
  clear hb10 
  go_wp2_with fail
  refine (hasp_is h1 h2 HP.out).mono ?_
  rintro e w11 ⟨rfl, hb11⟩
  have hB11 := hB10.trans (hb11.mono hB10.size)
  replace h1 := h1.below hb11
  replace h2 := h2.below hb11
  replace h3 := h3.below hb11
  clear hb11 
  go_wp2_with fail
  refine (join2_is h3 h1 (by omega) (by omega)).mono ?_
  rintro e w12 ⟨p1, q1, l1, rfl, hl1, s1, hb12⟩
  have hB12 := hB11.trans (hb12.mono hB11.size)
  replace h1 := h1.below hb12
  replace h2 := h2.below hb12
  replace h3 := h3.below hb12
  clear hb12 
  go_wp2_with fail
  refine (join2_is h3 h2 (by omega) (by omega)).mono ?_
  rintro e w13 ⟨p2, q2, l2, rfl, hl2, s2, hb13⟩
  have hB13 := hB12.trans (hb13.mono hB12.size)
  replace h1 := h1.below hb13
  replace h2 := h2.below hb13
  replace h3 := h3.below hb13
  replace s1 := s1.below hb13
  clear hb13 
  go_wp2_with fail
  have HC : Hid (cmpW l1 l2 = 0) := by unfold Hid; rw [hl1.out, hl2.out, HJ.out]; exact HX.out
  refine (cmp_is s1 s2 HC.out).mono ?_
  rintro e w14 ⟨rfl, hb14⟩
  have hB14 := hB13.trans (hb14.mono hB13.size)
  replace h1 := h1.below hb14
  replace h2 := h2.below hb14
  replace h3 := h3.below hb14
  clear hb14 s1 s2
  go_wp2_with fail
  refine (join2_is h3 h1 (by omega) (by omega)).mono ?_
  rintro e w15 ⟨p3, q3, l3, rfl, hl3, s3, hb15⟩
  have hB15 := hB14.trans (hb15.mono hB14.size)
  replace h1 := h1.below hb15
  replace h2 := h2.below hb15
  replace h3 := h3.below hb15
  clear hb15 
  go_wp2_with fail
  refine (join2_is h3 h2 (by omega) (by omega)).mono ?_
  rintro e w16 ⟨p4, q4, l4, rfl, hl4, s4, hb16⟩
  have hB16 := hB15.trans (hb16.mono hB15.size)
  replace s3 := s3.below hb16
  clear hb16 
  go_wp2_with fail
  have HD : Hid (lexW l3 l4 = 0) := by unfold Hid; rw [hl3.out, hl4.out, HJ2.out]; exact HL.out
  refine (lex_is s3 s4 HD.out).mono ?_
  rintro e w17 ⟨rfl, hb17⟩
  have hB17 := hB16.trans (hb17.mono hB16.size)
  clear hb17 s3 s4
  go_wp2_with fail
  refine (awake1_any).mono ?_
  rintro e wz ⟨rfl, hbz⟩
  have hBf := hB17.trans (hbz.mono hB17.size)
  go_wp2
  go_ret
  exact ⟨rfl, hBf⟩

set_option maxRecDepth 100000 in
set_option maxHeartbeats 8000000 in
theorem lorder_w5 {xs ys zs : List Int} (h1 : Sl (fun _ => False) w a c xs) (h2 : Sl (fun _ => False) w b d ys) (h3 : Sl (fun _ => False) w a3 c3 zs) (k0 : ¬ 300 < xs.length) (k1 : ¬ 300 < ys.length) (k2 : ¬ 300 < zs.length) (hx : cmpW xs ys = 0) (hl : lexW xs ys = 0) (hy : cmpW ys zs ≤ 0) (hm : ¬ lexW ys zs ≤ 0) (hp : decide (comW xs ys = ys.length) = true) (hn : decide (xs.length < ys.length) = false) :
    Calls Try.prog 8 #[.slice a xs.length c, .slice b ys.length d, .slice a3 zs.length c3] w fun e w' => e = .returned (.bool true) ∧ Below w.heap.size w w' := by
  have e0 := h1.le
  have d0 : decide (300 < ((xs.length : Nat) : Int)) = false := by simp <;> omega
  have e1 := h2.le
  have d1 : decide (300 < ((ys.length : Nat) : Int)) = false := by simp <;> omega
  have e2 := h3.le
  have d2 : decide (300 < ((zs.length : Nat) : Int)) = false := by simp <;> omega
  have hB0 := Below.refl w.heap.size w
  have HX := Lib.hid hx
  have HL := Lib.hid hl
  have HX2 := Lib.hid (show cmpW ys xs = 0 by have := cmp_swap xs ys; omega)
  have HL2 := Lib.hid (show lexW ys xs = 0 by have := lex_swap xs ys; omega)
  have HS := Lib.hid (show decide (xs = ys) = true by exact decide_eq_true (cmp_zero hx))
  have HXX := Lib.hid (cmp_same xs)
  have HJ := Lib.hid (cmp_app zs xs ys)
  have HJ2 := Lib.hid (lex_app zs xs ys)
  have HP := Lib.hid hp
  obtain ⟨Y, HY⟩ : ∃ Y, Hid (cmpW ys zs = Y) := ⟨_, rfl⟩
  obtain ⟨Z, HZ⟩ : ∃ Z, Hid (cmpW xs zs = Z) := ⟨_, rfl⟩
  obtain ⟨R, HR⟩ : ∃ R, Hid (lexW ys zs = R) := ⟨_, rfl⟩
  obtain ⟨S, HT⟩ : ∃ S, Hid (lexW xs zs = S) := ⟨_, rfl⟩
  have f0 : decide (Y ≤ 0) = true := by rw [← HY.out]; simp <;> omega
  have t0 := cmp_trans (a := xs) (b := ys) (c := zs) (by omega) hy
  rw [HZ.out] at t0
  have f1 : decide (0 < Z) = false := by simp <;> omega
  clear t0
  clear hy
  have g0 : decide (R ≤ 0) = false := by rw [← HR.out]; simp <;> omega
  clear hm
  clear hx hl hp
  go_enter Try.func8, Try.ntmps8
  go_wp2_with fail
  refine (cmp_is h1 h2 HX.out).mono ?_
  rintro e w1 ⟨rfl, hb1⟩
  have hB1 := hB0.trans (hb1.mono hB0.size)
  replace h1 := h1.below hb1
  replace h2 := h2.below hb1
  replace h3 := h3.below hb1
  clear hb1 
  go_wp2_with fail
  refine (cmp_is h2 h3 HY.out).mono ?_
  rintro e w2 ⟨rfl, hb2⟩
  have hB2 := hB1.trans (hb2.mono hB1.size)
  replace h1 := h1.below hb2
  replace h2 := h2.below hb2
  replace h3 := h3.below hb2
  clear hb2 
  go_wp2_with fail
  refine (cmp_is h1 h3 HZ.out).mono ?_
  rintro e w3 ⟨rfl, hb3⟩
  have hB3 := hB2.trans (hb3.mono hB2.size)
  replace h1 := h1.below hb3
  replace h2 := h2.below hb3
  replace h3 := h3.below hb3
  clear hb3 
  go_wp2_with fail
  refine (lex_is h1 h2 HL.out).mono ?_
  rintro e w4 ⟨rfl, hb4⟩
  have hB4 := hB3.trans (hb4.mono hB3.size)
  replace h1 := h1.below hb4
  replace h2 := h2.below hb4
  replace h3 := h3.below hb4
  clear hb4 
  go_wp2_with fail
  refine (lex_is h2 h3 HR.out).mono ?_
  rintro e w5 ⟨rfl, hb5⟩
  have hB5 := hB4.trans (hb5.mono hB4.size)
  replace h1 := h1.below hb5
  replace h2 := h2.below hb5
  replace h3 := h3.below hb5
  clear hb5 
  go_wp2_with fail
  refine (lex_is h1 h3 HT.out).mono ?_
  rintro e w6 ⟨rfl, hb6⟩
  have hB6 := hB5.trans (hb6.mono hB5.size)
  replace h1 := h1.below hb6
  replace h2 := h2.below hb6
  replace h3 := h3.below hb6
  clear hb6 
  go_wp2_with fail
  refine (cmp_is h2 h1 HX2.out).mono ?_
  rintro e w7 ⟨rfl, hb7⟩
  have hB7 := hB6.trans (hb7.mono hB6.size)
  replace h1 := h1.below hb7
  replace h2 := h2.below hb7
  replace h3 := h3.below hb7
  clear hb7 
  go_wp2_with fail
  refine (lex_is h2 h1 HL2.out).mono ?_
  rintro e w8 ⟨rfl, hb8⟩
  have hB8 := hB7.trans (hb8.mono hB7.size)
  replace h1 := h1.below hb8
  replace h2 := h2.below hb8
  replace h3 := h3.below hb8
  clear hb8 
  go_wp2_with fail
  refine (same1_eq h1 h2 HS.out).mono ?_
  rintro e w9 ⟨rfl, hb9⟩
  have hB9 := hB8.trans (hb9.mono hB8.size)
  replace h1 := h1.below hb9
  replace h2 := h2.below hb9
  replace h3 := h3.below hb9
  clear hb9 
  go_wp2_with fail
  refine (cmp_is h1 h1 HXX.out).mono ?_
  rintro e w10 ⟨rfl, hb10⟩
  have hB10 := hB9.trans (hb10.mono hB9.size)
  replace h1 := h1.below hb10
  replace h2 := h2.below hb10
  replace h3 := h3.below hb10
  clear hb10 
  go_wp2_with fail
  refine (hasp_is h1 h2 HP.out).mono ?_
  rintro e w11 ⟨rfl, hb11⟩
  have hB11 := hB10.trans (hb11.mono hB10.size)
  replace h1 := h1.below hb11
  replace h2 := h2.below hb11
  replace h3 := h3.below hb11
  clear hb11 
  go_wp2_with fail
  refine (join2_is h3 h1 (by omega) (by omega)).mono ?_
  rintro e w12 ⟨p1, q1, l1, rfl, hl1, s1, hb12⟩
  have hB12 := hB11.trans (hb12.mono hB11.size)
  replace h1 := h1.below hb12
  replace h2 := h2.below hb12
  replace h3 := h3.below hb12
  clear hb12 
  go_wp2_with fail
  refine (join2_is h3 h2 (by omega) (by omega)).mono ?_
  rintro e w13 ⟨p2, q2, l2, rfl, hl2, s2, hb13⟩
  have hB13 := hB12.trans (hb13.mono hB12.size)
  replace h1 := h1.below hb13
  replace h2 := h2.below hb13
  replace h3 := h3.below hb13
  replace s1 := s1.below hb13
  clear hb13 
  go_wp2_with fail
  have HC : Hid (cmpW l1 l2 = 0) := by unfold Hid; rw [hl1.out, hl2.out, HJ.out]; exact HX.out
  refine (cmp_is s1 s2 HC.out).mono ?_
  rintro e w14 ⟨rfl, hb14⟩
  have hB14 := hB13.trans (hb14.mono hB13.size)
  replace h1 := h1.below hb14
  replace h2 := h2.below hb14
  replace h3 := h3.below hb14
  clear hb14 s1 s2
  go_wp2_with fail
  refine (join2_is h3 h1 (by omega) (by omega)).mono ?_
  rintro e w15 ⟨p3, q3, l3, rfl, hl3, s3, hb15⟩
  have hB15 := hB14.trans (hb15.mono hB14.size)
  replace h1 := h1.below hb15
  replace h2 := h2.below hb15
  replace h3 := h3.below hb15
  clear hb15 
  go_wp2_with fail
  refine (join2_is h3 h2 (by omega) (by omega)).mono ?_
  rintro e w16 ⟨p4, q4, l4, rfl, hl4, s4, hb16⟩
  have hB16 := hB15.trans (hb16.mono hB15.size)
  replace s3 := s3.below hb16
  clear hb16 
  go_wp2_with fail
  have HD : Hid (lexW l3 l4 = 0) := by unfold Hid; rw [hl3.out, hl4.out, HJ2.out]; exact HL.out
  refine (lex_is s3 s4 HD.out).mono ?_
  rintro e w17 ⟨rfl, hb17⟩
  have hB17 := hB16.trans (hb17.mono hB16.size)
  clear hb17 s3 s4
  go_wp2_with fail
  refine (awake1_any).mono ?_
  rintro e wz ⟨rfl, hbz⟩
  have hBf := hB17.trans (hbz.mono hB17.size)
  go_wp2
  go_ret
  exact ⟨rfl, hBf⟩

set_option maxRecDepth 100000 in
set_option maxHeartbeats 8000000 in
theorem lorder_w6 {xs ys zs : List Int} (h1 : Sl (fun _ => False) w a c xs) (h2 : Sl (fun _ => False) w b d ys) (h3 : Sl (fun _ => False) w a3 c3 zs) (k0 : ¬ 300 < xs.length) (k1 : ¬ 300 < ys.length) (k2 : ¬ 300 < zs.length) (hx : cmpW xs ys = 0) (hl : lexW xs ys = 0) (hy : ¬ cmpW ys zs ≤ 0) (hm : lexW ys zs ≤ 0) (hp : decide (comW xs ys = ys.length) = true) (hn : decide (xs.length < ys.length) = false) :
    Calls Try.prog 8 #[.slice a xs.length c, .slice b ys.length d, .slice a3 zs.length c3] w fun e w' => e = .returned (.bool true) ∧ Below w.heap.size w w' := by
  have e0 := h1.le
  have d0 : decide (300 < ((xs.length : Nat) : Int)) = false := by simp <;> omega
  have e1 := h2.le
  have d1 : decide (300 < ((ys.length : Nat) : Int)) = false := by simp <;> omega
  have e2 := h3.le
  have d2 : decide (300 < ((zs.length : Nat) : Int)) = false := by simp <;> omega
  have hB0 := Below.refl w.heap.size w
  have HX := Lib.hid hx
  have HL := Lib.hid hl
  have HX2 := Lib.hid (show cmpW ys xs = 0 by have := cmp_swap xs ys; omega)
  have HL2 := Lib.hid (show lexW ys xs = 0 by have := lex_swap xs ys; omega)
  have HS := Lib.hid (show decide (xs = ys) = true by exact decide_eq_true (cmp_zero hx))
  have HXX := Lib.hid (cmp_same xs)
  have HJ := Lib.hid (cmp_app zs xs ys)
  have HJ2 := Lib.hid (lex_app zs xs ys)
  have HP := Lib.hid hp
  obtain ⟨Y, HY⟩ : ∃ Y, Hid (cmpW ys zs = Y) := ⟨_, rfl⟩
  obtain ⟨Z, HZ⟩ : ∃ Z, Hid (cmpW xs zs = Z) := ⟨_, rfl⟩
  obtain ⟨R, HR⟩ : ∃ R, Hid (lexW ys zs = R) := ⟨_, rfl⟩
  obtain ⟨S, HT⟩ : ∃ S, Hid (lexW xs zs = S) := ⟨_, rfl⟩
  have f0 : decide (Y ≤ 0) = false := by rw [← HY.out]; simp <;> omega
  clear hy
  have g0 : decide (R ≤ 0) = true := by rw [← HR.out]; simp <;> omega
  have t1 := lex_trans (a := xs) (b := ys) (c := zs) (by omega) hm
  rw [HT.out] at t1
  have g1 : decide (0 < S) = false := by simp <;> omega
  clear t1
  clear hm
  clear hx hl hp
  go_enter Try.func8, Try.ntmps8
  go_wp2_with fail
  refine (cmp_is h1 h2 HX.out).mono ?_
  rintro e w1 ⟨rfl, hb1⟩
  have hB1 := hB0.trans (hb1.mono hB0.size)
  replace h1 := h1.below hb1
  replace h2 := h2.below hb1
  replace h3 := h3.below hb1
  clear hb1 
  go_wp2_with fail
  refine (cmp_is h2 h3 HY.out).mono ?_
  rintro e w2 ⟨rfl, hb2⟩
  have hB2 := hB1.trans (hb2.mono hB1.size)
  replace h1 := h1.below hb2
  replace h2 := h2.below hb2
  replace h3 := h3.below hb2
  clear hb2 
  go_wp2_with fail
  refine (cmp_is h1 h3 HZ.out).mono ?_
  rintro e w3 ⟨rfl, hb3⟩
  have hB3 := hB2.trans (hb3.mono hB2.size)
  replace h1 := h1.below hb3
  replace h2 := h2.below hb3
  replace h3 := h3.below hb3
  clear hb3 
  go_wp2_with fail
  refine (lex_is h1 h2 HL.out).mono ?_
  rintro e w4 ⟨rfl, hb4⟩
  have hB4 := hB3.trans (hb4.mono hB3.size)
  replace h1 := h1.below hb4
  replace h2 := h2.below hb4
  replace h3 := h3.below hb4
  clear hb4 
  go_wp2_with fail
  refine (lex_is h2 h3 HR.out).mono ?_
  rintro e w5 ⟨rfl, hb5⟩
  have hB5 := hB4.trans (hb5.mono hB4.size)
  replace h1 := h1.below hb5
  replace h2 := h2.below hb5
  replace h3 := h3.below hb5
  clear hb5 
  go_wp2_with fail
  refine (lex_is h1 h3 HT.out).mono ?_
  rintro e w6 ⟨rfl, hb6⟩
  have hB6 := hB5.trans (hb6.mono hB5.size)
  replace h1 := h1.below hb6
  replace h2 := h2.below hb6
  replace h3 := h3.below hb6
  clear hb6 
  go_wp2_with fail
  refine (cmp_is h2 h1 HX2.out).mono ?_
  rintro e w7 ⟨rfl, hb7⟩
  have hB7 := hB6.trans (hb7.mono hB6.size)
  replace h1 := h1.below hb7
  replace h2 := h2.below hb7
  replace h3 := h3.below hb7
  clear hb7 
  go_wp2_with fail
  refine (lex_is h2 h1 HL2.out).mono ?_
  rintro e w8 ⟨rfl, hb8⟩
  have hB8 := hB7.trans (hb8.mono hB7.size)
  replace h1 := h1.below hb8
  replace h2 := h2.below hb8
  replace h3 := h3.below hb8
  clear hb8 
  go_wp2_with fail
  refine (same1_eq h1 h2 HS.out).mono ?_
  rintro e w9 ⟨rfl, hb9⟩
  have hB9 := hB8.trans (hb9.mono hB8.size)
  replace h1 := h1.below hb9
  replace h2 := h2.below hb9
  replace h3 := h3.below hb9
  clear hb9 
  go_wp2_with fail
  refine (cmp_is h1 h1 HXX.out).mono ?_
  rintro e w10 ⟨rfl, hb10⟩
  have hB10 := hB9.trans (hb10.mono hB9.size)
  replace h1 := h1.below hb10
  replace h2 := h2.below hb10
  replace h3 := h3.below hb10
  clear hb10 
  go_wp2_with fail
  refine (hasp_is h1 h2 HP.out).mono ?_
  rintro e w11 ⟨rfl, hb11⟩
  have hB11 := hB10.trans (hb11.mono hB10.size)
  replace h1 := h1.below hb11
  replace h2 := h2.below hb11
  replace h3 := h3.below hb11
  clear hb11 
  go_wp2_with fail
  refine (join2_is h3 h1 (by omega) (by omega)).mono ?_
  rintro e w12 ⟨p1, q1, l1, rfl, hl1, s1, hb12⟩
  have hB12 := hB11.trans (hb12.mono hB11.size)
  replace h1 := h1.below hb12
  replace h2 := h2.below hb12
  replace h3 := h3.below hb12
  clear hb12 
  go_wp2_with fail
  refine (join2_is h3 h2 (by omega) (by omega)).mono ?_
  rintro e w13 ⟨p2, q2, l2, rfl, hl2, s2, hb13⟩
  have hB13 := hB12.trans (hb13.mono hB12.size)
  replace h1 := h1.below hb13
  replace h2 := h2.below hb13
  replace h3 := h3.below hb13
  replace s1 := s1.below hb13
  clear hb13 
  go_wp2_with fail
  have HC : Hid (cmpW l1 l2 = 0) := by unfold Hid; rw [hl1.out, hl2.out, HJ.out]; exact HX.out
  refine (cmp_is s1 s2 HC.out).mono ?_
  rintro e w14 ⟨rfl, hb14⟩
  have hB14 := hB13.trans (hb14.mono hB13.size)
  replace h1 := h1.below hb14
  replace h2 := h2.below hb14
  replace h3 := h3.below hb14
  clear hb14 s1 s2
  go_wp2_with fail
  refine (join2_is h3 h1 (by omega) (by omega)).mono ?_
  rintro e w15 ⟨p3, q3, l3, rfl, hl3, s3, hb15⟩
  have hB15 := hB14.trans (hb15.mono hB14.size)
  replace h1 := h1.below hb15
  replace h2 := h2.below hb15
  replace h3 := h3.below hb15
  clear hb15 
  go_wp2_with fail
  refine (join2_is h3 h2 (by omega) (by omega)).mono ?_
  rintro e w16 ⟨p4, q4, l4, rfl, hl4, s4, hb16⟩
  have hB16 := hB15.trans (hb16.mono hB15.size)
  replace s3 := s3.below hb16
  clear hb16 
  go_wp2_with fail
  have HD : Hid (lexW l3 l4 = 0) := by unfold Hid; rw [hl3.out, hl4.out, HJ2.out]; exact HL.out
  refine (lex_is s3 s4 HD.out).mono ?_
  rintro e w17 ⟨rfl, hb17⟩
  have hB17 := hB16.trans (hb17.mono hB16.size)
  clear hb17 s3 s4
  go_wp2_with fail
  refine (awake1_any).mono ?_
  rintro e wz ⟨rfl, hbz⟩
  have hBf := hB17.trans (hbz.mono hB17.size)
  go_wp2
  go_ret
  exact ⟨rfl, hBf⟩

set_option maxRecDepth 100000 in
set_option maxHeartbeats 8000000 in
theorem lorder_w7 {xs ys zs : List Int} (h1 : Sl (fun _ => False) w a c xs) (h2 : Sl (fun _ => False) w b d ys) (h3 : Sl (fun _ => False) w a3 c3 zs) (k0 : ¬ 300 < xs.length) (k1 : ¬ 300 < ys.length) (k2 : ¬ 300 < zs.length) (hx : cmpW xs ys = 0) (hl : lexW xs ys = 0) (hy : ¬ cmpW ys zs ≤ 0) (hm : ¬ lexW ys zs ≤ 0) (hp : decide (comW xs ys = ys.length) = true) (hn : decide (xs.length < ys.length) = false) :
    Calls Try.prog 8 #[.slice a xs.length c, .slice b ys.length d, .slice a3 zs.length c3] w fun e w' => e = .returned (.bool true) ∧ Below w.heap.size w w' := by
  have e0 := h1.le
  have d0 : decide (300 < ((xs.length : Nat) : Int)) = false := by simp <;> omega
  have e1 := h2.le
  have d1 : decide (300 < ((ys.length : Nat) : Int)) = false := by simp <;> omega
  have e2 := h3.le
  have d2 : decide (300 < ((zs.length : Nat) : Int)) = false := by simp <;> omega
  have hB0 := Below.refl w.heap.size w
  have HX := Lib.hid hx
  have HL := Lib.hid hl
  have HX2 := Lib.hid (show cmpW ys xs = 0 by have := cmp_swap xs ys; omega)
  have HL2 := Lib.hid (show lexW ys xs = 0 by have := lex_swap xs ys; omega)
  have HS := Lib.hid (show decide (xs = ys) = true by exact decide_eq_true (cmp_zero hx))
  have HXX := Lib.hid (cmp_same xs)
  have HJ := Lib.hid (cmp_app zs xs ys)
  have HJ2 := Lib.hid (lex_app zs xs ys)
  have HP := Lib.hid hp
  obtain ⟨Y, HY⟩ : ∃ Y, Hid (cmpW ys zs = Y) := ⟨_, rfl⟩
  obtain ⟨Z, HZ⟩ : ∃ Z, Hid (cmpW xs zs = Z) := ⟨_, rfl⟩
  obtain ⟨R, HR⟩ : ∃ R, Hid (lexW ys zs = R) := ⟨_, rfl⟩
  obtain ⟨S, HT⟩ : ∃ S, Hid (lexW xs zs = S) := ⟨_, rfl⟩
  have f0 : decide (Y ≤ 0) = false := by rw [← HY.out]; simp <;> omega
  clear hy
  have g0 : decide (R ≤ 0) = false := by rw [← HR.out]; simp <;> omega
  clear hm
  clear hx hl hp
  go_enter Try.func8, Try.ntmps8
  go_wp2_with fail
  refine (cmp_is h1 h2 HX.out).mono ?_
  rintro e w1 ⟨rfl, hb1⟩
  have hB1 := hB0.trans (hb1.mono hB0.size)
  replace h1 := h1.below hb1
  replace h2 := h2.below hb1
  replace h3 := h3.below hb1
  clear hb1 
  go_wp2_with fail
  refine (cmp_is h2 h3 HY.out).mono ?_
  rintro e w2 ⟨rfl, hb2⟩
  have hB2 := hB1.trans (hb2.mono hB1.size)
  replace h1 := h1.below hb2
  replace h2 := h2.below hb2
  replace h3 := h3.below hb2
  clear hb2 
  go_wp2_with fail
  refine (cmp_is h1 h3 HZ.out).mono ?_
  rintro e w3 ⟨rfl, hb3⟩
  have hB3 := hB2.trans (hb3.mono hB2.size)
  replace h1 := h1.below hb3
  replace h2 := h2.below hb3
  replace h3 := h3.below hb3
  clear hb3 
  go_wp2_with fail
  refine (lex_is h1 h2 HL.out).mono ?_
  rintro e w4 ⟨rfl, hb4⟩
  have hB4 := hB3.trans (hb4.mono hB3.size)
  replace h1 := h1.below hb4
  replace h2 := h2.below hb4
  replace h3 := h3.below hb4
  clear hb4 
  go_wp2_with fail
  refine (lex_is h2 h3 HR.out).mono ?_
  rintro e w5 ⟨rfl, hb5⟩
  have hB5 := hB4.trans (hb5.mono hB4.size)
  replace h1 := h1.below hb5
  replace h2 := h2.below hb5
  replace h3 := h3.below hb5
  clear hb5 
  go_wp2_with fail
  refine (lex_is h1 h3 HT.out).mono ?_
  rintro e w6 ⟨rfl, hb6⟩
  have hB6 := hB5.trans (hb6.mono hB5.size)
  replace h1 := h1.below hb6
  replace h2 := h2.below hb6
  replace h3 := h3.below hb6
  clear hb6 
  go_wp2_with fail
  refine (cmp_is h2 h1 HX2.out).mono ?_
  rintro e w7 ⟨rfl, hb7⟩
  have hB7 := hB6.trans (hb7.mono hB6.size)
  replace h1 := h1.below hb7
  replace h2 := h2.below hb7
  replace h3 := h3.below hb7
  clear hb7 
  go_wp2_with fail
  refine (lex_is h2 h1 HL2.out).mono ?_
  rintro e w8 ⟨rfl, hb8⟩
  have hB8 := hB7.trans (hb8.mono hB7.size)
  replace h1 := h1.below hb8
  replace h2 := h2.below hb8
  replace h3 := h3.below hb8
  clear hb8 
  go_wp2_with fail
  refine (same1_eq h1 h2 HS.out).mono ?_
  rintro e w9 ⟨rfl, hb9⟩
  have hB9 := hB8.trans (hb9.mono hB8.size)
  replace h1 := h1.below hb9
  replace h2 := h2.below hb9
  replace h3 := h3.below hb9
  clear hb9 
  go_wp2_with fail
  refine (cmp_is h1 h1 HXX.out).mono ?_
  rintro e w10 ⟨rfl, hb10⟩
  have hB10 := hB9.trans (hb10.mono hB9.size)
  replace h1 := h1.below hb10
  replace h2 := h2.below hb10
  replace h3 := h3.below hb10
  clear hb10 
  go_wp2_with fail
  refine (hasp_is h1 h2 HP.out).mono ?_
  rintro e w11 ⟨rfl, hb11⟩
  have hB11 := hB10.trans (hb11.mono hB10.size)
  replace h1 := h1.below hb11
  replace h2 := h2.below hb11
  replace h3 := h3.below hb11
  clear hb11 
  go_wp2_with fail
  refine (join2_is h3 h1 (by omega) (by omega)).mono ?_
  rintro e w12 ⟨p1, q1, l1, rfl, hl1, s1, hb12⟩
  have hB12 := hB11.trans (hb12.mono hB11.size)
  replace h1 := h1.below hb12
  replace h2 := h2.below hb12
  replace h3 := h3.below hb12
  clear hb12 
  go_wp2_with fail
  refine (join2_is h3 h2 (by omega) (by omega)).mono ?_
  rintro e w13 ⟨p2, q2, l2, rfl, hl2, s2, hb13⟩
  have hB13 := hB12.trans (hb13.mono hB12.size)
  replace h1 := h1.below hb13
  replace h2 := h2.below hb13
  replace h3 := h3.below hb13
  replace s1 := s1.below hb13
  clear hb13 
  go_wp2_with fail
  have HC : Hid (cmpW l1 l2 = 0) := by unfold Hid; rw [hl1.out, hl2.out, HJ.out]; exact HX.out
  refine (cmp_is s1 s2 HC.out).mono ?_
  rintro e w14 ⟨rfl, hb14⟩
  have hB14 := hB13.trans (hb14.mono hB13.size)
  replace h1 := h1.below hb14
  replace h2 := h2.below hb14
  replace h3 := h3.below hb14
  clear hb14 s1 s2
  go_wp2_with fail
  refine (join2_is h3 h1 (by omega) (by omega)).mono ?_
  rintro e w15 ⟨p3, q3, l3, rfl, hl3, s3, hb15⟩
  have hB15 := hB14.trans (hb15.mono hB14.size)
  replace h1 := h1.below hb15
  replace h2 := h2.below hb15
  replace h3 := h3.below hb15
  clear hb15 
  go_wp2_with fail
  refine (join2_is h3 h2 (by omega) (by omega)).mono ?_
  rintro e w16 ⟨p4, q4, l4, rfl, hl4, s4, hb16⟩
  have hB16 := hB15.trans (hb16.mono hB15.size)
  replace s3 := s3.below hb16
  clear hb16 
  go_wp2_with fail
  have HD : Hid (lexW l3 l4 = 0) := by unfold Hid; rw [hl3.out, hl4.out, HJ2.out]; exact HL.out
  refine (lex_is s3 s4 HD.out).mono ?_
  rintro e w17 ⟨rfl, hb17⟩
  have hB17 := hB16.trans (hb17.mono hB16.size)
  clear hb17 s3 s4
  go_wp2_with fail
  refine (awake1_any).mono ?_
  rintro e wz ⟨rfl, hbz⟩
  have hBf := hB17.trans (hbz.mono hB17.size)
  go_wp2
  go_ret
  exact ⟨rfl, hBf⟩

set_option maxRecDepth 100000 in
set_option maxHeartbeats 8000000 in
theorem lorder_w8 {xs ys zs : List Int} (h1 : Sl (fun _ => False) w a c xs) (h2 : Sl (fun _ => False) w b d ys) (h3 : Sl (fun _ => False) w a3 c3 zs) (k0 : ¬ 300 < xs.length) (k1 : ¬ 300 < ys.length) (k2 : ¬ 300 < zs.length) (hx : cmpW xs ys = -1) (hl : lexW xs ys = 1) (hy : cmpW ys zs ≤ 0) (hp : decide (comW xs ys = ys.length) = false) (hn : decide (xs.length < ys.length) = true) :
    Calls Try.prog 8 #[.slice a xs.length c, .slice b ys.length d, .slice a3 zs.length c3] w fun e w' => e = .returned (.bool true) ∧ Below w.heap.size w w' := by
  have e0 := h1.le
  have d0 : decide (300 < ((xs.length : Nat) : Int)) = false := by simp <;> omega
  have e1 := h2.le
  have d1 : decide (300 < ((ys.length : Nat) : Int)) = false := by simp <;> omega
  have e2 := h3.le
  have d2 : decide (300 < ((zs.length : Nat) : Int)) = false := by simp <;> omega
  have hB0 := Below.refl w.heap.size w
  have HX := Lib.hid hx
  have HL := Lib.hid hl
  have HX2 := Lib.hid (show cmpW ys xs = 1 by have := cmp_swap xs ys; omega)
  have HL2 := Lib.hid (show lexW ys xs = -1 by have := lex_swap xs ys; omega)
  have HS := Lib.hid (show decide (xs = ys) = false by exact decide_eq_false (fun e => by rw [e, cmp_same] at hx; cases hx))
  have HXX := Lib.hid (cmp_same xs)
  have HJ := Lib.hid (cmp_app zs xs ys)
  have HJ2 := Lib.hid (lex_app zs xs ys)
  have HP := Lib.hid hp
  obtain ⟨Y, HY⟩ : ∃ Y, Hid (cmpW ys zs = Y) := ⟨_, rfl⟩
  obtain ⟨Z, HZ⟩ : ∃ Z, Hid (cmpW xs zs = Z) := ⟨_, rfl⟩
  obtain ⟨R, HR⟩ : ∃ R, Hid (lexW ys zs = R) := ⟨_, rfl⟩
  obtain ⟨S, HT⟩ : ∃ S, Hid (lexW xs zs = S) := ⟨_, rfl⟩
  have f0 : decide (Y ≤ 0) = true := by rw [← HY.out]; simp <;> omega
  have t0 := cmp_trans (a := xs) (b := ys) (c := zs) (by omega) hy
  rw [HZ.out] at t0
  have f1 : decide (0 < Z) = false := by simp <;> omega
  have f2 : decide (0 ≤ Z) = false := by have := t0.2 (by omega); simp <;> omega
  clear t0
  clear hy
  clear hx hl hp
  go_enter Try.func8, Try.ntmps8
  go_wp2_with fail
  refine (cmp_is h1 h2 HX.out).mono ?_
  rintro e w1 ⟨rfl, hb1⟩
  have hB1 := hB0.trans (hb1.mono hB0.size)
  replace h1 := h1.below hb1
  replace h2 := h2.below hb1
  replace h3 := h3.below hb1
  clear hb1 
  go_wp2_with fail
  refine (cmp_is h2 h3 HY.out).mono ?_
  rintro e w2 ⟨rfl, hb2⟩
  have hB2 := hB1.trans (hb2.mono hB1.size)
  replace h1 := h1.below hb2
  replace h2 := h2.below hb2
  replace h3 := h3.below hb2
  clear hb2 
  go_wp2_with fail
  refine (cmp_is h1 h3 HZ.out).mono ?_
  rintro e w3 ⟨rfl, hb3⟩
  have hB3 := hB2.trans (hb3.mono hB2.size)
  replace h1 := h1.below hb3
  replace h2 := h2.below hb3
  replace h3 := h3.below hb3
  clear hb3 
  go_wp2_with fail
  refine (lex_is h1 h2 HL.out).mono ?_
  rintro e w4 ⟨rfl, hb4⟩
  have hB4 := hB3.trans (hb4.mono hB3.size)
  replace h1 := h1.below hb4
  replace h2 := h2.below hb4
  replace h3 := h3.below hb4
  clear hb4 
  go_wp2_with fail
  refine (lex_is h2 h3 HR.out).mono ?_
  rintro e w5 ⟨rfl, hb5⟩
  have hB5 := hB4.trans (hb5.mono hB4.size)
  replace h1 := h1.below hb5
  replace h2 := h2.below hb5
  replace h3 := h3.below hb5
  clear hb5 
  go_wp2_with fail
  refine (lex_is h1 h3 HT.out).mono ?_
  rintro e w6 ⟨rfl, hb6⟩
  have hB6 := hB5.trans (hb6.mono hB5.size)
  replace h1 := h1.below hb6
  replace h2 := h2.below hb6
  replace h3 := h3.below hb6
  clear hb6 
  go_wp2_with fail
  refine (cmp_is h2 h1 HX2.out).mono ?_
  rintro e w7 ⟨rfl, hb7⟩
  have hB7 := hB6.trans (hb7.mono hB6.size)
  replace h1 := h1.below hb7
  replace h2 := h2.below hb7
  replace h3 := h3.below hb7
  clear hb7 
  go_wp2_with fail
  refine (lex_is h2 h1 HL2.out).mono ?_
  rintro e w8 ⟨rfl, hb8⟩
  have hB8 := hB7.trans (hb8.mono hB7.size)
  replace h1 := h1.below hb8
  replace h2 := h2.below hb8
  replace h3 := h3.below hb8
  clear hb8 
  go_wp2_with fail
  refine (same1_eq h1 h2 HS.out).mono ?_
  rintro e w9 ⟨rfl, hb9⟩
  have hB9 := hB8.trans (hb9.mono hB8.size)
  replace h1 := h1.below hb9
  replace h2 := h2.below hb9
  replace h3 := h3.below hb9
  clear hb9 
  go_wp2_with fail
  refine (cmp_is h1 h1 HXX.out).mono ?_
  rintro e w10 ⟨rfl, hb10⟩
  have hB10 := hB9.trans (hb10.mono hB9.size)
  replace h1 := h1.below hb10
  replace h2 := h2.below hb10
  replace h3 := h3.below hb10
  clear hb10 
  go_wp2_with fail
  refine (hasp_is h1 h2 HP.out).mono ?_
  rintro e w11 ⟨rfl, hb11⟩
  have hB11 := hB10.trans (hb11.mono hB10.size)
  replace h1 := h1.below hb11
  replace h2 := h2.below hb11
  replace h3 := h3.below hb11
  clear hb11 
  go_wp2_with fail
  refine (join2_is h3 h1 (by omega) (by omega)).mono ?_
  rintro e w12 ⟨p1, q1, l1, rfl, hl1, s1, hb12⟩
  have hB12 := hB11.trans (hb12.mono hB11.size)
  replace h1 := h1.below hb12
  replace h2 := h2.below hb12
  replace h3 := h3.below hb12
  clear hb12 
  go_wp2_with fail
  refine (join2_is h3 h2 (by omega) (by omega)).mono ?_
  rintro e w13 ⟨p2, q2, l2, rfl, hl2, s2, hb13⟩
  have hB13 := hB12.trans (hb13.mono hB12.size)
  replace h1 := h1.below hb13
  replace h2 := h2.below hb13
  replace h3 := h3.below hb13
  replace s1 := s1.below hb13
  clear hb13 
  go_wp2_with fail
  have HC : Hid (cmpW l1 l2 = -1) := by unfold Hid; rw [hl1.out, hl2.out, HJ.out]; exact HX.out
  refine (cmp_is s1 s2 HC.out).mono ?_
  rintro e w14 ⟨rfl, hb14⟩
  have hB14 := hB13.trans (hb14.mono hB13.size)
  replace h1 := h1.below hb14
  replace h2 := h2.below hb14
  replace h3 := h3.below hb14
  clear hb14 s1 s2
  go_wp2_with fail
  refine (join2_is h3 h1 (by omega) (by omega)).mono ?_
  rintro e w15 ⟨p3, q3, l3, rfl, hl3, s3, hb15⟩
  have hB15 := hB14.trans (hb15.mono hB14.size)
  replace h1 := h1.below hb15
  replace h2 := h2.below hb15
  replace h3 := h3.below hb15
  clear hb15 
  go_wp2_with fail
  refine (join2_is h3 h2 (by omega) (by omega)).mono ?_
  rintro e w16 ⟨p4, q4, l4, rfl, hl4, s4, hb16⟩
  have hB16 := hB15.trans (hb16.mono hB15.size)
  replace s3 := s3.below hb16
  clear hb16 
  go_wp2_with fail
  have HD : Hid (lexW l3 l4 = 1) := by unfold Hid; rw [hl3.out, hl4.out, HJ2.out]; exact HL.out
  refine (lex_is s3 s4 HD.out).mono ?_
  rintro e w17 ⟨rfl, hb17⟩
  have hB17 := hB16.trans (hb17.mono hB16.size)
  clear hb17 s3 s4
  go_wp2_with fail
  refine (awake1_any).mono ?_
  rintro e wz ⟨rfl, hbz⟩
  have hBf := hB17.trans (hbz.mono hB17.size)
  go_wp2
  go_ret
  exact ⟨rfl, hBf⟩

set_option maxRecDepth 100000 in
set_option maxHeartbeats 8000000 in
theorem lorder_w9 {xs ys zs : List Int} (h1 : Sl (fun _ => False) w a c xs) (h2 : Sl (fun _ => False) w b d ys) (h3 : Sl (fun _ => False) w a3 c3 zs) (k0 : ¬ 300 < xs.length) (k1 : ¬ 300 < ys.length) (k2 : ¬ 300 < zs.length) (hx : cmpW xs ys = -1) (hl : lexW xs ys = 1) (hy : cmpW ys zs ≤ 0) (hp : decide (comW xs ys = ys.length) = false) (hn : decide (xs.length < ys.length) = false) :
    Calls Try.prog 8 #[.slice a xs.length c, .slice b ys.length d, .slice a3 zs.length c3] w fun e w' => e = .returned (.bool true) ∧ Below w.heap.size w w' := by
  have e0 := h1.le
  have d0 : decide (300 < ((xs.length : Nat) : Int)) = false := by simp <;> omega
  have e1 := h2.le
  have d1 : decide (300 < ((ys.length : Nat) : Int)) = false := by simp <;> omega
  have e2 := h3.le
  have d2 : decide (300 < ((zs.length : Nat) : Int)) = false := by simp <;> omega
  have hB0 := Below.refl w.heap.size w
  have HX := Lib.hid hx
  have HL := Lib.hid hl
  have HX2 := Lib.hid (show cmpW ys xs = 1 by have := cmp_swap xs ys; omega)
  have HL2 := Lib.hid (show lexW ys xs = -1 by have := lex_swap xs ys; omega)
  have HS := Lib.hid (show decide (xs = ys) = false by exact decide_eq_false (fun e => by rw [e, cmp_same] at hx; cases hx))
  have HXX := Lib.hid (cmp_same xs)
  have HJ := Lib.hid (cmp_app zs xs ys)
  have HJ2 := Lib.hid (lex_app zs xs ys)
  have HP := Lib.hid hp
  obtain ⟨Y, HY⟩ : ∃ Y, Hid (cmpW ys zs = Y) := ⟨_, rfl⟩
  obtain ⟨Z, HZ⟩ : ∃ Z, Hid (cmpW xs zs = Z) := ⟨_, rfl⟩
  obtain ⟨R, HR⟩ : ∃ R, Hid (lexW ys zs = R) := ⟨_, rfl⟩
  obtain ⟨S, HT⟩ : ∃ S, Hid (lexW xs zs = S) := ⟨_, rfl⟩
  have f0 : decide (Y ≤ 0) = true := by rw [← HY.out]; simp <;> omega
  have t0 := cmp_trans (a := xs) (b := ys) (c := zs) (by omega) hy
  rw [HZ.out] at t0
  have f1 : decide (0 < Z) = false := by simp <;> omega
  have f2 : decide (0 ≤ Z) = false := by have := t0.2 (by omega); simp <;> omega
  clear t0
  clear hy
  clear hx hl hp
  go_enter Try.func8, Try.ntmps8
  go_wp2_with fail
  refine (cmp_is h1 h2 HX.out).mono ?_
  rintro e w1 ⟨rfl, hb1⟩
  have hB1 := hB0.trans (hb1.mono hB0.size)
  replace h1 := h1.below hb1
  replace h2 := h2.below hb1
  replace h3 := h3.below hb1
  clear hb1 
  go_wp2_with fail
  refine (cmp_is h2 h3 HY.out).mono ?_
  rintro e w2 ⟨rfl, hb2⟩
  have hB2 := hB1.trans (hb2.mono hB1.size)
  replace h1 := h1.below hb2
  replace h2 := h2.below hb2
  replace h3 := h3.below hb2
  clear hb2 
  go_wp2_with fail
  refine (cmp_is h1 h3 HZ.out).mono ?_
  rintro e w3 ⟨rfl, hb3⟩
  have hB3 := hB2.trans (hb3.mono hB2.size)
  replace h1 := h1.below hb3
  replace h2 := h2.below hb3
  replace h3 := h3.below hb3
  clear hb3 
  go_wp2_with fail
  refine (lex_is h1 h2 HL.out).mono ?_
  rintro e w4 ⟨rfl, hb4⟩
  have hB4 := hB3.trans (hb4.mono hB3.size)
  replace h1 := h1.below hb4
  replace h2 := h2.below hb4
  replace h3 := h3.below hb4
  clear hb4 
  go_wp2_with fail
  refine (lex_is h2 h3 HR.out).mono ?_
  rintro e w5 ⟨rfl, hb5⟩
  have hB5 := hB4.trans (hb5.mono hB4.size)
  replace h1 := h1.below hb5
  replace h2 := h2.below hb5
  replace h3 := h3.below hb5
  clear hb5 
  go_wp2_with fail
  refine (lex_is h1 h3 HT.out).mono ?_
  rintro e w6 ⟨rfl, hb6⟩
  have hB6 := hB5.trans (hb6.mono hB5.size)
  replace h1 := h1.below hb6
  replace h2 := h2.below hb6
  replace h3 := h3.below hb6
  clear hb6 
  go_wp2_with fail
  refine (cmp_is h2 h1 HX2.out).mono ?_
  rintro e w7 ⟨rfl, hb7⟩
  have hB7 := hB6.trans (hb7.mono hB6.size)
  replace h1 := h1.below hb7
  replace h2 := h2.below hb7
  replace h3 := h3.below hb7
  clear hb7 
  go_wp2_with fail
  refine (lex_is h2 h1 HL2.out).mono ?_
  rintro e w8 ⟨rfl, hb8⟩
  have hB8 := hB7.trans (hb8.mono hB7.size)
  replace h1 := h1.below hb8
  replace h2 := h2.below hb8
  replace h3 := h3.below hb8
  clear hb8 
  go_wp2_with fail
  refine (same1_eq h1 h2 HS.out).mono ?_
  rintro e w9 ⟨rfl, hb9⟩
  have hB9 := hB8.trans (hb9.mono hB8.size)
  replace h1 := h1.below hb9
  replace h2 := h2.below hb9
  replace h3 := h3.below hb9
  clear hb9 
  go_wp2_with fail
  refine (cmp_is h1 h1 HXX.out).mono ?_
  rintro e w10 ⟨rfl, hb10⟩
  have hB10 := hB9.trans (hb10.mono hB9.size)
  replace h1 := h1.below hb10
  replace h2 := h2.below hb10
  replace h3 := h3.below hb10
  clear hb10 
  go_wp2_with fail
  refine (hasp_is h1 h2 HP.out).mono ?_
  rintro e w11 ⟨rfl, hb11⟩
  have hB11 := hB10.trans (hb11.mono hB10.size)
  replace h1 := h1.below hb11
  replace h2 := h2.below hb11
  replace h3 := h3.below hb11
  clear hb11 
  go_wp2_with fail
  refine (join2_is h3 h1 (by omega) (by omega)).mono ?_
  rintro e w12 ⟨p1, q1, l1, rfl, hl1, s1, hb12⟩
  have hB12 := hB11.trans (hb12.mono hB11.size)
  replace h1 := h1.below hb12
  replace h2 := h2.below hb12
  replace h3 := h3.below hb12
  clear hb12 
  go_wp2_with fail
  refine (join2_is h3 h2 (by omega) (by omega)).mono ?_
  rintro e w13 ⟨p2, q2, l2, rfl, hl2, s2, hb13⟩
  have hB13 := hB12.trans (hb13.mono hB12.size)
  replace h1 := h1.below hb13
  replace h2 := h2.below hb13
  replace h3 := h3.below hb13
  replace s1 := s1.below hb13
  clear hb13 
  go_wp2_with fail
  have HC : Hid (cmpW l1 l2 = -1) := by unfold Hid; rw [hl1.out, hl2.out, HJ.out]; exact HX.out
  refine (cmp_is s1 s2 HC.out).mono ?_
  rintro e w14 ⟨rfl, hb14⟩
  have hB14 := hB13.trans (hb14.mono hB13.size)
  replace h1 := h1.below hb14
  replace h2 := h2.below hb14
  replace h3 := h3.below hb14
  clear hb14 s1 s2
  go_wp2_with fail
  refine (join2_is h3 h1 (by omega) (by omega)).mono ?_
  rintro e w15 ⟨p3, q3, l3, rfl, hl3, s3, hb15⟩
  have hB15 := hB14.trans (hb15.mono hB14.size)
  replace h1 := h1.below hb15
  replace h2 := h2.below hb15
  replace h3 := h3.below hb15
  clear hb15 
  go_wp2_with fail
  refine (join2_is h3 h2 (by omega) (by omega)).mono ?_
  rintro e w16 ⟨p4, q4, l4, rfl, hl4, s4, hb16⟩
  have hB16 := hB15.trans (hb16.mono hB15.size)
  replace s3 := s3.below hb16
  clear hb16 
  go_wp2_with fail
  have HD : Hid (lexW l3 l4 = 1) := by unfold Hid; rw [hl3.out, hl4.out, HJ2.out]; exact HL.out
  refine (lex_is s3 s4 HD.out).mono ?_
  rintro e w17 ⟨rfl, hb17⟩
  have hB17 := hB16.trans (hb17.mono hB16.size)
  clear hb17 s3 s4
  go_wp2_with fail
  refine (awake1_any).mono ?_
  rintro e wz ⟨rfl, hbz⟩
  have hBf := hB17.trans (hbz.mono hB17.size)
  go_wp2
  go_ret
  exact ⟨rfl, hBf⟩

set_option maxRecDepth 100000 in
set_option maxHeartbeats 8000000 in
theorem lorder_w10 {xs ys zs : List Int} (h1 : Sl (fun _ => False) w a c xs) (h2 : Sl (fun _ => False) w b d ys) (h3 : Sl (fun _ => False) w a3 c3 zs) (k0 : ¬ 300 < xs.length) (k1 : ¬ 300 < ys.length) (k2 : ¬ 300 < zs.length) (hx : cmpW xs ys = -1) (hl : lexW xs ys = 1) (hy : ¬ cmpW ys zs ≤ 0) (hp : decide (comW xs ys = ys.length) = false) (hn : decide (xs.length < ys.length) = true) :
    Calls Try.prog 8 #[.slice a xs.length c, .slice b ys.length d, .slice a3 zs.length c3] w fun e w' => e = .returned (.bool true) ∧ Below w.heap.size w w' := by
  have e0 := h1.le
  have d0 : decide (300 < ((xs.length : Nat) : Int)) = false := by simp <;> omega
  have e1 := h2.le
  have d1 : decide (300 < ((ys.length : Nat) : Int)) = false := by simp <;> omega
  have e2 := h3.le
  have d2 : decide (300 < ((zs.length : Nat) : Int)) = false := by simp <;> omega
  have hB0 := Below.refl w.heap.size w
  have HX := Lib.hid hx
  have HL := Lib.hid hl
  have HX2 := Lib.hid (show cmpW ys xs = 1 by have := cmp_swap xs ys; omega)
  have HL2 := Lib.hid (show lexW ys xs = -1 by have := lex_swap xs ys; omega)
  have HS := Lib.hid (show decide (xs = ys) = false by exact decide_eq_false (fun e => by rw [e, cmp_same] at hx; cases hx))
  have HXX := Lib.hid (cmp_same xs)
  have HJ := Lib.hid (cmp_app zs xs ys)
  have HJ2 := Lib.hid (lex_app zs xs ys)
  have HP := Lib.hid hp
  obtain ⟨Y, HY⟩ : ∃ Y, Hid (cmpW ys zs = Y) := ⟨_, rfl⟩
  obtain ⟨Z, HZ⟩ : ∃ Z, Hid (cmpW xs zs = Z) := ⟨_, rfl⟩
  obtain ⟨R, HR⟩ : ∃ R, Hid (lexW ys zs = R) := ⟨_, rfl⟩
  obtain ⟨S, HT⟩ : ∃ S, Hid (lexW xs zs = S) := ⟨_, rfl⟩
  have f0 : decide (Y ≤ 0) = false := by rw [← HY.out]; simp <;> omega
  clear hy
  clear hx hl hp
  go_enter Try.func8, Try.ntmps8
  go_wp2_with fail
  refine (cmp_is h1 h2 HX.out).mono ?_
  rintro e w1 ⟨rfl, hb1⟩
  have hB1 := hB0.trans (hb1.mono hB0.size)
  replace h1 := h1.below hb1
  replace h2 := h2.below hb1
  replace h3 := h3.below hb1
  clear hb1 
  go_wp2_with fail
  refine (cmp_is h2 h3 HY.out).mono ?_
  rintro e w2 ⟨rfl, hb2⟩
  have hB2 := hB1.trans (hb2.mono hB1.size)
  replace h1 := h1.below hb2
  replace h2 := h2.below hb2
  replace h3 := h3.below hb2
  clear hb2 
  go_wp2_with fail
  refine (cmp_is h1 h3 HZ.out).mono ?_
  rintro e w3 ⟨rfl, hb3⟩
  have hB3 := hB2.trans (hb3.mono hB2.size)
  replace h1 := h1.below hb3
  replace h2 := h2.below hb3
  replace h3 := h3.below hb3
  clear hb3 
  go_wp2_with fail
  refine (lex_is h1 h2 HL.out).mono ?_
  rintro e w4 ⟨rfl, hb4⟩
  have hB4 := hB3.trans (hb4.mono hB3.size)
  replace h1 := h1.below hb4
  replace h2 := h2.below hb4
  replace h3 := h3.below hb4
  clear hb4 
  go_wp2_with fail
  refine (lex_is h2 h3 HR.out).mono ?_
  rintro e w5 ⟨rfl, hb5⟩
  have hB5 := hB4.trans (hb5.mono hB4.size)
  replace h1 := h1.below hb5
  replace h2 := h2.below hb5
  replace h3 := h3.below hb5
  clear hb5 
  go_wp2_with fail
  refine (lex_is h1 h3 HT.out).mono ?_
  rintro e w6 ⟨rfl, hb6⟩
  have hB6 := hB5.trans (hb6.mono hB5.size)
  replace h1 := h1.below hb6
  replace h2 := h2.below hb6
  replace h3 := h3.below hb6
  clear hb6 
  go_wp2_with fail
  refine (cmp_is h2 h1 HX2.out).mono ?_
  rintro e w7 ⟨rfl, hb7⟩
  have hB7 := hB6.trans (hb7.mono hB6.size)
  replace h1 := h1.below hb7
  replace h2 := h2.below hb7
  replace h3 := h3.below hb7
  clear hb7 
  go_wp2_with fail
  refine (lex_is h2 h1 HL2.out).mono ?_
  rintro e w8 ⟨rfl, hb8⟩
  have hB8 := hB7.trans (hb8.mono hB7.size)
  replace h1 := h1.below hb8
  replace h2 := h2.below hb8
  replace h3 := h3.below hb8
  clear hb8 
  go_wp2_with fail
  refine (same1_eq h1 h2 HS.out).mono ?_
  rintro e w9 ⟨rfl, hb9⟩
  have hB9 := hB8.trans (hb9.mono hB8.size)
  replace h1 := h1.below hb9
  replace h2 := h2.below hb9
  replace h3 := h3.below hb9
  clear hb9 
  go_wp2_with fail
  refine (cmp_is h1 h1 HXX.out).mono ?_
  rintro e w10 ⟨rfl, hb10⟩
  have hB10 := hB9.trans (hb10.mono hB9.size)
  replace h1 := h1.below hb10
  replace h2 := h2.below hb10
  replace h3 := h3.below hb10
  clear hb10 
  go_wp2_with fail
  refine (hasp_is h1 h2 HP.out).mono ?_
  rintro e w11 ⟨rfl, hb11⟩
  have hB11 := hB10.trans (hb11.mono hB10.size)
  replace h1 := h1.below hb11
  replace h2 := h2.below hb11
  replace h3 := h3.below hb11
  clear hb11 
  go_wp2_with fail
  refine (join2_is h3 h1 (by omega) (by omega)).mono ?_
  rintro e w12 ⟨p1, q1, l1, rfl, hl1, s1, hb12⟩
  have hB12 := hB11.trans (hb12.mono hB11.size)
  replace h1 := h1.below hb12
  replace h2 := h2.below hb12
  replace h3 := h3.below hb12
  clear hb12 
  go_wp2_with fail
  refine (join2_is h3 h2 (by omega) (by omega)).mono ?_
  rintro e w13 ⟨p2, q2, l2, rfl, hl2, s2, hb13⟩
  have hB13 := hB12.trans (hb13.mono hB12.size)
  replace h1 := h1.below hb13
  replace h2 := h2.below hb13
  replace h3 := h3.below hb13
  replace s1 := s1.below hb13
  clear hb13 
  go_wp2_with fail
  have HC : Hid (cmpW l1 l2 = -1) := by unfold Hid; rw [hl1.out, hl2.out, HJ.out]; exact HX.out
  refine (cmp_is s1 s2 HC.out).mono ?_
  rintro e w14 ⟨rfl, hb14⟩
  have hB14 := hB13.trans (hb14.mono hB13.size)
  replace h1 := h1.below hb14
  replace h2 := h2.below hb14
  replace h3 := h3.below hb14
  clear hb14 s1 s2
  go_wp2_with fail
  refine (join2_is h3 h1 (by omega) (by omega)).mono ?_
  rintro e w15 ⟨p3, q3, l3, rfl, hl3, s3, hb15⟩
  have hB15 := hB14.trans (hb15.mono hB14.size)
  replace h1 := h1.below hb15
  replace h2 := h2.below hb15
  replace h3 := h3.below hb15
  clear hb15 
  go_wp2_with fail
  refine (join2_is h3 h2 (by omega) (by omega)).mono ?_
  rintro e w16 ⟨p4, q4, l4, rfl, hl4, s4, hb16⟩
  have hB16 := hB15.trans (hb16.mono hB15.size)
  replace s3 := s3.below hb16
  clear hb16 
  go_wp2_with fail
  have HD : Hid (lexW l3 l4 = 1) := by unfold Hid; rw [hl3.out, hl4.out, HJ2.out]; exact HL.out
  refine (lex_is s3 s4 HD.out).mono ?_
  rintro e w17 ⟨rfl, hb17⟩
  have hB17 := hB16.trans (hb17.mono hB16.size)
  clear hb17 s3 s4
  go_wp2_with fail
  refine (awake1_any).mono ?_
  rintro e wz ⟨rfl, hbz⟩
  have hBf := hB17.trans (hbz.mono hB17.size)
  go_wp2
  go_ret
  exact ⟨rfl, hBf⟩

set_option maxRecDepth 100000 in
set_option maxHeartbeats 8000000 in
theorem lorder_w11 {xs ys zs : List Int} (h1 : Sl (fun _ => False) w a c xs) (h2 : Sl (fun _ => False) w b d ys) (h3 : Sl (fun _ => False) w a3 c3 zs) (k0 : ¬ 300 < xs.length) (k1 : ¬ 300 < ys.length) (k2 : ¬ 300 < zs.length) (hx : cmpW xs ys = -1) (hl : lexW xs ys = 1) (hy : ¬ cmpW ys zs ≤ 0) (hp : decide (comW xs ys = ys.length) = false) (hn : decide (xs.length < ys.length) = false) :
    Calls Try.prog 8 #[.slice a xs.length c, .slice b ys.length d, .slice a3 zs.length c3] w fun e w' => e = .returned (.bool true) ∧ Below w.heap.size w w' := by
  have e0 := h1.le
  have d0 : decide (300 < ((xs.length : Nat) : Int)) = false := by simp <;> omega
  have e1 := h2.le
  have d1 : decide (300 < ((ys.length : Nat) : Int)) = false := by simp <;> omega
  have e2 := h3.le
  have d2 : decide (300 < ((zs.length : Nat) : Int)) = false := by simp <;> omega
  have hB0 := Below.refl w.heap.size w
  have HX := Lib.hid hx
  have HL := Lib.hid hl
  have HX2 := Lib.hid (show cmpW ys xs = 1 by have := cmp_swap xs ys; omega)
  have HL2 := Lib.hid (show lexW ys xs = -1 by have := lex_swap xs ys; omega)
  have HS := Lib.hid (show decide (xs = ys) = false by exact decide_eq_false (fun e => by rw [e, cmp_same] at hx; cases hx))
  have HXX := Lib.hid (cmp_same xs)
  have HJ := Lib.hid (cmp_app zs xs ys)
  have HJ2 := Lib.hid (lex_app zs xs ys)
  have HP := Lib.hid hp
  obtain ⟨Y, HY⟩ : ∃ Y, Hid (cmpW ys zs = Y) := ⟨_, rfl⟩
  obtain ⟨Z, HZ⟩ : ∃ Z, Hid (cmpW xs zs = Z) := ⟨_, rfl⟩
  obtain ⟨R, HR⟩ : ∃ R, Hid (lexW ys zs = R) := ⟨_, rfl⟩
  obtain ⟨S, HT⟩ : ∃ S, Hid (lexW xs zs = S) := ⟨_, rfl⟩
  have f0 : decide (Y ≤ 0) = false := by rw [← HY.out]; simp <;> omega
  clear hy
  clear hx hl hp
  go_enter Try.func8, Try.ntmps8
  go_wp2_with fail
  refine (cmp_is h1 h2 HX.out).mono ?_
  rintro e w1 ⟨rfl, hb1⟩
  have hB1 := hB0.trans (hb1.mono hB0.size)
  replace h1 := h1.below hb1
  replace h2 := h2.below hb1
  replace h3 := h3.below hb1
  clear hb1 
  go_wp2_with fail
  refine (cmp_is h2 h3 HY.out).mono ?_
  rintro e w2 ⟨rfl, hb2⟩
  have hB2 := hB1.trans (hb2.mono hB1.size)
  replace h1 := h1.below hb2
  replace h2 := h2.below hb2
  replace h3 := h3.below hb2
  clear hb2 
  go_wp2_with fail
  refine (cmp_is h1 h3 HZ.out).mono ?_
  rintro e w3 ⟨rfl, hb3⟩
  have hB3 := hB2.trans (hb3.mono hB2.size)
  replace h1 := h1.below hb3
  replace h2 := h2.below hb3
  replace h3 := h3.below hb3
  clear hb3 
  go_wp2_with fail
  refine (lex_is h1 h2 HL.out).mono ?_
  rintro e w4 ⟨rfl, hb4⟩
  have hB4 := hB3.trans (hb4.mono hB3.size)
  replace h1 := h1.below hb4
  replace h2 := h2.below hb4
  replace h3 := h3.below hb4
  clear hb4 
  go_wp2_with fail
  refine (lex_is h2 h3 HR.out).mono ?_
  rintro e w5 ⟨rfl, hb5⟩
  have hB5 := hB4.trans (hb5.mono hB4.size)
  replace h1 := h1.below hb5
  replace h2 := h2.below hb5
  replace h3 := h3.below hb5
  clear hb5 
  go_wp2_with fail
  refine (lex_is h1 h3 HT.out).mono ?_
  rintro e w6 ⟨rfl, hb6⟩
  have hB6 := hB5.trans (hb6.mono hB5.size)
  replace h1 := h1.below hb6
  replace h2 := h2.below hb6
  replace h3 := h3.below hb6
  clear hb6 
  go_wp2_with fail
  refine (cmp_is h2 h1 HX2.out).mono ?_
  rintro e w7 ⟨rfl, hb7⟩
  have hB7 := hB6.trans (hb7.mono hB6.size)
  replace h1 := h1.below hb7
  replace h2 := h2.below hb7
  replace h3 := h3.below hb7
  clear hb7 
  go_wp2_with fail
  refine (lex_is h2 h1 HL2.out).mono ?_
  rintro e w8 ⟨rfl, hb8⟩
  have hB8 := hB7.trans (hb8.mono hB7.size)
  replace h1 := h1.below hb8
  replace h2 := h2.below hb8
  replace h3 := h3.below hb8
  clear hb8 
  go_wp2_with fail
  refine (same1_eq h1 h2 HS.out).mono ?_
  rintro e w9 ⟨rfl, hb9⟩
  have hB9 := hB8.trans (hb9.mono hB8.size)
  replace h1 := h1.below hb9
  replace h2 := h2.below hb9
  replace h3 := h3.below hb9
  clear hb9 
  go_wp2_with fail
  refine (cmp_is h1 h1 HXX.out).mono ?_
  rintro e w10 ⟨rfl, hb10⟩
  have hB10 := hB9.trans (hb10.mono hB9.size)
  replace h1 := h1.below hb10
  replace h2 := h2.below hb10
  replace h3 := h3.below hb10
  clear hb10 
  go_wp2_with fail
  refine (hasp_is h1 h2 HP.out).mono ?_
  rintro e w11 ⟨rfl, hb11⟩
  have hB11 := hB10.trans (hb11.mono hB10.size)
  replace h1 := h1.below hb11
  replace h2 := h2.below hb11
  replace h3 := h3.below hb11
  clear hb11 
  go_wp2_with fail
  refine (join2_is h3 h1 (by omega) (by omega)).mono ?_
  rintro e w12 ⟨p1, q1, l1, rfl, hl1, s1, hb12⟩
  have hB12 := hB11.trans (hb12.mono hB11.size)
  replace h1 := h1.below hb12
  replace h2 := h2.below hb12
  replace h3 := h3.below hb12
  clear hb12 
  go_wp2_with fail
  refine (join2_is h3 h2 (by omega) (by omega)).mono ?_
  rintro e w13 ⟨p2, q2, l2, rfl, hl2, s2, hb13⟩
  have hB13 := hB12.trans (hb13.mono hB12.size)
  replace h1 := h1.below hb13
  replace h2 := h2.below hb13
  replace h3 := h3.below hb13
  replace s1 := s1.below hb13
  clear hb13 
  go_wp2_with fail
  have HC : Hid (cmpW l1 l2 = -1) := by unfold Hid; rw [hl1.out, hl2.out, HJ.out]; exact HX.out
  refine (cmp_is s1 s2 HC.out).mono ?_
  rintro e w14 ⟨rfl, hb14⟩
  have hB14 := hB13.trans (hb14.mono hB13.size)
  replace h1 := h1.below hb14
  replace h2 := h2.below hb14
  replace h3 := h3.below hb14
  clear hb14 s1 s2
  go_wp2_with fail
  refine (join2_is h3 h1 (by omega) (by omega)).mono ?_
  rintro e w15 ⟨p3, q3, l3, rfl, hl3, s3, hb15⟩
  have hB15 := hB14.trans (hb15.mono hB14.size)
  replace h1 := h1.below hb15
  replace h2 := h2.below hb15
  replace h3 := h3.below hb15
  clear hb15 
  go_wp2_with fail
  refine (join2_is h3 h2 (by omega) (by omega)).mono ?_
  rintro e w16 ⟨p4, q4, l4, rfl, hl4, s4, hb16⟩
  have hB16 := hB15.trans (hb16.mono hB15.size)
  replace s3 := s3.below hb16
  clear hb16 
  go_wp2_with fail
  have HD : Hid (lexW l3 l4 = 1) := by unfold Hid; rw [hl3.out, hl4.out, HJ2.out]; exact HL.out
  refine (lex_is s3 s4 HD.out).mono ?_
  rintro e w17 ⟨rfl, hb17⟩
  have hB17 := hB16.trans (hb17.mono hB16.size)
  clear hb17 s3 s4
  go_wp2_with fail
  refine (awake1_any).mono ?_
  rintro e wz ⟨rfl, hbz⟩
  have hBf := hB17.trans (hbz.mono hB17.size)
  go_wp2
  go_ret
  exact ⟨rfl, hBf⟩

set_option maxRecDepth 100000 in
set_option maxHeartbeats 8000000 in
theorem lorder_w12 {xs ys zs : List Int} (h1 : Sl (fun _ => False) w a c xs) (h2 : Sl (fun _ => False) w b d ys) (h3 : Sl (fun _ => False) w a3 c3 zs) (k0 : ¬ 300 < xs.length) (k1 : ¬ 300 < ys.length) (k2 : ¬ 300 < zs.length) (hx : cmpW xs ys = -1) (hl : lexW xs ys = -1) (hy : cmpW ys zs ≤ 0) (hm : lexW ys zs ≤ 0) (hp : decide (comW xs ys = ys.length) = false) (hn : decide (xs.length < ys.length) = true) :
    Calls Try.prog 8 #[.slice a xs.length c, .slice b ys.length d, .slice a3 zs.length c3] w fun e w' => e = .returned (.bool true) ∧ Below w.heap.size w w' := by
  have e0 := h1.le
  have d0 : decide (300 < ((xs.length : Nat) : Int)) = false := by simp <;> omega
  have e1 := h2.le
  have d1 : decide (300 < ((ys.length : Nat) : Int)) = false := by simp <;> omega
  have e2 := h3.le
  have d2 : decide (300 < ((zs.length : Nat) : Int)) = false := by simp <;> omega
  have hB0 := Below.refl w.heap.size w
  have HX := Lib.hid hx
  have HL := Lib.hid hl
  have HX2 := Lib.hid (show cmpW ys xs = 1 by have := cmp_swap xs ys; omega)
  have HL2 := Lib.hid (show lexW ys xs = 1 by have := lex_swap xs ys; omega)
  have HS := Lib.hid (show decide (xs = ys) = false by exact decide_eq_false (fun e => by rw [e, cmp_same] at hx; cases hx))
  have HXX := Lib.hid (cmp_same xs)
  have HJ := Lib.hid (cmp_app zs xs ys)
  have HJ2 := Lib.hid (lex_app zs xs ys)
  have HP := Lib.hid hp
  obtain ⟨Y, HY⟩ : ∃ Y, Hid (cmpW ys zs = Y) := ⟨_, rfl⟩
  obtain ⟨Z, HZ⟩ : ∃ Z, Hid (cmpW xs zs = Z) := ⟨_, rfl⟩
  obtain ⟨R, HR⟩ : ∃ R, Hid (lexW ys zs = R) := ⟨_, rfl⟩
  obtain ⟨S, HT⟩ : ∃ S, Hid (lexW xs zs = S) := ⟨_, rfl⟩
  have f0 : decide (Y ≤ 0) = true := by rw [← HY.out]; simp <;> omega
  have t0 := cmp_trans (a := xs) (b := ys) (c := zs) (by omega) hy
  rw [HZ.out] at t0
  have f1 : decide (0 < Z) = false := by simp <;> omega
  have f2 : decide (0 ≤ Z) = false := by have := t0.2 (by omega); simp <;> omega
  clear t0
  clear hy
  have g0 : decide (R ≤ 0) = true := by rw [← HR.out]; simp <;> omega
  have t1 := lex_trans (a := xs) (b := ys) (c := zs) (by omega) hm
  rw [HT.out] at t1
  have g1 : decide (0 < S) = false := by simp <;> omega
  have g2 : decide (0 ≤ S) = false := by have := t1.2 (by omega); simp <;> omega
  clear t1
  clear hm
  clear hx hl hp
  go_enter Try.func8, Try.ntmps8
  go_wp2_with fail
  refine (cmp_is h1 h2 HX.out).mono ?_
  rintro e w1 ⟨rfl, hb1⟩
  have hB1 := hB0.trans (hb1.mono hB0.size)
  replace h1 := h1.below hb1
  replace h2 := h2.below hb1
  replace h3 := h3.below hb1
  clear hb1 
  go_wp2_with fail
  refine (cmp_is h2 h3 HY.out).mono ?_
  rintro e w2 ⟨rfl, hb2⟩
  have hB2 := hB1.trans (hb2.mono hB1.size)
  replace h1 := h1.below hb2
  replace h2 := h2.below hb2
  replace h3 := h3.below hb2
  clear hb2 
  go_wp2_with fail
  refine (cmp_is h1 h3 HZ.out).mono ?_
  rintro e w3 ⟨rfl, hb3⟩
  have hB3 := hB2.trans (hb3.mono hB2.size)
  replace h1 := h1.below hb3
  replace h2 := h2.below hb3
  replace h3 := h3.below hb3
  clear hb3 
  go_wp2_with fail
  refine (lex_is h1 h2 HL.out).mono ?_
  rintro e w4 ⟨rfl, hb4⟩
  have hB4 := hB3.trans (hb4.mono hB3.size)
  replace h1 := h1.below hb4
  replace h2 := h2.below hb4
  replace h3 := h3.below hb4
  clear hb4 
  go_wp2_with fail
  refine (lex_is h2 h3 HR.out).mono ?_
  rintro e w5 ⟨rfl, hb5⟩
  have hB5 := hB4.trans (hb5.mono hB4.size)
  replace h1 := h1.below hb5
  replace h2 := h2.below hb5
  replace h3 := h3.below hb5
  clear hb5 
  go_wp2_with fail
  refine (lex_is h1 h3 HT.out).mono ?_
  rintro e w6 ⟨rfl, hb6⟩
  have hB6 := hB5.trans (hb6.mono hB5.size)
  replace h1 := h1.below hb6
  replace h2 := h2.below hb6
  replace h3 := h3.below hb6
  clear hb6 
  go_wp2_with fail
  refine (cmp_is h2 h1 HX2.out).mono ?_
  rintro e w7 ⟨rfl, hb7⟩
  have hB7 := hB6.trans (hb7.mono hB6.size)
  replace h1 := h1.below hb7
  replace h2 := h2.below hb7
  replace h3 := h3.below hb7
  clear hb7 
  go_wp2_with fail
  refine (lex_is h2 h1 HL2.out).mono ?_
  rintro e w8 ⟨rfl, hb8⟩
  have hB8 := hB7.trans (hb8.mono hB7.size)
  replace h1 := h1.below hb8
  replace h2 := h2.below hb8
  replace h3 := h3.below hb8
  clear hb8 
  go_wp2_with fail
  refine (same1_eq h1 h2 HS.out).mono ?_
  rintro e w9 ⟨rfl, hb9⟩
  have hB9 := hB8.trans (hb9.mono hB8.size)
  replace h1 := h1.below hb9
  replace h2 := h2.below hb9
  replace h3 := h3.below hb9
  clear hb9 
  go_wp2_with fail
  refine (cmp_is h1 h1 HXX.out).mono ?_
  rintro e w10 ⟨rfl, hb10⟩
  have hB10 := hB9.trans (hb10.mono hB9.size)
  replace h1 := h1.below hb10
  replace h2 := h2.below hb10
  replace h3 := h3.below hb10
  clear hb10 
  go_wp2_with fail
  refine (hasp_is h1 h2 HP.out).mono ?_
  rintro e w11 ⟨rfl, hb11⟩
  have hB11 := hB10.trans (hb11.mono hB10.size)
  replace h1 := h1.below hb11
  replace h2 := h2.below hb11
  replace h3 := h3.below hb11
  clear hb11 
  go_wp2_with fail
  refine (join2_is h3 h1 (by omega) (by omega)).mono ?_
  rintro e w12 ⟨p1, q1, l1, rfl, hl1, s1, hb12⟩
  have hB12 := hB11.trans (hb12.mono hB11.size)
  replace h1 := h1.below hb12
  replace h2 := h2.below hb12
  replace h3 := h3.below hb12
  clear hb12 
  go_wp2_with fail
  refine (join2_is h3 h2 (by omega) (by omega)).mono ?_
  rintro e w13 ⟨p2, q2, l2, rfl, hl2, s2, hb13⟩
  have hB13 := hB12.trans (hb13.mono hB12.size)
  replace h1 := h1.below hb13
  replace h2 := h2.below hb13
  replace h3 := h3.below hb13
  replace s1 := s1.below hb13
  clear hb13 
  go_wp2_with fail
  have HC : Hid (cmpW l1 l2 = -1) := by unfold Hid; rw [hl1.out, hl2.out, HJ.out]; exact HX.out
  refine (cmp_is s1 s2 HC.out).mono ?_
  rintro e w14 ⟨rfl, hb14⟩
  have hB14 := hB13.trans (hb14.mono hB13.size)
  replace h1 := h1.below hb14
  replace h2 := h2.below hb14
  replace h3 := h3.below hb14
  clear hb14 s1 s2
  go_wp2_with fail
  refine (join2_is h3 h1 (by omega) (by omega)).mono ?_
  rintro e w15 ⟨p3, q3, l3, rfl, hl3, s3, hb15⟩
  have hB15 := hB14.trans (hb15.mono hB14.size)
  replace h1 := h1.below hb15
  replace h2 := h2.below hb15
  replace h3 := h3.below hb15
  clear hb15 
  go_wp2_with fail
  refine (join2_is h3 h2 (by omega) (by omega)).mono ?_
  rintro e w16 ⟨p4, q4, l4, rfl, hl4, s4, hb16⟩
  have hB16 := hB15.trans (hb16.mono hB15.size)
  replace s3 := s3.below hb16
  clear hb16 
  go_wp2_with fail
  have HD : Hid (lexW l3 l4 = -1) := by unfold Hid; rw [hl3.out, hl4.out, HJ2.out]; exact HL.out
  refine (lex_is s3 s4 HD.out).mono ?_
  rintro e w17 ⟨rfl, hb17⟩
  have hB17 := hB16.trans (hb17.mono hB16.size)
  clear hb17 s3 s4
  go_wp2_with fail
  refine (awake1_any).mono ?_
  rintro e wz ⟨rfl, hbz⟩
  have hBf := hB17.trans (hbz.mono hB17.size)
  go_wp2
  go_ret
  exact ⟨rfl, hBf⟩

set_option maxRecDepth 100000 in
set_option maxHeartbeats 8000000 in
theorem lorder_w13 {xs ys zs : List Int} (h1 : Sl (fun _ => False) w a c xs) (h2 : Sl (fun _ => False) w b d ys) (h3 : Sl (fun _ => False) w a3 c3 zs) (k0 : ¬ 300 < xs.length) (k1 : ¬ 300 < ys.length) (k2 : ¬ 300 < zs.length) (hx : cmpW xs ys = -1) (hl : lexW xs ys = -1) (hy : cmpW ys zs ≤ 0) (hm : lexW ys zs ≤ 0) (hp : decide (comW xs ys = ys.length) = false) (hn : decide (xs.length < ys.length) = false) :
    Calls Try.prog 8 #[.slice a xs.length c, .slice b ys.length d, .slice a3 zs.length c3] w fun e w' => e = .returned (.bool true) ∧ Below w.heap.size w w' := by
  have e0 := h1.le
  have d0 : decide (300 < ((xs.length : Nat) : Int)) = false := by simp <;> omega
  have e1 := h2.le
  have d1 : decide (300 < ((ys.length : Nat) : Int)) = false := by simp <;> omega
  have e2 := h3.le
  have d2 : decide (300 < ((zs.length : Nat) : Int)) = false := by simp <;> omega
  have hB0 := Below.refl w.heap.size w
  have HX := Lib.hid hx
  have HL := Lib.hid hl
  have HX2 := Lib.hid (show cmpW ys xs = 1 by have := cmp_swap xs ys; omega)
  have HL2 := Lib.hid (show lexW ys xs = 1 by have := lex_swap xs ys; omega)
  have HS := Lib.hid (show decide (xs = ys) = false by exact decide_eq_false (fun e => by rw [e, cmp_same] at hx; cases hx))
  have HXX := Lib.hid (cmp_same xs)
  have HJ := Lib.hid (cmp_app zs xs ys)
  have HJ2 := Lib.hid (lex_app zs xs ys)
  have HP := Lib.hid hp
  obtain ⟨Y, HY⟩ : ∃ Y, Hid (cmpW ys zs = Y) := ⟨_, rfl⟩
  obtain ⟨Z, HZ⟩ : ∃ Z, Hid (cmpW xs zs = Z) := ⟨_, rfl⟩
  obtain ⟨R, HR⟩ : ∃ R, Hid (lexW ys zs = R) := ⟨_, rfl⟩
  obtain ⟨S, HT⟩ : ∃ S, Hid (lexW xs zs = S) := ⟨_, rfl⟩
  have f0 : decide (Y ≤ 0) = true := by rw [← HY.out]; simp <;> omega
  have t0 := cmp_trans (a := xs) (b := ys) (c := zs) (by omega) hy
  rw [HZ.out] at t0
  have f1 : decide (0 < Z) = false := by simp <;> omega
  have f2 : decide (0 ≤ Z) = false := by have := t0.2 (by omega); simp <;> omega
  clear t0
  clear hy
  have g0 : decide (R ≤ 0) = true := by rw [← HR.out]; simp <;> omega
  have t1 := lex_trans (a := xs) (b := ys) (c := zs) (by omega) hm
  rw [HT.out] at t1
  have g1 : decide (0 < S) = false := by simp <;> omega
  have g2 : decide (0 ≤ S) = false := by have := t1.2 (by omega); simp <;> omega
  clear t1
  clear hm
  clear hx hl hp
  go_enter Try.func8, Try.ntmps8
  go_wp2_with fail
  refine (cmp_is h1 h2 HX.out).mono ?_
  rintro e w1 ⟨rfl, hb1⟩
  have hB1 := hB0.trans (hb1.mono hB0.size)
  replace h1 := h1.below hb1
  replace h2 := h2.below hb1
  replace h3 := h3.below hb1
  clear hb1 
  go_wp2_with fail
  refine (cmp_is h2 h3 HY.out).mono ?_
  rintro e w2 ⟨rfl, hb2⟩
  have hB2 := hB1.trans (hb2.mono hB1.size)
  replace h1 := h1.below hb2
  replace h2 := h2.below hb2
  replace h3 := h3.below hb2
  clear hb2 
  go_wp2_with fail
  refine (cmp_is h1 h3 HZ.out).mono ?_
  rintro e w3 ⟨rfl, hb3⟩
  have hB3 := hB2.trans (hb3.mono hB2.size)
  replace h1 := h1.below hb3
  replace h2 := h2.below hb3
  replace h3 := h3.below hb3
  clear hb3 
  go_wp2_with fail
  refine (lex_is h1 h2 HL.out).mono ?_
  rintro e w4 ⟨rfl, hb4⟩
  have hB4 := hB3.trans (hb4.mono hB3.size)
  replace h1 := h1.below hb4
  replace h2 := h2.below hb4
  replace h3 := h3.below hb4
  clear hb4 
  go_wp2_with fail
  refine (lex_is h2 h3 HR.out).mono ?_
  rintro e w5 ⟨rfl, hb5⟩
  have hB5 := hB4.trans (hb5.mono hB4.size)
  replace h1 := h1.below hb5
  replace h2 := h2.below hb5
  replace h3 := h3.below hb5
  clear hb5 
  go_wp2_with fail
  refine (lex_is h1 h3 HT.out).mono ?_
  rintro e w6 ⟨rfl, hb6⟩
  have hB6 := hB5.trans (hb6.mono hB5.size)
  replace h1 := h1.below hb6
  replace h2 := h2.below hb6
  replace h3 := h3.below hb6
  clear hb6 
  go_wp2_with fail
  refine (cmp_is h2 h1 HX2.out).mono ?_
  rintro e w7 ⟨rfl, hb7⟩
  have hB7 := hB6.trans (hb7.mono hB6.size)
  replace h1 := h1.below hb7
  replace h2 := h2.below hb7
  replace h3 := h3.below hb7
  clear hb7 
  go_wp2_with fail
  refine (lex_is h2 h1 HL2.out).mono ?_
  rintro e w8 ⟨rfl, hb8⟩
  have hB8 := hB7.trans (hb8.mono hB7.size)
  replace h1 := h1.below hb8
  replace h2 := h2.below hb8
  replace h3 := h3.below hb8
  clear hb8 
  go_wp2_with fail
  refine (same1_eq h1 h2 HS.out).mono ?_
  rintro e w9 ⟨rfl, hb9⟩
  have hB9 := hB8.trans (hb9.mono hB8.size)
  replace h1 := h1.below hb9
  replace h2 := h2.below hb9
  replace h3 := h3.below hb9
  clear hb9 
  go_wp2_with fail
  refine (cmp_is h1 h1 HXX.out).mono ?_
  rintro e w10 ⟨rfl, hb10⟩
  have hB10 := hB9.trans (hb10.mono hB9.size)
  replace h1 := h1.below hb10
  replace h2 := h2.below hb10
  replace h3 := h3.below hb10
  clear hb10 
  go_wp2_with fail
  refine (hasp_is h1 h2 HP.out).mono ?_
  rintro e w11 ⟨rfl, hb11⟩
  have hB11 := hB10.trans (hb11.mono hB10.size)
  replace h1 := h1.below hb11
  replace h2 := h2.below hb11
  replace h3 := h3.below hb11
  clear hb11 
  go_wp2_with fail
  refine (join2_is h3 h1 (by omega) (by omega)).mono ?_
  rintro e w12 ⟨p1, q1, l1, rfl, hl1, s1, hb12⟩
  have hB12 := hB11.trans (hb12.mono hB11.size)
  replace h1 := h1.below hb12
  replace h2 := h2.below hb12
  replace h3 := h3.below hb12
  clear hb12 
  go_wp2_with fail
  refine (join2_is h3 h2 (by omega) (by omega)).mono ?_
  rintro e w13 ⟨p2, q2, l2, rfl, hl2, s2, hb13⟩
  have hB13 := hB12.trans (hb13.mono hB12.size)
  replace h1 := h1.below hb13
  replace h2 := h2.below hb13
  replace h3 := h3.below hb13
  replace s1 := s1.below hb13
  clear hb13 
  go_wp2_with fail
  have HC : Hid (cmpW l1 l2 = -1) := by unfold Hid; rw [hl1.out, hl2.out, HJ.out]; exact HX.out
  refine (cmp_is s1 s2 HC.out).mono ?_
  rintro e w14 ⟨rfl, hb14⟩
  have hB14 := hB13.trans (hb14.mono hB13.size)
  replace h1 := h1.below hb14
  replace h2 := h2.below hb14
  replace h3 := h3.below hb14
  clear hb14 s1 s2
  go_wp2_with fail
  refine (join2_is h3 h1 (by omega) (by omega)).mono ?_
  rintro e w15 ⟨p3, q3, l3, rfl, hl3, s3, hb15⟩
  have hB15 := hB14.trans (hb15.mono hB14.size)
  replace h1 := h1.below hb15
  replace h2 := h2.below hb15
  replace h3 := h3.below hb15
  clear hb15 
  go_wp2_with fail
  refine (join2_is h3 h2 (by omega) (by omega)).mono ?_
  rintro e w16 ⟨p4, q4, l4, rfl, hl4, s4, hb16⟩
  have hB16 := hB15.trans (hb16.mono hB15.size)
  replace s3 := s3.below hb16
  clear hb16 
  go_wp2_with fail
  have HD : Hid (lexW l3 l4 = -1) := by unfold Hid; rw [hl3.out, hl4.out, HJ2.out]; exact HL.out
  refine (lex_is s3 s4 HD.out).mono ?_
  rintro e w17 ⟨rfl, hb17⟩
  have hB17 := hB16.trans (hb17.mono hB16.size)
  clear hb17 s3 s4
  go_wp2_with fail
  refine (awake1_any).mono ?_
  rintro e wz ⟨rfl, hbz⟩
  have hBf := hB17.trans (hbz.mono hB17.size)
  go_wp2
  go_ret
  exact ⟨rfl, hBf⟩

set_option maxRecDepth 100000 in
set_option maxHeartbeats 8000000 in
theorem lorder_w14 {xs ys zs : List Int} (h1 : Sl (fun _ => False) w a c xs) (h2 : Sl (fun _ => False) w b d ys) (h3 : Sl (fun _ => False) w a3 c3 zs) (k0 : ¬ 300 < xs.length) (k1 : ¬ 300 < ys.length) (k2 : ¬ 300 < zs.length) (hx : cmpW xs ys = -1) (hl : lexW xs ys = -1) (hy : cmpW ys zs ≤ 0) (hm : ¬ lexW ys zs ≤ 0) (hp : decide (comW xs ys = ys.length) = false) (hn : decide (xs.length < ys.length) = true) :
    Calls Try.prog 8 #[.slice a xs.length c, .slice b ys.length d, .slice a3 zs.length c3] w fun e w' => e = .returned (.bool true) ∧ Below w.heap.size w w' := by
  have e0 := h1.le
  have d0 : decide (300 < ((xs.length : Nat) : Int)) = false := by simp <;> omega
  have e1 := h2.le
  have d1 : decide (300 < ((ys.length : Nat) : Int)) = false := by simp <;> omega
  have e2 := h3.le
  have d2 : decide (300 < ((zs.length : Nat) : Int)) = false := by simp <;> omega
  have hB0 := Below.refl w.heap.size w
  have HX := Lib.hid hx
  have HL := Lib.hid hl
  have HX2 := Lib.hid (show cmpW ys xs = 1 by have := cmp_swap xs ys; omega)
  have HL2 := Lib.hid (show lexW ys xs = 1 by have := lex_swap xs ys; omega)
  have HS := Lib.hid (show decide (xs = ys) = false by exact decide_eq_false (fun e => by rw [e, cmp_same] at hx; cases hx))
  have HXX := Lib.hid (cmp_same xs)
  have HJ := Lib.hid (cmp_app zs xs ys)
  have HJ2 := Lib.hid (lex_app zs xs ys)
  have HP := Lib.hid hp
  obtain ⟨Y, HY⟩ : ∃ Y, Hid (cmpW ys zs = Y) := ⟨_, rfl⟩
  obtain ⟨Z, HZ⟩ : ∃ Z, Hid (cmpW xs zs = Z) := ⟨_, rfl⟩
  obtain ⟨R, HR⟩ : ∃ R, Hid (lexW ys zs = R) := ⟨_, rfl⟩
  obtain ⟨S, HT⟩ : ∃ S, Hid (lexW xs zs = S) := ⟨_, rfl⟩
  have f0 : decide (Y ≤ 0) = true := by rw [← HY.out]; simp <;> omega
  have t0 := cmp_trans (a := xs) (b := ys) (c := zs) (by omega) hy
  rw [HZ.out] at t0
  have f1 : decide (0 < Z) = false := by simp <;> omega
  have f2 : decide (0 ≤ Z) = false := by have := t0.2 (by omega); simp <;> omega
  clear t0
  clear hy
  have g0 : decide (R ≤ 0) = false := by rw [← HR.out]; simp <;> omega
  clear hm
  clear hx hl hp
  go_enter Try.func8, Try.ntmps8
  go_wp2_with fail
  refine (cmp_is h1 h2 HX.out).mono ?_
  rintro e w1 ⟨rfl, hb1⟩
  have hB1 := hB0.trans (hb1.mono hB0.size)
  replace h1 := h1.below hb1
  replace h2 := h2.below hb1
  replace h3 := h3.below hb1
  clear hb1 
  go_wp2_with fail
  refine (cmp_is h2 h3 HY.out).mono ?_
  rintro e w2 ⟨rfl, hb2⟩
  have hB2 := hB1.trans (hb2.mono hB1.size)
  replace h1 := h1.below hb2
  replace h2 := h2.below hb2
  replace h3 := h3.below hb2
  clear hb2 
  go_wp2_with fail
  refine (cmp_is h1 h3 HZ.out).mono ?_
  rintro e w3 ⟨rfl, hb3⟩
  have hB3 := hB2.trans (hb3.mono hB2.size)
  replace h1 := h1.below hb3
  replace h2 := h2.below hb3
  replace h3 := h3.below hb3
  clear hb3 
  go_wp2_with fail
  refine (lex_is h1 h2 HL.out).mono ?_
  rintro e w4 ⟨rfl, hb4⟩
  have hB4 := hB3.trans (hb4.mono hB3.size)
  replace h1 := h1.below hb4
  replace h2 := h2.below hb4
  replace h3 := h3.below hb4
  clear hb4 
  go_wp2_with fail
  refine (lex_is h2 h3 HR.out).mono ?_
  rintro e w5 ⟨rfl, hb5⟩
  have hB5 := hB4.trans (hb5.mono hB4.size)
  replace h1 := h1.below hb5
  replace h2 := h2.below hb5
  replace h3 := h3.below hb5
  clear hb5 
  go_wp2_with fail
  refine (lex_is h1 h3 HT.out).mono ?_
  rintro e w6 ⟨rfl, hb6⟩
  have hB6 := hB5.trans (hb6.mono hB5.size)
  replace h1 := h1.below hb6
  replace h2 := h2.below hb6
  replace h3 := h3.below hb6
  clear hb6 
  go_wp2_with fail
  refine (cmp_is h2 h1 HX2.out).mono ?_
  rintro e w7 ⟨rfl, hb7⟩
  have hB7 := hB6.trans (hb7.mono hB6.size)
  replace h1 := h1.below hb7
  replace h2 := h2.below hb7
  replace h3 := h3.below hb7
  clear hb7 
  go_wp2_with fail
  refine (lex_is h2 h1 HL2.out).mono ?_
  rintro e w8 ⟨rfl, hb8⟩
  have hB8 := hB7.trans (hb8.mono hB7.size)
  replace h1 := h1.below hb8
  replace h2 := h2.below hb8
  replace h3 := h3.below hb8
  clear hb8 
  go_wp2_with fail
  refine (same1_eq h1 h2 HS.out).mono ?_
  rintro e w9 ⟨rfl, hb9⟩
  have hB9 := hB8.trans (hb9.mono hB8.size)
  replace h1 := h1.below hb9
  replace h2 := h2.below hb9
  replace h3 := h3.below hb9
  clear hb9 
  go_wp2_with fail
  refine (cmp_is h1 h1 HXX.out).mono ?_
  rintro e w10 ⟨rfl, hb10⟩
  have hB10 := hB9.trans (hb10.mono hB9.size)
  replace h1 := h1.below hb10
  replace h2 := h2.below hb10
  replace h3 := h3.below hb10
  clear hb10 
  go_wp2_with fail
  refine (hasp_is h1 h2 HP.out).mono ?_
  rintro e w11 ⟨rfl, hb11⟩
  have hB11 := hB10.trans (hb11.mono hB10.size)
  replace h1 := h1.below hb11
  replace h2 := h2.below hb11
  replace h3 := h3.below hb11
  clear hb11 
  go_wp2_with fail
  refine (join2_is h3 h1 (by omega) (by omega)).mono ?_
  rintro e w12 ⟨p1, q1, l1, rfl, hl1, s1, hb12⟩
  have hB12 := hB11.trans (hb12.mono hB11.size)
  replace h1 := h1.below hb12
  replace h2 := h2.below hb12
  replace h3 := h3.below hb12
  clear hb12 
  go_wp2_with fail
  refine (join2_is h3 h2 (by omega) (by omega)).mono ?_
  rintro e w13 ⟨p2, q2, l2, rfl, hl2, s2, hb13⟩
  have hB13 := hB12.trans (hb13.mono hB12.size)
  replace h1 := h1.below hb13
  replace h2 := h2.below hb13
  replace h3 := h3.below hb13
  replace s1 := s1.below hb13
  clear hb13 
  go_wp2_with fail
  have HC : Hid (cmpW l1 l2 = -1) := by unfold Hid; rw [hl1.out, hl2.out, HJ.out]; exact HX.out
  refine (cmp_is s1 s2 HC.out).mono ?_
  rintro e w14 ⟨rfl, hb14⟩
  have hB14 := hB13.trans (hb14.mono hB13.size)
  replace h1 := h1.below hb14
  replace h2 := h2.below hb14
  replace h3 := h3.below hb14
  clear hb14 s1 s2
  go_wp2_with fail
  refine (join2_is h3 h1 (by omega) (by omega)).mono ?_
  rintro e w15 ⟨p3, q3, l3, rfl, hl3, s3, hb15⟩
  have hB15 := hB14.trans (hb15.mono hB14.size)
  replace h1 := h1.below hb15
  replace h2 := h2.below hb15
  replace h3 := h3.below hb15
  clear hb15 
  go_wp2_with fail
  refine (join2_is h3 h2 (by omega) (by omega)).mono ?_
  rintro e w16 ⟨p4, q4, l4, rfl, hl4, s4, hb16⟩
  have hB16 := hB15.trans (hb16.mono hB15.size)
  replace s3 := s3.below hb16
  clear hb16 
  go_wp2_with fail
  have HD : Hid (lexW l3 l4 = -1) := by unfold Hid; rw [hl3.out, hl4.out, HJ2.out]; exact HL.out
  refine (lex_is s3 s4 HD.out).mono ?_
  rintro e w17 ⟨rfl, hb17⟩
  have hB17 := hB16.trans (hb17.mono hB16.size)
  clear hb17 s3 s4
  go_wp2_with fail
  refine (awake1_any).mono ?_
  rintro e wz ⟨rfl, hbz⟩
  have hBf := hB17.trans (hbz.mono hB17.size)
  go_wp2
  go_ret
  exact ⟨rfl, hBf⟩

set_option maxRecDepth 100000 in
set_option maxHeartbeats 8000000 in
theorem lorder_w15 {xs ys zs : List Int} (h1 : Sl (fun _ => False) w a c xs) (h2 : Sl (fun _ => False) w b d ys) (h3 : Sl (fun _ => False) w a3 c3 zs) (k0 : ¬ 300 < xs.length) (k1 : ¬ 300 < ys.length) (k2 : ¬ 300 < zs.length) (hx : cmpW xs ys = -1) (hl : lexW xs ys = -1) (hy : cmpW ys zs ≤ 0) (hm : ¬ lexW ys zs ≤ 0) (hp : decide (comW xs ys = ys.length) = false) (hn : decide (xs.length < ys.length) = false) :
    Calls Try.prog 8 #[.slice a xs.length c, .slice b ys.length d, .slice a3 zs.length c3] w fun e w' => e = .returned (.bool true) ∧ Below w.heap.size w w' := by
  have e0 := h1.le
  have d0 : decide (300 < ((xs.length : Nat) : Int)) = false := by simp <;> omega
  have e1 := h2.le
  have d1 : decide (300 < ((ys.length : Nat) : Int)) = false := by simp <;> omega
  have e2 := h3.le
  have d2 : decide (300 < ((zs.length : Nat) : Int)) = false := by simp <;> omega
  have hB0 := Below.refl w.heap.size w
  have HX := Lib.hid hx
  have HL := Lib.hid hl
  have HX2 := Lib.hid (show cmpW ys xs = 1 by have := cmp_swap xs ys; omega)
  have HL2 := Lib.hid (show lexW ys xs = 1 by have := lex_swap xs ys; omega)
  have HS := Lib.hid (show decide (xs = ys) = false by exact decide_eq_false (fun e => by rw [e, cmp_same] at hx; cases hx))
  have HXX := Lib.hid (cmp_same xs)
  have HJ := Lib.hid (cmp_app zs xs ys)
  have HJ2 := Lib.hid (lex_app zs xs ys)
  have HP := Lib.hid hp
  obtain ⟨Y, HY⟩ : ∃ Y, Hid (cmpW ys zs = Y) := ⟨_, rfl⟩
  obtain ⟨Z, HZ⟩ : ∃ Z, Hid (cmpW xs zs = Z) := ⟨_, rfl⟩
  obtain ⟨R, HR⟩ : ∃ R, Hid (lexW ys zs = R) := ⟨_, rfl⟩
  obtain ⟨S, HT⟩ : ∃ S, Hid (lexW xs zs = S) := ⟨_, rfl⟩
  have f0 : decide (Y ≤ 0) = true := by rw [← HY.out]; simp <;> omega
  have t0 := cmp_trans (a := xs) (b := ys) (c := zs) (by omega) hy
  rw [HZ.out] at t0
  have f1 : decide (0 < Z) = false := by simp <;> omega
  have f2 : decide (0 ≤ Z) = false := by have := t0.2 (by omega); simp <;> omega
  clear t0
  clear hy
  have g0 : decide (R ≤ 0) = false := by rw [← HR.out]; simp <;> omega
  clear hm
  clear hx hl hp
  go_enter Try.func8, Try.ntmps8
  go_wp2_with fail
  refine (cmp_is h1 h2 HX.out).mono ?_
  rintro e w1 ⟨rfl, hb1⟩
  have hB1 := hB0.trans (hb1.mono hB0.size)
  replace h1 := h1.below hb1
  replace h2 := h2.below hb1
  replace h3 := h3.below hb1
  clear hb1 
  go_wp2_with fail
  refine (cmp_is h2 h3 HY.out).mono ?_
  rintro e w2 ⟨rfl, hb2⟩
  have hB2 := hB1.trans (hb2.mono hB1.size)
  replace h1 := h1.below hb2
  replace h2 := h2.below hb2
  replace h3 := h3.below hb2
  clear hb2 
  go_wp2_with fail
  refine (cmp_is h1 h3 HZ.out).mono ?_
  rintro e w3 ⟨rfl, hb3⟩
  have hB3 := hB2.trans (hb3.mono hB2.size)
  replace h1 := h1.below hb3
  replace h2 := h2.below hb3
  replace h3 := h3.below hb3
  clear hb3 
  go_wp2_with fail
  refine (lex_is h1 h2 HL.out).mono ?_
  rintro e w4 ⟨rfl, hb4⟩
  have hB4 := hB3.trans (hb4.mono hB3.size)
  replace h1 := h1.below hb4
  replace h2 := h2.below hb4
  replace h3 := h3.below hb4
  clear hb4 
  go_wp2_with fail
  refine (lex_is h2 h3 HR.out).mono ?_
  rintro e w5 ⟨rfl, hb5⟩
  have hB5 := hB4.trans (hb5.mono hB4.size)
  replace h1 := h1.below hb5
  replace h2 := h2.below hb5
  replace h3 := h3.below hb5
  clear hb5 
  go_wp2_with fail
  refine (lex_is h1 h3 HT.out).mono ?_
  rintro e w6 ⟨rfl, hb6⟩
  have hB6 := hB5.trans (hb6.mono hB5.size)
  replace h1 := h1.below hb6
  replace h2 := h2.below hb6
  replace h3 := h3.below hb6
  clear hb6 
  go_wp2_with fail
  refine (cmp_is h2 h1 HX2.out).mono ?_
  rintro e w7 ⟨rfl, hb7⟩
  have hB7 := hB6.trans (hb7.mono hB6.size)
  replace h1 := h1.below hb7
  replace h2 := h2.below hb7
  replace h3 := h3.below hb7
  clear hb7 
  go_wp2_with fail
  refine (lex_is h2 h1 HL2.out).mono ?_
  rintro e w8 ⟨rfl, hb8⟩
  have hB8 := hB7.trans (hb8.mono hB7.size)
  replace h1 := h1.below hb8
  replace h2 := h2.below hb8
  replace h3 := h3.below hb8
  clear hb8 
  go_wp2_with fail
  refine (same1_eq h1 h2 HS.out).mono ?_
  rintro e w9 ⟨rfl, hb9⟩
  have hB9 := hB8.trans (hb9.mono hB8.size)
  replace h1 := h1.below hb9
  replace h2 := h2.below hb9
  replace h3 := h3.below hb9
  clear hb9 
  go_wp2_with fail
  refine (cmp_is h1 h1 HXX.out).mono ?_
  rintro e w10 ⟨rfl, hb10⟩
  have hB10 := hB9.trans (hb10.mono hB9.size)
  replace h1 := h1.below hb10
  replace h2 := h2.below hb10
  replace h3 := h3.below hb10
  clear hb10 
  go_wp2_with fail
  refine (hasp_is h1 h2 HP.out).mono ?_
  rintro e w11 ⟨rfl, hb11⟩
  have hB11 := hB10.trans (hb11.mono hB10.size)
  replace h1 := h1.below hb11
  replace h2 := h2.below hb11
  replace h3 := h3.below hb11
  clear hb11 
  go_wp2_with fail
  refine (join2_is h3 h1 (by omega) (by omega)).mono ?_
  rintro e w12 ⟨p1, q1, l1, rfl, hl1, s1, hb12⟩
  have hB12 := hB11.trans (hb12.mono hB11.size)
  replace h1 := h1.below hb12
  replace h2 := h2.below hb12
  replace h3 := h3.below hb12
  clear hb12 
  go_wp2_with fail
  refine (join2_is h3 h2 (by omega) (by omega)).mono ?_
  rintro e w13 ⟨p2, q2, l2, rfl, hl2, s2, hb13⟩
  have hB13 := hB12.trans (hb13.mono hB12.size)
  replace h1 := h1.below hb13
  replace h2 := h2.below hb13
  replace h3 := h3.below hb13
  replace s1 := s1.below hb13
  clear hb13 
  go_wp2_with fail
  have HC : Hid (cmpW l1 l2 = -1) := by unfold Hid; rw [hl1.out, hl2.out, HJ.out]; exact HX.out
  refine (cmp_is s1 s2 HC.out).mono ?_
  rintro e w14 ⟨rfl, hb14⟩
  have hB14 := hB13.trans (hb14.mono hB13.size)
  replace h1 := h1.below hb14
  replace h2 := h2.below hb14
  replace h3 := h3.below hb14
  clear hb14 s1 s2
  go_wp2_with fail
  refine (join2_is h3 h1 (by omega) (by omega)).mono ?_
  rintro e w15 ⟨p3, q3, l3, rfl, hl3, s3, hb15⟩
  have hB15 := hB14.trans (hb15.mono hB14.size)
  replace h1 := h1.below hb15
  replace h2 := h2.below hb15
  replace h3 := h3.below hb15
  clear hb15 
  go_wp2_with fail
  refine (join2_is h3 h2 (by omega) (by omega)).mono ?_
  rintro e w16 ⟨p4, q4, l4, rfl, hl4, s4, hb16⟩
  have hB16 := hB15.trans (hb16.mono hB15.size)
  replace s3 := s3.below hb16
  clear hb16 
  go_wp2_with fail
  have HD : Hid (lexW l3 l4 = -1) := by unfold Hid; rw [hl3.out, hl4.out, HJ2.out]; exact HL.out
  refine (lex_is s3 s4 HD.out).mono ?_
  rintro e w17 ⟨rfl, hb17⟩
  have hB17 := hB16.trans (hb17.mono hB16.size)
  clear hb17 s3 s4
  go_wp2_with fail
  refine (awake1_any).mono ?_
  rintro e wz ⟨rfl, hbz⟩
  have hBf := hB17.trans (hbz.mono hB17.size)
  go_wp2
  go_ret
  exact ⟨rfl, hBf⟩

set_option maxRecDepth 100000 in
set_option maxHeartbeats 8000000 in
theorem lorder_w16 {xs ys zs : List Int} (h1 : Sl (fun _ => False) w a c xs) (h2 : Sl (fun _ => False) w b d ys) (h3 : Sl (fun _ => False) w a3 c3 zs) (k0 : ¬ 300 < xs.length) (k1 : ¬ 300 < ys.length) (k2 : ¬ 300 < zs.length) (hx : cmpW xs ys = -1) (hl : lexW xs ys = -1) (hy : ¬ cmpW ys zs ≤ 0) (hm : lexW ys zs ≤ 0) (hp : decide (comW xs ys = ys.length) = false) (hn : decide (xs.length < ys.length) = true) :
    Calls Try.prog 8 #[.slice a xs.length c, .slice b ys.length d, .slice a3 zs.length c3] w fun e w' => e = .returned (.bool true) ∧ Below w.heap.size w w' := by
  have e0 := h1.le
  have d0 : decide (300 < ((xs.length : Nat) : Int)) = false := by simp <;> omega
  have e1 := h2.le
  have d1 : decide (300 < ((ys.length : Nat) : Int)) = false := by simp <;> omega
  have e2 := h3.le
  have d2 : decide (300 < ((zs.length : Nat) : Int)) = false := by simp <;> omega
  have hB0 := Below.refl w.heap.size w
  have HX := Lib.hid hx
  have HL := Lib.hid hl
  have HX2 := Lib.hid (show cmpW ys xs = 1 by have := cmp_swap xs ys; omega)
  have HL2 := Lib.hid (show lexW ys xs = 1 by have := lex_swap xs ys; omega)
  have HS := Lib.hid (show decide (xs = ys) = false by exact decide_eq_false (fun e => by rw [e, cmp_same] at hx; cases hx))
  have HXX := Lib.hid (cmp_same xs)
  have HJ := Lib.hid (cmp_app zs xs ys)
  have HJ2 := Lib.hid (lex_app zs xs ys)
  have HP := Lib.hid hp
  obtain ⟨Y, HY⟩ : ∃ Y, Hid (cmpW ys zs = Y) := ⟨_, rfl⟩
  obtain ⟨Z, HZ⟩ : ∃ Z, Hid (cmpW xs zs = Z) := ⟨_, rfl⟩
  obtain ⟨R, HR⟩ : ∃ R, Hid (lexW ys zs = R) := ⟨_, rfl⟩
  obtain ⟨S, HT⟩ : ∃ S, Hid (lexW xs zs = S) := ⟨_, rfl⟩
  have f0 : decide (Y ≤ 0) = false := by rw [← HY.out]; simp <;> omega
  clear hy
  have g0 : decide (R ≤ 0) = true := by rw [← HR.out]; simp <;> omega
  have t1 := lex_trans (a := xs) (b := ys) (c := zs) (by omega) hm
  rw [HT.out] at t1
  have g1 : decide (0 < S) = false := by simp <;> omega
  have g2 : decide (0 ≤ S) = false := by have := t1.2 (by omega); simp <;> omega
  clear t1
  clear hm
  clear hx hl hp
  go_enter Try.func8, Try.ntmps8
  go_wp2_with fail
  refine (cmp_is h1 h2 HX.out).mono ?_
  rintro e w1 ⟨rfl, hb1⟩
  have hB1 := hB0.trans (hb1.mono hB0.size)
  replace h1 := h1.below hb1
  replace h2 := h2.below hb1
  replace h3 := h3.below hb1
  clear hb1 
  go_wp2_with fail
  refine (cmp_is h2 h3 HY.out).mono ?_
  rintro e w2 ⟨rfl, hb2⟩
  have hB2 := hB1.trans (hb2.mono hB1.size)
  replace h1 := h1.below hb2
  replace h2 := h2.below hb2
  replace h3 := h3.below hb2
  clear hb2 
  go_wp2_with fail
  refine (cmp_is h1 h3 HZ.out).mono ?_
  rintro e w3 ⟨rfl, hb3⟩
  have hB3 := hB2.trans (hb3.mono hB2.size)
  replace h1 := h1.below hb3
  replace h2 := h2.below hb3
  replace h3 := h3.below hb3
  clear hb3 
  go_wp2_with fail
  refine (lex_is h1 h2 HL.out).mono ?_
  rintro e w4 ⟨rfl, hb4⟩
  have hB4 := hB3.trans (hb4.mono hB3.size)
  replace h1 := h1.below hb4
  replace h2 := h2.below hb4
  replace h3 := h3.below hb4
  clear hb4 
  go_wp2_with fail
  refine (lex_is h2 h3 HR.out).mono ?_
  rintro e w5 ⟨rfl, hb5⟩
  have hB5 := hB4.trans (hb5.mono hB4.size)
  replace h1 := h1.below hb5
  replace h2 := h2.below hb5
  replace h3 := h3.below hb5
  clear hb5 
  go_wp2_with fail
  refine (lex_is h1 h3 HT.out).mono ?_
  rintro e w6 ⟨rfl, hb6⟩
  have hB6 := hB5.trans (hb6.mono hB5.size)
  replace h1 := h1.below hb6
  replace h2 := h2.below hb6
  replace h3 := h3.below hb6
  clear hb6 
  go_wp2_with fail
  refine (cmp_is h2 h1 HX2.out).mono ?_
  rintro e w7 ⟨rfl, hb7⟩
  have hB7 := hB6.trans (hb7.mono hB6.size)
  replace h1 := h1.below hb7
  replace h2 := h2.below hb7
  replace h3 := h3.below hb7
  clear hb7 
  go_wp2_with fail
  refine (lex_is h2 h1 HL2.out).mono ?_
  rintro e w8 ⟨rfl, hb8⟩
  have hB8 := hB7.trans (hb8.mono hB7.size)
  replace h1 := h1.below hb8
  replace h2 := h2.below hb8
  replace h3 := h3.below hb8
  clear hb8 
  go_wp2_with fail
  refine (same1_eq h1 h2 HS.out).mono ?_
  rintro e w9 ⟨rfl, hb9⟩
  have hB9 := hB8.trans (hb9.mono hB8.size)
  replace h1 := h1.below hb9
  replace h2 := h2.below hb9
  replace h3 := h3.below hb9
  clear hb9 
  go_wp2_with fail
  refine (cmp_is h1 h1 HXX.out).mono ?_
  rintro e w10 ⟨rfl, hb10⟩
  have hB10 := hB9.trans (hb10.mono hB9.size)
  replace h1 := h1.below hb10
  replace h2 := h2.below hb10
  replace h3 := h3.below hb10
  clear hb10 
  go_wp2_with fail
  refine (hasp_is h1 h2 HP.out).mono ?_
  rintro e w11 ⟨rfl, hb11⟩
  have hB11 := hB10.trans (hb11.mono hB10.size)
  replace h1 := h1.below hb11
  replace h2 := h2.below hb11
  replace h3 := h3.below hb11
  clear hb11 
  go_wp2_with fail
  refine (join2_is h3 h1 (by omega) (by omega)).mono ?_
  rintro e w12 ⟨p1, q1, l1, rfl, hl1, s1, hb12⟩
  have hB12 := hB11.trans (hb12.mono hB11.size)
  replace h1 := h1.below hb12
  replace h2 := h2.below hb12
  replace h3 := h3.below hb12
  clear hb12 
  go_wp2_with fail
  refine (join2_is h3 h2 (by omega) (by omega)).mono ?_
  rintro e w13 ⟨p2, q2, l2, rfl, hl2, s2, hb13⟩
  have hB13 := hB12.trans (hb13.mono hB12.size)
  replace h1 := h1.below hb13
  replace h2 := h2.below hb13
  replace h3 := h3.below hb13
  replace s1 := s1.below hb13
  clear hb13 
  go_wp2_with fail
  have HC : Hid (cmpW l1 l2 = -1) := by unfold Hid; rw [hl1.out, hl2.out, HJ.out]; exact HX.out
  refine (cmp_is s1 s2 HC.out).mono ?_
  rintro e w14 ⟨rfl, hb14⟩
  have hB14 := hB13.trans (hb14.mono hB13.size)
  replace h1 := h1.below hb14
  replace h2 := h2.below hb14
  replace h3 := h3.below hb14
  clear hb14 s1 s2
  go_wp2_with fail
  refine (join2_is h3 h1 (by omega) (by omega)).mono ?_
  rintro e w15 ⟨p3, q3, l3, rfl, hl3, s3, hb15⟩
  have hB15 := hB14.trans (hb15.mono hB14.size)
  replace h1 := h1.below hb15
  replace h2 := h2.below hb15
  replace h3 := h3.below hb15
  clear hb15 
  go_wp2_with fail
  refine (join2_is h3 h2 (by omega) (by omega)).mono ?_
  rintro e w16 ⟨p4, q4, l4, rfl, hl4, s4, hb16⟩
  have hB16 := hB15.trans (hb16.mono hB15.size)
  replace s3 := s3.below hb16
  clear hb16 
  go_wp2_with fail
  have HD : Hid (lexW l3 l4 = -1) := by unfold Hid; rw [hl3.out, hl4.out, HJ2.out]; exact HL.out
  refine (lex_is s3 s4 HD.out).mono ?_
  rintro e w17 ⟨rfl, hb17⟩
  have hB17 := hB16.trans (hb17.mono hB16.size)
  clear hb17 s3 s4
  go_wp2_with fail
  refine (awake1_any).mono ?_
  rintro e wz ⟨rfl, hbz⟩
  have hBf := hB17.trans (hbz.mono hB17.size)
  go_wp2
  go_ret
  exact ⟨rfl, hBf⟩

set_option maxRecDepth 100000 in
set_option maxHeartbeats 8000000 in
theorem lorder_w17 {xs ys zs : List Int} (h1 : Sl (fun _ => False) w a c xs) (h2 : Sl (fun _ => False) w b d ys) (h3 : Sl (fun _ => False) w a3 c3 zs) (k0 : ¬ 300 < xs.length) (k1 : ¬ 300 < ys.length) (k2 : ¬ 300 < zs.length) (hx : cmpW xs ys = -1) (hl : lexW xs ys = -1) (hy : ¬ cmpW ys zs ≤ 0) (hm : lexW ys zs ≤ 0) (hp : decide (comW xs ys = ys.length) = false) (hn : decide (xs.length < ys.length) = false) :
    Calls Try.prog 8 #[.slice a xs.length c, .slice b ys.length d, .slice a3 zs.length c3] w fun e w' => e = .returned (.bool true) ∧ Below w.heap.size w w' := by
  have e0 := h1.le
  have d0 : decide (300 < ((xs.length : Nat) : Int)) = false := by simp <;> omega
  have e1 := h2.le
  have d1 : decide (300 < ((ys.length : Nat) : Int)) = false := by simp <;> omega
  have e2 := h3.le
  have d2 : decide (300 < ((zs.length : Nat) : Int)) = false := by simp <;> omega
  have hB0 := Below.refl w.heap.size w
  have HX := Lib.hid hx
  have HL := Lib.hid hl
  have HX2 := Lib.hid (show cmpW ys xs = 1 by have := cmp_swap xs ys; omega)
  have HL2 := Lib.hid (show lexW ys xs = 1 by have := lex_swap xs ys; omega)
  have HS := Lib.hid (show decide (xs = ys) = false by exact decide_eq_false (fun e => by rw [e, cmp_same] at hx; cases hx))
  have HXX := Lib.hid (cmp_same xs)
  have HJ := Lib.hid (cmp_app zs xs ys)
  have HJ2 := Lib.hid (lex_app zs xs ys)
  have HP := Lib.hid hp
  obtain ⟨Y, HY⟩ : ∃ Y, Hid (cmpW ys zs = Y) := ⟨_, rfl⟩
  obtain ⟨Z, HZ⟩ : ∃ Z, Hid (cmpW xs zs = Z) := ⟨_, rfl⟩
  obtain ⟨R, HR⟩ : ∃ R, Hid (lexW ys zs = R) := ⟨_, rfl⟩
  obtain ⟨S, HT⟩ : ∃ S, Hid (lexW xs zs = S) := ⟨_, rfl⟩
  have f0 : decide (Y ≤ 0) = false := by rw [← HY.out]; simp <;> omega
  clear hy
  have g0 : decide (R ≤ 0) = true := by rw [← HR.out]; simp <;> omega
  have t1 := lex_trans (a := xs) (b := ys) (c := zs) (by omega) hm
  rw [HT.out] at t1
  have g1 : decide (0 < S) = false := by simp <;> omega
  have g2 : decide (0 ≤ S) = false := by have := t1.2 (by omega); simp <;> omega
  clear t1
  clear hm
  clear hx hl hp
  go_enter Try.func8, Try.ntmps8
  go_wp2_with fail
  refine (cmp_is h1 h2 HX.out).mono ?_
  rintro e w1 ⟨rfl, hb1⟩
  have hB1 := hB0.trans (hb1.mono hB0.size)
  replace h1 := h1.below hb1
  replace h2 := h2.below hb1
  replace h3 := h3.below hb1
  clear hb1 
  go_wp2_with fail
  refine (cmp_is h2 h3 HY.out).mono ?_
  rintro e w2 ⟨rfl, hb2⟩
  have hB2 := hB1.trans (hb2.mono hB1.size)
  replace h1 := h1.below hb2
  replace h2 := h2.below hb2
  replace h3 := h3.below hb2
  clear hb2 
  go_wp2_with fail
  refine (cmp_is h1 h3 HZ.out).mono ?_
  rintro e w3 ⟨rfl, hb3⟩
  have hB3 := hB2.trans (hb3.mono hB2.size)
  replace h1 := h1.below hb3
  replace h2 := h2.below hb3
  replace h3 := h3.below hb3
  clear hb3 
  go_wp2_with fail
  refine (lex_is h1 h2 HL.out).mono ?_
  rintro e w4 ⟨rfl, hb4⟩
  have hB4 := hB3.trans (hb4.mono hB3.size)
  replace h1 := h1.below hb4
  replace h2 := h2.below hb4
  replace h3 := h3.below hb4
  clear hb4 
  go_wp2_with fail
  refine (lex_is h2 h3 HR.out).mono ?_
  rintro e w5 ⟨rfl, hb5⟩
  have hB5 := hB4.trans (hb5.mono hB4.size)
  replace h1 := h1.below hb5
  replace h2 := h2.below hb5
  replace h3 := h3.below hb5
  clear hb5 
  go_wp2_with fail
  refine (lex_is h1 h3 HT.out).mono ?_
  rintro e w6 ⟨rfl, hb6⟩
  have hB6 := hB5.trans (hb6.mono hB5.size)
  replace h1 := h1.below hb6
  replace h2 := h2.below hb6
  replace h3 := h3.below hb6
  clear hb6 
  go_wp2_with fail
  refine (cmp_is h2 h1 HX2.out).mono ?_
  rintro e w7 ⟨rfl, hb7⟩
  have hB7 := hB6.trans (hb7.mono hB6.size)
  replace h1 := h1.below hb7
  replace h2 := h2.below hb7
  replace h3 := h3.below hb7
  clear hb7 
  go_wp2_with fail
  refine (lex_is h2 h1 HL2.out).mono ?_
  rintro e w8 ⟨rfl, hb8⟩
  have hB8 := hB7.trans (hb8.mono hB7.size)
  replace h1 := h1.below hb8
  replace h2 := h2.below hb8
  replace h3 := h3.below hb8
  clear hb8 
  go_wp2_with fail
  refine (same1_eq h1 h2 HS.out).mono ?_
  rintro e w9 ⟨rfl, hb9⟩
  have hB9 := hB8.trans (hb9.mono hB8.size)
  replace h1 := h1.below hb9
  replace h2 := h2.below hb9
  replace h3 := h3.below hb9
  clear hb9 
  go_wp2_with fail
  refine (cmp_is h1 h1 HXX.out).mono ?_
  rintro e w10 ⟨rfl, hb10⟩
  have hB10 := hB9.trans (hb10.mono hB9.size)
  replace h1 := h1.below hb10
  replace h2 := h2.below hb10
  replace h3 := h3.below hb10
  clear hb10 
  go_wp2_with fail
  refine (hasp_is h1 h2 HP.out).mono ?_
  rintro e w11 ⟨rfl, hb11⟩
  have hB11 := hB10.trans (hb11.mono hB10.size)
  replace h1 := h1.below hb11
  replace h2 := h2.below hb11
  replace h3 := h3.below hb11
  clear hb11 
  go_wp2_with fail
  refine (join2_is h3 h1 (by omega) (by omega)).mono ?_
  rintro e w12 ⟨p1, q1, l1, rfl, hl1, s1, hb12⟩
  have hB12 := hB11.trans (hb12.mono hB11.size)
  replace h1 := h1.below hb12
  replace h2 := h2.below hb12
  replace h3 := h3.below hb12
  clear hb12 
  go_wp2_with fail
  refine (join2_is h3 h2 (by omega) (by omega)).mono ?_
  rintro e w13 ⟨p2, q2, l2, rfl, hl2, s2, hb13⟩
  have hB13 := hB12.trans (hb13.mono hB12.size)
  replace h1 := h1.below hb13
  replace h2 := h2.below hb13
  replace h3 := h3.below hb13
  replace s1 := s1.below hb13
  clear hb13 
  go_wp2_with fail
  have HC : Hid (cmpW l1 l2 = -1) := by unfold Hid; rw [hl1.out, hl2.out, HJ.out]; exact HX.out
  refine (cmp_is s1 s2 HC.out).mono ?_
  rintro e w14 ⟨rfl, hb14⟩
  have hB14 := hB13.trans (hb14.mono hB13.size)
  replace h1 := h1.below hb14
  replace h2 := h2.below hb14
  replace h3 := h3.below hb14
  clear hb14 s1 s2
  go_wp2_with fail
  refine (join2_is h3 h1 (by omega) (by omega)).mono ?_
  rintro e w15 ⟨p3, q3, l3, rfl, hl3, s3, hb15⟩
  have hB15 := hB14.trans (hb15.mono hB14.size)
  replace h1 := h1.below hb15
  replace h2 := h2.below hb15
  replace h3 := h3.below hb15
  clear hb15 
  go_wp2_with fail
  refine (join2_is h3 h2 (by omega) (by omega)).mono ?_
  rintro e w16 ⟨p4, q4, l4, rfl, hl4, s4, hb16⟩
  have hB16 := hB15.trans (hb16.mono hB15.size)
  replace s3 := s3.below hb16
  clear hb16 
  go_wp2_with fail
  have HD : Hid (lexW l3 l4 = -1) := by unfold Hid; rw [hl3.out, hl4.out, HJ2.out]; exact HL.out
  refine (lex_is s3 s4 HD.out).mono ?_
  rintro e w17 ⟨rfl, hb17⟩
  have hB17 := hB16.trans (hb17.mono hB16.size)
  clear hb17 s3 s4
  go_wp2_with fail
  refine (awake1_any).mono ?_
  rintro e wz ⟨rfl, hbz⟩
  have hBf := hB17.trans (hbz.mono hB17.size)
  go_wp2
  go_ret
  exact ⟨rfl, hBf⟩

set_option maxRecDepth 100000 in
set_option maxHeartbeats 8000000 in
theorem lorder_w18 {xs ys zs : List Int} (h1 : Sl (fun _ => False) w a c xs) (h2 : Sl (fun _ => False) w b d ys) (h3 : Sl (fun _ => False) w a3 c3 zs) (k0 : ¬ 300 < xs.length) (k1 : ¬ 300 < ys.length) (k2 : ¬ 300 < zs.length) (hx : cmpW xs ys = -1) (hl : lexW xs ys = -1) (hy : ¬ cmpW ys zs ≤ 0) (hm : ¬ lexW ys zs ≤ 0) (hp : decide (comW xs ys = ys.length) = false) (hn : decide (xs.length < ys.length) = true) :
    Calls Try.prog 8 #[.slice a xs.length c, .slice b ys.length d, .slice a3 zs.length c3] w fun e w' => e = .returned (.bool true) ∧ Below w.heap.size w w' := by
  have e0 := h1.le
  have d0 : decide (300 < ((xs.length : Nat) : Int)) = false := by simp <;> omega
  have e1 := h2.le
  have d1 : decide (300 < ((ys.length : Nat) : Int)) = false := by simp <;> omega
  have e2 := h3.le
  have d2 : decide (300 < ((zs.length : Nat) : Int)) = false := by simp <;> omega
  have hB0 := Below.refl w.heap.size w
  have HX := Lib.hid hx
  have HL := Lib.hid hl
  have HX2 := Lib.hid (show cmpW ys xs = 1 by have := cmp_swap xs ys; omega)
  have HL2 := Lib.hid (show lexW ys xs = 1 by have := lex_swap xs ys; omega)
  have HS := Lib.hid (show decide (xs = ys) = false by exact decide_eq_false (fun e => by rw [e, cmp_same] at hx; cases hx))
  have HXX := Lib.hid (cmp_same xs)
  have HJ := Lib.hid (cmp_app zs xs ys)
  have HJ2 := Lib.hid (lex_app zs xs ys)
  have HP := Lib.hid hp
  obtain ⟨Y, HY⟩ : ∃ Y, Hid (cmpW ys zs = Y) := ⟨_, rfl⟩
  obtain ⟨Z, HZ⟩ : ∃ Z, Hid (cmpW xs zs = Z) := ⟨_, rfl⟩
  obtain ⟨R, HR⟩ : ∃ R, Hid (lexW ys zs = R) := ⟨_, rfl⟩
  obtain ⟨S, HT⟩ : ∃ S, Hid (lexW xs zs = S) := ⟨_, rfl⟩
  have f0 : decide (Y ≤ 0) = false := by rw [← HY.out]; simp <;> omega
  clear hy
  have g0 : decide (R ≤ 0) = false := by rw [← HR.out]; simp <;> omega
  clear hm
  clear hx hl hp
  go_enter Try.func8, Try.ntmps8
  go_wp2_with fail
  refine (cmp_is h1 h2 HX.out).mono ?_
  rintro e w1 ⟨rfl, hb1⟩
  have hB1 := hB0.trans (hb1.mono hB0.size)
  replace h1 := h1.below hb1
  replace h2 := h2.below hb1
  replace h3 := h3.below hb1
  clear hb1 
  go_wp2_with fail
  refine (cmp_is h2 h3 HY.out).mono ?_
  rintro e w2 ⟨rfl, hb2⟩
  have hB2 := hB1.trans (hb2.mono hB1.size)
  replace h1 := h1.below hb2
  replace h2 := h2.below hb2
  replace h3 := h3.below hb2
  clear hb2 
  go_wp2_with fail
  refine (cmp_is h1 h3 HZ.out).mono ?_
  rintro e w3 ⟨rfl, hb3⟩
  have hB3 := hB2.trans (hb3.mono hB2.size)
  replace h1 := h1.below hb3
  replace h2 := h2.below hb3
  replace h3 := h3.below hb3
  clear hb3 
  go_wp2_with fail
  refine (lex_is h1 h2 HL.out).mono ?_
  rintro e w4 ⟨rfl, hb4⟩
  have hB4 := hB3.trans (hb4.mono hB3.size)
  replace h1 := h1.below hb4
  replace h2 := h2.below hb4
  replace h3 := h3.below hb4
  clear hb4 
  go_wp2_with fail
  refine (lex_is h2 h3 HR.out).mono ?_
  rintro e w5 ⟨rfl, hb5⟩
  have hB5 := hB4.trans (hb5.mono hB4.size)
  replace h1 := h1.below hb5
  replace h2 := h2.below hb5
  replace h3 := h3.below hb5
  clear hb5 
  go_wp2_with fail
  refine (lex_is h1 h3 HT.out).mono ?_
  rintro e w6 ⟨rfl, hb6⟩
  have hB6 := hB5.trans (hb6.mono hB5.size)
  replace h1 := h1.below hb6
  replace h2 := h2.below hb6
  replace h3 := h3.below hb6
  clear hb6 
  go_wp2_with fail
  refine (cmp_is h2 h1 HX2.out).mono ?_
  rintro e w7 ⟨rfl, hb7⟩
  have hB7 := hB6.trans (hb7.mono hB6.size)
  replace h1 := h1.below hb7
  replace h2 := h2.below hb7
  replace h3 := h3.below hb7
  clear hb7 
  go_wp2_with fail
  refine (lex_is h2 h1 HL2.out).mono ?_
  rintro e w8 ⟨rfl, hb8⟩
  have hB8 := hB7.trans (hb8.mono hB7.size)
  replace h1 := h1.below hb8
  replace h2 := h2.below hb8
  replace h3 := h3.below hb8
  clear hb8 
  go_wp2_with fail
  refine (same1_eq h1 h2 HS.out).mono ?_
  rintro e w9 ⟨rfl, hb9⟩
  have hB9 := hB8.trans (hb9.mono hB8.size)
  replace h1 := h1.below hb9
  replace h2 := h2.below hb9
  replace h3 := h3.below hb9
  clear hb9 
  go_wp2_with fail
  refine (cmp_is h1 h1 HXX.out).mono ?_
  rintro e w10 ⟨rfl, hb10⟩
  have hB10 := hB9.trans (hb10.mono hB9.size)
  replace h1 := h1.below hb10
  replace h2 := h2.below hb10
  replace h3 := h3.below hb10
  clear hb10 
  go_wp2_with fail
  refine (hasp_is h1 h2 HP.out).mono ?_
  rintro e w11 ⟨rfl, hb11⟩
  have hB11 := hB10.trans (hb11.mono hB10.size)
  replace h1 := h1.below hb11
  replace h2 := h2.below hb11
  replace h3 := h3.below hb11
  clear hb11 
  go_wp2_with fail
  refine (join2_is h3 h1 (by omega) (by omega)).mono ?_
  rintro e w12 ⟨p1, q1, l1, rfl, hl1, s1, hb12⟩
  have hB12 := hB11.trans (hb12.mono hB11.size)
  replace h1 := h1.below hb12
  replace h2 := h2.below hb12
  replace h3 := h3.below hb12
  clear hb12 
  go_wp2_with fail
  refine (join2_is h3 h2 (by omega) (by omega)).mono ?_
  rintro e w13 ⟨p2, q2, l2, rfl, hl2, s2, hb13⟩
  have hB13 := hB12.trans (hb13.mono hB12.size)
  replace h1 := h1.below hb13
  replace h2 := h2.below hb13
  replace h3 := h3.below hb13
  replace s1 := s1.below hb13
  clear hb13 
  go_wp2_with fail
  have HC : Hid (cmpW l1 l2 = -1) := by unfold Hid; rw [hl1.out, hl2.out, HJ.out]; exact HX.out
  refine (cmp_is s1 s2 HC.out).mono ?_
  rintro e w14 ⟨rfl, hb14⟩
  have hB14 := hB13.trans (hb14.mono hB13.size)
  replace h1 := h1.below hb14
  replace h2 := h2.below hb14
  replace h3 := h3.below hb14
  clear hb14 s1 s2
  go_wp2_with fail
  refine (join2_is h3 h1 (by omega) (by omega)).mono ?_
  rintro e w15 ⟨p3, q3, l3, rfl, hl3, s3, hb15⟩
  have hB15 := hB14.trans (hb15.mono hB14.size)
  replace h1 := h1.below hb15
  replace h2 := h2.below hb15
  replace h3 := h3.below hb15
  clear hb15 
  go_wp2_with fail
  refine (join2_is h3 h2 (by omega) (by omega)).mono ?_
  rintro e w16 ⟨p4, q4, l4, rfl, hl4, s4, hb16⟩
  have hB16 := hB15.trans (hb16.mono hB15.size)
  replace s3 := s3.below hb16
  clear hb16 
  go_wp2_with fail
  have HD : Hid (lexW l3 l4 = -1) := by unfold Hid; rw [hl3.out, hl4.out, HJ2.out]; exact HL.out
  refine (lex_is s3 s4 HD.out).mono ?_
  rintro e w17 ⟨rfl, hb17⟩
  have hB17 := hB16.trans (hb17.mono hB16.size)
  clear hb17 s3 s4
  go_wp2_with fail
  refine (awake1_any).mono ?_
  rintro e wz ⟨rfl, hbz⟩
  have hBf := hB17.trans (hbz.mono hB17.size)
  go_wp2
  go_ret
  exact ⟨rfl, hBf⟩

set_option maxRecDepth 100000 in
set_option maxHeartbeats 8000000 in
theorem lorder_w19 {xs ys zs : List Int} (h1 : Sl (fun _ => False) w a c xs) (h2 : Sl (fun _ => False) w b d ys) (h3 : Sl (fun _ => False) w a3 c3 zs) (k0 : ¬ 300 < xs.length) (k1 : ¬ 300 < ys.length) (k2 : ¬ 300 < zs.length) (hx : cmpW xs ys = -1) (hl : lexW xs ys = -1) (hy : ¬ cmpW ys zs ≤ 0) (hm : ¬ lexW ys zs ≤ 0) (hp : decide (comW xs ys = ys.length) = false) (hn : decide (xs.length < ys.length) = false) :
    Calls Try.prog 8 #[.slice a xs.length c, .slice b ys.length d, .slice a3 zs.length c3] w fun e w' => e = .returned (.bool true) ∧ Below w.heap.size w w' := by
  have e0 := h1.le
  have d0 : decide (300 < ((xs.length : Nat) : Int)) = false := by simp <;> omega
  have e1 := h2.le
  have d1 : decide (300 < ((ys.length : Nat) : Int)) = false := by simp <;> omega
  have e2 := h3.le
  have d2 : decide (300 < ((zs.length : Nat) : Int)) = false := by simp <;> omega
  have hB0 := Below.refl w.heap.size w
  have HX := Lib.hid hx
  have HL := Lib.hid hl
  have HX2 := Lib.hid (show cmpW ys xs = 1 by have := cmp_swap xs ys; omega)
  have HL2 := Lib.hid (show lexW ys xs = 1 by have := lex_swap xs ys; omega)
  have HS := Lib.hid (show decide (xs = ys) = false by exact decide_eq_false (fun e => by rw [e, cmp_same] at hx; cases hx))
  have HXX := Lib.hid (cmp_same xs)
  have HJ := Lib.hid (cmp_app zs xs ys)
  have HJ2 := Lib.hid (lex_app zs xs ys)
  have HP := Lib.hid hp
  obtain ⟨Y, HY⟩ : ∃ Y, Hid (cmpW ys zs = Y) := ⟨_, rfl⟩
  obtain ⟨Z, HZ⟩ : ∃ Z, Hid (cmpW xs zs = Z) := ⟨_, rfl⟩
  obtain ⟨R, HR⟩ : ∃ R, Hid (lexW ys zs = R) := ⟨_, rfl⟩
  obtain ⟨S, HT⟩ : ∃ S, Hid (lexW xs zs = S) := ⟨_, rfl⟩
  have f0 : decide (Y ≤ 0) = false := by rw [← HY.out]; simp <;> omega
  clear hy
  have g0 : decide (R ≤ 0) = false := by rw [← HR.out]; simp <;> omega
  clear hm
  clear hx hl hp
  go_enter Try.func8, Try.ntmps8
  go_wp2_with fail
  refine (cmp_is h1 h2 HX.out).mono ?_
  rintro e w1 ⟨rfl, hb1⟩
  have hB1 := hB0.trans (hb1.mono hB0.size)
  replace h1 := h1.below hb1
  replace h2 := h2.below hb1
  replace h3 := h3.below hb1
  clear hb1 
  go_wp2_with fail
  refine (cmp_is h2 h3 HY.out).mono ?_
  rintro e w2 ⟨rfl, hb2⟩
  have hB2 := hB1.trans (hb2.mono hB1.size)
  replace h1 := h1.below hb2
  replace h2 := h2.below hb2
  replace h3 := h3.below hb2
  clear hb2 
  go_wp2_with fail
  refine (cmp_is h1 h3 HZ.out).mono ?_
  rintro e w3 ⟨rfl, hb3⟩
  have hB3 := hB2.trans (hb3.mono hB2.size)
  replace h1 := h1.below hb3
  replace h2 := h2.below hb3
  replace h3 := h3.below hb3
  clear hb3 
  go_wp2_with fail
  refine (lex_is h1 h2 HL.out).mono ?_
  rintro e w4 ⟨rfl, hb4⟩
  have hB4 := hB3.trans (hb4.mono hB3.size)
  replace h1 := h1.below hb4
  replace h2 := h2.below hb4
  replace h3 := h3.below hb4
  clear hb4 
  go_wp2_with fail
  refine (lex_is h2 h3 HR.out).mono ?_
  rintro e w5 ⟨rfl, hb5⟩
  have hB5 := hB4.trans (hb5.mono hB4.size)
  replace h1 := h1.below hb5
  replace h2 := h2.below hb5
  replace h3 := h3.below hb5
  clear hb5 
  go_wp2_with fail
  refine (lex_is h1 h3 HT.out).mono ?_
  rintro e w6 ⟨rfl, hb6⟩
  have hB6 := hB5.trans (hb6.mono hB5.size)
  replace h1 := h1.below hb6
  replace h2 := h2.below hb6
  replace h3 := h3.below hb6
  clear hb6 
  go_wp2_with fail
  refine (cmp_is h2 h1 HX2.out).mono ?_
  rintro e w7 ⟨rfl, hb7⟩
  have hB7 := hB6.trans (hb7.mono hB6.size)
  replace h1 := h1.below hb7
  replace h2 := h2.below hb7
  replace h3 := h3.below hb7
  clear hb7 
  go_wp2_with fail
  refine (lex_is h2 h1 HL2.out).mono ?_
  rintro e w8 ⟨rfl, hb8⟩
  have hB8 := hB7.trans (hb8.mono hB7.size)
  replace h1 := h1.below hb8
  replace h2 := h2.below hb8
  replace h3 := h3.below hb8
  clear hb8 
  go_wp2_with fail
  refine (same1_eq h1 h2 HS.out).mono ?_
  rintro e w9 ⟨rfl, hb9⟩
  have hB9 := hB8.trans (hb9.mono hB8.size)
  replace h1 := h1.below hb9
  replace h2 := h2.below hb9
  replace h3 := h3.below hb9
  clear hb9 
  go_wp2_with fail
  refine (cmp_is h1 h1 HXX.out).mono ?_
  rintro e w10 ⟨rfl, hb10⟩
  have hB10 := hB9.trans (hb10.mono hB9.size)
  replace h1 := h1.below hb10
  replace h2 := h2.below hb10
  replace h3 := h3.below hb10
  clear hb10 
  go_wp2_with fail
  refine (hasp_is h1 h2 HP.out).mono ?_
  rintro e w11 ⟨rfl, hb11⟩
  have hB11 := hB10.trans (hb11.mono hB10.size)
  replace h1 := h1.below hb11
  replace h2 := h2.below hb11
  replace h3 := h3.below hb11
  clear hb11 
  go_wp2_with fail
  refine (join2_is h3 h1 (by omega) (by omega)).mono ?_
  rintro e w12 ⟨p1, q1, l1, rfl, hl1, s1, hb12⟩
  have hB12 := hB11.trans (hb12.mono hB11.size)
  replace h1 := h1.below hb12
  replace h2 := h2.below hb12
  replace h3 := h3.below hb12
  clear hb12 
  go_wp2_with fail
  refine (join2_is h3 h2 (by omega) (by omega)).mono ?_
  rintro e w13 ⟨p2, q2, l2, rfl, hl2, s2, hb13⟩
  have hB13 := hB12.trans (hb13.mono hB12.size)
  replace h1 := h1.below hb13
  replace h2 := h2.below hb13
  replace h3 := h3.below hb13
  replace s1 := s1.below hb13
  clear hb13 
  go_wp2_with fail
  have HC : Hid (cmpW l1 l2 = -1) := by unfold Hid; rw [hl1.out, hl2.out, HJ.out]; exact HX.out
  refine (cmp_is s1 s2 HC.out).mono ?_
  rintro e w14 ⟨rfl, hb14⟩
  have hB14 := hB13.trans (hb14.mono hB13.size)
  replace h1 := h1.below hb14
  replace h2 := h2.below hb14
  replace h3 := h3.below hb14
  clear hb14 s1 s2
  go_wp2_with fail
  refine (join2_is h3 h1 (by omega) (by omega)).mono ?_
  rintro e w15 ⟨p3, q3, l3, rfl, hl3, s3, hb15⟩
  have hB15 := hB14.trans (hb15.mono hB14.size)
  replace h1 := h1.below hb15
  replace h2 := h2.below hb15
  replace h3 := h3.below hb15
  clear hb15 
  go_wp2_with fail
  refine (join2_is h3 h2 (by omega) (by omega)).mono ?_
  rintro e w16 ⟨p4, q4, l4, rfl, hl4, s4, hb16⟩
  have hB16 := hB15.trans (hb16.mono hB15.size)
  replace s3 := s3.below hb16
  clear hb16 
  go_wp2_with fail
  have HD : Hid (lexW l3 l4 = -1) := by unfold Hid; rw [hl3.out, hl4.out, HJ2.out]; exact HL.out
  refine (lex_is s3 s4 HD.out).mono ?_
  rintro e w17 ⟨rfl, hb17⟩
  have hB17 := hB16.trans (hb17.mono hB16.size)
  clear hb17 s3 s4
  go_wp2_with fail
  refine (awake1_any).mono ?_
  rintro e wz ⟨rfl, hbz⟩
  have hBf := hB17.trans (hbz.mono hB17.size)
  go_wp2
  go_ret
  exact ⟨rfl, hBf⟩

theorem lorder_any {xs ys zs : List Int} (h1 : Sl M w a c xs) (h2 : Sl M w b d ys) (h3 : Sl M w a3 c3 zs) :
    Calls Try.prog 8 #[.slice a xs.length c, .slice b ys.length d, .slice a3 zs.length c3] w fun e w' => e = .returned (.bool true) ∧ Below w.heap.size w w' := by
  by_cases k0 : 300 < xs.length
  · exact lorder_long0 h1 h2 h3 k0
  by_cases k1 : 300 < ys.length
  · exact lorder_long1 h1 h2 h3 k0 k1
  by_cases k2 : 300 < zs.length
  · exact lorder_long2 h1 h2 h3 k0 k1 k2
  replace h1 := sl_free h1
  replace h2 := sl_free h2
  replace h3 := sl_free h3
  have hlen : xs.length < ys.length → cmpW xs ys = -1 := cmp_short
  have hpre : comW xs ys = ys.length → 0 ≤ cmpW xs ys ∧ 0 ≤ lexW xs ys := fun h => ⟨cmp_prefix (comW_prefix.1 h), lex_prefix (comW_prefix.1 h)⟩
  rcases cmp_range xs ys with hx | hx | hx
  · rcases lexW_range xs ys with hl | hl | hl
    · by_cases hy : cmpW ys zs ≤ 0
      · by_cases hm : lexW ys zs ≤ 0
        · have hp : decide (comW xs ys = ys.length) = false := decide_eq_false (fun h => by have := hpre h; omega)
          by_cases hn : xs.length < ys.length
          · replace hn : decide (xs.length < ys.length) = true := by simp [hn]
            exact lorder_w12 h1 h2 h3 k0 k1 k2 hx hl hy hm hp hn
          · replace hn : decide (xs.length < ys.length) = false := by simp [hn]
            exact lorder_w13 h1 h2 h3 k0 k1 k2 hx hl hy hm hp hn
        · have hp : decide (comW xs ys = ys.length) = false := decide_eq_false (fun h => by have := hpre h; omega)
          by_cases hn : xs.length < ys.length
          · replace hn : decide (xs.length < ys.length) = true := by simp [hn]
            exact lorder_w14 h1 h2 h3 k0 k1 k2 hx hl hy hm hp hn
          · replace hn : decide (xs.length < ys.length) = false := by simp [hn]
            exact lorder_w15 h1 h2 h3 k0 k1 k2 hx hl hy hm hp hn
      · by_cases hm : lexW ys zs ≤ 0
        · have hp : decide (comW xs ys = ys.length) = false := decide_eq_false (fun h => by have := hpre h; omega)
          by_cases hn : xs.length < ys.length
          · replace hn : decide (xs.length < ys.length) = true := by simp [hn]
            exact lorder_w16 h1 h2 h3 k0 k1 k2 hx hl hy hm hp hn
          · replace hn : decide (xs.length < ys.length) = false := by simp [hn]
            exact lorder_w17 h1 h2 h3 k0 k1 k2 hx hl hy hm hp hn
        · have hp : decide (comW xs ys = ys.length) = false := decide_eq_false (fun h => by have := hpre h; omega)
          by_cases hn : xs.length < ys.length
          · replace hn : decide (xs.length < ys.length) = true := by simp [hn]
            exact lorder_w18 h1 h2 h3 k0 k1 k2 hx hl hy hm hp hn
          · replace hn : decide (xs.length < ys.length) = false := by simp [hn]
            exact lorder_w19 h1 h2 h3 k0 k1 k2 hx hl hy hm hp hn
    · exfalso; rw [lex_zero hl, cmp_same] at hx; cases hx
    · by_cases hy : cmpW ys zs ≤ 0
      · have hp : decide (comW xs ys = ys.length) = false := decide_eq_false (fun h => by have := hpre h; omega)
        by_cases hn : xs.length < ys.length
        · replace hn : decide (xs.length < ys.length) = true := by simp [hn]
          exact lorder_w8 h1 h2 h3 k0 k1 k2 hx hl hy hp hn
        · replace hn : decide (xs.length < ys.length) = false := by simp [hn]
          exact lorder_w9 h1 h2 h3 k0 k1 k2 hx hl hy hp hn
      · have hp : decide (comW xs ys = ys.length) = false := decide_eq_false (fun h => by have := hpre h; omega)
        by_cases hn : xs.length < ys.length
        · replace hn : decide (xs.length < ys.length) = true := by simp [hn]
          exact lorder_w10 h1 h2 h3 k0 k1 k2 hx hl hy hp hn
        · replace hn : decide (xs.length < ys.length) = false := by simp [hn]
          exact lorder_w11 h1 h2 h3 k0 k1 k2 hx hl hy hp hn
  · have hl : lexW xs ys = 0 := by rw [cmp_zero hx]; exact lex_same _
    by_cases hy : cmpW ys zs ≤ 0
    · by_cases hm : lexW ys zs ≤ 0
      · have hp : decide (comW xs ys = ys.length) = true := by rw [cmp_zero hx, com_all rfl |>.2 rfl]; simp
        have hn : decide (xs.length < ys.length) = false := decide_eq_false (fun h => by have := hlen h; omega)
        exact lorder_w4 h1 h2 h3 k0 k1 k2 hx hl hy hm hp hn
      · have hp : decide (comW xs ys = ys.length) = true := by rw [cmp_zero hx, com_all rfl |>.2 rfl]; simp
        have hn : decide (xs.length < ys.length) = false := decide_eq_false (fun h => by have := hlen h; omega)
        exact lorder_w5 h1 h2 h3 k0 k1 k2 hx hl hy hm hp hn
    · by_cases hm : lexW ys zs ≤ 0
      · have hp : decide (comW xs ys = ys.length) = true := by rw [cmp_zero hx, com_all rfl |>.2 rfl]; simp
        have hn : decide (xs.length < ys.length) = false := decide_eq_false (fun h => by have := hlen h; omega)
        exact lorder_w6 h1 h2 h3 k0 k1 k2 hx hl hy hm hp hn
      · have hp : decide (comW xs ys = ys.length) = true := by rw [cmp_zero hx, com_all rfl |>.2 rfl]; simp
        have hn : decide (xs.length < ys.length) = false := decide_eq_false (fun h => by have := hlen h; omega)
        exact lorder_w7 h1 h2 h3 k0 k1 k2 hx hl hy hm hp hn
  · rcases lexW_range xs ys with hl | hl | hl
    · by_cases hm : lexW ys zs ≤ 0
      · have hp : decide (comW xs ys = ys.length) = false := decide_eq_false (fun h => by have := hpre h; omega)
        have hn : decide (xs.length < ys.length) = false := decide_eq_false (fun h => by have := hlen h; omega)
        exact lorder_w2 h1 h2 h3 k0 k1 k2 hx hl hm hp hn
      · have hp : decide (comW xs ys = ys.length) = false := decide_eq_false (fun h => by have := hpre h; omega)
        have hn : decide (xs.length < ys.length) = false := decide_eq_false (fun h => by have := hlen h; omega)
        exact lorder_w3 h1 h2 h3 k0 k1 k2 hx hl hm hp hn
    · exfalso; rw [lex_zero hl, cmp_same] at hx; cases hx
    · by_cases hp : comW xs ys = ys.length
      · replace hp : decide (comW xs ys = ys.length) = true := by simp [hp]
        have hn : decide (xs.length < ys.length) = false := decide_eq_false (fun h => by have := hlen h; omega)
        exact lorder_w0 h1 h2 h3 k0 k1 k2 hx hl  hp hn
      · replace hp : decide (comW xs ys = ys.length) = false := by simp [hp]
        have hn : decide (xs.length < ys.length) = false := decide_eq_false (fun h => by have := hlen h; omega)
        exact lorder_w1 h1 h2 h3 k0 k1 k2 hx hl  hp hn
end
end Go.Proofs.Ytikdejlandmpfaa
