/- The law of ranks of chapter 1. No condition. -/
import Derived.Test.YtikdejlandmpfaaLaws1
import Derived.Test.YtikdejlandmpfaaOrdLaw
namespace Go.Proofs.Ytikdejlandmpfaa
open Go.RowKit
/-- All that the law asks of a word that has a rank. -/
theorem rank_facts {l : List Int} {n : Int} (h : rkErr l n = 0) : (0 ≤ rkVal l n ∧ rkVal l n ≤ 4611686018427387904) ∧ (l.length ≤ 300 → unErr (rkVal l n) n = 0 ∧ unVal (rkVal l n) n = l ∧ nextB l n = true ∧ cmpW l (nextV l n) = -1 ∧
    (rkVal l n < 4611686018427387904 → rkVal (nextV l n) n = rkVal l n + 1 ∧ rkErr (nextV l n) n = 0) ∧ (¬ rkVal l n < 4611686018427387904 → rkErr (nextV l n) n = 17)) := by
  have hw : wErr l n = 0 := by
    by_cases e : wErr l n = 0
    · exact e
    · unfold rkErr at h
      rw [if_pos e] at h
      exact absurd h e
  obtain ⟨n0, n1, hl, ok⟩ := okW_of hw
  rcases rk_of hw with ⟨h1, h2, h3⟩ | ⟨_, h2⟩
  · rw [h3]
    have hv0 : 0 ≤ valA n 0 l := valA_ge n0 _ 0 (by omega) ok
    refine ⟨⟨hv0, h1⟩, fun hl3 => ?_⟩
    have hun := un_val n0 l.length 1024 l rfl ok (by omega)
    have hr : ¬ (valA n 0 l < 0 ∨ (n < 1 ∨ 1024 < n)) := by omega
    obtain ⟨hu1, hu2⟩ := un_ok hr hun
    rw [List.reverse_reverse] at hu2
    have key : nextB l n = true ∧ cmpW l (nextV l n) = -1 ∧ valA n 0 (nextV l n) = valA n 0 l + 1 ∧ wErr (nextV l n) n = 0 := by
      cases hn : nxW n l with
      | some y =>
        obtain ⟨k1, k2⟩ := next_hit hw hn
        obtain ⟨j1, j2, j3⟩ := nx_ok n0 l y ok hn
        rw [k1]
        refine ⟨k2, ?_, nx_some l 0 y ok hn, wErr_of n0 n1 (by omega) j1⟩
        unfold cmpW; rw [if_pos j2.symm]; exact j3
      | none =>
        obtain ⟨k1, k2⟩ := next_longer hw hn (by omega)
        have e : List.replicate l.length (0 : Int) ++ [0] = List.replicate (l.length + 1) 0 := by rw [List.replicate_succ']
        rw [k1, e]
        refine ⟨k2, ?_, ?_, wErr_of n0 n1 (by simp; omega) (okW_zero n0 _)⟩
        · unfold cmpW; rw [if_neg (by simp), sgn_lt (by simp; omega)]
        · rw [List.replicate_succ, nx_none l 0 ok hn, valA]; simp
    obtain ⟨g1, g2, g3, g4⟩ := key
    refine ⟨hu1, hu2, g1, g2, fun hlt => ?_, fun hlt => ?_⟩
    · rcases rk_of g4 with ⟨_, q2, q3⟩ | ⟨q1, _⟩
      · exact ⟨by rw [q3, g3], q2⟩
      · omega
    · rcases rk_of g4 with ⟨q1, _, _⟩ | ⟨_, q2⟩
      · omega
      · exact q2
  · rw [h2] at h; cases h
/-- .. and of two numbers that have words. -/
theorem order_facts {m k n : Int} (h : unErr m n = 0) (h2 : unErr k n = 0) : wErr (unVal m n) n = 0 ∧ ((m < k ∧ cmpW (unVal m n) (unVal k n) = -1) ∨ (m = k ∧ cmpW (unVal m n) (unVal k n) = 0) ∨ (k < m ∧ cmpW (unVal m n) (unVal k n) = 1)) := by
  obtain ⟨_, a1, _, a3, a4⟩ := un_of h
  obtain ⟨_, _, _, b3, b4⟩ := un_of h2
  have oa := (okW_of a4).2.2.2
  have ob := (okW_of b4).2.2.2
  refine ⟨a4, ?_⟩
  rcases cmp_range (unVal m n) (unVal k n) with e | e | e
  · left
    have := cmp_val a1 oa ob e
    rw [a3, b3] at this
    exact ⟨this, e⟩
  · right; left
    have := cmp_zero e
    refine ⟨?_, e⟩
    rw [← a3, ← b3, this]
  · right; right
    have e2 : cmpW (unVal k n) (unVal m n) = -1 := by rw [cmp_swap, e]
    have := cmp_val a1 ob oa e2
    rw [a3, b3] at this
    exact ⟨this, e⟩
section
variable {M : Nat → Prop} {w : World} {a b : Option Addr} {c d : Nat}
theorem unr_bad (m n : Int) (hm : i64 m) (h : unErr m n ≠ 0) : Calls Try.prog 24 #[.int .i64 m, .int .i64 n] w fun e w' => ∃ (a : Option Addr) (c : Nat), e = .returned (.tuple #[.slice a 0 c, .int .i64 (unErr m n)]) ∧ Below w.heap.size w w' :=
  (unr_any m n hm).mono fun _ _ ⟨a, c, l, h1, h2, h3, h4⟩ => ⟨a, c, by rw [h1, h2.out, un_not h]; rfl, h4⟩
theorem unr_good (m n : Int) (hm : i64 m) (h : unErr m n = 0) : Calls Try.prog 24 #[.int .i64 m, .int .i64 n] w fun e w' => ∃ (a : Option Addr) (c : Nat) (l : List Int), e = .returned (.tuple #[.slice a l.length c, .int .i64 0]) ∧ Hid (l = unVal m n) ∧ Sl (fun _ => False) w' a c l ∧ Below w.heap.size w w' :=
  (unr_any m n hm).mono fun _ _ ⟨a, c, l, h1, h2, h3, h4⟩ => ⟨a, c, l, by rw [h1, h], h2, sl_free h3, h4⟩
theorem rank_is {l : List Int} (h : Sl M w a c l) {n x y : Int} (hx : rkVal l n = x) (hy : rkErr l n = y) : Calls Try.prog 22 #[.slice a l.length c, .int .i64 n] w fun e w' => e = .returned (.tuple #[.int .i64 x, .int .i64 y]) ∧ Below w.heap.size w w' := by
  rw [← hx, ← hy]; exact rank_any h n
theorem next_is {l : List Int} (h : Sl M w a c l) {n : Int} (hb : nextB l n = true) : Calls Try.prog 20 #[.slice a l.length c, .int .i64 n] w fun e w' => ∃ (a' : Option Addr) (c' : Nat) (l' : List Int), e = .returned (.tuple #[.slice a' l'.length c', .bool true]) ∧ Hid (l' = nextV l n) ∧ Sl (fun _ => False) w' a' c' l' ∧ Below w.heap.size w w' :=
  (next_any1 h n).mono fun _ _ ⟨a, c, l, h1, h2, h3, h4⟩ => ⟨a, c, l, by rw [h1, hb], h2, sl_free h3, h4⟩
theorem cmp_is {xs ys : List Int} (h1 : Sl M w a c xs) (h2 : Sl M w b d ys) {v : Int} (h : cmpW xs ys = v) : Calls Try.prog 26 #[.slice a xs.length c, .slice b ys.length d] w fun e w' => e = .returned (.int .i64 v) ∧ Below w.heap.size w w' := by
  rw [← h]; exact cmpw_any h1 h2
theorem check_is {l : List Int} (h : Sl M w a c l) {n v : Int} (hv : wErr l n = v) : Calls Try.prog 15 #[.slice a l.length c, .int .i64 n] w fun e w' => e = .returned (.int .i64 v) ∧ Below w.heap.size w w' := by
  rw [← hv]; exact wcheck_any h n

set_option maxRecDepth 100000 in
set_option maxHeartbeats 8000000 in
theorem lranks_long {l : List Int} (h : Sl M w a c l) (n m k : Int) (hm : i64 m) (hk : i64 k) (hb : 300 < l.length) :
    Calls Try.prog 6 #[.agg #[.slice a l.length c, .int .i64 n, .int .i64 m, .int .i64 k]] w fun e w' => e = .returned (.bool true) ∧ Below w.heap.size w w' := by
  have hll := h.le
  have HM := Lib.hid hm
  have HK := Lib.hid hk
  replace h := (sl_free h).alloc (.cells #[.slice a l.length c, .int .i64 n, .int .i64 m, .int .i64 k] 45)
  have hB0 : Below w.heap.size w (w.alloc (.cells #[.slice a l.length c, .int .i64 n, .int .i64 m, .int .i64 k] 45)) := (Below.refl _ _).alloc (Nat.le_refl _) _
  clear hm hk
  go_enter Try.func6, Try.ntmps6
  go_wp2
  refine wp_quiet_fast (by kernel_rfl) (by kernel_rfl) ?_
  repeat (first | go_big_quiet_step (fail) | quiet_step (fail))
  refine wpQuiet_nil ?_
  intro _ hw'
  obtain ⟨nq, hw''⟩ := hw'
  subst hw''
  replace h := h.drewN nq
  replace hB0 := bl_drewN hB0 nq
  generalize (w.alloc (.cells #[.slice a l.length c, .int .i64 n, .int .i64 m, .int .i64 k] 45)).drewN nq = w0 at *
  have hz0 := hB0.size
  go_wp2_with fail
  refine (awake1_any).mono ?_
  rintro e w9 ⟨rfl, hb9⟩
  have hBf := hB0.trans (hb9.mono hB0.size)
  go_wp2
  go_ret
  exact ⟨rfl, hBf⟩

set_option maxRecDepth 100000 in
set_option maxHeartbeats 8000000 in
theorem lranks_none {l : List Int} (h : Sl M w a c l) (n m k : Int) (hm : i64 m) (hk : i64 k) (hb : ¬ 300 < l.length) (hr : rkErr l n ≠ 0) :
    Calls Try.prog 6 #[.agg #[.slice a l.length c, .int .i64 n, .int .i64 m, .int .i64 k]] w fun e w' => e = .returned (.bool true) ∧ Below w.heap.size w w' := by
  have hll := h.le
  have HM := Lib.hid hm
  have HK := Lib.hid hk
  replace h := (sl_free h).alloc (.cells #[.slice a l.length c, .int .i64 n, .int .i64 m, .int .i64 k] 45)
  have hB0 : Below w.heap.size w (w.alloc (.cells #[.slice a l.length c, .int .i64 n, .int .i64 m, .int .i64 k] 45)) := (Below.refl _ _).alloc (Nat.le_refl _) _
  clear hm hk
  have e1 : (rkErr l n == 0) = false := by simp [hr]
  clear hr
  go_enter Try.func6, Try.ntmps6
  go_wp2
  refine wp_quiet_fast (by kernel_rfl) (by kernel_rfl) ?_
  repeat (first | go_big_quiet_step (fail) | quiet_step (fail))
  refine wpQuiet_nil ?_
  intro _ hw'
  obtain ⟨nq, hw''⟩ := hw'
  subst hw''
  replace h := h.drewN nq
  replace hB0 := bl_drewN hB0 nq
  generalize (w.alloc (.cells #[.slice a l.length c, .int .i64 n, .int .i64 m, .int .i64 k] 45)).drewN nq = w0 at *
  have hz0 := hB0.size
  go_wp2_with fail
  refine (rank_any h n).mono ?_
  rintro e w1 ⟨rfl, hb1⟩
  have hB1 := hB0.trans (hb1.mono hB0.size)
  clear hb1 h
  go_wp2_with fail
  by_cases hu : unErr m n = 0
  · by_cases hv : unErr k n = 0
    · have HU := Lib.hid hu
      have HV := Lib.hid hv
      have HO := Lib.hid (order_facts hu hv)
      clear hu hv
      refine (unr_good m n HM.out HU.out).mono ?_
      rintro e w5 ⟨a5, c5, l5, rfl, hl5, hs5, hb5⟩
      have hB5 := hB1.trans (hb5.mono hB1.size)
      clear hb5 
      go_wp2_with fail
      refine (unr_good k n HK.out HV.out).mono ?_
      rintro e w6 ⟨a6, c6, l6, rfl, hl6, hs6, hb6⟩
      have hB6 := hB5.trans (hb6.mono hB5.size)
      replace hs5 := hs5.below hb6
      clear hb6 
      go_wp2_with fail
      rcases HO.out.2 with ⟨ho1, ho2⟩ | ⟨ho1, ho2⟩ | ⟨ho1, ho2⟩
      · have HC : Hid (cmpW l5 l6 = -1) := by unfold Hid; rw [hl5.out, hl6.out]; exact ho2
        have HE : Hid (wErr l5 n = 0) := by unfold Hid; rw [hl5.out]; exact HO.out.1
        have d1 : decide (m < k) = true := by simp [ho1]
        have d2 : decide (k < m) = false := by simp; omega
        clear ho1 ho2
        refine (cmp_is hs5 hs6 HC.out).mono ?_
        rintro e w7 ⟨rfl, hb7⟩
        have hB7 := hB6.trans (hb7.mono hB6.size)
        replace hs5 := hs5.below hb7
        clear hb7 hs6
        go_wp2_with fail
        refine (check_is hs5 HE.out).mono ?_
        rintro e w8 ⟨rfl, hb8⟩
        have hB8 := hB7.trans (hb8.mono hB7.size)
        clear hb8 hs5
        go_wp2_with fail
        refine (awake1_any).mono ?_
        rintro e w9 ⟨rfl, hb9⟩
        have hBf := hB8.trans (hb9.mono hB8.size)
        go_wp2
        go_ret
        exact ⟨rfl, hBf⟩
      · have HC : Hid (cmpW l5 l6 = 0) := by unfold Hid; rw [hl5.out, hl6.out]; exact ho2
        have HE : Hid (wErr l5 n = 0) := by unfold Hid; rw [hl5.out]; exact HO.out.1
        have d1 : decide (m < k) = false := by simp; omega
        have d2 : decide (k < m) = false := by simp; omega
        clear ho1 ho2
        refine (cmp_is hs5 hs6 HC.out).mono ?_
        rintro e w7 ⟨rfl, hb7⟩
        have hB7 := hB6.trans (hb7.mono hB6.size)
        replace hs5 := hs5.below hb7
        clear hb7 hs6
        go_wp2_with fail
        refine (check_is hs5 HE.out).mono ?_
        rintro e w8 ⟨rfl, hb8⟩
        have hB8 := hB7.trans (hb8.mono hB7.size)
        clear hb8 hs5
        go_wp2_with fail
        refine (awake1_any).mono ?_
        rintro e w9 ⟨rfl, hb9⟩
        have hBf := hB8.trans (hb9.mono hB8.size)
        go_wp2
        go_ret
        exact ⟨rfl, hBf⟩
      · have HC : Hid (cmpW l5 l6 = 1) := by unfold Hid; rw [hl5.out, hl6.out]; exact ho2
        have HE : Hid (wErr l5 n = 0) := by unfold Hid; rw [hl5.out]; exact HO.out.1
        have d1 : decide (m < k) = false := by simp; omega
        have d2 : decide (k < m) = true := by simp [ho1]
        clear ho1 ho2
        refine (cmp_is hs5 hs6 HC.out).mono ?_
        rintro e w7 ⟨rfl, hb7⟩
        have hB7 := hB6.trans (hb7.mono hB6.size)
        replace hs5 := hs5.below hb7
        clear hb7 hs6
        go_wp2_with fail
        refine (check_is hs5 HE.out).mono ?_
        rintro e w8 ⟨rfl, hb8⟩
        have hB8 := hB7.trans (hb8.mono hB7.size)
        clear hb8 hs5
        go_wp2_with fail
        refine (awake1_any).mono ?_
        rintro e w9 ⟨rfl, hb9⟩
        have hBf := hB8.trans (hb9.mono hB8.size)
        go_wp2
        go_ret
        exact ⟨rfl, hBf⟩
    · have d1 : (unErr k n != 0) = true := by simp [hv]
      have d2 : (unErr k n == 0) = false := by simp [hv]
      have HU := Lib.hid hu
      have HV := Lib.hid hv
      clear hu hv
      refine (unr_good m n HM.out HU.out).mono ?_
      rintro e w5 ⟨a5, c5, l5, rfl, hl5, hs5, hb5⟩
      have hB5 := hB1.trans (hb5.mono hB1.size)
      clear hb5 hs5
      go_wp2_with fail
      refine (unr_bad k n HK.out HV.out).mono ?_
      rintro e w6 ⟨a6, c6, rfl, hb6⟩
      have hB6 := hB5.trans (hb6.mono hB5.size)
      clear hb6 
      go_wp2_with fail
      refine (awake1_any).mono ?_
      rintro e w9 ⟨rfl, hb9⟩
      have hBf := hB6.trans (hb9.mono hB6.size)
      go_wp2
      go_ret
      exact ⟨rfl, hBf⟩
  · have d1 : (unErr m n != 0) = true := by simp [hu]
    have d2 : (unErr m n == 0) = false := by simp [hu]
    have HU := Lib.hid hu
    clear hu
    by_cases hv : unErr k n = 0
    · have HV := Lib.hid hv
      clear hv
      refine (unr_bad m n HM.out HU.out).mono ?_
      rintro e w5 ⟨a5, c5, rfl, hb5⟩
      have hB5 := hB1.trans (hb5.mono hB1.size)
      clear hb5 
      go_wp2_with fail
      refine (unr_good k n HK.out HV.out).mono ?_
      rintro e w6 ⟨a6, c6, l6, rfl, hl6, hs6, hb6⟩
      have hB6 := hB5.trans (hb6.mono hB5.size)
      clear hb6 hs6
      go_wp2_with fail
      refine (awake1_any).mono ?_
      rintro e w9 ⟨rfl, hb9⟩
      have hBf := hB6.trans (hb9.mono hB6.size)
      go_wp2
      go_ret
      exact ⟨rfl, hBf⟩
    · have d3 : (unErr k n != 0) = true := by simp [hv]
      have d4 : (unErr k n == 0) = false := by simp [hv]
      have HV := Lib.hid hv
      clear hv
      refine (unr_bad m n HM.out HU.out).mono ?_
      rintro e w5 ⟨a5, c5, rfl, hb5⟩
      have hB5 := hB1.trans (hb5.mono hB1.size)
      clear hb5 
      go_wp2_with fail
      refine (unr_bad k n HK.out HV.out).mono ?_
      rintro e w6 ⟨a6, c6, rfl, hb6⟩
      have hB6 := hB5.trans (hb6.mono hB5.size)
      clear hb6 
      go_wp2_with fail
      refine (awake1_any).mono ?_
      rintro e w9 ⟨rfl, hb9⟩
      have hBf := hB6.trans (hb9.mono hB6.size)
      go_wp2
      go_ret
      exact ⟨rfl, hBf⟩

set_option maxRecDepth 100000 in
set_option maxHeartbeats 8000000 in
theorem lranks_less {l : List Int} (h : Sl M w a c l) (n m k : Int) (hm : i64 m) (hk : i64 k) (hb : ¬ 300 < l.length) (hr : rkErr l n = 0) (hlt : rkVal l n < 4611686018427387904) :
    Calls Try.prog 6 #[.agg #[.slice a l.length c, .int .i64 n, .int .i64 m, .int .i64 k]] w fun e w' => e = .returned (.bool true) ∧ Below w.heap.size w w' := by
  have hll := h.le
  have HM := Lib.hid hm
  have HK := Lib.hid hk
  replace h := (sl_free h).alloc (.cells #[.slice a l.length c, .int .i64 n, .int .i64 m, .int .i64 k] 45)
  have hB0 : Below w.heap.size w (w.alloc (.cells #[.slice a l.length c, .int .i64 n, .int .i64 m, .int .i64 k] 45)) := (Below.refl _ _).alloc (Nat.le_refl _) _
  clear hm hk
  obtain ⟨⟨hr0, hr1⟩, hfa⟩ := rank_facts hr
  obtain ⟨f1, f2, f3, f4, f5, f6⟩ := hfa (by omega)
  have f7 := f5 hlt
  have HR := Lib.hid hr
  have F1 := Lib.hid f1
  have F2 := Lib.hid f2
  have F3 := Lib.hid f3
  have F4 := Lib.hid f4
  have F7 := Lib.hid f7
  have hi : i64 (rkVal l n) := by unfold i64; omega
  have HI := Lib.hid hi
  clear hi hr hfa f1 f2 f3 f4 f5 f6 f7
  obtain ⟨r, hre⟩ : ∃ r, r = rkVal l n := ⟨_, rfl⟩
  rw [← hre] at hr0 hr1 hlt F1 F2 HI
  try rw [← hre] at F7
  have HRE := Lib.hid hre
  clear hre
  have r0 : ¬ r < 0 := by omega
  have r1 : ¬ 4611686018427387904 < r := by omega
  have r2 : decide (r < 4611686018427387904) = true := by simp [hlt]
  have r3 : (r == 4611686018427387904) = false := by simp; omega
  go_enter Try.func6, Try.ntmps6
  go_wp2
  refine wp_quiet_fast (by kernel_rfl) (by kernel_rfl) ?_
  repeat (first | go_big_quiet_step (fail) | quiet_step (fail))
  refine wpQuiet_nil ?_
  intro _ hw'
  obtain ⟨nq, hw''⟩ := hw'
  subst hw''
  replace h := h.drewN nq
  replace hB0 := bl_drewN hB0 nq
  generalize (w.alloc (.cells #[.slice a l.length c, .int .i64 n, .int .i64 m, .int .i64 k] 45)).drewN nq = w0 at *
  have hz0 := hB0.size
  go_wp2_with fail
  refine (rank_is h HRE.out.symm HR.out).mono ?_
  rintro e w1 ⟨rfl, hb1⟩
  have hB1 := hB0.trans (hb1.mono hB0.size)
  replace h := h.below hb1
  clear hb1 
  go_wp2_with fail
  refine (unr_good r n HI.out F1.out).mono ?_
  rintro e w2 ⟨a2, c2, l2, rfl, hl2, hs2, hb2⟩
  have hB2 := hB1.trans (hb2.mono hB1.size)
  replace h := h.below hb2
  clear hb2 
  go_wp2_with fail
  refine (next_is h F3.out).mono ?_
  rintro e w3 ⟨a3, c3, l3, rfl, hl3, hs3, hb3⟩
  have hB3 := hB2.trans (hb3.mono hB2.size)
  replace h := h.below hb3
  replace hs2 := hs2.below hb3
  clear hb3 
  go_wp2_with fail
  refine (rank_is hs3 (x := r + 1) (y := 0) (by rw [hl3.out]; exact F7.out.1) (by rw [hl3.out]; exact F7.out.2)).mono ?_
  rintro e w4 ⟨rfl, hb4⟩
  have hB4 := hB3.trans (hb4.mono hB3.size)
  replace h := h.below hb4
  replace hs2 := hs2.below hb4
  replace hs3 := hs3.below hb4
  clear hb4 
  go_wp2_with fail
  refine (same1_eq hs2 h (decide_eq_true (hl2.out.trans F2.out))).mono ?_
  rintro e w10 ⟨rfl, hb10⟩
  have hB10 := hB4.trans (hb10.mono hB4.size)
  replace h := h.below hb10
  replace hs3 := hs3.below hb10
  clear hb10 hs2
  go_wp2_with fail
  refine (cmp_is h hs3 (v := -1) (by rw [hl3.out]; exact F4.out)).mono ?_
  rintro e w11 ⟨rfl, hb11⟩
  have hB11 := hB10.trans (hb11.mono hB10.size)
  clear hb11 h hs3
  go_wp2_with fail
  by_cases hu : unErr m n = 0
  · by_cases hv : unErr k n = 0
    · have HU := Lib.hid hu
      have HV := Lib.hid hv
      have HO := Lib.hid (order_facts hu hv)
      clear hu hv
      refine (unr_good m n HM.out HU.out).mono ?_
      rintro e w5 ⟨a5, c5, l5, rfl, hl5, hs5, hb5⟩
      have hB5 := hB11.trans (hb5.mono hB11.size)
      clear hb5 
      go_wp2_with fail
      refine (unr_good k n HK.out HV.out).mono ?_
      rintro e w6 ⟨a6, c6, l6, rfl, hl6, hs6, hb6⟩
      have hB6 := hB5.trans (hb6.mono hB5.size)
      replace hs5 := hs5.below hb6
      clear hb6 
      go_wp2_with fail
      rcases HO.out.2 with ⟨ho1, ho2⟩ | ⟨ho1, ho2⟩ | ⟨ho1, ho2⟩
      · have HC : Hid (cmpW l5 l6 = -1) := by unfold Hid; rw [hl5.out, hl6.out]; exact ho2
        have HE : Hid (wErr l5 n = 0) := by unfold Hid; rw [hl5.out]; exact HO.out.1
        have d1 : decide (m < k) = true := by simp [ho1]
        have d2 : decide (k < m) = false := by simp; omega
        clear ho1 ho2
        refine (cmp_is hs5 hs6 HC.out).mono ?_
        rintro e w7 ⟨rfl, hb7⟩
        have hB7 := hB6.trans (hb7.mono hB6.size)
        replace hs5 := hs5.below hb7
        clear hb7 hs6
        go_wp2_with fail
        refine (check_is hs5 HE.out).mono ?_
        rintro e w8 ⟨rfl, hb8⟩
        have hB8 := hB7.trans (hb8.mono hB7.size)
        clear hb8 hs5
        go_wp2_with fail
        refine (awake1_any).mono ?_
        rintro e w9 ⟨rfl, hb9⟩
        have hBf := hB8.trans (hb9.mono hB8.size)
        go_wp2
        go_ret
        exact ⟨rfl, hBf⟩
      · have HC : Hid (cmpW l5 l6 = 0) := by unfold Hid; rw [hl5.out, hl6.out]; exact ho2
        have HE : Hid (wErr l5 n = 0) := by unfold Hid; rw [hl5.out]; exact HO.out.1
        have d1 : decide (m < k) = false := by simp; omega
        have d2 : decide (k < m) = false := by simp; omega
        clear ho1 ho2
        refine (cmp_is hs5 hs6 HC.out).mono ?_
        rintro e w7 ⟨rfl, hb7⟩
        have hB7 := hB6.trans (hb7.mono hB6.size)
        replace hs5 := hs5.below hb7
        clear hb7 hs6
        go_wp2_with fail
        refine (check_is hs5 HE.out).mono ?_
        rintro e w8 ⟨rfl, hb8⟩
        have hB8 := hB7.trans (hb8.mono hB7.size)
        clear hb8 hs5
        go_wp2_with fail
        refine (awake1_any).mono ?_
        rintro e w9 ⟨rfl, hb9⟩
        have hBf := hB8.trans (hb9.mono hB8.size)
        go_wp2
        go_ret
        exact ⟨rfl, hBf⟩
      · have HC : Hid (cmpW l5 l6 = 1) := by unfold Hid; rw [hl5.out, hl6.out]; exact ho2
        have HE : Hid (wErr l5 n = 0) := by unfold Hid; rw [hl5.out]; exact HO.out.1
        have d1 : decide (m < k) = false := by simp; omega
        have d2 : decide (k < m) = true := by simp [ho1]
        clear ho1 ho2
        refine (cmp_is hs5 hs6 HC.out).mono ?_
        rintro e w7 ⟨rfl, hb7⟩
        have hB7 := hB6.trans (hb7.mono hB6.size)
        replace hs5 := hs5.below hb7
        clear hb7 hs6
        go_wp2_with fail
        refine (check_is hs5 HE.out).mono ?_
        rintro e w8 ⟨rfl, hb8⟩
        have hB8 := hB7.trans (hb8.mono hB7.size)
        clear hb8 hs5
        go_wp2_with fail
        refine (awake1_any).mono ?_
        rintro e w9 ⟨rfl, hb9⟩
        have hBf := hB8.trans (hb9.mono hB8.size)
        go_wp2
        go_ret
        exact ⟨rfl, hBf⟩
    · have d1 : (unErr k n != 0) = true := by simp [hv]
      have d2 : (unErr k n == 0) = false := by simp [hv]
      have HU := Lib.hid hu
      have HV := Lib.hid hv
      clear hu hv
      refine (unr_good m n HM.out HU.out).mono ?_
      rintro e w5 ⟨a5, c5, l5, rfl, hl5, hs5, hb5⟩
      have hB5 := hB11.trans (hb5.mono hB11.size)
      clear hb5 hs5
      go_wp2_with fail
      refine (unr_bad k n HK.out HV.out).mono ?_
      rintro e w6 ⟨a6, c6, rfl, hb6⟩
      have hB6 := hB5.trans (hb6.mono hB5.size)
      clear hb6 
      go_wp2_with fail
      refine (awake1_any).mono ?_
      rintro e w9 ⟨rfl, hb9⟩
      have hBf := hB6.trans (hb9.mono hB6.size)
      go_wp2
      go_ret
      exact ⟨rfl, hBf⟩
  · have d1 : (unErr m n != 0) = true := by simp [hu]
    have d2 : (unErr m n == 0) = false := by simp [hu]
    have HU := Lib.hid hu
    clear hu
    by_cases hv : unErr k n = 0
    · have HV := Lib.hid hv
      clear hv
      refine (unr_bad m n HM.out HU.out).mono ?_
      rintro e w5 ⟨a5, c5, rfl, hb5⟩
      have hB5 := hB11.trans (hb5.mono hB11.size)
      clear hb5 
      go_wp2_with fail
      refine (unr_good k n HK.out HV.out).mono ?_
      rintro e w6 ⟨a6, c6, l6, rfl, hl6, hs6, hb6⟩
      have hB6 := hB5.trans (hb6.mono hB5.size)
      clear hb6 hs6
      go_wp2_with fail
      refine (awake1_any).mono ?_
      rintro e w9 ⟨rfl, hb9⟩
      have hBf := hB6.trans (hb9.mono hB6.size)
      go_wp2
      go_ret
      exact ⟨rfl, hBf⟩
    · have d3 : (unErr k n != 0) = true := by simp [hv]
      have d4 : (unErr k n == 0) = false := by simp [hv]
      have HV := Lib.hid hv
      clear hv
      refine (unr_bad m n HM.out HU.out).mono ?_
      rintro e w5 ⟨a5, c5, rfl, hb5⟩
      have hB5 := hB11.trans (hb5.mono hB11.size)
      clear hb5 
      go_wp2_with fail
      refine (unr_bad k n HK.out HV.out).mono ?_
      rintro e w6 ⟨a6, c6, rfl, hb6⟩
      have hB6 := hB5.trans (hb6.mono hB5.size)
      clear hb6 
      go_wp2_with fail
      refine (awake1_any).mono ?_
      rintro e w9 ⟨rfl, hb9⟩
      have hBf := hB6.trans (hb9.mono hB6.size)
      go_wp2
      go_ret
      exact ⟨rfl, hBf⟩

set_option maxRecDepth 100000 in
set_option maxHeartbeats 8000000 in
theorem lranks_most {l : List Int} (h : Sl M w a c l) (n m k : Int) (hm : i64 m) (hk : i64 k) (hb : ¬ 300 < l.length) (hr : rkErr l n = 0) (hlt : ¬ rkVal l n < 4611686018427387904) :
    Calls Try.prog 6 #[.agg #[.slice a l.length c, .int .i64 n, .int .i64 m, .int .i64 k]] w fun e w' => e = .returned (.bool true) ∧ Below w.heap.size w w' := by
  have hll := h.le
  have HM := Lib.hid hm
  have HK := Lib.hid hk
  replace h := (sl_free h).alloc (.cells #[.slice a l.length c, .int .i64 n, .int .i64 m, .int .i64 k] 45)
  have hB0 : Below w.heap.size w (w.alloc (.cells #[.slice a l.length c, .int .i64 n, .int .i64 m, .int .i64 k] 45)) := (Below.refl _ _).alloc (Nat.le_refl _) _
  clear hm hk
  obtain ⟨⟨hr0, hr1⟩, hfa⟩ := rank_facts hr
  obtain ⟨f1, f2, f3, f4, f5, f6⟩ := hfa (by omega)
  have f7 := f6 hlt
  have HR := Lib.hid hr
  have F1 := Lib.hid f1
  have F2 := Lib.hid f2
  have F3 := Lib.hid f3
  have F4 := Lib.hid f4
  have F7 := Lib.hid f7
  have hi : i64 (rkVal l n) := by unfold i64; omega
  have HI := Lib.hid hi
  clear hi hr hfa f1 f2 f3 f4 f5 f6 f7
  obtain ⟨r, hre⟩ : ∃ r, r = rkVal l n := ⟨_, rfl⟩
  rw [← hre] at hr0 hr1 hlt F1 F2 HI
  try rw [← hre] at F7
  have HRE := Lib.hid hre
  clear hre
  have r0 : ¬ r < 0 := by omega
  have r1 : ¬ 4611686018427387904 < r := by omega
  have r2 : decide (r < 4611686018427387904) = false := by simp; omega
  have r3 : (r == 4611686018427387904) = true := by simp; omega
  go_enter Try.func6, Try.ntmps6
  go_wp2
  refine wp_quiet_fast (by kernel_rfl) (by kernel_rfl) ?_
  repeat (first | go_big_quiet_step (fail) | quiet_step (fail))
  refine wpQuiet_nil ?_
  intro _ hw'
  obtain ⟨nq, hw''⟩ := hw'
  subst hw''
  replace h := h.drewN nq
  replace hB0 := bl_drewN hB0 nq
  generalize (w.alloc (.cells #[.slice a l.length c, .int .i64 n, .int .i64 m, .int .i64 k] 45)).drewN nq = w0 at *
  have hz0 := hB0.size
  go_wp2_with fail
  refine (rank_is h HRE.out.symm HR.out).mono ?_
  rintro e w1 ⟨rfl, hb1⟩
  have hB1 := hB0.trans (hb1.mono hB0.size)
  replace h := h.below hb1
  clear hb1 
  go_wp2_with fail
  refine (unr_good r n HI.out F1.out).mono ?_
  rintro e w2 ⟨a2, c2, l2, rfl, hl2, hs2, hb2⟩
  have hB2 := hB1.trans (hb2.mono hB1.size)
  replace h := h.below hb2
  clear hb2 
  go_wp2_with fail
  refine (next_is h F3.out).mono ?_
  rintro e w3 ⟨a3, c3, l3, rfl, hl3, hs3, hb3⟩
  have hB3 := hB2.trans (hb3.mono hB2.size)
  replace h := h.below hb3
  replace hs2 := hs2.below hb3
  clear hb3 
  go_wp2_with fail
  refine (rank_is hs3 (y := 17) rfl (by rw [hl3.out]; exact F7.out)).mono ?_
  rintro e w4 ⟨rfl, hb4⟩
  have hB4 := hB3.trans (hb4.mono hB3.size)
  replace h := h.below hb4
  replace hs2 := hs2.below hb4
  replace hs3 := hs3.below hb4
  clear hb4 
  go_wp2_with fail
  refine (same1_eq hs2 h (decide_eq_true (hl2.out.trans F2.out))).mono ?_
  rintro e w10 ⟨rfl, hb10⟩
  have hB10 := hB4.trans (hb10.mono hB4.size)
  replace h := h.below hb10
  replace hs3 := hs3.below hb10
  clear hb10 hs2
  go_wp2_with fail
  refine (cmp_is h hs3 (v := -1) (by rw [hl3.out]; exact F4.out)).mono ?_
  rintro e w11 ⟨rfl, hb11⟩
  have hB11 := hB10.trans (hb11.mono hB10.size)
  clear hb11 h hs3
  go_wp2_with fail
  by_cases hu : unErr m n = 0
  · by_cases hv : unErr k n = 0
    · have HU := Lib.hid hu
      have HV := Lib.hid hv
      have HO := Lib.hid (order_facts hu hv)
      clear hu hv
      refine (unr_good m n HM.out HU.out).mono ?_
      rintro e w5 ⟨a5, c5, l5, rfl, hl5, hs5, hb5⟩
      have hB5 := hB11.trans (hb5.mono hB11.size)
      clear hb5 
      go_wp2_with fail
      refine (unr_good k n HK.out HV.out).mono ?_
      rintro e w6 ⟨a6, c6, l6, rfl, hl6, hs6, hb6⟩
      have hB6 := hB5.trans (hb6.mono hB5.size)
      replace hs5 := hs5.below hb6
      clear hb6 
      go_wp2_with fail
      rcases HO.out.2 with ⟨ho1, ho2⟩ | ⟨ho1, ho2⟩ | ⟨ho1, ho2⟩
      · have HC : Hid (cmpW l5 l6 = -1) := by unfold Hid; rw [hl5.out, hl6.out]; exact ho2
        have HE : Hid (wErr l5 n = 0) := by unfold Hid; rw [hl5.out]; exact HO.out.1
        have d1 : decide (m < k) = true := by simp [ho1]
        have d2 : decide (k < m) = false := by simp; omega
        clear ho1 ho2
        refine (cmp_is hs5 hs6 HC.out).mono ?_
        rintro e w7 ⟨rfl, hb7⟩
        have hB7 := hB6.trans (hb7.mono hB6.size)
        replace hs5 := hs5.below hb7
        clear hb7 hs6
        go_wp2_with fail
        refine (check_is hs5 HE.out).mono ?_
        rintro e w8 ⟨rfl, hb8⟩
        have hB8 := hB7.trans (hb8.mono hB7.size)
        clear hb8 hs5
        go_wp2_with fail
        refine (awake1_any).mono ?_
        rintro e w9 ⟨rfl, hb9⟩
        have hBf := hB8.trans (hb9.mono hB8.size)
        go_wp2
        go_ret
        exact ⟨rfl, hBf⟩
      · have HC : Hid (cmpW l5 l6 = 0) := by unfold Hid; rw [hl5.out, hl6.out]; exact ho2
        have HE : Hid (wErr l5 n = 0) := by unfold Hid; rw [hl5.out]; exact HO.out.1
        have d1 : decide (m < k) = false := by simp; omega
        have d2 : decide (k < m) = false := by simp; omega
        clear ho1 ho2
        refine (cmp_is hs5 hs6 HC.out).mono ?_
        rintro e w7 ⟨rfl, hb7⟩
        have hB7 := hB6.trans (hb7.mono hB6.size)
        replace hs5 := hs5.below hb7
        clear hb7 hs6
        go_wp2_with fail
        refine (check_is hs5 HE.out).mono ?_
        rintro e w8 ⟨rfl, hb8⟩
        have hB8 := hB7.trans (hb8.mono hB7.size)
        clear hb8 hs5
        go_wp2_with fail
        refine (awake1_any).mono ?_
        rintro e w9 ⟨rfl, hb9⟩
        have hBf := hB8.trans (hb9.mono hB8.size)
        go_wp2
        go_ret
        exact ⟨rfl, hBf⟩
      · have HC : Hid (cmpW l5 l6 = 1) := by unfold Hid; rw [hl5.out, hl6.out]; exact ho2
        have HE : Hid (wErr l5 n = 0) := by unfold Hid; rw [hl5.out]; exact HO.out.1
        have d1 : decide (m < k) = false := by simp; omega
        have d2 : decide (k < m) = true := by simp [ho1]
        clear ho1 ho2
        refine (cmp_is hs5 hs6 HC.out).mono ?_
        rintro e w7 ⟨rfl, hb7⟩
        have hB7 := hB6.trans (hb7.mono hB6.size)
        replace hs5 := hs5.below hb7
        clear hb7 hs6
        go_wp2_with fail
        refine (check_is hs5 HE.out).mono ?_
        rintro e w8 ⟨rfl, hb8⟩
        have hB8 := hB7.trans (hb8.mono hB7.size)
        clear hb8 hs5
        go_wp2_with fail
        refine (awake1_any).mono ?_
        rintro e w9 ⟨rfl, hb9⟩
        have hBf := hB8.trans (hb9.mono hB8.size)
        go_wp2
        go_ret
        exact ⟨rfl, hBf⟩
    · have d1 : (unErr k n != 0) = true := by simp [hv]
      have d2 : (unErr k n == 0) = false := by simp [hv]
      have HU := Lib.hid hu
      have HV := Lib.hid hv
      clear hu hv
      refine (unr_good m n HM.out HU.out).mono ?_
      rintro e w5 ⟨a5, c5, l5, rfl, hl5, hs5, hb5⟩
      have hB5 := hB11.trans (hb5.mono hB11.size)
      clear hb5 hs5
      go_wp2_with fail
      refine (unr_bad k n HK.out HV.out).mono ?_
      rintro e w6 ⟨a6, c6, rfl, hb6⟩
      have hB6 := hB5.trans (hb6.mono hB5.size)
      clear hb6 
      go_wp2_with fail
      refine (awake1_any).mono ?_
      rintro e w9 ⟨rfl, hb9⟩
      have hBf := hB6.trans (hb9.mono hB6.size)
      go_wp2
      go_ret
      exact ⟨rfl, hBf⟩
  · have d1 : (unErr m n != 0) = true := by simp [hu]
    have d2 : (unErr m n == 0) = false := by simp [hu]
    have HU := Lib.hid hu
    clear hu
    by_cases hv : unErr k n = 0
    · have HV := Lib.hid hv
      clear hv
      refine (unr_bad m n HM.out HU.out).mono ?_
      rintro e w5 ⟨a5, c5, rfl, hb5⟩
      have hB5 := hB11.trans (hb5.mono hB11.size)
      clear hb5 
      go_wp2_with fail
      refine (unr_good k n HK.out HV.out).mono ?_
      rintro e w6 ⟨a6, c6, l6, rfl, hl6, hs6, hb6⟩
      have hB6 := hB5.trans (hb6.mono hB5.size)
      clear hb6 hs6
      go_wp2_with fail
      refine (awake1_any).mono ?_
      rintro e w9 ⟨rfl, hb9⟩
      have hBf := hB6.trans (hb9.mono hB6.size)
      go_wp2
      go_ret
      exact ⟨rfl, hBf⟩
    · have d3 : (unErr k n != 0) = true := by simp [hv]
      have d4 : (unErr k n == 0) = false := by simp [hv]
      have HV := Lib.hid hv
      clear hv
      refine (unr_bad m n HM.out HU.out).mono ?_
      rintro e w5 ⟨a5, c5, rfl, hb5⟩
      have hB5 := hB11.trans (hb5.mono hB11.size)
      clear hb5 
      go_wp2_with fail
      refine (unr_bad k n HK.out HV.out).mono ?_
      rintro e w6 ⟨a6, c6, rfl, hb6⟩
      have hB6 := hB5.trans (hb6.mono hB5.size)
      clear hb6 
      go_wp2_with fail
      refine (awake1_any).mono ?_
      rintro e w9 ⟨rfl, hb9⟩
      have hBf := hB6.trans (hb9.mono hB6.size)
      go_wp2
      go_ret
      exact ⟨rfl, hBf⟩

theorem lranks_any {l : List Int} (h : Sl M w a c l) {n m k : Int} (_ : i64 n) (hm : i64 m) (hk : i64 k) :
    Calls Try.prog 6 #[.agg #[.slice a l.length c, .int .i64 n, .int .i64 m, .int .i64 k]] w fun e w' => e = .returned (.bool true) ∧ Below w.heap.size w w' := by
  by_cases hb : 300 < l.length
  · exact lranks_long h n m k hm hk hb
  · by_cases hr : rkErr l n = 0
    · by_cases hlt : rkVal l n < 4611686018427387904
      · exact lranks_less h n m k hm hk hb hr hlt
      · exact lranks_most h n m k hm hk hb hr hlt
    · exact lranks_none h n m k hm hk hb hr
end
end Go.Proofs.Ytikdejlandmpfaa
