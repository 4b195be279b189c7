/- Whether a split is one: plain words, and the reference's Check. Condition: the answers are as long as their words. -/
import Derived.Test.YtlgdijgfphedpaaAnaL
namespace Go.Proofs.Ytlgdijgfphedpaa
open Go.RowKit

/-- A hypothesis with observations and a split. -/
structure Ck where
  h : Hy
  o : Ob
  s : Sp
namespace Ck
variable (x : Ck)
def u : List Int := x.s.pre ++ [x.s.sym]
def v : List Int := x.h.ac (x.h.m.endW x.h.m.start x.u).toNat
def tst : Bool := x.o.known (x.u ++ x.s.suf) && x.o.known (x.v ++ x.s.suf) && !decide ((x.o.ans (x.u ++ x.s.suf)).drop x.u.length = (x.o.ans (x.v ++ x.s.suf)).drop x.v.length)
def err : Int :=
  if x.h.err ≠ 0 then x.h.err
  else if x.o.inputs ≠ x.h.m.inputs then 15
  else if wErr x.s.pre x.h.m.inputs ≠ 0 then wErr x.s.pre x.h.m.inputs
  else if x.s.sym < 0 ∨ x.h.m.inputs ≤ x.s.sym then 2
  else wErr x.s.suf x.h.m.inputs
def res : Bool := if x.err = 0 then x.tst else false
variable {x : Ck}
theorem cases : (x.h.err ≠ 0 ∧ x.err = x.h.err ∧ x.res = false) ∨ (x.h.Ok ∧ x.h.err = 0 ∧ x.o.inputs ≠ x.h.m.inputs ∧ x.err = 15 ∧ x.res = false) ∨
    (x.h.Ok ∧ x.h.err = 0 ∧ x.o.inputs = x.h.m.inputs ∧ wErr x.s.pre x.h.m.inputs ≠ 0 ∧ x.err = wErr x.s.pre x.h.m.inputs ∧ x.res = false) ∨
    (x.h.Ok ∧ x.h.err = 0 ∧ x.o.inputs = x.h.m.inputs ∧ wErr x.s.pre x.h.m.inputs = 0 ∧ (x.s.sym < 0 ∨ 0 ≤ x.s.sym ∧ x.h.m.inputs ≤ x.s.sym) ∧ x.err = 2 ∧ x.res = false) ∨
    (x.h.Ok ∧ x.h.err = 0 ∧ x.o.inputs = x.h.m.inputs ∧ wErr x.s.pre x.h.m.inputs = 0 ∧ (0 ≤ x.s.sym ∧ x.s.sym < x.h.m.inputs) ∧ wErr x.s.suf x.h.m.inputs ≠ 0 ∧ x.err = wErr x.s.suf x.h.m.inputs ∧ x.res = false) ∨
    (x.h.Ok ∧ x.h.err = 0 ∧ x.o.inputs = x.h.m.inputs ∧ wErr x.s.pre x.h.m.inputs = 0 ∧ (0 ≤ x.s.sym ∧ x.s.sym < x.h.m.inputs) ∧ wErr x.s.suf x.h.m.inputs = 0 ∧ x.err = 0 ∧ x.res = x.tst) := by
  by_cases h1 : x.h.err = 0
  · have ok := Hy.ok_of h1
    by_cases h2 : x.o.inputs = x.h.m.inputs
    · by_cases h3 : wErr x.s.pre x.h.m.inputs = 0
      · by_cases h4 : x.s.sym < 0 ∨ x.h.m.inputs ≤ x.s.sym
        · have e : x.err = 2 := by unfold err; rw [if_neg (by simp [h1]), if_neg (by simp [h2]), if_neg (by simp [h3]), if_pos h4]
          exact .inr (.inr (.inr (.inl ⟨ok, h1, h2, h3, by omega, e, by unfold res; rw [e]; rfl⟩)))
        · have e : x.err = wErr x.s.suf x.h.m.inputs := by unfold err; rw [if_neg (by simp [h1]), if_neg (by simp [h2]), if_neg (by simp [h3]), if_neg h4]
          by_cases h5 : wErr x.s.suf x.h.m.inputs = 0
          · exact .inr (.inr (.inr (.inr (.inr ⟨ok, h1, h2, h3, by omega, h5, e.trans h5, by unfold res; rw [if_pos (e.trans h5)]⟩))))
          · exact .inr (.inr (.inr (.inr (.inl ⟨ok, h1, h2, h3, by omega, h5, e, by unfold res; rw [if_neg (by rw [e]; exact h5)]⟩))))
      · have e : x.err = wErr x.s.pre x.h.m.inputs := by unfold err; rw [if_neg (by simp [h1]), if_neg (by simp [h2]), if_pos h3]
        exact .inr (.inr (.inl ⟨ok, h1, h2, h3, e, by unfold res; rw [if_neg (by rw [e]; exact h3)]⟩))
    · have e : x.err = 15 := by unfold err; rw [if_neg (by simp [h1]), if_pos h2]
      exact .inr (.inl ⟨ok, h1, h2, e, by unfold res; rw [e]; rfl⟩)
  · have e : x.err = x.h.err := by unfold err; rw [if_pos h1]
    exact .inl ⟨h1, e, by unfold res; rw [if_neg (by rw [e]; exact h1)]⟩
theorem u_len : x.u.length = x.s.pre.length + 1 := by unfold u; simp
theorem okU (h : wErr x.s.pre x.h.m.inputs = 0) (h2 : 0 ≤ x.s.sym ∧ x.s.sym < x.h.m.inputs) : x.h.m.okS x.u := by
  have := (Mach.okS_of h).1
  intro y hy
  unfold u at hy
  simp at hy
  rcases hy with hy | rfl
  · exact this y hy
  · exact h2
end Ck
theorem ret_be {p p' : Bool} {e e' : Int} (h : p = p') (h2 : e = e') : Ending.returned (.tuple #[.bool p, .int .i64 e]) = .returned (.tuple #[.bool p', .int .i64 e']) := by rw [h, h2]

section
variable {M M' M'' M3 : Nat → Prop} {w : World} {an ao ac a b b2 : Option Addr} {cn co cc c d d2 : Nat} {x : Ck}
set_option maxRecDepth 100000 in
set_option maxHeartbeats 8000000 in
/-- The reference's Check. -/
theorem checkS_any (hh : Hp M w an cn ao co ac cc x.h) (ho : Os M' w a c x.o) (hp : Sl M'' w b d x.s.pre) (hq : Sl M3 w b2 d2 x.s.suf) (hsy : i64 x.s.sym) (hl : Hid x.o.lens) :
    Calls Try.prog 16 #[hyV x.h an cn ao co ac cc, obV x.o a c, spV x.s b d b2 d2] w fun e w' => e = .returned (.tuple #[.bool x.res, .int .i64 x.err]) ∧ Below w.heap.size w w' := by
  have hB0 := (((Below.refl w.heap.size w).alloc (Nat.le_refl _) (hyO x.h an cn ao co ac cc)).alloc (by simp) (obO x.o a c)).alloc (by simp; omega) (spO x.s b d b2 d2)
  have hb3 := ((Below.refl (w.heap.size + 1) (w.alloc (hyO x.h an cn ao co ac cc))).alloc (by simp) (obO x.o a c)).alloc (by simp) (spO x.s b d b2 d2)
  have hx0 : H5 (((w.alloc (hyO x.h an cn ao co ac cc)).alloc (obO x.o a c)).alloc (spO x.s b d b2 d2)) w.heap.size an cn ao co ac cc x.h := (h5_new w).below hb3 (by omega)
  have hy0 : O2 (((w.alloc (hyO x.h an cn ao co ac cc)).alloc (obO x.o a c)).alloc (spO x.s b d b2 d2)) (w.heap.size + 1) a c x.o := by
    have k := o2_new (o := x.o) (a := a) (c := c) (w.alloc (hyO x.h an cn ao co ac cc))
    have k2 : O2 ((w.alloc (hyO x.h an cn ao co ac cc)).alloc (obO x.o a c)) (w.heap.size + 1) a c x.o := by simpa using k
    exact k2.below (B := w.heap.size + 2) ((Below.refl _ _).alloc (by simp) _) (by omega)
  have ht0 : S3 (((w.alloc (hyO x.h an cn ao co ac cc)).alloc (obO x.o a c)).alloc (spO x.s b d b2 d2)) (w.heap.size + 1 + 1) b d b2 d2 x.s := by
    have k := s3_new (s := x.s) (a := b) (c := d) (a' := b2) (c' := d2) ((w.alloc (hyO x.h an cn ao co ac cc)).alloc (obO x.o a c))
    simpa using k
  have hz0 : w.heap.size + 3 ≤ (((w.alloc (hyO x.h an cn ao co ac cc)).alloc (obO x.o a c)).alloc (spO x.s b d b2 d2)).heap.size := by simp
  have HH := Lib.hid hh
  have HO := Lib.hid ho
  have HP := Lib.hid hp
  have HQ := Lib.hid hq
  have hpl := hp.le
  have hql := hq.le
  have HC := checked_any (o := x.o) (a := a) (c := c) (HH.out.below hB0)
  clear hh ho hp hq hb3
  rcases Ck.cases (x := x) with ⟨h1, hF⟩ | ⟨ok, h1, h2, hF⟩ | ⟨ok, h1, h2, h3, hF⟩ | ⟨ok, h1, h2, h3, h4, hF⟩ | ⟨ok, h1, h2, h3, h4, h5, hF⟩ | ⟨ok, h1, h2, h3, h4, h5, hF⟩
  · rw [if_pos h1] at HC
    have hb : (x.h.err != 0) = true := by simp [h1]
    have HF := Lib.hid hF
    have HC := Lib.hid HC
    clear h1 hF
    go_enter Try.func16, Try.ntmps16
    go_wp2_with fail
    generalize ((w.alloc (hyO x.h an cn ao co ac cc)).alloc (obO x.o a c)).alloc (spO x.s b d b2 d2) = w0 at *
    refine (HC.out).mono ?_
    rintro e w1 ⟨rfl, hb1⟩
    have hB1 := hB0.trans (hb1.mono (by omega))
    go_wp2
    go_ret2
    exact ⟨ret_be HF.out.2.symm HF.out.1.symm, hB1⟩
  · rw [if_neg (by simp [h1]), if_pos h2] at HC
    have HF := Lib.hid hF
    have HC := Lib.hid HC
    clear h1 h2 hF
    go_enter Try.func16, Try.ntmps16
    go_wp2_with fail
    generalize ((w.alloc (hyO x.h an cn ao co ac cc)).alloc (obO x.o a c)).alloc (spO x.s b d b2 d2) = w0 at *
    refine (HC.out).mono ?_
    rintro e w1 ⟨rfl, hb1⟩
    have hB1 := hB0.trans (hb1.mono (by omega))
    go_wp2
    go_ret2
    exact ⟨ret_be HF.out.2.symm HF.out.1.symm, hB1⟩
  all_goals
    rw [if_neg (by simp [h1]), if_neg (by simp [h2])] at HC
    have HF := Lib.hid hF
    have HC := Lib.hid HC
    have OK := Lib.hid ok
    clear h1 h2 hF ok
    go_enter Try.func16, Try.ntmps16
    go_wp2_with fail
    generalize ((w.alloc (hyO x.h an cn ao co ac cc)).alloc (obO x.o a c)).alloc (spO x.s b d b2 d2) = w0 at *
    refine (HC.out).mono ?_
    rintro e w1 ⟨rfl, hb1⟩
    have hB1 := hB0.trans (hb1.mono (by omega))
    have hx1 := hx0.below hb1 (by omega)
    have hy1 := hy0.below hb1 (by omega)
    have ht1 := ht0.below hb1 (by omega)
    have hz1 : w.heap.size + 3 ≤ w1.heap.size := by have := hb1.size; omega
    clear HC hb1 hB0 hx0 hy0 ht0 hz0
    have HC := Lib.hid (checkR1_any (HP.out.below hB1) x.h.m.inputs)
    have HC2 := Lib.hid (checkR1_any (HQ.out.below hB1) x.h.m.inputs)
  · have hb : (wErr x.s.pre x.h.m.inputs != 0) = true := by simp [h3]
    clear h3
    go_wp2_with fail
    refine (HC.out).mono ?_
    rintro e w2 ⟨rfl, hw2⟩
    obtain rfl : w1 = w2 := hw2.symm
    go_wp2
    go_ret2
    exact ⟨ret_be HF.out.2.symm HF.out.1.symm, hB1⟩
  all_goals
    have hb : (wErr x.s.pre x.h.m.inputs != 0) = false := by simp [h3]
    have H3 := Lib.hid h3
    clear h3
    go_wp2_with fail
    refine (HC.out).mono ?_
    rintro e w2 ⟨rfl, hw2⟩
    obtain rfl : w1 = w2 := hw2.symm
    clear HC
  · rcases h4 with h4 | h4
    · have hd : decide (x.s.sym < 0) = true := by simp [h4]
      go_wp2
      go_ret2
      exact ⟨ret_be HF.out.2.symm HF.out.1.symm, hB1⟩
    · obtain ⟨h4, h5⟩ := h4
      have hd : decide (x.s.sym < 0) = false := by simp; omega
      go_wp2
      go_ret2
      exact ⟨ret_be HF.out.2.symm HF.out.1.symm, hB1⟩
  all_goals
    obtain ⟨h4a, h4b⟩ := h4
    have hd : decide (x.s.sym < 0) = false := by simp; omega
  · have hb5 : (wErr x.s.suf x.h.m.inputs != 0) = true := by simp [h5]
    clear h5
    go_wp2_with fail
    refine (HC2.out).mono ?_
    rintro e w2 ⟨rfl, hw2⟩
    obtain rfl : w1 = w2 := hw2.symm
    go_wp2
    go_ret2
    exact ⟨ret_be HF.out.2.symm HF.out.1.symm, hB1⟩
  · have hb5 : (wErr x.s.suf x.h.m.inputs != 0) = false := by simp [h5]
    have hll := (Mach.okS_of h5).2
    have hpll := (Mach.okS_of H3.out).2
    have H4 := Lib.hid (And.intro h4a h4b)
    clear h5
    go_wp2_with fail
    refine (HC2.out).mono ?_
    rintro e w2 ⟨rfl, hw2⟩
    obtain rfl : w1 = w2 := hw2.symm
    clear HC2
    go_wp2_with fail
    have hB3 := (hB1.alloc (by omega) (.cells #[.int .i64 x.s.sym] 3)).alloc (by simp; omega) (.cells #[.slice b x.s.pre.length d, .slice (some ⟨w1.heap.size, 0, none⟩) 1 1] 30)
    have hb3 := ((Below.refl w1.heap.size w1).alloc (Nat.le_refl _) (.cells #[.int .i64 x.s.sym] 3)).alloc (by simp) (.cells #[.slice b x.s.pre.length d, .slice (some ⟨w1.heap.size, 0, none⟩) 1 1] 30)
    have hx3 := hx1.below hb3 (by omega)
    have hy3 := hy1.below hb3 (by omega)
    have ht3 := ht1.below hb3 (by omega)
    have hz3 : w.heap.size + 3 ≤ ((w1.alloc (.cells #[.int .i64 x.s.sym] 3)).alloc (.cells #[.slice b x.s.pre.length d, .slice (some ⟨w1.heap.size, 0, none⟩) 1 1] 30)).heap.size := by simp; omega
    have hr := rows2 (T := 30) (((HP.out.below hB1).alloc (.cells #[.int .i64 x.s.sym] 3))) (ints1 (w := w1) (T := 3) hsy) rfl (m := 1) rfl
    rw [show (w1.alloc (.cells #[.int .i64 x.s.sym] 3)).heap.size = w1.heap.size + 1 from by simp] at hr
    have HC := Lib.hid (joinR_any hr (by rw [flat2]; simp; omega))
    clear hb3 hr hx1 hy1 ht1 hz1 hB1
    generalize (w1.alloc (.cells #[.int .i64 x.s.sym] 3)).alloc (.cells #[.slice b x.s.pre.length d, .slice (some ⟨w1.heap.size, 0, none⟩) 1 1] 30) = w3 at *
    refine (HC.out).mono ?_
    rintro e w4 ⟨a4, c4, u, rfl, hu, hsu, hb4⟩
    have hu : Hid (u = x.u) := by unfold Hid; rw [hu.out, flat2]; rfl
    have hB4 := hB3.trans (hb4.mono (by omega))
    have hx4 := hx3.below hb4 (by omega)
    have hy4 := hy3.below hb4 (by omega)
    have ht4 := ht3.below hb4 (by omega)
    have hz4 : w.heap.size + 3 ≤ w4.heap.size := by have := hb4.size; omega
    have hul : u.length ≤ 1025 := by rw [hu.out, Ck.u_len]; omega
    have hokU := Lib.hid (Ck.okU H3.out H4.out)
    have HC := outsR_any (HH.out.below hB4).m hsu (Lib.hid OK.out.m) (Lib.hid ⟨OK.out.m.s0, OK.out.m.s1⟩) (by unfold Hid; rw [hu.out]; exact hokU.out) (by omega)
    have hen := Mach.endW_range OK.out.m u x.h.m.start OK.out.m.s0 OK.out.m.s1 (by rw [hu.out]; exact hokU.out)
    obtain ⟨sn, hsn⟩ := Int.eq_ofNat_of_zero_le hen.1
    rw [hsn] at HC hen
    have HC := Lib.hid HC
    have hsl : sn < x.h.acc.length := by have := OK.out.len; omega
    have HSN := Lib.hid hsn
    have HSU := Lib.hid hsu
    clear hsu hb4 hB3 hx3 hy3 ht3 hz3 hen hsn
    go_wp2_with fail
    refine (HC.out).mono ?_
    rintro e w5 ⟨a5, c5, l5, rfl, -, -, hb5'⟩
    have hB5 := hB4.trans (hb5'.mono (by omega))
    have hx5 := hx4.below hb5' (by omega)
    have hy5 := hy4.below hb5' (by omega)
    have ht5 := ht4.below hb5' (by omega)
    have hz5 : w.heap.size + 3 ≤ w5.heap.size := by have := hb5'.size; omega
    have HSU := Lib.hid (HSU.out.below hb5')
    obtain ⟨b1, o1, a6, v, c6, rfl, hc6, hv6, hs6⟩ := (HH.out.below hB5).acc.at_row hsl
    have hv : Hid (v = x.v) := by unfold Hid Ck.v; rw [← hu.out, HSN.out, Int.toNat_natCast]; exact (Hy.ac_of hv6.out).symm
    have hwv := (OK.out.word sn hsl).1
    rw [Hy.ac_of hv6.out] at hwv
    have hvl := (Mach.okS_of hwv).2
    have HSV := Lib.hid hs6
    clear HC hb5' hB4 hx4 hy4 ht4 hz4 hs6 hwv
    go_wp2
    refine wp_region_L (fun w' => O2 w' (w.heap.size + 1) a c x.o ∧ S3 w' (w.heap.size + 1 + 1) b d b2 d2 x.s) [0, 1, 2, 3, 7, 8, 9, 10, 11] (by kernel_rfl) ?_
    have hSd := And.intro (hy5.below (Below.refl w5.heap.size w5).drew (by omega)) (ht5.below (Below.refl w5.heap.size w5).drew (by omega))
    have hBd := hB5.drew
    have hzd : w.heap.size + 3 ≤ w5.drew.heap.size := hz5
    have HSU := Lib.hid (HSU.out.drew)
    have HSV := Lib.hid (HSV.out.drew)
    clear hx5 hy5 ht5 hB5 hz5 hc6
    generalize w5.drew = w6 at *
    refine wpAnyL_take (i := 0) (v := ?v1) rfl (by kernel_rfl) (by kernel_rfl) (by kernel_rfl) (by kernel_rfl) (fun _ _ _ h => h) (Or.inl ⟨by rfl, ?y1⟩) (by assumption) ?r1
    case y1 => (intro w' hSw; (try dsimp only at hSw); go_simp; try with_reducible rfl)
    try simp only [Act.put, List.setIfInBounds_toArray, List.set_cons_zero, List.set_cons_succ]
    refine wpAnyL_take (i := 1) (v := ?v2) rfl (by kernel_rfl) (by kernel_rfl) (by kernel_rfl) (by kernel_rfl) (fun _ _ _ h => h) (Or.inl ⟨by rfl, ?y2⟩) (by assumption) ?r2
    case y2 => (intro w' hSw; (try dsimp only at hSw); go_simp; try with_reducible rfl)
    try simp only [Act.put, List.setIfInBounds_toArray, List.set_cons_zero, List.set_cons_succ]
    refine wpAnyL_take (i := 2) (v := ?v3) rfl (by kernel_rfl) (by kernel_rfl) (by kernel_rfl) (by kernel_rfl) (fun _ _ _ h => h) (Or.inl ⟨by rfl, ?y3⟩) (by assumption) ?r3
    case y3 => (intro w' hSw; (try dsimp only at hSw); go_simp; try with_reducible rfl)
    try simp only [Act.put, List.setIfInBounds_toArray, List.set_cons_zero, List.set_cons_succ]
    refine wpAnyL_take (i := 3) (v := ?v4) rfl (by kernel_rfl) (by kernel_rfl) (by kernel_rfl) (by kernel_rfl) (fun _ _ _ h => h) (Or.inl ⟨by rfl, ?y4⟩) (by assumption) ?r4
    case y4 => (intro w' hSw; (try dsimp only at hSw); go_simp; try with_reducible rfl)
    try simp only [Act.put, List.setIfInBounds_toArray, List.set_cons_zero, List.set_cons_succ]
    refine wpAnyL_one (i := 4) (by kernel_rfl) rfl rfl (fun K hK => ?_)
    go_simp
    have hba := (Below.refl w6.heap.size w6).alloc (Nat.le_refl _) (.cells #[.slice a4 u.length c4, .slice b2 x.s.suf.length d2] 30)
    have hBA := hBd.alloc (by omega) (.cells #[.slice a4 u.length c4, .slice b2 x.s.suf.length d2] 30)
    have hSA := And.intro (hSd.1.below hba (by omega)) (hSd.2.below hba (by omega))
    have hzA : w.heap.size + 3 ≤ (w6.alloc (.cells #[.slice a4 u.length c4, .slice b2 x.s.suf.length d2] 30)).heap.size := by simp; omega
    have HC := Lib.hid (joinR_any (rows2 (T := 30) HSU.out (HQ.out.below hBd) rfl rfl) (by rw [flat2]; simp; omega))
    have HSU := Lib.hid (HSU.out.below hba)
    have HSV := Lib.hid (HSV.out.below hba)
    refine hK _ _ (fun _ => hSA) ?_
    clear hK K hba hSd hBd hzd
    refine wpAnyL_one (i := 5) (by kernel_rfl) rfl rfl (fun K hK => ?_)
    go_simp
    generalize w6.alloc (.cells #[.slice a4 u.length c4, .slice b2 x.s.suf.length d2] 30) = w7 at *
    refine (HC.out).mono ?_
    rintro e w8 ⟨a8, c8, l8, rfl, hl8, hs8, hb8⟩
    have hB8 := hBA.trans (hb8.mono (by omega))
    have hS8 := And.intro (hSA.1.below hb8 (by omega)) (hSA.2.below hb8 (by omega))
    have hz8 : w.heap.size + 3 ≤ w8.heap.size := by have := hb8.size; omega
    have hl8 : Hid (l8 = x.u ++ x.s.suf) := by unfold Hid; rw [hl8.out, flat2, hu.out]
    have HSU := Lib.hid (HSU.out.below hb8)
    have HSV := Lib.hid (HSV.out.below hb8)
    have HC := ansR_any (HO.out.below hB8) hs8 hl
    rw [show x.o.known l8 = x.o.known (x.u ++ x.s.suf) from by rw [hl8.out]] at HC
    have HC := Lib.hid HC
    refine hK _ _ (fun _ => hS8) ?_
    clear hK K hBA hSA hzA hb8 hs8
    refine wpAnyL_one (i := 6) (by kernel_rfl) rfl rfl (fun K hK => ?_)
    go_simp
    refine (HC.out).mono ?_
    rintro e w9 ⟨a9, c9, l9, rfl, hl9, hs9, hb9⟩
    have hB9 := hB8.trans (hb9.mono (by omega))
    have hS9 := And.intro (hS8.1.below hb9 (by omega)) (hS8.2.below hb9 (by omega))
    have hz9 : w.heap.size + 3 ≤ w9.heap.size := by have := hb9.size; omega
    have hl9 : Hid (l9 = x.o.ans (x.u ++ x.s.suf)) := by unfold Hid; rw [hl9.out, hl8.out]
    have HSV := Lib.hid (HSV.out.below hb9)
    have HS9 := Lib.hid (hs9.anti (M' := fun _ => False) fun _ _ h => h.elim)
    refine hK _ _ (fun _ => hS9) ?_
    clear hK K hB8 hS8 hz8 hb9 hs9 HC HSU
    refine wpAnyL_take (i := 7) (v := ?v5) rfl (by kernel_rfl) (by kernel_rfl) (by kernel_rfl) (by kernel_rfl) (fun _ _ _ h => h) (Or.inl ⟨by rfl, ?y5⟩) (by assumption) ?r5
    case y5 => (intro w' hSw; (try dsimp only at hSw); go_simp; try with_reducible rfl)
    try simp only [Act.put, List.setIfInBounds_toArray, List.set_cons_zero, List.set_cons_succ]
    refine wpAnyL_take (i := 8) (v := ?v6) rfl (by kernel_rfl) (by kernel_rfl) (by kernel_rfl) (by kernel_rfl) (fun _ _ _ h => h) (Or.inl ⟨by rfl, ?y6⟩) (by assumption) ?r6
    case y6 => (intro w' hSw; (try dsimp only at hSw); go_simp; try with_reducible rfl)
    try simp only [Act.put, List.setIfInBounds_toArray, List.set_cons_zero, List.set_cons_succ]
    refine wpAnyL_take (i := 9) (v := ?v7) rfl (by kernel_rfl) (by kernel_rfl) (by kernel_rfl) (by kernel_rfl) (fun _ _ _ h => h) (Or.inl ⟨by rfl, ?y7⟩) (by assumption) ?r7
    case y7 => (intro w' hSw; (try dsimp only at hSw); go_simp; try with_reducible rfl)
    try simp only [Act.put, List.setIfInBounds_toArray, List.set_cons_zero, List.set_cons_succ]
    refine wpAnyL_take (i := 10) (v := ?v8) rfl (by kernel_rfl) (by kernel_rfl) (by kernel_rfl) (by kernel_rfl) (fun _ _ _ h => h) (Or.inl ⟨by rfl, ?y8⟩) (by assumption) ?r8
    case y8 => (intro w' hSw; (try dsimp only at hSw); go_simp; try with_reducible rfl)
    try simp only [Act.put, List.setIfInBounds_toArray, List.set_cons_zero, List.set_cons_succ]
    refine wpAnyL_take (i := 11) (v := ?v9) rfl (by kernel_rfl) (by kernel_rfl) (by kernel_rfl) (by kernel_rfl) (fun _ _ _ h => h) (Or.inl ⟨by rfl, ?y9⟩) (by assumption) ?r9
    case y9 => (intro w' hSw; (try dsimp only at hSw); go_simp; try with_reducible rfl)
    try simp only [Act.put, List.setIfInBounds_toArray, List.set_cons_zero, List.set_cons_succ]
    refine wpAnyL_done (by kernel_rfl) ?_ _
    go_wp2
    refine wp_region_L (fun w' => O2 w' (w.heap.size + 1) a c x.o ∧ S3 w' (w.heap.size + 1 + 1) b d b2 d2 x.s) [0, 1, 2, 3, 7, 8, 9, 10, 11] (by kernel_rfl) ?_
    have hSd := And.intro (hS9.1.below (Below.refl w9.heap.size w9).drew (by omega)) (hS9.2.below (Below.refl w9.heap.size w9).drew (by omega))
    have hBd := hB9.drew
    have hzd : w.heap.size + 3 ≤ w9.drew.heap.size := hz9
    have HS9 := Lib.hid (HS9.out.drew)
    have HSV := Lib.hid (HSV.out.drew)
    clear hS9 hB9 hz9
    generalize w9.drew = w10 at *
    refine wpAnyL_take (i := 0) (v := ?v10) rfl (by kernel_rfl) (by kernel_rfl) (by kernel_rfl) (by kernel_rfl) (fun _ _ _ h => h) (Or.inl ⟨by rfl, ?y10⟩) (by assumption) ?r10
    case y10 => (intro w' hSw; (try dsimp only at hSw); go_simp; try with_reducible rfl)
    try simp only [Act.put, List.setIfInBounds_toArray, List.set_cons_zero, List.set_cons_succ]
    refine wpAnyL_take (i := 1) (v := ?v11) rfl (by kernel_rfl) (by kernel_rfl) (by kernel_rfl) (by kernel_rfl) (fun _ _ _ h => h) (Or.inl ⟨by rfl, ?y11⟩) (by assumption) ?r11
    case y11 => (intro w' hSw; (try dsimp only at hSw); go_simp; try with_reducible rfl)
    try simp only [Act.put, List.setIfInBounds_toArray, List.set_cons_zero, List.set_cons_succ]
    refine wpAnyL_take (i := 2) (v := ?v12) rfl (by kernel_rfl) (by kernel_rfl) (by kernel_rfl) (by kernel_rfl) (fun _ _ _ h => h) (Or.inl ⟨by rfl, ?y12⟩) (by assumption) ?r12
    case y12 => (intro w' hSw; (try dsimp only at hSw); go_simp; try with_reducible rfl)
    try simp only [Act.put, List.setIfInBounds_toArray, List.set_cons_zero, List.set_cons_succ]
    refine wpAnyL_take (i := 3) (v := ?v13) rfl (by kernel_rfl) (by kernel_rfl) (by kernel_rfl) (by kernel_rfl) (fun _ _ _ h => h) (Or.inl ⟨by rfl, ?y13⟩) (by assumption) ?r13
    case y13 => (intro w' hSw; (try dsimp only at hSw); go_simp; try with_reducible rfl)
    try simp only [Act.put, List.setIfInBounds_toArray, List.set_cons_zero, List.set_cons_succ]
    refine wpAnyL_one (i := 4) (by kernel_rfl) rfl rfl (fun K hK => ?_)
    go_simp
    have hba := (Below.refl w10.heap.size w10).alloc (Nat.le_refl _) (.cells #[.slice a6 v.length c6, .slice b2 x.s.suf.length d2] 30)
    have hBA := hBd.alloc (by omega) (.cells #[.slice a6 v.length c6, .slice b2 x.s.suf.length d2] 30)
    have hSA := And.intro (hSd.1.below hba (by omega)) (hSd.2.below hba (by omega))
    have hzA : w.heap.size + 3 ≤ (w10.alloc (.cells #[.slice a6 v.length c6, .slice b2 x.s.suf.length d2] 30)).heap.size := by simp; omega
    have HC := Lib.hid (joinR_any (rows2 (T := 30) HSV.out (HQ.out.below hBd) rfl rfl) (by rw [flat2]; simp; omega))
    have HS9 := Lib.hid (HS9.out.below hba)
    refine hK _ _ (fun _ => hSA) ?_
    clear hK K hba hSd hBd hzd
    refine wpAnyL_one (i := 5) (by kernel_rfl) rfl rfl (fun K hK => ?_)
    go_simp
    generalize w10.alloc (.cells #[.slice a6 v.length c6, .slice b2 x.s.suf.length d2] 30) = w11 at *
    refine (HC.out).mono ?_
    rintro e w12 ⟨a12, c12, l12, rfl, hl12, hs12, hb12⟩
    have hB12 := hBA.trans (hb12.mono (by omega))
    have hS12 := And.intro (hSA.1.below hb12 (by omega)) (hSA.2.below hb12 (by omega))
    have hz12 : w.heap.size + 3 ≤ w12.heap.size := by have := hb12.size; omega
    have hl12 : Hid (l12 = x.v ++ x.s.suf) := by unfold Hid; rw [hl12.out, flat2, hv.out]
    have HS9 := Lib.hid (HS9.out.below hb12)
    have HC := ansR_any (HO.out.below hB12) hs12 hl
    rw [show x.o.known l12 = x.o.known (x.v ++ x.s.suf) from by rw [hl12.out]] at HC
    have HC := Lib.hid HC
    refine hK _ _ (fun _ => hS12) ?_
    clear hK K hBA hSA hzA hb12 hs12
    refine wpAnyL_one (i := 6) (by kernel_rfl) rfl rfl (fun K hK => ?_)
    go_simp
    refine (HC.out).mono ?_
    rintro e w13 ⟨a13, c13, l13, rfl, hl13, hs13, hb13⟩
    have hB13 := hB12.trans (hb13.mono (by omega))
    have hS13 := And.intro (hS12.1.below hb13 (by omega)) (hS12.2.below hb13 (by omega))
    have hl13 : Hid (l13 = x.o.ans (x.v ++ x.s.suf)) := by unfold Hid; rw [hl13.out, hl12.out]
    have HS9 := Lib.hid (HS9.out.below hb13)
    have HS13 := Lib.hid (hs13.anti (M' := fun _ => False) fun _ _ h => h.elim)
    refine hK _ _ (fun _ => hS13) ?_
    clear hK K hB12 hS12 hz12 hb13 hs13 HC HSV
    refine wpAnyL_take (i := 7) (v := ?v14) rfl (by kernel_rfl) (by kernel_rfl) (by kernel_rfl) (by kernel_rfl) (fun _ _ _ h => h) (Or.inl ⟨by rfl, ?y14⟩) (by assumption) ?r14
    case y14 => (intro w' hSw; (try dsimp only at hSw); go_simp; try with_reducible rfl)
    try simp only [Act.put, List.setIfInBounds_toArray, List.set_cons_zero, List.set_cons_succ]
    refine wpAnyL_take (i := 8) (v := ?v15) rfl (by kernel_rfl) (by kernel_rfl) (by kernel_rfl) (by kernel_rfl) (fun _ _ _ h => h) (Or.inl ⟨by rfl, ?y15⟩) (by assumption) ?r15
    case y15 => (intro w' hSw; (try dsimp only at hSw); go_simp; try with_reducible rfl)
    try simp only [Act.put, List.setIfInBounds_toArray, List.set_cons_zero, List.set_cons_succ]
    refine wpAnyL_take (i := 9) (v := ?v16) rfl (by kernel_rfl) (by kernel_rfl) (by kernel_rfl) (by kernel_rfl) (fun _ _ _ h => h) (Or.inl ⟨by rfl, ?y16⟩) (by assumption) ?r16
    case y16 => (intro w' hSw; (try dsimp only at hSw); go_simp; try with_reducible rfl)
    try simp only [Act.put, List.setIfInBounds_toArray, List.set_cons_zero, List.set_cons_succ]
    refine wpAnyL_take (i := 10) (v := ?v17) rfl (by kernel_rfl) (by kernel_rfl) (by kernel_rfl) (by kernel_rfl) (fun _ _ _ h => h) (Or.inl ⟨by rfl, ?y17⟩) (by assumption) ?r17
    case y17 => (intro w' hSw; (try dsimp only at hSw); go_simp; try with_reducible rfl)
    try simp only [Act.put, List.setIfInBounds_toArray, List.set_cons_zero, List.set_cons_succ]
    refine wpAnyL_take (i := 11) (v := ?v18) rfl (by kernel_rfl) (by kernel_rfl) (by kernel_rfl) (by kernel_rfl) (fun _ _ _ h => h) (Or.inl ⟨by rfl, ?y18⟩) (by assumption) ?r18
    case y18 => (intro w' hSw; (try dsimp only at hSw); go_simp; try with_reducible rfl)
    try simp only [Act.put, List.setIfInBounds_toArray, List.set_cons_zero, List.set_cons_succ]
    refine wpAnyL_done (by kernel_rfl) ?_ _
    clear hS13
    have hBd := hB13.drew
    have HS9 := Lib.hid (HS9.out.drew)
    have HS13 := Lib.hid (HS13.out.drew)
    cases hk1 : x.o.known (x.u ++ x.s.suf) with
    | false =>
      have hF : Hid (x.res = false) := by unfold Hid; rw [HF.out.2]; unfold Ck.tst; rw [hk1]; rfl
      clear hk1
      go_wp2
      refine wp_region_L (fun _ => True) [0, 1, 2, 3, 4, 5, 6, 7, 8, 9, 10, 11, 12, 14, 15, 16, 17] (by kernel_rfl) ?_
      have hT : True := trivial
      generalize w13.drew = w14 at *
      refine wpAnyL_take (i := 0) (v := ?v19) rfl (by kernel_rfl) (by kernel_rfl) (by kernel_rfl) (by kernel_rfl) (fun _ _ _ h => h) (Or.inl ⟨by rfl, ?y19⟩) (by assumption) ?r19
      case y19 => (intro w' hSw; (try dsimp only at hSw); go_simp; try with_reducible rfl)
      try simp only [Act.put, List.setIfInBounds_toArray, List.set_cons_zero, List.set_cons_succ]
      refine wpAnyL_take (i := 1) (v := ?v20) rfl (by kernel_rfl) (by kernel_rfl) (by kernel_rfl) (by kernel_rfl) (fun _ _ _ h => h) (Or.inl ⟨by rfl, ?y20⟩) (by assumption) ?r20
      case y20 => (intro w' hSw; (try dsimp only at hSw); go_simp; try with_reducible rfl)
      try simp only [Act.put, List.setIfInBounds_toArray, List.set_cons_zero, List.set_cons_succ]
      refine wpAnyL_skip (i := 2) (by kernel_rfl) rfl rfl (by assumption) ?_
      try simp only [Act.put, List.setIfInBounds_toArray, List.set_cons_zero, List.set_cons_succ]
      refine wpAnyL_take (i := 3) (v := ?v21) rfl (by kernel_rfl) (by kernel_rfl) (by kernel_rfl) (by kernel_rfl) (fun _ _ _ h => h) (Or.inl ⟨by rfl, ?y21⟩) (by assumption) ?r21
      case y21 => (intro w' hSw; (try dsimp only at hSw); go_simp; try with_reducible rfl)
      try simp only [Act.put, List.setIfInBounds_toArray, List.set_cons_zero, List.set_cons_succ]
      refine wpAnyL_take (i := 4) (v := ?v22) rfl (by kernel_rfl) (by kernel_rfl) (by kernel_rfl) (by kernel_rfl) (fun _ _ _ h => h) (Or.inl ⟨by rfl, ?y22⟩) (by assumption) ?r22
      case y22 => (intro w' hSw; (try dsimp only at hSw); go_simp; try with_reducible rfl)
      try simp only [Act.put, List.setIfInBounds_toArray, List.set_cons_zero, List.set_cons_succ]
      refine wpAnyL_take (i := 5) (v := undef) rfl (by kernel_rfl) (by kernel_rfl) (by kernel_rfl) (by kernel_rfl) (fun _ _ _ h => h) (Or.inr ⟨by rfl, rfl⟩) (by assumption) ?_
      try simp only [Act.put, List.setIfInBounds_toArray, List.set_cons_zero, List.set_cons_succ]
      refine wpAnyL_take (i := 6) (v := undef) rfl (by kernel_rfl) (by kernel_rfl) (by kernel_rfl) (by kernel_rfl) (fun _ _ _ h => h) (Or.inr ⟨by rfl, rfl⟩) (by assumption) ?_
      try simp only [Act.put, List.setIfInBounds_toArray, List.set_cons_zero, List.set_cons_succ]
      refine wpAnyL_take (i := 7) (v := undef) rfl (by kernel_rfl) (by kernel_rfl) (by kernel_rfl) (by kernel_rfl) (fun _ _ _ h => h) (Or.inr ⟨by rfl, rfl⟩) (by assumption) ?_
      try simp only [Act.put, List.setIfInBounds_toArray, List.set_cons_zero, List.set_cons_succ]
      refine wpAnyL_take (i := 8) (v := undef) rfl (by kernel_rfl) (by kernel_rfl) (by kernel_rfl) (by kernel_rfl) (fun _ _ _ h => h) (Or.inr ⟨by rfl, rfl⟩) (by assumption) ?_
      try simp only [Act.put, List.setIfInBounds_toArray, List.set_cons_zero, List.set_cons_succ]
      refine wpAnyL_take (i := 9) (v := undef) rfl (by kernel_rfl) (by kernel_rfl) (by kernel_rfl) (by kernel_rfl) (fun _ _ _ h => h) (Or.inr ⟨by rfl, rfl⟩) (by assumption) ?_
      try simp only [Act.put, List.setIfInBounds_toArray, List.set_cons_zero, List.set_cons_succ]
      refine wpAnyL_skip (i := 10) (by kernel_rfl) rfl rfl (by assumption) ?_
      try simp only [Act.put, List.setIfInBounds_toArray, List.set_cons_zero, List.set_cons_succ]
      refine wpAnyL_skip (i := 11) (by kernel_rfl) rfl rfl (by assumption) ?_
      try simp only [Act.put, List.setIfInBounds_toArray, List.set_cons_zero, List.set_cons_succ]
      refine wpAnyL_skip (i := 12) (by kernel_rfl) rfl rfl (by assumption) ?_
      try simp only [Act.put, List.setIfInBounds_toArray, List.set_cons_zero, List.set_cons_succ]
      refine wpAnyL_skip (i := 13) (by kernel_rfl) rfl rfl (by assumption) ?_
      try simp only [Act.put, List.setIfInBounds_toArray, List.set_cons_zero, List.set_cons_succ]
      refine wpAnyL_skip (i := 14) (by kernel_rfl) rfl rfl (by assumption) ?_
      try simp only [Act.put, List.setIfInBounds_toArray, List.set_cons_zero, List.set_cons_succ]
      refine wpAnyL_take (i := 15) (v := ?v23) rfl (by kernel_rfl) (by kernel_rfl) (by kernel_rfl) (by kernel_rfl) (fun _ _ _ h => h) (Or.inl ⟨by rfl, ?y23⟩) (by assumption) ?r23
      case y23 => (intro w' hSw; (try dsimp only at hSw); go_simp; try with_reducible rfl)
      try simp only [Act.put, List.setIfInBounds_toArray, List.set_cons_zero, List.set_cons_succ]
      refine wpAnyL_take (i := 16) (v := ?v24) rfl (by kernel_rfl) (by kernel_rfl) (by kernel_rfl) (by kernel_rfl) (fun _ _ _ h => h) (Or.inl ⟨by rfl, ?y24⟩) (by assumption) ?r24
      case y24 => (intro w' hSw; (try dsimp only at hSw); go_simp; try with_reducible rfl)
      try simp only [Act.put, List.setIfInBounds_toArray, List.set_cons_zero, List.set_cons_succ]
      refine wpAnyL_take (i := 17) (v := ?v25) rfl (by kernel_rfl) (by kernel_rfl) (by kernel_rfl) (by kernel_rfl) (fun _ _ _ h => h) (Or.inl ⟨by rfl, ?y25⟩) (by assumption) ?r25
      case y25 => (intro w' hSw; (try dsimp only at hSw); go_simp; try with_reducible rfl)
      try simp only [Act.put, List.setIfInBounds_toArray, List.set_cons_zero, List.set_cons_succ]
      refine wpAnyL_done (by kernel_rfl) ?_ _
      go_wp2
      go_ret2
      exact ⟨ret_be hF.out.symm HF.out.1.symm, hBd⟩
    | true =>
      cases hk2 : x.o.known (x.v ++ x.s.suf) with
      | false =>
        have hF : Hid (x.res = false) := by unfold Hid; rw [HF.out.2]; unfold Ck.tst; rw [hk1, hk2]; rfl
        clear hk1 hk2
        go_wp2
        refine wp_region_L (fun _ => True) [0, 1, 2, 3, 4, 5, 6, 7, 8, 9, 10, 11, 12, 14, 15, 16, 17] (by kernel_rfl) ?_
        have hT : True := trivial
        generalize w13.drew = w14 at *
        refine wpAnyL_take (i := 0) (v := ?v26) rfl (by kernel_rfl) (by kernel_rfl) (by kernel_rfl) (by kernel_rfl) (fun _ _ _ h => h) (Or.inl ⟨by rfl, ?y26⟩) (by assumption) ?r26
        case y26 => (intro w' hSw; (try dsimp only at hSw); go_simp; try with_reducible rfl)
        try simp only [Act.put, List.setIfInBounds_toArray, List.set_cons_zero, List.set_cons_succ]
        refine wpAnyL_take (i := 1) (v := ?v27) rfl (by kernel_rfl) (by kernel_rfl) (by kernel_rfl) (by kernel_rfl) (fun _ _ _ h => h) (Or.inl ⟨by rfl, ?y27⟩) (by assumption) ?r27
        case y27 => (intro w' hSw; (try dsimp only at hSw); go_simp; try with_reducible rfl)
        try simp only [Act.put, List.setIfInBounds_toArray, List.set_cons_zero, List.set_cons_succ]
        refine wpAnyL_take (i := 2) (v := ?v28) rfl (by kernel_rfl) (by kernel_rfl) (by kernel_rfl) (by kernel_rfl) (fun _ _ _ h => h) (Or.inl ⟨by rfl, ?y28⟩) (by assumption) ?r28
        case y28 => (intro w' hSw; (try dsimp only at hSw); go_simp; try with_reducible rfl)
        try simp only [Act.put, List.setIfInBounds_toArray, List.set_cons_zero, List.set_cons_succ]
        refine wpAnyL_take (i := 3) (v := ?v29) rfl (by kernel_rfl) (by kernel_rfl) (by kernel_rfl) (by kernel_rfl) (fun _ _ _ h => h) (Or.inl ⟨by rfl, ?y29⟩) (by assumption) ?r29
        case y29 => (intro w' hSw; (try dsimp only at hSw); go_simp; try with_reducible rfl)
        try simp only [Act.put, List.setIfInBounds_toArray, List.set_cons_zero, List.set_cons_succ]
        refine wpAnyL_take (i := 4) (v := ?v30) rfl (by kernel_rfl) (by kernel_rfl) (by kernel_rfl) (by kernel_rfl) (fun _ _ _ h => h) (Or.inl ⟨by rfl, ?y30⟩) (by assumption) ?r30
        case y30 => (intro w' hSw; (try dsimp only at hSw); go_simp; try with_reducible rfl)
        try simp only [Act.put, List.setIfInBounds_toArray, List.set_cons_zero, List.set_cons_succ]
        refine wpAnyL_take (i := 5) (v := undef) rfl (by kernel_rfl) (by kernel_rfl) (by kernel_rfl) (by kernel_rfl) (fun _ _ _ h => h) (Or.inr ⟨by rfl, rfl⟩) (by assumption) ?_
        try simp only [Act.put, List.setIfInBounds_toArray, List.set_cons_zero, List.set_cons_succ]
        refine wpAnyL_take (i := 6) (v := undef) rfl (by kernel_rfl) (by kernel_rfl) (by kernel_rfl) (by kernel_rfl) (fun _ _ _ h => h) (Or.inr ⟨by rfl, rfl⟩) (by assumption) ?_
        try simp only [Act.put, List.setIfInBounds_toArray, List.set_cons_zero, List.set_cons_succ]
        refine wpAnyL_take (i := 7) (v := undef) rfl (by kernel_rfl) (by kernel_rfl) (by kernel_rfl) (by kernel_rfl) (fun _ _ _ h => h) (Or.inr ⟨by rfl, rfl⟩) (by assumption) ?_
        try simp only [Act.put, List.setIfInBounds_toArray, List.set_cons_zero, List.set_cons_succ]
        refine wpAnyL_take (i := 8) (v := undef) rfl (by kernel_rfl) (by kernel_rfl) (by kernel_rfl) (by kernel_rfl) (fun _ _ _ h => h) (Or.inr ⟨by rfl, rfl⟩) (by assumption) ?_
        try simp only [Act.put, List.setIfInBounds_toArray, List.set_cons_zero, List.set_cons_succ]
        refine wpAnyL_take (i := 9) (v := undef) rfl (by kernel_rfl) (by kernel_rfl) (by kernel_rfl) (by kernel_rfl) (fun _ _ _ h => h) (Or.inr ⟨by rfl, rfl⟩) (by assumption) ?_
        try simp only [Act.put, List.setIfInBounds_toArray, List.set_cons_zero, List.set_cons_succ]
        refine wpAnyL_skip (i := 10) (by kernel_rfl) rfl rfl (by assumption) ?_
        try simp only [Act.put, List.setIfInBounds_toArray, List.set_cons_zero, List.set_cons_succ]
        refine wpAnyL_skip (i := 11) (by kernel_rfl) rfl rfl (by assumption) ?_
        try simp only [Act.put, List.setIfInBounds_toArray, List.set_cons_zero, List.set_cons_succ]
        refine wpAnyL_skip (i := 12) (by kernel_rfl) rfl rfl (by assumption) ?_
        try simp only [Act.put, List.setIfInBounds_toArray, List.set_cons_zero, List.set_cons_succ]
        refine wpAnyL_skip (i := 13) (by kernel_rfl) rfl rfl (by assumption) ?_
        try simp only [Act.put, List.setIfInBounds_toArray, List.set_cons_zero, List.set_cons_succ]
        refine wpAnyL_skip (i := 14) (by kernel_rfl) rfl rfl (by assumption) ?_
        try simp only [Act.put, List.setIfInBounds_toArray, List.set_cons_zero, List.set_cons_succ]
        refine wpAnyL_take (i := 15) (v := ?v31) rfl (by kernel_rfl) (by kernel_rfl) (by kernel_rfl) (by kernel_rfl) (fun _ _ _ h => h) (Or.inl ⟨by rfl, ?y31⟩) (by assumption) ?r31
        case y31 => (intro w' hSw; (try dsimp only at hSw); go_simp; try with_reducible rfl)
        try simp only [Act.put, List.setIfInBounds_toArray, List.set_cons_zero, List.set_cons_succ]
        refine wpAnyL_take (i := 16) (v := ?v32) rfl (by kernel_rfl) (by kernel_rfl) (by kernel_rfl) (by kernel_rfl) (fun _ _ _ h => h) (Or.inl ⟨by rfl, ?y32⟩) (by assumption) ?r32
        case y32 => (intro w' hSw; (try dsimp only at hSw); go_simp; try with_reducible rfl)
        try simp only [Act.put, List.setIfInBounds_toArray, List.set_cons_zero, List.set_cons_succ]
        refine wpAnyL_take (i := 17) (v := ?v33) rfl (by kernel_rfl) (by kernel_rfl) (by kernel_rfl) (by kernel_rfl) (fun _ _ _ h => h) (Or.inl ⟨by rfl, ?y33⟩) (by assumption) ?r33
        case y33 => (intro w' hSw; (try dsimp only at hSw); go_simp; try with_reducible rfl)
        try simp only [Act.put, List.setIfInBounds_toArray, List.set_cons_zero, List.set_cons_succ]
        refine wpAnyL_done (by kernel_rfl) ?_ _
        go_wp2
        go_ret2
        exact ⟨ret_be hF.out.symm HF.out.1.symm, hBd⟩
      | true =>
        have hn9 : l9.length = u.length + x.s.suf.length := by rw [hl9.out, Sj.ans_len hl.out hk1, hu.out]; simp
        have hn13 : l13.length = v.length + x.s.suf.length := by rw [hl13.out, Sj.ans_len hl.out hk2, hv.out]; simp
        have hu9 : u.length ≤ l9.length := by omega
        have hv13 : v.length ≤ l13.length := by omega
        have hF : Hid (x.res = !decide (l9.drop u.length = l13.drop v.length)) := by unfold Hid; rw [HF.out.2]; unfold Ck.tst; rw [hk1, hk2, hl9.out, hl13.out, hu.out, hv.out]; rfl
        obtain ⟨p9, hp9⟩ : ∃ p9, p9 = dA a9 c9 u.length := ⟨_, rfl⟩
        have hd9 : (if c9 = u.length then a9 else Option.map (fun y => y.add u.length) a9) = p9 := by rw [hp9]; rfl
        obtain ⟨p13, hp13⟩ : ∃ p13, p13 = dA a13 c13 v.length := ⟨_, rfl⟩
        have hd13 : (if c13 = v.length then a13 else Option.map (fun y => y.add v.length) a13) = p13 := by rw [hp13]; rfl
        have hc9 := HS9.out.1
        have hc13 := HS13.out.1
        have HC := ints_any (HS9.out.drop hu9) (HS13.out.drop hv13)
        rw [← hp9, ← hp13, List.length_drop, List.length_drop] at HC
        have HC := Lib.hid HC
        clear hk1 hk2 hn9 hn13 hp9 hp13
        go_wp2
        refine wp_region_L (fun _ => True) [0, 1, 2, 3, 4, 5, 6, 7, 8, 9, 10, 11, 12, 14, 15, 16, 17] (by kernel_rfl) ?_
        have hT : True := trivial
        generalize w13.drew = w14 at *
        refine wpAnyL_take (i := 0) (v := ?v34) rfl (by kernel_rfl) (by kernel_rfl) (by kernel_rfl) (by kernel_rfl) (fun _ _ _ h => h) (Or.inl ⟨by rfl, ?y34⟩) (by assumption) ?r34
        case y34 => (intro w' hSw; (try dsimp only at hSw); go_simp; try with_reducible rfl)
        try simp only [Act.put, List.setIfInBounds_toArray, List.set_cons_zero, List.set_cons_succ]
        refine wpAnyL_take (i := 1) (v := ?v35) rfl (by kernel_rfl) (by kernel_rfl) (by kernel_rfl) (by kernel_rfl) (fun _ _ _ h => h) (Or.inl ⟨by rfl, ?y35⟩) (by assumption) ?r35
        case y35 => (intro w' hSw; (try dsimp only at hSw); go_simp; try with_reducible rfl)
        try simp only [Act.put, List.setIfInBounds_toArray, List.set_cons_zero, List.set_cons_succ]
        refine wpAnyL_take (i := 2) (v := ?v36) rfl (by kernel_rfl) (by kernel_rfl) (by kernel_rfl) (by kernel_rfl) (fun _ _ _ h => h) (Or.inl ⟨by rfl, ?y36⟩) (by assumption) ?r36
        case y36 => (intro w' hSw; (try dsimp only at hSw); go_simp; try with_reducible rfl)
        try simp only [Act.put, List.setIfInBounds_toArray, List.set_cons_zero, List.set_cons_succ]
        refine wpAnyL_take (i := 3) (v := ?v37) rfl (by kernel_rfl) (by kernel_rfl) (by kernel_rfl) (by kernel_rfl) (fun _ _ _ h => h) (Or.inl ⟨by rfl, ?y37⟩) (by assumption) ?r37
        case y37 => (intro w' hSw; (try dsimp only at hSw); go_simp; try with_reducible rfl)
        try simp only [Act.put, List.setIfInBounds_toArray, List.set_cons_zero, List.set_cons_succ]
        refine wpAnyL_take (i := 4) (v := ?v38) rfl (by kernel_rfl) (by kernel_rfl) (by kernel_rfl) (by kernel_rfl) (fun _ _ _ h => h) (Or.inl ⟨by rfl, ?y38⟩) (by assumption) ?r38
        case y38 => (intro w' hSw; (try dsimp only at hSw); go_simp; try with_reducible rfl)
        try simp only [Act.put, List.setIfInBounds_toArray, List.set_cons_zero, List.set_cons_succ]
        refine wpAnyL_take (i := 5) (v := ?v39) rfl (by kernel_rfl) (by kernel_rfl) (by kernel_rfl) (by kernel_rfl) (fun _ _ _ h => h) (Or.inl ⟨by rfl, ?y39⟩) (by assumption) ?r39
        case y39 => (intro w' hSw; (try dsimp only at hSw); go_simp; try with_reducible rfl)
        try simp only [Act.put, List.setIfInBounds_toArray, List.set_cons_zero, List.set_cons_succ]
        refine wpAnyL_take (i := 6) (v := ?v40) rfl (by kernel_rfl) (by kernel_rfl) (by kernel_rfl) (by kernel_rfl) (fun _ _ _ h => h) (Or.inl ⟨by rfl, ?y40⟩) (by assumption) ?r40
        case y40 => (intro w' hSw; (try dsimp only at hSw); go_simp; try with_reducible rfl)
        try simp only [Act.put, List.setIfInBounds_toArray, List.set_cons_zero, List.set_cons_succ]
        refine wpAnyL_take (i := 7) (v := ?v41) rfl (by kernel_rfl) (by kernel_rfl) (by kernel_rfl) (by kernel_rfl) (fun _ _ _ h => h) (Or.inl ⟨by rfl, ?y41⟩) (by assumption) ?r41
        case y41 => (intro w' hSw; (try dsimp only at hSw); go_simp; try with_reducible rfl)
        try simp only [Act.put, List.setIfInBounds_toArray, List.set_cons_zero, List.set_cons_succ]
        refine wpAnyL_take (i := 8) (v := ?v42) rfl (by kernel_rfl) (by kernel_rfl) (by kernel_rfl) (by kernel_rfl) (fun _ _ _ h => h) (Or.inl ⟨by rfl, ?y42⟩) (by assumption) ?r42
        case y42 => (intro w' hSw; (try dsimp only at hSw); go_simp; try with_reducible rfl)
        try simp only [Act.put, List.setIfInBounds_toArray, List.set_cons_zero, List.set_cons_succ]
        refine wpAnyL_take (i := 9) (v := ?v43) rfl (by kernel_rfl) (by kernel_rfl) (by kernel_rfl) (by kernel_rfl) (fun _ _ _ h => h) (Or.inl ⟨by rfl, ?y43⟩) (by assumption) ?r43
        case y43 => (intro w' hSw; (try dsimp only at hSw); go_simp; try with_reducible rfl)
        try simp only [Act.put, List.setIfInBounds_toArray, List.set_cons_zero, List.set_cons_succ]
        refine wpAnyL_take (i := 10) (v := ?v44) rfl (by kernel_rfl) (by kernel_rfl) (by kernel_rfl) (by kernel_rfl) (fun _ _ _ h => h) (Or.inl ⟨by rfl, ?y44⟩) (by assumption) ?r44
        case y44 => (intro w' hSw; (try dsimp only at hSw); go_simp; try with_reducible rfl)
        try simp only [Act.put, List.setIfInBounds_toArray, List.set_cons_zero, List.set_cons_succ]
        refine wpAnyL_take (i := 11) (v := ?v45) rfl (by kernel_rfl) (by kernel_rfl) (by kernel_rfl) (by kernel_rfl) (fun _ _ _ h => h) (Or.inl ⟨by rfl, ?y45⟩) (by assumption) ?r45
        case y45 => (intro w' hSw; (try dsimp only at hSw); go_simp; try with_reducible rfl)
        try simp only [Act.put, List.setIfInBounds_toArray, List.set_cons_zero, List.set_cons_succ]
        refine wpAnyL_take (i := 12) (v := ?v46) rfl (by kernel_rfl) (by kernel_rfl) (by kernel_rfl) (by kernel_rfl) (fun _ _ _ h => h) (Or.inl ⟨by rfl, ?y46⟩) (by assumption) ?r46
        case y46 => (intro w' hSw; (try dsimp only at hSw); go_simp; try with_reducible rfl)
        try simp only [Act.put, List.setIfInBounds_toArray, List.set_cons_zero, List.set_cons_succ]
        refine wpAnyL_one (i := 13) (by kernel_rfl) rfl rfl (fun K hK => ?_)
        go_simp
        refine (HC.out).mono ?_
        rintro e w15 ⟨rfl, n15, rfl⟩
        have hB15 := bl_drewN hBd n15
        refine hK _ _ (fun _ => trivial) ?_
        clear hK K
        refine wpAnyL_take (i := 14) (v := ?v47) rfl (by kernel_rfl) (by kernel_rfl) (by kernel_rfl) (by kernel_rfl) (fun _ _ _ h => h) (Or.inl ⟨by rfl, ?y47⟩) (by assumption) ?r47
        case y47 => (intro w' hSw; (try dsimp only at hSw); go_simp; try with_reducible rfl)
        try simp only [Act.put, List.setIfInBounds_toArray, List.set_cons_zero, List.set_cons_succ]
        refine wpAnyL_take (i := 15) (v := ?v48) rfl (by kernel_rfl) (by kernel_rfl) (by kernel_rfl) (by kernel_rfl) (fun _ _ _ h => h) (Or.inl ⟨by rfl, ?y48⟩) (by assumption) ?r48
        case y48 => (intro w' hSw; (try dsimp only at hSw); go_simp; try with_reducible rfl)
        try simp only [Act.put, List.setIfInBounds_toArray, List.set_cons_zero, List.set_cons_succ]
        refine wpAnyL_take (i := 16) (v := ?v49) rfl (by kernel_rfl) (by kernel_rfl) (by kernel_rfl) (by kernel_rfl) (fun _ _ _ h => h) (Or.inl ⟨by rfl, ?y49⟩) (by assumption) ?r49
        case y49 => (intro w' hSw; (try dsimp only at hSw); go_simp; try with_reducible rfl)
        try simp only [Act.put, List.setIfInBounds_toArray, List.set_cons_zero, List.set_cons_succ]
        refine wpAnyL_take (i := 17) (v := ?v50) rfl (by kernel_rfl) (by kernel_rfl) (by kernel_rfl) (by kernel_rfl) (fun _ _ _ h => h) (Or.inl ⟨by rfl, ?y50⟩) (by assumption) ?r50
        case y50 => (intro w' hSw; (try dsimp only at hSw); go_simp; try with_reducible rfl)
        try simp only [Act.put, List.setIfInBounds_toArray, List.set_cons_zero, List.set_cons_succ]
        refine wpAnyL_done (by kernel_rfl) ?_ _
        go_wp2
        go_ret2
        exact ⟨ret_be hF.out.symm HF.out.1.symm, hB15⟩
end
end Go.Proofs.Ytlgdijgfphedpaa
