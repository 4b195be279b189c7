/- The program's Check. Condition: the answers are as long as their words. -/
import Derived.Test.YtlgdijgfphedpaaChk
import Derived.Deep.CutRange
namespace Go.Proofs.Ytlgdijgfphedpaa
open Go.RowKit
section
variable {M M' M'' M3 : Nat → Prop} {w : World} {an ao ac a b b2 : Option Addr} {cn co cc c d d2 : Nat} {x : Ck}
set_option maxRecDepth 100000 in
set_option maxHeartbeats 8000000 in
/-- The program's Check. -/
theorem check_any (hh : Hp M w an cn ao co ac cc x.h) (ho : Os M' w a c x.o) (hp : Sl M'' w b d x.s.pre) (hq : Sl M3 w b2 d2 x.s.suf) (hsy : i64 x.s.sym) (hl : Hid x.o.lens) :
    Calls Try.prog 15 #[hyV x.h an cn ao co ac cc, obV x.o a c, spV x.s b d b2 d2] w fun e w' => e = .returned (.tuple #[.bool x.res, .int .i64 x.err]) ∧ Below w.heap.size w w' := by
  have hB0 := (((Below.refl w.heap.size w).alloc (Nat.le_refl _) (hyO x.h an cn ao co ac cc)).alloc (by simp) (obO x.o a c)).alloc (by simp; omega) (spO x.s b d b2 d2)
  have hb3 := ((Below.refl (w.heap.size + 1) (w.alloc (hyO x.h an cn ao co ac cc))).alloc (by simp) (obO x.o a c)).alloc (by simp) (spO x.s b d b2 d2)
  have hx0 : H5 (((w.alloc (hyO x.h an cn ao co ac cc)).alloc (obO x.o a c)).alloc (spO x.s b d b2 d2)) w.heap.size an cn ao co ac cc x.h := (h5_new w).below hb3 (by omega)
  have hy0 : O2 (((w.alloc (hyO x.h an cn ao co ac cc)).alloc (obO x.o a c)).alloc (spO x.s b d b2 d2)) (w.heap.size + 1) a c x.o := by
    have k := o2_new (o := x.o) (a := a) (c := c) (w.alloc (hyO x.h an cn ao co ac cc))
    have k2 : O2 ((w.alloc (hyO x.h an cn ao co ac cc)).alloc (obO x.o a c)) (w.heap.size + 1) a c x.o := by simpa using k
    exact k2.below (B := w.heap.size + 2) ((Below.refl _ _).alloc (by simp) _) (by omega)
  have ht0 : S3 (((w.alloc (hyO x.h an cn ao co ac cc)).alloc (obO x.o a c)).alloc (spO x.s b d b2 d2)) (w.heap.size + 1 + 1) b d b2 d2 x.s := by
    have k := s3_new (s := x.s) (a := b) (c := d) (a' := b2) (c' := d2) ((w.alloc (hyO x.h an cn ao co ac cc)).alloc (obO x.o a c))
    simpa using k
  have hz0 : w.heap.size + 3 ≤ (((w.alloc (hyO x.h an cn ao co ac cc)).alloc (obO x.o a c)).alloc (spO x.s b d b2 d2)).heap.size := by simp
  have HH := Lib.hid hh
  have HO := Lib.hid ho
  have HP := Lib.hid hp
  have HQ := Lib.hid hq
  have hpl := hp.le
  have hql := hq.le
  have HC := Lib.hid (hvalid_any (HH.out.below hB0))
  clear hh ho hp hq hb3
  rcases Ck.cases (x := x) with ⟨h1, hF⟩ | ⟨ok, h1, h2, hF⟩ | ⟨ok, h1, h2, h3, hF⟩ | ⟨ok, h1, h2, h3, h4, hF⟩ | ⟨ok, h1, h2, h3, h4, h5, hF⟩ | ⟨ok, h1, h2, h3, h4, h5, hF⟩
  · have hb : (x.h.err != 0) = true := by simp [h1]
    have HF := Lib.hid hF
    clear h1 hF
    go_enter Try.func15, Try.ntmps15
    go_wp2_with fail
    generalize ((w.alloc (hyO x.h an cn ao co ac cc)).alloc (obO x.o a c)).alloc (spO x.s b d b2 d2) = w0 at *
    refine (HC.out).mono ?_
    rintro e w1 ⟨rfl, hb1⟩
    have hB1 := hB0.trans (hb1.mono (by omega))
    go_wp2
    go_ret2
    exact ⟨ret_be HF.out.2.symm HF.out.1.symm, hB1⟩
  all_goals
    have hb : (x.h.err != 0) = false := by simp [h1]
    have HF := Lib.hid hF
    have OK := Lib.hid ok
    have H2 := Lib.hid h2
    clear h1 h2 hF ok
    go_enter Try.func15, Try.ntmps15
    go_wp2_with fail
    generalize ((w.alloc (hyO x.h an cn ao co ac cc)).alloc (obO x.o a c)).alloc (spO x.s b d b2 d2) = w0 at *
    refine (HC.out).mono ?_
    rintro e w1 ⟨rfl, hb1⟩
    have hB1 := hB0.trans (hb1.mono (by omega))
    have hx1 := hx0.below hb1 (by omega)
    have hy1 := hy0.below hb1 (by omega)
    have ht1 := ht0.below hb1 (by omega)
    have hz1 : w.heap.size + 3 ≤ w1.heap.size := by have := hb1.size; omega
    clear HC hb1 hB0 hx0 hy0 ht0 hz0
    have HC := Lib.hid (wcheck_any (HP.out.below hB1) x.o.inputs)
  · have h2b : (x.h.m.inputs != x.o.inputs) = true := by simp; exact fun e => H2.out e.symm
    go_wp2
    go_ret2
    exact ⟨ret_be HF.out.2.symm HF.out.1.symm, hB1⟩
  all_goals
    have h2b : (x.h.m.inputs != x.o.inputs) = false := by simp [H2.out]
  · have hb3 : (wErr x.s.pre x.o.inputs != 0) = true := by rw [H2.out]; simp [h3]
    have HF : Hid (x.err = wErr x.s.pre x.o.inputs ∧ x.res = false) := by unfold Hid; rw [H2.out]; exact HF.out
    clear h3
    go_wp2_with fail
    refine (HC.out).mono ?_
    rintro e w2 ⟨rfl, hb2⟩
    have hB2 := hB1.trans (hb2.mono (by omega))
    go_wp2
    go_ret2
    exact ⟨ret_be HF.out.2.symm HF.out.1.symm, hB2⟩
  all_goals
    have hb3 : (wErr x.s.pre x.o.inputs != 0) = false := by rw [H2.out]; simp [h3]
    have H3 := Lib.hid h3
    clear h3
    go_wp2_with fail
    refine (HC.out).mono ?_
    rintro e w2 ⟨rfl, hb2⟩
    have hB2 := hB1.trans (hb2.mono (by omega))
    have hx2 := hx1.below hb2 (by omega)
    have hy2 := hy1.below hb2 (by omega)
    have ht2 := ht1.below hb2 (by omega)
    have hz2 : w.heap.size + 3 ≤ w2.heap.size := by have := hb2.size; omega
    clear HC hb2 hB1 hx1 hy1 ht1 hz1
    have HC := Lib.hid (wcheck_any (HQ.out.below hB2) x.o.inputs)
  · rcases h4 with h4 | h4
    · have hd : decide (x.s.sym < 0) = true := by simp [h4]
      go_wp2
      go_ret2
      exact ⟨ret_be HF.out.2.symm HF.out.1.symm, hB2⟩
    · obtain ⟨h4, h5⟩ := h4
      have hd : decide (x.s.sym < 0) = false := by simp; omega
      rw [← H2.out] at h5
      go_wp2
      go_ret2
      exact ⟨ret_be HF.out.2.symm HF.out.1.symm, hB2⟩
  all_goals
    obtain ⟨h4a, h4b⟩ := h4
    have H4 := Lib.hid (And.intro h4a h4b)
    have hd : decide (x.s.sym < 0) = false := by simp; omega
    rw [← H2.out] at h4b
  · have hb5 : (wErr x.s.suf x.o.inputs != 0) = true := by rw [H2.out]; simp [h5]
    have HF : Hid (x.err = wErr x.s.suf x.o.inputs ∧ x.res = false) := by unfold Hid; rw [H2.out]; exact HF.out
    clear h5
    go_wp2_with fail
    refine (HC.out).mono ?_
    rintro e w3 ⟨rfl, hb3⟩
    have hB3 := hB2.trans (hb3.mono (by omega))
    go_wp2
    go_ret2
    exact ⟨ret_be HF.out.2.symm HF.out.1.symm, hB3⟩
  · have hb5 : (wErr x.s.suf x.o.inputs != 0) = false := by rw [H2.out]; simp [h5]
    have hll := (Mach.okS_of h5).2
    have hpw := Mach.okS_of H3.out
    have hpll := hpw.2
    clear h5
    go_wp2_with fail
    refine (HC.out).mono ?_
    rintro e w3 ⟨rfl, hb3⟩
    have hB3 := hB2.trans (hb3.mono (by omega))
    have hx3 := hx2.below hb3 (by omega)
    have hy3 := hy2.below hb3 (by omega)
    have ht3 := ht2.below hb3 (by omega)
    have hz3 : w.heap.size + 3 ≤ w3.heap.size := by have := hb3.size; omega
    clear HC hb3 hB2 hx2 hy2 ht2 hz2
    have hst := start_ok OK.out.m
    have hfr := Mach.frErr_0 hst H3.out
    have HC := from_any (HH.out.below hB3).m (HP.out.below hB3) x.h.m.start
    rw [hfr.1, hfr.2.2] at HC
    have hen := Mach.endW_range OK.out.m x.s.pre x.h.m.start OK.out.m.s0 OK.out.m.s1 hpw.1
    obtain ⟨tn, htn⟩ := Int.eq_ofNat_of_zero_le hen.1
    rw [htn] at HC hen
    have HC := Lib.hid HC
    have htl : tn < x.h.m.next.length := by omega
    obtain ⟨yn, hyn⟩ := Int.eq_ofNat_of_zero_le h4a
    have hyl : yn < x.h.m.inputs.toNat := by have := H4.out.2; omega
    have HTN := Lib.hid htn
    clear hst hfr hen htn hpw
    go_wp2_with fail
    refine (HC.out).mono ?_
    rintro e w4 ⟨a4, c4, l4, rfl, -, -, hb4⟩
    have hB4 := hB3.trans (hb4.mono (by omega))
    have hx4 := hx3.below hb4 (by omega)
    have hy4 := hy3.below hb4 (by omega)
    have ht4 := ht3.below hb4 (by omega)
    have hz4 : w.heap.size + 3 ≤ w4.heap.size := by have := hb4.size; omega
    clear HC hb4 hB3 hx3 hy3 ht3 hz3
    obtain ⟨bn, on, bo, oo, rfl, rfl⟩ := HH.out.m.addr OK.out.m
    obtain ⟨p1, o1, d1, r1, p2, o2, d3, r2, nn, yy, hn1, hn2, hn3, hn4, hn5, hy0, hy1, hnx, -, hr1, hr2, hr3, hr4⟩ := (HH.out.below hB4).m.atS OK.out.m htl hyl
    have hsl : nn < x.h.acc.length := by have := OK.out.len; omega
    obtain ⟨b1, o6, a6, v, c6, rfl, hc6, hv6, hs6⟩ := (HH.out.below hB4).acc.at_row hsl
    have hv : Hid (v = x.v) := by
      unfold Hid Ck.v Ck.u
      rw [Mach.endW_snoc, HTN.out, hyn, Int.toNat_natCast, Int.toNat_natCast, hnx.out, Int.toNat_natCast]; exact (Hy.ac_of hv6.out).symm
    have hwv := (OK.out.word nn hsl).1
    rw [Hy.ac_of hv6.out] at hwv
    have hvl := (Mach.okS_of hwv).2
    have HSV := Lib.hid hs6
    have hS1 : S3 w4 (w.heap.size + 1 + 1) b d b2 d2 x.s := ht4
    have hsy4 : w4.cell? ⟨w.heap.size + 1 + 1, 1, none⟩ = some (.int .i64 ((yn : Nat) : Int)) := by rw [← hyn]; exact ht4.2.1
    have hSq : ∀ n, O2 (w4.drewN n) (w.heap.size + 1) a c x.o ∧ S3 (w4.drewN n) (w.heap.size + 1 + 1) b d b2 d2 x.s := fun n => ⟨hy4.below (below_drewN w4.heap.size w4 n) (by omega), ht4.below (below_drewN w4.heap.size w4 n) (by omega)⟩
    obtain ⟨ht41, -, ht42⟩ := ht4
    clear hs6 hwv hn2 hn4 hr2 hr4 hS1
    go_wp2
    refine wp_quiet_fast (by kernel_rfl) (by kernel_rfl) ?_
    repeat (first | go_big_quiet_step (fail) | quiet_step (fail))
    refine wpQuiet_nil ?_
    intro _ hw'
    obtain ⟨nq, hw''⟩ := hw'
    subst hw''
    have hBd := bl_drewN hB4 nq
    have hSd := hSq nq
    have hzd : w.heap.size + 3 ≤ (w4.drewN nq).heap.size := hz4
    have HSV := Lib.hid (HSV.out.drewN nq)
    clear hSq hB4 hx4 hy4 ht41 ht42 hsy4 hz4 hn1 hn3 hc6 hyn
    generalize w4.drewN nq = w5 at *
    go_wp2
    refine wp_region_L (fun w' => O2 w' (w.heap.size + 1) a c x.o ∧ S3 w' (w.heap.size + 1 + 1) b d b2 d2 x.s) [0, 1, 2, 3, 4, 6, 7, 11, 12, 13, 14, 15] (by kernel_rfl) ?_
    have hSd := And.intro (hSd.1.below (Below.refl w5.heap.size w5).drew (by omega)) (hSd.2.below (Below.refl w5.heap.size w5).drew (by omega))
    have hBd := hBd.drew
    have hzd : w.heap.size + 3 ≤ w5.drew.heap.size := hzd
    have HSV := Lib.hid (HSV.out.drew)
    generalize w5.drew = w6 at *
    refine wpAnyL_take (i := 0) (v := ?v1) rfl (by kernel_rfl) (by kernel_rfl) (by kernel_rfl) (by kernel_rfl) (fun _ _ _ h => h) (Or.inl ⟨by rfl, ?y1⟩) (by assumption) ?r1
    case y1 => (intro w' hSw; (try dsimp only at hSw); go_simp; try with_reducible rfl)
    try simp only [Act.put, List.setIfInBounds_toArray, List.set_cons_zero, List.set_cons_succ]
    refine wpAnyL_take (i := 1) (v := ?v2) rfl (by kernel_rfl) (by kernel_rfl) (by kernel_rfl) (by kernel_rfl) (fun _ _ _ h => h) (Or.inl ⟨by rfl, ?y2⟩) (by assumption) ?r2
    case y2 => (intro w' hSw; (try dsimp only at hSw); go_simp; try with_reducible rfl)
    try simp only [Act.put, List.setIfInBounds_toArray, List.set_cons_zero, List.set_cons_succ]
    refine wpAnyL_take (i := 2) (v := ?v3) rfl (by kernel_rfl) (by kernel_rfl) (by kernel_rfl) (by kernel_rfl) (fun _ _ _ h => h) (Or.inl ⟨by rfl, ?y3⟩) (by assumption) ?r3
    case y3 => (intro w' hSw; (try dsimp only at hSw); go_simp; try with_reducible rfl)
    try simp only [Act.put, List.setIfInBounds_toArray, List.set_cons_zero, List.set_cons_succ]
    refine wpAnyL_take (i := 3) (v := ?v4) rfl (by kernel_rfl) (by kernel_rfl) (by kernel_rfl) (by kernel_rfl) (fun _ _ _ h => h) (Or.inl ⟨by rfl, ?y4⟩) (by assumption) ?r4
    case y4 => (intro w' hSw; (try dsimp only at hSw); go_simp; try with_reducible rfl)
    try simp only [Act.put, List.setIfInBounds_toArray, List.set_cons_zero, List.set_cons_succ]
    refine wpAnyL_take (i := 4) (v := ?v5) rfl (by kernel_rfl) (by kernel_rfl) (by kernel_rfl) (by kernel_rfl) (fun _ _ _ h => h) (Or.inl ⟨by rfl, ?y5⟩) (by assumption) ?r5
    case y5 => (intro w' hSw; (try dsimp only at hSw); go_simp; try with_reducible rfl)
    try simp only [Act.put, List.setIfInBounds_toArray, List.set_cons_zero, List.set_cons_succ]
    refine wpAnyL_take (i := 6) (v := ?v6) rfl (by kernel_rfl) (by kernel_rfl) (by kernel_rfl) (by kernel_rfl) (fun _ _ _ h => h) (Or.inl ⟨by rfl, ?y6⟩) (by assumption) ?r6
    case y6 => (intro w' hSw; (try dsimp only at hSw); go_simp; try with_reducible rfl)
    try simp only [Act.put, List.setIfInBounds_toArray, List.set_cons_zero, List.set_cons_succ]
    refine wpAnyL_take (i := 7) (v := ?v7) rfl (by kernel_rfl) (by kernel_rfl) (by kernel_rfl) (by kernel_rfl) (fun _ _ _ h => h) (Or.inl ⟨by rfl, ?y7⟩) (by assumption) ?r7
    case y7 => (intro w' hSw; (try dsimp only at hSw); go_simp; try with_reducible rfl)
    try simp only [Act.put, List.setIfInBounds_toArray, List.set_cons_zero, List.set_cons_succ]
    refine wpAnyL_one (i := 5) (by kernel_rfl) rfl rfl (fun K hK => ?_)
    go_simp
    have hba := (Below.refl w6.heap.size w6).alloc (Nat.le_refl _) (.cells #[.int .i64 x.s.sym] 3)
    have hSA := And.intro (hSd.1.below hba (by omega)) (hSd.2.below hba (by omega))
    refine hK _ _ (fun _ => hSA) ?_
    clear hK K hSA
    refine wpAnyL_one (i := 8) (by kernel_rfl) rfl rfl (fun K hK => ?_)
    go_simp
    have hba := hba.alloc (by simp) (.cells #[.slice b x.s.pre.length d, .slice (some ⟨w6.heap.size, 0, none⟩) 1 1, .slice b2 x.s.suf.length d2] 30)
    have hBA := (hBd.alloc (by omega) (.cells #[.int .i64 x.s.sym] 3)).alloc (by simp; omega) (.cells #[.slice b x.s.pre.length d, .slice (some ⟨w6.heap.size, 0, none⟩) 1 1, .slice b2 x.s.suf.length d2] 30)
    have hSA := And.intro (hSd.1.below hba (by omega)) (hSd.2.below hba (by omega))
    have hzA : w.heap.size + 3 ≤ ((w6.alloc (.cells #[.int .i64 x.s.sym] 3)).alloc (.cells #[.slice b x.s.pre.length d, .slice (some ⟨w6.heap.size, 0, none⟩) 1 1, .slice b2 x.s.suf.length d2] 30)).heap.size := by simp; omega
    have hr := rows3 (T := 30) ((HP.out.below hBd).alloc (.cells #[.int .i64 x.s.sym] 3)) (ints1 (w := w6) (T := 3) hsy) ((HQ.out.below hBd).alloc (.cells #[.int .i64 x.s.sym] 3)) rfl (m := 1) rfl rfl
    rw [show (w6.alloc (.cells #[.int .i64 x.s.sym] 3)).heap.size = w6.heap.size + 1 from by simp] at hr
    have HC := Lib.hid (join_any hr (by rw [flat3]; simp; omega))
    have HSV := Lib.hid (HSV.out.below hba)
    refine hK _ _ (fun _ => hSA) ?_
    clear hK K hba hSd hBd hzd hr
    refine wpAnyL_one (i := 9) (by kernel_rfl) rfl rfl (fun K hK => ?_)
    go_simp
    generalize (w6.alloc (.cells #[.int .i64 x.s.sym] 3)).alloc (.cells #[.slice b x.s.pre.length d, .slice (some ⟨w6.heap.size, 0, none⟩) 1 1, .slice b2 x.s.suf.length d2] 30) = w7 at *
    refine (HC.out).mono ?_
    rintro e w8 ⟨a8, c8, l8, rfl, hl8, hs8, hb8⟩
    have hB8 := hBA.trans (hb8.mono (by omega))
    have hS8 := And.intro (hSA.1.below hb8 (by omega)) (hSA.2.below hb8 (by omega))
    have hz8 : w.heap.size + 3 ≤ w8.heap.size := by have := hb8.size; omega
    have hl8 : Hid (l8 = x.u ++ x.s.suf) := by unfold Hid; rw [hl8.out, flat3]; unfold Ck.u; simp
    have HSV := Lib.hid (HSV.out.below hb8)
    have HC := ans_any (HO.out.below hB8) hs8 hl
    rw [show x.o.known l8 = x.o.known (x.u ++ x.s.suf) from by rw [hl8.out]] at HC
    have HC := Lib.hid HC
    refine hK _ _ (fun _ => hS8) ?_
    clear hK K hBA hSA hzA hb8 hs8
    refine wpAnyL_one (i := 10) (by kernel_rfl) rfl rfl (fun K hK => ?_)
    go_simp
    refine (HC.out).mono ?_
    rintro e w9 ⟨a9, c9, l9, rfl, hl9, hs9, hb9⟩
    have hB9 := hB8.trans (hb9.mono (by omega))
    have hS9 := And.intro (hS8.1.below hb9 (by omega)) (hS8.2.below hb9 (by omega))
    have hz9 : w.heap.size + 3 ≤ w9.heap.size := by have := hb9.size; omega
    have hl9 : Hid (l9 = x.o.ans (x.u ++ x.s.suf)) := by unfold Hid; rw [hl9.out, hl8.out]
    have HSV := Lib.hid (HSV.out.below hb9)
    have HS9 := Lib.hid (hs9.anti (M' := fun _ => False) fun _ _ h => h.elim)
    refine hK _ _ (fun _ => hS9) ?_
    clear hK K hB8 hS8 hz8 hb9 hs9 HC
    refine wpAnyL_take (i := 11) (v := ?v8) rfl (by kernel_rfl) (by kernel_rfl) (by kernel_rfl) (by kernel_rfl) (fun _ _ _ h => h) (Or.inl ⟨by rfl, ?y8⟩) (by assumption) ?r8
    case y8 => (intro w' hSw; (try dsimp only at hSw); go_simp; try with_reducible rfl)
    try simp only [Act.put, List.setIfInBounds_toArray, List.set_cons_zero, List.set_cons_succ]
    refine wpAnyL_take (i := 12) (v := ?v9) rfl (by kernel_rfl) (by kernel_rfl) (by kernel_rfl) (by kernel_rfl) (fun _ _ _ h => h) (Or.inl ⟨by rfl, ?y9⟩) (by assumption) ?r9
    case y9 => (intro w' hSw; (try dsimp only at hSw); go_simp; try with_reducible rfl)
    try simp only [Act.put, List.setIfInBounds_toArray, List.set_cons_zero, List.set_cons_succ]
    refine wpAnyL_take (i := 13) (v := ?v10) rfl (by kernel_rfl) (by kernel_rfl) (by kernel_rfl) (by kernel_rfl) (fun _ _ _ h => h) (Or.inl ⟨by rfl, ?y10⟩) (by assumption) ?r10
    case y10 => (intro w' hSw; (try dsimp only at hSw); go_simp; try with_reducible rfl)
    try simp only [Act.put, List.setIfInBounds_toArray, List.set_cons_zero, List.set_cons_succ]
    refine wpAnyL_take (i := 14) (v := ?v11) rfl (by kernel_rfl) (by kernel_rfl) (by kernel_rfl) (by kernel_rfl) (fun _ _ _ h => h) (Or.inl ⟨by rfl, ?y11⟩) (by assumption) ?r11
    case y11 => (intro w' hSw; (try dsimp only at hSw); go_simp; try with_reducible rfl)
    try simp only [Act.put, List.setIfInBounds_toArray, List.set_cons_zero, List.set_cons_succ]
    refine wpAnyL_take (i := 15) (v := ?v12) rfl (by kernel_rfl) (by kernel_rfl) (by kernel_rfl) (by kernel_rfl) (fun _ _ _ h => h) (Or.inl ⟨by rfl, ?y12⟩) (by assumption) ?r12
    case y12 => (intro w' hSw; (try dsimp only at hSw); go_simp; try with_reducible rfl)
    try simp only [Act.put, List.setIfInBounds_toArray, List.set_cons_zero, List.set_cons_succ]
    refine wpAnyL_done (by kernel_rfl) ?_ _
    go_wp2
    refine wp_region_L (fun w' => O2 w' (w.heap.size + 1) a c x.o ∧ S3 w' (w.heap.size + 1 + 1) b d b2 d2 x.s) [0, 1, 2, 3, 7, 8, 9, 10, 11] (by kernel_rfl) ?_
    have hSd := And.intro (hS9.1.below (Below.refl w9.heap.size w9).drew (by omega)) (hS9.2.below (Below.refl w9.heap.size w9).drew (by omega))
    have hBd := hB9.drew
    have hzd : w.heap.size + 3 ≤ w9.drew.heap.size := hz9
    have HS9 := Lib.hid (HS9.out.drew)
    have HSV := Lib.hid (HSV.out.drew)
    clear hS9 hB9 hz9
    generalize w9.drew = w10 at *
    refine wpAnyL_take (i := 0) (v := ?v13) rfl (by kernel_rfl) (by kernel_rfl) (by kernel_rfl) (by kernel_rfl) (fun _ _ _ h => h) (Or.inl ⟨by rfl, ?y13⟩) (by assumption) ?r13
    case y13 => (intro w' hSw; (try dsimp only at hSw); go_simp; try with_reducible rfl)
    try simp only [Act.put, List.setIfInBounds_toArray, List.set_cons_zero, List.set_cons_succ]
    refine wpAnyL_take (i := 1) (v := ?v14) rfl (by kernel_rfl) (by kernel_rfl) (by kernel_rfl) (by kernel_rfl) (fun _ _ _ h => h) (Or.inl ⟨by rfl, ?y14⟩) (by assumption) ?r14
    case y14 => (intro w' hSw; (try dsimp only at hSw); go_simp; try with_reducible rfl)
    try simp only [Act.put, List.setIfInBounds_toArray, List.set_cons_zero, List.set_cons_succ]
    refine wpAnyL_take (i := 2) (v := ?v15) rfl (by kernel_rfl) (by kernel_rfl) (by kernel_rfl) (by kernel_rfl) (fun _ _ _ h => h) (Or.inl ⟨by rfl, ?y15⟩) (by assumption) ?r15
    case y15 => (intro w' hSw; (try dsimp only at hSw); go_simp; try with_reducible rfl)
    try simp only [Act.put, List.setIfInBounds_toArray, List.set_cons_zero, List.set_cons_succ]
    refine wpAnyL_take (i := 3) (v := ?v16) rfl (by kernel_rfl) (by kernel_rfl) (by kernel_rfl) (by kernel_rfl) (fun _ _ _ h => h) (Or.inl ⟨by rfl, ?y16⟩) (by assumption) ?r16
    case y16 => (intro w' hSw; (try dsimp only at hSw); go_simp; try with_reducible rfl)
    try simp only [Act.put, List.setIfInBounds_toArray, List.set_cons_zero, List.set_cons_succ]
    refine wpAnyL_one (i := 4) (by kernel_rfl) rfl rfl (fun K hK => ?_)
    go_simp
    have hba := (Below.refl w10.heap.size w10).alloc (Nat.le_refl _) (.cells #[.slice a6 v.length c6, .slice b2 x.s.suf.length d2] 30)
    have hBA := hBd.alloc (by omega) (.cells #[.slice a6 v.length c6, .slice b2 x.s.suf.length d2] 30)
    have hSA := And.intro (hSd.1.below hba (by omega)) (hSd.2.below hba (by omega))
    have hzA : w.heap.size + 3 ≤ (w10.alloc (.cells #[.slice a6 v.length c6, .slice b2 x.s.suf.length d2] 30)).heap.size := by simp; omega
    have HC := Lib.hid (join_any (rows2 (T := 30) HSV.out (HQ.out.below hBd) rfl rfl) (by rw [flat2]; simp; omega))
    have HS9 := Lib.hid (HS9.out.below hba)
    refine hK _ _ (fun _ => hSA) ?_
    clear hK K hba hSd hBd hzd
    refine wpAnyL_one (i := 5) (by kernel_rfl) rfl rfl (fun K hK => ?_)
    go_simp
    generalize w10.alloc (.cells #[.slice a6 v.length c6, .slice b2 x.s.suf.length d2] 30) = w11 at *
    refine (HC.out).mono ?_
    rintro e w12 ⟨a12, c12, l12, rfl, hl12, hs12, hb12⟩
    have hB12 := hBA.trans (hb12.mono (by omega))
    have hS12 := And.intro (hSA.1.below hb12 (by omega)) (hSA.2.below hb12 (by omega))
    have hz12 : w.heap.size + 3 ≤ w12.heap.size := by have := hb12.size; omega
    have hl12 : Hid (l12 = x.v ++ x.s.suf) := by unfold Hid; rw [hl12.out, flat2, hv.out]
    have HS9 := Lib.hid (HS9.out.below hb12)
    have HC := ans_any (HO.out.below hB12) hs12 hl
    rw [show x.o.known l12 = x.o.known (x.v ++ x.s.suf) from by rw [hl12.out]] at HC
    have HC := Lib.hid HC
    refine hK _ _ (fun _ => hS12) ?_
    clear hK K hBA hSA hzA hb12 hs12
    refine wpAnyL_one (i := 6) (by kernel_rfl) rfl rfl (fun K hK => ?_)
    go_simp
    refine (HC.out).mono ?_
    rintro e w13 ⟨a13, c13, l13, rfl, hl13, hs13, hb13⟩
    have hB13 := hB12.trans (hb13.mono (by omega))
    have hS13 := And.intro (hS12.1.below hb13 (by omega)) (hS12.2.below hb13 (by omega))
    have hl13 : Hid (l13 = x.o.ans (x.v ++ x.s.suf)) := by unfold Hid; rw [hl13.out, hl12.out]
    have HS9 := Lib.hid (HS9.out.below hb13)
    have HS13 := Lib.hid (hs13.anti (M' := fun _ => False) fun _ _ h => h.elim)
    refine hK _ _ (fun _ => hS13) ?_
    clear hK K hB12 hS12 hz12 hb13 hs13 HC HSV
    refine wpAnyL_take (i := 7) (v := ?v17) rfl (by kernel_rfl) (by kernel_rfl) (by kernel_rfl) (by kernel_rfl) (fun _ _ _ h => h) (Or.inl ⟨by rfl, ?y17⟩) (by assumption) ?r17
    case y17 => (intro w' hSw; (try dsimp only at hSw); go_simp; try with_reducible rfl)
    try simp only [Act.put, List.setIfInBounds_toArray, List.set_cons_zero, List.set_cons_succ]
    refine wpAnyL_take (i := 8) (v := ?v18) rfl (by kernel_rfl) (by kernel_rfl) (by kernel_rfl) (by kernel_rfl) (fun _ _ _ h => h) (Or.inl ⟨by rfl, ?y18⟩) (by assumption) ?r18
    case y18 => (intro w' hSw; (try dsimp only at hSw); go_simp; try with_reducible rfl)
    try simp only [Act.put, List.setIfInBounds_toArray, List.set_cons_zero, List.set_cons_succ]
    refine wpAnyL_take (i := 9) (v := ?v19) rfl (by kernel_rfl) (by kernel_rfl) (by kernel_rfl) (by kernel_rfl) (fun _ _ _ h => h) (Or.inl ⟨by rfl, ?y19⟩) (by assumption) ?r19
    case y19 => (intro w' hSw; (try dsimp only at hSw); go_simp; try with_reducible rfl)
    try simp only [Act.put, List.setIfInBounds_toArray, List.set_cons_zero, List.set_cons_succ]
    refine wpAnyL_take (i := 10) (v := ?v20) rfl (by kernel_rfl) (by kernel_rfl) (by kernel_rfl) (by kernel_rfl) (fun _ _ _ h => h) (Or.inl ⟨by rfl, ?y20⟩) (by assumption) ?r20
    case y20 => (intro w' hSw; (try dsimp only at hSw); go_simp; try with_reducible rfl)
    try simp only [Act.put, List.setIfInBounds_toArray, List.set_cons_zero, List.set_cons_succ]
    refine wpAnyL_take (i := 11) (v := ?v21) rfl (by kernel_rfl) (by kernel_rfl) (by kernel_rfl) (by kernel_rfl) (fun _ _ _ h => h) (Or.inl ⟨by rfl, ?y21⟩) (by assumption) ?r21
    case y21 => (intro w' hSw; (try dsimp only at hSw); go_simp; try with_reducible rfl)
    try simp only [Act.put, List.setIfInBounds_toArray, List.set_cons_zero, List.set_cons_succ]
    refine wpAnyL_done (by kernel_rfl) ?_ _
    obtain ⟨-, hsu13⟩ := hS13
    have hl2c := HQ.out.1
    cases hk1 : x.o.known (x.u ++ x.s.suf) with
    | false =>
      have hF : Hid (x.res = false) := by unfold Hid; rw [HF.out.2]; unfold Ck.tst; rw [hk1]; rfl
      clear hk1
      go_wp2
      go_ret2
      exact ⟨ret_be hF.out.symm HF.out.1.symm, hB13⟩
    | true =>
      cases hk2 : x.o.known (x.v ++ x.s.suf) with
      | false =>
        have hF : Hid (x.res = false) := by unfold Hid; rw [HF.out.2]; unfold Ck.tst; rw [hk1, hk2]; rfl
        clear hk1 hk2
        go_wp2
        go_ret2
        exact ⟨ret_be hF.out.symm HF.out.1.symm, hB13⟩
      | true =>
        have hul : x.u.length = x.s.pre.length + 1 := Ck.u_len
        have hn9 : l9.length = x.u.length + x.s.suf.length := by rw [hl9.out, Sj.ans_len hl.out hk1]; simp
        have hn13 : l13.length = v.length + x.s.suf.length := by rw [hl13.out, Sj.ans_len hl.out hk2, hv.out]; simp
        have hF : Hid (x.res = !decide (l9.drop x.u.length = l13.drop v.length)) := by unfold Hid; rw [HF.out.2]; unfold Ck.tst; rw [hk1, hk2, hl9.out, hl13.out, hv.out]; rfl
        obtain ⟨ul, hul2⟩ : ∃ ul, ul = x.u.length := ⟨_, rfl⟩
        rw [← hul2] at hF hn9 hul
        have hu9 : ul ≤ l9.length := by omega
        have hv13 : v.length ≤ l13.length := by omega
        have hs9 : ((l9.length : Nat) : Int) - ((x.s.suf.length : Nat) : Int) = ((ul : Nat) : Int) := by omega
        have hs13 : ((l13.length : Nat) : Int) - ((x.s.suf.length : Nat) : Int) = ((v.length : Nat) : Int) := by omega
        have hll9 : l9.length ≤ 4096 := by omega
        have hll13 : l13.length ≤ 4096 := by omega
        have hw9 : IntKind.i64.wrap ((ul : Nat) : Int) = ((ul : Nat) : Int) := IntWalk.i64_in _ (by omega)
        have hw13 : IntKind.i64.wrap ((v.length : Nat) : Int) = ((v.length : Nat) : Int) := IntWalk.i64_in _ (by omega)
        obtain ⟨p9, hp9⟩ : ∃ p9, p9 = dA a9 c9 ul := ⟨_, rfl⟩
        have hd9 : (if c9 = ul then a9 else Option.map (fun y => y.add ul) a9) = p9 := by rw [hp9]; rfl
        obtain ⟨p13, hp13⟩ : ∃ p13, p13 = dA a13 c13 v.length := ⟨_, rfl⟩
        have hd13 : (if c13 = v.length then a13 else Option.map (fun y => y.add v.length) a13) = p13 := by rw [hp13]; rfl
        have hc9 := HS9.out.1
        have hc13 := HS13.out.1
        have HC := sequal_any (HS9.out.drew.drop hu9) (HS13.out.drew.drop hv13)
        rw [← hp9, ← hp13, List.length_drop, List.length_drop] at HC
        have HC := Lib.hid HC
        have HN := Lib.hid (And.intro hn9 (And.intro hn13 hul))
        clear hk1 hk2 hp9 hp13 hn9 hn13 hul hul2
        go_upto_region 23 with (fail)
        refine wp_region_L (fun _ => True) [0, 1, 2, 3, 4, 5, 6, 7, 8, 9, 10, 11, 13, 14, 15] (by kernel_rfl) ?_
        have hT : True := trivial
        have hBd := hB13.drew
        generalize w13.drew = w14 at *
        refine wpAnyL_take (i := 0) (v := ?v22) rfl (by kernel_rfl) (by kernel_rfl) (by kernel_rfl) (by kernel_rfl) (fun _ _ _ h => h) (Or.inl ⟨by rfl, ?y22⟩) (by assumption) ?r22
        case y22 => (intro w' hSw; (try dsimp only at hSw); go_simp; try with_reducible rfl)
        try simp only [Act.put, List.setIfInBounds_toArray, List.set_cons_zero, List.set_cons_succ]
        refine wpAnyL_take (i := 1) (v := ?v23) rfl (by kernel_rfl) (by kernel_rfl) (by kernel_rfl) (by kernel_rfl) (fun _ _ _ h => h) (Or.inl ⟨by rfl, ?y23⟩) (by assumption) ?r23
        case y23 => (intro w' hSw; (try dsimp only at hSw); go_simp; try with_reducible rfl)
        try simp only [Act.put, List.setIfInBounds_toArray, List.set_cons_zero, List.set_cons_succ]
        refine wpAnyL_take (i := 2) (v := ?v24) rfl (by kernel_rfl) (by kernel_rfl) (by kernel_rfl) (by kernel_rfl) (fun _ _ _ h => h) (Or.inl ⟨by rfl, ?y24⟩) (by assumption) ?r24
        case y24 => (intro w' hSw; (try dsimp only at hSw); go_simp; try with_reducible rfl)
        try simp only [Act.put, List.setIfInBounds_toArray, List.set_cons_zero, List.set_cons_succ]
        refine wpAnyL_take (i := 3) (v := ?v25) rfl (by kernel_rfl) (by kernel_rfl) (by kernel_rfl) (by kernel_rfl) (fun _ _ _ h => h) (Or.inl ⟨by rfl, ?y25⟩) (by assumption) ?r25
        case y25 => (intro w' hSw; (try dsimp only at hSw); go_simp; try with_reducible rfl)
        try simp only [Act.put, List.setIfInBounds_toArray, List.set_cons_zero, List.set_cons_succ]
        refine wpAnyL_take (i := 4) (v := ?v26) rfl (by kernel_rfl) (by kernel_rfl) (by kernel_rfl) (by kernel_rfl) (fun _ _ _ h => h) (Or.inl ⟨by rfl, ?y26⟩) (by assumption) ?r26
        case y26 => (intro w' hSw; (try dsimp only at hSw); go_simp; try with_reducible rfl)
        try simp only [Act.put, List.setIfInBounds_toArray, List.set_cons_zero, List.set_cons_succ]
        refine wpAnyL_take (i := 5) (v := ?v27) rfl (by kernel_rfl) (by kernel_rfl) (by kernel_rfl) (by kernel_rfl) (fun _ _ _ h => h) (Or.inl ⟨by rfl, ?y27⟩) (by assumption) ?r27
        case y27 => (intro w' hSw; (try dsimp only at hSw); go_simp; try with_reducible rfl)
        try simp only [Act.put, List.setIfInBounds_toArray, List.set_cons_zero, List.set_cons_succ]
        refine wpAnyL_take (i := 6) (v := ?v28) rfl (by kernel_rfl) (by kernel_rfl) (by kernel_rfl) (by kernel_rfl) (fun _ _ _ h => h) (Or.inl ⟨by rfl, ?y28⟩) (by assumption) ?r28
        case y28 => (intro w' hSw; (try dsimp only at hSw); go_simp; try with_reducible rfl)
        try simp only [Act.put, List.setIfInBounds_toArray, List.set_cons_zero, List.set_cons_succ]
        refine wpAnyL_take (i := 7) (v := ?v29) rfl (by kernel_rfl) (by kernel_rfl) (by kernel_rfl) (by kernel_rfl) (fun _ _ _ h => h) (Or.inl ⟨by rfl, ?y29⟩) (by assumption) ?r29
        case y29 => (intro w' hSw; (try dsimp only at hSw); go_simp; try with_reducible rfl)
        try simp only [Act.put, List.setIfInBounds_toArray, List.set_cons_zero, List.set_cons_succ]
        refine wpAnyL_take (i := 8) (v := ?v30) rfl (by kernel_rfl) (by kernel_rfl) (by kernel_rfl) (by kernel_rfl) (fun _ _ _ h => h) (Or.inl ⟨by rfl, ?y30⟩) (by assumption) ?r30
        case y30 => (intro w' hSw; (try dsimp only at hSw); go_simp; try with_reducible rfl)
        try simp only [Act.put, List.setIfInBounds_toArray, List.set_cons_zero, List.set_cons_succ]
        refine wpAnyL_take (i := 9) (v := ?v31) rfl (by kernel_rfl) (by kernel_rfl) (by kernel_rfl) (by kernel_rfl) (fun _ _ _ h => h) (Or.inl ⟨by rfl, ?y31⟩) (by assumption) ?r31
        case y31 => (intro w' hSw; (try dsimp only at hSw); go_simp; try with_reducible rfl)
        try simp only [Act.put, List.setIfInBounds_toArray, List.set_cons_zero, List.set_cons_succ]
        refine wpAnyL_take (i := 10) (v := ?v32) rfl (by kernel_rfl) (by kernel_rfl) (by kernel_rfl) (by kernel_rfl) (fun _ _ _ h => h) (Or.inl ⟨by rfl, ?y32⟩) (by assumption) ?r32
        case y32 => (intro w' hSw; (try dsimp only at hSw); go_simp; try with_reducible rfl)
        try simp only [Act.put, List.setIfInBounds_toArray, List.set_cons_zero, List.set_cons_succ]
        refine wpAnyL_take (i := 11) (v := ?v33) rfl (by kernel_rfl) (by kernel_rfl) (by kernel_rfl) (by kernel_rfl) (fun _ _ _ h => h) (Or.inl ⟨by rfl, ?y33⟩) (by assumption) ?r33
        case y33 => (intro w' hSw; (try dsimp only at hSw); go_simp; try with_reducible rfl)
        try simp only [Act.put, List.setIfInBounds_toArray, List.set_cons_zero, List.set_cons_succ]
        refine wpAnyL_one (i := 12) (by kernel_rfl) rfl rfl (fun K hK => ?_)
        go_simp
        refine (HC.out).mono ?_
        rintro e w15 ⟨rfl, n15, rfl⟩
        have hB15 := bl_drewN hBd n15
        refine hK _ _ (fun _ => trivial) ?_
        clear hK K
        refine wpAnyL_take (i := 13) (v := ?v34) rfl (by kernel_rfl) (by kernel_rfl) (by kernel_rfl) (by kernel_rfl) (fun _ _ _ h => h) (Or.inl ⟨by rfl, ?y34⟩) (by assumption) ?r34
        case y34 => (intro w' hSw; (try dsimp only at hSw); go_simp; try with_reducible rfl)
        try simp only [Act.put, List.setIfInBounds_toArray, List.set_cons_zero, List.set_cons_succ]
        refine wpAnyL_take (i := 14) (v := ?v35) rfl (by kernel_rfl) (by kernel_rfl) (by kernel_rfl) (by kernel_rfl) (fun _ _ _ h => h) (Or.inl ⟨by rfl, ?y35⟩) (by assumption) ?r35
        case y35 => (intro w' hSw; (try dsimp only at hSw); go_simp; try with_reducible rfl)
        try simp only [Act.put, List.setIfInBounds_toArray, List.set_cons_zero, List.set_cons_succ]
        refine wpAnyL_take (i := 15) (v := ?v36) rfl (by kernel_rfl) (by kernel_rfl) (by kernel_rfl) (by kernel_rfl) (fun _ _ _ h => h) (Or.inl ⟨by rfl, ?y36⟩) (by assumption) ?r36
        case y36 => (intro w' hSw; (try dsimp only at hSw); go_simp; try with_reducible rfl)
        try simp only [Act.put, List.setIfInBounds_toArray, List.set_cons_zero, List.set_cons_succ]
        refine wpAnyL_done (by kernel_rfl) ?_ _
        go_wp2
        go_ret2
        exact ⟨ret_be hF.out.symm HF.out.1.symm, hB15⟩
end
end Go.Proofs.Ytlgdijgfphedpaa
