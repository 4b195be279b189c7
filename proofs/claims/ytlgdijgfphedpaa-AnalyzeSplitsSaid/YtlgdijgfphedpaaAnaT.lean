/- The reference's Find and Linear. Condition: the answers are as long as their words. -/
import Derived.Test.YtlgdijgfphedpaaSt3
import Derived.Deep.CutRange
namespace Go.Proofs.Ytlgdijgfphedpaa
open Go.RowKit
section
variable {M M' M'' : Nat → Prop} {w : World} {an ao ac a b : Option Addr} {cn co cc c d : Nat} {x : Sj}

set_option maxRecDepth 100000 in
set_option maxHeartbeats 4000000 in
theorem argsR_any (hh : Hp M w an cn ao co ac cc x.h) (ho : Os M' w a c x.o) (hw : Sl M'' w b d x.w) (hl : Hid x.o.lens) :
    Calls Try.prog 37 #[hyV x.h an cn ao co ac cc, obV x.o a c, .slice b x.w.length d] w fun e w' => e = .returned (.int .i64 x.argErr) ∧ Below w.heap.size w w' := by
  have hB0 := ((Below.refl w.heap.size w).alloc (Nat.le_refl _) (hyO x.h an cn ao co ac cc)).alloc (by simp) (obO x.o a c)
  have hx0 : H5 ((w.alloc (hyO x.h an cn ao co ac cc)).alloc (obO x.o a c)) w.heap.size an cn ao co ac cc x.h := (h5_new w).below (B := w.heap.size + 1) ((Below.refl _ _).alloc (by simp) _) (by omega)
  have hy0 : O2 ((w.alloc (hyO x.h an cn ao co ac cc)).alloc (obO x.o a c)) (w.heap.size + 1) a c x.o := by
    have k := o2_new (o := x.o) (a := a) (c := c) (w.alloc (hyO x.h an cn ao co ac cc))
    simpa using k
  have hz0 : w.heap.size + 2 ≤ ((w.alloc (hyO x.h an cn ao co ac cc)).alloc (obO x.o a c)).heap.size := by simp
  have HH := Lib.hid hh
  have HO := Lib.hid ho
  have HW := Lib.hid hw
  have hwl := hw.le
  have HC := checked_any (o := x.o) (a := a) (c := c) (HH.out.below hB0)
  clear hh ho hw
  rcases Sj.argErr_cases (x := x) with ⟨h1, hF⟩ | ⟨ok, h1, h2, hF⟩ | ⟨ok, h1, h2, h3, hF⟩ | ⟨ok, h1, h2, h3, h4, hF⟩ | ⟨ok, h1, h2, h3, h4, h5, hF⟩ | ⟨ok, h1, h2, h3, h4, h5, hF⟩
  · rw [if_pos h1] at HC
    have hb : (x.h.err != 0) = true := by simp [h1]
    have HF := Lib.hid hF
    have HC := Lib.hid HC
    clear h1 hF
    go_enter Try.func37, Try.ntmps37
    go_wp2_with fail
    generalize (w.alloc (hyO x.h an cn ao co ac cc)).alloc (obO x.o a c) = w0 at *
    refine (HC.out).mono ?_
    rintro e w1 ⟨rfl, hb1⟩
    have hB1 := hB0.trans (hb1.mono (by omega))
    go_wp2
    go_ret
    exact ⟨ret_ij HF.out.symm, hB1⟩
  · rw [if_neg (by simp [h1]), if_pos h2] at HC
    have HF := Lib.hid hF
    have HC := Lib.hid HC
    clear h1 h2 hF
    go_enter Try.func37, Try.ntmps37
    go_wp2_with fail
    generalize (w.alloc (hyO x.h an cn ao co ac cc)).alloc (obO x.o a c) = w0 at *
    refine (HC.out).mono ?_
    rintro e w1 ⟨rfl, hb1⟩
    have hB1 := hB0.trans (hb1.mono (by omega))
    go_wp2
    go_ret
    exact ⟨ret_ij HF.out.symm, hB1⟩
  all_goals
    rw [if_neg (by simp [h1]), if_neg (by simp [h2])] at HC
    have HF := Lib.hid hF
    have HC := Lib.hid HC
    have OK := Lib.hid ok
    clear h1 h2 hF ok
    go_enter Try.func37, Try.ntmps37
    go_wp2_with fail
    generalize (w.alloc (hyO x.h an cn ao co ac cc)).alloc (obO x.o a c) = w0 at *
    refine (HC.out).mono ?_
    rintro e w1 ⟨rfl, hb1⟩
    have hB1 := hB0.trans (hb1.mono (by omega))
    have hx1 := hx0.below hb1 (by omega)
    have hy1 := hy0.below hb1 (by omega)
    have hz1 : w.heap.size + 2 ≤ w1.heap.size := by have := hb1.size; omega
    clear HC hb1 hB0 hx0 hy0 hz0
    have HC := Lib.hid (checkR1_any (HW.out.below hB1) x.h.m.inputs)
  · have hb : (wErr x.w x.h.m.inputs != 0) = true := by simp [h3]
    clear h3
    go_wp2_with fail
    refine (HC.out).mono ?_
    rintro e w2 ⟨rfl, hw2⟩
    obtain rfl : w1 = w2 := hw2.symm
    go_wp2
    go_ret
    exact ⟨ret_ij HF.out.symm, hB1⟩
  all_goals
    have hb : (wErr x.w x.h.m.inputs != 0) = false := by simp [h3]
    have hokw := Mach.okS_of h3
    have HKW := Lib.hid hokw
    clear h3 hokw
    go_wp2_with fail
    refine (HC.out).mono ?_
    rintro e w2 ⟨rfl, hw2⟩
    obtain rfl : w1 = w2 := hw2.symm
    have HC := ansR_any (HO.out.below hB1) (HW.out.below hB1) hl
    rw [h4] at HC
    have HC := Lib.hid HC
    clear h4
    go_wp2_with fail
    refine (HC.out).mono ?_
    rintro e w2 ⟨a2, c2, l2, rfl, hl2, hs2, hb2⟩
    have hB2 := hB1.trans (hb2.mono (by omega))
    have hx2 := hx1.below hb2 (by omega)
    have hz2 : w.heap.size + 2 ≤ w2.heap.size := by have := hb2.size; omega
    have HS2 := Lib.hid hs2
    clear HC hb2 hB1 hx1 hy1 hz1 hs2
  · go_wp2
    go_ret
    exact ⟨ret_ij HF.out.symm, hB2⟩
  all_goals
    have HC := Lib.hid (outsR_any (HH.out.below hB2).m (HW.out.below hB2) (Lib.hid OK.out.m) (Lib.hid ⟨OK.out.m.s0, OK.out.m.s1⟩) (Lib.hid HKW.out.1) (by have := HKW.out.2; omega))
    go_wp2_with fail
    refine (HC.out).mono ?_
    rintro e w3 ⟨a3, c3, l3, rfl, hl3, hs3, hb3⟩
    have hB3 := hB2.trans (hb3.mono (by omega))
    have HC := Lib.hid (ints_any ((HS2.out.below hb3).anti (M' := fun _ => False) fun _ _ h => h.elim) (hs3.anti (M' := fun _ => False) fun _ _ h => h.elim))
    have hs2 := HS2.out.le
    have hs3l := hs3.le
    clear hs3 hb3 hB2 hx2 hz2
  · have he : decide (l2 = l3) = true := by rw [hl2.out, hl3.out, h5]; simp
    rw [he] at HC
    clear h5 he
    go_wp2_with fail
    refine (HC.out).mono ?_
    rintro e w4 ⟨rfl, n4, rfl⟩
    have hB4 := bl_drewN hB3 n4
    go_wp2
    go_ret
    exact ⟨ret_ij HF.out.symm, hB4⟩
  · have he : decide (l2 = l3) = false := by rw [hl2.out, hl3.out]; simpa using h5
    rw [he] at HC
    clear h5 he
    go_wp2_with fail
    refine (HC.out).mono ?_
    rintro e w4 ⟨rfl, n4, rfl⟩
    have hB4 := bl_drewN hB3 n4
    go_wp2
    go_ret
    exact ⟨ret_ij HF.out.symm, hB4⟩

theorem mid_div (lo hi : Nat) : ((lo : Int) + (hi : Int)).tdiv 2 = ((Sj.mid lo hi : Nat) : Int) := by
  unfold Sj.mid
  rw [Int.tdiv_eq_ediv_of_nonneg (by omega)]
  omega

set_option maxRecDepth 100000 in
set_option maxHeartbeats 4000000 in
/-- The reference's Find. -/
theorem findR_any (hh : Hp M w an cn ao co ac cc x.h) (ho : Os M' w a c x.o) (hw : Sl M'' w b d x.w) (hl : Hid x.o.lens) :
    Calls Try.prog 12 #[hyV x.h an cn ao co ac cc, obV x.o a c, .slice b x.w.length d] w fun e w' => FiR w w' (x.res Sj.mid) e ∧ Below w.heap.size w w' := by
  have hB0 := (((Below.refl w.heap.size w).alloc (Nat.le_refl _) (hyO x.h an cn ao co ac cc)).alloc (by simp) (obO x.o a c)).alloc (by simp; omega) zeS
  have hb3 := ((Below.refl (w.heap.size + 1) (w.alloc (hyO x.h an cn ao co ac cc))).alloc (by simp) (obO x.o a c)).alloc (by simp) zeS
  have hx0 : H5 (((w.alloc (hyO x.h an cn ao co ac cc)).alloc (obO x.o a c)).alloc zeS) w.heap.size an cn ao co ac cc x.h := (h5_new w).below hb3 (by omega)
  have hy0 : O2 (((w.alloc (hyO x.h an cn ao co ac cc)).alloc (obO x.o a c)).alloc zeS) (w.heap.size + 1) a c x.o := by
    have k := o2_new (o := x.o) (a := a) (c := c) (w.alloc (hyO x.h an cn ao co ac cc))
    have k2 : O2 ((w.alloc (hyO x.h an cn ao co ac cc)).alloc (obO x.o a c)) (w.heap.size + 1) a c x.o := by simpa using k
    exact k2.below (B := w.heap.size + 2) ((Below.refl _ _).alloc (by simp) _) (by omega)
  have hz0 : w.heap.size + 3 ≤ (((w.alloc (hyO x.h an cn ao co ac cc)).alloc (obO x.o a c)).alloc zeS).heap.size := by simp
  have hr0 : (((w.alloc (hyO x.h an cn ao co ac cc)).alloc (obO x.o a c)).alloc zeS).heap[w.heap.size + 1 + 1]? = some zeS := by
    have k := heap_alloc_new ((w.alloc (hyO x.h an cn ao co ac cc)).alloc (obO x.o a c)) zeS
    simpa using k
  have HR := Lib.hid hr0
  have HH := Lib.hid hh
  have HO := Lib.hid ho
  have HW := Lib.hid hw
  have hwl := hw.le
  have HC := Lib.hid (argsR_any (HH.out.below hB0) (HO.out.below hB0) (HW.out.below hB0) hl)
  clear hh ho hw hr0 hb3
  by_cases hea : x.argErr = 0
  · have heb : (x.argErr != 0) = false := by simp [hea]
    have ok := Sj.ok_of hea
    have hres : Hid (x.res Sj.mid = x.srch Sj.mid x.w.length 0 x.w.length) := by unfold Hid Sj.res; rw [if_neg (by simp [hea])]
    have hpos := ok.pos
    have hlen := ok.len
    have OK := Lib.hid ok
    clear hea ok
    go_enter Try.func12, Try.ntmps12
    go_wp2_with fail
    generalize ((w.alloc (hyO x.h an cn ao co ac cc)).alloc (obO x.o a c)).alloc zeS = w0 at *
    refine (HC.out).mono ?_
    rintro e w1 ⟨rfl, hb1⟩
    have hB1 := hB0.trans (hb1.mono (by omega))
    have hx1 := hx0.below hb1 (by omega)
    have hy1 := hy0.below hb1 (by omega)
    have hz1 : w.heap.size + 3 ≤ w1.heap.size := by have := hb1.size; omega
    have HR : Hid (w1.heap[w.heap.size + 1 + 1]? = some zeS) := (hb1.block _ (by omega)).trans HR.out
    have hk0 := Lib.hid OK.out.kn0
    clear HC hb1 hB0 hx0 hy0 hz0
    go_wp2
    go_loopw [10, 11] (fun p q wr => ∃ (lo hi n : Nat), lo < hi ∧ hi ≤ x.w.length ∧ p = .int .i64 lo ∧ q = .int .i64 hi ∧ hi - lo ≤ n ∧ Hid (x.res Sj.mid = x.srch Sj.mid n lo hi) ∧ Hid (x.o.known (x.q lo) = true) ∧
      H5 wr w.heap.size an cn ao co ac cc x.h ∧ O2 wr (w.heap.size + 1) a c x.o ∧ Hid (wr.heap[w.heap.size + 1 + 1]? = some zeS) ∧ Below w.heap.size w wr ∧ w.heap.size + 3 ≤ wr.heap.size) (fun p q _ => (intOf q).toNat - (intOf p).toNat)
    case atStart => exact ⟨0, x.w.length, x.w.length, by omega, by omega, rfl, rfl, by omega, hres, hk0, hx1, hy1, HR, hB1, hz1⟩
    case round =>
      clear hx1 hy1 HR hB1 hz1 hk0 hres
      obtain ⟨lo, hi, n, hlh, hhl, rfl, rfl, hn, hres, hk, hx, hy, HR, hB, hz⟩ := hrel
      obtain ⟨w2, rfl⟩ : ∃ w2 : World, w2 = wr := ⟨_, rfl⟩
      by_cases hgap : 1 < hi - lo
      · obtain ⟨n, rfl⟩ : ∃ n', n = n' + 1 := ⟨n - 1, by omega⟩
        obtain ⟨m, hm⟩ : ∃ m, m = Sj.mid lo hi := ⟨_, rfl⟩
        have hml : lo < m := by rw [hm]; unfold Sj.mid; omega
        have hmh : m < hi := by rw [hm]; unfold Sj.mid; omega
        have hdiv : ((lo : Int) + (hi : Int)).tdiv 2 = ((m : Nat) : Int) := by rw [hm]; exact mid_div lo hi
        have hgb : decide (1 < (hi : Int) - (lo : Int)) = true := by simp; omega
        have hgc : 1 < (hi : Int) - (lo : Int) := by omega
        have HM := Lib.hid hm
        have HG := Lib.hid hgap
        have hne : m ≠ x.w.length := by omega
        have HC := Lib.hid (examine_any (HH.out.below hB) (HO.out.below hB) (HW.out.below hB) OK hl m (by omega))
        clear hm hgap
        by_cases hlong : 1024 < (x.q m).length
        · have HE := Sj.ex_long hne hlong
          have HF := Lib.hid (hres.out.trans (Sj.srch_long HM.out HG.out hlong))
          have heb : (x.exE m != 0) = true := by rw [HE.2.2]; rfl
          have HE := Lib.hid HE
          clear hlong
          go_wp2_with fail
          refine (HC.out).mono ?_
          rintro e w3 ⟨a3, c3, l3, rfl, hl3, hs3, hb3⟩
          have hB3 := hB.trans (hb3.mono (by omega))
          have hR3 := (hb3.block (w.heap.size + 1 + 1) (by omega)).trans HR.out
          have hz3 : w.heap.size + 3 ≤ w3.heap.size := by have := hb3.size; omega
          obtain ⟨⟨k0, k1, k2⟩, kf⟩ := cells3 hR3
          have HR4 := Lib.hid (set3 (y0 := .slice none 0 0) (y1 := .int .i64 0) (y2 := .slice none 0 0) hR3)
          have HB4 := Lib.hid (bel_st3 hB3 (g := w.heap.size + 1 + 1) (y0 := .slice none 0 0) (y1 := .int .i64 0) (y2 := .slice none 0 0) (by omega))
          have HS4 := Lib.hid (hs3.st3 (g := w.heap.size + 1 + 1) (n := w.heap.size) (y0 := .slice none 0 0) (y1 := .int .i64 0) (y2 := .slice none 0 0) (by omega) (by omega))
          clear hs3 hb3 hB3 hR3 HC
          go_wp2
          obtain ⟨⟨q0, q1, q2⟩, -⟩ := cells3 HR4.out
          refine bodyPost_ret (v := .tuple #[.agg #[.slice none 0 0, .int .i64 0, .slice none 0 0], .slice a3 l3.length c3, .int .i64 3]) (by simp [results, Try.results12, go_sem, q0, q1, q2]) rfl ⟨⟨none, 0, [], none, 0, [], 0, a3, c3, l3, 3, rfl, ?_, snil _ _ _, snil _ _ _, HS4.out⟩, HB4.out⟩
          unfold Hid; rw [HF.out, hl3.out, HE.out.2.1]; rfl
        · cases hkn : x.o.known (x.q m) with
          | false =>
            have HE := Sj.ex_ask hne hlong hkn
            have HF := Lib.hid (hres.out.trans (Sj.srch_ask HM.out HG.out hlong hkn))
            have heb : (x.exE m != 0) = false := by rw [HE.2.2]; rfl
            have HE := Lib.hid HE
            have hql := Lib.hid (x.q_len m)
            clear hlong hkn
            go_wp2_with fail
            refine (HC.out).mono ?_
            rintro e w3 ⟨a3, c3, l3, rfl, hl3, hs3, hb3⟩
            have hB3 := hB.trans (hb3.mono (by omega))
            have hR3 := (hb3.block (w.heap.size + 1 + 1) (by omega)).trans HR.out
            have hz3 : w.heap.size + 3 ≤ w3.heap.size := by have := hb3.size; omega
            have hl3p : 0 < l3.length := by rw [hl3.out, HE.out.2.1, hql.out]; omega
            have hl3b : decide (0 < ((l3.length : Nat) : Int)) = true := by simp; omega
            obtain ⟨⟨k0, k1, k2⟩, kf⟩ := cells3 hR3
            have HR4 := Lib.hid (set3 (y0 := .slice none 0 0) (y1 := .int .i64 0) (y2 := .slice none 0 0) hR3)
            have HB4 := Lib.hid (bel_st3 hB3 (g := w.heap.size + 1 + 1) (y0 := .slice none 0 0) (y1 := .int .i64 0) (y2 := .slice none 0 0) (by omega))
            have HS4 := Lib.hid (hs3.st3 (g := w.heap.size + 1 + 1) (n := w.heap.size) (y0 := .slice none 0 0) (y1 := .int .i64 0) (y2 := .slice none 0 0) (by omega) (by omega))
            clear hs3 hb3 hB3 hR3 HC
            go_wp2
            obtain ⟨⟨q0, q1, q2⟩, -⟩ := cells3 HR4.out
            refine bodyPost_ret (v := .tuple #[.agg #[.slice none 0 0, .int .i64 0, .slice none 0 0], .slice a3 l3.length c3, .int .i64 0]) (by simp [results, Try.results12, go_sem, q0, q1, q2]) rfl ⟨⟨none, 0, [], none, 0, [], 0, a3, c3, l3, 0, rfl, ?_, snil _ _ _, snil _ _ _, HS4.out⟩, HB4.out⟩
            unfold Hid; rw [HF.out, hl3.out, HE.out.2.1]; rfl
          | true =>
            have HE := Sj.ex_kn hne hlong hkn
            have heb : (x.exE m != 0) = false := by rw [HE.2.2]; rfl
            have HL := Lib.hid hlong
            have HK := Lib.hid hkn
            clear hlong hkn
            cases hbad : x.bad m with
            | true =>
              have hxb : x.exB m = true := by rw [HE.1, hbad]
              have hF := Lib.hid (hres.out.trans (Sj.srch_bad HM.out HG.out HL.out HK.out hbad))
              have HE := Lib.hid HE
              rw [hxb] at HC
              clear hbad hxb hres
              go_wp2_with fail
              refine (HC.out).mono ?_
              rintro e w3 ⟨a3, c3, l3, rfl, hl3, -, hb3⟩
              have hB3 := hB.trans (hb3.mono (by omega))
              have HR3 := Lib.hid ((hb3.block (w.heap.size + 1 + 1) (by omega)).trans HR.out)
              have hz3 : w.heap.size + 3 ≤ w3.heap.size := by have := hb3.size; omega
              have hx3 := hx.below hb3 (by omega)
              have hy3 := hy.below hb3 (by omega)
              obtain rfl : l3 = [] := by rw [hl3.out, HE.out.2.1]
              clear HC hb3 hB HR hx hy hz
              go_wp2
              go_roundw
              case rel => exact ⟨m, hi, n, by omega, by omega, by go_num, rfl, by omega, hF, HK, hx3, hy3, HR3, hB3, hz3⟩
              case measure => simp [intOf]; omega
            | false =>
              have hxb : x.exB m = false := by rw [HE.1, hbad]
              have hF := Lib.hid (hres.out.trans (Sj.srch_good HM.out HG.out HL.out HK.out hbad))
              have HE := Lib.hid HE
              rw [hxb] at HC
              clear hbad hxb hres
              go_wp2_with fail
              refine (HC.out).mono ?_
              rintro e w3 ⟨a3, c3, l3, rfl, hl3, -, hb3⟩
              have hB3 := hB.trans (hb3.mono (by omega))
              have HR3 := Lib.hid ((hb3.block (w.heap.size + 1 + 1) (by omega)).trans HR.out)
              have hz3 : w.heap.size + 3 ≤ w3.heap.size := by have := hb3.size; omega
              have hx3 := hx.below hb3 (by omega)
              have hy3 := hy.below hb3 (by omega)
              obtain rfl : l3 = [] := by rw [hl3.out, HE.out.2.1]
              clear HC hb3 hB HR hx hy hz
              go_wp2
              go_roundw
              case rel => exact ⟨lo, m, n, by omega, by omega, rfl, by go_num, by omega, hF, hk, hx3, hy3, HR3, hB3, hz3⟩
              case measure => simp [intOf]; omega
      · have HF := Lib.hid (hres.out.trans (Sj.srch_end (by omega)))
        have hgc : (hi : Int) - (lo : Int) ≤ 1 := by omega
        have HC := Lib.hid (splitR_any (HH.out.below hB) (HO.out.below hB) (HW.out.below hB) OK hl lo (by omega) hk)
        go_wp2_with fail
        refine (HC.out).mono ?_
        rintro e w3 ⟨⟨a1, c1, l1, a2, c2, l2, sy, rfl, hs3, hp1, hp2⟩, hb3⟩
        have hB3 := hB.trans (hb3.mono (by omega))
        have hR3 := (hb3.block (w.heap.size + 1 + 1) (by omega)).trans HR.out
        have hz3 : w.heap.size + 3 ≤ w3.heap.size := by have := hb3.size; omega
        have hA := (Below.refl w3.heap.size w3).alloc (Nat.le_refl _) (.cells #[.slice a1 l1.length c1, .int .i64 sy, .slice a2 l2.length c2] 35)
        have hB5 := hB3.alloc (by omega) (.cells #[.slice a1 l1.length c1, .int .i64 sy, .slice a2 l2.length c2] 35)
        have hR5 := (hA.block (w.heap.size + 1 + 1) (by omega)).trans hR3
        have hN5 := heap_alloc_new w3 (.cells #[.slice a1 l1.length c1, .int .i64 sy, .slice a2 l2.length c2] 35)
        have HP1 := Lib.hid ((hp1.below hA).st3 (g := w.heap.size + 1 + 1) (n := w.heap.size) (y0 := .slice a1 l1.length c1) (y1 := .int .i64 sy) (y2 := .slice a2 l2.length c2) (by omega) (by omega))
        have HP2 := Lib.hid ((hp2.below hA).st3 (g := w.heap.size + 1 + 1) (n := w.heap.size) (y0 := .slice a1 l1.length c1) (y1 := .int .i64 sy) (y2 := .slice a2 l2.length c2) (by omega) (by omega))
        obtain ⟨⟨m0, m1, m2⟩, mf⟩ := cells3 hN5
        obtain ⟨⟨n0, n1, n2⟩, nf⟩ := cells3 hR5
        have HR6 := Lib.hid (set3 (y0 := .slice a1 l1.length c1) (y1 := .int .i64 sy) (y2 := .slice a2 l2.length c2) hR5)
        have HB6 := Lib.hid (bel_st3 hB5 (g := w.heap.size + 1 + 1) (y0 := .slice a1 l1.length c1) (y1 := .int .i64 sy) (y2 := .slice a2 l2.length c2) (by omega))
        have HF2 : Hid (x.res Sj.mid = (⟨l1, sy, l2⟩, [], x.splE lo)) := by unfold Hid; rw [HF.out, ← hs3.out]; rfl
        clear hs3 hb3 hB3 hR3 HC hA hB5 hR5 hN5 hp1 hp2 hx hy hB HR hres HF
        go_upto_region 14 with (fail)
        generalize w3.alloc (.cells #[.slice a1 l1.length c1, .int .i64 sy, .slice a2 l2.length c2] 35) = w5 at *
        go_wp2
        obtain ⟨⟨q0, q1, q2⟩, -⟩ := cells3 HR6.out
        refine bodyPost_ret (v := .tuple #[.agg #[.slice a1 l1.length c1, .int .i64 sy, .slice a2 l2.length c2], .slice none 0 0, .int .i64 (x.splE lo)]) (by simp [results, Try.results12, go_sem, q0, q1, q2]) rfl ⟨⟨a1, c1, l1, a2, c2, l2, sy, none, 0, [], x.splE lo, rfl, HF2.out, HP1.out, HP2.out, snil _ _ _⟩, HB6.out⟩
  · have heb : (x.argErr != 0) = true := by simp [hea]
    have HF : Hid (x.res Sj.mid = (Sj.noS, [], x.argErr)) := by unfold Hid Sj.res; rw [if_pos hea]
    clear hea
    go_enter Try.func12, Try.ntmps12
    go_wp2_with fail
    generalize ((w.alloc (hyO x.h an cn ao co ac cc)).alloc (obO x.o a c)).alloc zeS = w0 at *
    refine (HC.out).mono ?_
    rintro e w1 ⟨rfl, hb1⟩
    have hB1 := hB0.trans (hb1.mono (by omega))
    have hR1 := (hb1.block (w.heap.size + 1 + 1) (by omega)).trans HR.out
    obtain ⟨⟨k0, k1, k2⟩, kf⟩ := cells3 hR1
    have HR4 := Lib.hid (set3 (y0 := .slice none 0 0) (y1 := .int .i64 0) (y2 := .slice none 0 0) hR1)
    have HB4 := Lib.hid (bel_st3 hB1 (g := w.heap.size + 1 + 1) (y0 := .slice none 0 0) (y1 := .int .i64 0) (y2 := .slice none 0 0) (by omega))
    clear hb1 hB1 hR1 HC hB0 hx0 hy0 hz0
    go_wp2
    obtain ⟨⟨q0, q1, q2⟩, -⟩ := cells3 HR4.out
    refine bodyPost_ret (v := .tuple #[.agg #[.slice none 0 0, .int .i64 0, .slice none 0 0], .slice none 0 0, .int .i64 x.argErr]) (by simp [results, Try.results12, go_sem, q0, q1, q2]) rfl ⟨⟨none, 0, [], none, 0, [], 0, none, 0, [], x.argErr, rfl, HF.out, snil _ _ _, snil _ _ _, snil _ _ _⟩, HB4.out⟩
end
end Go.Proofs.Ytlgdijgfphedpaa
