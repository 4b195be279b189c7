/- The reference's Linear. Condition: the answers are as long as their words. -/
import Derived.Test.YtlgdijgfphedpaaAnaT
import Derived.IntWalk
namespace Go.Proofs.Ytlgdijgfphedpaa
open Go.RowKit
section
variable {M M' M'' : Nat → Prop} {w : World} {an ao ac a b : Option Addr} {cn co cc c d : Nat} {x : Sj}
set_option maxRecDepth 100000 in
set_option maxHeartbeats 4000000 in
/-- The reference's Linear. -/
theorem linR_any (hh : Hp M w an cn ao co ac cc x.h) (ho : Os M' w a c x.o) (hw : Sl M'' w b d x.w) (hl : Hid x.o.lens) :
    Calls Try.prog 28 #[hyV x.h an cn ao co ac cc, obV x.o a c, .slice b x.w.length d] w fun e w' => FiR w w' (x.res Sj.nxt) e ∧ Below w.heap.size w w' := by
  have hB0 := (((Below.refl w.heap.size w).alloc (Nat.le_refl _) (hyO x.h an cn ao co ac cc)).alloc (by simp) (obO x.o a c)).alloc (by simp; omega) zeS
  have hb3 := ((Below.refl (w.heap.size + 1) (w.alloc (hyO x.h an cn ao co ac cc))).alloc (by simp) (obO x.o a c)).alloc (by simp) zeS
  have hx0 : H5 (((w.alloc (hyO x.h an cn ao co ac cc)).alloc (obO x.o a c)).alloc zeS) w.heap.size an cn ao co ac cc x.h := (h5_new w).below hb3 (by omega)
  have hy0 : O2 (((w.alloc (hyO x.h an cn ao co ac cc)).alloc (obO x.o a c)).alloc zeS) (w.heap.size + 1) a c x.o := by
    have k := o2_new (o := x.o) (a := a) (c := c) (w.alloc (hyO x.h an cn ao co ac cc))
    have k2 : O2 ((w.alloc (hyO x.h an cn ao co ac cc)).alloc (obO x.o a c)) (w.heap.size + 1) a c x.o := by simpa using k
    exact k2.below (B := w.heap.size + 2) ((Below.refl _ _).alloc (by simp) _) (by omega)
  have hz0 : w.heap.size + 3 ≤ (((w.alloc (hyO x.h an cn ao co ac cc)).alloc (obO x.o a c)).alloc zeS).heap.size := by simp
  have hr0 : (((w.alloc (hyO x.h an cn ao co ac cc)).alloc (obO x.o a c)).alloc zeS).heap[w.heap.size + 1 + 1]? = some zeS := by
    have k := heap_alloc_new ((w.alloc (hyO x.h an cn ao co ac cc)).alloc (obO x.o a c)) zeS
    simpa using k
  have HR := Lib.hid hr0
  have HH := Lib.hid hh
  have HO := Lib.hid ho
  have HW := Lib.hid hw
  have hwl := hw.le
  have HC := Lib.hid (argsR_any (HH.out.below hB0) (HO.out.below hB0) (HW.out.below hB0) hl)
  clear hh ho hw hr0 hb3
  by_cases hea : x.argErr = 0
  · have heb : (x.argErr != 0) = false := by simp [hea]
    have ok := Sj.ok_of hea
    have hres : Hid (x.res Sj.nxt = x.srch Sj.nxt x.w.length 0 x.w.length) := by unfold Hid Sj.res; rw [if_neg (by simp [hea])]
    have hpos := ok.pos
    have hlen := ok.len
    have OK := Lib.hid ok
    clear hea ok
    go_enter Try.func28, Try.ntmps28
    go_wp2_with fail
    generalize ((w.alloc (hyO x.h an cn ao co ac cc)).alloc (obO x.o a c)).alloc zeS = w0 at *
    refine (HC.out).mono ?_
    rintro e w1 ⟨rfl, hb1⟩
    have hB1 := hB0.trans (hb1.mono (by omega))
    have hx1 := hx0.below hb1 (by omega)
    have hy1 := hy0.below hb1 (by omega)
    have hz1 : w.heap.size + 3 ≤ w1.heap.size := by have := hb1.size; omega
    have HR : Hid (w1.heap[w.heap.size + 1 + 1]? = some zeS) := (hb1.block _ (by omega)).trans HR.out
    have hk0 := Lib.hid OK.out.kn0
    clear HC hb1 hB0 hx0 hy0 hz0
    go_wp2
    go_loopw [10] (fun p wr => ∃ (lo n : Nat), lo < x.w.length ∧ p = .int .i64 lo ∧ x.w.length - lo ≤ n ∧ Hid (x.res Sj.nxt = x.srch Sj.nxt n lo x.w.length) ∧ Hid (x.o.known (x.q lo) = true) ∧
      H5 wr w.heap.size an cn ao co ac cc x.h ∧ O2 wr (w.heap.size + 1) a c x.o ∧ Hid (wr.heap[w.heap.size + 1 + 1]? = some zeS) ∧ Below w.heap.size w wr ∧ w.heap.size + 3 ≤ wr.heap.size) (fun p _ => x.w.length - (intOf p).toNat)
    case atStart => exact ⟨0, x.w.length, by omega, rfl, by omega, hres, hk0, hx1, hy1, HR, hB1, hz1⟩
    case round =>
      clear hx1 hy1 HR hB1 hz1 hk0 hres
      obtain ⟨lo, n, hlh, rfl, hn, hres, hk, hx, hy, HR, hB, hz⟩ := hrel
      obtain ⟨w2, rfl⟩ : ∃ w2 : World, w2 = wr := ⟨_, rfl⟩
      obtain ⟨n, rfl⟩ : ∃ n', n = n' + 1 := ⟨n - 1, by omega⟩
      obtain ⟨m, hm⟩ : ∃ m, m = lo + 1 := ⟨_, rfl⟩
      have hwr : IntKind.i64.wrap ((lo : Int) + 1) = ((m : Nat) : Int) := by rw [hm]; exact IntWalk.i64_in _ (by omega)
      have hm0 := Lib.hid hm
      have HC := Lib.hid (examine_any (HH.out.below hB) (HO.out.below hB) (HW.out.below hB) OK hl m (by omega))
      have hca : (Hid (x.exB m = false ∧ x.exL m = [] ∧ x.exE m = 0) ∧ Hid (x.res Sj.nxt = x.spl lo)) ∨ (Hid (x.exB m = true ∧ x.exL m = [] ∧ x.exE m = 0) ∧ Hid (x.res Sj.nxt = x.srch Sj.nxt n m x.w.length) ∧ Hid (x.o.known (x.q m) = true) ∧ m < x.w.length) ∨
          (Hid (x.exB m = false ∧ x.exL m = x.q m ∧ x.exE m = 0) ∧ Hid (x.res Sj.nxt = (Sj.noS, x.q m, 0)) ∧ m < x.w.length) ∨ (Hid (x.exB m = false ∧ x.exL m = [] ∧ x.exE m = 3) ∧ Hid (x.res Sj.nxt = (Sj.noS, [], 3))) := by
        by_cases he : m = x.w.length
        · exact .inl ⟨Sj.ex_end he, hres.out.trans (Sj.srch_end (by omega))⟩
        · have hg : 1 < x.w.length - lo := by omega
          have hmn : m = Sj.nxt lo x.w.length := hm
          by_cases hlong : 1024 < (x.q m).length
          · exact .inr (.inr (.inr ⟨Sj.ex_long he hlong, hres.out.trans (Sj.srch_long hmn hg hlong)⟩))
          · cases hkn : x.o.known (x.q m) with
            | false => exact .inr (.inr (.inl ⟨Sj.ex_ask he hlong hkn, hres.out.trans (Sj.srch_ask hmn hg hlong hkn), by omega⟩))
            | true =>
              have hE := Sj.ex_kn he hlong hkn
              cases hbad : x.bad m with
              | true => exact .inr (.inl ⟨⟨hE.1.trans hbad, hE.2⟩, hres.out.trans (Sj.srch_bad hmn hg hlong hkn hbad), rfl, by omega⟩)
              | false => exact .inl ⟨⟨hE.1.trans hbad, hE.2⟩, (hres.out.trans (Sj.srch_good hmn hg hlong hkn hbad)).trans (Sj.srch_end (by omega))⟩
      have hql := Lib.hid (x.q_len m)
      clear hres hm
      rcases hca with ⟨HE, HF⟩ | ⟨HE, HF, HK, hml⟩ | ⟨HE, HF, hml⟩ | ⟨HE, HF⟩
      · have HC2 := HC.out
        rw [HE.out.1, HE.out.2.2] at HC2
        have HC := Lib.hid HC2
        clear HC2
        go_wp2_with fail
        refine (HC.out).mono ?_
        rintro e w4 ⟨a4, c4, l4, rfl, hl4, -, hb4⟩
        obtain rfl : l4 = [] := by rw [hl4.out, HE.out.2.1]
        have hB4 := hB.trans (hb4.mono (by omega))
        have HR := Lib.hid ((hb4.block (w.heap.size + 1 + 1) (by omega)).trans HR.out)
        have hz := show w.heap.size + 3 ≤ w4.heap.size by have := hb4.size; omega
        have hx := hx.below hb4 (by omega)
        have hy := hy.below hb4 (by omega)
        have HC := Lib.hid (splitR_any (HH.out.below hB4) (HO.out.below hB4) (HW.out.below hB4) OK hl lo (by omega) hk)
        have hB := hB4
        clear hb4 hB4 hl4
        go_wp2_with fail
        refine (HC.out).mono ?_
        rintro e w3 ⟨⟨a1, c1, l1, a2, c2, l2, sy, rfl, hs3, hp1, hp2⟩, hb3⟩
        have hB3 := hB.trans (hb3.mono (by omega))
        have hR3 := (hb3.block (w.heap.size + 1 + 1) (by omega)).trans HR.out
        have hz3 : w.heap.size + 3 ≤ w3.heap.size := by have := hb3.size; omega
        have hA := (Below.refl w3.heap.size w3).alloc (Nat.le_refl _) (.cells #[.slice a1 l1.length c1, .int .i64 sy, .slice a2 l2.length c2] 35)
        have hB5 := hB3.alloc (by omega) (.cells #[.slice a1 l1.length c1, .int .i64 sy, .slice a2 l2.length c2] 35)
        have hR5 := (hA.block (w.heap.size + 1 + 1) (by omega)).trans hR3
        have hN5 := heap_alloc_new w3 (.cells #[.slice a1 l1.length c1, .int .i64 sy, .slice a2 l2.length c2] 35)
        have HP1 := Lib.hid ((hp1.below hA).st3 (g := w.heap.size + 1 + 1) (n := w.heap.size) (y0 := .slice a1 l1.length c1) (y1 := .int .i64 sy) (y2 := .slice a2 l2.length c2) (by omega) (by omega))
        have HP2 := Lib.hid ((hp2.below hA).st3 (g := w.heap.size + 1 + 1) (n := w.heap.size) (y0 := .slice a1 l1.length c1) (y1 := .int .i64 sy) (y2 := .slice a2 l2.length c2) (by omega) (by omega))
        obtain ⟨⟨m0, m1, m2⟩, mf⟩ := cells3 hN5
        obtain ⟨⟨n0, n1, n2⟩, nf⟩ := cells3 hR5
        have HR6 := Lib.hid (set3 (y0 := .slice a1 l1.length c1) (y1 := .int .i64 sy) (y2 := .slice a2 l2.length c2) hR5)
        have HB6 := Lib.hid (bel_st3 hB5 (g := w.heap.size + 1 + 1) (y0 := .slice a1 l1.length c1) (y1 := .int .i64 sy) (y2 := .slice a2 l2.length c2) (by omega))
        have HF2 : Hid (x.res Sj.nxt = (⟨l1, sy, l2⟩, [], x.splE lo)) := by unfold Hid; rw [HF.out, ← hs3.out]; rfl
        clear hs3 hb3 hB3 hR3 HC hA hB5 hR5 hN5 hp1 hp2 hx hy hB HR HF
        go_upto_region 10 with (fail)
        generalize w3.alloc (.cells #[.slice a1 l1.length c1, .int .i64 sy, .slice a2 l2.length c2] 35) = w5 at *
        go_wp2
        obtain ⟨⟨q0, q1, q2⟩, -⟩ := cells3 HR6.out
        refine bodyPost_ret (v := .tuple #[.agg #[.slice a1 l1.length c1, .int .i64 sy, .slice a2 l2.length c2], .slice none 0 0, .int .i64 (x.splE lo)]) (by simp [results, Try.results28, go_sem, q0, q1, q2]) rfl ⟨⟨a1, c1, l1, a2, c2, l2, sy, none, 0, [], x.splE lo, rfl, HF2.out, HP1.out, HP2.out, snil _ _ _⟩, HB6.out⟩
      · have HC2 := HC.out
        rw [HE.out.1, HE.out.2.2] at HC2
        have HC := Lib.hid HC2
        clear HC2
        go_wp2_with fail
        refine (HC.out).mono ?_
        rintro e w4 ⟨a4, c4, l4, rfl, hl4, -, hb4⟩
        obtain rfl : l4 = [] := by rw [hl4.out, HE.out.2.1]
        have hB4 := hB.trans (hb4.mono (by omega))
        have HR4 := Lib.hid ((hb4.block (w.heap.size + 1 + 1) (by omega)).trans HR.out)
        have hz4 : w.heap.size + 3 ≤ w4.heap.size := by have := hb4.size; omega
        have hx4 := hx.below hb4 (by omega)
        have hy4 := hy.below hb4 (by omega)
        clear hb4 hl4 HC hx hy hz hB HR
        go_wp2
        go_roundw
        case rel => exact ⟨m, n, by omega, by go_num, by have := hm0.out; omega, HF, HK, hx4, hy4, HR4, hB4, hz4⟩
        case measure => have := hm0.out; simp [intOf]; omega
      · have HC2 := HC.out
        rw [HE.out.2.2] at HC2
        have HC := Lib.hid HC2
        clear HC2
        go_wp2_with fail
        refine (HC.out).mono ?_
        rintro e w3 ⟨a3, c3, l3, rfl, hl3, hs3, hb3⟩
        have hB3 := hB.trans (hb3.mono (by omega))
        have hR3 := (hb3.block (w.heap.size + 1 + 1) (by omega)).trans HR.out
        have hz3 : w.heap.size + 3 ≤ w3.heap.size := by have := hb3.size; omega
        have hl3e : Hid (l3 = x.exL m) := hl3
        have hl3p : 0 < l3.length := by rw [hl3.out, HE.out.2.1, hql.out]; omega
        have hl3b : decide (0 < ((l3.length : Nat) : Int)) = true := by simp; omega
        obtain ⟨⟨k0, k1, k2⟩, kf⟩ := cells3 hR3
        have HR4 := Lib.hid (set3 (y0 := .slice none 0 0) (y1 := .int .i64 0) (y2 := .slice none 0 0) hR3)
        have HB4 := Lib.hid (bel_st3 hB3 (g := w.heap.size + 1 + 1) (y0 := .slice none 0 0) (y1 := .int .i64 0) (y2 := .slice none 0 0) (by omega))
        have HS4 := Lib.hid (hs3.st3 (g := w.heap.size + 1 + 1) (n := w.heap.size) (y0 := .slice none 0 0) (y1 := .int .i64 0) (y2 := .slice none 0 0) (by omega) (by omega))
        clear hs3 hb3 hB3 hR3 HC hl3
        go_wp2
        obtain ⟨⟨q0, q1, q2⟩, -⟩ := cells3 HR4.out
        refine bodyPost_ret (v := .tuple #[.agg #[.slice none 0 0, .int .i64 0, .slice none 0 0], .slice a3 l3.length c3, .int .i64 0]) (by simp [results, Try.results28, go_sem, q0, q1, q2]) rfl ⟨⟨none, 0, [], none, 0, [], 0, a3, c3, l3, 0, rfl, ?_, snil _ _ _, snil _ _ _, HS4.out⟩, HB4.out⟩
        unfold Hid; rw [HF.out, hl3e.out, HE.out.2.1]; rfl
      · have HC2 := HC.out
        rw [HE.out.2.2] at HC2
        have HC := Lib.hid HC2
        clear HC2
        go_wp2_with fail
        refine (HC.out).mono ?_
        rintro e w3 ⟨a3, c3, l3, rfl, hl3, hs3, hb3⟩
        have hB3 := hB.trans (hb3.mono (by omega))
        have hR3 := (hb3.block (w.heap.size + 1 + 1) (by omega)).trans HR.out
        have hz3 : w.heap.size + 3 ≤ w3.heap.size := by have := hb3.size; omega
        have hl3e : Hid (l3 = x.exL m) := hl3
        obtain ⟨⟨k0, k1, k2⟩, kf⟩ := cells3 hR3
        have HR4 := Lib.hid (set3 (y0 := .slice none 0 0) (y1 := .int .i64 0) (y2 := .slice none 0 0) hR3)
        have HB4 := Lib.hid (bel_st3 hB3 (g := w.heap.size + 1 + 1) (y0 := .slice none 0 0) (y1 := .int .i64 0) (y2 := .slice none 0 0) (by omega))
        have HS4 := Lib.hid (hs3.st3 (g := w.heap.size + 1 + 1) (n := w.heap.size) (y0 := .slice none 0 0) (y1 := .int .i64 0) (y2 := .slice none 0 0) (by omega) (by omega))
        clear hs3 hb3 hB3 hR3 HC hl3
        go_wp2
        obtain ⟨⟨q0, q1, q2⟩, -⟩ := cells3 HR4.out
        refine bodyPost_ret (v := .tuple #[.agg #[.slice none 0 0, .int .i64 0, .slice none 0 0], .slice a3 l3.length c3, .int .i64 3]) (by simp [results, Try.results28, go_sem, q0, q1, q2]) rfl ⟨⟨none, 0, [], none, 0, [], 0, a3, c3, l3, 3, rfl, ?_, snil _ _ _, snil _ _ _, HS4.out⟩, HB4.out⟩
        unfold Hid; rw [HF.out, hl3e.out, HE.out.2.1]; rfl
  · have heb : (x.argErr != 0) = true := by simp [hea]
    have HF : Hid (x.res Sj.nxt = (Sj.noS, [], x.argErr)) := by unfold Hid Sj.res; rw [if_pos hea]
    clear hea
    go_enter Try.func28, Try.ntmps28
    go_wp2_with fail
    generalize ((w.alloc (hyO x.h an cn ao co ac cc)).alloc (obO x.o a c)).alloc zeS = w0 at *
    refine (HC.out).mono ?_
    rintro e w1 ⟨rfl, hb1⟩
    have hB1 := hB0.trans (hb1.mono (by omega))
    have hR1 := (hb1.block (w.heap.size + 1 + 1) (by omega)).trans HR.out
    obtain ⟨⟨k0, k1, k2⟩, kf⟩ := cells3 hR1
    have HR4 := Lib.hid (set3 (y0 := .slice none 0 0) (y1 := .int .i64 0) (y2 := .slice none 0 0) hR1)
    have HB4 := Lib.hid (bel_st3 hB1 (g := w.heap.size + 1 + 1) (y0 := .slice none 0 0) (y1 := .int .i64 0) (y2 := .slice none 0 0) (by omega))
    clear hb1 hB1 hR1 HC hB0 hx0 hy0 hz0
    go_wp2
    obtain ⟨⟨q0, q1, q2⟩, -⟩ := cells3 HR4.out
    refine bodyPost_ret (v := .tuple #[.agg #[.slice none 0 0, .int .i64 0, .slice none 0 0], .slice none 0 0, .int .i64 x.argErr]) (by simp [results, Try.results28, go_sem, q0, q1, q2]) rfl ⟨⟨none, 0, [], none, 0, [], 0, none, 0, [], x.argErr, rfl, HF.out, snil _ _ _, snil _ _ _, snil _ _ _⟩, HB4.out⟩
end
end Go.Proofs.Ytlgdijgfphedpaa
