/- The program's search, Find and Linear. Condition: the answers are as long as their words. -/
import Derived.Test.YtlgdijgfphedpaaSplO
import Derived.Test.YtlgdijgfphedpaaAnaT
namespace Go.Proofs.Ytlgdijgfphedpaa
open Go.RowKit
section
variable {w : World} {g : Nat} {x : Sj}
theorem find1_any (lo hi : Nat) (h : hi ≤ 4096) (h2 : lo ≤ 4096) : Calls Try.prog 36 #[.int .i64 lo, .int .i64 hi] w fun e w' => e = .returned (.int .i64 ((Sj.mid lo hi : Nat) : Int)) ∧ w' = w := by
  have hd := mid_div lo hi
  have hmb : Sj.mid lo hi ≤ 4096 := by unfold Sj.mid; omega
  have hwr : IntKind.i64.wrap ((lo : Int) + (hi : Int)) = (lo : Int) + (hi : Int) := IntWalk.i64_in _ (by omega)
  go_enter Try.func36, Try.ntmps36
  go_wp2
  go_ret
  exact ⟨rfl, rfl⟩
theorem lin1_any (lo hi : Nat) (_h : hi ≤ 4096) (h2 : lo ≤ 4096) : Calls Try.prog 56 #[.int .i64 lo, .int .i64 hi] w fun e w' => e = .returned (.int .i64 ((Sj.nxt lo hi : Nat) : Int)) ∧ w' = w := by
  have hwr : IntKind.i64.wrap ((lo : Int) + 1) = (lo : Int) + 1 := IntWalk.i64_in _ (by omega)
  go_enter Try.func56, Try.ntmps56
  go_wp2
  go_ret
  exact ⟨ret_ij (by unfold Sj.nxt; push_cast; rfl), rfl⟩

set_option maxRecDepth 100000 in
set_option maxHeartbeats 8000000 in
theorem searchF_any (h : Sbj w g x) (ok : Hid x.Ok) (hl : Hid x.o.lens) :
    Calls Try.prog 35 #[.pointer (some ⟨g, 0, none⟩), .func (.func 36) #[] #[]] w fun e w' => FiR w w' (x.srch Sj.mid x.w.length 0 x.w.length) e ∧ Below w.heap.size w w' := by
  have HSb := Lib.hid h
  have hg := h.lt
  have hlen := ok.out.len
  have hpos := ok.out.pos
  obtain ⟨B, an, cn, ao, co, ac, cc, a, c, b, d, aS, cS, aO, cO, hS, hh, ho, hw⟩ := h
  have hc := hS.cells
  have HO := Lib.hid ho
  have HKS : Hid (∀ w', Below w.heap.size w w' → w'.cell? ⟨g, 5, none⟩ = some (.int .i64 x.o.inputs) ∧ w'.cell? ⟨g, 6, none⟩ = some (.slice a x.o.traces.length c) ∧ w'.cell? ⟨g, 7, none⟩ = some (.slice b x.w.length d)) := fun w' hb => ⟨(hb.cell (p := ⟨g, 5, none⟩) hg).trans hc.2.1, (hb.cell (p := ⟨g, 6, none⟩) hg).trans hc.2.2.1, (hb.cell (p := ⟨g, 7, none⟩) hg).trans hc.2.2.2.1⟩
  clear hS hh ho hw hc
  have hB0 := ((Below.refl w.heap.size w).alloc (Nat.le_refl _) (.cells #[.pointer (some ⟨g, 0, none⟩)] 69)).alloc (by simp) zeS
  have hz0 : w.heap.size + 2 ≤ ((w.alloc (.cells #[.pointer (some ⟨g, 0, none⟩)] 69)).alloc zeS).heap.size := by simp
  have hr0 : ((w.alloc (.cells #[.pointer (some ⟨g, 0, none⟩)] 69)).alloc zeS).heap[w.heap.size + 1]? = some zeS := by
    have k := heap_alloc_new (w.alloc (.cells #[.pointer (some ⟨g, 0, none⟩)] 69)) zeS
    simpa using k
  have hp0 : ((w.alloc (.cells #[.pointer (some ⟨g, 0, none⟩)] 69)).alloc zeS).cell? ⟨w.heap.size, 0, none⟩ = some (.pointer (some ⟨g, 0, none⟩)) :=
    (((Below.refl (w.heap.size + 1) _).alloc (by simp) zeS).cell (p := ⟨w.heap.size, 0, none⟩) (by simp)).trans (box1 w _ _ rfl)
  have HR := Lib.hid hr0
  have hk0 := Lib.hid ok.out.kn0
  obtain ⟨R, hRs⟩ : ∃ R, R = x.srch Sj.mid x.w.length 0 x.w.length := ⟨_, rfl⟩
  rw [← hRs]
  have hres0 : Hid (R = x.srch Sj.mid x.w.length 0 x.w.length) := hRs
  clear hr0 hRs
  go_enter Try.func35, Try.ntmps35
  go_wp2
  generalize (w.alloc (.cells #[.pointer (some ⟨g, 0, none⟩)] 69)).alloc zeS = w0 at *
  have h7 := (HKS.out _ hB0).2.2
  refine wp_quiet_fast (by kernel_rfl) (by kernel_rfl) ?_
  repeat (first | go_big_quiet_step (fail) | quiet_step (fail))
  refine wpQuiet_nil ?_
  intro _ hw'
  obtain ⟨nq, hw''⟩ := hw'
  subst hw''
  have hB1 := bl_drewN hB0 nq
  have hp1 : (w0.drewN nq).cell? ⟨w.heap.size, 0, none⟩ = some (.pointer (some ⟨g, 0, none⟩)) := by simpa using hp0
  have HR : Hid ((w0.drewN nq).heap[w.heap.size + 1]? = some zeS) := HR.out
  have hz1 : w.heap.size + 2 ≤ (w0.drewN nq).heap.size := hz0
  clear hB0 hp0 hz0 h7
  generalize w0.drewN nq = w1 at *
  go_wp2
  go_loopw [8, 9] (fun p q wr => ∃ (lo hi n : Nat), lo < hi ∧ hi ≤ x.w.length ∧ p = .int .i64 lo ∧ q = .int .i64 hi ∧ hi - lo ≤ n ∧ Hid (R = x.srch Sj.mid n lo hi) ∧ Hid (x.o.known (x.q lo) = true) ∧
    wr.cell? ⟨w.heap.size, 0, none⟩ = some (.pointer (some ⟨g, 0, none⟩)) ∧ Hid (wr.heap[w.heap.size + 1]? = some zeS) ∧ Below w.heap.size w wr ∧ w.heap.size + 2 ≤ wr.heap.size) (fun p q _ => (intOf q).toNat - (intOf p).toNat)
  case atStart => exact ⟨0, x.w.length, x.w.length, by omega, by omega, rfl, rfl, by omega, hres0, hk0, hp1, HR, hB1, hz1⟩
  case round =>
    clear hp1 HR hB1 hz1 hk0 hres0
    obtain ⟨lo, hi, n, hlh, hhl, rfl, rfl, hn, hres, hk, hp, HR, hB, hz⟩ := hrel
    obtain ⟨w2, rfl⟩ : ∃ w2 : World, w2 = wr := ⟨_, rfl⟩
    by_cases hgap : 1 < hi - lo
    · obtain ⟨n, rfl⟩ : ∃ n', n = n' + 1 := ⟨n - 1, by omega⟩
      obtain ⟨m, hm⟩ : ∃ m, m = Sj.mid lo hi := ⟨_, rfl⟩
      have hml : lo < m := by rw [hm]; unfold Sj.mid; omega
      have hmh : m < hi := by rw [hm]; unfold Sj.mid; omega
      have hgc : 1 < (hi : Int) - (lo : Int) := by omega
      have HM := Lib.hid hm
      have HG := Lib.hid hgap
      have HC := Lib.hid (find1_any (w := w2) lo hi (by omega) (by omega))
      rw [← hm] at HC
      clear hm hgap
      go_wp2_with fail
      refine (HC.out).mono ?_
      rintro e w3 ⟨rfl, hw3⟩
      obtain rfl : w2 = w3 := hw3.symm
      have HC := Lib.hid (query_any (HSb.out.later hB) ok m (by omega))
      have hql := Lib.hid (x.q_len m)
      have hqa := (ok.out.ax m).1
      go_wp2_with fail
      refine (HC.out).mono ?_
      rintro e w3 ⟨a3, c3, l3, rfl, hl3, hs3, hb3⟩
      have hB3 := hB.trans (hb3.mono (by omega))
      have hz3 : w.heap.size + 2 ≤ w3.heap.size := by have := hb3.size; omega
      have hp3 := (hb3.cell (p := ⟨w.heap.size, 0, none⟩) (by show w.heap.size < _; omega)).trans hp
      have HR3 := Lib.hid ((hb3.block (w.heap.size + 1) (by omega)).trans HR.out)
      have hl3l := hs3.le
      by_cases hlong : 1024 < (x.q m).length
      · have hlb : 1024 < l3.length := by rw [hl3.out]; exact hlong
        have HF := Lib.hid (hres.out.trans (Sj.srch_long HM.out HG.out hlong))
        have hR3 := HR3.out
        obtain ⟨⟨k0, k1, k2⟩, kf⟩ := cells3 hR3
        have HR4 := Lib.hid (set3 (y0 := .slice none 0 0) (y1 := .int .i64 0) (y2 := .slice none 0 0) hR3)
        have HB4 := Lib.hid (bel_st3 hB3 (g := w.heap.size + 1) (y0 := .slice none 0 0) (y1 := .int .i64 0) (y2 := .slice none 0 0) (by omega))
        clear hlong hb3 hB3 hR3 HC hp3 hp hB
        go_wp2
        obtain ⟨⟨q0, q1, q2⟩, -⟩ := cells3 HR4.out
        refine bodyPost_ret (v := .tuple #[.agg #[.slice none 0 0, .int .i64 0, .slice none 0 0], .slice none 0 0, .int .i64 3]) (by simp [results, Try.results35, go_sem, q0, q1, q2]) rfl ⟨⟨none, 0, [], none, 0, [], 0, none, 0, [], 3, rfl, HF.out, snil _ _ _, snil _ _ _, snil _ _ _⟩, HB4.out⟩
      · have hlb : l3.length ≤ 1024 := by rw [hl3.out]; omega
        have HL := Lib.hid hlong
        have HC := ans_any (HO.out.below hB3) hs3 hl
        rw [show x.o.known l3 = x.o.known (x.q m) from by rw [hl3.out]] at HC
        have HS3 := Lib.hid (hs3.anti (M' := fun k => k < w.heap.size + 2) (fun k _ hk => by omega))
        have ⟨hc5, hc6, hc7⟩ := HKS.out _ hB3
        clear hlong hs3 hb3 hp hB HR
        cases hkn : x.o.known (x.q m) with
        | false =>
          rw [hkn] at HC
          have HC := Lib.hid HC
          have HF := Lib.hid (hres.out.trans (Sj.srch_ask HM.out HG.out HL.out hkn))
          clear hkn
          go_wp2_with fail
          refine (HC.out).mono ?_
          rintro e w4 ⟨a4, c4, l4, rfl, -, -, hb4⟩
          have hB4 := hB3.trans (hb4.mono (by omega))
          have hR4 := (hb4.block (w.heap.size + 1) (by omega)).trans HR3.out
          obtain ⟨⟨k0, k1, k2⟩, kf⟩ := cells3 hR4
          have HR5 := Lib.hid (set3 (y0 := .slice none 0 0) (y1 := .int .i64 0) (y2 := .slice none 0 0) hR4)
          have HB5 := Lib.hid (bel_st3 hB4 (g := w.heap.size + 1) (y0 := .slice none 0 0) (y1 := .int .i64 0) (y2 := .slice none 0 0) (by omega))
          have HS5 := Lib.hid ((HS3.out.below hb4).st3 (g := w.heap.size + 1) (n := w.heap.size) (y0 := .slice none 0 0) (y1 := .int .i64 0) (y2 := .slice none 0 0) (by omega) (by omega))
          clear hb4 hB4 hR4 HC hp3 hB3 hc5 hc6 hc7 HS3
          go_wp2
          obtain ⟨⟨q0, q1, q2⟩, -⟩ := cells3 HR5.out
          refine bodyPost_ret (v := .tuple #[.agg #[.slice none 0 0, .int .i64 0, .slice none 0 0], .slice a3 l3.length c3, .int .i64 0]) (by simp [results, Try.results35, go_sem, q0, q1, q2]) rfl ⟨⟨none, 0, [], none, 0, [], 0, a3, c3, l3, 0, rfl, ?_, snil _ _ _, snil _ _ _, HS5.out⟩, HB5.out⟩
          unfold Hid; rw [HF.out, hl3.out]; rfl
        | true =>
          rw [hkn] at HC
          have HC := Lib.hid HC
          have HK := Lib.hid hkn
          clear hkn
          go_wp2_with fail
          refine (HC.out).mono ?_
          rintro e w4 ⟨a4, c4, l4, rfl, -, -, hb4⟩
          have hB4 := hB3.trans (hb4.mono (by omega))
          have hp4 := (hb4.cell (p := ⟨w.heap.size, 0, none⟩) (by show w.heap.size < _; omega)).trans hp3
          have HR4 := Lib.hid ((hb4.block (w.heap.size + 1) (by omega)).trans HR3.out)
          have hz4 : w.heap.size + 2 ≤ w4.heap.size := by have := hb4.size; omega
          clear HC hb4 hB3 hp3 HR3 hz3 hc5 hc6 hc7 HS3
          have HC := bad_any (HSb.out.later hB4) ok hl m (by omega) HK hp4
          cases hbad : x.bad m with
          | true =>
            rw [hbad] at HC
            have HC := Lib.hid HC
            have hF := Lib.hid (hres.out.trans (Sj.srch_bad HM.out HG.out HL.out HK.out hbad))
            clear hbad hres
            go_wp2_with fail
            refine (HC.out).mono ?_
            rintro e w5 ⟨rfl, hb5⟩
            have hB5 := hB4.trans (hb5.mono (by omega))
            have hp5 := (hb5.cell (p := ⟨w.heap.size, 0, none⟩) (by show w.heap.size < _; omega)).trans hp4
            have HR5 := Lib.hid ((hb5.block (w.heap.size + 1) (by omega)).trans HR4.out)
            have hz5 : w.heap.size + 2 ≤ w5.heap.size := by have := hb5.size; omega
            clear HC hb5 hB4 hp4 HR4 hz4
            go_wp2
            go_roundw
            case rel => exact ⟨m, hi, n, by omega, by omega, by go_num, rfl, by omega, hF, HK, hp5, HR5, hB5, hz5⟩
            case measure => simp [intOf]; omega
          | false =>
            rw [hbad] at HC
            have HC := Lib.hid HC
            have hF := Lib.hid (hres.out.trans (Sj.srch_good HM.out HG.out HL.out HK.out hbad))
            clear hbad hres
            go_wp2_with fail
            refine (HC.out).mono ?_
            rintro e w5 ⟨rfl, hb5⟩
            have hB5 := hB4.trans (hb5.mono (by omega))
            have hp5 := (hb5.cell (p := ⟨w.heap.size, 0, none⟩) (by show w.heap.size < _; omega)).trans hp4
            have HR5 := Lib.hid ((hb5.block (w.heap.size + 1) (by omega)).trans HR4.out)
            have hz5 : w.heap.size + 2 ≤ w5.heap.size := by have := hb5.size; omega
            clear HC hb5 hB4 hp4 HR4 hz4
            go_wp2
            go_roundw
            case rel => exact ⟨lo, m, n, by omega, by omega, rfl, by go_num, by omega, hF, hk, hp5, HR5, hB5, hz5⟩
            case measure => simp [intOf]; omega
    · have HF := Lib.hid (hres.out.trans (Sj.srch_end (by omega)))
      have hgc : (hi : Int) - (lo : Int) ≤ 1 := by omega
      have HC := Lib.hid (splitO_any (HSb.out.later hB) ok hl lo (by omega) hk)
      go_wp2_with fail
      refine (HC.out).mono ?_
      rintro e w3 ⟨⟨a1, c1, l1, a2, c2, l2, sy, a3, c3, l3, er, rfl, hs3, hp1, hp2, hp3⟩, hb3⟩
      have hB3 := hB.trans (hb3.mono (by omega))
      have hR3 := (hb3.block (w.heap.size + 1) (by omega)).trans HR.out
      have HP1 := Lib.hid (hp1.st3 (g := w.heap.size + 1) (n := w.heap.size) (y0 := .slice a1 l1.length c1) (y1 := .int .i64 sy) (y2 := .slice a2 l2.length c2) (by omega) (by omega))
      have HP2 := Lib.hid (hp2.st3 (g := w.heap.size + 1) (n := w.heap.size) (y0 := .slice a1 l1.length c1) (y1 := .int .i64 sy) (y2 := .slice a2 l2.length c2) (by omega) (by omega))
      have HP3 := Lib.hid (hp3.st3 (g := w.heap.size + 1) (n := w.heap.size) (y0 := .slice a1 l1.length c1) (y1 := .int .i64 sy) (y2 := .slice a2 l2.length c2) (by omega) (by omega))
      obtain ⟨⟨n0, n1, n2⟩, nf⟩ := cells3 hR3
      have HR6 := Lib.hid (set3 (y0 := .slice a1 l1.length c1) (y1 := .int .i64 sy) (y2 := .slice a2 l2.length c2) hR3)
      have HB6 := Lib.hid (bel_st3 hB3 (g := w.heap.size + 1) (y0 := .slice a1 l1.length c1) (y1 := .int .i64 sy) (y2 := .slice a2 l2.length c2) (by omega))
      have HF2 : Hid (R = (⟨l1, sy, l2⟩, l3, er)) := by unfold Hid; rw [HF.out, hs3.out]
      clear hs3 hb3 hB3 hR3 HC hp1 hp2 hp3 hp hB HR hres HF
      go_wp2
      obtain ⟨⟨q0, q1, q2⟩, -⟩ := cells3 HR6.out
      refine bodyPost_ret (v := .tuple #[.agg #[.slice a1 l1.length c1, .int .i64 sy, .slice a2 l2.length c2], .slice a3 l3.length c3, .int .i64 er]) (by simp [results, Try.results35, go_sem, q0, q1, q2]) rfl ⟨⟨a1, c1, l1, a2, c2, l2, sy, a3, c3, l3, er, rfl, HF2.out, HP1.out, HP2.out, HP3.out⟩, HB6.out⟩
set_option maxRecDepth 100000 in
set_option maxHeartbeats 8000000 in
theorem searchL_any (h : Sbj w g x) (ok : Hid x.Ok) (hl : Hid x.o.lens) :
    Calls Try.prog 35 #[.pointer (some ⟨g, 0, none⟩), .func (.func 56) #[] #[]] w fun e w' => FiR w w' (x.srch Sj.nxt x.w.length 0 x.w.length) e ∧ Below w.heap.size w w' := by
  have HSb := Lib.hid h
  have hg := h.lt
  have hlen := ok.out.len
  have hpos := ok.out.pos
  obtain ⟨B, an, cn, ao, co, ac, cc, a, c, b, d, aS, cS, aO, cO, hS, hh, ho, hw⟩ := h
  have hc := hS.cells
  have HO := Lib.hid ho
  have HKS : Hid (∀ w', Below w.heap.size w w' → w'.cell? ⟨g, 5, none⟩ = some (.int .i64 x.o.inputs) ∧ w'.cell? ⟨g, 6, none⟩ = some (.slice a x.o.traces.length c) ∧ w'.cell? ⟨g, 7, none⟩ = some (.slice b x.w.length d)) := fun w' hb => ⟨(hb.cell (p := ⟨g, 5, none⟩) hg).trans hc.2.1, (hb.cell (p := ⟨g, 6, none⟩) hg).trans hc.2.2.1, (hb.cell (p := ⟨g, 7, none⟩) hg).trans hc.2.2.2.1⟩
  clear hS hh ho hw hc
  have hB0 := ((Below.refl w.heap.size w).alloc (Nat.le_refl _) (.cells #[.pointer (some ⟨g, 0, none⟩)] 69)).alloc (by simp) zeS
  have hz0 : w.heap.size + 2 ≤ ((w.alloc (.cells #[.pointer (some ⟨g, 0, none⟩)] 69)).alloc zeS).heap.size := by simp
  have hr0 : ((w.alloc (.cells #[.pointer (some ⟨g, 0, none⟩)] 69)).alloc zeS).heap[w.heap.size + 1]? = some zeS := by
    have k := heap_alloc_new (w.alloc (.cells #[.pointer (some ⟨g, 0, none⟩)] 69)) zeS
    simpa using k
  have hp0 : ((w.alloc (.cells #[.pointer (some ⟨g, 0, none⟩)] 69)).alloc zeS).cell? ⟨w.heap.size, 0, none⟩ = some (.pointer (some ⟨g, 0, none⟩)) :=
    (((Below.refl (w.heap.size + 1) _).alloc (by simp) zeS).cell (p := ⟨w.heap.size, 0, none⟩) (by simp)).trans (box1 w _ _ rfl)
  have HR := Lib.hid hr0
  have hk0 := Lib.hid ok.out.kn0
  obtain ⟨R, hRs⟩ : ∃ R, R = x.srch Sj.nxt x.w.length 0 x.w.length := ⟨_, rfl⟩
  rw [← hRs]
  have hres0 : Hid (R = x.srch Sj.nxt x.w.length 0 x.w.length) := hRs
  clear hr0 hRs
  go_enter Try.func35, Try.ntmps35
  go_wp2
  generalize (w.alloc (.cells #[.pointer (some ⟨g, 0, none⟩)] 69)).alloc zeS = w0 at *
  have h7 := (HKS.out _ hB0).2.2
  refine wp_quiet_fast (by kernel_rfl) (by kernel_rfl) ?_
  repeat (first | go_big_quiet_step (fail) | quiet_step (fail))
  refine wpQuiet_nil ?_
  intro _ hw'
  obtain ⟨nq, hw''⟩ := hw'
  subst hw''
  have hB1 := bl_drewN hB0 nq
  have hp1 : (w0.drewN nq).cell? ⟨w.heap.size, 0, none⟩ = some (.pointer (some ⟨g, 0, none⟩)) := by simpa using hp0
  have HR : Hid ((w0.drewN nq).heap[w.heap.size + 1]? = some zeS) := HR.out
  have hz1 : w.heap.size + 2 ≤ (w0.drewN nq).heap.size := hz0
  clear hB0 hp0 hz0 h7
  generalize w0.drewN nq = w1 at *
  go_wp2
  go_loopw [8, 9] (fun p q wr => ∃ (lo hi n : Nat), lo < hi ∧ hi ≤ x.w.length ∧ p = .int .i64 lo ∧ q = .int .i64 hi ∧ hi - lo ≤ n ∧ Hid (R = x.srch Sj.nxt n lo hi) ∧ Hid (x.o.known (x.q lo) = true) ∧
    wr.cell? ⟨w.heap.size, 0, none⟩ = some (.pointer (some ⟨g, 0, none⟩)) ∧ Hid (wr.heap[w.heap.size + 1]? = some zeS) ∧ Below w.heap.size w wr ∧ w.heap.size + 2 ≤ wr.heap.size) (fun p q _ => (intOf q).toNat - (intOf p).toNat)
  case atStart => exact ⟨0, x.w.length, x.w.length, by omega, by omega, rfl, rfl, by omega, hres0, hk0, hp1, HR, hB1, hz1⟩
  case round =>
    clear hp1 HR hB1 hz1 hk0 hres0
    obtain ⟨lo, hi, n, hlh, hhl, rfl, rfl, hn, hres, hk, hp, HR, hB, hz⟩ := hrel
    obtain ⟨w2, rfl⟩ : ∃ w2 : World, w2 = wr := ⟨_, rfl⟩
    by_cases hgap : 1 < hi - lo
    · obtain ⟨n, rfl⟩ : ∃ n', n = n' + 1 := ⟨n - 1, by omega⟩
      obtain ⟨m, hm⟩ : ∃ m, m = Sj.nxt lo hi := ⟨_, rfl⟩
      have hml : lo < m := by rw [hm]; unfold Sj.nxt; omega
      have hmh : m < hi := by rw [hm]; unfold Sj.nxt; omega
      have hgc : 1 < (hi : Int) - (lo : Int) := by omega
      have HM := Lib.hid hm
      have HG := Lib.hid hgap
      have HC := Lib.hid (lin1_any (w := w2) lo hi (by omega) (by omega))
      rw [← hm] at HC
      clear hm hgap
      go_wp2_with fail
      refine (HC.out).mono ?_
      rintro e w3 ⟨rfl, hw3⟩
      obtain rfl : w2 = w3 := hw3.symm
      have HC := Lib.hid (query_any (HSb.out.later hB) ok m (by omega))
      have hql := Lib.hid (x.q_len m)
      have hqa := (ok.out.ax m).1
      go_wp2_with fail
      refine (HC.out).mono ?_
      rintro e w3 ⟨a3, c3, l3, rfl, hl3, hs3, hb3⟩
      have hB3 := hB.trans (hb3.mono (by omega))
      have hz3 : w.heap.size + 2 ≤ w3.heap.size := by have := hb3.size; omega
      have hp3 := (hb3.cell (p := ⟨w.heap.size, 0, none⟩) (by show w.heap.size < _; omega)).trans hp
      have HR3 := Lib.hid ((hb3.block (w.heap.size + 1) (by omega)).trans HR.out)
      have hl3l := hs3.le
      by_cases hlong : 1024 < (x.q m).length
      · have hlb : 1024 < l3.length := by rw [hl3.out]; exact hlong
        have HF := Lib.hid (hres.out.trans (Sj.srch_long HM.out HG.out hlong))
        have hR3 := HR3.out
        obtain ⟨⟨k0, k1, k2⟩, kf⟩ := cells3 hR3
        have HR4 := Lib.hid (set3 (y0 := .slice none 0 0) (y1 := .int .i64 0) (y2 := .slice none 0 0) hR3)
        have HB4 := Lib.hid (bel_st3 hB3 (g := w.heap.size + 1) (y0 := .slice none 0 0) (y1 := .int .i64 0) (y2 := .slice none 0 0) (by omega))
        clear hlong hb3 hB3 hR3 HC hp3 hp hB
        go_wp2
        obtain ⟨⟨q0, q1, q2⟩, -⟩ := cells3 HR4.out
        refine bodyPost_ret (v := .tuple #[.agg #[.slice none 0 0, .int .i64 0, .slice none 0 0], .slice none 0 0, .int .i64 3]) (by simp [results, Try.results35, go_sem, q0, q1, q2]) rfl ⟨⟨none, 0, [], none, 0, [], 0, none, 0, [], 3, rfl, HF.out, snil _ _ _, snil _ _ _, snil _ _ _⟩, HB4.out⟩
      · have hlb : l3.length ≤ 1024 := by rw [hl3.out]; omega
        have HL := Lib.hid hlong
        have HC := ans_any (HO.out.below hB3) hs3 hl
        rw [show x.o.known l3 = x.o.known (x.q m) from by rw [hl3.out]] at HC
        have HS3 := Lib.hid (hs3.anti (M' := fun k => k < w.heap.size + 2) (fun k _ hk => by omega))
        have ⟨hc5, hc6, hc7⟩ := HKS.out _ hB3
        clear hlong hs3 hb3 hp hB HR
        cases hkn : x.o.known (x.q m) with
        | false =>
          rw [hkn] at HC
          have HC := Lib.hid HC
          have HF := Lib.hid (hres.out.trans (Sj.srch_ask HM.out HG.out HL.out hkn))
          clear hkn
          go_wp2_with fail
          refine (HC.out).mono ?_
          rintro e w4 ⟨a4, c4, l4, rfl, -, -, hb4⟩
          have hB4 := hB3.trans (hb4.mono (by omega))
          have hR4 := (hb4.block (w.heap.size + 1) (by omega)).trans HR3.out
          obtain ⟨⟨k0, k1, k2⟩, kf⟩ := cells3 hR4
          have HR5 := Lib.hid (set3 (y0 := .slice none 0 0) (y1 := .int .i64 0) (y2 := .slice none 0 0) hR4)
          have HB5 := Lib.hid (bel_st3 hB4 (g := w.heap.size + 1) (y0 := .slice none 0 0) (y1 := .int .i64 0) (y2 := .slice none 0 0) (by omega))
          have HS5 := Lib.hid ((HS3.out.below hb4).st3 (g := w.heap.size + 1) (n := w.heap.size) (y0 := .slice none 0 0) (y1 := .int .i64 0) (y2 := .slice none 0 0) (by omega) (by omega))
          clear hb4 hB4 hR4 HC hp3 hB3 hc5 hc6 hc7 HS3
          go_wp2
          obtain ⟨⟨q0, q1, q2⟩, -⟩ := cells3 HR5.out
          refine bodyPost_ret (v := .tuple #[.agg #[.slice none 0 0, .int .i64 0, .slice none 0 0], .slice a3 l3.length c3, .int .i64 0]) (by simp [results, Try.results35, go_sem, q0, q1, q2]) rfl ⟨⟨none, 0, [], none, 0, [], 0, a3, c3, l3, 0, rfl, ?_, snil _ _ _, snil _ _ _, HS5.out⟩, HB5.out⟩
          unfold Hid; rw [HF.out, hl3.out]; rfl
        | true =>
          rw [hkn] at HC
          have HC := Lib.hid HC
          have HK := Lib.hid hkn
          clear hkn
          go_wp2_with fail
          refine (HC.out).mono ?_
          rintro e w4 ⟨a4, c4, l4, rfl, -, -, hb4⟩
          have hB4 := hB3.trans (hb4.mono (by omega))
          have hp4 := (hb4.cell (p := ⟨w.heap.size, 0, none⟩) (by show w.heap.size < _; omega)).trans hp3
          have HR4 := Lib.hid ((hb4.block (w.heap.size + 1) (by omega)).trans HR3.out)
          have hz4 : w.heap.size + 2 ≤ w4.heap.size := by have := hb4.size; omega
          clear HC hb4 hB3 hp3 HR3 hz3 hc5 hc6 hc7 HS3
          have HC := bad_any (HSb.out.later hB4) ok hl m (by omega) HK hp4
          cases hbad : x.bad m with
          | true =>
            rw [hbad] at HC
            have HC := Lib.hid HC
            have hF := Lib.hid (hres.out.trans (Sj.srch_bad HM.out HG.out HL.out HK.out hbad))
            clear hbad hres
            go_wp2_with fail
            refine (HC.out).mono ?_
            rintro e w5 ⟨rfl, hb5⟩
            have hB5 := hB4.trans (hb5.mono (by omega))
            have hp5 := (hb5.cell (p := ⟨w.heap.size, 0, none⟩) (by show w.heap.size < _; omega)).trans hp4
            have HR5 := Lib.hid ((hb5.block (w.heap.size + 1) (by omega)).trans HR4.out)
            have hz5 : w.heap.size + 2 ≤ w5.heap.size := by have := hb5.size; omega
            clear HC hb5 hB4 hp4 HR4 hz4
            go_wp2
            go_roundw
            case rel => exact ⟨m, hi, n, by omega, by omega, by go_num, rfl, by omega, hF, HK, hp5, HR5, hB5, hz5⟩
            case measure => simp [intOf]; omega
          | false =>
            rw [hbad] at HC
            have HC := Lib.hid HC
            have hF := Lib.hid (hres.out.trans (Sj.srch_good HM.out HG.out HL.out HK.out hbad))
            clear hbad hres
            go_wp2_with fail
            refine (HC.out).mono ?_
            rintro e w5 ⟨rfl, hb5⟩
            have hB5 := hB4.trans (hb5.mono (by omega))
            have hp5 := (hb5.cell (p := ⟨w.heap.size, 0, none⟩) (by show w.heap.size < _; omega)).trans hp4
            have HR5 := Lib.hid ((hb5.block (w.heap.size + 1) (by omega)).trans HR4.out)
            have hz5 : w.heap.size + 2 ≤ w5.heap.size := by have := hb5.size; omega
            clear HC hb5 hB4 hp4 HR4 hz4
            go_wp2
            go_roundw
            case rel => exact ⟨lo, m, n, by omega, by omega, rfl, by go_num, by omega, hF, hk, hp5, HR5, hB5, hz5⟩
            case measure => simp [intOf]; omega
    · have HF := Lib.hid (hres.out.trans (Sj.srch_end (by omega)))
      have hgc : (hi : Int) - (lo : Int) ≤ 1 := by omega
      have HC := Lib.hid (splitO_any (HSb.out.later hB) ok hl lo (by omega) hk)
      go_wp2_with fail
      refine (HC.out).mono ?_
      rintro e w3 ⟨⟨a1, c1, l1, a2, c2, l2, sy, a3, c3, l3, er, rfl, hs3, hp1, hp2, hp3⟩, hb3⟩
      have hB3 := hB.trans (hb3.mono (by omega))
      have hR3 := (hb3.block (w.heap.size + 1) (by omega)).trans HR.out
      have HP1 := Lib.hid (hp1.st3 (g := w.heap.size + 1) (n := w.heap.size) (y0 := .slice a1 l1.length c1) (y1 := .int .i64 sy) (y2 := .slice a2 l2.length c2) (by omega) (by omega))
      have HP2 := Lib.hid (hp2.st3 (g := w.heap.size + 1) (n := w.heap.size) (y0 := .slice a1 l1.length c1) (y1 := .int .i64 sy) (y2 := .slice a2 l2.length c2) (by omega) (by omega))
      have HP3 := Lib.hid (hp3.st3 (g := w.heap.size + 1) (n := w.heap.size) (y0 := .slice a1 l1.length c1) (y1 := .int .i64 sy) (y2 := .slice a2 l2.length c2) (by omega) (by omega))
      obtain ⟨⟨n0, n1, n2⟩, nf⟩ := cells3 hR3
      have HR6 := Lib.hid (set3 (y0 := .slice a1 l1.length c1) (y1 := .int .i64 sy) (y2 := .slice a2 l2.length c2) hR3)
      have HB6 := Lib.hid (bel_st3 hB3 (g := w.heap.size + 1) (y0 := .slice a1 l1.length c1) (y1 := .int .i64 sy) (y2 := .slice a2 l2.length c2) (by omega))
      have HF2 : Hid (R = (⟨l1, sy, l2⟩, l3, er)) := by unfold Hid; rw [HF.out, hs3.out]
      clear hs3 hb3 hB3 hR3 HC hp1 hp2 hp3 hp hB HR hres HF
      go_wp2
      obtain ⟨⟨q0, q1, q2⟩, -⟩ := cells3 HR6.out
      refine bodyPost_ret (v := .tuple #[.agg #[.slice a1 l1.length c1, .int .i64 sy, .slice a2 l2.length c2], .slice a3 l3.length c3, .int .i64 er]) (by simp [results, Try.results35, go_sem, q0, q1, q2]) rfl ⟨⟨a1, c1, l1, a2, c2, l2, sy, a3, c3, l3, er, rfl, HF2.out, HP1.out, HP2.out, HP3.out⟩, HB6.out⟩
end
section
variable {M M' M'' : Nat → Prop} {w : World} {an ao ac a b : Option Addr} {cn co cc c d : Nat} {x : Sj}
set_option maxRecDepth 100000 in
set_option maxHeartbeats 4000000 in
theorem find_any (hh : Hp M w an cn ao co ac cc x.h) (ho : Os M' w a c x.o) (hw : Sl M'' w b d x.w) (hl : Hid x.o.lens) :
    Calls Try.prog 11 #[hyV x.h an cn ao co ac cc, obV x.o a c, .slice b x.w.length d] w fun e w' => FiR w w' (x.res Sj.mid) e ∧ Below w.heap.size w w' := by
  have hB0 := (((Below.refl w.heap.size w).alloc (Nat.le_refl _) (hyO x.h an cn ao co ac cc)).alloc (by simp) (obO x.o a c)).alloc (by simp; omega) zeS
  have hz0 : w.heap.size + 3 ≤ (((w.alloc (hyO x.h an cn ao co ac cc)).alloc (obO x.o a c)).alloc zeS).heap.size := by simp
  have hr0 : (((w.alloc (hyO x.h an cn ao co ac cc)).alloc (obO x.o a c)).alloc zeS).heap[w.heap.size + 1 + 1]? = some zeS := by
    have k := heap_alloc_new ((w.alloc (hyO x.h an cn ao co ac cc)).alloc (obO x.o a c)) zeS
    simpa using k
  have HR := Lib.hid hr0
  have HH := Lib.hid hh
  have HO := Lib.hid ho
  have HW := Lib.hid hw
  have hwl := hw.le
  have HC := begin_any (HH.out.below hB0) (HO.out.below hB0) (HW.out.below hB0) hl
  clear hh ho hw hr0
  by_cases hea : x.argErr = 0
  · have ok := Sj.ok_of hea
    have hres : Hid (x.res Sj.mid = x.srch Sj.mid x.w.length 0 x.w.length) := by unfold Hid Sj.res; rw [if_neg (by simp [hea])]
    have OK := Lib.hid ok
    have HC := Lib.hid (HC.mono fun e w' (k : _ ∧ _) => show (∃ g aS cS aO cO, e = .returned (.tuple #[.pointer (some ⟨g, 0, none⟩), .int .i64 0]) ∧ SuR _ g w' x an cn ao co ac cc a c b d aS cS aO cO) ∧ _ from ⟨k.1.2 hea, k.2⟩)
    clear hea ok
    go_enter Try.func11, Try.ntmps11
    go_wp2_with fail
    generalize ((w.alloc (hyO x.h an cn ao co ac cc)).alloc (obO x.o a c)).alloc zeS = w0 at *
    refine (HC.out).mono ?_
    rintro e w1 ⟨⟨g, aS, cS, aO, cO, rfl, hsu⟩, hb1⟩
    have hB1 := hB0.trans (hb1.mono (by omega))
    have hz1 : w.heap.size + 3 ≤ w1.heap.size := by have := hb1.size; omega
    have HR := Lib.hid ((hb1.block (w.heap.size + 1 + 1) (by omega)).trans HR.out)
    have HSb : Hid (Sbj w1 g x) := ⟨_, an, cn, ao, co, ac, cc, a, c, b, d, aS, cS, aO, cO, hsu, (HH.out.below hB1).ext (Ext.sub_only fun _ _ h => h.elim), (HO.out.below hB1).ext (Ext.sub_only fun _ _ h => h.elim), (HW.out.below hB1).anti fun _ _ h => h.elim⟩
    have HC := Lib.hid (searchF_any HSb.out OK hl)
    clear hsu hb1 hB0 hz0
    go_wp2_with fail
    refine (HC.out).mono ?_
    rintro e w3 ⟨⟨a1, c1, l1, a2, c2, l2, sy, a3, c3, l3, er, rfl, hs3, hp1, hp2, hp3⟩, hb3⟩
    have hB3 := hB1.trans (hb3.mono (by omega))
    have hR3 := (hb3.block (w.heap.size + 1 + 1) (by omega)).trans HR.out
    have HP1 := Lib.hid (hp1.st3 (g := w.heap.size + 1 + 1) (n := w.heap.size) (y0 := .slice a1 l1.length c1) (y1 := .int .i64 sy) (y2 := .slice a2 l2.length c2) (by omega) (by omega))
    have HP2 := Lib.hid (hp2.st3 (g := w.heap.size + 1 + 1) (n := w.heap.size) (y0 := .slice a1 l1.length c1) (y1 := .int .i64 sy) (y2 := .slice a2 l2.length c2) (by omega) (by omega))
    have HP3 := Lib.hid (hp3.st3 (g := w.heap.size + 1 + 1) (n := w.heap.size) (y0 := .slice a1 l1.length c1) (y1 := .int .i64 sy) (y2 := .slice a2 l2.length c2) (by omega) (by omega))
    obtain ⟨⟨n0, n1, n2⟩, nf⟩ := cells3 hR3
    have HR6 := Lib.hid (set3 (y0 := .slice a1 l1.length c1) (y1 := .int .i64 sy) (y2 := .slice a2 l2.length c2) hR3)
    have HB6 := Lib.hid (bel_st3 hB3 (g := w.heap.size + 1 + 1) (y0 := .slice a1 l1.length c1) (y1 := .int .i64 sy) (y2 := .slice a2 l2.length c2) (by omega))
    have HF2 : Hid (x.res Sj.mid = (⟨l1, sy, l2⟩, l3, er)) := by unfold Hid; rw [hres.out, hs3.out]
    clear hs3 hb3 hB3 hR3 HC hp1 hp2 hp3 hB1 HR hres
    go_wp2
    obtain ⟨⟨q0, q1, q2⟩, -⟩ := cells3 HR6.out
    refine bodyPost_ret (v := .tuple #[.agg #[.slice a1 l1.length c1, .int .i64 sy, .slice a2 l2.length c2], .slice a3 l3.length c3, .int .i64 er]) (by simp [results, Try.results11, go_sem, q0, q1, q2]) rfl ⟨⟨a1, c1, l1, a2, c2, l2, sy, a3, c3, l3, er, rfl, HF2.out, HP1.out, HP2.out, HP3.out⟩, HB6.out⟩
  · have heb : (x.argErr != 0) = true := by simp [hea]
    have HF : Hid (x.res Sj.mid = (Sj.noS, [], x.argErr)) := by unfold Hid Sj.res; rw [if_pos hea]
    have HC := Lib.hid (HC.mono fun e w' (k : _ ∧ _) => show (e = .returned (.tuple #[.pointer none, .int .i64 x.argErr])) ∧ _ from ⟨k.1.1 hea, k.2⟩)
    clear hea
    go_enter Try.func11, Try.ntmps11
    go_wp2_with fail
    generalize ((w.alloc (hyO x.h an cn ao co ac cc)).alloc (obO x.o a c)).alloc zeS = w0 at *
    refine (HC.out).mono ?_
    rintro e w1 ⟨rfl, hb1⟩
    have hB1 := hB0.trans (hb1.mono (by omega))
    have hR1 := (hb1.block (w.heap.size + 1 + 1) (by omega)).trans HR.out
    obtain ⟨⟨k0, k1, k2⟩, kf⟩ := cells3 hR1
    have HR4 := Lib.hid (set3 (y0 := .slice none 0 0) (y1 := .int .i64 0) (y2 := .slice none 0 0) hR1)
    have HB4 := Lib.hid (bel_st3 hB1 (g := w.heap.size + 1 + 1) (y0 := .slice none 0 0) (y1 := .int .i64 0) (y2 := .slice none 0 0) (by omega))
    clear hb1 hB1 hR1 HC hB0 hz0
    go_wp2
    obtain ⟨⟨q0, q1, q2⟩, -⟩ := cells3 HR4.out
    refine bodyPost_ret (v := .tuple #[.agg #[.slice none 0 0, .int .i64 0, .slice none 0 0], .slice none 0 0, .int .i64 x.argErr]) (by simp [results, Try.results11, go_sem, q0, q1, q2]) rfl ⟨⟨none, 0, [], none, 0, [], 0, none, 0, [], x.argErr, rfl, HF.out, snil _ _ _, snil _ _ _, snil _ _ _⟩, HB4.out⟩
set_option maxRecDepth 100000 in
set_option maxHeartbeats 4000000 in
theorem lin_any (hh : Hp M w an cn ao co ac cc x.h) (ho : Os M' w a c x.o) (hw : Sl M'' w b d x.w) (hl : Hid x.o.lens) :
    Calls Try.prog 27 #[hyV x.h an cn ao co ac cc, obV x.o a c, .slice b x.w.length d] w fun e w' => FiR w w' (x.res Sj.nxt) e ∧ Below w.heap.size w w' := by
  have hB0 := (((Below.refl w.heap.size w).alloc (Nat.le_refl _) (hyO x.h an cn ao co ac cc)).alloc (by simp) (obO x.o a c)).alloc (by simp; omega) zeS
  have hz0 : w.heap.size + 3 ≤ (((w.alloc (hyO x.h an cn ao co ac cc)).alloc (obO x.o a c)).alloc zeS).heap.size := by simp
  have hr0 : (((w.alloc (hyO x.h an cn ao co ac cc)).alloc (obO x.o a c)).alloc zeS).heap[w.heap.size + 1 + 1]? = some zeS := by
    have k := heap_alloc_new ((w.alloc (hyO x.h an cn ao co ac cc)).alloc (obO x.o a c)) zeS
    simpa using k
  have HR := Lib.hid hr0
  have HH := Lib.hid hh
  have HO := Lib.hid ho
  have HW := Lib.hid hw
  have hwl := hw.le
  have HC := begin_any (HH.out.below hB0) (HO.out.below hB0) (HW.out.below hB0) hl
  clear hh ho hw hr0
  by_cases hea : x.argErr = 0
  · have ok := Sj.ok_of hea
    have hres : Hid (x.res Sj.nxt = x.srch Sj.nxt x.w.length 0 x.w.length) := by unfold Hid Sj.res; rw [if_neg (by simp [hea])]
    have OK := Lib.hid ok
    have HC := Lib.hid (HC.mono fun e w' (k : _ ∧ _) => show (∃ g aS cS aO cO, e = .returned (.tuple #[.pointer (some ⟨g, 0, none⟩), .int .i64 0]) ∧ SuR _ g w' x an cn ao co ac cc a c b d aS cS aO cO) ∧ _ from ⟨k.1.2 hea, k.2⟩)
    clear hea ok
    go_enter Try.func27, Try.ntmps27
    go_wp2_with fail
    generalize ((w.alloc (hyO x.h an cn ao co ac cc)).alloc (obO x.o a c)).alloc zeS = w0 at *
    refine (HC.out).mono ?_
    rintro e w1 ⟨⟨g, aS, cS, aO, cO, rfl, hsu⟩, hb1⟩
    have hB1 := hB0.trans (hb1.mono (by omega))
    have hz1 : w.heap.size + 3 ≤ w1.heap.size := by have := hb1.size; omega
    have HR := Lib.hid ((hb1.block (w.heap.size + 1 + 1) (by omega)).trans HR.out)
    have HSb : Hid (Sbj w1 g x) := ⟨_, an, cn, ao, co, ac, cc, a, c, b, d, aS, cS, aO, cO, hsu, (HH.out.below hB1).ext (Ext.sub_only fun _ _ h => h.elim), (HO.out.below hB1).ext (Ext.sub_only fun _ _ h => h.elim), (HW.out.below hB1).anti fun _ _ h => h.elim⟩
    have HC := Lib.hid (searchL_any HSb.out OK hl)
    clear hsu hb1 hB0 hz0
    go_wp2_with fail
    refine (HC.out).mono ?_
    rintro e w3 ⟨⟨a1, c1, l1, a2, c2, l2, sy, a3, c3, l3, er, rfl, hs3, hp1, hp2, hp3⟩, hb3⟩
    have hB3 := hB1.trans (hb3.mono (by omega))
    have hR3 := (hb3.block (w.heap.size + 1 + 1) (by omega)).trans HR.out
    have HP1 := Lib.hid (hp1.st3 (g := w.heap.size + 1 + 1) (n := w.heap.size) (y0 := .slice a1 l1.length c1) (y1 := .int .i64 sy) (y2 := .slice a2 l2.length c2) (by omega) (by omega))
    have HP2 := Lib.hid (hp2.st3 (g := w.heap.size + 1 + 1) (n := w.heap.size) (y0 := .slice a1 l1.length c1) (y1 := .int .i64 sy) (y2 := .slice a2 l2.length c2) (by omega) (by omega))
    have HP3 := Lib.hid (hp3.st3 (g := w.heap.size + 1 + 1) (n := w.heap.size) (y0 := .slice a1 l1.length c1) (y1 := .int .i64 sy) (y2 := .slice a2 l2.length c2) (by omega) (by omega))
    obtain ⟨⟨n0, n1, n2⟩, nf⟩ := cells3 hR3
    have HR6 := Lib.hid (set3 (y0 := .slice a1 l1.length c1) (y1 := .int .i64 sy) (y2 := .slice a2 l2.length c2) hR3)
    have HB6 := Lib.hid (bel_st3 hB3 (g := w.heap.size + 1 + 1) (y0 := .slice a1 l1.length c1) (y1 := .int .i64 sy) (y2 := .slice a2 l2.length c2) (by omega))
    have HF2 : Hid (x.res Sj.nxt = (⟨l1, sy, l2⟩, l3, er)) := by unfold Hid; rw [hres.out, hs3.out]
    clear hs3 hb3 hB3 hR3 HC hp1 hp2 hp3 hB1 HR hres
    go_wp2
    obtain ⟨⟨q0, q1, q2⟩, -⟩ := cells3 HR6.out
    refine bodyPost_ret (v := .tuple #[.agg #[.slice a1 l1.length c1, .int .i64 sy, .slice a2 l2.length c2], .slice a3 l3.length c3, .int .i64 er]) (by simp [results, Try.results27, go_sem, q0, q1, q2]) rfl ⟨⟨a1, c1, l1, a2, c2, l2, sy, a3, c3, l3, er, rfl, HF2.out, HP1.out, HP2.out, HP3.out⟩, HB6.out⟩
  · have heb : (x.argErr != 0) = true := by simp [hea]
    have HF : Hid (x.res Sj.nxt = (Sj.noS, [], x.argErr)) := by unfold Hid Sj.res; rw [if_pos hea]
    have HC := Lib.hid (HC.mono fun e w' (k : _ ∧ _) => show (e = .returned (.tuple #[.pointer none, .int .i64 x.argErr])) ∧ _ from ⟨k.1.1 hea, k.2⟩)
    clear hea
    go_enter Try.func27, Try.ntmps27
    go_wp2_with fail
    generalize ((w.alloc (hyO x.h an cn ao co ac cc)).alloc (obO x.o a c)).alloc zeS = w0 at *
    refine (HC.out).mono ?_
    rintro e w1 ⟨rfl, hb1⟩
    have hB1 := hB0.trans (hb1.mono (by omega))
    have hR1 := (hb1.block (w.heap.size + 1 + 1) (by omega)).trans HR.out
    obtain ⟨⟨k0, k1, k2⟩, kf⟩ := cells3 hR1
    have HR4 := Lib.hid (set3 (y0 := .slice none 0 0) (y1 := .int .i64 0) (y2 := .slice none 0 0) hR1)
    have HB4 := Lib.hid (bel_st3 hB1 (g := w.heap.size + 1 + 1) (y0 := .slice none 0 0) (y1 := .int .i64 0) (y2 := .slice none 0 0) (by omega))
    clear hb1 hB1 hR1 HC hB0 hz0
    go_wp2
    obtain ⟨⟨q0, q1, q2⟩, -⟩ := cells3 HR4.out
    refine bodyPost_ret (v := .tuple #[.agg #[.slice none 0 0, .int .i64 0, .slice none 0 0], .slice none 0 0, .int .i64 x.argErr]) (by simp [results, Try.results27, go_sem, q0, q1, q2]) rfl ⟨⟨none, 0, [], none, 0, [], 0, none, 0, [], x.argErr, rfl, HF.out, snil _ _ _, snil _ _ _, snil _ _ _⟩, HB4.out⟩
end
end Go.Proofs.Ytlgdijgfphedpaa
