/- Iso: the program's and the reference's. No condition beyond that the fields read as lists of lists. -/
import Derived.Test.YtdnmgiabgpilkaaDist
import Derived.Test.YtdnmgiabgpilkaaIsoP
import Derived.Test.YtdnmgiabgpilkaaReachR
import Derived.Test.YtdnmgiabgpilkaaSame
namespace Go.Proofs.Ytdnmgiabgpilkaa
open Go.RowKit
theorem ow_len {B : Nat} {M : Nat → Prop} {w : World} {T : TypeId} {a : Option Addr} {c n : Nat} {l : List Int} (hn : n = l.length) (h : Ow B M w T (.slice a n c) l) : Ow B M w T (.slice a l.length c) l := by subst hn; exact h
theorem ret3_num {A : Option Addr} {n n' c : Nat} {f : Bool} {x y : Int} (h : n = n') (h2 : x = y) : Ending.returned (.tuple #[.slice A n c, .bool f, .int .i64 x]) = .returned (.tuple #[.slice A n' c, .bool f, .int .i64 y]) := by rw [h, h2]
section
variable {M : Nat → Prop} {w : World} {an ao bn bo : Option Addr} {acn aco bcn bco : Nat} {a b : Mach}

set_option maxRecDepth 100000 in
set_option maxHeartbeats 8000000 in
theorem iso_any (ha : Ma M w an acn ao aco a) (hb : Ma M w bn bcn bo bco b) :
    Calls Try.prog 37 #[maV a an acn ao aco, maV b bn bcn bo bco] w fun e w' => ∃ ad c l f, e = .returned (.tuple #[.slice ad l.length c, .bool f, .int .i64 (chk a b)]) ∧ Hid (ansW (isoW a b) l f) ∧ Sl (fun k => k < w.heap.size) w' ad c l ∧ Below w.heap.size w w' := by
  have HA := Lib.hid (ha.ext ((Ext.alloc M w (maO a an acn ao aco)).trans (Ext.alloc M _ (maO b bn bcn bo bco))))
  have HB := Lib.hid (hb.ext ((Ext.alloc M w (maO a an acn ao aco)).trans (Ext.alloc M _ (maO b bn bcn bo bco))))
  have h0 : Below w.heap.size w ((w.alloc (maO a an acn ao aco)).alloc (maO b bn bcn bo bco)) := ((Below.refl _ _).alloc (Nat.le_refl _) _).alloc (by simp) _
  have hCa : C4 ((w.alloc (maO a an acn ao aco)).alloc (maO b bn bcn bo bco)) w.heap.size an acn ao aco a := (c4_new w).below (B := w.heap.size + 1) ((Below.refl _ _).alloc (by simp) _) (by omega)
  have hCb : C4 ((w.alloc (maO a an acn ao aco)).alloc (maO b bn bcn bo bco)) (w.heap.size + 1) bn bcn bo bco b := by simpa using c4_new (m := b) (an := bn) (cn := bcn) (ao := bo) (co := bco) (w.alloc (maO a an acn ao aco))
  have HC := Lib.hid (check_any HA.out HB.out)
  clear ha hb
  by_cases h : chk a b = 0
  · have h' : (chk a b != 0) = false := by simp [h]
    have H := Lib.hid h
    have HZ := Lib.hid (chk_zero h)
    clear h
    have OA := Lib.hid (a.ok_of_err HZ.out.1)
    have OB := Lib.hid (b.ok_of_err HZ.out.2.1)
    have n1 := OA.out.n1
    have n1' := OB.out.n1
    have i0 := OA.out.i0
    have i1 := OA.out.i1
    obtain ⟨xb, xo, yb, yo, rfl, rfl⟩ := HA.out.addr OA.out
    obtain ⟨ub, uo, vb, vo, rfl, rfl⟩ := HB.out.addr OB.out
    go_enter Try.func37, Try.ntmps37
    go_wp2_with fail
    refine (HC.out).mono ?_
    rintro e w1 ⟨rfl, hb1⟩
    have hz1 : w.heap.size + 2 ≤ w1.heap.size := by have := hb1.size; simpa using this
    have hB1 : Below (w.heap.size + 2) ((w.alloc (maO a (some ⟨xb, xo, none⟩) acn (some ⟨yb, yo, none⟩) aco)).alloc (maO b (some ⟨ub, uo, none⟩) bcn (some ⟨vb, vo, none⟩) bco)) w1 := hb1.mono (by simp)
    have hA1 := (HA.out.below (by simpa using hb1)).ext (Ext.drew M w1)
    have hM1 := (HB.out.below (by simpa using hb1)).ext (Ext.drew M w1)
    have hSS : C4 w1.drew w.heap.size (some ⟨xb, xo, none⟩) acn (some ⟨yb, yo, none⟩) aco a ∧ C4 w1.drew (w.heap.size + 1) (some ⟨ub, uo, none⟩) bcn (some ⟨vb, vo, none⟩) bco b := ⟨(hCa.below hB1 (by omega)).drew, (hCb.below hB1 (by omega)).drew⟩
    have hB2 := (h0.trans (hB1.mono (by omega))).drew
    have hz2 : w.heap.size + 2 ≤ w1.drew.heap.size := hz1
    clear hb1 HC hB1 hCa hCb
    go_wp2
    refine wp_region_L (fun w' => C4 w' w.heap.size (some ⟨xb, xo, none⟩) acn (some ⟨yb, yo, none⟩) aco a ∧ C4 w' (w.heap.size + 1) (some ⟨ub, uo, none⟩) bcn (some ⟨vb, vo, none⟩) bco b) [0, 2] (by kernel_rfl) ?_
    generalize w1.drew = w2 at *
    refine wpAnyL_take (i := 0) (v := ?v1) rfl (by kernel_rfl) (by kernel_rfl) (by kernel_rfl) (by kernel_rfl) (fun _ _ _ h => h) (Or.inl ⟨by rfl, ?y1⟩) (by assumption) ?r1
    case y1 => (intro w' hSw; (try dsimp only at hSw); go_simp; try with_reducible rfl)
    try simp only [Act.put, List.setIfInBounds_toArray, List.set_cons_zero, List.set_cons_succ]
    refine wpAnyL_take (i := 2) (v := ?v2) rfl (by kernel_rfl) (by kernel_rfl) (by kernel_rfl) (by kernel_rfl) (fun _ _ _ h => h) (Or.inl ⟨by rfl, ?y2⟩) (by assumption) ?r2
    case y2 => (intro w' hSw; (try dsimp only at hSw); go_simp; try with_reducible rfl)
    try simp only [Act.put, List.setIfInBounds_toArray, List.set_cons_zero, List.set_cons_succ]
    have HR := Lib.hid (reach_any hA1)
    refine wpAnyL_one (i := 1) (by kernel_rfl) rfl rfl (fun K hK => ?_)
    go_simp
    refine (HR.out).mono ?_
    rintro e w3 ⟨a1, c1, l1, rfl, hl1, hs1, hb3⟩
    have hS3 : C4 w3 w.heap.size (some ⟨xb, xo, none⟩) acn (some ⟨yb, yo, none⟩) aco a ∧ C4 w3 (w.heap.size + 1) (some ⟨ub, uo, none⟩) bcn (some ⟨vb, vo, none⟩) bco b := ⟨hSS.1.below hb3 (by omega), hSS.2.below hb3 (by omega)⟩
    have hz3 := hb3.size
    refine hK _ _ (fun _ => hS3) ?_
    clear hK K HR hSS
    have HR := Lib.hid (reach_any (hM1.below hb3))
    have hA3 := hA1.below hb3
    have hM3 := hM1.below hb3
    have hB3 := hB2.trans (hb3.mono (by omega))
    clear hA1 hM1 hB2 hb3
    refine wpAnyL_one (i := 3) (by kernel_rfl) rfl rfl (fun K hK => ?_)
    go_simp
    refine (HR.out).mono ?_
    rintro e w4 ⟨a2, c2, l2, rfl, hl2, hs2, hb4⟩
    have hS4 : C4 w4 w.heap.size (some ⟨xb, xo, none⟩) acn (some ⟨yb, yo, none⟩) aco a ∧ C4 w4 (w.heap.size + 1) (some ⟨ub, uo, none⟩) bcn (some ⟨vb, vo, none⟩) bco b := ⟨hS3.1.below hb4 (by omega), hS3.2.below hb4 (by omega)⟩
    have hz4 : w.heap.size + 2 ≤ w4.heap.size := by have := hb4.size; omega
    refine hK _ _ (fun _ => hS4) ?_
    clear hK K HR hS3
    have hA4 := Lib.hid (hA3.below hb4)
    have hM4 := Lib.hid (hM3.below hb4)
    have hB4 := hB3.trans (hb4.mono (by omega))
    have hs14 := (hs1.below hb4).anti (M' := fun _ => False) (fun _ _ h => h.elim)
    have hs24 := hs2.anti (M' := fun _ => False) (fun _ _ h => h.elim)
    clear hA3 hM3 hB3 hb4 hs1 hs2
    refine wpAnyL_one (i := 4) (by kernel_rfl) rfl rfl (fun K hK => ?_)
    go_simp
    refine hK _ _ (fun _ => hS4) ?_
    clear hK K
    refine wpAnyL_one (i := 5) (by kernel_rfl) rfl rfl (fun K hK => ?_)
    go_simp
    refine hK _ _ (fun _ => hS4) ?_
    clear hK K
    refine wpAnyL_done (by kernel_rfl) ?_ _
    have HL1 : Hid (l1 = a.reach) := by have := hl1.out; unfold Mach.reachOf at this; rwa [if_pos HZ.out.1] at this
    have HL2 : Hid (l2 = b.reach) := by have := hl2.out; unfold Mach.reachOf at this; rwa [if_pos HZ.out.2.1] at this
    have hl1n : l1.length ≤ 128 := by rw [HL1.out]; have := Mach.reach_le OA.out; omega
    have hl2n : l2.length ≤ 128 := by rw [HL2.out]; have := Mach.reach_le OB.out; omega
    clear hl1 hl2
    have hS4k := Lib.hid hS4
    obtain ⟨⟨j0, j1, j2, j3⟩, ⟨k0, k1, k2, k3⟩⟩ := hS4
    by_cases h1 : l1.length = a.next.length
    · have h1' : (((l1.length : Nat) : Int) != ((a.next.length : Nat) : Int)) = false := by simp [h1]
      by_cases h2 : l2.length = b.next.length
      · have h2' : (((l2.length : Nat) : Int) != ((b.next.length : Nat) : Int)) = false := by simp [h2]
        by_cases h3 : l1.length = l2.length
        · have h3' : (((l1.length : Nat) : Int) != ((l2.length : Nat) : Int)) = false := by simp [h3]
          have H1 := Lib.hid h1
          have H2 := Lib.hid h2
          have H3 := Lib.hid h3
          clear h1 h2 h3
          go_wp2_with (at_make; refine wpList_mk_i (B := w4.heap.size) (n := l1.length) rfl rfl Try.underlying27 info_int rfl (by omega) (Nat.le_refl _) ?_)
          intro g c num w5 hnum hO5 hb5 hg
          have hnl : Hid (num.length = l1.length) := by unfold Hid; rw [hnum.out, List.length_replicate]
          have hz5 := hb5.size
          have hnl1 : num.length ≤ l1.length := Nat.le_of_eq hnl.out
          have hnl2 : l1.length ≤ num.length := Nat.le_of_eq hnl.out.symm
          clear j0 j1 j2 j3 k0 k1 k2 k3
          go_wp2
          have hnm0 : Hid (num = fillL l1 l2 0) := hnum.out
          go_loopw [52] (fun i wr => ∃ (k : Nat) (nm : List Int), k ≤ l1.length ∧ i = .int .i64 k ∧ Hid (nm = fillL l1 l2 k) ∧ Hid (num.length = nm.length) ∧ Ow w4.heap.size (fun k => w4.heap.size ≤ k) wr 3 (.slice (some ⟨g, 0, none⟩) num.length c) nm ∧ Below w4.heap.size w4 wr) (fun i _ => l1.length - (intOf i).toNat)
          case atStart => exact ⟨0, num, by omega, rfl, hnm0, rfl, hO5, hb5⟩
          case round =>
            clear hO5 hb5 hnum hnm0
            obtain ⟨k, nm, hk, rfl, hnm, hnn, hO, hB⟩ := hrel
            obtain ⟨w6, rfl⟩ : ∃ w6 : World, w6 = wr := ⟨_, rfl⟩
            by_cases hlt : k < l1.length
            · have hlt2 : k < l2.length := by rw [← H3.out]; exact hlt
              obtain ⟨b1, o1, x0, rfl, hxc, hx0, -⟩ := (hs14.below hB).at_int hlt
              obtain ⟨b2, o2, y0, rfl, hyc, hy0, hy64⟩ := (hs24.below hB).at_int hlt2
              have hxr := (Mach.reach_props OA.out).2.1 x0 (by rw [← HL1.out]; exact List.mem_of_getElem? hx0.out)
              obtain ⟨x, rfl⟩ := Int.eq_ofNat_of_zero_le hxr.1
              have hxn : x < num.length := by have := H1.out; omega
              have hxm : x < nm.length := by have := hnn.out; omega
              obtain ⟨g', z, hg', hzc, hzf, -, -⟩ := hO.at_int' hnn.out hxm
              obtain rfl : g = g' := by simpa using hg'
              have hO2 := hO.set_int hnn.out (show w4.heap.size ≤ g by omega) (x := y0) x hy64.out
              have hB2 := hB.setCell (p := ⟨g, x, none⟩) (show w4.heap.size ≤ g by omega) (.int .i64 y0)
              have hnm2 : Hid (nm.set x y0 = fillL l1 l2 (k + 1)) := by
                unfold Hid; rw [hnm.out]; simp only [fillL]; rw [getD_of_some hx0.out, getD_of_some hy0.out, Int.toNat_natCast]
              clear hO hB
              go_wp2
              go_roundw
              case rel => exact ⟨k + 1, _, by omega, by go_num, hnm2, by unfold Hid; rw [List.length_set]; exact hnn.out, hO2, hB2⟩
              case measure => simp [intOf]; omega
            · have HT : Hid (nm = isoT a b) := by unfold Hid isoT; rw [hnm.out, HL1.out, HL2.out, show k = a.reach.length by rw [← HL1.out]; omega]
              have hrange : Hid (∀ z ∈ nm, 0 ≤ z ∧ z < b.next.length) := by
                unfold Hid; rw [hnm.out]
                exact fillL_range OB.out.n0 (by rw [HL2.out]; exact (Mach.reach_props OB.out).2.1) H3.out k hk
              have hnmn : Hid (nm.length = a.next.length) := by unfold Hid; rw [← hnn.out, hnl.out, H1.out]
              have HA6 := Lib.hid (hA4.out.below hB)
              have HB6 := Lib.hid (hM4.out.below hB)
              clear hnm
              go_wp2
              have HD0 : Hid (∃ n, w6 = w6.drewN n) := ⟨0, rfl⟩
              have HG0 : Hid (∀ s, s < 0 → ∀ i, i < a.inputs.toNat → isoAt a b nm s i) := fun s hs => absurd hs (Nat.not_lt_zero s)
              go_loopw [67] (fun i wr => ∃ k : Nat, k ≤ num.length ∧ i = .int .i64 k ∧ Hid (∀ s, s < k → ∀ i, i < a.inputs.toNat → isoAt a b nm s i) ∧ Hid (∃ n, wr = w6.drewN n)) (fun i _ => num.length - (intOf i).toNat)
              case atStart => exact ⟨0, by omega, rfl, HG0, HD0⟩
              case round =>
                clear HD0 HG0
                obtain ⟨s, hsn, rfl, hgood, hD⟩ := hrel
                obtain ⟨w7, rfl⟩ : ∃ w7 : World, w7 = wr := ⟨_, rfl⟩
                have hO7 : Ow w4.heap.size (fun k => w4.heap.size ≤ k) w7 3 (.slice (some ⟨g, 0, none⟩) num.length c) nm := by obtain ⟨n, e⟩ := hD.out; rw [e]; exact hO.drewN n
                have hB7 : Below w4.heap.size w4 w7 := by obtain ⟨n, e⟩ := hD.out; rw [e]; exact bl_drewN hB n
                by_cases hls : s < num.length
                · have hsm : s < nm.length := by have := hnn.out; omega
                  have hsa : s < a.next.length := by have := hnmn.out; omega
                  have hsao : s < a.out.length := by rw [OA.out.lo]; exact hsa
                  obtain ⟨g', t0, hg', htc, -, ht0, -⟩ := hO7.at_int' hnn.out hsm
                  obtain rfl : g = g' := by simpa using hg'
                  have htr := hrange.out t0 (List.mem_of_getElem? ht0.out)
                  obtain ⟨t, rfl⟩ := Int.eq_ofNat_of_zero_le htr.1
                  have htn : t < b.next.length := by omega
                  have hto : t < b.out.length := by rw [OB.out.lo]; exact htn
                  obtain ⟨⟨j0, j1, j2, j3⟩, -⟩ := (show C4 w7 w.heap.size (some ⟨xb, xo, none⟩) acn (some ⟨yb, yo, none⟩) aco a ∧ C4 w7 (w.heap.size + 1) (some ⟨ub, uo, none⟩) bcn (some ⟨vb, vo, none⟩) bco b from ⟨hS4k.out.1.below hB7 (by omega), hS4k.out.2.below hB7 (by omega)⟩)
                  go_wp2
                  have HG1 : Hid (∀ i, i < 0 → isoAt a b nm s i) := fun i hi => absurd hi (Nat.not_lt_zero i)
                  go_loopw [74] (fun i wr => ∃ j : Nat, j ≤ a.inputs.toNat ∧ i = .int .i64 j ∧ Hid (∀ i, i < j → isoAt a b nm s i) ∧ Hid (∃ n, wr = w6.drewN n)) (fun i _ => a.inputs.toNat - (intOf i).toNat)
                  case atStart => exact ⟨0, by omega, rfl, HG1, hD⟩
                  case round =>
                    clear HG1 j0 j1 j2 j3 hO7 hB7 htc
                    obtain ⟨j, hj, rfl, hrow, hD8⟩ := hrel
                    obtain ⟨w8, rfl⟩ : ∃ w8 : World, w8 = wr := ⟨_, rfl⟩
                    have hO8 : Ow w4.heap.size (fun k => w4.heap.size ≤ k) w8 3 (.slice (some ⟨g, 0, none⟩) num.length c) nm := by obtain ⟨n, e⟩ := hD8.out; rw [e]; exact hO.drewN n
                    have hB8 : Below w4.heap.size w4 w8 := by obtain ⟨n, e⟩ := hD8.out; rw [e]; exact bl_drewN hB n
                    obtain ⟨⟨j0, j1, j2, j3⟩, ⟨k0, k1, k2, k3⟩⟩ := (show C4 w8 w.heap.size (some ⟨xb, xo, none⟩) acn (some ⟨yb, yo, none⟩) aco a ∧ C4 w8 (w.heap.size + 1) (some ⟨ub, uo, none⟩) bcn (some ⟨vb, vo, none⟩) bco b from ⟨hS4k.out.1.below hB8 (by omega), hS4k.out.2.below hB8 (by omega)⟩)
                    by_cases hlj : j < a.inputs.toNat
                    · have hlj2 : j < b.inputs.toNat := by rw [← HZ.out.2.2]; exact hlj
                      have hlj3 : (j : Int) < a.inputs := by omega
                      obtain ⟨b1, o1, c1, e1, b2, o2, c2, e2, n, y, ha1, ha2, ha3, ha4, ha5, ha6, ha7, ha8, ha9, ha10, ha11, ha12, ha13⟩ := (hA4.out.below hB8).atS OA.out hsa hlj
                      obtain ⟨b3, o3, c3, e3, b4, o4, c4, e4, n', y', hb1, hb2, hb3, hb4, hb5, hb6, hb7, hb8, hb9, hb10, hb11, hb12, hb13⟩ := (hM4.out.below hB8).atS OB.out htn hlj2
                      have hnn1 : n < nm.length := by have := hnmn.out; omega
                      have hnn2 : n < num.length := by have := hnn.out; omega
                      have hnn3 : s < num.length := hls
                      obtain ⟨g', z, hg', hzc, -, hz, -⟩ := hO8.at_int' hnn.out hnn1
                      obtain rfl : g = g' := by simpa using hg'
                      obtain ⟨g', t9, hg', htc, -, ht9, -⟩ := hO8.at_int' hnn.out hsm
                      obtain rfl : g = g' := by simpa using hg'
                      obtain rfl : (t : Int) = t9 := by have h1 := ht9.out; rw [ht0.out] at h1; simpa using h1
                      have hat : Hid (isoAt a b nm s j ↔ y = y' ∧ z = (n' : Int)) := by
                        unfold Hid isoAt
                        rw [getD_of_some ht0.out, Int.toNat_natCast, ha9.out, hb9.out, ha8.out, hb8.out, Int.toNat_natCast, getD_of_some hz.out]
                      by_cases hy : y = y'
                      · have hyb : (y != y') = false := by simp [hy]
                        have HY := Lib.hid hy
                        clear hy
                        by_cases hz1 : z = (n' : Int)
                        · have hzb : (z != (n' : Int)) = false := by simp [hz1]
                          have hrow2 : Hid (∀ i, i < j + 1 → isoAt a b nm s i) := by
                            intro i hi
                            by_cases e : i = j
                            · subst e; exact hat.out.2 ⟨HY.out, hz1⟩
                            · exact hrow.out i (by omega)
                          clear hz1
                          go_wp2
                          refine wp_quiet_fast (by kernel_rfl) (by kernel_rfl) ?_
                          repeat (first | go_big_quiet_step (fail) | quiet_step (fail))
                          refine wpQuiet_nil ?_
                          intro _ hw'
                          obtain ⟨nq, hw''⟩ := hw'
                          subst hw''
                          go_wp2
                          go_roundw
                          case rel => exact ⟨j + 1, by omega, by go_num, hrow2, dr_add hD8 _⟩
                          case measure => simp [intOf]; omega
                        · have hzb : (z != (n' : Int)) = true := by simp [hz1]
                          have HN := Lib.hid (isoW_no (a := a) (b := b) (fun e => hz1 (hat.out.1 (HT.out ▸ e.2 s (by rw [← HL1.out, H1.out]; exact hsa) j hlj)).2))
                          clear hz1
                          have hBf := hB4.trans (hB8.mono (by omega))
                          go_wp2
                          refine wp_quiet_fast (by kernel_rfl) (by kernel_rfl) ?_
                          repeat (first | go_big_quiet_step (fail) | quiet_step (fail))
                          refine wpQuiet_nil ?_
                          intro _ hw'
                          obtain ⟨nq, hw''⟩ := hw'
                          subst hw''
                          go_wp2
                          go_ret3
                          refine ⟨none, 0, [], false, ret3_int H.out.symm, ?_, Sl.nil _ _ _ (by unfold maxLen; omega), bl_drewN hBf _⟩
                          unfold Hid; rw [HN.out]; exact ⟨rfl, rfl⟩
                      · have hyb : (y != y') = true := by simp [hy]
                        have HN := Lib.hid (isoW_no (a := a) (b := b) (fun e => hy (hat.out.1 (HT.out ▸ e.2 s (by rw [← HL1.out, H1.out]; exact hsa) j hlj)).1))
                        clear hy
                        have hBf := hB4.trans (hB8.mono (by omega))
                        go_wp2
                        refine wp_quiet_fast (by kernel_rfl) (by kernel_rfl) ?_
                        repeat (first | go_big_quiet_step (fail) | quiet_step (fail))
                        refine wpQuiet_nil ?_
                        intro _ hw'
                        obtain ⟨nq, hw''⟩ := hw'
                        subst hw''
                        go_wp2
                        go_ret3
                        refine ⟨none, 0, [], false, ret3_int H.out.symm, ?_, Sl.nil _ _ _ (by unfold maxLen; omega), bl_drewN hBf _⟩
                        unfold Hid; rw [HN.out]; exact ⟨rfl, rfl⟩
                    · have hlj3 : ¬ (j : Int) < a.inputs := by omega
                      have hgood2 : Hid (∀ s', s' < s + 1 → ∀ i, i < a.inputs.toNat → isoAt a b nm s' i) := by
                        intro s' hs' i hi
                        by_cases e : s' = s
                        · subst e; exact hrow.out i (by omega)
                        · exact hgood.out s' (by omega) i hi
                      go_wp2
                      go_roundw
                      case rel => exact ⟨s + 1, by omega, by go_num, hgood2, hD8⟩
                      case measure => simp [intOf]; omega
                · have HN := Lib.hid (isoW_yes (a := a) (b := b) H.out ⟨⟨by rw [← HL1.out]; exact H1.out, by rw [← HL2.out]; exact H2.out, by rw [← HL1.out, ← HL2.out]; exact H3.out⟩, fun s' hs' i hi => HT.out ▸ hgood.out s' (by rw [← HL1.out] at hs'; omega) i hi⟩)
                  have hBf := hB4.trans (hB7.mono (by omega))
                  have hSf : Sl (fun k => k < w.heap.size) w7 (some ⟨g, 0, none⟩) c nm := (ow_len hnn.out hO7).fresh (by omega)
                  go_wp2
                  go_ret3
                  refine ⟨_, c, nm, true, ret3_num hnn.out H.out.symm, ?_, hSf, hBf⟩
                  unfold Hid; rw [HN.out, HT.out]; exact ⟨rfl, rfl⟩
        · have h3' : (((l1.length : Nat) : Int) != ((l2.length : Nat) : Int)) = true := by simp; omega
          have HN := Lib.hid (isoW_no (a := a) (b := b) (fun e => h3 (by rw [HL1.out, HL2.out]; exact e.1.2.2)))
          have H1 := Lib.hid h1
          have H2 := Lib.hid h2
          have H3 := Lib.hid h3
          clear h1 h2 h3
          go_wp2
          go_ret3
          refine ⟨none, 0, [], false, ret3_int H.out.symm, ?_, Sl.nil _ _ _ (by unfold maxLen; omega), hB4⟩
          unfold Hid; rw [HN.out]; exact ⟨rfl, rfl⟩
      · have h2' : (((l2.length : Nat) : Int) != ((b.next.length : Nat) : Int)) = true := by simp; omega
        have HN := Lib.hid (isoW_no (a := a) (b := b) (fun e => h2 (by rw [HL2.out]; exact e.1.2.1)))
        have H1 := Lib.hid h1
        have H2 := Lib.hid h2
        clear h1 h2
        go_wp2
        go_ret3
        refine ⟨none, 0, [], false, ret3_int H.out.symm, ?_, Sl.nil _ _ _ (by unfold maxLen; omega), hB4⟩
        unfold Hid; rw [HN.out]; exact ⟨rfl, rfl⟩
    · have h1' : (((l1.length : Nat) : Int) != ((a.next.length : Nat) : Int)) = true := by simp; omega
      have HN := Lib.hid (isoW_no (a := a) (b := b) (fun e => h1 (by rw [HL1.out]; exact e.1.1)))
      have H1 := Lib.hid h1
      clear h1
      go_wp2
      go_ret3
      refine ⟨none, 0, [], false, ret3_int H.out.symm, ?_, Sl.nil _ _ _ (by unfold maxLen; omega), hB4⟩
      unfold Hid; rw [HN.out]; exact ⟨rfl, rfl⟩
  · have h' : (chk a b != 0) = true := by simp [h]
    have HN := Lib.hid (isoW_err h)
    clear h
    go_enter Try.func37, Try.ntmps37
    go_wp2_with fail
    refine (HC.out).mono ?_
    rintro e w1 ⟨rfl, hb1⟩
    have hB1 : Below (w.heap.size + 2) ((w.alloc (maO a an acn ao aco)).alloc (maO b bn bcn bo bco)) w1 := hb1.mono (by simp)
    have hBf := h0.trans (hB1.mono (by omega))
    clear HC hb1
    go_wp2
    go_ret3
    refine ⟨none, 0, [], false, rfl, ?_, Sl.nil _ _ _ (by unfold maxLen; omega), hBf⟩
    unfold Hid; rw [HN.out]; exact ⟨rfl, rfl⟩

set_option maxRecDepth 100000 in
set_option maxHeartbeats 8000000 in
theorem isoR_any (ha : Ma M w an acn ao aco a) (hb : Ma M w bn bcn bo bco b) :
    Calls Try.prog 38 #[maV a an acn ao aco, maV b bn bcn bo bco] w fun e w' => ∃ ad c l f, e = .returned (.tuple #[.slice ad l.length c, .bool f, .int .i64 (chk a b)]) ∧ Hid (ansW (isoW a b) l f) ∧ Sl (fun k => k < w.heap.size) w' ad c l ∧ Below w.heap.size w w' := by
  have HA := Lib.hid (ha.ext ((Ext.alloc M w (maO a an acn ao aco)).trans (Ext.alloc M _ (maO b bn bcn bo bco))))
  have HB := Lib.hid (hb.ext ((Ext.alloc M w (maO a an acn ao aco)).trans (Ext.alloc M _ (maO b bn bcn bo bco))))
  have h0 : Below w.heap.size w ((w.alloc (maO a an acn ao aco)).alloc (maO b bn bcn bo bco)) := ((Below.refl _ _).alloc (Nat.le_refl _) _).alloc (by simp) _
  have hCa : C4 ((w.alloc (maO a an acn ao aco)).alloc (maO b bn bcn bo bco)) w.heap.size an acn ao aco a := (c4_new w).below (B := w.heap.size + 1) ((Below.refl _ _).alloc (by simp) _) (by omega)
  have hCb : C4 ((w.alloc (maO a an acn ao aco)).alloc (maO b bn bcn bo bco)) (w.heap.size + 1) bn bcn bo bco b := by simpa using c4_new (m := b) (an := bn) (cn := bcn) (ao := bo) (co := bco) (w.alloc (maO a an acn ao aco))
  have HC := Lib.hid (checkR_any HA.out HB.out)
  clear ha hb
  by_cases h : chk a b = 0
  · have h' : (chk a b != 0) = false := by simp [h]
    have H := Lib.hid h
    have HZ := Lib.hid (chk_zero h)
    clear h
    have OA := Lib.hid (a.ok_of_err HZ.out.1)
    have OB := Lib.hid (b.ok_of_err HZ.out.2.1)
    have n1 := OA.out.n1
    have n1' := OB.out.n1
    have i0 := OA.out.i0
    have i1 := OA.out.i1
    obtain ⟨xb, xo, yb, yo, rfl, rfl⟩ := HA.out.addr OA.out
    obtain ⟨ub, uo, vb, vo, rfl, rfl⟩ := HB.out.addr OB.out
    go_enter Try.func38, Try.ntmps38
    go_wp2_with fail
    refine (HC.out).mono ?_
    rintro e w1 ⟨rfl, hb1⟩
    have hz1 : w.heap.size + 2 ≤ w1.heap.size := by have := hb1.size; simpa using this
    have hB1 : Below (w.heap.size + 2) ((w.alloc (maO a (some ⟨xb, xo, none⟩) acn (some ⟨yb, yo, none⟩) aco)).alloc (maO b (some ⟨ub, uo, none⟩) bcn (some ⟨vb, vo, none⟩) bco)) w1 := hb1.mono (by simp)
    have hA1 := (HA.out.below (by simpa using hb1)).ext (Ext.drew M w1)
    have hM1 := (HB.out.below (by simpa using hb1)).ext (Ext.drew M w1)
    have hSS : C4 w1.drew w.heap.size (some ⟨xb, xo, none⟩) acn (some ⟨yb, yo, none⟩) aco a ∧ C4 w1.drew (w.heap.size + 1) (some ⟨ub, uo, none⟩) bcn (some ⟨vb, vo, none⟩) bco b := ⟨(hCa.below hB1 (by omega)).drew, (hCb.below hB1 (by omega)).drew⟩
    have hB2 := (h0.trans (hB1.mono (by omega))).drew
    have hz2 : w.heap.size + 2 ≤ w1.drew.heap.size := hz1
    clear hb1 HC hB1 hCa hCb
    go_wp2
    refine wp_region_L (fun w' => C4 w' w.heap.size (some ⟨xb, xo, none⟩) acn (some ⟨yb, yo, none⟩) aco a ∧ C4 w' (w.heap.size + 1) (some ⟨ub, uo, none⟩) bcn (some ⟨vb, vo, none⟩) bco b) [0, 2] (by kernel_rfl) ?_
    generalize w1.drew = w2 at *
    refine wpAnyL_take (i := 0) (v := ?v3) rfl (by kernel_rfl) (by kernel_rfl) (by kernel_rfl) (by kernel_rfl) (fun _ _ _ h => h) (Or.inl ⟨by rfl, ?y3⟩) (by assumption) ?r3
    case y3 => (intro w' hSw; (try dsimp only at hSw); go_simp; try with_reducible rfl)
    try simp only [Act.put, List.setIfInBounds_toArray, List.set_cons_zero, List.set_cons_succ]
    refine wpAnyL_take (i := 2) (v := ?v4) rfl (by kernel_rfl) (by kernel_rfl) (by kernel_rfl) (by kernel_rfl) (fun _ _ _ h => h) (Or.inl ⟨by rfl, ?y4⟩) (by assumption) ?r4
    case y4 => (intro w' hSw; (try dsimp only at hSw); go_simp; try with_reducible rfl)
    try simp only [Act.put, List.setIfInBounds_toArray, List.set_cons_zero, List.set_cons_succ]
    have HR := Lib.hid (reachR_any hA1)
    refine wpAnyL_one (i := 1) (by kernel_rfl) rfl rfl (fun K hK => ?_)
    go_simp
    refine (HR.out).mono ?_
    rintro e w3 ⟨a1, c1, l1, rfl, hl1, hs1, hb3⟩
    have hS3 : C4 w3 w.heap.size (some ⟨xb, xo, none⟩) acn (some ⟨yb, yo, none⟩) aco a ∧ C4 w3 (w.heap.size + 1) (some ⟨ub, uo, none⟩) bcn (some ⟨vb, vo, none⟩) bco b := ⟨hSS.1.below hb3 (by omega), hSS.2.below hb3 (by omega)⟩
    have hz3 := hb3.size
    refine hK _ _ (fun _ => hS3) ?_
    clear hK K HR hSS
    have HR := Lib.hid (reachR_any (hM1.below hb3))
    have hA3 := hA1.below hb3
    have hM3 := hM1.below hb3
    have hB3 := hB2.trans (hb3.mono (by omega))
    clear hA1 hM1 hB2 hb3
    refine wpAnyL_one (i := 3) (by kernel_rfl) rfl rfl (fun K hK => ?_)
    go_simp
    refine (HR.out).mono ?_
    rintro e w4 ⟨a2, c2, l2, rfl, hl2, hs2, hb4⟩
    have hS4 : C4 w4 w.heap.size (some ⟨xb, xo, none⟩) acn (some ⟨yb, yo, none⟩) aco a ∧ C4 w4 (w.heap.size + 1) (some ⟨ub, uo, none⟩) bcn (some ⟨vb, vo, none⟩) bco b := ⟨hS3.1.below hb4 (by omega), hS3.2.below hb4 (by omega)⟩
    have hz4 : w.heap.size + 2 ≤ w4.heap.size := by have := hb4.size; omega
    refine hK _ _ (fun _ => hS4) ?_
    clear hK K HR hS3
    have hA4 := Lib.hid (hA3.below hb4)
    have hM4 := Lib.hid (hM3.below hb4)
    have hB4 := hB3.trans (hb4.mono (by omega))
    have hs14 := (hs1.below hb4).anti (M' := fun _ => False) (fun _ _ h => h.elim)
    have hs24 := hs2.anti (M' := fun _ => False) (fun _ _ h => h.elim)
    clear hA3 hM3 hB3 hb4 hs1 hs2
    refine wpAnyL_one (i := 4) (by kernel_rfl) rfl rfl (fun K hK => ?_)
    go_simp
    refine hK _ _ (fun _ => hS4) ?_
    clear hK K
    refine wpAnyL_one (i := 5) (by kernel_rfl) rfl rfl (fun K hK => ?_)
    go_simp
    refine hK _ _ (fun _ => hS4) ?_
    clear hK K
    refine wpAnyL_done (by kernel_rfl) ?_ _
    have HL1 : Hid (l1 = a.reach) := by have := hl1.out; unfold Mach.reachOf at this; rwa [if_pos HZ.out.1] at this
    have HL2 : Hid (l2 = b.reach) := by have := hl2.out; unfold Mach.reachOf at this; rwa [if_pos HZ.out.2.1] at this
    have hl1n : l1.length ≤ 128 := by rw [HL1.out]; have := Mach.reach_le OA.out; omega
    have hl2n : l2.length ≤ 128 := by rw [HL2.out]; have := Mach.reach_le OB.out; omega
    clear hl1 hl2
    have hS4k := Lib.hid hS4
    obtain ⟨⟨j0, j1, j2, j3⟩, ⟨k0, k1, k2, k3⟩⟩ := hS4
    by_cases h1 : l1.length = a.next.length
    · have h1' : (((l1.length : Nat) : Int) != ((a.next.length : Nat) : Int)) = false := by simp [h1]
      by_cases h2 : l2.length = b.next.length
      · have h2' : (((l2.length : Nat) : Int) != ((b.next.length : Nat) : Int)) = false := by simp [h2]
        by_cases h3 : l1.length = l2.length
        · have h3' : (((l1.length : Nat) : Int) != ((l2.length : Nat) : Int)) = false := by simp [h3]
          have H1 := Lib.hid h1
          have H2 := Lib.hid h2
          have H3 := Lib.hid h3
          clear h1 h2 h3
          go_wp2_with (at_make; refine wpList_mk_i (B := w4.heap.size) (n := l1.length) rfl rfl Try.underlying27 info_int rfl (by omega) (Nat.le_refl _) ?_)
          intro g c num w5 hnum hO5 hb5 hg
          have hnl : Hid (num.length = l1.length) := by unfold Hid; rw [hnum.out, List.length_replicate]
          have hz5 := hb5.size
          have hnl1 : num.length ≤ l1.length := Nat.le_of_eq hnl.out
          have hnl2 : l1.length ≤ num.length := Nat.le_of_eq hnl.out.symm
          clear j0 j1 j2 j3 k0 k1 k2 k3
          go_wp2
          have hnm0 : Hid (num = fillL l1 l2 0) := hnum.out
          go_loopw [11] (fun i wr => ∃ (k : Nat) (nm : List Int), k ≤ l1.length ∧ i = .int .i64 k ∧ Hid (nm = fillL l1 l2 k) ∧ Hid (num.length = nm.length) ∧ Ow w4.heap.size (fun k => w4.heap.size ≤ k) wr 3 (.slice (some ⟨g, 0, none⟩) num.length c) nm ∧ Below w4.heap.size w4 wr) (fun i _ => l1.length - (intOf i).toNat)
          case atStart => exact ⟨0, num, by omega, rfl, hnm0, rfl, hO5, hb5⟩
          case round =>
            clear hO5 hb5 hnum hnm0
            obtain ⟨k, nm, hk, rfl, hnm, hnn, hO, hB⟩ := hrel
            obtain ⟨w6, rfl⟩ : ∃ w6 : World, w6 = wr := ⟨_, rfl⟩
            by_cases hlt : k < l1.length
            · have hlt2 : k < l2.length := by rw [← H3.out]; exact hlt
              obtain ⟨b1, o1, x0, rfl, hxc, hx0, -⟩ := (hs14.below hB).at_int hlt
              obtain ⟨b2, o2, y0, rfl, hyc, hy0, hy64⟩ := (hs24.below hB).at_int hlt2
              have hxr := (Mach.reach_props OA.out).2.1 x0 (by rw [← HL1.out]; exact List.mem_of_getElem? hx0.out)
              obtain ⟨x, rfl⟩ := Int.eq_ofNat_of_zero_le hxr.1
              have hxn : x < num.length := by have := H1.out; omega
              have hxm : x < nm.length := by have := hnn.out; omega
              obtain ⟨g', z, hg', hzc, hzf, -, -⟩ := hO.at_int' hnn.out hxm
              obtain rfl : g = g' := by simpa using hg'
              have hO2 := hO.set_int hnn.out (show w4.heap.size ≤ g by omega) (x := y0) x hy64.out
              have hB2 := hB.setCell (p := ⟨g, x, none⟩) (show w4.heap.size ≤ g by omega) (.int .i64 y0)
              have hnm2 : Hid (nm.set x y0 = fillL l1 l2 (k + 1)) := by
                unfold Hid; rw [hnm.out]; simp only [fillL]; rw [getD_of_some hx0.out, getD_of_some hy0.out, Int.toNat_natCast]
              have hOd := hO.drew
              have hBd := hB.drew
              have hOd2 := hOd.set_int hnn.out (show w4.heap.size ≤ g by omega) (x := y0) x hy64.out
              have hBd2 := hBd.setCell (p := ⟨g, x, none⟩) (show w4.heap.size ≤ g by omega) (.int .i64 y0)
              have hzcd : w6.drew.cell? ⟨g, x, none⟩ = some (.int .i64 z) := by simpa using hzc
              have hzfd : w6.drew.frozen? ⟨g, x, none⟩ = false := by simpa using hzf
              have hSS : w6.drew.cell? ⟨b1, o1 + k, none⟩ = some (.int .i64 (x : Int)) ∧ w6.drew.cell? ⟨b2, o2 + k, none⟩ = some (.int .i64 y0) := ⟨by simpa using hxc, by simpa using hyc⟩
              clear hO2 hB2 hxc hyc hzc hzf
              go_wp2
              refine wp_region_L (fun w' => w'.cell? ⟨b1, o1 + k, none⟩ = some (.int .i64 (x : Int)) ∧ w'.cell? ⟨b2, o2 + k, none⟩ = some (.int .i64 y0)) [0, 1, 2, 3, 4, 5, 6, 7, 8] (by kernel_rfl) ?_
              clear hO hB hOd hBd
              generalize w6.drew = w7 at *
              refine wpAnyL_take (i := 0) (v := ?v5) rfl (by kernel_rfl) (by kernel_rfl) (by kernel_rfl) (by kernel_rfl) (fun _ _ _ h => h) (Or.inl ⟨by rfl, ?y5⟩) (by assumption) ?r5
              case y5 => (intro w' hSw; (try dsimp only at hSw); go_simp; try with_reducible rfl)
              try simp only [Act.put, List.setIfInBounds_toArray, List.set_cons_zero, List.set_cons_succ]
              refine wpAnyL_take (i := 1) (v := ?v6) rfl (by kernel_rfl) (by kernel_rfl) (by kernel_rfl) (by kernel_rfl) (fun _ _ _ h => h) (Or.inl ⟨by rfl, ?y6⟩) (by assumption) ?r6
              case y6 => (intro w' hSw; (try dsimp only at hSw); go_simp; try with_reducible rfl)
              try simp only [Act.put, List.setIfInBounds_toArray, List.set_cons_zero, List.set_cons_succ]
              refine wpAnyL_take (i := 2) (v := ?v7) rfl (by kernel_rfl) (by kernel_rfl) (by kernel_rfl) (by kernel_rfl) (fun _ _ _ h => h) (Or.inl ⟨by rfl, ?y7⟩) (by assumption) ?r7
              case y7 => (intro w' hSw; (try dsimp only at hSw); go_simp; try with_reducible rfl)
              try simp only [Act.put, List.setIfInBounds_toArray, List.set_cons_zero, List.set_cons_succ]
              refine wpAnyL_take (i := 3) (v := ?v8) rfl (by kernel_rfl) (by kernel_rfl) (by kernel_rfl) (by kernel_rfl) (fun _ _ _ h => h) (Or.inl ⟨by rfl, ?y8⟩) (by assumption) ?r8
              case y8 => (intro w' hSw; (try dsimp only at hSw); go_simp; try with_reducible rfl)
              try simp only [Act.put, List.setIfInBounds_toArray, List.set_cons_zero, List.set_cons_succ]
              refine wpAnyL_take (i := 4) (v := ?v9) rfl (by kernel_rfl) (by kernel_rfl) (by kernel_rfl) (by kernel_rfl) (fun _ _ _ h => h) (Or.inl ⟨by rfl, ?y9⟩) (by assumption) ?r9
              case y9 => (intro w' hSw; (try dsimp only at hSw); go_simp; try with_reducible rfl)
              try simp only [Act.put, List.setIfInBounds_toArray, List.set_cons_zero, List.set_cons_succ]
              refine wpAnyL_take (i := 5) (v := ?v10) rfl (by kernel_rfl) (by kernel_rfl) (by kernel_rfl) (by kernel_rfl) (fun _ _ _ h => h) (Or.inl ⟨by rfl, ?y10⟩) (by assumption) ?r10
              case y10 => (intro w' hSw; (try dsimp only at hSw); go_simp; try with_reducible rfl)
              try simp only [Act.put, List.setIfInBounds_toArray, List.set_cons_zero, List.set_cons_succ]
              refine wpAnyL_take (i := 6) (v := ?v11) rfl (by kernel_rfl) (by kernel_rfl) (by kernel_rfl) (by kernel_rfl) (fun _ _ _ h => h) (Or.inl ⟨by rfl, ?y11⟩) (by assumption) ?r11
              case y11 => (intro w' hSw; (try dsimp only at hSw); go_simp; try with_reducible rfl)
              try simp only [Act.put, List.setIfInBounds_toArray, List.set_cons_zero, List.set_cons_succ]
              refine wpAnyL_take (i := 7) (v := ?v12) rfl (by kernel_rfl) (by kernel_rfl) (by kernel_rfl) (by kernel_rfl) (fun _ _ _ h => h) (Or.inl ⟨by rfl, ?y12⟩) (by assumption) ?r12
              case y12 => (intro w' hSw; (try dsimp only at hSw); go_simp; try with_reducible rfl)
              try simp only [Act.put, List.setIfInBounds_toArray, List.set_cons_zero, List.set_cons_succ]
              refine wpAnyL_take (i := 8) (v := ?v13) rfl (by kernel_rfl) (by kernel_rfl) (by kernel_rfl) (by kernel_rfl) (fun _ _ _ h => h) (Or.inl ⟨by rfl, ?y13⟩) (by assumption) ?r13
              case y13 => (intro w' hSw; (try dsimp only at hSw); go_simp; try with_reducible rfl)
              try simp only [Act.put, List.setIfInBounds_toArray, List.set_cons_zero, List.set_cons_succ]
              refine wpAnyL_late (i := 9) (by kernel_rfl) (by kernel_rfl) rfl rfl (fun K hK => ?_)
              go_simp
              refine hK _ _ ?_
              clear hK K
              refine wpAnyL_late (i := 10) (by kernel_rfl) (by kernel_rfl) rfl rfl (fun K hK => ?_)
              go_simp
              refine hK _ _ ?_
              clear hK K
              refine wpAnyL_done (by kernel_rfl) ?_ _
              go_wp2
              go_roundw
              case rel => exact ⟨k + 1, _, by omega, by go_num, hnm2, by unfold Hid; rw [List.length_set]; exact hnn.out, hOd2, hBd2⟩
              case measure => simp [intOf]; omega
            · have HT : Hid (nm = isoT a b) := by unfold Hid isoT; rw [hnm.out, HL1.out, HL2.out, show k = a.reach.length by rw [← HL1.out]; omega]
              have hrange : Hid (∀ z ∈ nm, 0 ≤ z ∧ z < b.next.length) := by
                unfold Hid; rw [hnm.out]
                exact fillL_range OB.out.n0 (by rw [HL2.out]; exact (Mach.reach_props OB.out).2.1) H3.out k hk
              have hnmn : Hid (nm.length = a.next.length) := by unfold Hid; rw [← hnn.out, hnl.out, H1.out]
              have HA6 := Lib.hid (hA4.out.below hB)
              have HB6 := Lib.hid (hM4.out.below hB)
              clear hnm
              go_wp2
              have HD0 : Hid (∃ n, w6 = w6.drewN n) := ⟨0, rfl⟩
              have HG0 : Hid (∀ s, s < 0 → ∀ i, i < a.inputs.toNat → isoAt a b nm s i) := fun s hs => absurd hs (Nat.not_lt_zero s)
              go_loopw [12] (fun i wr => ∃ k : Nat, k ≤ num.length ∧ i = .int .i64 k ∧ Hid (∀ s, s < k → ∀ i, i < a.inputs.toNat → isoAt a b nm s i) ∧ Hid (∃ n, wr = w6.drewN n)) (fun i _ => num.length - (intOf i).toNat)
              case atStart => exact ⟨0, by omega, rfl, HG0, HD0⟩
              case round =>
                clear HD0 HG0
                obtain ⟨s, hsn, rfl, hgood, hD⟩ := hrel
                obtain ⟨w7, rfl⟩ : ∃ w7 : World, w7 = wr := ⟨_, rfl⟩
                have hO7 : Ow w4.heap.size (fun k => w4.heap.size ≤ k) w7 3 (.slice (some ⟨g, 0, none⟩) num.length c) nm := by obtain ⟨n, e⟩ := hD.out; rw [e]; exact hO.drewN n
                have hB7 : Below w4.heap.size w4 w7 := by obtain ⟨n, e⟩ := hD.out; rw [e]; exact bl_drewN hB n
                by_cases hls : s < num.length
                · have hsm : s < nm.length := by have := hnn.out; omega
                  have hsa : s < a.next.length := by have := hnmn.out; omega
                  have hsao : s < a.out.length := by rw [OA.out.lo]; exact hsa
                  obtain ⟨g', t0, hg', htc, -, ht0, -⟩ := hO7.at_int' hnn.out hsm
                  obtain rfl : g = g' := by simpa using hg'
                  have htr := hrange.out t0 (List.mem_of_getElem? ht0.out)
                  obtain ⟨t, rfl⟩ := Int.eq_ofNat_of_zero_le htr.1
                  have htn : t < b.next.length := by omega
                  have hto : t < b.out.length := by rw [OB.out.lo]; exact htn
                  obtain ⟨⟨j0, j1, j2, j3⟩, -⟩ := (show C4 w7 w.heap.size (some ⟨xb, xo, none⟩) acn (some ⟨yb, yo, none⟩) aco a ∧ C4 w7 (w.heap.size + 1) (some ⟨ub, uo, none⟩) bcn (some ⟨vb, vo, none⟩) bco b from ⟨hS4k.out.1.below hB7 (by omega), hS4k.out.2.below hB7 (by omega)⟩)
                  go_wp2
                  have HG1 : Hid (∀ i, i < 0 → isoAt a b nm s i) := fun i hi => absurd hi (Nat.not_lt_zero i)
                  go_loopw [13] (fun i wr => ∃ j : Nat, j ≤ a.inputs.toNat ∧ i = .int .i64 j ∧ Hid (∀ i, i < j → isoAt a b nm s i) ∧ Hid (∃ n, wr = w6.drewN n)) (fun i _ => a.inputs.toNat - (intOf i).toNat)
                  case atStart => exact ⟨0, by omega, rfl, HG1, hD⟩
                  case round =>
                    clear HG1 j0 j1 j2 j3 hO7 hB7 htc
                    obtain ⟨j, hj, rfl, hrow, hD8⟩ := hrel
                    obtain ⟨w8, rfl⟩ : ∃ w8 : World, w8 = wr := ⟨_, rfl⟩
                    have hO8 : Ow w4.heap.size (fun k => w4.heap.size ≤ k) w8 3 (.slice (some ⟨g, 0, none⟩) num.length c) nm := by obtain ⟨n, e⟩ := hD8.out; rw [e]; exact hO.drewN n
                    have hB8 : Below w4.heap.size w4 w8 := by obtain ⟨n, e⟩ := hD8.out; rw [e]; exact bl_drewN hB n
                    obtain ⟨⟨j0, j1, j2, j3⟩, ⟨k0, k1, k2, k3⟩⟩ := (show C4 w8 w.heap.size (some ⟨xb, xo, none⟩) acn (some ⟨yb, yo, none⟩) aco a ∧ C4 w8 (w.heap.size + 1) (some ⟨ub, uo, none⟩) bcn (some ⟨vb, vo, none⟩) bco b from ⟨hS4k.out.1.below hB8 (by omega), hS4k.out.2.below hB8 (by omega)⟩)
                    by_cases hlj : j < a.inputs.toNat
                    · have hlj2 : j < b.inputs.toNat := by rw [← HZ.out.2.2]; exact hlj
                      have hlj3 : (j : Int) < a.inputs := by omega
                      obtain ⟨b1, o1, c1, e1, b2, o2, c2, e2, n, y, ha1, ha2, ha3, ha4, ha5, ha6, ha7, ha8, ha9, ha10, ha11, ha12, ha13⟩ := (hA4.out.below hB8).atS OA.out hsa hlj
                      obtain ⟨b3, o3, c3, e3, b4, o4, c4, e4, n', y', hb1, hb2, hb3, hb4, hb5, hb6, hb7, hb8, hb9, hb10, hb11, hb12, hb13⟩ := (hM4.out.below hB8).atS OB.out htn hlj2
                      have hnn1 : n < nm.length := by have := hnmn.out; omega
                      have hnn2 : n < num.length := by have := hnn.out; omega
                      have hnn3 : s < num.length := hls
                      obtain ⟨g', z, hg', hzc, -, hz, -⟩ := hO8.at_int' hnn.out hnn1
                      obtain rfl : g = g' := by simpa using hg'
                      obtain ⟨g', t9, hg', htc, -, ht9, -⟩ := hO8.at_int' hnn.out hsm
                      obtain rfl : g = g' := by simpa using hg'
                      obtain rfl : (t : Int) = t9 := by have h1 := ht9.out; rw [ht0.out] at h1; simpa using h1
                      have hat : Hid (isoAt a b nm s j ↔ y = y' ∧ z = (n' : Int)) := by
                        unfold Hid isoAt
                        rw [getD_of_some ht0.out, Int.toNat_natCast, ha9.out, hb9.out, ha8.out, hb8.out, Int.toNat_natCast, getD_of_some hz.out]
                      by_cases hy : y = y'
                      · have hyb : (y != y') = false := by simp [hy]
                        have HY := Lib.hid hy
                        clear hy
                        by_cases hz1 : z = (n' : Int)
                        · have hzb : (z != (n' : Int)) = false := by simp [hz1]
                          have hrow2 : Hid (∀ i, i < j + 1 → isoAt a b nm s i) := by
                            intro i hi
                            by_cases e : i = j
                            · subst e; exact hat.out.2 ⟨HY.out, hz1⟩
                            · exact hrow.out i (by omega)
                          clear hz1
                          go_wp2
                          refine wp_quiet_fast (by kernel_rfl) (by kernel_rfl) ?_
                          repeat (first | go_big_quiet_step (fail) | quiet_step (fail))
                          refine wpQuiet_nil ?_
                          intro _ hw'
                          obtain ⟨nq, hw''⟩ := hw'
                          subst hw''
                          go_wp2
                          go_roundw
                          case rel => exact ⟨j + 1, by omega, by go_num, hrow2, dr_add hD8 _⟩
                          case measure => simp [intOf]; omega
                        · have hzb : (z != (n' : Int)) = true := by simp [hz1]
                          have HN := Lib.hid (isoW_no (a := a) (b := b) (fun e => hz1 (hat.out.1 (HT.out ▸ e.2 s (by rw [← HL1.out, H1.out]; exact hsa) j hlj)).2))
                          clear hz1
                          have hBf := hB4.trans (hB8.mono (by omega))
                          go_wp2
                          refine wp_quiet_fast (by kernel_rfl) (by kernel_rfl) ?_
                          repeat (first | go_big_quiet_step (fail) | quiet_step (fail))
                          refine wpQuiet_nil ?_
                          intro _ hw'
                          obtain ⟨nq, hw''⟩ := hw'
                          subst hw''
                          go_wp2
                          go_ret3
                          refine ⟨none, 0, [], false, ret3_int H.out.symm, ?_, Sl.nil _ _ _ (by unfold maxLen; omega), bl_drewN hBf _⟩
                          unfold Hid; rw [HN.out]; exact ⟨rfl, rfl⟩
                      · have hyb : (y != y') = true := by simp [hy]
                        have HN := Lib.hid (isoW_no (a := a) (b := b) (fun e => hy (hat.out.1 (HT.out ▸ e.2 s (by rw [← HL1.out, H1.out]; exact hsa) j hlj)).1))
                        clear hy
                        have hBf := hB4.trans (hB8.mono (by omega))
                        go_wp2
                        refine wp_quiet_fast (by kernel_rfl) (by kernel_rfl) ?_
                        repeat (first | go_big_quiet_step (fail) | quiet_step (fail))
                        refine wpQuiet_nil ?_
                        intro _ hw'
                        obtain ⟨nq, hw''⟩ := hw'
                        subst hw''
                        go_wp2
                        go_ret3
                        refine ⟨none, 0, [], false, ret3_int H.out.symm, ?_, Sl.nil _ _ _ (by unfold maxLen; omega), bl_drewN hBf _⟩
                        unfold Hid; rw [HN.out]; exact ⟨rfl, rfl⟩
                    · have hlj3 : ¬ (j : Int) < a.inputs := by omega
                      have hgood2 : Hid (∀ s', s' < s + 1 → ∀ i, i < a.inputs.toNat → isoAt a b nm s' i) := by
                        intro s' hs' i hi
                        by_cases e : s' = s
                        · subst e; exact hrow.out i (by omega)
                        · exact hgood.out s' (by omega) i hi
                      go_wp2
                      go_roundw
                      case rel => exact ⟨s + 1, by omega, by go_num, hgood2, hD8⟩
                      case measure => simp [intOf]; omega
                · have HN := Lib.hid (isoW_yes (a := a) (b := b) H.out ⟨⟨by rw [← HL1.out]; exact H1.out, by rw [← HL2.out]; exact H2.out, by rw [← HL1.out, ← HL2.out]; exact H3.out⟩, fun s' hs' i hi => HT.out ▸ hgood.out s' (by rw [← HL1.out] at hs'; omega) i hi⟩)
                  have hBf := hB4.trans (hB7.mono (by omega))
                  have hSf : Sl (fun k => k < w.heap.size) w7 (some ⟨g, 0, none⟩) c nm := (ow_len hnn.out hO7).fresh (by omega)
                  go_wp2
                  go_ret3
                  refine ⟨_, c, nm, true, ret3_num hnn.out H.out.symm, ?_, hSf, hBf⟩
                  unfold Hid; rw [HN.out, HT.out]; exact ⟨rfl, rfl⟩
        · have h3' : (((l1.length : Nat) : Int) != ((l2.length : Nat) : Int)) = true := by simp; omega
          have HN := Lib.hid (isoW_no (a := a) (b := b) (fun e => h3 (by rw [HL1.out, HL2.out]; exact e.1.2.2)))
          have H1 := Lib.hid h1
          have H2 := Lib.hid h2
          have H3 := Lib.hid h3
          clear h1 h2 h3
          go_wp2
          go_ret3
          refine ⟨none, 0, [], false, ret3_int H.out.symm, ?_, Sl.nil _ _ _ (by unfold maxLen; omega), hB4⟩
          unfold Hid; rw [HN.out]; exact ⟨rfl, rfl⟩
      · have h2' : (((l2.length : Nat) : Int) != ((b.next.length : Nat) : Int)) = true := by simp; omega
        have HN := Lib.hid (isoW_no (a := a) (b := b) (fun e => h2 (by rw [HL2.out]; exact e.1.2.1)))
        have H1 := Lib.hid h1
        have H2 := Lib.hid h2
        clear h1 h2
        go_wp2
        go_ret3
        refine ⟨none, 0, [], false, ret3_int H.out.symm, ?_, Sl.nil _ _ _ (by unfold maxLen; omega), hB4⟩
        unfold Hid; rw [HN.out]; exact ⟨rfl, rfl⟩
    · have h1' : (((l1.length : Nat) : Int) != ((a.next.length : Nat) : Int)) = true := by simp; omega
      have HN := Lib.hid (isoW_no (a := a) (b := b) (fun e => h1 (by rw [HL1.out]; exact e.1.1)))
      have H1 := Lib.hid h1
      clear h1
      go_wp2
      go_ret3
      refine ⟨none, 0, [], false, ret3_int H.out.symm, ?_, Sl.nil _ _ _ (by unfold maxLen; omega), hB4⟩
      unfold Hid; rw [HN.out]; exact ⟨rfl, rfl⟩
  · have h' : (chk a b != 0) = true := by simp [h]
    have HN := Lib.hid (isoW_err h)
    clear h
    go_enter Try.func38, Try.ntmps38
    go_wp2_with fail
    refine (HC.out).mono ?_
    rintro e w1 ⟨rfl, hb1⟩
    have hB1 : Below (w.heap.size + 2) ((w.alloc (maO a an acn ao aco)).alloc (maO b bn bcn bo bco)) w1 := hb1.mono (by simp)
    have hBf := h0.trans (hB1.mono (by omega))
    clear HC hb1
    go_wp2
    go_ret3
    refine ⟨none, 0, [], false, rfl, ?_, Sl.nil _ _ _ (by unfold maxLen; omega), hBf⟩
    unfold Hid; rw [HN.out]; exact ⟨rfl, rfl⟩
end
end Go.Proofs.Ytdnmgiabgpilkaa
