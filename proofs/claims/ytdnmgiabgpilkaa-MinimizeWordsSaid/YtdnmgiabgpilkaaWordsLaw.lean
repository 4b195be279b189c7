/- The law of chapter 8 on words. Condition: the number fits. -/
import Derived.Test.YtdnmgiabgpilkaaWordsP
import Derived.Test.YtdnmgiabgpilkaaFrom
import Derived.Test.YtdnmgiabgpilkaaSep
import Derived.Test.YtdnmgiabgpilkaaFinerLaw
namespace Go.Proofs.Ytdnmgiabgpilkaa
open Go.RowKit
namespace Mach
theorem frErr_in {m : Mach} (ok : m.Ok) {s : Nat} (hs : s < m.next.length) (w : List Int) : m.frErr s w = wErr w m.inputs ∧ m.frOut s w = if wErr w m.inputs = 0 then m.outsW s w else [] := by
  have h : m.stErr s = 0 := by
    unfold stErr
    rw [if_neg (by simp [m.err_of_ok ok]), if_neg (by omega)]
  by_cases e : wErr w m.inputs = 0
  · obtain ⟨h1, h2, -⟩ := frErr_0 h e
    rw [if_pos e]; exact ⟨h1.trans e.symm, h2⟩
  · obtain ⟨h1, h2, -⟩ := frErr_w h e
    rw [if_neg e]; exact ⟨h1, h2⟩
end Mach
section
variable {M M' : Nat → Prop} {w : World} {cn co : Nat} {m : Mach} {a : Option Addr} {c : Nat} {l : List Int} {bn on bo oo : Nat}

set_option maxRecDepth 100000 in
set_option maxHeartbeats 8000000 in
theorem words_main (hm : Ma M w (some ⟨bn, on, none⟩) cn (some ⟨bo, oo, none⟩) co m) (ok : m.Ok) (k : Nat) (hk : k ≤ 4) (hs : Sl M' w a c l) (hg : m.great = false) (hn : m.next.length ≤ 6) (hi : m.inputs ≤ 2) :
    Calls Try.prog 12 #[maV m (some ⟨bn, on, none⟩) cn (some ⟨bo, oo, none⟩) co, .int .u8 k, .slice a l.length c] w fun e w' => e = .returned (.bool true) ∧ Below w.heap.size w w' := by
  have hle := hm.next.le
  have hll := hs.le
  have HM := Lib.hid hm
  have HS := Lib.hid hs
  have OK := Lib.hid ok
  have HG := Lib.hid (great_any (hm.ext (Ext.alloc M w (maO m (some ⟨bn, on, none⟩) cn (some ⟨bo, oo, none⟩) co))))
  have he' : (m.err != 0) = false := by simp [m.err_of_ok ok]
  have hwr : Hid (IntKind.i64.wrap (k : Int) = (k : Int)) := IntWalk.i64_in _ (by omega)
  have hB0 := (Below.refl w.heap.size w).alloc (Nat.le_refl _) (maO m (some ⟨bn, on, none⟩) cn (some ⟨bo, oo, none⟩) co)
  have h40 := c4_new (m := m) (an := some ⟨bn, on, none⟩) (cn := cn) (ao := some ⟨bo, oo, none⟩) (co := co) w
  clear hm hs ok
  go_enter Try.func12, Try.ntmps12
  go_wp2_with fail
  refine (HG.out).mono ?_
  rintro e w1 ⟨rfl, hb1⟩
  rw [hg]
  have hB1 := hB0.trans (hb1.mono (by simp))
  have h41 := h40.below hb1 (by simp)
  have hz1 : w.heap.size + 1 ≤ w1.heap.size := by have := hb1.size; simpa using this
  clear hb1 HG hB0 h40 hg
  have HV := Lib.hid (valid6_any (HM.out.below hB1))
  go_wp2_with fail
  refine (HV.out).mono ?_
  rintro e w2 ⟨rfl, hb2⟩
  have hB2 := hB1.trans (hb2.mono (by omega))
  have h42 := h41.below hb2 (by omega)
  have hz2 : w.heap.size + 1 ≤ w2.heap.size := by have := hb2.size; omega
  clear hb2 HV hB1 h41
  have HP := Lib.hid (part_any (HM.out.below hB2) k)
  go_wp2_with fail
  refine (HP.out).mono ?_
  rintro e w3 ⟨a3, c3, l3, rfl, hl3, hs3, hb3⟩
  have hB3 := hB2.trans (hb3.mono (by omega))
  have h43 := h42.below hb3 (by omega)
  have hz3 : w.heap.size + 1 ≤ w3.heap.size := by have := hb3.size; omega
  have HS3 := Lib.hid hs3
  have H43 := Lib.hid h43
  clear hb3 HP hB2 h42 hs3
  have len3 : Hid (l3.length = m.next.length) := by unfold Hid; rw [hl3.out]; unfold Mach.partOf; rw [if_pos (m.err_of_ok OK.out), Mach.part_length]
  have t3 : (((l3.length : Nat) : Int) != ((m.next.length : Nat) : Int)) = false := by simp [len3.out]
  have l3b : l3.length ≤ 128 := by have := len3.out; have := OK.out.n1; omega
  have hBr := Below.refl w3.heap.size w3
  go_wp2
  clear h43
  go_loopw [59] (fun i wr => ∃ j : Nat, j ≤ l3.length ∧ i = .int .i64 j ∧ Below w3.heap.size w3 wr) (fun i _ => l3.length - (intOf i).toNat)
  case atStart => exact ⟨0, by omega, rfl, hBr⟩
  case round =>
    clear hBr
    obtain ⟨i, hi, rfl, hBi⟩ := hrel
    obtain ⟨w4, rfl⟩ : ∃ w4 : World, w4 = wr := ⟨_, rfl⟩
    by_cases hlt : i < l3.length
    · go_wp2
      go_loopw [63] (fun j wr => ∃ j' : Nat, j' ≤ i ∧ j = .int .i64 j' ∧ Below w3.heap.size w3 wr) (fun j _ => i - (intOf j).toNat)
      case atStart => exact ⟨0, by omega, rfl, hBi⟩
      case round =>
        clear hBi
        obtain ⟨j, hj, rfl, hB⟩ := hrel
        obtain ⟨w5, rfl⟩ : ∃ w5 : World, w5 = wr := ⟨_, rfl⟩
        by_cases hlj : j < i
        · have hi1 : i < m.next.length := by have := len3.out; omega
          have hj1 : j < m.next.length := by omega
          have hj3 : j < l3.length := by omega
          have h45 := H43.out.below hB (by omega)
          have hz5 : w.heap.size + 1 ≤ w5.heap.size := by have := hB.size; omega
          have HS5 := Lib.hid (HS3.out.below hB)
          obtain ⟨b5, o5, x, ha5, hxc, hx, -⟩ := HS5.out.at_int hlt
          obtain ⟨b5', o5', y, hb5, hyc, hy, -⟩ := HS5.out.at_int hj3
          subst ha5
          obtain ⟨rfl, rfl⟩ : b5 = b5' ∧ o5 = o5' := by simpa using hb5
          have hcl := Lib.hid (Mach.cls_iff OK.out (k := k) hl3.out hi1 hj1 hx.out hy.out)
          have htest : ((x == y) == m.sepB k i j) = false := by
            by_cases e : x = y
            · have := hcl.out.1 e
              simp [e, this]
            · have h2 : m.sepB k i j = true := by
                cases h3 : m.sepB k i j with
                | true => rfl
                | false => exact absurd (hcl.out.2 h3) e
              simp [e, h2]
          have hM5 := HM.out.below (hB3.trans (hB.mono (by omega)))
          have HM5 := Lib.hid hM5
          clear hM5
          go_wp2
          refine wp_region_L (fun w' => C4 w' w.heap.size (some ⟨bn, on, none⟩) cn (some ⟨bo, oo, none⟩) co m ∧ w'.cell? ⟨b5, o5 + i, none⟩ = some (.int .i64 x) ∧ w'.cell? ⟨b5, o5 + j, none⟩ = some (.int .i64 y)) [0, 1, 2, 3, 4, 5, 6, 7, 8, 9, 10, 11, 12, 13] (by kernel_rfl) ?_
          have hSS : C4 w5.drew w.heap.size (some ⟨bn, on, none⟩) cn (some ⟨bo, oo, none⟩) co m ∧ w5.drew.cell? ⟨b5, o5 + i, none⟩ = some (.int .i64 x) ∧ w5.drew.cell? ⟨b5, o5 + j, none⟩ = some (.int .i64 y) := ⟨h45.drew, by simpa using hxc, by simpa using hyc⟩
          have hBd := hB.drew
          have hzd : w.heap.size + 1 ≤ w5.drew.heap.size := hz5
          have HMd := Lib.hid (HM5.out.ext (Ext.drew _ _))
          clear hB h45 hz5 HM5 hxc hyc HS5
          generalize w5.drew = w6 at *
          refine wpAnyL_take (i := 0) (v := ?v1) rfl (by kernel_rfl) (by kernel_rfl) (by kernel_rfl) (by kernel_rfl) (fun _ _ _ h => h) (Or.inl ⟨by rfl, ?y1⟩) (by assumption) ?r1
          case y1 => (intro w' hSw; (try dsimp only at hSw); go_simp; try with_reducible rfl)
          try simp only [Act.put, List.setIfInBounds_toArray, List.set_cons_zero, List.set_cons_succ]
          refine wpAnyL_take (i := 1) (v := ?v2) rfl (by kernel_rfl) (by kernel_rfl) (by kernel_rfl) (by kernel_rfl) (fun _ _ _ h => h) (Or.inl ⟨by rfl, ?y2⟩) (by assumption) ?r2
          case y2 => (intro w' hSw; (try dsimp only at hSw); go_simp; try with_reducible rfl)
          try simp only [Act.put, List.setIfInBounds_toArray, List.set_cons_zero, List.set_cons_succ]
          refine wpAnyL_take (i := 2) (v := ?v3) rfl (by kernel_rfl) (by kernel_rfl) (by kernel_rfl) (by kernel_rfl) (fun _ _ _ h => h) (Or.inl ⟨by rfl, ?y3⟩) (by assumption) ?r3
          case y3 => (intro w' hSw; (try dsimp only at hSw); go_simp; try with_reducible rfl)
          try simp only [Act.put, List.setIfInBounds_toArray, List.set_cons_zero, List.set_cons_succ]
          refine wpAnyL_take (i := 3) (v := ?v4) rfl (by kernel_rfl) (by kernel_rfl) (by kernel_rfl) (by kernel_rfl) (fun _ _ _ h => h) (Or.inl ⟨by rfl, ?y4⟩) (by assumption) ?r4
          case y4 => (intro w' hSw; (try dsimp only at hSw); go_simp; try with_reducible rfl)
          try simp only [Act.put, List.setIfInBounds_toArray, List.set_cons_zero, List.set_cons_succ]
          refine wpAnyL_take (i := 4) (v := ?v5) rfl (by kernel_rfl) (by kernel_rfl) (by kernel_rfl) (by kernel_rfl) (fun _ _ _ h => h) (Or.inl ⟨by rfl, ?y5⟩) (by assumption) ?r5
          case y5 => (intro w' hSw; (try dsimp only at hSw); go_simp; try with_reducible rfl)
          try simp only [Act.put, List.setIfInBounds_toArray, List.set_cons_zero, List.set_cons_succ]
          refine wpAnyL_take (i := 5) (v := ?v6) rfl (by kernel_rfl) (by kernel_rfl) (by kernel_rfl) (by kernel_rfl) (fun _ _ _ h => h) (Or.inl ⟨by rfl, ?y6⟩) (by assumption) ?r6
          case y6 => (intro w' hSw; (try dsimp only at hSw); go_simp; try with_reducible rfl)
          try simp only [Act.put, List.setIfInBounds_toArray, List.set_cons_zero, List.set_cons_succ]
          refine wpAnyL_take (i := 6) (v := ?v7) rfl (by kernel_rfl) (by kernel_rfl) (by kernel_rfl) (by kernel_rfl) (fun _ _ _ h => h) (Or.inl ⟨by rfl, ?y7⟩) (by assumption) ?r7
          case y7 => (intro w' hSw; (try dsimp only at hSw); go_simp; try with_reducible rfl)
          try simp only [Act.put, List.setIfInBounds_toArray, List.set_cons_zero, List.set_cons_succ]
          refine wpAnyL_take (i := 7) (v := ?v8) rfl (by kernel_rfl) (by kernel_rfl) (by kernel_rfl) (by kernel_rfl) (fun _ _ _ h => h) (Or.inl ⟨by rfl, ?y8⟩) (by assumption) ?r8
          case y8 => (intro w' hSw; (try dsimp only at hSw); go_simp; try with_reducible rfl)
          try simp only [Act.put, List.setIfInBounds_toArray, List.set_cons_zero, List.set_cons_succ]
          refine wpAnyL_take (i := 8) (v := ?v9) rfl (by kernel_rfl) (by kernel_rfl) (by kernel_rfl) (by kernel_rfl) (fun _ _ _ h => h) (Or.inl ⟨by rfl, ?y9⟩) (by assumption) ?r9
          case y9 => (intro w' hSw; (try dsimp only at hSw); go_simp; try with_reducible rfl)
          try simp only [Act.put, List.setIfInBounds_toArray, List.set_cons_zero, List.set_cons_succ]
          refine wpAnyL_take (i := 9) (v := ?v10) rfl (by kernel_rfl) (by kernel_rfl) (by kernel_rfl) (by kernel_rfl) (fun _ _ _ h => h) (Or.inl ⟨by rfl, ?y10⟩) (by assumption) ?r10
          case y10 => (intro w' hSw; (try dsimp only at hSw); go_simp; try with_reducible rfl)
          try simp only [Act.put, List.setIfInBounds_toArray, List.set_cons_zero, List.set_cons_succ]
          refine wpAnyL_take (i := 10) (v := ?v11) rfl (by kernel_rfl) (by kernel_rfl) (by kernel_rfl) (by kernel_rfl) (fun _ _ _ h => h) (Or.inl ⟨by rfl, ?y11⟩) (by assumption) ?r11
          case y11 => (intro w' hSw; (try dsimp only at hSw); go_simp; try with_reducible rfl)
          try simp only [Act.put, List.setIfInBounds_toArray, List.set_cons_zero, List.set_cons_succ]
          refine wpAnyL_take (i := 11) (v := ?v12) rfl (by kernel_rfl) (by kernel_rfl) (by kernel_rfl) (by kernel_rfl) (fun _ _ _ h => h) (Or.inl ⟨by rfl, ?y12⟩) (by assumption) ?r12
          case y12 => (intro w' hSw; (try dsimp only at hSw); go_simp; try with_reducible rfl)
          try simp only [Act.put, List.setIfInBounds_toArray, List.set_cons_zero, List.set_cons_succ]
          refine wpAnyL_take (i := 12) (v := ?v13) rfl (by kernel_rfl) (by kernel_rfl) (by kernel_rfl) (by kernel_rfl) (fun _ _ _ h => h) (Or.inl ⟨by rfl, ?y13⟩) (by assumption) ?r13
          case y13 => (intro w' hSw; (try dsimp only at hSw); go_simp; try with_reducible rfl)
          try simp only [Act.put, List.setIfInBounds_toArray, List.set_cons_zero, List.set_cons_succ]
          refine wpAnyL_take (i := 13) (v := ?v14) rfl (by kernel_rfl) (by kernel_rfl) (by kernel_rfl) (by kernel_rfl) (fun _ _ _ h => h) (Or.inl ⟨by rfl, ?y14⟩) (by assumption) ?r14
          case y14 => (intro w' hSw; (try dsimp only at hSw); go_simp; try with_reducible rfl)
          try simp only [Act.put, List.setIfInBounds_toArray, List.set_cons_zero, List.set_cons_succ]
          refine wpAnyL_one (i := 14) (by kernel_rfl) rfl rfl (fun K hK => ?_)
          go_simp
          rw [hwr.out]
          refine (sep_any OK.out k hk w6 i j HMd.out hi1 hj1).mono ?_
          rintro e w7 ⟨rfl, hb7⟩
          have hB7 := hBd.trans (hb7.mono hBd.size)
          have h47 := hSS.1.below hb7 (by omega)
          have hz7 : w.heap.size + 1 ≤ w7.heap.size := by have := hb7.size; omega
          have hS7 : C4 w7 w.heap.size (some ⟨bn, on, none⟩) cn (some ⟨bo, oo, none⟩) co m ∧ w7.cell? ⟨b5, o5 + i, none⟩ = some (.int .i64 x) ∧ w7.cell? ⟨b5, o5 + j, none⟩ = some (.int .i64 y) := ⟨h47, (hb7.cell (p := ⟨b5, o5 + i, none⟩) (lt_of_cell hSS.2.1)).trans hSS.2.1, (hb7.cell (p := ⟨b5, o5 + j, none⟩) (lt_of_cell hSS.2.2)).trans hSS.2.2⟩
          refine hK _ _ (fun _ => hS7) ?_
          clear hK K hSS hBd hb7 hzd HMd
          refine wpAnyL_one (i := 15) (by kernel_rfl) rfl rfl (fun K hK => ?_)
          go_simp
          refine hK _ _ (fun _ => hS7) ?_
          clear hK K hS7
          refine wpAnyL_done (by kernel_rfl) ?_ _
          have HF := Lib.hid (from_any (HM.out.below (hB3.trans (hB7.mono (by omega)))) (HS.out.below (hB3.trans (hB7.mono (by omega)))) (i : Int))
          go_wp2_with fail
          refine (HF.out).mono ?_
          rintro e w8 ⟨a8, c8, l8, rfl, hl8, hs8, hb8⟩
          have hB8 := hB7.trans (hb8.mono hB7.size)
          have h48 := h47.below hb8 (by omega)
          have hz8 : w.heap.size + 1 ≤ w8.heap.size := by have := hb8.size; omega
          have HS8 := Lib.hid hs8
          clear h47 hb8 HF hs8 hB7
          have HF := Lib.hid (from_any (HM.out.below (hB3.trans (hB8.mono (by omega)))) (HS.out.below (hB3.trans (hB8.mono (by omega)))) (j : Int))
          go_wp2_with fail
          refine (HF.out).mono ?_
          rintro e w9 ⟨a9, c9, l9, rfl, hl9, hs9, hb9⟩
          have hB9 := hB8.trans (hb9.mono hB8.size)
          have HS9 := Lib.hid hs9
          have HS8 := Lib.hid (HS8.out.below hb9)
          have HS5 := Lib.hid (HS3.out.below hB9)
          clear h48 hb9 HF hs9 hB8
          have e8 := Mach.frErr_in OK.out hi1 l
          have e9 := Mach.frErr_in OK.out hj1 l
          by_cases hE : wErr l m.inputs = 0
          · have f8 : (m.frErr (i : Int) l == 0) = true := by rw [e8.1]; simp [hE]
            have f9 : (m.frErr (j : Int) l == 0) = true := by rw [e9.1]; simp [hE]
            have o8 : Hid (l8 = m.outsW i l) := by unfold Hid; rw [hl8.out, e8.2, if_pos hE]
            have o9 : Hid (l9 = m.outsW j l) := by unfold Hid; rw [hl9.out, e9.2, if_pos hE]
            have HO := Lib.hid (Mach.okS_of hE).1
            clear e8 e9 hE hl8 hl9
            by_cases hlk : l.length ≤ k
            · have tk : decide (((l.length : Nat) : Int) ≤ IntKind.i64.wrap (k : Int)) = true := by rw [hwr.out]; simp; omega
              obtain ⟨b6, o6, x', ha6, hxc, hx', -⟩ := HS5.out.at_int hlt
              obtain ⟨b6', o6', y', hb6, hyc, hy', -⟩ := HS5.out.at_int hj3
              obtain ⟨rfl, rfl⟩ : b5 = b6 ∧ o5 = o6 := by simpa using ha6
              obtain ⟨rfl, rfl⟩ : b5 = b6' ∧ o5 = o6' := by simpa using hb6
              obtain rfl : x = x' := by have := hx.out; rw [hx'.out] at this; simpa using this.symm
              obtain rfl : y = y' := by have := hy.out; rw [hy'.out] at this; simpa using this.symm
              clear ha6 hb6 hx' hy'
              by_cases hxy : x = y
              · have tx : (x == y) = true := by simp [hxy]
                have HX := Lib.hid hxy
                have hoo : decide (l8 = l9) = true := by
                  rw [o8.out, o9.out, decide_eq_true_eq]
                  have h1 := Mach.sepB_iff m k i j
                  exact Mach.eqv_outs OK.out l k i j (h1.1 (hcl.out.1 HX.out)) hlk HO.out
                have h8 := HS8.out
                have h9 := HS9.out
                clear hxy htest
                go_wp2
                refine wp_quiet_fast (by kernel_rfl) (by kernel_rfl) ?_
                repeat (first | go_big_quiet_step ((go_at_call 20; exact Calls.quiet_of (equal_is ((h8.anti (M' := fun _ => False) fun _ _ h => h.elim).drewN _) ((h9.anti (M' := fun _ => False) fun _ _ h => h.elim).drewN _) hoo))) | quiet_step ((go_at_call 20; exact Calls.quiet_of (equal_is ((h8.anti (M' := fun _ => False) fun _ _ h => h.elim).drewN _) ((h9.anti (M' := fun _ => False) fun _ _ h => h.elim).drewN _) hoo))))
                refine wpQuiet_nil ?_
                intro _ hw'
                obtain ⟨nq, hw''⟩ := hw'
                subst hw''
                go_wp2
                go_roundw
                case rel => exact ⟨j + 1, by omega, by go_num, bl_drewN hB9 _⟩
                case measure => simp [intOf]; omega
              · have tx : (x == y) = false := by simp [hxy]
                clear hxy htest
                go_wp2
                refine wp_quiet_fast (by kernel_rfl) (by kernel_rfl) ?_
                repeat (first | go_big_quiet_step (fail) | quiet_step (fail))
                refine wpQuiet_nil ?_
                intro _ hw'
                obtain ⟨nq, hw''⟩ := hw'
                subst hw''
                go_wp2
                go_roundw
                case rel => exact ⟨j + 1, by omega, by go_num, bl_drewN hB9 _⟩
                case measure => simp [intOf]; omega
            · have tk : decide (((l.length : Nat) : Int) ≤ IntKind.i64.wrap (k : Int)) = false := by rw [hwr.out]; simp; omega
              go_wp2
              refine wp_quiet_fast (by kernel_rfl) (by kernel_rfl) ?_
              repeat (first | go_big_quiet_step (fail) | quiet_step (fail))
              refine wpQuiet_nil ?_
              intro _ hw'
              obtain ⟨nq, hw''⟩ := hw'
              subst hw''
              go_wp2
              go_roundw
              case rel => exact ⟨j + 1, by omega, by go_num, bl_drewN hB9 _⟩
              case measure => simp [intOf]; omega
          · have f8 : (m.frErr (i : Int) l == 0) = false := by rw [e8.1]; simp [hE]
            clear e8 e9 hE
            go_wp2
            refine wp_quiet_fast (by kernel_rfl) (by kernel_rfl) ?_
            repeat (first | go_big_quiet_step (fail) | quiet_step (fail))
            refine wpQuiet_nil ?_
            intro _ hw'
            obtain ⟨nq, hw''⟩ := hw'
            subst hw''
            go_wp2
            go_roundw
            case rel => exact ⟨j + 1, by omega, by go_num, bl_drewN hB9 _⟩
            case measure => simp [intOf]; omega
        · go_wp2
          go_roundw
          case rel => exact ⟨i + 1, by omega, by go_num, hB⟩
          case measure => simp [intOf]; omega
    · go_wp2_with fail
      refine (ex8_any).mono ?_
      rintro e w5 ⟨rfl, hb5⟩
      have hBf := (hB3.trans (hBi.mono (by omega))).trans (hb5.mono (by have := hBi.size; omega))
      go_wp2
      go_ret
      exact ⟨rfl, hBf⟩

set_option maxRecDepth 100000 in
set_option maxHeartbeats 4000000 in
theorem lwords_any {an ao : Option Addr} (hm : Ma M w an cn ao co m) (z : Int) (hz : 0 ≤ z ∧ z < 256) (hs : Sl M' w a c l) :
    Calls Try.prog 12 #[maV m an cn ao co, .int .u8 z, .slice a l.length c] w fun e w' => e = .returned (.bool true) ∧ Below w.heap.size w w' := by
  obtain ⟨k, rfl⟩ := Int.eq_ofNat_of_zero_le hz.1
  have hk : k < 256 := by omega
  clear hz
  by_cases hall : m.great = false ∧ m.next.length ≤ 6 ∧ m.inputs ≤ 2 ∧ k ≤ 4 ∧ m.err = 0
  · obtain ⟨h1, h2, h3, h4, h5⟩ := hall
    have ok := m.ok_of_err h5
    obtain ⟨bn, on, bo, oo, rfl, rfl⟩ := hm.addr ok
    exact words_main hm ok k h4 hs h1 h2 h3
  have hle := hm.next.le
  have hll := hs.le
  have HM := Lib.hid hm
  have HG := Lib.hid (great_any (hm.ext (Ext.alloc M w (maO m an cn ao co))))
  have hB0 := (Below.refl w.heap.size w).alloc (Nat.le_refl _) (maO m an cn ao co)
  have h40 := c4_new (m := m) (an := an) (cn := cn) (ao := ao) (co := co) w
  clear hm hs
  have hcase : (m.great = true) ∨ (m.great = false ∧ 6 < m.next.length) ∨ (m.great = false ∧ m.next.length ≤ 6 ∧ 2 < m.inputs) ∨ (m.great = false ∧ m.next.length ≤ 6 ∧ m.inputs ≤ 2 ∧ 4 < k) ∨ (m.great = false ∧ m.next.length ≤ 6 ∧ m.inputs ≤ 2 ∧ k ≤ 4 ∧ ¬ m.err = 0) := by
    cases hg : m.great with
    | true => exact .inl rfl
    | false =>
      refine .inr ?_
      by_cases h1 : 6 < m.next.length
      · exact .inl ⟨rfl, h1⟩
      refine .inr ?_
      by_cases h2 : 2 < m.inputs
      · exact .inl ⟨rfl, by omega, h2⟩
      refine .inr ?_
      by_cases h3 : 4 < k
      · exact .inl ⟨rfl, by omega, by omega, h3⟩
      exact .inr ⟨rfl, by omega, by omega, by omega, fun h => hall ⟨hg, by omega, by omega, by omega, h⟩⟩
  clear hall
  go_enter Try.func12, Try.ntmps12
  go_wp2_with fail
  refine (HG.out).mono ?_
  rintro e w1 ⟨rfl, hb1⟩
  have hB1 := hB0.trans (hb1.mono (by simp))
  have h41 := h40.below hb1 (by simp)
  have hz1 : w.heap.size + 1 ≤ w1.heap.size := by have := hb1.size; simpa using this
  clear hb1 HG hB0 h40
  rcases hcase with hg | ⟨hg, h6⟩ | ⟨hg, h6, h2⟩ | ⟨hg, h6, h2, h4⟩ | ⟨hg, h6, h2, h4, he⟩
  case inr.inr.inr.inr =>
    rw [hg]
    have he' : (m.err != 0) = true := by simp [he]
    clear he
    have HV := Lib.hid (valid6_any (HM.out.below hB1))
    go_wp2_with fail
    refine (HV.out).mono ?_
    rintro e w2 ⟨rfl, hb2⟩
    have hB2 := hB1.trans (hb2.mono (by omega))
    have hz2 : w.heap.size + 1 ≤ w2.heap.size := by have := hb2.size; omega
    clear hb2 HV hB1 h41
    go_wp2_with fail
    refine (ex8_any).mono ?_
    rintro e w5 ⟨rfl, hb5⟩
    have hBf := hB2.trans (hb5.mono (by omega))
    go_wp2
    go_ret
    exact ⟨rfl, hBf⟩
  all_goals
    rw [hg]
    go_wp2_with fail
    refine (ex8_any).mono ?_
    rintro e w5 ⟨rfl, hb5⟩
    have hBf := hB1.trans (hb5.mono (by omega))
    go_wp2
    go_ret
    exact ⟨rfl, hBf⟩
end
end Go.Proofs.Ytdnmgiabgpilkaa
