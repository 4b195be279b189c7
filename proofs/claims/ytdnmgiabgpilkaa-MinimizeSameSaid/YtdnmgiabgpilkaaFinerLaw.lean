/- The law of chapter 8 on refinement. Condition: the number fits. -/
import Derived.Test.YtdnmgiabgpilkaaLaws8
namespace Go.Proofs.Ytdnmgiabgpilkaa
open Go.RowKit

theorem Mach.part_fine {m : Mach} (ok : m.Ok) {k s t : Nat} (hs : s < m.next.length) (ht : t < m.next.length) (h : (m.partOf ((k : Int) + 1)).getD s 0 = (m.partOf ((k : Int) + 1)).getD t 0) : (m.partOf k).getD s 0 = (m.partOf k).getD t 0 := by
  unfold Mach.partOf at *
  rw [if_pos (m.err_of_ok ok)] at *
  rw [show ((k : Int) + 1).toNat = k + 1 from by omega] at h
  rw [show ((k : Nat) : Int).toNat = k from by omega]
  by_cases hk : m.next.length ≤ k
  · rw [show min (k + 1) m.next.length = m.next.length from by omega] at h
    rwa [show min k m.next.length = m.next.length from by omega]
  · rw [show min (k + 1) m.next.length = k + 1 from by omega] at h
    rw [show min k m.next.length = k from by omega]
    exact (Mach.part_iff ok k s t hs ht).2 (m.eqv_mono k s t ((Mach.part_iff ok (k + 1) s t hs ht).1 h))
theorem Mach.part_depth {m : Mach} (ok : m.Ok) {k d : Nat} (hd : m.DepthOf d) : d < m.next.length ∧ (m.partOf k = m.partOf 128 ↔ d ≤ k) := by
  unfold Mach.DepthOf at hd
  rw [if_pos (m.err_of_ok ok)] at hd
  obtain ⟨h1, h2⟩ := hd.rest ok (by omega)
  refine ⟨h1, ?_⟩
  have n1 := ok.n1
  unfold Mach.partOf
  rw [if_pos (m.err_of_ok ok), if_pos (m.err_of_ok ok), show ((k : Nat) : Int).toNat = k from by omega, show min (128 : Int).toNat m.next.length = m.next.length from by omega]
  constructor
  · intro h
    by_cases hk : d ≤ k
    · exact hk
    · rw [show min k m.next.length = k from by omega] at h
      exact absurd h (hd.before ok (by omega) (by omega))
  · intro h
    rw [h2 _ (by omega), h2 m.next.length (by omega)]

section
variable {M : Nat → Prop} {w : World} {an ao : Option Addr} {cn co : Nat} {m : Mach}

theorem equal_is {a b : Option Addr} {c d : Nat} {xs ys : List Int} {v : Bool} (h1 : Sl M w a c xs) (h2 : Sl M w b d ys) (h : decide (xs = ys) = v) :
    Calls Try.prog 20 #[.slice a xs.length c, .slice b ys.length d] w fun e w' => e = .returned (.bool v) ∧ ∃ n, w' = w.drewN n :=
  (equal_any h1 h2).mono fun e w' ⟨h3, h4⟩ => ⟨by rw [h3, h], h4⟩

set_option maxRecDepth 100000 in
set_option maxHeartbeats 4000000 in
theorem lfiner_any (hm : Ma M w an cn ao co m) (b : Int) (hb : 0 ≤ b ∧ b < 256) :
    Calls Try.prog 6 #[maV m an cn ao co, .int .u8 b] w fun e w' => e = .returned (.bool true) ∧ Below w.heap.size w w' := by
  obtain ⟨k, rfl⟩ := Int.eq_ofNat_of_zero_le hb.1
  have hk : k < 256 := by omega
  have HM := Lib.hid (hm.ext (Ext.alloc M w (.cells #[.int .i64 m.inputs, .int .i64 m.start, .slice an m.next.length cn, .slice ao m.out.length co] 24)))
  have HG := Lib.hid (great_any HM.out)
  clear hm hb
  by_cases hg : m.great = true ∨ 20 < k
  · have hgo : (m.great = true) ∨ (m.great = false ∧ 20 < k) := by
      cases h : m.great with
      | true => exact .inl rfl
      | false => exact .inr ⟨rfl, by rcases hg with h2 | h2; · rw [h] at h2; cases h2
                                     · exact h2⟩
    clear hg
    go_enter Try.func6, Try.ntmps6
    go_wp2_with fail
    refine (HG.out).mono ?_
    rintro e w1 ⟨rfl, hb1⟩
    have hz1 : w.heap.size + 1 ≤ w1.heap.size := by have := hb1.size; simpa using this
    have hB1 : Below (w.heap.size + 1) (w.alloc (.cells #[.int .i64 m.inputs, .int .i64 m.start, .slice an m.next.length cn, .slice ao m.out.length co] 24)) w1 := hb1.mono (by simp)
    clear hb1 HG
    rcases hgo with hg | ⟨hg, h20⟩
    · rw [hg]
      go_wp2_with fail
      refine (ex8_any).mono ?_
      rintro e w2 ⟨rfl, hb2⟩
      have hBf : Below w.heap.size w w2 := ((Below.refl _ _).alloc (Nat.le_refl _) _).trans ((hB1.trans (hb2.mono hz1)).mono (by omega))
      go_wp2
      go_ret
      exact ⟨rfl, hBf⟩
    · rw [hg]
      go_wp2_with fail
      refine (ex8_any).mono ?_
      rintro e w2 ⟨rfl, hb2⟩
      have hBf : Below w.heap.size w w2 := ((Below.refl _ _).alloc (Nat.le_refl _) _).trans ((hB1.trans (hb2.mono hz1)).mono (by omega))
      go_wp2
      go_ret
      exact ⟨rfl, hBf⟩
  · have hg1 : m.great = false := by
      cases h : m.great with
      | true => exact absurd (.inl h) hg
      | false => rfl
    have hk20 : k ≤ 20 := by omega
    clear hg hk
    go_enter Try.func6, Try.ntmps6
    go_wp2_with fail
    refine (HG.out).mono ?_
    rintro e w1 ⟨rfl, hb1⟩
    rw [hg1]
    have hz1 : w.heap.size + 1 ≤ w1.heap.size := by have := hb1.size; simpa using this
    have hB1 : Below (w.heap.size + 1) (w.alloc (.cells #[.int .i64 m.inputs, .int .i64 m.start, .slice an m.next.length cn, .slice ao m.out.length co] 24)) w1 := hb1.mono (by simp)
    have hx1 : ∀ o, w1.cell? ⟨w.heap.size, o, none⟩ = _ := fun o => hB1.cell (by simp)
    clear hb1 HG
    have HP := Lib.hid (depth_any (HM.out.below (by simpa using hB1)))
    go_wp2_with fail
    refine (HP.out).mono ?_
    rintro e w2 ⟨d, rfl, hd, hb2⟩
    have hB2 := hB1.trans (hb2.mono hz1)
    have hz2 : w.heap.size + 1 ≤ w2.heap.size := Nat.le_trans hz1 hb2.size
    have hx2 : ∀ o, w2.cell? ⟨w.heap.size, o, none⟩ = _ := fun o => hB2.cell (by simp)
    clear hx1 hb2 HP
    have HR := Lib.hid (classes_any (HM.out.below (by simpa using hB2)))
    go_wp2_with fail
    refine (HR.out).mono ?_
    rintro e w3 ⟨a3, c3, l3, rfl, hl3, hs3, hb3⟩
    have hB3 := hB2.trans (hb3.mono hz2)
    have hz3 : w.heap.size + 1 ≤ w3.heap.size := Nat.le_trans hz2 hb3.size
    have hx3 : ∀ o, w3.cell? ⟨w.heap.size, o, none⟩ = _ := fun o => hB3.cell (by simp)
    clear hx2 hb3 HR
    have HP := Lib.hid (part_any (HM.out.below (by simpa using hB3)) k)
    go_wp2_with fail
    refine (HP.out).mono ?_
    rintro e w4 ⟨a4, c4, l4, rfl, hl4, hs4, hb4⟩
    have hB4 := hB3.trans (hb4.mono hz3)
    have hz4 : w.heap.size + 1 ≤ w4.heap.size := Nat.le_trans hz3 hb4.size
    have hx4 : ∀ o, w4.cell? ⟨w.heap.size, o, none⟩ = _ := fun o => hB4.cell (by simp)
    replace hs3 := hs3.below hb4
    clear hx3 hb4 HP
    have HP := Lib.hid (part_any (HM.out.below (by simpa using hB4)) ((k : Int) + 1))
    go_wp2_with fail
    refine (HP.out).mono ?_
    rintro e w5 ⟨a5, c5, l5, rfl, hl5, hs5, hb5⟩
    have hB5 := hB4.trans (hb5.mono hz4)
    have hz5 : w.heap.size + 1 ≤ w5.heap.size := Nat.le_trans hz4 hb5.size
    have hx5 : ∀ o, w5.cell? ⟨w.heap.size, o, none⟩ = _ := fun o => hB5.cell (by simp)
    replace hs3 := hs3.below hb5
    replace hs4 := hs4.below hb5
    clear hx4 hb5 HP
    by_cases he : m.err = 0
    · have he' : (m.err != 0) = false := by simp [he]
      have HE := Lib.hid he
      have HO := Lib.hid (m.ok_of_err he)
      clear he
      have hd2 := Mach.part_depth HO.out (k := k) hd.out
      have hdl := hd2.1
      have hdk := Lib.hid hd2.2
      clear hd2
      have n1 := HO.out.n1
      have len4 : Hid (l4.length = m.next.length) := by unfold Hid; rw [hl4.out]; unfold Mach.partOf; rw [if_pos HE.out, Mach.part_length]
      have len5 : Hid (l5.length = m.next.length) := by unfold Hid; rw [hl5.out]; unfold Mach.partOf; rw [if_pos HE.out, Mach.part_length]
      have t4 : (((l4.length : Nat) : Int) != ((m.next.length : Nat) : Int)) = false := by simp [len4.out]
      have t5 : (((l5.length : Nat) : Int) != ((m.next.length : Nat) : Int)) = false := by simp [len5.out]
      have td : decide (((d : Nat) : Int) < 0) = false := by simp
      have tm : decide ((if (1 : Int) < ((m.next.length : Nat) : Int) then ((m.next.length : Nat) : Int) else 1) ≤ ((d : Nat) : Int)) = false := by
        rw [decide_eq_false_iff_not]; split <;> omega
      have HF : Hid (∀ i j, i < m.next.length → j < m.next.length → l5.getD i 0 = l5.getD j 0 → l4.getD i 0 = l4.getD j 0) := by
        intro i j hi hj h
        rw [hl5.out] at h
        rw [hl4.out]
        exact Mach.part_fine HO.out hi hj h
      have l5b : l5.length ≤ 128 := by have := len5.out; omega
      go_wp2
      all_goals
        clear h
        go_loopw [105] (fun i wr => ∃ (j n : Nat), j ≤ l5.length ∧ i = .int .i64 j ∧ wr = w5.drewN n) (fun i _ => l5.length - (intOf i).toNat)
        case atStart => exact ⟨0, 0, by omega, rfl, rfl⟩
        case round =>
          obtain ⟨i, n, hi, rfl, rfl⟩ := hrel
          by_cases hlt : i < l5.length
          · have hi4 : i < l4.length := by have := len4.out; have := len5.out; omega
            go_wp2
            go_loopw [109] (fun j w6 => ∃ (j' n' : Nat), j' ≤ i ∧ j = .int .i64 j' ∧ w6 = w5.drewN n') (fun j _ => i - (intOf j).toNat)
            case atStart => exact ⟨0, n, by omega, rfl, rfl⟩
            case round =>
              obtain ⟨j, n', hj, rfl, rfl⟩ := hrel
              by_cases hlj : j < i
              · have hj5 : j < l5.length := by omega
                have hj4 : j < l4.length := by omega
                obtain ⟨b5, o5, x, ha5, hxc, hx, -⟩ := hs5.at_int hlt
                obtain ⟨b5', o5', y, hb5, hyc, hy, -⟩ := hs5.at_int hj5
                obtain ⟨b4, o4, p, ha4, hpc, hp, -⟩ := hs4.at_int hi4
                obtain ⟨b4', o4', q, hb4, hqc, hq, -⟩ := hs4.at_int hj4
                subst ha5
                subst ha4
                obtain ⟨rfl, rfl⟩ : b5 = b5' ∧ o5 = o5' := by simpa using hb5
                obtain ⟨rfl, rfl⟩ : b4 = b4' ∧ o4 = o4' := by simpa using hb4
                have HH : x = y → p = q := fun e => by
                  have := HF.out i j (by have := len5.out; omega) (by have := len5.out; omega) (by rw [getD_of_some hx.out, getD_of_some hy.out, e])
                  rwa [getD_of_some hp.out, getD_of_some hq.out] at this
                by_cases hxy : x = y
                · have hpq := HH hxy
                  subst hxy
                  subst hpq
                  clear HH
                  go_wp2
                  refine wp_quiet_fast (by kernel_rfl) (by kernel_rfl) ?_
                  repeat (first | go_big_quiet_step (fail) | quiet_step (fail))
                  refine wpQuiet_nil ?_
                  intro _ hw'
                  obtain ⟨nq, hw''⟩ := hw'
                  subst hw''
                  go_wp2
                  go_roundw
                  case rel => exact ⟨j + 1, _, by omega, by go_num, rfl⟩
                  case measure => simp [intOf]; omega
                · have txy : (x == y) = false := by simp [hxy]
                  clear hxy HH
                  go_wp2
                  refine wp_quiet_fast (by kernel_rfl) (by kernel_rfl) ?_
                  repeat (first | go_big_quiet_step (fail) | quiet_step (fail))
                  refine wpQuiet_nil ?_
                  intro _ hw'
                  obtain ⟨nq, hw''⟩ := hw'
                  subst hw''
                  go_wp2
                  go_roundw
                  case rel => exact ⟨j + 1, _, by omega, by go_num, rfl⟩
                  case measure => simp [intOf]; omega
              · go_wp2
                go_roundw
                case rel => exact ⟨i + 1, _, by omega, by go_num, rfl⟩
                case measure => simp [intOf]; omega
          · have hpc : decide (l4 = l3) = decide (d ≤ k) := by
              rw [hl4.out, hl3.out]
              exact decide_eq_decide.2 hdk.out
            have HEQ := Lib.hid (equal_is ((hs4.ext (Ext.sub_only (M' := fun _ => False) fun _ _ h => h.elim)).drewN n) ((hs3.ext (Ext.sub_only (M' := fun _ => False) fun _ _ h => h.elim)).drewN n) hpc)
            have tdk : decide (((d : Nat) : Int) ≤ ((k : Nat) : Int)) = decide (d ≤ k) := decide_eq_decide.2 (by omega)
            clear hs3 hs4 hs5 hpc
            go_wp2_with fail
            refine (HEQ.out).mono ?_
            rintro e w6 ⟨rfl, n6, rfl⟩
            cases hdd : decide (d ≤ k) with
            | true =>
              have hdd1 : d ≤ k := of_decide_eq_true hdd
              go_wp2_with fail
              refine (ex8_any).mono ?_
              rintro e w7 ⟨rfl, hb7⟩
              have hBf : Below w.heap.size w w7 := ((Below.refl _ _).alloc (Nat.le_refl _) _).trans (((hB5.trans (below_drewN _ _ _)).trans (hb7.mono (by simpa using hz5))).mono (by omega))
              go_wp2
              go_ret
              exact ⟨rfl, hBf⟩
            | false =>
              have hdd1 : ¬ d ≤ k := of_decide_eq_false hdd
              go_wp2_with fail
              refine (ex8_any).mono ?_
              rintro e w7 ⟨rfl, hb7⟩
              have hBf : Below w.heap.size w w7 := ((Below.refl _ _).alloc (Nat.le_refl _) _).trans (((hB5.trans (below_drewN _ _ _)).trans (hb7.mono (by simpa using hz5))).mono (by omega))
              go_wp2
              go_ret
              exact ⟨rfl, hBf⟩
    · have he' : (m.err != 0) = true := by simp [he]
      have HE := Lib.hid he
      clear he
      go_wp2_with fail
      refine (ex8_any).mono ?_
      rintro e w6 ⟨rfl, hb6⟩
      have hBf : Below w.heap.size w w6 := ((Below.refl _ _).alloc (Nat.le_refl _) _).trans ((hB5.trans (hb6.mono hz5)).mono (by omega))
      go_wp2
      go_ret
      exact ⟨rfl, hBf⟩
end
end Go.Proofs.Ytdnmgiabgpilkaa
