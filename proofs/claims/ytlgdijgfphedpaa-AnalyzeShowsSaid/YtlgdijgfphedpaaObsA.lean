/- The reference's test for traces that continue or contradict others; the reference's error of observations. No condition. -/
import Derived.Test.YtlgdijgfphedpaaObsR
import Derived.IntWalk
namespace Go.Proofs.Ytlgdijgfphedpaa
open Go.RowKit

/-- A trace in two cells. -/
abbrev Tc (w : World) (b o : Nat) (a1 : Option Addr) (c1 : Nat) (a2 : Option Addr) (c2 : Nat) (t : Tr) : Prop := w.cell? ⟨b, o, none⟩ = some (.slice a1 t.inn.length c1) ∧ w.cell? ⟨b, o + 1, none⟩ = some (.slice a2 t.out.length c2)
theorem Tc.below {B b o : Nat} {w w' : World} {a1 a2 : Option Addr} {c1 c2 : Nat} {t : Tr} (h : Tc w b o a1 c1 a2 c2 t) (hb : Below B w w') (hlt : b < B) : Tc w' b o a1 c1 a2 c2 t :=
  ⟨(hb.cell (p := ⟨b, o, none⟩) hlt).trans h.1, (hb.cell (p := ⟨b, o + 1, none⟩) hlt).trans h.2⟩
section
variable {M M' : Nat → Prop} {w : World} {a b : Option Addr} {c d : Nat}

set_option maxRecDepth 100000 in
set_option maxHeartbeats 4000000 in
theorem apartR_any {o : Ob} (ho : Os M w a c o) (hl : Hid o.lens) :
    Calls Try.prog 32 #[obV o a c] w fun e w' => e = .returned (.int .i64 (o.apsErr o.traces.length)) ∧ Below w.heap.size w w' := by
  have hol := ho.traces.le
  have hB0 := (Below.refl w.heap.size w).alloc (Nat.le_refl _) (obO o a c)
  have HO := Lib.hid ho
  have hx0 : O2 (w.alloc (obO o a c)) w.heap.size a c o := o2_new w
  have hz0 : w.heap.size + 1 ≤ (w.alloc (obO o a c)).heap.size := by simp
  clear ho
  go_enter Try.func32, Try.ntmps32
  go_wp2
  generalize w.alloc (obO o a c) = w0 at *
  go_loopw [3] (fun i wr => ∃ k : Nat, k ≤ o.traces.length ∧ i = .int .i64 k ∧ Hid (o.apsErr k = 0) ∧ O2 wr w.heap.size a c o ∧ Below w.heap.size w wr ∧ w.heap.size + 1 ≤ wr.heap.size) (fun i _ => o.traces.length - (intOf i).toNat)
  case atStart => exact ⟨0, by omega, rfl, rfl, hx0, hB0, hz0⟩
  case round =>
    clear hx0 hB0 hz0
    obtain ⟨i, hi, rfl, hE, hx, hB, hz⟩ := hrel
    obtain ⟨w1, rfl⟩ : ∃ w1 : World, w1 = wr := ⟨_, rfl⟩
    by_cases hlt : i < o.traces.length
    · have hP0 : Hid (false = o.preB i (i + 1)) := (o.preB_low (Nat.le_refl _)).symm
      have hQ0 : Hid (false = o.claB i (i + 1)) := (o.claB_low (Nat.le_refl _)).symm
      go_wp2
      go_loopw [4, 5, 6] (fun p q k wr => ∃ (j : Nat) (pb qb : Bool), i < j ∧ j ≤ o.traces.length ∧ k = .int .i64 j ∧ p = .bool pb ∧ q = .bool qb ∧ Hid (pb = o.preB i j) ∧ Hid (qb = o.claB i j) ∧ O2 wr w.heap.size a c o ∧ Below w.heap.size w wr ∧ w.heap.size + 1 ≤ wr.heap.size) (fun _ _ k _ => o.traces.length - (intOf k).toNat)
      case atStart => exact ⟨i + 1, false, false, by omega, by omega, by go_num, rfl, rfl, hP0, hQ0, hx, hB, hz⟩
      case round =>
        clear hx hB hz hP0 hQ0
        obtain ⟨j, pb, qb, hij, hj, rfl, rfl, rfl, hP, hQ, hx, hB, hz⟩ := hrel
        obtain ⟨w2, rfl⟩ : ∃ w2 : World, w2 = wr := ⟨_, rfl⟩
        by_cases hjl : j < o.traces.length
        · obtain ⟨b1, o1, a1, c1, a2, c2, s, rfl, hc1, hc2, hs, hs1, hs2⟩ := (HO.out.below hB).traces.at_tr hlt
          obtain ⟨b3, o3, a3, c3, a4, c4, t, he3, hc3, hc4, ht, ht1, ht2⟩ := (HO.out.below hB).traces.at_tr hjl
          obtain ⟨rfl, rfl⟩ : b1 = b3 ∧ o1 = o3 := by simpa using he3
          have hSS : O2 w2 w.heap.size (some ⟨b1, o1, none⟩) c o ∧ Tc w2 b1 (o1 + i * 2) a1 c1 a2 c2 s ∧ Tc w2 b1 (o1 + j * 2) a3 c3 a4 c4 t := ⟨hx, ⟨hc1, hc2⟩, ⟨hc3, hc4⟩⟩
          have hbl := lt_of_cell hc1
          have HP2 : Hid (o.preB i (j + 1) = (pb || hasP t.inn s.inn)) := by
            unfold Hid; rw [Ob.preB_succ, ← hP.out, decide_eq_true hij, Bool.true_and, Ob.tr_of hs.out, Ob.tr_of ht.out]
          have HQ2 : Hid (o.claB i (j + 1) = (qb || decide (0 ≤ s.dif t))) := by
            unfold Hid; rw [Ob.claB_succ, ← hQ.out, decide_eq_true hij, Bool.true_and, Ob.tr_of hs.out, Ob.tr_of ht.out]
          have hls := Lib.hid (And.intro (hl.out s (List.mem_of_getElem? hs.out)).1 (hl.out t (List.mem_of_getElem? ht.out)).1)
          have H1 := Lib.hid (And.intro hs1 hs2)
          have H2 := Lib.hid (And.intro ht1 ht2)
          clear hx hc1 hc2 hc3 hc4 hs1 hs2 ht1 ht2 hP hQ hs ht he3
          go_wp2
          refine wp_region_L (fun w' => O2 w' w.heap.size (some ⟨b1, o1, none⟩) c o ∧ Tc w' b1 (o1 + i * 2) a1 c1 a2 c2 s ∧ Tc w' b1 (o1 + j * 2) a3 c3 a4 c4 t) [0, 1, 2, 3, 4, 5, 6, 7, 8, 9, 10, 11, 12, 13, 15, 16] (by kernel_rfl) ?_
          have hSd : O2 w2.drew w.heap.size (some ⟨b1, o1, none⟩) c o ∧ Tc w2.drew b1 (o1 + i * 2) a1 c1 a2 c2 s ∧ Tc w2.drew b1 (o1 + j * 2) a3 c3 a4 c4 t := ⟨hSS.1.below (Below.refl w2.heap.size w2).drew (by omega), hSS.2.1.below (Below.refl w2.heap.size w2).drew hbl, hSS.2.2.below (Below.refl w2.heap.size w2).drew hbl⟩
          have hBd := hB.drew
          have H1 := Lib.hid (And.intro (H1.out.1.drew) (H1.out.2.drew))
          have H2 := Lib.hid (And.intro (H2.out.1.drew) (H2.out.2.drew))
          have hzd : w.heap.size + 1 ≤ w2.drew.heap.size := hz
          have hbd : b1 < w2.drew.heap.size := hbl
          clear hSS hB hz hbl
          generalize w2.drew = w3 at *
          rcases pb with _ | _
          · have HC := Lib.hid (haspR_is H2.out.1 H1.out.1 rfl)
            refine wpAnyL_take (i := 0) (v := ?v1) rfl (by kernel_rfl) (by kernel_rfl) (by kernel_rfl) (by kernel_rfl) (fun _ _ _ h => h) (Or.inl ⟨by rfl, ?y1⟩) (by assumption) ?r1
            case y1 => (intro w' hSw; (try dsimp only at hSw); go_simp; try with_reducible rfl)
            try simp only [Act.put, List.setIfInBounds_toArray, List.set_cons_zero, List.set_cons_succ]
            refine wpAnyL_take (i := 1) (v := ?v2) rfl (by kernel_rfl) (by kernel_rfl) (by kernel_rfl) (by kernel_rfl) (fun _ _ _ h => h) (Or.inl ⟨by rfl, ?y2⟩) (by assumption) ?r2
            case y2 => (intro w' hSw; (try dsimp only at hSw); go_simp; try with_reducible rfl)
            try simp only [Act.put, List.setIfInBounds_toArray, List.set_cons_zero, List.set_cons_succ]
            refine wpAnyL_take (i := 2) (v := ?v3) rfl (by kernel_rfl) (by kernel_rfl) (by kernel_rfl) (by kernel_rfl) (fun _ _ _ h => h) (Or.inl ⟨by rfl, ?y3⟩) (by assumption) ?r3
            case y3 => (intro w' hSw; (try dsimp only at hSw); go_simp; try with_reducible rfl)
            try simp only [Act.put, List.setIfInBounds_toArray, List.set_cons_zero, List.set_cons_succ]
            refine wpAnyL_take (i := 3) (v := ?v4) rfl (by kernel_rfl) (by kernel_rfl) (by kernel_rfl) (by kernel_rfl) (fun _ _ _ h => h) (Or.inl ⟨by rfl, ?y4⟩) (by assumption) ?r4
            case y4 => (intro w' hSw; (try dsimp only at hSw); go_simp; try with_reducible rfl)
            try simp only [Act.put, List.setIfInBounds_toArray, List.set_cons_zero, List.set_cons_succ]
            refine wpAnyL_take (i := 4) (v := ?v5) rfl (by kernel_rfl) (by kernel_rfl) (by kernel_rfl) (by kernel_rfl) (fun _ _ _ h => h) (Or.inl ⟨by rfl, ?y5⟩) (by assumption) ?r5
            case y5 => (intro w' hSw; (try dsimp only at hSw); go_simp; try with_reducible rfl)
            try simp only [Act.put, List.setIfInBounds_toArray, List.set_cons_zero, List.set_cons_succ]
            refine wpAnyL_take (i := 5) (v := ?v6) rfl (by kernel_rfl) (by kernel_rfl) (by kernel_rfl) (by kernel_rfl) (fun _ _ _ h => h) (Or.inl ⟨by rfl, ?y6⟩) (by assumption) ?r6
            case y6 => (intro w' hSw; (try dsimp only at hSw); go_simp; try with_reducible rfl)
            try simp only [Act.put, List.setIfInBounds_toArray, List.set_cons_zero, List.set_cons_succ]
            refine wpAnyL_take (i := 6) (v := ?v7) rfl (by kernel_rfl) (by kernel_rfl) (by kernel_rfl) (by kernel_rfl) (fun _ _ _ h => h) (Or.inl ⟨by rfl, ?y7⟩) (by assumption) ?r7
            case y7 => (intro w' hSw; (try dsimp only at hSw); go_simp; try with_reducible rfl)
            try simp only [Act.put, List.setIfInBounds_toArray, List.set_cons_zero, List.set_cons_succ]
            refine wpAnyL_take (i := 7) (v := ?v8) rfl (by kernel_rfl) (by kernel_rfl) (by kernel_rfl) (by kernel_rfl) (fun _ _ _ h => h) (Or.inl ⟨by rfl, ?y8⟩) (by assumption) ?r8
            case y8 => (intro w' hSw; (try dsimp only at hSw); go_simp; try with_reducible rfl)
            try simp only [Act.put, List.setIfInBounds_toArray, List.set_cons_zero, List.set_cons_succ]
            refine wpAnyL_take (i := 8) (v := ?v9) rfl (by kernel_rfl) (by kernel_rfl) (by kernel_rfl) (by kernel_rfl) (fun _ _ _ h => h) (Or.inl ⟨by rfl, ?y9⟩) (by assumption) ?r9
            case y9 => (intro w' hSw; (try dsimp only at hSw); go_simp; try with_reducible rfl)
            try simp only [Act.put, List.setIfInBounds_toArray, List.set_cons_zero, List.set_cons_succ]
            refine wpAnyL_take (i := 9) (v := ?v10) rfl (by kernel_rfl) (by kernel_rfl) (by kernel_rfl) (by kernel_rfl) (fun _ _ _ h => h) (Or.inl ⟨by rfl, ?y10⟩) (by assumption) ?r10
            case y10 => (intro w' hSw; (try dsimp only at hSw); go_simp; try with_reducible rfl)
            try simp only [Act.put, List.setIfInBounds_toArray, List.set_cons_zero, List.set_cons_succ]
            refine wpAnyL_take (i := 10) (v := ?v11) rfl (by kernel_rfl) (by kernel_rfl) (by kernel_rfl) (by kernel_rfl) (fun _ _ _ h => h) (Or.inl ⟨by rfl, ?y11⟩) (by assumption) ?r11
            case y11 => (intro w' hSw; (try dsimp only at hSw); go_simp; try with_reducible rfl)
            try simp only [Act.put, List.setIfInBounds_toArray, List.set_cons_zero, List.set_cons_succ]
            refine wpAnyL_take (i := 11) (v := ?v12) rfl (by kernel_rfl) (by kernel_rfl) (by kernel_rfl) (by kernel_rfl) (fun _ _ _ h => h) (Or.inl ⟨by rfl, ?y12⟩) (by assumption) ?r12
            case y12 => (intro w' hSw; (try dsimp only at hSw); go_simp; try with_reducible rfl)
            try simp only [Act.put, List.setIfInBounds_toArray, List.set_cons_zero, List.set_cons_succ]
            refine wpAnyL_take (i := 12) (v := ?v13) rfl (by kernel_rfl) (by kernel_rfl) (by kernel_rfl) (by kernel_rfl) (fun _ _ _ h => h) (Or.inl ⟨by rfl, ?y13⟩) (by assumption) ?r13
            case y13 => (intro w' hSw; (try dsimp only at hSw); go_simp; try with_reducible rfl)
            try simp only [Act.put, List.setIfInBounds_toArray, List.set_cons_zero, List.set_cons_succ]
            refine wpAnyL_take (i := 13) (v := ?v14) rfl (by kernel_rfl) (by kernel_rfl) (by kernel_rfl) (by kernel_rfl) (fun _ _ _ h => h) (Or.inl ⟨by rfl, ?y14⟩) (by assumption) ?r14
            case y14 => (intro w' hSw; (try dsimp only at hSw); go_simp; try with_reducible rfl)
            try simp only [Act.put, List.setIfInBounds_toArray, List.set_cons_zero, List.set_cons_succ]
            refine wpAnyL_one (i := 14) (by kernel_rfl) rfl rfl (fun K hK => ?_)
            go_simp
            refine (HC.out).mono ?_
            rintro e w4 ⟨rfl, hb4⟩
            have hS4 : O2 w4 w.heap.size (some ⟨b1, o1, none⟩) c o ∧ Tc w4 b1 (o1 + i * 2) a1 c1 a2 c2 s ∧ Tc w4 b1 (o1 + j * 2) a3 c3 a4 c4 t := ⟨hSd.1.below hb4 (by omega), hSd.2.1.below hb4 hbd, hSd.2.2.below hb4 hbd⟩
            refine hK _ _ (fun _ => hS4) ?_
            clear hK K
            refine wpAnyL_take (i := 15) (v := ?v15) rfl (by kernel_rfl) (by kernel_rfl) (by kernel_rfl) (by kernel_rfl) (fun _ _ _ h => h) (Or.inl ⟨by rfl, ?y15⟩) (by assumption) ?r15
            case y15 => (intro w' hSw; (try dsimp only at hSw); go_simp; try with_reducible rfl)
            try simp only [Act.put, List.setIfInBounds_toArray, List.set_cons_zero, List.set_cons_succ]
            refine wpAnyL_take (i := 16) (v := ?v16) rfl (by kernel_rfl) (by kernel_rfl) (by kernel_rfl) (by kernel_rfl) (fun _ _ _ h => h) (Or.inl ⟨by rfl, ?y16⟩) (by assumption) ?r16
            case y16 => (intro w' hSw; (try dsimp only at hSw); go_simp; try with_reducible rfl)
            try simp only [Act.put, List.setIfInBounds_toArray, List.set_cons_zero, List.set_cons_succ]
            refine wpAnyL_done (by kernel_rfl) ?_ _
            have HP3 : Hid (o.preB i (j + 1) = hasP t.inn s.inn) := by unfold Hid; rw [HP2.out, Bool.false_or]
            have hB4 := hBd.trans (hb4.mono (by omega))
            have H1 := Lib.hid (And.intro (H1.out.1.below hb4) (H1.out.2.below hb4))
            have H2 := Lib.hid (And.intro (H2.out.1.below hb4) (H2.out.2.below hb4))
            have hz4 : w.heap.size + 1 ≤ w4.heap.size := by have := hb4.size; omega
            have hbl : b1 < w4.heap.size := by have := hb4.size; omega
            clear HC hSd hBd hzd hbd hb4 HP2
            go_wp2
            refine wp_region_L (fun w' => O2 w' w.heap.size (some ⟨b1, o1, none⟩) c o ∧ Tc w' b1 (o1 + i * 2) a1 c1 a2 c2 s ∧ Tc w' b1 (o1 + j * 2) a3 c3 a4 c4 t) [0, 1, 2, 3, 4, 5, 6, 7, 8, 9, 10, 11, 13, 14, 15] (by kernel_rfl) ?_
            have hSd : O2 w4.drew w.heap.size (some ⟨b1, o1, none⟩) c o ∧ Tc w4.drew b1 (o1 + i * 2) a1 c1 a2 c2 s ∧ Tc w4.drew b1 (o1 + j * 2) a3 c3 a4 c4 t := ⟨hS4.1.below (Below.refl w4.heap.size w4).drew (by omega), hS4.2.1.below (Below.refl w4.heap.size w4).drew hbl, hS4.2.2.below (Below.refl w4.heap.size w4).drew hbl⟩
            have hBd := hB4.drew
            have H1 := Lib.hid (And.intro (H1.out.1.drew) (H1.out.2.drew))
            have H2 := Lib.hid (And.intro (H2.out.1.drew) (H2.out.2.drew))
            have hzd : w.heap.size + 1 ≤ w4.drew.heap.size := hz4
            have hbd : b1 < w4.drew.heap.size := hbl
            clear hS4 hB4 hz4 hbl
            generalize w4.drew = w5 at *
            rcases qb with _ | _
            · have HC := Lib.hid (difR_any H1.out.1 H1.out.2 H2.out.1 H2.out.2 hls)
              refine wpAnyL_take (i := 0) (v := ?v17) rfl (by kernel_rfl) (by kernel_rfl) (by kernel_rfl) (by kernel_rfl) (fun _ _ _ h => h) (Or.inl ⟨by rfl, ?y17⟩) (by assumption) ?r17
              case y17 => (intro w' hSw; (try dsimp only at hSw); go_simp; try with_reducible rfl)
              try simp only [Act.put, List.setIfInBounds_toArray, List.set_cons_zero, List.set_cons_succ]
              refine wpAnyL_take (i := 1) (v := ?v18) rfl (by kernel_rfl) (by kernel_rfl) (by kernel_rfl) (by kernel_rfl) (fun _ _ _ h => h) (Or.inl ⟨by rfl, ?y18⟩) (by assumption) ?r18
              case y18 => (intro w' hSw; (try dsimp only at hSw); go_simp; try with_reducible rfl)
              try simp only [Act.put, List.setIfInBounds_toArray, List.set_cons_zero, List.set_cons_succ]
              refine wpAnyL_take (i := 2) (v := ?v19) rfl (by kernel_rfl) (by kernel_rfl) (by kernel_rfl) (by kernel_rfl) (fun _ _ _ h => h) (Or.inl ⟨by rfl, ?y19⟩) (by assumption) ?r19
              case y19 => (intro w' hSw; (try dsimp only at hSw); go_simp; try with_reducible rfl)
              try simp only [Act.put, List.setIfInBounds_toArray, List.set_cons_zero, List.set_cons_succ]
              refine wpAnyL_take (i := 3) (v := ?v20) rfl (by kernel_rfl) (by kernel_rfl) (by kernel_rfl) (by kernel_rfl) (fun _ _ _ h => h) (Or.inl ⟨by rfl, ?y20⟩) (by assumption) ?r20
              case y20 => (intro w' hSw; (try dsimp only at hSw); go_simp; try with_reducible rfl)
              try simp only [Act.put, List.setIfInBounds_toArray, List.set_cons_zero, List.set_cons_succ]
              refine wpAnyL_take (i := 4) (v := ?v21) rfl (by kernel_rfl) (by kernel_rfl) (by kernel_rfl) (by kernel_rfl) (fun _ _ _ h => h) (Or.inl ⟨by rfl, ?y21⟩) (by assumption) ?r21
              case y21 => (intro w' hSw; (try dsimp only at hSw); go_simp; try with_reducible rfl)
              try simp only [Act.put, List.setIfInBounds_toArray, List.set_cons_zero, List.set_cons_succ]
              refine wpAnyL_take (i := 5) (v := ?v22) rfl (by kernel_rfl) (by kernel_rfl) (by kernel_rfl) (by kernel_rfl) (fun _ _ _ h => h) (Or.inl ⟨by rfl, ?y22⟩) (by assumption) ?r22
              case y22 => (intro w' hSw; (try dsimp only at hSw); go_simp; try with_reducible rfl)
              try simp only [Act.put, List.setIfInBounds_toArray, List.set_cons_zero, List.set_cons_succ]
              refine wpAnyL_take (i := 6) (v := ?v23) rfl (by kernel_rfl) (by kernel_rfl) (by kernel_rfl) (by kernel_rfl) (fun _ _ _ h => h) (Or.inl ⟨by rfl, ?y23⟩) (by assumption) ?r23
              case y23 => (intro w' hSw; (try dsimp only at hSw); go_simp; try with_reducible rfl)
              try simp only [Act.put, List.setIfInBounds_toArray, List.set_cons_zero, List.set_cons_succ]
              refine wpAnyL_take (i := 7) (v := ?v24) rfl (by kernel_rfl) (by kernel_rfl) (by kernel_rfl) (by kernel_rfl) (fun _ _ _ h => h) (Or.inl ⟨by rfl, ?y24⟩) (by assumption) ?r24
              case y24 => (intro w' hSw; (try dsimp only at hSw); go_simp; try with_reducible rfl)
              try simp only [Act.put, List.setIfInBounds_toArray, List.set_cons_zero, List.set_cons_succ]
              refine wpAnyL_take (i := 8) (v := ?v25) rfl (by kernel_rfl) (by kernel_rfl) (by kernel_rfl) (by kernel_rfl) (fun _ _ _ h => h) (Or.inl ⟨by rfl, ?y25⟩) (by assumption) ?r25
              case y25 => (intro w' hSw; (try dsimp only at hSw); go_simp; try with_reducible rfl)
              try simp only [Act.put, List.setIfInBounds_toArray, List.set_cons_zero, List.set_cons_succ]
              refine wpAnyL_take (i := 9) (v := ?v26) rfl (by kernel_rfl) (by kernel_rfl) (by kernel_rfl) (by kernel_rfl) (fun _ _ _ h => h) (Or.inl ⟨by rfl, ?y26⟩) (by assumption) ?r26
              case y26 => (intro w' hSw; (try dsimp only at hSw); go_simp; try with_reducible rfl)
              try simp only [Act.put, List.setIfInBounds_toArray, List.set_cons_zero, List.set_cons_succ]
              refine wpAnyL_take (i := 10) (v := ?v27) rfl (by kernel_rfl) (by kernel_rfl) (by kernel_rfl) (by kernel_rfl) (fun _ _ _ h => h) (Or.inl ⟨by rfl, ?y27⟩) (by assumption) ?r27
              case y27 => (intro w' hSw; (try dsimp only at hSw); go_simp; try with_reducible rfl)
              try simp only [Act.put, List.setIfInBounds_toArray, List.set_cons_zero, List.set_cons_succ]
              refine wpAnyL_take (i := 11) (v := ?v28) rfl (by kernel_rfl) (by kernel_rfl) (by kernel_rfl) (by kernel_rfl) (fun _ _ _ h => h) (Or.inl ⟨by rfl, ?y28⟩) (by assumption) ?r28
              case y28 => (intro w' hSw; (try dsimp only at hSw); go_simp; try with_reducible rfl)
              try simp only [Act.put, List.setIfInBounds_toArray, List.set_cons_zero, List.set_cons_succ]
              refine wpAnyL_one (i := 12) (by kernel_rfl) rfl rfl (fun K hK => ?_)
              go_simp
              refine (HC.out).mono ?_
              rintro e w6 ⟨rfl, hb6⟩
              have hS6 : O2 w6 w.heap.size (some ⟨b1, o1, none⟩) c o ∧ Tc w6 b1 (o1 + i * 2) a1 c1 a2 c2 s ∧ Tc w6 b1 (o1 + j * 2) a3 c3 a4 c4 t := ⟨hSd.1.below hb6 (by omega), hSd.2.1.below hb6 hbd, hSd.2.2.below hb6 hbd⟩
              refine hK _ _ (fun _ => hS6) ?_
              clear hK K
              refine wpAnyL_take (i := 13) (v := ?v29) rfl (by kernel_rfl) (by kernel_rfl) (by kernel_rfl) (by kernel_rfl) (fun _ _ _ h => h) (Or.inl ⟨by rfl, ?y29⟩) (by assumption) ?r29
              case y29 => (intro w' hSw; (try dsimp only at hSw); go_simp; try with_reducible rfl)
              try simp only [Act.put, List.setIfInBounds_toArray, List.set_cons_zero, List.set_cons_succ]
              refine wpAnyL_take (i := 14) (v := ?v30) rfl (by kernel_rfl) (by kernel_rfl) (by kernel_rfl) (by kernel_rfl) (fun _ _ _ h => h) (Or.inl ⟨by rfl, ?y30⟩) (by assumption) ?r30
              case y30 => (intro w' hSw; (try dsimp only at hSw); go_simp; try with_reducible rfl)
              try simp only [Act.put, List.setIfInBounds_toArray, List.set_cons_zero, List.set_cons_succ]
              refine wpAnyL_take (i := 15) (v := ?v31) rfl (by kernel_rfl) (by kernel_rfl) (by kernel_rfl) (by kernel_rfl) (fun _ _ _ h => h) (Or.inl ⟨by rfl, ?y31⟩) (by assumption) ?r31
              case y31 => (intro w' hSw; (try dsimp only at hSw); go_simp; try with_reducible rfl)
              try simp only [Act.put, List.setIfInBounds_toArray, List.set_cons_zero, List.set_cons_succ]
              refine wpAnyL_done (by kernel_rfl) ?_ _
              have HQ3 : Hid (decide (0 ≤ s.dif t) = o.claB i (j + 1)) := by unfold Hid; rw [HQ2.out, Bool.false_or]
              have hB6 := hBd.trans (hb6.mono (by omega))
              have hz6 : w.heap.size + 1 ≤ w6.heap.size := by have := hb6.size; omega
              clear HC hSd hBd hzd hbd hb6 HQ2
              go_wp2
              go_roundw
              case rel => exact ⟨j + 1, _, _, by omega, by omega, by go_num, rfl, rfl, HP3.out.symm, HQ3, hS6.1, hB6, hz6⟩
              case measure => simp [intOf]; omega
            · have HQ3 : Hid (true = o.claB i (j + 1)) := by unfold Hid; rw [HQ2.out, Bool.true_or]
              clear HQ2
              refine wpAnyL_take (i := 0) (v := ?v32) rfl (by kernel_rfl) (by kernel_rfl) (by kernel_rfl) (by kernel_rfl) (fun _ _ _ h => h) (Or.inl ⟨by rfl, ?y32⟩) (by assumption) ?r32
              case y32 => (intro w' hSw; (try dsimp only at hSw); go_simp; try with_reducible rfl)
              try simp only [Act.put, List.setIfInBounds_toArray, List.set_cons_zero, List.set_cons_succ]
              refine wpAnyL_take (i := 1) (v := ?v33) rfl (by kernel_rfl) (by kernel_rfl) (by kernel_rfl) (by kernel_rfl) (fun _ _ _ h => h) (Or.inl ⟨by rfl, ?y33⟩) (by assumption) ?r33
              case y33 => (intro w' hSw; (try dsimp only at hSw); go_simp; try with_reducible rfl)
              try simp only [Act.put, List.setIfInBounds_toArray, List.set_cons_zero, List.set_cons_succ]
              refine wpAnyL_take (i := 2) (v := undef) rfl (by kernel_rfl) (by kernel_rfl) (by kernel_rfl) (by kernel_rfl) (fun _ _ _ h => h) (Or.inr ⟨by rfl, rfl⟩) (by assumption) ?_
              try simp only [Act.put, List.setIfInBounds_toArray, List.set_cons_zero, List.set_cons_succ]
              refine wpAnyL_take (i := 3) (v := undef) rfl (by kernel_rfl) (by kernel_rfl) (by kernel_rfl) (by kernel_rfl) (fun _ _ _ h => h) (Or.inr ⟨by rfl, rfl⟩) (by assumption) ?_
              try simp only [Act.put, List.setIfInBounds_toArray, List.set_cons_zero, List.set_cons_succ]
              refine wpAnyL_take (i := 4) (v := undef) rfl (by kernel_rfl) (by kernel_rfl) (by kernel_rfl) (by kernel_rfl) (fun _ _ _ h => h) (Or.inr ⟨by rfl, rfl⟩) (by assumption) ?_
              try simp only [Act.put, List.setIfInBounds_toArray, List.set_cons_zero, List.set_cons_succ]
              refine wpAnyL_take (i := 5) (v := undef) rfl (by kernel_rfl) (by kernel_rfl) (by kernel_rfl) (by kernel_rfl) (fun _ _ _ h => h) (Or.inr ⟨by rfl, rfl⟩) (by assumption) ?_
              try simp only [Act.put, List.setIfInBounds_toArray, List.set_cons_zero, List.set_cons_succ]
              refine wpAnyL_take (i := 6) (v := undef) rfl (by kernel_rfl) (by kernel_rfl) (by kernel_rfl) (by kernel_rfl) (fun _ _ _ h => h) (Or.inr ⟨by rfl, rfl⟩) (by assumption) ?_
              try simp only [Act.put, List.setIfInBounds_toArray, List.set_cons_zero, List.set_cons_succ]
              refine wpAnyL_take (i := 7) (v := undef) rfl (by kernel_rfl) (by kernel_rfl) (by kernel_rfl) (by kernel_rfl) (fun _ _ _ h => h) (Or.inr ⟨by rfl, rfl⟩) (by assumption) ?_
              try simp only [Act.put, List.setIfInBounds_toArray, List.set_cons_zero, List.set_cons_succ]
              refine wpAnyL_take (i := 8) (v := undef) rfl (by kernel_rfl) (by kernel_rfl) (by kernel_rfl) (by kernel_rfl) (fun _ _ _ h => h) (Or.inr ⟨by rfl, rfl⟩) (by assumption) ?_
              try simp only [Act.put, List.setIfInBounds_toArray, List.set_cons_zero, List.set_cons_succ]
              refine wpAnyL_take (i := 9) (v := undef) rfl (by kernel_rfl) (by kernel_rfl) (by kernel_rfl) (by kernel_rfl) (fun _ _ _ h => h) (Or.inr ⟨by rfl, rfl⟩) (by assumption) ?_
              try simp only [Act.put, List.setIfInBounds_toArray, List.set_cons_zero, List.set_cons_succ]
              refine wpAnyL_take (i := 10) (v := undef) rfl (by kernel_rfl) (by kernel_rfl) (by kernel_rfl) (by kernel_rfl) (fun _ _ _ h => h) (Or.inr ⟨by rfl, rfl⟩) (by assumption) ?_
              try simp only [Act.put, List.setIfInBounds_toArray, List.set_cons_zero, List.set_cons_succ]
              refine wpAnyL_take (i := 11) (v := undef) rfl (by kernel_rfl) (by kernel_rfl) (by kernel_rfl) (by kernel_rfl) (fun _ _ _ h => h) (Or.inr ⟨by rfl, rfl⟩) (by assumption) ?_
              try simp only [Act.put, List.setIfInBounds_toArray, List.set_cons_zero, List.set_cons_succ]
              refine wpAnyL_skip (i := 12) (by kernel_rfl) rfl rfl (by assumption) ?_
              try simp only [Act.put, List.setIfInBounds_toArray, List.set_cons_zero, List.set_cons_succ]
              refine wpAnyL_skip (i := 13) (by kernel_rfl) rfl rfl (by assumption) ?_
              try simp only [Act.put, List.setIfInBounds_toArray, List.set_cons_zero, List.set_cons_succ]
              refine wpAnyL_take (i := 14) (v := ?v34) rfl (by kernel_rfl) (by kernel_rfl) (by kernel_rfl) (by kernel_rfl) (fun _ _ _ h => h) (Or.inl ⟨by rfl, ?y34⟩) (by assumption) ?r34
              case y34 => (intro w' hSw; (try dsimp only at hSw); go_simp; try with_reducible rfl)
              try simp only [Act.put, List.setIfInBounds_toArray, List.set_cons_zero, List.set_cons_succ]
              refine wpAnyL_take (i := 15) (v := ?v35) rfl (by kernel_rfl) (by kernel_rfl) (by kernel_rfl) (by kernel_rfl) (fun _ _ _ h => h) (Or.inl ⟨by rfl, ?y35⟩) (by assumption) ?r35
              case y35 => (intro w' hSw; (try dsimp only at hSw); go_simp; try with_reducible rfl)
              try simp only [Act.put, List.setIfInBounds_toArray, List.set_cons_zero, List.set_cons_succ]
              refine wpAnyL_done (by kernel_rfl) ?_ _
              go_wp2
              go_roundw
              case rel => exact ⟨j + 1, _, _, by omega, by omega, by go_num, rfl, rfl, HP3.out.symm, HQ3, hSd.1, hBd, hzd⟩
              case measure => simp [intOf]; omega
          · have HP3 : Hid (o.preB i (j + 1) = true) := by unfold Hid; rw [HP2.out, Bool.true_or]
            clear HP2
            refine wpAnyL_take (i := 0) (v := ?v36) rfl (by kernel_rfl) (by kernel_rfl) (by kernel_rfl) (by kernel_rfl) (fun _ _ _ h => h) (Or.inl ⟨by rfl, ?y36⟩) (by assumption) ?r36
            case y36 => (intro w' hSw; (try dsimp only at hSw); go_simp; try with_reducible rfl)
            try simp only [Act.put, List.setIfInBounds_toArray, List.set_cons_zero, List.set_cons_succ]
            refine wpAnyL_take (i := 1) (v := ?v37) rfl (by kernel_rfl) (by kernel_rfl) (by kernel_rfl) (by kernel_rfl) (fun _ _ _ h => h) (Or.inl ⟨by rfl, ?y37⟩) (by assumption) ?r37
            case y37 => (intro w' hSw; (try dsimp only at hSw); go_simp; try with_reducible rfl)
            try simp only [Act.put, List.setIfInBounds_toArray, List.set_cons_zero, List.set_cons_succ]
            refine wpAnyL_take (i := 2) (v := undef) rfl (by kernel_rfl) (by kernel_rfl) (by kernel_rfl) (by kernel_rfl) (fun _ _ _ h => h) (Or.inr ⟨by rfl, rfl⟩) (by assumption) ?_
            try simp only [Act.put, List.setIfInBounds_toArray, List.set_cons_zero, List.set_cons_succ]
            refine wpAnyL_take (i := 3) (v := undef) rfl (by kernel_rfl) (by kernel_rfl) (by kernel_rfl) (by kernel_rfl) (fun _ _ _ h => h) (Or.inr ⟨by rfl, rfl⟩) (by assumption) ?_
            try simp only [Act.put, List.setIfInBounds_toArray, List.set_cons_zero, List.set_cons_succ]
            refine wpAnyL_take (i := 4) (v := undef) rfl (by kernel_rfl) (by kernel_rfl) (by kernel_rfl) (by kernel_rfl) (fun _ _ _ h => h) (Or.inr ⟨by rfl, rfl⟩) (by assumption) ?_
            try simp only [Act.put, List.setIfInBounds_toArray, List.set_cons_zero, List.set_cons_succ]
            refine wpAnyL_take (i := 5) (v := undef) rfl (by kernel_rfl) (by kernel_rfl) (by kernel_rfl) (by kernel_rfl) (fun _ _ _ h => h) (Or.inr ⟨by rfl, rfl⟩) (by assumption) ?_
            try simp only [Act.put, List.setIfInBounds_toArray, List.set_cons_zero, List.set_cons_succ]
            refine wpAnyL_take (i := 6) (v := undef) rfl (by kernel_rfl) (by kernel_rfl) (by kernel_rfl) (by kernel_rfl) (fun _ _ _ h => h) (Or.inr ⟨by rfl, rfl⟩) (by assumption) ?_
            try simp only [Act.put, List.setIfInBounds_toArray, List.set_cons_zero, List.set_cons_succ]
            refine wpAnyL_take (i := 7) (v := undef) rfl (by kernel_rfl) (by kernel_rfl) (by kernel_rfl) (by kernel_rfl) (fun _ _ _ h => h) (Or.inr ⟨by rfl, rfl⟩) (by assumption) ?_
            try simp only [Act.put, List.setIfInBounds_toArray, List.set_cons_zero, List.set_cons_succ]
            refine wpAnyL_take (i := 8) (v := undef) rfl (by kernel_rfl) (by kernel_rfl) (by kernel_rfl) (by kernel_rfl) (fun _ _ _ h => h) (Or.inr ⟨by rfl, rfl⟩) (by assumption) ?_
            try simp only [Act.put, List.setIfInBounds_toArray, List.set_cons_zero, List.set_cons_succ]
            refine wpAnyL_take (i := 9) (v := undef) rfl (by kernel_rfl) (by kernel_rfl) (by kernel_rfl) (by kernel_rfl) (fun _ _ _ h => h) (Or.inr ⟨by rfl, rfl⟩) (by assumption) ?_
            try simp only [Act.put, List.setIfInBounds_toArray, List.set_cons_zero, List.set_cons_succ]
            refine wpAnyL_take (i := 10) (v := undef) rfl (by kernel_rfl) (by kernel_rfl) (by kernel_rfl) (by kernel_rfl) (fun _ _ _ h => h) (Or.inr ⟨by rfl, rfl⟩) (by assumption) ?_
            try simp only [Act.put, List.setIfInBounds_toArray, List.set_cons_zero, List.set_cons_succ]
            refine wpAnyL_take (i := 11) (v := undef) rfl (by kernel_rfl) (by kernel_rfl) (by kernel_rfl) (by kernel_rfl) (fun _ _ _ h => h) (Or.inr ⟨by rfl, rfl⟩) (by assumption) ?_
            try simp only [Act.put, List.setIfInBounds_toArray, List.set_cons_zero, List.set_cons_succ]
            refine wpAnyL_take (i := 12) (v := undef) rfl (by kernel_rfl) (by kernel_rfl) (by kernel_rfl) (by kernel_rfl) (fun _ _ _ h => h) (Or.inr ⟨by rfl, rfl⟩) (by assumption) ?_
            try simp only [Act.put, List.setIfInBounds_toArray, List.set_cons_zero, List.set_cons_succ]
            refine wpAnyL_take (i := 13) (v := undef) rfl (by kernel_rfl) (by kernel_rfl) (by kernel_rfl) (by kernel_rfl) (fun _ _ _ h => h) (Or.inr ⟨by rfl, rfl⟩) (by assumption) ?_
            try simp only [Act.put, List.setIfInBounds_toArray, List.set_cons_zero, List.set_cons_succ]
            refine wpAnyL_skip (i := 14) (by kernel_rfl) rfl rfl (by assumption) ?_
            try simp only [Act.put, List.setIfInBounds_toArray, List.set_cons_zero, List.set_cons_succ]
            refine wpAnyL_take (i := 15) (v := ?v38) rfl (by kernel_rfl) (by kernel_rfl) (by kernel_rfl) (by kernel_rfl) (fun _ _ _ h => h) (Or.inl ⟨by rfl, ?y38⟩) (by assumption) ?r38
            case y38 => (intro w' hSw; (try dsimp only at hSw); go_simp; try with_reducible rfl)
            try simp only [Act.put, List.setIfInBounds_toArray, List.set_cons_zero, List.set_cons_succ]
            refine wpAnyL_take (i := 16) (v := ?v39) rfl (by kernel_rfl) (by kernel_rfl) (by kernel_rfl) (by kernel_rfl) (fun _ _ _ h => h) (Or.inl ⟨by rfl, ?y39⟩) (by assumption) ?r39
            case y39 => (intro w' hSw; (try dsimp only at hSw); go_simp; try with_reducible rfl)
            try simp only [Act.put, List.setIfInBounds_toArray, List.set_cons_zero, List.set_cons_succ]
            refine wpAnyL_done (by kernel_rfl) ?_ _
            have hS4 := hSd
            have hB4 := hBd
            have hz4 := hzd
            have hbl := hbd
            clear hSd hBd hzd hbd
            generalize w3 = w4 at *
            go_wp2
            refine wp_region_L (fun w' => O2 w' w.heap.size (some ⟨b1, o1, none⟩) c o ∧ Tc w' b1 (o1 + i * 2) a1 c1 a2 c2 s ∧ Tc w' b1 (o1 + j * 2) a3 c3 a4 c4 t) [0, 1, 2, 3, 4, 5, 6, 7, 8, 9, 10, 11, 13, 14, 15] (by kernel_rfl) ?_
            have hSd : O2 w4.drew w.heap.size (some ⟨b1, o1, none⟩) c o ∧ Tc w4.drew b1 (o1 + i * 2) a1 c1 a2 c2 s ∧ Tc w4.drew b1 (o1 + j * 2) a3 c3 a4 c4 t := ⟨hS4.1.below (Below.refl w4.heap.size w4).drew (by omega), hS4.2.1.below (Below.refl w4.heap.size w4).drew hbl, hS4.2.2.below (Below.refl w4.heap.size w4).drew hbl⟩
            have hBd := hB4.drew
            have H1 := Lib.hid (And.intro (H1.out.1.drew) (H1.out.2.drew))
            have H2 := Lib.hid (And.intro (H2.out.1.drew) (H2.out.2.drew))
            have hzd : w.heap.size + 1 ≤ w4.drew.heap.size := hz4
            have hbd : b1 < w4.drew.heap.size := hbl
            clear hS4 hB4 hz4 hbl
            generalize w4.drew = w5 at *
            rcases qb with _ | _
            · have HC := Lib.hid (difR_any H1.out.1 H1.out.2 H2.out.1 H2.out.2 hls)
              refine wpAnyL_take (i := 0) (v := ?v40) rfl (by kernel_rfl) (by kernel_rfl) (by kernel_rfl) (by kernel_rfl) (fun _ _ _ h => h) (Or.inl ⟨by rfl, ?y40⟩) (by assumption) ?r40
              case y40 => (intro w' hSw; (try dsimp only at hSw); go_simp; try with_reducible rfl)
              try simp only [Act.put, List.setIfInBounds_toArray, List.set_cons_zero, List.set_cons_succ]
              refine wpAnyL_take (i := 1) (v := ?v41) rfl (by kernel_rfl) (by kernel_rfl) (by kernel_rfl) (by kernel_rfl) (fun _ _ _ h => h) (Or.inl ⟨by rfl, ?y41⟩) (by assumption) ?r41
              case y41 => (intro w' hSw; (try dsimp only at hSw); go_simp; try with_reducible rfl)
              try simp only [Act.put, List.setIfInBounds_toArray, List.set_cons_zero, List.set_cons_succ]
              refine wpAnyL_take (i := 2) (v := ?v42) rfl (by kernel_rfl) (by kernel_rfl) (by kernel_rfl) (by kernel_rfl) (fun _ _ _ h => h) (Or.inl ⟨by rfl, ?y42⟩) (by assumption) ?r42
              case y42 => (intro w' hSw; (try dsimp only at hSw); go_simp; try with_reducible rfl)
              try simp only [Act.put, List.setIfInBounds_toArray, List.set_cons_zero, List.set_cons_succ]
              refine wpAnyL_take (i := 3) (v := ?v43) rfl (by kernel_rfl) (by kernel_rfl) (by kernel_rfl) (by kernel_rfl) (fun _ _ _ h => h) (Or.inl ⟨by rfl, ?y43⟩) (by assumption) ?r43
              case y43 => (intro w' hSw; (try dsimp only at hSw); go_simp; try with_reducible rfl)
              try simp only [Act.put, List.setIfInBounds_toArray, List.set_cons_zero, List.set_cons_succ]
              refine wpAnyL_take (i := 4) (v := ?v44) rfl (by kernel_rfl) (by kernel_rfl) (by kernel_rfl) (by kernel_rfl) (fun _ _ _ h => h) (Or.inl ⟨by rfl, ?y44⟩) (by assumption) ?r44
              case y44 => (intro w' hSw; (try dsimp only at hSw); go_simp; try with_reducible rfl)
              try simp only [Act.put, List.setIfInBounds_toArray, List.set_cons_zero, List.set_cons_succ]
              refine wpAnyL_take (i := 5) (v := ?v45) rfl (by kernel_rfl) (by kernel_rfl) (by kernel_rfl) (by kernel_rfl) (fun _ _ _ h => h) (Or.inl ⟨by rfl, ?y45⟩) (by assumption) ?r45
              case y45 => (intro w' hSw; (try dsimp only at hSw); go_simp; try with_reducible rfl)
              try simp only [Act.put, List.setIfInBounds_toArray, List.set_cons_zero, List.set_cons_succ]
              refine wpAnyL_take (i := 6) (v := ?v46) rfl (by kernel_rfl) (by kernel_rfl) (by kernel_rfl) (by kernel_rfl) (fun _ _ _ h => h) (Or.inl ⟨by rfl, ?y46⟩) (by assumption) ?r46
              case y46 => (intro w' hSw; (try dsimp only at hSw); go_simp; try with_reducible rfl)
              try simp only [Act.put, List.setIfInBounds_toArray, List.set_cons_zero, List.set_cons_succ]
              refine wpAnyL_take (i := 7) (v := ?v47) rfl (by kernel_rfl) (by kernel_rfl) (by kernel_rfl) (by kernel_rfl) (fun _ _ _ h => h) (Or.inl ⟨by rfl, ?y47⟩) (by assumption) ?r47
              case y47 => (intro w' hSw; (try dsimp only at hSw); go_simp; try with_reducible rfl)
              try simp only [Act.put, List.setIfInBounds_toArray, List.set_cons_zero, List.set_cons_succ]
              refine wpAnyL_take (i := 8) (v := ?v48) rfl (by kernel_rfl) (by kernel_rfl) (by kernel_rfl) (by kernel_rfl) (fun _ _ _ h => h) (Or.inl ⟨by rfl, ?y48⟩) (by assumption) ?r48
              case y48 => (intro w' hSw; (try dsimp only at hSw); go_simp; try with_reducible rfl)
              try simp only [Act.put, List.setIfInBounds_toArray, List.set_cons_zero, List.set_cons_succ]
              refine wpAnyL_take (i := 9) (v := ?v49) rfl (by kernel_rfl) (by kernel_rfl) (by kernel_rfl) (by kernel_rfl) (fun _ _ _ h => h) (Or.inl ⟨by rfl, ?y49⟩) (by assumption) ?r49
              case y49 => (intro w' hSw; (try dsimp only at hSw); go_simp; try with_reducible rfl)
              try simp only [Act.put, List.setIfInBounds_toArray, List.set_cons_zero, List.set_cons_succ]
              refine wpAnyL_take (i := 10) (v := ?v50) rfl (by kernel_rfl) (by kernel_rfl) (by kernel_rfl) (by kernel_rfl) (fun _ _ _ h => h) (Or.inl ⟨by rfl, ?y50⟩) (by assumption) ?r50
              case y50 => (intro w' hSw; (try dsimp only at hSw); go_simp; try with_reducible rfl)
              try simp only [Act.put, List.setIfInBounds_toArray, List.set_cons_zero, List.set_cons_succ]
              refine wpAnyL_take (i := 11) (v := ?v51) rfl (by kernel_rfl) (by kernel_rfl) (by kernel_rfl) (by kernel_rfl) (fun _ _ _ h => h) (Or.inl ⟨by rfl, ?y51⟩) (by assumption) ?r51
              case y51 => (intro w' hSw; (try dsimp only at hSw); go_simp; try with_reducible rfl)
              try simp only [Act.put, List.setIfInBounds_toArray, List.set_cons_zero, List.set_cons_succ]
              refine wpAnyL_one (i := 12) (by kernel_rfl) rfl rfl (fun K hK => ?_)
              go_simp
              refine (HC.out).mono ?_
              rintro e w6 ⟨rfl, hb6⟩
              have hS6 : O2 w6 w.heap.size (some ⟨b1, o1, none⟩) c o ∧ Tc w6 b1 (o1 + i * 2) a1 c1 a2 c2 s ∧ Tc w6 b1 (o1 + j * 2) a3 c3 a4 c4 t := ⟨hSd.1.below hb6 (by omega), hSd.2.1.below hb6 hbd, hSd.2.2.below hb6 hbd⟩
              refine hK _ _ (fun _ => hS6) ?_
              clear hK K
              refine wpAnyL_take (i := 13) (v := ?v52) rfl (by kernel_rfl) (by kernel_rfl) (by kernel_rfl) (by kernel_rfl) (fun _ _ _ h => h) (Or.inl ⟨by rfl, ?y52⟩) (by assumption) ?r52
              case y52 => (intro w' hSw; (try dsimp only at hSw); go_simp; try with_reducible rfl)
              try simp only [Act.put, List.setIfInBounds_toArray, List.set_cons_zero, List.set_cons_succ]
              refine wpAnyL_take (i := 14) (v := ?v53) rfl (by kernel_rfl) (by kernel_rfl) (by kernel_rfl) (by kernel_rfl) (fun _ _ _ h => h) (Or.inl ⟨by rfl, ?y53⟩) (by assumption) ?r53
              case y53 => (intro w' hSw; (try dsimp only at hSw); go_simp; try with_reducible rfl)
              try simp only [Act.put, List.setIfInBounds_toArray, List.set_cons_zero, List.set_cons_succ]
              refine wpAnyL_take (i := 15) (v := ?v54) rfl (by kernel_rfl) (by kernel_rfl) (by kernel_rfl) (by kernel_rfl) (fun _ _ _ h => h) (Or.inl ⟨by rfl, ?y54⟩) (by assumption) ?r54
              case y54 => (intro w' hSw; (try dsimp only at hSw); go_simp; try with_reducible rfl)
              try simp only [Act.put, List.setIfInBounds_toArray, List.set_cons_zero, List.set_cons_succ]
              refine wpAnyL_done (by kernel_rfl) ?_ _
              have HQ3 : Hid (decide (0 ≤ s.dif t) = o.claB i (j + 1)) := by unfold Hid; rw [HQ2.out, Bool.false_or]
              have hB6 := hBd.trans (hb6.mono (by omega))
              have hz6 : w.heap.size + 1 ≤ w6.heap.size := by have := hb6.size; omega
              clear HC hSd hBd hzd hbd hb6 HQ2
              go_wp2
              go_roundw
              case rel => exact ⟨j + 1, _, _, by omega, by omega, by go_num, rfl, rfl, HP3.out.symm, HQ3, hS6.1, hB6, hz6⟩
              case measure => simp [intOf]; omega
            · have HQ3 : Hid (true = o.claB i (j + 1)) := by unfold Hid; rw [HQ2.out, Bool.true_or]
              clear HQ2
              refine wpAnyL_take (i := 0) (v := ?v55) rfl (by kernel_rfl) (by kernel_rfl) (by kernel_rfl) (by kernel_rfl) (fun _ _ _ h => h) (Or.inl ⟨by rfl, ?y55⟩) (by assumption) ?r55
              case y55 => (intro w' hSw; (try dsimp only at hSw); go_simp; try with_reducible rfl)
              try simp only [Act.put, List.setIfInBounds_toArray, List.set_cons_zero, List.set_cons_succ]
              refine wpAnyL_take (i := 1) (v := ?v56) rfl (by kernel_rfl) (by kernel_rfl) (by kernel_rfl) (by kernel_rfl) (fun _ _ _ h => h) (Or.inl ⟨by rfl, ?y56⟩) (by assumption) ?r56
              case y56 => (intro w' hSw; (try dsimp only at hSw); go_simp; try with_reducible rfl)
              try simp only [Act.put, List.setIfInBounds_toArray, List.set_cons_zero, List.set_cons_succ]
              refine wpAnyL_take (i := 2) (v := undef) rfl (by kernel_rfl) (by kernel_rfl) (by kernel_rfl) (by kernel_rfl) (fun _ _ _ h => h) (Or.inr ⟨by rfl, rfl⟩) (by assumption) ?_
              try simp only [Act.put, List.setIfInBounds_toArray, List.set_cons_zero, List.set_cons_succ]
              refine wpAnyL_take (i := 3) (v := undef) rfl (by kernel_rfl) (by kernel_rfl) (by kernel_rfl) (by kernel_rfl) (fun _ _ _ h => h) (Or.inr ⟨by rfl, rfl⟩) (by assumption) ?_
              try simp only [Act.put, List.setIfInBounds_toArray, List.set_cons_zero, List.set_cons_succ]
              refine wpAnyL_take (i := 4) (v := undef) rfl (by kernel_rfl) (by kernel_rfl) (by kernel_rfl) (by kernel_rfl) (fun _ _ _ h => h) (Or.inr ⟨by rfl, rfl⟩) (by assumption) ?_
              try simp only [Act.put, List.setIfInBounds_toArray, List.set_cons_zero, List.set_cons_succ]
              refine wpAnyL_take (i := 5) (v := undef) rfl (by kernel_rfl) (by kernel_rfl) (by kernel_rfl) (by kernel_rfl) (fun _ _ _ h => h) (Or.inr ⟨by rfl, rfl⟩) (by assumption) ?_
              try simp only [Act.put, List.setIfInBounds_toArray, List.set_cons_zero, List.set_cons_succ]
              refine wpAnyL_take (i := 6) (v := undef) rfl (by kernel_rfl) (by kernel_rfl) (by kernel_rfl) (by kernel_rfl) (fun _ _ _ h => h) (Or.inr ⟨by rfl, rfl⟩) (by assumption) ?_
              try simp only [Act.put, List.setIfInBounds_toArray, List.set_cons_zero, List.set_cons_succ]
              refine wpAnyL_take (i := 7) (v := undef) rfl (by kernel_rfl) (by kernel_rfl) (by kernel_rfl) (by kernel_rfl) (fun _ _ _ h => h) (Or.inr ⟨by rfl, rfl⟩) (by assumption) ?_
              try simp only [Act.put, List.setIfInBounds_toArray, List.set_cons_zero, List.set_cons_succ]
              refine wpAnyL_take (i := 8) (v := undef) rfl (by kernel_rfl) (by kernel_rfl) (by kernel_rfl) (by kernel_rfl) (fun _ _ _ h => h) (Or.inr ⟨by rfl, rfl⟩) (by assumption) ?_
              try simp only [Act.put, List.setIfInBounds_toArray, List.set_cons_zero, List.set_cons_succ]
              refine wpAnyL_take (i := 9) (v := undef) rfl (by kernel_rfl) (by kernel_rfl) (by kernel_rfl) (by kernel_rfl) (fun _ _ _ h => h) (Or.inr ⟨by rfl, rfl⟩) (by assumption) ?_
              try simp only [Act.put, List.setIfInBounds_toArray, List.set_cons_zero, List.set_cons_succ]
              refine wpAnyL_take (i := 10) (v := undef) rfl (by kernel_rfl) (by kernel_rfl) (by kernel_rfl) (by kernel_rfl) (fun _ _ _ h => h) (Or.inr ⟨by rfl, rfl⟩) (by assumption) ?_
              try simp only [Act.put, List.setIfInBounds_toArray, List.set_cons_zero, List.set_cons_succ]
              refine wpAnyL_take (i := 11) (v := undef) rfl (by kernel_rfl) (by kernel_rfl) (by kernel_rfl) (by kernel_rfl) (fun _ _ _ h => h) (Or.inr ⟨by rfl, rfl⟩) (by assumption) ?_
              try simp only [Act.put, List.setIfInBounds_toArray, List.set_cons_zero, List.set_cons_succ]
              refine wpAnyL_skip (i := 12) (by kernel_rfl) rfl rfl (by assumption) ?_
              try simp only [Act.put, List.setIfInBounds_toArray, List.set_cons_zero, List.set_cons_succ]
              refine wpAnyL_skip (i := 13) (by kernel_rfl) rfl rfl (by assumption) ?_
              try simp only [Act.put, List.setIfInBounds_toArray, List.set_cons_zero, List.set_cons_succ]
              refine wpAnyL_take (i := 14) (v := ?v57) rfl (by kernel_rfl) (by kernel_rfl) (by kernel_rfl) (by kernel_rfl) (fun _ _ _ h => h) (Or.inl ⟨by rfl, ?y57⟩) (by assumption) ?r57
              case y57 => (intro w' hSw; (try dsimp only at hSw); go_simp; try with_reducible rfl)
              try simp only [Act.put, List.setIfInBounds_toArray, List.set_cons_zero, List.set_cons_succ]
              refine wpAnyL_take (i := 15) (v := ?v58) rfl (by kernel_rfl) (by kernel_rfl) (by kernel_rfl) (by kernel_rfl) (fun _ _ _ h => h) (Or.inl ⟨by rfl, ?y58⟩) (by assumption) ?r58
              case y58 => (intro w' hSw; (try dsimp only at hSw); go_simp; try with_reducible rfl)
              try simp only [Act.put, List.setIfInBounds_toArray, List.set_cons_zero, List.set_cons_succ]
              refine wpAnyL_done (by kernel_rfl) ?_ _
              go_wp2
              go_roundw
              case rel => exact ⟨j + 1, _, _, by omega, by omega, by go_num, rfl, rfl, HP3.out.symm, HQ3, hSd.1, hBd, hzd⟩
              case measure => simp [intOf]; omega
        · have ej : j = o.traces.length := by omega
          have HP3 : Hid (pb = o.preB i o.traces.length) := by unfold Hid; rw [hP.out, ej]
          have HQ3 : Hid (qb = o.claB i o.traces.length) := by unfold Hid; rw [hQ.out, ej]
          clear hP hQ ej
          cases pb with
          | true =>
            have HF : Hid (o.apsErr o.traces.length = 7) := by
              have h7 : o.apErr i = 7 := by unfold Ob.apErr; rw [← HP3.out, if_pos rfl]
              have h8 : o.apsErr (i + 1) = 7 := by show (if o.apsErr i = 0 then o.apErr i else o.apsErr i) = 7; rw [hE.out, if_pos rfl, h7]
              unfold Hid; rw [Ob.apsErr_stop (k := i + 1) (by omega) (by rw [h8]; decide), h8]
            go_wp2
            go_ret
            exact ⟨ret_ij HF.out.symm, hB⟩
          | false =>
            cases qb with
            | true =>
              have HF : Hid (o.apsErr o.traces.length = 13) := by
                have h7 : o.apErr i = 13 := by unfold Ob.apErr; rw [← HP3.out, ← HQ3.out, if_neg (by decide), if_pos rfl]
                have h8 : o.apsErr (i + 1) = 13 := by show (if o.apsErr i = 0 then o.apErr i else o.apsErr i) = 13; rw [hE.out, if_pos rfl, h7]
                unfold Hid; rw [Ob.apsErr_stop (k := i + 1) (by omega) (by rw [h8]; decide), h8]
              go_wp2
              go_ret
              exact ⟨ret_ij HF.out.symm, hB⟩
            | false =>
              have hE2 : Hid (o.apsErr (i + 1) = 0) := by
                have h7 : o.apErr i = 0 := by unfold Ob.apErr; rw [← HP3.out, ← HQ3.out, if_neg (by decide), if_neg (by decide)]
                unfold Hid; show (if o.apsErr i = 0 then o.apErr i else o.apsErr i) = 0; rw [hE.out, if_pos rfl, h7]
              go_wp2
              go_roundw
              case rel => exact ⟨i + 1, by omega, by go_num, hE2, hx, hB, hz⟩
              case measure => simp [intOf]; omega
    · have HF : Hid (o.apsErr o.traces.length = 0) := by
        have e : i = o.traces.length := by omega
        unfold Hid; rw [← e]; exact hE.out
      go_wp2
      go_ret
      exact ⟨ret_ij HF.out.symm, hB⟩

set_option maxRecDepth 100000 in
set_option maxHeartbeats 4000000 in
/-- The error of observations. -/
theorem validO_any {o : Ob} (ho : Os M w a c o) :
    Calls Try.prog 9 #[obV o a c] w fun e w' => e = .returned (.int .i64 o.err) ∧ Below w.heap.size w w' := by
  have hol := ho.traces.le
  have hB0 := (Below.refl w.heap.size w).alloc (Nat.le_refl _) (obO o a c)
  have HO := Lib.hid ho
  have hx0 : O2 (w.alloc (obO o a c)) w.heap.size a c o := o2_new w
  have hz0 : w.heap.size + 1 ≤ (w.alloc (obO o a c)).heap.size := by simp
  clear ho
  rcases Ob.err_cases (o := o) with ⟨h1, he⟩ | ⟨h1, h2, he⟩ | ⟨h1, h2, h3, he⟩ | ⟨h1, h2, h3, he⟩
  iterate 3
    · have HF := Lib.hid he
      clear he
      go_enter Try.func9, Try.ntmps9
      go_wp2
      go_ret
      exact ⟨ret_ij HF.out.symm, hB0⟩
  have HF := Lib.hid he
  clear he
  go_enter Try.func9, Try.ntmps9
  go_wp2
  generalize w.alloc (obO o a c) = w0 at *
  go_loopw [3] (fun i wr => ∃ k : Nat, k ≤ o.traces.length ∧ i = .int .i64 k ∧ Hid (o.atsErr k = 0) ∧ O2 wr w.heap.size a c o ∧ Below w.heap.size w wr ∧ w.heap.size + 1 ≤ wr.heap.size) (fun i _ => o.traces.length - (intOf i).toNat)
  case atStart => exact ⟨0, by omega, rfl, rfl, hx0, hB0, hz0⟩
  case round =>
    clear hx0 hB0 hz0
    obtain ⟨i, hi, rfl, hE, hx, hB, hz⟩ := hrel
    obtain ⟨w1, rfl⟩ : ∃ w1 : World, w1 = wr := ⟨_, rfl⟩
    by_cases hlt : i < o.traces.length
    · obtain ⟨b1, o1, a1, c1, a2, c2, s, rfl, hc1, hc2, hs, hs1, hs2⟩ := (HO.out.below hB).traces.at_tr hlt
      have hl1 := hs1.le
      have hl2 := hs2.le
      have hbA := (Below.refl w1.heap.size w1).alloc (Nat.le_refl _) (trO s a1 c1 a2 c2)
      have hBA := hB.trans (hbA.mono (by omega))
      have hxA := hx.below hbA (by omega)
      have htA : T2 (w1.alloc (trO s a1 c1 a2 c2)) w1.heap.size a1 c1 a2 c2 s := t2_new w1
      have hzA : w1.heap.size + 1 ≤ (w1.alloc (trO s a1 c1 a2 c2)).heap.size := by simp
      have HC := Lib.hid (checkR1_any (hs1.alloc (trO s a1 c1 a2 c2)) o.inputs)
      have HD := Lib.hid (properR_any o.inputs (hs1.alloc (trO s a1 c1 a2 c2)) (hs2.alloc (trO s a1 c1 a2 c2)))
      have H1 := Lib.hid (hs1.alloc (trO s a1 c1 a2 c2))
      clear hs1 hs2 hB
      have hSn : Hid (o.atsErr (i + 1) = o.atErr i) := by unfold Hid; show (if o.atsErr i = 0 then o.atErr i else o.atsErr i) = o.atErr i; rw [hE.out, if_pos rfl]
      have hst : ∀ e, e ≠ 0 → o.atErr i = e → Hid (o.err = e) := fun e h h2 => by
        have h3 : o.atsErr o.traces.length = e := by rw [Ob.atsErr_stop (k := i + 1) (by omega) (by rw [hSn.out, h2]; exact h), hSn.out, h2]
        unfold Hid; rw [HF.out, if_pos (by rw [h3]; exact h), h3]
      have hat : Hid (o.atErr i = if wErr s.inn o.inputs ≠ 0 then wErr s.inn o.inputs else if s.inn = [] then 19 else if s.err o.inputs ≠ 0 then s.err o.inputs else if 0 < i ∧ 0 ≤ cmpW (o.tr (i - 1)).inn s.inn then 10 else 0) := by
        unfold Hid Ob.atErr; rw [Ob.tr_of hs.out]
      have HST := Lib.hid hst
      clear hst HF
      by_cases hw : wErr s.inn o.inputs = 0
      · have hwb : (wErr s.inn o.inputs != 0) = false := by simp [hw]
        have hat : Hid (o.atErr i = if s.inn = [] then 19 else if s.err o.inputs ≠ 0 then s.err o.inputs else if 0 < i ∧ 0 ≤ cmpW (o.tr (i - 1)).inn s.inn then 10 else 0) := by
          have := hat.out; rw [if_neg (by simp [hw])] at this; exact this
        clear hw
        by_cases hem : s.inn = []
        · have heb : (((s.inn.length : Nat) : Int) == 0) = true := by simp [hem]
          have HF := HST.out 19 (by decide) (by rw [hat.out, if_pos hem])
          clear hem hat HST
          go_wp2_with fail
          generalize w1.alloc (trO s a1 c1 a2 c2) = w2 at *
          refine (HC.out).mono ?_
          rintro e w3 ⟨rfl, hw3⟩
          obtain rfl : w2 = w3 := hw3.symm
          clear HC
          go_wp2
          go_ret
          exact ⟨ret_ij HF.out.symm, hBA⟩
        · have heb : (((s.inn.length : Nat) : Int) == 0) = false := by simp [hem]
          have hat : Hid (o.atErr i = if s.err o.inputs ≠ 0 then s.err o.inputs else if 0 < i ∧ 0 ≤ cmpW (o.tr (i - 1)).inn s.inn then 10 else 0) := by
            have := hat.out; rw [if_neg hem] at this; exact this
          clear hem
          go_wp2_with fail
          generalize w1.alloc (trO s a1 c1 a2 c2) = w2 at *
          refine (HC.out).mono ?_
          rintro e w3 ⟨rfl, hw3⟩
          obtain rfl : w2 = w3 := hw3.symm
          clear HC
          go_wp2_with fail
          refine (HD.out).mono ?_
          rintro e w3 ⟨rfl, hb3⟩
          have hx3 := hxA.below hb3 (by omega)
          have ht3 := htA.below hb3 (by omega)
          have hB3 := hBA.trans (hb3.mono (by omega))
          have hz3 : w1.heap.size + 1 ≤ w3.heap.size := by have := hb3.size; omega
          have H1 := Lib.hid (H1.out.below hb3)
          clear HD hxA htA hBA hzA hb3
          by_cases her : s.err o.inputs = 0
          · have hrb : (s.err o.inputs != 0) = false := by simp [her]
            have hat : Hid (o.atErr i = if 0 < i ∧ 0 ≤ cmpW (o.tr (i - 1)).inn s.inn then 10 else 0) := by
              have := hat.out; rw [if_neg (by simp [her])] at this; exact this
            clear her
            go_wp2
            by_cases hi0 : 0 < i
            · obtain ⟨b3, o3, a3, c3, a4, c4, t, he3, hc3, hc4, ht, ht1, ht2⟩ := (HO.out.below hB3).traces.at_tr (j := i - 1) (by omega)
              obtain ⟨rfl, rfl⟩ : b1 = b3 ∧ o1 = o3 := by simpa using he3
              have hil : i - 1 < o.traces.length := by omega
              have hbl := lt_of_cell hc3
              have hi1 : (((i : Nat) : Int) - 1) = ((i - 1 : Nat) : Int) := by omega
              have hwr : IntKind.i64.wrap ((i - 1 : Nat) : Int) = ((i - 1 : Nat) : Int) := IntWalk.i64_in _ (by omega)
              have hd0 : decide (0 < i) = true := by simp [hi0]
              refine wp_region_L (fun w' => O2 w' w.heap.size (some ⟨b1, o1, none⟩) c o ∧ Tc w' b1 (o1 + (i - 1) * 2) a3 c3 a4 c4 t ∧ T2 w' w1.heap.size a1 c1 a2 c2 s) [0, 1, 2, 3, 4, 5, 6, 7, 8, 9, 10, 11, 13, 14] (by kernel_rfl) ?_
              have hSd : O2 w3.drew w.heap.size (some ⟨b1, o1, none⟩) c o ∧ Tc w3.drew b1 (o1 + (i - 1) * 2) a3 c3 a4 c4 t ∧ T2 w3.drew w1.heap.size a1 c1 a2 c2 s := ⟨hx3.below (Below.refl w3.heap.size w3).drew (by omega), Tc.below ⟨hc3, hc4⟩ (Below.refl w3.heap.size w3).drew hbl, ht3.below (Below.refl w3.heap.size w3).drew (by omega)⟩
              have HC := Lib.hid (cmpR_any ((ht1.anti (M' := fun _ => False) fun _ _ h => h.elim).drew) ((H1.out.anti (M' := fun _ => False) fun _ _ h => h.elim).drew))
              have hat : Hid (o.atErr i = if 0 ≤ cmpW t.inn s.inn then 10 else 0) := by
                have := hat.out; rw [Ob.tr_of ht.out] at this; simp only [hi0, true_and] at this; exact this
              have hBd := hB3.drew
              have hzd : w1.heap.size + 1 ≤ w3.drew.heap.size := hz3
              have hbd : b1 < w3.drew.heap.size := hbl
              clear hx3 ht3 hB3 hz3 hbl hc3 hc4 ht1 ht2 he3
              generalize w3.drew = w4 at *
              refine wpAnyL_take (i := 0) (v := ?v59) rfl (by kernel_rfl) (by kernel_rfl) (by kernel_rfl) (by kernel_rfl) (fun _ _ _ h => h) (Or.inl ⟨by rfl, ?y59⟩) (by assumption) ?r59
              case y59 => (intro w' hSw; (try dsimp only at hSw); go_simp; try with_reducible rfl)
              try simp only [Act.put, List.setIfInBounds_toArray, List.set_cons_zero, List.set_cons_succ]
              refine wpAnyL_take (i := 1) (v := ?v60) rfl (by kernel_rfl) (by kernel_rfl) (by kernel_rfl) (by kernel_rfl) (fun _ _ _ h => h) (Or.inl ⟨by rfl, ?y60⟩) (by assumption) ?r60
              case y60 => (intro w' hSw; (try dsimp only at hSw); go_simp; try with_reducible rfl)
              try simp only [Act.put, List.setIfInBounds_toArray, List.set_cons_zero, List.set_cons_succ]
              refine wpAnyL_take (i := 2) (v := ?v61) rfl (by kernel_rfl) (by kernel_rfl) (by kernel_rfl) (by kernel_rfl) (fun _ _ _ h => h) (Or.inl ⟨by rfl, ?y61⟩) (by assumption) ?r61
              case y61 => (intro w' hSw; (try dsimp only at hSw); go_simp; try with_reducible rfl)
              try simp only [Act.put, List.setIfInBounds_toArray, List.set_cons_zero, List.set_cons_succ]
              refine wpAnyL_take (i := 3) (v := ?v62) rfl (by kernel_rfl) (by kernel_rfl) (by kernel_rfl) (by kernel_rfl) (fun _ _ _ h => h) (Or.inl ⟨by rfl, ?y62⟩) (by assumption) ?r62
              case y62 => (intro w' hSw; (try dsimp only at hSw); go_simp; try with_reducible rfl)
              try simp only [Act.put, List.setIfInBounds_toArray, List.set_cons_zero, List.set_cons_succ]
              refine wpAnyL_take (i := 4) (v := ?v63) rfl (by kernel_rfl) (by kernel_rfl) (by kernel_rfl) (by kernel_rfl) (fun _ _ _ h => h) (Or.inl ⟨by rfl, ?y63⟩) (by assumption) ?r63
              case y63 => (intro w' hSw; (try dsimp only at hSw); go_simp; try with_reducible rfl)
              try simp only [Act.put, List.setIfInBounds_toArray, List.set_cons_zero, List.set_cons_succ]
              refine wpAnyL_take (i := 5) (v := ?v64) rfl (by kernel_rfl) (by kernel_rfl) (by kernel_rfl) (by kernel_rfl) (fun _ _ _ h => h) (Or.inl ⟨by rfl, ?y64⟩) (by assumption) ?r64
              case y64 => (intro w' hSw; (try dsimp only at hSw); go_simp; try with_reducible rfl)
              try simp only [Act.put, List.setIfInBounds_toArray, List.set_cons_zero, List.set_cons_succ]
              refine wpAnyL_take (i := 6) (v := ?v65) rfl (by kernel_rfl) (by kernel_rfl) (by kernel_rfl) (by kernel_rfl) (fun _ _ _ h => h) (Or.inl ⟨by rfl, ?y65⟩) (by assumption) ?r65
              case y65 => (intro w' hSw; (try dsimp only at hSw); go_simp; try with_reducible rfl)
              try simp only [Act.put, List.setIfInBounds_toArray, List.set_cons_zero, List.set_cons_succ]
              refine wpAnyL_take (i := 7) (v := ?v66) rfl (by kernel_rfl) (by kernel_rfl) (by kernel_rfl) (by kernel_rfl) (fun _ _ _ h => h) (Or.inl ⟨by rfl, ?y66⟩) (by assumption) ?r66
              case y66 => (intro w' hSw; (try dsimp only at hSw); go_simp; try with_reducible rfl)
              try simp only [Act.put, List.setIfInBounds_toArray, List.set_cons_zero, List.set_cons_succ]
              refine wpAnyL_take (i := 8) (v := ?v67) rfl (by kernel_rfl) (by kernel_rfl) (by kernel_rfl) (by kernel_rfl) (fun _ _ _ h => h) (Or.inl ⟨by rfl, ?y67⟩) (by assumption) ?r67
              case y67 => (intro w' hSw; (try dsimp only at hSw); go_simp; try with_reducible rfl)
              try simp only [Act.put, List.setIfInBounds_toArray, List.set_cons_zero, List.set_cons_succ]
              refine wpAnyL_take (i := 9) (v := ?v68) rfl (by kernel_rfl) (by kernel_rfl) (by kernel_rfl) (by kernel_rfl) (fun _ _ _ h => h) (Or.inl ⟨by rfl, ?y68⟩) (by assumption) ?r68
              case y68 => (intro w' hSw; (try dsimp only at hSw); go_simp; try with_reducible rfl)
              try simp only [Act.put, List.setIfInBounds_toArray, List.set_cons_zero, List.set_cons_succ]
              refine wpAnyL_take (i := 10) (v := ?v69) rfl (by kernel_rfl) (by kernel_rfl) (by kernel_rfl) (by kernel_rfl) (fun _ _ _ h => h) (Or.inl ⟨by rfl, ?y69⟩) (by assumption) ?r69
              case y69 => (intro w' hSw; (try dsimp only at hSw); go_simp; try with_reducible rfl)
              try simp only [Act.put, List.setIfInBounds_toArray, List.set_cons_zero, List.set_cons_succ]
              refine wpAnyL_take (i := 11) (v := ?v70) rfl (by kernel_rfl) (by kernel_rfl) (by kernel_rfl) (by kernel_rfl) (fun _ _ _ h => h) (Or.inl ⟨by rfl, ?y70⟩) (by assumption) ?r70
              case y70 => (intro w' hSw; (try dsimp only at hSw); go_simp; try with_reducible rfl)
              try simp only [Act.put, List.setIfInBounds_toArray, List.set_cons_zero, List.set_cons_succ]
              refine wpAnyL_one (i := 12) (by kernel_rfl) rfl rfl (fun K hK => ?_)
              go_simp
              refine (HC.out).mono ?_
              rintro e w5 ⟨rfl, hD5⟩
              have hb5 := blw hD5 w4.heap.size
              have hS5 : O2 w5 w.heap.size (some ⟨b1, o1, none⟩) c o ∧ Tc w5 b1 (o1 + (i - 1) * 2) a3 c3 a4 c4 t ∧ T2 w5 w1.heap.size a1 c1 a2 c2 s := ⟨hSd.1.below hb5 (by omega), hSd.2.1.below hb5 hbd, hSd.2.2.below hb5 (by omega)⟩
              refine hK _ _ (fun _ => hS5) ?_
              clear hK K
              refine wpAnyL_take (i := 13) (v := ?v71) rfl (by kernel_rfl) (by kernel_rfl) (by kernel_rfl) (by kernel_rfl) (fun _ _ _ h => h) (Or.inl ⟨by rfl, ?y71⟩) (by assumption) ?r71
              case y71 => (intro w' hSw; (try dsimp only at hSw); go_simp; try with_reducible rfl)
              try simp only [Act.put, List.setIfInBounds_toArray, List.set_cons_zero, List.set_cons_succ]
              refine wpAnyL_take (i := 14) (v := ?v72) rfl (by kernel_rfl) (by kernel_rfl) (by kernel_rfl) (by kernel_rfl) (fun _ _ _ h => h) (Or.inl ⟨by rfl, ?y72⟩) (by assumption) ?r72
              case y72 => (intro w' hSw; (try dsimp only at hSw); go_simp; try with_reducible rfl)
              try simp only [Act.put, List.setIfInBounds_toArray, List.set_cons_zero, List.set_cons_succ]
              refine wpAnyL_done (by kernel_rfl) ?_ _
              have hB5 := hBd.trans (hb5.mono (by omega))
              have hz5 : w.heap.size + 1 ≤ w5.heap.size := by have := hb5.size; omega
              clear HC hSd hBd hzd hbd hb5 hD5
              by_cases hcm : 0 ≤ cmpW t.inn s.inn
              · have hcb : decide (0 ≤ cmpW t.inn s.inn) = true := by simp [hcm]
                have HF := HST.out 10 (by decide) (by rw [hat.out, if_pos hcm])
                clear hat HST
                go_wp2
                go_ret
                exact ⟨ret_ij HF.out.symm, hB5⟩
              · have hcb : decide (0 ≤ cmpW t.inn s.inn) = false := by simpa using hcm
                have hE2 : Hid (o.atsErr (i + 1) = 0) := by unfold Hid; rw [hSn.out, hat.out, if_neg hcm]
                have hcn : cmpW t.inn s.inn < 0 := by omega
                clear hcm hat HST hE hSn
                go_wp2
                go_roundw
                case rel => exact ⟨i + 1, by omega, by go_num, hE2, hS5.1, hB5, hz5⟩
                case measure => simp [intOf]; omega
            · have hd0 : decide (0 < i) = false := by simpa using hi0
              obtain rfl : i = 0 := by omega
              have hE2 : Hid (o.atsErr (0 + 1) = 0) := by unfold Hid; rw [hSn.out, hat.out, if_neg (by omega)]
              refine wp_region_L (fun w' => O2 w' w.heap.size (some ⟨b1, o1, none⟩) c o ∧ T2 w' w1.heap.size a1 c1 a2 c2 s) [0, 1, 2, 3, 4, 5, 6, 7, 8, 9, 10, 11, 12, 13, 14] (by kernel_rfl) ?_
              have hSd : O2 w3.drew w.heap.size (some ⟨b1, o1, none⟩) c o ∧ T2 w3.drew w1.heap.size a1 c1 a2 c2 s := ⟨hx3.below (Below.refl w3.heap.size w3).drew (by omega), ht3.below (Below.refl w3.heap.size w3).drew (by omega)⟩
              have hBd := hB3.drew
              have hzd : w.heap.size + 1 ≤ w3.drew.heap.size := by show _ ≤ w3.heap.size; omega
              clear hx3 ht3 hB3 hz3 hSn hat HST hE
              generalize w3.drew = w4 at *
              refine wpAnyL_take (i := 0) (v := ?v73) rfl (by kernel_rfl) (by kernel_rfl) (by kernel_rfl) (by kernel_rfl) (fun _ _ _ h => h) (Or.inl ⟨by rfl, ?y73⟩) (by assumption) ?r73
              case y73 => (intro w' hSw; (try dsimp only at hSw); go_simp; try with_reducible rfl)
              try simp only [Act.put, List.setIfInBounds_toArray, List.set_cons_zero, List.set_cons_succ]
              refine wpAnyL_take (i := 1) (v := ?v74) rfl (by kernel_rfl) (by kernel_rfl) (by kernel_rfl) (by kernel_rfl) (fun _ _ _ h => h) (Or.inl ⟨by rfl, ?y74⟩) (by assumption) ?r74
              case y74 => (intro w' hSw; (try dsimp only at hSw); go_simp; try with_reducible rfl)
              try simp only [Act.put, List.setIfInBounds_toArray, List.set_cons_zero, List.set_cons_succ]
              refine wpAnyL_take (i := 2) (v := ?v75) rfl (by kernel_rfl) (by kernel_rfl) (by kernel_rfl) (by kernel_rfl) (fun _ _ _ h => h) (Or.inl ⟨by rfl, ?y75⟩) (by assumption) ?r75
              case y75 => (intro w' hSw; (try dsimp only at hSw); go_simp; try with_reducible rfl)
              try simp only [Act.put, List.setIfInBounds_toArray, List.set_cons_zero, List.set_cons_succ]
              refine wpAnyL_take (i := 3) (v := undef) rfl (by kernel_rfl) (by kernel_rfl) (by kernel_rfl) (by kernel_rfl) (fun _ _ _ h => h) (Or.inr ⟨by rfl, rfl⟩) (by assumption) ?_
              try simp only [Act.put, List.setIfInBounds_toArray, List.set_cons_zero, List.set_cons_succ]
              refine wpAnyL_take (i := 4) (v := undef) rfl (by kernel_rfl) (by kernel_rfl) (by kernel_rfl) (by kernel_rfl) (fun _ _ _ h => h) (Or.inr ⟨by rfl, rfl⟩) (by assumption) ?_
              try simp only [Act.put, List.setIfInBounds_toArray, List.set_cons_zero, List.set_cons_succ]
              refine wpAnyL_take (i := 5) (v := undef) rfl (by kernel_rfl) (by kernel_rfl) (by kernel_rfl) (by kernel_rfl) (fun _ _ _ h => h) (Or.inr ⟨by rfl, rfl⟩) (by assumption) ?_
              try simp only [Act.put, List.setIfInBounds_toArray, List.set_cons_zero, List.set_cons_succ]
              refine wpAnyL_take (i := 6) (v := undef) rfl (by kernel_rfl) (by kernel_rfl) (by kernel_rfl) (by kernel_rfl) (fun _ _ _ h => h) (Or.inr ⟨by rfl, rfl⟩) (by assumption) ?_
              try simp only [Act.put, List.setIfInBounds_toArray, List.set_cons_zero, List.set_cons_succ]
              refine wpAnyL_take (i := 7) (v := undef) rfl (by kernel_rfl) (by kernel_rfl) (by kernel_rfl) (by kernel_rfl) (fun _ _ _ h => h) (Or.inr ⟨by rfl, rfl⟩) (by assumption) ?_
              try simp only [Act.put, List.setIfInBounds_toArray, List.set_cons_zero, List.set_cons_succ]
              refine wpAnyL_take (i := 8) (v := undef) rfl (by kernel_rfl) (by kernel_rfl) (by kernel_rfl) (by kernel_rfl) (fun _ _ _ h => h) (Or.inr ⟨by rfl, rfl⟩) (by assumption) ?_
              try simp only [Act.put, List.setIfInBounds_toArray, List.set_cons_zero, List.set_cons_succ]
              refine wpAnyL_take (i := 9) (v := undef) rfl (by kernel_rfl) (by kernel_rfl) (by kernel_rfl) (by kernel_rfl) (fun _ _ _ h => h) (Or.inr ⟨by rfl, rfl⟩) (by assumption) ?_
              try simp only [Act.put, List.setIfInBounds_toArray, List.set_cons_zero, List.set_cons_succ]
              refine wpAnyL_skip (i := 10) (by kernel_rfl) rfl rfl (by assumption) ?_
              try simp only [Act.put, List.setIfInBounds_toArray, List.set_cons_zero, List.set_cons_succ]
              refine wpAnyL_skip (i := 11) (by kernel_rfl) rfl rfl (by assumption) ?_
              try simp only [Act.put, List.setIfInBounds_toArray, List.set_cons_zero, List.set_cons_succ]
              refine wpAnyL_skip (i := 12) (by kernel_rfl) rfl rfl (by assumption) ?_
              try simp only [Act.put, List.setIfInBounds_toArray, List.set_cons_zero, List.set_cons_succ]
              refine wpAnyL_skip (i := 13) (by kernel_rfl) rfl rfl (by assumption) ?_
              try simp only [Act.put, List.setIfInBounds_toArray, List.set_cons_zero, List.set_cons_succ]
              refine wpAnyL_take (i := 14) (v := ?v76) rfl (by kernel_rfl) (by kernel_rfl) (by kernel_rfl) (by kernel_rfl) (fun _ _ _ h => h) (Or.inl ⟨by rfl, ?y76⟩) (by assumption) ?r76
              case y76 => (intro w' hSw; (try dsimp only at hSw); go_simp; try with_reducible rfl)
              try simp only [Act.put, List.setIfInBounds_toArray, List.set_cons_zero, List.set_cons_succ]
              refine wpAnyL_done (by kernel_rfl) ?_ _
              go_wp2
              go_roundw
              case rel => exact ⟨0 + 1, by omega, by go_num, hE2, hSd.1, hBd, hzd⟩
              case measure => simp [intOf]; omega
          · have hrb : (s.err o.inputs != 0) = true := by simp [her]
            have HF := HST.out _ her (by rw [hat.out, if_pos her])
            clear her hat HST
            go_wp2
            go_ret
            exact ⟨ret_ij HF.out.symm, hB3⟩
      · have hwb : (wErr s.inn o.inputs != 0) = true := by simp [hw]
        have HF := HST.out _ hw (by rw [hat.out, if_pos hw])
        clear hw hat HST
        go_wp2_with fail
        generalize w1.alloc (trO s a1 c1 a2 c2) = w2 at *
        refine (HC.out).mono ?_
        rintro e w3 ⟨rfl, hw3⟩
        obtain rfl : w2 = w3 := hw3.symm
        clear HC
        go_wp2
        go_ret
        exact ⟨ret_ij HF.out.symm, hBA⟩
    · have e : i = o.traces.length := by omega
      have hz0 : Hid (o.atsErr o.traces.length = 0) := by unfold Hid; rw [← e]; exact hE.out
      have HL : Hid o.lens := Ob.goods_lens (Ob.goods_all hz0.out)
      have HC := Lib.hid (apartR_any (HO.out.below hB) HL)
      have HF : Hid (o.err = o.apsErr o.traces.length) := by unfold Hid; rw [HF.out, if_neg (by simp [hz0.out])]
      clear e
      go_wp2_with fail
      refine (HC.out).mono ?_
      rintro e w3 ⟨rfl, hb3⟩
      have hBf := hB.trans (hb3.mono (by omega))
      go_wp2
      go_ret
      exact ⟨ret_ij HF.out.symm, hBf⟩
end
end Go.Proofs.Ytlgdijgfphedpaa
