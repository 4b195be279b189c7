/- The reference's has and Reach. No condition beyond that the fields read as lists of lists. -/
import Derived.Test.YtdnmgiabgpilkaaReach
import Derived.Test.YtdnmgiabgpilkaaValid6
import Derived.Test.YtdnmgiabgpilkaaPush
import Derived.Test.YtdnmgiabgpilkaaC4
import Derived.Test.YtdnmgiabgpilkaaOrdT
namespace Go.Proofs.Ytdnmgiabgpilkaa
open Go.RowKit
section
variable {M : Nat → Prop} {w : World} {an ao : Option Addr} {cn co : Nat} {m : Mach}

theorem has_yes {a : Option Addr} {c : Nat} {l : List Int} (h : Sl M w a c l) (x : Int) (hx : x ∈ l) :
    Calls Try.prog 59 #[.slice a l.length c, .int .i64 x] w fun e w' => e = .returned (.bool true) ∧ w' = w := by
  have hl := h.le
  have HX := Lib.hid hx
  clear hx
  go_enter Try.func59, Try.ntmps59
  go_wp2
  go_loop [5] (fun i => ∃ k : Nat, k ≤ l.length ∧ i = .int .i64 k ∧ Hid (¬ x ∈ l.take k)) (fun i => l.length - (intOf i).toNat)
  case atStart => exact ⟨0, by omega, rfl, by unfold Hid; simp⟩
  case round =>
    obtain ⟨k, hk, rfl, hn⟩ := hrel
    have hlt : k < l.length := by
      by_cases e : k < l.length
      · exact e
      · have := hn.out; rw [List.take_of_length_le (by omega)] at this; exact absurd HX.out this
    obtain ⟨b, off, y, rfl, hc, hy, -⟩ := h.at_int hlt
    by_cases hxy : y = x
    · have hb : (y == x) = true := by simp [hxy]
      clear hxy
      go_wp2
      go_ret
      exact ⟨rfl, rfl⟩
    · have hb : (y == x) = false := by simp [hxy]
      have hn2 : Hid (¬ x ∈ l.take (k + 1)) := by
        unfold Hid; rw [List.take_add_one, hy.out]; simp only [Option.toList_some, List.mem_append, List.mem_singleton]
        rintro (h1 | h1)
        · exact hn.out h1
        · exact hxy h1.symm
      clear hxy
      go_wp2
      go_round
      case rel => exact ⟨k + 1, by omega, by go_num, hn2⟩
      case measure => simp [intOf]; omega

theorem has_no {a : Option Addr} {c : Nat} {l : List Int} (h : Sl M w a c l) (x : Int) (hx : ¬ x ∈ l) :
    Calls Try.prog 59 #[.slice a l.length c, .int .i64 x] w fun e w' => e = .returned (.bool false) ∧ w' = w := by
  have hl := h.le
  have HX := Lib.hid hx
  clear hx
  go_enter Try.func59, Try.ntmps59
  go_wp2
  go_loop [5] (fun i => ∃ k : Nat, k ≤ l.length ∧ i = .int .i64 k) (fun i => l.length - (intOf i).toNat)
  case atStart => exact ⟨0, by omega, rfl⟩
  case round =>
    obtain ⟨k, hk, rfl⟩ := hrel
    by_cases hlt : k < l.length
    · obtain ⟨b, off, y, rfl, hc, hy, -⟩ := h.at_int hlt
      have hb : (y == x) = false := by
        by_cases hxy : y = x
        · exact absurd (hxy ▸ List.mem_of_getElem? hy.out) HX.out
        · simp [hxy]
      go_wp2
      go_round
      case rel => exact ⟨k + 1, by omega, by go_num⟩
      case measure => simp [intOf]; omega
    · go_wp2
      go_ret
      exact ⟨rfl, rfl⟩

set_option maxRecDepth 100000 in
set_option maxHeartbeats 4000000 in
theorem reachR_any (hm : Ma M w an cn ao co m) :
    Calls Try.prog 42 #[maV m an cn ao co] w fun e w' =>
      ∃ a c l, e = .returned (.slice a l.length c) ∧ Hid (l = m.reachOf) ∧ Sl (fun k => k < w.heap.size) w' a c l ∧ Below w.heap.size w w' := by
  have HM := Lib.hid hm
  have HV := Lib.hid (valid6_any (hm.ext (Ext.alloc M w (maO m an cn ao co))))
  have h0 : Below w.heap.size w (w.alloc (maO m an cn ao co)) := (Below.refl _ _).alloc (Nat.le_refl _) _
  have hC : C4 (w.alloc (maO m an cn ao co)) w.heap.size an cn ao co m := c4_new w
  have hsi := hm.start
  clear hm
  by_cases he : m.err = 0
  · have OK := Lib.hid (m.ok_of_err he)
    have he' : (m.err != 0) = false := by simp [he]
    have n1 := OK.out.n1
    have i0 := OK.out.i0
    have i1 := OK.out.i1
    have HE := Lib.hid he
    obtain ⟨bn, on, bo, oo, rfl, rfl⟩ := HM.out.addr OK.out
    clear he
    go_enter Try.func42, Try.ntmps42
    go_wp2_with fail
    refine (HV.out).mono ?_
    rintro e w1 ⟨rfl, hb1⟩
    have hz1 : w.heap.size + 1 ≤ w1.heap.size := by have := hb1.size; simpa using this
    have hB1 : Below (w.heap.size + 1) (w.alloc (maO m (some ⟨bn, on, none⟩) cn (some ⟨bo, oo, none⟩) co)) w1 := hb1.mono (by simp)
    obtain ⟨j0, j1, j2, j3⟩ := hC.below hB1 (by omega)
    clear hb1 HV
    go_wp2
    have hO0 : Ow w1.heap.size (fun _ => True) (w1.alloc (.cells #[.int .i64 m.start] 3)) 3 (.slice (some ⟨w1.heap.size, 0, none⟩) 1 1) [m.start] := Ow.one hsi (Nat.le_refl _)
    have hB0 := hB1.alloc hz1 (.cells #[.int .i64 m.start] 3)
    clear j0 j1 j2 j3
    go_loopw [3, 4] (fun v i wr => ∃ (k : Nat) (a' : Option Addr) (c' : Nat) (l : List Int), k ≤ m.next.length ∧ i = .int .i64 k ∧ v = .slice a' l.length c' ∧ Hid (l = m.bfs k) ∧ Ow w1.heap.size (fun _ => True) wr 3 (.slice a' l.length c') l ∧
      Below (w.heap.size + 1) (w.alloc (maO m (some ⟨bn, on, none⟩) cn (some ⟨bo, oo, none⟩) co)) wr) (fun _ i _ => m.next.length - (intOf i).toNat)
    case atStart => exact ⟨0, _, _, [m.start], by omega, rfl, rfl, rfl, hO0, hB0⟩
    case round =>
      clear hO0 hB0
      obtain ⟨k, a', c', l, hk, rfl, rfl, hl, hO, hB⟩ := hrel
      obtain ⟨w2, rfl⟩ : ∃ w2 : World, w2 = wr := ⟨_, rfl⟩
      have hll : l.length ≤ m.next.length := by rw [hl.out]; exact Mach.bfs_le OK.out k
      by_cases hlt : k < l.length
      · obtain ⟨x0, hx0⟩ : ∃ x, l[k]? = some x := ⟨_, List.getElem?_eq_getElem hlt⟩
        have HX := Lib.hid hx0
        have hxr := (Mach.bfs_props OK.out k).2.1 x0 (by rw [← hl.out]; exact List.mem_of_getElem? hx0)
        clear hx0
        obtain ⟨x, rfl⟩ := Int.eq_ofNat_of_zero_le hxr.1
        have hxn : x < m.next.length := by omega
        obtain ⟨r1, hr1⟩ : ∃ r, m.next[x]? = some r := ⟨_, List.getElem?_eq_getElem hxn⟩
        have HR := Lib.hid hr1
        have e1 : Hid (r1.length = m.inputs.toNat) := by have := OK.out.rn x hxn; rw [getD_of_some hr1] at this; unfold Hid; omega
        clear hr1
        go_wp2
        go_loopw [3, 5] (fun v i wr => ∃ (j : Nat) (a2 : Option Addr) (c2 : Nat) (l2 : List Int), j ≤ m.inputs.toNat ∧ i = .int .i64 j ∧ v = .slice a2 l2.length c2 ∧ Hid (l2 = visit l (r1.take j)) ∧ Ow w1.heap.size (fun _ => True) wr 3 (.slice a2 l2.length c2) l2 ∧
          Below (w.heap.size + 1) (w.alloc (maO m (some ⟨bn, on, none⟩) cn (some ⟨bo, oo, none⟩) co)) wr) (fun _ i _ => m.inputs.toNat - (intOf i).toNat)
        case atStart => exact ⟨0, _, _, l, by omega, rfl, rfl, rfl, hO, hB⟩
        case round =>
          clear hO hB
          obtain ⟨j, a2, c2, l2, hj, rfl, rfl, hl2, hO, hB⟩ := hrel
          obtain ⟨w3, rfl⟩ : ∃ w3 : World, w3 = wr := ⟨_, rfl⟩
          have hl2n : l2.length ≤ m.next.length := by
            have h1 := Mach.bfs_props OK.out k
            refine nodup_le _ _ (by rw [hl2.out, hl.out]; exact visit_nodup _ _ h1.1) (fun z hz => ?_)
            rw [hl2.out, hl.out, visit_mem] at hz
            rcases hz with hz | hz
            · exact h1.2.1 z hz
            · exact Mach.row_range OK.out hxn (by rw [getD_of_some HR.out]; exact List.mem_of_mem_take hz)
          obtain ⟨sfx, hsfx⟩ := visit_prefix (r1.take j) l
          have hx2 : Hid (l2[k]? = some (x : Int)) := by unfold Hid; rw [hl2.out, hsfx, List.getElem?_append_left hlt]; exact HX.out
          have hkl2 : k < l2.length := by rw [hl2.out, hsfx, List.length_append]; omega
          clear hsfx
          obtain ⟨j0, j1, j2, j3⟩ := hC.below hB (by omega)
          by_cases hlj : j < m.inputs.toNat
          · have hlj3 : (j : Int) < m.inputs := by omega
            obtain ⟨b1, o1, c1, l1, b3, o3, c3, l3, t, y, e1', e2', e3', e4', e5', -, -, e8', -, e10', -, e12', -⟩ := (HM.out.below (h0.trans (hB.mono (by omega)))).atS OK.out hxn hlj
            have ht0 : Hid (r1[j]? = some (t : Int)) := by
              have h1 := e8'.out
              unfold Mach.nx at h1
              rw [getD_of_some HR.out] at h1
              have h2 : j < r1.length := by rw [e1.out]; exact hlj
              rw [List.getD_eq_getElem?_getD, List.getElem?_eq_getElem h2] at h1
              unfold Hid
              rw [List.getElem?_eq_getElem h2]
              simpa using h1
            have htk : Hid (visit l (r1.take (j + 1)) = if (t : Int) ∈ l2 then l2 else l2 ++ [(t : Int)]) := by
              unfold Hid
              rw [List.take_add_one, ht0.out]
              simp only [Option.toList_some]
              rw [visit_snoc, ← hl2.out]
            obtain ⟨gq, x9, ha2, hq0, hqf, hx9, -⟩ := hO.at_int hkl2
            subst ha2
            obtain rfl : (x : Int) = x9 := by have h1 := hx9.out; rw [hx2.out] at h1; simpa using h1
            have hSo := (hO.anyM (M' := fun _ => False)).toSl (fun _ _ h => h)
            have hxo : k < l2.length := hkl2
            by_cases hin : (t : Int) ∈ l2
            · have HIN := Lib.hid hin
              have htk2 : Hid (visit l (r1.take (j + 1)) = l2) := by unfold Hid; rw [htk.out, if_pos hin]
              clear hin
              go_wp2
              refine wp_quiet_fast (by kernel_rfl) (by kernel_rfl) ?_
              repeat (first | go_big_quiet_step ((go_at_call 59; exact Calls.quiet_of_same (has_yes (hSo.drewN _) _ HIN.out))) | quiet_step ((go_at_call 59; exact Calls.quiet_of_same (has_yes (hSo.drewN _) _ HIN.out))))
              refine wpQuiet_nil ?_
              intro _ hw'
              obtain ⟨nq, hw''⟩ := hw'
              subst hw''
              go_wp2
              go_roundw
              case rel => exact ⟨j + 1, _, _, l2, by omega, by go_num, rfl, htk2.out.symm, hO.drewN _, bl_drewN hB _⟩
              case measure => simp [intOf]; omega
            · have HIN := Lib.hid hin
              have htk2 : Hid (visit l (r1.take (j + 1)) = l2 ++ [(t : Int)]) := by unfold Hid; rw [htk.out, if_neg hin]
              clear hin
              go_wp2
              refine wp_quiet_fast (by kernel_rfl) (by kernel_rfl) ?_
              repeat (first | go_big_quiet_step ((go_at_call 59; exact Calls.quiet_of_same (has_no (hSo.drewN _) _ HIN.out))) | quiet_step ((go_at_call 59; exact Calls.quiet_of_same (has_no (hSo.drewN _) _ HIN.out))))
              refine wpQuiet_nil ?_
              intro _ hw'
              obtain ⟨nq, hw''⟩ := hw'
              subst hw''
              have hOd : Ow w1.heap.size (fun _ => True) (w3.drewN nq) 3 (.slice (some ⟨gq, 0, none⟩) l2.length c2) l2 := hO.drewN nq
              have hBd := bl_drewN hB nq
              have hS0 : (w3.drewN nq).cell? ⟨w.heap.size, 2, none⟩ = some (.slice (some ⟨bn, on, none⟩) m.next.length cn) ∧ (w3.drewN nq).cell? ⟨gq, k, none⟩ = some (.int .i64 (x : Int)) ∧ (w3.drewN nq).cell? ⟨bn, on + x, none⟩ = some (.slice (some ⟨b1, o1, none⟩) l1 c1) ∧ (w3.drewN nq).cell? ⟨b1, o1 + j, none⟩ = some (.int .i64 (t : Int)) :=
                ⟨by simpa using j2, by simpa using hq0, by simpa using e1', by simpa using e3'⟩
              clear hO hB j0 j1 j2 j3 hq0 hqf e1' e2' e3' e4' hSo
              generalize w3.drewN nq = w4 at *
              go_wp2
              refine wp_region_T (fun w' => w'.cell? ⟨w.heap.size, 2, none⟩ = some (.slice (some ⟨bn, on, none⟩) m.next.length cn) ∧ w'.cell? ⟨gq, k, none⟩ = some (.int .i64 (x : Int)) ∧ w'.cell? ⟨bn, on + x, none⟩ = some (.slice (some ⟨b1, o1, none⟩) l1 c1) ∧ w'.cell? ⟨b1, o1 + j, none⟩ = some (.int .i64 (t : Int))) [0, 1, 2, 3, 4, 5, 6, 7, 8, 9, 10, 11] (by kernel_rfl) ?_
              have hSS : w4.drew.cell? ⟨w.heap.size, 2, none⟩ = some (.slice (some ⟨bn, on, none⟩) m.next.length cn) ∧ w4.drew.cell? ⟨gq, k, none⟩ = some (.int .i64 (x : Int)) ∧ w4.drew.cell? ⟨bn, on + x, none⟩ = some (.slice (some ⟨b1, o1, none⟩) l1 c1) ∧ w4.drew.cell? ⟨b1, o1 + j, none⟩ = some (.int .i64 (t : Int)) := by simpa using hS0
              have hO5 := hOd.drew
              have hB5 := hBd.drew
              clear hS0 hOd hBd
              generalize w4.drew = w5 at *
              have hz5 : w1.heap.size ≤ w5.heap.size := by have := (hO5.lt gq rfl); omega
              refine wpAnyT_take (i := 0) (v := ?v1) rfl (by kernel_rfl) (by kernel_rfl) (by kernel_rfl) (by kernel_rfl) (by kernel_rfl) (fun _ _ _ h => h) (Or.inl ⟨by rfl, ?y1⟩) (by assumption) ?r1
              case y1 => (intro w' hSw; (try dsimp only at hSw); go_simp; try with_reducible rfl)
              try simp only [Act.put, List.setIfInBounds_toArray, List.set_cons_zero, List.set_cons_succ]
              refine wpAnyT_take (i := 1) (v := ?v2) rfl (by kernel_rfl) (by kernel_rfl) (by kernel_rfl) (by kernel_rfl) (by kernel_rfl) (fun _ _ _ h => h) (Or.inl ⟨by rfl, ?y2⟩) (by assumption) ?r2
              case y2 => (intro w' hSw; (try dsimp only at hSw); go_simp; try with_reducible rfl)
              try simp only [Act.put, List.setIfInBounds_toArray, List.set_cons_zero, List.set_cons_succ]
              refine wpAnyT_take (i := 2) (v := ?v3) rfl (by kernel_rfl) (by kernel_rfl) (by kernel_rfl) (by kernel_rfl) (by kernel_rfl) (fun _ _ _ h => h) (Or.inl ⟨by rfl, ?y3⟩) (by assumption) ?r3
              case y3 => (intro w' hSw; (try dsimp only at hSw); go_simp; try with_reducible rfl)
              try simp only [Act.put, List.setIfInBounds_toArray, List.set_cons_zero, List.set_cons_succ]
              refine wpAnyT_take (i := 3) (v := ?v4) rfl (by kernel_rfl) (by kernel_rfl) (by kernel_rfl) (by kernel_rfl) (by kernel_rfl) (fun _ _ _ h => h) (Or.inl ⟨by rfl, ?y4⟩) (by assumption) ?r4
              case y4 => (intro w' hSw; (try dsimp only at hSw); go_simp; try with_reducible rfl)
              try simp only [Act.put, List.setIfInBounds_toArray, List.set_cons_zero, List.set_cons_succ]
              refine wpAnyT_take (i := 4) (v := ?v5) rfl (by kernel_rfl) (by kernel_rfl) (by kernel_rfl) (by kernel_rfl) (by kernel_rfl) (fun _ _ _ h => h) (Or.inl ⟨by rfl, ?y5⟩) (by assumption) ?r5
              case y5 => (intro w' hSw; (try dsimp only at hSw); go_simp; try with_reducible rfl)
              try simp only [Act.put, List.setIfInBounds_toArray, List.set_cons_zero, List.set_cons_succ]
              refine wpAnyT_take (i := 5) (v := ?v6) rfl (by kernel_rfl) (by kernel_rfl) (by kernel_rfl) (by kernel_rfl) (by kernel_rfl) (fun _ _ _ h => h) (Or.inl ⟨by rfl, ?y6⟩) (by assumption) ?r6
              case y6 => (intro w' hSw; (try dsimp only at hSw); go_simp; try with_reducible rfl)
              try simp only [Act.put, List.setIfInBounds_toArray, List.set_cons_zero, List.set_cons_succ]
              refine wpAnyT_take (i := 6) (v := ?v7) rfl (by kernel_rfl) (by kernel_rfl) (by kernel_rfl) (by kernel_rfl) (by kernel_rfl) (fun _ _ _ h => h) (Or.inl ⟨by rfl, ?y7⟩) (by assumption) ?r7
              case y7 => (intro w' hSw; (try dsimp only at hSw); go_simp; try with_reducible rfl)
              try simp only [Act.put, List.setIfInBounds_toArray, List.set_cons_zero, List.set_cons_succ]
              refine wpAnyT_take (i := 7) (v := ?v8) rfl (by kernel_rfl) (by kernel_rfl) (by kernel_rfl) (by kernel_rfl) (by kernel_rfl) (fun _ _ _ h => h) (Or.inl ⟨by rfl, ?y8⟩) (by assumption) ?r8
              case y8 => (intro w' hSw; (try dsimp only at hSw); go_simp; try with_reducible rfl)
              try simp only [Act.put, List.setIfInBounds_toArray, List.set_cons_zero, List.set_cons_succ]
              refine wpAnyT_take (i := 8) (v := ?v9) rfl (by kernel_rfl) (by kernel_rfl) (by kernel_rfl) (by kernel_rfl) (by kernel_rfl) (fun _ _ _ h => h) (Or.inl ⟨by rfl, ?y9⟩) (by assumption) ?r9
              case y9 => (intro w' hSw; (try dsimp only at hSw); go_simp; try with_reducible rfl)
              try simp only [Act.put, List.setIfInBounds_toArray, List.set_cons_zero, List.set_cons_succ]
              refine wpAnyT_take (i := 9) (v := ?v10) rfl (by kernel_rfl) (by kernel_rfl) (by kernel_rfl) (by kernel_rfl) (by kernel_rfl) (fun _ _ _ h => h) (Or.inl ⟨by rfl, ?y10⟩) (by assumption) ?r10
              case y10 => (intro w' hSw; (try dsimp only at hSw); go_simp; try with_reducible rfl)
              try simp only [Act.put, List.setIfInBounds_toArray, List.set_cons_zero, List.set_cons_succ]
              refine wpAnyT_take (i := 10) (v := ?v11) rfl (by kernel_rfl) (by kernel_rfl) (by kernel_rfl) (by kernel_rfl) (by kernel_rfl) (fun _ _ _ h => h) (Or.inl ⟨by rfl, ?y11⟩) (by assumption) ?r11
              case y11 => (intro w' hSw; (try dsimp only at hSw); go_simp; try with_reducible rfl)
              try simp only [Act.put, List.setIfInBounds_toArray, List.set_cons_zero, List.set_cons_succ]
              refine wpAnyT_take (i := 11) (v := ?v12) rfl (by kernel_rfl) (by kernel_rfl) (by kernel_rfl) (by kernel_rfl) (by kernel_rfl) (fun _ _ _ h => h) (Or.inl ⟨by rfl, ?y12⟩) (by assumption) ?r12
              case y12 => (intro w' hSw; (try dsimp only at hSw); go_simp; try with_reducible rfl)
              try simp only [Act.put, List.setIfInBounds_toArray, List.set_cons_zero, List.set_cons_succ]
              have hal : ∀ p : Addr, p.block < w5.heap.size → (w5.alloc (.cells #[.int .i64 (t : Int)] 3)).cell? p = w5.cell? p := fun p hp => ((Below.refl _ _).alloc (Nat.le_refl _) _).cell hp
              have hk1 := lt_of_cell hSS.2.1
              have hk2 := lt_of_cell hSS.2.2.1
              have hk3 := lt_of_cell hSS.2.2.2
              refine wpAnyT_one (i := 12) (by kernel_rfl) rfl rfl (fun K hK => ?_)
              go_simp
              refine hK _ _ (fun _ => ⟨(hal _ (show w.heap.size < w5.heap.size by omega)).trans hSS.1, (hal _ hk1).trans hSS.2.1, (hal _ hk2).trans hSS.2.2.1, (hal _ hk3).trans hSS.2.2.2⟩) ?_
              clear hK K hal hk1 hk2 hk3
              have hO6 := hO5.alloc (.cells #[.int .i64 (t : Int)] 3)
              have hB6 := hB5.alloc (by omega) (.cells #[.int .i64 (t : Int)] 3)
              clear hSS hO5 hB5
              refine wpAnyT_late (i := 13) (by kernel_rfl) (by kernel_rfl) rfl rfl (fun K hK => ?_)
              refine wp_push_o (B := w1.heap.size) (M := fun _ => True) (v := .slice (some ⟨gq, 0, none⟩) l2.length c2) (l := l2) (y := (t : Int)) rfl Try.underlying27 info_int rfl rfl hO6 (by simp [go_sem]) (by unfold i64; omega) (by omega) (by simp; omega) ?_
              intro a7 c7 l7 w7 hl7 hO7 hbk7 hgr7
              have hB7 := hB6.grown hgr7 (by simp; omega) (fun q hq => by have := (hO6.lt q hq).1; omega)
              refine hK _ _ ?_
              clear hK K hgr7 hbk7 hO6 hB6
              refine wpAnyT_late (i := 14) (by kernel_rfl) (by kernel_rfl) rfl rfl (fun K hK => ?_)
              go_simp
              refine hK _ _ ?_
              clear hK K
              refine wpAnyT_done (by kernel_rfl) ?_ _
              go_wp2
              go_roundw
              case rel => exact ⟨j + 1, a7, c7, l7, by omega, by go_num, rfl, by unfold Hid; rw [hl7.out, htk2.out], hO7, hB7⟩
              case measure => simp [intOf]; omega
          · go_wp2
            go_roundw
            case rel =>
              refine ⟨k + 1, a2, c2, l2, by omega, by go_num, rfl, ?_, hO, hB⟩
              unfold Hid
              have hx0' := HX.out
              rw [hl.out] at hx0'
              rw [Mach.bfs_succ, if_pos (by rw [← hl.out]; exact hlt), getD_of_some hx0', Int.toNat_natCast, getD_of_some HR.out, hl2.out, List.take_of_length_le (by rw [e1.out]; omega), hl.out]
            case measure => simp [intOf]; omega
      · have hst : Hid (l = m.reachOf) := by
          unfold Hid Mach.reachOf
          rw [if_pos HE.out, Mach.reach_of_stop (i := k) (by rw [← hl.out]; exact hlt) hk, ← hl.out]
        have hBf := h0.trans (hB.mono (by omega))
        have hf : Sl (fun k => k < w.heap.size) w2 a' c' l := hO.fresh (by omega)
        go_wp2
        go_ret
        exact ⟨a', c', l, rfl, hst, hf, hBf⟩
  · have he' : (m.err != 0) = true := by simp [he]
    have HE := Lib.hid he
    clear he
    go_enter Try.func42, Try.ntmps42
    go_wp2_with fail
    refine (HV.out).mono ?_
    rintro e w1 ⟨rfl, hb1⟩
    have hBf := h0.trans (hb1.mono (by simp))
    go_wp2
    go_ret
    exact ⟨none, 0, [], rfl, by unfold Hid Mach.reachOf; rw [if_neg HE.out], Sl.nil _ _ _ (by unfold maxLen; omega), hBf⟩
end
end Go.Proofs.Ytdnmgiabgpilkaa
