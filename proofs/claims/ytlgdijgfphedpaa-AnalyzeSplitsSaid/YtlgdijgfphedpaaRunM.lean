/- mealy's move, run, state, From and Run. Condition where named: the machine is valid. -/
import Derived.Test.YtlgdijgfphedpaaValid
import Derived.Test.YtlgdijgfphedpaaValidM
import Derived.Test.YtlgdijgfphedpaaC4
import Derived.Test.YtlgdijgfphedpaaOrd
import Derived.Test.YtlgdijgfphedpaaOuts
import Derived.Test.YtlgdijgfphedpaaCheck1
namespace Go.Proofs.Ytlgdijgfphedpaa
open Go.RowKit
/-- The runner's five cells. -/
abbrev R5 (w : World) (b : Nat) (an : Option Addr) (cn : Nat) (ao : Option Addr) (co : Nat) (m : Mach) (z : Int) : Prop :=
  C4 w b an cn ao co m ∧ w.cell? ⟨b, 4, none⟩ = some (.int .i64 z) ∧ w.frozen? ⟨b, 4, none⟩ = false
section
variable {B b : Nat} {w w' : World} {an ao : Option Addr} {cn co : Nat} {m : Mach} {z : Int}
theorem R5.below (h : R5 w b an cn ao co m z) (hb : Below B w w') (hlt : b < B) : R5 w' b an cn ao co m z :=
  ⟨h.1.below hb hlt, (hb.cell (p := ⟨b, 4, none⟩) hlt).trans h.2.1, (hb.frozen (p := ⟨b, 4, none⟩) hlt).trans h.2.2⟩
theorem R5.set (h : R5 w b an cn ao co m z) (y : Int) : R5 (w.setCell ⟨b, 4, none⟩ (.int .i64 y)) b an cn ao co m y :=
  ⟨⟨by rw [World.cell?_setCell_other _ _ _ _ (by simp)]; exact h.1.1, by rw [World.cell?_setCell_other _ _ _ _ (by simp)]; exact h.1.2.1, by rw [World.cell?_setCell_other _ _ _ _ (by simp)]; exact h.1.2.2.1, by rw [World.cell?_setCell_other _ _ _ _ (by simp)]; exact h.1.2.2.2⟩,
   World.cell?_setCell_same _ _ _ h.2.1, by simpa using h.2.2⟩
end
section
variable {M : Nat → Prop} {w : World} {an ao a : Option Addr} {cn co c : Nat} {m : Mach}

set_option maxRecDepth 100000 in
set_option maxHeartbeats 1000000 in
theorem move_any (hm : Ma M w an cn ao co m) (ok : m.Ok) {s x : Nat} (hs : s < m.next.length) (hx : x < m.inputs.toNat) :
    Calls Try.prog 77 #[maV m an cn ao co, .int .i64 (s : Int), .int .i64 (x : Int)] w fun e w' => ∃ (n : Nat) (y : Int), e = .returned (.tuple #[.int .i64 (n : Int), .int .i64 y]) ∧ n < m.next.length ∧ 0 ≤ y ∧ y ≤ 1048576 ∧ Hid (m.nx s x = n) ∧ Hid (m.ot s x = y) ∧ Below w.heap.size w w' := by
  have hsz : s < m.out.length := by have := ok.lo; omega
  have n1 := ok.n1
  have i1 := ok.i1
  obtain ⟨bn, on, bo, oo, rfl, rfl⟩ := hm.addr ok
  have hm2 := hm.ext (Ext.alloc M w (.cells #[.int .i64 m.inputs, .int .i64 m.start, .slice (some ⟨bn, on, none⟩) m.next.length cn, .slice (some ⟨bo, oo, none⟩) m.out.length co] 105))
  obtain ⟨b1, o1, c1, l1, b2, o2, c2, l2, n, y, k1, k2, k3, k4, hn, hy0, hy1, hnx, hot, hl1, hl2, hl3, hl4⟩ := hm2.atS ok hs hx
  have hB := (Below.refl w.heap.size w).alloc (Nat.le_refl _) (.cells #[.int .i64 m.inputs, .int .i64 m.start, .slice (some ⟨bn, on, none⟩) m.next.length cn, .slice (some ⟨bo, oo, none⟩) m.out.length co] 105)
  have HM := Lib.hid hm2
  have OK := Lib.hid ok
  clear hm hm2 ok
  go_enter Try.func77, Try.ntmps77
  go_wp2
  refine wp_quiet_fast (by kernel_rfl) (by kernel_rfl) ?_
  repeat (first | go_big_quiet_step (fail) | quiet_step (fail))
  refine wpQuiet_nil ?_
  intro _ hw'
  obtain ⟨nq, hw''⟩ := hw'
  subst hw''
  go_wp2
  go_ret2
  exact ⟨n, y, rfl, hn, hy0, hy1, hnx, hot, bl_drewN hB _⟩

set_option maxRecDepth 100000 in
set_option maxHeartbeats 4000000 in
theorem run_any {M' : Nat → Prop} {B b : Nat} {l : List Int} {s : Int} (hb : B ≤ b) (hbw : b < w.heap.size) (HM : ∀ w', Below B w w' → Ma M w' an cn ao co m) (HS : ∀ w', Below B w w' → Sl M' w' a c l) (ok : m.Ok)
    (h5 : R5 w b an cn ao co m s) (hs : 0 ≤ s ∧ s < m.next.length) (hw : m.okS l) (hl : l.length ≤ 1024) :
    Calls Try.prog 69 #[.pointer (some ⟨b, 0, none⟩), .slice a l.length c] w fun e w' => ∃ (a' : Option Addr) (c' : Nat) (l' : List Int), e = .returned (.slice a' l'.length c') ∧ Hid (l' = m.outsW s l) ∧
      Sl (fun k => k < w.heap.size) w' a' c' l' ∧ Below B w w' ∧ R5 w' b an cn ao co m (m.endW s l) := by
  have OK := Lib.hid ok
  have HW := Lib.hid hw
  have HS0 := Lib.hid hs
  have n1 := ok.n1
  have i1 := ok.i1
  have HMh := Lib.hid HM
  have HSh := Lib.hid HS
  have hl0 : Hid (([] : List Int) = m.outsW s (l.take 0)) := rfl
  have hO0 : Ow (α := Int) w.heap.size (fun k => w.heap.size ≤ k) w 3 (.slice none 0 0) [] := Ow.nil
  have hB0 := Below.refl B w
  clear HM HS ok hw hs
  go_enter Try.func69, Try.ntmps69
  go_wp2
  go_loopw [5, 12] (fun v i wr => ∃ (k : Nat) (a' : Option Addr) (c' : Nat) (l' : List Int), k ≤ l.length ∧ i = .int .i64 k ∧ v = .slice a' l'.length c' ∧ l'.length ≤ 1024 ∧ Hid (l' = m.outsW s (l.take k)) ∧
    Ow w.heap.size (fun k => w.heap.size ≤ k) wr 3 (.slice a' l'.length c') l' ∧ Below B w wr ∧ R5 wr b an cn ao co m (m.endW s (l.take k))) (fun _ i _ => l.length - (intOf i).toNat)
  case atStart => exact ⟨0, none, 0, [], by omega, rfl, rfl, by simp, hl0, hO0, hB0, h5⟩
  case round =>
    clear hl0 hO0 hB0 h5
    obtain ⟨k, a2, c2, l2, hk, rfl, rfl, hl2, ho2, hO, hB, h5⟩ := hrel
    obtain ⟨w1, rfl⟩ : ∃ w1 : World, w1 = wr := ⟨_, rfl⟩
    have hsz := hB.size
    by_cases hlt : k < l.length
    · obtain ⟨bl, ol, x, rfl, hxc, hx, -⟩ := (HSh.out w1 hB).at_int hlt
      obtain ⟨x0, x1⟩ := HW.out x (List.mem_of_getElem? hx.out)
      obtain ⟨xn, rfl⟩ := Int.eq_ofNat_of_zero_le x0
      have hr := Mach.endW_range OK.out (l.take k) s HS0.out.1 HS0.out.2 (Mach.okS_take HW.out k)
      have hl2k : Hid (l2.length = k) := by unfold Hid; rw [ho2.out, Mach.outsW_len, List.length_take]; omega
      obtain ⟨sn, hsn⟩ := Int.eq_ofNat_of_zero_le hr.1
      rw [hsn] at h5 hr
      have hsn2 : sn < m.next.length := by omega
      have hxn : xn < m.inputs.toNat := by omega
      have hxn2 : xn < 64 := by omega
      have HSN := Lib.hid hsn
      have hmm := HMh.out w1 hB
      have HMM := Lib.hid hmm
      clear hsn hr x0 x1 hmm
      go_wp2
      refine wp_region_L (fun w' => R5 w' b an cn ao co m (sn : Int)) [0, 1, 2, 3, 4, 5, 6, 7, 8, 11, 12] (by kernel_rfl) ?_
      have h5d : R5 w1.drew b an cn ao co m (sn : Int) := ⟨h5.1.drew, by simpa using h5.2.1, by simpa using h5.2.2⟩
      have hBd := hB.drew
      have hOd := hO.drew
      have HMd := Lib.hid (HMM.out.ext (Ext.drew _ _))
      have hszd : w.heap.size ≤ w1.drew.heap.size := hsz
      clear h5 hB hO HMM
      generalize w1.drew = w2 at *
      refine wpAnyL_take (i := 0) (v := ?v1) rfl (by kernel_rfl) (by kernel_rfl) (by kernel_rfl) (by kernel_rfl) (fun _ _ _ h => h) (Or.inl ⟨by rfl, ?y1⟩) (by assumption) ?r1
      case y1 => (intro w' hSw; (try dsimp only at hSw); go_simp; try with_reducible rfl)
      try simp only [Act.put, List.setIfInBounds_toArray, List.set_cons_zero, List.set_cons_succ]
      refine wpAnyL_take (i := 1) (v := ?v2) rfl (by kernel_rfl) (by kernel_rfl) (by kernel_rfl) (by kernel_rfl) (fun _ _ _ h => h) (Or.inl ⟨by rfl, ?y2⟩) (by assumption) ?r2
      case y2 => (intro w' hSw; (try dsimp only at hSw); go_simp; try with_reducible rfl)
      try simp only [Act.put, List.setIfInBounds_toArray, List.set_cons_zero, List.set_cons_succ]
      refine wpAnyL_take (i := 2) (v := ?v3) rfl (by kernel_rfl) (by kernel_rfl) (by kernel_rfl) (by kernel_rfl) (fun _ _ _ h => h) (Or.inl ⟨by rfl, ?y3⟩) (by assumption) ?r3
      case y3 => (intro w' hSw; (try dsimp only at hSw); go_simp; try with_reducible rfl)
      try simp only [Act.put, List.setIfInBounds_toArray, List.set_cons_zero, List.set_cons_succ]
      refine wpAnyL_take (i := 3) (v := ?v4) rfl (by kernel_rfl) (by kernel_rfl) (by kernel_rfl) (by kernel_rfl) (fun _ _ _ h => h) (Or.inl ⟨by rfl, ?y4⟩) (by assumption) ?r4
      case y4 => (intro w' hSw; (try dsimp only at hSw); go_simp; try with_reducible rfl)
      try simp only [Act.put, List.setIfInBounds_toArray, List.set_cons_zero, List.set_cons_succ]
      refine wpAnyL_take (i := 4) (v := ?v5) rfl (by kernel_rfl) (by kernel_rfl) (by kernel_rfl) (by kernel_rfl) (fun _ _ _ h => h) (Or.inl ⟨by rfl, ?y5⟩) (by assumption) ?r5
      case y5 => (intro w' hSw; (try dsimp only at hSw); go_simp; try with_reducible rfl)
      try simp only [Act.put, List.setIfInBounds_toArray, List.set_cons_zero, List.set_cons_succ]
      refine wpAnyL_take (i := 5) (v := ?v6) rfl (by kernel_rfl) (by kernel_rfl) (by kernel_rfl) (by kernel_rfl) (fun _ _ _ h => h) (Or.inl ⟨by rfl, ?y6⟩) (by assumption) ?r6
      case y6 => (intro w' hSw; (try dsimp only at hSw); go_simp; try with_reducible rfl)
      try simp only [Act.put, List.setIfInBounds_toArray, List.set_cons_zero, List.set_cons_succ]
      refine wpAnyL_take (i := 6) (v := ?v7) rfl (by kernel_rfl) (by kernel_rfl) (by kernel_rfl) (by kernel_rfl) (fun _ _ _ h => h) (Or.inl ⟨by rfl, ?y7⟩) (by assumption) ?r7
      case y7 => (intro w' hSw; (try dsimp only at hSw); go_simp; try with_reducible rfl)
      try simp only [Act.put, List.setIfInBounds_toArray, List.set_cons_zero, List.set_cons_succ]
      refine wpAnyL_take (i := 7) (v := ?v8) rfl (by kernel_rfl) (by kernel_rfl) (by kernel_rfl) (by kernel_rfl) (fun _ _ _ h => h) (Or.inl ⟨by rfl, ?y8⟩) (by assumption) ?r8
      case y8 => (intro w' hSw; (try dsimp only at hSw); go_simp; try with_reducible rfl)
      try simp only [Act.put, List.setIfInBounds_toArray, List.set_cons_zero, List.set_cons_succ]
      refine wpAnyL_take (i := 8) (v := ?v9) rfl (by kernel_rfl) (by kernel_rfl) (by kernel_rfl) (by kernel_rfl) (fun _ _ _ h => h) (Or.inl ⟨by rfl, ?y9⟩) (by assumption) ?r9
      case y9 => (intro w' hSw; (try dsimp only at hSw); go_simp; try with_reducible rfl)
      try simp only [Act.put, List.setIfInBounds_toArray, List.set_cons_zero, List.set_cons_succ]
      refine wpAnyL_one (i := 9) (by kernel_rfl) rfl rfl (fun K hK => ?_)
      go_simp
      refine (move_any HMd.out OK.out hsn2 hxn).mono ?_
      rintro e w3 ⟨n, y, rfl, hn, hy0, hy1, hnx, hot, hb3⟩
      have h53 := h5d.below hb3 (by omega)
      have hB3 := hBd.trans (hb3.mono (by omega))
      have hO3 := hOd.below hb3
      have hsz3 : w.heap.size ≤ w3.heap.size := by have := hb3.size; omega
      refine hK _ _ (fun _ => h53) ?_
      clear hK K h5d hBd hOd hb3 HMd
      refine wpAnyL_one (i := 10) (by kernel_rfl) rfl rfl (fun K hK => ?_)
      go_simp
      refine hK _ _ (fun _ => h53) ?_
      clear hK K
      refine wpAnyL_take (i := 11) (v := ?v10) rfl (by kernel_rfl) (by kernel_rfl) (by kernel_rfl) (by kernel_rfl) (fun _ _ _ h => h) (Or.inl ⟨by rfl, ?y10⟩) (by assumption) ?r10
      case y10 => (intro w' hSw; (try dsimp only at hSw); go_simp; try with_reducible rfl)
      try simp only [Act.put, List.setIfInBounds_toArray, List.set_cons_zero, List.set_cons_succ]
      refine wpAnyL_take (i := 12) (v := ?v11) rfl (by kernel_rfl) (by kernel_rfl) (by kernel_rfl) (by kernel_rfl) (fun _ _ _ h => h) (Or.inl ⟨by rfl, ?y11⟩) (by assumption) ?r11
      case y11 => (intro w' hSw; (try dsimp only at hSw); go_simp; try with_reducible rfl)
      try simp only [Act.put, List.setIfInBounds_toArray, List.set_cons_zero, List.set_cons_succ]
      refine wpAnyL_one (i := 13) (by kernel_rfl) rfl rfl (fun K hK => ?_)
      go_simp
      refine hK _ _ (fun _ => h53) ?_
      clear hK K
      refine wpAnyL_one (i := 14) (by kernel_rfl) rfl rfl (fun K hK => ?_)
      go_simp
      refine hK _ _ (fun _ => h53) ?_
      clear hK K
      refine wpAnyL_done (by kernel_rfl) ?_ _
      have h54 := h53.set (n : Int)
      have hB4 := hB3.setCell (p := ⟨b, 4, none⟩) hb (.int .i64 (n : Int))
      have hO4 := hO3.setOtherI (p := ⟨b, 4, none⟩) (fun k hk => by have := (hO3.lt k hk).1; simp; omega) (.int .i64 (n : Int))
      have H54 := Lib.hid h54
      have HB4 := Lib.hid hB4
      have HO4 := Lib.hid hO4
      clear h54 hB4 hO4 hO3 hB3
      have hll : l2.length < 1024 := by rw [hl2k.out]; omega
      go_wp2_with (at_builtin; refine wpList_push_i (B := w.heap.size) (l := l2) (y := y) rfl rfl Try.underlying30 info_int rfl rfl (HO4.out.alloc _) (by simp [go_sem]) (by unfold i64; omega) (by omega) (by simp; omega) ?_)
      intro a5 c5 l5 w5 hl5 hO5 hb5
      have hbA := (Below.refl _ _).alloc (B := (w3.setCell ⟨b, 4, none⟩ (.int .i64 (n : Int))).heap.size) (Nat.le_refl _) (.cells #[.int .i64 y] 3)
      have hlb : b < (w3.setCell ⟨b, 4, none⟩ (.int .i64 (n : Int))).heap.size := by simp; omega
      have hlb2 : b < w.heap.size := hbw
      have h55 := (H54.out.below hbA hlb).below hb5 hbw
      have hB5 := (HB4.out.alloc (by simp; omega) (.cells #[.int .i64 y] 3)).trans (hb5.mono (by omega))
      have ho5 : Hid (l5 = m.outsW s (l.take (k + 1))) := by
        unfold Hid
        rw [hl5.out, ho2.out, Mach.take_step hx.out, Mach.outsW_snoc, HSN.out]
        simp only [Int.toNat_natCast]
        rw [hot.out]
      have he5 : Hid ((n : Int) = m.endW s (l.take (k + 1))) := by
        unfold Hid
        rw [Mach.take_step hx.out, Mach.endW_snoc, HSN.out]
        simp only [Int.toNat_natCast]
        rw [hnx.out]
      have h56 : R5 w5 b an cn ao co m (m.endW s (l.take (k + 1))) := by rw [← he5.out]; exact h55
      have hl5' : l5.length ≤ 1024 := by rw [hl5.out]; simp; omega
      clear h55 h53 H54 hbA hb5
      have H56 := Lib.hid h56
      clear h56
      go_wp2
      go_roundw
      case rel => exact ⟨k + 1, a5, c5, l5, by omega, by go_num, rfl, hl5', ho5, hO5, hB5, H56.out⟩
      case measure => simp [intOf]; omega
    · have e : l.take k = l := List.take_of_length_le (by omega)
      have h56 : R5 w1 b an cn ao co m (m.endW s l) := by rw [e] at h5; exact h5
      have ho5 : Hid (l2 = m.outsW s l) := by unfold Hid; rw [ho2.out, e]
      have H56 := Lib.hid h56
      clear e h56 h5
      go_wp2
      go_ret
      exact ⟨a2, c2, l2, rfl, ho5, hO.fresh (Nat.le_refl _), hB, H56.out⟩
end
end Go.Proofs.Ytlgdijgfphedpaa
