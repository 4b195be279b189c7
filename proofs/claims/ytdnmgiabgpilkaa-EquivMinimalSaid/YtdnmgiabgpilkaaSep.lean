/- separated: whether a word of at most k symbols separates two states. Condition: the machine is valid, the states are its own, k is at most 4. -/
import Derived.Test.YtdnmgiabgpilkaaEqv
import Derived.Test.YtdnmgiabgpilkaaValid
import Derived.Test.YtdnmgiabgpilkaaC4
import Derived.Test.YtdnmgiabgpilkaaOrdT
import Derived.Test.YtdnmgiabgpilkaaQuiet
import Derived.IntWalk
namespace Go.Proofs.Ytdnmgiabgpilkaa
open Go.RowKit
namespace Mach
variable (m : Mach)
def sepB : Nat → Nat → Nat → Bool
  | 0, _, _ => false
  | k + 1, s, t => (List.range m.inputs.toNat).any fun a => decide (m.ot s a ≠ m.ot t a) || sepB k (m.nx s a).toNat (m.nx t a).toNat
theorem sepB_iff : ∀ k s t, m.sepB k s t = false ↔ m.eqv k s t
  | 0, _, _ => by simp [sepB, eqv]
  | k + 1, s, t => by
    simp only [sepB, eqv, List.any_eq_false, List.mem_range, Bool.or_eq_true, decide_eq_true_eq, not_or, Decidable.not_not]
    constructor
    · intro h a ha
      exact ⟨(h a ha).1, (sepB_iff k _ _).1 (by simpa using (h a ha).2)⟩
    · intro h a ha
      exact ⟨(h a ha).1, by rw [(sepB_iff k _ _).2 (h a ha).2]; simp⟩
variable {m}
theorem sep_hit {k s t a : Nat} (ha : a < m.inputs.toNat) (h : m.ot s a ≠ m.ot t a ∨ m.sepB k (m.nx s a).toNat (m.nx t a).toNat = true) : m.sepB (k + 1) s t = true := by
  unfold sepB
  rw [List.any_eq_true]
  exact ⟨a, List.mem_range.2 ha, by rcases h with h | h <;> simp [h]⟩
theorem sep_none {k s t : Nat} (h : ∀ a, a < m.inputs.toNat → m.ot s a = m.ot t a ∧ m.sepB k (m.nx s a).toNat (m.nx t a).toNat = false) : m.sepB (k + 1) s t = false := by
  unfold sepB
  rw [List.any_eq_false]
  intro a ha
  have := h a (List.mem_range.1 ha)
  simp [this.1, this.2]
end Mach
theorem ret_bs {a b : Bool} (h : a = b) : Ending.returned (.bool a) = .returned (.bool b) := by rw [h]
/-- What the test of one symbol reads. -/
abbrev S8 (w : World) (bn on bo oo s t b1 o1 c1 l1 b2 o2 c2 l2 b3 o3 c3 l3 b4 o4 c4 l4 : Nat) (x1 x2 : Nat) (y1 y2 : Int) (a : Nat) : Prop :=
  w.cell? ⟨bn, on + s, none⟩ = some (.slice (some ⟨b1, o1, none⟩) l1 c1) ∧ w.cell? ⟨bo, oo + s, none⟩ = some (.slice (some ⟨b2, o2, none⟩) l2 c2) ∧ w.cell? ⟨bn, on + t, none⟩ = some (.slice (some ⟨b3, o3, none⟩) l3 c3) ∧ w.cell? ⟨bo, oo + t, none⟩ = some (.slice (some ⟨b4, o4, none⟩) l4 c4) ∧
  w.cell? ⟨b1, o1 + a, none⟩ = some (.int .i64 (x1 : Int)) ∧ w.cell? ⟨b2, o2 + a, none⟩ = some (.int .i64 y1) ∧ w.cell? ⟨b3, o3 + a, none⟩ = some (.int .i64 (x2 : Int)) ∧ w.cell? ⟨b4, o4 + a, none⟩ = some (.int .i64 y2)
section
variable {M : Nat → Prop} {cn co : Nat} {m : Mach} {bn on bo oo : Nat}

set_option maxRecDepth 100000 in
set_option maxHeartbeats 8000000 in
theorem sep_any (ok : m.Ok) : ∀ (k : Nat), k ≤ 4 → ∀ (w : World) (s t : Nat), Ma M w (some ⟨bn, on, none⟩) cn (some ⟨bo, oo, none⟩) co m → s < m.next.length → t < m.next.length →
    Calls Try.prog 44 #[maV m (some ⟨bn, on, none⟩) cn (some ⟨bo, oo, none⟩) co, .int .i64 (s : Int), .int .i64 (t : Int), .int .i64 (k : Int)] w fun e w' => e = .returned (.bool (m.sepB k s t)) ∧ Below w.heap.size w w' := by
  have OK := Lib.hid ok
  have n1 := ok.n1
  have i0 := ok.i0
  have i1 := ok.i1
  have lo := ok.lo
  clear ok
  intro k
  induction k with
  | zero =>
    intro _ w s t hm hs ht
    have hB0 := (Below.refl w.heap.size w).alloc (Nat.le_refl _) (maO m (some ⟨bn, on, none⟩) cn (some ⟨bo, oo, none⟩) co)
    clear lo
    go_enter Try.func44, Try.ntmps44
    go_wp2
    go_ret
    exact ⟨rfl, hB0⟩
  | succ k ih =>
    intro hk w s t hm hs ht
    have IH := Lib.hid (ih (by omega))
    have hso : s < m.out.length := by omega
    have hto : t < m.out.length := by omega
    have HM := Lib.hid hm
    have hB0 := (Below.refl w.heap.size w).alloc (Nat.le_refl _) (maO m (some ⟨bn, on, none⟩) cn (some ⟨bo, oo, none⟩) co)
    have h40 := c4_new (m := m) (an := some ⟨bn, on, none⟩) (cn := cn) (ao := some ⟨bo, oo, none⟩) (co := co) w
    have hn0 : Hid (∀ a', a' < 0 → m.ot s a' = m.ot t a' ∧ m.sepB k (m.nx s a').toNat (m.nx t a').toNat = false) := fun a' h => by omega
    obtain ⟨z, hzk⟩ : ∃ z : Int, ((k + 1 : Nat) : Int) = z := ⟨_, rfl⟩
    rw [hzk]
    have hz1 : 1 ≤ z := by omega
    have hz4 : z ≤ 4 := by omega
    have hk1 : (z == 0) = false := by simp; omega
    have hwr : Hid (IntKind.i64.wrap (z - 1) = (k : Int)) := by
      have e : IntKind.i64.wrap (z - 1) = z - 1 := IntWalk.i64_in _ (by omega)
      unfold Hid; rw [e]; omega
    clear ih hm lo hzk
    go_enter Try.func44, Try.ntmps44
    go_wp2
    go_loopw [14] (fun i wr => ∃ j : Nat, j ≤ m.inputs.toNat ∧ i = .int .i64 j ∧ Hid (∀ a', a' < j → m.ot s a' = m.ot t a' ∧ m.sepB k (m.nx s a').toNat (m.nx t a').toNat = false) ∧ Below w.heap.size w wr ∧ C4 wr w.heap.size (some ⟨bn, on, none⟩) cn (some ⟨bo, oo, none⟩) co m ∧ w.heap.size < wr.heap.size) (fun i _ => m.inputs.toNat - (intOf i).toNat)
    case atStart => exact ⟨0, by omega, rfl, hn0, hB0, h40, by simp⟩
    case round =>
      clear hn0 hB0 h40
      obtain ⟨j, hj, rfl, hn, hB, h4, hz⟩ := hrel
      obtain ⟨w1, rfl⟩ : ∃ w1 : World, w1 = wr := ⟨_, rfl⟩
      by_cases hlt : j < m.inputs.toNat
      · have hlt' : (j : Int) < m.inputs := by omega
        have hj64 : j < 64 := by omega
        have hm1 := HM.out.below hB
        obtain ⟨b1, o1, c1, l1, b2, o2, c2, l2, x1, y1, e1, e2, e3, e4, hx1, ya, yb, hv1, hv2, p1, p2, p3, p4⟩ := hm1.atS OK.out hs hlt
        obtain ⟨b3, o3, c3, l3, b4, o4, c4, l4, x2, y2, e5, e6, e7, e8, hx2, yc, yd, hv3, hv4, p5, p6, p7, p8⟩ := hm1.atS OK.out ht hlt
        have HM1 := Lib.hid hm1
        clear hm1
        by_cases hy : y1 = y2
        · have hyb : (y1 != y2) = false := by simp [hy]
          have HY := Lib.hid hy
          clear hy
          go_wp2
          refine wp_region_T (fun w' => C4 w' w.heap.size (some ⟨bn, on, none⟩) cn (some ⟨bo, oo, none⟩) co m ∧ S8 w' bn on bo oo s t b1 o1 c1 l1 b2 o2 c2 l2 b3 o3 c3 l3 b4 o4 c4 l4 x1 x2 y1 y2 j) [0, 1, 2, 3, 4, 5, 6, 7, 8, 9, 10, 11, 12, 13, 14, 15, 16, 17, 18, 19, 20, 21, 22, 23, 24, 25, 26, 27, 28, 29, 30, 31, 32, 33, 34, 35, 36] (by kernel_rfl) ?_
          have hSS : C4 w1.drew w.heap.size (some ⟨bn, on, none⟩) cn (some ⟨bo, oo, none⟩) co m ∧ S8 w1.drew bn on bo oo s t b1 o1 c1 l1 b2 o2 c2 l2 b3 o3 c3 l3 b4 o4 c4 l4 x1 x2 y1 y2 j := ⟨h4.drew, by simpa using e1, by simpa using e2, by simpa using e5, by simpa using e6, by simpa using e3, by simpa using e4, by simpa using e7, by simpa using e8⟩
          have hBd := hB.drew
          have hzd : w.heap.size < w1.drew.heap.size := hz
          have HMd := Lib.hid (HM1.out.ext (Ext.drew _ _))
          clear hB h4 hz HM1 e1 e2 e3 e4 e5 e6 e7 e8
          generalize w1.drew = w2 at *
          refine wpAnyT_take (i := 0) (v := ?v1) rfl (by kernel_rfl) (by kernel_rfl) (by kernel_rfl) (by kernel_rfl) (by kernel_rfl) (fun _ _ _ h => h) (Or.inl ⟨by rfl, ?y1⟩) (by assumption) ?r1
          case y1 => (intro w' hSw; (try dsimp only at hSw); go_simp; try with_reducible rfl)
          try simp only [Act.put, List.setIfInBounds_toArray, List.set_cons_zero, List.set_cons_succ]
          refine wpAnyT_take (i := 1) (v := ?v2) rfl (by kernel_rfl) (by kernel_rfl) (by kernel_rfl) (by kernel_rfl) (by kernel_rfl) (fun _ _ _ h => h) (Or.inl ⟨by rfl, ?y2⟩) (by assumption) ?r2
          case y2 => (intro w' hSw; (try dsimp only at hSw); go_simp; try with_reducible rfl)
          try simp only [Act.put, List.setIfInBounds_toArray, List.set_cons_zero, List.set_cons_succ]
          refine wpAnyT_take (i := 2) (v := ?v3) rfl (by kernel_rfl) (by kernel_rfl) (by kernel_rfl) (by kernel_rfl) (by kernel_rfl) (fun _ _ _ h => h) (Or.inl ⟨by rfl, ?y3⟩) (by assumption) ?r3
          case y3 => (intro w' hSw; (try dsimp only at hSw); go_simp; try with_reducible rfl)
          try simp only [Act.put, List.setIfInBounds_toArray, List.set_cons_zero, List.set_cons_succ]
          refine wpAnyT_take (i := 3) (v := ?v4) rfl (by kernel_rfl) (by kernel_rfl) (by kernel_rfl) (by kernel_rfl) (by kernel_rfl) (fun _ _ _ h => h) (Or.inl ⟨by rfl, ?y4⟩) (by assumption) ?r4
          case y4 => (intro w' hSw; (try dsimp only at hSw); go_simp; try with_reducible rfl)
          try simp only [Act.put, List.setIfInBounds_toArray, List.set_cons_zero, List.set_cons_succ]
          refine wpAnyT_take (i := 4) (v := ?v5) rfl (by kernel_rfl) (by kernel_rfl) (by kernel_rfl) (by kernel_rfl) (by kernel_rfl) (fun _ _ _ h => h) (Or.inl ⟨by rfl, ?y5⟩) (by assumption) ?r5
          case y5 => (intro w' hSw; (try dsimp only at hSw); go_simp; try with_reducible rfl)
          try simp only [Act.put, List.setIfInBounds_toArray, List.set_cons_zero, List.set_cons_succ]
          refine wpAnyT_take (i := 5) (v := ?v6) rfl (by kernel_rfl) (by kernel_rfl) (by kernel_rfl) (by kernel_rfl) (by kernel_rfl) (fun _ _ _ h => h) (Or.inl ⟨by rfl, ?y6⟩) (by assumption) ?r6
          case y6 => (intro w' hSw; (try dsimp only at hSw); go_simp; try with_reducible rfl)
          try simp only [Act.put, List.setIfInBounds_toArray, List.set_cons_zero, List.set_cons_succ]
          refine wpAnyT_take (i := 6) (v := ?v7) rfl (by kernel_rfl) (by kernel_rfl) (by kernel_rfl) (by kernel_rfl) (by kernel_rfl) (fun _ _ _ h => h) (Or.inl ⟨by rfl, ?y7⟩) (by assumption) ?r7
          case y7 => (intro w' hSw; (try dsimp only at hSw); go_simp; try with_reducible rfl)
          try simp only [Act.put, List.setIfInBounds_toArray, List.set_cons_zero, List.set_cons_succ]
          refine wpAnyT_take (i := 7) (v := ?v8) rfl (by kernel_rfl) (by kernel_rfl) (by kernel_rfl) (by kernel_rfl) (by kernel_rfl) (fun _ _ _ h => h) (Or.inl ⟨by rfl, ?y8⟩) (by assumption) ?r8
          case y8 => (intro w' hSw; (try dsimp only at hSw); go_simp; try with_reducible rfl)
          try simp only [Act.put, List.setIfInBounds_toArray, List.set_cons_zero, List.set_cons_succ]
          refine wpAnyT_take (i := 8) (v := ?v9) rfl (by kernel_rfl) (by kernel_rfl) (by kernel_rfl) (by kernel_rfl) (by kernel_rfl) (fun _ _ _ h => h) (Or.inl ⟨by rfl, ?y9⟩) (by assumption) ?r9
          case y9 => (intro w' hSw; (try dsimp only at hSw); go_simp; try with_reducible rfl)
          try simp only [Act.put, List.setIfInBounds_toArray, List.set_cons_zero, List.set_cons_succ]
          refine wpAnyT_take (i := 9) (v := ?v10) rfl (by kernel_rfl) (by kernel_rfl) (by kernel_rfl) (by kernel_rfl) (by kernel_rfl) (fun _ _ _ h => h) (Or.inl ⟨by rfl, ?y10⟩) (by assumption) ?r10
          case y10 => (intro w' hSw; (try dsimp only at hSw); go_simp; try with_reducible rfl)
          try simp only [Act.put, List.setIfInBounds_toArray, List.set_cons_zero, List.set_cons_succ]
          refine wpAnyT_take (i := 10) (v := ?v11) rfl (by kernel_rfl) (by kernel_rfl) (by kernel_rfl) (by kernel_rfl) (by kernel_rfl) (fun _ _ _ h => h) (Or.inl ⟨by rfl, ?y11⟩) (by assumption) ?r11
          case y11 => (intro w' hSw; (try dsimp only at hSw); go_simp; try with_reducible rfl)
          try simp only [Act.put, List.setIfInBounds_toArray, List.set_cons_zero, List.set_cons_succ]
          refine wpAnyT_take (i := 11) (v := ?v12) rfl (by kernel_rfl) (by kernel_rfl) (by kernel_rfl) (by kernel_rfl) (by kernel_rfl) (fun _ _ _ h => h) (Or.inl ⟨by rfl, ?y12⟩) (by assumption) ?r12
          case y12 => (intro w' hSw; (try dsimp only at hSw); go_simp; try with_reducible rfl)
          try simp only [Act.put, List.setIfInBounds_toArray, List.set_cons_zero, List.set_cons_succ]
          refine wpAnyT_take (i := 12) (v := ?v13) rfl (by kernel_rfl) (by kernel_rfl) (by kernel_rfl) (by kernel_rfl) (by kernel_rfl) (fun _ _ _ h => h) (Or.inl ⟨by rfl, ?y13⟩) (by assumption) ?r13
          case y13 => (intro w' hSw; (try dsimp only at hSw); go_simp; try with_reducible rfl)
          try simp only [Act.put, List.setIfInBounds_toArray, List.set_cons_zero, List.set_cons_succ]
          refine wpAnyT_take (i := 13) (v := ?v14) rfl (by kernel_rfl) (by kernel_rfl) (by kernel_rfl) (by kernel_rfl) (by kernel_rfl) (fun _ _ _ h => h) (Or.inl ⟨by rfl, ?y14⟩) (by assumption) ?r14
          case y14 => (intro w' hSw; (try dsimp only at hSw); go_simp; try with_reducible rfl)
          try simp only [Act.put, List.setIfInBounds_toArray, List.set_cons_zero, List.set_cons_succ]
          refine wpAnyT_take (i := 14) (v := ?v15) rfl (by kernel_rfl) (by kernel_rfl) (by kernel_rfl) (by kernel_rfl) (by kernel_rfl) (fun _ _ _ h => h) (Or.inl ⟨by rfl, ?y15⟩) (by assumption) ?r15
          case y15 => (intro w' hSw; (try dsimp only at hSw); go_simp; try with_reducible rfl)
          try simp only [Act.put, List.setIfInBounds_toArray, List.set_cons_zero, List.set_cons_succ]
          refine wpAnyT_take (i := 15) (v := ?v16) rfl (by kernel_rfl) (by kernel_rfl) (by kernel_rfl) (by kernel_rfl) (by kernel_rfl) (fun _ _ _ h => h) (Or.inl ⟨by rfl, ?y16⟩) (by assumption) ?r16
          case y16 => (intro w' hSw; (try dsimp only at hSw); go_simp; try with_reducible rfl)
          try simp only [Act.put, List.setIfInBounds_toArray, List.set_cons_zero, List.set_cons_succ]
          refine wpAnyT_take (i := 16) (v := ?v17) rfl (by kernel_rfl) (by kernel_rfl) (by kernel_rfl) (by kernel_rfl) (by kernel_rfl) (fun _ _ _ h => h) (Or.inl ⟨by rfl, ?y17⟩) (by assumption) ?r17
          case y17 => (intro w' hSw; (try dsimp only at hSw); go_simp; try with_reducible rfl)
          try simp only [Act.put, List.setIfInBounds_toArray, List.set_cons_zero, List.set_cons_succ]
          refine wpAnyT_take (i := 17) (v := ?v18) rfl (by kernel_rfl) (by kernel_rfl) (by kernel_rfl) (by kernel_rfl) (by kernel_rfl) (fun _ _ _ h => h) (Or.inl ⟨by rfl, ?y18⟩) (by assumption) ?r18
          case y18 => (intro w' hSw; (try dsimp only at hSw); go_simp; try with_reducible rfl)
          try simp only [Act.put, List.setIfInBounds_toArray, List.set_cons_zero, List.set_cons_succ]
          refine wpAnyT_take (i := 18) (v := ?v19) rfl (by kernel_rfl) (by kernel_rfl) (by kernel_rfl) (by kernel_rfl) (by kernel_rfl) (fun _ _ _ h => h) (Or.inl ⟨by rfl, ?y19⟩) (by assumption) ?r19
          case y19 => (intro w' hSw; (try dsimp only at hSw); go_simp; try with_reducible rfl)
          try simp only [Act.put, List.setIfInBounds_toArray, List.set_cons_zero, List.set_cons_succ]
          refine wpAnyT_take (i := 19) (v := ?v20) rfl (by kernel_rfl) (by kernel_rfl) (by kernel_rfl) (by kernel_rfl) (by kernel_rfl) (fun _ _ _ h => h) (Or.inl ⟨by rfl, ?y20⟩) (by assumption) ?r20
          case y20 => (intro w' hSw; (try dsimp only at hSw); go_simp; try with_reducible rfl)
          try simp only [Act.put, List.setIfInBounds_toArray, List.set_cons_zero, List.set_cons_succ]
          refine wpAnyT_take (i := 20) (v := ?v21) rfl (by kernel_rfl) (by kernel_rfl) (by kernel_rfl) (by kernel_rfl) (by kernel_rfl) (fun _ _ _ h => h) (Or.inl ⟨by rfl, ?y21⟩) (by assumption) ?r21
          case y21 => (intro w' hSw; (try dsimp only at hSw); go_simp; try with_reducible rfl)
          try simp only [Act.put, List.setIfInBounds_toArray, List.set_cons_zero, List.set_cons_succ]
          refine wpAnyT_take (i := 21) (v := ?v22) rfl (by kernel_rfl) (by kernel_rfl) (by kernel_rfl) (by kernel_rfl) (by kernel_rfl) (fun _ _ _ h => h) (Or.inl ⟨by rfl, ?y22⟩) (by assumption) ?r22
          case y22 => (intro w' hSw; (try dsimp only at hSw); go_simp; try with_reducible rfl)
          try simp only [Act.put, List.setIfInBounds_toArray, List.set_cons_zero, List.set_cons_succ]
          refine wpAnyT_take (i := 22) (v := ?v23) rfl (by kernel_rfl) (by kernel_rfl) (by kernel_rfl) (by kernel_rfl) (by kernel_rfl) (fun _ _ _ h => h) (Or.inl ⟨by rfl, ?y23⟩) (by assumption) ?r23
          case y23 => (intro w' hSw; (try dsimp only at hSw); go_simp; try with_reducible rfl)
          try simp only [Act.put, List.setIfInBounds_toArray, List.set_cons_zero, List.set_cons_succ]
          refine wpAnyT_take (i := 23) (v := ?v24) rfl (by kernel_rfl) (by kernel_rfl) (by kernel_rfl) (by kernel_rfl) (by kernel_rfl) (fun _ _ _ h => h) (Or.inl ⟨by rfl, ?y24⟩) (by assumption) ?r24
          case y24 => (intro w' hSw; (try dsimp only at hSw); go_simp; try with_reducible rfl)
          try simp only [Act.put, List.setIfInBounds_toArray, List.set_cons_zero, List.set_cons_succ]
          refine wpAnyT_take (i := 24) (v := ?v25) rfl (by kernel_rfl) (by kernel_rfl) (by kernel_rfl) (by kernel_rfl) (by kernel_rfl) (fun _ _ _ h => h) (Or.inl ⟨by rfl, ?y25⟩) (by assumption) ?r25
          case y25 => (intro w' hSw; (try dsimp only at hSw); go_simp; try with_reducible rfl)
          try simp only [Act.put, List.setIfInBounds_toArray, List.set_cons_zero, List.set_cons_succ]
          refine wpAnyT_take (i := 25) (v := ?v26) rfl (by kernel_rfl) (by kernel_rfl) (by kernel_rfl) (by kernel_rfl) (by kernel_rfl) (fun _ _ _ h => h) (Or.inl ⟨by rfl, ?y26⟩) (by assumption) ?r26
          case y26 => (intro w' hSw; (try dsimp only at hSw); go_simp; try with_reducible rfl)
          try simp only [Act.put, List.setIfInBounds_toArray, List.set_cons_zero, List.set_cons_succ]
          refine wpAnyT_take (i := 26) (v := ?v27) rfl (by kernel_rfl) (by kernel_rfl) (by kernel_rfl) (by kernel_rfl) (by kernel_rfl) (fun _ _ _ h => h) (Or.inl ⟨by rfl, ?y27⟩) (by assumption) ?r27
          case y27 => (intro w' hSw; (try dsimp only at hSw); go_simp; try with_reducible rfl)
          try simp only [Act.put, List.setIfInBounds_toArray, List.set_cons_zero, List.set_cons_succ]
          refine wpAnyT_take (i := 27) (v := ?v28) rfl (by kernel_rfl) (by kernel_rfl) (by kernel_rfl) (by kernel_rfl) (by kernel_rfl) (fun _ _ _ h => h) (Or.inl ⟨by rfl, ?y28⟩) (by assumption) ?r28
          case y28 => (intro w' hSw; (try dsimp only at hSw); go_simp; try with_reducible rfl)
          try simp only [Act.put, List.setIfInBounds_toArray, List.set_cons_zero, List.set_cons_succ]
          refine wpAnyT_take (i := 28) (v := ?v29) rfl (by kernel_rfl) (by kernel_rfl) (by kernel_rfl) (by kernel_rfl) (by kernel_rfl) (fun _ _ _ h => h) (Or.inl ⟨by rfl, ?y29⟩) (by assumption) ?r29
          case y29 => (intro w' hSw; (try dsimp only at hSw); go_simp; try with_reducible rfl)
          try simp only [Act.put, List.setIfInBounds_toArray, List.set_cons_zero, List.set_cons_succ]
          refine wpAnyT_take (i := 29) (v := ?v30) rfl (by kernel_rfl) (by kernel_rfl) (by kernel_rfl) (by kernel_rfl) (by kernel_rfl) (fun _ _ _ h => h) (Or.inl ⟨by rfl, ?y30⟩) (by assumption) ?r30
          case y30 => (intro w' hSw; (try dsimp only at hSw); go_simp; try with_reducible rfl)
          try simp only [Act.put, List.setIfInBounds_toArray, List.set_cons_zero, List.set_cons_succ]
          refine wpAnyT_take (i := 30) (v := ?v31) rfl (by kernel_rfl) (by kernel_rfl) (by kernel_rfl) (by kernel_rfl) (by kernel_rfl) (fun _ _ _ h => h) (Or.inl ⟨by rfl, ?y31⟩) (by assumption) ?r31
          case y31 => (intro w' hSw; (try dsimp only at hSw); go_simp; try with_reducible rfl)
          try simp only [Act.put, List.setIfInBounds_toArray, List.set_cons_zero, List.set_cons_succ]
          refine wpAnyT_take (i := 31) (v := ?v32) rfl (by kernel_rfl) (by kernel_rfl) (by kernel_rfl) (by kernel_rfl) (by kernel_rfl) (fun _ _ _ h => h) (Or.inl ⟨by rfl, ?y32⟩) (by assumption) ?r32
          case y32 => (intro w' hSw; (try dsimp only at hSw); go_simp; try with_reducible rfl)
          try simp only [Act.put, List.setIfInBounds_toArray, List.set_cons_zero, List.set_cons_succ]
          refine wpAnyT_take (i := 32) (v := ?v33) rfl (by kernel_rfl) (by kernel_rfl) (by kernel_rfl) (by kernel_rfl) (by kernel_rfl) (fun _ _ _ h => h) (Or.inl ⟨by rfl, ?y33⟩) (by assumption) ?r33
          case y33 => (intro w' hSw; (try dsimp only at hSw); go_simp; try with_reducible rfl)
          try simp only [Act.put, List.setIfInBounds_toArray, List.set_cons_zero, List.set_cons_succ]
          refine wpAnyT_take (i := 33) (v := ?v34) rfl (by kernel_rfl) (by kernel_rfl) (by kernel_rfl) (by kernel_rfl) (by kernel_rfl) (fun _ _ _ h => h) (Or.inl ⟨by rfl, ?y34⟩) (by assumption) ?r34
          case y34 => (intro w' hSw; (try dsimp only at hSw); go_simp; try with_reducible rfl)
          try simp only [Act.put, List.setIfInBounds_toArray, List.set_cons_zero, List.set_cons_succ]
          refine wpAnyT_take (i := 34) (v := ?v35) rfl (by kernel_rfl) (by kernel_rfl) (by kernel_rfl) (by kernel_rfl) (by kernel_rfl) (fun _ _ _ h => h) (Or.inl ⟨by rfl, ?y35⟩) (by assumption) ?r35
          case y35 => (intro w' hSw; (try dsimp only at hSw); go_simp; try with_reducible rfl)
          try simp only [Act.put, List.setIfInBounds_toArray, List.set_cons_zero, List.set_cons_succ]
          refine wpAnyT_take (i := 35) (v := ?v36) rfl (by kernel_rfl) (by kernel_rfl) (by kernel_rfl) (by kernel_rfl) (by kernel_rfl) (fun _ _ _ h => h) (Or.inl ⟨by rfl, ?y36⟩) (by assumption) ?r36
          case y36 => (intro w' hSw; (try dsimp only at hSw); go_simp; try with_reducible rfl)
          try simp only [Act.put, List.setIfInBounds_toArray, List.set_cons_zero, List.set_cons_succ]
          refine wpAnyT_take (i := 36) (v := ?v37) rfl (by kernel_rfl) (by kernel_rfl) (by kernel_rfl) (by kernel_rfl) (by kernel_rfl) (fun _ _ _ h => h) (Or.inl ⟨by rfl, ?y37⟩) (by assumption) ?r37
          case y37 => (intro w' hSw; (try dsimp only at hSw); go_simp; try with_reducible rfl)
          try simp only [Act.put, List.setIfInBounds_toArray, List.set_cons_zero, List.set_cons_succ]
          by_cases hsb : m.sepB k x1 x2 = true
          · have HSB := Lib.hid hsb
            clear hsb
            refine wpAnyT_late (i := 37) (by kernel_rfl) (by kernel_rfl) rfl rfl (fun K hK => ?_)
            go_simp
            rw [hwr.out]
            refine (IH.out w2 x1 x2 HMd.out hx1 hx2).mono ?_
            rintro e w3 ⟨rfl, hb3⟩
            rw [HSB.out]
            have h43 := hSS.1.below hb3 hzd
            have hB3 := hBd.trans (hb3.mono (by omega))
            have hz3 : w.heap.size < w3.heap.size := by have := hb3.size; omega
            refine hK _ _ ?_
            clear hK K hSS hBd hb3 hzd HMd
            refine wpAnyT_late (i := 38) (by kernel_rfl) (by kernel_rfl) rfl rfl (fun K hK => ?_)
            go_simp
            refine hK _ _ ?_
            clear hK K
            refine wpAnyT_done (by kernel_rfl) ?_ _
            have HF : Hid (m.sepB (k + 1) s t = true) := Mach.sep_hit hlt (.inr (by rw [hv1.out, hv3.out]; simpa using HSB.out))
            go_wp2
            go_ret
            exact ⟨ret_bs HF.out.symm, hB3⟩
          · have HSB : Hid (m.sepB k x1 x2 = false) := by unfold Hid; simpa using hsb
            clear hsb
            refine wpAnyT_late (i := 37) (by kernel_rfl) (by kernel_rfl) rfl rfl (fun K hK => ?_)
            go_simp
            rw [hwr.out]
            refine (IH.out w2 x1 x2 HMd.out hx1 hx2).mono ?_
            rintro e w3 ⟨rfl, hb3⟩
            rw [HSB.out]
            have h43 := hSS.1.below hb3 hzd
            have hB3 := hBd.trans (hb3.mono (by omega))
            have hz3 : w.heap.size < w3.heap.size := by have := hb3.size; omega
            refine hK _ _ ?_
            clear hK K hSS hBd hb3 hzd HMd
            refine wpAnyT_late (i := 38) (by kernel_rfl) (by kernel_rfl) rfl rfl (fun K hK => ?_)
            go_simp
            refine hK _ _ ?_
            clear hK K
            refine wpAnyT_done (by kernel_rfl) ?_ _
            have hn' : Hid (∀ a', a' < j + 1 → m.ot s a' = m.ot t a' ∧ m.sepB k (m.nx s a').toNat (m.nx t a').toNat = false) := by
              intro a' ha'
              by_cases e : a' = j
              · subst e
                exact ⟨by rw [hv2.out, hv4.out, HY.out], by rw [hv1.out, hv3.out]; simpa using HSB.out⟩
              · exact hn.out a' (by omega)
            go_wp2
            go_roundw
            case rel => exact ⟨j + 1, by omega, by go_num, hn', hB3, h43, hz3⟩
            case measure => simp [intOf]; omega
        · have hyb : (y1 != y2) = true := by simp [hy]
          have HF : Hid (m.sepB (k + 1) s t = true) := Mach.sep_hit hlt (.inl (by rw [hv2.out, hv4.out]; exact hy))
          clear hy
          go_wp2
          refine wp_quiet_fast (by kernel_rfl) (by kernel_rfl) ?_
          repeat (first | go_big_quiet_step (fail) | quiet_step (fail))
          refine wpQuiet_nil ?_
          intro _ hw'
          obtain ⟨nq, hw''⟩ := hw'
          subst hw''
          go_wp2
          go_ret
          exact ⟨ret_bs HF.out.symm, bl_drewN hB _⟩
      · have hlt' : ¬ (j : Int) < m.inputs := by omega
        have HF : Hid (m.sepB (k + 1) s t = false) := Mach.sep_none (fun a ha => hn.out a (by omega))
        go_wp2
        go_ret
        exact ⟨ret_bs HF.out.symm, hB⟩
end
end Go.Proofs.Ytdnmgiabgpilkaa
