/- Splits compared; the sizes that are examined. No condition. -/
import Derived.Test.YtlgdijgfphedpaaSrch
namespace Go.Proofs.Ytlgdijgfphedpaa
open Go.RowKit
section
variable {M M' M1 M2 : Nat → Prop} {w : World} {an ao ac a b a1 a2 b1 b2 : Option Addr} {cn co cc c d c1 c2 d1 d2 : Nat}
theorem fal {α : Type} [GR α] {M : Nat → Prop} {w : World} {a : Option Addr} {c : Nat} {l : List α} (h : Sl M w a c l) : Sl (fun _ => False) w a c l := h.anti fun _ _ h => h.elim

set_option maxRecDepth 100000 in
set_option maxHeartbeats 2000000 in
theorem sameS_any {s t : Sp} (h1 : Sl M w a1 c1 s.pre) (h2 : Sl M' w a2 c2 s.suf) (h3 : Sl M1 w b1 d1 t.pre) (h4 : Sl M2 w b2 d2 t.suf) :
    Calls Try.prog 13 #[spV s a1 c1 a2 c2, spV t b1 d1 b2 d2] w fun e w' => e = .returned (.bool (decide (s = t))) ∧ Below w.heap.size w w' := by
  have hl1 := h1.le
  have hl2 := h2.le
  have hl3 := h3.le
  have hl4 := h4.le
  have hB0 := ((Below.refl w.heap.size w).alloc (Nat.le_refl _) (spO s a1 c1 a2 c2)).alloc (by simp) (spO t b1 d1 b2 d2)
  have hx0 : S3 ((w.alloc (spO s a1 c1 a2 c2)).alloc (spO t b1 d1 b2 d2)) w.heap.size a1 c1 a2 c2 s := (s3_new w).below (B := w.heap.size + 1) ((Below.refl _ _).alloc (by simp) _) (by omega)
  have hy0 : S3 ((w.alloc (spO s a1 c1 a2 c2)).alloc (spO t b1 d1 b2 d2)) (w.heap.size + 1) b1 d1 b2 d2 t := by
    have k := s3_new (s := t) (a := b1) (c := d1) (a' := b2) (c' := d2) (w.alloc (spO s a1 c1 a2 c2))
    simpa using k
  have hz0 : w.heap.size + 2 ≤ ((w.alloc (spO s a1 c1 a2 c2)).alloc (spO t b1 d1 b2 d2)).heap.size := by simp
  have HC := same1_any (fal (h1.below hB0)) (fal (h3.below hB0))
  have H2 := Lib.hid (fal (h2.below hB0))
  have H4 := Lib.hid (fal (h4.below hB0))
  have he : decide (s = t) = (decide (s.pre = t.pre) && (decide (s.sym = t.sym) && decide (s.suf = t.suf))) := by
    cases s; cases t; simp only [Sp.mk.injEq, Bool.decide_and]
  rw [he]
  clear h1 h2 h3 h4 he
  by_cases e1 : s.pre = t.pre
  · rw [decide_eq_true e1] at HC ⊢
    have HC := Lib.hid HC
    clear e1
    by_cases e2 : s.sym = t.sym
    · have e2b : (s.sym == t.sym) = true := by simp [e2]
      rw [decide_eq_true e2]
      clear e2
      go_enter Try.func13, Try.ntmps13
      go_wp2_with fail
      generalize (w.alloc (spO s a1 c1 a2 c2)).alloc (spO t b1 d1 b2 d2) = w0 at *
      refine (HC.out).mono ?_
      rintro e w1 ⟨rfl, hD⟩
      have hb1 := blw hD w0.heap.size
      have hB1 := hB0.trans (hb1.mono (by omega))
      have hx1 := hx0.below hb1 (by omega)
      have hy1 := hy0.below hb1 (by omega)
      have HC := Lib.hid (same1_any (H2.out.below hb1) (H4.out.below hb1))
      clear hb1 hB0 hx0 hy0 hD
      go_wp2_with fail
      refine (HC.out).mono ?_
      rintro e w2 ⟨rfl, hD⟩
      have hb2 := blw hD w1.heap.size
      have hz1 : w.heap.size ≤ w1.heap.size := by have := hB1.size; omega
      have hB2 := hB1.trans (hb2.mono hz1)
      go_wp2
      go_ret
      exact ⟨ret_b (by simp), hB2⟩
    · have e2b : (s.sym == t.sym) = false := by simp [e2]
      rw [decide_eq_false e2]
      clear e2
      go_enter Try.func13, Try.ntmps13
      go_wp2_with fail
      generalize (w.alloc (spO s a1 c1 a2 c2)).alloc (spO t b1 d1 b2 d2) = w0 at *
      refine (HC.out).mono ?_
      rintro e w1 ⟨rfl, hD⟩
      have hb1 := blw hD w0.heap.size
      have hB1 := hB0.trans (hb1.mono (by omega))
      have hx1 := hx0.below hb1 (by omega)
      have hy1 := hy0.below hb1 (by omega)
      clear hb1 hB0 hx0 hy0 hD
      go_wp2
      go_ret
      exact ⟨ret_b (by simp), hB1⟩
  · rw [decide_eq_false e1] at HC ⊢
    have HC := Lib.hid HC
    clear e1
    go_enter Try.func13, Try.ntmps13
    go_wp2_with fail
    generalize (w.alloc (spO s a1 c1 a2 c2)).alloc (spO t b1 d1 b2 d2) = w0 at *
    refine (HC.out).mono ?_
    rintro e w1 ⟨rfl, hD⟩
    have hb1 := blw hD w0.heap.size
    have hB1 := hB0.trans (hb1.mono (by omega))
    clear hb1 hB0 hx0 hy0 hD
    go_wp2
    go_ret
    exact ⟨ret_b (by simp), hB1⟩

/-- The statement's own test of sizes. -/
def gr25 (h : Hy) (o : Ob) : Bool := decide (30 < h.m.next.length) || decide (30 < h.m.out.length) || decide (6 < h.m.inputs) || decide (30 < h.acc.length) || decide (300 < o.traces.length) || h.acc.any (fun r => decide (1100 < r.length))
theorem gr25_cases (h : Hy) (o : Ob) : (30 < h.m.next.length ∧ gr25 h o = true) ∨ (¬ 30 < h.m.next.length ∧ 30 < h.m.out.length ∧ gr25 h o = true) ∨ (¬ 30 < h.m.next.length ∧ ¬ 30 < h.m.out.length ∧ 6 < h.m.inputs ∧ gr25 h o = true) ∨
    (¬ 30 < h.m.next.length ∧ ¬ 30 < h.m.out.length ∧ ¬ 6 < h.m.inputs ∧ 30 < h.acc.length ∧ gr25 h o = true) ∨ (¬ 30 < h.m.next.length ∧ ¬ 30 < h.m.out.length ∧ ¬ 6 < h.m.inputs ∧ ¬ 30 < h.acc.length ∧ 300 < o.traces.length ∧ gr25 h o = true) ∨
    (¬ 30 < h.m.next.length ∧ ¬ 30 < h.m.out.length ∧ ¬ 6 < h.m.inputs ∧ ¬ 30 < h.acc.length ∧ ¬ 300 < o.traces.length ∧ gr25 h o = h.acc.any (fun r => decide (1100 < r.length))) := by
  unfold gr25
  by_cases h1 : 30 < h.m.next.length
  · exact .inl ⟨h1, by simp [h1]⟩
  by_cases h2 : 30 < h.m.out.length
  · exact .inr (.inl ⟨h1, h2, by simp [h2]⟩)
  by_cases h3 : 6 < h.m.inputs
  · exact .inr (.inr (.inl ⟨h1, h2, h3, by simp [h3]⟩))
  by_cases h4 : 30 < h.acc.length
  · exact .inr (.inr (.inr (.inl ⟨h1, h2, h3, h4, by simp [h4]⟩)))
  by_cases h5 : 300 < o.traces.length
  · exact .inr (.inr (.inr (.inr (.inl ⟨h1, h2, h3, h4, h5, by simp [h5]⟩))))
  exact .inr (.inr (.inr (.inr (.inr ⟨h1, h2, h3, h4, h5, by simp [h1, h2, h3, h4, h5]⟩))))
theorem any11_at {l : List (List Int)} {k : Nat} {r : List Int} (h : l[k]? = some r) (hr : 1100 < r.length) : l.any (fun r => decide (1100 < r.length)) = true :=
  List.any_eq_true.2 ⟨r, List.mem_of_getElem? h, by simpa using hr⟩
theorem any11_succ {l : List (List Int)} {k : Nat} {r : List Int} (h : l[k]? = some r) (hr : ¬ 1100 < r.length) (hk : (l.take k).any (fun r => decide (1100 < r.length)) = false) : (l.take (k + 1)).any (fun r => decide (1100 < r.length)) = false := by
  rw [List.take_add_one, h]
  simp only [List.any_append, hk, Bool.false_or]
  simpa using hr
theorem any11_all {l : List (List Int)} {k : Nat} (hk : ¬ k < l.length) (h : (l.take k).any (fun r => decide (1100 < r.length)) = false) : l.any (fun r => decide (1100 < r.length)) = false := by
  rwa [List.take_of_length_le (by omega)] at h

set_option maxRecDepth 100000 in
set_option maxHeartbeats 2000000 in
theorem gr25_any {h : Hy} {o : Ob} (hh : Hp M w an cn ao co ac cc h) (ho : Os M' w a c o) :
    Calls Try.prog 8 #[hyV h an cn ao co ac cc, obV o a c] w fun e w' => e = .returned (.bool (gr25 h o)) ∧ Below w.heap.size w w' := by
  have l1 := hh.m.next.le
  have l2 := hh.m.out.le
  have l3 := hh.acc.le
  have l4 := ho.traces.le
  have hB0 := ((Below.refl w.heap.size w).alloc (Nat.le_refl _) (hyO h an cn ao co ac cc)).alloc (by simp) (obO o a c)
  have hx0 : H5 ((w.alloc (hyO h an cn ao co ac cc)).alloc (obO o a c)) w.heap.size an cn ao co ac cc h := (h5_new w).below (B := w.heap.size + 1) ((Below.refl _ _).alloc (by simp) _) (by omega)
  have hy0 : O2 ((w.alloc (hyO h an cn ao co ac cc)).alloc (obO o a c)) (w.heap.size + 1) a c o := by
    have k := o2_new (o := o) (a := a) (c := c) (w.alloc (hyO h an cn ao co ac cc))
    simpa using k
  have HA := Lib.hid (hh.acc.below hB0)
  clear hh ho
  rcases gr25_cases h o with ⟨h1, he⟩ | ⟨h1, h2, he⟩ | ⟨h1, h2, h3, he⟩ | ⟨h1, h2, h3, h4, he⟩ | ⟨h1, h2, h3, h4, h5, he⟩ | ⟨h1, h2, h3, h4, h5, he⟩
  iterate 5
    · have K1 := Lib.hid he
      clear he
      go_enter Try.func8, Try.ntmps8
      go_wp2
      go_ret
      exact ⟨ret_b K1.out.symm, hB0⟩
  have K1 := Lib.hid he
  clear he
  go_enter Try.func8, Try.ntmps8
  go_wp2
  generalize (w.alloc (hyO h an cn ao co ac cc)).alloc (obO o a c) = w0 at *
  go_loop [5] (fun i => ∃ k : Nat, k ≤ h.acc.length ∧ i = .int .i64 k ∧ Hid ((h.acc.take k).any (fun r => decide (1100 < r.length)) = false)) (fun i => h.acc.length - (intOf i).toNat)
  case atStart => exact ⟨0, by omega, rfl, by unfold Hid; simp⟩
  case round =>
    obtain ⟨k, hk, rfl, hE⟩ := hrel
    by_cases hlt : k < h.acc.length
    · obtain ⟨b1, o1, a1, r1, c1, rfl, hc1, hr1, hs1⟩ := HA.out.at_row hlt
      have r1le := hs1.le
      by_cases hg : 1100 < r1.length
      · go_wp2
        go_ret
        exact ⟨ret_b (by rw [K1.out, any11_at hr1.out hg]), hB0⟩
      · go_wp2
        go_round
        case rel => exact ⟨k + 1, by omega, by go_num, any11_succ hr1.out hg hE.out⟩
        case measure => simp [intOf]; omega
    · go_wp2
      go_ret
      exact ⟨ret_b (by rw [K1.out, any11_all hlt hE.out]), hB0⟩
end
end Go.Proofs.Ytlgdijgfphedpaa
